/- How often each number is there: plain. -/
import Derived.Test.YtpgpiljnmhpnhaaInA
namespace Go.Itn
open Go.Gv
/-- The numbers of the first k places, each once, in order, with how often they are there in all. -/
structure IsC (l : List Int) (k : Nat) (out : List (Int × Int)) : Prop where
  pw : out.Pairwise fun p q => p.1 < q.1
  mem : ∀ x, x ∈ out.map (·.1) ↔ x ∈ l.take k
  cnt : ∀ p ∈ out, p.2 = (l.count p.1 : Int)
theorem srt_uniq : ∀ {a b : List (Int × Int)}, a.Pairwise (fun p q => p.1 < q.1) → b.Pairwise (fun p q => p.1 < q.1) → (∀ p, p ∈ a ↔ p ∈ b) → a = b
  | [], [], _, _, _ => rfl
  | [], q :: b, _, _, h => absurd ((h q).2 (.head _)) (by simp)
  | p :: a, [], _, _, h => absurd ((h p).1 (.head _)) (by simp)
  | p :: a, q :: b, ha, hb, h => by
    have ha' := List.pairwise_cons.1 ha
    have hb' := List.pairwise_cons.1 hb
    have e : p = q := by
      rcases List.mem_cons.1 ((h p).1 (.head _)) with e | e
      · exact e
      · rcases List.mem_cons.1 ((h q).2 (.head _)) with e2 | e2
        · exact e2.symm
        · have := hb'.1 p e; have := ha'.1 q e2; omega
    subst e
    congr 1
    refine srt_uniq ha'.2 hb'.2 fun r => ⟨fun hr => ?_, fun hr => ?_⟩
    · rcases List.mem_cons.1 ((h r).1 (.tail _ hr)) with e | e
      · subst e; have := ha'.1 r hr; omega
      · exact e
    · rcases List.mem_cons.1 ((h r).2 (.tail _ hr)) with e | e
      · subst e; have := hb'.1 r hr; omega
      · exact e
theorem IsC.mem' {l : List Int} {k : Nat} {out : List (Int × Int)} (h : IsC l k out) (p : Int × Int) : p ∈ out ↔ p.1 ∈ l.take k ∧ p.2 = (l.count p.1 : Int) := by
  refine ⟨fun hp => ⟨(h.mem p.1).1 (List.mem_map.2 ⟨p, hp, rfl⟩), h.cnt p hp⟩, fun hp => ?_⟩
  obtain ⟨q, hq, e⟩ := List.mem_map.1 ((h.mem p.1).2 hp.1)
  have : q = p := Prod.ext e (by rw [h.cnt q hq, e, hp.2])
  exact this ▸ hq
theorem IsC.uniq {l : List Int} {k : Nat} {a b : List (Int × Int)} (h : IsC l k a) (h2 : IsC l k b) : a = b := srt_uniq h.pw h2.pw fun p => by rw [h.mem' p, h2.mem' p]
theorem IsC.z (l : List Int) : IsC l 0 [] := ⟨.nil, fun x => by simp, fun p hp => by cases hp⟩
section
variable {l : List Int} {out : List (Int × Int)} {i k : Int}
abbrev gK (l : List (Int × Int)) (t : Int) : Int × Int := l.getD t.toNat (0, 0)
theorem gK_mem {out : List (Int × Int)} {t : Int} (h0 : 0 ≤ t) (h1 : t < out.length) : out.getD t.toNat (0, 0) ∈ out := by
  have hlt : t.toNat < out.length := by omega
  simp only [List.getD, List.getElem?_eq_getElem hlt, Option.getD_some]; exact List.getElem_mem hlt
theorem gK_lt {out : List (Int × Int)} (h : out.Pairwise fun p q => p.1 < q.1) {t u : Int} (h0 : 0 ≤ t) (h1 : t < u) (h2 : u < out.length) : (out.getD t.toNat (0, 0)).1 < (out.getD u.toNat (0, 0)).1 := by
  have e1 : t.toNat < out.length := by omega
  have e2 : u.toNat < out.length := by omega
  simp only [List.getD, List.getElem?_eq_getElem e1, List.getElem?_eq_getElem e2, Option.getD_some]
  exact List.pairwise_iff_getElem.1 h _ _ e1 e2 (by omega)
/-- A number that is there already. -/
theorem IsC.old (h : IsC l i.toNat out) (h0 : 0 ≤ i) (hi : i < l.length) (k0 : 0 ≤ k) (hk : k < out.length) (e : (out.getD k.toNat (0, 0)).1 = gI l i) : IsC l (i + 1).toNat out := by
  refine ⟨h.pw, fun x => ?_, h.cnt⟩
  rw [h.mem, take_snoc 0 h0 hi, List.mem_append, List.mem_singleton]
  refine ⟨.inl, fun hx => hx.elim id fun hx => ?_⟩
  rw [← h.mem, hx]
  exact List.mem_map.2 ⟨_, gK_mem k0 hk, e⟩
/-- A number that is new: it goes in at its place. -/
theorem IsC.new (h : IsC l i.toNat out) (h0 : 0 ≤ i) (hi : i < l.length) (k0 : 0 ≤ k) (hk : k ≤ out.length) (hb : ∀ t : Int, 0 ≤ t → t < k → (out.getD t.toNat (0, 0)).1 < gI l i) (ha : k < out.length → gI l i < (out.getD k.toNat (0, 0)).1) :
    IsC l (i + 1).toNat (out.take k.toNat ++ (gI l i, (l.count (gI l i) : Int)) :: out.drop k.toNat) := by
  have hbm : ∀ p ∈ out.take k.toNat, p.1 < gI l i := fun p hp => by
    obtain ⟨n, hn, e⟩ := List.mem_iff_getElem.1 hp
    rw [List.length_take] at hn
    have hn' : n < out.length := by omega
    have := hb n (by omega) (by omega)
    simp only [Int.toNat_natCast, List.getD, List.getElem?_eq_getElem hn', Option.getD_some] at this
    rw [← e, List.getElem_take]; exact this
  have ham : ∀ p ∈ out.drop k.toNat, gI l i < p.1 := fun p hp => by
    obtain ⟨n, hn, e⟩ := List.mem_iff_getElem.1 hp
    rw [List.length_drop] at hn
    have hn' : k.toNat + n < out.length := by omega
    have h1 := ha (by omega)
    have h2 : (out.getD k.toNat (0, 0)).1 ≤ p.1 := by
      rcases Nat.eq_zero_or_pos n with h3 | h3
      · subst h3
        rw [← e, List.getElem_drop]
        simp [List.getD, show k.toNat < out.length by omega]
      · have := gK_lt h.pw (t := k) (u := k + n) k0 (by omega) (by omega)
        rw [show (k + (n : Int)).toNat = k.toNat + n by omega] at this
        rw [show out.getD (k.toNat + n) (0, 0) = p by rw [← e, List.getElem_drop]; simp [List.getD, hn']] at this
        omega
    omega
  have hpw := h.pw
  rw [← List.take_append_drop k.toNat out] at hpw
  have hpw' := List.pairwise_append.1 hpw
  refine ⟨List.pairwise_append.2 ⟨hpw'.1, List.pairwise_cons.2 ⟨ham, hpw'.2.1⟩, fun p hp q hq => ?_⟩, fun x => ?_, fun p hp => ?_⟩
  · rcases List.mem_cons.1 hq with e | hq
    · subst e; exact hbm p hp
    · exact hpw'.2.2 p hp q hq
  · rw [take_snoc 0 h0 hi, List.mem_append, List.mem_singleton, ← h.mem, List.map_append, List.map_cons, List.mem_append, List.mem_cons]
    have : x ∈ out.map (·.1) ↔ x ∈ (out.take k.toNat).map (·.1) ∨ x ∈ (out.drop k.toNat).map (·.1) := by
      conv => lhs; rw [← List.take_append_drop k.toNat out, List.map_append, List.mem_append]
    rw [this]
    show _ ∨ x = gI l i ∨ _ ↔ _ ∨ x = gI l i
    constructor
    · rintro (h | h | h)
      · exact .inl (.inl h)
      · exact .inr h
      · exact .inl (.inr h)
    · rintro ((h | h) | h)
      · exact .inl h
      · exact .inr (.inr h)
      · exact .inr (.inl h)
  · rcases List.mem_append.1 hp with hp | hp
    · exact h.cnt p (List.mem_of_mem_take hp)
    · rcases List.mem_cons.1 hp with e | hp
      · subst e; rfl
      · exact h.cnt p (List.mem_of_mem_drop hp)
theorem IsC.len (h : IsC l i.toNat out) (h0 : 0 ≤ i) : (out.length : Int) ≤ i := by
  have key : ∀ (n : Nat) (a b : List Int), a.length ≤ n → a.Nodup → (∀ x ∈ a, x ∈ b) → a.length ≤ b.length := by
    intro n a
    induction a generalizing n with
    | nil => intro b _ _ _; simp
    | cons x a ih =>
      intro b _ hnd hs
      have hnd' := List.nodup_cons.1 hnd
      have hx := hs x (.head _)
      have := ih _ (b.erase x) (Nat.le_refl _) hnd'.2 fun y hy => (List.mem_erase_of_ne (fun e => hnd'.1 (by rw [← e]; exact hy))).2 (hs y (.tail _ hy))
      rw [List.length_erase_of_mem hx] at this
      have := List.length_pos_of_mem hx
      rw [List.length_cons]; omega
  have hnd : (out.map (·.1)).Nodup := List.pairwise_map.2 (h.pw.imp fun hlt e => by omega)
  have := key _ (out.map (·.1)) (l.take i.toNat) (Nat.le_refl _) hnd fun x hx => (h.mem x).1 hx
  rw [List.length_map, List.length_take] at this
  omega
end
theorem IsC.ex (l : List Int) : ∀ n : Nat, n ≤ l.length → ∃ out, IsC l n out
  | 0, _ => ⟨[], IsC.z l⟩
  | n + 1, hn => by
    obtain ⟨out, h⟩ := IsC.ex l n (by omega)
    have h' : IsC l (n : Int).toNat out := by rwa [Int.toNat_natCast]
    -- the first place that is not below
    have key : ∀ m : Nat, m ≤ out.length → (∀ t : Int, 0 ≤ t → t < m → (out.getD t.toNat (0, 0)).1 < gI l n) ∨ ∃ k : Nat, k < m ∧ (∀ t : Int, 0 ≤ t → t < k → (out.getD t.toNat (0, 0)).1 < gI l n) ∧ ¬ (out.getD (k : Int).toNat (0, 0)).1 < gI l n := by
      intro m
      induction m with
      | zero => intro _; exact .inl fun t h0 h1 => by omega
      | succ m ih =>
        intro hm
        rcases ih (by omega) with h1 | ⟨k, hk, h1, h2⟩
        · rcases Decidable.em ((out.getD (m : Int).toNat (0, 0)).1 < gI l n) with h3 | h3
          · exact .inl fun t h0 ht => (Decidable.em (t = m)).elim (fun e => by subst e; exact h3) (fun e => h1 t h0 (by omega))
          · exact .inr ⟨m, by omega, h1, h3⟩
        · exact .inr ⟨k, by omega, h1, h2⟩
    rcases key out.length (Nat.le_refl _) with h1 | ⟨k, hk, h1, h2⟩
    · have := h'.new (by omega) (by omega) (k := out.length) (by omega) (by omega) h1 (fun h => by omega)
      rw [show ((n : Int) + 1).toNat = n + 1 by omega] at this
      exact ⟨_, this⟩
    · rcases Decidable.em ((out.getD (k : Int).toNat (0, 0)).1 = gI l n) with h3 | h3
      · have := h'.old (by omega) (by omega) (k := k) (by omega) (by omega) h3
        rw [show ((n : Int) + 1).toNat = n + 1 by omega] at this
        exact ⟨_, this⟩
      · have := h'.new (by omega) (by omega) (k := k) (by omega) (by omega) h1 (fun _ => by omega)
        rw [show ((n : Int) + 1).toNat = n + 1 by omega] at this
        exact ⟨_, this⟩
noncomputable def CNT (l : List Int) : List (Int × Int) := Classical.choose (IsC.ex l l.length (Nat.le_refl _))
theorem CNT_is (l : List Int) : IsC l l.length (CNT l) := Classical.choose_spec (IsC.ex l l.length (Nat.le_refl _))
theorem CNT_of {l : List Int} {out : List (Int × Int)} {k : Nat} (h : IsC l k out) (hk : l.length ≤ k) : out = CNT l :=
  IsC.uniq (k := l.length) ⟨h.pw, fun x => by rw [h.mem, List.take_of_length_le hk, List.take_length], h.cnt⟩ (CNT_is l)
theorem CNT_len (l : List Int) : (CNT l).length ≤ l.length := by
  have h := CNT_is l
  have h' : IsC l (l.length : Int).toNat (CNT l) := by rwa [Int.toNat_natCast]
  have := h'.len (by omega)
  omega
theorem CNT_1 (x : Int) : (CNT [x]).length = 1 := by
  have : [(x, (1 : Int))] = CNT [x] := CNT_of (k := 1) ⟨List.pairwise_singleton _ _, fun y => by simp, fun p hp => by rw [List.mem_singleton.1 hp]; simp⟩ (by simp)
  rw [← this]; rfl
/-- What a map of all numbers, told in any order and sorted, comes to. -/
theorem CNT_srt {l : List Int} {ps : List (Int × Int)} (hnd : (ps.map (·.1)).Nodup) (hm : ∀ x, x ∈ ps.map (·.1) ↔ x ∈ l) (hc : ∀ p ∈ ps, p.2 = (l.count p.1 : Int)) {zs : List (Int × Int)} (hp : zs.Perm ps) (hs : zs.Pairwise fun a b => ¬ b.1 < a.1) : zs = CNT l := by
  refine CNT_of (k := l.length) ⟨?_, fun x => ?_, fun p hz => hc p (hp.subset hz)⟩ (Nat.le_refl _)
  · have hnd2 : (zs.map (·.1)).Nodup := (hp.map (·.1)).nodup_iff.2 hnd
    have h2 := List.pairwise_map.1 hnd2
    exact (hs.and h2).imp fun {a b} h => by have := h.1; have := h.2; omega
  · rw [List.take_length, ← hm]; exact (hp.map (·.1)).mem_iff
/-! ### the counts add up -/
theorem sum_cnt : ∀ (l ks : List Int), ks.Nodup → (∀ x ∈ l, x ∈ ks) → (ks.map fun x => (l.count x : Int)).sum = l.length
  | [], ks, _, _ => by
    have key : ∀ ks : List Int, (ks.map fun x => (([] : List Int).count x : Int)).sum = 0 := by
      intro ks
      induction ks with
      | nil => rfl
      | cons x ks ih => rw [List.map_cons, List.sum_cons, ih]; rfl
    exact key ks
  | y :: l, ks, hnd, hm => by
    have ih := sum_cnt l ks hnd (fun x hx => hm x (.tail _ hx))
    have key : ∀ (ks : List Int), ks.Nodup → (ks.map fun x => ((y :: l).count x : Int)).sum = (ks.map fun x => (l.count x : Int)).sum + if y ∈ ks then 1 else 0 := by
      intro ks
      induction ks with
      | nil => intro _; simp
      | cons x ks ih2 =>
        intro hn
        have hn' := List.nodup_cons.1 hn
        rw [List.map_cons, List.sum_cons, List.map_cons, List.sum_cons, ih2 hn'.2, List.count_cons]
        by_cases e : y = x
        · subst e
          rw [if_neg hn'.1]; simp; omega
        · by_cases hk : y ∈ ks
          · simp [e, hk]; omega
          · simp [e, hk]
    rw [key ks hnd, ih, if_pos (hm y (.head _)), List.length_cons]; omega
theorem CNT_sum (l : List Int) : ((CNT l).map (·.2)).sum = (l.length : Int) := by
  have h := CNT_is l
  have hnd : ((CNT l).map (·.1)).Nodup := List.pairwise_map.2 (h.pw.imp fun hlt e => by omega)
  have e : (CNT l).map (·.2) = ((CNT l).map (·.1)).map fun x => (l.count x : Int) := by
    rw [List.map_map]; exact List.map_congr_left fun p hp => h.cnt p hp
  rw [e, sum_cnt l _ hnd fun x hx => (h.mem x).2 (by rwa [List.take_length])]
theorem sum_snoc {out : List (Int × Int)} {i : Int} (h0 : 0 ≤ i) (hi : i < out.length) : ((out.take (i + 1).toNat).map (·.2)).sum = ((out.take i.toNat).map (·.2)).sum + (out.getD i.toNat (0, 0)).2 := by
  rw [take_snoc (0, 0) h0 hi, List.map_append, List.sum_append]; simp
/-! ### the map of often -/
theorem oft_nodup (l : List Int) : ((oft l).map (·.1)).Nodup ∧ (∀ x, x ∈ (oft l).map (·.1) ↔ x ∈ l) ∧ ∀ p ∈ oft l, p.2 = (l.count p.1 : Int) := by
  have hupd : ∀ (kv : KN) (n v : Int), ((updL kv n v).map (·.1) = if n ∈ kv.map (·.1) then kv.map (·.1) else kv.map (·.1) ++ [n]) ∧ (∀ p ∈ updL kv n v, p ∈ kv ∧ p.1 ≠ n ∨ p = (n, v)) ∨ ¬ (kv.map (·.1)).Nodup := by
    intro kv n v
    induction kv with
    | nil => exact .inl ⟨by simp [updL], fun p hp => .inr (by simpa [updL] using hp)⟩
    | cons q kv ih =>
      rcases Decidable.em ((q :: kv).map (·.1)).Nodup with hn | hn
      · refine .inl ?_
        have hn' := List.nodup_cons.1 hn
        by_cases e : q.1 = n
        · have hu : updL (q :: kv) n v = (n, v) :: kv := if_pos e
          rw [hu]
          refine ⟨by rw [if_pos (by simp [e])]; simp [e], fun p hp => ?_⟩
          rcases List.mem_cons.1 hp with h | h
          · exact .inr h
          · refine .inl ⟨.tail _ h, fun e2 => hn'.1 ?_⟩
            show q.1 ∈ _; rw [e, ← e2]; exact List.mem_map.2 ⟨p, h, rfl⟩
        · have hu : updL (q :: kv) n v = q :: updL kv n v := if_neg e
          rw [hu]
          rcases ih with ih | ih
          · refine ⟨?_, fun p hp => ?_⟩
            · rw [List.map_cons, ih.1, List.map_cons]
              have : (n ∈ q.1 :: kv.map (·.1)) = (n ∈ kv.map (·.1)) := by simp [Ne.symm e]
              by_cases h : n ∈ kv.map (·.1)
              · rw [if_pos h, if_pos (this ▸ h)]
              · rw [if_neg h, if_neg (by rw [this]; exact h)]; rfl
            · rcases List.mem_cons.1 hp with h | h
              · exact .inl ⟨h ▸ .head _, h ▸ e⟩
              · rcases ih.2 p h with h | h
                · exact .inl ⟨.tail _ h.1, h.2⟩
                · exact .inr h
          · exact absurd hn'.2 ih
      · exact .inr hn
  have key : ∀ k : Nat, k ≤ l.length → ((oft (l.take k)).map (·.1)).Nodup ∧ (∀ x, x ∈ (oft (l.take k)).map (·.1) ↔ x ∈ l.take k) ∧ ∀ p ∈ oft (l.take k), p.2 = ((l.take k).count p.1 : Int) := by
    intro k
    induction k with
    | zero => intro _; simp [oft]
    | succ k ih =>
      intro hk
      obtain ⟨h1, h2, h3⟩ := ih (by omega)
      have e : l.take (k + 1) = l.take k ++ [l.getD k 0] := by
        have := take_snoc (l := l) (j := (k : Int)) 0 (by omega) (by omega)
        rwa [show ((k : Int) + 1).toNat = k + 1 by omega, Int.toNat_natCast] at this
      rw [e, oft_snoc]
      obtain ⟨n, hn⟩ : ∃ n, n = l.getD k 0 := ⟨_, rfl⟩
      rw [← hn]
      rcases hupd (oft (l.take k)) n ((lookL (oft (l.take k)) n).getD 0 + 1) with ⟨u1, u2⟩ | u
      · refine ⟨?_, fun x => ?_, fun p hp => ?_⟩
        · rw [u1]; split
          · exact h1
          · next hne => exact List.nodup_append.2 ⟨h1, by simp, fun a ha b hb => by simp at hb; subst hb; exact fun e => hne (e ▸ ha)⟩
        · rw [u1, List.mem_append, ← h2 x, List.mem_singleton]
          split
          · next hin => exact ⟨.inl, fun h => h.elim id fun h => h ▸ hin⟩
          · rw [List.mem_append, List.mem_singleton]
        · rw [List.count_append, List.count_singleton]
          rcases u2 p hp with ⟨h, hne⟩ | h
          · rw [h3 p h]; rw [show (n == p.1) = false by simpa using Ne.symm hne]; simp
          · rw [h]; simp only; rw [oft_count]; simp
      · exact absurd h1 u
  have := key l.length (Nat.le_refl _)
  rwa [List.take_length] at this
theorem nd_len : ∀ {a b : List Int}, a.Nodup → (∀ x ∈ a, x ∈ b) → a.length ≤ b.length
  | [], b, _, _ => by simp
  | x :: a, b, hnd, hs => by
    have hnd' := List.nodup_cons.1 hnd
    have hx := hs x (.head _)
    have := nd_len (b := b.erase x) hnd'.2 fun y hy => (List.mem_erase_of_ne (fun e => hnd'.1 (by rw [← e]; exact hy))).2 (hs y (.tail _ hy))
    rw [List.length_erase_of_mem hx] at this
    have := List.length_pos_of_mem hx
    rw [List.length_cons]; omega
theorem oft_len (l : List Int) : (oft l).length ≤ l.length := by
  have h := oft_nodup l
  have := nd_len h.1 fun x hx => (h.2.1 x).1 hx
  rwa [List.length_map] at this
end Go.Itn
