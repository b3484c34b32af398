/- Tally: labels, items, counts; plain. -/
import Derived.Test.YtigbphaimbhgjaaGreatMg5
namespace Go.Gv
open Go
abbrev Lb := Int × Int
abbrev Itm := Int × Lb × Bool × Ln
def eLb : El Lb := ⟨2, fun x => [.int .i64 x.1, .int .u64 x.2], fun _ => rfl, fun _ u h => by simp at h; rcases h with rfl | rfl <;> rfl⟩
def eIt : El Itm := ⟨6, fun x => [.int .i64 x.1, .int .i64 x.2.1.1, .int .u64 x.2.1.2, .bool x.2.2.1, .string x.2.2.2.1, .bool x.2.2.2.2], fun _ => rfl, fun _ u h => by simp at h; rcases h with rfl | rfl | rfl | rfl | rfl | rfl <;> rfl⟩
def eCt : El (Lb × Int) := ⟨3, fun x => [.int .i64 x.1.1, .int .u64 x.1.2, .int .i64 x.2], fun _ => rfl, fun _ u h => by simp at h; rcases h with rfl | rfl | rfl <;> rfl⟩
end Go.Gv
namespace Go.Tly
open Go Go.Gv
abbrev dI : Itm := (0, (0, 0), false, (ByteArray.empty, false))
/-! ### the order of labels -/
def LTL (a b : Lb) : Prop := a.1 < b.1 ∨ (a.1 = b.1 ∧ a.2 < b.2)
instance (a b : Lb) : Decidable (LTL a b) := by unfold LTL; exact inferInstance
def LO (a b : Lb) : Int := if LTL a b then -1 else if a = b then 0 else 1
theorem lo_is (a b : Lb) : (LTL a b ∧ ¬ a = b ∧ ¬ LTL b a ∧ LO a b = -1) ∨ (¬ LTL a b ∧ a = b ∧ ¬ LTL b a ∧ LO a b = 0) ∨ (¬ LTL a b ∧ ¬ a = b ∧ LTL b a ∧ LO a b = 1) := by
  unfold LO
  have e : a = b ↔ (a.1 = b.1 ∧ a.2 = b.2) := Prod.ext_iff
  by_cases h : LTL a b
  · rw [if_pos h]; left; unfold LTL at h ⊢; rw [e]; omega
  · rw [if_neg h]; right
    by_cases h2 : a = b
    · rw [if_pos h2]; left; exact ⟨h, h2, by rw [e] at h2; unfold LTL; omega, rfl⟩
    · rw [if_neg h2]; right; refine ⟨h, h2, ?_, rfl⟩; rw [e] at h2; unfold LTL at h ⊢; omega
theorem ltl_trans {a b c : Lb} (h : LTL a b) (h2 : LTL b c) : LTL a c := by unfold LTL at *; omega
theorem ltl_ne {a b : Lb} (h : LTL a b) : a ≠ b := fun e => by subst e; unfold LTL at h; omega
theorem lo_cmp (a b : Lb) : Cm.ORL [Cm.CMPI a.1 b.1, Cm.CMPI a.2 b.2] = LO a b := by
  have h1 := Cm.orl2 (Cm.CMPI a.1 b.1) (Cm.CMPI a.2 b.2)
  have h2 := Cm.cmpi_is a.1 b.1
  have h3 := Cm.cmpi_is a.2 b.2
  have h4 := lo_is a b
  have e : a = b ↔ (a.1 = b.1 ∧ a.2 = b.2) := Prod.ext_iff
  rw [e] at h4
  unfold LTL at h4
  omega
/-! ### how many lines a label has -/
def HIT (a : Lb) (x : Itm) : Prop := x.2.2.1 = false ∧ x.2.1 = a
instance (a : Lb) (x : Itm) : Decidable (HIT a x) := by unfold HIT; exact inferInstance
def LNS : List Itm → Lb → Int
  | [], _ => 0
  | x :: l, a => (if HIT a x then 1 else 0) + LNS l a
theorem LNS_app (l m : List Itm) (a : Lb) : LNS (l ++ m) a = LNS l a + LNS m a := by
  induction l with
  | nil => simp [LNS]
  | cons x l ih => rw [List.cons_append, LNS, LNS, ih]; omega
theorem LNS_at {l : List Itm} {i : Int} {a : Lb} (h0 : 0 ≤ i) (h1 : i < l.length) : LNS (l.take (i + 1).toNat) a = LNS (l.take i.toNat) a + (if HIT a (l.getD i.toNat dI) then 1 else 0) := by
  rw [Num.take_more dI h0 h1, LNS_app]; simp [LNS]
theorem LNS_bd (l : List Itm) (a : Lb) : 0 ≤ LNS l a ∧ LNS l a ≤ l.length := by
  induction l with
  | nil => exact ⟨Int.le_refl _, Int.le_refl _⟩
  | cons x l ih => rw [LNS, List.length_cons]; split <;> omega
/-! ### a map of them -/
def BYS (kv : List (Lb × Int)) (x : Itm) : List (Lb × Int) := if x.2.2.1 then kv else updL kv x.2.1 ((lookL kv x.2.1).getD 0 + 1)
def BY (l : List Itm) : List (Lb × Int) := l.foldl BYS []
theorem BY_at {l : List Itm} {i : Int} (h0 : 0 ≤ i) (h1 : i < l.length) : BY (l.take (i + 1).toNat) = BYS (BY (l.take i.toNat)) (l.getD i.toNat dI) := by
  unfold BY
  rw [Num.take_more dI h0 h1, List.foldl_append]; rfl
theorem updL_keys (l : List (Lb × Int)) (k : Lb) (v : Int) : (updL l k v).map (·.1) = if k ∈ l.map (·.1) then l.map (·.1) else l.map (·.1) ++ [k] := by
  induction l with
  | nil => simp [updL]
  | cons p l ih =>
    unfold updL
    by_cases h : p.1 = k
    · subst h; simp
    · rw [if_neg h, List.map_cons, ih, List.map_cons]
      have : (k ∈ p.1 :: l.map (·.1)) ↔ k ∈ l.map (·.1) := by rw [List.mem_cons]; exact ⟨fun e => e.resolve_left fun e => h e.symm, .inr⟩
      by_cases h2 : k ∈ l.map (·.1)
      · rw [if_pos h2, if_pos (this.2 h2)]
      · rw [if_neg h2, if_neg fun e => h2 (this.1 e)]; rfl
theorem look_none {l : List (Lb × Int)} {k : Lb} : lookL l k = none ↔ k ∉ l.map (·.1) := by
  induction l with
  | nil => simp [lookL]
  | cons p l ih =>
    unfold lookL
    by_cases h : p.1 = k
    · rw [if_pos h]; simp [h]
    · rw [if_neg h, ih, List.map_cons, List.mem_cons]
      exact ⟨fun e1 e2 => e2.elim (fun e => h e.symm) e1, fun e1 e2 => e1 (.inr e2)⟩
theorem BY_is (l : List Itm) : ((BY l).map (·.1)).Nodup ∧ (∀ a, (lookL (BY l) a).getD 0 = LNS l a) ∧ (∀ a, a ∈ (BY l).map (·.1) ↔ 0 < LNS l a) ∧ (BY l).length ≤ l.length := by
  have : ∀ n : Nat, n ≤ l.length → ((BY (l.take n)).map (·.1)).Nodup ∧ (∀ a, (lookL (BY (l.take n)) a).getD 0 = LNS (l.take n) a) ∧ (∀ a, a ∈ (BY (l.take n)).map (·.1) ↔ 0 < LNS (l.take n) a) ∧ (BY (l.take n)).length ≤ n := by
    intro n
    induction n with
    | zero => intro _; exact ⟨List.nodup_nil, fun a => rfl, fun a => by simp [BY, LNS], Nat.le_refl _⟩
    | succ n ih =>
      intro hn
      obtain ⟨h1, h2, h3, h4⟩ := ih (by omega)
      have e := BY_at (l := l) (i := (n : Int)) (by omega) (by omega)
      have e2 := fun a => LNS_at (l := l) (i := (n : Int)) (a := a) (by omega) (by omega)
      rw [show ((n : Int) + 1).toNat = n + 1 by omega, Int.toNat_natCast] at e e2
      generalize l.getD n dI = x at e e2
      rw [e]
      unfold BYS
      have hpos := fun a => (LNS_bd (l.take n) a).1
      by_cases hx : x.2.2.1 = true
      · rw [if_pos hx]
        have e3 : ∀ a, LNS (l.take (n + 1)) a = LNS (l.take n) a := fun a => by rw [e2, if_neg fun h => by rw [HIT, hx] at h; cases h.1]; omega
        exact ⟨h1, fun a => by rw [h2, e3], fun a => by rw [h3, e3], by omega⟩
      · rw [if_neg hx]
        have hx : x.2.2.1 = false := by simpa using hx
        have e3 : ∀ a, LNS (l.take (n + 1)) a = LNS (l.take n) a + (if x.2.1 = a then 1 else 0) := fun a => by
          rw [e2]; congr 1
          by_cases h : x.2.1 = a
          · rw [if_pos h, if_pos ⟨hx, h⟩]
          · rw [if_neg h, if_neg fun h2 => h h2.2]
        refine ⟨?_, fun a => ?_, fun a => ?_, ?_⟩
        · rw [updL_keys]
          split
          · exact h1
          · rename_i hm
            exact List.nodup_append.2 ⟨h1, by simp, fun a ha b hb => by simp at hb; subst hb; exact fun e => hm (e ▸ ha)⟩
        · rw [lookL_upd, e3]
          by_cases h : x.2.1 = a
          · subst h; rw [if_pos rfl, if_pos rfl, Option.getD_some, h2]
          · rw [if_neg h, if_neg h, h2]; omega
        · rw [updL_keys, e3]
          have := h3 a
          have hp := hpos a
          by_cases h : x.2.1 = a
          · subst h
            rw [if_pos rfl]
            split
            · rename_i hm; exact ⟨fun _ => by omega, fun _ => hm⟩
            · exact ⟨fun _ => by omega, fun _ => by simp⟩
          · rw [if_neg h]
            split
            · rw [this]; omega
            · rw [List.mem_append, this, List.mem_singleton]; constructor
              · rintro (h5 | h5)
                · omega
                · exact absurd h5.symm h
              · intro h5; left; omega
        · have := congrArg List.length (updL_keys (BY (l.take n)) x.2.1 ((lookL (BY (l.take n)) x.2.1).getD 0 + 1))
          rw [List.length_map] at this
          split at this <;> simp at this <;> omega
  have h := this l.length (Nat.le_refl _)
  rwa [List.take_length] at h
/-! ### the labels in order -/
def INS (a : Lb) : List Lb → List Lb
  | [] => [a]
  | b :: r => if LTL b a then b :: INS a r else if b = a then b :: r else a :: b :: r
def LBS (l : List Itm) : List Lb := l.foldl (fun s x => if x.2.2.1 then s else INS x.2.1 s) []
abbrev Asc (l : List Lb) : Prop := l.Pairwise LTL
theorem INS_mem (a b : Lb) (l : List Lb) : b ∈ INS a l ↔ b = a ∨ b ∈ l := by
  induction l with
  | nil => simp [INS]
  | cons c r ih =>
    unfold INS
    split
    · rw [List.mem_cons, ih, List.mem_cons]; exact ⟨fun h => by rcases h with h | h | h <;> simp [h], fun h => by rcases h with h | h | h <;> simp [h]⟩
    · split
      · rename_i h; rw [List.mem_cons]; constructor
        · exact fun h => .inr h
        · rintro (rfl | h2)
          · exact .inl h.symm
          · exact h2
      · rw [List.mem_cons]
theorem INS_asc (a : Lb) {l : List Lb} (h : Asc l) : Asc (INS a l) := by
  induction l with
  | nil => exact List.pairwise_singleton _ _
  | cons c r ih =>
    have h' := List.pairwise_cons.1 h
    unfold INS
    split
    · rename_i hc
      exact List.pairwise_cons.2 ⟨fun b hb => by rcases (INS_mem a b r).1 hb with rfl | hb; exact hc; exact h'.1 b hb, ih h'.2⟩
    · split
      · exact h
      · rename_i h1 h2
        have hac : LTL a c := by have := lo_is c a; have e : c = a ↔ _ := Prod.ext_iff; rcases this with h | h | h; exact absurd h.1 h1; exact absurd h.2.1 h2; exact h.2.2.1
        exact List.pairwise_cons.2 ⟨fun b hb => by rcases List.mem_cons.1 hb with rfl | hb; exact hac; exact ltl_trans hac (h'.1 b hb), h⟩
theorem LBS_at {l : List Itm} {i : Int} (h0 : 0 ≤ i) (h1 : i < l.length) : LBS (l.take (i + 1).toNat) = if (l.getD i.toNat dI).2.2.1 then LBS (l.take i.toNat) else INS (l.getD i.toNat dI).2.1 (LBS (l.take i.toNat)) := by
  unfold LBS
  rw [Num.take_more dI h0 h1, List.foldl_append]; rfl
theorem LBS_is (l : List Itm) : Asc (LBS l) ∧ ∀ a, a ∈ LBS l ↔ 0 < LNS l a := by
  have : ∀ n : Nat, n ≤ l.length → Asc (LBS (l.take n)) ∧ ∀ a, a ∈ LBS (l.take n) ↔ 0 < LNS (l.take n) a := by
    intro n
    induction n with
    | zero => intro _; exact ⟨List.Pairwise.nil, fun a => by simp [LBS, LNS]⟩
    | succ n ih =>
      intro hn
      obtain ⟨h1, h2⟩ := ih (by omega)
      have e := LBS_at (l := l) (i := (n : Int)) (by omega) (by omega)
      have e2 := fun a => LNS_at (l := l) (i := (n : Int)) (a := a) (by omega) (by omega)
      rw [show ((n : Int) + 1).toNat = n + 1 by omega, Int.toNat_natCast] at e e2
      generalize l.getD n dI = x at e e2
      rw [e]
      have hpos := fun a => (LNS_bd (l.take n) a).1
      by_cases hx : x.2.2.1 = true
      · rw [if_pos hx]
        exact ⟨h1, fun a => by rw [h2, e2, if_neg fun h => by rw [HIT, hx] at h; cases h.1]; omega⟩
      · rw [if_neg hx]
        have hx : x.2.2.1 = false := by simpa using hx
        refine ⟨INS_asc _ h1, fun a => ?_⟩
        rw [INS_mem, h2, e2]
        have hp := hpos a
        by_cases h : x.2.1 = a
        · rw [if_pos ⟨hx, h⟩]; exact ⟨fun _ => by omega, fun _ => .inl h.symm⟩
        · rw [if_neg fun h3 => h h3.2]; exact ⟨fun h5 => by rcases h5 with h5 | h5; exact absurd h5.symm h; omega, fun h5 => .inr (by omega)⟩
  have h := this l.length (Nat.le_refl _)
  rwa [List.take_length] at h
theorem asc_uniq : ∀ {l m : List Lb}, Asc l → Asc m → (∀ a, a ∈ l ↔ a ∈ m) → l = m
  | [], [], _, _, _ => rfl
  | [], b :: m, _, _, h => by have := (h b).2 (.head _); cases this
  | a :: l, [], _, _, h => by have := (h a).1 (.head _); cases this
  | a :: l, b :: m, hl, hm, h => by
    have hl' := List.pairwise_cons.1 hl
    have hm' := List.pairwise_cons.1 hm
    have e : a = b := by
      rcases List.mem_cons.1 ((h a).1 (.head _)) with e | h1
      · exact e
      · rcases List.mem_cons.1 ((h b).2 (.head _)) with e | h2
        · exact e.symm
        · have := hm'.1 a h1; have := hl'.1 b h2; unfold LTL at *; omega
    subst e
    refine congrArg (a :: ·) (asc_uniq hl'.2 hm'.2 fun c => ?_)
    have := h c
    rw [List.mem_cons, List.mem_cons] at this
    refine ⟨fun hc => ?_, fun hc => ?_⟩
    · exact (this.1 (.inr hc)).resolve_left fun e => ltl_ne (hl'.1 c hc) e.symm
    · exact (this.2 (.inr hc)).resolve_left fun e => ltl_ne (hm'.1 c hc) e.symm
/-- What a sort of the map's keys is. -/
theorem sorted_is {l : List Itm} {ys : List Lb} (hp : ys.Perm ((BY l).map (·.1))) (hs : ys.Pairwise fun a b => ¬ LTL b a) : ys = LBS l := by
  have hb := BY_is l
  have hnd : ys.Nodup := hp.nodup_iff.2 hb.1
  have hasc : Asc ys := by
    refine (List.Pairwise.and hs hnd).imp fun {a b} h => ?_
    have := lo_is a b
    rcases this with h1 | h1 | h1
    · exact h1.1
    · exact absurd h1.2.1 h.2
    · exact absurd h1.2.2.1 h.1
  exact asc_uniq hasc (LBS_is l).1 fun a => by rw [hp.mem_iff, hb.2.2.1, (LBS_is l).2]
def CTS (l : List Itm) : List (Lb × Int) := (LBS l).map fun a => (a, LNS l a)
/-! ### the sum of all -/
def FREE (l : List Itm) : Int := ((l.filter fun x => !x.2.2.1).length : Int)
theorem FREE_at {l : List Itm} {i : Int} (h0 : 0 ≤ i) (h1 : i < l.length) : FREE (l.take (i + 1).toNat) = FREE (l.take i.toNat) + (if (l.getD i.toNat dI).2.2.1 then 0 else 1) := by
  unfold FREE
  rw [Num.take_more dI h0 h1, List.filter_append, List.length_append]
  generalize l.getD i.toNat dI = x
  cases h : x.2.2.1 <;> simp [h]
theorem sum_hit {x : Itm} (hx : x.2.2.1 = false) : ∀ {s : List Lb}, s.Nodup → x.2.1 ∈ s → (s.map fun a => (if HIT a x then (1 : Int) else 0)).sum = 1
  | [], _, h => by cases h
  | a :: s, hn, h => by
    have hn' := List.nodup_cons.1 hn
    rw [List.map_cons, List.sum_cons]
    by_cases e : x.2.1 = a
    · rw [if_pos ⟨hx, e⟩]
      have : ∀ (t : List Lb), a ∉ t → (t.map fun b => (if HIT b x then (1 : Int) else 0)).sum = 0 := by
        intro t
        induction t with
        | nil => intro _; rfl
        | cons b t ih =>
          intro hb
          rw [List.map_cons, List.sum_cons, ih fun h => hb (.tail _ h), if_neg fun h2 => hb (by rw [← e, h2.2]; exact .head _)]; rfl
      rw [this s hn'.1]; rfl
    · rw [if_neg fun h2 => e h2.2, sum_hit hx hn'.2 ((List.mem_cons.1 h).resolve_left e)]; rfl
theorem sum_free {s : List Lb} (hn : s.Nodup) : ∀ (l : List Itm), (∀ x ∈ l, x.2.2.1 = false → x.2.1 ∈ s) → (s.map fun a => LNS l a).sum = FREE l
  | [], _ => by
    have : ∀ t : List Lb, (t.map fun a => LNS [] a).sum = 0 := by intro t; induction t with | nil => rfl | cons b t ih => rw [List.map_cons, List.sum_cons, ih]; rfl
    rw [this]; rfl
  | x :: l, h => by
    have ih := sum_free hn l fun y hy => h y (.tail _ hy)
    have split : ∀ t : List Lb, (t.map fun a => LNS (x :: l) a).sum = (t.map fun a => (if HIT a x then (1 : Int) else 0)).sum + (t.map fun a => LNS l a).sum := by
      intro t
      induction t with
      | nil => rfl
      | cons b t ih => rw [List.map_cons, List.map_cons, List.map_cons, List.sum_cons, List.sum_cons, List.sum_cons, ih, LNS]; omega
    rw [split, ih]
    unfold FREE
    cases hx : x.2.2.1
    · rw [sum_hit hx hn (h x (.head _) hx), List.filter_cons, hx]; simp; omega
    · have : ∀ t : List Lb, (t.map fun a => (if HIT a x then (1 : Int) else 0)).sum = 0 := by intro t; induction t with | nil => rfl | cons b t ih => rw [List.map_cons, List.sum_cons, ih, if_neg fun h2 => by rw [HIT, hx] at h2; cases h2.1]; rfl
      rw [this, List.filter_cons, hx]; simp
theorem CTS_sum (l : List Itm) : ((CTS l).map (·.2)).sum = FREE l := by
  unfold CTS
  rw [List.map_map]
  have hl := LBS_is l
  refine sum_free ((hl.1.imp ltl_ne)) l fun x hx hf => (hl.2 _).2 ?_
  have : ∀ (l : List Itm), x ∈ l → 0 < LNS l x.2.1 := by
    intro l
    induction l with
    | nil => intro h; cases h
    | cons y l ih =>
      intro h
      rw [LNS]
      have := (LNS_bd l x.2.1).1
      rcases List.mem_cons.1 h with rfl | h
      · rw [if_pos ⟨hf, rfl⟩]; omega
      · have := ih h; split <;> omega
  exact this l hx
/-! ### who may read -/
def HAS (a : Lb) (c : Int) : Prop := 0 ≤ c ∧ c ≤ 63 ∧ (a.2.fdiv (2 ^ (min c.toNat IntKind.u64.bits))) % 2 = 1
instance (a : Lb) (c : Int) : Decidable (HAS a c) := by unfold HAS; exact inferInstance
def BEL (a b : Lb) : Prop := a.1 ≤ b.1 ∧ ∀ c : Nat, c < 64 → ¬ (HAS a c ∧ ¬ HAS b c)
instance (a b : Lb) : Decidable (BEL a b) := by unfold BEL; exact inferInstance
def CUTL (l : List Itm) (o : Lb) : List Itm := l.filter fun x => decide (BEL x.2.1 o)
theorem CUTL_at {l : List Itm} {i : Int} {o : Lb} (h0 : 0 ≤ i) (h1 : i < l.length) : CUTL (l.take (i + 1).toNat) o = if BEL (l.getD i.toNat dI).2.1 o then CUTL (l.take i.toNat) o ++ [l.getD i.toNat dI] else CUTL (l.take i.toNat) o := by
  unfold CUTL
  rw [Num.take_more dI h0 h1, List.filter_append]
  generalize l.getD i.toNat dI = x
  by_cases h : BEL x.2.1 o
  · rw [if_pos h]; simp [h]
  · rw [if_neg h]; simp [h]
theorem LNS_cut {a o : Lb} (h : BEL a o) : ∀ l : List Itm, LNS (CUTL l o) a = LNS l a
  | [] => rfl
  | x :: l => by
    have ih := LNS_cut h l
    unfold CUTL at ih ⊢
    rw [LNS, List.filter_cons]
    by_cases hx : BEL x.2.1 o
    · rw [if_pos (by simpa using hx), LNS, ih]
    · rw [if_neg (by simpa using hx), ih, if_neg fun h2 : HIT a x => hx (h2.2.symm ▸ h)]; omega
end Go.Tly
namespace Go.Tly
open Go Go.Gv
theorem fd_nn {a : Int} (h : 0 ≤ a) (k : Nat) : 0 ≤ a.fdiv (2 ^ k) := Int.fdiv_nonneg h (Int.le_of_lt (Int.pow_pos (by decide)))
theorem all_up {P : Int → Prop} {c : Int} (h0 : 0 ≤ c) (q : ∀ t : Nat, t < c.toNat → ¬ P t) (h : ¬ P c) : ∀ t : Nat, t < (c + 1).toNat → ¬ P t := fun t ht => by
  rcases Nat.lt_or_ge t c.toNat with h2 | h2
  · exact q t h2
  · rwa [show (t : Int) = c by omega]
theorem bel_no {a b : Lb} {c : Int} (h0 : 0 ≤ c) (h1 : c < 64) (ha : HAS a c) (hb : ¬ HAS b c) : ¬ BEL a b := fun h => h.2 c.toNat (by omega) (by rw [Int.toNat_of_nonneg h0]; exact ⟨ha, hb⟩)
theorem bel_yes {a b : Lb} {c : Int} (h : a.1 ≤ b.1) (hc : 64 ≤ c) (q : ∀ t : Nat, t < c.toNat → ¬ (HAS a t ∧ ¬ HAS b t)) : BEL a b := ⟨h, fun t ht => q t (by omega)⟩
theorem lns_yes {l : List Itm} {i n : Int} {a : Lb} (h0 : 0 ≤ i) (h1 : i < l.length) (q : n = LNS (l.take i.toNat) a) (ha : (l.getD i.toNat dI).2.2.1 = false) (h : (l.getD i.toNat dI).2.1.1 = a.1 ∧ (l.getD i.toNat dI).2.1.2 = a.2) : n + 1 = LNS (l.take (i + 1).toNat) a := by
  rw [LNS_at h0 h1, if_pos ⟨ha, Prod.ext h.1 h.2⟩, q]
theorem lns_no {l : List Itm} {i n : Int} {a : Lb} (h0 : 0 ≤ i) (h1 : i < l.length) (q : n = LNS (l.take i.toNat) a) (h : (l.getD i.toNat dI).2.2.1 = true ∨ ¬ ((l.getD i.toNat dI).2.1.1 = a.1 ∧ (l.getD i.toNat dI).2.1.2 = a.2)) : n = LNS (l.take (i + 1).toNat) a := by
  rw [LNS_at h0 h1, if_neg, q]
  · omega
  · rintro ⟨h2, h3⟩
    rcases h with h | h
    · rw [h] at h2; cases h2
    · exact h ⟨congrArg (·.1) h3, congrArg (·.2) h3⟩
theorem by_bd {l : List Itm} {kv : List (Lb × Int)} {i : Int} (q : kv = BY (l.take i.toNat)) (a : Lb) : 0 ≤ (lookL kv a).getD 0 ∧ (lookL kv a).getD 0 ≤ l.length := by
  rw [q, (BY_is _).2.1]
  have := LNS_bd (l.take i.toNat) a
  rw [List.length_take] at this; omega
theorem look_put (kv : List (Lb × Int)) (a : Lb) (v : Int) : (lookL (updL kv a v) a).getD 0 = v := by rw [lookL_upd, if_pos rfl]; rfl
theorem by_yes {l : List Itm} {kv : List (Lb × Int)} {i v : Int} (h0 : 0 ≤ i) (h1 : i < l.length) (q : kv = BY (l.take i.toNat)) (ha : (!(l.getD i.toNat dI).2.2.1) = true) (hv : v = (lookL kv (l.getD i.toNat dI).2.1).getD 0) : updL kv (l.getD i.toNat dI).2.1 (v + 1) = BY (l.take (i + 1).toNat) := by
  rw [BY_at h0 h1, ← q, hv]
  unfold BYS
  rw [if_neg (by intro h; rw [h] at ha; cases ha)]
theorem by_no {l : List Itm} {kv : List (Lb × Int)} {i : Int} (h0 : 0 ≤ i) (h1 : i < l.length) (q : kv = BY (l.take i.toNat)) (ha : (!(l.getD i.toNat dI).2.2.1) = false) : kv = BY (l.take (i + 1).toNat) := by
  rw [BY_at h0 h1, ← q]
  unfold BYS
  rw [if_pos (by simpa using ha)]
end Go.Tly
namespace Go.Tly
open Go Go.Gv
theorem nd_len {α : Type} [DecidableEq α] : ∀ {a b : List α}, a.Nodup → (∀ x ∈ a, x ∈ b) → a.length ≤ b.length
  | [], _, _, _ => Nat.zero_le _
  | x :: a, b, h, hs => by
    have h' := List.nodup_cons.1 h
    have hx := hs x (.head _)
    have := nd_len (a := a) (b := b.erase x) h'.2 fun y hy => (List.mem_erase_of_ne (fun e : y = x => h'.1 (by rw [← e]; exact hy))).2 (hs y (.tail _ hy))
    rw [List.length_erase_of_mem hx] at this
    have := List.length_pos_of_mem hx
    rw [List.length_cons]; omega
theorem sorted_is2 {l : List Itm} {ys zs : List Lb} (hp : zs.Perm ys) (hn : ys.Nodup) (hm : ∀ a, a ∈ ys ↔ a ∈ (BY l).map (·.1)) (hs : zs.Pairwise fun a b => ¬ LO b a < 0) : zs = LBS l := by
  have hb := BY_is l
  have hnd : zs.Nodup := hp.nodup_iff.2 hn
  have hasc : Asc zs := by
    refine (List.Pairwise.and hs hnd).imp fun {a b} h => ?_
    have := lo_is a b
    have h3 := lo_is b a
    rcases this with h1 | h1 | h1
    · exact h1.1
    · exact absurd h1.2.1 h.2
    · exact absurd (by rcases h3 with h3 | h3 | h3; exact (by omega : LO b a < 0); exact absurd h1.2.2.1 h3.1; exact absurd h1.2.2.1 h3.1) h.1
  exact asc_uniq hasc (LBS_is l).1 fun a => by rw [hp.mem_iff, hm, hb.2.2.1, (LBS_is l).2]
theorem lns_mem {l : List Itm} {a : Lb} (h : 0 < LNS l a) : ∃ x ∈ l, x.2.1 = a := by
  induction l with
  | nil => simp [LNS] at h
  | cons x l ih =>
    rw [LNS] at h
    by_cases hx : HIT a x
    · exact ⟨x, .head _, hx.2⟩
    · rw [if_neg hx] at h
      obtain ⟨y, hy, e⟩ := ih (by omega)
      exact ⟨y, .tail _ hy, e⟩
theorem mem_look {kv : List (Lb × Int)} (h : (kv.map (·.1)).Nodup) {p : Lb × Int} (hp : p ∈ kv) : (lookL kv p.1).getD 0 = p.2 := by
  induction kv with
  | nil => cases hp
  | cons q kv ih =>
    have h' := List.nodup_cons.1 (by simpa using h : (q.1 :: kv.map (·.1)).Nodup)
    unfold lookL
    rcases List.mem_cons.1 hp with rfl | hp
    · rw [if_pos rfl]; rfl
    · rw [if_neg (fun e : q.1 = p.1 => h'.1 (by rw [e]; exact List.mem_map.2 ⟨p, hp, rfl⟩))]
      exact ih h'.2 hp
theorem CTS_len (l : List Itm) : (CTS l).length = (LBS l).length := by unfold CTS; rw [List.length_map]
theorem LBS_len (l : List Itm) : (LBS l).length ≤ l.length := by
  have hb := BY_is l
  have hl := LBS_is l
  have := nd_len (a := LBS l) (b := (BY l).map (·.1)) (hl.1.imp ltl_ne) fun a ha => (hb.2.2.1 a).2 ((hl.2 a).1 ha)
  rw [List.length_map] at this; omega
theorem CTS_get {l : List Itm} {i : Int} (h0 : 0 ≤ i) (h1 : i < (LBS l).length) : (CTS l).getD i.toNat ((0, 0), 0) = ((LBS l).getD i.toNat (0, 0), LNS l ((LBS l).getD i.toNat (0, 0))) := by
  have h : i.toNat < (LBS l).length := by omega
  unfold CTS
  rw [List.getD_eq_getElem?_getD, List.getElem?_map, List.getD_eq_getElem?_getD, List.getElem?_eq_getElem h]; rfl
theorem cts_step {l : List Itm} {out : List (Lb × Int)} {i : Int} (h0 : 0 ≤ i) (h1 : i < (LBS l).length) (q : out = (CTS l).take i.toNat) : out ++ [((LBS l).getD i.toNat (0, 0), (lookL (BY l) ((LBS l).getD i.toNat (0, 0))).getD 0)] = (CTS l).take (i + 1).toNat := by
  rw [Num.take_more (l := CTS l) (j := i) ((0, 0), 0) h0 (by rw [CTS_len]; exact h1), CTS_get h0 h1, (BY_is l).2.1, q]
def OVR (l : List Itm) (q : Int) : List Lb := ((CTS l).filter fun c => decide (c.2 > q)).map (·.1)
def OVS (s : List (Lb × Int)) (q : Int) : List Lb := (s.filter fun c => decide (c.2 > q)).map (·.1)
theorem OVS_at {s : List (Lb × Int)} {q i : Int} (h0 : 0 ≤ i) (h1 : i < s.length) : OVS (s.take (i + 1).toNat) q = if (s.getD i.toNat ((0, 0), 0)).2 > q then OVS (s.take i.toNat) q ++ [(s.getD i.toNat ((0, 0), 0)).1] else OVS (s.take i.toNat) q := by
  unfold OVS
  rw [Num.take_more ((0, 0), 0) h0 h1, List.filter_append, List.map_append]
  generalize s.getD i.toNat ((0, 0), 0) = c
  by_cases h : c.2 > q
  · rw [if_pos h]; simp [h]
  · rw [if_neg h]; simp [h]
theorem OVS_len (s : List (Lb × Int)) (q : Int) : (OVS s q).length ≤ s.length := by unfold OVS; rw [List.length_map]; exact List.length_filter_le _ _
/-! the document's counts -/
def CTO (l m : List Itm) : List (Lb × Int) := (LBS m).map fun a => (a, LNS l a)
theorem INS_same {a : Lb} : ∀ {s : List Lb} {k : Int}, 0 ≤ k → k < s.length → (∀ t : Int, 0 ≤ t → t < k → LTL (s.getD t.toNat (0, 0)) a) → s.getD k.toNat (0, 0) = a → INS a s = s
  | [], k, h0, h1, _, _ => by simp at h1; omega
  | b :: s, k, h0, h1, h2, h3 => by
    by_cases hk : k = 0
    · subst hk
      have : b = a := h3
      unfold INS
      rw [if_neg fun h => ltl_ne h this, if_pos this]
    · have hb : LTL b a := h2 0 (by omega) (by omega)
      unfold INS
      rw [if_pos hb, INS_same (k := k - 1) (by omega) (by simp only [List.length_cons] at h1; omega) (fun t t0 t1 => by
        have := h2 (t + 1) (by omega) (by omega)
        rwa [show (t + 1).toNat = t.toNat + 1 by omega] at this) (by rwa [show k.toNat = (k - 1).toNat + 1 by omega] at h3)]
theorem INS_cut {a : Lb} : ∀ {s : List Lb} {k : Int}, 0 ≤ k → k ≤ s.length → (∀ t : Int, 0 ≤ t → t < k → LTL (s.getD t.toNat (0, 0)) a) → (k < s.length → ¬ LTL (s.getD k.toNat (0, 0)) a ∧ s.getD k.toNat (0, 0) ≠ a) → INS a s = (s.take k.toNat ++ [a]) ++ s.drop k.toNat
  | [], k, h0, h1, _, _ => by simp [INS]
  | b :: s, k, h0, h1, h2, h3 => by
    by_cases hk : k = 0
    · subst hk
      have h : ¬ LTL b a ∧ b ≠ a := h3 (by simp only [List.length_cons]; omega)
      unfold INS
      rw [if_neg h.1, if_neg h.2]; rfl
    · have hb : LTL b a := h2 0 (by omega) (by omega)
      unfold INS
      rw [if_pos hb, INS_cut (k := k - 1) (by omega) (by simp only [List.length_cons] at h1; omega) (fun t t0 t1 => by
        have := h2 (t + 1) (by omega) (by omega)
        rwa [show (t + 1).toNat = t.toNat + 1 by omega] at this) (fun h => by have := h3 (by simp only [List.length_cons]; omega); rwa [show k.toNat = (k - 1).toNat + 1 by omega] at this)]
      rw [show k.toNat = (k - 1).toNat + 1 by omega]; rfl
theorem CTO_len (l m : List Itm) : (CTO l m).length = (LBS m).length := by unfold CTO; rw [List.length_map]
theorem CTO_get {l m : List Itm} {i : Int} (h0 : 0 ≤ i) (h1 : i < (CTO l m).length) : ((CTO l m).getD i.toNat ((0, 0), 0)).1 = (LBS m).getD i.toNat (0, 0) := by
  rw [CTO_len] at h1
  have h : i.toNat < (LBS m).length := by omega
  unfold CTO
  rw [List.getD_eq_getElem?_getD, List.getElem?_map, List.getD_eq_getElem?_getD, List.getElem?_eq_getElem h]; rfl
section
variable {l : List Itm} {out : List (Lb × Int)} {i k : Int}
theorem cto_skip (h0 : 0 ≤ i) (h1 : i < l.length) (q : out = CTO l (l.take i.toNat)) (h : (l.getD i.toNat dI).2.2.1 = true) : out = CTO l (l.take (i + 1).toNat) := by
  rw [q]; unfold CTO; rw [LBS_at h0 h1, if_pos h]
theorem cto_same (h0 : 0 ≤ i) (h1 : i < l.length) (q : out = CTO l (l.take i.toNat)) (h : (l.getD i.toNat dI).2.2.1 = false) (k0 : 0 ≤ k) (k1 : k < out.length) (hq : ∀ t : Int, 0 ≤ t → t < k → LO (out.getD t.toNat ((0, 0), 0)).1 (l.getD i.toNat dI).2.1 < 0)
    (he : (out.getD k.toNat ((0, 0), 0)).1.1 = (l.getD i.toNat dI).2.1.1 ∧ (out.getD k.toNat ((0, 0), 0)).1.2 = (l.getD i.toNat dI).2.1.2) : out = CTO l (l.take (i + 1).toNat) := by
  subst q
  have hl := CTO_len l (l.take i.toNat)
  have e : (CTO l (l.take i.toNat)).map (·.1) = LBS (l.take i.toNat) := by unfold CTO; rw [List.map_map]; exact List.map_id _
  have hs : INS (l.getD i.toNat dI).2.1 (LBS (l.take i.toNat)) = LBS (l.take i.toNat) := INS_same k0 (by omega) (fun t t0 t1 => by
    have h2 := hq t t0 t1
    rw [CTO_get t0 (by omega)] at h2
    have := lo_is ((LBS (l.take i.toNat)).getD t.toNat (0, 0)) (l.getD i.toNat dI).2.1
    rcases this with h3 | h3 | h3
    · exact h3.1
    · omega
    · omega) (by rw [← CTO_get (l := l) k0 k1]; exact Prod.ext he.1 he.2)
  unfold CTO
  rw [LBS_at h0 h1, if_neg (by rw [h]; decide), hs]
theorem cto_new (h0 : 0 ≤ i) (h1 : i < l.length) (q : out = CTO l (l.take i.toNat)) (h : (l.getD i.toNat dI).2.2.1 = false) (k0 : 0 ≤ k) (k1 : k ≤ out.length) (hq : ∀ t : Int, 0 ≤ t → t < k → LO (out.getD t.toNat ((0, 0), 0)).1 (l.getD i.toNat dI).2.1 < 0)
    (hk : k < out.length → ¬ LO (out.getD k.toNat ((0, 0), 0)).1 (l.getD i.toNat dI).2.1 < 0 ∧ ¬ ((out.getD k.toNat ((0, 0), 0)).1.1 = (l.getD i.toNat dI).2.1.1 ∧ (out.getD k.toNat ((0, 0), 0)).1.2 = (l.getD i.toNat dI).2.1.2)) :
    (out.take k.toNat ++ [((l.getD i.toNat dI).2.1, LNS l (l.getD i.toNat dI).2.1)]) ++ out.drop k.toNat = CTO l (l.take (i + 1).toNat) := by
  subst q
  have hl := CTO_len l (l.take i.toNat)
  have hs : INS (l.getD i.toNat dI).2.1 (LBS (l.take i.toNat)) = ((LBS (l.take i.toNat)).take k.toNat ++ [(l.getD i.toNat dI).2.1]) ++ (LBS (l.take i.toNat)).drop k.toNat := INS_cut k0 (by omega) (fun t t0 t1 => by
    have h2 := hq t t0 t1
    rw [CTO_get t0 (by omega)] at h2
    have := lo_is ((LBS (l.take i.toNat)).getD t.toNat (0, 0)) (l.getD i.toNat dI).2.1
    rcases this with h3 | h3 | h3
    · exact h3.1
    · omega
    · omega) (fun hk1 => by
    have h2 := hk (by omega)
    rw [CTO_get k0 (by omega)] at h2
    have := lo_is ((LBS (l.take i.toNat)).getD k.toNat (0, 0)) (l.getD i.toNat dI).2.1
    refine ⟨fun h3 => ?_, fun e => h2.2 ⟨congrArg (·.1) e, congrArg (·.2) e⟩⟩
    rcases this with h4 | h4 | h4
    · omega
    · exact h4.1 h3
    · exact h4.1 h3)
  unfold CTO
  rw [LBS_at h0 h1, if_neg (by rw [h]; decide), hs, List.map_append, List.map_append, List.map_take, List.map_drop]; rfl
end
theorem cto_all (l : List Itm) {i : Int} (h : (l.length : Int) ≤ i) : CTO l (l.take i.toNat) = CTS l := by rw [List.take_of_length_le (by omega)]; rfl
end Go.Tly
namespace Go.Tly
open Go Go.Gv
abbrev WLB (a : Lb) : Prop := -9223372036854775808 ≤ a.1 ∧ a.1 ≤ 9223372036854775807 ∧ 0 ≤ a.2 ∧ a.2 < 18446744073709551616
theorem lns_no0 {l : List Itm} {a : Lb} : 0 ≤ LNS l a ∧ LNS l a ≤ l.length := LNS_bd l a
theorem ovs_step {s : List (Lb × Int)} {q i : Int} {out : List Lb} (h0 : 0 ≤ i) (h1 : i < s.length) (e : out = OVS (s.take i.toNat) q) (h : (s.getD i.toNat ((0, 0), 0)).2 > q) : out ++ [(s.getD i.toNat ((0, 0), 0)).1] = OVS (s.take (i + 1).toNat) q := by rw [OVS_at h0 h1, if_pos h, e]
theorem ovs_skip {s : List (Lb × Int)} {q i : Int} {out : List Lb} (h0 : 0 ≤ i) (h1 : i < s.length) (e : out = OVS (s.take i.toNat) q) (h : ¬ (s.getD i.toNat ((0, 0), 0)).2 > q) : out = OVS (s.take (i + 1).toNat) q := by rw [OVS_at h0 h1, if_neg h, e]
end Go.Tly
namespace Go.Tly
open Go Go.Gv
theorem l3_wl : ∀ x ∈ [((0, (1, 0), false, (⟨#[]⟩, false)) : Itm), ((0, (1, 0), false, (⟨#[]⟩, false)) : Itm), ((0, (1, 0), true, (⟨#[]⟩, false)) : Itm)], WLB x.2.1 := fun x hx => by
  simp only [List.mem_cons, List.not_mem_nil, or_false] at hx
  rcases hx with rfl | rfl | rfl <;> decide
end Go.Tly
namespace Go.Tly
open Go Go.Gv
theorem lo_anti (a b : Lb) : LO b a = 0 - LO a b := by
  have h1 := lo_is a b
  have h2 := lo_is b a
  rcases h1 with h1 | h1 | h1 <;> rcases h2 with h2 | h2 | h2 <;> first | omega | exact absurd h1.1 h2.2.2.1 | exact absurd h2.1 h1.2.2.1 | exact absurd h1.2.1.symm h2.2.1 | exact absurd h2.2.1.symm h1.2.1 | exact absurd h1.1 h2.1 | exact absurd h2.1 h1.1 | exact absurd h1.2.2.1 h2.1
theorem lo_zero (a b : Lb) : LO a b = 0 ↔ (a.1 = b.1 ∧ a.2 = b.2) := by
  have h1 := lo_is a b
  have e : a = b ↔ (a.1 = b.1 ∧ a.2 = b.2) := Prod.ext_iff
  rw [e] at h1
  rcases h1 with h1 | h1 | h1
  · exact ⟨fun h => by omega, fun h => absurd h h1.2.1⟩
  · exact ⟨fun _ => h1.2.1, fun _ => h1.2.2.2⟩
  · exact ⟨fun h => by omega, fun h => absurd h h1.2.1⟩
theorem lo_neg (a b : Lb) : LO a b < 0 ↔ LTL a b := by
  rcases lo_is a b with h | h | h
  · exact ⟨fun _ => h.1, fun _ => by omega⟩
  · exact ⟨fun _ => by omega, fun h2 => absurd h2 h.1⟩
  · exact ⟨fun _ => by omega, fun h2 => absurd h2 h.1⟩
theorem lo_trans (a b c : Lb) (h : LO a b < 0) (h2 : LO b c < 0) : LO a c < 0 := (lo_neg _ _).2 (ltl_trans ((lo_neg _ _).1 h) ((lo_neg _ _).1 h2))
theorem CTS_lt {l : List Itm} {i : Int} (h0 : 0 < i) (h1 : i < (CTS l).length) : LO ((CTS l).getD (i - 1).toNat ((0, 0), 0)).1 ((CTS l).getD i.toNat ((0, 0), 0)).1 < 0 := by
  rw [CTS_len] at h1
  rw [CTS_get (by omega) (by omega), CTS_get (by omega) (by omega)]
  refine (lo_neg _ _).2 ?_
  have h := (LBS_is l).1
  have e1 : (i - 1).toNat < (LBS l).length := by omega
  have e2 : i.toNat < (LBS l).length := by omega
  have := List.pairwise_iff_getElem.1 h (i - 1).toNat i.toNat e1 e2 (by omega)
  rw [List.getD_eq_getElem?_getD, List.getD_eq_getElem?_getD, List.getElem?_eq_getElem e1, List.getElem?_eq_getElem e2]
  exact this
def SM (s : List (Lb × Int)) : Int := (s.map (·.2)).sum
theorem SM_at {s : List (Lb × Int)} {i : Int} (h0 : 0 ≤ i) (h1 : i < s.length) : SM (s.take (i + 1).toNat) = SM (s.take i.toNat) + (s.getD i.toNat ((0, 0), 0)).2 := by
  unfold SM
  rw [Num.take_more ((0, 0), 0) h0 h1, List.map_append, List.sum_append]; simp
theorem CTS_bd {l : List Itm} {i : Int} (h0 : 0 ≤ i) (h1 : i < (CTS l).length) : 0 ≤ ((CTS l).getD i.toNat ((0, 0), 0)).2 ∧ ((CTS l).getD i.toNat ((0, 0), 0)).2 ≤ l.length := by
  rw [CTS_len] at h1
  rw [CTS_get h0 h1]; exact LNS_bd _ _
theorem SM_all (l : List Itm) : SM (CTS l) = FREE l := CTS_sum l
theorem CUTL_len (l : List Itm) (o : Lb) : (CUTL l o).length ≤ l.length := List.length_filter_le _ _
theorem free_yes {l : List Itm} {i n : Int} (h0 : 0 ≤ i) (h1 : i < l.length) (q : n = FREE (l.take i.toNat)) (h : (!(l.getD i.toNat dI).2.2.1) = true) : n + 1 = FREE (l.take (i + 1).toNat) := by
  rw [FREE_at h0 h1, if_neg (by intro h2; rw [h2] at h; cases h), q]
theorem free_no {l : List Itm} {i n : Int} (h0 : 0 ≤ i) (h1 : i < l.length) (q : n = FREE (l.take i.toNat)) (h : (!(l.getD i.toNat dI).2.2.1) = false) : n = FREE (l.take (i + 1).toNat) := by
  rw [FREE_at h0 h1, if_pos (by simpa using h), q]; omega
end Go.Tly

