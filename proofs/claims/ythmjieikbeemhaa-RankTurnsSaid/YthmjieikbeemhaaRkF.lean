/- Likenesses of texts: plain. -/
import Derived.Test.YthmjieikbeemhaaRkA
namespace Go.Rnk
open Go Go.Gv Go.Flt Go.Mys Go.Num Go.Scr Go.Dec
/-- The likenesses of the first n texts. -/
structure KLn (ls : List (List Ln)) (b : List Ln) (L : List (Int × Nat)) (n : Int) : Prop where
  len : (L.length : Int) = n
  at_ : ∀ t : Int, 0 ≤ t → t < n → (L.getD t.toNat (0, 0)).1 = t ∧ cn (L.getD t.toNat (0, 0)).2 = LIK (ls.getD t.toNat []) b ∧ (L.getD t.toNat (0, 0)).2 < 18446744073709551616
abbrev KL (ls : List (List Ln)) (b : List Ln) (L : List (Int × Nat)) : Prop := KLn ls b L ls.length
theorem KLn.z (ls : List (List Ln)) (b : List Ln) : KLn ls b [] 0 := ⟨rfl, fun t h0 h1 => by omega⟩
theorem KLn.snoc {ls : List (List Ln)} {b : List Ln} {L : List (Int × Nat)} {n : Int} {r : Nat} (h : KLn ls b L n) (h0 : 0 ≤ n) (_ : n < ls.length) (hr : cn r = LIK (ls.getD n.toNat []) b) (hw : r < 18446744073709551616) : KLn ls b (L ++ [(n, r)]) (n + 1) := by
  have hl := h.len
  refine ⟨by simp; omega, fun t t0 t1 => ?_⟩
  by_cases hc : t < n
  · have e : (L ++ [(n, r)]).getD t.toNat (0, 0) = L.getD t.toNat (0, 0) := by
      rw [List.getD_eq_getElem?_getD, List.getElem?_append_left (by omega), List.getD_eq_getElem?_getD]
    rw [e]; exact h.at_ t t0 hc
  · have ht : t = n := by omega
    subst ht
    have e : (L ++ [(t, r)]).getD t.toNat (0, 0) = (t, r) := by
      rw [List.getD_eq_getElem?_getD, List.getElem?_append_right (by omega), show t.toNat - L.length = 0 by omega]; rfl
    rw [e]; exact ⟨rfl, hr, hw⟩
theorem KLn.fin {ls : List (List Ln)} {b : List Ln} {L : List (Int × Nat)} {n : Int} (h : KLn ls b L n) (hn : n = ls.length) : KL ls b L := by subst hn; exact h
theorem mem_getD {β : Type} {l : List β} {x d : β} (h : x ∈ l) : ∃ t : Int, 0 ≤ t ∧ t < l.length ∧ l.getD t.toNat d = x := by
  obtain ⟨i, hi, e⟩ := List.mem_iff_getElem.1 h
  exact ⟨(i : Int), by omega, by omega, by rw [Int.toNat_natCast, List.getD_eq_getElem?_getD, List.getElem?_eq_getElem hi, Option.getD_some, e]⟩
theorem KLn.w6 {ls : List (List Ln)} {b : List Ln} {L : List (Int × Nat)} {n : Int} (h : KLn ls b L n) : ∀ x ∈ L, x.2 < 18446744073709551616 := fun x hx => by
  obtain ⟨t, t0, t1, e⟩ := mem_getD (d := (0, 0)) hx
  rw [← e]; exact (h.at_ t t0 (by have := h.len; omega)).2.2
theorem rr_at2 {rows : List (SV × List Ln)} {i : Int} (_ : i < rows.length) : (rows.map (·.2)).getD i.toNat [] = (rows.getD i.toNat default).2 := by
  rw [List.getD_eq_getElem?_getD, List.getElem?_map, List.getD_eq_getElem?_getD]
  cases rows[i.toNat]? with
  | none => rfl
  | some p => rfl
/-! ### one order -/
def kyK (p : Int × Nat) : Int := nkk p.2 * 1000000 + p.1
theorem nkk_tk {a b : Nat} (h : nkk a = nkk b) : tk a = tk b := by
  have h1 := nkk_is a
  have h2 := nkk_is b
  omega
theorem tk_nkk {a b : Nat} (h : tk a = tk b) : nkk a = nkk b := by unfold nkk; rw [h]
theorem ext_getD {β : Type} {l m : List β} (d : β) (hl : l.length = m.length) (h : ∀ t : Int, 0 ≤ t → t < l.length → l.getD t.toNat d = m.getD t.toNat d) : l = m := by
  apply List.ext_getElem hl
  intro i h1 h2
  have := h (i : Int) (by omega) (by omega)
  rw [Int.toNat_natCast, List.getD_eq_getElem?_getD, List.getD_eq_getElem?_getD, List.getElem?_eq_getElem h1, List.getElem?_eq_getElem h2, Option.getD_some, Option.getD_some] at this
  exact this
theorem getD_map {β γ : Type} (f : β → γ) {l : List β} {t : Int} (d : β) (h0 : 0 ≤ t) (h1 : t < l.length) : (l.map f).getD t.toNat (f d) = f (l.getD t.toNat d) := by
  rw [List.getD_eq_getElem?_getD, List.getElem?_map, List.getD_eq_getElem?_getD, List.getElem?_eq_getElem (show t.toNat < l.length by omega)]; rfl
theorem kl_ky {ls : List (List Ln)} {b : List Ln} {L L' : List (Int × Nat)} (h : KL ls b L) (h' : KL ls b L') : L.map kyK = L'.map kyK := by
  have l1 := h.len
  have l2 := h'.len
  refine ext_getD (kyK (0, 0)) (by rw [List.length_map, List.length_map]; omega) fun t t0 t1 => ?_
  rw [List.length_map] at t1
  rw [getD_map kyK (0, 0) t0 (by omega), getD_map kyK (0, 0) t0 (by omega)]
  have a1 := h.at_ t t0 (by omega)
  have a2 := h'.at_ t t0 (by omega)
  unfold kyK
  rw [a1.1, a2.1, tk_nkk (tk_cn (a1.2.1.trans a2.2.1.symm))]
theorem kl_bd {ls : List (List Ln)} {b : List Ln} {L ys : List (Int × Nat)} (h : KL ls b L) (hp : ys.Perm L) (hl : ls.length ≤ 1000) : ∀ x ∈ ys, 0 ≤ x.1 ∧ x.1 < 1000000 := fun x hx => by
  obtain ⟨t, t0, t1, e⟩ := mem_getD (d := (0, 0)) (hp.mem_iff.1 hx)
  have l1 := h.len
  have := (h.at_ t t0 (by omega)).1
  rw [e] at this; omega
theorem srk_ky {ys : List (Int × Nat)} (h : SRK ys) (hb : ∀ x ∈ ys, 0 ≤ x.1 ∧ x.1 < 1000000) : (ys.map kyK).Pairwise (· ≤ ·) := by
  rw [List.pairwise_map, List.pairwise_iff_getElem]
  intro i j hi hj hij
  have h1 := (List.pairwise_iff_getElem.1 h) i j hi hj hij
  have b1 := hb ys[i] (List.getElem_mem hi)
  have b2 := hb ys[j] (List.getElem_mem hj)
  have l1 := lcf_is ys[j] ys[i]
  have c1 := cmpi_is ys[j].1 ys[i].1
  unfold kyK
  omega
theorem srt_uniq {ls : List (List Ln)} {b : List Ln} {L L' ys zs : List (Int × Nat)} (hl : ls.length ≤ 1000) (h : KL ls b L) (h' : KL ls b L') (p : ys.Perm L) (p' : zs.Perm L') (s : SRK ys) (s' : SRK zs) :
    ys.length = zs.length ∧ ∀ t : Int, 0 ≤ t → t < ys.length → (ys.getD t.toNat (0, 0)).1 = (zs.getD t.toNat (0, 0)).1 ∧ tk (ys.getD t.toNat (0, 0)).2 = tk (zs.getD t.toNat (0, 0)).2 := by
  have b1 := kl_bd h p hl
  have b2 := kl_bd h' p' hl
  have e : ys.map kyK = zs.map kyK := isort_eq ((p.map kyK).trans (kl_ky h h' ▸ (p'.map kyK).symm)) (srk_ky s b1) (srk_ky s' b2)
  have le : ys.length = zs.length := by have := congrArg List.length e; rwa [List.length_map, List.length_map] at this
  refine ⟨le, fun t t0 t1 => ?_⟩
  have q := getD_map kyK (0, 0) t0 t1
  rw [e, getD_map kyK (0, 0) t0 (by omega)] at q
  have c1 := b1 (ys.getD t.toNat (0, 0)) (getD_mem (by omega))
  have c2 := b2 (zs.getD t.toNat (0, 0)) (getD_mem (by omega))
  unfold kyK at q
  exact ⟨by omega, nkk_tk (by omega)⟩
/-- The nearest one. -/
def NRS (ls : List (List Ln)) (b : List Ln) (k : Int) (is : Bool) : Prop := ∃ ys L : List (Int × Nat), KL ls b L ∧ ys.Perm L ∧ SRK ys ∧
  (((ys.length = 0 ∨ ¬ (-9218868437227405312 ≤ sk (ys.getD (0 : Int).toNat (0, 0)).2 ∧ sk (ys.getD (0 : Int).toNat (0, 0)).2 ≤ 9218868437227405312)) ∧ k = 0 ∧ is = false) ∨
   ((ys.length ≠ 0 ∧ (-9218868437227405312 ≤ sk (ys.getD (0 : Int).toNat (0, 0)).2 ∧ sk (ys.getD (0 : Int).toNat (0, 0)).2 ≤ 9218868437227405312)) ∧ k = (ys.getD (0 : Int).toNat (0, 0)).1 ∧ is = true))
theorem tk_ok {a b : Nat} (h : tk a = tk b) : (-9218868437227405312 ≤ sk a ∧ sk a ≤ 9218868437227405312) ↔ (-9218868437227405312 ≤ sk b ∧ sk b ≤ 9218868437227405312) := by
  have h1 := tk_is a
  have h2 := tk_is b
  omega
theorem NRS.val {ls : List (List Ln)} {b : List Ln} {k : Int} {is : Bool} {zs L' : List (Int × Nat)} (hn : NRS ls b k is) (hl : ls.length ≤ 1000) (h' : KL ls b L') (p' : zs.Perm L') (s' : SRK zs) :
    ((zs.length = 0 ∨ ¬ (-9218868437227405312 ≤ sk (zs.getD (0 : Int).toNat (0, 0)).2 ∧ sk (zs.getD (0 : Int).toNat (0, 0)).2 ≤ 9218868437227405312)) ∧ k = 0 ∧ is = false) ∨
   ((zs.length ≠ 0 ∧ (-9218868437227405312 ≤ sk (zs.getD (0 : Int).toNat (0, 0)).2 ∧ sk (zs.getD (0 : Int).toNat (0, 0)).2 ≤ 9218868437227405312)) ∧ k = (zs.getD (0 : Int).toNat (0, 0)).1 ∧ is = true) := by
  obtain ⟨ys, L, h, p, s, hh⟩ := hn
  obtain ⟨e, q⟩ := srt_uniq hl h h' p p' s s'
  rcases hh with ⟨h1, h2, h3⟩ | ⟨h1, h2, h3⟩
  · refine .inl ⟨?_, h2, h3⟩
    rcases Nat.eq_zero_or_pos zs.length with h4 | h4
    · exact .inl h4
    · have q0 := q 0 (by omega) (by omega)
      have := tk_ok q0.2
      exact .inr (fun h5 => (h1.resolve_left (by omega)) (this.2 h5))
  · have q0 := q 0 (by omega) (by omega)
    have := tk_ok q0.2
    exact .inr ⟨⟨by omega, this.1 h1.2⟩, h2.trans q0.1, h3⟩
end Go.Rnk
namespace Go.Rnk
open Go Go.Gv Go.Flt Go.Mys Go.Num Go.Scr Go.Dec
theorem live_prt : PRT [(2, 4602678819172646912)] = ⟨#[50, 32, 53, 48, 48, 10]⟩ := by
  have h1 : MIL 4602678819172646912 = 500 := by decide +kernel
  have hs : sk 4602678819172646912 = 4602678819172646912 := by decide +kernel
  have d2 : DEC 2 = strOfNums [50] := DEC_one (by decide) (by decide)
  have d5 : DEC 500 = strOfNums [53, 48, 48] := by
    rw [DEC_two (by decide) (by decide), show (500 : Int) / 10 = 50 by decide, DEC_two (by decide) (by decide), show (50 : Int) / 10 = 5 by decide, DEC_one (by decide) (by decide), str_app, str_app]; rfl
  show ⟨#[]⟩ ++ LINE (2, 4602678819172646912) = _
  unfold LINE
  rw [if_pos (by simp only [hs]; decide)]
  simp only [h1, d2, d5]
  decide
abbrev lnA : Ln := (⟨#[97]⟩, false)
abbrev lnB : Ln := (⟨#[98]⟩, false)
abbrev lnC : Ln := (⟨#[99]⟩, false)
theorem live_like {r : Nat} (h : cn r = LIK [lnA, lnB] [lnB, lnC]) : r = 4602678819172646912 :=
  (cn_some (h.trans (by decide +kernel : LIK [lnA, lnB] [lnB, lnC] = some 4602678819172646912))).2
def lv0 : Nat := (LIK [lnA] [lnC]).getD 0
def lv1 : Nat := (LIK [lnB, lnC] [lnC]).getD 0
theorem live_near {k : Int} {is : Bool} (h : NRS [[lnA], [lnB, lnC]] [lnC] k is) : k = 1 ∧ is = true := by
  have h' : KL [[lnA], [lnB, lnC]] [lnC] [(0, lv0), (1, lv1)] := ⟨rfl, fun t t0 t1 => by
    have ht : t = 0 ∨ t = 1 := by
      have h2 : t < 2 := t1
      omega
    rcases ht with rfl | rfl
    · exact ⟨rfl, by decide +kernel, by decide +kernel⟩
    · exact ⟨rfl, by decide +kernel, by decide +kernel⟩⟩
  have hs : SRK [(1, lv1), (0, lv0)] := by
    have : ¬ LCF (0, lv0) (1, lv1) < 0 := by decide +kernel
    exact List.pairwise_cons.2 ⟨fun x hx => by rw [List.mem_singleton.1 hx]; exact this, List.pairwise_singleton _ _⟩
  have hok : -9218868437227405312 ≤ sk lv1 ∧ sk lv1 ≤ 9218868437227405312 := by decide +kernel
  rcases h.val (by decide) h' (List.Perm.swap _ _ _) hs with ⟨h1, _⟩ | ⟨_, h2, h3⟩
  · rcases h1 with h1 | h1
    · cases h1
    · exact absurd hok h1
  · exact ⟨h2, h3⟩
end Go.Rnk
namespace Go.Rnk
open Go Go.Gv Go.Flt Go.Mys Go.Num Go.Scr Go.Dec
def few8 (L : List (List Ln)) : List (List Ln) := (L.take 8).map fun l => l.take 40
theorem few8_snoc {L : List (List Ln)} {i : Int} (h0 : 0 ≤ i) (hi : i < L.length) : (L.take i.toNat).map (fun l => l.take 40) ++ [(L.getD i.toNat []).take 40] = (L.take (i + 1).toNat).map (fun l => l.take 40) := by
  rw [Num.take_more [] h0 hi, List.map_append]; rfl
theorem few8_of {L : List (List Ln)} {i : Int} (h0 : 0 ≤ i) (h5 : i ≤ 8) (h : ¬ (i < L.length ∧ i < 8)) : (L.take i.toNat).map (fun l => l.take 40) = few8 L := by
  unfold few8
  congr 1
  rcases Int.lt_or_le i 8 with h8 | h8
  · rw [List.take_of_length_le (by omega), List.take_of_length_le (by omega)]
  · rw [show i.toNat = 8 by omega]
theorem few8_bd {rows : List (SV × List Ln)} {L : List (List Ln)} (h : rows.map (·.2) = few8 L) : rows.length ≤ 8 ∧ ∀ p ∈ rows, p.2.length ≤ 40 := by
  refine ⟨?_, fun p hp => ?_⟩
  · have := congrArg List.length h
    unfold few8 at this
    simp only [List.length_map, List.length_take] at this
    omega
  · have : p.2 ∈ few8 L := h ▸ List.mem_map.2 ⟨p, hp, rfl⟩
    unfold few8 at this
    obtain ⟨l, _, e⟩ := List.mem_map.1 this
    rw [← e, List.length_take]; omega
/-! ### one put in -/
theorem lcf_lt (a b : Int × Nat) : LCF a b < 0 ↔ (nkk a.2 < nkk b.2 ∨ (nkk a.2 = nkk b.2 ∧ a.1 < b.1)) := by
  have h1 := lcf_is a b
  have h2 := cmpi_is a.1 b.1
  omega
theorem ins_eq {out : List (Int × Nat)} {k : Int} {x : Int × Nat} : (((([] : List (Int × Nat)) ++ ((out.take k.toNat).drop 0)) ++ [x]) ++ ((out.take out.length).drop k.toNat)) = out.take k.toNat ++ x :: out.drop k.toNat := by simp
theorem ins_perm {out L : List (Int × Nat)} {k : Int} {x : Int × Nat} (h : out.Perm L) : (((([] : List (Int × Nat)) ++ ((out.take k.toNat).drop 0)) ++ [x]) ++ ((out.take out.length).drop k.toNat)).Perm (L ++ [x]) := by
  rw [ins_eq]
  have h1 : (out.take k.toNat ++ x :: out.drop k.toNat).Perm (x :: (out.take k.toNat ++ out.drop k.toNat)) := List.perm_middle
  rw [List.take_append_drop] at h1
  exact h1.trans ((h.cons x).trans (List.perm_append_singleton x L).symm)
theorem srk_at {l : List (Int × Nat)} (h : SRK l) {i j : Int} (h0 : 0 ≤ i) (h1 : i < j) (h2 : j < l.length) : ¬ LCF (l.getD j.toNat (0, 0)) (l.getD i.toNat (0, 0)) < 0 := by
  have := (List.pairwise_iff_getElem.1 h) i.toNat j.toNat (by omega) (by omega) (by omega)
  rw [List.getD_eq_getElem?_getD, List.getD_eq_getElem?_getD, List.getElem?_eq_getElem (by omega), List.getElem?_eq_getElem (by omega)]; exact this
theorem ins_sort {out : List (Int × Nat)} {k : Int} {x : Int × Nat} (h : SRK out) (k0 : 0 ≤ k) (k1 : k ≤ out.length) (s1 : ∀ t : Int, 0 ≤ t → t < k → LCF (out.getD t.toNat (0, 0)) x < 0) (hx : k < out.length → ¬ LCF (out.getD k.toNat (0, 0)) x < 0) :
    SRK (((([] : List (Int × Nat)) ++ ((out.take k.toNat).drop 0)) ++ [x]) ++ ((out.take out.length).drop k.toNat)) := by
  rw [ins_eq]
  have hb : ∀ y ∈ out.take k.toNat, LCF y x < 0 := fun y hy => by
    obtain ⟨t, t0, t1, e⟩ := mem_getD (d := (0, 0)) hy
    rw [List.length_take] at t1
    have := s1 t t0 (by omega)
    rw [List.getD_eq_getElem?_getD, List.getElem?_take, if_pos (by omega), ← List.getD_eq_getElem?_getD] at e
    rwa [e] at this
  have ha : ∀ y ∈ out.drop k.toNat, ¬ LCF y x < 0 := fun y hy => by
    obtain ⟨t, t0, t1, e⟩ := mem_getD (d := (0, 0)) hy
    rw [List.length_drop] at t1
    have hx' := hx (by omega)
    rw [List.getD_eq_getElem?_getD, List.getElem?_drop, ← List.getD_eq_getElem?_getD, show k.toNat + t.toNat = (k + t).toNat by omega] at e
    rw [← e]
    rcases Int.lt_or_le 0 t with h2 | h2
    · have := srk_at h k0 (show k < k + t by omega) (by omega)
      rw [lcf_lt] at this hx' ⊢
      omega
    · rw [show k + t = k by omega]; exact hx'
  refine List.pairwise_append.2 ⟨(h.sublist (List.take_sublist _ _)), List.pairwise_cons.2 ⟨fun y hy => ha y hy, h.sublist (List.drop_sublist _ _)⟩, fun y hy z hz => ?_⟩
  have hy' := hb y hy
  rcases List.mem_cons.1 hz with rfl | hz
  · rw [lcf_lt] at hy' ⊢; omega
  · have := ha z hz
    rw [lcf_lt] at hy' this ⊢; omega
/-! ### rows of likenesses -/
def kk (p : Int × Nat) : Int × Int := (p.1, tk p.2)
theorem kk_ext {a b : List (Int × Nat)} (hl : a.length = b.length) (h : ∀ t : Int, 0 ≤ t → t < a.length → (a.getD t.toNat (0, 0)).1 = (b.getD t.toNat (0, 0)).1 ∧ tk (a.getD t.toNat (0, 0)).2 = tk (b.getD t.toNat (0, 0)).2) : a.map kk = b.map kk :=
  ext_getD (kk (0, 0)) (by rw [List.length_map, List.length_map, hl]) fun t t0 t1 => by
    rw [List.length_map] at t1
    rw [getD_map kk (0, 0) t0 t1, getD_map kk (0, 0) t0 (by omega)]
    have := h t t0 t1
    unfold kk; rw [this.1, this.2]
theorem kk_at {a b : List (Int × Nat)} (h : a.map kk = b.map kk) {t : Int} (t0 : 0 ≤ t) (t1 : t < a.length) : (a.getD t.toNat (0, 0)).1 = (b.getD t.toNat (0, 0)).1 ∧ tk (a.getD t.toNat (0, 0)).2 = tk (b.getD t.toNat (0, 0)).2 := by
  have hl : a.length = b.length := by have := congrArg List.length h; rwa [List.length_map, List.length_map] at this
  have q := getD_map kk (0, 0) t0 t1
  rw [h, getD_map kk (0, 0) t0 (by omega)] at q
  unfold kk at q
  injection q with q1 q2
  exact ⟨q1.symm, q2.symm⟩
theorem kk_uniq {ls : List (List Ln)} {b : List Ln} {L L' ys zs : List (Int × Nat)} (hl : ls.length ≤ 1000) (h : KL ls b L) (p : ys.Perm L) (s : SRK ys) (h' : KL ls b L') (p' : zs.Perm L') (s' : SRK zs) : ys.map kk = zs.map kk :=
  let ⟨e, q⟩ := srt_uniq hl h h' p p' s s'
  kk_ext e q
theorem NRS.yes {ls : List (List Ln)} {b : List Ln} {k : Int} {is : Bool} {zs L' : List (Int × Nat)} (hn : NRS ls b k is) (hl : ls.length ≤ 1000) (h' : KL ls b L') (p' : zs.Perm L') (s' : SRK zs)
    (hz : zs.length ≠ 0) (ho : -9218868437227405312 ≤ sk (zs.getD (0 : Int).toNat (0, 0)).2 ∧ sk (zs.getD (0 : Int).toNat (0, 0)).2 ≤ 9218868437227405312) : k = (zs.getD (0 : Int).toNat (0, 0)).1 ∧ is = true := by
  rcases hn.val hl h' p' s' with ⟨h1, _⟩ | ⟨_, h2⟩
  · rcases h1 with h1 | h1
    · exact absurd h1 hz
    · exact absurd ho h1
  · exact h2
theorem NRS.no {ls : List (List Ln)} {b : List Ln} {k : Int} {is : Bool} {zs L' : List (Int × Nat)} (hn : NRS ls b k is) (hl : ls.length ≤ 1000) (h' : KL ls b L') (p' : zs.Perm L') (s' : SRK zs)
    (hz : zs.length = 0 ∨ ¬ (-9218868437227405312 ≤ sk (zs.getD (0 : Int).toNat (0, 0)).2 ∧ sk (zs.getD (0 : Int).toNat (0, 0)).2 ≤ 9218868437227405312)) : k = 0 ∧ is = false := by
  rcases hn.val hl h' p' s' with ⟨_, h1⟩ | ⟨h1, _⟩
  · exact h1
  · rcases hz with hz | hz
    · exact absurd hz h1.1
    · exact absurd h1.2 hz
/-! ### both ways -/
theorem dist_map {f g : Ln → Int} : ∀ (n : Nat) (a b : List Ln), a.length + b.length ≤ n → (∀ x ∈ a, ∀ y ∈ b, (f x = f y ↔ x = y) ∧ (g x = g y ↔ x = y)) → dist (a.map f) (b.map f) = dist (a.map g) (b.map g)
  | _, [], b, _, _ => by rw [List.map_nil, dist_nil, List.map_nil, dist_nil, List.length_map, List.length_map]
  | _, x :: a, [], _, _ => by rw [List.map_nil, dist_nil_r, List.map_nil, dist_nil_r, List.length_map, List.length_map]
  | 0, x :: a, y :: b, h, _ => by simp at h
  | n + 1, x :: a, y :: b, h, hq => by
    have hxy := hq x (.head _) y (.head _)
    have q1 : ∀ u ∈ a, ∀ v ∈ b, (f u = f v ↔ u = v) ∧ (g u = g v ↔ u = v) := fun u hu v hv => hq u (.tail _ hu) v (.tail _ hv)
    have q2 : ∀ u ∈ a, ∀ v ∈ y :: b, (f u = f v ↔ u = v) ∧ (g u = g v ↔ u = v) := fun u hu v hv => hq u (.tail _ hu) v hv
    have q3 : ∀ u ∈ x :: a, ∀ v ∈ b, (f u = f v ↔ u = v) ∧ (g u = g v ↔ u = v) := fun u hu v hv => hq u hu v (.tail _ hv)
    simp only [List.length_cons] at h
    have e1 := dist_map n a b (by omega) q1
    have e2 := dist_map n a (y :: b) (by simp only [List.length_cons]; omega) q2
    have e3 := dist_map n (x :: a) b (by simp only [List.length_cons]; omega) q3
    simp only [List.map_cons] at e2 e3 ⊢
    by_cases he : x = y
    · subst he; rw [dist_eq, dist_eq, e1]
    · rw [dist_ne (fun h' => he (hxy.1.1 h')), dist_ne (fun h' => he (hxy.2.1 h')), e2, e3]
theorem num_comm (a b : List Ln) : dist (NA a) (NB a b) = dist (NA b) (NB b a) := by
  rw [dist_comm (NA b), NA_phi a b, NB_phi a b, NA_phi b a, NB_phi b a]
  exact dist_map _ a b (Nat.le_refl _) fun x hx y hy => ⟨⟨fun h => phi_inj (.inl hx) (.inr hy) h, fun h => by rw [h]⟩, ⟨fun h => phi_inj (.inr hx) (.inl hy) h, fun h => by rw [h]⟩⟩
theorem CMN_comm (a b : List Ln) : CMN a b = CMN b a := by
  by_cases h : a.length > 400 ∨ b.length > 400
  · unfold CMN; rw [if_pos h, if_pos (by omega)]
  · have h1 := CMN_two h
    have h2 := CMN_two (a := b) (b := a) (by omega)
    have := num_comm a b
    omega
theorem LIK_comm (a b : List Ln) : LIK a b = LIK b a := by
  by_cases h : a.length > 400 ∨ b.length > 400
  · rw [LIK_out h, LIK_out (by omega)]
  · rw [LIK_in h, LIK_in (by omega), CMN_comm, RAT_comm]
theorem LIK_nan {a b : List Ln} {x : Nat} (ha : a.length ≤ 40) (hb : b.length ≤ 40) (h : cn x = LIK a b) : ¬ (-9218868437227405312 ≤ sk x ∧ sk x ≤ 9218868437227405312) ↔ (a.length : Int) + b.length = 0 := by
  have hc := CMN_bd a b
  rw [LIK_in (by omega)] at h
  constructor
  · intro hx
    unfold RAT at h
    by_cases h0 : (a.length : Int) + b.length = 0
    · exact h0
    · rw [if_neg (by omega)] at h
      obtain ⟨p, hp⟩ : ∃ p : Nat, (p : Int) = 2 * CMN a b := ⟨(2 * CMN a b).toNat, by omega⟩
      obtain ⟨q, hq⟩ : ∃ q : Nat, (q : Int) = a.length + b.length := ⟨a.length + b.length, by omega⟩
      rw [← hp, ← hq] at h
      have hq0 : 0 < q := by omega
      have hpq : p ≤ q := by omega
      have hF1 := FI_is (n := p) (by omega)
      have hF2 := FI_is (n := q) (by omega)
      have h0q : 0 < FI q := by
        rcases Nat.eq_zero_or_pos (FI q) with h1 | h1
        · have h4 := hF2.1
          have h2 : 0 < q * 2 ^ 1074 := Nat.mul_pos hq0 (Nat.two_pow_pos 1074)
          have h3 : vl 0 = 0 := by decide
          rw [h1, h3] at h4
          rw [← h4] at h2
          exact absurd h2 (Nat.lt_irrefl _)
        · exact h1
      have hlt : FI p ≤ FI q := by
        have : vl (FI p) ≤ vl (FI q) := by rw [hF1.1, hF2.1]; exact Nat.mul_le_mul_right _ hpq
        rcases Nat.lt_or_ge (FI q) (FI p) with h1 | h1
        · have := vl_lt h1; omega
        · exact h1
      obtain ⟨R, e1, hR⟩ := quo_le (FI_lt (n := p) (by omega)) (FI_lt (n := q) (by omega)) h0q hlt
      rw [show floatBits .quo .f64 (floatOfInt .f64 (p : Int)) (floatOfInt .f64 (q : Int)) = some R from e1] at h
      exact absurd (cn_some h).1 hx
  · intro h0
    have : RAT (CMN a b) a.length b.length = none := by unfold RAT; rw [if_pos (by omega)]
    rw [this] at h
    exact cn_none h
/-- Shares of small numbers, looked at one by one. -/
def shr1 (c s : Nat) : Bool := match floatBits .quo .f64 (floatOfInt .f64 c) (floatOfInt .f64 s) with
  | some z => decide (z = 0 ↔ c = 0) && decide (z = 4607182418800017408 ↔ c = s) && decide (z < 9223372036854775808)
  | none => false
theorem shares : ∀ s < 81, ∀ c < 81, 0 < s → c ≤ s → shr1 c s = true := by decide +kernel
theorem LIK_val {a b : List Ln} {x : Nat} (ha : a.length ≤ 40) (hb : b.length ≤ 40) (h : cn x = LIK a b) (h0 : (a.length : Int) + b.length ≠ 0) : (0 ≤ sk x ∧ sk x ≤ 4607182418800017408) ∧ (sk x = 0 ↔ CMN a b = 0) ∧ (sk x = 4607182418800017408 ↔ 2 * CMN a b = a.length + b.length) := by
  have hc := CMN_bd a b
  have hr := RAT_bd (h.trans (LIK_in (by omega)))
  have hn := LIK_nan ha hb h
  rw [LIK_in (by omega)] at h
  unfold RAT at h
  rw [if_neg (by omega)] at h
  obtain ⟨p, hp⟩ : ∃ p : Nat, (p : Int) = 2 * CMN a b := ⟨(2 * CMN a b).toNat, by omega⟩
  obtain ⟨q, hq⟩ : ∃ q : Nat, (q : Int) = a.length + b.length := ⟨a.length + b.length, by omega⟩
  rw [← hp, ← hq] at h
  have hs := shares q (by omega) p (by omega) (by omega) (by omega)
  unfold shr1 at hs
  split at hs
  · next z hz =>
    rw [show floatBits .quo .f64 (floatOfInt .f64 (p : Int)) (floatOfInt .f64 (q : Int)) = some z from hz] at h
    have e := (cn_some h).2
    subst e
    simp only [Bool.and_eq_true, decide_eq_true_eq] at hs
    have := sk_cases x
    refine ⟨by omega, ?_, ?_⟩ <;> omega
  · cases hs
theorem CMN_all {a b : List Ln} (ha : a.length ≤ 40) (hb : b.length ≤ 40) : 2 * CMN a b = a.length + b.length ↔ a = b := by
  have h2 := CMN_two (a := a) (b := b) (by omega)
  constructor
  · intro h
    have hd : dist (NA a) (NB a b) = 0 := by omega
    have he := dist_zero hd
    have hl : a.length = b.length := by have := congrArg List.length he; rwa [NA_len, NB_len] at this
    refine ext_getD lnD hl fun t t0 t1 => lines_alike t0 t1 t0 (by omega) (by rw [he])
  · intro h
    subst h
    have : dist (NA a) (NB a a) = 0 := by rw [NA_phi a a, NB_phi a a]; exact dist_self _
    omega
/-- Have both a line in common? -/
def com1 (x : Ln) (b : List Ln) : Bool := b.any fun y => decide (x = y)
def comA (a b : List Ln) : Bool := a.any fun x => com1 x b
theorem CMN_none {a b : List Ln} (ha : a.length ≤ 40) (hb : b.length ≤ 40) : CMN a b = 0 ↔ comA a b = false := by
  have h2 := CMN_two (a := a) (b := b) (by omega)
  have la := NA_len a
  have lb := NB_len a b
  constructor
  · intro h
    have hne : ¬ comA a b = true := fun hc => by
      unfold comA com1 at hc
      obtain ⟨x, hx, hc⟩ := List.any_eq_true.1 hc
      obtain ⟨y, hy, hc⟩ := List.any_eq_true.1 hc
      have e : x = y := of_decide_eq_true hc
      subst e
      have s1 : [phi (kvAB a b) x].Sublist (NA a) := by rw [NA_phi a b]; exact List.singleton_sublist.2 (List.mem_map.2 ⟨x, hx, rfl⟩)
      have s2 : [phi (kvAB a b) x].Sublist (NB a b) := by rw [NB_phi a b]; exact List.singleton_sublist.2 (List.mem_map.2 ⟨x, hy, rfl⟩)
      have := dist_le_of s1 s2
      simp only [List.length_cons, List.length_nil] at this
      omega
    cases hq : comA a b
    · rfl
    · exact absurd hq hne
  · intro h
    obtain ⟨l, l1, l2, l3⟩ := dist_ex (NA a) (NB a b)
    cases l with
    | nil => simp only [List.length_nil] at l3; omega
    | cons z l =>
      exfalso
      have m1 := l1.subset (.head _)
      have m2 := l2.subset (.head _)
      rw [NA_phi a b] at m1
      rw [NB_phi a b] at m2
      obtain ⟨x, hx, e1⟩ := List.mem_map.1 m1
      obtain ⟨y, hy, e2⟩ := List.mem_map.1 m2
      have e := phi_inj (.inl hx) (.inr hy) (e1.trans e2.symm)
      subst e
      have : comA a b = true := by
        unfold comA com1
        exact List.any_eq_true.2 ⟨x, hx, List.any_eq_true.2 ⟨x, hy, decide_eq_true rfl⟩⟩
      rw [h] at this; cases this
theorem comA_snoc {a b : List Ln} {i : Int} (h0 : 0 ≤ i) (h1 : i < a.length) : comA (a.take (i + 1).toNat) b = (comA (a.take i.toNat) b || com1 (a.getD i.toNat lnD) b) := by
  rw [Num.take_more lnD h0 h1]; unfold comA; rw [List.any_append]; simp
theorem com1_snoc {x : Ln} {b : List Ln} {k : Int} (h0 : 0 ≤ k) (h1 : k < b.length) : com1 x (b.take (k + 1).toNat) = (com1 x (b.take k.toNat) || decide (x = b.getD k.toNat lnD)) := by
  rw [Num.take_more lnD h0 h1]; unfold com1; rw [List.any_append]; simp
theorem com_bool {p : Prop} [Decidable p] {c : Bool} (h : p ↔ c = false) : (decide p == !c) = true := by
  cases c <;> simp_all
theorem NRS.at {ls : List (List Ln)} {b : List Ln} {k : Int} {is : Bool} (h : NRS ls b k is) (hi : is = true) : 0 ≤ k ∧ k < ls.length ∧ ∃ r, cn r = LIK (ls.getD k.toNat []) b ∧ (-9218868437227405312 ≤ sk r ∧ sk r ≤ 9218868437227405312) := by
  obtain ⟨ys, L, hK, hp, _, h⟩ := h
  rcases h with ⟨_, _, h3⟩ | ⟨⟨h1, h2⟩, h3, _⟩
  · rw [hi] at h3; cases h3
  · obtain ⟨t, t0, t1, e⟩ := mem_getD (d := (0, 0)) (hp.mem_iff.1 (getD_mem (l := ys) (i := (0 : Int).toNat) (d := (0, 0)) (by show 0 < ys.length; omega)))
    have hl := hK.len
    have ha := hK.at_ t t0 (by omega)
    have hk : k = t := by rw [h3, ← e]; exact ha.1
    subst hk
    exact ⟨t0, by omega, _, ha.2.1, by rw [e]; exact h2⟩
theorem NRS.self {ls : List (List Ln)} {b : List Ln} {k i : Int} {is : Bool} (h : NRS ls b k is) (i0 : 0 ≤ i) (i1 : i < ls.length) (hb : ls.getD i.toNat [] = b) (hs : ∀ l ∈ ls, l.length ≤ 40) (hne : b.length ≠ 0) : is = true ∧ 0 ≤ k ∧ k ≤ i ∧ ls.getD k.toNat [] = b := by
  obtain ⟨ys, L, hK, hp, hw, h⟩ := h
  have hl := hK.len
  have hly := hp.length_eq
  have hb4 : b.length ≤ 40 := hb ▸ hs _ (getD_mem (by omega))
  have hi := hK.at_ i i0 i1
  rw [hb] at hi
  have v1 := LIK_val hb4 hb4 hi.2.1 (by omega)
  have hone := v1.2.2.2 (((CMN_all hb4 hb4).2 rfl))
  obtain ⟨t, t0, t1, e⟩ := mem_getD (d := (0, 0)) (hp.mem_iff.1 (getD_mem (l := ys) (i := (0 : Int).toNat) (d := (0, 0)) (by show 0 < ys.length; omega)))
  have ht := hK.at_ t t0 (by omega)
  obtain ⟨j, j0, j1, ej⟩ := mem_getD (d := (0, 0)) (hp.mem_iff.2 (getD_mem (l := L) (i := i.toNat) (d := (0, 0)) (by omega)))
  have hkey : nkk (L.getD t.toNat (0, 0)).2 < nkk (L.getD i.toNat (0, 0)).2 ∨ (nkk (L.getD t.toNat (0, 0)).2 = nkk (L.getD i.toNat (0, 0)).2 ∧ (L.getD t.toNat (0, 0)).1 ≤ (L.getD i.toNat (0, 0)).1) := by
    rcases Int.lt_or_le 0 j with h1 | h1
    · have := srk_at hw (i := 0) (j := j) (by omega) h1 j1
      rw [ej, ← e, lcf_lt] at this
      omega
    · have hj : j = 0 := by omega
      rw [hj] at ej
      rw [e, ej]; omega
  have n1 := nkk_is (L.getD t.toNat (0, 0)).2
  have n2 := nkk_is (L.getD i.toNat (0, 0)).2
  have k1 := tk_is (L.getD t.toNat (0, 0)).2
  have k2 := tk_is (L.getD i.toNat (0, 0)).2
  have ht4 : (ls.getD t.toNat []).length ≤ 40 := hs _ (getD_mem (by omega))
  have v2 := LIK_val ht4 hb4 ht.2.1 (by omega)
  have e3 : ls.getD t.toNat [] = b := (CMN_all ht4 hb4).1 (v2.2.2.1 (by omega))
  rcases h with ⟨h1, _⟩ | ⟨_, h3, h4⟩
  · rw [← e] at h1
    rcases h1 with h1 | h1
    · omega
    · exact absurd (show -9218868437227405312 ≤ sk (L.getD t.toNat (0, 0)).2 ∧ sk (L.getD t.toNat (0, 0)).2 ≤ 9218868437227405312 by omega) h1
  · have hk : k = t := by rw [h3, ← e]; exact ht.1
    subst hk
    exact ⟨h4, t0, by omega, e3⟩
/-! ### each once -/
theorem kl_fst {ls : List (List Ln)} {b : List Ln} {L : List (Int × Nat)} {n : Int} (h : KLn ls b L n) : (L.map (·.1)).Nodup := by
  have hl := h.len
  rw [List.nodup_iff_pairwise_ne, List.pairwise_map, List.pairwise_iff_getElem]
  intro i j hi hj hij
  have h1 := (h.at_ (i : Int) (by omega) (by omega)).1
  have h2 := (h.at_ (j : Int) (by omega) (by omega)).1
  rw [Int.toNat_natCast, List.getD_eq_getElem?_getD, List.getElem?_eq_getElem (by omega), Option.getD_some] at h1 h2
  omega
theorem nodup_count : ∀ {l : List Int}, l.Nodup → ∀ t : Int, l.count t ≤ 1
  | [], _, t => by simp
  | x :: l, h, t => by
    rw [List.nodup_cons] at h
    rw [List.count_cons]
    by_cases hc : x = t
    · subst hc
      have := List.count_eq_zero.2 h.1
      rw [if_pos (by simp)]; omega
    · have := nodup_count h.2 t
      rw [if_neg (by simpa using hc)]; omega
def cntK (ys : List (Int × Nat)) (i t : Int) : Int := (((ys.take i.toNat).map (·.1)).count t : Nat)
theorem cntK_0 (ys : List (Int × Nat)) (t : Int) : cntK ys 0 t = 0 := by simp [cntK]
theorem cntK_bd (ys : List (Int × Nat)) {i : Int} (h : 0 ≤ i) (t : Int) : 0 ≤ cntK ys i t ∧ cntK ys i t ≤ i := by
  unfold cntK
  have h1 := List.count_le_length (a := t) (l := (ys.take i.toNat).map (·.1))
  rw [List.length_map, List.length_take] at h1
  omega
theorem cntK_step {ys : List (Int × Nat)} {i t : Int} (h0 : 0 ≤ i) (h1 : i < ys.length) : cntK ys (i + 1) t = cntK ys i t + if (ys.getD i.toNat (0, 0)).1 = t then 1 else 0 := by
  unfold cntK
  rw [Num.take_more (0, 0) h0 h1, List.map_append, List.count_append]
  simp only [List.map_cons, List.map_nil, List.count_cons, List.count_nil]
  by_cases hc : (ys.getD i.toNat (0, 0)).1 = t
  · rw [if_pos hc, if_pos (by simpa using hc)]; omega
  · rw [if_neg hc, if_neg (by simpa using hc)]; omega
theorem cntK_all {ls : List (List Ln)} {b : List Ln} {L ys : List (Int × Nat)} (h : KL ls b L) (hp : ys.Perm L) {i t : Int} (hi : i = ys.length) (t0 : 0 ≤ t) (t1 : t < ls.length) : cntK ys i t = 1 := by
  have hl := h.len
  unfold cntK
  rw [List.take_of_length_le (by omega)]
  have hm : t ∈ L.map (·.1) := List.mem_map.2 ⟨L.getD t.toNat (0, 0), getD_mem (by omega), (h.at_ t t0 t1).1⟩
  have h1 : (ys.map (·.1)).count t = (L.map (·.1)).count t := (hp.map _).count_eq t
  rw [h1]
  have h2 := List.count_pos_iff.2 hm
  have h3 := nodup_count (kl_fst h) t
  omega
theorem kl_mem {ls : List (List Ln)} {b : List Ln} {L ys : List (Int × Nat)} (h : KL ls b L) (hp : ys.Perm L) {i : Int} (i0 : 0 ≤ i) (i1 : i < ys.length) :
    0 ≤ (ys.getD i.toNat (0, 0)).1 ∧ (ys.getD i.toNat (0, 0)).1 < ls.length ∧ cn (ys.getD i.toNat (0, 0)).2 = LIK (ls.getD (ys.getD i.toNat (0, 0)).1.toNat []) b ∧ (ys.getD i.toNat (0, 0)).2 < 18446744073709551616 := by
  obtain ⟨t, t0, t1, e⟩ := mem_getD (d := (0, 0)) (hp.mem_iff.1 (getD_mem (l := ys) (i := i.toNat) (d := (0, 0)) (by omega)))
  have hl := h.len
  have ha := h.at_ t t0 (by omega)
  rw [← e, ha.1]
  exact ⟨t0, by omega, ha.2.1, ha.2.2⟩
theorem seen_step {ys : List (Int × Nat)} {seen : List Int} {i n : Int} (h0 : 0 ≤ i) (h1 : i < ys.length) (hl : (seen.length : Int) = n) (q : ∀ t : Int, 0 ≤ t → t < n → gI seen t = cntK ys i t) (k0 : 0 ≤ (ys.getD i.toNat (0, 0)).1) (k1 : (ys.getD i.toNat (0, 0)).1 < n) :
    ∀ t : Int, 0 ≤ t → t < n → gI (seen.set (ys.getD i.toNat (0, 0)).1.toNat (gI seen (ys.getD i.toNat (0, 0)).1 + 1)) t = cntK ys (i + 1) t := fun t t0 t1 => by
  rw [cntK_step h0 h1]
  have e : gI (seen.set (ys.getD i.toNat (0, 0)).1.toNat (gI seen (ys.getD i.toNat (0, 0)).1 + 1)) t = if (ys.getD i.toNat (0, 0)).1.toNat = t.toNat then gI seen (ys.getD i.toNat (0, 0)).1 + 1 else gI seen t := getD_set (by omega)
  rw [e]
  by_cases hc : (ys.getD i.toNat (0, 0)).1 = t
  · rw [if_pos (by omega), if_pos hc, q _ k0 k1, hc]
  · rw [if_neg (by omega), if_neg hc, q t t0 t1]; omega
end Go.Rnk
