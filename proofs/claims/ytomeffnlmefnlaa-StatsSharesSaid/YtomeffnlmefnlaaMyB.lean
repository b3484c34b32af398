/- The field of myers, and the way through it. -/
import Derived.Test.YtomeffnlmefnlaaMyA
namespace Go.Mys
open Go.Gv
theorem dist_self (a : List Int) : dist a a = 0 := by have := dist_le_of (List.Sublist.refl a) (List.Sublist.refl a); omega
theorem dist_zero {a b : List Int} (h : dist a b = 0) : a = b := by
  obtain ⟨l, h1, h2, h3⟩ := dist_ex a b
  have l1 := h1.length_le
  have l2 := h2.length_le
  rw [← h1.eq_of_length (by omega), ← h2.eq_of_length (by omega)]
theorem D_00 (a b : List Int) : D a b 0 0 = dist a b := by simp [D]
theorem row0 {a b : List Int} {r : Int} (hla : a.length ≤ 400) (hs : Slid a b a.length ((a.length : Int) - b.length) r) : RowOK a b 0 ((List.replicate (a.length + b.length + 3) (1073741824 : Int)).set ((a.length : Int) - b.length + b.length + 1).toNat r) := by
  have hg : ∀ j : Int, 0 ≤ j → j < a.length + b.length + 3 → gI ((List.replicate (a.length + b.length + 3) (1073741824 : Int)).set ((a.length : Int) - b.length + b.length + 1).toNat r) j = if (a.length : Int) - b.length + b.length + 1 = j then r else 1073741824 := by
    intro j h0 h1
    rw [gI_set (by omega) (by rw [List.length_replicate]; omega) h0]
    have : gI (List.replicate (a.length + b.length + 3) (1073741824 : Int)) j = 1073741824 := by
      have hlt : j.toNat < a.length + b.length + 3 := by omega
      simp [gI, List.getD, hlt]
    rw [this]
  obtain ⟨r0, r1, r2, r3, r4⟩ := hs
  refine ⟨by simp, fun k x h1 h2 hv => ?_, fun k h1 h2 => ?_⟩
  · have hv0 := hv.v0; have hv1 := hv.v1; have hv2 := hv.v2; have hv3 := hv.v3
    rw [hg _ (by omega) (by omega)]
    rcases Decidable.em (k = (a.length : Int) - b.length) with rfl | hk
    · rw [if_pos rfl]
      have e0 := D_slide (a := a) (b := b) (i := r) ((a.length : Int) - b.length) (a.length - r).toNat r0 (by omega) r2 (by omega) fun u hu hu' => r3 u hu (by omega)
      rw [show r + ((a.length - r).toNat : Int) = a.length by omega] at e0
      have e1 := D_end1 (a := a) (b := b) (i := a.length) (j := a.length - ((a.length : Int) - b.length)) rfl (by omega) (by omega)
      constructor
      · intro h
        have m2 := D_mono (a := a) (b := b) (i := r) ((a.length : Int) - b.length) (x - r).toNat r0 (by omega) r2 (by omega)
        rw [show r + ((x - r).toNat : Int) = x by omega] at m2
        omega
      · intro h
        rcases Decidable.em (r ≤ x) with h6 | h6
        · exact h6
        · exfalso
          have m2 := D_mono (a := a) (b := b) (i := x) ((a.length : Int) - b.length) (r - 1 - x).toNat hv0 (by omega) hv1 (by omega)
          rw [show x + ((r - 1 - x).toNat : Int) = r - 1 by omega] at m2
          rcases r4 with r4 | r4 | r4
          · omega
          · omega
          · have := D_ne (a := a) (b := b) (i := r - 1) (j := r - 1 - ((a.length : Int) - b.length)) (by omega) (by omega) (by omega) (by omega) (by rw [show r - 1 - ((a.length : Int) - b.length) = r - ((a.length : Int) - b.length) - 1 by omega]; exact r4)
            omega
    · rw [if_neg (by omega)]
      constructor
      · intro h; exfalso; have := hv.v2; omega
      · intro h
        exfalso
        have h3 : dist (a.drop x.toNat) (b.drop (x - k).toNat) = 0 := by have : D a b x (x - k) = 0 := by omega
                                                                         exact this
        have h4 := congrArg List.length (dist_zero h3)
        rw [List.length_drop, List.length_drop] at h4
        omega
  · rw [hg _ (by omega) (by omega)]
    rcases Decidable.em (k = (a.length : Int) - b.length) with rfl | hk
    · rw [if_pos rfl]
      exact .inr ⟨r0, r2, by omega, by omega⟩
    · rw [if_neg (by omega)]
      exact .inl rfl
/-- The rows, each right. -/
def FieldOK {α : Type} [Inhabited α] (a b : List Int) (rows : List (α × List Int)) : Prop := ∀ s : Nat, s < rows.length → RowOK a b s (rows.getD s default).2
section
variable {α : Type} [Inhabited α] {a b rw : List Int} {rows : List (α × List Int)} {sv : α}
theorem FieldOK.one (h : RowOK a b 0 rw) : FieldOK a b [(sv, rw)] := fun s hs => by
  simp at hs
  subst hs
  exact h
theorem FieldOK.snoc (h : FieldOK a b rows) (h2 : RowOK a b rows.length rw) : FieldOK a b (rows ++ [(sv, rw)]) := fun s hs => by
  rw [List.length_append, List.length_singleton] at hs
  rcases Nat.lt_or_ge s rows.length with h3 | h3
  · have : (rows ++ [(sv, rw)]).getD s default = rows.getD s default := by simp [List.getD, h3, List.getElem?_append_left h3]
    rw [this]
    exact h s h3
  · obtain rfl : s = rows.length := by omega
    simpa [List.getD] using h2
theorem FieldOK.at (h : FieldOK a b rows) {s : Int} (h0 : 0 ≤ s) (h1 : s < rows.length) : RowOK a b s.toNat (rows.getD s.toNat default).2 := h s.toNat (by omega)
theorem FieldOK.last (h : FieldOK a b rows) (h1 : 1 ≤ rows.length) : RowOK a b (rows.length - 1) (rows.getD ((rows.length : Int) - 1).toNat default).2 := by
  have := h (rows.length - 1) (by omega)
  rwa [show ((rows.length : Int) - 1).toNat = rows.length - 1 by omega]
end
theorem RowOK.slot0 {a b row : List Int} {s : Nat} (h : RowOK a b s row) : gI row (0 + b.length + 1) = 0 ↔ D a b 0 0 ≤ s := by
  have h1 := h.ok 0 0 (by omega) (by omega) ⟨by omega, by omega, by omega, by omega⟩
  have h2 := h.rng 0 (by omega) (by omega)
  rw [show (0 : Int) - 0 = 0 by omega] at h1
  rw [← h1]
  rcases h2 with h2 | h2
  · rw [h2]; omega
  · have := h2.v0; omega
end Go.Mys
namespace Go.Mys
open Go.Gv
section
variable {α : Type} {a b rw : List Int} {rows : List (α × List Int)} {sv : α} {r : Int}
theorem fill_init (hla : a.length ≤ 400) (hs : Slid a b a.length ((a.length : Int) - b.length) r) (h : gI ((List.replicate (a.length + b.length + 3) (1073741824 : Int)).set ((a.length : Int) - b.length + b.length + 1).toNat r) (0 + (b.length : Int) + 1) ≠ 0) : 1 ≤ dist a b := by
  have h1 := (row0 hla hs).slot0
  rw [D_00] at h1
  rcases Nat.lt_or_ge 0 (dist a b) with h2 | h2
  · exact h2
  · exact absurd (h1.2 h2) h
theorem fill_fin0 (hla : a.length ≤ 400) (hs : Slid a b a.length ((a.length : Int) - b.length) r) (h : ¬ gI ((List.replicate (a.length + b.length + 3) (1073741824 : Int)).set ((a.length : Int) - b.length + b.length + 1).toNat r) (0 + (b.length : Int) + 1) ≠ 0) : 1 = dist a b + 1 := by
  have h1 := (row0 hla hs).slot0
  rw [D_00] at h1
  have := h1.1 (Decidable.not_not.1 h)
  omega
theorem fill_step (h : RowOK a b rows.length rw) (hc : ¬ gI rw (0 + (b.length : Int) + 1) = 0) : (rows ++ [(sv, rw)]).length ≤ dist a b := by
  have h1 := h.slot0
  rw [D_00] at h1
  rcases Nat.lt_or_ge rows.length (dist a b) with h2 | h2
  · rw [List.length_append, List.length_singleton]; exact h2
  · exact absurd (h1.2 h2) hc
theorem fill_fin (q : rows.length ≤ dist a b) (h : RowOK a b rows.length rw) (hc : ¬ ¬ gI rw (0 + (b.length : Int) + 1) = 0) : (rows ++ [(sv, rw)]).length = dist a b + 1 := by
  have h1 := h.slot0
  rw [D_00] at h1
  have := h1.1 (Decidable.not_not.1 hc)
  simp
  omega
end
end Go.Mys
/-! ### The way -/
namespace Go.Mys
open Go.Gv
def way : List Int → List Int → List Int
  | [], [] => []
  | _ :: xs, [] => 2 :: way xs []
  | [], _ :: ys => 3 :: way [] ys
  | x :: xs, y :: ys => if x = y then 1 :: way xs ys else if dist xs (y :: ys) + 1 ≤ dist (x :: xs) (y :: ys) then 2 :: way xs (y :: ys) else 3 :: way (x :: xs) ys
termination_by xs ys => xs.length + ys.length
/-- The pairs that a way keeps. -/
def prs : List Int → Int → Int → List (Int × Int)
  | [], _, _ => []
  | s :: l, i, j => if s = 1 then (i, j) :: prs l (i + 1) (j + 1) else if s = 2 then prs l (i + 1) j else prs l i (j + 1)
def Wy (a b : List Int) (i j : Int) : List Int := way (a.drop i.toNat) (b.drop j.toNat)
section
variable {a b : List Int} {i j : Int}
theorem Wy_00 (a b : List Int) : Wy a b 0 0 = way a b := by simp [Wy]
theorem Wy_end (h1 : ¬ i < a.length) (h2 : ¬ j < b.length) : Wy a b i j = [] := by
  unfold Wy
  rw [List.drop_of_length_le (by omega), List.drop_of_length_le (by omega), way]
theorem Wy_keep (h0 : 0 ≤ i) (h1 : i < a.length) (h2 : 0 ≤ j) (h3 : j < b.length) (h : gI a i = gI b j) : Wy a b i j = 1 :: Wy a b (i + 1) (j + 1) := by
  unfold Wy
  rw [drop_cons a h0 h1, drop_cons b h2 h3, h, way, if_pos rfl]
theorem Wy_out (h0 : 0 ≤ i) (h1 : i < a.length) (h2 : 0 ≤ j) (h3 : j ≤ b.length) (h : j < b.length → ¬ gI a i = gI b j) (hd : D a b (i + 1) j + 1 ≤ D a b i j) : Wy a b i j = 2 :: Wy a b (i + 1) j ∧ D a b i j = D a b (i + 1) j + 1 := by
  refine ⟨?_, by have := D_1 (a := a) (b := b) (i := i) (j := j) h0 h1; omega⟩
  unfold D at hd
  unfold Wy
  rw [drop_cons a h0 h1] at hd ⊢
  rcases Decidable.em (j < b.length) with h4 | h4
  · rw [drop_cons b h2 h4] at hd ⊢
    rw [way, if_neg (h h4), if_pos hd]
  · rw [List.drop_of_length_le (l := b) (by omega), way]
theorem Wy_in (h0 : 0 ≤ i) (h1 : i ≤ a.length) (h2 : 0 ≤ j) (h3 : j ≤ b.length) (h4 : i < a.length ∨ j < b.length) (h : i < a.length → j < b.length → ¬ gI a i = gI b j) (hd : i < a.length → ¬ D a b (i + 1) j + 1 ≤ D a b i j) :
    j < b.length ∧ Wy a b i j = 3 :: Wy a b i (j + 1) ∧ D a b i j = D a b i (j + 1) + 1 := by
  have hj : j < b.length := by
    rcases Decidable.em (j < b.length) with h5 | h5
    · exact h5
    · exfalso
      have e1 := D_end2 (a := a) (b := b) (i := i) (j := j) (by omega) h0 h1
      have e2 := D_end2 (a := a) (b := b) (i := i + 1) (j := j) (by omega) (by omega) (by omega)
      have := hd (by omega)
      omega
  refine ⟨hj, ?_, ?_⟩
  · rcases Decidable.em (i < a.length) with h5 | h5
    · have hd' := hd h5
      unfold D at hd'
      unfold Wy
      rw [drop_cons a h0 h5, drop_cons b h2 hj] at hd' ⊢
      rw [way, if_neg (h h5 hj), if_neg hd']
    · unfold Wy
      rw [List.drop_of_length_le (l := a) (by omega), drop_cons b h2 hj, way]
  · rcases Decidable.em (i < a.length) with h5 | h5
    · have := D_ne (a := a) (b := b) h0 h5 h2 hj (h h5 hj)
      have := hd h5
      omega
    · have e1 := D_end1 (a := a) (b := b) (i := i) (j := j) (by omega) h2 h3
      have e2 := D_end1 (a := a) (b := b) (i := i) (j := j + 1) (by omega) (by omega) (by omega)
      omega
end
/-- What 'within' tells. -/
theorem within_D {α : Type} [Inhabited α] {a b : List Int} {rows : List (α × List Int)} (h : FieldOK a b rows) {i j s : Int} (h0 : 0 ≤ i) (h1 : i ≤ a.length) (h2 : 0 ≤ j) (h3 : j ≤ b.length) (hs : s < rows.length) :
    (0 ≤ s ∧ i ≥ gI (rows.getD s.toNat default).2 (i - j + b.length + 1)) ↔ ((D a b i j : Int) ≤ s) := by
  constructor
  · rintro ⟨h4, h5⟩
    have := ((h.at h4 hs).ok (i - j) i (by omega) (by omega) ⟨by omega, by omega, by omega, by omega⟩).1 h5
    rw [show i - (i - j) = j by omega] at this
    omega
  · intro h4
    refine ⟨by omega, ?_⟩
    refine ((h.at (s := s) (by omega) hs).ok (i - j) i (by omega) (by omega) ⟨by omega, by omega, by omega, by omega⟩).2 ?_
    rw [show i - (i - j) = j by omega]
    omega
end Go.Mys
namespace Go.Mys
def Dst (a b : List Int) : Int := if a.length > 400 ∨ b.length > 400 then 0 else dist a b
def Stp (a b : List Int) : List Int := if a.length > 400 ∨ b.length > 400 then [] else way a b
theorem Dst_bd (a b : List Int) : 0 ≤ Dst a b ∧ Dst a b ≤ 800 := by
  unfold Dst
  have := dist_bound a b
  split <;> omega
def Prs (a b : List Int) : List (Int × Int) := if a.length > 400 ∨ b.length > 400 then [] else prs (way a b) 0 0
end Go.Mys
namespace Go.Mys
theorem live_s : Stp [1, 2, 3] [2, 4] = [2, 1, 2, 3] := by simp [Stp, way, dist]
theorem live_p : Prs [1, 2] [2] = [(1, 0)] := by simp [Prs, way, dist, prs]
theorem live_d : Dst [1] [] = 1 := by simp [Dst, dist]
end Go.Mys
/-! ### What the laws say -/
namespace Go.Mys
theorem Dst_comm (a b : List Int) : Dst a b = Dst b a := by
  unfold Dst
  rw [dist_comm]
  by_cases h : a.length > 400 ∨ b.length > 400
  · rw [if_pos h, if_pos h.symm]
  · rw [if_neg h, if_neg fun h' => h h'.symm]
theorem Dst_small {a b : List Int} (ha : a.length ≤ 400) (hb : b.length ≤ 400) : Dst a b = dist a b := by unfold Dst; rw [if_neg (by omega)]
theorem metric0 (a b : List Int) (ha : a.length ≤ 400) (hb : b.length ≤ 400) : (decide (Dst a b = 0) == decide (a = b)) = true := by
  rw [Dst_small ha hb]
  by_cases h : a = b
  · subst h; simp [dist_self]
  · have : ¬ dist a b = 0 := fun h' => h (dist_zero h')
    simp [h]; omega
/-- Two rows within a third one have much in common. -/
theorem common_sub : ∀ (b l m : List Int), l.Sublist b → m.Sublist b → ∃ k : List Int, k.Sublist l ∧ k.Sublist m ∧ l.length + m.length ≤ b.length + k.length
  | [], l, m, hl, hm => ⟨[], List.nil_sublist _, List.nil_sublist _, by
      have := hl.length_le; have := hm.length_le; simp only [List.length_nil] at *; omega⟩
  | x :: b, l, m, hl, hm => by
    rcases List.sublist_cons_iff.1 hl with hl' | ⟨l', rfl, hl'⟩
    · rcases List.sublist_cons_iff.1 hm with hm' | ⟨m', rfl, hm'⟩
      · obtain ⟨k, h1, h2, h3⟩ := common_sub b l m hl' hm'
        exact ⟨k, h1, h2, by simp only [List.length_cons]; omega⟩
      · obtain ⟨k, h1, h2, h3⟩ := common_sub b l m' hl' hm'
        exact ⟨k, h1, h2.cons x, by simp only [List.length_cons]; omega⟩
    · rcases List.sublist_cons_iff.1 hm with hm' | ⟨m', rfl, hm'⟩
      · obtain ⟨k, h1, h2, h3⟩ := common_sub b l' m hl' hm'
        exact ⟨k, h1.cons x, h2, by simp only [List.length_cons]; omega⟩
      · obtain ⟨k, h1, h2, h3⟩ := common_sub b l' m' hl' hm'
        exact ⟨x :: k, h1.cons_cons x, h2.cons_cons x, by simp only [List.length_cons]; omega⟩
theorem dist_tri (a b c : List Int) : dist a c ≤ dist a b + dist b c := by
  obtain ⟨l, h1, h2, h3⟩ := dist_ex a b
  obtain ⟨m, h4, h5, h6⟩ := dist_ex b c
  obtain ⟨k, h7, h8, h9⟩ := common_sub b l m h2 h4
  have := dist_le_of (h7.trans h1) (h8.trans h5)
  have := h1.length_le
  have := h2.length_le
  have := h4.length_le
  have := h5.length_le
  omega
theorem Dst_tri (a b c : List Int) (ha : a.length ≤ 400) (hb : b.length ≤ 400) (hc : c.length ≤ 400) : Dst a c ≤ Dst a b + Dst b c := by
  rw [Dst_small ha hb, Dst_small ha hc, Dst_small hb hc]
  have := dist_tri a b c
  omega
end Go.Mys
