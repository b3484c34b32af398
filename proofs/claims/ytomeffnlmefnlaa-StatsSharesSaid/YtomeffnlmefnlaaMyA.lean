/- Plain words on rows of numbers: the distance, and what the walks of myers say. -/
import Derived.Test.YtomeffnlmefnlaaGvG
namespace Go.Mys
open Go.Gv
/-- The distance of two rows. -/
def dist : List Int → List Int → Nat
  | [], ys => ys.length
  | x :: xs, [] => xs.length + 1
  | x :: xs, y :: ys => if x = y then dist xs ys else 1 + min (dist xs (y :: ys)) (dist (x :: xs) ys)
termination_by xs ys => xs.length + ys.length

theorem dist_nil (ys : List Int) : dist [] ys = ys.length := by unfold dist; rfl
theorem dist_nil_r (xs : List Int) : dist xs [] = xs.length := by cases xs <;> simp [dist]
theorem dist_eq (x : Int) (xs ys : List Int) : dist (x :: xs) (x :: ys) = dist xs ys := by rw [dist]; simp
theorem dist_ne {x y : Int} (h : x ≠ y) (xs ys : List Int) : dist (x :: xs) (y :: ys) = 1 + min (dist xs (y :: ys)) (dist (x :: xs) ys) := by rw [dist]; simp [h]

theorem tail_sub {z x : Int} {l xs : List Int} (h : (z :: l).Sublist (x :: xs)) : l.Sublist xs := by
  rcases List.sublist_cons_iff.1 h with h | ⟨r, e, h⟩
  · exact (List.sublist_cons_self z l).trans h
  · injection e with _ e; exact e ▸ h
/-- What both keep is never longer than the distance lets it be. -/
theorem dist_upper : ∀ (n : Nat) (a b l : List Int), a.length + b.length ≤ n → l.Sublist a → l.Sublist b → 2 * l.length + dist a b ≤ a.length + b.length := by
  intro n
  induction n with
  | zero =>
    intro a b l hn ha hb
    have : a = [] := List.eq_nil_of_length_eq_zero (by omega)
    have : b = [] := List.eq_nil_of_length_eq_zero (by omega)
    subst_vars
    have h1 := ha.length_le
    rw [dist_nil]
    simp only [List.length_nil] at h1 ⊢
    omega
  | succ n ih =>
    intro a b l hn ha hb
    match a, b with
    | [], b => have h1 := ha.length_le; rw [dist_nil]; simp only [List.length_nil] at h1 ⊢; omega
    | x :: xs, [] => have h1 := hb.length_le; rw [dist_nil_r]; simp only [List.length_nil] at h1 ⊢; omega
    | x :: xs, y :: ys =>
      simp only [List.length_cons] at hn ⊢
      by_cases hxy : x = y
      · subst hxy
        rw [dist_eq]
        cases l with
        | nil => have := ih xs ys [] (by omega) (List.nil_sublist _) (List.nil_sublist _); simp at *; omega
        | cons z l => have := ih xs ys l (by omega) (tail_sub ha) (tail_sub hb); simp at *; omega
      · rw [dist_ne hxy]
        rcases List.sublist_cons_iff.1 ha with h | ⟨r, rfl, h⟩
        · have := ih xs (y :: ys) l (by simp; omega) h hb
          simp only [List.length_cons] at this
          omega
        · rcases List.sublist_cons_iff.1 hb with h' | ⟨r', e, h'⟩
          · have := ih (x :: xs) ys (x :: r) (by simp; omega) ha h'
            simp only [List.length_cons] at this ⊢
            omega
          · injection e with e _; exact absurd e hxy
/-- And there is one that is as long. -/
theorem dist_lower : ∀ (n : Nat) (a b : List Int), a.length + b.length ≤ n → ∃ l : List Int, l.Sublist a ∧ l.Sublist b ∧ a.length + b.length = dist a b + 2 * l.length := by
  intro n
  induction n with
  | zero =>
    intro a b hn
    have : a = [] := List.eq_nil_of_length_eq_zero (by omega)
    have : b = [] := List.eq_nil_of_length_eq_zero (by omega)
    subst_vars
    exact ⟨[], List.nil_sublist _, List.nil_sublist _, by simp [dist]⟩
  | succ n ih =>
    intro a b hn
    match a, b with
    | [], b => exact ⟨[], List.nil_sublist _, List.nil_sublist _, by simp [dist]⟩
    | x :: xs, [] => exact ⟨[], List.nil_sublist _, List.nil_sublist _, by simp [dist]⟩
    | x :: xs, y :: ys =>
      simp only [List.length_cons] at hn ⊢
      by_cases hxy : x = y
      · subst hxy
        obtain ⟨l, h1, h2, h3⟩ := ih xs ys (by omega)
        exact ⟨x :: l, h1.cons_cons x, h2.cons_cons x, by rw [dist_eq]; simp; omega⟩
      · rw [dist_ne hxy]
        rcases Nat.le_total (dist xs (y :: ys)) (dist (x :: xs) ys) with h | h
        · obtain ⟨l, h1, h2, h3⟩ := ih xs (y :: ys) (by simp; omega)
          refine ⟨l, h1.cons x, h2, ?_⟩
          simp only [List.length_cons] at h3
          omega
        · obtain ⟨l, h1, h2, h3⟩ := ih (x :: xs) ys (by simp; omega)
          refine ⟨l, h1, h2.cons y, ?_⟩
          simp only [List.length_cons] at h3
          omega
theorem dist_le_of {a b l : List Int} (h1 : l.Sublist a) (h2 : l.Sublist b) : 2 * l.length + dist a b ≤ a.length + b.length := dist_upper _ a b l (Nat.le_refl _) h1 h2
theorem dist_ex (a b : List Int) : ∃ l : List Int, l.Sublist a ∧ l.Sublist b ∧ a.length + b.length = dist a b + 2 * l.length := dist_lower _ a b (Nat.le_refl _)
theorem dist_cons_l (x : Int) (xs ys : List Int) : dist (x :: xs) ys ≤ 1 + dist xs ys := by
  obtain ⟨l, h1, h2, h3⟩ := dist_ex xs ys
  have := dist_le_of (h1.cons x) h2
  simp only [List.length_cons] at this
  omega
theorem dist_cons_r (y : Int) (xs ys : List Int) : dist xs (y :: ys) ≤ 1 + dist xs ys := by
  obtain ⟨l, h1, h2, h3⟩ := dist_ex xs ys
  have := dist_le_of h1 (h2.cons y)
  simp only [List.length_cons] at this
  omega
theorem dist_diag (x y : Int) (xs ys : List Int) : dist xs ys ≤ dist (x :: xs) (y :: ys) := by
  obtain ⟨l, h1, h2, h3⟩ := dist_ex (x :: xs) (y :: ys)
  cases l with
  | nil =>
    have := dist_le_of (List.nil_sublist xs) (List.nil_sublist ys)
    simp only [List.length_cons, List.length_nil] at *
    omega
  | cons z l =>
    have := dist_le_of (tail_sub h1) (tail_sub h2)
    simp only [List.length_cons] at *
    omega
theorem dist_bound (a b : List Int) : dist a b ≤ a.length + b.length := by have := dist_le_of (List.nil_sublist a) (List.nil_sublist b); simp at this; omega
theorem dist_comm (a b : List Int) : dist a b = dist b a := by
  obtain ⟨l, h1, h2, h3⟩ := dist_ex a b
  obtain ⟨l', h1', h2', h3'⟩ := dist_ex b a
  have := dist_le_of h2 h1
  have := dist_le_of h2' h1'
  omega

/-! ### The distance of what is left -/
def D (a b : List Int) (i j : Int) : Nat := dist (a.drop i.toNat) (b.drop j.toNat)
section
variable {a b : List Int} {i j : Int}
theorem drop_cons (a : List Int) {i : Int} (h0 : 0 ≤ i) (h1 : i < a.length) : a.drop i.toNat = gI a i :: a.drop (i + 1).toNat := by
  have hlt : i.toNat < a.length := by omega
  rw [show (i + 1).toNat = i.toNat + 1 by omega, List.drop_eq_getElem_cons hlt]
  simp [gI, List.getD, hlt]
theorem D_end1 (h1 : i = a.length) (h2 : 0 ≤ j) (h3 : j ≤ b.length) : (D a b i j : Int) = b.length - j := by
  unfold D
  rw [h1, Int.toNat_natCast, List.drop_length, dist_nil, List.length_drop]
  omega
theorem D_end2 (h1 : j = b.length) (h2 : 0 ≤ i) (h3 : i ≤ a.length) : (D a b i j : Int) = a.length - i := by
  unfold D
  rw [h1, Int.toNat_natCast, List.drop_length, dist_nil_r, List.length_drop]
  omega
theorem D_eq (h0 : 0 ≤ i) (h1 : i < a.length) (h2 : 0 ≤ j) (h3 : j < b.length) (h : gI a i = gI b j) : D a b i j = D a b (i + 1) (j + 1) := by
  unfold D
  rw [drop_cons a h0 h1, drop_cons b h2 h3, h, dist_eq]
theorem D_ne (h0 : 0 ≤ i) (h1 : i < a.length) (h2 : 0 ≤ j) (h3 : j < b.length) (h : gI a i ≠ gI b j) : D a b i j = 1 + min (D a b (i + 1) j) (D a b i (j + 1)) := by
  unfold D
  rw [drop_cons a h0 h1, drop_cons b h2 h3, dist_ne h]
theorem D_1 (h0 : 0 ≤ i) (h1 : i < a.length) : D a b i j ≤ 1 + D a b (i + 1) j := by
  unfold D
  rw [drop_cons a h0 h1]
  exact dist_cons_l _ _ _
theorem D_2 (h2 : 0 ≤ j) (h3 : j < b.length) : D a b i j ≤ 1 + D a b i (j + 1) := by
  unfold D
  rw [drop_cons b h2 h3]
  exact dist_cons_r _ _ _
theorem D_diag (h0 : 0 ≤ i) (h1 : i < a.length) (h2 : 0 ≤ j) (h3 : j < b.length) : D a b (i + 1) (j + 1) ≤ D a b i j := by
  unfold D
  rw [drop_cons a h0 h1, drop_cons b h2 h3]
  exact dist_diag _ _ _ _
theorem D_mono (k : Int) : ∀ (t : Nat), 0 ≤ i → i + t ≤ a.length → k ≤ i → i + t - k ≤ b.length → D a b (i + t) (i + t - k) ≤ D a b i (i - k)
  | 0, _, _, _, _ => by simp
  | t + 1, h0, h1, h2, h3 => by
    have := D_mono k t h0 (by omega) h2 (by omega)
    have h4 := D_diag (a := a) (b := b) (i := i + t) (j := i + t - k) (by omega) (by omega) (by omega) (by omega)
    rw [show i + ((t + 1 : Nat) : Int) = i + t + 1 by omega, show i + t + 1 - k = i + t - k + 1 by omega]
    omega
theorem D_slide (k : Int) : ∀ (t : Nat), 0 ≤ i → i + t ≤ a.length → k ≤ i → i + t - k ≤ b.length → (∀ u, i ≤ u → u < i + t → gI a u = gI b (u - k)) → D a b i (i - k) = D a b (i + t) (i + t - k)
  | 0, _, _, _, _, _ => by simp
  | t + 1, h0, h1, h2, h3, h4 => by
    rw [D_slide k t h0 (by omega) h2 (by omega) fun u h h' => h4 u h (by omega)]
    rw [D_eq (by omega) (by omega) (by omega) (by omega) (h4 (i + t) (by omega) (by omega))]
    rw [show i + ((t + 1 : Nat) : Int) = i + t + 1 by omega, show i + t + 1 - k = i + t - k + 1 by omega]
end

/-- What slide tells. -/
def Slid (a b : List Int) (x k r : Int) : Prop :=
  0 ≤ r ∧ r ≤ x ∧ k ≤ r ∧ (∀ t, r ≤ t → t < x → gI a t = gI b (t - k)) ∧ (r = 0 ∨ r = k ∨ gI a (r - 1) ≠ gI b (r - k - 1))
theorem Slid.step {a b : List Int} {x k y : Int} (h : ∀ t, y ≤ t → t < x → gI a t = gI b (t - k)) (he : gI a (y - 1) = gI b (y - k - 1)) : ∀ t, y - 1 ≤ t → t < x → gI a t = gI b (t - k) := fun t h1 h2 => by
  rcases Decidable.em (t < y) with h3 | h3
  · obtain rfl : t = y - 1 := by omega
    rw [show y - 1 - k = y - k - 1 by omega]
    exact he
  · exact h t (by omega) h2

/-! ### A row of the field -/
structure Valid (a b : List Int) (k x : Int) : Prop where
  v0 : 0 ≤ x
  v1 : k ≤ x
  v2 : x ≤ a.length
  v3 : x - k ≤ b.length
def Rng (a b : List Int) (k v : Int) : Prop := v = 1073741824 ∨ Valid a b k v
structure RowOK (a b : List Int) (s : Nat) (row : List Int) : Prop where
  len : row.length = a.length + b.length + 3
  ok : ∀ k x : Int, -(b.length : Int) - 1 ≤ k → k ≤ a.length + 1 → Valid a b k x → (gI row (k + b.length + 1) ≤ x ↔ D a b x (x - k) ≤ s)
  rng : ∀ k : Int, -(b.length : Int) - 1 ≤ k → k ≤ a.length + 1 → Rng a b k (gI row (k + b.length + 1))

/-- What the two roads on from a diagonal offer. -/
def cand1 (a b last : List Int) (k : Int) : Int :=
  if max (gI last (k + 1 + b.length + 1) - 1) (max 0 k) < a.length ∧ max (gI last (k + 1 + b.length + 1) - 1) (max 0 k) - k ≤ b.length then max (gI last (k + 1 + b.length + 1) - 1) (max 0 k) else 1073741824
def cand2 (a b last : List Int) (k : Int) : Int :=
  if max (gI last (k - 1 + b.length + 1)) (max 0 k) ≤ a.length ∧ max (gI last (k - 1 + b.length + 1)) (max 0 k) - k < b.length then min (cand1 a b last k) (max (gI last (k - 1 + b.length + 1)) (max 0 k)) else cand1 a b last k

theorem step_main {a b last : List Int} {s : Nat} {k r : Int} (hL : RowOK a b s last) (hla : a.length ≤ 400) (hlb : b.length ≤ 400) (h1 : -(b.length : Int) ≤ k) (h2 : k ≤ a.length)
    (hr : cand2 a b last k < 1073741824 → Slid a b (cand2 a b last k) k r) :
    ∀ (d : Nat) (x : Int), a.length - x = d → Valid a b k x → (D a b x (x - k) ≤ s + 1 ↔ (gI last (k + b.length + 1) ≤ x ∨ (cand2 a b last k < 1073741824 ∧ r ≤ x))) := by
  have hk1 := hL.rng (k + 1) (by omega) (by omega)
  have hk2 := hL.rng (k - 1) (by omega) (by omega)
  have hvx : cand2 a b last k < 1073741824 → Valid a b k (cand2 a b last k) ∧ D a b (cand2 a b last k) (cand2 a b last k - k) ≤ s + 1 := by
    intro hlt
    have key1 : cand1 a b last k < 1073741824 → Valid a b k (cand1 a b last k) ∧ D a b (cand1 a b last k) (cand1 a b last k - k) ≤ s + 1 := by
      intro hlt1
      unfold cand1 at hlt1 ⊢
      split at hlt1
      · rename_i hc
        rw [if_pos hc]
        generalize hy : max (gI last (k + 1 + b.length + 1) - 1) (max 0 k) = y at *
        have hv : Valid a b k y := ⟨by omega, by omega, by omega, by omega⟩
        refine ⟨hv, ?_⟩
        have h3 := (hL.ok (k + 1) (y + 1) (by omega) (by omega) ⟨by omega, by omega, by omega, by omega⟩).1 (by omega)
        rw [show y + 1 - (k + 1) = y - k by omega] at h3
        have h4 := D_1 (a := a) (b := b) (i := y) (j := y - k) hv.v0 (by omega)
        omega
      · omega
    unfold cand2 at hlt ⊢
    split at hlt
    · rename_i hc
      rw [if_pos hc]
      generalize hy : max (gI last (k - 1 + b.length + 1)) (max 0 k) = y at *
      rcases Decidable.em (cand1 a b last k ≤ y) with h | h
      · rw [show min (cand1 a b last k) y = cand1 a b last k by omega] at hlt ⊢
        exact key1 hlt
      · rw [show min (cand1 a b last k) y = y by omega] at hlt ⊢
        have hv : Valid a b k y := ⟨by omega, by omega, by omega, by omega⟩
        refine ⟨hv, ?_⟩
        have h3 := (hL.ok (k - 1) y (by omega) (by omega) ⟨by omega, by omega, by omega, by omega⟩).1 (by omega)
        rw [show y - (k - 1) = y - k + 1 by omega] at h3
        have h4 := D_2 (a := a) (b := b) (i := y) (j := y - k) (by omega) (by omega)
        omega
    · rename_i hc
      rw [if_neg hc]
      exact key1 hlt
  -- the two roads on
  have road1 : ∀ x, Valid a b k x → x < a.length → D a b (x + 1) (x - k) ≤ s → cand2 a b last k < 1073741824 ∧ r ≤ x := by
    intro x hv hx hd
    have h3 := (hL.ok (k + 1) (x + 1) (by omega) (by omega) ⟨by have := hv.v0; omega, by have := hv.v1; omega, by omega, by have := hv.v3; omega⟩).2 (by rw [show x + 1 - (k + 1) = x - k by omega]; exact hd)
    have c1 : cand1 a b last k ≤ x := by
      have := hv.v0; have := hv.v1; have := hv.v3
      unfold cand1
      rw [if_pos (by omega)]
      omega
    have c2 : cand2 a b last k ≤ x := by unfold cand2; split <;> omega
    have hx2 := hv.v2
    have hlt : cand2 a b last k < 1073741824 := by omega
    have := hr hlt
    exact ⟨hlt, by have := this.2.1; omega⟩
  have road2 : ∀ x, Valid a b k x → x - k < b.length → D a b x (x - k + 1) ≤ s → cand2 a b last k < 1073741824 ∧ r ≤ x := by
    intro x hv hx hd
    have h3 := (hL.ok (k - 1) x (by omega) (by omega) ⟨hv.v0, by have := hv.v1; omega, hv.v2, by omega⟩).2 (by rw [show x - (k - 1) = x - k + 1 by omega]; exact hd)
    have c2 : cand2 a b last k ≤ x := by
      have := hv.v0; have := hv.v1; have := hv.v2
      unfold cand2
      rw [if_pos (by omega)]
      omega
    have hx2 := hv.v2
    have hlt : cand2 a b last k < 1073741824 := by omega
    have := hr hlt
    exact ⟨hlt, by have := this.2.1; omega⟩
  intro d
  induction d with
  | zero =>
    intro x hd hv
    have hxn : x = a.length := by omega
    have hv0 := hv.v0; have hv1 := hv.v1; have hv3 := hv.v3
    constructor
    · intro h
      rcases Decidable.em (x - k = b.length) with hj | hj
      · left
        refine (hL.ok k x (by omega) (by omega) hv).2 ?_
        have := D_end1 (a := a) (b := b) (i := x) (j := x - k) hxn (by omega) hv3
        omega
      · right
        refine road2 x hv (by omega) ?_
        have e1 := D_end1 (a := a) (b := b) (i := x) (j := x - k) hxn (by omega) hv3
        have e2 := D_end1 (a := a) (b := b) (i := x) (j := x - k + 1) hxn (by omega) (by omega)
        omega
    · rintro (h | ⟨hlt, h⟩)
      · have := (hL.ok k x (by omega) (by omega) hv).1 h
        omega
      · obtain ⟨q1, q2⟩ := hvx hlt
        obtain ⟨r0, r1, r2, r3, _⟩ := hr hlt
        have w1 := q1.v2; have w2 := q1.v3
        have m1 := D_slide (a := a) (b := b) (i := r) k (cand2 a b last k - r).toNat r0 (by omega) r2 (by omega) fun u hu hu' => r3 u hu (by omega)
        rw [show r + ((cand2 a b last k - r).toNat : Int) = cand2 a b last k by omega] at m1
        have m2 := D_mono (a := a) (b := b) (i := r) k (x - r).toNat r0 (by omega) r2 (by omega)
        rw [show r + ((x - r).toNat : Int) = x by omega] at m2
        omega
  | succ d ih =>
    intro x hd hv
    have hv0 := hv.v0; have hv1 := hv.v1; have hv3 := hv.v3
    constructor
    · intro h
      rcases Decidable.em (x - k = b.length) with hj | hj
      · right
        refine road1 x hv (by omega) ?_
        have e1 := D_end2 (a := a) (b := b) (i := x) (j := x - k) hj (by omega) (by omega)
        have e2 := D_end2 (a := a) (b := b) (i := x + 1) (j := x - k) hj (by omega) (by omega)
        omega
      · rcases Decidable.em (gI a x = gI b (x - k)) with he | he
        · have e1 := D_eq (a := a) (b := b) (i := x) (j := x - k) (by omega) (by omega) (by omega) (by omega) he
          have hv' : Valid a b k (x + 1) := ⟨by omega, by omega, by omega, by omega⟩
          have h5 := (ih (x + 1) (by omega) hv').1 (by rw [show x + 1 - k = x - k + 1 by omega]; omega)
          rcases h5 with h5 | ⟨hlt, h5⟩
          · left
            have h6 := (hL.ok k (x + 1) (by omega) (by omega) hv').1 h5
            rw [show x + 1 - k = x - k + 1 by omega] at h6
            exact (hL.ok k x (by omega) (by omega) hv).2 (by omega)
          · right
            refine ⟨hlt, ?_⟩
            obtain ⟨r0, r1, r2, r3, r4⟩ := hr hlt
            rcases Decidable.em (r ≤ x) with h6 | h6
            · exact h6
            · obtain rfl : r = x + 1 := by omega
              rcases r4 with r4 | r4 | r4
              · omega
              · omega
              · rw [show x + 1 - 1 = x by omega, show x + 1 - k - 1 = x - k by omega] at r4
                exact absurd he r4
        · have e1 := D_ne (a := a) (b := b) (i := x) (j := x - k) (by omega) (by omega) (by omega) (by omega) he
          right
          rcases Nat.le_total (D a b (x + 1) (x - k)) (D a b x (x - k + 1)) with h6 | h6
          · exact road1 x hv (by omega) (by omega)
          · exact road2 x hv (by omega) (by omega)
    · rintro (h | ⟨hlt, h⟩)
      · have := (hL.ok k x (by omega) (by omega) hv).1 h
        omega
      · obtain ⟨q1, q2⟩ := hvx hlt
        obtain ⟨r0, r1, r2, r3, _⟩ := hr hlt
        have w1 := q1.v2; have w2 := q1.v3
        have m1 := D_slide (a := a) (b := b) (i := r) k (cand2 a b last k - r).toNat r0 (by omega) r2 (by omega) fun u hu hu' => r3 u hu (by omega)
        rw [show r + ((cand2 a b last k - r).toNat : Int) = cand2 a b last k by omega] at m1
        have m2 := D_mono (a := a) (b := b) (i := r) k (x - r).toNat r0 (by omega) r2 (by omega)
        rw [show r + ((x - r).toNat : Int) = x by omega] at m2
        omega

/-- A new row, as far as diagonal k. -/
structure StepInv (a b : List Int) (s : Nat) (last rw : List Int) (k : Int) : Prop where
  len : rw.length = a.length + b.length + 3
  done : ∀ k' x : Int, -(b.length : Int) ≤ k' → k' < k → Valid a b k' x → (gI rw (k' + b.length + 1) ≤ x ↔ D a b x (x - k') ≤ s + 1)
  rng : ∀ k' : Int, -(b.length : Int) ≤ k' → k' < k → Rng a b k' (gI rw (k' + b.length + 1))
  todo : ∀ j : Int, j = 0 ∨ k + b.length + 1 ≤ j → j < a.length + b.length + 3 → gI rw j = gI last j
theorem StepInv.init {a b last : List Int} {s : Nat} (h : RowOK a b s last) : StepInv a b s last last (-(b.length : Int)) :=
  ⟨h.len, fun k' x h1 h2 => by omega, fun k' h1 h2 => by omega, fun _ _ _ => rfl⟩
theorem StepInv.skip {a b last rw : List Int} {s : Nat} {k : Int} (h : StepInv a b s last rw k) (hL : RowOK a b s last) (hla : a.length ≤ 400) (hlb : b.length ≤ 400) (h1 : -(b.length : Int) ≤ k) (h2 : k ≤ a.length)
    (hf : ¬ cand2 a b last k < 1073741824) : StepInv a b s last rw (k + 1) := by
  have hk : gI rw (k + b.length + 1) = gI last (k + b.length + 1) := h.todo _ (.inr (by omega)) (by omega)
  refine ⟨h.len, fun k' x h3 h4 hv => ?_, fun k' h3 h4 => ?_, fun j hj hj2 => h.todo j (by omega) hj2⟩
  · rcases Decidable.em (k' = k) with rfl | hne
    · rw [hk]
      have := step_main (r := 0) hL hla hlb h1 h2 (fun h => absurd h hf) (a.length - x).toNat x (by have := hv.v2; omega) hv
      rw [this]
      exact ⟨fun h => .inl h, fun h => h.resolve_right fun h => hf h.1⟩
    · exact h.done k' x h3 (by omega) hv
  · rcases Decidable.em (k' = k) with rfl | hne
    · rw [hk]; exact hL.rng k' (by omega) (by omega)
    · exact h.rng k' h3 (by omega)
theorem StepInv.put {a b last rw : List Int} {s : Nat} {k r : Int} (h : StepInv a b s last rw k) (hL : RowOK a b s last) (hla : a.length ≤ 400) (hlb : b.length ≤ 400) (h1 : -(b.length : Int) ≤ k) (h2 : k ≤ a.length)
    (hf : cand2 a b last k < 1073741824) (hx2 : cand2 a b last k ≤ a.length) (hx3 : cand2 a b last k - k ≤ b.length) (hr : Slid a b (cand2 a b last k) k r) : StepInv a b s last (rw.set (k + b.length + 1).toNat (min (gI rw (k + b.length + 1)) r)) (k + 1) := by
  have hk : gI rw (k + b.length + 1) = gI last (k + b.length + 1) := h.todo _ (.inr (by omega)) (by omega)
  have hlen : ((k + b.length + 1) : Int) < rw.length := by rw [h.len]; omega
  have hset : ∀ j v, 0 ≤ j → gI (rw.set (k + b.length + 1).toNat v) j = if k + b.length + 1 = j then v else gI rw j := fun j v hj => gI_set (by omega) hlen hj
  refine ⟨by rw [List.length_set]; exact h.len, fun k' x h3 h4 hv => ?_, fun k' h3 h4 => ?_, fun j hj hj2 => ?_⟩
  · rw [hset _ _ (by omega)]
    rcases Decidable.em (k' = k) with rfl | hne
    · rw [if_pos rfl, hk]
      have := step_main (r := r) hL hla hlb h1 h2 (fun _ => hr) (a.length - x).toNat x (by have := hv.v2; omega) hv
      rw [this]
      constructor
      · intro h
        rcases Decidable.em (gI last (k' + b.length + 1) ≤ x) with h' | h'
        · exact .inl h'
        · exact .inr ⟨hf, by omega⟩
      · rintro (h | ⟨_, h⟩) <;> omega
    · rw [if_neg (by omega)]
      exact h.done k' x h3 (by omega) hv
  · rw [hset _ _ (by omega)]
    rcases Decidable.em (k' = k) with rfl | hne
    · rw [if_pos rfl, hk]
      obtain ⟨r0, r1, r2, _, _⟩ := hr
      rcases hL.rng k' (by omega) (by omega) with h5 | h5
      · right
        rw [h5]
        exact ⟨by omega, by omega, by omega, by omega⟩
      · right
        have := h5.v0; have := h5.v1; have := h5.v2; have := h5.v3
        exact ⟨by omega, by omega, by omega, by omega⟩
    · rw [if_neg (by omega)]
      exact h.rng k' h3 (by omega)
  · rcases hj with rfl | hj
    · rw [hset _ _ (by omega), if_neg (by omega)]
      exact h.todo 0 (.inl rfl) hj2
    · rw [hset _ _ (by omega), if_neg (by omega)]
      exact h.todo j (.inr (by omega)) hj2
theorem StepInv.fin {a b last rw : List Int} {s : Nat} {k : Int} (h : StepInv a b s last rw k) (hL : RowOK a b s last) (hk : (a.length : Int) < k) (hk2 : k ≤ a.length + 1) : RowOK a b (s + 1) rw := by
  obtain rfl : k = a.length + 1 := by omega
  refine ⟨h.len, fun k' x h1 h2 hv => ?_, fun k' h1 h2 => ?_⟩
  · have := hv.v0; have := hv.v1; have := hv.v2; have := hv.v3
    exact h.done k' x (by omega) (by omega) hv
  · rcases Decidable.em (k' = -(b.length : Int) - 1) with rfl | hne
    · rw [h.todo _ (.inl (by omega)) (by omega)]
      exact hL.rng _ h1 h2
    · rcases Decidable.em (k' = a.length + 1) with rfl | hne2
      · rw [h.todo _ (.inr (by omega)) (by omega)]
        exact hL.rng _ h1 h2
      · exact h.rng k' (by omega) (by omega)
end Go.Mys
namespace Go.Mys
open Go.Gv
theorem cand1_valid {a b last : List Int} {k : Int} (_hla : a.length ≤ 400) (_hlb : b.length ≤ 400) (h : cand1 a b last k < 1073741824) : Valid a b k (cand1 a b last k) := by
  unfold cand1 at h ⊢
  split at h
  · rename_i hc; rw [if_pos hc]; exact ⟨by omega, by omega, by omega, by omega⟩
  · omega
theorem cand2_valid {a b last : List Int} {k x : Int} (hla : a.length ≤ 400) (hlb : b.length ≤ 400) (e : x = cand2 a b last k) (h : x < 1073741824) : Valid a b k x := by
  subst e
  unfold cand2 at h ⊢
  split at h
  · rename_i hc
    rw [if_pos hc]
    rcases Decidable.em (cand1 a b last k < 1073741824) with h1 | h1
    · have hv := cand1_valid hla hlb h1
      have := hv.v0; have := hv.v1; have := hv.v2; have := hv.v3
      exact ⟨by omega, by omega, by omega, by omega⟩
    · exact ⟨by omega, by omega, by omega, by omega⟩
  · rename_i hc
    rw [if_neg hc]
    exact cand1_valid hla hlb h
theorem StepInv.put' {a b last rw : List Int} {s : Nat} {k r x : Int} (e : x = cand2 a b last k) (h : StepInv a b s last rw k) (hL : RowOK a b s last) (hla : a.length ≤ 400) (hlb : b.length ≤ 400) (h1 : -(b.length : Int) ≤ k) (h2 : k ≤ a.length)
    (hf : x < 1073741824) (hx2 : x ≤ a.length) (hx3 : x - k ≤ b.length) (hr : Slid a b x k r) : StepInv a b s last (rw.set (k + b.length + 1).toNat (min (gI rw (k + b.length + 1)) r)) (k + 1) := by
  subst e; exact h.put hL hla hlb h1 h2 hf hx2 hx3 hr
theorem StepInv.skip' {a b last rw : List Int} {s : Nat} {k x : Int} (e : x = cand2 a b last k) (h : StepInv a b s last rw k) (hL : RowOK a b s last) (hla : a.length ≤ 400) (hlb : b.length ≤ 400) (h1 : -(b.length : Int) ≤ k) (h2 : k ≤ a.length)
    (hf : ¬ x < 1073741824) : StepInv a b s last rw (k + 1) := by
  subst e; exact h.skip hL hla hlb h1 h2 hf
theorem StepInv.init' {a b last : List Int} {s : Nat} {k : Int} (h : RowOK a b s last) (e : k = -(b.length : Int)) : StepInv a b s last last k := by subst e; exact StepInv.init h
theorem RowOK.bd {a b row : List Int} {s : Nat} (h : RowOK a b s row) (hla : a.length ≤ 400) (_hlb : b.length ≤ 400) {k : Int} (h1 : -(b.length : Int) - 1 ≤ k) (h2 : k ≤ a.length + 1) : 0 ≤ gI row (k + b.length + 1) ∧ gI row (k + b.length + 1) ≤ 1073741824 := by
  rcases h.rng k h1 h2 with e | e
  · omega
  · have := e.v0; have := e.v2; omega
end Go.Mys
