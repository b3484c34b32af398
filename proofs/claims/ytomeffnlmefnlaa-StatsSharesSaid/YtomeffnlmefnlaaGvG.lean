/- Plain words on rows. -/
namespace Go.Gv
/-- A number of a row, 0 behind its ends. -/
abbrev gI (l : List Int) (i : Int) : Int := l.getD i.toNat 0
theorem gI_set {l : List Int} {i j v : Int} (h0 : 0 ≤ i) (h1 : i < l.length) (hj : 0 ≤ j) : gI (l.set i.toNat v) j = if i = j then v else gI l j := by
  have hlt : i.toNat < l.length := by omega
  by_cases h : i = j
  · subst h; simp [gI, List.getD, hlt]
  · rw [if_neg h]
    have : i.toNat ≠ j.toNat := by omega
    simp [gI, List.getD, this]
/-! ### A row that is doubled till it is full -/
theorem rep_init {N : Nat} {x : Int} (h1 : 1 ≤ N) : ((List.replicate N (0 : Int)).take 0 ++ [x].take N ++ (List.replicate N (0 : Int)).drop (0 + min [x].length N)).take ((min [x].length N : Nat) : Int).toNat = List.replicate ((min [x].length N : Nat) : Int).toNat x := by
  obtain ⟨k, rfl⟩ : ∃ k, N = k + 1 := ⟨N - 1, by omega⟩
  simp
theorem rep_step {N : Nat} {n x : Int} {r : List Int} (q0 : 1 ≤ n) (_q1 : n ≤ (N : Int)) (h : n < (N : Int)) (q2 : r.length = N) (q3 : r.take n.toNat = List.replicate n.toNat x) :
    (r.take n.toNat ++ ((r.take n.toNat).drop 0).take (N - n.toNat) ++ r.drop (n.toNat + min ((r.take n.toNat).drop 0).length (N - n.toNat))).take (n + ((min ((r.take n.toNat).drop 0).length (N - n.toNat) : Nat) : Int)).toNat =
      List.replicate (n + ((min ((r.take n.toNat).drop 0).length (N - n.toNat) : Nat) : Int)).toNat x := by
  rw [q3]
  simp only [List.drop_zero, List.length_replicate, List.take_replicate]
  rw [show (n + ((min n.toNat (N - n.toNat) : Nat) : Int)).toNat = n.toNat + min n.toNat (N - n.toNat) by omega, List.take_append_of_le_length (by simp; omega), List.take_of_length_le (by simp; omega), List.replicate_append_replicate, Nat.min_comm (N - n.toNat)]
theorem rep_fin {N : Nat} {n x : Int} {r : List Int} (_q0 : 1 ≤ n) (q1 : n ≤ (N : Int)) (h : ¬ n < (N : Int)) (q2 : r.length = N) (q3 : r.take n.toNat = List.replicate n.toNat x) : r = List.replicate N x := by
  have e : n.toNat = N := by omega
  rw [e, List.take_of_length_le (by omega)] at q3
  exact q3
theorem ext_gI {a b : List Int} (hl : a.length = b.length) (h : ∀ t : Int, 0 ≤ t → t < a.length → gI a t = gI b t) : a = b := by
  apply List.ext_getElem hl
  intro i h1 h2
  have := h i (by omega) (by omega)
  simpa [gI, List.getD, h1, h2] using this
theorem all_step {p : Int → Prop} {i : Int} (h : ∀ t, 0 ≤ t → t < i → p t) (hi : p i) : ∀ t, 0 ≤ t → t < i + 1 → p t := fun t h0 h1 => by
  rcases Decidable.em (t = i) with rfl | hne
  · exact hi
  · exact h t h0 (by omega)
theorem ext_gP {a b : List (Int × Int)} (hl : a.length = b.length) (h : ∀ t : Int, 0 ≤ t → t < a.length → (a.getD t.toNat (0, 0)).1 = (b.getD t.toNat (0, 0)).1 ∧ (a.getD t.toNat (0, 0)).2 = (b.getD t.toNat (0, 0)).2) : a = b := by
  apply List.ext_getElem hl
  intro i h1 h2
  have := h i (by omega) (by omega)
  simp [List.getD, h1, h2] at this
  exact Prod.ext this.1 this.2
end Go.Gv
