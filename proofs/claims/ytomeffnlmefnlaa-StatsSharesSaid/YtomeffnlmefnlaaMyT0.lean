/- The table of the distances. -/
import Derived.Test.YtomeffnlmefnlaaMyL
namespace Go.Mys
open Go.Gv
section
variable {α : Type} [Inhabited α] {a b : List Int} {rows : List (α × List Int)} {i j v : Int}
/-- A cell. -/
abbrev gT {α : Type} [Inhabited α] (rows : List (α × List Int)) (i j : Int) : Int := gI (rows.getD i.toNat default).2 j
structure TabOK (a b : List Int) (rows : List (α × List Int)) (i j : Int) : Prop where
  len : rows.length = a.length + 1
  row : ∀ i' : Int, 0 ≤ i' → i' ≤ a.length → (rows.getD i'.toNat default).2.length = b.length + 1
  val : ∀ i' j' : Int, 0 ≤ i' → i' ≤ a.length → 0 ≤ j' → j' ≤ b.length → (i < i' ∨ i' = i ∧ j < j') → gT rows i' j' = D a b i' j'
theorem getD_set {β : Type} {l : List β} {n k : Nat} {x d : β} (h : n < l.length) : (l.set n x).getD k d = if n = k then x else l.getD k d := by
  by_cases e : n = k
  · subst e; simp [List.getD, h]
  · simp [List.getD, e]
theorem TabOK.init (h1 : rows.length = a.length + 1) (h2 : ∀ p ∈ rows, p.2.length = b.length + 1) : TabOK a b rows a.length b.length :=
  ⟨h1, fun i' h3 h4 => h2 _ (by
    have : i'.toNat < rows.length := by omega
    simp only [List.getD, this, List.getElem?_eq_getElem, Option.getD_some]
    exact List.getElem_mem this), fun i' j' h3 h4 h5 h6 h7 => by omega⟩
theorem TabOK.next (h : TabOK a b rows i j) (hj : ¬ j ≥ 0) : TabOK a b rows (i - 1) b.length :=
  ⟨h.len, h.row, fun i' j' h3 h4 h5 h6 h7 => h.val i' j' h3 h4 h5 h6 (by omega)⟩
theorem TabOK.put (h : TabOK a b rows i j) (h0 : 0 ≤ i) (h1 : i ≤ a.length) (h2 : 0 ≤ j) (h3 : j ≤ b.length) (e : v = D a b i j) :
    TabOK a b (rows.set i.toNat ((rows.getD i.toNat default).1, (rows.getD i.toNat default).2.set j.toNat v)) i (j - 1) := by
  have hl := h.len
  have hlt : i.toNat < rows.length := by omega
  have hr := h.row i h0 h1
  refine ⟨by rw [List.length_set]; exact hl, fun i' h3 h4 => ?_, fun i' j' h3 h4 h5 h6 h7 => ?_⟩
  · rw [getD_set hlt]
    split
    · rw [List.length_set]; exact hr
    · exact h.row i' h3 h4
  · unfold gT
    rw [getD_set hlt]
    split
    · have : i' = i := by omega
      subst this
      show gI ((rows.getD i'.toNat default).2.set j.toNat v) j' = _
      rw [gI_set h2 (by omega) h5]
      split
      · subst_vars; rfl
      · exact h.val i' j' h3 h4 h5 h6 (by omega)
    · exact h.val i' j' h3 h4 h5 h6 (by omega)
theorem D_bd (a b : List Int) (i j : Int) : D a b i j ≤ a.length + b.length := by
  unfold D
  have := dist_bound (a.drop i.toNat) (b.drop j.toNat)
  rw [List.length_drop, List.length_drop] at this
  omega
theorem tab1 (h1 : i = a.length) (h2 : 0 ≤ j) (h3 : j ≤ b.length) : (b.length : Int) - j = D a b i j := by have := D_end1 (a := a) (b := b) h1 h2 h3; omega
theorem tab2 (h1 : j = b.length) (h2 : 0 ≤ i) (h3 : i ≤ a.length) : (a.length : Int) - i = D a b i j := by have := D_end2 (a := a) (b := b) h1 h2 h3; omega
theorem tab3 (h : TabOK a b rows i j) (h0 : 0 ≤ i) (h1 : i < a.length) (h2 : 0 ≤ j) (h3 : j < b.length) (e : gI a i = gI b j) : gT rows (i + 1) (j + 1) = D a b i j := by
  rw [h.val (i + 1) (j + 1) (by omega) (by omega) (by omega) (by omega) (by omega), D_eq h0 h1 h2 h3 e]
theorem tab4 (h : TabOK a b rows i j) (h0 : 0 ≤ i) (h1 : i < a.length) (h2 : 0 ≤ j) (h3 : j < b.length) (e : ¬ gI a i = gI b j) (hc : gT rows (i + 1) j < gT rows i (j + 1)) : gT rows (i + 1) j + 1 = D a b i j := by
  have e1 := h.val (i + 1) j (by omega) (by omega) (by omega) (by omega) (by omega)
  have e2 := h.val i (j + 1) (by omega) (by omega) (by omega) (by omega) (by omega)
  have := D_ne (a := a) (b := b) h0 h1 h2 h3 e
  omega
theorem tab5 (h : TabOK a b rows i j) (h0 : 0 ≤ i) (h1 : i < a.length) (h2 : 0 ≤ j) (h3 : j < b.length) (e : ¬ gI a i = gI b j) (hc : ¬ gT rows (i + 1) j < gT rows i (j + 1)) : gT rows i (j + 1) + 1 = D a b i j := by
  have e1 := h.val (i + 1) j (by omega) (by omega) (by omega) (by omega) (by omega)
  have e2 := h.val i (j + 1) (by omega) (by omega) (by omega) (by omega) (by omega)
  have := D_ne (a := a) (b := b) h0 h1 h2 h3 e
  omega
end
end Go.Mys
