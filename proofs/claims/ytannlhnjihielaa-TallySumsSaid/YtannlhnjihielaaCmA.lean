/- Two numbers compared, and the first that is not 0: plain. -/
import Derived.Test.YtannlhnjihielaaGvG
namespace Go.Cm
open Go Go.Gv
def CMPI (x y : Int) : Int := if x < y then -1 else if x > y then 1 else 0
theorem cmpi_is (x y : Int) : (x < y ∧ CMPI x y = -1) ∨ (x = y ∧ CMPI x y = 0) ∨ (x > y ∧ CMPI x y = 1) := by
  unfold CMPI
  rcases Int.lt_trichotomy x y with h | h | h
  · rw [if_pos h]; omega
  · rw [if_neg (by omega), if_neg (by omega)]; omega
  · rw [if_neg (by omega), if_pos (by omega)]; omega
/-- The first that is not 0. -/
def ORL : List Int → Int
  | [] => 0
  | x :: l => if x ≠ 0 then x else ORL l
theorem ORL_at {l : List Int} {i : Int} (h0 : 0 ≤ i) (h1 : i < l.length) : ORL (l.drop i.toNat) = if gI l i ≠ 0 then gI l i else ORL (l.drop (i + 1).toNat) := by
  have hlt : i.toNat < l.length := by omega
  rw [List.drop_eq_getElem_cons hlt, ORL, show (i + 1).toNat = i.toNat + 1 by omega]
  unfold gI
  rw [List.getD_eq_getElem?_getD, List.getElem?_eq_getElem hlt]; rfl
theorem ORL_end {l : List Int} {i : Int} (h : ¬ i < l.length) : ORL (l.drop i.toNat) = 0 := by rw [List.drop_eq_nil_of_le (by omega), ORL]
theorem orl2 (x y : Int) : (x ≠ 0 ∧ ORL [x, y] = x) ∨ (x = 0 ∧ ORL [x, y] = y) := by
  by_cases h : x = 0
  · right; refine ⟨h, ?_⟩
    rw [ORL, if_neg (by simp [h]), ORL]
    by_cases h2 : y = 0
    · rw [if_neg (by simp [h2]), ORL, h2]
    · rw [if_pos h2]
  · left; exact ⟨h, by rw [ORL, if_pos h]⟩
end Go.Cm
