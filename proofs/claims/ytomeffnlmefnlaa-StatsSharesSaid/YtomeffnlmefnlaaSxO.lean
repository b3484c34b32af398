/- Pairs of numbers as arguments of a law; a mark and a mean. -/
import Derived.Test.YtomeffnlmefnlaaGvO
namespace Go.Gv
open Go Go.RowKit
section
variable {H : Type} {enc : TypeId × Value → H} {P : Program} {w : World}
theorem opn_ii {t : TypeId} {f0 f1 : Field} (ht : P.underlying t = some (.struct #[f0, f1])) (h0 : P.underlying f0.type = some (.int .i64)) (h1 : P.underlying f1.type = some (.int .i64)) (hc : P.cellsOf f0.type = 1 ∧ P.cellsOf f1.type = 1 ∧ P.cellsOf t = 2 ∧ f0.offset = 0 ∧ f1.offset = 1) :
    Opn enc P w t eP.enc (fun x => (Lit.int .i64 x.1).wf = true ∧ (Lit.int .i64 x.2).wf = true) :=
  opn_imp (opn_struct (f := eP.enc) ht (by simp [hc.1, hc.2.1, hc.2.2.1]) (opnF_cons (f := fun x : Int => [.int .i64 x]) (g := fun x : Int => [.int .i64 x]) hc.2.2.2.1 hc.1 (opn_int h0) (opnF_one hc.2.2.2.2 (opn_int h1)))) fun x h => ⟨h.1, h.2⟩
end
end Go.Gv
namespace Go.Sts
theorem nn_same {x y : Int} (h : (-9218868437227405312 ≤ x ∧ x ≤ 9218868437227405312) ↔ (-9218868437227405312 ≤ y ∧ y ≤ 9218868437227405312)) :
    (decide (¬ (((-9218868437227405312 ≤ x ∧ x ≤ 9218868437227405312) ∧ (-9218868437227405312 ≤ x ∧ x ≤ 9218868437227405312)) ∧ x = x)) != decide (¬ (((-9218868437227405312 ≤ y ∧ y ≤ 9218868437227405312) ∧ (-9218868437227405312 ≤ y ∧ y ≤ 9218868437227405312)) ∧ y = y))) = false := by
  rw [decide_eq_decide.2 (show ¬ (((-9218868437227405312 ≤ x ∧ x ≤ 9218868437227405312) ∧ (-9218868437227405312 ≤ x ∧ x ≤ 9218868437227405312)) ∧ x = x) ↔ ¬ (((-9218868437227405312 ≤ y ∧ y ≤ 9218868437227405312) ∧ (-9218868437227405312 ≤ y ∧ y ≤ 9218868437227405312)) ∧ y = y) from
    ⟨fun h1 h2 => h1 ⟨⟨h.2 h2.1.1, h.2 h2.1.1⟩, rfl⟩, fun h1 h2 => h1 ⟨⟨h.1 h2.1.1, h.1 h2.1.1⟩, rfl⟩⟩)]
  exact bne_self_eq_false _
theorem mflag {L : List Nat} {s : Bool} {k : Int} (f : s = true ↔ L ≠ []) (h1 : L ≠ [] → 0 ≤ k ∧ k ≤ 4607182418800017408) (h2 : L = [] → ¬ (-9218868437227405312 ≤ k ∧ k ≤ 9218868437227405312)) :
    (decide (((-9218868437227405312 ≤ k ∧ k ≤ 9218868437227405312) ∧ (-9218868437227405312 ≤ k ∧ k ≤ 9218868437227405312)) ∧ k = k) != s) = false := by
  by_cases hL : L = []
  · have hs : s = false := by
      cases s with
      | false => rfl
      | true => exact absurd hL (f.1 rfl)
    have h := h2 hL
    rw [hs, decide_eq_false (fun h3 => h h3.1.1)]; rfl
  · have h := h1 hL
    rw [f.2 hL, decide_eq_true ⟨⟨⟨by omega, by omega⟩, ⟨by omega, by omega⟩⟩, rfl⟩]; rfl
end Go.Sts
