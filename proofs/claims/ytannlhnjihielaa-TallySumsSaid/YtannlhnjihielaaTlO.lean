/- Labels, items as arguments of a law. -/
import Derived.Test.YtannlhnjihielaaGvO
import Derived.Test.YtannlhnjihielaaTlA
namespace Go.Gv
open Go Go.RowKit
section
variable {H : Type} {enc : TypeId × Value → H} {P : Program} {w : World}
theorem opn_lb {t : TypeId} {f0 f1 : Field} (ht : P.underlying t = some (.struct #[f0, f1])) (h0 : P.underlying f0.type = some (.int .i64)) (h1 : P.underlying f1.type = some (.int .u64)) (hc : P.cellsOf f0.type = 1 ∧ P.cellsOf f1.type = 1 ∧ P.cellsOf t = 2 ∧ f0.offset = 0 ∧ f1.offset = 1) :
    Opn enc P w t eLb.enc (fun x => Go.Tly.WLB x) :=
  opn_imp (opn_struct (f := eLb.enc) ht (by simp [hc.1, hc.2.1, hc.2.2.1]) (opnF_cons (f := fun x : Int => [.int .i64 x]) (g := fun x : Int => [.int .u64 x]) hc.2.2.2.1 hc.1 (opn_int h0) (opnF_one hc.2.2.2.2 (opn_int h1)))) fun x h => by
    have h1 := h.1
    have h2 := h.2
    simp [Lit.wf, IntKind.min, IntKind.max, IntKind.signed, IntKind.bits] at h1 h2
    exact ⟨by omega, by omega, by omega, by omega⟩
theorem opn_it {t : TypeId} {f0 f1 f2 f3 g0 g1 l0 l1 : Field} (ht : P.underlying t = some (.struct #[f0, f1, f2, f3])) (h0 : P.underlying f0.type = some (.int .i64)) (h1 : P.underlying f1.type = some (.struct #[g0, g1])) (h10 : P.underlying g0.type = some (.int .i64)) (h11 : P.underlying g1.type = some (.int .u64))
    (h2 : P.underlying f2.type = some .bool) (h3 : P.underlying f3.type = some (.struct #[l0, l1])) (h30 : P.underlying l0.type = some .string) (h31 : P.underlying l1.type = some .bool)
    (hc : P.cellsOf t = 6 ∧ P.cellsOf f0.type = 1 ∧ P.cellsOf f1.type = 2 ∧ P.cellsOf f2.type = 1 ∧ P.cellsOf f3.type = 2 ∧ f0.offset = 0 ∧ f1.offset = 1 ∧ f2.offset = 3 ∧ f3.offset = 4)
    (hg : P.cellsOf g0.type = 1 ∧ P.cellsOf g1.type = 1 ∧ P.cellsOf f1.type = 2 ∧ g0.offset = 0 ∧ g1.offset = 1) (hl : P.cellsOf l0.type = 1 ∧ P.cellsOf l1.type = 1 ∧ P.cellsOf f3.type = 2 ∧ l0.offset = 0 ∧ l1.offset = 1) :
    Opn enc P w t eIt.enc (fun x => Go.Tly.WLB x.2.1) :=
  opn_imp (opn_struct (f := eIt.enc) ht (by simp [hc.1, hc.2.1, hc.2.2.1, hc.2.2.2.1, hc.2.2.2.2.1])
    (opnF_cons (f := fun x : Int => [.int .i64 x]) (g := fun p : Lb × (Bool × Ln) => eLb.enc p.1 ++ ([.bool p.2.1] ++ eL.enc p.2.2)) hc.2.2.2.2.2.1 hc.2.1 (opn_int h0)
      (opnF_cons (f := eLb.enc) (g := fun p : Bool × Ln => [.bool p.1] ++ eL.enc p.2) hc.2.2.2.2.2.2.1 hc.2.2.1 (opn_lb h1 h10 h11 hg)
        (opnF_cons (f := fun x : Bool => [.bool x]) (g := eL.enc) hc.2.2.2.2.2.2.2.1 hc.2.2.2.1 (opn_bool h2) (opnF_one hc.2.2.2.2.2.2.2.2 (opn_line h3 h30 h31 hl)))))) fun x h => h.2.1
end
end Go.Gv
