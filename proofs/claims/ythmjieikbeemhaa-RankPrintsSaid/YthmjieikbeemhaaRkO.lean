/- Likenesses as arguments. -/
import Derived.Test.YthmjieikbeemhaaGvO
import Derived.Test.YthmjieikbeemhaaRkA
namespace Go.Gv
open Go Go.RowKit
variable {H : Type} {enc : TypeId × Value → H} {P : Program} {w : World}
theorem opn_ik {t : TypeId} {f0 f1 : Field} (ht : P.underlying t = some (.struct #[f0, f1])) (h0 : P.underlying f0.type = some (.int .i64)) (h1 : P.underlying f1.type = some (.float .f64)) (hc : P.cellsOf f0.type = 1 ∧ P.cellsOf f1.type = 1 ∧ P.cellsOf t = 2 ∧ f0.offset = 0 ∧ f1.offset = 1) :
    Opn enc P w t eK.enc (fun x => (Lit.float .f64 x.2).wf = true) :=
  opn_imp (opn_struct (f := eK.enc) ht (by simp [hc.1, hc.2.1, hc.2.2.1]) (opnF_cons (f := fun x : Int => [.int .i64 x]) (g := fun x : Nat => [.float .f64 x]) hc.2.2.2.1 hc.1 (opn_int h0) (opnF_one hc.2.2.2.2 (opn_flt h1)))) fun _ h => h.2
end Go.Gv
