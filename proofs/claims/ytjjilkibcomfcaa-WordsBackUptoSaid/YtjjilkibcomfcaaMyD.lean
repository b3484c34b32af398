/- Rows compared, and what the laws begin with. -/
import Derived.Test.YtjjilkibcomfcaaMyC
namespace Go.Proofs.Ytjjilkibcomfcaa
open Go Go.Gv Go.RowKit Go.Mys
set_option linter.unusedVariables false
set_option linter.unusedSimpArgs false

theorem pairs7_eq {w : World} {A0 A1 : Option Addr} {a b : List Int} {c0 c1 na nb : Nat} {r : List (Int × Int)} {nr : Nat} (hr : Prs a b = r) (hnr : r.length = nr) (ha : St No w (Rd eI (.slice A0 na c0) a)) (hb : St No w (Rd eI (.slice A1 nb c1) b)) (hna : a.length = na) (hnb : b.length = nb) : Calls Try.prog 56 #[(.slice A0 na c0), (.slice A1 nb c1)] w fun e w' => ∃ v, e = .returned v ∧ (fun v w' => ∃ A' c', v = .slice A' nr c' ∧ SH w No w' [rowE eP 65 (.slice A' nr c') r]) v w' := by
  subst hna hnb hnr hr; exact pairs7_calls ha hb

end Go.Proofs.Ytjjilkibcomfcaa
