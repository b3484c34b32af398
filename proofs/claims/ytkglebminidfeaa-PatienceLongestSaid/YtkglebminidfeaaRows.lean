/-
  No cell of these rows narrows 'for every input' (looked for: loops, veiled, ifaces, maps, wideKeys, modest, calm, conditions, laid).
  DERIVED. THE GIVEN ROWS OF THIS SEAT. 4 by the template 'for every input the law returns true; each argument reads behind the call as it read before'; 0 by the template 'total and deterministic' (their statements: YtkglebminidfeaaTotals.lean).
  GIVEN WITH THE SEED: the statements are not yours to turn. If you find one false, say at which input.
  Laid BY PROGRAM, IN A SANDBOX (cutbox-rows.mjs): the forced cells as the released guide's own fill.sh prints them over the translation 39a51c21b6fc8935… (all of the seat's roots in one cut). By AI agents, Wed Nov 11 2026. No macro, syntax, notation, axiom, sorry.
-/
import Derived.Test.YtkglebminidfeaaChecked
import GoSem.Claim
import GoSem.ClaimJoined
import GoSem.ClaimMapViews
import Derived.JoinedTies
import Derived.KernelRfl
namespace Go.Proofs.Ytkglebminidfeaa
/- THE CELL 'sum', in the pinned program and in every row, IS THE sha256 OF THE DUMP (.gsa) THAT YtkglebminidfeaaProg.lean LOADS. Nothing in Lean hashes anything: it is a label: what it is worth is what the hold of that sum in a sandbox is worth. -/
noncomputable def Try.pinned : Pinned := { name := "ytkglebminidfeaa", sum := "39a51c21b6fc8935c4c63d2f327379f78448e5f0d21bf0dfdc003f6d39bc1412", checked := Try.checked }
namespace Rows
def none {H : Type} : Left H := { results := [], args := [] }

/-- 'jalousielaw27.PatienceLongest': WHATEVER THE INPUT: true; the input reads as it did. -/
def patienceLongestSpec : ChangeSpec := { name := "patienceLongest", fn := fun _ => fun
  | [d] => { results := [.lit (.bool true)], args := [d] }
  | _ => none }
def patienceLongestRow : OpenClaim := { program := "ytkglebminidfeaa", sum := "39a51c21b6fc8935c4c63d2f327379f78448e5f0d21bf0dfdc003f6d39bc1412", func := "jalousie/jalousielaw27.PatienceLongest", spec := "patienceLongest", unfollowed := true, recurses := true, apart := false }
def PatienceLongestSaid : Prop := patienceLongestRow.holds Try.pinned (OpenSpec.ofChange patienceLongestSpec)

/-- ITS FALSE NEIGHBOUR: 'it returns false'. Refute it at one input. -/
def patienceLongestWrong : ChangeSpec := { name := "patienceLongest", fn := fun _ => fun
  | [d] => { results := [.lit (.bool false)], args := [d] }
  | _ => none }
def PatienceLongestWrongFalsely : Prop := patienceLongestRow.holds Try.pinned (OpenSpec.ofChange patienceLongestWrong)

/-- 'jalousielaw27.PatienceRises': WHATEVER THE INPUT: true; the input reads as it did. -/
def patienceRisesSpec : ChangeSpec := { name := "patienceRises", fn := fun _ => fun
  | [d1, d2] => { results := [.lit (.bool true)], args := [d1, d2] }
  | _ => none }
def patienceRisesRow : OpenClaim := { program := "ytkglebminidfeaa", sum := "39a51c21b6fc8935c4c63d2f327379f78448e5f0d21bf0dfdc003f6d39bc1412", func := "jalousie/jalousielaw27.PatienceRises", spec := "patienceRises", unfollowed := true, recurses := true, apart := false }
def PatienceRisesSaid : Prop := patienceRisesRow.holds Try.pinned (OpenSpec.ofChange patienceRisesSpec)

/-- ITS FALSE NEIGHBOUR: 'it returns false'. Refute it at one input. -/
def patienceRisesWrong : ChangeSpec := { name := "patienceRises", fn := fun _ => fun
  | [d1, d2] => { results := [.lit (.bool false)], args := [d1, d2] }
  | _ => none }
def PatienceRisesWrongFalsely : Prop := patienceRisesRow.holds Try.pinned (OpenSpec.ofChange patienceRisesWrong)

/-- 'jalousielaw27.PatiencePairs': WHATEVER THE INPUT: true; the input reads as it did. -/
def patiencePairsSpec : ChangeSpec := { name := "patiencePairs", fn := fun _ => fun
  | [d1, d2] => { results := [.lit (.bool true)], args := [d1, d2] }
  | _ => none }
def patiencePairsRow : OpenClaim := { program := "ytkglebminidfeaa", sum := "39a51c21b6fc8935c4c63d2f327379f78448e5f0d21bf0dfdc003f6d39bc1412", func := "jalousie/jalousielaw27.PatiencePairs", spec := "patiencePairs", unfollowed := true, recurses := true, apart := false }
def PatiencePairsSaid : Prop := patiencePairsRow.holds Try.pinned (OpenSpec.ofChange patiencePairsSpec)

/-- ITS FALSE NEIGHBOUR: 'it returns false'. Refute it at one input. -/
def patiencePairsWrong : ChangeSpec := { name := "patiencePairs", fn := fun _ => fun
  | [d1, d2] => { results := [.lit (.bool false)], args := [d1, d2] }
  | _ => none }
def PatiencePairsWrongFalsely : Prop := patiencePairsRow.holds Try.pinned (OpenSpec.ofChange patiencePairsWrong)

/-- 'jalousielaw27.PatienceOnce': WHATEVER THE INPUT: true; the input reads as it did. -/
def patienceOnceSpec : ChangeSpec := { name := "patienceOnce", fn := fun _ => fun
  | [d1, d2, d3] => { results := [.lit (.bool true)], args := [d1, d2, d3] }
  | _ => none }
def patienceOnceRow : OpenClaim := { program := "ytkglebminidfeaa", sum := "39a51c21b6fc8935c4c63d2f327379f78448e5f0d21bf0dfdc003f6d39bc1412", func := "jalousie/jalousielaw27.PatienceOnce", spec := "patienceOnce", unfollowed := true, recurses := true, apart := false }
def PatienceOnceSaid : Prop := patienceOnceRow.holds Try.pinned (OpenSpec.ofChange patienceOnceSpec)

/-- ITS FALSE NEIGHBOUR: 'it returns false'. Refute it at one input. -/
def patienceOnceWrong : ChangeSpec := { name := "patienceOnce", fn := fun _ => fun
  | [d1, d2, d3] => { results := [.lit (.bool false)], args := [d1, d2, d3] }
  | _ => none }
def PatienceOnceWrongFalsely : Prop := patienceOnceRow.holds Try.pinned (OpenSpec.ofChange patienceOnceWrong)

/- THE SECOND FORM. 'bulk': how many values and letters a reading holds, each counted each time it is reached (what is shared counts as often as it is met; a slice's spare places count too). A statement '..UptoSaid' is the law's where the arguments, and the package variables that the reading takes, are together of bulk at most 1048576: NARROWER than '..Said'. Prove '..Said' where nothing that the law and all that it calls make is longer than what came in: it says more and counts as full. Else prove '..UptoSaid'. A law counts once. -/
mutual
def uptoBulk {H : Type} : DataW H → Nat
  | .lit (.string bytes) => bytes.length + 1
  | .lit _ => 1
  | .nil => 1
  | .ptr d => uptoBulk d + 1
  | .slice elems spare => uptoBulkAll elems + uptoBulkAll spare + 1
  | .agg parts => uptoBulkAll parts + 1
  | .iface _ d => uptoBulk d + 1
  | .map entries => uptoBulkEntries entries + 1
  | .held _ => 1
def uptoBulkAll {H : Type} : List (DataW H) → Nat
  | [] => 0
  | d :: r => uptoBulk d + uptoBulkAll r
def uptoBulkEntries {H : Type} : List (Lit × DataW H) → Nat
  | [] => 0
  | x :: r => uptoBulkEntry x + uptoBulkEntries r
def uptoBulkEntry {H : Type} : Lit × DataW H → Nat
  | (.string bytes, d) => bytes.length + uptoBulk d + 1
  | (_, d) => uptoBulk d + 1
 end
def uptoSmall : (H : Type) → List (DataW H) → Bool := fun _ ds => decide (uptoBulkAll ds ≤ 1048576)
def OpenSpec.upto (s : _root_.Go.ChangeSpec) : _root_.Go.OpenSpec := { _root_.Go.OpenSpec.ofChange s with cond := some uptoSmall }

/-- 'jalousielaw27.PatienceLongest', WHERE WHAT IT READS IS OF BULK AT MOST 1048576: true; the input reads as it did. -/
def patienceLongestUptoRow : OpenClaim := { program := "ytkglebminidfeaa", sum := "39a51c21b6fc8935c4c63d2f327379f78448e5f0d21bf0dfdc003f6d39bc1412", func := "jalousie/jalousielaw27.PatienceLongest", spec := "patienceLongest", unfollowed := true, recurses := true, apart := false, narrowed := true }
def PatienceLongestUptoSaid : Prop := patienceLongestUptoRow.holds Try.pinned (OpenSpec.upto patienceLongestSpec)

/-- 'jalousielaw27.PatienceRises', WHERE WHAT IT READS IS OF BULK AT MOST 1048576: true; the input reads as it did. -/
def patienceRisesUptoRow : OpenClaim := { program := "ytkglebminidfeaa", sum := "39a51c21b6fc8935c4c63d2f327379f78448e5f0d21bf0dfdc003f6d39bc1412", func := "jalousie/jalousielaw27.PatienceRises", spec := "patienceRises", unfollowed := true, recurses := true, apart := false, narrowed := true }
def PatienceRisesUptoSaid : Prop := patienceRisesUptoRow.holds Try.pinned (OpenSpec.upto patienceRisesSpec)

/-- 'jalousielaw27.PatiencePairs', WHERE WHAT IT READS IS OF BULK AT MOST 1048576: true; the input reads as it did. -/
def patiencePairsUptoRow : OpenClaim := { program := "ytkglebminidfeaa", sum := "39a51c21b6fc8935c4c63d2f327379f78448e5f0d21bf0dfdc003f6d39bc1412", func := "jalousie/jalousielaw27.PatiencePairs", spec := "patiencePairs", unfollowed := true, recurses := true, apart := false, narrowed := true }
def PatiencePairsUptoSaid : Prop := patiencePairsUptoRow.holds Try.pinned (OpenSpec.upto patiencePairsSpec)

/-- 'jalousielaw27.PatienceOnce', WHERE WHAT IT READS IS OF BULK AT MOST 1048576: true; the input reads as it did. -/
def patienceOnceUptoRow : OpenClaim := { program := "ytkglebminidfeaa", sum := "39a51c21b6fc8935c4c63d2f327379f78448e5f0d21bf0dfdc003f6d39bc1412", func := "jalousie/jalousielaw27.PatienceOnce", spec := "patienceOnce", unfollowed := true, recurses := true, apart := false, narrowed := true }
def PatienceOnceUptoSaid : Prop := patienceOnceUptoRow.holds Try.pinned (OpenSpec.upto patienceOnceSpec)

end Rows
end Go.Proofs.Ytkglebminidfeaa
