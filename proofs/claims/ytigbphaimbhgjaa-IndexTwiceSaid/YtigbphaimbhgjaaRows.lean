/-
  No cell of these rows narrows 'for every input' (looked for: loops, veiled, ifaces, maps, wideKeys, modest, calm, conditions, laid).
  DERIVED. THE GIVEN ROWS OF THIS SEAT. 3 by the template 'for every input the law returns true; each argument reads behind the call as it read before'; 0 by the template 'total and deterministic' (their statements: YtigbphaimbhgjaaTotals.lean).
  GIVEN WITH THE SEED: the statements are not yours to turn. If you find one false, say at which input.
  Laid BY PROGRAM, IN A SANDBOX (cutbox-rows.mjs): the forced cells as the released guide's own fill.sh prints them over the translation f3809ae6352a6616… (all of the seat's roots in one cut). By AI agents, Wed Nov 11 2026. No macro, syntax, notation, axiom, sorry.
-/
import Derived.Test.YtigbphaimbhgjaaChecked
import GoSem.Claim
import GoSem.ClaimJoined
import GoSem.ClaimMapViews
import Derived.JoinedTies
import Derived.KernelRfl
namespace Go.Proofs.Ytigbphaimbhgjaa
/- THE CELL 'sum', in the pinned program and in every row, IS THE sha256 OF THE DUMP (.gsa) THAT YtigbphaimbhgjaaProg.lean LOADS. Nothing in Lean hashes anything: it is a label: what it is worth is what the hold of that sum in a sandbox is worth. -/
noncomputable def Try.pinned : Pinned := { name := "ytigbphaimbhgjaa", sum := "f3809ae6352a6616ea1fb919819f57019358cad87c1839b0424eedff0171b510", checked := Try.checked }
namespace Rows
def none {H : Type} : Left H := { results := [], args := [] }

/-- 'jalousielaw39.IndexBlind': WHATEVER THE INPUT: true; the input reads as it did. -/
def indexBlindSpec : ChangeSpec := { name := "indexBlind", fn := fun _ => fun
  | [d1, d2, d3] => { results := [.lit (.bool true)], args := [d1, d2, d3] }
  | _ => none }
def indexBlindRow : OpenClaim := { program := "ytigbphaimbhgjaa", sum := "f3809ae6352a6616ea1fb919819f57019358cad87c1839b0424eedff0171b510", func := "jalousie/jalousielaw39.IndexBlind", spec := "indexBlind", unfollowed := true, recurses := true, apart := false }
def IndexBlindSaid : Prop := indexBlindRow.holds Try.pinned (OpenSpec.ofChange indexBlindSpec)

/-- ITS FALSE NEIGHBOUR: 'it returns false'. Refute it at one input. -/
def indexBlindWrong : ChangeSpec := { name := "indexBlind", fn := fun _ => fun
  | [d1, d2, d3] => { results := [.lit (.bool false)], args := [d1, d2, d3] }
  | _ => none }
def IndexBlindWrongFalsely : Prop := indexBlindRow.holds Try.pinned (OpenSpec.ofChange indexBlindWrong)

/-- 'jalousielaw39.IndexWords': WHATEVER THE INPUT: true; the input reads as it did. -/
def indexWordsSpec : ChangeSpec := { name := "indexWords", fn := fun _ => fun
  | [d1, d2, d3, d4] => { results := [.lit (.bool true)], args := [d1, d2, d3, d4] }
  | _ => none }
def indexWordsRow : OpenClaim := { program := "ytigbphaimbhgjaa", sum := "f3809ae6352a6616ea1fb919819f57019358cad87c1839b0424eedff0171b510", func := "jalousie/jalousielaw39.IndexWords", spec := "indexWords", unfollowed := true, recurses := true, apart := false }
def IndexWordsSaid : Prop := indexWordsRow.holds Try.pinned (OpenSpec.ofChange indexWordsSpec)

/-- ITS FALSE NEIGHBOUR: 'it returns false'. Refute it at one input. -/
def indexWordsWrong : ChangeSpec := { name := "indexWords", fn := fun _ => fun
  | [d1, d2, d3, d4] => { results := [.lit (.bool false)], args := [d1, d2, d3, d4] }
  | _ => none }
def IndexWordsWrongFalsely : Prop := indexWordsRow.holds Try.pinned (OpenSpec.ofChange indexWordsWrong)

/-- 'jalousielaw39.IndexTwice': WHATEVER THE INPUT: true; the input reads as it did. -/
def indexTwiceSpec : ChangeSpec := { name := "indexTwice", fn := fun _ => fun
  | [d1, d2, d3, d4] => { results := [.lit (.bool true)], args := [d1, d2, d3, d4] }
  | _ => none }
def indexTwiceRow : OpenClaim := { program := "ytigbphaimbhgjaa", sum := "f3809ae6352a6616ea1fb919819f57019358cad87c1839b0424eedff0171b510", func := "jalousie/jalousielaw39.IndexTwice", spec := "indexTwice", inPlace := ["maps.clone"], unfollowed := true, recurses := true, apart := false }
def IndexTwiceSaid : Prop := indexTwiceRow.holds Try.pinned (OpenSpec.ofChange indexTwiceSpec)

/-- ITS FALSE NEIGHBOUR: 'it returns false'. Refute it at one input. -/
def indexTwiceWrong : ChangeSpec := { name := "indexTwice", fn := fun _ => fun
  | [d1, d2, d3, d4] => { results := [.lit (.bool false)], args := [d1, d2, d3, d4] }
  | _ => none }
def IndexTwiceWrongFalsely : Prop := indexTwiceRow.holds Try.pinned (OpenSpec.ofChange indexTwiceWrong)

/- THE SECOND FORM. 'bulk': how many values and letters a reading holds, each counted each time it is reached (what is shared counts as often as it is met; a slice's spare places count too). A statement '..UptoSaid' is the law's where the arguments, and the package variables that the reading takes, are together of bulk at most 1048576: NARROWER than '..Said'. Prove '..Said' where nothing that the law and all that it calls make is longer than what came in: it says more and counts as full. Else prove '..UptoSaid'. A law counts once. -/
mutual
def uptoBulk {H : Type} : DataW H → Nat
  | .lit (.string bytes) => bytes.length + 1
  | .lit _ => 1
  | .nil => 1
  | .ptr d => uptoBulk d + 1
  | .slice elems spare => uptoBulkAll elems + uptoBulkAll spare + 1
  | .agg parts => uptoBulkAll parts + 1
  | .iface _ d => uptoBulk d + 1
  | .map entries => uptoBulkEntries entries + 1
  | .held _ => 1
def uptoBulkAll {H : Type} : List (DataW H) → Nat
  | [] => 0
  | d :: r => uptoBulk d + uptoBulkAll r
def uptoBulkEntries {H : Type} : List (Lit × DataW H) → Nat
  | [] => 0
  | x :: r => uptoBulkEntry x + uptoBulkEntries r
def uptoBulkEntry {H : Type} : Lit × DataW H → Nat
  | (.string bytes, d) => bytes.length + uptoBulk d + 1
  | (_, d) => uptoBulk d + 1
 end
def uptoSmall : (H : Type) → List (DataW H) → Bool := fun _ ds => decide (uptoBulkAll ds ≤ 1048576)
def OpenSpec.upto (s : _root_.Go.ChangeSpec) : _root_.Go.OpenSpec := { _root_.Go.OpenSpec.ofChange s with cond := some uptoSmall }

/-- 'jalousielaw39.IndexBlind', WHERE WHAT IT READS IS OF BULK AT MOST 1048576: true; the input reads as it did. -/
def indexBlindUptoRow : OpenClaim := { program := "ytigbphaimbhgjaa", sum := "f3809ae6352a6616ea1fb919819f57019358cad87c1839b0424eedff0171b510", func := "jalousie/jalousielaw39.IndexBlind", spec := "indexBlind", unfollowed := true, recurses := true, apart := false, narrowed := true }
def IndexBlindUptoSaid : Prop := indexBlindUptoRow.holds Try.pinned (OpenSpec.upto indexBlindSpec)

/-- 'jalousielaw39.IndexWords', WHERE WHAT IT READS IS OF BULK AT MOST 1048576: true; the input reads as it did. -/
def indexWordsUptoRow : OpenClaim := { program := "ytigbphaimbhgjaa", sum := "f3809ae6352a6616ea1fb919819f57019358cad87c1839b0424eedff0171b510", func := "jalousie/jalousielaw39.IndexWords", spec := "indexWords", unfollowed := true, recurses := true, apart := false, narrowed := true }
def IndexWordsUptoSaid : Prop := indexWordsUptoRow.holds Try.pinned (OpenSpec.upto indexWordsSpec)

/-- 'jalousielaw39.IndexTwice', WHERE WHAT IT READS IS OF BULK AT MOST 1048576: true; the input reads as it did. -/
def indexTwiceUptoRow : OpenClaim := { program := "ytigbphaimbhgjaa", sum := "f3809ae6352a6616ea1fb919819f57019358cad87c1839b0424eedff0171b510", func := "jalousie/jalousielaw39.IndexTwice", spec := "indexTwice", inPlace := ["maps.clone"], unfollowed := true, recurses := true, apart := false, narrowed := true }
def IndexTwiceUptoSaid : Prop := indexTwiceUptoRow.holds Try.pinned (OpenSpec.upto indexTwiceSpec)

end Rows
end Go.Proofs.Ytigbphaimbhgjaa
