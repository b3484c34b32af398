/-
  No cell of these rows narrows 'for every input' (looked for: loops, veiled, ifaces, maps, wideKeys, modest, calm, conditions, laid).
  DERIVED. THE GIVEN ROWS OF THIS SEAT. 4 by the template 'for every input the law returns true; each argument reads behind the call as it read before'; 0 by the template 'total and deterministic' (their statements: YtmmdplcnhndcgaaTotals.lean).
  GIVEN WITH THE SEED: the statements are not yours to turn. If you find one false, say at which input.
  Laid BY PROGRAM, IN A SANDBOX (cutbox-rows.mjs): the forced cells as the released guide's own fill.sh prints them over the translation 3433af2b8c858558… (all of the seat's roots in one cut). By AI agents, Wed Nov 11 2026. No macro, syntax, notation, axiom, sorry.
-/
import Derived.Test.YtmmdplcnhndcgaaChecked
import GoSem.Claim
import GoSem.ClaimJoined
import GoSem.ClaimMapViews
import Derived.JoinedTies
import Derived.KernelRfl
namespace Go.Proofs.Ytmmdplcnhndcgaa
/- THE CELL 'sum', in the pinned program and in every row, IS THE sha256 OF THE DUMP (.gsa) THAT YtmmdplcnhndcgaaProg.lean LOADS. Nothing in Lean hashes anything: it is a label: what it is worth is what the hold of that sum in a sandbox is worth. -/
noncomputable def Try.pinned : Pinned := { name := "ytmmdplcnhndcgaa", sum := "3433af2b8c858558a1c3745f7061b9369dd704a885016d1bee7de14c275a4de6", checked := Try.checked }
namespace Rows
def none {H : Type} : Left H := { results := [], args := [] }

/-- 'jalousielaw32.HeatOf': WHATEVER THE INPUT: true; the input reads as it did. -/
def heatOfSpec : ChangeSpec := { name := "heatOf", fn := fun _ => fun
  | [d1, d2] => { results := [.lit (.bool true)], args := [d1, d2] }
  | _ => none }
def heatOfRow : OpenClaim := { program := "ytmmdplcnhndcgaa", sum := "3433af2b8c858558a1c3745f7061b9369dd704a885016d1bee7de14c275a4de6", func := "jalousie/jalousielaw32.HeatOf", spec := "heatOf", unfollowed := true, recurses := true, apart := false }
def HeatOfSaid : Prop := heatOfRow.holds Try.pinned (OpenSpec.ofChange heatOfSpec)

/-- ITS FALSE NEIGHBOUR: 'it returns false'. Refute it at one input. -/
def heatOfWrong : ChangeSpec := { name := "heatOf", fn := fun _ => fun
  | [d1, d2] => { results := [.lit (.bool false)], args := [d1, d2] }
  | _ => none }
def HeatOfWrongFalsely : Prop := heatOfRow.holds Try.pinned (OpenSpec.ofChange heatOfWrong)

/-- 'jalousielaw32.HeatTop': WHATEVER THE INPUT: true; the input reads as it did. -/
def heatTopSpec : ChangeSpec := { name := "heatTop", fn := fun _ => fun
  | [d1, d2] => { results := [.lit (.bool true)], args := [d1, d2] }
  | _ => none }
def heatTopRow : OpenClaim := { program := "ytmmdplcnhndcgaa", sum := "3433af2b8c858558a1c3745f7061b9369dd704a885016d1bee7de14c275a4de6", func := "jalousie/jalousielaw32.HeatTop", spec := "heatTop", unfollowed := true, recurses := true, apart := false }
def HeatTopSaid : Prop := heatTopRow.holds Try.pinned (OpenSpec.ofChange heatTopSpec)

/-- ITS FALSE NEIGHBOUR: 'it returns false'. Refute it at one input. -/
def heatTopWrong : ChangeSpec := { name := "heatTop", fn := fun _ => fun
  | [d1, d2] => { results := [.lit (.bool false)], args := [d1, d2] }
  | _ => none }
def HeatTopWrongFalsely : Prop := heatTopRow.holds Try.pinned (OpenSpec.ofChange heatTopWrong)

/-- 'jalousielaw32.HeatAround': WHATEVER THE INPUT: true; the input reads as it did. -/
def heatAroundSpec : ChangeSpec := { name := "heatAround", fn := fun _ => fun
  | [d1, d2] => { results := [.lit (.bool true)], args := [d1, d2] }
  | _ => none }
def heatAroundRow : OpenClaim := { program := "ytmmdplcnhndcgaa", sum := "3433af2b8c858558a1c3745f7061b9369dd704a885016d1bee7de14c275a4de6", func := "jalousie/jalousielaw32.HeatAround", spec := "heatAround", unfollowed := true, recurses := true, apart := false }
def HeatAroundSaid : Prop := heatAroundRow.holds Try.pinned (OpenSpec.ofChange heatAroundSpec)

/-- ITS FALSE NEIGHBOUR: 'it returns false'. Refute it at one input. -/
def heatAroundWrong : ChangeSpec := { name := "heatAround", fn := fun _ => fun
  | [d1, d2] => { results := [.lit (.bool false)], args := [d1, d2] }
  | _ => none }
def HeatAroundWrongFalsely : Prop := heatAroundRow.holds Try.pinned (OpenSpec.ofChange heatAroundWrong)

/-- 'jalousielaw32.HeatShares': WHATEVER THE INPUT: true; the input reads as it did. -/
def heatSharesSpec : ChangeSpec := { name := "heatShares", fn := fun _ => fun
  | [d] => { results := [.lit (.bool true)], args := [d] }
  | _ => none }
def heatSharesRow : OpenClaim := { program := "ytmmdplcnhndcgaa", sum := "3433af2b8c858558a1c3745f7061b9369dd704a885016d1bee7de14c275a4de6", func := "jalousie/jalousielaw32.HeatShares", spec := "heatShares", unfollowed := true, recurses := true, apart := false }
def HeatSharesSaid : Prop := heatSharesRow.holds Try.pinned (OpenSpec.ofChange heatSharesSpec)

/-- ITS FALSE NEIGHBOUR: 'it returns false'. Refute it at one input. -/
def heatSharesWrong : ChangeSpec := { name := "heatShares", fn := fun _ => fun
  | [d] => { results := [.lit (.bool false)], args := [d] }
  | _ => none }
def HeatSharesWrongFalsely : Prop := heatSharesRow.holds Try.pinned (OpenSpec.ofChange heatSharesWrong)

/- THE SECOND FORM. 'bulk': how many values and letters a reading holds, each counted each time it is reached (what is shared counts as often as it is met; a slice's spare places count too). A statement '..UptoSaid' is the law's where the arguments, and the package variables that the reading takes, are together of bulk at most 1048576: NARROWER than '..Said'. Prove '..Said' where nothing that the law and all that it calls make is longer than what came in: it says more and counts as full. Else prove '..UptoSaid'. A law counts once. -/
mutual
def uptoBulk {H : Type} : DataW H → Nat
  | .lit (.string bytes) => bytes.length + 1
  | .lit _ => 1
  | .nil => 1
  | .ptr d => uptoBulk d + 1
  | .slice elems spare => uptoBulkAll elems + uptoBulkAll spare + 1
  | .agg parts => uptoBulkAll parts + 1
  | .iface _ d => uptoBulk d + 1
  | .map entries => uptoBulkEntries entries + 1
  | .held _ => 1
def uptoBulkAll {H : Type} : List (DataW H) → Nat
  | [] => 0
  | d :: r => uptoBulk d + uptoBulkAll r
def uptoBulkEntries {H : Type} : List (Lit × DataW H) → Nat
  | [] => 0
  | x :: r => uptoBulkEntry x + uptoBulkEntries r
def uptoBulkEntry {H : Type} : Lit × DataW H → Nat
  | (.string bytes, d) => bytes.length + uptoBulk d + 1
  | (_, d) => uptoBulk d + 1
 end
def uptoSmall : (H : Type) → List (DataW H) → Bool := fun _ ds => decide (uptoBulkAll ds ≤ 1048576)
def OpenSpec.upto (s : _root_.Go.ChangeSpec) : _root_.Go.OpenSpec := { _root_.Go.OpenSpec.ofChange s with cond := some uptoSmall }

/-- 'jalousielaw32.HeatOf', WHERE WHAT IT READS IS OF BULK AT MOST 1048576: true; the input reads as it did. -/
def heatOfUptoRow : OpenClaim := { program := "ytmmdplcnhndcgaa", sum := "3433af2b8c858558a1c3745f7061b9369dd704a885016d1bee7de14c275a4de6", func := "jalousie/jalousielaw32.HeatOf", spec := "heatOf", unfollowed := true, recurses := true, apart := false, narrowed := true }
def HeatOfUptoSaid : Prop := heatOfUptoRow.holds Try.pinned (OpenSpec.upto heatOfSpec)

/-- 'jalousielaw32.HeatTop', WHERE WHAT IT READS IS OF BULK AT MOST 1048576: true; the input reads as it did. -/
def heatTopUptoRow : OpenClaim := { program := "ytmmdplcnhndcgaa", sum := "3433af2b8c858558a1c3745f7061b9369dd704a885016d1bee7de14c275a4de6", func := "jalousie/jalousielaw32.HeatTop", spec := "heatTop", unfollowed := true, recurses := true, apart := false, narrowed := true }
def HeatTopUptoSaid : Prop := heatTopUptoRow.holds Try.pinned (OpenSpec.upto heatTopSpec)

/-- 'jalousielaw32.HeatAround', WHERE WHAT IT READS IS OF BULK AT MOST 1048576: true; the input reads as it did. -/
def heatAroundUptoRow : OpenClaim := { program := "ytmmdplcnhndcgaa", sum := "3433af2b8c858558a1c3745f7061b9369dd704a885016d1bee7de14c275a4de6", func := "jalousie/jalousielaw32.HeatAround", spec := "heatAround", unfollowed := true, recurses := true, apart := false, narrowed := true }
def HeatAroundUptoSaid : Prop := heatAroundUptoRow.holds Try.pinned (OpenSpec.upto heatAroundSpec)

/-- 'jalousielaw32.HeatShares', WHERE WHAT IT READS IS OF BULK AT MOST 1048576: true; the input reads as it did. -/
def heatSharesUptoRow : OpenClaim := { program := "ytmmdplcnhndcgaa", sum := "3433af2b8c858558a1c3745f7061b9369dd704a885016d1bee7de14c275a4de6", func := "jalousie/jalousielaw32.HeatShares", spec := "heatShares", unfollowed := true, recurses := true, apart := false, narrowed := true }
def HeatSharesUptoSaid : Prop := heatSharesUptoRow.holds Try.pinned (OpenSpec.upto heatSharesSpec)

end Rows
end Go.Proofs.Ytmmdplcnhndcgaa
