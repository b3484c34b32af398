/-
  No cell of these rows narrows 'for every input' (looked for: loops, veiled, ifaces, maps, wideKeys, modest, calm, conditions, laid).
  DERIVED. THE GIVEN ROWS OF THIS SEAT. 4 by the template 'for every input the law returns true; each argument reads behind the call as it read before'; 0 by the template 'total and deterministic' (their statements: YtkceknbjlogehaaTotals.lean).
  GIVEN WITH THE SEED: the statements are not yours to turn. If you find one false, say at which input.
  Laid BY PROGRAM, IN A SANDBOX (cutbox-rows.mjs): the forced cells as the released guide's own fill.sh prints them over the translation 55702e6a0919d1e6… (all of the seat's roots in one cut). By AI agents, Wed Nov 11 2026. No macro, syntax, notation, axiom, sorry.
-/
import Derived.Test.YtkceknbjlogehaaChecked
import GoSem.Claim
import GoSem.ClaimJoined
import GoSem.ClaimMapViews
import Derived.JoinedTies
import Derived.KernelRfl
namespace Go.Proofs.Ytkceknbjlogehaa
/- THE CELL 'sum', in the pinned program and in every row, IS THE sha256 OF THE DUMP (.gsa) THAT YtkceknbjlogehaaProg.lean LOADS. Nothing in Lean hashes anything: it is a label: what it is worth is what the hold of that sum in a sandbox is worth. -/
noncomputable def Try.pinned : Pinned := { name := "ytkceknbjlogehaa", sum := "55702e6a0919d1e6161d89b10075ecdbd0f8219669b6a15ee886fc611aad97df", checked := Try.checked }
namespace Rows
def none {H : Type} : Left H := { results := [], args := [] }

/-- 'jalousielaw37.MovesFind': WHATEVER THE INPUT: true; the input reads as it did. -/
def movesFindSpec : ChangeSpec := { name := "movesFind", fn := fun _ => fun
  | [d1, d2, d3] => { results := [.lit (.bool true)], args := [d1, d2, d3] }
  | _ => none }
def movesFindRow : OpenClaim := { program := "ytkceknbjlogehaa", sum := "55702e6a0919d1e6161d89b10075ecdbd0f8219669b6a15ee886fc611aad97df", func := "jalousie/jalousielaw37.MovesFind", spec := "movesFind", unfollowed := true, recurses := true, plainKeys := false, apart := false }
def MovesFindSaid : Prop := movesFindRow.holds Try.pinned (OpenSpec.ofChange movesFindSpec)

/-- ITS FALSE NEIGHBOUR: 'it returns false'. Refute it at one input. -/
def movesFindWrong : ChangeSpec := { name := "movesFind", fn := fun _ => fun
  | [d1, d2, d3] => { results := [.lit (.bool false)], args := [d1, d2, d3] }
  | _ => none }
def MovesFindWrongFalsely : Prop := movesFindRow.holds Try.pinned (OpenSpec.ofChange movesFindWrong)

/-- 'jalousielaw37.MovesGrows': WHATEVER THE INPUT: true; the input reads as it did. -/
def movesGrowsSpec : ChangeSpec := { name := "movesGrows", fn := fun _ => fun
  | [d1, d2, d3, d4, d5, d6, d7, d8] => { results := [.lit (.bool true)], args := [d1, d2, d3, d4, d5, d6, d7, d8] }
  | _ => none }
def movesGrowsRow : OpenClaim := { program := "ytkceknbjlogehaa", sum := "55702e6a0919d1e6161d89b10075ecdbd0f8219669b6a15ee886fc611aad97df", func := "jalousie/jalousielaw37.MovesGrows", spec := "movesGrows", unfollowed := true, recurses := true, plainKeys := false, apart := false }
def MovesGrowsSaid : Prop := movesGrowsRow.holds Try.pinned (OpenSpec.ofChange movesGrowsSpec)

/-- ITS FALSE NEIGHBOUR: 'it returns false'. Refute it at one input. -/
def movesGrowsWrong : ChangeSpec := { name := "movesGrows", fn := fun _ => fun
  | [d1, d2, d3, d4, d5, d6, d7, d8] => { results := [.lit (.bool false)], args := [d1, d2, d3, d4, d5, d6, d7, d8] }
  | _ => none }
def MovesGrowsWrongFalsely : Prop := movesGrowsRow.holds Try.pinned (OpenSpec.ofChange movesGrowsWrong)

/-- 'jalousielaw37.MovesBlocks': WHATEVER THE INPUT: true; the input reads as it did. -/
def movesBlocksSpec : ChangeSpec := { name := "movesBlocks", fn := fun _ => fun
  | [d1, d2, d3] => { results := [.lit (.bool true)], args := [d1, d2, d3] }
  | _ => none }
def movesBlocksRow : OpenClaim := { program := "ytkceknbjlogehaa", sum := "55702e6a0919d1e6161d89b10075ecdbd0f8219669b6a15ee886fc611aad97df", func := "jalousie/jalousielaw37.MovesBlocks", spec := "movesBlocks", unfollowed := true, recurses := true, plainKeys := false, apart := false }
def MovesBlocksSaid : Prop := movesBlocksRow.holds Try.pinned (OpenSpec.ofChange movesBlocksSpec)

/-- ITS FALSE NEIGHBOUR: 'it returns false'. Refute it at one input. -/
def movesBlocksWrong : ChangeSpec := { name := "movesBlocks", fn := fun _ => fun
  | [d1, d2, d3] => { results := [.lit (.bool false)], args := [d1, d2, d3] }
  | _ => none }
def MovesBlocksWrongFalsely : Prop := movesBlocksRow.holds Try.pinned (OpenSpec.ofChange movesBlocksWrong)

/-- 'jalousielaw37.MovesNone': WHATEVER THE INPUT: true; the input reads as it did. -/
def movesNoneSpec : ChangeSpec := { name := "movesNone", fn := fun _ => fun
  | [d1, d2, d3, d4] => { results := [.lit (.bool true)], args := [d1, d2, d3, d4] }
  | _ => none }
def movesNoneRow : OpenClaim := { program := "ytkceknbjlogehaa", sum := "55702e6a0919d1e6161d89b10075ecdbd0f8219669b6a15ee886fc611aad97df", func := "jalousie/jalousielaw37.MovesNone", spec := "movesNone", unfollowed := true, recurses := true, plainKeys := false, apart := false }
def MovesNoneSaid : Prop := movesNoneRow.holds Try.pinned (OpenSpec.ofChange movesNoneSpec)

/-- ITS FALSE NEIGHBOUR: 'it returns false'. Refute it at one input. -/
def movesNoneWrong : ChangeSpec := { name := "movesNone", fn := fun _ => fun
  | [d1, d2, d3, d4] => { results := [.lit (.bool false)], args := [d1, d2, d3, d4] }
  | _ => none }
def MovesNoneWrongFalsely : Prop := movesNoneRow.holds Try.pinned (OpenSpec.ofChange movesNoneWrong)

/- THE SECOND FORM. 'bulk': how many values and letters a reading holds, each counted each time it is reached (what is shared counts as often as it is met; a slice's spare places count too). A statement '..UptoSaid' is the law's where the arguments, and the package variables that the reading takes, are together of bulk at most 1048576: NARROWER than '..Said'. Prove '..Said' where nothing that the law and all that it calls make is longer than what came in: it says more and counts as full. Else prove '..UptoSaid'. A law counts once. -/
mutual
def uptoBulk {H : Type} : DataW H → Nat
  | .lit (.string bytes) => bytes.length + 1
  | .lit _ => 1
  | .nil => 1
  | .ptr d => uptoBulk d + 1
  | .slice elems spare => uptoBulkAll elems + uptoBulkAll spare + 1
  | .agg parts => uptoBulkAll parts + 1
  | .iface _ d => uptoBulk d + 1
  | .map entries => uptoBulkEntries entries + 1
  | .held _ => 1
def uptoBulkAll {H : Type} : List (DataW H) → Nat
  | [] => 0
  | d :: r => uptoBulk d + uptoBulkAll r
def uptoBulkEntries {H : Type} : List (Lit × DataW H) → Nat
  | [] => 0
  | x :: r => uptoBulkEntry x + uptoBulkEntries r
def uptoBulkEntry {H : Type} : Lit × DataW H → Nat
  | (.string bytes, d) => bytes.length + uptoBulk d + 1
  | (_, d) => uptoBulk d + 1
 end
def uptoSmall : (H : Type) → List (DataW H) → Bool := fun _ ds => decide (uptoBulkAll ds ≤ 1048576)
def OpenSpec.upto (s : _root_.Go.ChangeSpec) : _root_.Go.OpenSpec := { _root_.Go.OpenSpec.ofChange s with cond := some uptoSmall }

/-- 'jalousielaw37.MovesFind', WHERE WHAT IT READS IS OF BULK AT MOST 1048576: true; the input reads as it did. -/
def movesFindUptoRow : OpenClaim := { program := "ytkceknbjlogehaa", sum := "55702e6a0919d1e6161d89b10075ecdbd0f8219669b6a15ee886fc611aad97df", func := "jalousie/jalousielaw37.MovesFind", spec := "movesFind", unfollowed := true, recurses := true, plainKeys := false, apart := false, narrowed := true }
def MovesFindUptoSaid : Prop := movesFindUptoRow.holds Try.pinned (OpenSpec.upto movesFindSpec)

/-- 'jalousielaw37.MovesGrows', WHERE WHAT IT READS IS OF BULK AT MOST 1048576: true; the input reads as it did. -/
def movesGrowsUptoRow : OpenClaim := { program := "ytkceknbjlogehaa", sum := "55702e6a0919d1e6161d89b10075ecdbd0f8219669b6a15ee886fc611aad97df", func := "jalousie/jalousielaw37.MovesGrows", spec := "movesGrows", unfollowed := true, recurses := true, plainKeys := false, apart := false, narrowed := true }
def MovesGrowsUptoSaid : Prop := movesGrowsUptoRow.holds Try.pinned (OpenSpec.upto movesGrowsSpec)

/-- 'jalousielaw37.MovesBlocks', WHERE WHAT IT READS IS OF BULK AT MOST 1048576: true; the input reads as it did. -/
def movesBlocksUptoRow : OpenClaim := { program := "ytkceknbjlogehaa", sum := "55702e6a0919d1e6161d89b10075ecdbd0f8219669b6a15ee886fc611aad97df", func := "jalousie/jalousielaw37.MovesBlocks", spec := "movesBlocks", unfollowed := true, recurses := true, plainKeys := false, apart := false, narrowed := true }
def MovesBlocksUptoSaid : Prop := movesBlocksUptoRow.holds Try.pinned (OpenSpec.upto movesBlocksSpec)

/-- 'jalousielaw37.MovesNone', WHERE WHAT IT READS IS OF BULK AT MOST 1048576: true; the input reads as it did. -/
def movesNoneUptoRow : OpenClaim := { program := "ytkceknbjlogehaa", sum := "55702e6a0919d1e6161d89b10075ecdbd0f8219669b6a15ee886fc611aad97df", func := "jalousie/jalousielaw37.MovesNone", spec := "movesNone", unfollowed := true, recurses := true, plainKeys := false, apart := false, narrowed := true }
def MovesNoneUptoSaid : Prop := movesNoneUptoRow.holds Try.pinned (OpenSpec.upto movesNoneSpec)

end Rows
end Go.Proofs.Ytkceknbjlogehaa
