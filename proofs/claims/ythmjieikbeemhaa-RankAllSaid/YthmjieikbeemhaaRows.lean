/-
  No cell of these rows narrows 'for every input' (looked for: loops, veiled, ifaces, maps, wideKeys, modest, calm, conditions, laid).
  DERIVED. THE GIVEN ROWS OF THIS SEAT. 6 by the template 'for every input the law returns true; each argument reads behind the call as it read before'; 0 by the template 'total and deterministic' (their statements: YthmjieikbeemhaaTotals.lean).
  GIVEN WITH THE SEED: the statements are not yours to turn. If you find one false, say at which input.
  Laid BY PROGRAM, IN A SANDBOX (cutbox-rows.mjs): the forced cells as the released guide's own fill.sh prints them over the translation 8cb8a05e73566617… (all of the seat's roots in one cut). By AI agents, Wed Nov 11 2026. No macro, syntax, notation, axiom, sorry.
-/
import Derived.Test.YthmjieikbeemhaaChecked
import GoSem.Claim
import GoSem.ClaimJoined
import GoSem.ClaimMapViews
import Derived.JoinedTies
import Derived.KernelRfl
namespace Go.Proofs.Ythmjieikbeemhaa
/- THE CELL 'sum', in the pinned program and in every row, IS THE sha256 OF THE DUMP (.gsa) THAT YthmjieikbeemhaaProg.lean LOADS. Nothing in Lean hashes anything: it is a label: what it is worth is what the hold of that sum in a sandbox is worth. -/
noncomputable def Try.pinned : Pinned := { name := "ythmjieikbeemhaa", sum := "8cb8a05e735666178b19be70001898456d315739fb2b12dcb275d208651fe86c", checked := Try.checked }
namespace Rows
def none {H : Type} : Left H := { results := [], args := [] }

/-- 'jalousielaw23.RankLike': WHATEVER THE INPUT: true; the input reads as it did. -/
def rankLikeSpec : ChangeSpec := { name := "rankLike", fn := fun _ => fun
  | [d1, d2] => { results := [.lit (.bool true)], args := [d1, d2] }
  | _ => none }
def rankLikeRow : OpenClaim := { program := "ythmjieikbeemhaa", sum := "8cb8a05e735666178b19be70001898456d315739fb2b12dcb275d208651fe86c", func := "jalousie/jalousielaw23.RankLike", spec := "rankLike", unfollowed := true, recurses := true, plainKeys := false, apart := false }
def RankLikeSaid : Prop := rankLikeRow.holds Try.pinned (OpenSpec.ofChange rankLikeSpec)

/-- ITS FALSE NEIGHBOUR: 'it returns false'. Refute it at one input. -/
def rankLikeWrong : ChangeSpec := { name := "rankLike", fn := fun _ => fun
  | [d1, d2] => { results := [.lit (.bool false)], args := [d1, d2] }
  | _ => none }
def RankLikeWrongFalsely : Prop := rankLikeRow.holds Try.pinned (OpenSpec.ofChange rankLikeWrong)

/-- 'jalousielaw23.RankAll': WHATEVER THE INPUT: true; the input reads as it did. -/
def rankAllSpec : ChangeSpec := { name := "rankAll", fn := fun _ => fun
  | [d1, d2] => { results := [.lit (.bool true)], args := [d1, d2] }
  | _ => none }
def rankAllRow : OpenClaim := { program := "ythmjieikbeemhaa", sum := "8cb8a05e735666178b19be70001898456d315739fb2b12dcb275d208651fe86c", func := "jalousie/jalousielaw23.RankAll", spec := "rankAll", unfollowed := true, recurses := true, plainKeys := false, apart := false }
def RankAllSaid : Prop := rankAllRow.holds Try.pinned (OpenSpec.ofChange rankAllSpec)

/-- ITS FALSE NEIGHBOUR: 'it returns false'. Refute it at one input. -/
def rankAllWrong : ChangeSpec := { name := "rankAll", fn := fun _ => fun
  | [d1, d2] => { results := [.lit (.bool false)], args := [d1, d2] }
  | _ => none }
def RankAllWrongFalsely : Prop := rankAllRow.holds Try.pinned (OpenSpec.ofChange rankAllWrong)

/-- 'jalousielaw23.RankPrints': WHATEVER THE INPUT: true; the input reads as it did. -/
def rankPrintsSpec : ChangeSpec := { name := "rankPrints", fn := fun _ => fun
  | [d] => { results := [.lit (.bool true)], args := [d] }
  | _ => none }
def rankPrintsRow : OpenClaim := { program := "ythmjieikbeemhaa", sum := "8cb8a05e735666178b19be70001898456d315739fb2b12dcb275d208651fe86c", func := "jalousie/jalousielaw23.RankPrints", spec := "rankPrints", unfollowed := true, recurses := true, plainKeys := false, apart := false }
def RankPrintsSaid : Prop := rankPrintsRow.holds Try.pinned (OpenSpec.ofChange rankPrintsSpec)

/-- ITS FALSE NEIGHBOUR: 'it returns false'. Refute it at one input. -/
def rankPrintsWrong : ChangeSpec := { name := "rankPrints", fn := fun _ => fun
  | [d] => { results := [.lit (.bool false)], args := [d] }
  | _ => none }
def RankPrintsWrongFalsely : Prop := rankPrintsRow.holds Try.pinned (OpenSpec.ofChange rankPrintsWrong)

/-- 'jalousielaw23.RankTurns': WHATEVER THE INPUT: true; the input reads as it did. -/
def rankTurnsSpec : ChangeSpec := { name := "rankTurns", fn := fun _ => fun
  | [d1, d2] => { results := [.lit (.bool true)], args := [d1, d2] }
  | _ => none }
def rankTurnsRow : OpenClaim := { program := "ythmjieikbeemhaa", sum := "8cb8a05e735666178b19be70001898456d315739fb2b12dcb275d208651fe86c", func := "jalousie/jalousielaw23.RankTurns", spec := "rankTurns", unfollowed := true, recurses := true, plainKeys := false, apart := false }
def RankTurnsSaid : Prop := rankTurnsRow.holds Try.pinned (OpenSpec.ofChange rankTurnsSpec)

/-- ITS FALSE NEIGHBOUR: 'it returns false'. Refute it at one input. -/
def rankTurnsWrong : ChangeSpec := { name := "rankTurns", fn := fun _ => fun
  | [d1, d2] => { results := [.lit (.bool false)], args := [d1, d2] }
  | _ => none }
def RankTurnsWrongFalsely : Prop := rankTurnsRow.holds Try.pinned (OpenSpec.ofChange rankTurnsWrong)

/-- 'jalousielaw23.RankSelf': WHATEVER THE INPUT: true; the input reads as it did. -/
def rankSelfSpec : ChangeSpec := { name := "rankSelf", fn := fun _ => fun
  | [d1, d2] => { results := [.lit (.bool true)], args := [d1, d2] }
  | _ => none }
def rankSelfRow : OpenClaim := { program := "ythmjieikbeemhaa", sum := "8cb8a05e735666178b19be70001898456d315739fb2b12dcb275d208651fe86c", func := "jalousie/jalousielaw23.RankSelf", spec := "rankSelf", unfollowed := true, recurses := true, plainKeys := false, apart := false }
def RankSelfSaid : Prop := rankSelfRow.holds Try.pinned (OpenSpec.ofChange rankSelfSpec)

/-- ITS FALSE NEIGHBOUR: 'it returns false'. Refute it at one input. -/
def rankSelfWrong : ChangeSpec := { name := "rankSelf", fn := fun _ => fun
  | [d1, d2] => { results := [.lit (.bool false)], args := [d1, d2] }
  | _ => none }
def RankSelfWrongFalsely : Prop := rankSelfRow.holds Try.pinned (OpenSpec.ofChange rankSelfWrong)

/-- 'jalousielaw23.RankCounts': WHATEVER THE INPUT: true; the input reads as it did. -/
def rankCountsSpec : ChangeSpec := { name := "rankCounts", fn := fun _ => fun
  | [d1, d2] => { results := [.lit (.bool true)], args := [d1, d2] }
  | _ => none }
def rankCountsRow : OpenClaim := { program := "ythmjieikbeemhaa", sum := "8cb8a05e735666178b19be70001898456d315739fb2b12dcb275d208651fe86c", func := "jalousie/jalousielaw23.RankCounts", spec := "rankCounts", unfollowed := true, recurses := true, plainKeys := false, apart := false }
def RankCountsSaid : Prop := rankCountsRow.holds Try.pinned (OpenSpec.ofChange rankCountsSpec)

/-- ITS FALSE NEIGHBOUR: 'it returns false'. Refute it at one input. -/
def rankCountsWrong : ChangeSpec := { name := "rankCounts", fn := fun _ => fun
  | [d1, d2] => { results := [.lit (.bool false)], args := [d1, d2] }
  | _ => none }
def RankCountsWrongFalsely : Prop := rankCountsRow.holds Try.pinned (OpenSpec.ofChange rankCountsWrong)

/- THE SECOND FORM. 'bulk': how many values and letters a reading holds, each counted each time it is reached (what is shared counts as often as it is met; a slice's spare places count too). A statement '..UptoSaid' is the law's where the arguments, and the package variables that the reading takes, are together of bulk at most 1048576: NARROWER than '..Said'. Prove '..Said' where nothing that the law and all that it calls make is longer than what came in: it says more and counts as full. Else prove '..UptoSaid'. A law counts once. -/
mutual
def uptoBulk {H : Type} : DataW H → Nat
  | .lit (.string bytes) => bytes.length + 1
  | .lit _ => 1
  | .nil => 1
  | .ptr d => uptoBulk d + 1
  | .slice elems spare => uptoBulkAll elems + uptoBulkAll spare + 1
  | .agg parts => uptoBulkAll parts + 1
  | .iface _ d => uptoBulk d + 1
  | .map entries => uptoBulkEntries entries + 1
  | .held _ => 1
def uptoBulkAll {H : Type} : List (DataW H) → Nat
  | [] => 0
  | d :: r => uptoBulk d + uptoBulkAll r
def uptoBulkEntries {H : Type} : List (Lit × DataW H) → Nat
  | [] => 0
  | x :: r => uptoBulkEntry x + uptoBulkEntries r
def uptoBulkEntry {H : Type} : Lit × DataW H → Nat
  | (.string bytes, d) => bytes.length + uptoBulk d + 1
  | (_, d) => uptoBulk d + 1
 end
def uptoSmall : (H : Type) → List (DataW H) → Bool := fun _ ds => decide (uptoBulkAll ds ≤ 1048576)
def OpenSpec.upto (s : _root_.Go.ChangeSpec) : _root_.Go.OpenSpec := { _root_.Go.OpenSpec.ofChange s with cond := some uptoSmall }

/-- 'jalousielaw23.RankLike', WHERE WHAT IT READS IS OF BULK AT MOST 1048576: true; the input reads as it did. -/
def rankLikeUptoRow : OpenClaim := { program := "ythmjieikbeemhaa", sum := "8cb8a05e735666178b19be70001898456d315739fb2b12dcb275d208651fe86c", func := "jalousie/jalousielaw23.RankLike", spec := "rankLike", unfollowed := true, recurses := true, plainKeys := false, apart := false, narrowed := true }
def RankLikeUptoSaid : Prop := rankLikeUptoRow.holds Try.pinned (OpenSpec.upto rankLikeSpec)

/-- 'jalousielaw23.RankAll', WHERE WHAT IT READS IS OF BULK AT MOST 1048576: true; the input reads as it did. -/
def rankAllUptoRow : OpenClaim := { program := "ythmjieikbeemhaa", sum := "8cb8a05e735666178b19be70001898456d315739fb2b12dcb275d208651fe86c", func := "jalousie/jalousielaw23.RankAll", spec := "rankAll", unfollowed := true, recurses := true, plainKeys := false, apart := false, narrowed := true }
def RankAllUptoSaid : Prop := rankAllUptoRow.holds Try.pinned (OpenSpec.upto rankAllSpec)

/-- 'jalousielaw23.RankPrints', WHERE WHAT IT READS IS OF BULK AT MOST 1048576: true; the input reads as it did. -/
def rankPrintsUptoRow : OpenClaim := { program := "ythmjieikbeemhaa", sum := "8cb8a05e735666178b19be70001898456d315739fb2b12dcb275d208651fe86c", func := "jalousie/jalousielaw23.RankPrints", spec := "rankPrints", unfollowed := true, recurses := true, plainKeys := false, apart := false, narrowed := true }
def RankPrintsUptoSaid : Prop := rankPrintsUptoRow.holds Try.pinned (OpenSpec.upto rankPrintsSpec)

/-- 'jalousielaw23.RankTurns', WHERE WHAT IT READS IS OF BULK AT MOST 1048576: true; the input reads as it did. -/
def rankTurnsUptoRow : OpenClaim := { program := "ythmjieikbeemhaa", sum := "8cb8a05e735666178b19be70001898456d315739fb2b12dcb275d208651fe86c", func := "jalousie/jalousielaw23.RankTurns", spec := "rankTurns", unfollowed := true, recurses := true, plainKeys := false, apart := false, narrowed := true }
def RankTurnsUptoSaid : Prop := rankTurnsUptoRow.holds Try.pinned (OpenSpec.upto rankTurnsSpec)

/-- 'jalousielaw23.RankSelf', WHERE WHAT IT READS IS OF BULK AT MOST 1048576: true; the input reads as it did. -/
def rankSelfUptoRow : OpenClaim := { program := "ythmjieikbeemhaa", sum := "8cb8a05e735666178b19be70001898456d315739fb2b12dcb275d208651fe86c", func := "jalousie/jalousielaw23.RankSelf", spec := "rankSelf", unfollowed := true, recurses := true, plainKeys := false, apart := false, narrowed := true }
def RankSelfUptoSaid : Prop := rankSelfUptoRow.holds Try.pinned (OpenSpec.upto rankSelfSpec)

/-- 'jalousielaw23.RankCounts', WHERE WHAT IT READS IS OF BULK AT MOST 1048576: true; the input reads as it did. -/
def rankCountsUptoRow : OpenClaim := { program := "ythmjieikbeemhaa", sum := "8cb8a05e735666178b19be70001898456d315739fb2b12dcb275d208651fe86c", func := "jalousie/jalousielaw23.RankCounts", spec := "rankCounts", unfollowed := true, recurses := true, plainKeys := false, apart := false, narrowed := true }
def RankCountsUptoSaid : Prop := rankCountsUptoRow.holds Try.pinned (OpenSpec.upto rankCountsSpec)

end Rows
end Go.Proofs.Ythmjieikbeemhaa
