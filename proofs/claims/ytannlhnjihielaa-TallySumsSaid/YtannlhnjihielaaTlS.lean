import Derived.Test.YtannlhnjihielaaTlN
import Derived.Test.YtannlhnjihielaaTlW
import Derived.Shelf.SlSortCmp.NoneTotal
import Derived.Shelf.Lay
import Derived.Ground.SlsfProg

namespace Go.Proofs.Ytannlhnjihielaa
open Go.RowKit Go.Sort Go.Shelf Go.Lib
open Go.Gv (Lb eLb KB No SortsN SortsK)
open Go.Tly (LO lo_is LTL lo_cmp)
set_option linter.unusedVariables false
theorem orl_cw (x y : Int) : Cw.ORL [x, y] = Cm.ORL [x, y] := by
  have h1 := Cw.orl2 x y
  have h2 := Cm.orl2 x y
  omega
theorem cmpi_cw (x y : Int) : Cw.CMPI x y = Cm.CMPI x y := by
  have h1 := Cw.cmpi_is x y
  have h2 := Cm.cmpi_is x y
  omega
theorem order_drawn (W : World) (x y : Lb) : Calls Try.prog 12 #[.agg #[.int .i64 x.1, .int .u64 x.2], .agg #[.int .i64 y.1, .int .u64 y.2]] W fun e w' => e = .returned (.int .i64 (LO x y)) ∧ KB No W w' ∧ W.drawn ≤ w'.drawn :=
  (Go.Proofs.Ytannlhnjihielaa.W.orderw_calls (w := W) (a := x) (b := y)).mono fun e w' ⟨v, he, hv, hk⟩ => ⟨by rw [he, hv, cmpi_cw, cmpi_cw, orl_cw, lo_cmp], ⟨hk.os, hk.tape, hk.output, fun d => (show False from d).elim, hk.size, hk.blk⟩, hk.dr (by unfold Gw.DR; trivial)⟩
shelf_lay_g SlLaysF0.n6 Slsf 6 at Try 26 as sortL
abbrev p_sortL (x : Lb) : Prop := True
instance : Inhabited {x : Lb // p_sortL x} := ⟨⟨(0, 0), trivial⟩⟩
theorem swo_sortL : Go.Sort.SWO (ltOf fun x y : {x : Lb // p_sortL x} => (fun x y : Lb => LO x y) x.1 y.1) := by
  have key : ∀ x y : {x : Lb // p_sortL x}, ltOf (fun x y : {x : Lb // p_sortL x} => (fun x y : Lb => LO x y) x.1 y.1) x y = decide (LTL x.1 y.1) := fun x y => decide_eq_decide.2 (by have h := lo_is x.1 y.1; show LO x.1 y.1 < 0 ↔ _; constructor <;> intro h2 <;> rcases h with h | h | h <;> first | exact h.1 | exact absurd h2 (by omega) | exact absurd h2 h.1 | omega)
  exact ⟨fun x => by rw [key]; exact decide_eq_false fun h => Go.Tly.ltl_ne h rfl, fun x y z h1 h2 => by rw [key] at h1 h2 ⊢; rw [decide_eq_true_iff] at h1 h2 ⊢; unfold LTL at *; omega, fun x y z h1 h2 => by rw [key] at h1 h2 ⊢; rw [decide_eq_false_iff_not] at h1 h2 ⊢; unfold LTL at *; omega⟩
theorem sortN_sortL {c : FuncId} {cb : Array Value} : SortsN Try.prog 26 c cb := fun p cap w => by
  have h := AnyF.slices_SortFunc_none sortL p cap (.func (.func c) #[] cb) w
  exact h
theorem tiLb : Gv.TI Try.prog 25 (.agg #[(.int .i64 0), (.int .u64 0)]) 2 16 := by unfold Gv.TI; kernel_rfl
theorem sortK_sortL : SortsK Try.prog 26 12 #[] (eLb.sub p_sortL) (fun x y => (fun x y : Lb => LO x y) x.1 y.1) := fun blk cap d w hc hH hb hs => by
  have h := AnyQ.slices_SortFunc sortL 2 (Gv.isAgg_of Try.underlying25 rfl) (Gv.sizeOf_of tiLb) (eLb.sub p_sortL).enc (eLb.sub p_sortL).len (eLb.sub p_sortL).one (fun x y => (fun x y : Lb => LO x y) x.1 y.1) swo_sortL 12 #[] blk 0 cap d w (enters_of Try.func12 (by kernel_rfl) rfl) hc hH hb hs
  exact h
end Go.Proofs.Ytannlhnjihielaa
