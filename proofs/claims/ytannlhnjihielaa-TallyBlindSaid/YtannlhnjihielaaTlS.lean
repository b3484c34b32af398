import Derived.Test.YtannlhnjihielaaTlN
import Derived.Test.YtannlhnjihielaaTlW
import Derived.Shelf.SlSortCmp.NoneTotal
import Derived.Shelf.Lay
import Derived.Ground.SlsfProg

namespace Go.Proofs.Ytannlhnjihielaa
open Go.RowKit Go.Sort Go.Shelf Go.Lib
open Go.Gv (Lb eLb KB No SortsN SortsK)
open Go.Tly (LO lo_is LTL lo_cmp)
set_option linter.unusedVariables false
theorem orl_cw (x y : Int) : Cw.ORL [x, y] = Cm.ORL [x, y] := by
  have h1 := Cw.orl2 x y
  have h2 := Cm.orl2 x y
  omega
theorem cmpi_cw (x y : Int) : Cw.CMPI x y = Cm.CMPI x y := by
  have h1 := Cw.cmpi_is x y
  have h2 := Cm.cmpi_is x y
  omega
theorem order_drawn (W : World) (x y : Lb) : Calls Try.prog 12 #[.agg #[.int .i64 x.1, .int .u64 x.2], .agg #[.int .i64 y.1, .int .u64 y.2]] W fun e w' => e = .returned (.int .i64 (LO x y)) ∧ KB No W w' ∧ W.drawn ≤ w'.drawn :=
  (Go.Proofs.Ytannlhnjihielaa.W.orderw_calls (w := W) (a := x) (b := y)).mono fun e w' ⟨v, he, hv, hk⟩ => ⟨by rw [he, hv, cmpi_cw, cmpi_cw, orl_cw, lo_cmp], ⟨hk.os, hk.tape, hk.output, fun d => (show False from d).elim, hk.size, hk.blk⟩, hk.dr (by unfold Gw.DR; trivial)⟩
def sortL_ren : Go.Shelf.Ren := ⟨fun | 6 => 26 | 15 => 33 | 14 => 32 | 28 => 42 | 29 => 43 | 20 => 34 | 21 => 35 | 22 => 36 | 23 => 37 | 24 => 38 | 25 => 39 | 26 => 40 | 27 => 41 | 46 => 44 | 47 => 45 | 48 => 46 | 49 => 47 | 50 => 48 | 57 => 49 | n => n, fun | 22 => 44 | 24 => 25 | 25 => 33 | 3 => 3 | 39 => 65 | 0 => 0 | 53 => 75 | 55 => 23 | 4 => 4 | 46 => 68 | 45 => 67 | 50 => 72 | 5 => 5 | 9 => 9 | 66 => 77 | 70 => 81 | 76 => 83 | 77 => 84 | n => n, fun | n => n⟩
theorem sortL : Go.Proofs.SlLaysF0.n6 Try.prog sortL_ren := {
  mixed := by kernel_rfl
  f6 := ⟨Try.f26.name, by decide, Try.func26.trans (congrArg some (by kernel_rfl))⟩
  f14 := ⟨Try.f32.name, by decide, Try.func32.trans (congrArg some (by kernel_rfl))⟩
  f15 := Try.func33.trans (congrArg some (by kernel_rfl))
  f20 := ⟨Try.f34.name, by decide, Try.func34.trans (congrArg some (by kernel_rfl))⟩
  f21 := ⟨Try.f35.name, by decide, Try.func35.trans (congrArg some (by kernel_rfl))⟩
  f22 := ⟨Try.f36.name, by decide, Try.func36.trans (congrArg some (by kernel_rfl))⟩
  f23 := ⟨Try.f37.name, by decide, Try.func37.trans (congrArg some (by kernel_rfl))⟩
  f24 := ⟨Try.f38.name, by decide, Try.func38.trans (congrArg some (by kernel_rfl))⟩
  f25 := ⟨Try.f39.name, by decide, Try.func39.trans (congrArg some (by kernel_rfl))⟩
  f26 := ⟨Try.f40.name, by decide, Try.func40.trans (congrArg some (by kernel_rfl))⟩
  f27 := ⟨Try.f41.name, by decide, Try.func41.trans (congrArg some (by kernel_rfl))⟩
  f28 := Try.func42.trans (congrArg some (by kernel_rfl))
  f29 := Try.func43.trans (congrArg some (by kernel_rfl))
  f46 := ⟨Try.f44.name, by decide, Try.func44.trans (congrArg some (by kernel_rfl))⟩
  f47 := Try.func45.trans (congrArg some (by kernel_rfl))
  f48 := Try.func46.trans (congrArg some (by kernel_rfl))
  f49 := ⟨Try.f47.name, by decide, Try.func47.trans (congrArg some (by kernel_rfl))⟩
  f50 := ⟨Try.f48.name, by decide, Try.func48.trans (congrArg some (by kernel_rfl))⟩
  f57 := ⟨Try.f49.name, by decide, Try.func49.trans (congrArg some (by kernel_rfl))⟩
  t0 := Try.underlying0
  a0 := Try.isAgg0
  z0 := Try.sizeOf0
  v0 := Try.zeroValue0
  t3 := Try.underlying3
  a3 := Try.isAgg3
  z3 := Try.sizeOf3
  v3 := Try.zeroValue3
  t4 := Try.underlying4
  a4 := Try.isAgg4
  z4 := Try.sizeOf4
  v4 := Try.zeroValue4
  t5 := Try.underlying5
  a5 := Try.isAgg5
  z5 := Try.sizeOf5
  v5 := Try.zeroValue5
  t9 := Try.underlying9
  a9 := Try.isAgg9
  z9 := Try.sizeOf9
  v9 := Try.zeroValue9
  t22 := Try.underlying44
  a22 := Try.isAgg44
  z22 := Try.sizeOf44
  v22 := Try.zeroValue44
  t25 := Try.underlying33
  a25 := Try.isAgg33
  z25 := Try.sizeOf33
  v25 := Try.zeroValue33
  t39 := Try.underlying65
  a39 := Try.isAgg65
  z39 := Try.sizeOf65
  v39 := Try.zeroValue65
  t45 := Try.underlying67
  a45 := Try.isAgg67
  z45 := Try.sizeOf67
  v45 := Try.zeroValue67
  t46 := Try.underlying68
  a46 := Try.isAgg68
  z46 := Try.sizeOf68
  v46 := Try.zeroValue68
  t50 := Try.underlying72
  a50 := Try.isAgg72
  z50 := Try.sizeOf72
  v50 := Try.zeroValue72
  t53 := Try.underlying75
  a53 := Try.isAgg75
  z53 := Try.sizeOf75
  v53 := Try.zeroValue75
  t55 := Try.underlying23
  a55 := Try.isAgg23
  z55 := Try.sizeOf23
  v55 := Try.zeroValue23
  t66 := Try.underlying77
  a66 := Try.isAgg77
  z66 := Try.sizeOf77
  v66 := Try.zeroValue77
  t70 := Try.underlying81
  a70 := Try.isAgg81
  z70 := Try.sizeOf81
  v70 := Try.zeroValue81
  t76 := Try.underlying83
  a76 := Try.isAgg83
  z76 := Try.sizeOf83
  v76 := Try.zeroValue83
  t77 := Try.underlying84
  a77 := Try.isAgg84
  z77 := Try.sizeOf84
  v77 := Try.zeroValue84 }
abbrev p_sortL (x : Lb) : Prop := True
instance : Inhabited {x : Lb // p_sortL x} := ⟨⟨(0, 0), trivial⟩⟩
theorem swo_sortL : Go.Sort.SWO (ltOf fun x y : {x : Lb // p_sortL x} => (fun x y : Lb => LO x y) x.1 y.1) := by
  have key : ∀ x y : {x : Lb // p_sortL x}, ltOf (fun x y : {x : Lb // p_sortL x} => (fun x y : Lb => LO x y) x.1 y.1) x y = decide (LTL x.1 y.1) := fun x y => decide_eq_decide.2 (by have h := lo_is x.1 y.1; show LO x.1 y.1 < 0 ↔ _; constructor <;> intro h2 <;> rcases h with h | h | h <;> first | exact h.1 | exact absurd h2 (by omega) | exact absurd h2 h.1 | omega)
  exact ⟨fun x => by rw [key]; exact decide_eq_false fun h => Go.Tly.ltl_ne h rfl, fun x y z h1 h2 => by rw [key] at h1 h2 ⊢; rw [decide_eq_true_iff] at h1 h2 ⊢; unfold LTL at *; omega, fun x y z h1 h2 => by rw [key] at h1 h2 ⊢; rw [decide_eq_false_iff_not] at h1 h2 ⊢; unfold LTL at *; omega⟩
theorem sortN_sortL {c : FuncId} {cb : Array Value} : SortsN Try.prog 26 c cb := fun p cap w => by
  have h := AnyF.slices_SortFunc_none sortL p cap (.func (.func c) #[] cb) w
  exact h
theorem tiLb : Gv.TI Try.prog 25 (.agg #[(.int .i64 0), (.int .u64 0)]) 2 16 := by unfold Gv.TI; kernel_rfl
theorem sortK_sortL : SortsK Try.prog 26 12 #[] (eLb.sub p_sortL) (fun x y => (fun x y : Lb => LO x y) x.1 y.1) := fun blk cap d w hc hH hb hs => by
  have h := AnyQ.slices_SortFunc sortL 2 (Gv.isAgg_of Try.underlying25 rfl) (Gv.sizeOf_of tiLb) (eLb.sub p_sortL).enc (eLb.sub p_sortL).len (eLb.sub p_sortL).one (fun x y => (fun x y : Lb => LO x y) x.1 y.1) swo_sortL 12 #[] blk 0 cap d w (enters_of Try.func12 (by kernel_rfl) rfl) hc hH hb hs
  exact h
end Go.Proofs.Ytannlhnjihielaa
