/- Blocks sorted. -/
import Derived.Shelf.SlSortCmp.NoneTotal
import Derived.Shelf.Lay
import Derived.Ground.SlsfProg
import Derived.Test.YtkceknbjlogehaaProg
import Derived.Test.YtkceknbjlogehaaMvC
import Derived.Test.YtkceknbjlogehaaGvS
namespace Go.Proofs.Ytkceknbjlogehaa
open Go Go.Gv Go.RowKit Go.Mys Go.Num Go.Scr Go.Itn Go.Mov Go.Shelf Go.Lib Go.Sort
set_option linter.unusedVariables false
set_option linter.unusedSimpArgs false

theorem cmpB_calls {w : World} {x : (Int × Int × Int)} {y : (Int × Int × Int)} (hx : 0 ≤ x.1 ∧ x.1 ≤ 1000000) (hy : 0 ≤ y.1 ∧ y.1 ≤ 1000000) :
    Calls Try.prog 24 #[(.agg #[(.int .i64 ((x).1)), (.int .i64 ((x).2.1)), (.int .i64 ((x).2.2))]), (.agg #[(.int .i64 ((y).1)), (.int .i64 ((y).2.1)), (.int .i64 ((y).2.2))])] w fun e w' => ∃ v, e = .returned v ∧ (fun v w' => v = .int .i64 (x.1 - y.1) ∧ KB No w w') v w' := by
  have hS : SH w No w [] := SH.nil _ _
  refine calls (l := litOf [(.agg #[(.int .i64 ((x).1)), (.int .i64 ((x).2.1)), (.int .i64 ((x).2.2))]), (.agg #[(.int .i64 ((y).1)), (.int .i64 ((y).2.1)), (.int .i64 ((y).2.2))])] 0) Try.func24 rfl (n := 10) rfl (Nat.le_of_ble_eq_true rfl) (lit_args _) ?_
  refine WC.seq ?_
  refine WC.region ?_
  refine WL.xe rfl (XE.box #[(.int .i64 ((x).1)), (.int .i64 ((x).2.1)), (.int .i64 ((x).2.2))] hS rfl rfl) ?_
  rintro _ w1 ⟨b1, rfl, hS1, hk1⟩
  refine WL.xe rfl (XE.box #[(.int .i64 ((y).1)), (.int .i64 ((y).2.1)), (.int .i64 ((y).2.2))] hS1 rfl rfl) ?_
  rintro _ w2 ⟨b2, rfl, hS2, hk2⟩
  refine WL.lv rfl (LV.asg rfl) ?_
  refine WL.nil (thenQ.n ?_)
  refine WC.seq ?_
  refine WC.region ?_
  refine WL.lv rfl (LV.fieldA Try.underlying43 rfl ti3.sz rfl) ?_
  refine WL.lv rfl (LV.load1 Try.underlying3 rfl rfl (Blk.cellN (SH.at hS2 (.tail _ (.head _))) 0 rfl _ (KB.refl No _))) ?_
  refine WL.lv rfl (LV.fieldA Try.underlying43 rfl ti3.sz rfl) ?_
  refine WL.lv rfl (LV.load1 Try.underlying3 rfl rfl (Blk.cellN (SH.at hS2 (.head _)) 0 rfl _ (KB.refl No _))) ?_
  refine WL.lv rfl (LV.sub rfl rfl (wr64 (by omega) (by omega))) ?_
  refine WL.lv rfl (LV.asg rfl) ?_
  refine WL.nil (thenQ.n ?_)
  refine WC.ret (?_)
  exact ⟨_, fun a ha => res1 rfl ha rfl, congrArg (Value.int .i64) (by omega), hS2.kb⟩

def sortB_ren : Go.Shelf.Ren := ⟨fun | 6 => 23 | 15 => 33 | 14 => 32 | 28 => 48 | 29 => 49 | 20 => 40 | 21 => 41 | 22 => 42 | 23 => 43 | 24 => 44 | 25 => 45 | 26 => 46 | 27 => 47 | 46 => 59 | 47 => 60 | 48 => 61 | 49 => 62 | 50 => 63 | 57 => 64 | n => n, fun | 22 => 24 | 24 => 43 | 25 => 56 | 3 => 3 | 39 => 68 | 0 => 0 | 53 => 89 | 55 => 91 | 4 => 4 | 46 => 83 | 45 => 82 | 50 => 72 | 5 => 5 | 9 => 9 | 66 => 104 | 70 => 108 | 76 => 110 | 77 => 111 | n => n, fun | n => n⟩
theorem sortB : Go.Proofs.SlLaysF0.n6 Try.prog sortB_ren := {
  mixed := by kernel_rfl
  f6 := ⟨Try.f23.name, by decide, Try.func23.trans (congrArg some (by kernel_rfl))⟩
  f14 := ⟨Try.f32.name, by decide, Try.func32.trans (congrArg some (by kernel_rfl))⟩
  f15 := Try.func33.trans (congrArg some (by kernel_rfl))
  f20 := ⟨Try.f40.name, by decide, Try.func40.trans (congrArg some (by kernel_rfl))⟩
  f21 := ⟨Try.f41.name, by decide, Try.func41.trans (congrArg some (by kernel_rfl))⟩
  f22 := ⟨Try.f42.name, by decide, Try.func42.trans (congrArg some (by kernel_rfl))⟩
  f23 := ⟨Try.f43.name, by decide, Try.func43.trans (congrArg some (by kernel_rfl))⟩
  f24 := ⟨Try.f44.name, by decide, Try.func44.trans (congrArg some (by kernel_rfl))⟩
  f25 := ⟨Try.f45.name, by decide, Try.func45.trans (congrArg some (by kernel_rfl))⟩
  f26 := ⟨Try.f46.name, by decide, Try.func46.trans (congrArg some (by kernel_rfl))⟩
  f27 := ⟨Try.f47.name, by decide, Try.func47.trans (congrArg some (by kernel_rfl))⟩
  f28 := Try.func48.trans (congrArg some (by kernel_rfl))
  f29 := Try.func49.trans (congrArg some (by kernel_rfl))
  f46 := ⟨Try.f59.name, by decide, Try.func59.trans (congrArg some (by kernel_rfl))⟩
  f47 := Try.func60.trans (congrArg some (by kernel_rfl))
  f48 := Try.func61.trans (congrArg some (by kernel_rfl))
  f49 := ⟨Try.f62.name, by decide, Try.func62.trans (congrArg some (by kernel_rfl))⟩
  f50 := ⟨Try.f63.name, by decide, Try.func63.trans (congrArg some (by kernel_rfl))⟩
  f57 := ⟨Try.f64.name, by decide, Try.func64.trans (congrArg some (by kernel_rfl))⟩
  t0 := Try.underlying0
  a0 := Try.isAgg0
  z0 := Try.sizeOf0
  v0 := Try.zeroValue0
  t3 := Try.underlying3
  a3 := Try.isAgg3
  z3 := Try.sizeOf3
  v3 := Try.zeroValue3
  t4 := Try.underlying4
  a4 := Try.isAgg4
  z4 := Try.sizeOf4
  v4 := Try.zeroValue4
  t5 := Try.underlying5
  a5 := Try.isAgg5
  z5 := Try.sizeOf5
  v5 := Try.zeroValue5
  t9 := Try.underlying9
  a9 := Try.isAgg9
  z9 := Try.sizeOf9
  v9 := Try.zeroValue9
  t22 := Try.underlying24
  a22 := Try.isAgg24
  z22 := Try.sizeOf24
  v22 := Try.zeroValue24
  t25 := Try.underlying56
  a25 := Try.isAgg56
  z25 := Try.sizeOf56
  v25 := Try.zeroValue56
  t39 := Try.underlying68
  a39 := Try.isAgg68
  z39 := Try.sizeOf68
  v39 := Try.zeroValue68
  t45 := Try.underlying82
  a45 := Try.isAgg82
  z45 := Try.sizeOf82
  v45 := Try.zeroValue82
  t46 := Try.underlying83
  a46 := Try.isAgg83
  z46 := Try.sizeOf83
  v46 := Try.zeroValue83
  t50 := Try.underlying72
  a50 := Try.isAgg72
  z50 := Try.sizeOf72
  v50 := Try.zeroValue72
  t53 := Try.underlying89
  a53 := Try.isAgg89
  z53 := Try.sizeOf89
  v53 := Try.zeroValue89
  t55 := Try.underlying91
  a55 := Try.isAgg91
  z55 := Try.sizeOf91
  v55 := Try.zeroValue91
  t66 := Try.underlying104
  a66 := Try.isAgg104
  z66 := Try.sizeOf104
  v66 := Try.zeroValue104
  t70 := Try.underlying108
  a70 := Try.isAgg108
  z70 := Try.sizeOf108
  v70 := Try.zeroValue108
  t76 := Try.underlying110
  a76 := Try.isAgg110
  z76 := Try.sizeOf110
  v76 := Try.zeroValue110
  t77 := Try.underlying111
  a77 := Try.isAgg111
  z77 := Try.sizeOf111
  v77 := Try.zeroValue111 }
abbrev p_sortB (x : (Int × Int × Int)) : Prop := 0 ≤ x.1 ∧ x.1 ≤ 1000000
instance : Inhabited {x : (Int × Int × Int) // p_sortB x} := ⟨⟨(0, 0, 0), by decide⟩⟩
theorem swo_sortB : Go.Sort.SWO (ltOf fun x y : {x : (Int × Int × Int) // p_sortB x} => (fun x y : (Int × Int × Int) => x.1 - y.1) x.1 y.1) := by
  have key : ∀ x y : {x : Int × Int × Int // p_sortB x}, ltOf (fun x y : {x : Int × Int × Int // p_sortB x} => (fun x y : Int × Int × Int => x.1 - y.1) x.1 y.1) x y = decide (x.1.1 < y.1.1) := fun x y => decide_eq_decide.2 (by simp only; omega)
  exact ⟨fun x => by rw [key]; simp, fun x y z h1 h2 => by rw [key] at *; simp at *; omega, fun x y z h1 h2 => by rw [key] at *; simp at *; omega⟩
theorem sortN_sortB {c : FuncId} {cb : Array Value} : SortsN Try.prog 23 c cb := fun p cap w => by
  have h := AnyF.slices_SortFunc_none sortB p cap (.func (.func c) #[] cb) w
  exact h
theorem sortK_sortB : SortsK Try.prog 23 24 #[] (eB3.sub p_sortB) (fun x y => (fun x y : (Int × Int × Int) => x.1 - y.1) x.1 y.1) := fun blk cap d w hc hH hb hs => by
  have h := AnyQ.slices_SortFunc sortB 3 (isAgg_of Try.underlying43 rfl) (sizeOf_of ti43) (eB3.sub p_sortB).enc (eB3.sub p_sortB).len (eB3.sub p_sortB).one (fun x y => (fun x y : (Int × Int × Int) => x.1 - y.1) x.1 y.1) swo_sortB 24 #[] blk 0 cap d w (enters_of Try.func24 (by kernel_rfl) rfl) hc hH hb hs
  exact h

end Go.Proofs.Ytkceknbjlogehaa
