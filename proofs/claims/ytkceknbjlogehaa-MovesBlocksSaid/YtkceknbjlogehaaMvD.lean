/- Blocks sorted. -/
import Derived.Shelf.SlSortCmp.NoneTotal
import Derived.Shelf.Lay
import Derived.Ground.SlsfProg
import Derived.Test.YtkceknbjlogehaaProg
import Derived.Test.YtkceknbjlogehaaMvC
import Derived.Test.YtkceknbjlogehaaGvS
namespace Go.Proofs.Ytkceknbjlogehaa
open Go Go.Gv Go.RowKit Go.Mys Go.Num Go.Scr Go.Itn Go.Mov Go.Shelf Go.Lib Go.Sort
set_option linter.unusedVariables false
set_option linter.unusedSimpArgs false

theorem cmpB_calls {w : World} {x : (Int × Int × Int)} {y : (Int × Int × Int)} (hx : 0 ≤ x.1 ∧ x.1 ≤ 1000000) (hy : 0 ≤ y.1 ∧ y.1 ≤ 1000000) :
    Calls Try.prog 24 #[(.agg #[(.int .i64 ((x).1)), (.int .i64 ((x).2.1)), (.int .i64 ((x).2.2))]), (.agg #[(.int .i64 ((y).1)), (.int .i64 ((y).2.1)), (.int .i64 ((y).2.2))])] w fun e w' => ∃ v, e = .returned v ∧ (fun v w' => v = .int .i64 (x.1 - y.1) ∧ KB No w w') v w' := by
  have hS : SH w No w [] := SH.nil _ _
  refine calls (l := litOf [(.agg #[(.int .i64 ((x).1)), (.int .i64 ((x).2.1)), (.int .i64 ((x).2.2))]), (.agg #[(.int .i64 ((y).1)), (.int .i64 ((y).2.1)), (.int .i64 ((y).2.2))])] 0) Try.func24 rfl (n := 10) rfl (Nat.le_of_ble_eq_true rfl) (lit_args _) ?_
  refine WC.seq ?_
  refine WC.region ?_
  refine WL.xe rfl (XE.box #[(.int .i64 ((x).1)), (.int .i64 ((x).2.1)), (.int .i64 ((x).2.2))] hS rfl rfl) ?_
  rintro _ w1 ⟨b1, rfl, hS1, hk1⟩
  refine WL.xe rfl (XE.box #[(.int .i64 ((y).1)), (.int .i64 ((y).2.1)), (.int .i64 ((y).2.2))] hS1 rfl rfl) ?_
  rintro _ w2 ⟨b2, rfl, hS2, hk2⟩
  refine WL.lv rfl (LV.asg rfl) ?_
  refine WL.nil (thenQ.n ?_)
  refine WC.seq ?_
  refine WC.region ?_
  refine WL.lv rfl (LV.fieldA Try.underlying43 rfl ti3.sz rfl) ?_
  refine WL.lv rfl (LV.load1 Try.underlying3 rfl rfl (Blk.cellN (SH.at hS2 (.tail _ (.head _))) 0 rfl _ (KB.refl No _))) ?_
  refine WL.lv rfl (LV.fieldA Try.underlying43 rfl ti3.sz rfl) ?_
  refine WL.lv rfl (LV.load1 Try.underlying3 rfl rfl (Blk.cellN (SH.at hS2 (.head _)) 0 rfl _ (KB.refl No _))) ?_
  refine WL.lv rfl (LV.sub rfl rfl (wr64 (by omega) (by omega))) ?_
  refine WL.lv rfl (LV.asg rfl) ?_
  refine WL.nil (thenQ.n ?_)
  refine WC.ret (?_)
  exact ⟨_, fun a ha => res1 rfl ha rfl, congrArg (Value.int .i64) (by omega), hS2.kb⟩

shelf_lay_g SlLaysF0.n6 Slsf 6 at Try 23 as sortB
abbrev p_sortB (x : (Int × Int × Int)) : Prop := 0 ≤ x.1 ∧ x.1 ≤ 1000000
instance : Inhabited {x : (Int × Int × Int) // p_sortB x} := ⟨⟨(0, 0, 0), by decide⟩⟩
theorem swo_sortB : Go.Sort.SWO (ltOf fun x y : {x : (Int × Int × Int) // p_sortB x} => (fun x y : (Int × Int × Int) => x.1 - y.1) x.1 y.1) := by
  have key : ∀ x y : {x : Int × Int × Int // p_sortB x}, ltOf (fun x y : {x : Int × Int × Int // p_sortB x} => (fun x y : Int × Int × Int => x.1 - y.1) x.1 y.1) x y = decide (x.1.1 < y.1.1) := fun x y => decide_eq_decide.2 (by simp only; omega)
  exact ⟨fun x => by rw [key]; simp, fun x y z h1 h2 => by rw [key] at *; simp at *; omega, fun x y z h1 h2 => by rw [key] at *; simp at *; omega⟩
theorem sortN_sortB {c : FuncId} {cb : Array Value} : SortsN Try.prog 23 c cb := fun p cap w => by
  have h := AnyF.slices_SortFunc_none sortB p cap (.func (.func c) #[] cb) w
  exact h
theorem sortK_sortB : SortsK Try.prog 23 24 #[] (eB3.sub p_sortB) (fun x y => (fun x y : (Int × Int × Int) => x.1 - y.1) x.1 y.1) := fun blk cap d w hc hH hb hs => by
  have h := AnyQ.slices_SortFunc sortB 3 (isAgg_of Try.underlying43 rfl) (sizeOf_of ti43) (eB3.sub p_sortB).enc (eB3.sub p_sortB).len (eB3.sub p_sortB).one (fun x y => (fun x y : (Int × Int × Int) => x.1 - y.1) x.1 y.1) swo_sortB 24 #[] blk 0 cap d w (enters_of Try.func24 (by kernel_rfl) rfl) hc hH hb hs
  exact h

end Go.Proofs.Ytkceknbjlogehaa
