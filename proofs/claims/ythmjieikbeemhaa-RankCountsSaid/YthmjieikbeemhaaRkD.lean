/- Likenesses sorted. -/
import Derived.Shelf.SlSortCmp.NoneTotal
import Derived.Shelf.Lay
import Derived.Ground.SlsfProg
import Derived.Test.YthmjieikbeemhaaProg
import Derived.Test.YthmjieikbeemhaaRkC
import Derived.Test.YthmjieikbeemhaaGvS
namespace Go.Proofs.Ythmjieikbeemhaa
open Go Go.Gv Go.RowKit Go.Flt Go.Mys Go.Num Go.Scr Go.Dec Go.Rnk Go.Shelf Go.Lib Go.Sort
set_option linter.unusedVariables false
set_option linter.unusedSimpArgs false
theorem ti37 : TI Try.prog 37 (.agg #[(.int .i64 0), (.float .f64 0)]) 2 16 := by unfold TI; kernel_rfl

shelf_lay_g SlLaysF0.n6 Slsf 6 at Try 34 as sortK
abbrev p_sortK (x : (Int × Nat)) : Prop := x.2 < 18446744073709551616
instance : Inhabited {x : (Int × Nat) // p_sortK x} := ⟨⟨(0, 0), by decide⟩⟩
theorem swo_sortK : Go.Sort.SWO (ltOf fun x y : {x : (Int × Nat) // p_sortK x} => (fun x y : (Int × Nat) => LCF x y) x.1 y.1) := lcf_swo p_sortK
theorem sortN_sortK {c : FuncId} {cb : Array Value} : SortsN Try.prog 34 c cb := fun p cap w => by
  have h := AnyF.slices_SortFunc_none sortK p cap (.func (.func c) #[] cb) w
  exact h
theorem sortK_sortK : SortsK Try.prog 34 35 #[] (eK.sub p_sortK) (fun x y => (fun x y : (Int × Nat) => LCF x y) x.1 y.1) := fun blk cap d w hc hH hb hs => by
  have h := AnyQ.slices_SortFunc sortK 2 (isAgg_of Try.underlying37 rfl) (sizeOf_of ti37) (eK.sub p_sortK).enc (eK.sub p_sortK).len (eK.sub p_sortK).one (fun x y => (fun x y : (Int × Nat) => LCF x y) x.1 y.1) swo_sortK 35 #[] blk 0 cap d w (enters_of Try.func35 (by kernel_rfl) rfl) hc hH hb hs
  exact h

end Go.Proofs.Ythmjieikbeemhaa
