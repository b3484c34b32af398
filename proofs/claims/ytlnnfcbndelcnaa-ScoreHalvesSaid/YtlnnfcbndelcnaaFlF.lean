/- Numbers sorted. -/
import Derived.Shelf.SlSortCmp.NoneTotal
import Derived.Shelf.Lay
import Derived.Ground.SlsfProg
import Derived.Test.YtlnnfcbndelcnaaFlE
import Derived.Test.YtlnnfcbndelcnaaGvS
namespace Go.Proofs.Ytlnnfcbndelcnaa
open Go Go.Gv Go.RowKit Go.Flt Go.Shelf Go.Lib Go.Sort
set_option linter.unusedVariables false
set_option linter.unusedSimpArgs false

def insF_ren : Go.Shelf.Ren := ⟨fun | 20 => 45 | n => n, fun | 24 => 22 | 22 => 29 | 3 => 3 | 25 => 27 | 4 => 4 | 0 => 0 | n => n, fun | n => n⟩
theorem insF : Go.Proofs.SlLaysF.n20 Try.prog insF_ren := {
  mixed := by kernel_rfl
  f20 := ⟨Try.f45.name, by decide, Try.func45.trans (congrArg some (by kernel_rfl))⟩
  t0 := Try.underlying0
  a0 := Try.isAgg0
  z0 := Try.sizeOf0
  v0 := Try.zeroValue0
  t3 := Try.underlying3
  a3 := Try.isAgg3
  z3 := Try.sizeOf3
  v3 := Try.zeroValue3
  t4 := Try.underlying4
  a4 := Try.isAgg4
  z4 := Try.sizeOf4
  v4 := Try.zeroValue4
  t22 := Try.underlying29
  a22 := Try.isAgg29
  z22 := Try.sizeOf29
  v22 := Try.zeroValue29
  a24 := Try.isAgg22
  z24 := Try.sizeOf22
  t25 := Try.underlying27
  a25 := Try.isAgg27
  z25 := Try.sizeOf27
  v25 := Try.zeroValue27 }
abbrev W6 (x : Nat) : Prop := x < 18446744073709551616
instance : Inhabited {x : Nat // W6 x} := ⟨⟨0, by decide⟩⟩
theorem swoF : Go.Sort.SWO (ltOf fun x y : {x : Nat // W6 x} => ORD x.1 y.1) := by
  have key : ∀ x y : {x : Nat // W6 x}, ltOf (fun x y : {x : Nat // W6 x} => ORD x.1 y.1) x y = decide (tk x.1 < tk y.1) := fun x y => decide_eq_decide.2 (by have := ord_is' x.1 y.1; simp only; omega)
  exact ⟨fun x => by rw [key]; simp, fun x y z h1 h2 => by rw [key] at *; simp at *; omega, fun x y z h1 h2 => by rw [key] at *; simp at *; omega⟩
theorem insF_sorts (blk cap : Nat) (d : Array {x : Nat // W6 x}) (w : World) (hH : Holds (fun x : {x : Nat // W6 x} => Value.float .f64 x.1) w blk 0 d) (hb : blk < w.heap.size) (hs : d.size < 4611686018427387904) :
    Calls Try.prog 45 #[.slice (some ⟨blk, 0, none⟩) d.size cap, .int .i64 (0 : Nat), .int .i64 d.size, .func (.func 14) #[] #[]] w fun e w' => e = .returned (.tuple #[]) ∧ ∃ d' n os, PermIn 0 d.size d d' ∧ SortedIn (ltOf fun x y : {x : Nat // W6 x} => ORD x.1 y.1) 0 d.size d' ∧ w' = sortWorld (fun x : {x : Nat // W6 x} => Value.float .f64 x.1) w blk 0 n d' os := by
  have hO : OneCell (fun x : {x : Nat // W6 x} => Value.float .f64 x.1) := fun x => rfl
  have hc : CmpLays1 Try.prog 14 #[] (fun x : {x : Nat // W6 x} => Value.float .f64 x.1) (fun x y => ORD x.1 y.1) blk 0 d.size w := fun m os dk hdk x y => by
    rw [Array.append_empty]
    exact (order_calls (w := sortWorld _ w blk 0 m dk os) (a := x.1) (b := y.1) x.2 y.2).mono fun e w' ⟨v, he, hv, hk⟩ => ⟨he.trans (by rw [hv]), grown_of hk (hk.dr (by unfold DR; trivial))⟩
  have h := Any.insertionSortCmpFunc_s insF (fun x : {x : Nat // W6 x} => Value.float .f64 x.1) (fun x y => ORD x.1 y.1) 14 #[] blk 0 cap 0 d.size d d w w (enters_of Try.func14 (by kernel_rfl) rfl) hc ⟨hO, hH, hb⟩ rfl (SW.start hH) (Nat.zero_le _) (Nat.le_refl _) hs
  refine h.mono fun e w' ⟨he, m, os, hw⟩ => ⟨he, _, m, os, ?_, ?_, hw⟩
  · exact (insertionSort_holds swoF d 0 d.size (Nat.zero_le _) (Nat.le_refl _)).1
  · exact (insertionSort_holds swoF d 0 d.size (Nat.zero_le _) (Nat.le_refl _)).2

abbrev mkF (v : Value) (n : Nat) : Array Value := #[v, .int .i64 0, .int .i64 n, .func (.func 14) #[] #[]]
theorem ins_calls {w0 w : World} {S : Nat → Prop} {L : List Ent} {v : Value} {xs : List Nat} (h : SH w0 S w (rowE eF 22 v xs :: L)) (hp : ∀ x ∈ xs, W6 x) (hsz : xs.length < 4611686018427387904) :
    Calls Try.prog 45 #[v, .int .i64 0, .int .i64 xs.length, .func (.func 14) #[] #[]] w fun e w' => ∃ u, e = .returned u ∧ (fun u w' => ∃ ys : List Nat, u = .tuple #[] ∧ ys.Perm xs ∧ (ys.Pairwise fun a b => ¬ ORD b a < 0) ∧ SH w0 S w' (rowE eF 22 v ys :: L) ∧ KB (· ∈ Value.keys v) w w') u w' :=
  sort_callsPG (mk := mkF) (p := W6) (enc := fun x => Value.float .f64 x) (cf := ORD) rfl (fun x => rfl) (fun p cap w => AnyF.insertionSortCmpFunc_none { insF with } p cap (.func (.func 14) #[] #[]) w) (fun blk cap d w hH hb hs => insF_sorts blk cap d w hH hb hs) h hp hsz

end Go.Proofs.Ytlnnfcbndelcnaa
