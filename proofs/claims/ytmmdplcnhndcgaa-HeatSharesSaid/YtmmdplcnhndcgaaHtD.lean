/- The sort of places. -/
import Derived.Shelf.SlSortCmp.NoneTotal
import Derived.Shelf.SlSortCmp.Whole1
import Derived.Shelf.Lay
import Derived.Ground.SlsfProg
import Derived.Test.YtmmdplcnhndcgaaHtC
import Derived.Test.YtmmdplcnhndcgaaGvU
namespace Go.Proofs.Ytmmdplcnhndcgaa
open Go Go.Gv Go.RowKit Go.Flt Go.Dec Go.Ht Go.Shelf Go.Lib Go.Sort
set_option linter.unusedVariables false
set_option linter.unusedSimpArgs false

theorem tcmp_calls {w : World} {a : Int} {b : Int} {b_l : Nat} {A_s : Option Addr} {n_s c_s : Nat} {s : List Nat} (h_s : St No w (Rd eF (.slice A_s n_s c_s) s)) (hn_s : s.length = n_s) (h_l : St No w (fun w => w.heap[b_l]? = some (.cells #[(.slice A_s n_s c_s)] 23 (0, 0)))) (ha : 0 ≤ a ∧ a < s.length) (hb : 0 ≤ b ∧ b < s.length) (ws : ∀ x ∈ s, x < 18446744073709551616) :
    Calls Try.prog 28 #[(.int .i64 a), (.int .i64 b), (.pointer (some ⟨b_l, 0, none⟩))] w fun e w' => ∃ v, e = .returned v ∧ (fun v w' => v = .int .i64 (TCF s a b) ∧ KB No w w') v w' := by
  subst hn_s
  have hwa_ := ws (s.getD a.toNat 0) (getD_mem (by omega))
  have hwb_ := ws (s.getD b.toNat 0) (getD_mem (by omega))
  have hS : SH w No w [] := SH.nil _ _
  refine calls (l := litOf [(.int .i64 a), (.int .i64 b), (.pointer (some ⟨b_l, 0, none⟩))] 0) Try.func28 rfl (n := 20) rfl (Nat.le_of_ble_eq_true rfl) (lit_args _) ?_
  refine WC.seq ?_
  refine WC.region ?_
  refine WL.lv rfl (LV.asg rfl) ?_
  refine WL.nil (thenQ.n ?_)
  refine WC.seq ?_
  have hS1 := SH.drew hS
  refine WC.regionD [] (fun w_ => KB No w.drew w_) [(.look, 0), (.pure, 1), (.pure, 2), (.look, 3), (.look, 4), (.pure, 5), (.pure, 6), (.look, 7), (.pure, 9), (.pure, 10), (.forced, 8), (.forced, 11), (.forced, 12), (.forced, 13), (.pure, 14)] (by kernel_rfl) (by kernel_rfl) (KB.refl _ _) ?_
  refine WS.look rfl rfl (fun _ hk_ => LV.load1 Try.underlying23 rfl rfl (Blk.cellN (SH.arg hS1 h_l) 0 rfl _ hk_)) ?_
  refine WS.pure rfl rfl (fun _ => LV.mv rfl) ?_
  obtain ⟨A1, c1, e1, g1⟩ := St.elt (SH.stN hS1 h_s) 0 b (by omega) (by omega)
  refine WS.pure rfl rfl (fun _ => LV.idxA Try.underlying23 ti28.sz rfl e1 rfl (by omega) (by omega)) ?_
  refine WS.look rfl rfl (fun _ hk_ => LV.load1 (v := (.float .f64 (s.getD (b).toNat 0))) Try.underlying28 rfl rfl (g1 _ hk_ 0 _ rfl)) ?_
  refine WS.look rfl rfl (fun _ hk_ => LV.load1 Try.underlying23 rfl rfl (Blk.cellN (SH.arg hS1 h_l) 0 rfl _ hk_)) ?_
  refine WS.pure rfl rfl (fun _ => LV.mv rfl) ?_
  obtain ⟨A2, c2, e2, g2⟩ := St.elt (SH.stN hS1 h_s) 0 a (by omega) (by omega)
  refine WS.pure rfl rfl (fun _ => LV.idxA Try.underlying23 ti28.sz rfl e2 rfl (by omega) (by omega)) ?_
  refine WS.look rfl rfl (fun _ hk_ => LV.load1 (v := (.float .f64 (s.getD (a).toNat 0))) Try.underlying28 rfl rfl (g2 _ hk_ 0 _ rfl)) ?_
  iterate 2 refine WS.pure rfl rfl (fun _ => LV.mv rfl) ?_
  refine WS.call rfl rfl (XC.fn Try.func30 (by kernel_rfl) rfl rfl rfl) (order_calls (a := (s.getD (b).toNat 0)) (b := (s.getD (a).toNat 0)) (by first | assumption | omega | exact hp _ (getD_mem (by omega)) | exact hpz _ (getD_mem (by omega))) (by first | assumption | omega | exact hp _ (getD_mem (by omega)) | exact hpz _ (getD_mem (by omega)))) ?_
  rintro v_ w1 ⟨rfl, hk1⟩
  have hS2 := SH.same hS1 hk1
  refine ⟨fun h_ => (KB.transN (KB.refl _ _) hk1), ?_⟩
  refine WS.call rfl rfl (XC.fn Try.func31 (by kernel_rfl) rfl rfl rfl) (ccmp_calls (x := a) (y := b) ) ?_
  rintro v_ w2 ⟨rfl, hk2⟩
  have hS3 := SH.same hS2 hk2
  refine ⟨fun h_ => (KB.transN (KB.transN (KB.refl _ _) hk1) hk2), ?_⟩
  refine WS.xe rfl rfl (XE.buildSlice (E := eI) [(0, (.int .i64 (ORD (s.getD (b).toNat 0) (s.getD (a).toNat 0)))), (1, (.int .i64 (Cm.CMPI a b)))] #[(.int .i64 (ORD (s.getD (b).toNat 0) (s.getD (a).toNat 0))), (.int .i64 (Cm.CMPI a b))] [ORD (s.getD (b).toNat 0) (s.getD (a).toNat 0), Cm.CMPI a b] hS3 Try.underlying22 ti3 rfl (by decide) (by kernel_rfl) (.inr rfl) rfl rfl (by decide)) ?_
  rintro _ w3 ⟨b1, rfl, hS4, hk3⟩
  refine ⟨fun h_ => (KB.transN (KB.transN (KB.transN (KB.refl _ _) hk1) hk2) hk3), ?_⟩
  refine WS.call rfl rfl (XC.fn Try.func29 (by kernel_rfl) rfl rfl rfl) (cor_calls  (SH.rd hS4 (.head _)) rfl ) ?_
  rintro v_ w4 ⟨rfl, hk4⟩
  have hS5 := SH.same hS4 hk4
  refine ⟨fun h_ => (KB.transN (KB.transN (KB.transN (KB.transN (KB.refl _ _) hk1) hk2) hk3) hk4), ?_⟩
  refine WS.pure rfl rfl (fun _ => LV.asg rfl) ?_
  refine WS.nil (thenQ.n ?_)
  refine WC.ret (?_)
  exact ⟨_, fun a ha => res1 rfl ha rfl, congrArg (Value.int .i64) (rfl), hS5.kb⟩

def sortT0_ren : Go.Shelf.Ren := ⟨fun | 6 => 27 | 15 => 39 | 14 => 38 | 28 => 55 | 29 => 56 | 20 => 47 | 21 => 48 | 22 => 49 | 23 => 50 | 24 => 51 | 25 => 52 | 26 => 53 | 27 => 54 | 46 => 58 | 47 => 59 | 48 => 60 | 49 => 61 | 50 => 62 | 57 => 63 | n => n, fun | 22 => 22 | 24 => 3 | 25 => 47 | 3 => 3 | 39 => 53 | 0 => 0 | 53 => 65 | 55 => 67 | 4 => 4 | 46 => 58 | 45 => 57 | 50 => 62 | 5 => 5 | 9 => 9 | 66 => 68 | 70 => 72 | 76 => 74 | 77 => 75 | n => n, fun | n => n⟩
theorem sortT0 : Go.Proofs.SlLaysF0.n6 Try.prog sortT0_ren := {
  mixed := by kernel_rfl
  f6 := ⟨Try.f27.name, by decide, Try.func27.trans (congrArg some (by kernel_rfl))⟩
  f14 := ⟨Try.f38.name, by decide, Try.func38.trans (congrArg some (by kernel_rfl))⟩
  f15 := Try.func39.trans (congrArg some (by kernel_rfl))
  f20 := ⟨Try.f47.name, by decide, Try.func47.trans (congrArg some (by kernel_rfl))⟩
  f21 := ⟨Try.f48.name, by decide, Try.func48.trans (congrArg some (by kernel_rfl))⟩
  f22 := ⟨Try.f49.name, by decide, Try.func49.trans (congrArg some (by kernel_rfl))⟩
  f23 := ⟨Try.f50.name, by decide, Try.func50.trans (congrArg some (by kernel_rfl))⟩
  f24 := ⟨Try.f51.name, by decide, Try.func51.trans (congrArg some (by kernel_rfl))⟩
  f25 := ⟨Try.f52.name, by decide, Try.func52.trans (congrArg some (by kernel_rfl))⟩
  f26 := ⟨Try.f53.name, by decide, Try.func53.trans (congrArg some (by kernel_rfl))⟩
  f27 := ⟨Try.f54.name, by decide, Try.func54.trans (congrArg some (by kernel_rfl))⟩
  f28 := Try.func55.trans (congrArg some (by kernel_rfl))
  f29 := Try.func56.trans (congrArg some (by kernel_rfl))
  f46 := ⟨Try.f58.name, by decide, Try.func58.trans (congrArg some (by kernel_rfl))⟩
  f47 := Try.func59.trans (congrArg some (by kernel_rfl))
  f48 := Try.func60.trans (congrArg some (by kernel_rfl))
  f49 := ⟨Try.f61.name, by decide, Try.func61.trans (congrArg some (by kernel_rfl))⟩
  f50 := ⟨Try.f62.name, by decide, Try.func62.trans (congrArg some (by kernel_rfl))⟩
  f57 := ⟨Try.f63.name, by decide, Try.func63.trans (congrArg some (by kernel_rfl))⟩
  t0 := Try.underlying0
  a0 := Try.isAgg0
  z0 := Try.sizeOf0
  v0 := Try.zeroValue0
  t3 := Try.underlying3
  a3 := Try.isAgg3
  z3 := Try.sizeOf3
  v3 := Try.zeroValue3
  t4 := Try.underlying4
  a4 := Try.isAgg4
  z4 := Try.sizeOf4
  v4 := Try.zeroValue4
  t5 := Try.underlying5
  a5 := Try.isAgg5
  z5 := Try.sizeOf5
  v5 := Try.zeroValue5
  t9 := Try.underlying9
  a9 := Try.isAgg9
  z9 := Try.sizeOf9
  v9 := Try.zeroValue9
  t22 := Try.underlying22
  a22 := Try.isAgg22
  z22 := Try.sizeOf22
  v22 := Try.zeroValue22
  t25 := Try.underlying47
  a25 := Try.isAgg47
  z25 := Try.sizeOf47
  v25 := Try.zeroValue47
  t39 := Try.underlying53
  a39 := Try.isAgg53
  z39 := Try.sizeOf53
  v39 := Try.zeroValue53
  t45 := Try.underlying57
  a45 := Try.isAgg57
  z45 := Try.sizeOf57
  v45 := Try.zeroValue57
  t46 := Try.underlying58
  a46 := Try.isAgg58
  z46 := Try.sizeOf58
  v46 := Try.zeroValue58
  t50 := Try.underlying62
  a50 := Try.isAgg62
  z50 := Try.sizeOf62
  v50 := Try.zeroValue62
  t53 := Try.underlying65
  a53 := Try.isAgg65
  z53 := Try.sizeOf65
  v53 := Try.zeroValue65
  t55 := Try.underlying67
  a55 := Try.isAgg67
  z55 := Try.sizeOf67
  v55 := Try.zeroValue67
  t66 := Try.underlying68
  a66 := Try.isAgg68
  z66 := Try.sizeOf68
  v66 := Try.zeroValue68
  t70 := Try.underlying72
  a70 := Try.isAgg72
  z70 := Try.sizeOf72
  v70 := Try.zeroValue72
  t76 := Try.underlying74
  a76 := Try.isAgg74
  z76 := Try.sizeOf74
  v76 := Try.zeroValue74
  t77 := Try.underlying75
  a77 := Try.isAgg75
  z77 := Try.sizeOf75
  v77 := Try.zeroValue75 }
def sortT1_ren : Go.Shelf.Ren := ⟨fun | 6 => 27 | 15 => 39 | 14 => 38 | 28 => 55 | 29 => 56 | 20 => 47 | 21 => 48 | 22 => 49 | 23 => 50 | 24 => 51 | 25 => 52 | 26 => 53 | 27 => 54 | 46 => 58 | 47 => 59 | 48 => 60 | 49 => 61 | 50 => 62 | 57 => 63 | n => n, fun | 22 => 22 | 24 => 3 | 25 => 47 | 3 => 3 | 39 => 53 | 0 => 0 | 53 => 65 | 55 => 67 | 4 => 4 | 46 => 58 | 45 => 57 | 50 => 62 | 5 => 5 | 9 => 9 | 66 => 68 | 70 => 72 | 76 => 74 | 77 => 75 | n => n, fun | n => n⟩
theorem sortT1 : Go.Proofs.SlLaysF.n6 Try.prog sortT1_ren := {
  mixed := by kernel_rfl
  f6 := ⟨Try.f27.name, by decide, Try.func27.trans (congrArg some (by kernel_rfl))⟩
  f14 := ⟨Try.f38.name, by decide, Try.func38.trans (congrArg some (by kernel_rfl))⟩
  f15 := Try.func39.trans (congrArg some (by kernel_rfl))
  f20 := ⟨Try.f47.name, by decide, Try.func47.trans (congrArg some (by kernel_rfl))⟩
  f21 := ⟨Try.f48.name, by decide, Try.func48.trans (congrArg some (by kernel_rfl))⟩
  f22 := ⟨Try.f49.name, by decide, Try.func49.trans (congrArg some (by kernel_rfl))⟩
  f23 := ⟨Try.f50.name, by decide, Try.func50.trans (congrArg some (by kernel_rfl))⟩
  f24 := ⟨Try.f51.name, by decide, Try.func51.trans (congrArg some (by kernel_rfl))⟩
  f25 := ⟨Try.f52.name, by decide, Try.func52.trans (congrArg some (by kernel_rfl))⟩
  f26 := ⟨Try.f53.name, by decide, Try.func53.trans (congrArg some (by kernel_rfl))⟩
  f27 := ⟨Try.f54.name, by decide, Try.func54.trans (congrArg some (by kernel_rfl))⟩
  f28 := Try.func55.trans (congrArg some (by kernel_rfl))
  f29 := Try.func56.trans (congrArg some (by kernel_rfl))
  f46 := ⟨Try.f58.name, by decide, Try.func58.trans (congrArg some (by kernel_rfl))⟩
  f47 := Try.func59.trans (congrArg some (by kernel_rfl))
  f48 := Try.func60.trans (congrArg some (by kernel_rfl))
  f49 := ⟨Try.f61.name, by decide, Try.func61.trans (congrArg some (by kernel_rfl))⟩
  f50 := ⟨Try.f62.name, by decide, Try.func62.trans (congrArg some (by kernel_rfl))⟩
  f57 := ⟨Try.f63.name, by decide, Try.func63.trans (congrArg some (by kernel_rfl))⟩
  t0 := Try.underlying0
  a0 := Try.isAgg0
  z0 := Try.sizeOf0
  v0 := Try.zeroValue0
  t3 := Try.underlying3
  a3 := Try.isAgg3
  z3 := Try.sizeOf3
  v3 := Try.zeroValue3
  t4 := Try.underlying4
  a4 := Try.isAgg4
  z4 := Try.sizeOf4
  v4 := Try.zeroValue4
  t5 := Try.underlying5
  a5 := Try.isAgg5
  z5 := Try.sizeOf5
  v5 := Try.zeroValue5
  t9 := Try.underlying9
  a9 := Try.isAgg9
  z9 := Try.sizeOf9
  v9 := Try.zeroValue9
  t22 := Try.underlying22
  a22 := Try.isAgg22
  z22 := Try.sizeOf22
  v22 := Try.zeroValue22
  a24 := Try.isAgg3
  z24 := Try.sizeOf3
  t25 := Try.underlying47
  a25 := Try.isAgg47
  z25 := Try.sizeOf47
  v25 := Try.zeroValue47
  t39 := Try.underlying53
  a39 := Try.isAgg53
  z39 := Try.sizeOf53
  v39 := Try.zeroValue53
  t45 := Try.underlying57
  a45 := Try.isAgg57
  z45 := Try.sizeOf57
  v45 := Try.zeroValue57
  t46 := Try.underlying58
  a46 := Try.isAgg58
  z46 := Try.sizeOf58
  v46 := Try.zeroValue58
  t50 := Try.underlying62
  a50 := Try.isAgg62
  z50 := Try.sizeOf62
  v50 := Try.zeroValue62
  t53 := Try.underlying65
  a53 := Try.isAgg65
  z53 := Try.sizeOf65
  v53 := Try.zeroValue65
  t55 := Try.underlying67
  a55 := Try.isAgg67
  z55 := Try.sizeOf67
  v55 := Try.zeroValue67
  t66 := Try.underlying68
  a66 := Try.isAgg68
  z66 := Try.sizeOf68
  v66 := Try.zeroValue68
  t70 := Try.underlying72
  a70 := Try.isAgg72
  z70 := Try.sizeOf72
  v70 := Try.zeroValue72
  t76 := Try.underlying74
  a76 := Try.isAgg74
  z76 := Try.sizeOf74
  v76 := Try.zeroValue74
  t77 := Try.underlying75
  a77 := Try.isAgg75
  z77 := Try.sizeOf75
  v77 := Try.zeroValue75 }
abbrev p_sortT (s : List Nat) (x : Int) : Prop := 0 ≤ x ∧ x < s.length
theorem sortN_sortT {cb : Array Value} : SortsN Try.prog 27 28 cb := fun p cap w => by
  have h := AnyF.slices_SortFunc_none sortT0 p cap (.func (.func 28) #[] cb) w
  exact h
theorem sort1_sortT (s : List Nat) {cb : Array Value} [Inhabited {x : Int // p_sortT s x}] : Sorts1 Try.prog 27 28 cb (fun x : {x : Int // p_sortT s x} => (.int .i64 x.1 : Value)) (fun x y => (fun x y : Int => TCF s x y) x.1 y.1) := fun blk cap d w hc hH hb hs => by
  have h := Any.slices_SortFunc sortT1 (fun x : {x : Int // p_sortT s x} => (.int .i64 x.1 : Value)) (fun _ => rfl) (fun x y => (fun x y : Int => TCF s x y) x.1 y.1) (tcf_swo s (p_sortT s)) 28 cb blk 0 cap d w (enters_of Try.func28 (by kernel_rfl) rfl) hc hH hb hs
  exact h

end Go.Proofs.Ytmmdplcnhndcgaa
