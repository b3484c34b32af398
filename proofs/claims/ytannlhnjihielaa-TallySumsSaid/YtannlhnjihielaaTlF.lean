/- What must be whatever is asked. -/
import Derived.Test.YtannlhnjihielaaTlE
namespace Go.Proofs.Ytannlhnjihielaa
open Go Go.Gv Go.RowKit Go.Tly Go.Proofs
set_option linter.unusedVariables false
set_option linter.unusedSimpArgs false

theorem few19_calls {w : World} {A0 : Option Addr} {a : List Itm} {c0 : Nat} (ha : St No w (Rd eIt (.slice A0 a.length c0) a)) :
    Calls Try.prog 6 #[(.slice A0 a.length c0)] w fun e w' => ∃ v, e = .returned v ∧ (fun v w' => v = .slice (cutA A0 c0 6) (a.take 60).length c0 ∧ KB No w w') v w' := by
  have hS : SH w No w [] := SH.nil _ _
  refine calls (l := litOf [(.slice A0 a.length c0)] 0) Try.func6 rfl (n := 8) rfl (Nat.le_of_ble_eq_true rfl) (lit_args _) ?_
  refine WC.seq ?_
  refine WC.region ?_
  refine WL.lv rfl (LV.asg rfl) ?_
  refine WL.nil (thenQ.n ?_)
  refine WC.seq ?_
  refine WC.region ?_
  iterate 2 refine WL.lv rfl (LV.mv rfl) ?_
  refine WL.lv rfl (LV.lenL Try.underlying22 rfl) ?_
  refine WL.lv rfl (LV.minI rfl rfl) ?_
  have hcap1 : a.length ≤ c0 := (Rd.cap (St.now (SH.stN hS ha)))
  refine WL.lv rfl (LV.cut Try.underlying22 ti38.sz rfl rfl rfl rfl ⟨.inl ⟨rfl, rfl⟩, .inr ⟨.i64, by rw [Int.toNat_of_nonneg (a := min (a.length : Int) 60) (by omega)] <;> rfl⟩, .inl ⟨rfl, rfl⟩⟩ (by omega) (by omega) (by omega)) ?_
  refine WL.lv rfl (LV.asg rfl) ?_
  refine WL.nil (thenQ.n ?_)
  refine WC.ret (?_)
  exact ⟨_, fun a ha => res1 rfl ha rfl, congrArg (fun n => Value.slice (cutA A0 c0 6) n c0) (by rw [List.length_take]; omega), hS.kb⟩

set_option maxHeartbeats 4000000 in
set_option maxRecDepth 100000 in
theorem live19_calls {w : World}  :
    Calls Try.prog 9 #[] w fun e w' => ∃ v, e = .returned v ∧ (fun v w' => v = .bool (decide (true)) ∧ KB No w w') v w' := by
  have hS : SH w No w [] := SH.nil _ _
  refine calls (l := litOf [] 0) Try.func9 rfl (n := 46) rfl (Nat.le_of_ble_eq_true rfl) (lit_args _) ?_
  refine WC.seq ?_
  refine WC.region ?_
  refine WL.lv rfl (LV.asg rfl) ?_
  refine WL.nil (thenQ.n ?_)
  refine WC.seq ?_
  refine WC.region ?_
  refine WL.lv rfl (LV.build (vs := [(0, (.int .i64 1))]) (places := #[(0, 1), (1, 1)]) (cs := #[(.int .i64 1), (.int .u64 0)]) Try.underlying25 ti25 (fun _ => by kernel_rfl) rfl rfl) ?_
  refine WL.xe rfl (XE.alloc #[(.int .i64 0), (.int .u64 0)] hS ti25 rfl) ?_
  rintro _ w1 ⟨b1, rfl, hS1, hk1⟩
  refine WL.xse rfl (XSE.blkAgg #[(.int .i64 1), (.int .u64 0)] hS1 (by kernel_rfl) rfl (by kernel_rfl) rfl rfl) ?_
  rintro w2 ⟨hS2, hk2⟩
  refine WL.nil (thenQ.n ?_)
  refine WC.seq ?_
  refine WC.region ?_
  refine WL.lv rfl (LV.loadAgg (cs := [(.int .i64 1), (.int .u64 0)]) Try.underlying25 rfl ti25 rfl rfl (Blk.agg (SH.at hS2 (.head _)) _ (KB.refl No _))) ?_
  refine WL.lv rfl (LV.build (vs := [(1, (.agg #[(.int .i64 1), (.int .u64 0)]))]) (places := #[(0, 1), (1, 2), (3, 1), (4, 2)]) (cs := #[(.int .i64 0), (.int .i64 1), (.int .u64 0), (.bool false), (.string ⟨#[]⟩), (.bool false)]) Try.underlying38 ti38 (fun _ => by kernel_rfl) rfl rfl) ?_
  refine WL.lv rfl (LV.loadAgg (cs := [(.int .i64 1), (.int .u64 0)]) Try.underlying25 rfl ti25 rfl rfl (Blk.agg (SH.at hS2 (.head _)) _ (KB.refl No _))) ?_
  refine WL.lv rfl (LV.build (vs := [(1, (.agg #[(.int .i64 1), (.int .u64 0)]))]) (places := #[(0, 1), (1, 2), (3, 1), (4, 2)]) (cs := #[(.int .i64 0), (.int .i64 1), (.int .u64 0), (.bool false), (.string ⟨#[]⟩), (.bool false)]) Try.underlying38 ti38 (fun _ => by kernel_rfl) rfl rfl) ?_
  refine WL.lv rfl (LV.loadAgg (cs := [(.int .i64 1), (.int .u64 0)]) Try.underlying25 rfl ti25 rfl rfl (Blk.agg (SH.at hS2 (.head _)) _ (KB.refl No _))) ?_
  refine WL.lv rfl (LV.build (vs := [(1, (.agg #[(.int .i64 1), (.int .u64 0)])), (2, (.bool true))]) (places := #[(0, 1), (1, 2), (3, 1), (4, 2)]) (cs := #[(.int .i64 0), (.int .i64 1), (.int .u64 0), (.bool true), (.string ⟨#[]⟩), (.bool false)]) Try.underlying38 ti38 (fun _ => by kernel_rfl) rfl rfl) ?_
  refine WL.xe rfl (XE.buildSlice (E := eIt) [(0, (.agg #[(.int .i64 0), (.int .i64 1), (.int .u64 0), (.bool false), (.string ⟨#[]⟩), (.bool false)])), (1, (.agg #[(.int .i64 0), (.int .i64 1), (.int .u64 0), (.bool false), (.string ⟨#[]⟩), (.bool false)])), (2, (.agg #[(.int .i64 0), (.int .i64 1), (.int .u64 0), (.bool true), (.string ⟨#[]⟩), (.bool false)]))] #[(.int .i64 0), (.int .i64 1), (.int .u64 0), (.bool false), (.string ⟨#[]⟩), (.bool false), (.int .i64 0), (.int .i64 1), (.int .u64 0), (.bool false), (.string ⟨#[]⟩), (.bool false), (.int .i64 0), (.int .i64 1), (.int .u64 0), (.bool true), (.string ⟨#[]⟩), (.bool false)] [(((0 : Int), ((1 : Int), (0 : Int)), false, (⟨#[]⟩, false)) : Itm), (((0 : Int), ((1 : Int), (0 : Int)), false, (⟨#[]⟩, false)) : Itm), (((0 : Int), ((1 : Int), (0 : Int)), true, (⟨#[]⟩, false)) : Itm)] hS2 Try.underlying22 ti38 rfl (by decide) (by kernel_rfl) (.inr rfl) rfl rfl (by decide)) ?_
  rintro _ w3 ⟨b2, rfl, hS3, hk3⟩
  refine WL.lv rfl (LV.asg rfl) ?_
  refine WL.nil (thenQ.n ?_)
  refine WC.seq ?_
  refine WC.region ?_
  refine WL.lv rfl (LV.mv rfl) ?_
  refine WL.call rfl (XC.fn Try.func7 (by kernel_rfl) rfl rfl rfl) (counts_calls  (SH.rd hS3 (.head _)) rfl (by first | assumption | exact l3_wl) (by first | omega | decide)) ?_
  rintro v_ w4 ⟨A1, c1, rfl, hS4⟩
  have hS5 := SH.joinN hS3 hS4
  refine WL.lv rfl (LV.asg rfl) ?_
  refine WL.nil (thenQ.n ?_)
  refine WC.seq ?_
  have hS6 := SH.drew hS5
  refine WC.regionD [] (fun w_ => KB No w4.drew w_) [(.pure, 0), (.look, 1), (.forced, 2), (.pure, 3), (.pure, 4), (.pure, 5), (.pure, 6), (.pure, 7), (.pure, 8), (.pure, 9), (.pure, 10), (.pure, 11), (.look, 12), (.look, 13), (.pure, 14), (.pure, 15), (.pure, 16), (.pure, 17), (.pure, 18), (.forced, 19), (.pure, 20), (.pure, 21), (.pure, 22), (.forced, 23), (.pure, 24), (.pure, 25), (.pure, 26), (.pure, 27), (.look, 28), (.forced, 29), (.pure, 30), (.pure, 31), (.pure, 32)] (by kernel_rfl) (by kernel_rfl) (KB.refl _ _) ?_
  refine WS.pure rfl rfl (fun _ => LV.mv rfl) ?_
  refine WS.look rfl rfl (fun _ hk_ => LV.loadAgg (cs := [(.int .i64 1), (.int .u64 0)]) Try.underlying25 rfl ti25 rfl rfl (Blk.agg (SH.at hS6 (.tail _ (.tail _ (.head _)))) _ hk_)) ?_
  refine WS.call rfl rfl (XC.fn Try.func10 (by kernel_rfl) rfl rfl rfl) (lines_calls (a := ((1 : Int), (0 : Int))) (SH.rd hS6 (.tail _ (.head _))) rfl (by first | omega | decide)) ?_
  rintro v_ w5 ⟨rfl, hk4⟩
  have hS7 := SH.same hS6 hk4
  refine ⟨fun h_ => (KB.transN (KB.refl _ _) hk4), ?_⟩
  refine WS.pure rfl rfl (fun _ => LV.as (LV.eqI rfl rfl) (decide_eq_true (by decide +kernel))) ?_
  iterate 2 refine WS.pure rfl rfl (fun _ => LV.mv rfl) ?_
  refine WS.pure rfl rfl (fun _ => LV.lenL Try.underlying27 rfl) ?_
  refine WS.pure rfl rfl (fun _ => LV.as (LV.eqI rfl rfl) (decide_eq_true (by decide +kernel))) ?_
  refine WS.pure rfl rfl (fun _ => LV.pickT rfl rfl) ?_
  iterate 2 refine WS.pure rfl rfl (fun _ => LV.mv rfl) ?_
  obtain ⟨A2, c2, e1, g1⟩ := St.elt (SH.rd hS6 (.head _)) ((0, 0), 0) (0 : Int) (by decide) (by decide +kernel)
  refine WS.pure rfl rfl (fun _ => LV.idxA Try.underlying27 ti30.sz rfl e1 rfl (by decide) (by decide +kernel)) ?_
  refine WS.look rfl rfl (fun _ hk_ => LV.loadAgg (cs := [(.int .i64 (((CTS [(((0 : Int), ((1 : Int), (0 : Int)), false, (⟨#[]⟩, false)) : Itm), (((0 : Int), ((1 : Int), (0 : Int)), false, (⟨#[]⟩, false)) : Itm), (((0 : Int), ((1 : Int), (0 : Int)), true, (⟨#[]⟩, false)) : Itm)]).getD ((0 : Int)).toNat ((0, 0), 0)).1.1)), (.int .u64 (((CTS [(((0 : Int), ((1 : Int), (0 : Int)), false, (⟨#[]⟩, false)) : Itm), (((0 : Int), ((1 : Int), (0 : Int)), false, (⟨#[]⟩, false)) : Itm), (((0 : Int), ((1 : Int), (0 : Int)), true, (⟨#[]⟩, false)) : Itm)]).getD ((0 : Int)).toNat ((0, 0), 0)).1.2)), (.int .i64 (((CTS [(((0 : Int), ((1 : Int), (0 : Int)), false, (⟨#[]⟩, false)) : Itm), (((0 : Int), ((1 : Int), (0 : Int)), false, (⟨#[]⟩, false)) : Itm), (((0 : Int), ((1 : Int), (0 : Int)), true, (⟨#[]⟩, false)) : Itm)]).getD ((0 : Int)).toNat ((0, 0), 0)).2))]) Try.underlying30 rfl ti30 rfl rfl (fun j u hu => g1 _ hk_ j u hu)) ?_
  refine WS.look rfl rfl (fun _ hk_ => LV.loadAgg (cs := [(.int .i64 1), (.int .u64 0)]) Try.underlying25 rfl ti25 rfl rfl (Blk.agg (SH.at hS6 (.tail _ (.tail _ (.head _)))) _ hk_)) ?_
  refine WS.pure rfl rfl (fun _ => LV.build (vs := [(0, (.agg #[(.int .i64 1), (.int .u64 0)])), (1, (.int .i64 2))]) (places := #[(0, 2), (2, 1)]) (cs := #[(.int .i64 1), (.int .u64 0), (.int .i64 2)]) Try.underlying30 ti30 (fun _ => by kernel_rfl) rfl rfl) ?_
  refine WS.pure rfl rfl (fun _ => LV.as (LV.eqG (by decide) (ae_s2 Try.underlying30 (by decide) (by kernel_rfl) (pt_struct (ds := #[(.int .i64 (((CTS [(((0 : Int), ((1 : Int), (0 : Int)), false, (⟨#[]⟩, false)) : Itm), (((0 : Int), ((1 : Int), (0 : Int)), false, (⟨#[]⟩, false)) : Itm), (((0 : Int), ((1 : Int), (0 : Int)), true, (⟨#[]⟩, false)) : Itm)]).getD ((0 : Int)).toNat ((0, 0), 0)).1.1)), (.int .u64 (((CTS [(((0 : Int), ((1 : Int), (0 : Int)), false, (⟨#[]⟩, false)) : Itm), (((0 : Int), ((1 : Int), (0 : Int)), false, (⟨#[]⟩, false)) : Itm), (((0 : Int), ((1 : Int), (0 : Int)), true, (⟨#[]⟩, false)) : Itm)]).getD ((0 : Int)).toNat ((0, 0), 0)).1.2))]) Try.underlying25 ti25.sz rfl) (pt_struct (ds := #[(.int .i64 1), (.int .u64 0)]) Try.underlying25 ti25.sz rfl) (pt_int Try.underlying3 rfl) (pt_int Try.underlying3 rfl) (ae_s2 Try.underlying25 (by decide) (by kernel_rfl) (pt_int Try.underlying3 rfl) (pt_int Try.underlying3 rfl) (pt_int Try.underlying23 rfl) (pt_int Try.underlying23 rfl) (ae_int Try.underlying3) (ae_int Try.underlying23)) (AE.up (ae_int Try.underlying3))) (by kernel_rfl) rfl rfl) (decide_eq_true (by decide +kernel))) ?_
  refine WS.pure rfl rfl (fun _ => LV.pickT rfl rfl) ?_
  iterate 2 refine WS.pure rfl rfl (fun _ => LV.mv rfl) ?_
  refine WS.call rfl rfl (XC.fn Try.func19 (by kernel_rfl) rfl rfl rfl) (Calls.asB (fits_calls (q := (2 : Int)) (SH.rd hS7 (.tail _ (.head _))) rfl (by first | assumption | exact l3_wl) (by first | omega | decide)) (decide_eq_true (by decide +kernel))) ?_
  rintro v_ w6 ⟨rfl, hk5⟩
  have hS8 := SH.same hS7 hk5
  refine ⟨fun h_ => (KB.transN (KB.transN (KB.refl _ _) hk4) hk5), ?_⟩
  refine WS.pure rfl rfl (fun _ => LV.pickT rfl rfl) ?_
  iterate 2 refine WS.pure rfl rfl (fun _ => LV.mv rfl) ?_
  refine WS.call rfl rfl (XC.fn Try.func19 (by kernel_rfl) rfl rfl rfl) (Calls.asB (fits_calls (q := (1 : Int)) (SH.rd hS8 (.tail _ (.head _))) rfl (by first | assumption | exact l3_wl) (by first | omega | decide)) (decide_eq_false (by decide +kernel))) ?_
  rintro v_ w7 ⟨rfl, hk6⟩
  have hS9 := SH.same hS8 hk6
  refine ⟨fun h_ => (KB.transN (KB.transN (KB.transN (KB.refl _ _) hk4) hk5) hk6), ?_⟩
  refine WS.pure rfl rfl (fun _ => LV.notB rfl) ?_
  refine WS.pure rfl rfl (fun _ => LV.pickT rfl rfl) ?_
  iterate 2 refine WS.pure rfl rfl (fun _ => LV.mv rfl) ?_
  refine WS.look rfl rfl (fun _ hk_ => LV.loadAgg (cs := [(.int .i64 1), (.int .u64 0)]) Try.underlying25 rfl ti25 rfl rfl (Blk.agg (SH.at hS6 (.tail _ (.tail _ (.head _)))) _ hk_)) ?_
  refine WS.call rfl rfl (XC.fn Try.func20 (by kernel_rfl) rfl rfl rfl) (grows_calls (a := ((1 : Int), (0 : Int))) (Rd.stN Rd.nil) rfl (SH.rd hS9 (.tail _ (.head _))) rfl (by first | omega | decide) (by first | omega | decide)) ?_
  rintro v_ w8 ⟨rfl, hk7⟩
  have hS10 := SH.same hS9 hk7
  refine ⟨fun h_ => (KB.transN (KB.transN (KB.transN (KB.transN (KB.refl _ _) hk4) hk5) hk6) hk7), ?_⟩
  refine WS.pure rfl rfl (fun _ => LV.as (LV.eqI rfl rfl) (decide_eq_true (by decide +kernel))) ?_
  refine WS.pure rfl rfl (fun _ => LV.pickT rfl rfl) ?_
  refine WS.pure rfl rfl (fun _ => LV.asg rfl) ?_
  refine WS.nil (thenQ.n ?_)
  refine WC.ret (?_)
  exact ⟨_, fun a ha => res1 rfl ha rfl, rfl, hS10.kb⟩

end Go.Proofs.Ytannlhnjihielaa
