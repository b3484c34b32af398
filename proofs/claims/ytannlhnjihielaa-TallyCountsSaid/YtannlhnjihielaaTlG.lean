/- The law of counts. -/
import Derived.Test.YtannlhnjihielaaTlF
import Derived.Test.YtannlhnjihielaaTlO
namespace Go.Proofs.Ytannlhnjihielaa
open Go Go.Gv Go.RowKit Go.Tly Go.Proofs
set_option linter.unusedVariables false
set_option linter.unusedSimpArgs false

set_option maxHeartbeats 4000000 in
set_option maxRecDepth 100000 in
theorem tallyCounts_law {w : World} {A_l : Option Addr} {n_l c_l : Nat} {l : List Itm} {a : Lb} {b : Lb} (h_l : St No w (Rd eIt (.slice A_l n_l c_l) l)) (hn_l : l.length = n_l) (wl : ∀ x ∈ l, WLB x.2.1) :
    Calls Try.prog 3 #[(.slice A_l n_l c_l), (.agg #[(.int .i64 ((a).1)), (.int .u64 ((a).2))]), (.agg #[(.int .i64 ((b).1)), (.int .u64 ((b).2))])] w fun e w' => ∃ v, e = .returned v ∧ (fun v w' => v = .bool (decide (true)) ∧ KB No w w') v w' := by
  subst hn_l
  have hl60_ : (l.take 60).length ≤ 60 := by rw [List.length_take]; omega
  have wl60_ : ∀ x ∈ l.take 60, WLB x.2.1 := fun x hx => wl x (List.mem_of_mem_take hx)
  have hlb_ := LBS_len (l.take 60)
  have hcl_ := CTS_len (l.take 60)
  have hS : SH w No w [] := SH.nil _ _
  refine calls (l := litOf [(.slice A_l l.length c_l), (.agg #[(.int .i64 ((a).1)), (.int .u64 ((a).2))]), (.agg #[(.int .i64 ((b).1)), (.int .u64 ((b).2))])] 0) Try.func3 rfl (n := 55) rfl (Nat.le_of_ble_eq_true rfl) (lit_args _) ?_
  refine WC.seq ?_
  refine WC.region ?_
  refine WL.xe rfl (XE.box #[(.int .i64 ((a).1)), (.int .u64 ((a).2))] hS rfl rfl) ?_
  rintro _ w1 ⟨b1, rfl, hS1, hk1⟩
  refine WL.xe rfl (XE.box #[(.int .i64 ((b).1)), (.int .u64 ((b).2))] hS1 rfl rfl) ?_
  rintro _ w2 ⟨b2, rfl, hS2, hk2⟩
  refine WL.lv rfl (LV.asg rfl) ?_
  refine WL.nil (thenQ.n ?_)
  refine WC.seq ?_
  refine WC.region ?_
  refine WL.lv rfl (LV.mv rfl) ?_
  refine WL.call rfl (XC.fn Try.func6 (by kernel_rfl) rfl rfl rfl) (few19_calls (SH.stN hS2 h_l)) ?_
  rintro v_ w3 ⟨rfl, hk3⟩
  have hS3 := SH.same hS2 hk3
  refine WL.lv rfl (LV.asg rfl) ?_
  refine WL.nil (thenQ.n ?_)
  refine WC.seq ?_
  refine WC.region ?_
  refine WL.lv rfl (LV.mv rfl) ?_
  refine WL.call rfl (XC.fn Try.func7 (by kernel_rfl) rfl rfl rfl) (counts_calls  (SH.stN hS3 (few_rd 60 h_l)) rfl (by first | assumption | exact l3_wl) (by first | omega | decide)) ?_
  rintro v_ w4 ⟨A1, c1, rfl, hS4⟩
  have hS5 := SH.joinN hS3 hS4
  refine WL.lv rfl (LV.asg rfl) ?_
  refine WL.nil (thenQ.n ?_)
  refine WC.seq ?_
  refine WC.region ?_
  refine WL.lv rfl (LV.mv rfl) ?_
  refine WL.call rfl (XC.fn Try.func8 (by kernel_rfl) rfl rfl rfl) (rcounts_calls  (SH.stN hS5 (few_rd 60 h_l)) rfl (by first | assumption | exact l3_wl) (by first | omega | decide)) ?_
  rintro v_ w5 ⟨A2, c2, rfl, hS6⟩
  have hS7 := SH.joinN hS5 hS6
  refine WL.lv rfl (LV.asg rfl) ?_
  refine WL.nil (thenQ.n ?_)
  iterate 2 refine WC.seq ?_
  refine WC.region ?_
  refine WL.lv rfl (LV.mv rfl) ?_
  refine WL.lv rfl (LV.lenL Try.underlying27 rfl) ?_
  refine WL.lv rfl (LV.mv rfl) ?_
  refine WL.lv rfl (LV.lenL Try.underlying27 rfl) ?_
  refine WL.lv rfl (LV.neI rfl rfl) ?_
  refine WL.nil (thenQ.n ?_)
  refine WC.condP (p := ((CTS (l.take 60)).length : Int) ≠ ((CTS (l.take 60)).length : Int)) rfl (fun hc1 => ?_) (fun hc1 => ?_)
  · skip
    refine WC.seq ?_
    refine WC.region ?_
    refine WL.lv rfl (LV.asg rfl) ?_
    refine WL.nil (thenQ.n ?_)
    refine WC.ret (thenQ.r <| ?_)
    exact ⟨_, fun a ha => res1 rfl ha rfl, (by exfalso; omega), hS7.kb⟩
  · skip
    refine WC.skip (thenQ.n ?_)
    iterate 2 refine WC.seq ?_
    refine WC.region ?_
    refine WL.lv rfl (LV.asg rfl) ?_
    refine WL.nil (thenQ.n ?_)
    refine WC.block ?_
    refine WC.loop (fun m_ f_ w_ => ∃ (i : Int), (0 ≤ i) ∧ (i ≤ ((CTS (l.take 60)).length : Int)) ∧ SH w No w_ [rowE eCt 30 (.slice A2 ((CTS (l.take 60)).length) c2) (CTS (l.take 60)), rowE eCt 30 (.slice A1 ((CTS (l.take 60)).length) c1) (CTS (l.take 60)), blkE b2 25 #[(.int .i64 ((b).1)), (.int .u64 ((b).2))], blkE b1 25 #[(.int .i64 ((a).1)), (.int .u64 ((a).2))]] ∧ m_ = ((((CTS (l.take 60)).length : Int) - i).toNat) ∧ Weak (lit [(0, (.slice (cutA A_l c_l 6) ((l.take 60).length) c_l)), (4, (.pointer (some ⟨b1, 0, none⟩))), (5, (.pointer (some ⟨b2, 0, none⟩))), (7, (.slice A1 ((CTS (l.take 60)).length) c1)), (8, (.slice A2 ((CTS (l.take 60)).length) c2)), (9, (.int .i64 i))]) f_) _ ⟨0, by omega, by omega, hS7, rfl, Weak.cons rfl <| Weak.cons rfl <| Weak.cons rfl <| Weak.cons rfl <| Weak.cons rfl <| Weak.cons rfl <| Weak.nil _⟩ ?_
    rintro m1 f1 w6 ⟨i, ilo, ihi, hL1, rfl, hw1⟩
    refine WC.weak hw1 ?_
    clear hw1
    iterate 2 refine WC.seq ?_
    refine WC.region ?_
    iterate 2 refine WL.lv rfl (LV.mv rfl) ?_
    refine WL.lv rfl (LV.lenL Try.underlying27 rfl) ?_
    refine WL.lv rfl (LV.ltI rfl rfl) ?_
    refine WL.nil (thenQ.n ?_)
    refine WC.condP (p := i < ((CTS (l.take 60)).length : Int)) rfl (fun hc2 => ?_) (fun hc2 => ?_)
    · skip
      refine WC.skip (thenQ.n ?_)
      refine WC.seq ?_
      refine WC.block ?_
      refine WC.seq ?_
      have hS8 := SH.drew hL1
      refine WC.regionD [] (fun w_ => KB No w6.drew w_) [(.pure, 0), (.pure, 1), (.pure, 2), (.look, 3), (.pure, 4), (.pure, 5), (.pure, 6), (.look, 7), (.pure, 8)] (by kernel_rfl) (by kernel_rfl) (KB.refl _ _) ?_
      iterate 2 refine WS.pure rfl rfl (fun _ => LV.mv rfl) ?_
      obtain ⟨A3, c3, e1, g1⟩ := St.elt (SH.rd hS8 (.tail _ (.head _))) ((0, 0), 0) i (by omega) (by omega)
      refine WS.pure rfl rfl (fun _ => LV.idxA Try.underlying27 ti30.sz rfl e1 rfl (by omega) (by omega)) ?_
      refine WS.look rfl rfl (fun _ hk_ => LV.loadAgg (cs := [(.int .i64 (((CTS (l.take 60)).getD (i).toNat ((0, 0), 0)).1.1)), (.int .u64 (((CTS (l.take 60)).getD (i).toNat ((0, 0), 0)).1.2)), (.int .i64 (((CTS (l.take 60)).getD (i).toNat ((0, 0), 0)).2))]) Try.underlying30 rfl ti30 rfl rfl (fun j u hu => g1 _ hk_ j u hu)) ?_
      iterate 2 refine WS.pure rfl rfl (fun _ => LV.mv rfl) ?_
      obtain ⟨A4, c4, e2, g2⟩ := St.elt (SH.rd hS8 (.head _)) ((0, 0), 0) i (by omega) (by omega)
      refine WS.pure rfl rfl (fun _ => LV.idxA Try.underlying27 ti30.sz rfl e2 rfl (by omega) (by omega)) ?_
      refine WS.look rfl rfl (fun _ hk_ => LV.loadAgg (cs := [(.int .i64 (((CTS (l.take 60)).getD (i).toNat ((0, 0), 0)).1.1)), (.int .u64 (((CTS (l.take 60)).getD (i).toNat ((0, 0), 0)).1.2)), (.int .i64 (((CTS (l.take 60)).getD (i).toNat ((0, 0), 0)).2))]) Try.underlying30 rfl ti30 rfl rfl (fun j u hu => g2 _ hk_ j u hu)) ?_
      refine WS.pure rfl rfl (fun _ => LV.as (LV.neG (by decide) (ae_s2 Try.underlying30 (by decide) (by kernel_rfl) (pt_struct (ds := #[(.int .i64 (((CTS (l.take 60)).getD (i).toNat ((0, 0), 0)).1.1)), (.int .u64 (((CTS (l.take 60)).getD (i).toNat ((0, 0), 0)).1.2))]) Try.underlying25 ti25.sz rfl) (pt_struct (ds := #[(.int .i64 (((CTS (l.take 60)).getD (i).toNat ((0, 0), 0)).1.1)), (.int .u64 (((CTS (l.take 60)).getD (i).toNat ((0, 0), 0)).1.2))]) Try.underlying25 ti25.sz rfl) (pt_int Try.underlying3 rfl) (pt_int Try.underlying3 rfl) (ae_s2 Try.underlying25 (by decide) (by kernel_rfl) (pt_int Try.underlying3 rfl) (pt_int Try.underlying3 rfl) (pt_int Try.underlying23 rfl) (pt_int Try.underlying23 rfl) (ae_int Try.underlying3) (ae_int Try.underlying23)) (AE.up (ae_int Try.underlying3))) (by kernel_rfl) rfl rfl) (decide_eq_false (fun h_ => h_ ⟨⟨rfl, rfl⟩, rfl⟩))) ?_
      refine WS.nil (thenQ.n ?_)
      refine WC.condF rfl ?_
      refine WC.skip (blockQ.n <| thenQ.n ?_)
      refine WC.region ?_
      refine WL.lv rfl (LV.mv rfl) ?_
      refine WL.lv rfl (LV.add rfl rfl (wr64 (by omega) (by omega))) ?_
      refine WL.lv rfl (LV.asg rfl) ?_
      refine WL.nil (thenQ.n ?_)
      exact ⟨_, by omega, i + 1, by omega, by omega, hS8, rfl, Weak.cons rfl <| Weak.cons rfl <| Weak.cons rfl <| Weak.cons rfl <| Weak.cons rfl <| Weak.cons rfl <| Weak.nil _⟩
    · skip
      refine WC.exit (thenQ.x <| thenQ.x <| blockQ.hit <| thenQ.n ?_)
      refine WC.seq ?_
      have hS9 := SH.drew hL1
      refine WC.regionD [] (fun w_ => KB No w6.drew w_) [(.forced, 0), (.pure, 1), (.pure, 2), (.look, 3), (.pure, 5), (.look, 6), (.forced, 4), (.forced, 7), (.pure, 8), (.pure, 9), (.pure, 10), (.look, 11), (.look, 12), (.look, 14), (.look, 15), (.forced, 13), (.forced, 16), (.pure, 17), (.pure, 18), (.pure, 19)] (by kernel_rfl) (by kernel_rfl) (KB.refl _ _) ?_
      refine WS.call rfl rfl (XC.fn Try.func9 (by kernel_rfl) rfl rfl rfl) (live19_calls  ) ?_
      rintro v_ w7 ⟨rfl, hk4⟩
      have hS10 := SH.same hS9 hk4
      refine ⟨fun h_ => (KB.transN (KB.refl _ _) hk4), ?_⟩
      iterate 2 refine WS.pure rfl rfl (fun _ => LV.mv rfl) ?_
      refine WS.look rfl rfl (fun _ hk_ => LV.loadAgg (cs := [(.int .i64 ((a).1)), (.int .u64 ((a).2))]) Try.underlying25 rfl ti25 rfl rfl (Blk.agg (SH.at hS9 (.tail _ (.tail _ (.tail _ (.head _))))) _ hk_)) ?_
      refine WS.pure rfl rfl (fun _ => LV.mv rfl) ?_
      refine WS.look rfl rfl (fun _ hk_ => LV.loadAgg (cs := [(.int .i64 ((a).1)), (.int .u64 ((a).2))]) Try.underlying25 rfl ti25 rfl rfl (Blk.agg (SH.at hS9 (.tail _ (.tail _ (.tail _ (.head _))))) _ hk_)) ?_
      refine WS.call rfl rfl (XC.fn Try.func10 (by kernel_rfl) rfl rfl rfl) (lines_calls (a := a) (SH.stN hS10 (few_rd 60 h_l)) rfl (by first | omega | decide)) ?_
      rintro v_ w8 ⟨rfl, hk5⟩
      have hS11 := SH.same hS10 hk5
      refine ⟨fun h_ => (KB.transN (KB.transN (KB.refl _ _) hk4) hk5), ?_⟩
      refine WS.call rfl rfl (XC.fn Try.func11 (by kernel_rfl) rfl rfl rfl) (rlines_calls (a := a) (SH.stN hS11 (few_rd 60 h_l)) rfl ) ?_
      rintro v_ w9 ⟨rfl, hk6⟩
      have hS12 := SH.same hS11 hk6
      refine ⟨fun h_ => (KB.transN (KB.transN (KB.transN (KB.refl _ _) hk4) hk5) hk6), ?_⟩
      refine WS.pure rfl rfl (fun _ => LV.as (LV.eqI rfl rfl) (decide_eq_true (rfl))) ?_
      refine WS.pure rfl rfl (fun _ => LV.pickT rfl rfl) ?_
      refine WS.pure rfl rfl (fun _ => LV.mv rfl) ?_
      refine WS.look rfl rfl (fun _ hk_ => LV.loadAgg (cs := [(.int .i64 ((a).1)), (.int .u64 ((a).2))]) Try.underlying25 rfl ti25 rfl rfl (Blk.agg (SH.at hS9 (.tail _ (.tail _ (.tail _ (.head _))))) _ hk_)) ?_
      refine WS.look rfl rfl (fun _ hk_ => LV.loadAgg (cs := [(.int .i64 ((b).1)), (.int .u64 ((b).2))]) Try.underlying25 rfl ti25 rfl rfl (Blk.agg (SH.at hS9 (.tail _ (.tail _ (.head _)))) _ hk_)) ?_
      refine WS.look rfl rfl (fun _ hk_ => LV.loadAgg (cs := [(.int .i64 ((a).1)), (.int .u64 ((a).2))]) Try.underlying25 rfl ti25 rfl rfl (Blk.agg (SH.at hS9 (.tail _ (.tail _ (.tail _ (.head _))))) _ hk_)) ?_
      refine WS.look rfl rfl (fun _ hk_ => LV.loadAgg (cs := [(.int .i64 ((b).1)), (.int .u64 ((b).2))]) Try.underlying25 rfl ti25 rfl rfl (Blk.agg (SH.at hS9 (.tail _ (.tail _ (.head _)))) _ hk_)) ?_
      refine WS.call rfl rfl (XC.fn Try.func12 (by kernel_rfl) rfl rfl rfl) (order_calls (a := a) (b := b) ) ?_
      rintro v_ w10 ⟨rfl, hk7⟩
      have hS13 := SH.same hS12 hk7
      refine ⟨fun h_ => (KB.transN (KB.transN (KB.transN (KB.transN (KB.refl _ _) hk4) hk5) hk6) hk7), ?_⟩
      refine WS.call rfl rfl (XC.fn Try.func13 (by kernel_rfl) rfl rfl rfl) (rorder_calls (a := a) (b := b) ) ?_
      rintro v_ w11 ⟨rfl, hk8⟩
      have hS14 := SH.same hS13 hk8
      refine ⟨fun h_ => (KB.transN (KB.transN (KB.transN (KB.transN (KB.transN (KB.refl _ _) hk4) hk5) hk6) hk7) hk8), ?_⟩
      refine WS.pure rfl rfl (fun _ => LV.as (LV.eqI rfl rfl) (decide_eq_true (rfl))) ?_
      refine WS.pure rfl rfl (fun _ => LV.pickT rfl rfl) ?_
      refine WS.pure rfl rfl (fun _ => LV.asg rfl) ?_
      refine WS.nil (thenQ.n ?_)
      refine WC.ret (?_)
      exact ⟨_, fun a ha => res1 rfl ha rfl, rfl, hS14.kb⟩

end Go.Proofs.Ytannlhnjihielaa
