/- The law of sums. -/
import Derived.Test.YtannlhnjihielaaTlF
import Derived.Test.YtannlhnjihielaaTlO
namespace Go.Proofs.Ytannlhnjihielaa
open Go Go.Gv Go.RowKit Go.Tly Go.Proofs
set_option linter.unusedVariables false
set_option linter.unusedSimpArgs false

set_option maxHeartbeats 4000000 in
set_option maxRecDepth 100000 in
theorem tallySums_law {w : World} {A_l : Option Addr} {n_l c_l : Nat} {l : List Itm} {a : Lb} {b : Lb} {c : Lb} (h_l : St No w (Rd eIt (.slice A_l n_l c_l) l)) (hn_l : l.length = n_l) (wl : ∀ x ∈ l, WLB x.2.1) :
    Calls Try.prog 4 #[(.slice A_l n_l c_l), (.agg #[(.int .i64 ((a).1)), (.int .u64 ((a).2))]), (.agg #[(.int .i64 ((b).1)), (.int .u64 ((b).2))]), (.agg #[(.int .i64 ((c).1)), (.int .u64 ((c).2))])] w fun e w' => ∃ v, e = .returned v ∧ (fun v w' => v = .bool (decide (true)) ∧ KB No w w') v w' := by
  subst hn_l
  have hl60_ : (l.take 60).length ≤ 60 := by rw [List.length_take]; omega
  have wl60_ : ∀ x ∈ l.take 60, WLB x.2.1 := fun x hx => wl x (List.mem_of_mem_take hx)
  have hlb_ := LBS_len (l.take 60)
  have hcl_ := CTS_len (l.take 60)
  have hoab_ := lo_anti a b
  have hozb_ := lo_zero a b
  have hotr_ := lo_trans a b c
  have hobd_ : -1 ≤ LO b a ∧ LO b a ≤ 1 := by have h_ := lo_is b a; rcases h_ with h_ | h_ | h_ <;> omega
  have hS : SH w No w [] := SH.nil _ _
  refine calls (l := litOf [(.slice A_l l.length c_l), (.agg #[(.int .i64 ((a).1)), (.int .u64 ((a).2))]), (.agg #[(.int .i64 ((b).1)), (.int .u64 ((b).2))]), (.agg #[(.int .i64 ((c).1)), (.int .u64 ((c).2))])] 0) Try.func4 rfl (n := 104) rfl (Nat.le_of_ble_eq_true rfl) (lit_args _) ?_
  refine WC.seq ?_
  refine WC.region ?_
  refine WL.xe rfl (XE.box #[(.int .i64 ((a).1)), (.int .u64 ((a).2))] hS rfl rfl) ?_
  rintro _ w1 ⟨b1, rfl, hS1, hk1⟩
  refine WL.xe rfl (XE.box #[(.int .i64 ((b).1)), (.int .u64 ((b).2))] hS1 rfl rfl) ?_
  rintro _ w2 ⟨b2, rfl, hS2, hk2⟩
  refine WL.xe rfl (XE.box #[(.int .i64 ((c).1)), (.int .u64 ((c).2))] hS2 rfl rfl) ?_
  rintro _ w3 ⟨b3, rfl, hS3, hk3⟩
  refine WL.lv rfl (LV.asg rfl) ?_
  refine WL.nil (thenQ.n ?_)
  refine WC.seq ?_
  refine WC.region ?_
  refine WL.lv rfl (LV.mv rfl) ?_
  refine WL.call rfl (XC.fn Try.func6 (by kernel_rfl) rfl rfl rfl) (few19_calls (SH.stN hS3 h_l)) ?_
  rintro v_ w4 ⟨rfl, hk4⟩
  have hS4 := SH.same hS3 hk4
  refine WL.lv rfl (LV.asg rfl) ?_
  refine WL.nil (thenQ.n ?_)
  refine WC.seq ?_
  refine WC.region ?_
  iterate 2 refine WL.lv rfl (LV.asg rfl) ?_
  refine WL.nil (thenQ.n ?_)
  refine WC.seq ?_
  refine WC.region ?_
  refine WL.lv rfl (LV.mv rfl) ?_
  refine WL.call rfl (XC.fn Try.func7 (by kernel_rfl) rfl rfl rfl) (counts_calls  (SH.stN hS4 (few_rd 60 h_l)) rfl (by first | assumption | exact l3_wl) (by first | omega | decide)) ?_
  rintro v_ w5 ⟨A1, c1, rfl, hS5⟩
  have hS6 := SH.joinN hS4 hS5
  refine WL.lv rfl (LV.asg rfl) ?_
  refine WL.nil (thenQ.n ?_)
  iterate 2 refine WC.seq ?_
  refine WC.region ?_
  refine WL.lv rfl (LV.asg rfl) ?_
  refine WL.nil (thenQ.n ?_)
  refine WC.block ?_
  refine WC.loop (fun m_ f_ w_ => ∃ (n : Int) (i : Int), (0 ≤ i) ∧ (i ≤ ((CTS (l.take 60)).length : Int)) ∧ (n = SM ((CTS (l.take 60)).take i.toNat)) ∧ (0 ≤ n ∧ n ≤ 60 * i) ∧ SH w No w_ [rowE eCt 30 (.slice A1 ((CTS (l.take 60)).length) c1) (CTS (l.take 60)), blkE b3 25 #[(.int .i64 ((c).1)), (.int .u64 ((c).2))], blkE b2 25 #[(.int .i64 ((b).1)), (.int .u64 ((b).2))], blkE b1 25 #[(.int .i64 ((a).1)), (.int .u64 ((a).2))]] ∧ m_ = ((((CTS (l.take 60)).length : Int) - i).toNat) ∧ Weak (lit [(0, (.slice (cutA A_l c_l 6) ((l.take 60).length) c_l)), (5, (.pointer (some ⟨b1, 0, none⟩))), (6, (.pointer (some ⟨b2, 0, none⟩))), (7, (.pointer (some ⟨b3, 0, none⟩))), (9, (.int .i64 n)), (10, (.int .i64 0)), (11, (.slice A1 ((CTS (l.take 60)).length) c1)), (12, (.int .i64 i))]) f_) _ ⟨0, 0, by omega, by omega, rfl, by omega, hS6, rfl, Weak.cons rfl <| Weak.cons rfl <| Weak.cons rfl <| Weak.cons rfl <| Weak.cons rfl <| Weak.cons rfl <| Weak.cons rfl <| Weak.cons rfl <| Weak.nil _⟩ ?_
  rintro m1 f1 w6 ⟨n, i, ilo, ihi, q1, q2, hL1, rfl, hw1⟩
  refine WC.weak hw1 ?_
  clear hw1
  iterate 2 refine WC.seq ?_
  refine WC.region ?_
  iterate 2 refine WL.lv rfl (LV.mv rfl) ?_
  refine WL.lv rfl (LV.lenL Try.underlying27 rfl) ?_
  refine WL.lv rfl (LV.ltI rfl rfl) ?_
  refine WL.nil (thenQ.n ?_)
  refine WC.condP (p := i < ((CTS (l.take 60)).length : Int)) rfl (fun hk => ?_) (fun hk => ?_)
  · have hcb_ := CTS_bd (l := l.take 60) (i := i) ilo hk
    refine WC.skip (thenQ.n ?_)
    refine WC.seq ?_
    refine WC.block ?_
    refine WC.seq ?_
    refine WC.region ?_
    iterate 3 refine WL.lv rfl (LV.mv rfl) ?_
    obtain ⟨A2, c2, e1, g1⟩ := St.elt (SH.rd hL1 (.head _)) ((0, 0), 0) i (by omega) (by omega)
    refine WL.lv rfl (LV.idxA Try.underlying27 ti30.sz rfl e1 rfl (by omega) (by omega)) ?_
    refine WL.lv rfl (LV.fieldA Try.underlying30 rfl ti3.sz rfl) ?_
    refine WL.lv rfl (LV.load1 (v := (.int .i64 (((CTS (l.take 60)).getD (i).toNat ((0, 0), 0)).2))) Try.underlying3 rfl rfl (g1 _ (KB.refl No _) 2 _ rfl)) ?_
    refine WL.lv rfl (LV.add rfl rfl (wr64 (by omega) (by omega))) ?_
    refine WL.lv rfl (LV.asg rfl) ?_
    refine WL.nil (thenQ.n ?_)
    refine WC.seq ?_
    have hS7 := SH.drew hL1
    refine WC.regionD [] (fun w_ => KB No w6.drew w_) [(.pure, 0), (.pure, 1), (.pure, 2), (.pure, 3), (.pure, 4), (.pure, 5), (.pure, 6), (.pure, 7), (.look, 8), (.pure, 9), (.pure, 10), (.pure, 11), (.pure, 12), (.look, 13), (.forced, 14), (.pure, 15), (.pure, 16)] (by kernel_rfl) (by kernel_rfl) (KB.refl _ _) ?_
    refine WS.pure rfl rfl (fun _ => LV.mv rfl) ?_
    rcases Decidable.em (i > 0) with hg1 | hg1
    · refine WS.pure rfl rfl (fun _ => LV.as (LV.gtI rfl rfl) (decide_eq_true hg1)) ?_
      iterate 3 refine WS.pure rfl rfl (fun _ => LV.mv rfl) ?_
      refine WS.pure rfl rfl (fun _ => LV.sub rfl rfl (wr64 (by omega) (by omega))) ?_
      obtain ⟨A3, c3, e2, g2⟩ := St.elt (SH.rd hS7 (.head _)) ((0, 0), 0) (i - 1) (by omega) (by omega)
      refine WS.pure rfl rfl (fun _ => LV.idxA Try.underlying27 ti30.sz rfl e2 rfl (by omega) (by omega)) ?_
      refine WS.pure rfl rfl (fun _ => LV.fieldA Try.underlying30 rfl ti25.sz rfl) ?_
      refine WS.look rfl rfl (fun _ hk_ => LV.loadAgg (cs := [(.int .i64 (((CTS (l.take 60)).getD (i - 1).toNat ((0, 0), 0)).1.1)), (.int .u64 (((CTS (l.take 60)).getD (i - 1).toNat ((0, 0), 0)).1.2))]) Try.underlying25 rfl ti25 rfl rfl (elt_part (off := 0) (n := 2) g2 rfl _ hk_)) ?_
      iterate 2 refine WS.pure rfl rfl (fun _ => LV.mv rfl) ?_
      obtain ⟨A4, c4, e3, g3⟩ := St.elt (SH.rd hS7 (.head _)) ((0, 0), 0) i (by omega) (by omega)
      refine WS.pure rfl rfl (fun _ => LV.idxA Try.underlying27 ti30.sz rfl e3 rfl (by omega) (by omega)) ?_
      refine WS.pure rfl rfl (fun _ => LV.fieldA Try.underlying30 rfl ti25.sz rfl) ?_
      refine WS.look rfl rfl (fun _ hk_ => LV.loadAgg (cs := [(.int .i64 (((CTS (l.take 60)).getD (i).toNat ((0, 0), 0)).1.1)), (.int .u64 (((CTS (l.take 60)).getD (i).toNat ((0, 0), 0)).1.2))]) Try.underlying25 rfl ti25 rfl rfl (elt_part (off := 0) (n := 2) g3 rfl _ hk_)) ?_
      refine WS.call rfl rfl (XC.fn Try.func12 (by kernel_rfl) rfl rfl rfl) (order_calls (a := (((CTS (l.take 60)).getD (i - 1).toNat ((0, 0), 0)).1)) (b := (((CTS (l.take 60)).getD (i).toNat ((0, 0), 0)).1)) ) ?_
      rintro v_ w7 ⟨rfl, hk5⟩
      have hS8 := SH.same hS7 hk5
      have hlt_ := CTS_lt (l := l.take 60) (i := i) (by omega) hk
      refine ⟨fun h_ => (KB.transN (KB.refl _ _) hk5), ?_⟩
      refine WS.pure rfl rfl (fun _ => LV.as (LV.geI rfl rfl) (decide_eq_false (by omega))) ?_
      refine WS.pure rfl rfl (fun _ => LV.pickT rfl rfl) ?_
      refine WS.nil (thenQ.n ?_)
      refine WC.condF rfl ?_
      refine WC.skip (blockQ.n <| thenQ.n ?_)
      refine WC.region ?_
      refine WL.lv rfl (LV.mv rfl) ?_
      refine WL.lv rfl (LV.add rfl rfl (wr64 (by omega) (by omega))) ?_
      refine WL.lv rfl (LV.asg rfl) ?_
      refine WL.nil (thenQ.n ?_)
      exact ⟨_, by omega, n + (((CTS (l.take 60)).getD (i).toNat ((0, 0), 0)).2), i + 1, by omega, by omega, (by rw [SM_at ilo hk, ← q1]), by omega, hS8, rfl, Weak.cons rfl <| Weak.cons rfl <| Weak.cons rfl <| Weak.cons rfl <| Weak.cons rfl <| Weak.cons rfl <| Weak.cons rfl <| Weak.cons rfl <| Weak.nil _⟩
    · refine WS.pure rfl rfl (fun _ => LV.as (LV.gtI rfl rfl) (decide_eq_false hg1)) ?_
      refine WS.pure rfl rfl (fun _ => LV.mv rfl) ?_
      iterate 5 refine WS.off rfl rfl ?_
      refine WS.offL rfl rfl ?_
      iterate 4 refine WS.off rfl rfl ?_
      refine WS.offL rfl rfl ?_
      refine WS.offF rfl rfl (fun h_ => (KB.refl _ _)) ?_
      refine WS.off rfl rfl ?_
      refine WS.pure rfl rfl (fun _ => LV.pickF rfl rfl) ?_
      refine WS.nil (thenQ.n ?_)
      refine WC.condF rfl ?_
      refine WC.skip (blockQ.n <| thenQ.n ?_)
      refine WC.region ?_
      refine WL.lv rfl (LV.mv rfl) ?_
      refine WL.lv rfl (LV.add rfl rfl (wr64 (by omega) (by omega))) ?_
      refine WL.lv rfl (LV.asg rfl) ?_
      refine WL.nil (thenQ.n ?_)
      exact ⟨_, by omega, n + (((CTS (l.take 60)).getD (i).toNat ((0, 0), 0)).2), i + 1, by omega, by omega, (by rw [SM_at ilo hk, ← q1]), by omega, hS7, rfl, Weak.cons rfl <| Weak.cons rfl <| Weak.cons rfl <| Weak.cons rfl <| Weak.cons rfl <| Weak.cons rfl <| Weak.cons rfl <| Weak.cons rfl <| Weak.nil _⟩
  · skip
    refine WC.exit (thenQ.x <| thenQ.x <| blockQ.hit <| thenQ.n ?_)
    iterate 2 refine WC.seq ?_
    refine WC.region ?_
    refine WL.lv rfl (LV.asg rfl) ?_
    refine WL.nil (thenQ.n ?_)
    refine WC.block ?_
    refine WC.loop (fun m_ f_ w_ => ∃ (lines : Int) (i2 : Int), (0 ≤ i2) ∧ (i2 ≤ ((l.take 60).length : Int)) ∧ (lines = FREE ((l.take 60).take i2.toNat)) ∧ (0 ≤ lines ∧ lines ≤ i2) ∧ SH w No w_ [rowE eCt 30 (.slice A1 ((CTS (l.take 60)).length) c1) (CTS (l.take 60)), blkE b3 25 #[(.int .i64 ((c).1)), (.int .u64 ((c).2))], blkE b2 25 #[(.int .i64 ((b).1)), (.int .u64 ((b).2))], blkE b1 25 #[(.int .i64 ((a).1)), (.int .u64 ((a).2))]] ∧ m_ = ((((l.take 60).length : Int) - i2).toNat) ∧ Weak (lit [(0, (.slice (cutA A_l c_l 6) ((l.take 60).length) c_l)), (5, (.pointer (some ⟨b1, 0, none⟩))), (6, (.pointer (some ⟨b2, 0, none⟩))), (7, (.pointer (some ⟨b3, 0, none⟩))), (9, (.int .i64 n)), (10, (.int .i64 lines)), (13, (.int .i64 i2))]) f_) _ ⟨0, 0, by omega, by omega, rfl, by omega, hL1, rfl, Weak.cons rfl <| Weak.cons rfl <| Weak.cons rfl <| Weak.cons rfl <| Weak.cons rfl <| Weak.cons rfl <| Weak.cons rfl <| Weak.nil _⟩ ?_
    rintro m2 f2 w8 ⟨lines, i2, i2lo, i2hi, p1, p2, hL2, rfl, hw2⟩
    refine WC.weak hw2 ?_
    clear hw2
    iterate 2 refine WC.seq ?_
    refine WC.region ?_
    iterate 2 refine WL.lv rfl (LV.mv rfl) ?_
    refine WL.lv rfl (LV.lenL Try.underlying22 rfl) ?_
    refine WL.lv rfl (LV.ltI rfl rfl) ?_
    refine WL.nil (thenQ.n ?_)
    refine WC.condP (p := i2 < ((l.take 60).length : Int)) rfl (fun hk2 => ?_) (fun hk2 => ?_)
    · skip
      refine WC.skip (thenQ.n ?_)
      refine WC.seq ?_
      refine WC.block ?_
      refine WC.seq ?_
      refine WC.region ?_
      iterate 2 refine WL.lv rfl (LV.mv rfl) ?_
      obtain ⟨A5, c5, e4, g4⟩ := St.elt (SH.stN hL2 (few_rd 60 h_l)) dI i2 (by omega) (by omega)
      refine WL.lv rfl (LV.idxA Try.underlying22 ti38.sz rfl e4 rfl (by omega) (by omega)) ?_
      refine WL.lv rfl (LV.fieldA Try.underlying38 rfl ti4.sz rfl) ?_
      refine WL.lv rfl (LV.load1 (v := (.bool (((l.take 60).getD (i2).toNat dI).2.2.1))) Try.underlying4 rfl rfl (g4 _ (KB.refl No _) 3 _ rfl)) ?_
      refine WL.lv rfl (LV.notB rfl) ?_
      refine WL.nil (thenQ.n ?_)
      refine WC.cond (b := !(((l.take 60).getD (i2).toNat dI).2.2.1)) rfl (fun han => ?_) (fun han => ?_)
      · skip
        refine WC.region ?_
        refine WL.lv rfl (LV.mv rfl) ?_
        refine WL.lv rfl (LV.add rfl rfl (wr64 (by omega) (by omega))) ?_
        refine WL.lv rfl (LV.asg rfl) ?_
        refine WL.nil (blockQ.n <| thenQ.n ?_)
        refine WC.region ?_
        refine WL.lv rfl (LV.mv rfl) ?_
        refine WL.lv rfl (LV.add rfl rfl (wr64 (by omega) (by omega))) ?_
        refine WL.lv rfl (LV.asg rfl) ?_
        refine WL.nil (thenQ.n ?_)
        exact ⟨_, by omega, lines + 1, i2 + 1, by omega, by omega, (by first | exact free_yes i2lo hk2 p1 han | exact free_no i2lo hk2 p1 han), by omega, hL2, rfl, Weak.cons rfl <| Weak.cons rfl <| Weak.cons rfl <| Weak.cons rfl <| Weak.cons rfl <| Weak.cons rfl <| Weak.cons rfl <| Weak.nil _⟩
      · skip
        refine WC.skip (blockQ.n <| thenQ.n ?_)
        refine WC.region ?_
        refine WL.lv rfl (LV.mv rfl) ?_
        refine WL.lv rfl (LV.add rfl rfl (wr64 (by omega) (by omega))) ?_
        refine WL.lv rfl (LV.asg rfl) ?_
        refine WL.nil (thenQ.n ?_)
        exact ⟨_, by omega, lines, i2 + 1, by omega, by omega, (by first | exact free_yes i2lo hk2 p1 han | exact free_no i2lo hk2 p1 han), by omega, hL2, rfl, Weak.cons rfl <| Weak.cons rfl <| Weak.cons rfl <| Weak.cons rfl <| Weak.cons rfl <| Weak.cons rfl <| Weak.cons rfl <| Weak.nil _⟩
    · skip
      refine WC.exit (thenQ.x <| thenQ.x <| blockQ.hit <| thenQ.n ?_)
      iterate 2 refine WC.seq ?_
      have hS9 := SH.drew hL2
      refine WC.regionD [] (fun w_ => KB No w8.drew w_) [(.look, 0), (.look, 1), (.look, 3), (.look, 4), (.forced, 2), (.forced, 5), (.pure, 6), (.pure, 7), (.pure, 8), (.look, 9), (.look, 10), (.look, 13), (.look, 14), (.pure, 15), (.forced, 11), (.pure, 12), (.pure, 16), (.pure, 17), (.pure, 18), (.look, 19), (.look, 20), (.forced, 21), (.pure, 22), (.pure, 23), (.look, 24), (.look, 25), (.forced, 26), (.pure, 27), (.pure, 28), (.pure, 29), (.look, 30), (.look, 31), (.forced, 32), (.pure, 33), (.pure, 34), (.pure, 35)] (by kernel_rfl) (by kernel_rfl) (KB.refl _ _) ?_
      refine WS.look rfl rfl (fun _ hk_ => LV.loadAgg (cs := [(.int .i64 ((a).1)), (.int .u64 ((a).2))]) Try.underlying25 rfl ti25 rfl rfl (Blk.agg (SH.at hS9 (.tail _ (.tail _ (.tail _ (.head _))))) _ hk_)) ?_
      iterate 2 refine WS.look rfl rfl (fun _ hk_ => LV.loadAgg (cs := [(.int .i64 ((b).1)), (.int .u64 ((b).2))]) Try.underlying25 rfl ti25 rfl rfl (Blk.agg (SH.at hS9 (.tail _ (.tail _ (.head _)))) _ hk_)) ?_
      refine WS.look rfl rfl (fun _ hk_ => LV.loadAgg (cs := [(.int .i64 ((a).1)), (.int .u64 ((a).2))]) Try.underlying25 rfl ti25 rfl rfl (Blk.agg (SH.at hS9 (.tail _ (.tail _ (.tail _ (.head _))))) _ hk_)) ?_
      refine WS.call rfl rfl (XC.fn Try.func12 (by kernel_rfl) rfl rfl rfl) (order_calls (a := a) (b := b) ) ?_
      rintro v_ w9 ⟨rfl, hk6⟩
      have hS10 := SH.same hS9 hk6
      refine ⟨fun h_ => (KB.transN (KB.refl _ _) hk6), ?_⟩
      refine WS.call rfl rfl (XC.fn Try.func12 (by kernel_rfl) rfl rfl rfl) (order_calls (a := b) (b := a) ) ?_
      rintro v_ w10 ⟨rfl, hk7⟩
      have hS11 := SH.same hS10 hk7
      refine ⟨fun h_ => (KB.transN (KB.transN (KB.refl _ _) hk6) hk7), ?_⟩
      refine WS.pure rfl rfl (fun _ => LV.neg rfl (wr64 (by omega) (by omega))) ?_
      refine WS.pure rfl rfl (fun _ => LV.as (LV.neI rfl rfl) (decide_eq_false (by omega))) ?_
      refine WS.pure rfl rfl (fun _ => LV.mv rfl) ?_
      refine WS.look rfl rfl (fun _ hk_ => LV.loadAgg (cs := [(.int .i64 ((a).1)), (.int .u64 ((a).2))]) Try.underlying25 rfl ti25 rfl rfl (Blk.agg (SH.at hS9 (.tail _ (.tail _ (.tail _ (.head _))))) _ hk_)) ?_
      refine WS.look rfl rfl (fun _ hk_ => LV.loadAgg (cs := [(.int .i64 ((b).1)), (.int .u64 ((b).2))]) Try.underlying25 rfl ti25 rfl rfl (Blk.agg (SH.at hS9 (.tail _ (.tail _ (.head _)))) _ hk_)) ?_
      refine WS.look rfl rfl (fun _ hk_ => LV.loadAgg (cs := [(.int .i64 ((a).1)), (.int .u64 ((a).2))]) Try.underlying25 rfl ti25 rfl rfl (Blk.agg (SH.at hS9 (.tail _ (.tail _ (.tail _ (.head _))))) _ hk_)) ?_
      refine WS.look rfl rfl (fun _ hk_ => LV.loadAgg (cs := [(.int .i64 ((b).1)), (.int .u64 ((b).2))]) Try.underlying25 rfl ti25 rfl rfl (Blk.agg (SH.at hS9 (.tail _ (.tail _ (.head _)))) _ hk_)) ?_
      refine WS.pure rfl rfl (fun _ => LV.eqG (by decide) (ae_s2 Try.underlying25 (by decide) (by kernel_rfl) (pt_int Try.underlying3 rfl) (pt_int Try.underlying3 rfl) (pt_int Try.underlying23 rfl) (pt_int Try.underlying23 rfl) (ae_int Try.underlying3) (ae_int Try.underlying23)) (by kernel_rfl) rfl rfl) ?_
      refine WS.call rfl rfl (XC.fn Try.func12 (by kernel_rfl) rfl rfl rfl) (order_calls (a := a) (b := b) ) ?_
      rintro v_ w11 ⟨rfl, hk8⟩
      have hS12 := SH.same hS11 hk8
      refine ⟨fun h_ => (KB.transN (KB.transN (KB.transN (KB.refl _ _) hk6) hk7) hk8), ?_⟩
      refine WS.pure rfl rfl (fun _ => LV.eqI rfl rfl) ?_
      refine WS.pure rfl rfl (fun _ => LV.as (c := false) (LV.neB Try.underlying4 rfl rfl) (by rw [bne_eq_false_iff_eq]; exact decide_eq_decide.2 hozb_)) ?_
      refine WS.pure rfl rfl (fun _ => LV.pickF rfl rfl) ?_
      refine WS.pure rfl rfl (fun _ => LV.mv rfl) ?_
      refine WS.look rfl rfl (fun _ hk_ => LV.loadAgg (cs := [(.int .i64 ((a).1)), (.int .u64 ((a).2))]) Try.underlying25 rfl ti25 rfl rfl (Blk.agg (SH.at hS9 (.tail _ (.tail _ (.tail _ (.head _))))) _ hk_)) ?_
      refine WS.look rfl rfl (fun _ hk_ => LV.loadAgg (cs := [(.int .i64 ((b).1)), (.int .u64 ((b).2))]) Try.underlying25 rfl ti25 rfl rfl (Blk.agg (SH.at hS9 (.tail _ (.tail _ (.head _)))) _ hk_)) ?_
      refine WS.call rfl rfl (XC.fn Try.func12 (by kernel_rfl) rfl rfl rfl) (order_calls (a := a) (b := b) ) ?_
      rintro v_ w12 ⟨rfl, hk9⟩
      have hS13 := SH.same hS12 hk9
      refine ⟨fun h_ => (KB.transN (KB.transN (KB.transN (KB.transN (KB.refl _ _) hk6) hk7) hk8) hk9), ?_⟩
      rcases Decidable.em ((LO a b) < 0) with hg2 | hg2
      · refine WS.pure rfl rfl (fun _ => LV.as (LV.ltI rfl rfl) (decide_eq_true hg2)) ?_
        refine WS.pure rfl rfl (fun _ => LV.mv rfl) ?_
        refine WS.look rfl rfl (fun _ hk_ => LV.loadAgg (cs := [(.int .i64 ((b).1)), (.int .u64 ((b).2))]) Try.underlying25 rfl ti25 rfl rfl (Blk.agg (SH.at hS9 (.tail _ (.tail _ (.head _)))) _ hk_)) ?_
        refine WS.look rfl rfl (fun _ hk_ => LV.loadAgg (cs := [(.int .i64 ((c).1)), (.int .u64 ((c).2))]) Try.underlying25 rfl ti25 rfl rfl (Blk.agg (SH.at hS9 (.tail _ (.head _))) _ hk_)) ?_
        refine WS.call rfl rfl (XC.fn Try.func12 (by kernel_rfl) rfl rfl rfl) (order_calls (a := b) (b := c) ) ?_
        rintro v_ w13 ⟨rfl, hk10⟩
        have hS14 := SH.same hS13 hk10
        refine ⟨fun h_ => (KB.transN (KB.transN (KB.transN (KB.transN (KB.transN (KB.refl _ _) hk6) hk7) hk8) hk9) hk10), ?_⟩
        rcases Decidable.em ((LO b c) < 0) with hg3 | hg3
        · refine WS.pure rfl rfl (fun _ => LV.as (LV.ltI rfl rfl) (decide_eq_true hg3)) ?_
          refine WS.pure rfl rfl (fun _ => LV.pickT rfl rfl) ?_
          refine WS.pure rfl rfl (fun _ => LV.mv rfl) ?_
          refine WS.look rfl rfl (fun _ hk_ => LV.loadAgg (cs := [(.int .i64 ((a).1)), (.int .u64 ((a).2))]) Try.underlying25 rfl ti25 rfl rfl (Blk.agg (SH.at hS9 (.tail _ (.tail _ (.tail _ (.head _))))) _ hk_)) ?_
          refine WS.look rfl rfl (fun _ hk_ => LV.loadAgg (cs := [(.int .i64 ((c).1)), (.int .u64 ((c).2))]) Try.underlying25 rfl ti25 rfl rfl (Blk.agg (SH.at hS9 (.tail _ (.head _))) _ hk_)) ?_
          refine WS.call rfl rfl (XC.fn Try.func12 (by kernel_rfl) rfl rfl rfl) (order_calls (a := a) (b := c) ) ?_
          rintro v_ w14 ⟨rfl, hk11⟩
          have hS15 := SH.same hS14 hk11
          refine ⟨fun h_ => (KB.transN (KB.transN (KB.transN (KB.transN (KB.transN (KB.transN (KB.refl _ _) hk6) hk7) hk8) hk9) hk10) hk11), ?_⟩
          refine WS.pure rfl rfl (fun _ => LV.as (LV.geI rfl rfl) (decide_eq_false (by have h_ := hotr_ (by omega) (by omega); omega))) ?_
          refine WS.pure rfl rfl (fun _ => LV.pickT rfl rfl) ?_
          refine WS.pure rfl rfl (fun _ => LV.pickF rfl rfl) ?_
          refine WS.nil (thenQ.n ?_)
          refine WC.condF rfl ?_
          refine WC.skip (thenQ.n ?_)
          refine WC.seq ?_
          refine WC.region ?_
          have hfin_ : n = FREE (l.take 60) := by rw [q1, List.take_of_length_le (by omega)]; exact SM_all _
          have hfin2_ : lines = FREE (l.take 60) := by rw [p1, List.take_of_length_le (by omega)]
          refine WL.call rfl (XC.fn Try.func9 (by kernel_rfl) rfl rfl rfl) (live19_calls  ) ?_
          rintro v_ w15 ⟨rfl, hk12⟩
          have hS16 := SH.same hS15 hk12
          iterate 3 refine WL.lv rfl (LV.mv rfl) ?_
          refine WL.lv rfl (LV.as (LV.eqI rfl rfl) (decide_eq_true (by omega))) ?_
          refine WL.lv rfl (LV.pickT rfl rfl) ?_
          refine WL.lv rfl (LV.asg rfl) ?_
          refine WL.nil (thenQ.n ?_)
          refine WC.ret (?_)
          exact ⟨_, fun a ha => res1 rfl ha rfl, rfl, hS16.kb⟩
        · refine WS.pure rfl rfl (fun _ => LV.as (LV.ltI rfl rfl) (decide_eq_false hg3)) ?_
          refine WS.pure rfl rfl (fun _ => LV.pickT rfl rfl) ?_
          refine WS.pure rfl rfl (fun _ => LV.mv rfl) ?_
          iterate 2 refine WS.offL rfl rfl ?_
          refine WS.offF rfl rfl (fun h_ => (KB.transN (KB.transN (KB.transN (KB.transN (KB.transN (KB.refl _ _) hk6) hk7) hk8) hk9) hk10)) ?_
          refine WS.off rfl rfl ?_
          iterate 2 refine WS.pure rfl rfl (fun _ => LV.pickF rfl rfl) ?_
          refine WS.nil (thenQ.n ?_)
          refine WC.condF rfl ?_
          refine WC.skip (thenQ.n ?_)
          refine WC.seq ?_
          refine WC.region ?_
          have hfin_ : n = FREE (l.take 60) := by rw [q1, List.take_of_length_le (by omega)]; exact SM_all _
          have hfin2_ : lines = FREE (l.take 60) := by rw [p1, List.take_of_length_le (by omega)]
          refine WL.call rfl (XC.fn Try.func9 (by kernel_rfl) rfl rfl rfl) (live19_calls  ) ?_
          rintro v_ w16 ⟨rfl, hk13⟩
          have hS17 := SH.same hS14 hk13
          iterate 3 refine WL.lv rfl (LV.mv rfl) ?_
          refine WL.lv rfl (LV.as (LV.eqI rfl rfl) (decide_eq_true (by omega))) ?_
          refine WL.lv rfl (LV.pickT rfl rfl) ?_
          refine WL.lv rfl (LV.asg rfl) ?_
          refine WL.nil (thenQ.n ?_)
          refine WC.ret (?_)
          exact ⟨_, fun a ha => res1 rfl ha rfl, rfl, hS17.kb⟩
      · refine WS.pure rfl rfl (fun _ => LV.as (LV.ltI rfl rfl) (decide_eq_false hg2)) ?_
        refine WS.pure rfl rfl (fun _ => LV.mv rfl) ?_
        iterate 2 refine WS.offL rfl rfl ?_
        refine WS.offF rfl rfl (fun h_ => (KB.transN (KB.transN (KB.transN (KB.transN (KB.refl _ _) hk6) hk7) hk8) hk9)) ?_
        refine WS.off rfl rfl ?_
        refine WS.pure rfl rfl (fun _ => LV.pickF rfl rfl) ?_
        refine WS.pure rfl rfl (fun _ => LV.mv rfl) ?_
        iterate 2 refine WS.offL rfl rfl ?_
        refine WS.offF rfl rfl (fun h_ => (KB.transN (KB.transN (KB.transN (KB.transN (KB.refl _ _) hk6) hk7) hk8) hk9)) ?_
        refine WS.off rfl rfl ?_
        iterate 2 refine WS.pure rfl rfl (fun _ => LV.pickF rfl rfl) ?_
        refine WS.nil (thenQ.n ?_)
        refine WC.condF rfl ?_
        refine WC.skip (thenQ.n ?_)
        refine WC.seq ?_
        refine WC.region ?_
        have hfin_ : n = FREE (l.take 60) := by rw [q1, List.take_of_length_le (by omega)]; exact SM_all _
        have hfin2_ : lines = FREE (l.take 60) := by rw [p1, List.take_of_length_le (by omega)]
        refine WL.call rfl (XC.fn Try.func9 (by kernel_rfl) rfl rfl rfl) (live19_calls  ) ?_
        rintro v_ w17 ⟨rfl, hk14⟩
        have hS18 := SH.same hS13 hk14
        iterate 3 refine WL.lv rfl (LV.mv rfl) ?_
        refine WL.lv rfl (LV.as (LV.eqI rfl rfl) (decide_eq_true (by omega))) ?_
        refine WL.lv rfl (LV.pickT rfl rfl) ?_
        refine WL.lv rfl (LV.asg rfl) ?_
        refine WL.nil (thenQ.n ?_)
        refine WC.ret (?_)
        exact ⟨_, fun a ha => res1 rfl ha rfl, rfl, hS18.kb⟩

end Go.Proofs.Ytannlhnjihielaa
