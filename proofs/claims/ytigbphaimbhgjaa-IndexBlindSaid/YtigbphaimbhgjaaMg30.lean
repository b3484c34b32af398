/- The law of words. -/
import Derived.Test.YtigbphaimbhgjaaMg29
import Derived.Test.YtigbphaimbhgjaaMg25
namespace Go.Proofs.Ytigbphaimbhgjaa
open Go Go.Gv Go.RowKit Go.Tly Go.Wds Go.Idx
set_option linter.unusedVariables false
set_option linter.unusedSimpArgs false

attribute [local irreducible] Go.Idx.PUTF Go.Idx.FIND Go.Idx.WRDS Go.Idx.FLS Go.Idx.OF Go.Idx.LOW Go.Idx.DOS Go.Idx.ALLF Go.Idx.WOF

set_option maxHeartbeats 4000000 in
set_option maxRecDepth 100000 in
theorem indexWords_law {w : World} {A_l : Option Addr} {n_l c_l : Nat} {l : DDS} {qv qw : ByteArray} {o : Lb} (h_l : St No w (Rd eDd (.slice A_l n_l c_l) (DLS l))) (hi_l : St No w (RdIn ddS eIt l)) (hn_l : l.length = n_l) (hz_l : ∀ d ∈ l, d.1.2.1.size ≤ 140737488355328) (hy_l : ∀ d ∈ l, ∀ y ∈ d.2, 0 ≤ y.2.1.2 ∧ y.2.1.2 < 18446744073709551616) (hsv : qv.size ≤ 140737488355328) (hsw : qw.size ≤ 140737488355328) (wo : 0 ≤ o.2 ∧ o.2 < 18446744073709551616) :
    Calls Try.prog 4 #[(.slice A_l n_l c_l), (.string qv), (.string qw), (.agg #[(.int .i64 ((o).1)), (.int .u64 ((o).2))])] w fun e w' => ∃ v, e = .returned v ∧ (fun v w' => v = .bool true ∧ KB No w w') v w' := by
  subst hn_l
  have hS : SH w No w [] := SH.nil _ _
  refine calls (l := litOf [(.slice A_l l.length c_l), (.string qv), (.string qw), (.agg #[(.int .i64 ((o).1)), (.int .u64 ((o).2))])] 0) Try.func4 rfl (n := 126) rfl (Nat.le_of_ble_eq_true rfl) (lit_args _) ?_
  refine WC.seq ?_
  refine WC.region ?_
  refine WL.xe rfl (XE.box #[(.int .i64 ((o).1)), (.int .u64 ((o).2))] hS rfl rfl) ?_
  rintro _ w1 ⟨b1, rfl, hS1, hk1⟩
  refine WL.lv rfl (LV.asg rfl) ?_
  refine WL.nil (thenQ.n ?_)
  refine WC.seq ?_
  refine WC.region ?_
  refine WL.lv rfl (LV.mv rfl) ?_
  have hz1 := play_calls (w := w1) (l := l) (SH.stN hS1 h_l) (SH.stN hS1 hi_l) rfl hz_l hy_l 
  refine WL.call rfl (XC.fn Try.func6 (by kernel_rfl) rfl rfl rfl) (hz1) ?_
  rintro v_ w2 ⟨b2, m1, m2, kv1, kw1, Pa1, Pb1, yb1, A1, c1, rs1, Pc1, rfl, hv1, hD1, hS2⟩
  have hS3 := SH.joinN hS1 hS2
  refine WL.lv rfl (LV.mv rfl) ?_
  iterate 3 refine WL.lv rfl (LV.extract rfl rfl) ?_
  iterate 3 refine WL.lv rfl (LV.asg rfl) ?_
  refine WL.nil (thenQ.n ?_)
  iterate 2 refine WC.seq ?_
  refine WC.region ?_
  refine WL.lv rfl (LV.mv rfl) ?_
  refine WL.lv rfl (LV.notB rfl) ?_
  refine WL.nil (thenQ.n ?_)
  refine WC.condF rfl ?_
  refine WC.skip (thenQ.n ?_)
  refine WC.seq ?_
  have hS4 := SH.drew hS3
  refine WC.regionD [] (fun w_ => KB No w2.drew w_) [(.pure, 0), (.pure, 1), (.look, 2), (.pure, 4), (.pure, 5), (.look, 6), (.forced, 3), (.forced, 7), (.pure, 8), (.pure, 9)] (by kernel_rfl) (by kernel_rfl) (KB.refl _ _) ?_
  iterate 2 refine WS.pure rfl rfl (fun _ => LV.mv rfl) ?_
  refine WS.look rfl rfl (fun _ hk_ => LV.loadAgg (cs := [(.int .i64 ((o).1)), (.int .u64 ((o).2))]) Try.underlying25 rfl ti25 rfl rfl (Blk.agg (SH.at hS4 (.tail _ (.tail _ (.tail _ (.tail _ (.tail _ (.tail _ (.tail _ (.tail _ (.head _)))))))))) _ hk_)) ?_
  iterate 2 refine WS.pure rfl rfl (fun _ => LV.mv rfl) ?_
  refine WS.look rfl rfl (fun _ hk_ => LV.loadAgg (cs := [(.int .i64 ((o).1)), (.int .u64 ((o).2))]) Try.underlying25 rfl ti25 rfl rfl (Blk.agg (SH.at hS4 (.tail _ (.tail _ (.tail _ (.tail _ (.tail _ (.tail _ (.tail _ (.tail _ (.head _)))))))))) _ hk_)) ?_
  have hz2 := find_calls (w := w2.drew) (word := qv) (o := o) (SH.ixr5 (T1 := 64) (T2 := 73) (X := (⟨b2, m1, m2, kv1, kw1, Pa1, Pb1, (DOS (l.take 20))⟩ : IXS)) hS4 (.head _) (.tail _ (.head _)) (.tail _ (.tail _ (.head _))) (.tail _ (.tail _ (.tail _ (.head _)))) (.tail _ (.tail _ (.tail _ (.tail _ (.head _)))))) hv1 (by omega) (hsv) (wo) 
  refine WS.call rfl rfl (XC.fn Try.func11 (by kernel_rfl) rfl rfl rfl) (hz2) ?_
  rintro v_ w3 ⟨A2, c2, rfl, hS5⟩
  have hS6 := SH.joinN hS4 hS5
  refine ⟨fun h_ => (KB.transN (KB.refl _ _) hS5.kb), ?_⟩
  have hz3 := find_calls (w := w3) (word := qw) (o := o) (SH.ixr5 (T1 := 64) (T2 := 73) (X := (⟨b2, m1, m2, kv1, kw1, Pa1, Pb1, (DOS (l.take 20))⟩ : IXS)) hS6 (.tail _ (.head _)) (.tail _ (.tail _ (.head _))) (.tail _ (.tail _ (.tail _ (.head _)))) (.tail _ (.tail _ (.tail _ (.tail _ (.head _))))) (.tail _ (.tail _ (.tail _ (.tail _ (.tail _ (.head _))))))) hv1 (by omega) (hsw) (wo) 
  refine WS.call rfl rfl (XC.fn Try.func11 (by kernel_rfl) rfl rfl rfl) (hz3) ?_
  rintro v_ w4 ⟨A3, c3, rfl, hS7⟩
  have hS8 := SH.joinN hS6 hS7
  refine ⟨fun h_ => (KB.transN (KB.transN (KB.refl _ _) hS5.kb) hS7.kb), ?_⟩
  iterate 2 refine WS.pure rfl rfl (fun _ => LV.asg rfl) ?_
  refine WS.nil (thenQ.n ?_)
  refine WC.seq ?_
  refine WC.region ?_
  refine WL.lv rfl (LV.mv rfl) ?_
  refine WL.lv rfl (LV.loadAgg (cs := [(.int .i64 ((o).1)), (.int .u64 ((o).2))]) Try.underlying25 rfl ti25 rfl rfl (Blk.agg (SH.at hS8 (.tail _ (.tail _ (.tail _ (.tail _ (.tail _ (.tail _ (.tail _ (.tail _ (.tail _ (.tail _ (.head _)))))))))))) _ (KB.refl No _))) ?_
  have hz4 := words_calls (w := w4) (o := o) (SH.ixr5 (T1 := 64) (T2 := 73) (X := (⟨b2, m1, m2, kv1, kw1, Pa1, Pb1, (DOS (l.take 20))⟩ : IXS)) hS8 (.tail _ (.tail _ (.head _))) (.tail _ (.tail _ (.tail _ (.head _)))) (.tail _ (.tail _ (.tail _ (.tail _ (.head _))))) (.tail _ (.tail _ (.tail _ (.tail _ (.tail _ (.head _)))))) (.tail _ (.tail _ (.tail _ (.tail _ (.tail _ (.tail _ (.head _)))))))) hv1 (by omega) (wo) 
  refine WL.call rfl (XC.fn Try.func13 (by kernel_rfl) rfl rfl rfl) (hz4) ?_
  rintro v_ w5 ⟨A4, c4, rfl, hS9⟩
  have hS10 := SH.joinN hS8 hS9
  have hfv_ := find_len hv1 (LOW qv) o
  have hwl_ := wrds_len hv1 (by omega) o
  refine WL.lv rfl (LV.asg rfl) ?_
  refine WL.nil (thenQ.n ?_)
  refine WC.seq ?_
  refine WC.region ?_
  refine WL.lv rfl (LV.asg rfl) ?_
  refine WL.nil (thenQ.n ?_)
  iterate 2 refine WC.seq ?_
  refine WC.region ?_
  refine WL.lv rfl (LV.asg rfl) ?_
  refine WL.nil (thenQ.n ?_)
  refine WC.block ?_
  refine WC.loop (fun m_ f_ w_ => ∃ (known : Bool) (i : Int), (0 ≤ i) ∧ (i ≤ ((WRDS (⟨b2, m1, m2, kv1, kw1, Pa1, Pb1, (DOS (l.take 20))⟩ : IXS).F o).length : Int)) ∧ (known = true ↔ LOW qv ∈ (WRDS (⟨b2, m1, m2, kv1, kw1, Pa1, Pb1, (DOS (l.take 20))⟩ : IXS).F o).take i.toNat) ∧ SH w No w_ [rowE eS 9 (.slice A4 ((WRDS (⟨b2, m1, m2, kv1, kw1, Pa1, Pb1, (DOS (l.take 20))⟩ : IXS).F o).length) c4) (WRDS (⟨b2, m1, m2, kv1, kw1, Pa1, Pb1, (DOS (l.take 20))⟩ : IXS).F o), rowE eSI 48 (.slice A3 ((FIND (⟨b2, m1, m2, kv1, kw1, Pa1, Pb1, (DOS (l.take 20))⟩ : IXS).F (LOW qw) o).length) c3) (FIND (⟨b2, m1, m2, kv1, kw1, Pa1, Pb1, (DOS (l.take 20))⟩ : IXS).F (LOW qw) o), rowE eSI 48 (.slice A2 ((FIND (⟨b2, m1, m2, kv1, kw1, Pa1, Pb1, (DOS (l.take 20))⟩ : IXS).F (LOW qv) o).length) c2) (FIND (⟨b2, m1, m2, kv1, kw1, Pa1, Pb1, (DOS (l.take 20))⟩ : IXS).F (LOW qv) o), blkE b2 71 #[(.map (some m1)), (.map (some m2))], mapG kS kV m1 kv1, mapG kS kV m2 kw1, insE idS eIt 64 Pa1, insE idS eSI 73 Pb1, blkE yb1 52 #[(.slice A1 rs1.length c1)], rowE eSV 54 (.slice A1 rs1.length c1) rs1, insE idS eIt 64 Pc1, blkE b1 25 #[(.int .i64 ((o).1)), (.int .u64 ((o).2))]] ∧ m_ = ((((WRDS (⟨b2, m1, m2, kv1, kw1, Pa1, Pb1, (DOS (l.take 20))⟩ : IXS).F o).length : Int) - i).toNat) ∧ Weak (lit [(1, (.string qv)), (2, (.string qw)), (7, (.pointer (some ⟨b1, 0, none⟩))), (9, (.pointer (some ⟨b2, 0, none⟩))), (12, (.slice A2 ((FIND (⟨b2, m1, m2, kv1, kw1, Pa1, Pb1, (DOS (l.take 20))⟩ : IXS).F (LOW qv) o).length) c2)), (13, (.slice A3 ((FIND (⟨b2, m1, m2, kv1, kw1, Pa1, Pb1, (DOS (l.take 20))⟩ : IXS).F (LOW qw) o).length) c3)), (14, (.slice A4 ((WRDS (⟨b2, m1, m2, kv1, kw1, Pa1, Pb1, (DOS (l.take 20))⟩ : IXS).F o).length) c4)), (15, (.bool known)), (16, (.int .i64 i))]) f_) _ ⟨false, 0, by omega, by omega, (by simp), hS10, rfl, Weak.cons rfl <| Weak.cons rfl <| Weak.cons rfl <| Weak.cons rfl <| Weak.cons rfl <| Weak.cons rfl <| Weak.cons rfl <| Weak.cons rfl <| Weak.cons rfl <| Weak.nil _⟩ ?_
  rintro m3 f1 w6 ⟨known, i, ilo, ihi, q1, hL1, rfl, hw1⟩
  refine WC.weak hw1 ?_
  clear hw1
  iterate 2 refine WC.seq ?_
  refine WC.region ?_
  iterate 2 refine WL.lv rfl (LV.mv rfl) ?_
  refine WL.lv rfl (LV.lenL Try.underlying41 rfl) ?_
  refine WL.lv rfl (LV.ltI rfl rfl) ?_
  refine WL.nil (thenQ.n ?_)
  refine WC.condP (p := i < ((WRDS (⟨b2, m1, m2, kv1, kw1, Pa1, Pb1, (DOS (l.take 20))⟩ : IXS).F o).length : Int)) rfl (fun hc1 => ?_) (fun hc1 => ?_)
  · skip
    refine WC.skip (thenQ.n ?_)
    refine WC.seq ?_
    refine WC.block ?_
    refine WC.seq ?_
    have hS11 := SH.drew hL1
    refine WC.regionD [] (fun w_ => KB No w6.drew w_) [(.pure, 0), (.pure, 1), (.pure, 2), (.pure, 3), (.pure, 4), (.look, 5), (.pure, 6), (.forced, 7), (.pure, 8), (.pure, 9), (.pure, 10)] (by kernel_rfl) (by kernel_rfl) (KB.refl _ _) ?_
    rcases Bool.eq_false_or_eq_true (known) with hg1 | hg1
    · refine WS.pure rfl rfl (fun _ => LV.as (c := true) (LV.mv rfl) hg1) ?_
      refine WS.pure rfl rfl (fun _ => LV.mv rfl) ?_
      iterate 3 refine WS.off rfl rfl ?_
      refine WS.offL rfl rfl ?_
      refine WS.off rfl rfl ?_
      refine WS.offF rfl rfl (fun h_ => (KB.refl _ _)) ?_
      refine WS.off rfl rfl ?_
      refine WS.pure rfl rfl (fun _ => LV.pickT rfl rfl) ?_
      refine WS.pure rfl rfl (fun _ => LV.asg rfl) ?_
      refine WS.nil (thenQ.n ?_)
      refine WC.seq ?_
      have hS12 := SH.drew hS11
      refine WC.regionD [] (fun w_ => KB No w6.drew.drew w_) [(.pure, 0), (.pure, 1), (.pure, 2), (.pure, 3), (.pure, 4), (.pure, 5), (.pure, 6), (.look, 7), (.pure, 8), (.pure, 9), (.pure, 10), (.look, 11), (.pure, 12), (.pure, 13)] (by kernel_rfl) (by kernel_rfl) (KB.refl _ _) ?_
      refine WS.pure rfl rfl (fun _ => LV.mv rfl) ?_
      rcases Decidable.em (i > 0) with hg2 | hg2
      · refine WS.pure rfl rfl (fun _ => LV.as (LV.gtI rfl rfl) (decide_eq_true hg2)) ?_
        iterate 3 refine WS.pure rfl rfl (fun _ => LV.mv rfl) ?_
        refine WS.pure rfl rfl (fun _ => LV.sub rfl rfl (wr64 (by omega) (by omega))) ?_
        obtain ⟨A5, c5, e1, g1⟩ := St.elt (SH.rd hS12 (.head _)) ByteArray.empty (i - 1) (by omega) (by omega)
        refine WS.pure rfl rfl (fun _ => LV.idxA Try.underlying41 ti9.sz rfl e1 rfl (by omega) (by omega)) ?_
        refine WS.look rfl rfl (fun _ hk_ => LV.load1 (v := (.string ((WRDS (⟨b2, m1, m2, kv1, kw1, Pa1, Pb1, (DOS (l.take 20))⟩ : IXS).F o).getD (i - 1).toNat ByteArray.empty))) Try.underlying9 rfl rfl (g1 _ hk_ 0 _ rfl)) ?_
        iterate 2 refine WS.pure rfl rfl (fun _ => LV.mv rfl) ?_
        obtain ⟨A6, c6, e2, g2⟩ := St.elt (SH.rd hS12 (.head _)) ByteArray.empty i (by omega) (by omega)
        refine WS.pure rfl rfl (fun _ => LV.idxA Try.underlying41 ti9.sz rfl e2 rfl (by omega) (by omega)) ?_
        refine WS.look rfl rfl (fun _ hk_ => LV.load1 (v := (.string ((WRDS (⟨b2, m1, m2, kv1, kw1, Pa1, Pb1, (DOS (l.take 20))⟩ : IXS).F o).getD (i).toNat ByteArray.empty))) Try.underlying9 rfl rfl (g2 _ hk_ 0 _ rfl)) ?_
        refine WS.pure rfl rfl (fun _ => LV.as (LV.geS (a := ((WRDS (⟨b2, m1, m2, kv1, kw1, Pa1, Pb1, (DOS (l.take 20))⟩ : IXS).F o).getD (i - 1).toNat ByteArray.empty)) (b := ((WRDS (⟨b2, m1, m2, kv1, kw1, Pa1, Pb1, (DOS (l.take 20))⟩ : IXS).F o).getD (i).toNat ByteArray.empty)) rfl rfl) (decide_eq_false (fun h_ => h_ (ss_at (wrds_ss _ o) (by omega) (by omega))))) ?_
        refine WS.pure rfl rfl (fun _ => LV.pickT rfl rfl) ?_
        refine WS.nil (thenQ.n ?_)
        refine WC.condF rfl ?_
        refine WC.skip (blockQ.n <| thenQ.n ?_)
        refine WC.region ?_
        refine WL.lv rfl (LV.mv rfl) ?_
        refine WL.lv rfl (LV.add rfl rfl (wr64 (by omega) (by omega))) ?_
        refine WL.lv rfl (LV.asg rfl) ?_
        refine WL.nil (thenQ.n ?_)
        exact ⟨_, by omega, true, i + 1, by omega, by omega, (kn_yes ilo (by omega) q1 hg1), hS12, rfl, Weak.cons rfl <| Weak.cons rfl <| Weak.cons rfl <| Weak.cons rfl <| Weak.cons rfl <| Weak.cons rfl <| Weak.cons rfl <| Weak.cons rfl <| Weak.cons rfl <| Weak.nil _⟩
      · refine WS.pure rfl rfl (fun _ => LV.as (LV.gtI rfl rfl) (decide_eq_false hg2)) ?_
        refine WS.pure rfl rfl (fun _ => LV.mv rfl) ?_
        iterate 4 refine WS.off rfl rfl ?_
        refine WS.offL rfl rfl ?_
        iterate 3 refine WS.off rfl rfl ?_
        refine WS.offL rfl rfl ?_
        refine WS.off rfl rfl ?_
        refine WS.pure rfl rfl (fun _ => LV.pickF rfl rfl) ?_
        refine WS.nil (thenQ.n ?_)
        refine WC.condF rfl ?_
        refine WC.skip (blockQ.n <| thenQ.n ?_)
        refine WC.region ?_
        refine WL.lv rfl (LV.mv rfl) ?_
        refine WL.lv rfl (LV.add rfl rfl (wr64 (by omega) (by omega))) ?_
        refine WL.lv rfl (LV.asg rfl) ?_
        refine WL.nil (thenQ.n ?_)
        exact ⟨_, by omega, true, i + 1, by omega, by omega, (kn_yes ilo (by omega) q1 hg1), hS12, rfl, Weak.cons rfl <| Weak.cons rfl <| Weak.cons rfl <| Weak.cons rfl <| Weak.cons rfl <| Weak.cons rfl <| Weak.cons rfl <| Weak.cons rfl <| Weak.cons rfl <| Weak.nil _⟩
    · refine WS.pure rfl rfl (fun _ => LV.as (c := false) (LV.mv rfl) hg1) ?_
      iterate 3 refine WS.pure rfl rfl (fun _ => LV.mv rfl) ?_
      obtain ⟨A7, c7, e3, g3⟩ := St.elt (SH.rd hS11 (.head _)) ByteArray.empty i (by omega) (by omega)
      refine WS.pure rfl rfl (fun _ => LV.idxA Try.underlying41 ti9.sz rfl e3 rfl (by omega) (by omega)) ?_
      refine WS.look rfl rfl (fun _ hk_ => LV.load1 (v := (.string ((WRDS (⟨b2, m1, m2, kv1, kw1, Pa1, Pb1, (DOS (l.take 20))⟩ : IXS).F o).getD (i).toNat ByteArray.empty))) Try.underlying9 rfl rfl (g3 _ hk_ 0 _ rfl)) ?_
      refine WS.pure rfl rfl (fun _ => LV.mv rfl) ?_
      have hz5 := rlower_calls (w := w6.drew) (s := qv) (hsv) 
      refine WS.call rfl rfl (XC.fn Try.func15 (by kernel_rfl) rfl rfl rfl) (hz5) ?_
      rintro v_ w7 ⟨rfl, hk2⟩
      have hS13 := SH.same hS11 hk2
      refine ⟨fun h_ => (KB.transN (KB.refl _ _) hk2), ?_⟩
      refine WS.pure rfl rfl (fun _ => LV.eqSP (a := ((WRDS (⟨b2, m1, m2, kv1, kw1, Pa1, Pb1, (DOS (l.take 20))⟩ : IXS).F o).getD (i).toNat ByteArray.empty)) (b := (LOW qv)) rfl rfl) ?_
      refine WS.pure rfl rfl (fun _ => LV.pickF rfl rfl) ?_
      refine WS.pure rfl rfl (fun _ => LV.asg rfl) ?_
      refine WS.nil (thenQ.n ?_)
      refine WC.seq ?_
      have hS14 := SH.drew hS13
      refine WC.regionD [] (fun w_ => KB No w7.drew w_) [(.pure, 0), (.pure, 1), (.pure, 2), (.pure, 3), (.pure, 4), (.pure, 5), (.pure, 6), (.look, 7), (.pure, 8), (.pure, 9), (.pure, 10), (.look, 11), (.pure, 12), (.pure, 13)] (by kernel_rfl) (by kernel_rfl) (KB.refl _ _) ?_
      refine WS.pure rfl rfl (fun _ => LV.mv rfl) ?_
      rcases Decidable.em (i > 0) with hg3 | hg3
      · refine WS.pure rfl rfl (fun _ => LV.as (LV.gtI rfl rfl) (decide_eq_true hg3)) ?_
        iterate 3 refine WS.pure rfl rfl (fun _ => LV.mv rfl) ?_
        refine WS.pure rfl rfl (fun _ => LV.sub rfl rfl (wr64 (by omega) (by omega))) ?_
        obtain ⟨A8, c8, e4, g4⟩ := St.elt (SH.rd hS14 (.head _)) ByteArray.empty (i - 1) (by omega) (by omega)
        refine WS.pure rfl rfl (fun _ => LV.idxA Try.underlying41 ti9.sz rfl e4 rfl (by omega) (by omega)) ?_
        refine WS.look rfl rfl (fun _ hk_ => LV.load1 (v := (.string ((WRDS (⟨b2, m1, m2, kv1, kw1, Pa1, Pb1, (DOS (l.take 20))⟩ : IXS).F o).getD (i - 1).toNat ByteArray.empty))) Try.underlying9 rfl rfl (g4 _ hk_ 0 _ rfl)) ?_
        iterate 2 refine WS.pure rfl rfl (fun _ => LV.mv rfl) ?_
        obtain ⟨A9, c9, e5, g5⟩ := St.elt (SH.rd hS14 (.head _)) ByteArray.empty i (by omega) (by omega)
        refine WS.pure rfl rfl (fun _ => LV.idxA Try.underlying41 ti9.sz rfl e5 rfl (by omega) (by omega)) ?_
        refine WS.look rfl rfl (fun _ hk_ => LV.load1 (v := (.string ((WRDS (⟨b2, m1, m2, kv1, kw1, Pa1, Pb1, (DOS (l.take 20))⟩ : IXS).F o).getD (i).toNat ByteArray.empty))) Try.underlying9 rfl rfl (g5 _ hk_ 0 _ rfl)) ?_
        refine WS.pure rfl rfl (fun _ => LV.as (LV.geS (a := ((WRDS (⟨b2, m1, m2, kv1, kw1, Pa1, Pb1, (DOS (l.take 20))⟩ : IXS).F o).getD (i - 1).toNat ByteArray.empty)) (b := ((WRDS (⟨b2, m1, m2, kv1, kw1, Pa1, Pb1, (DOS (l.take 20))⟩ : IXS).F o).getD (i).toNat ByteArray.empty)) rfl rfl) (decide_eq_false (fun h_ => h_ (ss_at (wrds_ss _ o) (by omega) (by omega))))) ?_
        refine WS.pure rfl rfl (fun _ => LV.pickT rfl rfl) ?_
        refine WS.nil (thenQ.n ?_)
        refine WC.condF rfl ?_
        refine WC.skip (blockQ.n <| thenQ.n ?_)
        refine WC.region ?_
        refine WL.lv rfl (LV.mv rfl) ?_
        refine WL.lv rfl (LV.add rfl rfl (wr64 (by omega) (by omega))) ?_
        refine WL.lv rfl (LV.asg rfl) ?_
        refine WL.nil (thenQ.n ?_)
        exact ⟨_, by omega, decide (((WRDS (⟨b2, m1, m2, kv1, kw1, Pa1, Pb1, (DOS (l.take 20))⟩ : IXS).F o).getD (i).toNat ByteArray.empty) = (LOW qv)), i + 1, by omega, by omega, (kn_no ilo (by omega) q1 hg1), hS14, rfl, Weak.cons rfl <| Weak.cons rfl <| Weak.cons rfl <| Weak.cons rfl <| Weak.cons rfl <| Weak.cons rfl <| Weak.cons rfl <| Weak.cons rfl <| Weak.cons rfl <| Weak.nil _⟩
      · refine WS.pure rfl rfl (fun _ => LV.as (LV.gtI rfl rfl) (decide_eq_false hg3)) ?_
        refine WS.pure rfl rfl (fun _ => LV.mv rfl) ?_
        iterate 4 refine WS.off rfl rfl ?_
        refine WS.offL rfl rfl ?_
        iterate 3 refine WS.off rfl rfl ?_
        refine WS.offL rfl rfl ?_
        refine WS.off rfl rfl ?_
        refine WS.pure rfl rfl (fun _ => LV.pickF rfl rfl) ?_
        refine WS.nil (thenQ.n ?_)
        refine WC.condF rfl ?_
        refine WC.skip (blockQ.n <| thenQ.n ?_)
        refine WC.region ?_
        refine WL.lv rfl (LV.mv rfl) ?_
        refine WL.lv rfl (LV.add rfl rfl (wr64 (by omega) (by omega))) ?_
        refine WL.lv rfl (LV.asg rfl) ?_
        refine WL.nil (thenQ.n ?_)
        exact ⟨_, by omega, decide (((WRDS (⟨b2, m1, m2, kv1, kw1, Pa1, Pb1, (DOS (l.take 20))⟩ : IXS).F o).getD (i).toNat ByteArray.empty) = (LOW qv)), i + 1, by omega, by omega, (kn_no ilo (by omega) q1 hg1), hS14, rfl, Weak.cons rfl <| Weak.cons rfl <| Weak.cons rfl <| Weak.cons rfl <| Weak.cons rfl <| Weak.cons rfl <| Weak.cons rfl <| Weak.cons rfl <| Weak.cons rfl <| Weak.nil _⟩
  · skip
    refine WC.exit (thenQ.x <| thenQ.x <| blockQ.hit <| thenQ.n ?_)
    refine WC.seq ?_
    refine WC.region ?_
    iterate 3 refine WL.lv rfl (LV.mv rfl) ?_
    refine WL.xe rfl (XE.buildSlice (E := eS) [(0, (.string qv)), (1, (.string qw))] #[(.string qv), (.string qw)] [qv, qw] hL1 Try.underlying41 ti9 rfl (by decide) (by kernel_rfl) (.inr rfl) rfl rfl (by decide)) ?_
    rintro _ w8 ⟨b3, rfl, hS15, hk3⟩
    refine WL.lv rfl (LV.loadAgg (cs := [(.int .i64 ((o).1)), (.int .u64 ((o).2))]) Try.underlying25 rfl ti25 rfl rfl (Blk.agg (SH.at hS15 (.tail _ (.tail _ (.tail _ (.tail _ (.tail _ (.tail _ (.tail _ (.tail _ (.tail _ (.tail _ (.tail _ (.tail _ (.head _)))))))))))))) _ (KB.refl No _))) ?_
    have hz6 := all_calls (w := w8) (o := o) (SH.ixr5 (T1 := 64) (T2 := 73) (X := (⟨b2, m1, m2, kv1, kw1, Pa1, Pb1, (DOS (l.take 20))⟩ : IXS)) hS15 (.tail _ (.tail _ (.tail _ (.tail _ (.head _))))) (.tail _ (.tail _ (.tail _ (.tail _ (.tail _ (.head _)))))) (.tail _ (.tail _ (.tail _ (.tail _ (.tail _ (.tail _ (.head _))))))) (.tail _ (.tail _ (.tail _ (.tail _ (.tail _ (.tail _ (.tail _ (.head _)))))))) (.tail _ (.tail _ (.tail _ (.tail _ (.tail _ (.tail _ (.tail _ (.tail _ (.head _)))))))))) hv1 (by omega) (SH.rd hS15 (.head _)) rfl ((by intro q_ hq_; simp only [List.mem_cons, List.not_mem_nil, or_false] at hq_; rcases hq_ with h_ | h_ <;> rw [h_] <;> assumption)) (wo) 
    refine WL.call rfl (XC.fn Try.func16 (by kernel_rfl) rfl rfl rfl) (hz6) ?_
    rintro v_ w9 ⟨A10, c10, rfl, hS16⟩
    have hS17 := SH.joinN hS15 hS16
    have hal_ := all_len _ o _ (fun q => find_len hv1 q o) [qv, qw]
    refine WL.lv rfl (LV.asg rfl) ?_
    refine WL.nil (thenQ.n ?_)
    iterate 2 refine WC.seq ?_
    refine WC.region ?_
    refine WL.lv rfl (LV.asg rfl) ?_
    refine WL.nil (thenQ.n ?_)
    refine WC.block ?_
    refine WC.loop (fun m_ f_ w_ => ∃ (i2 : Int), (0 ≤ i2) ∧ (i2 ≤ ((ALLF (⟨b2, m1, m2, kv1, kw1, Pa1, Pb1, (DOS (l.take 20))⟩ : IXS).F o [qv, qw]).length : Int)) ∧ SH w No w_ [rowE eSI 48 (.slice A10 ((ALLF (⟨b2, m1, m2, kv1, kw1, Pa1, Pb1, (DOS (l.take 20))⟩ : IXS).F o [qv, qw]).length) c10) (ALLF (⟨b2, m1, m2, kv1, kw1, Pa1, Pb1, (DOS (l.take 20))⟩ : IXS).F o [qv, qw]), rowE eS 9 (.slice (some ⟨b3, 0, none⟩) 2 2) [qv, qw], rowE eS 9 (.slice A4 ((WRDS (⟨b2, m1, m2, kv1, kw1, Pa1, Pb1, (DOS (l.take 20))⟩ : IXS).F o).length) c4) (WRDS (⟨b2, m1, m2, kv1, kw1, Pa1, Pb1, (DOS (l.take 20))⟩ : IXS).F o), rowE eSI 48 (.slice A3 ((FIND (⟨b2, m1, m2, kv1, kw1, Pa1, Pb1, (DOS (l.take 20))⟩ : IXS).F (LOW qw) o).length) c3) (FIND (⟨b2, m1, m2, kv1, kw1, Pa1, Pb1, (DOS (l.take 20))⟩ : IXS).F (LOW qw) o), rowE eSI 48 (.slice A2 ((FIND (⟨b2, m1, m2, kv1, kw1, Pa1, Pb1, (DOS (l.take 20))⟩ : IXS).F (LOW qv) o).length) c2) (FIND (⟨b2, m1, m2, kv1, kw1, Pa1, Pb1, (DOS (l.take 20))⟩ : IXS).F (LOW qv) o), blkE b2 71 #[(.map (some m1)), (.map (some m2))], mapG kS kV m1 kv1, mapG kS kV m2 kw1, insE idS eIt 64 Pa1, insE idS eSI 73 Pb1, blkE yb1 52 #[(.slice A1 rs1.length c1)], rowE eSV 54 (.slice A1 rs1.length c1) rs1, insE idS eIt 64 Pc1, blkE b1 25 #[(.int .i64 ((o).1)), (.int .u64 ((o).2))]] ∧ m_ = ((((ALLF (⟨b2, m1, m2, kv1, kw1, Pa1, Pb1, (DOS (l.take 20))⟩ : IXS).F o [qv, qw]).length : Int) - i2).toNat) ∧ Weak (lit [(12, (.slice A2 ((FIND (⟨b2, m1, m2, kv1, kw1, Pa1, Pb1, (DOS (l.take 20))⟩ : IXS).F (LOW qv) o).length) c2)), (13, (.slice A3 ((FIND (⟨b2, m1, m2, kv1, kw1, Pa1, Pb1, (DOS (l.take 20))⟩ : IXS).F (LOW qw) o).length) c3)), (15, (.bool known)), (17, (.slice A10 ((ALLF (⟨b2, m1, m2, kv1, kw1, Pa1, Pb1, (DOS (l.take 20))⟩ : IXS).F o [qv, qw]).length) c10)), (18, (.int .i64 i2))]) f_) _ ⟨0, by omega, by omega, hS17, rfl, Weak.cons rfl <| Weak.cons rfl <| Weak.cons rfl <| Weak.cons rfl <| Weak.cons rfl <| Weak.nil _⟩ ?_
    rintro m4 f2 w10 ⟨i2, i2lo, i2hi, hL2, rfl, hw2⟩
    refine WC.weak hw2 ?_
    clear hw2
    iterate 2 refine WC.seq ?_
    refine WC.region ?_
    iterate 2 refine WL.lv rfl (LV.mv rfl) ?_
    refine WL.lv rfl (LV.lenL Try.underlying38 rfl) ?_
    refine WL.lv rfl (LV.ltI rfl rfl) ?_
    refine WL.nil (thenQ.n ?_)
    refine WC.condP (p := i2 < ((ALLF (⟨b2, m1, m2, kv1, kw1, Pa1, Pb1, (DOS (l.take 20))⟩ : IXS).F o [qv, qw]).length : Int)) rfl (fun hc2 => ?_) (fun hc2 => ?_)
    · skip
      refine WC.skip (thenQ.n ?_)
      refine WC.seq ?_
      refine WC.block ?_
      refine WC.seq ?_
      refine WC.region ?_
      iterate 3 refine WL.lv rfl (LV.mv rfl) ?_
      obtain ⟨A11, c11, e6, g6⟩ := St.elt (SH.rd hL2 (.head _)) (ByteArray.empty, 0) i2 (by omega) (by omega)
      refine WL.lv rfl (LV.idxA Try.underlying38 ti48.sz rfl e6 rfl (by omega) (by omega)) ?_
      refine WL.lv rfl (LV.loadAgg (cs := [(.string (((ALLF (⟨b2, m1, m2, kv1, kw1, Pa1, Pb1, (DOS (l.take 20))⟩ : IXS).F o [qv, qw]).getD (i2).toNat (ByteArray.empty, 0)).1)), (.int .i64 (((ALLF (⟨b2, m1, m2, kv1, kw1, Pa1, Pb1, (DOS (l.take 20))⟩ : IXS).F o [qv, qw]).getD (i2).toNat (ByteArray.empty, 0)).2))]) Try.underlying48 rfl ti48 rfl rfl (fun j u hu => g6 _ (KB.refl No _) j u hu)) ?_
      have hz7 := Calls.asB (w := w10) (rin_calls (h := ((ALLF (⟨b2, m1, m2, kv1, kw1, Pa1, Pb1, (DOS (l.take 20))⟩ : IXS).F o [qv, qw]).getD (i2).toNat (ByteArray.empty, 0))) (SH.rd hL2 (.tail _ (.tail _ (.tail _ (.tail _ (.head _)))))) rfl ) (decide_eq_true ((all2_mem.1 (getD_mem (d := (ByteArray.empty, 0)) (by omega))).1)) 
      refine WL.call rfl (XC.fn Try.func17 (by kernel_rfl) rfl rfl rfl) (hz7) ?_
      rintro v_ w11 ⟨rfl, hk4⟩
      have hS18 := SH.same hL2 hk4
      refine WL.lv rfl (LV.notB rfl) ?_
      iterate 4 refine WL.lv rfl (LV.mv rfl) ?_
      obtain ⟨A12, c12, e7, g7⟩ := St.elt (SH.rd hS18 (.head _)) (ByteArray.empty, 0) i2 (by omega) (by omega)
      refine WL.lv rfl (LV.idxA Try.underlying38 ti48.sz rfl e7 rfl (by omega) (by omega)) ?_
      refine WL.lv rfl (LV.loadAgg (cs := [(.string (((ALLF (⟨b2, m1, m2, kv1, kw1, Pa1, Pb1, (DOS (l.take 20))⟩ : IXS).F o [qv, qw]).getD (i2).toNat (ByteArray.empty, 0)).1)), (.int .i64 (((ALLF (⟨b2, m1, m2, kv1, kw1, Pa1, Pb1, (DOS (l.take 20))⟩ : IXS).F o [qv, qw]).getD (i2).toNat (ByteArray.empty, 0)).2))]) Try.underlying48 rfl ti48 rfl rfl (fun j u hu => g7 _ (KB.refl No _) j u hu)) ?_
      have hz8 := Calls.asB (w := w11) (rin_calls (h := ((ALLF (⟨b2, m1, m2, kv1, kw1, Pa1, Pb1, (DOS (l.take 20))⟩ : IXS).F o [qv, qw]).getD (i2).toNat (ByteArray.empty, 0))) (SH.rd hS18 (.tail _ (.tail _ (.tail _ (.head _))))) rfl ) (decide_eq_true ((all2_mem.1 (getD_mem (d := (ByteArray.empty, 0)) (by omega))).2)) 
      refine WL.call rfl (XC.fn Try.func17 (by kernel_rfl) rfl rfl rfl) (hz8) ?_
      rintro v_ w12 ⟨rfl, hk5⟩
      have hS19 := SH.same hS18 hk5
      refine WL.lv rfl (LV.notB rfl) ?_
      refine WL.lv rfl (LV.pickF rfl rfl) ?_
      refine WL.nil (thenQ.n ?_)
      refine WC.condF rfl ?_
      refine WC.skip (blockQ.n <| thenQ.n ?_)
      refine WC.region ?_
      refine WL.lv rfl (LV.mv rfl) ?_
      refine WL.lv rfl (LV.add rfl rfl (wr64 (by omega) (by omega))) ?_
      refine WL.lv rfl (LV.asg rfl) ?_
      refine WL.nil (thenQ.n ?_)
      exact ⟨_, by omega, i2 + 1, by omega, by omega, hS19, rfl, Weak.cons rfl <| Weak.cons rfl <| Weak.cons rfl <| Weak.cons rfl <| Weak.cons rfl <| Weak.nil _⟩
    · skip
      refine WC.exit (thenQ.x <| thenQ.x <| blockQ.hit <| thenQ.n ?_)
      iterate 2 refine WC.seq ?_
      refine WC.region ?_
      refine WL.lv rfl (LV.asg rfl) ?_
      refine WL.nil (thenQ.n ?_)
      refine WC.block ?_
      refine WC.loop (fun m_ f_ w_ => ∃ (i3 : Int), (0 ≤ i3) ∧ (i3 ≤ ((FIND (⟨b2, m1, m2, kv1, kw1, Pa1, Pb1, (DOS (l.take 20))⟩ : IXS).F (LOW qv) o).length : Int)) ∧ SH w No w_ [rowE eSI 48 (.slice A10 ((ALLF (⟨b2, m1, m2, kv1, kw1, Pa1, Pb1, (DOS (l.take 20))⟩ : IXS).F o [qv, qw]).length) c10) (ALLF (⟨b2, m1, m2, kv1, kw1, Pa1, Pb1, (DOS (l.take 20))⟩ : IXS).F o [qv, qw]), rowE eS 9 (.slice (some ⟨b3, 0, none⟩) 2 2) [qv, qw], rowE eS 9 (.slice A4 ((WRDS (⟨b2, m1, m2, kv1, kw1, Pa1, Pb1, (DOS (l.take 20))⟩ : IXS).F o).length) c4) (WRDS (⟨b2, m1, m2, kv1, kw1, Pa1, Pb1, (DOS (l.take 20))⟩ : IXS).F o), rowE eSI 48 (.slice A3 ((FIND (⟨b2, m1, m2, kv1, kw1, Pa1, Pb1, (DOS (l.take 20))⟩ : IXS).F (LOW qw) o).length) c3) (FIND (⟨b2, m1, m2, kv1, kw1, Pa1, Pb1, (DOS (l.take 20))⟩ : IXS).F (LOW qw) o), rowE eSI 48 (.slice A2 ((FIND (⟨b2, m1, m2, kv1, kw1, Pa1, Pb1, (DOS (l.take 20))⟩ : IXS).F (LOW qv) o).length) c2) (FIND (⟨b2, m1, m2, kv1, kw1, Pa1, Pb1, (DOS (l.take 20))⟩ : IXS).F (LOW qv) o), blkE b2 71 #[(.map (some m1)), (.map (some m2))], mapG kS kV m1 kv1, mapG kS kV m2 kw1, insE idS eIt 64 Pa1, insE idS eSI 73 Pb1, blkE yb1 52 #[(.slice A1 rs1.length c1)], rowE eSV 54 (.slice A1 rs1.length c1) rs1, insE idS eIt 64 Pc1, blkE b1 25 #[(.int .i64 ((o).1)), (.int .u64 ((o).2))]] ∧ m_ = ((((FIND (⟨b2, m1, m2, kv1, kw1, Pa1, Pb1, (DOS (l.take 20))⟩ : IXS).F (LOW qv) o).length : Int) - i3).toNat) ∧ Weak (lit [(12, (.slice A2 ((FIND (⟨b2, m1, m2, kv1, kw1, Pa1, Pb1, (DOS (l.take 20))⟩ : IXS).F (LOW qv) o).length) c2)), (13, (.slice A3 ((FIND (⟨b2, m1, m2, kv1, kw1, Pa1, Pb1, (DOS (l.take 20))⟩ : IXS).F (LOW qw) o).length) c3)), (15, (.bool known)), (17, (.slice A10 ((ALLF (⟨b2, m1, m2, kv1, kw1, Pa1, Pb1, (DOS (l.take 20))⟩ : IXS).F o [qv, qw]).length) c10)), (19, (.int .i64 i3))]) f_) _ ⟨0, by omega, by omega, hL2, rfl, Weak.cons rfl <| Weak.cons rfl <| Weak.cons rfl <| Weak.cons rfl <| Weak.cons rfl <| Weak.nil _⟩ ?_
      rintro m5 f3 w13 ⟨i3, i3lo, i3hi, hL3, rfl, hw3⟩
      refine WC.weak hw3 ?_
      clear hw3
      iterate 2 refine WC.seq ?_
      refine WC.region ?_
      iterate 2 refine WL.lv rfl (LV.mv rfl) ?_
      refine WL.lv rfl (LV.lenL Try.underlying38 rfl) ?_
      refine WL.lv rfl (LV.ltI rfl rfl) ?_
      refine WL.nil (thenQ.n ?_)
      refine WC.condP (p := i3 < ((FIND (⟨b2, m1, m2, kv1, kw1, Pa1, Pb1, (DOS (l.take 20))⟩ : IXS).F (LOW qv) o).length : Int)) rfl (fun hc3 => ?_) (fun hc3 => ?_)
      · skip
        refine WC.skip (thenQ.n ?_)
        refine WC.seq ?_
        refine WC.block ?_
        refine WC.seq ?_
        refine WC.region ?_
        iterate 3 refine WL.lv rfl (LV.mv rfl) ?_
        obtain ⟨A13, c13, e8, g8⟩ := St.elt (SH.rd hL3 (.tail _ (.tail _ (.tail _ (.tail _ (.head _)))))) (ByteArray.empty, 0) i3 (by omega) (by omega)
        refine WL.lv rfl (LV.idxA Try.underlying38 ti48.sz rfl e8 rfl (by omega) (by omega)) ?_
        refine WL.lv rfl (LV.loadAgg (cs := [(.string (((FIND (⟨b2, m1, m2, kv1, kw1, Pa1, Pb1, (DOS (l.take 20))⟩ : IXS).F (LOW qv) o).getD (i3).toNat (ByteArray.empty, 0)).1)), (.int .i64 (((FIND (⟨b2, m1, m2, kv1, kw1, Pa1, Pb1, (DOS (l.take 20))⟩ : IXS).F (LOW qv) o).getD (i3).toNat (ByteArray.empty, 0)).2))]) Try.underlying48 rfl ti48 rfl rfl (fun j u hu => g8 _ (KB.refl No _) j u hu)) ?_
        rcases Decidable.em (((FIND (⟨b2, m1, m2, kv1, kw1, Pa1, Pb1, (DOS (l.take 20))⟩ : IXS).F (LOW qv) o).getD (i3).toNat (ByteArray.empty, 0)) ∈ (FIND (⟨b2, m1, m2, kv1, kw1, Pa1, Pb1, (DOS (l.take 20))⟩ : IXS).F (LOW qw) o)) with hin | hin
        · have hz9 := Calls.asB (w := w13) (rin_calls (h := ((FIND (⟨b2, m1, m2, kv1, kw1, Pa1, Pb1, (DOS (l.take 20))⟩ : IXS).F (LOW qv) o).getD (i3).toNat (ByteArray.empty, 0))) (SH.rd hL3 (.tail _ (.tail _ (.tail _ (.head _))))) rfl ) (decide_eq_true (hin)) 
          refine WL.call rfl (XC.fn Try.func17 (by kernel_rfl) rfl rfl rfl) (hz9) ?_
          rintro v_ w14 ⟨rfl, hk6⟩
          have hS20 := SH.same hL3 hk6
          iterate 4 refine WL.lv rfl (LV.mv rfl) ?_
          obtain ⟨A14, c14, e9, g9⟩ := St.elt (SH.rd hS20 (.tail _ (.tail _ (.tail _ (.tail _ (.head _)))))) (ByteArray.empty, 0) i3 (by omega) (by omega)
          refine WL.lv rfl (LV.idxA Try.underlying38 ti48.sz rfl e9 rfl (by omega) (by omega)) ?_
          refine WL.lv rfl (LV.loadAgg (cs := [(.string (((FIND (⟨b2, m1, m2, kv1, kw1, Pa1, Pb1, (DOS (l.take 20))⟩ : IXS).F (LOW qv) o).getD (i3).toNat (ByteArray.empty, 0)).1)), (.int .i64 (((FIND (⟨b2, m1, m2, kv1, kw1, Pa1, Pb1, (DOS (l.take 20))⟩ : IXS).F (LOW qv) o).getD (i3).toNat (ByteArray.empty, 0)).2))]) Try.underlying48 rfl ti48 rfl rfl (fun j u hu => g9 _ (KB.refl No _) j u hu)) ?_
          have hz10 := Calls.asB (w := w14) (rin_calls (h := ((FIND (⟨b2, m1, m2, kv1, kw1, Pa1, Pb1, (DOS (l.take 20))⟩ : IXS).F (LOW qv) o).getD (i3).toNat (ByteArray.empty, 0))) (SH.rd hS20 (.head _)) rfl ) (decide_eq_true (all2_mem.2 ⟨getD_mem (d := (ByteArray.empty, 0)) (by omega), hin⟩)) 
          refine WL.call rfl (XC.fn Try.func17 (by kernel_rfl) rfl rfl rfl) (hz10) ?_
          rintro v_ w15 ⟨rfl, hk7⟩
          have hS21 := SH.same hS20 hk7
          refine WL.lv rfl (LV.notB rfl) ?_
          refine WL.lv rfl (LV.pickT rfl rfl) ?_
          refine WL.nil (thenQ.n ?_)
          refine WC.condF rfl ?_
          refine WC.skip (blockQ.n <| thenQ.n ?_)
          refine WC.region ?_
          refine WL.lv rfl (LV.mv rfl) ?_
          refine WL.lv rfl (LV.add rfl rfl (wr64 (by omega) (by omega))) ?_
          refine WL.lv rfl (LV.asg rfl) ?_
          refine WL.nil (thenQ.n ?_)
          exact ⟨_, by omega, i3 + 1, by omega, by omega, hS21, rfl, Weak.cons rfl <| Weak.cons rfl <| Weak.cons rfl <| Weak.cons rfl <| Weak.cons rfl <| Weak.nil _⟩
        · have hz11 := Calls.asB (w := w13) (rin_calls (h := ((FIND (⟨b2, m1, m2, kv1, kw1, Pa1, Pb1, (DOS (l.take 20))⟩ : IXS).F (LOW qv) o).getD (i3).toNat (ByteArray.empty, 0))) (SH.rd hL3 (.tail _ (.tail _ (.tail _ (.head _))))) rfl ) (decide_eq_false (hin)) 
          refine WL.call rfl (XC.fn Try.func17 (by kernel_rfl) rfl rfl rfl) (hz11) ?_
          rintro v_ w16 ⟨rfl, hk8⟩
          have hS22 := SH.same hL3 hk8
          refine WL.lv rfl (LV.mv rfl) ?_
          iterate 7 refine WL.off rfl ?_
          refine WL.lv rfl (LV.pickF rfl rfl) ?_
          refine WL.nil (thenQ.n ?_)
          refine WC.condF rfl ?_
          refine WC.skip (blockQ.n <| thenQ.n ?_)
          refine WC.region ?_
          refine WL.lv rfl (LV.mv rfl) ?_
          refine WL.lv rfl (LV.add rfl rfl (wr64 (by omega) (by omega))) ?_
          refine WL.lv rfl (LV.asg rfl) ?_
          refine WL.nil (thenQ.n ?_)
          exact ⟨_, by omega, i3 + 1, by omega, by omega, hS22, rfl, Weak.cons rfl <| Weak.cons rfl <| Weak.cons rfl <| Weak.cons rfl <| Weak.cons rfl <| Weak.nil _⟩
      · skip
        refine WC.exit (thenQ.x <| thenQ.x <| blockQ.hit <| thenQ.n ?_)
        refine WC.seq ?_
        refine WC.region ?_
        have hz12 := live_calls (w := w13) 
        refine WL.call rfl (XC.fn Try.func9 (by kernel_rfl) rfl rfl rfl) (hz12) ?_
        rintro v_ w17 ⟨rfl, hk9⟩
        have hS23 := SH.same hL3 hk9
        iterate 3 refine WL.lv rfl (LV.mv rfl) ?_
        refine WL.lv rfl (LV.lenL Try.underlying38 rfl) ?_
        refine WL.lv rfl (LV.gtI rfl rfl) ?_
        refine WL.lv rfl (LV.as (c := true) (LV.eqB Try.underlying4 rfl rfl) (kn_end (by omega) q1 rfl)) ?_
        refine WL.lv rfl (LV.pickT rfl rfl) ?_
        refine WL.lv rfl (LV.asg rfl) ?_
        refine WL.nil (thenQ.n ?_)
        refine WC.ret (?_)
        exact ⟨_, fun a ha => res1 rfl ha rfl, rfl, hS23.kb⟩

end Go.Proofs.Ytigbphaimbhgjaa

namespace Go.Idx
open Go Go.Gv Go.Wds Go.Tly
def CUTF (o : Lb) (F : List Fl) : List Fl := F.map fun f => (f.1, CUTL f.2 o)
section
variable {F : List Fl} {o : Lb} {q fl : ByteArray} {l : List Itm}
theorem cutf_wof : CUTF o (WOF F fl) = WOF (CUTF o F) fl := by
  unfold CUTF WOF
  rw [List.filter_map]; rfl
theorem cutf_put : CUTF o (PUTF fl l F) = PUTF fl (CUTL l o) (CUTF o F) := by
  induction F with
  | nil => rfl
  | cons g F ih =>
    unfold CUTF at ih ⊢
    rw [PUTF, List.map_cons, PUTF]
    by_cases h1 : ltB g.1 fl
    · rw [if_pos h1, if_pos h1, List.map_cons, ih]
    · rw [if_neg h1, if_neg h1]
      by_cases h2 : g.1 = fl
      · rw [if_pos h2, if_pos h2, List.map_cons]
      · rw [if_neg h2, if_neg h2, List.map_cons, List.map_cons]
theorem cutl_cons (y : Itm) (l : List Itm) : CUTL (y :: l) o = if BEL y.2.1 o then y :: CUTL l o else CUTL l o := by
  unfold CUTL
  rw [List.filter_cons]
  by_cases h : BEL y.2.1 o
  · rw [if_pos (by simpa using h), if_pos h]
  · rw [if_neg (by simpa using h), if_neg h]
theorem fni_cut (f : ByteArray) : ∀ (n : Int) (l : List Itm), FNI f q o n (CUTL l o) = FNI f q o n l
  | _, [] => rfl
  | n, y :: l => by
    rw [cutl_cons, FNI]
    by_cases h : BEL y.2.1 o
    · rw [if_pos h, if_pos h, FNI, if_pos h, fni_cut f (n + 1) l]
    · rw [if_neg h, if_neg h, fni_cut f n l]
theorem find_cut : FIND (CUTF o F) q o = FIND F q o := by
  unfold FIND CUTF
  rw [List.flatMap_map]
  congr 1
  funext f
  exact fni_cut f.1 0 f.2
theorem wrds_cut : WRDS (CUTF o F) o = WRDS F o := wrds_of (wrds_ss _ o) fun a => by rw [wrds_mem, find_cut]
theorem fls_cut : FLS (CUTF o F) o = FLS F o := by
  unfold FLS CUTF
  rw [List.filter_map, List.map_map]
  have : F.filter ((fun f : Fl => decide (∃ y ∈ f.2, BEL y.2.1 o)) ∘ fun f => (f.1, CUTL f.2 o)) = F.filter fun f => decide (∃ y ∈ f.2, BEL y.2.1 o) := by
    refine List.filter_congr fun f _ => decide_eq_decide.2 ?_
    show (∃ y ∈ CUTL f.2 o, BEL y.2.1 o) ↔ _
    unfold CUTL
    constructor
    · rintro ⟨y, hy, h⟩; exact ⟨y, (List.mem_filter.1 hy).1, h⟩
    · rintro ⟨y, hy, h⟩; exact ⟨y, List.mem_filter.2 ⟨hy, by simpa using h⟩, h⟩
  rw [this]; rfl
/-- The deeds, each without what is not below a label. -/
abbrev CDL := List (Bool × ByteArray × List Itm)
def CUTD (o : Lb) (l : DDS) : CDL := l.filterMap fun d => if FINE d.2 then some (d.1.1, d.1.2.1, CUTL (d.2.take 20) o) else none
def DOSC (l : CDL) : List Fl := l.foldl (fun F d => DO F d.1 d.2.1 d.2.2) []
theorem fine_cut (h : FINE l) : FINE (CUTL (l.take 20) o) ∧ (CUTL (l.take 20) o).take 20 = CUTL (l.take 20) o := by
  have hlen : (CUTL (l.take 20) o).length ≤ 20 := by
    unfold CUTL
    exact Nat.le_trans (List.length_filter_le _ _) (by rw [List.length_take]; omega)
  have e := List.take_of_length_le hlen
  refine ⟨fun y hy => ?_, e⟩
  rw [e] at hy
  unfold CUTL at hy
  exact h y (List.mem_filter.1 hy).1
theorem do_cut (F : List Fl) {dr : Bool} (h : FINE l) : DO (CUTF o F) dr fl (CUTL (l.take 20) o) = CUTF o (DO F dr fl l) := by
  obtain ⟨h1, h2⟩ := fine_cut (o := o) h
  unfold DO
  rw [if_pos h1, if_pos h, h2]
  split
  · rw [cutf_wof]
  · split
    · rw [cutf_put]
    · rfl
theorem dos_cut (l : DDS) : DOSC (CUTD o l) = CUTF o (DOS l) := by
  have key : ∀ (l : DDS) (F : List Fl), (CUTD o l).foldl (fun F d => DO F d.1 d.2.1 d.2.2) (CUTF o F) = CUTF o (l.foldl DOD F) := by
    intro l
    induction l with
    | nil => intro F; rfl
    | cons d l ih =>
      intro F
      unfold CUTD at ih ⊢
      rw [List.filterMap_cons, List.foldl_cons]
      by_cases h : FINE d.2
      · simp only [if_pos h]
        rw [List.foldl_cons]
        show List.foldl _ (DO (CUTF o F) d.1.1 d.1.2.1 (CUTL (d.2.take 20) o)) _ = _
        rw [do_cut F h, ih]
        rfl
      · simp only [if_neg h]
        rw [ih]
        have : DOD F d = F := do_bad h
        rw [this]
  exact key l []
theorem cutd_at {l : DDS} {i : Int} (h0 : 0 ≤ i) (h1 : i < l.length) : CUTD o (l.take (i + 1).toNat) = CUTD o (l.take i.toNat) ++ (if FINE (l.getD i.toNat dDI).2 then [((l.getD i.toNat dDI).1.1, (l.getD i.toNat dDI).1.2.1, CUTL ((l.getD i.toNat dDI).2.take 20) o)] else []) := by
  unfold CUTD
  rw [Num.take_more dDI h0 h1, List.filterMap_append]
  congr 1
  by_cases h : FINE (l.getD i.toNat dDI).2
  · simp only [List.filterMap_cons, if_pos h, List.filterMap_nil]
  · simp only [List.filterMap_cons, if_neg h, List.filterMap_nil]
/-- Deeds of one's own, as the law tells them. -/
def PLD (L : DDS) : CDL := L.map fun d => (d.1.1, d.1.2.1, d.2)
theorem dosc_pld (L : DDS) : DOSC (PLD L) = DOS L := by
  unfold DOSC PLD DOS
  rw [List.foldl_map]; rfl
end
end Go.Idx
namespace Go.Idx
open Go Go.Gv Go.Wds Go.Tly
section
variable {o : Lb} {l L L2 : DDS} {i : Int} {d : DD} {xs : List Itm}
theorem cut_yes (h0 : 0 ≤ i) (h1 : i < l.length) (hf : FINE (l.getD i.toNat dDI).2) (q : PLD L = CUTD o (l.take i.toNat)) (e : L2 = L ++ [(d, xs)]) (e1 : d.1 = (l.getD i.toNat dDI).1.1) (e2 : d.2.1 = (l.getD i.toNat dDI).1.2.1) (e3 : xs = CUTL ((l.getD i.toNat dDI).2.take 20) o) : PLD L2 = CUTD o (l.take (i + 1).toNat) := by
  rw [cutd_at h0 h1, if_pos hf, ← q, e, ← e1, ← e2, ← e3]
  unfold PLD; rw [List.map_append]; rfl
theorem cut_no (h0 : 0 ≤ i) (h1 : i < l.length) (hf : ¬ FINE (l.getD i.toNat dDI).2) (q : PLD L = CUTD o (l.take i.toNat)) : PLD L = CUTD o (l.take (i + 1).toNat) := by
  rw [cutd_at h0 h1, if_neg hf, ← q, List.append_nil]
end
end Go.Idx
namespace Go.Idx
open Go Go.Gv Go.Wds Go.Tly
section
variable {o : Lb} {l L : DDS} {i : Int}
theorem cut_from (q : PLD L = CUTD o (l.take i.toNat)) {d : DD × List Itm} (hd : d ∈ L) : ∃ e ∈ l, d.1.2.1 = e.1.2.1 ∧ ∀ y ∈ d.2, y ∈ e.2 := by
  have h1 : (d.1.1, d.1.2.1, d.2) ∈ PLD L := List.mem_map.2 ⟨d, hd, rfl⟩
  rw [q] at h1
  obtain ⟨e, he, h2⟩ := List.mem_filterMap.1 h1
  split at h2
  · injection h2 with h2
    injection h2 with _ h2
    injection h2 with h3 h4
    refine ⟨e, List.mem_of_mem_take he, h3.symm, fun y hy => ?_⟩
    rw [← h4] at hy
    unfold CUTL at hy
    exact List.mem_of_mem_take (List.mem_filter.1 hy).1
  · cases h2
theorem cut_size (hz : ∀ d ∈ l, d.1.2.1.size ≤ 140737488355328) (q : PLD L = CUTD o (l.take i.toNat)) : ∀ d ∈ L, d.1.2.1.size ≤ 140737488355328 := fun d hd => by
  obtain ⟨e, he, h, _⟩ := cut_from q hd
  rw [h]; exact hz e he
theorem cut_wl (hy : ∀ d ∈ l, ∀ y ∈ d.2, 0 ≤ y.2.1.2 ∧ y.2.1.2 < 18446744073709551616) (q : PLD L = CUTD o (l.take i.toNat)) : ∀ d ∈ L, ∀ y ∈ d.2, 0 ≤ y.2.1.2 ∧ y.2.1.2 < 18446744073709551616 := fun d hd y hyd => by
  obtain ⟨e, he, _, h⟩ := cut_from q hd
  exact hy e he y (h y hyd)
theorem blind_dos (hi : i ≤ l.length ∧ i ≤ 20) (he : ¬ i < l.length ∨ ¬ i < 20) (q : PLD L = CUTD o (l.take i.toNat)) (qn : (L.length : Int) ≤ i) : DOS (L.take 20) = CUTF o (DOS (l.take 20)) := by
  have h1 : l.take i.toNat = l.take 20 := by
    rcases Int.lt_or_le i 20 with h_ | h_
    · rw [List.take_of_length_le (by omega), List.take_of_length_le (by omega)]
    · rw [show i.toNat = 20 by omega]
  rw [List.take_of_length_le (l := L) (by omega), ← dosc_pld, q, h1, dos_cut]
end
end Go.Idx

