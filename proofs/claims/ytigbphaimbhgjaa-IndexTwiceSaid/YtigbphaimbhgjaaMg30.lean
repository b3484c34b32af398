/- The law of words. -/
import Derived.Test.YtigbphaimbhgjaaMg29
import Derived.Test.YtigbphaimbhgjaaRows
import Derived.Test.YtigbphaimbhgjaaMg3
import Derived.WalkKit
import Derived.ProofKit
import Derived.OpenShut
import Derived.ShutString
import Derived.ChangeOld
import Derived.Below
import Derived.SizedLaws
namespace Go.Proofs.Ytigbphaimbhgjaa
open Go Go.Gv Go.RowKit Go.Tly Go.Wds Go.Idx
set_option linter.unusedVariables false
set_option linter.unusedSimpArgs false

attribute [local irreducible] Go.Idx.PUTF Go.Idx.FIND Go.Idx.WRDS Go.Idx.FLS Go.Idx.OF Go.Idx.LOW Go.Idx.DOS Go.Idx.ALLF Go.Idx.WOF

set_option maxHeartbeats 4000000 in
set_option maxRecDepth 100000 in
theorem indexWords_law {w : World} {A_l : Option Addr} {n_l c_l : Nat} {l : DDS} {qv qw : ByteArray} {o : Lb} (h_l : St No w (Rd eDd (.slice A_l n_l c_l) (DLS l))) (hi_l : St No w (RdIn ddS eIt l)) (hn_l : l.length = n_l) (hz_l : ∀ d ∈ l, d.1.2.1.size ≤ 140737488355328) (hy_l : ∀ d ∈ l, ∀ y ∈ d.2, 0 ≤ y.2.1.2 ∧ y.2.1.2 < 18446744073709551616) (hsv : qv.size ≤ 140737488355328) (hsw : qw.size ≤ 140737488355328) (wo : 0 ≤ o.2 ∧ o.2 < 18446744073709551616) :
    Calls Try.prog 4 #[(.slice A_l n_l c_l), (.string qv), (.string qw), (.agg #[(.int .i64 ((o).1)), (.int .u64 ((o).2))])] w fun e w' => ∃ v, e = .returned v ∧ (fun v w' => v = .bool true ∧ KB No w w') v w' := by
  subst hn_l
  have hS : SH w No w [] := SH.nil _ _
  refine calls (l := litOf [(.slice A_l l.length c_l), (.string qv), (.string qw), (.agg #[(.int .i64 ((o).1)), (.int .u64 ((o).2))])] 0) Try.func4 rfl (n := 126) rfl (Nat.le_of_ble_eq_true rfl) (lit_args _) ?_
  refine WC.seq ?_
  refine WC.region ?_
  refine WL.xe rfl (XE.box #[(.int .i64 ((o).1)), (.int .u64 ((o).2))] hS rfl rfl) ?_
  rintro _ w1 ⟨b1, rfl, hS1, hk1⟩
  refine WL.lv rfl (LV.asg rfl) ?_
  refine WL.nil (thenQ.n ?_)
  refine WC.seq ?_
  refine WC.region ?_
  refine WL.lv rfl (LV.mv rfl) ?_
  have hz1 := play_calls (w := w1) (l := l) (SH.stN hS1 h_l) (SH.stN hS1 hi_l) rfl hz_l hy_l 
  refine WL.call rfl (XC.fn Try.func6 (by kernel_rfl) rfl rfl rfl) (hz1) ?_
  rintro v_ w2 ⟨b2, m1, m2, kv1, kw1, Pa1, Pb1, yb1, A1, c1, rs1, Pc1, rfl, hv1, hD1, hS2⟩
  have hS3 := SH.joinN hS1 hS2
  refine WL.lv rfl (LV.mv rfl) ?_
  iterate 3 refine WL.lv rfl (LV.extract rfl rfl) ?_
  iterate 3 refine WL.lv rfl (LV.asg rfl) ?_
  refine WL.nil (thenQ.n ?_)
  iterate 2 refine WC.seq ?_
  refine WC.region ?_
  refine WL.lv rfl (LV.mv rfl) ?_
  refine WL.lv rfl (LV.notB rfl) ?_
  refine WL.nil (thenQ.n ?_)
  refine WC.condF rfl ?_
  refine WC.skip (thenQ.n ?_)
  refine WC.seq ?_
  have hS4 := SH.drew hS3
  refine WC.regionD [] (fun w_ => KB No w2.drew w_) [(.pure, 0), (.pure, 1), (.look, 2), (.pure, 4), (.pure, 5), (.look, 6), (.forced, 3), (.forced, 7), (.pure, 8), (.pure, 9)] (by kernel_rfl) (by kernel_rfl) (KB.refl _ _) ?_
  iterate 2 refine WS.pure rfl rfl (fun _ => LV.mv rfl) ?_
  refine WS.look rfl rfl (fun _ hk_ => LV.loadAgg (cs := [(.int .i64 ((o).1)), (.int .u64 ((o).2))]) Try.underlying25 rfl ti25 rfl rfl (Blk.agg (SH.at hS4 (.tail _ (.tail _ (.tail _ (.tail _ (.tail _ (.tail _ (.tail _ (.tail _ (.head _)))))))))) _ hk_)) ?_
  iterate 2 refine WS.pure rfl rfl (fun _ => LV.mv rfl) ?_
  refine WS.look rfl rfl (fun _ hk_ => LV.loadAgg (cs := [(.int .i64 ((o).1)), (.int .u64 ((o).2))]) Try.underlying25 rfl ti25 rfl rfl (Blk.agg (SH.at hS4 (.tail _ (.tail _ (.tail _ (.tail _ (.tail _ (.tail _ (.tail _ (.tail _ (.head _)))))))))) _ hk_)) ?_
  have hz2 := find_calls (w := w2.drew) (word := qv) (o := o) (SH.ixr5 (T1 := 64) (T2 := 73) (X := (⟨b2, m1, m2, kv1, kw1, Pa1, Pb1, (DOS (l.take 20))⟩ : IXS)) hS4 (.head _) (.tail _ (.head _)) (.tail _ (.tail _ (.head _))) (.tail _ (.tail _ (.tail _ (.head _)))) (.tail _ (.tail _ (.tail _ (.tail _ (.head _)))))) hv1 (by omega) (hsv) (wo) 
  refine WS.call rfl rfl (XC.fn Try.func11 (by kernel_rfl) rfl rfl rfl) (hz2) ?_
  rintro v_ w3 ⟨A2, c2, rfl, hS5⟩
  have hS6 := SH.joinN hS4 hS5
  refine ⟨fun h_ => (KB.transN (KB.refl _ _) hS5.kb), ?_⟩
  have hz3 := find_calls (w := w3) (word := qw) (o := o) (SH.ixr5 (T1 := 64) (T2 := 73) (X := (⟨b2, m1, m2, kv1, kw1, Pa1, Pb1, (DOS (l.take 20))⟩ : IXS)) hS6 (.tail _ (.head _)) (.tail _ (.tail _ (.head _))) (.tail _ (.tail _ (.tail _ (.head _)))) (.tail _ (.tail _ (.tail _ (.tail _ (.head _))))) (.tail _ (.tail _ (.tail _ (.tail _ (.tail _ (.head _))))))) hv1 (by omega) (hsw) (wo) 
  refine WS.call rfl rfl (XC.fn Try.func11 (by kernel_rfl) rfl rfl rfl) (hz3) ?_
  rintro v_ w4 ⟨A3, c3, rfl, hS7⟩
  have hS8 := SH.joinN hS6 hS7
  refine ⟨fun h_ => (KB.transN (KB.transN (KB.refl _ _) hS5.kb) hS7.kb), ?_⟩
  iterate 2 refine WS.pure rfl rfl (fun _ => LV.asg rfl) ?_
  refine WS.nil (thenQ.n ?_)
  refine WC.seq ?_
  refine WC.region ?_
  refine WL.lv rfl (LV.mv rfl) ?_
  refine WL.lv rfl (LV.loadAgg (cs := [(.int .i64 ((o).1)), (.int .u64 ((o).2))]) Try.underlying25 rfl ti25 rfl rfl (Blk.agg (SH.at hS8 (.tail _ (.tail _ (.tail _ (.tail _ (.tail _ (.tail _ (.tail _ (.tail _ (.tail _ (.tail _ (.head _)))))))))))) _ (KB.refl No _))) ?_
  have hz4 := words_calls (w := w4) (o := o) (SH.ixr5 (T1 := 64) (T2 := 73) (X := (⟨b2, m1, m2, kv1, kw1, Pa1, Pb1, (DOS (l.take 20))⟩ : IXS)) hS8 (.tail _ (.tail _ (.head _))) (.tail _ (.tail _ (.tail _ (.head _)))) (.tail _ (.tail _ (.tail _ (.tail _ (.head _))))) (.tail _ (.tail _ (.tail _ (.tail _ (.tail _ (.head _)))))) (.tail _ (.tail _ (.tail _ (.tail _ (.tail _ (.tail _ (.head _)))))))) hv1 (by omega) (wo) 
  refine WL.call rfl (XC.fn Try.func13 (by kernel_rfl) rfl rfl rfl) (hz4) ?_
  rintro v_ w5 ⟨A4, c4, rfl, hS9⟩
  have hS10 := SH.joinN hS8 hS9
  have hfv_ := find_len hv1 (LOW qv) o
  have hwl_ := wrds_len hv1 (by omega) o
  refine WL.lv rfl (LV.asg rfl) ?_
  refine WL.nil (thenQ.n ?_)
  refine WC.seq ?_
  refine WC.region ?_
  refine WL.lv rfl (LV.asg rfl) ?_
  refine WL.nil (thenQ.n ?_)
  iterate 2 refine WC.seq ?_
  refine WC.region ?_
  refine WL.lv rfl (LV.asg rfl) ?_
  refine WL.nil (thenQ.n ?_)
  refine WC.block ?_
  refine WC.loop (fun m_ f_ w_ => ∃ (known : Bool) (i : Int), (0 ≤ i) ∧ (i ≤ ((WRDS (⟨b2, m1, m2, kv1, kw1, Pa1, Pb1, (DOS (l.take 20))⟩ : IXS).F o).length : Int)) ∧ (known = true ↔ LOW qv ∈ (WRDS (⟨b2, m1, m2, kv1, kw1, Pa1, Pb1, (DOS (l.take 20))⟩ : IXS).F o).take i.toNat) ∧ SH w No w_ [rowE eS 9 (.slice A4 ((WRDS (⟨b2, m1, m2, kv1, kw1, Pa1, Pb1, (DOS (l.take 20))⟩ : IXS).F o).length) c4) (WRDS (⟨b2, m1, m2, kv1, kw1, Pa1, Pb1, (DOS (l.take 20))⟩ : IXS).F o), rowE eSI 48 (.slice A3 ((FIND (⟨b2, m1, m2, kv1, kw1, Pa1, Pb1, (DOS (l.take 20))⟩ : IXS).F (LOW qw) o).length) c3) (FIND (⟨b2, m1, m2, kv1, kw1, Pa1, Pb1, (DOS (l.take 20))⟩ : IXS).F (LOW qw) o), rowE eSI 48 (.slice A2 ((FIND (⟨b2, m1, m2, kv1, kw1, Pa1, Pb1, (DOS (l.take 20))⟩ : IXS).F (LOW qv) o).length) c2) (FIND (⟨b2, m1, m2, kv1, kw1, Pa1, Pb1, (DOS (l.take 20))⟩ : IXS).F (LOW qv) o), blkE b2 71 #[(.map (some m1)), (.map (some m2))], mapG kS kV m1 kv1, mapG kS kV m2 kw1, insE idS eIt 64 Pa1, insE idS eSI 73 Pb1, blkE yb1 52 #[(.slice A1 rs1.length c1)], rowE eSV 54 (.slice A1 rs1.length c1) rs1, insE idS eIt 64 Pc1, blkE b1 25 #[(.int .i64 ((o).1)), (.int .u64 ((o).2))]] ∧ m_ = ((((WRDS (⟨b2, m1, m2, kv1, kw1, Pa1, Pb1, (DOS (l.take 20))⟩ : IXS).F o).length : Int) - i).toNat) ∧ Weak (lit [(1, (.string qv)), (2, (.string qw)), (7, (.pointer (some ⟨b1, 0, none⟩))), (9, (.pointer (some ⟨b2, 0, none⟩))), (12, (.slice A2 ((FIND (⟨b2, m1, m2, kv1, kw1, Pa1, Pb1, (DOS (l.take 20))⟩ : IXS).F (LOW qv) o).length) c2)), (13, (.slice A3 ((FIND (⟨b2, m1, m2, kv1, kw1, Pa1, Pb1, (DOS (l.take 20))⟩ : IXS).F (LOW qw) o).length) c3)), (14, (.slice A4 ((WRDS (⟨b2, m1, m2, kv1, kw1, Pa1, Pb1, (DOS (l.take 20))⟩ : IXS).F o).length) c4)), (15, (.bool known)), (16, (.int .i64 i))]) f_) _ ⟨false, 0, by omega, by omega, (by simp), hS10, rfl, Weak.cons rfl <| Weak.cons rfl <| Weak.cons rfl <| Weak.cons rfl <| Weak.cons rfl <| Weak.cons rfl <| Weak.cons rfl <| Weak.cons rfl <| Weak.cons rfl <| Weak.nil _⟩ ?_
  rintro m3 f1 w6 ⟨known, i, ilo, ihi, q1, hL1, rfl, hw1⟩
  refine WC.weak hw1 ?_
  clear hw1
  iterate 2 refine WC.seq ?_
  refine WC.region ?_
  iterate 2 refine WL.lv rfl (LV.mv rfl) ?_
  refine WL.lv rfl (LV.lenL Try.underlying41 rfl) ?_
  refine WL.lv rfl (LV.ltI rfl rfl) ?_
  refine WL.nil (thenQ.n ?_)
  refine WC.condP (p := i < ((WRDS (⟨b2, m1, m2, kv1, kw1, Pa1, Pb1, (DOS (l.take 20))⟩ : IXS).F o).length : Int)) rfl (fun hc1 => ?_) (fun hc1 => ?_)
  · skip
    refine WC.skip (thenQ.n ?_)
    refine WC.seq ?_
    refine WC.block ?_
    refine WC.seq ?_
    have hS11 := SH.drew hL1
    refine WC.regionD [] (fun w_ => KB No w6.drew w_) [(.pure, 0), (.pure, 1), (.pure, 2), (.pure, 3), (.pure, 4), (.look, 5), (.pure, 6), (.forced, 7), (.pure, 8), (.pure, 9), (.pure, 10)] (by kernel_rfl) (by kernel_rfl) (KB.refl _ _) ?_
    rcases Bool.eq_false_or_eq_true (known) with hg1 | hg1
    · refine WS.pure rfl rfl (fun _ => LV.as (c := true) (LV.mv rfl) hg1) ?_
      refine WS.pure rfl rfl (fun _ => LV.mv rfl) ?_
      iterate 3 refine WS.off rfl rfl ?_
      refine WS.offL rfl rfl ?_
      refine WS.off rfl rfl ?_
      refine WS.offF rfl rfl (fun h_ => (KB.refl _ _)) ?_
      refine WS.off rfl rfl ?_
      refine WS.pure rfl rfl (fun _ => LV.pickT rfl rfl) ?_
      refine WS.pure rfl rfl (fun _ => LV.asg rfl) ?_
      refine WS.nil (thenQ.n ?_)
      refine WC.seq ?_
      have hS12 := SH.drew hS11
      refine WC.regionD [] (fun w_ => KB No w6.drew.drew w_) [(.pure, 0), (.pure, 1), (.pure, 2), (.pure, 3), (.pure, 4), (.pure, 5), (.pure, 6), (.look, 7), (.pure, 8), (.pure, 9), (.pure, 10), (.look, 11), (.pure, 12), (.pure, 13)] (by kernel_rfl) (by kernel_rfl) (KB.refl _ _) ?_
      refine WS.pure rfl rfl (fun _ => LV.mv rfl) ?_
      rcases Decidable.em (i > 0) with hg2 | hg2
      · refine WS.pure rfl rfl (fun _ => LV.as (LV.gtI rfl rfl) (decide_eq_true hg2)) ?_
        iterate 3 refine WS.pure rfl rfl (fun _ => LV.mv rfl) ?_
        refine WS.pure rfl rfl (fun _ => LV.sub rfl rfl (wr64 (by omega) (by omega))) ?_
        obtain ⟨A5, c5, e1, g1⟩ := St.elt (SH.rd hS12 (.head _)) ByteArray.empty (i - 1) (by omega) (by omega)
        refine WS.pure rfl rfl (fun _ => LV.idxA Try.underlying41 ti9.sz rfl e1 rfl (by omega) (by omega)) ?_
        refine WS.look rfl rfl (fun _ hk_ => LV.load1 (v := (.string ((WRDS (⟨b2, m1, m2, kv1, kw1, Pa1, Pb1, (DOS (l.take 20))⟩ : IXS).F o).getD (i - 1).toNat ByteArray.empty))) Try.underlying9 rfl rfl (g1 _ hk_ 0 _ rfl)) ?_
        iterate 2 refine WS.pure rfl rfl (fun _ => LV.mv rfl) ?_
        obtain ⟨A6, c6, e2, g2⟩ := St.elt (SH.rd hS12 (.head _)) ByteArray.empty i (by omega) (by omega)
        refine WS.pure rfl rfl (fun _ => LV.idxA Try.underlying41 ti9.sz rfl e2 rfl (by omega) (by omega)) ?_
        refine WS.look rfl rfl (fun _ hk_ => LV.load1 (v := (.string ((WRDS (⟨b2, m1, m2, kv1, kw1, Pa1, Pb1, (DOS (l.take 20))⟩ : IXS).F o).getD (i).toNat ByteArray.empty))) Try.underlying9 rfl rfl (g2 _ hk_ 0 _ rfl)) ?_
        refine WS.pure rfl rfl (fun _ => LV.as (LV.geS (a := ((WRDS (⟨b2, m1, m2, kv1, kw1, Pa1, Pb1, (DOS (l.take 20))⟩ : IXS).F o).getD (i - 1).toNat ByteArray.empty)) (b := ((WRDS (⟨b2, m1, m2, kv1, kw1, Pa1, Pb1, (DOS (l.take 20))⟩ : IXS).F o).getD (i).toNat ByteArray.empty)) rfl rfl) (decide_eq_false (fun h_ => h_ (ss_at (wrds_ss _ o) (by omega) (by omega))))) ?_
        refine WS.pure rfl rfl (fun _ => LV.pickT rfl rfl) ?_
        refine WS.nil (thenQ.n ?_)
        refine WC.condF rfl ?_
        refine WC.skip (blockQ.n <| thenQ.n ?_)
        refine WC.region ?_
        refine WL.lv rfl (LV.mv rfl) ?_
        refine WL.lv rfl (LV.add rfl rfl (wr64 (by omega) (by omega))) ?_
        refine WL.lv rfl (LV.asg rfl) ?_
        refine WL.nil (thenQ.n ?_)
        exact ⟨_, by omega, true, i + 1, by omega, by omega, (kn_yes ilo (by omega) q1 hg1), hS12, rfl, Weak.cons rfl <| Weak.cons rfl <| Weak.cons rfl <| Weak.cons rfl <| Weak.cons rfl <| Weak.cons rfl <| Weak.cons rfl <| Weak.cons rfl <| Weak.cons rfl <| Weak.nil _⟩
      · refine WS.pure rfl rfl (fun _ => LV.as (LV.gtI rfl rfl) (decide_eq_false hg2)) ?_
        refine WS.pure rfl rfl (fun _ => LV.mv rfl) ?_
        iterate 4 refine WS.off rfl rfl ?_
        refine WS.offL rfl rfl ?_
        iterate 3 refine WS.off rfl rfl ?_
        refine WS.offL rfl rfl ?_
        refine WS.off rfl rfl ?_
        refine WS.pure rfl rfl (fun _ => LV.pickF rfl rfl) ?_
        refine WS.nil (thenQ.n ?_)
        refine WC.condF rfl ?_
        refine WC.skip (blockQ.n <| thenQ.n ?_)
        refine WC.region ?_
        refine WL.lv rfl (LV.mv rfl) ?_
        refine WL.lv rfl (LV.add rfl rfl (wr64 (by omega) (by omega))) ?_
        refine WL.lv rfl (LV.asg rfl) ?_
        refine WL.nil (thenQ.n ?_)
        exact ⟨_, by omega, true, i + 1, by omega, by omega, (kn_yes ilo (by omega) q1 hg1), hS12, rfl, Weak.cons rfl <| Weak.cons rfl <| Weak.cons rfl <| Weak.cons rfl <| Weak.cons rfl <| Weak.cons rfl <| Weak.cons rfl <| Weak.cons rfl <| Weak.cons rfl <| Weak.nil _⟩
    · refine WS.pure rfl rfl (fun _ => LV.as (c := false) (LV.mv rfl) hg1) ?_
      iterate 3 refine WS.pure rfl rfl (fun _ => LV.mv rfl) ?_
      obtain ⟨A7, c7, e3, g3⟩ := St.elt (SH.rd hS11 (.head _)) ByteArray.empty i (by omega) (by omega)
      refine WS.pure rfl rfl (fun _ => LV.idxA Try.underlying41 ti9.sz rfl e3 rfl (by omega) (by omega)) ?_
      refine WS.look rfl rfl (fun _ hk_ => LV.load1 (v := (.string ((WRDS (⟨b2, m1, m2, kv1, kw1, Pa1, Pb1, (DOS (l.take 20))⟩ : IXS).F o).getD (i).toNat ByteArray.empty))) Try.underlying9 rfl rfl (g3 _ hk_ 0 _ rfl)) ?_
      refine WS.pure rfl rfl (fun _ => LV.mv rfl) ?_
      have hz5 := rlower_calls (w := w6.drew) (s := qv) (hsv) 
      refine WS.call rfl rfl (XC.fn Try.func15 (by kernel_rfl) rfl rfl rfl) (hz5) ?_
      rintro v_ w7 ⟨rfl, hk2⟩
      have hS13 := SH.same hS11 hk2
      refine ⟨fun h_ => (KB.transN (KB.refl _ _) hk2), ?_⟩
      refine WS.pure rfl rfl (fun _ => LV.eqSP (a := ((WRDS (⟨b2, m1, m2, kv1, kw1, Pa1, Pb1, (DOS (l.take 20))⟩ : IXS).F o).getD (i).toNat ByteArray.empty)) (b := (LOW qv)) rfl rfl) ?_
      refine WS.pure rfl rfl (fun _ => LV.pickF rfl rfl) ?_
      refine WS.pure rfl rfl (fun _ => LV.asg rfl) ?_
      refine WS.nil (thenQ.n ?_)
      refine WC.seq ?_
      have hS14 := SH.drew hS13
      refine WC.regionD [] (fun w_ => KB No w7.drew w_) [(.pure, 0), (.pure, 1), (.pure, 2), (.pure, 3), (.pure, 4), (.pure, 5), (.pure, 6), (.look, 7), (.pure, 8), (.pure, 9), (.pure, 10), (.look, 11), (.pure, 12), (.pure, 13)] (by kernel_rfl) (by kernel_rfl) (KB.refl _ _) ?_
      refine WS.pure rfl rfl (fun _ => LV.mv rfl) ?_
      rcases Decidable.em (i > 0) with hg3 | hg3
      · refine WS.pure rfl rfl (fun _ => LV.as (LV.gtI rfl rfl) (decide_eq_true hg3)) ?_
        iterate 3 refine WS.pure rfl rfl (fun _ => LV.mv rfl) ?_
        refine WS.pure rfl rfl (fun _ => LV.sub rfl rfl (wr64 (by omega) (by omega))) ?_
        obtain ⟨A8, c8, e4, g4⟩ := St.elt (SH.rd hS14 (.head _)) ByteArray.empty (i - 1) (by omega) (by omega)
        refine WS.pure rfl rfl (fun _ => LV.idxA Try.underlying41 ti9.sz rfl e4 rfl (by omega) (by omega)) ?_
        refine WS.look rfl rfl (fun _ hk_ => LV.load1 (v := (.string ((WRDS (⟨b2, m1, m2, kv1, kw1, Pa1, Pb1, (DOS (l.take 20))⟩ : IXS).F o).getD (i - 1).toNat ByteArray.empty))) Try.underlying9 rfl rfl (g4 _ hk_ 0 _ rfl)) ?_
        iterate 2 refine WS.pure rfl rfl (fun _ => LV.mv rfl) ?_
        obtain ⟨A9, c9, e5, g5⟩ := St.elt (SH.rd hS14 (.head _)) ByteArray.empty i (by omega) (by omega)
        refine WS.pure rfl rfl (fun _ => LV.idxA Try.underlying41 ti9.sz rfl e5 rfl (by omega) (by omega)) ?_
        refine WS.look rfl rfl (fun _ hk_ => LV.load1 (v := (.string ((WRDS (⟨b2, m1, m2, kv1, kw1, Pa1, Pb1, (DOS (l.take 20))⟩ : IXS).F o).getD (i).toNat ByteArray.empty))) Try.underlying9 rfl rfl (g5 _ hk_ 0 _ rfl)) ?_
        refine WS.pure rfl rfl (fun _ => LV.as (LV.geS (a := ((WRDS (⟨b2, m1, m2, kv1, kw1, Pa1, Pb1, (DOS (l.take 20))⟩ : IXS).F o).getD (i - 1).toNat ByteArray.empty)) (b := ((WRDS (⟨b2, m1, m2, kv1, kw1, Pa1, Pb1, (DOS (l.take 20))⟩ : IXS).F o).getD (i).toNat ByteArray.empty)) rfl rfl) (decide_eq_false (fun h_ => h_ (ss_at (wrds_ss _ o) (by omega) (by omega))))) ?_
        refine WS.pure rfl rfl (fun _ => LV.pickT rfl rfl) ?_
        refine WS.nil (thenQ.n ?_)
        refine WC.condF rfl ?_
        refine WC.skip (blockQ.n <| thenQ.n ?_)
        refine WC.region ?_
        refine WL.lv rfl (LV.mv rfl) ?_
        refine WL.lv rfl (LV.add rfl rfl (wr64 (by omega) (by omega))) ?_
        refine WL.lv rfl (LV.asg rfl) ?_
        refine WL.nil (thenQ.n ?_)
        exact ⟨_, by omega, decide (((WRDS (⟨b2, m1, m2, kv1, kw1, Pa1, Pb1, (DOS (l.take 20))⟩ : IXS).F o).getD (i).toNat ByteArray.empty) = (LOW qv)), i + 1, by omega, by omega, (kn_no ilo (by omega) q1 hg1), hS14, rfl, Weak.cons rfl <| Weak.cons rfl <| Weak.cons rfl <| Weak.cons rfl <| Weak.cons rfl <| Weak.cons rfl <| Weak.cons rfl <| Weak.cons rfl <| Weak.cons rfl <| Weak.nil _⟩
      · refine WS.pure rfl rfl (fun _ => LV.as (LV.gtI rfl rfl) (decide_eq_false hg3)) ?_
        refine WS.pure rfl rfl (fun _ => LV.mv rfl) ?_
        iterate 4 refine WS.off rfl rfl ?_
        refine WS.offL rfl rfl ?_
        iterate 3 refine WS.off rfl rfl ?_
        refine WS.offL rfl rfl ?_
        refine WS.off rfl rfl ?_
        refine WS.pure rfl rfl (fun _ => LV.pickF rfl rfl) ?_
        refine WS.nil (thenQ.n ?_)
        refine WC.condF rfl ?_
        refine WC.skip (blockQ.n <| thenQ.n ?_)
        refine WC.region ?_
        refine WL.lv rfl (LV.mv rfl) ?_
        refine WL.lv rfl (LV.add rfl rfl (wr64 (by omega) (by omega))) ?_
        refine WL.lv rfl (LV.asg rfl) ?_
        refine WL.nil (thenQ.n ?_)
        exact ⟨_, by omega, decide (((WRDS (⟨b2, m1, m2, kv1, kw1, Pa1, Pb1, (DOS (l.take 20))⟩ : IXS).F o).getD (i).toNat ByteArray.empty) = (LOW qv)), i + 1, by omega, by omega, (kn_no ilo (by omega) q1 hg1), hS14, rfl, Weak.cons rfl <| Weak.cons rfl <| Weak.cons rfl <| Weak.cons rfl <| Weak.cons rfl <| Weak.cons rfl <| Weak.cons rfl <| Weak.cons rfl <| Weak.cons rfl <| Weak.nil _⟩
  · skip
    refine WC.exit (thenQ.x <| thenQ.x <| blockQ.hit <| thenQ.n ?_)
    refine WC.seq ?_
    refine WC.region ?_
    iterate 3 refine WL.lv rfl (LV.mv rfl) ?_
    refine WL.xe rfl (XE.buildSlice (E := eS) [(0, (.string qv)), (1, (.string qw))] #[(.string qv), (.string qw)] [qv, qw] hL1 Try.underlying41 ti9 rfl (by decide) (by kernel_rfl) (.inr rfl) rfl rfl (by decide)) ?_
    rintro _ w8 ⟨b3, rfl, hS15, hk3⟩
    refine WL.lv rfl (LV.loadAgg (cs := [(.int .i64 ((o).1)), (.int .u64 ((o).2))]) Try.underlying25 rfl ti25 rfl rfl (Blk.agg (SH.at hS15 (.tail _ (.tail _ (.tail _ (.tail _ (.tail _ (.tail _ (.tail _ (.tail _ (.tail _ (.tail _ (.tail _ (.tail _ (.head _)))))))))))))) _ (KB.refl No _))) ?_
    have hz6 := all_calls (w := w8) (o := o) (SH.ixr5 (T1 := 64) (T2 := 73) (X := (⟨b2, m1, m2, kv1, kw1, Pa1, Pb1, (DOS (l.take 20))⟩ : IXS)) hS15 (.tail _ (.tail _ (.tail _ (.tail _ (.head _))))) (.tail _ (.tail _ (.tail _ (.tail _ (.tail _ (.head _)))))) (.tail _ (.tail _ (.tail _ (.tail _ (.tail _ (.tail _ (.head _))))))) (.tail _ (.tail _ (.tail _ (.tail _ (.tail _ (.tail _ (.tail _ (.head _)))))))) (.tail _ (.tail _ (.tail _ (.tail _ (.tail _ (.tail _ (.tail _ (.tail _ (.head _)))))))))) hv1 (by omega) (SH.rd hS15 (.head _)) rfl ((by intro q_ hq_; simp only [List.mem_cons, List.not_mem_nil, or_false] at hq_; rcases hq_ with h_ | h_ <;> rw [h_] <;> assumption)) (wo) 
    refine WL.call rfl (XC.fn Try.func16 (by kernel_rfl) rfl rfl rfl) (hz6) ?_
    rintro v_ w9 ⟨A10, c10, rfl, hS16⟩
    have hS17 := SH.joinN hS15 hS16
    have hal_ := all_len _ o _ (fun q => find_len hv1 q o) [qv, qw]
    refine WL.lv rfl (LV.asg rfl) ?_
    refine WL.nil (thenQ.n ?_)
    iterate 2 refine WC.seq ?_
    refine WC.region ?_
    refine WL.lv rfl (LV.asg rfl) ?_
    refine WL.nil (thenQ.n ?_)
    refine WC.block ?_
    refine WC.loop (fun m_ f_ w_ => ∃ (i2 : Int), (0 ≤ i2) ∧ (i2 ≤ ((ALLF (⟨b2, m1, m2, kv1, kw1, Pa1, Pb1, (DOS (l.take 20))⟩ : IXS).F o [qv, qw]).length : Int)) ∧ SH w No w_ [rowE eSI 48 (.slice A10 ((ALLF (⟨b2, m1, m2, kv1, kw1, Pa1, Pb1, (DOS (l.take 20))⟩ : IXS).F o [qv, qw]).length) c10) (ALLF (⟨b2, m1, m2, kv1, kw1, Pa1, Pb1, (DOS (l.take 20))⟩ : IXS).F o [qv, qw]), rowE eS 9 (.slice (some ⟨b3, 0, none⟩) 2 2) [qv, qw], rowE eS 9 (.slice A4 ((WRDS (⟨b2, m1, m2, kv1, kw1, Pa1, Pb1, (DOS (l.take 20))⟩ : IXS).F o).length) c4) (WRDS (⟨b2, m1, m2, kv1, kw1, Pa1, Pb1, (DOS (l.take 20))⟩ : IXS).F o), rowE eSI 48 (.slice A3 ((FIND (⟨b2, m1, m2, kv1, kw1, Pa1, Pb1, (DOS (l.take 20))⟩ : IXS).F (LOW qw) o).length) c3) (FIND (⟨b2, m1, m2, kv1, kw1, Pa1, Pb1, (DOS (l.take 20))⟩ : IXS).F (LOW qw) o), rowE eSI 48 (.slice A2 ((FIND (⟨b2, m1, m2, kv1, kw1, Pa1, Pb1, (DOS (l.take 20))⟩ : IXS).F (LOW qv) o).length) c2) (FIND (⟨b2, m1, m2, kv1, kw1, Pa1, Pb1, (DOS (l.take 20))⟩ : IXS).F (LOW qv) o), blkE b2 71 #[(.map (some m1)), (.map (some m2))], mapG kS kV m1 kv1, mapG kS kV m2 kw1, insE idS eIt 64 Pa1, insE idS eSI 73 Pb1, blkE yb1 52 #[(.slice A1 rs1.length c1)], rowE eSV 54 (.slice A1 rs1.length c1) rs1, insE idS eIt 64 Pc1, blkE b1 25 #[(.int .i64 ((o).1)), (.int .u64 ((o).2))]] ∧ m_ = ((((ALLF (⟨b2, m1, m2, kv1, kw1, Pa1, Pb1, (DOS (l.take 20))⟩ : IXS).F o [qv, qw]).length : Int) - i2).toNat) ∧ Weak (lit [(12, (.slice A2 ((FIND (⟨b2, m1, m2, kv1, kw1, Pa1, Pb1, (DOS (l.take 20))⟩ : IXS).F (LOW qv) o).length) c2)), (13, (.slice A3 ((FIND (⟨b2, m1, m2, kv1, kw1, Pa1, Pb1, (DOS (l.take 20))⟩ : IXS).F (LOW qw) o).length) c3)), (15, (.bool known)), (17, (.slice A10 ((ALLF (⟨b2, m1, m2, kv1, kw1, Pa1, Pb1, (DOS (l.take 20))⟩ : IXS).F o [qv, qw]).length) c10)), (18, (.int .i64 i2))]) f_) _ ⟨0, by omega, by omega, hS17, rfl, Weak.cons rfl <| Weak.cons rfl <| Weak.cons rfl <| Weak.cons rfl <| Weak.cons rfl <| Weak.nil _⟩ ?_
    rintro m4 f2 w10 ⟨i2, i2lo, i2hi, hL2, rfl, hw2⟩
    refine WC.weak hw2 ?_
    clear hw2
    iterate 2 refine WC.seq ?_
    refine WC.region ?_
    iterate 2 refine WL.lv rfl (LV.mv rfl) ?_
    refine WL.lv rfl (LV.lenL Try.underlying38 rfl) ?_
    refine WL.lv rfl (LV.ltI rfl rfl) ?_
    refine WL.nil (thenQ.n ?_)
    refine WC.condP (p := i2 < ((ALLF (⟨b2, m1, m2, kv1, kw1, Pa1, Pb1, (DOS (l.take 20))⟩ : IXS).F o [qv, qw]).length : Int)) rfl (fun hc2 => ?_) (fun hc2 => ?_)
    · skip
      refine WC.skip (thenQ.n ?_)
      refine WC.seq ?_
      refine WC.block ?_
      refine WC.seq ?_
      refine WC.region ?_
      iterate 3 refine WL.lv rfl (LV.mv rfl) ?_
      obtain ⟨A11, c11, e6, g6⟩ := St.elt (SH.rd hL2 (.head _)) (ByteArray.empty, 0) i2 (by omega) (by omega)
      refine WL.lv rfl (LV.idxA Try.underlying38 ti48.sz rfl e6 rfl (by omega) (by omega)) ?_
      refine WL.lv rfl (LV.loadAgg (cs := [(.string (((ALLF (⟨b2, m1, m2, kv1, kw1, Pa1, Pb1, (DOS (l.take 20))⟩ : IXS).F o [qv, qw]).getD (i2).toNat (ByteArray.empty, 0)).1)), (.int .i64 (((ALLF (⟨b2, m1, m2, kv1, kw1, Pa1, Pb1, (DOS (l.take 20))⟩ : IXS).F o [qv, qw]).getD (i2).toNat (ByteArray.empty, 0)).2))]) Try.underlying48 rfl ti48 rfl rfl (fun j u hu => g6 _ (KB.refl No _) j u hu)) ?_
      have hz7 := Calls.asB (w := w10) (rin_calls (h := ((ALLF (⟨b2, m1, m2, kv1, kw1, Pa1, Pb1, (DOS (l.take 20))⟩ : IXS).F o [qv, qw]).getD (i2).toNat (ByteArray.empty, 0))) (SH.rd hL2 (.tail _ (.tail _ (.tail _ (.tail _ (.head _)))))) rfl ) (decide_eq_true ((all2_mem.1 (getD_mem (d := (ByteArray.empty, 0)) (by omega))).1)) 
      refine WL.call rfl (XC.fn Try.func17 (by kernel_rfl) rfl rfl rfl) (hz7) ?_
      rintro v_ w11 ⟨rfl, hk4⟩
      have hS18 := SH.same hL2 hk4
      refine WL.lv rfl (LV.notB rfl) ?_
      iterate 4 refine WL.lv rfl (LV.mv rfl) ?_
      obtain ⟨A12, c12, e7, g7⟩ := St.elt (SH.rd hS18 (.head _)) (ByteArray.empty, 0) i2 (by omega) (by omega)
      refine WL.lv rfl (LV.idxA Try.underlying38 ti48.sz rfl e7 rfl (by omega) (by omega)) ?_
      refine WL.lv rfl (LV.loadAgg (cs := [(.string (((ALLF (⟨b2, m1, m2, kv1, kw1, Pa1, Pb1, (DOS (l.take 20))⟩ : IXS).F o [qv, qw]).getD (i2).toNat (ByteArray.empty, 0)).1)), (.int .i64 (((ALLF (⟨b2, m1, m2, kv1, kw1, Pa1, Pb1, (DOS (l.take 20))⟩ : IXS).F o [qv, qw]).getD (i2).toNat (ByteArray.empty, 0)).2))]) Try.underlying48 rfl ti48 rfl rfl (fun j u hu => g7 _ (KB.refl No _) j u hu)) ?_
      have hz8 := Calls.asB (w := w11) (rin_calls (h := ((ALLF (⟨b2, m1, m2, kv1, kw1, Pa1, Pb1, (DOS (l.take 20))⟩ : IXS).F o [qv, qw]).getD (i2).toNat (ByteArray.empty, 0))) (SH.rd hS18 (.tail _ (.tail _ (.tail _ (.head _))))) rfl ) (decide_eq_true ((all2_mem.1 (getD_mem (d := (ByteArray.empty, 0)) (by omega))).2)) 
      refine WL.call rfl (XC.fn Try.func17 (by kernel_rfl) rfl rfl rfl) (hz8) ?_
      rintro v_ w12 ⟨rfl, hk5⟩
      have hS19 := SH.same hS18 hk5
      refine WL.lv rfl (LV.notB rfl) ?_
      refine WL.lv rfl (LV.pickF rfl rfl) ?_
      refine WL.nil (thenQ.n ?_)
      refine WC.condF rfl ?_
      refine WC.skip (blockQ.n <| thenQ.n ?_)
      refine WC.region ?_
      refine WL.lv rfl (LV.mv rfl) ?_
      refine WL.lv rfl (LV.add rfl rfl (wr64 (by omega) (by omega))) ?_
      refine WL.lv rfl (LV.asg rfl) ?_
      refine WL.nil (thenQ.n ?_)
      exact ⟨_, by omega, i2 + 1, by omega, by omega, hS19, rfl, Weak.cons rfl <| Weak.cons rfl <| Weak.cons rfl <| Weak.cons rfl <| Weak.cons rfl <| Weak.nil _⟩
    · skip
      refine WC.exit (thenQ.x <| thenQ.x <| blockQ.hit <| thenQ.n ?_)
      iterate 2 refine WC.seq ?_
      refine WC.region ?_
      refine WL.lv rfl (LV.asg rfl) ?_
      refine WL.nil (thenQ.n ?_)
      refine WC.block ?_
      refine WC.loop (fun m_ f_ w_ => ∃ (i3 : Int), (0 ≤ i3) ∧ (i3 ≤ ((FIND (⟨b2, m1, m2, kv1, kw1, Pa1, Pb1, (DOS (l.take 20))⟩ : IXS).F (LOW qv) o).length : Int)) ∧ SH w No w_ [rowE eSI 48 (.slice A10 ((ALLF (⟨b2, m1, m2, kv1, kw1, Pa1, Pb1, (DOS (l.take 20))⟩ : IXS).F o [qv, qw]).length) c10) (ALLF (⟨b2, m1, m2, kv1, kw1, Pa1, Pb1, (DOS (l.take 20))⟩ : IXS).F o [qv, qw]), rowE eS 9 (.slice (some ⟨b3, 0, none⟩) 2 2) [qv, qw], rowE eS 9 (.slice A4 ((WRDS (⟨b2, m1, m2, kv1, kw1, Pa1, Pb1, (DOS (l.take 20))⟩ : IXS).F o).length) c4) (WRDS (⟨b2, m1, m2, kv1, kw1, Pa1, Pb1, (DOS (l.take 20))⟩ : IXS).F o), rowE eSI 48 (.slice A3 ((FIND (⟨b2, m1, m2, kv1, kw1, Pa1, Pb1, (DOS (l.take 20))⟩ : IXS).F (LOW qw) o).length) c3) (FIND (⟨b2, m1, m2, kv1, kw1, Pa1, Pb1, (DOS (l.take 20))⟩ : IXS).F (LOW qw) o), rowE eSI 48 (.slice A2 ((FIND (⟨b2, m1, m2, kv1, kw1, Pa1, Pb1, (DOS (l.take 20))⟩ : IXS).F (LOW qv) o).length) c2) (FIND (⟨b2, m1, m2, kv1, kw1, Pa1, Pb1, (DOS (l.take 20))⟩ : IXS).F (LOW qv) o), blkE b2 71 #[(.map (some m1)), (.map (some m2))], mapG kS kV m1 kv1, mapG kS kV m2 kw1, insE idS eIt 64 Pa1, insE idS eSI 73 Pb1, blkE yb1 52 #[(.slice A1 rs1.length c1)], rowE eSV 54 (.slice A1 rs1.length c1) rs1, insE idS eIt 64 Pc1, blkE b1 25 #[(.int .i64 ((o).1)), (.int .u64 ((o).2))]] ∧ m_ = ((((FIND (⟨b2, m1, m2, kv1, kw1, Pa1, Pb1, (DOS (l.take 20))⟩ : IXS).F (LOW qv) o).length : Int) - i3).toNat) ∧ Weak (lit [(12, (.slice A2 ((FIND (⟨b2, m1, m2, kv1, kw1, Pa1, Pb1, (DOS (l.take 20))⟩ : IXS).F (LOW qv) o).length) c2)), (13, (.slice A3 ((FIND (⟨b2, m1, m2, kv1, kw1, Pa1, Pb1, (DOS (l.take 20))⟩ : IXS).F (LOW qw) o).length) c3)), (15, (.bool known)), (17, (.slice A10 ((ALLF (⟨b2, m1, m2, kv1, kw1, Pa1, Pb1, (DOS (l.take 20))⟩ : IXS).F o [qv, qw]).length) c10)), (19, (.int .i64 i3))]) f_) _ ⟨0, by omega, by omega, hL2, rfl, Weak.cons rfl <| Weak.cons rfl <| Weak.cons rfl <| Weak.cons rfl <| Weak.cons rfl <| Weak.nil _⟩ ?_
      rintro m5 f3 w13 ⟨i3, i3lo, i3hi, hL3, rfl, hw3⟩
      refine WC.weak hw3 ?_
      clear hw3
      iterate 2 refine WC.seq ?_
      refine WC.region ?_
      iterate 2 refine WL.lv rfl (LV.mv rfl) ?_
      refine WL.lv rfl (LV.lenL Try.underlying38 rfl) ?_
      refine WL.lv rfl (LV.ltI rfl rfl) ?_
      refine WL.nil (thenQ.n ?_)
      refine WC.condP (p := i3 < ((FIND (⟨b2, m1, m2, kv1, kw1, Pa1, Pb1, (DOS (l.take 20))⟩ : IXS).F (LOW qv) o).length : Int)) rfl (fun hc3 => ?_) (fun hc3 => ?_)
      · skip
        refine WC.skip (thenQ.n ?_)
        refine WC.seq ?_
        refine WC.block ?_
        refine WC.seq ?_
        refine WC.region ?_
        iterate 3 refine WL.lv rfl (LV.mv rfl) ?_
        obtain ⟨A13, c13, e8, g8⟩ := St.elt (SH.rd hL3 (.tail _ (.tail _ (.tail _ (.tail _ (.head _)))))) (ByteArray.empty, 0) i3 (by omega) (by omega)
        refine WL.lv rfl (LV.idxA Try.underlying38 ti48.sz rfl e8 rfl (by omega) (by omega)) ?_
        refine WL.lv rfl (LV.loadAgg (cs := [(.string (((FIND (⟨b2, m1, m2, kv1, kw1, Pa1, Pb1, (DOS (l.take 20))⟩ : IXS).F (LOW qv) o).getD (i3).toNat (ByteArray.empty, 0)).1)), (.int .i64 (((FIND (⟨b2, m1, m2, kv1, kw1, Pa1, Pb1, (DOS (l.take 20))⟩ : IXS).F (LOW qv) o).getD (i3).toNat (ByteArray.empty, 0)).2))]) Try.underlying48 rfl ti48 rfl rfl (fun j u hu => g8 _ (KB.refl No _) j u hu)) ?_
        rcases Decidable.em (((FIND (⟨b2, m1, m2, kv1, kw1, Pa1, Pb1, (DOS (l.take 20))⟩ : IXS).F (LOW qv) o).getD (i3).toNat (ByteArray.empty, 0)) ∈ (FIND (⟨b2, m1, m2, kv1, kw1, Pa1, Pb1, (DOS (l.take 20))⟩ : IXS).F (LOW qw) o)) with hin | hin
        · have hz9 := Calls.asB (w := w13) (rin_calls (h := ((FIND (⟨b2, m1, m2, kv1, kw1, Pa1, Pb1, (DOS (l.take 20))⟩ : IXS).F (LOW qv) o).getD (i3).toNat (ByteArray.empty, 0))) (SH.rd hL3 (.tail _ (.tail _ (.tail _ (.head _))))) rfl ) (decide_eq_true (hin)) 
          refine WL.call rfl (XC.fn Try.func17 (by kernel_rfl) rfl rfl rfl) (hz9) ?_
          rintro v_ w14 ⟨rfl, hk6⟩
          have hS20 := SH.same hL3 hk6
          iterate 4 refine WL.lv rfl (LV.mv rfl) ?_
          obtain ⟨A14, c14, e9, g9⟩ := St.elt (SH.rd hS20 (.tail _ (.tail _ (.tail _ (.tail _ (.head _)))))) (ByteArray.empty, 0) i3 (by omega) (by omega)
          refine WL.lv rfl (LV.idxA Try.underlying38 ti48.sz rfl e9 rfl (by omega) (by omega)) ?_
          refine WL.lv rfl (LV.loadAgg (cs := [(.string (((FIND (⟨b2, m1, m2, kv1, kw1, Pa1, Pb1, (DOS (l.take 20))⟩ : IXS).F (LOW qv) o).getD (i3).toNat (ByteArray.empty, 0)).1)), (.int .i64 (((FIND (⟨b2, m1, m2, kv1, kw1, Pa1, Pb1, (DOS (l.take 20))⟩ : IXS).F (LOW qv) o).getD (i3).toNat (ByteArray.empty, 0)).2))]) Try.underlying48 rfl ti48 rfl rfl (fun j u hu => g9 _ (KB.refl No _) j u hu)) ?_
          have hz10 := Calls.asB (w := w14) (rin_calls (h := ((FIND (⟨b2, m1, m2, kv1, kw1, Pa1, Pb1, (DOS (l.take 20))⟩ : IXS).F (LOW qv) o).getD (i3).toNat (ByteArray.empty, 0))) (SH.rd hS20 (.head _)) rfl ) (decide_eq_true (all2_mem.2 ⟨getD_mem (d := (ByteArray.empty, 0)) (by omega), hin⟩)) 
          refine WL.call rfl (XC.fn Try.func17 (by kernel_rfl) rfl rfl rfl) (hz10) ?_
          rintro v_ w15 ⟨rfl, hk7⟩
          have hS21 := SH.same hS20 hk7
          refine WL.lv rfl (LV.notB rfl) ?_
          refine WL.lv rfl (LV.pickT rfl rfl) ?_
          refine WL.nil (thenQ.n ?_)
          refine WC.condF rfl ?_
          refine WC.skip (blockQ.n <| thenQ.n ?_)
          refine WC.region ?_
          refine WL.lv rfl (LV.mv rfl) ?_
          refine WL.lv rfl (LV.add rfl rfl (wr64 (by omega) (by omega))) ?_
          refine WL.lv rfl (LV.asg rfl) ?_
          refine WL.nil (thenQ.n ?_)
          exact ⟨_, by omega, i3 + 1, by omega, by omega, hS21, rfl, Weak.cons rfl <| Weak.cons rfl <| Weak.cons rfl <| Weak.cons rfl <| Weak.cons rfl <| Weak.nil _⟩
        · have hz11 := Calls.asB (w := w13) (rin_calls (h := ((FIND (⟨b2, m1, m2, kv1, kw1, Pa1, Pb1, (DOS (l.take 20))⟩ : IXS).F (LOW qv) o).getD (i3).toNat (ByteArray.empty, 0))) (SH.rd hL3 (.tail _ (.tail _ (.tail _ (.head _))))) rfl ) (decide_eq_false (hin)) 
          refine WL.call rfl (XC.fn Try.func17 (by kernel_rfl) rfl rfl rfl) (hz11) ?_
          rintro v_ w16 ⟨rfl, hk8⟩
          have hS22 := SH.same hL3 hk8
          refine WL.lv rfl (LV.mv rfl) ?_
          iterate 7 refine WL.off rfl ?_
          refine WL.lv rfl (LV.pickF rfl rfl) ?_
          refine WL.nil (thenQ.n ?_)
          refine WC.condF rfl ?_
          refine WC.skip (blockQ.n <| thenQ.n ?_)
          refine WC.region ?_
          refine WL.lv rfl (LV.mv rfl) ?_
          refine WL.lv rfl (LV.add rfl rfl (wr64 (by omega) (by omega))) ?_
          refine WL.lv rfl (LV.asg rfl) ?_
          refine WL.nil (thenQ.n ?_)
          exact ⟨_, by omega, i3 + 1, by omega, by omega, hS22, rfl, Weak.cons rfl <| Weak.cons rfl <| Weak.cons rfl <| Weak.cons rfl <| Weak.cons rfl <| Weak.nil _⟩
      · skip
        refine WC.exit (thenQ.x <| thenQ.x <| blockQ.hit <| thenQ.n ?_)
        refine WC.seq ?_
        refine WC.region ?_
        have hz12 := live_calls (w := w13) 
        refine WL.call rfl (XC.fn Try.func9 (by kernel_rfl) rfl rfl rfl) (hz12) ?_
        rintro v_ w17 ⟨rfl, hk9⟩
        have hS23 := SH.same hL3 hk9
        iterate 3 refine WL.lv rfl (LV.mv rfl) ?_
        refine WL.lv rfl (LV.lenL Try.underlying38 rfl) ?_
        refine WL.lv rfl (LV.gtI rfl rfl) ?_
        refine WL.lv rfl (LV.as (c := true) (LV.eqB Try.underlying4 rfl rfl) (kn_end (by omega) q1 rfl)) ?_
        refine WL.lv rfl (LV.pickT rfl rfl) ?_
        refine WL.lv rfl (LV.asg rfl) ?_
        refine WL.nil (thenQ.n ?_)
        refine WC.ret (?_)
        exact ⟨_, fun a ha => res1 rfl ha rfl, rfl, hS23.kb⟩

end Go.Proofs.Ytigbphaimbhgjaa

namespace Go.Gv
open Go Go.RowKit
def IsRow (k : IntKind) (w : World) (a : Option Addr) (len cap : Nat) (zs : List Int) : Prop :=
  (a = none ∧ len = 0 ∧ cap = 0 ∧ zs = []) ∨
  ∃ x, a = some x ∧ len ≤ cap ∧ cap ≤ maxLen ∧ zs.length = cap ∧ (∀ i, i < zs.length → w.cell? (x.add i) = some (.int k (zs.getD i 0))) ∧ ∀ n ∈ zs, (Lit.int k n).wf = true
theorem eI_get (xs : List Int) (j : Nat) (u : Value) (h : (eI.cells xs)[j]? = some u) : ∃ x, xs[j]? = some x ∧ u = .int .i64 x := by
  have e : ∀ xs : List Int, eI.cells xs = xs.map (fun x => Value.int .i64 x) := fun xs => by
    induction xs with
    | nil => rfl
    | cons x xs ih => rw [El.cells_cons, ih]; rfl
  rw [e, List.getElem?_map] at h
  obtain ⟨x, hx, e⟩ := Option.map_eq_some_iff.1 h
  exact ⟨x, hx, e.symm⟩
theorem eU8_get (xs : List Int) (j : Nat) (u : Value) (h : (eU8.cells xs)[j]? = some u) : ∃ x, xs[j]? = some x ∧ u = .int .u8 x := by
  have e : ∀ xs : List Int, eU8.cells xs = xs.map (fun x => Value.int .u8 x) := fun xs => by
    induction xs with
    | nil => rfl
    | cons x xs ih => rw [El.cells_cons, ih]; rfl
  rw [e, List.getElem?_map] at h
  obtain ⟨x, hx, e⟩ := Option.map_eq_some_iff.1 h
  exact ⟨x, hx, e.symm⟩
theorem IsRow.rd {w : World} {a : Option Addr} {len cap : Nat} {zs : List Int} (h : IsRow .i64 w a len cap zs) : ∃ l : List Int, len = l.length ∧ St No w (Rd eI (.slice a l.length cap) l) ∧ ∀ n ∈ l, -9223372036854775808 ≤ n ∧ n ≤ 9223372036854775807 := by
  rcases h with ⟨rfl, rfl, rfl, rfl⟩ | ⟨x, rfl, h1, h2, h3, h4, h5⟩
  · exact ⟨[], rfl, Rd.stN Rd.nil, by simp⟩
  · have hl : (zs.take len).length = len := by rw [List.length_take]; omega
    refine ⟨zs.take len, hl.symm, Rd.stN ⟨some x, cap, rfl, by omega, h2, fun _ => ⟨x, rfl, fun j u hu => ?_⟩⟩, fun n hn => ?_⟩
    · obtain ⟨y, hy, rfl⟩ := eI_get _ _ _ hu
      rw [List.getElem?_take] at hy
      split at hy
      · have hj := (List.getElem?_eq_some_iff.1 hy).1
        rw [h4 j hj]
        simp [List.getD, hy]
      · simp at hy
    · have := h5 n (List.mem_of_mem_take hn)
      simp [Lit.wf, IntKind.min, IntKind.max, IntKind.signed, IntKind.bits] at this
      omega
theorem IsRow.rd8 {w : World} {a : Option Addr} {len cap : Nat} {zs : List Int} (h : IsRow .u8 w a len cap zs) : ∃ l : List Int, len = l.length ∧ St No w (Rd eU8 (.slice a l.length cap) l) ∧ ∀ n ∈ l, 0 ≤ n ∧ n ≤ 255 := by
  rcases h with ⟨rfl, rfl, rfl, rfl⟩ | ⟨x, rfl, h1, h2, h3, h4, h5⟩
  · exact ⟨[], rfl, Rd.stN Rd.nil, by simp⟩
  · have hl : (zs.take len).length = len := by rw [List.length_take]; omega
    refine ⟨zs.take len, hl.symm, Rd.stN ⟨some x, cap, rfl, by omega, h2, fun _ => ⟨x, rfl, fun j u hu => ?_⟩⟩, fun n hn => ?_⟩
    · obtain ⟨y, hy, rfl⟩ := eU8_get _ _ _ hu
      rw [List.getElem?_take] at hy
      split at hy
      · have hj := (List.getElem?_eq_some_iff.1 hy).1
        rw [h4 j hj]
        simp [List.getD, hy]
      · simp at hy
    · have := h5 n (List.mem_of_mem_take hn)
      simp [Lit.wf, IntKind.min, IntKind.max, IntKind.signed, IntKind.bits] at this
      omega
theorem int_bd {n : Int} (h : (Lit.int .i64 n).wf = true) : -9223372036854775808 ≤ n ∧ n ≤ 9223372036854775807 := by
  simp [Lit.wf, IntKind.min, IntKind.max, IntKind.signed, IntKind.bits] at h
  omega
theorem int_bd8 {n : Int} (h : (Lit.int .u8 n).wf = true) : 0 ≤ n ∧ n ≤ 255 := by
  simp [Lit.wf, IntKind.min, IntKind.max, IntKind.signed, IntKind.bits] at h
  omega
end Go.Gv

