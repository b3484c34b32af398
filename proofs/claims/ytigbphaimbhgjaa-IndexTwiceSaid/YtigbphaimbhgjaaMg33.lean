/- The law of putting twice. -/
import Derived.Test.YtigbphaimbhgjaaMg32
namespace Go.Proofs.Ytigbphaimbhgjaa
open Go Go.Gv Go.RowKit Go.Tly Go.Wds Go.Idx
set_option linter.unusedVariables false
set_option linter.unusedSimpArgs false

attribute [local irreducible] Go.Idx.PUTF Go.Idx.FIND Go.Idx.WRDS Go.Idx.FLS Go.Idx.OF Go.Idx.LOW Go.Idx.DOS Go.Idx.ALLF Go.Idx.WOF

set_option maxHeartbeats 4000000 in
set_option maxRecDepth 100000 in
theorem indexTwice_law {w : World} {A_l : Option Addr} {n_l c_l : Nat} {l : DDS} {dr : Bool} {fl : ByteArray} {A_it : Option Addr} {c_it : Nat} {it : List Itm} {qw : ByteArray} {o : Lb} (h_l : St No w (Rd eDd (.slice A_l n_l c_l) (DLS l))) (hi_l : St No w (RdIn ddS eIt l)) (hn_l : l.length = n_l) (hz_l : ∀ d ∈ l, d.1.2.1.size ≤ 140737488355328) (hy_l : ∀ d ∈ l, ∀ y ∈ d.2, 0 ≤ y.2.1.2 ∧ y.2.1.2 < 18446744073709551616) (h_it : St No w (Rd eIt (.slice A_it it.length c_it) it)) (hz : fl.size ≤ 140737488355328) (hyi : ∀ y ∈ it, 0 ≤ y.2.1.2 ∧ y.2.1.2 < 18446744073709551616) (hsw : qw.size ≤ 140737488355328) (wo : 0 ≤ o.2 ∧ o.2 < 18446744073709551616) :
    Calls Try.prog 5 #[(.slice A_l n_l c_l), (.agg #[(.bool dr), (.string fl), (.slice A_it it.length c_it)]), (.string qw), (.agg #[(.int .i64 ((o).1)), (.int .u64 ((o).2))])] w fun e w' => ∃ v, e = .returned v ∧ (fun v w' => v = .bool true ∧ KB No w w') v w' := by
  subst hn_l
  have hl20_ := List.length_take_le 20 it
  have hel1_ : ([] : List En).length = 0 := rfl
  have hel2_ : ([] : List ByteArray).length = 0 := rfl
  have hS : SH w No w [] := SH.nil _ _
  refine calls (l := litOf [(.slice A_l l.length c_l), (.agg #[(.bool dr), (.string fl), (.slice A_it it.length c_it)]), (.string qw), (.agg #[(.int .i64 ((o).1)), (.int .u64 ((o).2))])] 0) Try.func5 rfl (n := 174) rfl (Nat.le_of_ble_eq_true rfl) (lit_args _) ?_
  refine WC.seq ?_
  refine WC.region ?_
  refine WL.xe rfl (XE.box #[(.bool dr), (.string fl), (.slice A_it it.length c_it)] hS rfl rfl) ?_
  rintro _ w1 ⟨b1, rfl, hS1, hk1⟩
  refine WL.xe rfl (XE.box #[(.int .i64 ((o).1)), (.int .u64 ((o).2))] hS1 rfl rfl) ?_
  rintro _ w2 ⟨b2, rfl, hS2, hk2⟩
  refine WL.lv rfl (LV.asg rfl) ?_
  refine WL.nil (thenQ.n ?_)
  refine WC.seq ?_
  refine WC.region ?_
  refine WL.lv rfl (LV.mv rfl) ?_
  have hz1 := play_calls (w := w2) (l := l) (SH.stN hS2 h_l) (SH.stN hS2 hi_l) rfl hz_l hy_l 
  refine WL.call rfl (XC.fn Try.func6 (by kernel_rfl) rfl rfl rfl) (hz1) ?_
  rintro v_ w3 ⟨b3, m1, m2, kv1, kw1, Pa1, Pb1, yb1, A1, c1, rs1, Pc1, rfl, hv1, hD1, hS3⟩
  have hS4 := SH.joinN hS2 hS3
  refine WL.lv rfl (LV.mv rfl) ?_
  iterate 3 refine WL.lv rfl (LV.extract rfl rfl) ?_
  iterate 3 refine WL.lv rfl (LV.asg rfl) ?_
  refine WL.nil (thenQ.n ?_)
  refine WC.seq ?_
  refine WC.region ?_
  refine WL.lv rfl (LV.fieldA Try.underlying34 rfl ti30.sz rfl) ?_
  refine WL.lv rfl (LV.load1 Try.underlying30 rfl rfl (Blk.cellN (SH.at hS4 (.tail _ (.tail _ (.tail _ (.tail _ (.tail _ (.tail _ (.tail _ (.tail _ (.tail _ (.head _))))))))))) 2 rfl _ (KB.refl No _))) ?_
  rcases Decidable.em (FINE it) with hfine1 | hfine1
  · have hz2 := fewy_calls (w := w3) (SH.stN hS4 h_it) hfine1 
    refine WL.call rfl (XC.fn Try.func7 (by kernel_rfl) rfl rfl rfl) (hz2) ?_
    rintro v_ w4 ⟨rfl, hk3⟩
    have hS5 := SH.same hS4 hk3
    refine WL.lv rfl (LV.mv rfl) ?_
    iterate 2 refine WL.lv rfl (LV.extract rfl rfl) ?_
    iterate 2 refine WL.lv rfl (LV.asg rfl) ?_
    refine WL.nil (thenQ.n ?_)
    iterate 2 refine WC.seq ?_
    refine WC.region ?_
    refine WL.lv rfl (LV.mv rfl) ?_
    refine WL.lv rfl (LV.notB rfl) ?_
    refine WL.nil (thenQ.n ?_)
    refine WC.condF rfl ?_
    refine WC.skip (thenQ.n ?_)
    iterate 2 refine WC.seq ?_
    refine WC.region ?_
    refine WL.lv rfl (LV.mv rfl) ?_
    refine WL.lv rfl (LV.notB rfl) ?_
    refine WL.nil (thenQ.n ?_)
    refine WC.condF rfl ?_
    refine WC.skip (thenQ.n ?_)
    refine WC.seq ?_
    refine WC.region ?_
    refine WL.lv rfl (LV.asg rfl) ?_
    refine WL.nil (thenQ.n ?_)
    iterate 2 refine WC.seq ?_
    refine WC.region ?_
    refine WL.lv rfl (LV.asg rfl) ?_
    refine WL.nil (thenQ.n ?_)
    refine WC.block ?_
    refine WC.loop (fun m_ f_ w_ => ∃ (known : Bool) (i : Int), (0 ≤ i) ∧ (i ≤ rs1.length) ∧ (known = true ↔ ∃ t : Int, 0 ≤ t ∧ t < i ∧ (rs1.getD t.toNat dSV).1 = fl) ∧ SH w No w_ [blkE b3 71 #[(.map (some m1)), (.map (some m2))], mapG kS kV m1 kv1, mapG kS kV m2 kw1, insE idS eIt 64 Pa1, insE idS eSI 73 Pb1, blkE yb1 52 #[(.slice A1 rs1.length c1)], rowE eSV 54 (.slice A1 rs1.length c1) rs1, insE idS eIt 64 Pc1, blkE b2 25 #[(.int .i64 ((o).1)), (.int .u64 ((o).2))], blkE b1 34 #[(.bool dr), (.string fl), (.slice A_it it.length c_it)]] ∧ m_ = (((rs1.length : Int) - i).toNat) ∧ Weak (lit [(2, (.string qw)), (5, (.pointer (some ⟨b1, 0, none⟩))), (7, (.pointer (some ⟨b2, 0, none⟩))), (9, (.pointer (some ⟨b3, 0, none⟩))), (10, (.pointer (some ⟨yb1, 0, none⟩))), (12, (.slice (cutA A_it c_it 6) ((it.take 20).length) c_it)), (14, (.bool known)), (15, (.int .i64 i))]) f_) _ ⟨false, 0, by omega, by omega, kf_0, hS5, rfl, Weak.cons rfl <| Weak.cons rfl <| Weak.cons rfl <| Weak.cons rfl <| Weak.cons rfl <| Weak.cons rfl <| Weak.cons rfl <| Weak.cons rfl <| Weak.nil _⟩ ?_
    rintro m3 f1 w5 ⟨known, i, ilo, ihi, q1, hL1, rfl, hw1⟩
    refine WC.weak hw1 ?_
    clear hw1
    have hrl_ : rs1.length ≤ 20 := by rw [hD1.len]; exact hv1.ln
    iterate 2 refine WC.seq ?_
    refine WC.region ?_
    iterate 2 refine WL.lv rfl (LV.mv rfl) ?_
    refine WL.lv rfl (LV.nilCheck rfl) ?_
    refine WL.lv rfl (LV.fieldA Try.underlying52 rfl ti50.sz rfl) ?_
    refine WL.lv rfl (LV.load1 Try.underlying50 rfl rfl (Blk.cellN (SH.at hL1 (.tail _ (.tail _ (.tail _ (.tail _ (.tail _ (.head _))))))) 0 rfl _ (KB.refl No _))) ?_
    refine WL.lv rfl (LV.lenL Try.underlying50 rfl) ?_
    refine WL.lv rfl (LV.ltI rfl rfl) ?_
    refine WL.nil (thenQ.n ?_)
    refine WC.condP (p := i < (rs1.length : Int)) rfl (fun hc1 => ?_) (fun hc1 => ?_)
    · skip
      refine WC.skip (thenQ.n ?_)
      refine WC.seq ?_
      refine WC.block ?_
      have hS6 := SH.drew hL1
      refine WC.regionD [] (fun w_ => KB No w5.drew w_) [(.pure, 0), (.pure, 1), (.pure, 2), (.pure, 3), (.pure, 4), (.look, 5), (.pure, 6), (.pure, 7), (.pure, 8), (.look, 9), (.pure, 10), (.look, 11), (.pure, 12), (.pure, 13), (.pure, 14)] (by kernel_rfl) (by kernel_rfl) (KB.refl _ _) ?_
      rcases Bool.eq_false_or_eq_true (known) with hg1 | hg1
      · refine WS.pure rfl rfl (fun _ => LV.as (c := true) (LV.mv rfl) hg1) ?_
        refine WS.pure rfl rfl (fun _ => LV.mv rfl) ?_
        iterate 3 refine WS.off rfl rfl ?_
        refine WS.offL rfl rfl ?_
        iterate 3 refine WS.off rfl rfl ?_
        refine WS.offL rfl rfl ?_
        refine WS.off rfl rfl ?_
        refine WS.offL rfl rfl ?_
        refine WS.off rfl rfl ?_
        refine WS.pure rfl rfl (fun _ => LV.pickT rfl rfl) ?_
        refine WS.pure rfl rfl (fun _ => LV.asg rfl) ?_
        refine WS.nil (blockQ.n <| thenQ.n ?_)
        refine WC.region ?_
        refine WL.lv rfl (LV.mv rfl) ?_
        refine WL.lv rfl (LV.add rfl rfl (wr64 (by omega) (by omega))) ?_
        refine WL.lv rfl (LV.asg rfl) ?_
        refine WL.nil (thenQ.n ?_)
        exact ⟨_, by omega, true, i + 1, by omega, by omega, (kf_yes q1 hg1), hS6, rfl, Weak.cons rfl <| Weak.cons rfl <| Weak.cons rfl <| Weak.cons rfl <| Weak.cons rfl <| Weak.cons rfl <| Weak.cons rfl <| Weak.cons rfl <| Weak.nil _⟩
      · refine WS.pure rfl rfl (fun _ => LV.as (c := false) (LV.mv rfl) hg1) ?_
        iterate 2 refine WS.pure rfl rfl (fun _ => LV.mv rfl) ?_
        refine WS.pure rfl rfl (fun _ => LV.nilCheck rfl) ?_
        refine WS.pure rfl rfl (fun _ => LV.fieldA Try.underlying52 rfl ti50.sz rfl) ?_
        refine WS.look rfl rfl (fun _ hk_ => LV.load1 Try.underlying50 rfl rfl (Blk.cellN (SH.at hS6 (.tail _ (.tail _ (.tail _ (.tail _ (.tail _ (.head _))))))) 0 rfl _ hk_)) ?_
        refine WS.pure rfl rfl (fun _ => LV.mv rfl) ?_
        obtain ⟨A2, c2, e1, g1⟩ := St.elt (SH.rd hS6 (.tail _ (.tail _ (.tail _ (.tail _ (.tail _ (.tail _ (.head _)))))))) dSV i (by omega) (by omega)
        refine WS.pure rfl rfl (fun _ => LV.idxA Try.underlying50 ti54.sz rfl e1 rfl (by omega) (by omega)) ?_
        refine WS.pure rfl rfl (fun _ => LV.fieldA Try.underlying54 rfl ti9.sz rfl) ?_
        refine WS.look rfl rfl (fun _ hk_ => LV.load1 (v := (.string ((rs1.getD (i).toNat dSV).1))) Try.underlying9 rfl rfl (g1 _ hk_ 0 _ rfl)) ?_
        refine WS.pure rfl rfl (fun _ => LV.fieldA Try.underlying34 rfl ti9.sz rfl) ?_
        refine WS.look rfl rfl (fun _ hk_ => LV.load1 Try.underlying9 rfl rfl (Blk.cellN (SH.at hS6 (.tail _ (.tail _ (.tail _ (.tail _ (.tail _ (.tail _ (.tail _ (.tail _ (.tail _ (.head _))))))))))) 1 rfl _ hk_)) ?_
        refine WS.pure rfl rfl (fun _ => LV.eqSP (a := ((rs1.getD (i).toNat dSV).1)) (b := fl) rfl rfl) ?_
        refine WS.pure rfl rfl (fun _ => LV.pickF rfl rfl) ?_
        refine WS.pure rfl rfl (fun _ => LV.asg rfl) ?_
        refine WS.nil (blockQ.n <| thenQ.n ?_)
        refine WC.region ?_
        refine WL.lv rfl (LV.mv rfl) ?_
        refine WL.lv rfl (LV.add rfl rfl (wr64 (by omega) (by omega))) ?_
        refine WL.lv rfl (LV.asg rfl) ?_
        refine WL.nil (thenQ.n ?_)
        exact ⟨_, by omega, decide (((rs1.getD (i).toNat dSV).1) = fl), i + 1, by omega, by omega, (kf_no ilo q1 hg1), hS6, rfl, Weak.cons rfl <| Weak.cons rfl <| Weak.cons rfl <| Weak.cons rfl <| Weak.cons rfl <| Weak.cons rfl <| Weak.cons rfl <| Weak.cons rfl <| Weak.nil _⟩
    · skip
      refine WC.exit (thenQ.x <| thenQ.x <| blockQ.hit <| thenQ.n ?_)
      refine WC.seq ?_
      refine WC.region ?_
      iterate 2 refine WL.lv rfl (LV.mv rfl) ?_
      refine WL.lv rfl (LV.loadAgg (cs := [(.int .i64 ((o).1)), (.int .u64 ((o).2))]) Try.underlying25 rfl ti25 rfl rfl (Blk.agg (SH.at hL1 (.tail _ (.tail _ (.tail _ (.tail _ (.tail _ (.tail _ (.tail _ (.tail _ (.head _)))))))))) _ (KB.refl No _))) ?_
      have hz3 := find_calls (w := w5) (word := qw) (o := o) (SH.ixr5 (T1 := 64) (T2 := 73) (X := (⟨b3, m1, m2, kv1, kw1, Pa1, Pb1, (DOS (l.take 20))⟩ : IXS)) hL1 (.head _) (.tail _ (.head _)) (.tail _ (.tail _ (.head _))) (.tail _ (.tail _ (.tail _ (.head _)))) (.tail _ (.tail _ (.tail _ (.tail _ (.head _)))))) hv1 (by omega) (hsw) (wo) 
      refine WL.call rfl (XC.fn Try.func11 (by kernel_rfl) rfl rfl rfl) (hz3) ?_
      rintro v_ w6 ⟨A3, c3, rfl, hS7⟩
      have hS8 := SH.joinN hL1 hS7
      refine WL.lv rfl (LV.asg rfl) ?_
      refine WL.nil (thenQ.n ?_)
      refine WC.seq ?_
      refine WC.region ?_
      refine WL.lv rfl (LV.mv rfl) ?_
      have hz4 := fork_calls (w := w6) (X := (⟨b3, m1, m2, kv1, kw1, Pa1, Pb1, (DOS (l.take 20))⟩ : IXS)) (SH.ixr5 (T1 := 64) (T2 := 73) (X := (⟨b3, m1, m2, kv1, kw1, Pa1, Pb1, (DOS (l.take 20))⟩ : IXS)) hS8 (.tail _ (.head _)) (.tail _ (.tail _ (.head _))) (.tail _ (.tail _ (.tail _ (.head _)))) (.tail _ (.tail _ (.tail _ (.tail _ (.head _))))) (.tail _ (.tail _ (.tail _ (.tail _ (.tail _ (.head _))))))) hv1 
      refine WL.call rfl (XC.fn Try.func18 (by kernel_rfl) rfl rfl rfl) (hz4) ?_
      rintro v_ w7 ⟨b4, m4, m5, rfl, hS9⟩
      have hS10 := SH.joinN hS8 hS9
      refine WL.lv rfl (LV.asg rfl) ?_
      refine WL.nil (thenQ.n ?_)
      refine WC.seq ?_
      refine WC.region ?_
      refine WL.lv rfl (LV.mv rfl) ?_
      refine WL.lv rfl (LV.fieldA Try.underlying34 rfl ti9.sz rfl) ?_
      refine WL.lv rfl (LV.load1 Try.underlying9 rfl rfl (Blk.cellN (SH.at hS10 (.tail _ (.tail _ (.tail _ (.tail _ (.tail _ (.tail _ (.tail _ (.tail _ (.tail _ (.tail _ (.tail _ (.tail _ (.tail _ (.head _))))))))))))))) 1 rfl _ (KB.refl No _))) ?_
      refine WL.lv rfl (LV.mv rfl) ?_
      rcases Decidable.em (NAM fl) with hnm1 | hnm1
      · have hS11 : SH w No w7 [insE idS eSI 73 Pb1, blkE b4 71 #[(.map (some m4)), (.map (some m5))], mapG kS kV m4 kv1, mapG kS kV m5 kw1, rowE eSI 48 (.slice A3 ((FIND (⟨b3, m1, m2, kv1, kw1, Pa1, Pb1, (DOS (l.take 20))⟩ : IXS).F (LOW qw) o).length) c3) (FIND (⟨b3, m1, m2, kv1, kw1, Pa1, Pb1, (DOS (l.take 20))⟩ : IXS).F (LOW qw) o), blkE b3 71 #[(.map (some m1)), (.map (some m2))], mapG kS kV m1 kv1, mapG kS kV m2 kw1, insE idS eIt 64 Pa1, blkE yb1 52 #[(.slice A1 rs1.length c1)], rowE eSV 54 (.slice A1 rs1.length c1) rs1, insE idS eIt 64 Pc1, blkE b2 25 #[(.int .i64 ((o).1)), (.int .u64 ((o).2))], blkE b1 34 #[(.bool dr), (.string fl), (.slice A_it it.length c_it)]] := (SH.front [_, _, _, _, _, _, _, _] hS10)
        have hS12 : SH w No w7 [insE idS eIt 64 Pa1, insE idS eSI 73 Pb1, blkE b4 71 #[(.map (some m4)), (.map (some m5))], mapG kS kV m4 kv1, mapG kS kV m5 kw1, rowE eSI 48 (.slice A3 ((FIND (⟨b3, m1, m2, kv1, kw1, Pa1, Pb1, (DOS (l.take 20))⟩ : IXS).F (LOW qw) o).length) c3) (FIND (⟨b3, m1, m2, kv1, kw1, Pa1, Pb1, (DOS (l.take 20))⟩ : IXS).F (LOW qw) o), blkE b3 71 #[(.map (some m1)), (.map (some m2))], mapG kS kV m1 kv1, mapG kS kV m2 kw1, blkE yb1 52 #[(.slice A1 rs1.length c1)], rowE eSV 54 (.slice A1 rs1.length c1) rs1, insE idS eIt 64 Pc1, blkE b2 25 #[(.int .i64 ((o).1)), (.int .u64 ((o).2))], blkE b1 34 #[(.bool dr), (.string fl), (.slice A_it it.length c_it)]] := (SH.front [_, _, _, _, _, _, _, _] hS11)
        have hS13 : SH w No w7 [mapG kS kV m5 kw1, insE idS eIt 64 Pa1, insE idS eSI 73 Pb1, blkE b4 71 #[(.map (some m4)), (.map (some m5))], mapG kS kV m4 kv1, rowE eSI 48 (.slice A3 ((FIND (⟨b3, m1, m2, kv1, kw1, Pa1, Pb1, (DOS (l.take 20))⟩ : IXS).F (LOW qw) o).length) c3) (FIND (⟨b3, m1, m2, kv1, kw1, Pa1, Pb1, (DOS (l.take 20))⟩ : IXS).F (LOW qw) o), blkE b3 71 #[(.map (some m1)), (.map (some m2))], mapG kS kV m1 kv1, mapG kS kV m2 kw1, blkE yb1 52 #[(.slice A1 rs1.length c1)], rowE eSV 54 (.slice A1 rs1.length c1) rs1, insE idS eIt 64 Pc1, blkE b2 25 #[(.int .i64 ((o).1)), (.int .u64 ((o).2))], blkE b1 34 #[(.bool dr), (.string fl), (.slice A_it it.length c_it)]] := (SH.front [_, _, _, _] hS12)
        have hS14 : SH w No w7 [mapG kS kV m4 kv1, mapG kS kV m5 kw1, insE idS eIt 64 Pa1, insE idS eSI 73 Pb1, blkE b4 71 #[(.map (some m4)), (.map (some m5))], rowE eSI 48 (.slice A3 ((FIND (⟨b3, m1, m2, kv1, kw1, Pa1, Pb1, (DOS (l.take 20))⟩ : IXS).F (LOW qw) o).length) c3) (FIND (⟨b3, m1, m2, kv1, kw1, Pa1, Pb1, (DOS (l.take 20))⟩ : IXS).F (LOW qw) o), blkE b3 71 #[(.map (some m1)), (.map (some m2))], mapG kS kV m1 kv1, mapG kS kV m2 kw1, blkE yb1 52 #[(.slice A1 rs1.length c1)], rowE eSV 54 (.slice A1 rs1.length c1) rs1, insE idS eIt 64 Pc1, blkE b2 25 #[(.int .i64 ((o).1)), (.int .u64 ((o).2))], blkE b1 34 #[(.bool dr), (.string fl), (.slice A_it it.length c_it)]] := (SH.front [_, _, _, _] hS13)
        have hS15 : SH w No w7 [blkE b4 71 #[(.map (some m4)), (.map (some m5))], mapG kS kV m4 kv1, mapG kS kV m5 kw1, insE idS eIt 64 Pa1, insE idS eSI 73 Pb1, rowE eSI 48 (.slice A3 ((FIND (⟨b3, m1, m2, kv1, kw1, Pa1, Pb1, (DOS (l.take 20))⟩ : IXS).F (LOW qw) o).length) c3) (FIND (⟨b3, m1, m2, kv1, kw1, Pa1, Pb1, (DOS (l.take 20))⟩ : IXS).F (LOW qw) o), blkE b3 71 #[(.map (some m1)), (.map (some m2))], mapG kS kV m1 kv1, mapG kS kV m2 kw1, blkE yb1 52 #[(.slice A1 rs1.length c1)], rowE eSV 54 (.slice A1 rs1.length c1) rs1, insE idS eIt 64 Pc1, blkE b2 25 #[(.int .i64 ((o).1)), (.int .u64 ((o).2))], blkE b1 34 #[(.bool dr), (.string fl), (.slice A_it it.length c_it)]] := (SH.front [_, _, _, _] hS14)
        have hT1 := SH.sub (Es := [_, _, _, _, _]) hS15
        have hz5 := puty_calls (w := w7) (X := (⟨b4, m4, m5, kv1, kw1, Pa1, Pb1, (DOS (l.take 20))⟩ : IXS)) (file := fl) (l := (it.take 20)) (A_l := (cutA A_it c_it 6)) (c_l := c_it) hT1 (SH.stA hS15 (few_rd 20 h_it)) (ixw_turn hv1) (by omega) (hz) (hl20_) ((fun y hy_ => ⟨hfine1 y hy_, hyi y (List.mem_of_mem_take hy_)⟩)) hnm1 
        refine WL.call rfl (XC.fn Try.func19 (by kernel_rfl) rfl rfl rfl) (hz5) ?_
        rintro v_ w8 ⟨kv2, kw2, Pa2, Pb2, rfl, hsub1, hsub2, hv2, hU1⟩
        have hS16 := SH.back (Es := [_, _, _, _, _]) hS15 hU1
        refine WL.lv rfl (LV.asg rfl) ?_
        refine WL.nil (thenQ.n ?_)
        refine WC.seq ?_
        refine WC.region ?_
        iterate 2 refine WL.lv rfl (LV.mv rfl) ?_
        refine WL.lv rfl (LV.loadAgg (cs := [(.int .i64 ((o).1)), (.int .u64 ((o).2))]) Try.underlying25 rfl ti25 rfl rfl (Blk.agg (SH.at hS16 (.tail _ (.tail _ (.tail _ (.tail _ (.tail _ (.tail _ (.tail _ (.tail _ (.tail _ (.tail _ (.tail _ (.tail _ (.head _)))))))))))))) _ (KB.refl No _))) ?_
        have hz6 := find_calls (w := w8) (word := qw) (o := o) (SH.ixr5 (T1 := 64) (T2 := 73) (X := (⟨b4, m4, m5, kv2, kw2, Pa2, Pb2, (PUTF fl (it.take 20) (DOS (l.take 20)))⟩ : IXS)) hS16 (.head _) (.tail _ (.head _)) (.tail _ (.tail _ (.head _))) (.tail _ (.tail _ (.tail _ (.head _)))) (.tail _ (.tail _ (.tail _ (.tail _ (.head _)))))) hv2 (by omega) (hsw) (wo) 
        refine WL.call rfl (XC.fn Try.func11 (by kernel_rfl) rfl rfl rfl) (hz6) ?_
        rintro v_ w9 ⟨A4, c4, rfl, hS17⟩
        have hS18 := SH.joinN hS16 hS17
        refine WL.lv rfl (LV.asg rfl) ?_
        refine WL.nil (thenQ.n ?_)
        refine WC.seq ?_
        refine WC.region ?_
        refine WL.lv rfl (LV.mv rfl) ?_
        refine WL.lv rfl (LV.fieldA Try.underlying34 rfl ti9.sz rfl) ?_
        refine WL.lv rfl (LV.load1 Try.underlying9 rfl rfl (Blk.cellN (SH.at hS18 (.tail _ (.tail _ (.tail _ (.tail _ (.tail _ (.tail _ (.tail _ (.tail _ (.tail _ (.tail _ (.tail _ (.tail _ (.tail _ (.tail _ (.head _)))))))))))))))) 1 rfl _ (KB.refl No _))) ?_
        refine WL.lv rfl (LV.mv rfl) ?_
        have hS19 : SH w No w9 [insE idS eSI 73 Pb2, rowE eSI 48 (.slice A4 ((FIND (⟨b4, m4, m5, kv2, kw2, Pa2, Pb2, (PUTF fl (it.take 20) (DOS (l.take 20)))⟩ : IXS).F (LOW qw) o).length) c4) (FIND (⟨b4, m4, m5, kv2, kw2, Pa2, Pb2, (PUTF fl (it.take 20) (DOS (l.take 20)))⟩ : IXS).F (LOW qw) o), blkE b4 71 #[(.map (some m4)), (.map (some m5))], mapG kS kV m4 kv2, mapG kS kV m5 kw2, insE idS eIt 64 Pa2, rowE eSI 48 (.slice A3 ((FIND (⟨b3, m1, m2, kv1, kw1, Pa1, Pb1, (DOS (l.take 20))⟩ : IXS).F (LOW qw) o).length) c3) (FIND (⟨b3, m1, m2, kv1, kw1, Pa1, Pb1, (DOS (l.take 20))⟩ : IXS).F (LOW qw) o), blkE b3 71 #[(.map (some m1)), (.map (some m2))], mapG kS kV m1 kv1, mapG kS kV m2 kw1, blkE yb1 52 #[(.slice A1 rs1.length c1)], rowE eSV 54 (.slice A1 rs1.length c1) rs1, insE idS eIt 64 Pc1, blkE b2 25 #[(.int .i64 ((o).1)), (.int .u64 ((o).2))], blkE b1 34 #[(.bool dr), (.string fl), (.slice A_it it.length c_it)]] := (SH.front [_, _, _, _, _] hS18)
        have hS20 : SH w No w9 [insE idS eIt 64 Pa2, insE idS eSI 73 Pb2, rowE eSI 48 (.slice A4 ((FIND (⟨b4, m4, m5, kv2, kw2, Pa2, Pb2, (PUTF fl (it.take 20) (DOS (l.take 20)))⟩ : IXS).F (LOW qw) o).length) c4) (FIND (⟨b4, m4, m5, kv2, kw2, Pa2, Pb2, (PUTF fl (it.take 20) (DOS (l.take 20)))⟩ : IXS).F (LOW qw) o), blkE b4 71 #[(.map (some m4)), (.map (some m5))], mapG kS kV m4 kv2, mapG kS kV m5 kw2, rowE eSI 48 (.slice A3 ((FIND (⟨b3, m1, m2, kv1, kw1, Pa1, Pb1, (DOS (l.take 20))⟩ : IXS).F (LOW qw) o).length) c3) (FIND (⟨b3, m1, m2, kv1, kw1, Pa1, Pb1, (DOS (l.take 20))⟩ : IXS).F (LOW qw) o), blkE b3 71 #[(.map (some m1)), (.map (some m2))], mapG kS kV m1 kv1, mapG kS kV m2 kw1, blkE yb1 52 #[(.slice A1 rs1.length c1)], rowE eSV 54 (.slice A1 rs1.length c1) rs1, insE idS eIt 64 Pc1, blkE b2 25 #[(.int .i64 ((o).1)), (.int .u64 ((o).2))], blkE b1 34 #[(.bool dr), (.string fl), (.slice A_it it.length c_it)]] := (SH.front [_, _, _, _, _] hS19)
        have hS21 : SH w No w9 [mapG kS kV m5 kw2, insE idS eIt 64 Pa2, insE idS eSI 73 Pb2, rowE eSI 48 (.slice A4 ((FIND (⟨b4, m4, m5, kv2, kw2, Pa2, Pb2, (PUTF fl (it.take 20) (DOS (l.take 20)))⟩ : IXS).F (LOW qw) o).length) c4) (FIND (⟨b4, m4, m5, kv2, kw2, Pa2, Pb2, (PUTF fl (it.take 20) (DOS (l.take 20)))⟩ : IXS).F (LOW qw) o), blkE b4 71 #[(.map (some m4)), (.map (some m5))], mapG kS kV m4 kv2, rowE eSI 48 (.slice A3 ((FIND (⟨b3, m1, m2, kv1, kw1, Pa1, Pb1, (DOS (l.take 20))⟩ : IXS).F (LOW qw) o).length) c3) (FIND (⟨b3, m1, m2, kv1, kw1, Pa1, Pb1, (DOS (l.take 20))⟩ : IXS).F (LOW qw) o), blkE b3 71 #[(.map (some m1)), (.map (some m2))], mapG kS kV m1 kv1, mapG kS kV m2 kw1, blkE yb1 52 #[(.slice A1 rs1.length c1)], rowE eSV 54 (.slice A1 rs1.length c1) rs1, insE idS eIt 64 Pc1, blkE b2 25 #[(.int .i64 ((o).1)), (.int .u64 ((o).2))], blkE b1 34 #[(.bool dr), (.string fl), (.slice A_it it.length c_it)]] := (SH.front [_, _, _, _, _] hS20)
        have hS22 : SH w No w9 [mapG kS kV m4 kv2, mapG kS kV m5 kw2, insE idS eIt 64 Pa2, insE idS eSI 73 Pb2, rowE eSI 48 (.slice A4 ((FIND (⟨b4, m4, m5, kv2, kw2, Pa2, Pb2, (PUTF fl (it.take 20) (DOS (l.take 20)))⟩ : IXS).F (LOW qw) o).length) c4) (FIND (⟨b4, m4, m5, kv2, kw2, Pa2, Pb2, (PUTF fl (it.take 20) (DOS (l.take 20)))⟩ : IXS).F (LOW qw) o), blkE b4 71 #[(.map (some m4)), (.map (some m5))], rowE eSI 48 (.slice A3 ((FIND (⟨b3, m1, m2, kv1, kw1, Pa1, Pb1, (DOS (l.take 20))⟩ : IXS).F (LOW qw) o).length) c3) (FIND (⟨b3, m1, m2, kv1, kw1, Pa1, Pb1, (DOS (l.take 20))⟩ : IXS).F (LOW qw) o), blkE b3 71 #[(.map (some m1)), (.map (some m2))], mapG kS kV m1 kv1, mapG kS kV m2 kw1, blkE yb1 52 #[(.slice A1 rs1.length c1)], rowE eSV 54 (.slice A1 rs1.length c1) rs1, insE idS eIt 64 Pc1, blkE b2 25 #[(.int .i64 ((o).1)), (.int .u64 ((o).2))], blkE b1 34 #[(.bool dr), (.string fl), (.slice A_it it.length c_it)]] := (SH.front [_, _, _, _, _] hS21)
        have hS23 : SH w No w9 [blkE b4 71 #[(.map (some m4)), (.map (some m5))], mapG kS kV m4 kv2, mapG kS kV m5 kw2, insE idS eIt 64 Pa2, insE idS eSI 73 Pb2, rowE eSI 48 (.slice A4 ((FIND (⟨b4, m4, m5, kv2, kw2, Pa2, Pb2, (PUTF fl (it.take 20) (DOS (l.take 20)))⟩ : IXS).F (LOW qw) o).length) c4) (FIND (⟨b4, m4, m5, kv2, kw2, Pa2, Pb2, (PUTF fl (it.take 20) (DOS (l.take 20)))⟩ : IXS).F (LOW qw) o), rowE eSI 48 (.slice A3 ((FIND (⟨b3, m1, m2, kv1, kw1, Pa1, Pb1, (DOS (l.take 20))⟩ : IXS).F (LOW qw) o).length) c3) (FIND (⟨b3, m1, m2, kv1, kw1, Pa1, Pb1, (DOS (l.take 20))⟩ : IXS).F (LOW qw) o), blkE b3 71 #[(.map (some m1)), (.map (some m2))], mapG kS kV m1 kv1, mapG kS kV m2 kw1, blkE yb1 52 #[(.slice A1 rs1.length c1)], rowE eSV 54 (.slice A1 rs1.length c1) rs1, insE idS eIt 64 Pc1, blkE b2 25 #[(.int .i64 ((o).1)), (.int .u64 ((o).2))], blkE b1 34 #[(.bool dr), (.string fl), (.slice A_it it.length c_it)]] := (SH.front [_, _, _, _, _] hS22)
        have hT2 := SH.sub (Es := [_, _, _, _, _]) hS23
        have hz7 := puty_calls (w := w9) (X := (⟨b4, m4, m5, kv2, kw2, Pa2, Pb2, (PUTF fl (it.take 20) (DOS (l.take 20)))⟩ : IXS)) (file := fl) (l := (it.take 20)) (A_l := (cutA A_it c_it 6)) (c_l := c_it) hT2 (SH.stA hS23 (few_rd 20 h_it)) hv2 (by omega) (hz) (hl20_) ((fun y hy_ => ⟨hfine1 y hy_, hyi y (List.mem_of_mem_take hy_)⟩)) hnm1 
        refine WL.call rfl (XC.fn Try.func19 (by kernel_rfl) rfl rfl rfl) (hz7) ?_
        rintro v_ w10 ⟨kv3, kw3, Pa3, Pb3, rfl, hsub3, hsub4, hv3, hU2⟩
        have hS24 := SH.back (Es := [_, _, _, _, _]) hS23 hU2
        refine WL.lv rfl (LV.asg rfl) ?_
        refine WL.nil (thenQ.n ?_)
        iterate 2 refine WC.seq ?_
        refine WC.region ?_
        iterate 2 refine WL.lv rfl (LV.mv rfl) ?_
        refine WL.lv rfl (LV.as (c := false) (LV.neI rfl rfl) (by decide)) ?_
        iterate 3 refine WL.lv rfl (LV.mv rfl) ?_
        refine WL.lv rfl (LV.loadAgg (cs := [(.int .i64 ((o).1)), (.int .u64 ((o).2))]) Try.underlying25 rfl ti25 rfl rfl (Blk.agg (SH.at hS24 (.tail _ (.tail _ (.tail _ (.tail _ (.tail _ (.tail _ (.tail _ (.tail _ (.tail _ (.tail _ (.tail _ (.tail _ (.tail _ (.head _))))))))))))))) _ (KB.refl No _))) ?_
        have hz8 := find_calls (w := w10) (word := qw) (o := o) (SH.ixr5 (T1 := 64) (T2 := 73) (X := (⟨b4, m4, m5, kv3, kw3, Pa3, Pb3, (PUTF fl (it.take 20) (PUTF fl (it.take 20) (DOS (l.take 20))))⟩ : IXS)) hS24 (.head _) (.tail _ (.head _)) (.tail _ (.tail _ (.head _))) (.tail _ (.tail _ (.tail _ (.head _)))) (.tail _ (.tail _ (.tail _ (.tail _ (.head _)))))) hv3 (by omega) (hsw) (wo) 
        refine WL.call rfl (XC.fn Try.func11 (by kernel_rfl) rfl rfl rfl) (hz8) ?_
        rintro v_ w11 ⟨A5, c5, rfl, hS25⟩
        have hS26 := SH.joinN hS24 hS25
        refine WL.lv rfl (LV.mv rfl) ?_
        have hz9 := Calls.asB (w := w11) (shits_calls  (SH.rd hS26 (.head _)) rfl (SH.rd hS26 (.tail _ (.tail _ (.tail _ (.tail _ (.tail _ (.tail _ (.head _)))))))) rfl ) (decide_eq_true ((by first | rfl | exact congrArg (fun F_ => FIND F_ (LOW qw) o) put_twice))) 
        refine WL.call rfl (XC.fn Try.func10 (by kernel_rfl) rfl rfl rfl) (hz9) ?_
        rintro v_ w12 ⟨rfl, hk4⟩
        have hS27 := SH.same hS26 hk4
        refine WL.lv rfl (LV.notB rfl) ?_
        refine WL.lv rfl (LV.pickF rfl rfl) ?_
        iterate 3 refine WL.lv rfl (LV.mv rfl) ?_
        refine WL.lv rfl (LV.loadAgg (cs := [(.int .i64 ((o).1)), (.int .u64 ((o).2))]) Try.underlying25 rfl ti25 rfl rfl (Blk.agg (SH.at hS27 (.tail _ (.tail _ (.tail _ (.tail _ (.tail _ (.tail _ (.tail _ (.tail _ (.tail _ (.tail _ (.tail _ (.tail _ (.tail _ (.tail _ (.head _)))))))))))))))) _ (KB.refl No _))) ?_
        have hz10 := find_calls (w := w12) (word := qw) (o := o) (SH.ixr5 (T1 := 64) (T2 := 73) (X := (⟨b3, m1, m2, kv1, kw1, Pa3, Pb3, (DOS (l.take 20))⟩ : IXS)) hS27 (.tail _ (.tail _ (.tail _ (.tail _ (.tail _ (.tail _ (.tail _ (.tail _ (.head _))))))))) (.tail _ (.tail _ (.tail _ (.tail _ (.tail _ (.tail _ (.tail _ (.tail _ (.tail _ (.head _)))))))))) (.tail _ (.tail _ (.tail _ (.tail _ (.tail _ (.tail _ (.tail _ (.tail _ (.tail _ (.tail _ (.head _))))))))))) (.tail _ (.tail _ (.tail _ (.tail _ (.head _))))) (.tail _ (.tail _ (.tail _ (.tail _ (.tail _ (.head _))))))) (ixw_more (ixw_more hv1 hsub1 hsub2) hsub3 hsub4) (by omega) (hsw) (wo) 
        refine WL.call rfl (XC.fn Try.func11 (by kernel_rfl) rfl rfl rfl) (hz10) ?_
        rintro v_ w13 ⟨A6, c6, rfl, hS28⟩
        have hS29 := SH.joinN hS27 hS28
        refine WL.lv rfl (LV.mv rfl) ?_
        have hz11 := Calls.asB (w := w13) (shits_calls  (SH.rd hS29 (.head _)) rfl (SH.rd hS29 (.tail _ (.tail _ (.tail _ (.tail _ (.tail _ (.tail _ (.tail _ (.tail _ (.head _)))))))))) rfl ) (decide_eq_true (rfl)) 
        refine WL.call rfl (XC.fn Try.func10 (by kernel_rfl) rfl rfl rfl) (hz11) ?_
        rintro v_ w14 ⟨rfl, hk5⟩
        have hS30 := SH.same hS29 hk5
        refine WL.lv rfl (LV.notB rfl) ?_
        refine WL.lv rfl (LV.pickF rfl rfl) ?_
        refine WL.nil (thenQ.n ?_)
        refine WC.condF rfl ?_
        refine WC.skip (thenQ.n ?_)
        iterate 2 refine WC.seq ?_
        refine WC.region ?_
        refine WL.lv rfl (LV.mv rfl) ?_
        refine WL.lv rfl (LV.as (c := true) (LV.eqI rfl rfl) (by decide)) ?_
        iterate 2 refine WL.lv rfl (LV.mv rfl) ?_
        refine WL.lv rfl (LV.notB rfl) ?_
        refine WL.lv rfl (LV.pickT rfl rfl) ?_
        refine WL.nil (thenQ.n ?_)
        refine WC.cond (b := !known) rfl (fun hc2 => ?_) (fun hc2 => ?_)
        · skip
          refine WC.seq ?_
          have hS31 := SH.drew hS30
          refine WC.regionD [] (fun _ => True) [(.pure, 0), (.pure, 1), (.forced, 2), (.forced, 3), (.pure, 4), (.pure, 5), (.pure, 6), (.pure, 7), (.pure, 10), (.forced, 8), (.forced, 9), (.forced, 11), (.pure, 12), (.pure, 13), (.pure, 14), (.pure, 15), (.pure, 18), (.fork, 0), (.fork, 0), (.fork, 0), (.fork, 0), (.fork, 0), (.fork, 0), (.fork, 0)] (by kernel_rfl) (by kernel_rfl) trivial ?_
          refine WS.pure rfl rfl (fun _ => LV.mv rfl) ?_
          have hkz_ : (lookL (PUTF fl (it.take 20) (PUTF fl (it.take 20) (DOS (l.take 20)))) fl).isSome = true := put_known (PUTF_ns (ixw_more (ixw_more hv1 hsub1 hsub2) hsub3 hsub4).ns)
          have hgo_ := kf_gone hD1 (by omega) q1 hc2
          refine WS.pure rfl rfl (fun _ => LV.fieldA Try.underlying34 rfl ti9.sz rfl) ?_
          refine WS.lvT rfl rfl (LV.load1 Try.underlying9 rfl rfl (Blk.cellN (SH.at hS31 (.tail _ (.tail _ (.tail _ (.tail _ (.tail _ (.tail _ (.tail _ (.tail _ (.tail _ (.tail _ (.tail _ (.tail _ (.tail _ (.tail _ (.tail _ (.tail _ (.head _)))))))))))))))))) 1 rfl _ (KB.refl No _))) ?_
          have hS32 : SH w No w14.drew [insE idS eSI 73 Pb3, rowE eSI 48 (.slice A6 ((FIND (⟨b3, m1, m2, kv1, kw1, Pa3, Pb3, (DOS (l.take 20))⟩ : IXS).F (LOW qw) o).length) c6) (FIND (⟨b3, m1, m2, kv1, kw1, Pa3, Pb3, (DOS (l.take 20))⟩ : IXS).F (LOW qw) o), rowE eSI 48 (.slice A5 ((FIND (⟨b4, m4, m5, kv3, kw3, Pa3, Pb3, (PUTF fl (it.take 20) (PUTF fl (it.take 20) (DOS (l.take 20))))⟩ : IXS).F (LOW qw) o).length) c5) (FIND (⟨b4, m4, m5, kv3, kw3, Pa3, Pb3, (PUTF fl (it.take 20) (PUTF fl (it.take 20) (DOS (l.take 20))))⟩ : IXS).F (LOW qw) o), blkE b4 71 #[(.map (some m4)), (.map (some m5))], mapG kS kV m4 kv3, mapG kS kV m5 kw3, insE idS eIt 64 Pa3, rowE eSI 48 (.slice A4 ((FIND (⟨b4, m4, m5, kv2, kw2, Pa2, Pb2, (PUTF fl (it.take 20) (DOS (l.take 20)))⟩ : IXS).F (LOW qw) o).length) c4) (FIND (⟨b4, m4, m5, kv2, kw2, Pa2, Pb2, (PUTF fl (it.take 20) (DOS (l.take 20)))⟩ : IXS).F (LOW qw) o), rowE eSI 48 (.slice A3 ((FIND (⟨b3, m1, m2, kv1, kw1, Pa1, Pb1, (DOS (l.take 20))⟩ : IXS).F (LOW qw) o).length) c3) (FIND (⟨b3, m1, m2, kv1, kw1, Pa1, Pb1, (DOS (l.take 20))⟩ : IXS).F (LOW qw) o), blkE b3 71 #[(.map (some m1)), (.map (some m2))], mapG kS kV m1 kv1, mapG kS kV m2 kw1, blkE yb1 52 #[(.slice A1 rs1.length c1)], rowE eSV 54 (.slice A1 rs1.length c1) rs1, insE idS eIt 64 Pc1, blkE b2 25 #[(.int .i64 ((o).1)), (.int .u64 ((o).2))], blkE b1 34 #[(.bool dr), (.string fl), (.slice A_it it.length c_it)]] := (SH.front [_, _, _, _, _, _] hS31)
          have hS33 : SH w No w14.drew [insE idS eIt 64 Pa3, insE idS eSI 73 Pb3, rowE eSI 48 (.slice A6 ((FIND (⟨b3, m1, m2, kv1, kw1, Pa3, Pb3, (DOS (l.take 20))⟩ : IXS).F (LOW qw) o).length) c6) (FIND (⟨b3, m1, m2, kv1, kw1, Pa3, Pb3, (DOS (l.take 20))⟩ : IXS).F (LOW qw) o), rowE eSI 48 (.slice A5 ((FIND (⟨b4, m4, m5, kv3, kw3, Pa3, Pb3, (PUTF fl (it.take 20) (PUTF fl (it.take 20) (DOS (l.take 20))))⟩ : IXS).F (LOW qw) o).length) c5) (FIND (⟨b4, m4, m5, kv3, kw3, Pa3, Pb3, (PUTF fl (it.take 20) (PUTF fl (it.take 20) (DOS (l.take 20))))⟩ : IXS).F (LOW qw) o), blkE b4 71 #[(.map (some m4)), (.map (some m5))], mapG kS kV m4 kv3, mapG kS kV m5 kw3, rowE eSI 48 (.slice A4 ((FIND (⟨b4, m4, m5, kv2, kw2, Pa2, Pb2, (PUTF fl (it.take 20) (DOS (l.take 20)))⟩ : IXS).F (LOW qw) o).length) c4) (FIND (⟨b4, m4, m5, kv2, kw2, Pa2, Pb2, (PUTF fl (it.take 20) (DOS (l.take 20)))⟩ : IXS).F (LOW qw) o), rowE eSI 48 (.slice A3 ((FIND (⟨b3, m1, m2, kv1, kw1, Pa1, Pb1, (DOS (l.take 20))⟩ : IXS).F (LOW qw) o).length) c3) (FIND (⟨b3, m1, m2, kv1, kw1, Pa1, Pb1, (DOS (l.take 20))⟩ : IXS).F (LOW qw) o), blkE b3 71 #[(.map (some m1)), (.map (some m2))], mapG kS kV m1 kv1, mapG kS kV m2 kw1, blkE yb1 52 #[(.slice A1 rs1.length c1)], rowE eSV 54 (.slice A1 rs1.length c1) rs1, insE idS eIt 64 Pc1, blkE b2 25 #[(.int .i64 ((o).1)), (.int .u64 ((o).2))], blkE b1 34 #[(.bool dr), (.string fl), (.slice A_it it.length c_it)]] := (SH.front [_, _, _, _, _, _] hS32)
          have hS34 : SH w No w14.drew [mapG kS kV m5 kw3, insE idS eIt 64 Pa3, insE idS eSI 73 Pb3, rowE eSI 48 (.slice A6 ((FIND (⟨b3, m1, m2, kv1, kw1, Pa3, Pb3, (DOS (l.take 20))⟩ : IXS).F (LOW qw) o).length) c6) (FIND (⟨b3, m1, m2, kv1, kw1, Pa3, Pb3, (DOS (l.take 20))⟩ : IXS).F (LOW qw) o), rowE eSI 48 (.slice A5 ((FIND (⟨b4, m4, m5, kv3, kw3, Pa3, Pb3, (PUTF fl (it.take 20) (PUTF fl (it.take 20) (DOS (l.take 20))))⟩ : IXS).F (LOW qw) o).length) c5) (FIND (⟨b4, m4, m5, kv3, kw3, Pa3, Pb3, (PUTF fl (it.take 20) (PUTF fl (it.take 20) (DOS (l.take 20))))⟩ : IXS).F (LOW qw) o), blkE b4 71 #[(.map (some m4)), (.map (some m5))], mapG kS kV m4 kv3, rowE eSI 48 (.slice A4 ((FIND (⟨b4, m4, m5, kv2, kw2, Pa2, Pb2, (PUTF fl (it.take 20) (DOS (l.take 20)))⟩ : IXS).F (LOW qw) o).length) c4) (FIND (⟨b4, m4, m5, kv2, kw2, Pa2, Pb2, (PUTF fl (it.take 20) (DOS (l.take 20)))⟩ : IXS).F (LOW qw) o), rowE eSI 48 (.slice A3 ((FIND (⟨b3, m1, m2, kv1, kw1, Pa1, Pb1, (DOS (l.take 20))⟩ : IXS).F (LOW qw) o).length) c3) (FIND (⟨b3, m1, m2, kv1, kw1, Pa1, Pb1, (DOS (l.take 20))⟩ : IXS).F (LOW qw) o), blkE b3 71 #[(.map (some m1)), (.map (some m2))], mapG kS kV m1 kv1, mapG kS kV m2 kw1, blkE yb1 52 #[(.slice A1 rs1.length c1)], rowE eSV 54 (.slice A1 rs1.length c1) rs1, insE idS eIt 64 Pc1, blkE b2 25 #[(.int .i64 ((o).1)), (.int .u64 ((o).2))], blkE b1 34 #[(.bool dr), (.string fl), (.slice A_it it.length c_it)]] := (SH.front [_, _, _, _, _, _] hS33)
          have hS35 : SH w No w14.drew [mapG kS kV m4 kv3, mapG kS kV m5 kw3, insE idS eIt 64 Pa3, insE idS eSI 73 Pb3, rowE eSI 48 (.slice A6 ((FIND (⟨b3, m1, m2, kv1, kw1, Pa3, Pb3, (DOS (l.take 20))⟩ : IXS).F (LOW qw) o).length) c6) (FIND (⟨b3, m1, m2, kv1, kw1, Pa3, Pb3, (DOS (l.take 20))⟩ : IXS).F (LOW qw) o), rowE eSI 48 (.slice A5 ((FIND (⟨b4, m4, m5, kv3, kw3, Pa3, Pb3, (PUTF fl (it.take 20) (PUTF fl (it.take 20) (DOS (l.take 20))))⟩ : IXS).F (LOW qw) o).length) c5) (FIND (⟨b4, m4, m5, kv3, kw3, Pa3, Pb3, (PUTF fl (it.take 20) (PUTF fl (it.take 20) (DOS (l.take 20))))⟩ : IXS).F (LOW qw) o), blkE b4 71 #[(.map (some m4)), (.map (some m5))], rowE eSI 48 (.slice A4 ((FIND (⟨b4, m4, m5, kv2, kw2, Pa2, Pb2, (PUTF fl (it.take 20) (DOS (l.take 20)))⟩ : IXS).F (LOW qw) o).length) c4) (FIND (⟨b4, m4, m5, kv2, kw2, Pa2, Pb2, (PUTF fl (it.take 20) (DOS (l.take 20)))⟩ : IXS).F (LOW qw) o), rowE eSI 48 (.slice A3 ((FIND (⟨b3, m1, m2, kv1, kw1, Pa1, Pb1, (DOS (l.take 20))⟩ : IXS).F (LOW qw) o).length) c3) (FIND (⟨b3, m1, m2, kv1, kw1, Pa1, Pb1, (DOS (l.take 20))⟩ : IXS).F (LOW qw) o), blkE b3 71 #[(.map (some m1)), (.map (some m2))], mapG kS kV m1 kv1, mapG kS kV m2 kw1, blkE yb1 52 #[(.slice A1 rs1.length c1)], rowE eSV 54 (.slice A1 rs1.length c1) rs1, insE idS eIt 64 Pc1, blkE b2 25 #[(.int .i64 ((o).1)), (.int .u64 ((o).2))], blkE b1 34 #[(.bool dr), (.string fl), (.slice A_it it.length c_it)]] := (SH.front [_, _, _, _, _, _] hS34)
          have hS36 : SH w No w14.drew [blkE b4 71 #[(.map (some m4)), (.map (some m5))], mapG kS kV m4 kv3, mapG kS kV m5 kw3, insE idS eIt 64 Pa3, insE idS eSI 73 Pb3, rowE eSI 48 (.slice A6 ((FIND (⟨b3, m1, m2, kv1, kw1, Pa3, Pb3, (DOS (l.take 20))⟩ : IXS).F (LOW qw) o).length) c6) (FIND (⟨b3, m1, m2, kv1, kw1, Pa3, Pb3, (DOS (l.take 20))⟩ : IXS).F (LOW qw) o), rowE eSI 48 (.slice A5 ((FIND (⟨b4, m4, m5, kv3, kw3, Pa3, Pb3, (PUTF fl (it.take 20) (PUTF fl (it.take 20) (DOS (l.take 20))))⟩ : IXS).F (LOW qw) o).length) c5) (FIND (⟨b4, m4, m5, kv3, kw3, Pa3, Pb3, (PUTF fl (it.take 20) (PUTF fl (it.take 20) (DOS (l.take 20))))⟩ : IXS).F (LOW qw) o), rowE eSI 48 (.slice A4 ((FIND (⟨b4, m4, m5, kv2, kw2, Pa2, Pb2, (PUTF fl (it.take 20) (DOS (l.take 20)))⟩ : IXS).F (LOW qw) o).length) c4) (FIND (⟨b4, m4, m5, kv2, kw2, Pa2, Pb2, (PUTF fl (it.take 20) (DOS (l.take 20)))⟩ : IXS).F (LOW qw) o), rowE eSI 48 (.slice A3 ((FIND (⟨b3, m1, m2, kv1, kw1, Pa1, Pb1, (DOS (l.take 20))⟩ : IXS).F (LOW qw) o).length) c3) (FIND (⟨b3, m1, m2, kv1, kw1, Pa1, Pb1, (DOS (l.take 20))⟩ : IXS).F (LOW qw) o), blkE b3 71 #[(.map (some m1)), (.map (some m2))], mapG kS kV m1 kv1, mapG kS kV m2 kw1, blkE yb1 52 #[(.slice A1 rs1.length c1)], rowE eSV 54 (.slice A1 rs1.length c1) rs1, insE idS eIt 64 Pc1, blkE b2 25 #[(.int .i64 ((o).1)), (.int .u64 ((o).2))], blkE b1 34 #[(.bool dr), (.string fl), (.slice A_it it.length c_it)]] := (SH.front [_, _, _, _, _, _] hS35)
          have hT3 := SH.sub (Es := [_, _, _, _, _]) hS36
          have hz12 := dropy_calls (w := w14.drew) (X := (⟨b4, m4, m5, kv3, kw3, Pa3, Pb3, (PUTF fl (it.take 20) (PUTF fl (it.take 20) (DOS (l.take 20))))⟩ : IXS)) hT3 hv3 (by omega) hkz_ 
          refine WS.call rfl rfl (XC.fn Try.func20 (by kernel_rfl) rfl rfl rfl) (hz12) ?_
          rintro v_ w15 ⟨kv4, kw4, Pb4, rfl, hsub5, hv4, hU3⟩
          have hS37 := SH.back (Es := [_, _, _, _, _]) hS36 hU3
          refine ⟨fun h_ => trivial, ?_⟩
          refine WS.pure rfl rfl (fun _ => LV.as (c := false) (LV.neI rfl rfl) (by decide)) ?_
          iterate 4 refine WS.pure rfl rfl (fun _ => LV.mv rfl) ?_
          refine WS.lvT rfl rfl (LV.loadAgg (cs := [(.int .i64 ((o).1)), (.int .u64 ((o).2))]) Try.underlying25 rfl ti25 rfl rfl (Blk.agg (SH.at hS37 (.tail _ (.tail _ (.tail _ (.tail _ (.tail _ (.tail _ (.tail _ (.tail _ (.tail _ (.tail _ (.tail _ (.tail _ (.tail _ (.tail _ (.tail _ (.head _))))))))))))))))) _ (KB.refl No _))) ?_
          have hz13 := find_calls (w := w15) (word := qw) (o := o) (SH.ixr5 (T1 := 64) (T2 := 73) (X := (⟨b4, m4, m5, kv4, kw4, Pa3, Pb4, (WOF (PUTF fl (it.take 20) (PUTF fl (it.take 20) (DOS (l.take 20)))) fl)⟩ : IXS)) hS37 (.head _) (.tail _ (.head _)) (.tail _ (.tail _ (.head _))) (.tail _ (.tail _ (.tail _ (.head _)))) (.tail _ (.tail _ (.tail _ (.tail _ (.head _)))))) hv4 (by omega) (hsw) (wo) 
          refine WS.call rfl rfl (XC.fn Try.func11 (by kernel_rfl) rfl rfl rfl) (hz13) ?_
          rintro v_ w16 ⟨A7, c7, rfl, hS38⟩
          have hS39 := SH.joinN hS37 hS38
          refine ⟨fun h_ => trivial, ?_⟩
          have hz14 := Calls.asB (w := w16) (shits_calls  (SH.rd hS39 (.head _)) rfl (SH.rd hS39 (.tail _ (.tail _ (.tail _ (.tail _ (.tail _ (.tail _ (.tail _ (.tail _ (.tail _ (.head _))))))))))) rfl ) (decide_eq_true (congrArg (fun F_ => FIND F_ (LOW qw) o) (wof_put2 hgo_))) 
          refine WS.call rfl rfl (XC.fn Try.func10 (by kernel_rfl) rfl rfl rfl) (hz14) ?_
          rintro v_ w17 ⟨rfl, hk6⟩
          have hS40 := SH.same hS39 hk6
          refine ⟨fun h_ => trivial, ?_⟩
          refine WS.pure rfl rfl (fun _ => LV.notB rfl) ?_
          refine WS.pure rfl rfl (fun _ => LV.pickF rfl rfl) ?_
          iterate 3 refine WS.pure rfl rfl (fun _ => LV.mv rfl) ?_
          refine WS.fork (WSX.two 16 19 (by kernel_rfl) ?_ ?_)
          · refine WO.lvT rfl rfl (LV.loadAgg (cs := [(.int .i64 ((o).1)), (.int .u64 ((o).2))]) Try.underlying25 rfl ti25 rfl rfl (Blk.agg (SH.at hS40 (.tail _ (.tail _ (.tail _ (.tail _ (.tail _ (.tail _ (.tail _ (.tail _ (.tail _ (.tail _ (.tail _ (.tail _ (.tail _ (.tail _ (.tail _ (.tail _ (.head _)))))))))))))))))) _ (KB.refl No _))) ?_
            refine WSX.of [(.fork, 0), (.fork, 0), (.fork, 0), (.fork, 0), (.fork, 0), (.fork, 0)] (by kernel_rfl) rfl ?_
            refine WS.fork (WSX.two 17 19 (by kernel_rfl) ?_ ?_)
            · have hz15 := words_calls (w := w17) (o := o) (SH.ixr5 (T1 := 64) (T2 := 73) (X := (⟨b4, m4, m5, kv4, kw4, Pa3, Pb4, (WOF (PUTF fl (it.take 20) (PUTF fl (it.take 20) (DOS (l.take 20)))) fl)⟩ : IXS)) hS40 (.tail _ (.head _)) (.tail _ (.tail _ (.head _))) (.tail _ (.tail _ (.tail _ (.head _)))) (.tail _ (.tail _ (.tail _ (.tail _ (.head _))))) (.tail _ (.tail _ (.tail _ (.tail _ (.tail _ (.head _))))))) hv4 (by omega) (wo) 
              refine WO.call rfl rfl (XC.fn Try.func13 (by kernel_rfl) rfl rfl rfl) (hz15) ?_
              rintro v_ w18 ⟨A8, c8, rfl, hS41⟩
              have hS42 := SH.joinN hS40 hS41
              refine ⟨fun h_ => trivial, ?_⟩
              refine WSX.of [(.forced, 19), (.forced, 20), (.forced, 21), (.pure, 22), (.pure, 23)] (by kernel_rfl) rfl ?_
              refine WS.lvT rfl rfl (LV.loadAgg (cs := [(.int .i64 ((o).1)), (.int .u64 ((o).2))]) Try.underlying25 rfl ti25 rfl rfl (Blk.agg (SH.at hS42 (.tail _ (.tail _ (.tail _ (.tail _ (.tail _ (.tail _ (.tail _ (.tail _ (.tail _ (.tail _ (.tail _ (.tail _ (.tail _ (.tail _ (.tail _ (.tail _ (.tail _ (.head _))))))))))))))))))) _ (KB.refl No _))) ?_
              have hz16 := words_calls (w := w18) (o := o) (SH.ixr5 (T1 := 64) (T2 := 73) (X := (⟨b3, m1, m2, kv1, kw1, Pa3, Pb4, (DOS (l.take 20))⟩ : IXS)) hS42 (.tail _ (.tail _ (.tail _ (.tail _ (.tail _ (.tail _ (.tail _ (.tail _ (.tail _ (.tail _ (.tail _ (.head _)))))))))))) (.tail _ (.tail _ (.tail _ (.tail _ (.tail _ (.tail _ (.tail _ (.tail _ (.tail _ (.tail _ (.tail _ (.tail _ (.head _))))))))))))) (.tail _ (.tail _ (.tail _ (.tail _ (.tail _ (.tail _ (.tail _ (.tail _ (.tail _ (.tail _ (.tail _ (.tail _ (.tail _ (.head _)))))))))))))) (.tail _ (.tail _ (.tail _ (.tail _ (.tail _ (.head _)))))) (.tail _ (.tail _ (.tail _ (.tail _ (.tail _ (.tail _ (.head _)))))))) (ixw_more (ixw_more (ixw_more hv1 hsub1 hsub2) hsub3 hsub4) (fun _ h_ => h_) hsub5) (by omega) (wo) 
              refine WS.call rfl rfl (XC.fn Try.func13 (by kernel_rfl) rfl rfl rfl) (hz16) ?_
              rintro v_ w19 ⟨A9, c9, rfl, hS43⟩
              have hS44 := SH.joinN hS42 hS43
              refine ⟨fun h_ => trivial, ?_⟩
              have hz17 := Calls.asB (w := w19) (stexts_calls  (SH.rd hS44 (.tail _ (.head _))) rfl (SH.rd hS44 (.head _)) rfl ) (decide_eq_true (congrArg (fun F_ => WRDS F_ o) (wof_put2 hgo_))) 
              refine WS.call rfl rfl (XC.fn Try.func12 (by kernel_rfl) rfl rfl rfl) (hz17) ?_
              rintro v_ w20 ⟨rfl, hk7⟩
              have hS45 := SH.same hS44 hk7
              refine ⟨fun h_ => trivial, ?_⟩
              refine WS.pure rfl rfl (fun _ => LV.notB rfl) ?_
              refine WS.pure rfl rfl (fun _ => LV.pickF rfl rfl) ?_
              refine WS.nil (thenQ.n ?_)
              refine WC.condF rfl ?_
              refine WC.skip (thenQ.n ?_)
              refine WC.seq ?_
              refine WC.region ?_
              refine WL.lv rfl (LV.asg rfl) ?_
              refine WL.nil (thenQ.n ?_)
              refine WC.seq ?_
              have hS46 := SH.drew hS45
              refine WC.regionD [] (fun w_ => KB No w20.drew w_) [(.forced, 0), (.pure, 1), (.pure, 2), (.forced, 3), (.pure, 4), (.pure, 5), (.pure, 6), (.pure, 7), (.forced, 8), (.pure, 9), (.pure, 10), (.pure, 11), (.pure, 12), (.pure, 13), (.look, 14), (.pure, 17), (.pure, 18), (.look, 20), (.pure, 24), (.look, 25), (.pure, 29), (.look, 30), (.fork, 0), (.fork, 0), (.fork, 0), (.fork, 0), (.fork, 0), (.fork, 0), (.fork, 0), (.fork, 0), (.fork, 0), (.fork, 0), (.fork, 0), (.fork, 0), (.fork, 0), (.fork, 0), (.fork, 0), (.fork, 0), (.fork, 0), (.fork, 0), (.fork, 0), (.fork, 0)] (by kernel_rfl) (by kernel_rfl) (KB.refl _ _) ?_
              have hz18 := live_calls (w := w20.drew) 
              refine WS.call rfl rfl (XC.fn Try.func9 (by kernel_rfl) rfl rfl rfl) (hz18) ?_
              rintro v_ w21 ⟨rfl, hk8⟩
              have hS47 := SH.same hS46 hk8
              refine ⟨fun h_ => (KB.transN (KB.refl _ _) hk8), ?_⟩
              iterate 2 refine WS.pure rfl rfl (fun _ => LV.mv rfl) ?_
              have hz19 := putz_calls (w := w21) (f := ⟨#[97]⟩) 
              refine WS.call rfl rfl (XC.fn Try.func19 (by kernel_rfl) rfl rfl rfl) (hz19) ?_
              rintro v_ w22 ⟨rfl, hk9⟩
              have hS48 := SH.same hS47 hk9
              refine ⟨fun h_ => (KB.transN (KB.transN (KB.refl _ _) hk8) hk9), ?_⟩
              refine WS.pure rfl rfl (fun _ => LV.as (c := true) (LV.eqI rfl rfl) (by decide)) ?_
              refine WS.pure rfl rfl (fun _ => LV.pickT rfl rfl) ?_
              iterate 2 refine WS.pure rfl rfl (fun _ => LV.mv rfl) ?_
              have hz20 := dropz_calls (w := w22) (f := ⟨#[97]⟩) 
              refine WS.call rfl rfl (XC.fn Try.func20 (by kernel_rfl) rfl rfl rfl) (hz20) ?_
              rintro v_ w23 ⟨rfl, hk10⟩
              have hS49 := SH.same hS48 hk10
              refine ⟨fun h_ => (KB.transN (KB.transN (KB.transN (KB.refl _ _) hk8) hk9) hk10), ?_⟩
              refine WS.pure rfl rfl (fun _ => LV.as (c := true) (LV.eqI rfl rfl) (by decide)) ?_
              refine WS.pure rfl rfl (fun _ => LV.pickT rfl rfl) ?_
              iterate 3 refine WS.pure rfl rfl (fun _ => LV.mv rfl) ?_
              refine WS.look rfl rfl (fun _ hk_ => LV.loadAgg (cs := [(.int .i64 ((o).1)), (.int .u64 ((o).2))]) Try.underlying25 rfl ti25 rfl rfl (Blk.agg (SH.at hS46 (.tail _ (.tail _ (.tail _ (.tail _ (.tail _ (.tail _ (.tail _ (.tail _ (.tail _ (.tail _ (.tail _ (.tail _ (.tail _ (.tail _ (.tail _ (.tail _ (.tail _ (.tail _ (.head _)))))))))))))))))))) _ hk_)) ?_
              iterate 2 refine WS.pure rfl rfl (fun _ => LV.mv rfl) ?_
              refine WS.look rfl rfl (fun _ hk_ => LV.loadAgg (cs := [(.int .i64 ((o).1)), (.int .u64 ((o).2))]) Try.underlying25 rfl ti25 rfl rfl (Blk.agg (SH.at hS46 (.tail _ (.tail _ (.tail _ (.tail _ (.tail _ (.tail _ (.tail _ (.tail _ (.tail _ (.tail _ (.tail _ (.tail _ (.tail _ (.tail _ (.tail _ (.tail _ (.tail _ (.tail _ (.head _)))))))))))))))))))) _ hk_)) ?_
              refine WS.pure rfl rfl (fun _ => LV.mv rfl) ?_
              refine WS.look rfl rfl (fun _ hk_ => LV.loadAgg (cs := [(.int .i64 ((o).1)), (.int .u64 ((o).2))]) Try.underlying25 rfl ti25 rfl rfl (Blk.agg (SH.at hS46 (.tail _ (.tail _ (.tail _ (.tail _ (.tail _ (.tail _ (.tail _ (.tail _ (.tail _ (.tail _ (.tail _ (.tail _ (.tail _ (.tail _ (.tail _ (.tail _ (.tail _ (.tail _ (.head _)))))))))))))))))))) _ hk_)) ?_
              refine WS.pure rfl rfl (fun _ => LV.mv rfl) ?_
              refine WS.look rfl rfl (fun _ hk_ => LV.loadAgg (cs := [(.int .i64 ((o).1)), (.int .u64 ((o).2))]) Try.underlying25 rfl ti25 rfl rfl (Blk.agg (SH.at hS46 (.tail _ (.tail _ (.tail _ (.tail _ (.tail _ (.tail _ (.tail _ (.tail _ (.tail _ (.tail _ (.tail _ (.tail _ (.tail _ (.tail _ (.tail _ (.tail _ (.tail _ (.tail _ (.head _)))))))))))))))))))) _ hk_)) ?_
              refine WS.fork (WSX.two 15 19 (by kernel_rfl) ?_ ?_)
              · have hz21 := findn_calls (w := w23) (word := qw) (o := o)  
                refine WO.call rfl rfl (XC.fn Try.func11 (by kernel_rfl) rfl rfl rfl) (hz21) ?_
                rintro v_ w24 ⟨A10, c10, rfl, hS50⟩
                have hS51 := SH.joinN hS49 hS50
                refine ⟨fun h_ => (KB.transN (KB.transN (KB.transN (KB.transN (KB.refl _ _) hk8) hk9) hk10) hS50.kb), ?_⟩
                refine WSX.of [(.pure, 16), (.forced, 19), (.forced, 21), (.pure, 22), (.pure, 23), (.forced, 26), (.pure, 27), (.pure, 28), (.forced, 31), (.pure, 32), (.pure, 33), (.pure, 34), (.pure, 35), (.pure, 36), (.pure, 37), (.forced, 38), (.pure, 39), (.pure, 40), (.pure, 41)] (by kernel_rfl) rfl ?_
                refine WS.pure rfl rfl (fun _ => LV.lenL Try.underlying38 rfl) ?_
                refine WS.xe rfl rfl (XE.buildSlice (E := eS) [(0, (.string qw))] #[(.string qw)] [qw] hS51 Try.underlying41 ti9 rfl (by decide) (by kernel_rfl) (.inr rfl) rfl rfl (by decide)) ?_
                rintro _ w25 ⟨b5, rfl, hS52, hk11⟩
                refine ⟨fun h_ => (KB.transN (KB.transN (KB.transN (KB.transN (KB.transN (KB.refl _ _) hk8) hk9) hk10) hS50.kb) hk11), ?_⟩
                have hz22 := alln_calls (w := w25) (o := o) (SH.rd hS52 (.head _)) rfl  
                refine WS.call rfl rfl (XC.fn Try.func16 (by kernel_rfl) rfl rfl rfl) (hz22) ?_
                rintro v_ w26 ⟨A11, c11, rfl, hS53⟩
                have hS54 := SH.joinN hS52 hS53
                refine ⟨fun h_ => (KB.transN (KB.transN (KB.transN (KB.transN (KB.transN (KB.transN (KB.refl _ _) hk8) hk9) hk10) hS50.kb) hk11) hS53.kb), ?_⟩
                refine WS.pure rfl rfl (fun _ => LV.lenL Try.underlying38 rfl) ?_
                refine WS.pure rfl rfl (fun _ => LV.add rfl rfl (wr64 (by omega) (by omega))) ?_
                have hz23 := wordsn_calls (w := w26) (o := o)  
                refine WS.call rfl rfl (XC.fn Try.func13 (by kernel_rfl) rfl rfl rfl) (hz23) ?_
                rintro v_ w27 ⟨A12, c12, rfl, hS55⟩
                have hS56 := SH.joinN hS54 hS55
                refine ⟨fun h_ => (KB.transN (KB.transN (KB.transN (KB.transN (KB.transN (KB.transN (KB.transN (KB.refl _ _) hk8) hk9) hk10) hS50.kb) hk11) hS53.kb) hS55.kb), ?_⟩
                refine WS.pure rfl rfl (fun _ => LV.lenL Try.underlying41 rfl) ?_
                refine WS.pure rfl rfl (fun _ => LV.add rfl rfl (wr64 (by omega) (by omega))) ?_
                have hz24 := filesn_calls (w := w27) (o := o)  
                refine WS.call rfl rfl (XC.fn Try.func14 (by kernel_rfl) rfl rfl rfl) (hz24) ?_
                rintro v_ w28 ⟨A13, c13, rfl, hS57⟩
                have hS58 := SH.joinN hS56 hS57
                refine ⟨fun h_ => (KB.transN (KB.transN (KB.transN (KB.transN (KB.transN (KB.transN (KB.transN (KB.transN (KB.refl _ _) hk8) hk9) hk10) hS50.kb) hk11) hS53.kb) hS55.kb) hS57.kb), ?_⟩
                refine WS.pure rfl rfl (fun _ => LV.lenL Try.underlying41 rfl) ?_
                refine WS.pure rfl rfl (fun _ => LV.add rfl rfl (wr64 (by omega) (by omega))) ?_
                refine WS.pure rfl rfl (fun _ => LV.as (LV.eqI rfl rfl) (decide_eq_true (by simp))) ?_
                refine WS.pure rfl rfl (fun _ => LV.pickT rfl rfl) ?_
                iterate 2 refine WS.pure rfl rfl (fun _ => LV.mv rfl) ?_
                have hz25 := forkn_calls (w := w28) 
                refine WS.call rfl rfl (XC.fn Try.func18 (by kernel_rfl) rfl rfl rfl) (hz25) ?_
                rintro v_ w29 ⟨rfl, hk12⟩
                have hS59 := SH.same hS58 hk12
                refine ⟨fun h_ => (KB.transN (KB.transN (KB.transN (KB.transN (KB.transN (KB.transN (KB.transN (KB.transN (KB.transN (KB.refl _ _) hk8) hk9) hk10) hS50.kb) hk11) hS53.kb) hS55.kb) hS57.kb) hk12), ?_⟩
                refine WS.pure rfl rfl (fun _ => LV.eqPN Try.underlying26 rfl rfl) ?_
                refine WS.pure rfl rfl (fun _ => LV.pickT rfl rfl) ?_
                refine WS.pure rfl rfl (fun _ => LV.asg rfl) ?_
                refine WS.nil (thenQ.n ?_)
                refine WC.ret (?_)
                exact ⟨_, fun a ha => res1 rfl ha rfl, rfl, hS59.kb⟩
              · refine WO.xe rfl rfl (XE.buildSlice (E := eS) [(0, (.string qw))] #[(.string qw)] [qw] hS49 Try.underlying41 ti9 rfl (by decide) (by kernel_rfl) (.inr rfl) rfl rfl (by decide)) ?_
                rintro _ w30 ⟨b6, rfl, hS60, hk13⟩
                refine ⟨fun h_ => (KB.transN (KB.transN (KB.transN (KB.transN (KB.refl _ _) hk8) hk9) hk10) hk13), ?_⟩
                refine WSX.of [(.forced, 15), (.pure, 16), (.forced, 21), (.pure, 22), (.pure, 23), (.forced, 26), (.pure, 27), (.pure, 28), (.forced, 31), (.pure, 32), (.pure, 33), (.pure, 34), (.pure, 35), (.pure, 36), (.pure, 37), (.forced, 38), (.pure, 39), (.pure, 40), (.pure, 41)] (by kernel_rfl) rfl ?_
                have hz26 := findn_calls (w := w30) (word := qw) (o := o)  
                refine WS.call rfl rfl (XC.fn Try.func11 (by kernel_rfl) rfl rfl rfl) (hz26) ?_
                rintro v_ w31 ⟨A14, c14, rfl, hS61⟩
                have hS62 := SH.joinN hS60 hS61
                refine ⟨fun h_ => (KB.transN (KB.transN (KB.transN (KB.transN (KB.transN (KB.refl _ _) hk8) hk9) hk10) hk13) hS61.kb), ?_⟩
                refine WS.pure rfl rfl (fun _ => LV.lenL Try.underlying38 rfl) ?_
                have hz27 := alln_calls (w := w31) (o := o) (SH.rd hS62 (.tail _ (.head _))) rfl  
                refine WS.call rfl rfl (XC.fn Try.func16 (by kernel_rfl) rfl rfl rfl) (hz27) ?_
                rintro v_ w32 ⟨A15, c15, rfl, hS63⟩
                have hS64 := SH.joinN hS62 hS63
                refine ⟨fun h_ => (KB.transN (KB.transN (KB.transN (KB.transN (KB.transN (KB.transN (KB.refl _ _) hk8) hk9) hk10) hk13) hS61.kb) hS63.kb), ?_⟩
                refine WS.pure rfl rfl (fun _ => LV.lenL Try.underlying38 rfl) ?_
                refine WS.pure rfl rfl (fun _ => LV.add rfl rfl (wr64 (by omega) (by omega))) ?_
                have hz28 := wordsn_calls (w := w32) (o := o)  
                refine WS.call rfl rfl (XC.fn Try.func13 (by kernel_rfl) rfl rfl rfl) (hz28) ?_
                rintro v_ w33 ⟨A16, c16, rfl, hS65⟩
                have hS66 := SH.joinN hS64 hS65
                refine ⟨fun h_ => (KB.transN (KB.transN (KB.transN (KB.transN (KB.transN (KB.transN (KB.transN (KB.refl _ _) hk8) hk9) hk10) hk13) hS61.kb) hS63.kb) hS65.kb), ?_⟩
                refine WS.pure rfl rfl (fun _ => LV.lenL Try.underlying41 rfl) ?_
                refine WS.pure rfl rfl (fun _ => LV.add rfl rfl (wr64 (by omega) (by omega))) ?_
                have hz29 := filesn_calls (w := w33) (o := o)  
                refine WS.call rfl rfl (XC.fn Try.func14 (by kernel_rfl) rfl rfl rfl) (hz29) ?_
                rintro v_ w34 ⟨A17, c17, rfl, hS67⟩
                have hS68 := SH.joinN hS66 hS67
                refine ⟨fun h_ => (KB.transN (KB.transN (KB.transN (KB.transN (KB.transN (KB.transN (KB.transN (KB.transN (KB.refl _ _) hk8) hk9) hk10) hk13) hS61.kb) hS63.kb) hS65.kb) hS67.kb), ?_⟩
                refine WS.pure rfl rfl (fun _ => LV.lenL Try.underlying41 rfl) ?_
                refine WS.pure rfl rfl (fun _ => LV.add rfl rfl (wr64 (by omega) (by omega))) ?_
                refine WS.pure rfl rfl (fun _ => LV.as (LV.eqI rfl rfl) (decide_eq_true (by simp))) ?_
                refine WS.pure rfl rfl (fun _ => LV.pickT rfl rfl) ?_
                iterate 2 refine WS.pure rfl rfl (fun _ => LV.mv rfl) ?_
                have hz30 := forkn_calls (w := w34) 
                refine WS.call rfl rfl (XC.fn Try.func18 (by kernel_rfl) rfl rfl rfl) (hz30) ?_
                rintro v_ w35 ⟨rfl, hk14⟩
                have hS69 := SH.same hS68 hk14
                refine ⟨fun h_ => (KB.transN (KB.transN (KB.transN (KB.transN (KB.transN (KB.transN (KB.transN (KB.transN (KB.transN (KB.refl _ _) hk8) hk9) hk10) hk13) hS61.kb) hS63.kb) hS65.kb) hS67.kb) hk14), ?_⟩
                refine WS.pure rfl rfl (fun _ => LV.eqPN Try.underlying26 rfl rfl) ?_
                refine WS.pure rfl rfl (fun _ => LV.pickT rfl rfl) ?_
                refine WS.pure rfl rfl (fun _ => LV.asg rfl) ?_
                refine WS.nil (thenQ.n ?_)
                refine WC.ret (?_)
                exact ⟨_, fun a ha => res1 rfl ha rfl, rfl, hS69.kb⟩
            · refine WO.lvT rfl rfl (LV.loadAgg (cs := [(.int .i64 ((o).1)), (.int .u64 ((o).2))]) Try.underlying25 rfl ti25 rfl rfl (Blk.agg (SH.at hS40 (.tail _ (.tail _ (.tail _ (.tail _ (.tail _ (.tail _ (.tail _ (.tail _ (.tail _ (.tail _ (.tail _ (.tail _ (.tail _ (.tail _ (.tail _ (.tail _ (.head _)))))))))))))))))) _ (KB.refl No _))) ?_
              refine WSX.of [(.forced, 17), (.forced, 20), (.forced, 21), (.pure, 22), (.pure, 23)] (by kernel_rfl) rfl ?_
              have hz31 := words_calls (w := w17) (o := o) (SH.ixr5 (T1 := 64) (T2 := 73) (X := (⟨b4, m4, m5, kv4, kw4, Pa3, Pb4, (WOF (PUTF fl (it.take 20) (PUTF fl (it.take 20) (DOS (l.take 20)))) fl)⟩ : IXS)) hS40 (.tail _ (.head _)) (.tail _ (.tail _ (.head _))) (.tail _ (.tail _ (.tail _ (.head _)))) (.tail _ (.tail _ (.tail _ (.tail _ (.head _))))) (.tail _ (.tail _ (.tail _ (.tail _ (.tail _ (.head _))))))) hv4 (by omega) (wo) 
              refine WS.call rfl rfl (XC.fn Try.func13 (by kernel_rfl) rfl rfl rfl) (hz31) ?_
              rintro v_ w36 ⟨A18, c18, rfl, hS70⟩
              have hS71 := SH.joinN hS40 hS70
              refine ⟨fun h_ => trivial, ?_⟩
              have hz32 := words_calls (w := w36) (o := o) (SH.ixr5 (T1 := 64) (T2 := 73) (X := (⟨b3, m1, m2, kv1, kw1, Pa3, Pb4, (DOS (l.take 20))⟩ : IXS)) hS71 (.tail _ (.tail _ (.tail _ (.tail _ (.tail _ (.tail _ (.tail _ (.tail _ (.tail _ (.tail _ (.tail _ (.head _)))))))))))) (.tail _ (.tail _ (.tail _ (.tail _ (.tail _ (.tail _ (.tail _ (.tail _ (.tail _ (.tail _ (.tail _ (.tail _ (.head _))))))))))))) (.tail _ (.tail _ (.tail _ (.tail _ (.tail _ (.tail _ (.tail _ (.tail _ (.tail _ (.tail _ (.tail _ (.tail _ (.tail _ (.head _)))))))))))))) (.tail _ (.tail _ (.tail _ (.tail _ (.tail _ (.head _)))))) (.tail _ (.tail _ (.tail _ (.tail _ (.tail _ (.tail _ (.head _)))))))) (ixw_more (ixw_more (ixw_more hv1 hsub1 hsub2) hsub3 hsub4) (fun _ h_ => h_) hsub5) (by omega) (wo) 
              refine WS.call rfl rfl (XC.fn Try.func13 (by kernel_rfl) rfl rfl rfl) (hz32) ?_
              rintro v_ w37 ⟨A19, c19, rfl, hS72⟩
              have hS73 := SH.joinN hS71 hS72
              refine ⟨fun h_ => trivial, ?_⟩
              have hz33 := Calls.asB (w := w37) (stexts_calls  (SH.rd hS73 (.tail _ (.head _))) rfl (SH.rd hS73 (.head _)) rfl ) (decide_eq_true (congrArg (fun F_ => WRDS F_ o) (wof_put2 hgo_))) 
              refine WS.call rfl rfl (XC.fn Try.func12 (by kernel_rfl) rfl rfl rfl) (hz33) ?_
              rintro v_ w38 ⟨rfl, hk15⟩
              have hS74 := SH.same hS73 hk15
              refine ⟨fun h_ => trivial, ?_⟩
              refine WS.pure rfl rfl (fun _ => LV.notB rfl) ?_
              refine WS.pure rfl rfl (fun _ => LV.pickF rfl rfl) ?_
              refine WS.nil (thenQ.n ?_)
              refine WC.condF rfl ?_
              refine WC.skip (thenQ.n ?_)
              refine WC.seq ?_
              refine WC.region ?_
              refine WL.lv rfl (LV.asg rfl) ?_
              refine WL.nil (thenQ.n ?_)
              refine WC.seq ?_
              have hS75 := SH.drew hS74
              refine WC.regionD [] (fun w_ => KB No w38.drew w_) [(.forced, 0), (.pure, 1), (.pure, 2), (.forced, 3), (.pure, 4), (.pure, 5), (.pure, 6), (.pure, 7), (.forced, 8), (.pure, 9), (.pure, 10), (.pure, 11), (.pure, 12), (.pure, 13), (.look, 14), (.pure, 17), (.pure, 18), (.look, 20), (.pure, 24), (.look, 25), (.pure, 29), (.look, 30), (.fork, 0), (.fork, 0), (.fork, 0), (.fork, 0), (.fork, 0), (.fork, 0), (.fork, 0), (.fork, 0), (.fork, 0), (.fork, 0), (.fork, 0), (.fork, 0), (.fork, 0), (.fork, 0), (.fork, 0), (.fork, 0), (.fork, 0), (.fork, 0), (.fork, 0), (.fork, 0)] (by kernel_rfl) (by kernel_rfl) (KB.refl _ _) ?_
              have hz34 := live_calls (w := w38.drew) 
              refine WS.call rfl rfl (XC.fn Try.func9 (by kernel_rfl) rfl rfl rfl) (hz34) ?_
              rintro v_ w39 ⟨rfl, hk16⟩
              have hS76 := SH.same hS75 hk16
              refine ⟨fun h_ => (KB.transN (KB.refl _ _) hk16), ?_⟩
              iterate 2 refine WS.pure rfl rfl (fun _ => LV.mv rfl) ?_
              have hz35 := putz_calls (w := w39) (f := ⟨#[97]⟩) 
              refine WS.call rfl rfl (XC.fn Try.func19 (by kernel_rfl) rfl rfl rfl) (hz35) ?_
              rintro v_ w40 ⟨rfl, hk17⟩
              have hS77 := SH.same hS76 hk17
              refine ⟨fun h_ => (KB.transN (KB.transN (KB.refl _ _) hk16) hk17), ?_⟩
              refine WS.pure rfl rfl (fun _ => LV.as (c := true) (LV.eqI rfl rfl) (by decide)) ?_
              refine WS.pure rfl rfl (fun _ => LV.pickT rfl rfl) ?_
              iterate 2 refine WS.pure rfl rfl (fun _ => LV.mv rfl) ?_
              have hz36 := dropz_calls (w := w40) (f := ⟨#[97]⟩) 
              refine WS.call rfl rfl (XC.fn Try.func20 (by kernel_rfl) rfl rfl rfl) (hz36) ?_
              rintro v_ w41 ⟨rfl, hk18⟩
              have hS78 := SH.same hS77 hk18
              refine ⟨fun h_ => (KB.transN (KB.transN (KB.transN (KB.refl _ _) hk16) hk17) hk18), ?_⟩
              refine WS.pure rfl rfl (fun _ => LV.as (c := true) (LV.eqI rfl rfl) (by decide)) ?_
              refine WS.pure rfl rfl (fun _ => LV.pickT rfl rfl) ?_
              iterate 3 refine WS.pure rfl rfl (fun _ => LV.mv rfl) ?_
              refine WS.look rfl rfl (fun _ hk_ => LV.loadAgg (cs := [(.int .i64 ((o).1)), (.int .u64 ((o).2))]) Try.underlying25 rfl ti25 rfl rfl (Blk.agg (SH.at hS75 (.tail _ (.tail _ (.tail _ (.tail _ (.tail _ (.tail _ (.tail _ (.tail _ (.tail _ (.tail _ (.tail _ (.tail _ (.tail _ (.tail _ (.tail _ (.tail _ (.tail _ (.tail _ (.head _)))))))))))))))))))) _ hk_)) ?_
              iterate 2 refine WS.pure rfl rfl (fun _ => LV.mv rfl) ?_
              refine WS.look rfl rfl (fun _ hk_ => LV.loadAgg (cs := [(.int .i64 ((o).1)), (.int .u64 ((o).2))]) Try.underlying25 rfl ti25 rfl rfl (Blk.agg (SH.at hS75 (.tail _ (.tail _ (.tail _ (.tail _ (.tail _ (.tail _ (.tail _ (.tail _ (.tail _ (.tail _ (.tail _ (.tail _ (.tail _ (.tail _ (.tail _ (.tail _ (.tail _ (.tail _ (.head _)))))))))))))))))))) _ hk_)) ?_
              refine WS.pure rfl rfl (fun _ => LV.mv rfl) ?_
              refine WS.look rfl rfl (fun _ hk_ => LV.loadAgg (cs := [(.int .i64 ((o).1)), (.int .u64 ((o).2))]) Try.underlying25 rfl ti25 rfl rfl (Blk.agg (SH.at hS75 (.tail _ (.tail _ (.tail _ (.tail _ (.tail _ (.tail _ (.tail _ (.tail _ (.tail _ (.tail _ (.tail _ (.tail _ (.tail _ (.tail _ (.tail _ (.tail _ (.tail _ (.tail _ (.head _)))))))))))))))))))) _ hk_)) ?_
              refine WS.pure rfl rfl (fun _ => LV.mv rfl) ?_
              refine WS.look rfl rfl (fun _ hk_ => LV.loadAgg (cs := [(.int .i64 ((o).1)), (.int .u64 ((o).2))]) Try.underlying25 rfl ti25 rfl rfl (Blk.agg (SH.at hS75 (.tail _ (.tail _ (.tail _ (.tail _ (.tail _ (.tail _ (.tail _ (.tail _ (.tail _ (.tail _ (.tail _ (.tail _ (.tail _ (.tail _ (.tail _ (.tail _ (.tail _ (.tail _ (.head _)))))))))))))))))))) _ hk_)) ?_
              refine WS.fork (WSX.two 15 19 (by kernel_rfl) ?_ ?_)
              · have hz37 := findn_calls (w := w41) (word := qw) (o := o)  
                refine WO.call rfl rfl (XC.fn Try.func11 (by kernel_rfl) rfl rfl rfl) (hz37) ?_
                rintro v_ w42 ⟨A20, c20, rfl, hS79⟩
                have hS80 := SH.joinN hS78 hS79
                refine ⟨fun h_ => (KB.transN (KB.transN (KB.transN (KB.transN (KB.refl _ _) hk16) hk17) hk18) hS79.kb), ?_⟩
                refine WSX.of [(.pure, 16), (.forced, 19), (.forced, 21), (.pure, 22), (.pure, 23), (.forced, 26), (.pure, 27), (.pure, 28), (.forced, 31), (.pure, 32), (.pure, 33), (.pure, 34), (.pure, 35), (.pure, 36), (.pure, 37), (.forced, 38), (.pure, 39), (.pure, 40), (.pure, 41)] (by kernel_rfl) rfl ?_
                refine WS.pure rfl rfl (fun _ => LV.lenL Try.underlying38 rfl) ?_
                refine WS.xe rfl rfl (XE.buildSlice (E := eS) [(0, (.string qw))] #[(.string qw)] [qw] hS80 Try.underlying41 ti9 rfl (by decide) (by kernel_rfl) (.inr rfl) rfl rfl (by decide)) ?_
                rintro _ w43 ⟨b7, rfl, hS81, hk19⟩
                refine ⟨fun h_ => (KB.transN (KB.transN (KB.transN (KB.transN (KB.transN (KB.refl _ _) hk16) hk17) hk18) hS79.kb) hk19), ?_⟩
                have hz38 := alln_calls (w := w43) (o := o) (SH.rd hS81 (.head _)) rfl  
                refine WS.call rfl rfl (XC.fn Try.func16 (by kernel_rfl) rfl rfl rfl) (hz38) ?_
                rintro v_ w44 ⟨A21, c21, rfl, hS82⟩
                have hS83 := SH.joinN hS81 hS82
                refine ⟨fun h_ => (KB.transN (KB.transN (KB.transN (KB.transN (KB.transN (KB.transN (KB.refl _ _) hk16) hk17) hk18) hS79.kb) hk19) hS82.kb), ?_⟩
                refine WS.pure rfl rfl (fun _ => LV.lenL Try.underlying38 rfl) ?_
                refine WS.pure rfl rfl (fun _ => LV.add rfl rfl (wr64 (by omega) (by omega))) ?_
                have hz39 := wordsn_calls (w := w44) (o := o)  
                refine WS.call rfl rfl (XC.fn Try.func13 (by kernel_rfl) rfl rfl rfl) (hz39) ?_
                rintro v_ w45 ⟨A22, c22, rfl, hS84⟩
                have hS85 := SH.joinN hS83 hS84
                refine ⟨fun h_ => (KB.transN (KB.transN (KB.transN (KB.transN (KB.transN (KB.transN (KB.transN (KB.refl _ _) hk16) hk17) hk18) hS79.kb) hk19) hS82.kb) hS84.kb), ?_⟩
                refine WS.pure rfl rfl (fun _ => LV.lenL Try.underlying41 rfl) ?_
                refine WS.pure rfl rfl (fun _ => LV.add rfl rfl (wr64 (by omega) (by omega))) ?_
                have hz40 := filesn_calls (w := w45) (o := o)  
                refine WS.call rfl rfl (XC.fn Try.func14 (by kernel_rfl) rfl rfl rfl) (hz40) ?_
                rintro v_ w46 ⟨A23, c23, rfl, hS86⟩
                have hS87 := SH.joinN hS85 hS86
                refine ⟨fun h_ => (KB.transN (KB.transN (KB.transN (KB.transN (KB.transN (KB.transN (KB.transN (KB.transN (KB.refl _ _) hk16) hk17) hk18) hS79.kb) hk19) hS82.kb) hS84.kb) hS86.kb), ?_⟩
                refine WS.pure rfl rfl (fun _ => LV.lenL Try.underlying41 rfl) ?_
                refine WS.pure rfl rfl (fun _ => LV.add rfl rfl (wr64 (by omega) (by omega))) ?_
                refine WS.pure rfl rfl (fun _ => LV.as (LV.eqI rfl rfl) (decide_eq_true (by simp))) ?_
                refine WS.pure rfl rfl (fun _ => LV.pickT rfl rfl) ?_
                iterate 2 refine WS.pure rfl rfl (fun _ => LV.mv rfl) ?_
                have hz41 := forkn_calls (w := w46) 
                refine WS.call rfl rfl (XC.fn Try.func18 (by kernel_rfl) rfl rfl rfl) (hz41) ?_
                rintro v_ w47 ⟨rfl, hk20⟩
                have hS88 := SH.same hS87 hk20
                refine ⟨fun h_ => (KB.transN (KB.transN (KB.transN (KB.transN (KB.transN (KB.transN (KB.transN (KB.transN (KB.transN (KB.refl _ _) hk16) hk17) hk18) hS79.kb) hk19) hS82.kb) hS84.kb) hS86.kb) hk20), ?_⟩
                refine WS.pure rfl rfl (fun _ => LV.eqPN Try.underlying26 rfl rfl) ?_
                refine WS.pure rfl rfl (fun _ => LV.pickT rfl rfl) ?_
                refine WS.pure rfl rfl (fun _ => LV.asg rfl) ?_
                refine WS.nil (thenQ.n ?_)
                refine WC.ret (?_)
                exact ⟨_, fun a ha => res1 rfl ha rfl, rfl, hS88.kb⟩
              · refine WO.xe rfl rfl (XE.buildSlice (E := eS) [(0, (.string qw))] #[(.string qw)] [qw] hS78 Try.underlying41 ti9 rfl (by decide) (by kernel_rfl) (.inr rfl) rfl rfl (by decide)) ?_
                rintro _ w48 ⟨b8, rfl, hS89, hk21⟩
                refine ⟨fun h_ => (KB.transN (KB.transN (KB.transN (KB.transN (KB.refl _ _) hk16) hk17) hk18) hk21), ?_⟩
                refine WSX.of [(.forced, 15), (.pure, 16), (.forced, 21), (.pure, 22), (.pure, 23), (.forced, 26), (.pure, 27), (.pure, 28), (.forced, 31), (.pure, 32), (.pure, 33), (.pure, 34), (.pure, 35), (.pure, 36), (.pure, 37), (.forced, 38), (.pure, 39), (.pure, 40), (.pure, 41)] (by kernel_rfl) rfl ?_
                have hz42 := findn_calls (w := w48) (word := qw) (o := o)  
                refine WS.call rfl rfl (XC.fn Try.func11 (by kernel_rfl) rfl rfl rfl) (hz42) ?_
                rintro v_ w49 ⟨A24, c24, rfl, hS90⟩
                have hS91 := SH.joinN hS89 hS90
                refine ⟨fun h_ => (KB.transN (KB.transN (KB.transN (KB.transN (KB.transN (KB.refl _ _) hk16) hk17) hk18) hk21) hS90.kb), ?_⟩
                refine WS.pure rfl rfl (fun _ => LV.lenL Try.underlying38 rfl) ?_
                have hz43 := alln_calls (w := w49) (o := o) (SH.rd hS91 (.tail _ (.head _))) rfl  
                refine WS.call rfl rfl (XC.fn Try.func16 (by kernel_rfl) rfl rfl rfl) (hz43) ?_
                rintro v_ w50 ⟨A25, c25, rfl, hS92⟩
                have hS93 := SH.joinN hS91 hS92
                refine ⟨fun h_ => (KB.transN (KB.transN (KB.transN (KB.transN (KB.transN (KB.transN (KB.refl _ _) hk16) hk17) hk18) hk21) hS90.kb) hS92.kb), ?_⟩
                refine WS.pure rfl rfl (fun _ => LV.lenL Try.underlying38 rfl) ?_
                refine WS.pure rfl rfl (fun _ => LV.add rfl rfl (wr64 (by omega) (by omega))) ?_
                have hz44 := wordsn_calls (w := w50) (o := o)  
                refine WS.call rfl rfl (XC.fn Try.func13 (by kernel_rfl) rfl rfl rfl) (hz44) ?_
                rintro v_ w51 ⟨A26, c26, rfl, hS94⟩
                have hS95 := SH.joinN hS93 hS94
                refine ⟨fun h_ => (KB.transN (KB.transN (KB.transN (KB.transN (KB.transN (KB.transN (KB.transN (KB.refl _ _) hk16) hk17) hk18) hk21) hS90.kb) hS92.kb) hS94.kb), ?_⟩
                refine WS.pure rfl rfl (fun _ => LV.lenL Try.underlying41 rfl) ?_
                refine WS.pure rfl rfl (fun _ => LV.add rfl rfl (wr64 (by omega) (by omega))) ?_
                have hz45 := filesn_calls (w := w51) (o := o)  
                refine WS.call rfl rfl (XC.fn Try.func14 (by kernel_rfl) rfl rfl rfl) (hz45) ?_
                rintro v_ w52 ⟨A27, c27, rfl, hS96⟩
                have hS97 := SH.joinN hS95 hS96
                refine ⟨fun h_ => (KB.transN (KB.transN (KB.transN (KB.transN (KB.transN (KB.transN (KB.transN (KB.transN (KB.refl _ _) hk16) hk17) hk18) hk21) hS90.kb) hS92.kb) hS94.kb) hS96.kb), ?_⟩
                refine WS.pure rfl rfl (fun _ => LV.lenL Try.underlying41 rfl) ?_
                refine WS.pure rfl rfl (fun _ => LV.add rfl rfl (wr64 (by omega) (by omega))) ?_
                refine WS.pure rfl rfl (fun _ => LV.as (LV.eqI rfl rfl) (decide_eq_true (by simp))) ?_
                refine WS.pure rfl rfl (fun _ => LV.pickT rfl rfl) ?_
                iterate 2 refine WS.pure rfl rfl (fun _ => LV.mv rfl) ?_
                have hz46 := forkn_calls (w := w52) 
                refine WS.call rfl rfl (XC.fn Try.func18 (by kernel_rfl) rfl rfl rfl) (hz46) ?_
                rintro v_ w53 ⟨rfl, hk22⟩
                have hS98 := SH.same hS97 hk22
                refine ⟨fun h_ => (KB.transN (KB.transN (KB.transN (KB.transN (KB.transN (KB.transN (KB.transN (KB.transN (KB.transN (KB.refl _ _) hk16) hk17) hk18) hk21) hS90.kb) hS92.kb) hS94.kb) hS96.kb) hk22), ?_⟩
                refine WS.pure rfl rfl (fun _ => LV.eqPN Try.underlying26 rfl rfl) ?_
                refine WS.pure rfl rfl (fun _ => LV.pickT rfl rfl) ?_
                refine WS.pure rfl rfl (fun _ => LV.asg rfl) ?_
                refine WS.nil (thenQ.n ?_)
                refine WC.ret (?_)
                exact ⟨_, fun a ha => res1 rfl ha rfl, rfl, hS98.kb⟩
          · refine WO.lvT rfl rfl (LV.loadAgg (cs := [(.int .i64 ((o).1)), (.int .u64 ((o).2))]) Try.underlying25 rfl ti25 rfl rfl (Blk.agg (SH.at hS40 (.tail _ (.tail _ (.tail _ (.tail _ (.tail _ (.tail _ (.tail _ (.tail _ (.tail _ (.tail _ (.tail _ (.tail _ (.tail _ (.tail _ (.tail _ (.tail _ (.head _)))))))))))))))))) _ (KB.refl No _))) ?_
            refine WSX.of [(.forced, 16), (.forced, 17), (.forced, 20), (.forced, 21), (.pure, 22), (.pure, 23)] (by kernel_rfl) rfl ?_
            refine WS.lvT rfl rfl (LV.loadAgg (cs := [(.int .i64 ((o).1)), (.int .u64 ((o).2))]) Try.underlying25 rfl ti25 rfl rfl (Blk.agg (SH.at hS40 (.tail _ (.tail _ (.tail _ (.tail _ (.tail _ (.tail _ (.tail _ (.tail _ (.tail _ (.tail _ (.tail _ (.tail _ (.tail _ (.tail _ (.tail _ (.tail _ (.head _)))))))))))))))))) _ (KB.refl No _))) ?_
            have hz47 := words_calls (w := w17) (o := o) (SH.ixr5 (T1 := 64) (T2 := 73) (X := (⟨b4, m4, m5, kv4, kw4, Pa3, Pb4, (WOF (PUTF fl (it.take 20) (PUTF fl (it.take 20) (DOS (l.take 20)))) fl)⟩ : IXS)) hS40 (.tail _ (.head _)) (.tail _ (.tail _ (.head _))) (.tail _ (.tail _ (.tail _ (.head _)))) (.tail _ (.tail _ (.tail _ (.tail _ (.head _))))) (.tail _ (.tail _ (.tail _ (.tail _ (.tail _ (.head _))))))) hv4 (by omega) (wo) 
            refine WS.call rfl rfl (XC.fn Try.func13 (by kernel_rfl) rfl rfl rfl) (hz47) ?_
            rintro v_ w54 ⟨A28, c28, rfl, hS99⟩
            have hS100 := SH.joinN hS40 hS99
            refine ⟨fun h_ => trivial, ?_⟩
            have hz48 := words_calls (w := w54) (o := o) (SH.ixr5 (T1 := 64) (T2 := 73) (X := (⟨b3, m1, m2, kv1, kw1, Pa3, Pb4, (DOS (l.take 20))⟩ : IXS)) hS100 (.tail _ (.tail _ (.tail _ (.tail _ (.tail _ (.tail _ (.tail _ (.tail _ (.tail _ (.tail _ (.tail _ (.head _)))))))))))) (.tail _ (.tail _ (.tail _ (.tail _ (.tail _ (.tail _ (.tail _ (.tail _ (.tail _ (.tail _ (.tail _ (.tail _ (.head _))))))))))))) (.tail _ (.tail _ (.tail _ (.tail _ (.tail _ (.tail _ (.tail _ (.tail _ (.tail _ (.tail _ (.tail _ (.tail _ (.tail _ (.head _)))))))))))))) (.tail _ (.tail _ (.tail _ (.tail _ (.tail _ (.head _)))))) (.tail _ (.tail _ (.tail _ (.tail _ (.tail _ (.tail _ (.head _)))))))) (ixw_more (ixw_more (ixw_more hv1 hsub1 hsub2) hsub3 hsub4) (fun _ h_ => h_) hsub5) (by omega) (wo) 
            refine WS.call rfl rfl (XC.fn Try.func13 (by kernel_rfl) rfl rfl rfl) (hz48) ?_
            rintro v_ w55 ⟨A29, c29, rfl, hS101⟩
            have hS102 := SH.joinN hS100 hS101
            refine ⟨fun h_ => trivial, ?_⟩
            have hz49 := Calls.asB (w := w55) (stexts_calls  (SH.rd hS102 (.tail _ (.head _))) rfl (SH.rd hS102 (.head _)) rfl ) (decide_eq_true (congrArg (fun F_ => WRDS F_ o) (wof_put2 hgo_))) 
            refine WS.call rfl rfl (XC.fn Try.func12 (by kernel_rfl) rfl rfl rfl) (hz49) ?_
            rintro v_ w56 ⟨rfl, hk23⟩
            have hS103 := SH.same hS102 hk23
            refine ⟨fun h_ => trivial, ?_⟩
            refine WS.pure rfl rfl (fun _ => LV.notB rfl) ?_
            refine WS.pure rfl rfl (fun _ => LV.pickF rfl rfl) ?_
            refine WS.nil (thenQ.n ?_)
            refine WC.condF rfl ?_
            refine WC.skip (thenQ.n ?_)
            refine WC.seq ?_
            refine WC.region ?_
            refine WL.lv rfl (LV.asg rfl) ?_
            refine WL.nil (thenQ.n ?_)
            refine WC.seq ?_
            have hS104 := SH.drew hS103
            refine WC.regionD [] (fun w_ => KB No w56.drew w_) [(.forced, 0), (.pure, 1), (.pure, 2), (.forced, 3), (.pure, 4), (.pure, 5), (.pure, 6), (.pure, 7), (.forced, 8), (.pure, 9), (.pure, 10), (.pure, 11), (.pure, 12), (.pure, 13), (.look, 14), (.pure, 17), (.pure, 18), (.look, 20), (.pure, 24), (.look, 25), (.pure, 29), (.look, 30), (.fork, 0), (.fork, 0), (.fork, 0), (.fork, 0), (.fork, 0), (.fork, 0), (.fork, 0), (.fork, 0), (.fork, 0), (.fork, 0), (.fork, 0), (.fork, 0), (.fork, 0), (.fork, 0), (.fork, 0), (.fork, 0), (.fork, 0), (.fork, 0), (.fork, 0), (.fork, 0)] (by kernel_rfl) (by kernel_rfl) (KB.refl _ _) ?_
            have hz50 := live_calls (w := w56.drew) 
            refine WS.call rfl rfl (XC.fn Try.func9 (by kernel_rfl) rfl rfl rfl) (hz50) ?_
            rintro v_ w57 ⟨rfl, hk24⟩
            have hS105 := SH.same hS104 hk24
            refine ⟨fun h_ => (KB.transN (KB.refl _ _) hk24), ?_⟩
            iterate 2 refine WS.pure rfl rfl (fun _ => LV.mv rfl) ?_
            have hz51 := putz_calls (w := w57) (f := ⟨#[97]⟩) 
            refine WS.call rfl rfl (XC.fn Try.func19 (by kernel_rfl) rfl rfl rfl) (hz51) ?_
            rintro v_ w58 ⟨rfl, hk25⟩
            have hS106 := SH.same hS105 hk25
            refine ⟨fun h_ => (KB.transN (KB.transN (KB.refl _ _) hk24) hk25), ?_⟩
            refine WS.pure rfl rfl (fun _ => LV.as (c := true) (LV.eqI rfl rfl) (by decide)) ?_
            refine WS.pure rfl rfl (fun _ => LV.pickT rfl rfl) ?_
            iterate 2 refine WS.pure rfl rfl (fun _ => LV.mv rfl) ?_
            have hz52 := dropz_calls (w := w58) (f := ⟨#[97]⟩) 
            refine WS.call rfl rfl (XC.fn Try.func20 (by kernel_rfl) rfl rfl rfl) (hz52) ?_
            rintro v_ w59 ⟨rfl, hk26⟩
            have hS107 := SH.same hS106 hk26
            refine ⟨fun h_ => (KB.transN (KB.transN (KB.transN (KB.refl _ _) hk24) hk25) hk26), ?_⟩
            refine WS.pure rfl rfl (fun _ => LV.as (c := true) (LV.eqI rfl rfl) (by decide)) ?_
            refine WS.pure rfl rfl (fun _ => LV.pickT rfl rfl) ?_
            iterate 3 refine WS.pure rfl rfl (fun _ => LV.mv rfl) ?_
            refine WS.look rfl rfl (fun _ hk_ => LV.loadAgg (cs := [(.int .i64 ((o).1)), (.int .u64 ((o).2))]) Try.underlying25 rfl ti25 rfl rfl (Blk.agg (SH.at hS104 (.tail _ (.tail _ (.tail _ (.tail _ (.tail _ (.tail _ (.tail _ (.tail _ (.tail _ (.tail _ (.tail _ (.tail _ (.tail _ (.tail _ (.tail _ (.tail _ (.tail _ (.tail _ (.head _)))))))))))))))))))) _ hk_)) ?_
            iterate 2 refine WS.pure rfl rfl (fun _ => LV.mv rfl) ?_
            refine WS.look rfl rfl (fun _ hk_ => LV.loadAgg (cs := [(.int .i64 ((o).1)), (.int .u64 ((o).2))]) Try.underlying25 rfl ti25 rfl rfl (Blk.agg (SH.at hS104 (.tail _ (.tail _ (.tail _ (.tail _ (.tail _ (.tail _ (.tail _ (.tail _ (.tail _ (.tail _ (.tail _ (.tail _ (.tail _ (.tail _ (.tail _ (.tail _ (.tail _ (.tail _ (.head _)))))))))))))))))))) _ hk_)) ?_
            refine WS.pure rfl rfl (fun _ => LV.mv rfl) ?_
            refine WS.look rfl rfl (fun _ hk_ => LV.loadAgg (cs := [(.int .i64 ((o).1)), (.int .u64 ((o).2))]) Try.underlying25 rfl ti25 rfl rfl (Blk.agg (SH.at hS104 (.tail _ (.tail _ (.tail _ (.tail _ (.tail _ (.tail _ (.tail _ (.tail _ (.tail _ (.tail _ (.tail _ (.tail _ (.tail _ (.tail _ (.tail _ (.tail _ (.tail _ (.tail _ (.head _)))))))))))))))))))) _ hk_)) ?_
            refine WS.pure rfl rfl (fun _ => LV.mv rfl) ?_
            refine WS.look rfl rfl (fun _ hk_ => LV.loadAgg (cs := [(.int .i64 ((o).1)), (.int .u64 ((o).2))]) Try.underlying25 rfl ti25 rfl rfl (Blk.agg (SH.at hS104 (.tail _ (.tail _ (.tail _ (.tail _ (.tail _ (.tail _ (.tail _ (.tail _ (.tail _ (.tail _ (.tail _ (.tail _ (.tail _ (.tail _ (.tail _ (.tail _ (.tail _ (.tail _ (.head _)))))))))))))))))))) _ hk_)) ?_
            refine WS.fork (WSX.two 15 19 (by kernel_rfl) ?_ ?_)
            · have hz53 := findn_calls (w := w59) (word := qw) (o := o)  
              refine WO.call rfl rfl (XC.fn Try.func11 (by kernel_rfl) rfl rfl rfl) (hz53) ?_
              rintro v_ w60 ⟨A30, c30, rfl, hS108⟩
              have hS109 := SH.joinN hS107 hS108
              refine ⟨fun h_ => (KB.transN (KB.transN (KB.transN (KB.transN (KB.refl _ _) hk24) hk25) hk26) hS108.kb), ?_⟩
              refine WSX.of [(.pure, 16), (.forced, 19), (.forced, 21), (.pure, 22), (.pure, 23), (.forced, 26), (.pure, 27), (.pure, 28), (.forced, 31), (.pure, 32), (.pure, 33), (.pure, 34), (.pure, 35), (.pure, 36), (.pure, 37), (.forced, 38), (.pure, 39), (.pure, 40), (.pure, 41)] (by kernel_rfl) rfl ?_
              refine WS.pure rfl rfl (fun _ => LV.lenL Try.underlying38 rfl) ?_
              refine WS.xe rfl rfl (XE.buildSlice (E := eS) [(0, (.string qw))] #[(.string qw)] [qw] hS109 Try.underlying41 ti9 rfl (by decide) (by kernel_rfl) (.inr rfl) rfl rfl (by decide)) ?_
              rintro _ w61 ⟨b9, rfl, hS110, hk27⟩
              refine ⟨fun h_ => (KB.transN (KB.transN (KB.transN (KB.transN (KB.transN (KB.refl _ _) hk24) hk25) hk26) hS108.kb) hk27), ?_⟩
              have hz54 := alln_calls (w := w61) (o := o) (SH.rd hS110 (.head _)) rfl  
              refine WS.call rfl rfl (XC.fn Try.func16 (by kernel_rfl) rfl rfl rfl) (hz54) ?_
              rintro v_ w62 ⟨A31, c31, rfl, hS111⟩
              have hS112 := SH.joinN hS110 hS111
              refine ⟨fun h_ => (KB.transN (KB.transN (KB.transN (KB.transN (KB.transN (KB.transN (KB.refl _ _) hk24) hk25) hk26) hS108.kb) hk27) hS111.kb), ?_⟩
              refine WS.pure rfl rfl (fun _ => LV.lenL Try.underlying38 rfl) ?_
              refine WS.pure rfl rfl (fun _ => LV.add rfl rfl (wr64 (by omega) (by omega))) ?_
              have hz55 := wordsn_calls (w := w62) (o := o)  
              refine WS.call rfl rfl (XC.fn Try.func13 (by kernel_rfl) rfl rfl rfl) (hz55) ?_
              rintro v_ w63 ⟨A32, c32, rfl, hS113⟩
              have hS114 := SH.joinN hS112 hS113
              refine ⟨fun h_ => (KB.transN (KB.transN (KB.transN (KB.transN (KB.transN (KB.transN (KB.transN (KB.refl _ _) hk24) hk25) hk26) hS108.kb) hk27) hS111.kb) hS113.kb), ?_⟩
              refine WS.pure rfl rfl (fun _ => LV.lenL Try.underlying41 rfl) ?_
              refine WS.pure rfl rfl (fun _ => LV.add rfl rfl (wr64 (by omega) (by omega))) ?_
              have hz56 := filesn_calls (w := w63) (o := o)  
              refine WS.call rfl rfl (XC.fn Try.func14 (by kernel_rfl) rfl rfl rfl) (hz56) ?_
              rintro v_ w64 ⟨A33, c33, rfl, hS115⟩
              have hS116 := SH.joinN hS114 hS115
              refine ⟨fun h_ => (KB.transN (KB.transN (KB.transN (KB.transN (KB.transN (KB.transN (KB.transN (KB.transN (KB.refl _ _) hk24) hk25) hk26) hS108.kb) hk27) hS111.kb) hS113.kb) hS115.kb), ?_⟩
              refine WS.pure rfl rfl (fun _ => LV.lenL Try.underlying41 rfl) ?_
              refine WS.pure rfl rfl (fun _ => LV.add rfl rfl (wr64 (by omega) (by omega))) ?_
              refine WS.pure rfl rfl (fun _ => LV.as (LV.eqI rfl rfl) (decide_eq_true (by simp))) ?_
              refine WS.pure rfl rfl (fun _ => LV.pickT rfl rfl) ?_
              iterate 2 refine WS.pure rfl rfl (fun _ => LV.mv rfl) ?_
              have hz57 := forkn_calls (w := w64) 
              refine WS.call rfl rfl (XC.fn Try.func18 (by kernel_rfl) rfl rfl rfl) (hz57) ?_
              rintro v_ w65 ⟨rfl, hk28⟩
              have hS117 := SH.same hS116 hk28
              refine ⟨fun h_ => (KB.transN (KB.transN (KB.transN (KB.transN (KB.transN (KB.transN (KB.transN (KB.transN (KB.transN (KB.refl _ _) hk24) hk25) hk26) hS108.kb) hk27) hS111.kb) hS113.kb) hS115.kb) hk28), ?_⟩
              refine WS.pure rfl rfl (fun _ => LV.eqPN Try.underlying26 rfl rfl) ?_
              refine WS.pure rfl rfl (fun _ => LV.pickT rfl rfl) ?_
              refine WS.pure rfl rfl (fun _ => LV.asg rfl) ?_
              refine WS.nil (thenQ.n ?_)
              refine WC.ret (?_)
              exact ⟨_, fun a ha => res1 rfl ha rfl, rfl, hS117.kb⟩
            · refine WO.xe rfl rfl (XE.buildSlice (E := eS) [(0, (.string qw))] #[(.string qw)] [qw] hS107 Try.underlying41 ti9 rfl (by decide) (by kernel_rfl) (.inr rfl) rfl rfl (by decide)) ?_
              rintro _ w66 ⟨b10, rfl, hS118, hk29⟩
              refine ⟨fun h_ => (KB.transN (KB.transN (KB.transN (KB.transN (KB.refl _ _) hk24) hk25) hk26) hk29), ?_⟩
              refine WSX.of [(.forced, 15), (.pure, 16), (.forced, 21), (.pure, 22), (.pure, 23), (.forced, 26), (.pure, 27), (.pure, 28), (.forced, 31), (.pure, 32), (.pure, 33), (.pure, 34), (.pure, 35), (.pure, 36), (.pure, 37), (.forced, 38), (.pure, 39), (.pure, 40), (.pure, 41)] (by kernel_rfl) rfl ?_
              have hz58 := findn_calls (w := w66) (word := qw) (o := o)  
              refine WS.call rfl rfl (XC.fn Try.func11 (by kernel_rfl) rfl rfl rfl) (hz58) ?_
              rintro v_ w67 ⟨A34, c34, rfl, hS119⟩
              have hS120 := SH.joinN hS118 hS119
              refine ⟨fun h_ => (KB.transN (KB.transN (KB.transN (KB.transN (KB.transN (KB.refl _ _) hk24) hk25) hk26) hk29) hS119.kb), ?_⟩
              refine WS.pure rfl rfl (fun _ => LV.lenL Try.underlying38 rfl) ?_
              have hz59 := alln_calls (w := w67) (o := o) (SH.rd hS120 (.tail _ (.head _))) rfl  
              refine WS.call rfl rfl (XC.fn Try.func16 (by kernel_rfl) rfl rfl rfl) (hz59) ?_
              rintro v_ w68 ⟨A35, c35, rfl, hS121⟩
              have hS122 := SH.joinN hS120 hS121
              refine ⟨fun h_ => (KB.transN (KB.transN (KB.transN (KB.transN (KB.transN (KB.transN (KB.refl _ _) hk24) hk25) hk26) hk29) hS119.kb) hS121.kb), ?_⟩
              refine WS.pure rfl rfl (fun _ => LV.lenL Try.underlying38 rfl) ?_
              refine WS.pure rfl rfl (fun _ => LV.add rfl rfl (wr64 (by omega) (by omega))) ?_
              have hz60 := wordsn_calls (w := w68) (o := o)  
              refine WS.call rfl rfl (XC.fn Try.func13 (by kernel_rfl) rfl rfl rfl) (hz60) ?_
              rintro v_ w69 ⟨A36, c36, rfl, hS123⟩
              have hS124 := SH.joinN hS122 hS123
              refine ⟨fun h_ => (KB.transN (KB.transN (KB.transN (KB.transN (KB.transN (KB.transN (KB.transN (KB.refl _ _) hk24) hk25) hk26) hk29) hS119.kb) hS121.kb) hS123.kb), ?_⟩
              refine WS.pure rfl rfl (fun _ => LV.lenL Try.underlying41 rfl) ?_
              refine WS.pure rfl rfl (fun _ => LV.add rfl rfl (wr64 (by omega) (by omega))) ?_
              have hz61 := filesn_calls (w := w69) (o := o)  
              refine WS.call rfl rfl (XC.fn Try.func14 (by kernel_rfl) rfl rfl rfl) (hz61) ?_
              rintro v_ w70 ⟨A37, c37, rfl, hS125⟩
              have hS126 := SH.joinN hS124 hS125
              refine ⟨fun h_ => (KB.transN (KB.transN (KB.transN (KB.transN (KB.transN (KB.transN (KB.transN (KB.transN (KB.refl _ _) hk24) hk25) hk26) hk29) hS119.kb) hS121.kb) hS123.kb) hS125.kb), ?_⟩
              refine WS.pure rfl rfl (fun _ => LV.lenL Try.underlying41 rfl) ?_
              refine WS.pure rfl rfl (fun _ => LV.add rfl rfl (wr64 (by omega) (by omega))) ?_
              refine WS.pure rfl rfl (fun _ => LV.as (LV.eqI rfl rfl) (decide_eq_true (by simp))) ?_
              refine WS.pure rfl rfl (fun _ => LV.pickT rfl rfl) ?_
              iterate 2 refine WS.pure rfl rfl (fun _ => LV.mv rfl) ?_
              have hz62 := forkn_calls (w := w70) 
              refine WS.call rfl rfl (XC.fn Try.func18 (by kernel_rfl) rfl rfl rfl) (hz62) ?_
              rintro v_ w71 ⟨rfl, hk30⟩
              have hS127 := SH.same hS126 hk30
              refine ⟨fun h_ => (KB.transN (KB.transN (KB.transN (KB.transN (KB.transN (KB.transN (KB.transN (KB.transN (KB.transN (KB.refl _ _) hk24) hk25) hk26) hk29) hS119.kb) hS121.kb) hS123.kb) hS125.kb) hk30), ?_⟩
              refine WS.pure rfl rfl (fun _ => LV.eqPN Try.underlying26 rfl rfl) ?_
              refine WS.pure rfl rfl (fun _ => LV.pickT rfl rfl) ?_
              refine WS.pure rfl rfl (fun _ => LV.asg rfl) ?_
              refine WS.nil (thenQ.n ?_)
              refine WC.ret (?_)
              exact ⟨_, fun a ha => res1 rfl ha rfl, rfl, hS127.kb⟩
        · skip
          refine WC.skip (thenQ.n ?_)
          refine WC.seq ?_
          refine WC.region ?_
          refine WL.lv rfl (LV.asg rfl) ?_
          refine WL.nil (thenQ.n ?_)
          refine WC.seq ?_
          have hS128 := SH.drew hS30
          refine WC.regionD [] (fun w_ => KB No w14.drew w_) [(.forced, 0), (.pure, 1), (.pure, 2), (.forced, 3), (.pure, 4), (.pure, 5), (.pure, 6), (.pure, 7), (.forced, 8), (.pure, 9), (.pure, 10), (.pure, 11), (.pure, 12), (.pure, 13), (.look, 14), (.pure, 17), (.pure, 18), (.look, 20), (.pure, 24), (.look, 25), (.pure, 29), (.look, 30), (.fork, 0), (.fork, 0), (.fork, 0), (.fork, 0), (.fork, 0), (.fork, 0), (.fork, 0), (.fork, 0), (.fork, 0), (.fork, 0), (.fork, 0), (.fork, 0), (.fork, 0), (.fork, 0), (.fork, 0), (.fork, 0), (.fork, 0), (.fork, 0), (.fork, 0), (.fork, 0)] (by kernel_rfl) (by kernel_rfl) (KB.refl _ _) ?_
          have hz63 := live_calls (w := w14.drew) 
          refine WS.call rfl rfl (XC.fn Try.func9 (by kernel_rfl) rfl rfl rfl) (hz63) ?_
          rintro v_ w72 ⟨rfl, hk31⟩
          have hS129 := SH.same hS128 hk31
          refine ⟨fun h_ => (KB.transN (KB.refl _ _) hk31), ?_⟩
          iterate 2 refine WS.pure rfl rfl (fun _ => LV.mv rfl) ?_
          have hz64 := putz_calls (w := w72) (f := ⟨#[97]⟩) 
          refine WS.call rfl rfl (XC.fn Try.func19 (by kernel_rfl) rfl rfl rfl) (hz64) ?_
          rintro v_ w73 ⟨rfl, hk32⟩
          have hS130 := SH.same hS129 hk32
          refine ⟨fun h_ => (KB.transN (KB.transN (KB.refl _ _) hk31) hk32), ?_⟩
          refine WS.pure rfl rfl (fun _ => LV.as (c := true) (LV.eqI rfl rfl) (by decide)) ?_
          refine WS.pure rfl rfl (fun _ => LV.pickT rfl rfl) ?_
          iterate 2 refine WS.pure rfl rfl (fun _ => LV.mv rfl) ?_
          have hz65 := dropz_calls (w := w73) (f := ⟨#[97]⟩) 
          refine WS.call rfl rfl (XC.fn Try.func20 (by kernel_rfl) rfl rfl rfl) (hz65) ?_
          rintro v_ w74 ⟨rfl, hk33⟩
          have hS131 := SH.same hS130 hk33
          refine ⟨fun h_ => (KB.transN (KB.transN (KB.transN (KB.refl _ _) hk31) hk32) hk33), ?_⟩
          refine WS.pure rfl rfl (fun _ => LV.as (c := true) (LV.eqI rfl rfl) (by decide)) ?_
          refine WS.pure rfl rfl (fun _ => LV.pickT rfl rfl) ?_
          iterate 3 refine WS.pure rfl rfl (fun _ => LV.mv rfl) ?_
          refine WS.look rfl rfl (fun _ hk_ => LV.loadAgg (cs := [(.int .i64 ((o).1)), (.int .u64 ((o).2))]) Try.underlying25 rfl ti25 rfl rfl (Blk.agg (SH.at hS128 (.tail _ (.tail _ (.tail _ (.tail _ (.tail _ (.tail _ (.tail _ (.tail _ (.tail _ (.tail _ (.tail _ (.tail _ (.tail _ (.tail _ (.tail _ (.head _))))))))))))))))) _ hk_)) ?_
          iterate 2 refine WS.pure rfl rfl (fun _ => LV.mv rfl) ?_
          refine WS.look rfl rfl (fun _ hk_ => LV.loadAgg (cs := [(.int .i64 ((o).1)), (.int .u64 ((o).2))]) Try.underlying25 rfl ti25 rfl rfl (Blk.agg (SH.at hS128 (.tail _ (.tail _ (.tail _ (.tail _ (.tail _ (.tail _ (.tail _ (.tail _ (.tail _ (.tail _ (.tail _ (.tail _ (.tail _ (.tail _ (.tail _ (.head _))))))))))))))))) _ hk_)) ?_
          refine WS.pure rfl rfl (fun _ => LV.mv rfl) ?_
          refine WS.look rfl rfl (fun _ hk_ => LV.loadAgg (cs := [(.int .i64 ((o).1)), (.int .u64 ((o).2))]) Try.underlying25 rfl ti25 rfl rfl (Blk.agg (SH.at hS128 (.tail _ (.tail _ (.tail _ (.tail _ (.tail _ (.tail _ (.tail _ (.tail _ (.tail _ (.tail _ (.tail _ (.tail _ (.tail _ (.tail _ (.tail _ (.head _))))))))))))))))) _ hk_)) ?_
          refine WS.pure rfl rfl (fun _ => LV.mv rfl) ?_
          refine WS.look rfl rfl (fun _ hk_ => LV.loadAgg (cs := [(.int .i64 ((o).1)), (.int .u64 ((o).2))]) Try.underlying25 rfl ti25 rfl rfl (Blk.agg (SH.at hS128 (.tail _ (.tail _ (.tail _ (.tail _ (.tail _ (.tail _ (.tail _ (.tail _ (.tail _ (.tail _ (.tail _ (.tail _ (.tail _ (.tail _ (.tail _ (.head _))))))))))))))))) _ hk_)) ?_
          refine WS.fork (WSX.two 15 19 (by kernel_rfl) ?_ ?_)
          · have hz66 := findn_calls (w := w74) (word := qw) (o := o)  
            refine WO.call rfl rfl (XC.fn Try.func11 (by kernel_rfl) rfl rfl rfl) (hz66) ?_
            rintro v_ w75 ⟨A38, c38, rfl, hS132⟩
            have hS133 := SH.joinN hS131 hS132
            refine ⟨fun h_ => (KB.transN (KB.transN (KB.transN (KB.transN (KB.refl _ _) hk31) hk32) hk33) hS132.kb), ?_⟩
            refine WSX.of [(.pure, 16), (.forced, 19), (.forced, 21), (.pure, 22), (.pure, 23), (.forced, 26), (.pure, 27), (.pure, 28), (.forced, 31), (.pure, 32), (.pure, 33), (.pure, 34), (.pure, 35), (.pure, 36), (.pure, 37), (.forced, 38), (.pure, 39), (.pure, 40), (.pure, 41)] (by kernel_rfl) rfl ?_
            refine WS.pure rfl rfl (fun _ => LV.lenL Try.underlying38 rfl) ?_
            refine WS.xe rfl rfl (XE.buildSlice (E := eS) [(0, (.string qw))] #[(.string qw)] [qw] hS133 Try.underlying41 ti9 rfl (by decide) (by kernel_rfl) (.inr rfl) rfl rfl (by decide)) ?_
            rintro _ w76 ⟨b11, rfl, hS134, hk34⟩
            refine ⟨fun h_ => (KB.transN (KB.transN (KB.transN (KB.transN (KB.transN (KB.refl _ _) hk31) hk32) hk33) hS132.kb) hk34), ?_⟩
            have hz67 := alln_calls (w := w76) (o := o) (SH.rd hS134 (.head _)) rfl  
            refine WS.call rfl rfl (XC.fn Try.func16 (by kernel_rfl) rfl rfl rfl) (hz67) ?_
            rintro v_ w77 ⟨A39, c39, rfl, hS135⟩
            have hS136 := SH.joinN hS134 hS135
            refine ⟨fun h_ => (KB.transN (KB.transN (KB.transN (KB.transN (KB.transN (KB.transN (KB.refl _ _) hk31) hk32) hk33) hS132.kb) hk34) hS135.kb), ?_⟩
            refine WS.pure rfl rfl (fun _ => LV.lenL Try.underlying38 rfl) ?_
            refine WS.pure rfl rfl (fun _ => LV.add rfl rfl (wr64 (by omega) (by omega))) ?_
            have hz68 := wordsn_calls (w := w77) (o := o)  
            refine WS.call rfl rfl (XC.fn Try.func13 (by kernel_rfl) rfl rfl rfl) (hz68) ?_
            rintro v_ w78 ⟨A40, c40, rfl, hS137⟩
            have hS138 := SH.joinN hS136 hS137
            refine ⟨fun h_ => (KB.transN (KB.transN (KB.transN (KB.transN (KB.transN (KB.transN (KB.transN (KB.refl _ _) hk31) hk32) hk33) hS132.kb) hk34) hS135.kb) hS137.kb), ?_⟩
            refine WS.pure rfl rfl (fun _ => LV.lenL Try.underlying41 rfl) ?_
            refine WS.pure rfl rfl (fun _ => LV.add rfl rfl (wr64 (by omega) (by omega))) ?_
            have hz69 := filesn_calls (w := w78) (o := o)  
            refine WS.call rfl rfl (XC.fn Try.func14 (by kernel_rfl) rfl rfl rfl) (hz69) ?_
            rintro v_ w79 ⟨A41, c41, rfl, hS139⟩
            have hS140 := SH.joinN hS138 hS139
            refine ⟨fun h_ => (KB.transN (KB.transN (KB.transN (KB.transN (KB.transN (KB.transN (KB.transN (KB.transN (KB.refl _ _) hk31) hk32) hk33) hS132.kb) hk34) hS135.kb) hS137.kb) hS139.kb), ?_⟩
            refine WS.pure rfl rfl (fun _ => LV.lenL Try.underlying41 rfl) ?_
            refine WS.pure rfl rfl (fun _ => LV.add rfl rfl (wr64 (by omega) (by omega))) ?_
            refine WS.pure rfl rfl (fun _ => LV.as (LV.eqI rfl rfl) (decide_eq_true (by simp))) ?_
            refine WS.pure rfl rfl (fun _ => LV.pickT rfl rfl) ?_
            iterate 2 refine WS.pure rfl rfl (fun _ => LV.mv rfl) ?_
            have hz70 := forkn_calls (w := w79) 
            refine WS.call rfl rfl (XC.fn Try.func18 (by kernel_rfl) rfl rfl rfl) (hz70) ?_
            rintro v_ w80 ⟨rfl, hk35⟩
            have hS141 := SH.same hS140 hk35
            refine ⟨fun h_ => (KB.transN (KB.transN (KB.transN (KB.transN (KB.transN (KB.transN (KB.transN (KB.transN (KB.transN (KB.refl _ _) hk31) hk32) hk33) hS132.kb) hk34) hS135.kb) hS137.kb) hS139.kb) hk35), ?_⟩
            refine WS.pure rfl rfl (fun _ => LV.eqPN Try.underlying26 rfl rfl) ?_
            refine WS.pure rfl rfl (fun _ => LV.pickT rfl rfl) ?_
            refine WS.pure rfl rfl (fun _ => LV.asg rfl) ?_
            refine WS.nil (thenQ.n ?_)
            refine WC.ret (?_)
            exact ⟨_, fun a ha => res1 rfl ha rfl, rfl, hS141.kb⟩
          · refine WO.xe rfl rfl (XE.buildSlice (E := eS) [(0, (.string qw))] #[(.string qw)] [qw] hS131 Try.underlying41 ti9 rfl (by decide) (by kernel_rfl) (.inr rfl) rfl rfl (by decide)) ?_
            rintro _ w81 ⟨b12, rfl, hS142, hk36⟩
            refine ⟨fun h_ => (KB.transN (KB.transN (KB.transN (KB.transN (KB.refl _ _) hk31) hk32) hk33) hk36), ?_⟩
            refine WSX.of [(.forced, 15), (.pure, 16), (.forced, 21), (.pure, 22), (.pure, 23), (.forced, 26), (.pure, 27), (.pure, 28), (.forced, 31), (.pure, 32), (.pure, 33), (.pure, 34), (.pure, 35), (.pure, 36), (.pure, 37), (.forced, 38), (.pure, 39), (.pure, 40), (.pure, 41)] (by kernel_rfl) rfl ?_
            have hz71 := findn_calls (w := w81) (word := qw) (o := o)  
            refine WS.call rfl rfl (XC.fn Try.func11 (by kernel_rfl) rfl rfl rfl) (hz71) ?_
            rintro v_ w82 ⟨A42, c42, rfl, hS143⟩
            have hS144 := SH.joinN hS142 hS143
            refine ⟨fun h_ => (KB.transN (KB.transN (KB.transN (KB.transN (KB.transN (KB.refl _ _) hk31) hk32) hk33) hk36) hS143.kb), ?_⟩
            refine WS.pure rfl rfl (fun _ => LV.lenL Try.underlying38 rfl) ?_
            have hz72 := alln_calls (w := w82) (o := o) (SH.rd hS144 (.tail _ (.head _))) rfl  
            refine WS.call rfl rfl (XC.fn Try.func16 (by kernel_rfl) rfl rfl rfl) (hz72) ?_
            rintro v_ w83 ⟨A43, c43, rfl, hS145⟩
            have hS146 := SH.joinN hS144 hS145
            refine ⟨fun h_ => (KB.transN (KB.transN (KB.transN (KB.transN (KB.transN (KB.transN (KB.refl _ _) hk31) hk32) hk33) hk36) hS143.kb) hS145.kb), ?_⟩
            refine WS.pure rfl rfl (fun _ => LV.lenL Try.underlying38 rfl) ?_
            refine WS.pure rfl rfl (fun _ => LV.add rfl rfl (wr64 (by omega) (by omega))) ?_
            have hz73 := wordsn_calls (w := w83) (o := o)  
            refine WS.call rfl rfl (XC.fn Try.func13 (by kernel_rfl) rfl rfl rfl) (hz73) ?_
            rintro v_ w84 ⟨A44, c44, rfl, hS147⟩
            have hS148 := SH.joinN hS146 hS147
            refine ⟨fun h_ => (KB.transN (KB.transN (KB.transN (KB.transN (KB.transN (KB.transN (KB.transN (KB.refl _ _) hk31) hk32) hk33) hk36) hS143.kb) hS145.kb) hS147.kb), ?_⟩
            refine WS.pure rfl rfl (fun _ => LV.lenL Try.underlying41 rfl) ?_
            refine WS.pure rfl rfl (fun _ => LV.add rfl rfl (wr64 (by omega) (by omega))) ?_
            have hz74 := filesn_calls (w := w84) (o := o)  
            refine WS.call rfl rfl (XC.fn Try.func14 (by kernel_rfl) rfl rfl rfl) (hz74) ?_
            rintro v_ w85 ⟨A45, c45, rfl, hS149⟩
            have hS150 := SH.joinN hS148 hS149
            refine ⟨fun h_ => (KB.transN (KB.transN (KB.transN (KB.transN (KB.transN (KB.transN (KB.transN (KB.transN (KB.refl _ _) hk31) hk32) hk33) hk36) hS143.kb) hS145.kb) hS147.kb) hS149.kb), ?_⟩
            refine WS.pure rfl rfl (fun _ => LV.lenL Try.underlying41 rfl) ?_
            refine WS.pure rfl rfl (fun _ => LV.add rfl rfl (wr64 (by omega) (by omega))) ?_
            refine WS.pure rfl rfl (fun _ => LV.as (LV.eqI rfl rfl) (decide_eq_true (by simp))) ?_
            refine WS.pure rfl rfl (fun _ => LV.pickT rfl rfl) ?_
            iterate 2 refine WS.pure rfl rfl (fun _ => LV.mv rfl) ?_
            have hz75 := forkn_calls (w := w85) 
            refine WS.call rfl rfl (XC.fn Try.func18 (by kernel_rfl) rfl rfl rfl) (hz75) ?_
            rintro v_ w86 ⟨rfl, hk37⟩
            have hS151 := SH.same hS150 hk37
            refine ⟨fun h_ => (KB.transN (KB.transN (KB.transN (KB.transN (KB.transN (KB.transN (KB.transN (KB.transN (KB.transN (KB.refl _ _) hk31) hk32) hk33) hk36) hS143.kb) hS145.kb) hS147.kb) hS149.kb) hk37), ?_⟩
            refine WS.pure rfl rfl (fun _ => LV.eqPN Try.underlying26 rfl rfl) ?_
            refine WS.pure rfl rfl (fun _ => LV.pickT rfl rfl) ?_
            refine WS.pure rfl rfl (fun _ => LV.asg rfl) ?_
            refine WS.nil (thenQ.n ?_)
            refine WC.ret (?_)
            exact ⟨_, fun a ha => res1 rfl ha rfl, rfl, hS151.kb⟩
      · have hz76 := putn_calls (w := w7) (b := b4) (A_l := (cutA A_it c_it 6)) (n_l := (it.take 20).length) (c_l := c_it) (hz) hnm1 
        refine WL.call rfl (XC.fn Try.func19 (by kernel_rfl) rfl rfl rfl) (hz76) ?_
        rintro v_ w87 ⟨rfl, hk38⟩
        have hS152 := SH.same hS10 hk38
        refine WL.lv rfl (LV.asg rfl) ?_
        refine WL.nil (thenQ.n ?_)
        refine WC.seq ?_
        refine WC.region ?_
        iterate 2 refine WL.lv rfl (LV.mv rfl) ?_
        refine WL.lv rfl (LV.loadAgg (cs := [(.int .i64 ((o).1)), (.int .u64 ((o).2))]) Try.underlying25 rfl ti25 rfl rfl (Blk.agg (SH.at hS152 (.tail _ (.tail _ (.tail _ (.tail _ (.tail _ (.tail _ (.tail _ (.tail _ (.tail _ (.tail _ (.tail _ (.tail _ (.head _)))))))))))))) _ (KB.refl No _))) ?_
        have hz77 := find_calls (w := w87) (word := qw) (o := o) (SH.ixr5 (T1 := 64) (T2 := 73) (X := (⟨b4, m4, m5, kv1, kw1, Pa1, Pb1, (DOS (l.take 20))⟩ : IXS)) hS152 (.head _) (.tail _ (.head _)) (.tail _ (.tail _ (.head _))) (.tail _ (.tail _ (.tail _ (.tail _ (.tail _ (.tail _ (.tail _ (.head _)))))))) (.tail _ (.tail _ (.tail _ (.tail _ (.tail _ (.tail _ (.tail _ (.tail _ (.head _)))))))))) (ixw_turn hv1) (by omega) (hsw) (wo) 
        refine WL.call rfl (XC.fn Try.func11 (by kernel_rfl) rfl rfl rfl) (hz77) ?_
        rintro v_ w88 ⟨A46, c46, rfl, hS153⟩
        have hS154 := SH.joinN hS152 hS153
        refine WL.lv rfl (LV.asg rfl) ?_
        refine WL.nil (thenQ.n ?_)
        refine WC.seq ?_
        refine WC.region ?_
        refine WL.lv rfl (LV.mv rfl) ?_
        refine WL.lv rfl (LV.fieldA Try.underlying34 rfl ti9.sz rfl) ?_
        refine WL.lv rfl (LV.load1 Try.underlying9 rfl rfl (Blk.cellN (SH.at hS154 (.tail _ (.tail _ (.tail _ (.tail _ (.tail _ (.tail _ (.tail _ (.tail _ (.tail _ (.tail _ (.tail _ (.tail _ (.tail _ (.tail _ (.head _)))))))))))))))) 1 rfl _ (KB.refl No _))) ?_
        refine WL.lv rfl (LV.mv rfl) ?_
        have hz78 := putn_calls (w := w88) (b := b4) (A_l := (cutA A_it c_it 6)) (n_l := (it.take 20).length) (c_l := c_it) (hz) hnm1 
        refine WL.call rfl (XC.fn Try.func19 (by kernel_rfl) rfl rfl rfl) (hz78) ?_
        rintro v_ w89 ⟨rfl, hk39⟩
        have hS155 := SH.same hS154 hk39
        refine WL.lv rfl (LV.asg rfl) ?_
        refine WL.nil (thenQ.n ?_)
        iterate 2 refine WC.seq ?_
        refine WC.region ?_
        iterate 2 refine WL.lv rfl (LV.mv rfl) ?_
        refine WL.lv rfl (LV.as (c := false) (LV.neI rfl rfl) (by decide)) ?_
        iterate 3 refine WL.lv rfl (LV.mv rfl) ?_
        refine WL.lv rfl (LV.loadAgg (cs := [(.int .i64 ((o).1)), (.int .u64 ((o).2))]) Try.underlying25 rfl ti25 rfl rfl (Blk.agg (SH.at hS155 (.tail _ (.tail _ (.tail _ (.tail _ (.tail _ (.tail _ (.tail _ (.tail _ (.tail _ (.tail _ (.tail _ (.tail _ (.tail _ (.head _))))))))))))))) _ (KB.refl No _))) ?_
        have hz79 := find_calls (w := w89) (word := qw) (o := o) (SH.ixr5 (T1 := 64) (T2 := 73) (X := (⟨b4, m4, m5, kv1, kw1, Pa1, Pb1, (DOS (l.take 20))⟩ : IXS)) hS155 (.tail _ (.head _)) (.tail _ (.tail _ (.head _))) (.tail _ (.tail _ (.tail _ (.head _)))) (.tail _ (.tail _ (.tail _ (.tail _ (.tail _ (.tail _ (.tail _ (.tail _ (.head _))))))))) (.tail _ (.tail _ (.tail _ (.tail _ (.tail _ (.tail _ (.tail _ (.tail _ (.tail _ (.head _))))))))))) (ixw_turn hv1) (by omega) (hsw) (wo) 
        refine WL.call rfl (XC.fn Try.func11 (by kernel_rfl) rfl rfl rfl) (hz79) ?_
        rintro v_ w90 ⟨A47, c47, rfl, hS156⟩
        have hS157 := SH.joinN hS155 hS156
        refine WL.lv rfl (LV.mv rfl) ?_
        have hz80 := Calls.asB (w := w90) (shits_calls  (SH.rd hS157 (.head _)) rfl (SH.rd hS157 (.tail _ (.head _))) rfl ) (decide_eq_true ((by first | rfl | exact congrArg (fun F_ => FIND F_ (LOW qw) o) put_twice))) 
        refine WL.call rfl (XC.fn Try.func10 (by kernel_rfl) rfl rfl rfl) (hz80) ?_
        rintro v_ w91 ⟨rfl, hk40⟩
        have hS158 := SH.same hS157 hk40
        refine WL.lv rfl (LV.notB rfl) ?_
        refine WL.lv rfl (LV.pickF rfl rfl) ?_
        iterate 3 refine WL.lv rfl (LV.mv rfl) ?_
        refine WL.lv rfl (LV.loadAgg (cs := [(.int .i64 ((o).1)), (.int .u64 ((o).2))]) Try.underlying25 rfl ti25 rfl rfl (Blk.agg (SH.at hS158 (.tail _ (.tail _ (.tail _ (.tail _ (.tail _ (.tail _ (.tail _ (.tail _ (.tail _ (.tail _ (.tail _ (.tail _ (.tail _ (.tail _ (.head _)))))))))))))))) _ (KB.refl No _))) ?_
        have hz81 := find_calls (w := w91) (word := qw) (o := o) (SH.ixr5 (T1 := 64) (T2 := 73) (X := (⟨b3, m1, m2, kv1, kw1, Pa1, Pb1, (DOS (l.take 20))⟩ : IXS)) hS158 (.tail _ (.tail _ (.tail _ (.tail _ (.tail _ (.tail _ (.head _))))))) (.tail _ (.tail _ (.tail _ (.tail _ (.tail _ (.tail _ (.tail _ (.head _)))))))) (.tail _ (.tail _ (.tail _ (.tail _ (.tail _ (.tail _ (.tail _ (.tail _ (.head _))))))))) (.tail _ (.tail _ (.tail _ (.tail _ (.tail _ (.tail _ (.tail _ (.tail _ (.tail _ (.head _)))))))))) (.tail _ (.tail _ (.tail _ (.tail _ (.tail _ (.tail _ (.tail _ (.tail _ (.tail _ (.tail _ (.head _)))))))))))) hv1 (by omega) (hsw) (wo) 
        refine WL.call rfl (XC.fn Try.func11 (by kernel_rfl) rfl rfl rfl) (hz81) ?_
        rintro v_ w92 ⟨A48, c48, rfl, hS159⟩
        have hS160 := SH.joinN hS158 hS159
        refine WL.lv rfl (LV.mv rfl) ?_
        have hz82 := Calls.asB (w := w92) (shits_calls  (SH.rd hS160 (.head _)) rfl (SH.rd hS160 (.tail _ (.tail _ (.tail _ (.tail _ (.tail _ (.tail _ (.head _)))))))) rfl ) (decide_eq_true (rfl)) 
        refine WL.call rfl (XC.fn Try.func10 (by kernel_rfl) rfl rfl rfl) (hz82) ?_
        rintro v_ w93 ⟨rfl, hk41⟩
        have hS161 := SH.same hS160 hk41
        refine WL.lv rfl (LV.notB rfl) ?_
        refine WL.lv rfl (LV.pickF rfl rfl) ?_
        refine WL.nil (thenQ.n ?_)
        refine WC.condF rfl ?_
        refine WC.skip (thenQ.n ?_)
        iterate 2 refine WC.seq ?_
        refine WC.region ?_
        refine WL.lv rfl (LV.mv rfl) ?_
        refine WL.lv rfl (LV.as (c := false) (LV.eqI rfl rfl) (by decide)) ?_
        refine WL.lv rfl (LV.mv rfl) ?_
        iterate 2 refine WL.off rfl ?_
        refine WL.lv rfl (LV.pickF rfl rfl) ?_
        refine WL.nil (thenQ.n ?_)
        refine WC.condF rfl ?_
        refine WC.skip (thenQ.n ?_)
        refine WC.seq ?_
        refine WC.region ?_
        refine WL.lv rfl (LV.asg rfl) ?_
        refine WL.nil (thenQ.n ?_)
        refine WC.seq ?_
        have hS162 := SH.drew hS161
        refine WC.regionD [] (fun w_ => KB No w93.drew w_) [(.forced, 0), (.pure, 1), (.pure, 2), (.forced, 3), (.pure, 4), (.pure, 5), (.pure, 6), (.pure, 7), (.forced, 8), (.pure, 9), (.pure, 10), (.pure, 11), (.pure, 12), (.pure, 13), (.look, 14), (.pure, 17), (.pure, 18), (.look, 20), (.pure, 24), (.look, 25), (.pure, 29), (.look, 30), (.fork, 0), (.fork, 0), (.fork, 0), (.fork, 0), (.fork, 0), (.fork, 0), (.fork, 0), (.fork, 0), (.fork, 0), (.fork, 0), (.fork, 0), (.fork, 0), (.fork, 0), (.fork, 0), (.fork, 0), (.fork, 0), (.fork, 0), (.fork, 0), (.fork, 0), (.fork, 0)] (by kernel_rfl) (by kernel_rfl) (KB.refl _ _) ?_
        have hz83 := live_calls (w := w93.drew) 
        refine WS.call rfl rfl (XC.fn Try.func9 (by kernel_rfl) rfl rfl rfl) (hz83) ?_
        rintro v_ w94 ⟨rfl, hk42⟩
        have hS163 := SH.same hS162 hk42
        refine ⟨fun h_ => (KB.transN (KB.refl _ _) hk42), ?_⟩
        iterate 2 refine WS.pure rfl rfl (fun _ => LV.mv rfl) ?_
        have hz84 := putz_calls (w := w94) (f := ⟨#[97]⟩) 
        refine WS.call rfl rfl (XC.fn Try.func19 (by kernel_rfl) rfl rfl rfl) (hz84) ?_
        rintro v_ w95 ⟨rfl, hk43⟩
        have hS164 := SH.same hS163 hk43
        refine ⟨fun h_ => (KB.transN (KB.transN (KB.refl _ _) hk42) hk43), ?_⟩
        refine WS.pure rfl rfl (fun _ => LV.as (c := true) (LV.eqI rfl rfl) (by decide)) ?_
        refine WS.pure rfl rfl (fun _ => LV.pickT rfl rfl) ?_
        iterate 2 refine WS.pure rfl rfl (fun _ => LV.mv rfl) ?_
        have hz85 := dropz_calls (w := w95) (f := ⟨#[97]⟩) 
        refine WS.call rfl rfl (XC.fn Try.func20 (by kernel_rfl) rfl rfl rfl) (hz85) ?_
        rintro v_ w96 ⟨rfl, hk44⟩
        have hS165 := SH.same hS164 hk44
        refine ⟨fun h_ => (KB.transN (KB.transN (KB.transN (KB.refl _ _) hk42) hk43) hk44), ?_⟩
        refine WS.pure rfl rfl (fun _ => LV.as (c := true) (LV.eqI rfl rfl) (by decide)) ?_
        refine WS.pure rfl rfl (fun _ => LV.pickT rfl rfl) ?_
        iterate 3 refine WS.pure rfl rfl (fun _ => LV.mv rfl) ?_
        refine WS.look rfl rfl (fun _ hk_ => LV.loadAgg (cs := [(.int .i64 ((o).1)), (.int .u64 ((o).2))]) Try.underlying25 rfl ti25 rfl rfl (Blk.agg (SH.at hS162 (.tail _ (.tail _ (.tail _ (.tail _ (.tail _ (.tail _ (.tail _ (.tail _ (.tail _ (.tail _ (.tail _ (.tail _ (.tail _ (.tail _ (.tail _ (.head _))))))))))))))))) _ hk_)) ?_
        iterate 2 refine WS.pure rfl rfl (fun _ => LV.mv rfl) ?_
        refine WS.look rfl rfl (fun _ hk_ => LV.loadAgg (cs := [(.int .i64 ((o).1)), (.int .u64 ((o).2))]) Try.underlying25 rfl ti25 rfl rfl (Blk.agg (SH.at hS162 (.tail _ (.tail _ (.tail _ (.tail _ (.tail _ (.tail _ (.tail _ (.tail _ (.tail _ (.tail _ (.tail _ (.tail _ (.tail _ (.tail _ (.tail _ (.head _))))))))))))))))) _ hk_)) ?_
        refine WS.pure rfl rfl (fun _ => LV.mv rfl) ?_
        refine WS.look rfl rfl (fun _ hk_ => LV.loadAgg (cs := [(.int .i64 ((o).1)), (.int .u64 ((o).2))]) Try.underlying25 rfl ti25 rfl rfl (Blk.agg (SH.at hS162 (.tail _ (.tail _ (.tail _ (.tail _ (.tail _ (.tail _ (.tail _ (.tail _ (.tail _ (.tail _ (.tail _ (.tail _ (.tail _ (.tail _ (.tail _ (.head _))))))))))))))))) _ hk_)) ?_
        refine WS.pure rfl rfl (fun _ => LV.mv rfl) ?_
        refine WS.look rfl rfl (fun _ hk_ => LV.loadAgg (cs := [(.int .i64 ((o).1)), (.int .u64 ((o).2))]) Try.underlying25 rfl ti25 rfl rfl (Blk.agg (SH.at hS162 (.tail _ (.tail _ (.tail _ (.tail _ (.tail _ (.tail _ (.tail _ (.tail _ (.tail _ (.tail _ (.tail _ (.tail _ (.tail _ (.tail _ (.tail _ (.head _))))))))))))))))) _ hk_)) ?_
        refine WS.fork (WSX.two 15 19 (by kernel_rfl) ?_ ?_)
        · have hz86 := findn_calls (w := w96) (word := qw) (o := o)  
          refine WO.call rfl rfl (XC.fn Try.func11 (by kernel_rfl) rfl rfl rfl) (hz86) ?_
          rintro v_ w97 ⟨A49, c49, rfl, hS166⟩
          have hS167 := SH.joinN hS165 hS166
          refine ⟨fun h_ => (KB.transN (KB.transN (KB.transN (KB.transN (KB.refl _ _) hk42) hk43) hk44) hS166.kb), ?_⟩
          refine WSX.of [(.pure, 16), (.forced, 19), (.forced, 21), (.pure, 22), (.pure, 23), (.forced, 26), (.pure, 27), (.pure, 28), (.forced, 31), (.pure, 32), (.pure, 33), (.pure, 34), (.pure, 35), (.pure, 36), (.pure, 37), (.forced, 38), (.pure, 39), (.pure, 40), (.pure, 41)] (by kernel_rfl) rfl ?_
          refine WS.pure rfl rfl (fun _ => LV.lenL Try.underlying38 rfl) ?_
          refine WS.xe rfl rfl (XE.buildSlice (E := eS) [(0, (.string qw))] #[(.string qw)] [qw] hS167 Try.underlying41 ti9 rfl (by decide) (by kernel_rfl) (.inr rfl) rfl rfl (by decide)) ?_
          rintro _ w98 ⟨b13, rfl, hS168, hk45⟩
          refine ⟨fun h_ => (KB.transN (KB.transN (KB.transN (KB.transN (KB.transN (KB.refl _ _) hk42) hk43) hk44) hS166.kb) hk45), ?_⟩
          have hz87 := alln_calls (w := w98) (o := o) (SH.rd hS168 (.head _)) rfl  
          refine WS.call rfl rfl (XC.fn Try.func16 (by kernel_rfl) rfl rfl rfl) (hz87) ?_
          rintro v_ w99 ⟨A50, c50, rfl, hS169⟩
          have hS170 := SH.joinN hS168 hS169
          refine ⟨fun h_ => (KB.transN (KB.transN (KB.transN (KB.transN (KB.transN (KB.transN (KB.refl _ _) hk42) hk43) hk44) hS166.kb) hk45) hS169.kb), ?_⟩
          refine WS.pure rfl rfl (fun _ => LV.lenL Try.underlying38 rfl) ?_
          refine WS.pure rfl rfl (fun _ => LV.add rfl rfl (wr64 (by omega) (by omega))) ?_
          have hz88 := wordsn_calls (w := w99) (o := o)  
          refine WS.call rfl rfl (XC.fn Try.func13 (by kernel_rfl) rfl rfl rfl) (hz88) ?_
          rintro v_ w100 ⟨A51, c51, rfl, hS171⟩
          have hS172 := SH.joinN hS170 hS171
          refine ⟨fun h_ => (KB.transN (KB.transN (KB.transN (KB.transN (KB.transN (KB.transN (KB.transN (KB.refl _ _) hk42) hk43) hk44) hS166.kb) hk45) hS169.kb) hS171.kb), ?_⟩
          refine WS.pure rfl rfl (fun _ => LV.lenL Try.underlying41 rfl) ?_
          refine WS.pure rfl rfl (fun _ => LV.add rfl rfl (wr64 (by omega) (by omega))) ?_
          have hz89 := filesn_calls (w := w100) (o := o)  
          refine WS.call rfl rfl (XC.fn Try.func14 (by kernel_rfl) rfl rfl rfl) (hz89) ?_
          rintro v_ w101 ⟨A52, c52, rfl, hS173⟩
          have hS174 := SH.joinN hS172 hS173
          refine ⟨fun h_ => (KB.transN (KB.transN (KB.transN (KB.transN (KB.transN (KB.transN (KB.transN (KB.transN (KB.refl _ _) hk42) hk43) hk44) hS166.kb) hk45) hS169.kb) hS171.kb) hS173.kb), ?_⟩
          refine WS.pure rfl rfl (fun _ => LV.lenL Try.underlying41 rfl) ?_
          refine WS.pure rfl rfl (fun _ => LV.add rfl rfl (wr64 (by omega) (by omega))) ?_
          refine WS.pure rfl rfl (fun _ => LV.as (LV.eqI rfl rfl) (decide_eq_true (by simp))) ?_
          refine WS.pure rfl rfl (fun _ => LV.pickT rfl rfl) ?_
          iterate 2 refine WS.pure rfl rfl (fun _ => LV.mv rfl) ?_
          have hz90 := forkn_calls (w := w101) 
          refine WS.call rfl rfl (XC.fn Try.func18 (by kernel_rfl) rfl rfl rfl) (hz90) ?_
          rintro v_ w102 ⟨rfl, hk46⟩
          have hS175 := SH.same hS174 hk46
          refine ⟨fun h_ => (KB.transN (KB.transN (KB.transN (KB.transN (KB.transN (KB.transN (KB.transN (KB.transN (KB.transN (KB.refl _ _) hk42) hk43) hk44) hS166.kb) hk45) hS169.kb) hS171.kb) hS173.kb) hk46), ?_⟩
          refine WS.pure rfl rfl (fun _ => LV.eqPN Try.underlying26 rfl rfl) ?_
          refine WS.pure rfl rfl (fun _ => LV.pickT rfl rfl) ?_
          refine WS.pure rfl rfl (fun _ => LV.asg rfl) ?_
          refine WS.nil (thenQ.n ?_)
          refine WC.ret (?_)
          exact ⟨_, fun a ha => res1 rfl ha rfl, rfl, hS175.kb⟩
        · refine WO.xe rfl rfl (XE.buildSlice (E := eS) [(0, (.string qw))] #[(.string qw)] [qw] hS165 Try.underlying41 ti9 rfl (by decide) (by kernel_rfl) (.inr rfl) rfl rfl (by decide)) ?_
          rintro _ w103 ⟨b14, rfl, hS176, hk47⟩
          refine ⟨fun h_ => (KB.transN (KB.transN (KB.transN (KB.transN (KB.refl _ _) hk42) hk43) hk44) hk47), ?_⟩
          refine WSX.of [(.forced, 15), (.pure, 16), (.forced, 21), (.pure, 22), (.pure, 23), (.forced, 26), (.pure, 27), (.pure, 28), (.forced, 31), (.pure, 32), (.pure, 33), (.pure, 34), (.pure, 35), (.pure, 36), (.pure, 37), (.forced, 38), (.pure, 39), (.pure, 40), (.pure, 41)] (by kernel_rfl) rfl ?_
          have hz91 := findn_calls (w := w103) (word := qw) (o := o)  
          refine WS.call rfl rfl (XC.fn Try.func11 (by kernel_rfl) rfl rfl rfl) (hz91) ?_
          rintro v_ w104 ⟨A53, c53, rfl, hS177⟩
          have hS178 := SH.joinN hS176 hS177
          refine ⟨fun h_ => (KB.transN (KB.transN (KB.transN (KB.transN (KB.transN (KB.refl _ _) hk42) hk43) hk44) hk47) hS177.kb), ?_⟩
          refine WS.pure rfl rfl (fun _ => LV.lenL Try.underlying38 rfl) ?_
          have hz92 := alln_calls (w := w104) (o := o) (SH.rd hS178 (.tail _ (.head _))) rfl  
          refine WS.call rfl rfl (XC.fn Try.func16 (by kernel_rfl) rfl rfl rfl) (hz92) ?_
          rintro v_ w105 ⟨A54, c54, rfl, hS179⟩
          have hS180 := SH.joinN hS178 hS179
          refine ⟨fun h_ => (KB.transN (KB.transN (KB.transN (KB.transN (KB.transN (KB.transN (KB.refl _ _) hk42) hk43) hk44) hk47) hS177.kb) hS179.kb), ?_⟩
          refine WS.pure rfl rfl (fun _ => LV.lenL Try.underlying38 rfl) ?_
          refine WS.pure rfl rfl (fun _ => LV.add rfl rfl (wr64 (by omega) (by omega))) ?_
          have hz93 := wordsn_calls (w := w105) (o := o)  
          refine WS.call rfl rfl (XC.fn Try.func13 (by kernel_rfl) rfl rfl rfl) (hz93) ?_
          rintro v_ w106 ⟨A55, c55, rfl, hS181⟩
          have hS182 := SH.joinN hS180 hS181
          refine ⟨fun h_ => (KB.transN (KB.transN (KB.transN (KB.transN (KB.transN (KB.transN (KB.transN (KB.refl _ _) hk42) hk43) hk44) hk47) hS177.kb) hS179.kb) hS181.kb), ?_⟩
          refine WS.pure rfl rfl (fun _ => LV.lenL Try.underlying41 rfl) ?_
          refine WS.pure rfl rfl (fun _ => LV.add rfl rfl (wr64 (by omega) (by omega))) ?_
          have hz94 := filesn_calls (w := w106) (o := o)  
          refine WS.call rfl rfl (XC.fn Try.func14 (by kernel_rfl) rfl rfl rfl) (hz94) ?_
          rintro v_ w107 ⟨A56, c56, rfl, hS183⟩
          have hS184 := SH.joinN hS182 hS183
          refine ⟨fun h_ => (KB.transN (KB.transN (KB.transN (KB.transN (KB.transN (KB.transN (KB.transN (KB.transN (KB.refl _ _) hk42) hk43) hk44) hk47) hS177.kb) hS179.kb) hS181.kb) hS183.kb), ?_⟩
          refine WS.pure rfl rfl (fun _ => LV.lenL Try.underlying41 rfl) ?_
          refine WS.pure rfl rfl (fun _ => LV.add rfl rfl (wr64 (by omega) (by omega))) ?_
          refine WS.pure rfl rfl (fun _ => LV.as (LV.eqI rfl rfl) (decide_eq_true (by simp))) ?_
          refine WS.pure rfl rfl (fun _ => LV.pickT rfl rfl) ?_
          iterate 2 refine WS.pure rfl rfl (fun _ => LV.mv rfl) ?_
          have hz95 := forkn_calls (w := w107) 
          refine WS.call rfl rfl (XC.fn Try.func18 (by kernel_rfl) rfl rfl rfl) (hz95) ?_
          rintro v_ w108 ⟨rfl, hk48⟩
          have hS185 := SH.same hS184 hk48
          refine ⟨fun h_ => (KB.transN (KB.transN (KB.transN (KB.transN (KB.transN (KB.transN (KB.transN (KB.transN (KB.transN (KB.refl _ _) hk42) hk43) hk44) hk47) hS177.kb) hS179.kb) hS181.kb) hS183.kb) hk48), ?_⟩
          refine WS.pure rfl rfl (fun _ => LV.eqPN Try.underlying26 rfl rfl) ?_
          refine WS.pure rfl rfl (fun _ => LV.pickT rfl rfl) ?_
          refine WS.pure rfl rfl (fun _ => LV.asg rfl) ?_
          refine WS.nil (thenQ.n ?_)
          refine WC.ret (?_)
          exact ⟨_, fun a ha => res1 rfl ha rfl, rfl, hS185.kb⟩
  · have hz96 := fewn_calls (w := w3) (SH.stN hS4 h_it) hfine1 
    refine WL.call rfl (XC.fn Try.func7 (by kernel_rfl) rfl rfl rfl) (hz96) ?_
    rintro v_ w109 ⟨rfl, hk49⟩
    have hS186 := SH.same hS4 hk49
    refine WL.lv rfl (LV.mv rfl) ?_
    iterate 2 refine WL.lv rfl (LV.extract rfl rfl) ?_
    iterate 2 refine WL.lv rfl (LV.asg rfl) ?_
    refine WL.nil (thenQ.n ?_)
    iterate 2 refine WC.seq ?_
    refine WC.region ?_
    refine WL.lv rfl (LV.mv rfl) ?_
    refine WL.lv rfl (LV.notB rfl) ?_
    refine WL.nil (thenQ.n ?_)
    refine WC.condF rfl ?_
    refine WC.skip (thenQ.n ?_)
    iterate 2 refine WC.seq ?_
    refine WC.region ?_
    refine WL.lv rfl (LV.mv rfl) ?_
    refine WL.lv rfl (LV.notB rfl) ?_
    refine WL.nil (thenQ.n ?_)
    refine WC.condT rfl ?_
    refine WC.seq ?_
    refine WC.region ?_
    have hz97 := live_calls (w := w109) 
    refine WL.call rfl (XC.fn Try.func9 (by kernel_rfl) rfl rfl rfl) (hz97) ?_
    rintro v_ w110 ⟨rfl, hk50⟩
    have hS187 := SH.same hS186 hk50
    refine WL.lv rfl (LV.asg rfl) ?_
    refine WL.nil (thenQ.n ?_)
    refine WC.ret (thenQ.r <| ?_)
    exact ⟨_, fun a ha => res1 rfl ha rfl, rfl, hS187.kb⟩

end Go.Proofs.Ytigbphaimbhgjaa

