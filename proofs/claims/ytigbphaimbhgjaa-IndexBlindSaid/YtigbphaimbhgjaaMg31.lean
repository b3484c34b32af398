/- The law of what one may not read. -/
import Derived.Test.YtigbphaimbhgjaaMg30
namespace Go.Proofs.Ytigbphaimbhgjaa
open Go Go.Gv Go.RowKit Go.Tly Go.Wds Go.Idx
set_option linter.unusedVariables false
set_option linter.unusedSimpArgs false

attribute [local irreducible] Go.Idx.PUTF Go.Idx.FIND Go.Idx.WRDS Go.Idx.FLS Go.Idx.OF Go.Idx.LOW Go.Idx.DOS Go.Idx.ALLF Go.Idx.WOF

set_option maxHeartbeats 4000000 in
set_option maxRecDepth 100000 in
theorem indexBlind_law {w : World} {A_l : Option Addr} {n_l c_l : Nat} {l : DDS} {qw : ByteArray} {o : Lb} (h_l : St No w (Rd eDd (.slice A_l n_l c_l) (DLS l))) (hi_l : St No w (RdIn ddS eIt l)) (hn_l : l.length = n_l) (hz_l : ∀ d ∈ l, d.1.2.1.size ≤ 140737488355328) (hy_l : ∀ d ∈ l, ∀ y ∈ d.2, 0 ≤ y.2.1.2 ∧ y.2.1.2 < 18446744073709551616) (hsw : qw.size ≤ 140737488355328) (wo : 0 ≤ o.2 ∧ o.2 < 18446744073709551616) :
    Calls Try.prog 3 #[(.slice A_l n_l c_l), (.string qw), (.agg #[(.int .i64 ((o).1)), (.int .u64 ((o).2))])] w fun e w' => ∃ v, e = .returned v ∧ (fun v w' => v = .bool true ∧ KB No w w') v w' := by
  subst hn_l
  have hS : SH w No w [] := SH.nil _ _
  refine calls (l := litOf [(.slice A_l l.length c_l), (.string qw), (.agg #[(.int .i64 ((o).1)), (.int .u64 ((o).2))])] 0) Try.func3 rfl (n := 102) rfl (Nat.le_of_ble_eq_true rfl) (lit_args _) ?_
  refine WC.seq ?_
  refine WC.region ?_
  refine WL.xe rfl (XE.box #[(.int .i64 ((o).1)), (.int .u64 ((o).2))] hS rfl rfl) ?_
  rintro _ w1 ⟨b1, rfl, hS1, hk1⟩
  refine WL.lv rfl (LV.asg rfl) ?_
  refine WL.nil (thenQ.n ?_)
  refine WC.seq ?_
  refine WC.region ?_
  refine WL.lv rfl (LV.mv rfl) ?_
  have hz1 := play_calls (w := w1) (l := l) (SH.stN hS1 h_l) (SH.stN hS1 hi_l) rfl hz_l hy_l 
  refine WL.call rfl (XC.fn Try.func6 (by kernel_rfl) rfl rfl rfl) (hz1) ?_
  rintro v_ w2 ⟨b2, m1, m2, kv1, kw1, Pa1, Pb1, yb1, A1, c1, rs1, Pc1, rfl, hv1, hD1, hS2⟩
  have hS3 := SH.joinN hS1 hS2
  refine WL.lv rfl (LV.mv rfl) ?_
  iterate 3 refine WL.lv rfl (LV.extract rfl rfl) ?_
  iterate 3 refine WL.lv rfl (LV.asg rfl) ?_
  refine WL.nil (thenQ.n ?_)
  refine WC.seq ?_
  refine WC.region ?_
  have hS4 := SH.nilRow (E := eDd) (T := 34) hS3
  have hS5 : SH w No w2 [insE ddS eIt 64 [], rowE eDd 34 (.slice none ((DLS []).length) 0) (DLS []), blkE b2 71 #[(.map (some m1)), (.map (some m2))], mapG kS kV m1 kv1, mapG kS kV m2 kw1, insE idS eIt 64 Pa1, insE idS eSI 73 Pb1, blkE yb1 52 #[(.slice A1 rs1.length c1)], rowE eSV 54 (.slice A1 rs1.length c1) rs1, insE idS eIt 64 Pc1, blkE b1 25 #[(.int .i64 ((o).1)), (.int .u64 ((o).2))]] := SH.ins0 (sv := ddS) (E := eIt) (T1 := 64) hS4
  refine WL.lv rfl (LV.asg rfl) ?_
  refine WL.nil (thenQ.n ?_)
  iterate 2 refine WC.seq ?_
  refine WC.region ?_
  refine WL.lv rfl (LV.asg rfl) ?_
  refine WL.nil (thenQ.n ?_)
  refine WC.block ?_
  refine WC.loop (fun m_ f_ w_ => ∃ (i : Int) (A_cut : Option Addr) (c_cut : Nat) (L : DDS), (0 ≤ i) ∧ (i ≤ l.length ∧ i ≤ 20) ∧ (PLD L = CUTD o (l.take i.toNat)) ∧ ((L.length : Int) ≤ i) ∧ SH w No w_ [insE ddS eIt 64 L, rowE eDd 34 (.slice A_cut ((DLS L).length) c_cut) (DLS L), blkE b2 71 #[(.map (some m1)), (.map (some m2))], mapG kS kV m1 kv1, mapG kS kV m2 kw1, insE idS eIt 64 Pa1, insE idS eSI 73 Pb1, blkE yb1 52 #[(.slice A1 rs1.length c1)], rowE eSV 54 (.slice A1 rs1.length c1) rs1, insE idS eIt 64 Pc1, blkE b1 25 #[(.int .i64 ((o).1)), (.int .u64 ((o).2))]] ∧ m_ = ((20 - i).toNat) ∧ Weak (lit [(0, (.slice A_l l.length c_l)), (1, (.string qw)), (5, (.pointer (some ⟨b1, 0, none⟩))), (7, (.pointer (some ⟨b2, 0, none⟩))), (9, (.bool true)), (10, (.slice A_cut ((DLS L).length) c_cut)), (11, (.int .i64 i))]) f_) _ ⟨0, none, 0, [], by omega, by omega, rfl, (by simp), hS5, rfl, Weak.cons rfl <| Weak.cons rfl <| Weak.cons rfl <| Weak.cons rfl <| Weak.cons rfl <| Weak.cons rfl <| Weak.cons rfl <| Weak.nil _⟩ ?_
  rintro m3 f1 w3 ⟨i, A_cut, c_cut, L, ilo, ihi, qc, qn, hL1, rfl, hw1⟩
  refine WC.weak hw1 ?_
  clear hw1
  iterate 2 refine WC.seq ?_
  refine WC.region ?_
  iterate 2 refine WL.lv rfl (LV.mv rfl) ?_
  refine WL.lv rfl (LV.lenL Try.underlying22 rfl) ?_
  rcases Decidable.em (i < (l.length : Int)) with hg1 | hg1
  · refine WL.lv rfl (LV.as (LV.ltI rfl rfl) (decide_eq_true hg1)) ?_
    iterate 2 refine WL.lv rfl (LV.mv rfl) ?_
    refine WL.lv rfl (LV.ltI rfl rfl) ?_
    refine WL.lv rfl (LV.pickT rfl rfl) ?_
    refine WL.nil (thenQ.n ?_)
    refine WC.condP (p := i < 20) rfl (fun hc1 => ?_) (fun hc1 => ?_)
    · skip
      refine WC.skip (thenQ.n ?_)
      refine WC.seq ?_
      refine WC.block ?_
      refine WC.seq ?_
      refine WC.region ?_
      iterate 2 refine WL.lv rfl (LV.mv rfl) ?_
      obtain ⟨A2, c2, e1, g1⟩ := St.elt (SH.stN hL1 h_l) dDd i (by omega) (by rw [List.length_map]; omega)
      refine WL.lv rfl (LV.idxA Try.underlying22 ti34.sz rfl e1 rfl (by omega) (by rw [List.length_map]; omega)) ?_
      refine WL.lv rfl (LV.fieldA Try.underlying34 rfl ti30.sz rfl) ?_
      obtain ⟨A3, c3, hv2, hr1⟩ := dd_at (i := (i).toNat) hi_l (by omega)
      refine WL.lv rfl (LV.to hv2 (LV.load1 (v := ((DLS l).getD (i).toNat dDd).2.2.v) Try.underlying30 rfl rfl (g1 _ (KB.refl No _) 2 _ rfl))) ?_
      rcases Decidable.em (FINE ((l.getD (i).toNat dDI).2)) with hfine1 | hfine1
      · have hz2 := fewy_calls (w := w3) (SH.stN hL1 hr1) hfine1 
        refine WL.call rfl (XC.fn Try.func7 (by kernel_rfl) rfl rfl rfl) (hz2) ?_
        rintro v_ w4 ⟨rfl, hk2⟩
        have hS6 := SH.same hL1 hk2
        refine WL.lv rfl (LV.mv rfl) ?_
        iterate 2 refine WL.lv rfl (LV.extract rfl rfl) ?_
        iterate 2 refine WL.lv rfl (LV.asg rfl) ?_
        refine WL.nil (thenQ.n ?_)
        refine WC.seq ?_
        refine WC.region ?_
        refine WL.lv rfl (LV.mv rfl) ?_
        refine WL.nil (thenQ.n ?_)
        refine WC.condT rfl ?_
        have hS7 := SH.drew hS6
        refine WC.regionD [16] (fun w_ => KB No w4.drew w_) [(.pure, 0), (.pure, 1), (.pure, 2), (.pure, 3), (.pure, 4), (.look, 5), (.pure, 6), (.pure, 7), (.pure, 8), (.pure, 9), (.look, 10), (.pure, 11), (.look, 12), (.forced, 13), (.pure, 14), (.forced, 15), (.forced, 16), (.pure, 17)] (by kernel_rfl) (by kernel_rfl) (KB.refl _ _) ?_
        iterate 3 refine WS.pure rfl rfl (fun _ => LV.mv rfl) ?_
        obtain ⟨A4, c4, e2, g2⟩ := St.elt (SH.stN hS7 h_l) dDd i (by omega) (by rw [List.length_map]; omega)
        refine WS.pure rfl rfl (fun _ => LV.idxA Try.underlying22 ti34.sz rfl e2 rfl (by omega) (by rw [List.length_map]; omega)) ?_
        refine WS.pure rfl rfl (fun _ => LV.fieldA Try.underlying34 rfl ti4.sz rfl) ?_
        refine WS.look rfl rfl (fun _ hk_ => LV.load1 (v := (.bool (((DLS l).getD (i).toNat dDd).1))) Try.underlying4 rfl rfl (g2 _ hk_ 0 _ rfl)) ?_
        iterate 2 refine WS.pure rfl rfl (fun _ => LV.mv rfl) ?_
        obtain ⟨A5, c5, e3, g3⟩ := St.elt (SH.stN hS7 h_l) dDd i (by omega) (by rw [List.length_map]; omega)
        refine WS.pure rfl rfl (fun _ => LV.idxA Try.underlying22 ti34.sz rfl e3 rfl (by omega) (by rw [List.length_map]; omega)) ?_
        refine WS.pure rfl rfl (fun _ => LV.fieldA Try.underlying34 rfl ti9.sz rfl) ?_
        refine WS.look rfl rfl (fun _ hk_ => LV.load1 (v := (.string (((DLS l).getD (i).toNat dDd).2.1))) Try.underlying9 rfl rfl (g3 _ hk_ 1 _ rfl)) ?_
        refine WS.pure rfl rfl (fun _ => LV.mv rfl) ?_
        refine WS.look rfl rfl (fun _ hk_ => LV.loadAgg (cs := [(.int .i64 ((o).1)), (.int .u64 ((o).2))]) Try.underlying25 rfl ti25 rfl rfl (Blk.agg (SH.at hS7 (.tail _ (.tail _ (.tail _ (.tail _ (.tail _ (.tail _ (.tail _ (.tail _ (.tail _ (.tail _ (.head _)))))))))))) _ hk_)) ?_
        have hyi_ := hy_l _ (getD_mem (l := l) (d := dDI) (i := i.toNat) (by omega))
        have h20_ := List.length_take_le 20 (l.getD i.toNat dDI).2
        have hdl_ : (DLS L).length = L.length := List.length_map _
        have hz3 := cut_calls (w := w4.drew) (b := o) (SH.stN hS7 (few_rd 20 hr1)) rfl (fun x hx => hyi_ x (List.mem_of_mem_take hx)) (by omega) (by omega) 
        refine WS.call rfl rfl (XC.fn Try.func8 (by kernel_rfl) rfl rfl rfl) (hz3) ?_
        rintro v_ w5 ⟨A6, c6, rfl, hS8⟩
        have hS9 := SH.joinN hS7 hS8
        refine ⟨fun h_ => (KB.transN (KB.refl _ _) hS8.kb), ?_⟩
        refine WS.pure rfl rfl (fun _ => LV.build (vs := [(0, (.bool (((DLS l).getD (i).toNat dDd).1))), (1, (.string (((DLS l).getD (i).toNat dDd).2.1))), (2, (.slice A6 ((CUTL (((l.getD (i).toNat dDI).2).take 20) o).length) c6))]) (places := #[(0, 1), (1, 1), (2, 1)]) (cs := #[(.bool (((DLS l).getD (i).toNat dDd).1)), (.string (((DLS l).getD (i).toNat dDd).2.1)), (.slice A6 ((CUTL (((l.getD (i).toNat dDI).2).take 20) o).length) c6)]) Try.underlying34 ti34 (fun _ => by kernel_rfl) rfl rfl) ?_
        refine WS.xe rfl rfl (XE.buildSlice (E := eDd) [(0, (.agg #[(.bool (((DLS l).getD (i).toNat dDd).1)), (.string (((DLS l).getD (i).toNat dDd).2.1)), (.slice A6 ((CUTL (((l.getD (i).toNat dDI).2).take 20) o).length) c6)]))] #[(.bool (((DLS l).getD (i).toNat dDd).1)), (.string (((DLS l).getD (i).toNat dDd).2.1)), (.slice A6 ((CUTL (((l.getD (i).toNat dDI).2).take 20) o).length) c6)] [((((DLS l).getD (i).toNat dDd).1, ((DLS l).getD (i).toNat dDd).2.1, (⟨A6, (CUTL (((l.getD (i).toNat dDI).2).take 20) o).length, c6⟩ : SV)) : DD)] hS9 Try.underlying22 ti34 rfl (by decide) (by kernel_rfl) (.inr rfl) rfl rfl (by decide)) ?_
        rintro _ w6 ⟨b3, rfl, hS10, hk3⟩
        refine ⟨fun h_ => (KB.transN (KB.transN (KB.refl _ _) hS8.kb) hk3), ?_⟩
        have hS11 : SH w No w6 [rowE eDd 34 (.slice A_cut ((DLS L).length) c_cut) (DLS L), rowE eDd 34 (.slice (some ⟨b3, 0, none⟩) 1 1) [((((DLS l).getD (i).toNat dDd).1, ((DLS l).getD (i).toNat dDd).2.1, (⟨A6, (CUTL (((l.getD (i).toNat dDI).2).take 20) o).length, c6⟩ : SV)) : DD)], rowE eIt 64 (.slice A6 ((CUTL (((l.getD (i).toNat dDI).2).take 20) o).length) c6) (CUTL (((l.getD (i).toNat dDI).2).take 20) o), insE ddS eIt 64 L, blkE b2 71 #[(.map (some m1)), (.map (some m2))], mapG kS kV m1 kv1, mapG kS kV m2 kw1, insE idS eIt 64 Pa1, insE idS eSI 73 Pb1, blkE yb1 52 #[(.slice A1 rs1.length c1)], rowE eSV 54 (.slice A1 rs1.length c1) rs1, insE idS eIt 64 Pc1, blkE b1 25 #[(.int .i64 ((o).1)), (.int .u64 ((o).2))]] := (SH.front [_, _, _] hS10)
        refine WS.xe rfl rfl (XE.append hS11 Try.underlying22 ti34 rfl (St.now (SH.rd hS11 (.tail _ (.head _)))) rfl rfl (by first | omega | simp only [List.length_append, List.length_cons, List.length_nil, List.length_take, List.length_reverse, List.length_drop] at *; omega) (by first | omega | simp only [List.length_append, List.length_cons, List.length_nil, List.length_take, List.length_reverse, List.length_drop] at *; omega)) ?_
        rintro _ w7 ⟨A7, c7, rfl, hS12, hk4⟩
        refine ⟨fun h_ => (by cases h_), ?_⟩
        refine WS.pure rfl rfl (fun _ => LV.asg rfl) ?_
        refine WS.nil (blockQ.n <| thenQ.n ?_)
        refine WC.region ?_
        refine WL.lv rfl (LV.mv rfl) ?_
        have hS15 : SH w No w7 [insE ddS eIt 64 L, rowE eDd 34 (.slice A7 (((DLS L) ++ [((((DLS l).getD (i).toNat dDd).1, ((DLS l).getD (i).toNat dDd).2.1, (⟨A6, (CUTL (((l.getD (i).toNat dDI).2).take 20) o).length, c6⟩ : SV)) : DD)]).length) c7) ((DLS L) ++ [((((DLS l).getD (i).toNat dDd).1, ((DLS l).getD (i).toNat dDd).2.1, (⟨A6, (CUTL (((l.getD (i).toNat dDI).2).take 20) o).length, c6⟩ : SV)) : DD)]), rowE eDd 34 (.slice (some ⟨b3, 0, none⟩) 1 1) [((((DLS l).getD (i).toNat dDd).1, ((DLS l).getD (i).toNat dDd).2.1, (⟨A6, (CUTL (((l.getD (i).toNat dDI).2).take 20) o).length, c6⟩ : SV)) : DD)], rowE eIt 64 (.slice A6 ((CUTL (((l.getD (i).toNat dDI).2).take 20) o).length) c6) (CUTL (((l.getD (i).toNat dDI).2).take 20) o), blkE b2 71 #[(.map (some m1)), (.map (some m2))], mapG kS kV m1 kv1, mapG kS kV m2 kw1, insE idS eIt 64 Pa1, insE idS eSI 73 Pb1, blkE yb1 52 #[(.slice A1 rs1.length c1)], rowE eSV 54 (.slice A1 rs1.length c1) rs1, insE idS eIt 64 Pc1, blkE b1 25 #[(.int .i64 ((o).1)), (.int .u64 ((o).2))]] := (SH.front [_, _, _] hS12)
        have hS16 : SH w No w7 [rowE eIt 64 (.slice A6 ((CUTL (((l.getD (i).toNat dDI).2).take 20) o).length) c6) (CUTL (((l.getD (i).toNat dDI).2).take 20) o), insE ddS eIt 64 L, rowE eDd 34 (.slice A7 (((DLS L) ++ [((((DLS l).getD (i).toNat dDd).1, ((DLS l).getD (i).toNat dDd).2.1, (⟨A6, (CUTL (((l.getD (i).toNat dDI).2).take 20) o).length, c6⟩ : SV)) : DD)]).length) c7) ((DLS L) ++ [((((DLS l).getD (i).toNat dDd).1, ((DLS l).getD (i).toNat dDd).2.1, (⟨A6, (CUTL (((l.getD (i).toNat dDI).2).take 20) o).length, c6⟩ : SV)) : DD)]), rowE eDd 34 (.slice (some ⟨b3, 0, none⟩) 1 1) [((((DLS l).getD (i).toNat dDd).1, ((DLS l).getD (i).toNat dDd).2.1, (⟨A6, (CUTL (((l.getD (i).toNat dDI).2).take 20) o).length, c6⟩ : SV)) : DD)], blkE b2 71 #[(.map (some m1)), (.map (some m2))], mapG kS kV m1 kv1, mapG kS kV m2 kw1, insE idS eIt 64 Pa1, insE idS eSI 73 Pb1, blkE yb1 52 #[(.slice A1 rs1.length c1)], rowE eSV 54 (.slice A1 rs1.length c1) rs1, insE idS eIt 64 Pc1, blkE b1 25 #[(.int .i64 ((o).1)), (.int .u64 ((o).2))]] := (SH.front [_, _, _] hS15)
        obtain ⟨L1, hL2⟩ : ∃ L_ : DDS, L_ = L ++ [(((((DLS l).getD (i).toNat dDd).1, ((DLS l).getD (i).toNat dDd).2.1, (⟨A6, (CUTL (((l.getD (i).toNat dDI).2).take 20) o).length, c6⟩ : SV)) : DD), CUTL (((l.getD (i).toNat dDI).2).take 20) o)] := ⟨_, rfl⟩
        have he1 : ((DLS L) ++ [((((DLS l).getD (i).toNat dDd).1, ((DLS l).getD (i).toNat dDd).2.1, (⟨A6, (CUTL (((l.getD (i).toNat dDI).2).take 20) o).length, c6⟩ : SV)) : DD)]) = DLS L1 := by rw [hL2]; unfold DLS; rw [List.map_append]; rfl
        have hS13 := SH.insMore (sv := ddS) (r := ((((DLS l).getD (i).toNat dDd).1, ((DLS l).getD (i).toNat dDd).2.1, (⟨A6, (CUTL (((l.getD (i).toNat dDI).2).take 20) o).length, c6⟩ : SV)) : DD)) rfl hS16
        rw [← hL2, he1] at hS13
        rw [he1]
        refine WL.lv rfl (LV.add rfl rfl (wr64 (by omega) (by omega))) ?_
        refine WL.lv rfl (LV.asg rfl) ?_
        refine WL.nil (thenQ.n ?_)
        have hS17 : SH w No w7 [insE ddS eIt 64 L1, rowE eDd 34 (.slice A7 ((DLS L1).length) c7) (DLS L1), blkE b2 71 #[(.map (some m1)), (.map (some m2))], mapG kS kV m1 kv1, mapG kS kV m2 kw1, insE idS eIt 64 Pa1, insE idS eSI 73 Pb1, blkE yb1 52 #[(.slice A1 rs1.length c1)], rowE eSV 54 (.slice A1 rs1.length c1) rs1, insE idS eIt 64 Pc1, blkE b1 25 #[(.int .i64 ((o).1)), (.int .u64 ((o).2))]] := (SH.take 11 rfl (SH.front [_, _, _, _, _, _, _, _, _, _] (SH.front [_, _, _, _, _, _, _, _, _, _] (SH.front [_, _, _, _, _, _, _, _, _, _, _] (SH.front [_, _, _, _, _, _, _, _, _, _, _] (SH.front [_, _, _, _, _, _, _, _, _, _, _] (SH.front [_, _, _, _, _, _, _, _, _, _, _] (SH.front [_, _, _, _, _, _, _, _, _, _, _] (SH.front [_, _, _, _, _, _, _, _, _, _, _] (SH.front [_, _, _, _, _, _, _, _, _, _, _] (SH.front [_, _, _, _, _, _, _, _, _, _, _] (SH.front [_, _, _, _, _, _, _, _, _, _, _] hS13))))))))))))
        exact ⟨_, by omega, i + 1, A7, c7, L1, by omega, by omega, (cut_yes ilo (by omega) hfine1 qc hL2 (by rw [dd_get]) (by rw [dd_get]) rfl), ((by rw [hL2, List.length_append, List.length_singleton]; omega)), hS17, rfl, Weak.cons rfl <| Weak.cons rfl <| Weak.cons rfl <| Weak.cons rfl <| Weak.cons rfl <| Weak.cons rfl <| Weak.cons rfl <| Weak.nil _⟩
      · have hz4 := fewn_calls (w := w3) (SH.stN hL1 hr1) hfine1 
        refine WL.call rfl (XC.fn Try.func7 (by kernel_rfl) rfl rfl rfl) (hz4) ?_
        rintro v_ w8 ⟨rfl, hk5⟩
        have hS18 := SH.same hL1 hk5
        refine WL.lv rfl (LV.mv rfl) ?_
        iterate 2 refine WL.lv rfl (LV.extract rfl rfl) ?_
        iterate 2 refine WL.lv rfl (LV.asg rfl) ?_
        refine WL.nil (thenQ.n ?_)
        refine WC.seq ?_
        refine WC.region ?_
        refine WL.lv rfl (LV.mv rfl) ?_
        refine WL.nil (thenQ.n ?_)
        refine WC.condF rfl ?_
        refine WC.skip (blockQ.n <| thenQ.n ?_)
        refine WC.region ?_
        refine WL.lv rfl (LV.mv rfl) ?_
        refine WL.lv rfl (LV.add rfl rfl (wr64 (by omega) (by omega))) ?_
        refine WL.lv rfl (LV.asg rfl) ?_
        refine WL.nil (thenQ.n ?_)
        exact ⟨_, by omega, i + 1, A_cut, c_cut, L, by omega, by omega, (cut_no ilo (by omega) hfine1 qc), by omega, hS18, rfl, Weak.cons rfl <| Weak.cons rfl <| Weak.cons rfl <| Weak.cons rfl <| Weak.cons rfl <| Weak.cons rfl <| Weak.cons rfl <| Weak.nil _⟩
    · skip
      refine WC.exit (thenQ.x <| thenQ.x <| blockQ.hit <| thenQ.n ?_)
      refine WC.seq ?_
      refine WC.region ?_
      refine WL.lv rfl (LV.mv rfl) ?_
      have hbd_ := blind_dos ihi (by omega) qc qn
      have hz5 := play_calls (w := w3) (l := L) (SH.rd hL1 (.tail _ (.head _))) (SH.rdIn hL1 (.head _)) (List.length_map _).symm (cut_size hz_l qc) (cut_wl hy_l qc) 
      refine WL.call rfl (XC.fn Try.func6 (by kernel_rfl) rfl rfl rfl) (hz5) ?_
      rintro v_ w9 ⟨b4, m4, m5, kv2, kw2, Pa2, Pb2, yb2, A8, c8, rs2, Pc2, rfl, hv3, hD2, hS19⟩
      have hS20 := SH.joinN hL1 hS19
      refine WL.lv rfl (LV.mv rfl) ?_
      iterate 3 refine WL.lv rfl (LV.extract rfl rfl) ?_
      iterate 3 refine WL.lv rfl (LV.asg rfl) ?_
      refine WL.nil (thenQ.n ?_)
      refine WC.seq ?_
      have hS21 := SH.drew hS20
      refine WC.regionD [] (fun w_ => KB No w9.drew w_) [(.pure, 0), (.pure, 1), (.pure, 2), (.pure, 3), (.pure, 4), (.forced, 5), (.pure, 6), (.pure, 7), (.pure, 8), (.pure, 9), (.look, 10), (.pure, 12), (.pure, 13), (.look, 14), (.forced, 11), (.forced, 15), (.forced, 16), (.pure, 17), (.pure, 18), (.pure, 19), (.look, 20), (.pure, 22), (.look, 23), (.forced, 21), (.forced, 24), (.forced, 25), (.pure, 26), (.pure, 27), (.pure, 28), (.look, 29), (.pure, 31), (.look, 32), (.forced, 30), (.forced, 33), (.forced, 34), (.pure, 35), (.pure, 36)] (by kernel_rfl) (by kernel_rfl) (KB.refl _ _) ?_
      iterate 3 refine WS.pure rfl rfl (fun _ => LV.mv rfl) ?_
      refine WS.pure rfl rfl (fun _ => LV.pickT rfl rfl) ?_
      refine WS.pure rfl rfl (fun _ => LV.mv rfl) ?_
      have hz6 := live_calls (w := w9.drew) 
      refine WS.call rfl rfl (XC.fn Try.func9 (by kernel_rfl) rfl rfl rfl) (hz6) ?_
      rintro v_ w10 ⟨rfl, hk6⟩
      have hS22 := SH.same hS21 hk6
      refine ⟨fun h_ => (KB.transN (KB.refl _ _) hk6), ?_⟩
      refine WS.pure rfl rfl (fun _ => LV.pickT rfl rfl) ?_
      iterate 3 refine WS.pure rfl rfl (fun _ => LV.mv rfl) ?_
      refine WS.look rfl rfl (fun _ hk_ => LV.loadAgg (cs := [(.int .i64 ((o).1)), (.int .u64 ((o).2))]) Try.underlying25 rfl ti25 rfl rfl (Blk.agg (SH.at hS21 (.tail _ (.tail _ (.tail _ (.tail _ (.tail _ (.tail _ (.tail _ (.tail _ (.tail _ (.tail _ (.tail _ (.tail _ (.tail _ (.tail _ (.tail _ (.tail _ (.tail _ (.tail _ (.head _)))))))))))))))))))) _ hk_)) ?_
      iterate 2 refine WS.pure rfl rfl (fun _ => LV.mv rfl) ?_
      refine WS.look rfl rfl (fun _ hk_ => LV.loadAgg (cs := [(.int .i64 ((o).1)), (.int .u64 ((o).2))]) Try.underlying25 rfl ti25 rfl rfl (Blk.agg (SH.at hS21 (.tail _ (.tail _ (.tail _ (.tail _ (.tail _ (.tail _ (.tail _ (.tail _ (.tail _ (.tail _ (.tail _ (.tail _ (.tail _ (.tail _ (.tail _ (.tail _ (.tail _ (.tail _ (.head _)))))))))))))))))))) _ hk_)) ?_
      have hz7 := find_calls (w := w10) (word := qw) (o := o) (SH.ixr5 (T1 := 64) (T2 := 73) (X := (⟨b2, m1, m2, kv1, kw1, Pa1, Pb1, (DOS (l.take 20))⟩ : IXS)) hS22 (.tail _ (.tail _ (.tail _ (.tail _ (.tail _ (.tail _ (.tail _ (.tail _ (.tail _ (.tail _ (.head _))))))))))) (.tail _ (.tail _ (.tail _ (.tail _ (.tail _ (.tail _ (.tail _ (.tail _ (.tail _ (.tail _ (.tail _ (.head _)))))))))))) (.tail _ (.tail _ (.tail _ (.tail _ (.tail _ (.tail _ (.tail _ (.tail _ (.tail _ (.tail _ (.tail _ (.tail _ (.head _))))))))))))) (.tail _ (.tail _ (.tail _ (.tail _ (.tail _ (.tail _ (.tail _ (.tail _ (.tail _ (.tail _ (.tail _ (.tail _ (.tail _ (.head _)))))))))))))) (.tail _ (.tail _ (.tail _ (.tail _ (.tail _ (.tail _ (.tail _ (.tail _ (.tail _ (.tail _ (.tail _ (.tail _ (.tail _ (.tail _ (.head _)))))))))))))))) hv1 (by omega) (hsw) (by omega) 
      refine WS.call rfl rfl (XC.fn Try.func11 (by kernel_rfl) rfl rfl rfl) (hz7) ?_
      rintro v_ w11 ⟨A9, c9, rfl, hS23⟩
      have hS24 := SH.joinN hS22 hS23
      refine ⟨fun h_ => (KB.transN (KB.transN (KB.refl _ _) hk6) hS23.kb), ?_⟩
      have hz8 := find_calls (w := w11) (word := qw) (o := o) (SH.ixr5 (T1 := 64) (T2 := 73) (X := (⟨b4, m4, m5, kv2, kw2, Pa2, Pb2, (DOS (L.take 20))⟩ : IXS)) hS24 (.tail _ (.head _)) (.tail _ (.tail _ (.head _))) (.tail _ (.tail _ (.tail _ (.head _)))) (.tail _ (.tail _ (.tail _ (.tail _ (.head _))))) (.tail _ (.tail _ (.tail _ (.tail _ (.tail _ (.head _))))))) hv3 (by omega) (hsw) (by omega) 
      refine WS.call rfl rfl (XC.fn Try.func11 (by kernel_rfl) rfl rfl rfl) (hz8) ?_
      rintro v_ w12 ⟨A10, c10, rfl, hS25⟩
      have hS26 := SH.joinN hS24 hS25
      refine ⟨fun h_ => (KB.transN (KB.transN (KB.transN (KB.refl _ _) hk6) hS23.kb) hS25.kb), ?_⟩
      have hz9 := Calls.asB (w := w12) (shits_calls  (SH.rd hS26 (.tail _ (.head _))) rfl (SH.rd hS26 (.head _)) rfl ) (decide_eq_true ((by show FIND (DOS (l.take 20)) _ o = FIND (DOS (L.take 20)) _ o; rw [hbd_, find_cut]))) 
      refine WS.call rfl rfl (XC.fn Try.func10 (by kernel_rfl) rfl rfl rfl) (hz9) ?_
      rintro v_ w13 ⟨rfl, hk7⟩
      have hS27 := SH.same hS26 hk7
      refine ⟨fun h_ => (KB.transN (KB.transN (KB.transN (KB.transN (KB.refl _ _) hk6) hS23.kb) hS25.kb) hk7), ?_⟩
      refine WS.pure rfl rfl (fun _ => LV.pickT rfl rfl) ?_
      iterate 2 refine WS.pure rfl rfl (fun _ => LV.mv rfl) ?_
      refine WS.look rfl rfl (fun _ hk_ => LV.loadAgg (cs := [(.int .i64 ((o).1)), (.int .u64 ((o).2))]) Try.underlying25 rfl ti25 rfl rfl (Blk.agg (SH.at hS21 (.tail _ (.tail _ (.tail _ (.tail _ (.tail _ (.tail _ (.tail _ (.tail _ (.tail _ (.tail _ (.tail _ (.tail _ (.tail _ (.tail _ (.tail _ (.tail _ (.tail _ (.tail _ (.head _)))))))))))))))))))) _ hk_)) ?_
      refine WS.pure rfl rfl (fun _ => LV.mv rfl) ?_
      refine WS.look rfl rfl (fun _ hk_ => LV.loadAgg (cs := [(.int .i64 ((o).1)), (.int .u64 ((o).2))]) Try.underlying25 rfl ti25 rfl rfl (Blk.agg (SH.at hS21 (.tail _ (.tail _ (.tail _ (.tail _ (.tail _ (.tail _ (.tail _ (.tail _ (.tail _ (.tail _ (.tail _ (.tail _ (.tail _ (.tail _ (.tail _ (.tail _ (.tail _ (.tail _ (.head _)))))))))))))))))))) _ hk_)) ?_
      have hz10 := words_calls (w := w13) (o := o) (SH.ixr5 (T1 := 64) (T2 := 73) (X := (⟨b2, m1, m2, kv1, kw1, Pa1, Pb1, (DOS (l.take 20))⟩ : IXS)) hS27 (.tail _ (.tail _ (.tail _ (.tail _ (.tail _ (.tail _ (.tail _ (.tail _ (.tail _ (.tail _ (.tail _ (.tail _ (.head _))))))))))))) (.tail _ (.tail _ (.tail _ (.tail _ (.tail _ (.tail _ (.tail _ (.tail _ (.tail _ (.tail _ (.tail _ (.tail _ (.tail _ (.head _)))))))))))))) (.tail _ (.tail _ (.tail _ (.tail _ (.tail _ (.tail _ (.tail _ (.tail _ (.tail _ (.tail _ (.tail _ (.tail _ (.tail _ (.tail _ (.head _))))))))))))))) (.tail _ (.tail _ (.tail _ (.tail _ (.tail _ (.tail _ (.tail _ (.tail _ (.tail _ (.tail _ (.tail _ (.tail _ (.tail _ (.tail _ (.tail _ (.head _)))))))))))))))) (.tail _ (.tail _ (.tail _ (.tail _ (.tail _ (.tail _ (.tail _ (.tail _ (.tail _ (.tail _ (.tail _ (.tail _ (.tail _ (.tail _ (.tail _ (.tail _ (.head _)))))))))))))))))) hv1 (by omega) (by omega) 
      refine WS.call rfl rfl (XC.fn Try.func13 (by kernel_rfl) rfl rfl rfl) (hz10) ?_
      rintro v_ w14 ⟨A11, c11, rfl, hS28⟩
      have hS29 := SH.joinN hS27 hS28
      refine ⟨fun h_ => (KB.transN (KB.transN (KB.transN (KB.transN (KB.transN (KB.refl _ _) hk6) hS23.kb) hS25.kb) hk7) hS28.kb), ?_⟩
      have hz11 := words_calls (w := w14) (o := o) (SH.ixr5 (T1 := 64) (T2 := 73) (X := (⟨b4, m4, m5, kv2, kw2, Pa2, Pb2, (DOS (L.take 20))⟩ : IXS)) hS29 (.tail _ (.tail _ (.tail _ (.head _)))) (.tail _ (.tail _ (.tail _ (.tail _ (.head _))))) (.tail _ (.tail _ (.tail _ (.tail _ (.tail _ (.head _)))))) (.tail _ (.tail _ (.tail _ (.tail _ (.tail _ (.tail _ (.head _))))))) (.tail _ (.tail _ (.tail _ (.tail _ (.tail _ (.tail _ (.tail _ (.head _))))))))) hv3 (by omega) (by omega) 
      refine WS.call rfl rfl (XC.fn Try.func13 (by kernel_rfl) rfl rfl rfl) (hz11) ?_
      rintro v_ w15 ⟨A12, c12, rfl, hS30⟩
      have hS31 := SH.joinN hS29 hS30
      refine ⟨fun h_ => (KB.transN (KB.transN (KB.transN (KB.transN (KB.transN (KB.transN (KB.refl _ _) hk6) hS23.kb) hS25.kb) hk7) hS28.kb) hS30.kb), ?_⟩
      have hz12 := Calls.asB (w := w15) (stexts_calls  (SH.rd hS31 (.tail _ (.head _))) rfl (SH.rd hS31 (.head _)) rfl ) (decide_eq_true ((by show WRDS (DOS (l.take 20)) o = WRDS (DOS (L.take 20)) o; rw [hbd_, wrds_cut]))) 
      refine WS.call rfl rfl (XC.fn Try.func12 (by kernel_rfl) rfl rfl rfl) (hz12) ?_
      rintro v_ w16 ⟨rfl, hk8⟩
      have hS32 := SH.same hS31 hk8
      refine ⟨fun h_ => (KB.transN (KB.transN (KB.transN (KB.transN (KB.transN (KB.transN (KB.transN (KB.refl _ _) hk6) hS23.kb) hS25.kb) hk7) hS28.kb) hS30.kb) hk8), ?_⟩
      refine WS.pure rfl rfl (fun _ => LV.pickT rfl rfl) ?_
      iterate 2 refine WS.pure rfl rfl (fun _ => LV.mv rfl) ?_
      refine WS.look rfl rfl (fun _ hk_ => LV.loadAgg (cs := [(.int .i64 ((o).1)), (.int .u64 ((o).2))]) Try.underlying25 rfl ti25 rfl rfl (Blk.agg (SH.at hS21 (.tail _ (.tail _ (.tail _ (.tail _ (.tail _ (.tail _ (.tail _ (.tail _ (.tail _ (.tail _ (.tail _ (.tail _ (.tail _ (.tail _ (.tail _ (.tail _ (.tail _ (.tail _ (.head _)))))))))))))))))))) _ hk_)) ?_
      refine WS.pure rfl rfl (fun _ => LV.mv rfl) ?_
      refine WS.look rfl rfl (fun _ hk_ => LV.loadAgg (cs := [(.int .i64 ((o).1)), (.int .u64 ((o).2))]) Try.underlying25 rfl ti25 rfl rfl (Blk.agg (SH.at hS21 (.tail _ (.tail _ (.tail _ (.tail _ (.tail _ (.tail _ (.tail _ (.tail _ (.tail _ (.tail _ (.tail _ (.tail _ (.tail _ (.tail _ (.tail _ (.tail _ (.tail _ (.tail _ (.head _)))))))))))))))))))) _ hk_)) ?_
      have hz13 := files_calls (w := w16) (o := o) (SH.ixr5 (T1 := 64) (T2 := 73) (X := (⟨b2, m1, m2, kv1, kw1, Pa1, Pb1, (DOS (l.take 20))⟩ : IXS)) hS32 (.tail _ (.tail _ (.tail _ (.tail _ (.tail _ (.tail _ (.tail _ (.tail _ (.tail _ (.tail _ (.tail _ (.tail _ (.tail _ (.tail _ (.head _))))))))))))))) (.tail _ (.tail _ (.tail _ (.tail _ (.tail _ (.tail _ (.tail _ (.tail _ (.tail _ (.tail _ (.tail _ (.tail _ (.tail _ (.tail _ (.tail _ (.head _)))))))))))))))) (.tail _ (.tail _ (.tail _ (.tail _ (.tail _ (.tail _ (.tail _ (.tail _ (.tail _ (.tail _ (.tail _ (.tail _ (.tail _ (.tail _ (.tail _ (.tail _ (.head _))))))))))))))))) (.tail _ (.tail _ (.tail _ (.tail _ (.tail _ (.tail _ (.tail _ (.tail _ (.tail _ (.tail _ (.tail _ (.tail _ (.tail _ (.tail _ (.tail _ (.tail _ (.tail _ (.head _)))))))))))))))))) (.tail _ (.tail _ (.tail _ (.tail _ (.tail _ (.tail _ (.tail _ (.tail _ (.tail _ (.tail _ (.tail _ (.tail _ (.tail _ (.tail _ (.tail _ (.tail _ (.tail _ (.tail _ (.head _)))))))))))))))))))) hv1 (by omega) (by omega) 
      refine WS.call rfl rfl (XC.fn Try.func14 (by kernel_rfl) rfl rfl rfl) (hz13) ?_
      rintro v_ w17 ⟨A13, c13, rfl, hS33⟩
      have hS34 := SH.joinN hS32 hS33
      refine ⟨fun h_ => (KB.transN (KB.transN (KB.transN (KB.transN (KB.transN (KB.transN (KB.transN (KB.transN (KB.refl _ _) hk6) hS23.kb) hS25.kb) hk7) hS28.kb) hS30.kb) hk8) hS33.kb), ?_⟩
      have hz14 := files_calls (w := w17) (o := o) (SH.ixr5 (T1 := 64) (T2 := 73) (X := (⟨b4, m4, m5, kv2, kw2, Pa2, Pb2, (DOS (L.take 20))⟩ : IXS)) hS34 (.tail _ (.tail _ (.tail _ (.tail _ (.tail _ (.head _)))))) (.tail _ (.tail _ (.tail _ (.tail _ (.tail _ (.tail _ (.head _))))))) (.tail _ (.tail _ (.tail _ (.tail _ (.tail _ (.tail _ (.tail _ (.head _)))))))) (.tail _ (.tail _ (.tail _ (.tail _ (.tail _ (.tail _ (.tail _ (.tail _ (.head _))))))))) (.tail _ (.tail _ (.tail _ (.tail _ (.tail _ (.tail _ (.tail _ (.tail _ (.tail _ (.head _))))))))))) hv3 (by omega) (by omega) 
      refine WS.call rfl rfl (XC.fn Try.func14 (by kernel_rfl) rfl rfl rfl) (hz14) ?_
      rintro v_ w18 ⟨A14, c14, rfl, hS35⟩
      have hS36 := SH.joinN hS34 hS35
      refine ⟨fun h_ => (KB.transN (KB.transN (KB.transN (KB.transN (KB.transN (KB.transN (KB.transN (KB.transN (KB.transN (KB.refl _ _) hk6) hS23.kb) hS25.kb) hk7) hS28.kb) hS30.kb) hk8) hS33.kb) hS35.kb), ?_⟩
      have hz15 := Calls.asB (w := w18) (stexts_calls  (SH.rd hS36 (.tail _ (.head _))) rfl (SH.rd hS36 (.head _)) rfl ) (decide_eq_true ((by show FLS (DOS (l.take 20)) o = FLS (DOS (L.take 20)) o; rw [hbd_, fls_cut]))) 
      refine WS.call rfl rfl (XC.fn Try.func12 (by kernel_rfl) rfl rfl rfl) (hz15) ?_
      rintro v_ w19 ⟨rfl, hk9⟩
      have hS37 := SH.same hS36 hk9
      refine ⟨fun h_ => (KB.transN (KB.transN (KB.transN (KB.transN (KB.transN (KB.transN (KB.transN (KB.transN (KB.transN (KB.transN (KB.refl _ _) hk6) hS23.kb) hS25.kb) hk7) hS28.kb) hS30.kb) hk8) hS33.kb) hS35.kb) hk9), ?_⟩
      refine WS.pure rfl rfl (fun _ => LV.pickT rfl rfl) ?_
      refine WS.pure rfl rfl (fun _ => LV.asg rfl) ?_
      refine WS.nil (thenQ.n ?_)
      refine WC.ret (?_)
      exact ⟨_, fun a ha => res1 rfl ha rfl, rfl, hS37.kb⟩
  · refine WL.lv rfl (LV.as (LV.ltI rfl rfl) (decide_eq_false hg1)) ?_
    refine WL.lv rfl (LV.mv rfl) ?_
    iterate 2 refine WL.off rfl ?_
    refine WL.lv rfl (LV.pickF rfl rfl) ?_
    refine WL.nil (thenQ.n ?_)
    refine WC.condF rfl ?_
    refine WC.exit (thenQ.x <| thenQ.x <| blockQ.hit <| thenQ.n ?_)
    refine WC.seq ?_
    refine WC.region ?_
    refine WL.lv rfl (LV.mv rfl) ?_
    have hbd_ := blind_dos ihi (by omega) qc qn
    have hz16 := play_calls (w := w3) (l := L) (SH.rd hL1 (.tail _ (.head _))) (SH.rdIn hL1 (.head _)) (List.length_map _).symm (cut_size hz_l qc) (cut_wl hy_l qc) 
    refine WL.call rfl (XC.fn Try.func6 (by kernel_rfl) rfl rfl rfl) (hz16) ?_
    rintro v_ w20 ⟨b5, m6, m7, kv3, kw3, Pa3, Pb3, yb3, A15, c15, rs3, Pc3, rfl, hv4, hD3, hS38⟩
    have hS39 := SH.joinN hL1 hS38
    refine WL.lv rfl (LV.mv rfl) ?_
    iterate 3 refine WL.lv rfl (LV.extract rfl rfl) ?_
    iterate 3 refine WL.lv rfl (LV.asg rfl) ?_
    refine WL.nil (thenQ.n ?_)
    refine WC.seq ?_
    have hS40 := SH.drew hS39
    refine WC.regionD [] (fun w_ => KB No w20.drew w_) [(.pure, 0), (.pure, 1), (.pure, 2), (.pure, 3), (.pure, 4), (.forced, 5), (.pure, 6), (.pure, 7), (.pure, 8), (.pure, 9), (.look, 10), (.pure, 12), (.pure, 13), (.look, 14), (.forced, 11), (.forced, 15), (.forced, 16), (.pure, 17), (.pure, 18), (.pure, 19), (.look, 20), (.pure, 22), (.look, 23), (.forced, 21), (.forced, 24), (.forced, 25), (.pure, 26), (.pure, 27), (.pure, 28), (.look, 29), (.pure, 31), (.look, 32), (.forced, 30), (.forced, 33), (.forced, 34), (.pure, 35), (.pure, 36)] (by kernel_rfl) (by kernel_rfl) (KB.refl _ _) ?_
    iterate 3 refine WS.pure rfl rfl (fun _ => LV.mv rfl) ?_
    refine WS.pure rfl rfl (fun _ => LV.pickT rfl rfl) ?_
    refine WS.pure rfl rfl (fun _ => LV.mv rfl) ?_
    have hz17 := live_calls (w := w20.drew) 
    refine WS.call rfl rfl (XC.fn Try.func9 (by kernel_rfl) rfl rfl rfl) (hz17) ?_
    rintro v_ w21 ⟨rfl, hk10⟩
    have hS41 := SH.same hS40 hk10
    refine ⟨fun h_ => (KB.transN (KB.refl _ _) hk10), ?_⟩
    refine WS.pure rfl rfl (fun _ => LV.pickT rfl rfl) ?_
    iterate 3 refine WS.pure rfl rfl (fun _ => LV.mv rfl) ?_
    refine WS.look rfl rfl (fun _ hk_ => LV.loadAgg (cs := [(.int .i64 ((o).1)), (.int .u64 ((o).2))]) Try.underlying25 rfl ti25 rfl rfl (Blk.agg (SH.at hS40 (.tail _ (.tail _ (.tail _ (.tail _ (.tail _ (.tail _ (.tail _ (.tail _ (.tail _ (.tail _ (.tail _ (.tail _ (.tail _ (.tail _ (.tail _ (.tail _ (.tail _ (.tail _ (.head _)))))))))))))))))))) _ hk_)) ?_
    iterate 2 refine WS.pure rfl rfl (fun _ => LV.mv rfl) ?_
    refine WS.look rfl rfl (fun _ hk_ => LV.loadAgg (cs := [(.int .i64 ((o).1)), (.int .u64 ((o).2))]) Try.underlying25 rfl ti25 rfl rfl (Blk.agg (SH.at hS40 (.tail _ (.tail _ (.tail _ (.tail _ (.tail _ (.tail _ (.tail _ (.tail _ (.tail _ (.tail _ (.tail _ (.tail _ (.tail _ (.tail _ (.tail _ (.tail _ (.tail _ (.tail _ (.head _)))))))))))))))))))) _ hk_)) ?_
    have hz18 := find_calls (w := w21) (word := qw) (o := o) (SH.ixr5 (T1 := 64) (T2 := 73) (X := (⟨b2, m1, m2, kv1, kw1, Pa1, Pb1, (DOS (l.take 20))⟩ : IXS)) hS41 (.tail _ (.tail _ (.tail _ (.tail _ (.tail _ (.tail _ (.tail _ (.tail _ (.tail _ (.tail _ (.head _))))))))))) (.tail _ (.tail _ (.tail _ (.tail _ (.tail _ (.tail _ (.tail _ (.tail _ (.tail _ (.tail _ (.tail _ (.head _)))))))))))) (.tail _ (.tail _ (.tail _ (.tail _ (.tail _ (.tail _ (.tail _ (.tail _ (.tail _ (.tail _ (.tail _ (.tail _ (.head _))))))))))))) (.tail _ (.tail _ (.tail _ (.tail _ (.tail _ (.tail _ (.tail _ (.tail _ (.tail _ (.tail _ (.tail _ (.tail _ (.tail _ (.head _)))))))))))))) (.tail _ (.tail _ (.tail _ (.tail _ (.tail _ (.tail _ (.tail _ (.tail _ (.tail _ (.tail _ (.tail _ (.tail _ (.tail _ (.tail _ (.head _)))))))))))))))) hv1 (by omega) (hsw) (by omega) 
    refine WS.call rfl rfl (XC.fn Try.func11 (by kernel_rfl) rfl rfl rfl) (hz18) ?_
    rintro v_ w22 ⟨A16, c16, rfl, hS42⟩
    have hS43 := SH.joinN hS41 hS42
    refine ⟨fun h_ => (KB.transN (KB.transN (KB.refl _ _) hk10) hS42.kb), ?_⟩
    have hz19 := find_calls (w := w22) (word := qw) (o := o) (SH.ixr5 (T1 := 64) (T2 := 73) (X := (⟨b5, m6, m7, kv3, kw3, Pa3, Pb3, (DOS (L.take 20))⟩ : IXS)) hS43 (.tail _ (.head _)) (.tail _ (.tail _ (.head _))) (.tail _ (.tail _ (.tail _ (.head _)))) (.tail _ (.tail _ (.tail _ (.tail _ (.head _))))) (.tail _ (.tail _ (.tail _ (.tail _ (.tail _ (.head _))))))) hv4 (by omega) (hsw) (by omega) 
    refine WS.call rfl rfl (XC.fn Try.func11 (by kernel_rfl) rfl rfl rfl) (hz19) ?_
    rintro v_ w23 ⟨A17, c17, rfl, hS44⟩
    have hS45 := SH.joinN hS43 hS44
    refine ⟨fun h_ => (KB.transN (KB.transN (KB.transN (KB.refl _ _) hk10) hS42.kb) hS44.kb), ?_⟩
    have hz20 := Calls.asB (w := w23) (shits_calls  (SH.rd hS45 (.tail _ (.head _))) rfl (SH.rd hS45 (.head _)) rfl ) (decide_eq_true ((by show FIND (DOS (l.take 20)) _ o = FIND (DOS (L.take 20)) _ o; rw [hbd_, find_cut]))) 
    refine WS.call rfl rfl (XC.fn Try.func10 (by kernel_rfl) rfl rfl rfl) (hz20) ?_
    rintro v_ w24 ⟨rfl, hk11⟩
    have hS46 := SH.same hS45 hk11
    refine ⟨fun h_ => (KB.transN (KB.transN (KB.transN (KB.transN (KB.refl _ _) hk10) hS42.kb) hS44.kb) hk11), ?_⟩
    refine WS.pure rfl rfl (fun _ => LV.pickT rfl rfl) ?_
    iterate 2 refine WS.pure rfl rfl (fun _ => LV.mv rfl) ?_
    refine WS.look rfl rfl (fun _ hk_ => LV.loadAgg (cs := [(.int .i64 ((o).1)), (.int .u64 ((o).2))]) Try.underlying25 rfl ti25 rfl rfl (Blk.agg (SH.at hS40 (.tail _ (.tail _ (.tail _ (.tail _ (.tail _ (.tail _ (.tail _ (.tail _ (.tail _ (.tail _ (.tail _ (.tail _ (.tail _ (.tail _ (.tail _ (.tail _ (.tail _ (.tail _ (.head _)))))))))))))))))))) _ hk_)) ?_
    refine WS.pure rfl rfl (fun _ => LV.mv rfl) ?_
    refine WS.look rfl rfl (fun _ hk_ => LV.loadAgg (cs := [(.int .i64 ((o).1)), (.int .u64 ((o).2))]) Try.underlying25 rfl ti25 rfl rfl (Blk.agg (SH.at hS40 (.tail _ (.tail _ (.tail _ (.tail _ (.tail _ (.tail _ (.tail _ (.tail _ (.tail _ (.tail _ (.tail _ (.tail _ (.tail _ (.tail _ (.tail _ (.tail _ (.tail _ (.tail _ (.head _)))))))))))))))))))) _ hk_)) ?_
    have hz21 := words_calls (w := w24) (o := o) (SH.ixr5 (T1 := 64) (T2 := 73) (X := (⟨b2, m1, m2, kv1, kw1, Pa1, Pb1, (DOS (l.take 20))⟩ : IXS)) hS46 (.tail _ (.tail _ (.tail _ (.tail _ (.tail _ (.tail _ (.tail _ (.tail _ (.tail _ (.tail _ (.tail _ (.tail _ (.head _))))))))))))) (.tail _ (.tail _ (.tail _ (.tail _ (.tail _ (.tail _ (.tail _ (.tail _ (.tail _ (.tail _ (.tail _ (.tail _ (.tail _ (.head _)))))))))))))) (.tail _ (.tail _ (.tail _ (.tail _ (.tail _ (.tail _ (.tail _ (.tail _ (.tail _ (.tail _ (.tail _ (.tail _ (.tail _ (.tail _ (.head _))))))))))))))) (.tail _ (.tail _ (.tail _ (.tail _ (.tail _ (.tail _ (.tail _ (.tail _ (.tail _ (.tail _ (.tail _ (.tail _ (.tail _ (.tail _ (.tail _ (.head _)))))))))))))))) (.tail _ (.tail _ (.tail _ (.tail _ (.tail _ (.tail _ (.tail _ (.tail _ (.tail _ (.tail _ (.tail _ (.tail _ (.tail _ (.tail _ (.tail _ (.tail _ (.head _)))))))))))))))))) hv1 (by omega) (by omega) 
    refine WS.call rfl rfl (XC.fn Try.func13 (by kernel_rfl) rfl rfl rfl) (hz21) ?_
    rintro v_ w25 ⟨A18, c18, rfl, hS47⟩
    have hS48 := SH.joinN hS46 hS47
    refine ⟨fun h_ => (KB.transN (KB.transN (KB.transN (KB.transN (KB.transN (KB.refl _ _) hk10) hS42.kb) hS44.kb) hk11) hS47.kb), ?_⟩
    have hz22 := words_calls (w := w25) (o := o) (SH.ixr5 (T1 := 64) (T2 := 73) (X := (⟨b5, m6, m7, kv3, kw3, Pa3, Pb3, (DOS (L.take 20))⟩ : IXS)) hS48 (.tail _ (.tail _ (.tail _ (.head _)))) (.tail _ (.tail _ (.tail _ (.tail _ (.head _))))) (.tail _ (.tail _ (.tail _ (.tail _ (.tail _ (.head _)))))) (.tail _ (.tail _ (.tail _ (.tail _ (.tail _ (.tail _ (.head _))))))) (.tail _ (.tail _ (.tail _ (.tail _ (.tail _ (.tail _ (.tail _ (.head _))))))))) hv4 (by omega) (by omega) 
    refine WS.call rfl rfl (XC.fn Try.func13 (by kernel_rfl) rfl rfl rfl) (hz22) ?_
    rintro v_ w26 ⟨A19, c19, rfl, hS49⟩
    have hS50 := SH.joinN hS48 hS49
    refine ⟨fun h_ => (KB.transN (KB.transN (KB.transN (KB.transN (KB.transN (KB.transN (KB.refl _ _) hk10) hS42.kb) hS44.kb) hk11) hS47.kb) hS49.kb), ?_⟩
    have hz23 := Calls.asB (w := w26) (stexts_calls  (SH.rd hS50 (.tail _ (.head _))) rfl (SH.rd hS50 (.head _)) rfl ) (decide_eq_true ((by show WRDS (DOS (l.take 20)) o = WRDS (DOS (L.take 20)) o; rw [hbd_, wrds_cut]))) 
    refine WS.call rfl rfl (XC.fn Try.func12 (by kernel_rfl) rfl rfl rfl) (hz23) ?_
    rintro v_ w27 ⟨rfl, hk12⟩
    have hS51 := SH.same hS50 hk12
    refine ⟨fun h_ => (KB.transN (KB.transN (KB.transN (KB.transN (KB.transN (KB.transN (KB.transN (KB.refl _ _) hk10) hS42.kb) hS44.kb) hk11) hS47.kb) hS49.kb) hk12), ?_⟩
    refine WS.pure rfl rfl (fun _ => LV.pickT rfl rfl) ?_
    iterate 2 refine WS.pure rfl rfl (fun _ => LV.mv rfl) ?_
    refine WS.look rfl rfl (fun _ hk_ => LV.loadAgg (cs := [(.int .i64 ((o).1)), (.int .u64 ((o).2))]) Try.underlying25 rfl ti25 rfl rfl (Blk.agg (SH.at hS40 (.tail _ (.tail _ (.tail _ (.tail _ (.tail _ (.tail _ (.tail _ (.tail _ (.tail _ (.tail _ (.tail _ (.tail _ (.tail _ (.tail _ (.tail _ (.tail _ (.tail _ (.tail _ (.head _)))))))))))))))))))) _ hk_)) ?_
    refine WS.pure rfl rfl (fun _ => LV.mv rfl) ?_
    refine WS.look rfl rfl (fun _ hk_ => LV.loadAgg (cs := [(.int .i64 ((o).1)), (.int .u64 ((o).2))]) Try.underlying25 rfl ti25 rfl rfl (Blk.agg (SH.at hS40 (.tail _ (.tail _ (.tail _ (.tail _ (.tail _ (.tail _ (.tail _ (.tail _ (.tail _ (.tail _ (.tail _ (.tail _ (.tail _ (.tail _ (.tail _ (.tail _ (.tail _ (.tail _ (.head _)))))))))))))))))))) _ hk_)) ?_
    have hz24 := files_calls (w := w27) (o := o) (SH.ixr5 (T1 := 64) (T2 := 73) (X := (⟨b2, m1, m2, kv1, kw1, Pa1, Pb1, (DOS (l.take 20))⟩ : IXS)) hS51 (.tail _ (.tail _ (.tail _ (.tail _ (.tail _ (.tail _ (.tail _ (.tail _ (.tail _ (.tail _ (.tail _ (.tail _ (.tail _ (.tail _ (.head _))))))))))))))) (.tail _ (.tail _ (.tail _ (.tail _ (.tail _ (.tail _ (.tail _ (.tail _ (.tail _ (.tail _ (.tail _ (.tail _ (.tail _ (.tail _ (.tail _ (.head _)))))))))))))))) (.tail _ (.tail _ (.tail _ (.tail _ (.tail _ (.tail _ (.tail _ (.tail _ (.tail _ (.tail _ (.tail _ (.tail _ (.tail _ (.tail _ (.tail _ (.tail _ (.head _))))))))))))))))) (.tail _ (.tail _ (.tail _ (.tail _ (.tail _ (.tail _ (.tail _ (.tail _ (.tail _ (.tail _ (.tail _ (.tail _ (.tail _ (.tail _ (.tail _ (.tail _ (.tail _ (.head _)))))))))))))))))) (.tail _ (.tail _ (.tail _ (.tail _ (.tail _ (.tail _ (.tail _ (.tail _ (.tail _ (.tail _ (.tail _ (.tail _ (.tail _ (.tail _ (.tail _ (.tail _ (.tail _ (.tail _ (.head _)))))))))))))))))))) hv1 (by omega) (by omega) 
    refine WS.call rfl rfl (XC.fn Try.func14 (by kernel_rfl) rfl rfl rfl) (hz24) ?_
    rintro v_ w28 ⟨A20, c20, rfl, hS52⟩
    have hS53 := SH.joinN hS51 hS52
    refine ⟨fun h_ => (KB.transN (KB.transN (KB.transN (KB.transN (KB.transN (KB.transN (KB.transN (KB.transN (KB.refl _ _) hk10) hS42.kb) hS44.kb) hk11) hS47.kb) hS49.kb) hk12) hS52.kb), ?_⟩
    have hz25 := files_calls (w := w28) (o := o) (SH.ixr5 (T1 := 64) (T2 := 73) (X := (⟨b5, m6, m7, kv3, kw3, Pa3, Pb3, (DOS (L.take 20))⟩ : IXS)) hS53 (.tail _ (.tail _ (.tail _ (.tail _ (.tail _ (.head _)))))) (.tail _ (.tail _ (.tail _ (.tail _ (.tail _ (.tail _ (.head _))))))) (.tail _ (.tail _ (.tail _ (.tail _ (.tail _ (.tail _ (.tail _ (.head _)))))))) (.tail _ (.tail _ (.tail _ (.tail _ (.tail _ (.tail _ (.tail _ (.tail _ (.head _))))))))) (.tail _ (.tail _ (.tail _ (.tail _ (.tail _ (.tail _ (.tail _ (.tail _ (.tail _ (.head _))))))))))) hv4 (by omega) (by omega) 
    refine WS.call rfl rfl (XC.fn Try.func14 (by kernel_rfl) rfl rfl rfl) (hz25) ?_
    rintro v_ w29 ⟨A21, c21, rfl, hS54⟩
    have hS55 := SH.joinN hS53 hS54
    refine ⟨fun h_ => (KB.transN (KB.transN (KB.transN (KB.transN (KB.transN (KB.transN (KB.transN (KB.transN (KB.transN (KB.refl _ _) hk10) hS42.kb) hS44.kb) hk11) hS47.kb) hS49.kb) hk12) hS52.kb) hS54.kb), ?_⟩
    have hz26 := Calls.asB (w := w29) (stexts_calls  (SH.rd hS55 (.tail _ (.head _))) rfl (SH.rd hS55 (.head _)) rfl ) (decide_eq_true ((by show FLS (DOS (l.take 20)) o = FLS (DOS (L.take 20)) o; rw [hbd_, fls_cut]))) 
    refine WS.call rfl rfl (XC.fn Try.func12 (by kernel_rfl) rfl rfl rfl) (hz26) ?_
    rintro v_ w30 ⟨rfl, hk13⟩
    have hS56 := SH.same hS55 hk13
    refine ⟨fun h_ => (KB.transN (KB.transN (KB.transN (KB.transN (KB.transN (KB.transN (KB.transN (KB.transN (KB.transN (KB.transN (KB.refl _ _) hk10) hS42.kb) hS44.kb) hk11) hS47.kb) hS49.kb) hk12) hS52.kb) hS54.kb) hk13), ?_⟩
    refine WS.pure rfl rfl (fun _ => LV.pickT rfl rfl) ?_
    refine WS.pure rfl rfl (fun _ => LV.asg rfl) ?_
    refine WS.nil (thenQ.n ?_)
    refine WC.ret (?_)
    exact ⟨_, fun a ha => res1 rfl ha rfl, rfl, hS56.kb⟩

end Go.Proofs.Ytigbphaimbhgjaa

