/- The law of plays. -/
import Derived.Test.YtigbphaimbhgjaaGreatMg34
namespace Go.Proofs.YtigbphaimbhgjaaGreat
open Go Go.Gv Go.RowKit Go.Tly Go.Wds Go.Idx
set_option linter.unusedVariables false
set_option linter.unusedSimpArgs false

attribute [local irreducible] Go.Idx.PUTF Go.Idx.FIND Go.Idx.WRDS Go.Idx.FLS Go.Idx.OF Go.Idx.LOW Go.Idx.DOS Go.Idx.ALLF Go.Idx.WOF

set_option maxHeartbeats 4000000 in
set_option maxRecDepth 100000 in
theorem indexPlays_law {w : World} {A_l : Option Addr} {n_l c_l : Nat} {l : DDS} {A_q : Option Addr} {n_q c_q : Nat} {qs : List ByteArray} {o : Lb} (h_l : St No w (Rd eDd (.slice A_l n_l c_l) (DLS l))) (hi_l : St No w (RdIn ddS eIt l)) (hn_l : l.length = n_l) (h_q : St No w (Rd eS (.slice A_q n_q c_q) qs)) (hn_q : qs.length = n_q) (hz_l : ∀ d ∈ l, d.1.2.1.size ≤ 140737488355328) (hy_l : ∀ d ∈ l, ∀ y ∈ d.2, 0 ≤ y.2.1.2 ∧ y.2.1.2 < 18446744073709551616) (hzq : ∀ q ∈ qs, q.size ≤ 140737488355328) (wo : 0 ≤ o.2 ∧ o.2 < 18446744073709551616) :
    Calls Tryz.prog 3 #[(.slice A_l n_l c_l), (.slice A_q n_q c_q), (.agg #[(.int .i64 ((o).1)), (.int .u64 ((o).2))])] w fun e w' => ∃ v, e = .returned v ∧ (fun v w' => v = .bool true ∧ KB No w w') v w' := by
  subst hn_l
  subst hn_q
  have hmq_ := Rd.max h_q.now
  have hq4_ := List.length_take_le 4 qs
  have hzt_ : ∀ q ∈ qs.take 4, q.size ≤ 140737488355328 := fun q hq => hzq q (List.mem_of_mem_take hq)
  have hS : SH w No w [] := SH.nil _ _
  refine calls (l := litOf [(.slice A_l l.length c_l), (.slice A_q qs.length c_q), (.agg #[(.int .i64 ((o).1)), (.int .u64 ((o).2))])] 0) Tryz.func3 rfl (n := 93) rfl (Nat.le_of_ble_eq_true rfl) (lit_args _) ?_
  refine WC.seq ?_
  refine WC.region ?_
  refine WL.xe rfl (XE.box #[(.int .i64 ((o).1)), (.int .u64 ((o).2))] hS rfl rfl) ?_
  rintro _ w1 ⟨b1, rfl, hS1, hk1⟩
  refine WL.lv rfl (LV.asg rfl) ?_
  refine WL.nil (thenQ.n ?_)
  refine WC.seq ?_
  refine WC.region ?_
  refine WL.lv rfl (LV.mv rfl) ?_
  have hz1 := play_calls (w := w1) (l := l) (SH.stN hS1 h_l) (SH.stN hS1 hi_l) rfl hz_l hy_l 
  refine WL.call rfl (XC.fn Tryz.func4 (by kernel_rfl) rfl rfl rfl) (hz1) ?_
  rintro v_ w2 ⟨b2, m1, m2, kv1, kw1, Pa1, Pb1, yb1, A1, c1, rs1, Pc1, rfl, hv1, hD1, hS2⟩
  have hS3 := SH.joinN hS1 hS2
  refine WL.lv rfl (LV.mv rfl) ?_
  iterate 3 refine WL.lv rfl (LV.extract rfl rfl) ?_
  iterate 3 refine WL.lv rfl (LV.asg rfl) ?_
  refine WL.nil (thenQ.n ?_)
  refine WC.seq ?_
  refine WC.region ?_
  iterate 2 refine WL.lv rfl (LV.mv rfl) ?_
  refine WL.lv rfl (LV.lenL Tryz.underlying23 rfl) ?_
  refine WL.lv rfl (LV.minI rfl rfl) ?_
  have hcap1 : qs.length ≤ c_q := (Rd.cap (St.now (SH.stN hS3 h_q)))
  refine WL.lv rfl (LV.to (v := (.slice (if c_q = 0 then A_q else A_q.map (·.add (0 * 1))) ((min (qs.length : Int) 4).toNat - 0) (c_q - 0))) (v' := (.slice (cutA A_q c_q 1) ((qs.take 4).length) c_q)) (congrArg (fun n_ => Value.slice (cutA A_q c_q 1) n_ c_q) (show ((min (qs.length : Int) 4).toNat - 0) = (qs.take 4).length by rw [List.length_take]; omega)) (LV.cut Tryz.underlying23 ti9.sz rfl rfl rfl rfl ⟨.inl ⟨rfl, rfl⟩, .inr ⟨.i64, by rw [Int.toNat_of_nonneg (a := min (qs.length : Int) 4) (by omega)] <;> rfl⟩, .inl ⟨rfl, rfl⟩⟩ (by omega) (by omega) (by omega))) ?_
  refine WL.lv rfl (LV.asg rfl) ?_
  refine WL.nil (thenQ.n ?_)
  iterate 2 refine WC.seq ?_
  have hS4 := SH.drew hS3
  refine WC.regionD [] (fun w_ => KB No w2.drew w_) [(.pure, 0), (.pure, 1), (.pure, 2), (.pure, 3), (.pure, 4), (.look, 5), (.pure, 7), (.pure, 8), (.look, 9), (.forced, 6), (.forced, 10), (.forced, 11), (.pure, 12), (.pure, 13), (.pure, 14), (.pure, 15), (.look, 16), (.pure, 18), (.look, 19), (.forced, 17), (.forced, 20), (.forced, 21), (.pure, 22), (.pure, 23), (.pure, 24), (.pure, 25), (.look, 26), (.pure, 28), (.look, 29), (.forced, 27), (.forced, 30), (.forced, 31), (.pure, 32), (.pure, 33)] (by kernel_rfl) (by kernel_rfl) (KB.refl _ _) ?_
  refine WS.pure rfl rfl (fun _ => LV.mv rfl) ?_
  refine WS.pure rfl rfl (fun _ => LV.notB rfl) ?_
  iterate 3 refine WS.pure rfl rfl (fun _ => LV.mv rfl) ?_
  refine WS.look rfl rfl (fun _ hk_ => LV.loadAgg (cs := [(.int .i64 ((o).1)), (.int .u64 ((o).2))]) Tryz.underlying26 rfl ti26 rfl rfl (Blk.agg (SH.at hS4 (.tail _ (.tail _ (.tail _ (.tail _ (.tail _ (.tail _ (.tail _ (.tail _ (.head _)))))))))) _ hk_)) ?_
  iterate 2 refine WS.pure rfl rfl (fun _ => LV.mv rfl) ?_
  refine WS.look rfl rfl (fun _ hk_ => LV.loadAgg (cs := [(.int .i64 ((o).1)), (.int .u64 ((o).2))]) Tryz.underlying26 rfl ti26 rfl rfl (Blk.agg (SH.at hS4 (.tail _ (.tail _ (.tail _ (.tail _ (.tail _ (.tail _ (.tail _ (.tail _ (.head _)))))))))) _ hk_)) ?_
  have hz2 := all_calls (w := w2.drew) (o := o) (SH.ixr5 (T1 := 68) (T2 := 76) (X := (⟨b2, m1, m2, kv1, kw1, Pa1, Pb1, (DOS (l.take 20))⟩ : IXS)) hS4 (.head _) (.tail _ (.head _)) (.tail _ (.tail _ (.head _))) (.tail _ (.tail _ (.tail _ (.head _)))) (.tail _ (.tail _ (.tail _ (.tail _ (.head _)))))) hv1 (by omega) (SH.stN hS4 (few_rd 4 h_q)) rfl (hzt_) (wo) 
  refine WS.call rfl rfl (XC.fn Tryz.func6 (by kernel_rfl) rfl rfl rfl) (hz2) ?_
  rintro v_ w3 ⟨A2, c2, rfl, hS5⟩
  have hS6 := SH.joinN hS4 hS5
  refine ⟨fun h_ => (KB.transN (KB.refl _ _) hS5.kb), ?_⟩
  have hz3 := rall_calls (w := w3) (o := o) (SH.dcr3 (T := 43) (T1 := 64) (T2 := 68) hS6 (.tail _ (.tail _ (.tail _ (.tail _ (.tail _ (.tail _ (.head _))))))) (.tail _ (.tail _ (.tail _ (.tail _ (.tail _ (.tail _ (.tail _ (.head _)))))))) (.tail _ (.tail _ (.tail _ (.tail _ (.tail _ (.tail _ (.tail _ (.tail _ (.head _)))))))))) ⟨hD1, hv1.ns, hv1.sm, Nat.le_trans hv1.ln (by omega)⟩ (SH.stN hS6 (few_rd 4 h_q)) rfl (hzt_) (wo) 
  refine WS.call rfl rfl (XC.fn Tryz.func7 (by kernel_rfl) rfl rfl rfl) (hz3) ?_
  rintro v_ w4 ⟨A3, c3, rfl, hS7⟩
  have hS8 := SH.joinN hS6 hS7
  refine ⟨fun h_ => (KB.transN (KB.transN (KB.refl _ _) hS5.kb) hS7.kb), ?_⟩
  have hz4 := Calls.asB (w := w4) (shits_calls  (SH.rd hS8 (.tail _ (.head _))) rfl (SH.rd hS8 (.head _)) rfl ) (decide_eq_true (rfl)) 
  refine WS.call rfl rfl (XC.fn Tryz.func5 (by kernel_rfl) rfl rfl rfl) (hz4) ?_
  rintro v_ w5 ⟨rfl, hk2⟩
  have hS9 := SH.same hS8 hk2
  refine ⟨fun h_ => (KB.transN (KB.transN (KB.transN (KB.refl _ _) hS5.kb) hS7.kb) hk2), ?_⟩
  refine WS.pure rfl rfl (fun _ => LV.notB rfl) ?_
  refine WS.pure rfl rfl (fun _ => LV.pickF rfl rfl) ?_
  iterate 2 refine WS.pure rfl rfl (fun _ => LV.mv rfl) ?_
  refine WS.look rfl rfl (fun _ hk_ => LV.loadAgg (cs := [(.int .i64 ((o).1)), (.int .u64 ((o).2))]) Tryz.underlying26 rfl ti26 rfl rfl (Blk.agg (SH.at hS4 (.tail _ (.tail _ (.tail _ (.tail _ (.tail _ (.tail _ (.tail _ (.tail _ (.head _)))))))))) _ hk_)) ?_
  refine WS.pure rfl rfl (fun _ => LV.mv rfl) ?_
  refine WS.look rfl rfl (fun _ hk_ => LV.loadAgg (cs := [(.int .i64 ((o).1)), (.int .u64 ((o).2))]) Tryz.underlying26 rfl ti26 rfl rfl (Blk.agg (SH.at hS4 (.tail _ (.tail _ (.tail _ (.tail _ (.tail _ (.tail _ (.tail _ (.tail _ (.head _)))))))))) _ hk_)) ?_
  have hz5 := words_calls (w := w5) (o := o) (SH.ixr5 (T1 := 68) (T2 := 76) (X := (⟨b2, m1, m2, kv1, kw1, Pa1, Pb1, (DOS (l.take 20))⟩ : IXS)) hS9 (.tail _ (.tail _ (.head _))) (.tail _ (.tail _ (.tail _ (.head _)))) (.tail _ (.tail _ (.tail _ (.tail _ (.head _))))) (.tail _ (.tail _ (.tail _ (.tail _ (.tail _ (.head _)))))) (.tail _ (.tail _ (.tail _ (.tail _ (.tail _ (.tail _ (.head _)))))))) hv1 (by omega) (wo) 
  refine WS.call rfl rfl (XC.fn Tryz.func9 (by kernel_rfl) rfl rfl rfl) (hz5) ?_
  rintro v_ w6 ⟨A4, c4, rfl, hS10⟩
  have hS11 := SH.joinN hS9 hS10
  refine ⟨fun h_ => (KB.transN (KB.transN (KB.transN (KB.transN (KB.refl _ _) hS5.kb) hS7.kb) hk2) hS10.kb), ?_⟩
  have hz6 := rwords_calls (w := w6) (o := o) (SH.dcr3 (T := 43) (T1 := 64) (T2 := 68) hS11 (.tail _ (.tail _ (.tail _ (.tail _ (.tail _ (.tail _ (.tail _ (.tail _ (.head _))))))))) (.tail _ (.tail _ (.tail _ (.tail _ (.tail _ (.tail _ (.tail _ (.tail _ (.tail _ (.head _)))))))))) (.tail _ (.tail _ (.tail _ (.tail _ (.tail _ (.tail _ (.tail _ (.tail _ (.tail _ (.tail _ (.head _)))))))))))) ⟨hD1, hv1.ns, hv1.sm, Nat.le_trans hv1.ln (by omega)⟩ (wo) 
  refine WS.call rfl rfl (XC.fn Tryz.func10 (by kernel_rfl) rfl rfl rfl) (hz6) ?_
  rintro v_ w7 ⟨A5, c5, rfl, hS12⟩
  have hS13 := SH.joinN hS11 hS12
  refine ⟨fun h_ => (KB.transN (KB.transN (KB.transN (KB.transN (KB.transN (KB.refl _ _) hS5.kb) hS7.kb) hk2) hS10.kb) hS12.kb), ?_⟩
  have hz7 := Calls.asB (w := w7) (stexts_calls  (SH.rd hS13 (.tail _ (.head _))) rfl (SH.rd hS13 (.head _)) rfl ) (decide_eq_true (rfl)) 
  refine WS.call rfl rfl (XC.fn Tryz.func8 (by kernel_rfl) rfl rfl rfl) (hz7) ?_
  rintro v_ w8 ⟨rfl, hk3⟩
  have hS14 := SH.same hS13 hk3
  refine ⟨fun h_ => (KB.transN (KB.transN (KB.transN (KB.transN (KB.transN (KB.transN (KB.refl _ _) hS5.kb) hS7.kb) hk2) hS10.kb) hS12.kb) hk3), ?_⟩
  refine WS.pure rfl rfl (fun _ => LV.notB rfl) ?_
  refine WS.pure rfl rfl (fun _ => LV.pickF rfl rfl) ?_
  iterate 2 refine WS.pure rfl rfl (fun _ => LV.mv rfl) ?_
  refine WS.look rfl rfl (fun _ hk_ => LV.loadAgg (cs := [(.int .i64 ((o).1)), (.int .u64 ((o).2))]) Tryz.underlying26 rfl ti26 rfl rfl (Blk.agg (SH.at hS4 (.tail _ (.tail _ (.tail _ (.tail _ (.tail _ (.tail _ (.tail _ (.tail _ (.head _)))))))))) _ hk_)) ?_
  refine WS.pure rfl rfl (fun _ => LV.mv rfl) ?_
  refine WS.look rfl rfl (fun _ hk_ => LV.loadAgg (cs := [(.int .i64 ((o).1)), (.int .u64 ((o).2))]) Tryz.underlying26 rfl ti26 rfl rfl (Blk.agg (SH.at hS4 (.tail _ (.tail _ (.tail _ (.tail _ (.tail _ (.tail _ (.tail _ (.tail _ (.head _)))))))))) _ hk_)) ?_
  have hz8 := files_calls (w := w8) (o := o) (SH.ixr5 (T1 := 68) (T2 := 76) (X := (⟨b2, m1, m2, kv1, kw1, Pa1, Pb1, (DOS (l.take 20))⟩ : IXS)) hS14 (.tail _ (.tail _ (.tail _ (.tail _ (.head _))))) (.tail _ (.tail _ (.tail _ (.tail _ (.tail _ (.head _)))))) (.tail _ (.tail _ (.tail _ (.tail _ (.tail _ (.tail _ (.head _))))))) (.tail _ (.tail _ (.tail _ (.tail _ (.tail _ (.tail _ (.tail _ (.head _)))))))) (.tail _ (.tail _ (.tail _ (.tail _ (.tail _ (.tail _ (.tail _ (.tail _ (.head _)))))))))) hv1 (by omega) (wo) 
  refine WS.call rfl rfl (XC.fn Tryz.func11 (by kernel_rfl) rfl rfl rfl) (hz8) ?_
  rintro v_ w9 ⟨A6, c6, rfl, hS15⟩
  have hS16 := SH.joinN hS14 hS15
  refine ⟨fun h_ => (KB.transN (KB.transN (KB.transN (KB.transN (KB.transN (KB.transN (KB.transN (KB.refl _ _) hS5.kb) hS7.kb) hk2) hS10.kb) hS12.kb) hk3) hS15.kb), ?_⟩
  have hz9 := rfiles_calls (w := w9) (o := o) (SH.dcr3 (T := 43) (T1 := 64) (T2 := 68) hS16 (.tail _ (.tail _ (.tail _ (.tail _ (.tail _ (.tail _ (.tail _ (.tail _ (.tail _ (.tail _ (.head _))))))))))) (.tail _ (.tail _ (.tail _ (.tail _ (.tail _ (.tail _ (.tail _ (.tail _ (.tail _ (.tail _ (.tail _ (.head _)))))))))))) (.tail _ (.tail _ (.tail _ (.tail _ (.tail _ (.tail _ (.tail _ (.tail _ (.tail _ (.tail _ (.tail _ (.tail _ (.head _)))))))))))))) ⟨hD1, hv1.ns, hv1.sm, Nat.le_trans hv1.ln (by omega)⟩ (wo) 
  refine WS.call rfl rfl (XC.fn Tryz.func12 (by kernel_rfl) rfl rfl rfl) (hz9) ?_
  rintro v_ w10 ⟨A7, c7, rfl, hS17⟩
  have hS18 := SH.joinN hS16 hS17
  refine ⟨fun h_ => (KB.transN (KB.transN (KB.transN (KB.transN (KB.transN (KB.transN (KB.transN (KB.transN (KB.refl _ _) hS5.kb) hS7.kb) hk2) hS10.kb) hS12.kb) hk3) hS15.kb) hS17.kb), ?_⟩
  have hz10 := Calls.asB (w := w10) (stexts_calls  (SH.rd hS18 (.tail _ (.head _))) rfl (SH.rd hS18 (.head _)) rfl ) (decide_eq_true (rfl)) 
  refine WS.call rfl rfl (XC.fn Tryz.func8 (by kernel_rfl) rfl rfl rfl) (hz10) ?_
  rintro v_ w11 ⟨rfl, hk4⟩
  have hS19 := SH.same hS18 hk4
  refine ⟨fun h_ => (KB.transN (KB.transN (KB.transN (KB.transN (KB.transN (KB.transN (KB.transN (KB.transN (KB.transN (KB.refl _ _) hS5.kb) hS7.kb) hk2) hS10.kb) hS12.kb) hk3) hS15.kb) hS17.kb) hk4), ?_⟩
  refine WS.pure rfl rfl (fun _ => LV.notB rfl) ?_
  refine WS.pure rfl rfl (fun _ => LV.pickF rfl rfl) ?_
  refine WS.nil (thenQ.n ?_)
  refine WC.condF rfl ?_
  refine WC.skip (thenQ.n ?_)
  iterate 2 refine WC.seq ?_
  refine WC.region ?_
  refine WL.lv rfl (LV.asg rfl) ?_
  refine WL.nil (thenQ.n ?_)
  refine WC.block ?_
  refine WC.loop (fun m_ f_ w_ => ∃ (i : Int), (0 ≤ i) ∧ (i ≤ ((qs.take 4).length : Int)) ∧ SH w No w_ [rowE eS 9 (.slice A7 ((FLS (⟨yb1, A1, c1, rs1, Pc1, (DOS (l.take 20))⟩ : DCS).F o).length) c7) (FLS (⟨yb1, A1, c1, rs1, Pc1, (DOS (l.take 20))⟩ : DCS).F o), rowE eS 9 (.slice A6 ((FLS (⟨b2, m1, m2, kv1, kw1, Pa1, Pb1, (DOS (l.take 20))⟩ : IXS).F o).length) c6) (FLS (⟨b2, m1, m2, kv1, kw1, Pa1, Pb1, (DOS (l.take 20))⟩ : IXS).F o), rowE eS 9 (.slice A5 ((WRDS (⟨yb1, A1, c1, rs1, Pc1, (DOS (l.take 20))⟩ : DCS).F o).length) c5) (WRDS (⟨yb1, A1, c1, rs1, Pc1, (DOS (l.take 20))⟩ : DCS).F o), rowE eS 9 (.slice A4 ((WRDS (⟨b2, m1, m2, kv1, kw1, Pa1, Pb1, (DOS (l.take 20))⟩ : IXS).F o).length) c4) (WRDS (⟨b2, m1, m2, kv1, kw1, Pa1, Pb1, (DOS (l.take 20))⟩ : IXS).F o), rowE eSI 49 (.slice A3 ((ALLF (⟨yb1, A1, c1, rs1, Pc1, (DOS (l.take 20))⟩ : DCS).F o (qs.take 4)).length) c3) (ALLF (⟨yb1, A1, c1, rs1, Pc1, (DOS (l.take 20))⟩ : DCS).F o (qs.take 4)), rowE eSI 49 (.slice A2 ((ALLF (⟨b2, m1, m2, kv1, kw1, Pa1, Pb1, (DOS (l.take 20))⟩ : IXS).F o (qs.take 4)).length) c2) (ALLF (⟨b2, m1, m2, kv1, kw1, Pa1, Pb1, (DOS (l.take 20))⟩ : IXS).F o (qs.take 4)), blkE b2 62 #[(.map (some m1)), (.map (some m2))], mapG kS kV m1 kv1, mapG kS kV m2 kw1, insE idS eIt 68 Pa1, insE idS eSI 76 Pb1, blkE yb1 43 #[(.slice A1 rs1.length c1)], rowE eSV 64 (.slice A1 rs1.length c1) rs1, insE idS eIt 68 Pc1, blkE b1 26 #[(.int .i64 ((o).1)), (.int .u64 ((o).2))]] ∧ m_ = ((((qs.take 4).length : Int) - i).toNat) ∧ Weak (lit [(1, (.slice (cutA A_q c_q 1) ((qs.take 4).length) c_q)), (5, (.pointer (some ⟨b1, 0, none⟩))), (7, (.pointer (some ⟨b2, 0, none⟩))), (8, (.pointer (some ⟨yb1, 0, none⟩))), (10, (.int .i64 i))]) f_) _ ⟨0, by omega, by omega, hS19, rfl, Weak.cons rfl <| Weak.cons rfl <| Weak.cons rfl <| Weak.cons rfl <| Weak.cons rfl <| Weak.nil _⟩ ?_
  rintro m3 f1 w12 ⟨i, ilo, ihi, hL1, rfl, hw1⟩
  refine WC.weak hw1 ?_
  clear hw1
  iterate 2 refine WC.seq ?_
  refine WC.region ?_
  iterate 2 refine WL.lv rfl (LV.mv rfl) ?_
  refine WL.lv rfl (LV.lenL Tryz.underlying23 rfl) ?_
  refine WL.lv rfl (LV.ltI rfl rfl) ?_
  refine WL.nil (thenQ.n ?_)
  refine WC.condP (p := i < ((qs.take 4).length : Int)) rfl (fun hc1 => ?_) (fun hc1 => ?_)
  · skip
    refine WC.skip (thenQ.n ?_)
    refine WC.seq ?_
    refine WC.block ?_
    refine WC.seq ?_
    have hS20 := SH.drew hL1
    refine WC.regionD [] (fun w_ => KB No w12.drew w_) [(.pure, 0), (.pure, 1), (.pure, 2), (.look, 3), (.pure, 4), (.pure, 5), (.pure, 6), (.look, 7), (.pure, 8), (.pure, 9), (.pure, 10), (.pure, 11)] (by kernel_rfl) (by kernel_rfl) (KB.refl _ _) ?_
    iterate 2 refine WS.pure rfl rfl (fun _ => LV.mv rfl) ?_
    obtain ⟨A8, c8, e1, g1⟩ := St.elt (SH.stN hS20 (few_rd 4 h_q)) ByteArray.empty i (by omega) (by omega)
    refine WS.pure rfl rfl (fun _ => LV.idxA Tryz.underlying23 ti9.sz rfl e1 rfl (by omega) (by omega)) ?_
    refine WS.look rfl rfl (fun _ hk_ => LV.load1 (v := (.string ((qs.take 4).getD (i).toNat ByteArray.empty))) Tryz.underlying9 rfl rfl (g1 _ hk_ 0 _ rfl)) ?_
    iterate 2 refine WS.pure rfl rfl (fun _ => LV.mv rfl) ?_
    obtain ⟨A9, c9, e2, g2⟩ := St.elt (SH.stN hS20 (few_rd 4 h_q)) ByteArray.empty i (by omega) (by omega)
    refine WS.pure rfl rfl (fun _ => LV.idxA Tryz.underlying23 ti9.sz rfl e2 rfl (by omega) (by omega)) ?_
    refine WS.look rfl rfl (fun _ hk_ => LV.load1 (v := (.string ((qs.take 4).getD (i).toNat ByteArray.empty))) Tryz.underlying9 rfl rfl (g2 _ hk_ 0 _ rfl)) ?_
    refine WS.pure rfl rfl (fun _ => LV.lenS Tryz.underlying9 rfl) ?_
    refine WS.pure rfl rfl (fun _ => LV.minI rfl rfl) ?_
    refine WS.pure rfl rfl (fun _ => LV.cutS (l := 0) (h := (min (((qs.take 4).getD (i).toNat ByteArray.empty).size : Int) 60).toNat) Tryz.underlying9 rfl rfl rfl ⟨.inl ⟨rfl, rfl⟩, .inr ⟨.i64, by rw [Int.toNat_of_nonneg (a := min (((qs.take 4).getD (i).toNat ByteArray.empty).size : Int) 60) (by omega)] <;> rfl⟩, .inl ⟨rfl, rfl⟩⟩ (by omega) (by omega)) ?_
    refine WS.pure rfl rfl (fun _ => LV.asg rfl) ?_
    refine WS.nil (thenQ.n ?_)
    refine WC.seq ?_
    have hS21 := SH.drew hS20
    refine WC.regionD [] (fun w_ => KB No w12.drew.drew w_) [(.pure, 0), (.pure, 1), (.look, 2), (.pure, 4), (.pure, 5), (.look, 6), (.forced, 3), (.forced, 7), (.forced, 8), (.pure, 9), (.pure, 10), (.pure, 11), (.pure, 13), (.forced, 12), (.forced, 14), (.forced, 15), (.pure, 16), (.pure, 17)] (by kernel_rfl) (by kernel_rfl) (KB.refl _ _) ?_
    iterate 2 refine WS.pure rfl rfl (fun _ => LV.mv rfl) ?_
    have hz60_ : (((qs.take 4).getD (i).toNat ByteArray.empty).extract 0 ((min (((qs.take 4).getD (i).toNat ByteArray.empty).size : Int) 60).toNat)).size ≤ 60 := by rw [ByteArray.size_extract]; omega
    refine WS.look rfl rfl (fun _ hk_ => LV.loadAgg (cs := [(.int .i64 ((o).1)), (.int .u64 ((o).2))]) Tryz.underlying26 rfl ti26 rfl rfl (Blk.agg (SH.at hS21 (.tail _ (.tail _ (.tail _ (.tail _ (.tail _ (.tail _ (.tail _ (.tail _ (.tail _ (.tail _ (.tail _ (.tail _ (.tail _ (.tail _ (.head _)))))))))))))))) _ hk_)) ?_
    iterate 2 refine WS.pure rfl rfl (fun _ => LV.mv rfl) ?_
    refine WS.look rfl rfl (fun _ hk_ => LV.loadAgg (cs := [(.int .i64 ((o).1)), (.int .u64 ((o).2))]) Tryz.underlying26 rfl ti26 rfl rfl (Blk.agg (SH.at hS21 (.tail _ (.tail _ (.tail _ (.tail _ (.tail _ (.tail _ (.tail _ (.tail _ (.tail _ (.tail _ (.tail _ (.tail _ (.tail _ (.tail _ (.head _)))))))))))))))) _ hk_)) ?_
    have hz11 := find_calls (w := w12.drew.drew) (word := (((qs.take 4).getD (i).toNat ByteArray.empty).extract 0 ((min (((qs.take 4).getD (i).toNat ByteArray.empty).size : Int) 60).toNat))) (o := o) (SH.ixr5 (T1 := 68) (T2 := 76) (X := (⟨b2, m1, m2, kv1, kw1, Pa1, Pb1, (DOS (l.take 20))⟩ : IXS)) hS21 (.tail _ (.tail _ (.tail _ (.tail _ (.tail _ (.tail _ (.head _))))))) (.tail _ (.tail _ (.tail _ (.tail _ (.tail _ (.tail _ (.tail _ (.head _)))))))) (.tail _ (.tail _ (.tail _ (.tail _ (.tail _ (.tail _ (.tail _ (.tail _ (.head _))))))))) (.tail _ (.tail _ (.tail _ (.tail _ (.tail _ (.tail _ (.tail _ (.tail _ (.tail _ (.head _)))))))))) (.tail _ (.tail _ (.tail _ (.tail _ (.tail _ (.tail _ (.tail _ (.tail _ (.tail _ (.tail _ (.head _)))))))))))) hv1 (by omega) (by omega) (wo) 
    refine WS.call rfl rfl (XC.fn Tryz.func13 (by kernel_rfl) rfl rfl rfl) (hz11) ?_
    rintro v_ w13 ⟨A10, c10, rfl, hS22⟩
    have hS23 := SH.joinN hS21 hS22
    refine ⟨fun h_ => (KB.transN (KB.refl _ _) hS22.kb), ?_⟩
    have hz12 := rfind_calls (w := w13) (word := (((qs.take 4).getD (i).toNat ByteArray.empty).extract 0 ((min (((qs.take 4).getD (i).toNat ByteArray.empty).size : Int) 60).toNat))) (o := o) (SH.dcr3 (T := 43) (T1 := 64) (T2 := 68) hS23 (.tail _ (.tail _ (.tail _ (.tail _ (.tail _ (.tail _ (.tail _ (.tail _ (.tail _ (.tail _ (.tail _ (.tail _ (.head _))))))))))))) (.tail _ (.tail _ (.tail _ (.tail _ (.tail _ (.tail _ (.tail _ (.tail _ (.tail _ (.tail _ (.tail _ (.tail _ (.tail _ (.head _)))))))))))))) (.tail _ (.tail _ (.tail _ (.tail _ (.tail _ (.tail _ (.tail _ (.tail _ (.tail _ (.tail _ (.tail _ (.tail _ (.tail _ (.tail _ (.head _)))))))))))))))) ⟨hD1, hv1.ns, hv1.sm, Nat.le_trans hv1.ln (by omega)⟩ (by omega) (wo) 
    refine WS.call rfl rfl (XC.fn Tryz.func14 (by kernel_rfl) rfl rfl rfl) (hz12) ?_
    rintro v_ w14 ⟨A11, c11, rfl, hS24⟩
    have hS25 := SH.joinN hS23 hS24
    refine ⟨fun h_ => (KB.transN (KB.transN (KB.refl _ _) hS22.kb) hS24.kb), ?_⟩
    have hz13 := Calls.asB (w := w14) (shits_calls  (SH.rd hS25 (.tail _ (.head _))) rfl (SH.rd hS25 (.head _)) rfl ) (decide_eq_true (rfl)) 
    refine WS.call rfl rfl (XC.fn Tryz.func5 (by kernel_rfl) rfl rfl rfl) (hz13) ?_
    rintro v_ w15 ⟨rfl, hk5⟩
    have hS26 := SH.same hS25 hk5
    refine ⟨fun h_ => (KB.transN (KB.transN (KB.transN (KB.refl _ _) hS22.kb) hS24.kb) hk5), ?_⟩
    refine WS.pure rfl rfl (fun _ => LV.notB rfl) ?_
    iterate 3 refine WS.pure rfl rfl (fun _ => LV.mv rfl) ?_
    have hz14 := of_calls (w := w15) (s := (((qs.take 4).getD (i).toNat ByteArray.empty).extract 0 ((min (((qs.take 4).getD (i).toNat ByteArray.empty).size : Int) 60).toNat))) (by omega) 
    refine WS.call rfl rfl (XC.fn Tryz.func15 (by kernel_rfl) rfl rfl rfl) (hz14) ?_
    rintro v_ w16 ⟨A12, c12, rfl, hS27⟩
    have hS28 := SH.joinN hS26 hS27
    refine ⟨fun h_ => (KB.transN (KB.transN (KB.transN (KB.transN (KB.refl _ _) hS22.kb) hS24.kb) hk5) hS27.kb), ?_⟩
    have hz15 := rof_calls (w := w16) (s := (((qs.take 4).getD (i).toNat ByteArray.empty).extract 0 ((min (((qs.take 4).getD (i).toNat ByteArray.empty).size : Int) 60).toNat))) (by omega) 
    refine WS.call rfl rfl (XC.fn Tryz.func16 (by kernel_rfl) rfl rfl rfl) (hz15) ?_
    rintro v_ w17 ⟨A13, c13, rfl, hS29⟩
    have hS30 := SH.joinN hS28 hS29
    refine ⟨fun h_ => (KB.transN (KB.transN (KB.transN (KB.transN (KB.transN (KB.refl _ _) hS22.kb) hS24.kb) hk5) hS27.kb) hS29.kb), ?_⟩
    have hz16 := Calls.asB (w := w17) (stexts_calls  (SH.rd hS30 (.tail _ (.head _))) rfl (SH.rd hS30 (.head _)) rfl ) (decide_eq_true (rfl)) 
    refine WS.call rfl rfl (XC.fn Tryz.func8 (by kernel_rfl) rfl rfl rfl) (hz16) ?_
    rintro v_ w18 ⟨rfl, hk6⟩
    have hS31 := SH.same hS30 hk6
    refine ⟨fun h_ => (KB.transN (KB.transN (KB.transN (KB.transN (KB.transN (KB.transN (KB.refl _ _) hS22.kb) hS24.kb) hk5) hS27.kb) hS29.kb) hk6), ?_⟩
    refine WS.pure rfl rfl (fun _ => LV.notB rfl) ?_
    refine WS.pure rfl rfl (fun _ => LV.pickF rfl rfl) ?_
    refine WS.nil (thenQ.n ?_)
    refine WC.condF rfl ?_
    refine WC.skip (blockQ.n <| thenQ.n ?_)
    refine WC.region ?_
    refine WL.lv rfl (LV.mv rfl) ?_
    refine WL.lv rfl (LV.add rfl rfl (wr64 (by omega) (by omega))) ?_
    refine WL.lv rfl (LV.asg rfl) ?_
    refine WL.nil (thenQ.n ?_)
    have hS32 : SH w No w18 [rowE eS 9 (.slice A7 ((FLS (⟨yb1, A1, c1, rs1, Pc1, (DOS (l.take 20))⟩ : DCS).F o).length) c7) (FLS (⟨yb1, A1, c1, rs1, Pc1, (DOS (l.take 20))⟩ : DCS).F o), rowE eS 9 (.slice A6 ((FLS (⟨b2, m1, m2, kv1, kw1, Pa1, Pb1, (DOS (l.take 20))⟩ : IXS).F o).length) c6) (FLS (⟨b2, m1, m2, kv1, kw1, Pa1, Pb1, (DOS (l.take 20))⟩ : IXS).F o), rowE eS 9 (.slice A5 ((WRDS (⟨yb1, A1, c1, rs1, Pc1, (DOS (l.take 20))⟩ : DCS).F o).length) c5) (WRDS (⟨yb1, A1, c1, rs1, Pc1, (DOS (l.take 20))⟩ : DCS).F o), rowE eS 9 (.slice A4 ((WRDS (⟨b2, m1, m2, kv1, kw1, Pa1, Pb1, (DOS (l.take 20))⟩ : IXS).F o).length) c4) (WRDS (⟨b2, m1, m2, kv1, kw1, Pa1, Pb1, (DOS (l.take 20))⟩ : IXS).F o), rowE eSI 49 (.slice A3 ((ALLF (⟨yb1, A1, c1, rs1, Pc1, (DOS (l.take 20))⟩ : DCS).F o (qs.take 4)).length) c3) (ALLF (⟨yb1, A1, c1, rs1, Pc1, (DOS (l.take 20))⟩ : DCS).F o (qs.take 4)), rowE eSI 49 (.slice A2 ((ALLF (⟨b2, m1, m2, kv1, kw1, Pa1, Pb1, (DOS (l.take 20))⟩ : IXS).F o (qs.take 4)).length) c2) (ALLF (⟨b2, m1, m2, kv1, kw1, Pa1, Pb1, (DOS (l.take 20))⟩ : IXS).F o (qs.take 4)), blkE b2 62 #[(.map (some m1)), (.map (some m2))], mapG kS kV m1 kv1, mapG kS kV m2 kw1, insE idS eIt 68 Pa1, insE idS eSI 76 Pb1, blkE yb1 43 #[(.slice A1 rs1.length c1)], rowE eSV 64 (.slice A1 rs1.length c1) rs1, insE idS eIt 68 Pc1, blkE b1 26 #[(.int .i64 ((o).1)), (.int .u64 ((o).2))]] := (SH.take 15 rfl (SH.front [_, _, _, _, _, _, _, _, _, _, _, _, _, _, _, _, _, _] (SH.front [_, _, _, _, _, _, _, _, _, _, _, _, _, _, _, _, _, _] (SH.front [_, _, _, _, _, _, _, _, _, _, _, _, _, _, _, _, _, _] (SH.front [_, _, _, _, _, _, _, _, _, _, _, _, _, _, _, _, _, _] (SH.front [_, _, _, _, _, _, _, _, _, _, _, _, _, _, _, _, _, _] (SH.front [_, _, _, _, _, _, _, _, _, _, _, _, _, _, _, _, _, _] (SH.front [_, _, _, _, _, _, _, _, _, _, _, _, _, _, _, _, _, _] (SH.front [_, _, _, _, _, _, _, _, _, _, _, _, _, _, _, _, _, _] (SH.front [_, _, _, _, _, _, _, _, _, _, _, _, _, _, _, _, _, _] (SH.front [_, _, _, _, _, _, _, _, _, _, _, _, _, _, _, _, _, _] (SH.front [_, _, _, _, _, _, _, _, _, _, _, _, _, _, _, _, _, _] (SH.front [_, _, _, _, _, _, _, _, _, _, _, _, _, _, _, _, _, _] (SH.front [_, _, _, _, _, _, _, _, _, _, _, _, _, _, _, _, _, _] (SH.front [_, _, _, _, _, _, _, _, _, _, _, _, _, _, _, _, _, _] (SH.front [_, _, _, _, _, _, _, _, _, _, _, _, _, _, _, _, _, _] hS31))))))))))))))))
    exact ⟨_, by omega, i + 1, by omega, by omega, hS32, rfl, Weak.cons rfl <| Weak.cons rfl <| Weak.cons rfl <| Weak.cons rfl <| Weak.cons rfl <| Weak.nil _⟩
  · skip
    refine WC.exit (thenQ.x <| thenQ.x <| blockQ.hit <| thenQ.n ?_)
    refine WC.seq ?_
    refine WC.region ?_
    have hz17 := live_calls (w := w12) 
    refine WL.call rfl (XC.fn Tryz.func17 (by kernel_rfl) rfl rfl rfl) (hz17) ?_
    rintro v_ w19 ⟨rfl, hk7⟩
    have hS33 := SH.same hL1 hk7
    refine WL.lv rfl (LV.asg rfl) ?_
    refine WL.nil (thenQ.n ?_)
    refine WC.ret (?_)
    exact ⟨_, fun a ha => res1 rfl ha rfl, rfl, hS33.kb⟩

end Go.Proofs.YtigbphaimbhgjaaGreat

