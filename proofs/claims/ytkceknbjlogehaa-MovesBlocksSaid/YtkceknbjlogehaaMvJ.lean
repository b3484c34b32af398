/- The law of the blocks. -/
import Derived.Test.YtkceknbjlogehaaMvI
namespace Go.Proofs.Ytkceknbjlogehaa
open Go Go.Gv Go.RowKit Go.Mys Go.Num Go.Scr Go.Itn Go.Mov
set_option linter.unusedVariables false
set_option linter.unusedSimpArgs false

set_option maxHeartbeats 2000000 in
theorem movesBlocks_law {w : World} {A_a : Option Addr} {n_a c_a : Nat} {a : List Ln} {A_b : Option Addr} {n_b c_b : Nat} {b : List Ln} {least : Int} (h_a : St No w (Rd eL (.slice A_a n_a c_a) a)) (hn_a : a.length = n_a) (h_b : St No w (Rd eL (.slice A_b n_b c_b) b)) (hn_b : b.length = n_b) (h8 : 0 ≤ least ∧ least ≤ 255) :
    Calls Try.prog 5 #[(.slice A_a n_a c_a), (.slice A_b n_b c_b), (.int .u8 least)] w fun e w' => ∃ v, e = .returned v ∧ (fun v w' => v = .bool (decide (true)) ∧ KB No w w') v w' := by
  subst hn_a hn_b
  have ha25 : (a.take 25).length ≤ 25 := by rw [List.length_take]; omega
  have hb25 : (b.take 25).length ≤ 25 := by rw [List.length_take]; omega
  have hS : SH w No w [] := SH.nil _ _
  refine calls (l := litOf [(.slice A_a a.length c_a), (.slice A_b b.length c_b), (.int .u8 least)] 0) Try.func5 rfl (n := 250) rfl (Nat.le_of_ble_eq_true rfl) (lit_args _) ?_
  refine WC.seq ?_
  refine WC.region ?_
  refine WL.lv rfl (LV.asg rfl) ?_
  refine WL.nil (thenQ.n ?_)
  refine WC.seq ?_
  refine WC.region ?_
  refine WL.lv rfl (LV.mv rfl) ?_
  refine WL.call rfl (XC.fn Try.func7 (by kernel_rfl) rfl rfl rfl) (few37_calls (SH.stN hS h_a)) ?_
  rintro v_ w1 ⟨rfl, hk1⟩
  have hS1 := SH.same hS hk1
  refine WL.lv rfl (LV.mv rfl) ?_
  refine WL.call rfl (XC.fn Try.func7 (by kernel_rfl) rfl rfl rfl) (few37_calls (SH.stN hS1 h_b)) ?_
  rintro v_ w2 ⟨rfl, hk2⟩
  have hS2 := SH.same hS1 hk2
  iterate 2 refine WL.lv rfl (LV.asg rfl) ?_
  refine WL.nil (thenQ.n ?_)
  refine WC.seq ?_
  refine WC.region ?_
  refine WL.lv rfl (LV.mv rfl) ?_
  refine WL.lv rfl (LV.cvtI Try.underlying5 Try.underlying3 rfl (wr64 (by omega) (by omega))) ?_
  refine WL.lv rfl (LV.rem rfl rfl (by decide) (rem64 (by omega) rfl)) ?_
  refine WL.lv rfl (LV.add rfl rfl (wr64 (by omega) (by omega))) ?_
  refine WL.lv rfl (LV.asg rfl) ?_
  refine WL.nil (thenQ.n ?_)
  refine WC.seq ?_
  refine WC.region ?_
  iterate 3 refine WL.lv rfl (LV.mv rfl) ?_
  refine WL.call rfl (XC.fn Try.func8 (by kernel_rfl) rfl rfl rfl) (find_calls (least := (1 + (least % 10))) (SH.stN hS2 (few_rd 25 h_a)) rfl (SH.stN hS2 (few_rd 25 h_b)) rfl ) ?_
  rintro v_ w3 ⟨A1, c1, rfl, hS3⟩
  have hS4 := SH.joinN hS2 hS3
  refine WL.lv rfl (LV.mv rfl) ?_
  iterate 2 refine WL.lv rfl (LV.extract rfl rfl) ?_
  iterate 2 refine WL.lv rfl (LV.asg rfl) ?_
  refine WL.nil (thenQ.n ?_)
  refine WC.seq ?_
  refine WC.region ?_
  iterate 2 refine WL.lv rfl (LV.mv rfl) ?_
  refine WL.call rfl (XC.fn Try.func14 (by kernel_rfl) rfl rfl rfl) (stay_calls  (SH.stN hS4 (few_rd 25 h_a)) rfl (SH.stN hS4 (few_rd 25 h_b)) rfl ) ?_
  rintro v_ w4 ⟨A2, c2, rfl, hS5⟩
  have hS6 := SH.joinN hS4 hS5
  refine WL.lv rfl (LV.mv rfl) ?_
  iterate 2 refine WL.lv rfl (LV.extract rfl rfl) ?_
  iterate 2 refine WL.lv rfl (LV.asg rfl) ?_
  refine WL.nil (thenQ.n ?_)
  iterate 2 refine WC.seq ?_
  refine WC.region ?_
  refine WL.lv rfl (LV.mv rfl) ?_
  refine WL.lv rfl (LV.as (LV.neI rfl rfl) (decide_eq_false (fun h_ => h_ (FE_z (by omega) (by omega) (by omega) (by omega))))) ?_
  iterate 2 refine WL.lv rfl (LV.mv rfl) ?_
  refine WL.lv rfl (LV.as (LV.neI rfl rfl) (decide_eq_false (fun h_ => h_ (STE_z (by omega) (by omega))))) ?_
  refine WL.lv rfl (LV.pickF rfl rfl) ?_
  refine WL.nil (thenQ.n ?_)
  refine WC.condF rfl ?_
  refine WC.skip (thenQ.n ?_)
  refine WC.seq ?_
  have hS7 := SH.drew hS6
  refine WC.regionD [] (fun w_ => KB No w4.drew w_) [(.pure, 0), (.pure, 1), (.pure, 3), (.pure, 4), (.fork, 0), (.fork, 0), (.fork, 0), (.fork, 0)] (by kernel_rfl) (by kernel_rfl) (KB.refl _ _) ?_
  refine WS.pure rfl rfl (fun _ => LV.mv rfl) ?_
  have hsyl := STY_len (a := (a.take 25)) (b := (b.take 25))
  have hgl := FB_good (a := (a.take 25)) (b := (b.take 25)) (least := (1 + (least) % 10)) (by omega) (by omega) (by omega) (by omega)
  have hfbl := hgl.2
  have hla0 := NA_len (a.take 25)
  have hlb0 := NB_len (a.take 25) (b.take 25)
  refine WS.pure rfl rfl (fun _ => LV.lenL Try.underlying22 rfl) ?_
  refine WS.pure rfl rfl (fun _ => LV.mv rfl) ?_
  refine WS.pure rfl rfl (fun _ => LV.lenL Try.underlying22 rfl) ?_
  refine WS.fork (WSX.two 2 5 (by kernel_rfl) ?_ ?_)
  · refine WO.xe rfl rfl (XE.make (E := eB) (n := (a.take 25).length) false hS7 Try.underlying34 ti4 rfl rfl rfl rfl rfl rfl (by omega) (by omega)) ?_
    rintro _ w5 ⟨b1, rfl, hS8, hk3⟩
    refine ⟨fun h_ => (KB.transN (KB.refl _ _) hk3), ?_⟩
    refine WSX.of [(.pure, 6), (.forced, 5), (.pure, 7)] (by kernel_rfl) rfl ?_
    refine WS.pure rfl rfl (fun _ => LV.asg rfl) ?_
    refine WS.xe rfl rfl (XE.make (E := eB) (n := (b.take 25).length) false hS8 Try.underlying34 ti4 rfl rfl rfl rfl rfl rfl (by omega) (by omega)) ?_
    rintro _ w6 ⟨b2, rfl, hS9, hk4⟩
    refine ⟨fun h_ => (KB.transN (KB.transN (KB.refl _ _) hk3) hk4), ?_⟩
    refine WS.pure rfl rfl (fun _ => LV.asg rfl) ?_
    refine WS.nil (thenQ.n ?_)
    iterate 2 refine WC.seq ?_
    refine WC.region ?_
    refine WL.lv rfl (LV.asg rfl) ?_
    refine WL.nil (thenQ.n ?_)
    refine WC.block ?_
    refine WC.loop (fun m_ f_ w_ => ∃ (used : List Bool) (taken : List Bool) (i : Int), (0 ≤ i) ∧ (i ≤ ((STY (a.take 25) (b.take 25)).length : Int)) ∧ (used = usd (a.take 25).length ((STY (a.take 25) (b.take 25)).take i.toNat)) ∧ (taken = tkn (b.take 25).length ((STY (a.take 25) (b.take 25)).take i.toNat)) ∧ (used.length = (a.take 25).length) ∧ (taken.length = (b.take 25).length) ∧ SH w No w_ [rowE eB 4 (.slice (some ⟨b2, 0, none⟩) ((b.take 25).length) ((b.take 25).length)) taken, rowE eB 4 (.slice (some ⟨b1, 0, none⟩) ((a.take 25).length) ((a.take 25).length)) used, rowE eP 41 (.slice A2 ((STY (a.take 25) (b.take 25)).length) c2) (STY (a.take 25) (b.take 25)), rowE eB3 43 (.slice A1 ((FB (a.take 25) (b.take 25) (1 + (least % 10))).length) c1) (FB (a.take 25) (b.take 25) (1 + (least % 10)))] ∧ m_ = ((((STY (a.take 25) (b.take 25)).length : Int) - i).toNat) ∧ Weak (lit [(0, (.slice (cutA A_a c_a 2) ((a.take 25).length) c_a)), (1, (.slice (cutA A_b c_b 2) ((b.take 25).length) c_b)), (7, (.int .i64 (1 + (least % 10)))), (8, (.slice A1 ((FB (a.take 25) (b.take 25) (1 + (least % 10))).length) c1)), (10, (.slice A2 ((STY (a.take 25) (b.take 25)).length) c2)), (12, (.slice (some ⟨b1, 0, none⟩) ((a.take 25).length) ((a.take 25).length))), (13, (.slice (some ⟨b2, 0, none⟩) ((b.take 25).length) ((b.take 25).length))), (14, (.int .i64 i))]) f_) _ ⟨(List.replicate ((a.take 25).length) false), (List.replicate ((b.take 25).length) false), 0, by omega, by omega, rfl, rfl, List.length_replicate, List.length_replicate, hS9, rfl, Weak.cons rfl <| Weak.cons rfl <| Weak.cons rfl <| Weak.cons rfl <| Weak.cons rfl <| Weak.cons rfl <| Weak.cons rfl <| Weak.cons rfl <| Weak.nil _⟩ ?_
    rintro m5 f1 w7 ⟨used, taken, i, ilo, ihi, u1, u2, u3, u4, hL1, rfl, hw1⟩
    refine WC.weak hw1 ?_
    clear hw1
    iterate 2 refine WC.seq ?_
    refine WC.region ?_
    iterate 2 refine WL.lv rfl (LV.mv rfl) ?_
    refine WL.lv rfl (LV.lenL Try.underlying35 rfl) ?_
    refine WL.lv rfl (LV.ltI rfl rfl) ?_
    refine WL.nil (thenQ.n ?_)
    refine WC.condP (p := i < ((STY (a.take 25) (b.take 25)).length : Int)) rfl (fun hk => ?_) (fun hk => ?_)
    · have hp_ := STY_ok (a := (a.take 25)) (b := (b.take 25)) (by omega) (by omega) ilo hk
      refine WC.skip (thenQ.n ?_)
      refine WC.seq ?_
      refine WC.block ?_
      iterate 2 refine WC.seq ?_
      refine WC.region ?_
      iterate 2 refine WL.lv rfl (LV.mv rfl) ?_
      obtain ⟨A3, c3, e1, g1⟩ := St.elt (SH.rd hL1 (.tail _ (.tail _ (.head _)))) (0, 0) i (by omega) (by omega)
      refine WL.lv rfl (LV.idxA Try.underlying35 ti41.sz rfl e1 rfl (by omega) (by omega)) ?_
      refine WL.lv rfl (LV.idxArr Try.underlying41 ti3.sz rfl rfl (by decide) (by decide)) ?_
      refine WL.lv rfl (LV.load1 (v := (.int .i64 (((STY (a.take 25) (b.take 25)).getD (i).toNat (0, 0)).1))) Try.underlying3 rfl rfl (g1 _ (KB.refl No _) 0 _ rfl)) ?_
      refine WL.lv rfl (LV.as (LV.ltI rfl rfl) (decide_eq_false (by omega))) ?_
      iterate 3 refine WL.lv rfl (LV.mv rfl) ?_
      obtain ⟨A4, c4, e2, g2⟩ := St.elt (SH.rd hL1 (.tail _ (.tail _ (.head _)))) (0, 0) i (by omega) (by omega)
      refine WL.lv rfl (LV.idxA Try.underlying35 ti41.sz rfl e2 rfl (by omega) (by omega)) ?_
      refine WL.lv rfl (LV.idxArr Try.underlying41 ti3.sz rfl rfl (by decide) (by decide)) ?_
      refine WL.lv rfl (LV.load1 (v := (.int .i64 (((STY (a.take 25) (b.take 25)).getD (i).toNat (0, 0)).1))) Try.underlying3 rfl rfl (g2 _ (KB.refl No _) 0 _ rfl)) ?_
      refine WL.lv rfl (LV.mv rfl) ?_
      refine WL.lv rfl (LV.lenL Try.underlying22 rfl) ?_
      refine WL.lv rfl (LV.as (LV.geI rfl rfl) (decide_eq_false (by omega))) ?_
      refine WL.lv rfl (LV.pickF rfl rfl) ?_
      iterate 3 refine WL.lv rfl (LV.mv rfl) ?_
      obtain ⟨A5, c5, e3, g3⟩ := St.elt (SH.rd hL1 (.tail _ (.tail _ (.head _)))) (0, 0) i (by omega) (by omega)
      refine WL.lv rfl (LV.idxA Try.underlying35 ti41.sz rfl e3 rfl (by omega) (by omega)) ?_
      refine WL.lv rfl (LV.idxArr Try.underlying41 ti3.sz rfl rfl (by decide) (by decide)) ?_
      refine WL.lv rfl (LV.load1 (v := (.int .i64 (((STY (a.take 25) (b.take 25)).getD (i).toNat (0, 0)).2))) Try.underlying3 rfl rfl (g3 _ (KB.refl No _) 1 _ rfl)) ?_
      refine WL.lv rfl (LV.as (LV.ltI rfl rfl) (decide_eq_false (by omega))) ?_
      refine WL.lv rfl (LV.pickF rfl rfl) ?_
      iterate 3 refine WL.lv rfl (LV.mv rfl) ?_
      obtain ⟨A6, c6, e4, g4⟩ := St.elt (SH.rd hL1 (.tail _ (.tail _ (.head _)))) (0, 0) i (by omega) (by omega)
      refine WL.lv rfl (LV.idxA Try.underlying35 ti41.sz rfl e4 rfl (by omega) (by omega)) ?_
      refine WL.lv rfl (LV.idxArr Try.underlying41 ti3.sz rfl rfl (by decide) (by decide)) ?_
      refine WL.lv rfl (LV.load1 (v := (.int .i64 (((STY (a.take 25) (b.take 25)).getD (i).toNat (0, 0)).2))) Try.underlying3 rfl rfl (g4 _ (KB.refl No _) 1 _ rfl)) ?_
      refine WL.lv rfl (LV.mv rfl) ?_
      refine WL.lv rfl (LV.lenL Try.underlying22 rfl) ?_
      refine WL.lv rfl (LV.as (LV.geI rfl rfl) (decide_eq_false (by omega))) ?_
      refine WL.lv rfl (LV.pickF rfl rfl) ?_
      refine WL.nil (thenQ.n ?_)
      refine WC.condF rfl ?_
      refine WC.skip (thenQ.n ?_)
      have hS10 := SH.drew hL1
      refine WC.regionD [13, 15] (fun w_ => KB No w7.drew w_) [(.pure, 0), (.pure, 1), (.pure, 2), (.pure, 3), (.pure, 4), (.look, 5), (.pure, 6), (.pure, 7), (.pure, 8), (.pure, 9), (.pure, 10), (.look, 11), (.pure, 12), (.forced, 13), (.pure, 14), (.forced, 15)] (by kernel_rfl) (by kernel_rfl) (KB.refl _ _) ?_
      iterate 3 refine WS.pure rfl rfl (fun _ => LV.mv rfl) ?_
      obtain ⟨A7, c7, e5, g5⟩ := St.elt (SH.rd hS10 (.tail _ (.tail _ (.head _)))) (0, 0) i (by omega) (by omega)
      refine WS.pure rfl rfl (fun _ => LV.idxA Try.underlying35 ti41.sz rfl e5 rfl (by omega) (by omega)) ?_
      refine WS.pure rfl rfl (fun _ => LV.idxArr Try.underlying41 ti3.sz rfl rfl (by decide) (by decide)) ?_
      refine WS.look rfl rfl (fun _ hk_ => LV.load1 (v := (.int .i64 (((STY (a.take 25) (b.take 25)).getD (i).toNat (0, 0)).1))) Try.underlying3 rfl rfl (g5 _ hk_ 0 _ rfl)) ?_
      iterate 3 refine WS.pure rfl rfl (fun _ => LV.mv rfl) ?_
      obtain ⟨A8, c8, e6, g6⟩ := St.elt (SH.rd hS10 (.tail _ (.tail _ (.head _)))) (0, 0) i (by omega) (by omega)
      refine WS.pure rfl rfl (fun _ => LV.idxA Try.underlying35 ti41.sz rfl e6 rfl (by omega) (by omega)) ?_
      refine WS.pure rfl rfl (fun _ => LV.idxArr Try.underlying41 ti3.sz rfl rfl (by decide) (by decide)) ?_
      refine WS.look rfl rfl (fun _ hk_ => LV.load1 (v := (.int .i64 (((STY (a.take 25) (b.take 25)).getD (i).toNat (0, 0)).2))) Try.underlying3 rfl rfl (g6 _ hk_ 1 _ rfl)) ?_
      obtain ⟨A9, c9, e7, g7⟩ := St.elt (SH.rd hS10 (.tail _ (.head _))) false (((STY (a.take 25) (b.take 25)).getD (i).toNat (0, 0)).1) (by omega) (by omega)
      refine WS.pure rfl rfl (fun _ => LV.idxA Try.underlying34 ti4.sz rfl e7 rfl (by omega) (by omega)) ?_
      have hS12 : SH w No w7.drew [rowE eB 4 (.slice (some ⟨b1, 0, none⟩) ((a.take 25).length) ((a.take 25).length)) used, rowE eB 4 (.slice (some ⟨b2, 0, none⟩) ((b.take 25).length) ((b.take 25).length)) taken, rowE eP 41 (.slice A2 ((STY (a.take 25) (b.take 25)).length) c2) (STY (a.take 25) (b.take 25)), rowE eB3 43 (.slice A1 ((FB (a.take 25) (b.take 25) (1 + (least % 10))).length) c1) (FB (a.take 25) (b.take 25) (1 + (least % 10)))] := (SH.front [rowE eB 4 (.slice (some ⟨b2, 0, none⟩) ((b.take 25).length) ((b.take 25).length)) taken] hS10)
      refine WS.xse rfl rfl (XSE.row1 (i := ((STY (a.take 25) (b.take 25)).getD (i).toNat (0, 0)).1) (o := 0) (k := false) true hS12 e7 (by omega) (by omega) (by decide) ti4.sz rfl rfl rfl rfl) ?_
      rintro w8 ⟨hS11, hk5⟩
      refine ⟨fun h_ => (by cases h_), ?_⟩
      obtain ⟨A10, c10, e8, g8⟩ := St.elt (SH.rd hS10 (.head _)) false (((STY (a.take 25) (b.take 25)).getD (i).toNat (0, 0)).2) (by omega) (by omega)
      refine WS.pure rfl rfl (fun _ => LV.idxA Try.underlying34 ti4.sz rfl e8 rfl (by omega) (by omega)) ?_
      have hS14 : SH w No w8 [rowE eB 4 (.slice (some ⟨b2, 0, none⟩) ((b.take 25).length) ((b.take 25).length)) taken, rowE eB 4 (.slice (some ⟨b1, 0, none⟩) ((a.take 25).length) ((a.take 25).length)) (used.set (((STY (a.take 25) (b.take 25)).getD (i).toNat (0, 0)).1).toNat true), rowE eP 41 (.slice A2 ((STY (a.take 25) (b.take 25)).length) c2) (STY (a.take 25) (b.take 25)), rowE eB3 43 (.slice A1 ((FB (a.take 25) (b.take 25) (1 + (least % 10))).length) c1) (FB (a.take 25) (b.take 25) (1 + (least % 10)))] := (SH.front [rowE eB 4 (.slice (some ⟨b1, 0, none⟩) ((a.take 25).length) ((a.take 25).length)) (used.set (((STY (a.take 25) (b.take 25)).getD (i).toNat (0, 0)).1).toNat true)] hS11)
      refine WS.xse rfl rfl (XSE.row1 (i := ((STY (a.take 25) (b.take 25)).getD (i).toNat (0, 0)).2) (o := 0) (k := false) true hS14 e8 (by omega) (by omega) (by decide) ti4.sz rfl rfl rfl rfl) ?_
      rintro w9 ⟨hS13, hk6⟩
      refine ⟨fun h_ => (by cases h_), ?_⟩
      refine WS.nil (blockQ.n <| thenQ.n ?_)
      refine WC.region ?_
      refine WL.lv rfl (LV.mv rfl) ?_
      refine WL.lv rfl (LV.add rfl rfl (wr64 (by omega) (by omega))) ?_
      refine WL.lv rfl (LV.asg rfl) ?_
      refine WL.nil (thenQ.n ?_)
      exact ⟨_, by omega, (used.set (((STY (a.take 25) (b.take 25)).getD (i).toNat (0, 0)).1).toNat true), (taken.set (((STY (a.take 25) (b.take 25)).getD (i).toNat (0, 0)).2).toNat true), i + 1, by omega, by omega, ((set_mrk hp_.1 (by omega)).trans (usd_snoc ilo hk u1)), ((set_mrk hp_.2.2.1 (by omega)).trans (tkn_snoc ilo hk u2)), (by rw [List.length_set]; exact u3), (by rw [List.length_set]; exact u4), hS13, rfl, Weak.cons rfl <| Weak.cons rfl <| Weak.cons rfl <| Weak.cons rfl <| Weak.cons rfl <| Weak.cons rfl <| Weak.cons rfl <| Weak.cons rfl <| Weak.nil _⟩
    · skip
      refine WC.exit (thenQ.x <| thenQ.x <| blockQ.hit <| thenQ.n ?_)
      iterate 2 refine WC.seq ?_
      refine WC.region ?_
      refine WL.lv rfl (LV.asg rfl) ?_
      refine WL.nil (thenQ.n ?_)
      refine WC.block ?_
      refine WC.loop (fun m_ f_ w_ => ∃ (used2 : List Bool) (taken2 : List Bool) (i2 : Int), (0 ≤ i2) ∧ (i2 ≤ ((FB (a.take 25) (b.take 25) (1 + (least % 10))).length : Int)) ∧ (MK used2 (usd (a.take 25).length (STY (a.take 25) (b.take 25))) (bX ((FB (a.take 25) (b.take 25) (1 + (least) % 10)).take i2.toNat))) ∧ (MK taken2 (tkn (b.take 25).length (STY (a.take 25) (b.take 25))) (bY ((FB (a.take 25) (b.take 25) (1 + (least) % 10)).take i2.toNat))) ∧ (used2.length = (a.take 25).length) ∧ (taken2.length = (b.take 25).length) ∧ SH w No w_ [rowE eB 4 (.slice (some ⟨b2, 0, none⟩) ((b.take 25).length) ((b.take 25).length)) taken2, rowE eB 4 (.slice (some ⟨b1, 0, none⟩) ((a.take 25).length) ((a.take 25).length)) used2, rowE eP 41 (.slice A2 ((STY (a.take 25) (b.take 25)).length) c2) (STY (a.take 25) (b.take 25)), rowE eB3 43 (.slice A1 ((FB (a.take 25) (b.take 25) (1 + (least % 10))).length) c1) (FB (a.take 25) (b.take 25) (1 + (least % 10)))] ∧ m_ = ((((FB (a.take 25) (b.take 25) (1 + (least % 10))).length : Int) - i2).toNat) ∧ Weak (lit [(0, (.slice (cutA A_a c_a 2) ((a.take 25).length) c_a)), (1, (.slice (cutA A_b c_b 2) ((b.take 25).length) c_b)), (7, (.int .i64 (1 + (least % 10)))), (8, (.slice A1 ((FB (a.take 25) (b.take 25) (1 + (least % 10))).length) c1)), (12, (.slice (some ⟨b1, 0, none⟩) ((a.take 25).length) ((a.take 25).length))), (13, (.slice (some ⟨b2, 0, none⟩) ((b.take 25).length) ((b.take 25).length))), (15, (.int .i64 i2))]) f_) _ ⟨used, taken, 0, by omega, by omega, (by rw [u1, take_all (by omega)]; exact MK_0), (by rw [u2, take_all (by omega)]; exact MK_0), u3, u4, hL1, rfl, Weak.cons rfl <| Weak.cons rfl <| Weak.cons rfl <| Weak.cons rfl <| Weak.cons rfl <| Weak.cons rfl <| Weak.cons rfl <| Weak.nil _⟩ ?_
      rintro m6 f2 w10 ⟨used2, taken2, i2, i2lo, i2hi, m1, m2, m3, m4, hL2, rfl, hw2⟩
      refine WC.weak hw2 ?_
      clear hw2
      iterate 2 refine WC.seq ?_
      refine WC.region ?_
      iterate 2 refine WL.lv rfl (LV.mv rfl) ?_
      refine WL.lv rfl (LV.lenL Try.underlying24 rfl) ?_
      refine WL.lv rfl (LV.ltI rfl rfl) ?_
      refine WL.nil (thenQ.n ?_)
      refine WC.condP (p := i2 < ((FB (a.take 25) (b.take 25) (1 + (least % 10))).length : Int)) rfl (fun hk2 => ?_) (fun hk2 => ?_)
      · have hb_ := FB_at (a := (a.take 25)) (b := (b.take 25)) (least := (1 + (least) % 10)) (by omega) (by omega) (by omega) (by omega) i2lo hk2
        have hb1_ := hb_.1
        have hb2_ := hb_.2.f0
        have hb3_ := hb_.2.f1
        have hb4_ := hb_.2.t0
        have hb5_ := hb_.2.t1
        refine WC.skip (thenQ.n ?_)
        refine WC.seq ?_
        refine WC.block ?_
        iterate 2 refine WC.seq ?_
        have hS15 := SH.drew hL2
        refine WC.regionD [] (fun w_ => KB No w10.drew w_) [(.pure, 0), (.pure, 1), (.pure, 2), (.pure, 3), (.look, 4), (.pure, 5), (.pure, 6), (.pure, 7), (.pure, 8), (.pure, 9), (.pure, 10), (.pure, 11), (.look, 12), (.pure, 13), (.pure, 14), (.pure, 15), (.pure, 16), (.pure, 17), (.pure, 18), (.pure, 19), (.look, 20), (.pure, 21), (.pure, 22), (.pure, 23), (.pure, 24), (.pure, 25), (.pure, 26), (.pure, 27), (.look, 28), (.pure, 29), (.pure, 30), (.pure, 31), (.pure, 32), (.pure, 33), (.pure, 34), (.look, 35), (.pure, 36), (.pure, 37), (.pure, 38), (.pure, 39), (.pure, 40), (.pure, 41), (.pure, 42), (.pure, 43), (.look, 44), (.pure, 45), (.pure, 46), (.pure, 47), (.pure, 48), (.pure, 49), (.pure, 50), (.look, 51), (.pure, 52), (.pure, 53), (.pure, 54)] (by kernel_rfl) (by kernel_rfl) (KB.refl _ _) ?_
        iterate 2 refine WS.pure rfl rfl (fun _ => LV.mv rfl) ?_
        obtain ⟨A11, c11, e9, g9⟩ := St.elt (SH.rd hS15 (.tail _ (.tail _ (.tail _ (.head _))))) (0, 0, 0) i2 (by omega) (by omega)
        refine WS.pure rfl rfl (fun _ => LV.idxA Try.underlying24 ti43.sz rfl e9 rfl (by omega) (by omega)) ?_
        refine WS.pure rfl rfl (fun _ => LV.fieldA Try.underlying43 rfl ti3.sz rfl) ?_
        refine WS.look rfl rfl (fun _ hk_ => LV.load1 (v := (.int .i64 (((FB (a.take 25) (b.take 25) (1 + (least % 10))).getD (i2).toNat (0, 0, 0)).2.2))) Try.underlying3 rfl rfl (g9 _ hk_ 2 _ rfl)) ?_
        refine WS.pure rfl rfl (fun _ => LV.mv rfl) ?_
        refine WS.pure rfl rfl (fun _ => LV.as (LV.ltI rfl rfl) (decide_eq_false (by omega))) ?_
        iterate 3 refine WS.pure rfl rfl (fun _ => LV.mv rfl) ?_
        obtain ⟨A12, c12, e10, g10⟩ := St.elt (SH.rd hS15 (.tail _ (.tail _ (.tail _ (.head _))))) (0, 0, 0) i2 (by omega) (by omega)
        refine WS.pure rfl rfl (fun _ => LV.idxA Try.underlying24 ti43.sz rfl e10 rfl (by omega) (by omega)) ?_
        refine WS.pure rfl rfl (fun _ => LV.fieldA Try.underlying43 rfl ti3.sz rfl) ?_
        refine WS.look rfl rfl (fun _ hk_ => LV.load1 (v := (.int .i64 (((FB (a.take 25) (b.take 25) (1 + (least % 10))).getD (i2).toNat (0, 0, 0)).1))) Try.underlying3 rfl rfl (g10 _ hk_ 0 _ rfl)) ?_
        refine WS.pure rfl rfl (fun _ => LV.as (LV.ltI rfl rfl) (decide_eq_false (by omega))) ?_
        refine WS.pure rfl rfl (fun _ => LV.pickF rfl rfl) ?_
        iterate 3 refine WS.pure rfl rfl (fun _ => LV.mv rfl) ?_
        obtain ⟨A13, c13, e11, g11⟩ := St.elt (SH.rd hS15 (.tail _ (.tail _ (.tail _ (.head _))))) (0, 0, 0) i2 (by omega) (by omega)
        refine WS.pure rfl rfl (fun _ => LV.idxA Try.underlying24 ti43.sz rfl e11 rfl (by omega) (by omega)) ?_
        refine WS.pure rfl rfl (fun _ => LV.fieldA Try.underlying43 rfl ti3.sz rfl) ?_
        refine WS.look rfl rfl (fun _ hk_ => LV.load1 (v := (.int .i64 (((FB (a.take 25) (b.take 25) (1 + (least % 10))).getD (i2).toNat (0, 0, 0)).2.1))) Try.underlying3 rfl rfl (g11 _ hk_ 1 _ rfl)) ?_
        refine WS.pure rfl rfl (fun _ => LV.as (LV.ltI rfl rfl) (decide_eq_false (by omega))) ?_
        refine WS.pure rfl rfl (fun _ => LV.pickF rfl rfl) ?_
        iterate 3 refine WS.pure rfl rfl (fun _ => LV.mv rfl) ?_
        obtain ⟨A14, c14, e12, g12⟩ := St.elt (SH.rd hS15 (.tail _ (.tail _ (.tail _ (.head _))))) (0, 0, 0) i2 (by omega) (by omega)
        refine WS.pure rfl rfl (fun _ => LV.idxA Try.underlying24 ti43.sz rfl e12 rfl (by omega) (by omega)) ?_
        refine WS.pure rfl rfl (fun _ => LV.fieldA Try.underlying43 rfl ti3.sz rfl) ?_
        refine WS.look rfl rfl (fun _ hk_ => LV.load1 (v := (.int .i64 (((FB (a.take 25) (b.take 25) (1 + (least % 10))).getD (i2).toNat (0, 0, 0)).1))) Try.underlying3 rfl rfl (g12 _ hk_ 0 _ rfl)) ?_
        refine WS.pure rfl rfl (fun _ => LV.mv rfl) ?_
        refine WS.pure rfl rfl (fun _ => LV.lenL Try.underlying22 rfl) ?_
        iterate 2 refine WS.pure rfl rfl (fun _ => LV.mv rfl) ?_
        obtain ⟨A15, c15, e13, g13⟩ := St.elt (SH.rd hS15 (.tail _ (.tail _ (.tail _ (.head _))))) (0, 0, 0) i2 (by omega) (by omega)
        refine WS.pure rfl rfl (fun _ => LV.idxA Try.underlying24 ti43.sz rfl e13 rfl (by omega) (by omega)) ?_
        refine WS.pure rfl rfl (fun _ => LV.fieldA Try.underlying43 rfl ti3.sz rfl) ?_
        refine WS.look rfl rfl (fun _ hk_ => LV.load1 (v := (.int .i64 (((FB (a.take 25) (b.take 25) (1 + (least % 10))).getD (i2).toNat (0, 0, 0)).2.2))) Try.underlying3 rfl rfl (g13 _ hk_ 2 _ rfl)) ?_
        refine WS.pure rfl rfl (fun _ => LV.sub rfl rfl (wr64 (by omega) (by omega))) ?_
        refine WS.pure rfl rfl (fun _ => LV.as (LV.gtI rfl rfl) (decide_eq_false (by omega))) ?_
        refine WS.pure rfl rfl (fun _ => LV.pickF rfl rfl) ?_
        iterate 3 refine WS.pure rfl rfl (fun _ => LV.mv rfl) ?_
        obtain ⟨A16, c16, e14, g14⟩ := St.elt (SH.rd hS15 (.tail _ (.tail _ (.tail _ (.head _))))) (0, 0, 0) i2 (by omega) (by omega)
        refine WS.pure rfl rfl (fun _ => LV.idxA Try.underlying24 ti43.sz rfl e14 rfl (by omega) (by omega)) ?_
        refine WS.pure rfl rfl (fun _ => LV.fieldA Try.underlying43 rfl ti3.sz rfl) ?_
        refine WS.look rfl rfl (fun _ hk_ => LV.load1 (v := (.int .i64 (((FB (a.take 25) (b.take 25) (1 + (least % 10))).getD (i2).toNat (0, 0, 0)).2.1))) Try.underlying3 rfl rfl (g14 _ hk_ 1 _ rfl)) ?_
        refine WS.pure rfl rfl (fun _ => LV.mv rfl) ?_
        refine WS.pure rfl rfl (fun _ => LV.lenL Try.underlying22 rfl) ?_
        iterate 2 refine WS.pure rfl rfl (fun _ => LV.mv rfl) ?_
        obtain ⟨A17, c17, e15, g15⟩ := St.elt (SH.rd hS15 (.tail _ (.tail _ (.tail _ (.head _))))) (0, 0, 0) i2 (by omega) (by omega)
        refine WS.pure rfl rfl (fun _ => LV.idxA Try.underlying24 ti43.sz rfl e15 rfl (by omega) (by omega)) ?_
        refine WS.pure rfl rfl (fun _ => LV.fieldA Try.underlying43 rfl ti3.sz rfl) ?_
        refine WS.look rfl rfl (fun _ hk_ => LV.load1 (v := (.int .i64 (((FB (a.take 25) (b.take 25) (1 + (least % 10))).getD (i2).toNat (0, 0, 0)).2.2))) Try.underlying3 rfl rfl (g15 _ hk_ 2 _ rfl)) ?_
        refine WS.pure rfl rfl (fun _ => LV.sub rfl rfl (wr64 (by omega) (by omega))) ?_
        refine WS.pure rfl rfl (fun _ => LV.as (LV.gtI rfl rfl) (decide_eq_false (by omega))) ?_
        refine WS.pure rfl rfl (fun _ => LV.pickF rfl rfl) ?_
        refine WS.nil (thenQ.n ?_)
        refine WC.condF rfl ?_
        refine WC.skip (thenQ.n ?_)
        refine WC.seq ?_
        refine WC.region ?_
        refine WL.lv rfl (LV.asg rfl) ?_
        refine WL.nil (thenQ.n ?_)
        refine WC.block ?_
        refine WC.loop (fun m_ f_ w_ => ∃ (used3 : List Bool) (taken3 : List Bool) (k : Int), (0 ≤ k) ∧ (k ≤ ((FB (a.take 25) (b.take 25) (1 + (least) % 10)).getD i2.toNat (0, 0, 0)).2.2) ∧ (MK used3 (usd (a.take 25).length (STY (a.take 25) (b.take 25))) (bX ((FB (a.take 25) (b.take 25) (1 + (least) % 10)).take i2.toNat) ++ [(((FB (a.take 25) (b.take 25) (1 + (least) % 10)).getD i2.toNat (0, 0, 0)).1, k)])) ∧ (MK taken3 (tkn (b.take 25).length (STY (a.take 25) (b.take 25))) (bY ((FB (a.take 25) (b.take 25) (1 + (least) % 10)).take i2.toNat) ++ [(((FB (a.take 25) (b.take 25) (1 + (least) % 10)).getD i2.toNat (0, 0, 0)).2.1, k)])) ∧ (used3.length = (a.take 25).length) ∧ (taken3.length = (b.take 25).length) ∧ SH w No w_ [rowE eB 4 (.slice (some ⟨b2, 0, none⟩) ((b.take 25).length) ((b.take 25).length)) taken3, rowE eB 4 (.slice (some ⟨b1, 0, none⟩) ((a.take 25).length) ((a.take 25).length)) used3, rowE eP 41 (.slice A2 ((STY (a.take 25) (b.take 25)).length) c2) (STY (a.take 25) (b.take 25)), rowE eB3 43 (.slice A1 ((FB (a.take 25) (b.take 25) (1 + (least % 10))).length) c1) (FB (a.take 25) (b.take 25) (1 + (least % 10)))] ∧ m_ = ((((FB (a.take 25) (b.take 25) (1 + (least) % 10)).getD i2.toNat (0, 0, 0)).2.2 - k).toNat) ∧ Weak (lit [(0, (.slice (cutA A_a c_a 2) ((a.take 25).length) c_a)), (1, (.slice (cutA A_b c_b 2) ((b.take 25).length) c_b)), (7, (.int .i64 (1 + (least % 10)))), (8, (.slice A1 ((FB (a.take 25) (b.take 25) (1 + (least % 10))).length) c1)), (12, (.slice (some ⟨b1, 0, none⟩) ((a.take 25).length) ((a.take 25).length))), (13, (.slice (some ⟨b2, 0, none⟩) ((b.take 25).length) ((b.take 25).length))), (15, (.int .i64 i2)), (16, (.int .i64 k))]) f_) _ ⟨used2, taken2, 0, by omega, by omega, (MK_zero m1), (MK_zero m2), m3, m4, hS15, rfl, Weak.cons rfl <| Weak.cons rfl <| Weak.cons rfl <| Weak.cons rfl <| Weak.cons rfl <| Weak.cons rfl <| Weak.cons rfl <| Weak.cons rfl <| Weak.nil _⟩ ?_
        rintro m7 f3 w11 ⟨used3, taken3, k, klo, khi, k1, k2, k3, k4, hL3, rfl, hw3⟩
        refine WC.weak hw3 ?_
        clear hw3
        iterate 2 refine WC.seq ?_
        refine WC.region ?_
        iterate 3 refine WL.lv rfl (LV.mv rfl) ?_
        obtain ⟨A18, c18, e16, g16⟩ := St.elt (SH.rd hL3 (.tail _ (.tail _ (.tail _ (.head _))))) (0, 0, 0) i2 (by omega) (by omega)
        refine WL.lv rfl (LV.idxA Try.underlying24 ti43.sz rfl e16 rfl (by omega) (by omega)) ?_
        refine WL.lv rfl (LV.fieldA Try.underlying43 rfl ti3.sz rfl) ?_
        refine WL.lv rfl (LV.load1 (v := (.int .i64 (((FB (a.take 25) (b.take 25) (1 + (least % 10))).getD (i2).toNat (0, 0, 0)).2.2))) Try.underlying3 rfl rfl (g16 _ (KB.refl No _) 2 _ rfl)) ?_
        refine WL.lv rfl (LV.ltI rfl rfl) ?_
        refine WL.nil (thenQ.n ?_)
        refine WC.condP (p := k < (((FB (a.take 25) (b.take 25) (1 + (least % 10))).getD (i2).toNat (0, 0, 0)).2.2)) rfl (fun hk3 => ?_) (fun hk3 => ?_)
        · have hok_ := hb_.2.ok k klo hk3
          have hle_ := line_eq (a := (a.take 25)) (b := (b.take 25)) (by omega) (by omega) (by omega) (by omega) hok_.2.2.1
          have hnu_ := MK_newX hgl.1 i2lo hk2 klo hk3 k1
          have hnt_ := MK_newY hgl.1 i2lo hk2 klo hk3 k2
          refine WC.skip (thenQ.n ?_)
          refine WC.seq ?_
          refine WC.block ?_
          refine WC.seq ?_
          have hS16 := SH.drew hL3
          refine WC.regionD [] (fun w_ => KB No w11.drew w_) [(.pure, 0), (.pure, 1), (.pure, 2), (.pure, 3), (.look, 4), (.pure, 5), (.pure, 6), (.pure, 7), (.pure, 8), (.pure, 9), (.pure, 10), (.look, 11), (.pure, 12), (.pure, 13), (.pure, 14), (.pure, 15)] (by kernel_rfl) (by kernel_rfl) (KB.refl _ _) ?_
          iterate 2 refine WS.pure rfl rfl (fun _ => LV.mv rfl) ?_
          obtain ⟨A19, c19, e17, g17⟩ := St.elt (SH.rd hS16 (.tail _ (.tail _ (.tail _ (.head _))))) (0, 0, 0) i2 (by omega) (by omega)
          refine WS.pure rfl rfl (fun _ => LV.idxA Try.underlying24 ti43.sz rfl e17 rfl (by omega) (by omega)) ?_
          refine WS.pure rfl rfl (fun _ => LV.fieldA Try.underlying43 rfl ti3.sz rfl) ?_
          refine WS.look rfl rfl (fun _ hk_ => LV.load1 (v := (.int .i64 (((FB (a.take 25) (b.take 25) (1 + (least % 10))).getD (i2).toNat (0, 0, 0)).1))) Try.underlying3 rfl rfl (g17 _ hk_ 0 _ rfl)) ?_
          refine WS.pure rfl rfl (fun _ => LV.mv rfl) ?_
          refine WS.pure rfl rfl (fun _ => LV.add rfl rfl (wr64 (by omega) (by omega))) ?_
          iterate 2 refine WS.pure rfl rfl (fun _ => LV.mv rfl) ?_
          obtain ⟨A20, c20, e18, g18⟩ := St.elt (SH.rd hS16 (.tail _ (.tail _ (.tail _ (.head _))))) (0, 0, 0) i2 (by omega) (by omega)
          refine WS.pure rfl rfl (fun _ => LV.idxA Try.underlying24 ti43.sz rfl e18 rfl (by omega) (by omega)) ?_
          refine WS.pure rfl rfl (fun _ => LV.fieldA Try.underlying43 rfl ti3.sz rfl) ?_
          refine WS.look rfl rfl (fun _ hk_ => LV.load1 (v := (.int .i64 (((FB (a.take 25) (b.take 25) (1 + (least % 10))).getD (i2).toNat (0, 0, 0)).2.1))) Try.underlying3 rfl rfl (g18 _ hk_ 1 _ rfl)) ?_
          refine WS.pure rfl rfl (fun _ => LV.mv rfl) ?_
          refine WS.pure rfl rfl (fun _ => LV.add rfl rfl (wr64 (by omega) (by omega))) ?_
          iterate 2 refine WS.pure rfl rfl (fun _ => LV.asg rfl) ?_
          refine WS.nil (thenQ.n ?_)
          iterate 2 refine WC.seq ?_
          have hS17 := SH.drew hS16
          refine WC.regionD [] (fun w_ => KB No w11.drew.drew w_) [(.pure, 0), (.pure, 1), (.pure, 2), (.look, 3), (.pure, 4), (.pure, 5), (.pure, 6), (.look, 7), (.pure, 8), (.pure, 9), (.pure, 10), (.pure, 11), (.pure, 12), (.look, 13), (.pure, 14), (.pure, 15), (.pure, 16), (.pure, 17), (.pure, 18), (.look, 19), (.pure, 20)] (by kernel_rfl) (by kernel_rfl) (KB.refl _ _) ?_
          iterate 2 refine WS.pure rfl rfl (fun _ => LV.mv rfl) ?_
          obtain ⟨A21, c21, e19, g19⟩ := St.elt (SH.stN hS17 (few_rd 25 h_a)) lnD ((((FB (a.take 25) (b.take 25) (1 + (least % 10))).getD (i2).toNat (0, 0, 0)).1) + k) (by omega) (by omega)
          refine WS.pure rfl rfl (fun _ => LV.idxA Try.underlying22 ti45.sz rfl e19 rfl (by omega) (by omega)) ?_
          refine WS.look rfl rfl (fun _ hk_ => LV.loadAgg (cs := [(.string (((a.take 25).getD ((((FB (a.take 25) (b.take 25) (1 + (least % 10))).getD (i2).toNat (0, 0, 0)).1) + k).toNat lnD).1)), (.bool (((a.take 25).getD ((((FB (a.take 25) (b.take 25) (1 + (least % 10))).getD (i2).toNat (0, 0, 0)).1) + k).toNat lnD).2))]) Try.underlying45 rfl ti45 rfl rfl (fun j u hu => g19 _ hk_ j u hu)) ?_
          iterate 2 refine WS.pure rfl rfl (fun _ => LV.mv rfl) ?_
          obtain ⟨A22, c22, e20, g20⟩ := St.elt (SH.stN hS17 (few_rd 25 h_b)) lnD ((((FB (a.take 25) (b.take 25) (1 + (least % 10))).getD (i2).toNat (0, 0, 0)).2.1) + k) (by omega) (by omega)
          refine WS.pure rfl rfl (fun _ => LV.idxA Try.underlying22 ti45.sz rfl e20 rfl (by omega) (by omega)) ?_
          refine WS.look rfl rfl (fun _ hk_ => LV.loadAgg (cs := [(.string (((b.take 25).getD ((((FB (a.take 25) (b.take 25) (1 + (least % 10))).getD (i2).toNat (0, 0, 0)).2.1) + k).toNat lnD).1)), (.bool (((b.take 25).getD ((((FB (a.take 25) (b.take 25) (1 + (least % 10))).getD (i2).toNat (0, 0, 0)).2.1) + k).toNat lnD).2))]) Try.underlying45 rfl ti45 rfl rfl (fun j u hu => g20 _ hk_ j u hu)) ?_
          refine WS.pure rfl rfl (fun _ => LV.as (LV.neLn Try.underlying45 Try.underlying9 Try.underlying4 (by decide) (by kernel_rfl) (by kernel_rfl) rfl rfl) (decide_eq_false (fun h_ => h_ ⟨congrArg Prod.fst hle_, congrArg Prod.snd hle_⟩))) ?_
          iterate 3 refine WS.pure rfl rfl (fun _ => LV.mv rfl) ?_
          obtain ⟨A23, c23, e21, g21⟩ := St.elt (SH.rd hS17 (.tail _ (.head _))) false ((((FB (a.take 25) (b.take 25) (1 + (least % 10))).getD (i2).toNat (0, 0, 0)).1) + k) (by omega) (by omega)
          refine WS.pure rfl rfl (fun _ => LV.idxA Try.underlying34 ti4.sz rfl e21 rfl (by omega) (by omega)) ?_
          refine WS.look rfl rfl (fun _ hk_ => LV.as (c := false) (LV.load1 (v := (.bool (bI used3 ((((FB (a.take 25) (b.take 25) (1 + (least % 10))).getD (i2).toNat (0, 0, 0)).1) + k)))) Try.underlying4 rfl rfl (g21 _ hk_ 0 _ rfl)) (eq_false_of_ne_true hnu_)) ?_
          refine WS.pure rfl rfl (fun _ => LV.pickF rfl rfl) ?_
          iterate 3 refine WS.pure rfl rfl (fun _ => LV.mv rfl) ?_
          obtain ⟨A24, c24, e22, g22⟩ := St.elt (SH.rd hS17 (.head _)) false ((((FB (a.take 25) (b.take 25) (1 + (least % 10))).getD (i2).toNat (0, 0, 0)).2.1) + k) (by omega) (by omega)
          refine WS.pure rfl rfl (fun _ => LV.idxA Try.underlying34 ti4.sz rfl e22 rfl (by omega) (by omega)) ?_
          refine WS.look rfl rfl (fun _ hk_ => LV.as (c := false) (LV.load1 (v := (.bool (bI taken3 ((((FB (a.take 25) (b.take 25) (1 + (least % 10))).getD (i2).toNat (0, 0, 0)).2.1) + k)))) Try.underlying4 rfl rfl (g22 _ hk_ 0 _ rfl)) (eq_false_of_ne_true hnt_)) ?_
          refine WS.pure rfl rfl (fun _ => LV.pickF rfl rfl) ?_
          refine WS.nil (thenQ.n ?_)
          refine WC.condF rfl ?_
          refine WC.skip (thenQ.n ?_)
          refine WC.region ?_
          iterate 4 refine WL.lv rfl (LV.mv rfl) ?_
          obtain ⟨A25, c25, e23, g23⟩ := St.elt (SH.rd hS17 (.tail _ (.head _))) false ((((FB (a.take 25) (b.take 25) (1 + (least % 10))).getD (i2).toNat (0, 0, 0)).1) + k) (by omega) (by omega)
          refine WL.lv rfl (LV.idxA Try.underlying34 ti4.sz rfl e23 rfl (by omega) (by omega)) ?_
          have hS19 : SH w No w11.drew.drew [rowE eB 4 (.slice (some ⟨b1, 0, none⟩) ((a.take 25).length) ((a.take 25).length)) used3, rowE eB 4 (.slice (some ⟨b2, 0, none⟩) ((b.take 25).length) ((b.take 25).length)) taken3, rowE eP 41 (.slice A2 ((STY (a.take 25) (b.take 25)).length) c2) (STY (a.take 25) (b.take 25)), rowE eB3 43 (.slice A1 ((FB (a.take 25) (b.take 25) (1 + (least % 10))).length) c1) (FB (a.take 25) (b.take 25) (1 + (least % 10)))] := (SH.front [rowE eB 4 (.slice (some ⟨b2, 0, none⟩) ((b.take 25).length) ((b.take 25).length)) taken3] hS17)
          refine WL.xse rfl (XSE.row1 (i := (((FB (a.take 25) (b.take 25) (1 + (least % 10))).getD (i2).toNat (0, 0, 0)).1) + k) (o := 0) (k := false) true hS19 e23 (by omega) (by omega) (by decide) ti4.sz rfl rfl rfl rfl) ?_
          rintro w12 ⟨hS18, hk7⟩
          obtain ⟨A26, c26, e24, g24⟩ := St.elt (SH.rd hS18 (.tail _ (.head _))) false ((((FB (a.take 25) (b.take 25) (1 + (least % 10))).getD (i2).toNat (0, 0, 0)).2.1) + k) (by omega) (by omega)
          refine WL.lv rfl (LV.idxA Try.underlying34 ti4.sz rfl e24 rfl (by omega) (by omega)) ?_
          have hS21 : SH w No w12 [rowE eB 4 (.slice (some ⟨b2, 0, none⟩) ((b.take 25).length) ((b.take 25).length)) taken3, rowE eB 4 (.slice (some ⟨b1, 0, none⟩) ((a.take 25).length) ((a.take 25).length)) (used3.set ((((FB (a.take 25) (b.take 25) (1 + (least % 10))).getD (i2).toNat (0, 0, 0)).1) + k).toNat true), rowE eP 41 (.slice A2 ((STY (a.take 25) (b.take 25)).length) c2) (STY (a.take 25) (b.take 25)), rowE eB3 43 (.slice A1 ((FB (a.take 25) (b.take 25) (1 + (least % 10))).length) c1) (FB (a.take 25) (b.take 25) (1 + (least % 10)))] := (SH.front [rowE eB 4 (.slice (some ⟨b1, 0, none⟩) ((a.take 25).length) ((a.take 25).length)) (used3.set ((((FB (a.take 25) (b.take 25) (1 + (least % 10))).getD (i2).toNat (0, 0, 0)).1) + k).toNat true)] hS18)
          refine WL.xse rfl (XSE.row1 (i := (((FB (a.take 25) (b.take 25) (1 + (least % 10))).getD (i2).toNat (0, 0, 0)).2.1) + k) (o := 0) (k := false) true hS21 e24 (by omega) (by omega) (by decide) ti4.sz rfl rfl rfl rfl) ?_
          rintro w13 ⟨hS20, hk8⟩
          refine WL.nil (blockQ.n <| thenQ.n ?_)
          refine WC.region ?_
          refine WL.lv rfl (LV.mv rfl) ?_
          refine WL.lv rfl (LV.add rfl rfl (wr64 (by omega) (by omega))) ?_
          refine WL.lv rfl (LV.asg rfl) ?_
          refine WL.nil (thenQ.n ?_)
          exact ⟨_, by omega, (used3.set ((((FB (a.take 25) (b.take 25) (1 + (least % 10))).getD (i2).toNat (0, 0, 0)).1) + k).toNat true), (taken3.set ((((FB (a.take 25) (b.take 25) (1 + (least % 10))).getD (i2).toNat (0, 0, 0)).2.1) + k).toNat true), k + 1, by omega, by omega, (MK_set k1 (by omega) klo (by omega)), (MK_set k2 (by omega) klo (by omega)), (by rw [List.length_set]; exact k3), (by rw [List.length_set]; exact k4), hS20, rfl, Weak.cons rfl <| Weak.cons rfl <| Weak.cons rfl <| Weak.cons rfl <| Weak.cons rfl <| Weak.cons rfl <| Weak.cons rfl <| Weak.cons rfl <| Weak.nil _⟩
        · skip
          refine WC.exit (thenQ.x <| thenQ.x <| blockQ.hit <| blockQ.n <| thenQ.n ?_)
          refine WC.region ?_
          refine WL.lv rfl (LV.mv rfl) ?_
          refine WL.lv rfl (LV.add rfl rfl (wr64 (by omega) (by omega))) ?_
          refine WL.lv rfl (LV.asg rfl) ?_
          refine WL.nil (thenQ.n ?_)
          exact ⟨_, by omega, used3, taken3, i2 + 1, by omega, by omega, (by rw [bX_snoc i2lo hk2]; rw [show k = ((FB (a.take 25) (b.take 25) (1 + (least) % 10)).getD i2.toNat (0, 0, 0)).2.2 by omega] at k1; exact k1), (by rw [bY_snoc i2lo hk2]; rw [show k = ((FB (a.take 25) (b.take 25) (1 + (least) % 10)).getD i2.toNat (0, 0, 0)).2.2 by omega] at k2; exact k2), k3, k4, hL3, rfl, Weak.cons rfl <| Weak.cons rfl <| Weak.cons rfl <| Weak.cons rfl <| Weak.cons rfl <| Weak.cons rfl <| Weak.cons rfl <| Weak.nil _⟩
      · skip
        refine WC.exit (thenQ.x <| thenQ.x <| blockQ.hit <| thenQ.n ?_)
        refine WC.seq ?_
        refine WC.region ?_
        iterate 2 refine WL.lv rfl (LV.mv rfl) ?_
        rw [take_all (by omega)] at m1 m2
        refine WL.xe rfl (XE.buildSlice (E := eV) [(0, (.slice (cutA A_a c_a 2) ((a.take 25).length) c_a)), (1, (.slice (cutA A_b c_b 2) ((b.take 25).length) c_b))] #[(.slice (cutA A_a c_a 2) ((a.take 25).length) c_a), (.slice (cutA A_b c_b 2) ((b.take 25).length) c_b)] [(⟨(cutA A_a c_a 2), (a.take 25).length, c_a⟩ : SV), (⟨(cutA A_b c_b 2), (b.take 25).length, c_b⟩ : SV)] hL2 Try.underlying48 ti22 rfl (by decide) (by kernel_rfl) (.inr rfl) rfl rfl (by decide)) ?_
        rintro _ w14 ⟨b3, rfl, hS22, hk9⟩
        refine WL.call rfl (XC.fn Try.func19 (by kernel_rfl) rfl rfl rfl) (rnumbers_calls  (St.rrOf (rows := [((⟨(cutA A_a c_a 2), (a.take 25).length, c_a⟩ : SV), (a.take 25)), ((⟨(cutA A_b c_b 2), (b.take 25).length, c_b⟩ : SV), (b.take 25))]) (SH.rd hS22 (.head _)) (St.inCons (r := (⟨(cutA A_a c_a 2), (a.take 25).length, c_a⟩ : SV)) rfl (SH.stN hS22 (few_rd 25 h_a)) (St.inCons (r := (⟨(cutA A_b c_b 2), (b.take 25).length, c_b⟩ : SV)) rfl (SH.stN hS22 (few_rd 25 h_b)) St.in0))) rfl (by simp) (by intro p hp; simp at hp; rcases hp with rfl | rfl <;> simp only [] <;> omega)) ?_
        rintro v_ w15 ⟨A27, c27, rows1, rfl, hq1, hS23⟩
        have hS24 := SH.joinN hS22 hS23
        have hmt := map_two (x := NA (a.take 25)) (y := NB (a.take 25) (b.take 25)) hq1
        have hra : (rows1.getD (0 : Int).toNat default).2 = NA (a.take 25) := hmt.2.1
        have hrb : (rows1.getD (1 : Int).toNat default).2 = NB (a.take 25) (b.take 25) := hmt.2.2
        have hla := NA_len (a.take 25)
        have hlb := NB_len (a.take 25) (b.take 25)
        have hl1 := hmt.1
        have hlra : (rows1.getD (0 : Int).toNat default).2.length = (a.take 25).length := by rw [hra]; exact hla
        have hlrb : (rows1.getD (1 : Int).toNat default).2.length = (b.take 25).length := by rw [hrb]; exact hlb
        refine WL.lv rfl (LV.asg rfl) ?_
        refine WL.nil (thenQ.n ?_)
        iterate 2 refine WC.seq ?_
        refine WC.region ?_
        refine WL.lv rfl (LV.asg rfl) ?_
        refine WL.nil (thenQ.n ?_)
        refine WC.block ?_
        refine WC.loop (fun m_ f_ w_ => ∃ (i3 : Int), (0 ≤ i3) ∧ (i3 ≤ ((a.take 25).length : Int)) ∧ SH w No w_ [rrE eI 33 3 (.slice A27 rows1.length c27) rows1, rowE eV 22 (.slice (some ⟨b3, 0, none⟩) 2 2) [(⟨(cutA A_a c_a 2), (a.take 25).length, c_a⟩ : SV), (⟨(cutA A_b c_b 2), (b.take 25).length, c_b⟩ : SV)], rowE eB 4 (.slice (some ⟨b2, 0, none⟩) ((b.take 25).length) ((b.take 25).length)) taken2, rowE eB 4 (.slice (some ⟨b1, 0, none⟩) ((a.take 25).length) ((a.take 25).length)) used2, rowE eP 41 (.slice A2 ((STY (a.take 25) (b.take 25)).length) c2) (STY (a.take 25) (b.take 25)), rowE eB3 43 (.slice A1 ((FB (a.take 25) (b.take 25) (1 + (least % 10))).length) c1) (FB (a.take 25) (b.take 25) (1 + (least % 10)))] ∧ m_ = ((((a.take 25).length : Int) - i3).toNat) ∧ Weak (lit [(0, (.slice (cutA A_a c_a 2) ((a.take 25).length) c_a)), (1, (.slice (cutA A_b c_b 2) ((b.take 25).length) c_b)), (7, (.int .i64 (1 + (least % 10)))), (12, (.slice (some ⟨b1, 0, none⟩) ((a.take 25).length) ((a.take 25).length))), (13, (.slice (some ⟨b2, 0, none⟩) ((b.take 25).length) ((b.take 25).length))), (19, (.slice A27 rows1.length c27)), (20, (.int .i64 i3))]) f_) _ ⟨0, by omega, by omega, hS24, rfl, Weak.cons rfl <| Weak.cons rfl <| Weak.cons rfl <| Weak.cons rfl <| Weak.cons rfl <| Weak.cons rfl <| Weak.cons rfl <| Weak.nil _⟩ ?_
        rintro m8 f4 w16 ⟨i3, i3lo, i3hi, hL4, rfl, hw4⟩
        refine WC.weak hw4 ?_
        clear hw4
        iterate 2 refine WC.seq ?_
        refine WC.region ?_
        iterate 2 refine WL.lv rfl (LV.mv rfl) ?_
        refine WL.lv rfl (LV.lenL Try.underlying22 rfl) ?_
        refine WL.lv rfl (LV.ltI rfl rfl) ?_
        refine WL.nil (thenQ.n ?_)
        refine WC.condP (p := i3 < ((a.take 25).length : Int)) rfl (fun hc1 => ?_) (fun hc1 => ?_)
        · skip
          refine WC.skip (thenQ.n ?_)
          refine WC.seq ?_
          refine WC.block ?_
          refine WC.seq ?_
          refine WC.region ?_
          refine WL.lv rfl (LV.asg rfl) ?_
          refine WL.nil (thenQ.n ?_)
          refine WC.block ?_
          refine WC.loop (fun m_ f_ w_ => ∃ (j : Int), (0 ≤ j) ∧ (j ≤ ((b.take 25).length : Int)) ∧ SH w No w_ [rrE eI 33 3 (.slice A27 rows1.length c27) rows1, rowE eV 22 (.slice (some ⟨b3, 0, none⟩) 2 2) [(⟨(cutA A_a c_a 2), (a.take 25).length, c_a⟩ : SV), (⟨(cutA A_b c_b 2), (b.take 25).length, c_b⟩ : SV)], rowE eB 4 (.slice (some ⟨b2, 0, none⟩) ((b.take 25).length) ((b.take 25).length)) taken2, rowE eB 4 (.slice (some ⟨b1, 0, none⟩) ((a.take 25).length) ((a.take 25).length)) used2, rowE eP 41 (.slice A2 ((STY (a.take 25) (b.take 25)).length) c2) (STY (a.take 25) (b.take 25)), rowE eB3 43 (.slice A1 ((FB (a.take 25) (b.take 25) (1 + (least % 10))).length) c1) (FB (a.take 25) (b.take 25) (1 + (least % 10)))] ∧ m_ = ((((b.take 25).length : Int) - j).toNat) ∧ Weak (lit [(0, (.slice (cutA A_a c_a 2) ((a.take 25).length) c_a)), (1, (.slice (cutA A_b c_b 2) ((b.take 25).length) c_b)), (7, (.int .i64 (1 + (least % 10)))), (12, (.slice (some ⟨b1, 0, none⟩) ((a.take 25).length) ((a.take 25).length))), (13, (.slice (some ⟨b2, 0, none⟩) ((b.take 25).length) ((b.take 25).length))), (19, (.slice A27 rows1.length c27)), (20, (.int .i64 i3)), (21, (.int .i64 j))]) f_) _ ⟨0, by omega, by omega, hL4, rfl, Weak.cons rfl <| Weak.cons rfl <| Weak.cons rfl <| Weak.cons rfl <| Weak.cons rfl <| Weak.cons rfl <| Weak.cons rfl <| Weak.cons rfl <| Weak.nil _⟩ ?_
          rintro m9 f5 w17 ⟨j, jlo, jhi, hL5, rfl, hw5⟩
          refine WC.weak hw5 ?_
          clear hw5
          iterate 2 refine WC.seq ?_
          refine WC.region ?_
          iterate 2 refine WL.lv rfl (LV.mv rfl) ?_
          refine WL.lv rfl (LV.lenL Try.underlying22 rfl) ?_
          refine WL.lv rfl (LV.ltI rfl rfl) ?_
          refine WL.nil (thenQ.n ?_)
          refine WC.condP (p := j < ((b.take 25).length : Int)) rfl (fun hc2 => ?_) (fun hc2 => ?_)
          · skip
            refine WC.skip (thenQ.n ?_)
            refine WC.seq ?_
            refine WC.block ?_
            refine WC.seq ?_
            have hS25 := SH.drew hL5
            refine WC.regionD [] (fun w_ => KB No w17.drew w_) [(.pure, 0), (.pure, 1), (.look, 2), (.pure, 3), (.pure, 4), (.look, 5), (.pure, 6), (.pure, 7), (.pure, 8), (.pure, 9), (.pure, 11), (.forced, 10), (.pure, 12)] (by kernel_rfl) (by kernel_rfl) (KB.refl _ _) ?_
            refine WS.pure rfl rfl (fun _ => LV.mv rfl) ?_
            obtain ⟨A28, c28, A29, c29, e25, g25, e26, r1⟩ := St.eltRR (SH.rdRR hS25 (.head _)) default (0 : Int) (by omega) (by omega)
            refine WS.pure rfl rfl (fun _ => LV.idxA Try.underlying46 ti33.sz rfl e25 rfl (by omega) (by omega)) ?_
            refine WS.look rfl rfl (fun _ hk_ => LV.load1 Try.underlying33 rfl rfl (g25 _ hk_)) ?_
            refine WS.pure rfl rfl (fun _ => LV.mv rfl) ?_
            obtain ⟨A30, c30, A31, c31, e27, g26, e28, r2⟩ := St.eltRR (SH.rdRR hS25 (.head _)) default (1 : Int) (by omega) (by omega)
            refine WS.pure rfl rfl (fun _ => LV.idxA Try.underlying46 ti33.sz rfl e27 rfl (by omega) (by omega)) ?_
            refine WS.look rfl rfl (fun _ hk_ => LV.load1 Try.underlying33 rfl rfl (g26 _ hk_)) ?_
            iterate 5 refine WS.pure rfl rfl (fun _ => LV.mv rfl) ?_
            refine WS.call rfl rfl (XC.fn Try.func17 (by kernel_rfl) rfl rfl rfl) (rgrow_calls (i := i3) (j := j) (St.inner (SH.rdRR hS25 (.head _)) (getD_mem (by omega)) e26) rfl (St.inner (SH.rdRR hS25 (.head _)) (getD_mem (by omega)) e28) rfl (SH.rd hS25 (.tail _ (.tail _ (.tail _ (.head _))))) (by first | exact List.length_replicate | omega) (SH.rd hS25 (.tail _ (.tail _ (.head _)))) (by first | exact List.length_replicate | omega) ) ?_
            rintro v_ w18 ⟨rfl, hk10⟩
            have hS26 := SH.same hS25 hk10
            refine ⟨fun h_ => (KB.transN (KB.refl _ _) hk10), ?_⟩
            refine WS.pure rfl rfl (fun _ => LV.as (LV.geI rfl rfl) (decide_eq_false (by rw [hra, hrb]; exact MK_fin hgl.1 m1 m2 i3lo (by omega) jlo (by omega)))) ?_
            refine WS.nil (thenQ.n ?_)
            refine WC.condF rfl ?_
            refine WC.skip (blockQ.n <| thenQ.n ?_)
            refine WC.region ?_
            refine WL.lv rfl (LV.mv rfl) ?_
            refine WL.lv rfl (LV.add rfl rfl (wr64 (by omega) (by omega))) ?_
            refine WL.lv rfl (LV.asg rfl) ?_
            refine WL.nil (thenQ.n ?_)
            exact ⟨_, by omega, j + 1, by omega, by omega, hS26, rfl, Weak.cons rfl <| Weak.cons rfl <| Weak.cons rfl <| Weak.cons rfl <| Weak.cons rfl <| Weak.cons rfl <| Weak.cons rfl <| Weak.cons rfl <| Weak.nil _⟩
          · skip
            refine WC.exit (thenQ.x <| thenQ.x <| blockQ.hit <| blockQ.n <| thenQ.n ?_)
            refine WC.region ?_
            refine WL.lv rfl (LV.mv rfl) ?_
            refine WL.lv rfl (LV.add rfl rfl (wr64 (by omega) (by omega))) ?_
            refine WL.lv rfl (LV.asg rfl) ?_
            refine WL.nil (thenQ.n ?_)
            exact ⟨_, by omega, i3 + 1, by omega, by omega, hL5, rfl, Weak.cons rfl <| Weak.cons rfl <| Weak.cons rfl <| Weak.cons rfl <| Weak.cons rfl <| Weak.cons rfl <| Weak.cons rfl <| Weak.nil _⟩
        · skip
          refine WC.exit (thenQ.x <| thenQ.x <| blockQ.hit <| thenQ.n ?_)
          refine WC.seq ?_
          refine WC.region ?_
          refine WL.call rfl (XC.fn Try.func12 (by kernel_rfl) rfl rfl rfl) (live37_calls  ) ?_
          rintro v_ w19 ⟨rfl, hk11⟩
          have hS27 := SH.same hL4 hk11
          refine WL.lv rfl (LV.asg rfl) ?_
          refine WL.nil (thenQ.n ?_)
          refine WC.ret (?_)
          exact ⟨_, fun a ha => res1 rfl ha rfl, rfl, hS27.kb⟩
  · refine WO.xe rfl rfl (XE.make (E := eB) (n := (b.take 25).length) false hS7 Try.underlying34 ti4 rfl rfl rfl rfl rfl rfl (by omega) (by omega)) ?_
    rintro _ w20 ⟨b4, rfl, hS28, hk12⟩
    refine ⟨fun h_ => (KB.transN (KB.refl _ _) hk12), ?_⟩
    refine WSX.of [(.forced, 2), (.pure, 6), (.pure, 7)] (by kernel_rfl) rfl ?_
    refine WS.xe rfl rfl (XE.make (E := eB) (n := (a.take 25).length) false hS28 Try.underlying34 ti4 rfl rfl rfl rfl rfl rfl (by omega) (by omega)) ?_
    rintro _ w21 ⟨b5, rfl, hS29, hk13⟩
    refine ⟨fun h_ => (KB.transN (KB.transN (KB.refl _ _) hk12) hk13), ?_⟩
    iterate 2 refine WS.pure rfl rfl (fun _ => LV.asg rfl) ?_
    refine WS.nil (thenQ.n ?_)
    iterate 2 refine WC.seq ?_
    refine WC.region ?_
    refine WL.lv rfl (LV.asg rfl) ?_
    refine WL.nil (thenQ.n ?_)
    refine WC.block ?_
    refine WC.loop (fun m_ f_ w_ => ∃ (used : List Bool) (taken : List Bool) (i : Int), (0 ≤ i) ∧ (i ≤ ((STY (a.take 25) (b.take 25)).length : Int)) ∧ (used = usd (a.take 25).length ((STY (a.take 25) (b.take 25)).take i.toNat)) ∧ (taken = tkn (b.take 25).length ((STY (a.take 25) (b.take 25)).take i.toNat)) ∧ (used.length = (a.take 25).length) ∧ (taken.length = (b.take 25).length) ∧ SH w No w_ [rowE eB 4 (.slice (some ⟨b5, 0, none⟩) ((a.take 25).length) ((a.take 25).length)) used, rowE eB 4 (.slice (some ⟨b4, 0, none⟩) ((b.take 25).length) ((b.take 25).length)) taken, rowE eP 41 (.slice A2 ((STY (a.take 25) (b.take 25)).length) c2) (STY (a.take 25) (b.take 25)), rowE eB3 43 (.slice A1 ((FB (a.take 25) (b.take 25) (1 + (least % 10))).length) c1) (FB (a.take 25) (b.take 25) (1 + (least % 10)))] ∧ m_ = ((((STY (a.take 25) (b.take 25)).length : Int) - i).toNat) ∧ Weak (lit [(0, (.slice (cutA A_a c_a 2) ((a.take 25).length) c_a)), (1, (.slice (cutA A_b c_b 2) ((b.take 25).length) c_b)), (7, (.int .i64 (1 + (least % 10)))), (8, (.slice A1 ((FB (a.take 25) (b.take 25) (1 + (least % 10))).length) c1)), (10, (.slice A2 ((STY (a.take 25) (b.take 25)).length) c2)), (12, (.slice (some ⟨b5, 0, none⟩) ((a.take 25).length) ((a.take 25).length))), (13, (.slice (some ⟨b4, 0, none⟩) ((b.take 25).length) ((b.take 25).length))), (14, (.int .i64 i))]) f_) _ ⟨(List.replicate ((a.take 25).length) false), (List.replicate ((b.take 25).length) false), 0, by omega, by omega, rfl, rfl, List.length_replicate, List.length_replicate, hS29, rfl, Weak.cons rfl <| Weak.cons rfl <| Weak.cons rfl <| Weak.cons rfl <| Weak.cons rfl <| Weak.cons rfl <| Weak.cons rfl <| Weak.cons rfl <| Weak.nil _⟩ ?_
    rintro m10 f6 w22 ⟨used, taken, i, ilo, ihi, u1, u2, u3, u4, hL6, rfl, hw6⟩
    refine WC.weak hw6 ?_
    clear hw6
    iterate 2 refine WC.seq ?_
    refine WC.region ?_
    iterate 2 refine WL.lv rfl (LV.mv rfl) ?_
    refine WL.lv rfl (LV.lenL Try.underlying35 rfl) ?_
    refine WL.lv rfl (LV.ltI rfl rfl) ?_
    refine WL.nil (thenQ.n ?_)
    refine WC.condP (p := i < ((STY (a.take 25) (b.take 25)).length : Int)) rfl (fun hk => ?_) (fun hk => ?_)
    · have hp_ := STY_ok (a := (a.take 25)) (b := (b.take 25)) (by omega) (by omega) ilo hk
      refine WC.skip (thenQ.n ?_)
      refine WC.seq ?_
      refine WC.block ?_
      iterate 2 refine WC.seq ?_
      refine WC.region ?_
      iterate 2 refine WL.lv rfl (LV.mv rfl) ?_
      obtain ⟨A32, c32, e29, g27⟩ := St.elt (SH.rd hL6 (.tail _ (.tail _ (.head _)))) (0, 0) i (by omega) (by omega)
      refine WL.lv rfl (LV.idxA Try.underlying35 ti41.sz rfl e29 rfl (by omega) (by omega)) ?_
      refine WL.lv rfl (LV.idxArr Try.underlying41 ti3.sz rfl rfl (by decide) (by decide)) ?_
      refine WL.lv rfl (LV.load1 (v := (.int .i64 (((STY (a.take 25) (b.take 25)).getD (i).toNat (0, 0)).1))) Try.underlying3 rfl rfl (g27 _ (KB.refl No _) 0 _ rfl)) ?_
      refine WL.lv rfl (LV.as (LV.ltI rfl rfl) (decide_eq_false (by omega))) ?_
      iterate 3 refine WL.lv rfl (LV.mv rfl) ?_
      obtain ⟨A33, c33, e30, g28⟩ := St.elt (SH.rd hL6 (.tail _ (.tail _ (.head _)))) (0, 0) i (by omega) (by omega)
      refine WL.lv rfl (LV.idxA Try.underlying35 ti41.sz rfl e30 rfl (by omega) (by omega)) ?_
      refine WL.lv rfl (LV.idxArr Try.underlying41 ti3.sz rfl rfl (by decide) (by decide)) ?_
      refine WL.lv rfl (LV.load1 (v := (.int .i64 (((STY (a.take 25) (b.take 25)).getD (i).toNat (0, 0)).1))) Try.underlying3 rfl rfl (g28 _ (KB.refl No _) 0 _ rfl)) ?_
      refine WL.lv rfl (LV.mv rfl) ?_
      refine WL.lv rfl (LV.lenL Try.underlying22 rfl) ?_
      refine WL.lv rfl (LV.as (LV.geI rfl rfl) (decide_eq_false (by omega))) ?_
      refine WL.lv rfl (LV.pickF rfl rfl) ?_
      iterate 3 refine WL.lv rfl (LV.mv rfl) ?_
      obtain ⟨A34, c34, e31, g29⟩ := St.elt (SH.rd hL6 (.tail _ (.tail _ (.head _)))) (0, 0) i (by omega) (by omega)
      refine WL.lv rfl (LV.idxA Try.underlying35 ti41.sz rfl e31 rfl (by omega) (by omega)) ?_
      refine WL.lv rfl (LV.idxArr Try.underlying41 ti3.sz rfl rfl (by decide) (by decide)) ?_
      refine WL.lv rfl (LV.load1 (v := (.int .i64 (((STY (a.take 25) (b.take 25)).getD (i).toNat (0, 0)).2))) Try.underlying3 rfl rfl (g29 _ (KB.refl No _) 1 _ rfl)) ?_
      refine WL.lv rfl (LV.as (LV.ltI rfl rfl) (decide_eq_false (by omega))) ?_
      refine WL.lv rfl (LV.pickF rfl rfl) ?_
      iterate 3 refine WL.lv rfl (LV.mv rfl) ?_
      obtain ⟨A35, c35, e32, g30⟩ := St.elt (SH.rd hL6 (.tail _ (.tail _ (.head _)))) (0, 0) i (by omega) (by omega)
      refine WL.lv rfl (LV.idxA Try.underlying35 ti41.sz rfl e32 rfl (by omega) (by omega)) ?_
      refine WL.lv rfl (LV.idxArr Try.underlying41 ti3.sz rfl rfl (by decide) (by decide)) ?_
      refine WL.lv rfl (LV.load1 (v := (.int .i64 (((STY (a.take 25) (b.take 25)).getD (i).toNat (0, 0)).2))) Try.underlying3 rfl rfl (g30 _ (KB.refl No _) 1 _ rfl)) ?_
      refine WL.lv rfl (LV.mv rfl) ?_
      refine WL.lv rfl (LV.lenL Try.underlying22 rfl) ?_
      refine WL.lv rfl (LV.as (LV.geI rfl rfl) (decide_eq_false (by omega))) ?_
      refine WL.lv rfl (LV.pickF rfl rfl) ?_
      refine WL.nil (thenQ.n ?_)
      refine WC.condF rfl ?_
      refine WC.skip (thenQ.n ?_)
      have hS30 := SH.drew hL6
      refine WC.regionD [13, 15] (fun w_ => KB No w22.drew w_) [(.pure, 0), (.pure, 1), (.pure, 2), (.pure, 3), (.pure, 4), (.look, 5), (.pure, 6), (.pure, 7), (.pure, 8), (.pure, 9), (.pure, 10), (.look, 11), (.pure, 12), (.forced, 13), (.pure, 14), (.forced, 15)] (by kernel_rfl) (by kernel_rfl) (KB.refl _ _) ?_
      iterate 3 refine WS.pure rfl rfl (fun _ => LV.mv rfl) ?_
      obtain ⟨A36, c36, e33, g31⟩ := St.elt (SH.rd hS30 (.tail _ (.tail _ (.head _)))) (0, 0) i (by omega) (by omega)
      refine WS.pure rfl rfl (fun _ => LV.idxA Try.underlying35 ti41.sz rfl e33 rfl (by omega) (by omega)) ?_
      refine WS.pure rfl rfl (fun _ => LV.idxArr Try.underlying41 ti3.sz rfl rfl (by decide) (by decide)) ?_
      refine WS.look rfl rfl (fun _ hk_ => LV.load1 (v := (.int .i64 (((STY (a.take 25) (b.take 25)).getD (i).toNat (0, 0)).1))) Try.underlying3 rfl rfl (g31 _ hk_ 0 _ rfl)) ?_
      iterate 3 refine WS.pure rfl rfl (fun _ => LV.mv rfl) ?_
      obtain ⟨A37, c37, e34, g32⟩ := St.elt (SH.rd hS30 (.tail _ (.tail _ (.head _)))) (0, 0) i (by omega) (by omega)
      refine WS.pure rfl rfl (fun _ => LV.idxA Try.underlying35 ti41.sz rfl e34 rfl (by omega) (by omega)) ?_
      refine WS.pure rfl rfl (fun _ => LV.idxArr Try.underlying41 ti3.sz rfl rfl (by decide) (by decide)) ?_
      refine WS.look rfl rfl (fun _ hk_ => LV.load1 (v := (.int .i64 (((STY (a.take 25) (b.take 25)).getD (i).toNat (0, 0)).2))) Try.underlying3 rfl rfl (g32 _ hk_ 1 _ rfl)) ?_
      obtain ⟨A38, c38, e35, g33⟩ := St.elt (SH.rd hS30 (.head _)) false (((STY (a.take 25) (b.take 25)).getD (i).toNat (0, 0)).1) (by omega) (by omega)
      refine WS.pure rfl rfl (fun _ => LV.idxA Try.underlying34 ti4.sz rfl e35 rfl (by omega) (by omega)) ?_
      refine WS.xse rfl rfl (XSE.row1 (i := ((STY (a.take 25) (b.take 25)).getD (i).toNat (0, 0)).1) (o := 0) (k := false) true hS30 e35 (by omega) (by omega) (by decide) ti4.sz rfl rfl rfl rfl) ?_
      rintro w23 ⟨hS31, hk14⟩
      refine ⟨fun h_ => (by cases h_), ?_⟩
      obtain ⟨A39, c39, e36, g34⟩ := St.elt (SH.rd hS30 (.tail _ (.head _))) false (((STY (a.take 25) (b.take 25)).getD (i).toNat (0, 0)).2) (by omega) (by omega)
      refine WS.pure rfl rfl (fun _ => LV.idxA Try.underlying34 ti4.sz rfl e36 rfl (by omega) (by omega)) ?_
      have hS33 : SH w No w23 [rowE eB 4 (.slice (some ⟨b4, 0, none⟩) ((b.take 25).length) ((b.take 25).length)) taken, rowE eB 4 (.slice (some ⟨b5, 0, none⟩) ((a.take 25).length) ((a.take 25).length)) (used.set (((STY (a.take 25) (b.take 25)).getD (i).toNat (0, 0)).1).toNat true), rowE eP 41 (.slice A2 ((STY (a.take 25) (b.take 25)).length) c2) (STY (a.take 25) (b.take 25)), rowE eB3 43 (.slice A1 ((FB (a.take 25) (b.take 25) (1 + (least % 10))).length) c1) (FB (a.take 25) (b.take 25) (1 + (least % 10)))] := (SH.front [rowE eB 4 (.slice (some ⟨b5, 0, none⟩) ((a.take 25).length) ((a.take 25).length)) (used.set (((STY (a.take 25) (b.take 25)).getD (i).toNat (0, 0)).1).toNat true)] hS31)
      refine WS.xse rfl rfl (XSE.row1 (i := ((STY (a.take 25) (b.take 25)).getD (i).toNat (0, 0)).2) (o := 0) (k := false) true hS33 e36 (by omega) (by omega) (by decide) ti4.sz rfl rfl rfl rfl) ?_
      rintro w24 ⟨hS32, hk15⟩
      refine ⟨fun h_ => (by cases h_), ?_⟩
      refine WS.nil (blockQ.n <| thenQ.n ?_)
      refine WC.region ?_
      refine WL.lv rfl (LV.mv rfl) ?_
      refine WL.lv rfl (LV.add rfl rfl (wr64 (by omega) (by omega))) ?_
      refine WL.lv rfl (LV.asg rfl) ?_
      refine WL.nil (thenQ.n ?_)
      have hS34 : SH w No w24 [rowE eB 4 (.slice (some ⟨b5, 0, none⟩) ((a.take 25).length) ((a.take 25).length)) (used.set (((STY (a.take 25) (b.take 25)).getD (i).toNat (0, 0)).1).toNat true), rowE eB 4 (.slice (some ⟨b4, 0, none⟩) ((b.take 25).length) ((b.take 25).length)) (taken.set (((STY (a.take 25) (b.take 25)).getD (i).toNat (0, 0)).2).toNat true), rowE eP 41 (.slice A2 ((STY (a.take 25) (b.take 25)).length) c2) (STY (a.take 25) (b.take 25)), rowE eB3 43 (.slice A1 ((FB (a.take 25) (b.take 25) (1 + (least % 10))).length) c1) (FB (a.take 25) (b.take 25) (1 + (least % 10)))] := (SH.front [rowE eB 4 (.slice (some ⟨b4, 0, none⟩) ((b.take 25).length) ((b.take 25).length)) (taken.set (((STY (a.take 25) (b.take 25)).getD (i).toNat (0, 0)).2).toNat true), rowE eP 41 (.slice A2 ((STY (a.take 25) (b.take 25)).length) c2) (STY (a.take 25) (b.take 25)), rowE eB3 43 (.slice A1 ((FB (a.take 25) (b.take 25) (1 + (least % 10))).length) c1) (FB (a.take 25) (b.take 25) (1 + (least % 10)))] (SH.front [rowE eP 41 (.slice A2 ((STY (a.take 25) (b.take 25)).length) c2) (STY (a.take 25) (b.take 25)), rowE eB3 43 (.slice A1 ((FB (a.take 25) (b.take 25) (1 + (least % 10))).length) c1) (FB (a.take 25) (b.take 25) (1 + (least % 10)))] (SH.front [rowE eB3 43 (.slice A1 ((FB (a.take 25) (b.take 25) (1 + (least % 10))).length) c1) (FB (a.take 25) (b.take 25) (1 + (least % 10))), rowE eB 4 (.slice (some ⟨b4, 0, none⟩) ((b.take 25).length) ((b.take 25).length)) (taken.set (((STY (a.take 25) (b.take 25)).getD (i).toNat (0, 0)).2).toNat true), rowE eB 4 (.slice (some ⟨b5, 0, none⟩) ((a.take 25).length) ((a.take 25).length)) (used.set (((STY (a.take 25) (b.take 25)).getD (i).toNat (0, 0)).1).toNat true)] (SH.front [rowE eB 4 (.slice (some ⟨b4, 0, none⟩) ((b.take 25).length) ((b.take 25).length)) (taken.set (((STY (a.take 25) (b.take 25)).getD (i).toNat (0, 0)).2).toNat true), rowE eB 4 (.slice (some ⟨b5, 0, none⟩) ((a.take 25).length) ((a.take 25).length)) (used.set (((STY (a.take 25) (b.take 25)).getD (i).toNat (0, 0)).1).toNat true), rowE eP 41 (.slice A2 ((STY (a.take 25) (b.take 25)).length) c2) (STY (a.take 25) (b.take 25))] hS32))))
      exact ⟨_, by omega, (used.set (((STY (a.take 25) (b.take 25)).getD (i).toNat (0, 0)).1).toNat true), (taken.set (((STY (a.take 25) (b.take 25)).getD (i).toNat (0, 0)).2).toNat true), i + 1, by omega, by omega, ((set_mrk hp_.1 (by omega)).trans (usd_snoc ilo hk u1)), ((set_mrk hp_.2.2.1 (by omega)).trans (tkn_snoc ilo hk u2)), (by rw [List.length_set]; exact u3), (by rw [List.length_set]; exact u4), hS34, rfl, Weak.cons rfl <| Weak.cons rfl <| Weak.cons rfl <| Weak.cons rfl <| Weak.cons rfl <| Weak.cons rfl <| Weak.cons rfl <| Weak.cons rfl <| Weak.nil _⟩
    · skip
      refine WC.exit (thenQ.x <| thenQ.x <| blockQ.hit <| thenQ.n ?_)
      iterate 2 refine WC.seq ?_
      refine WC.region ?_
      refine WL.lv rfl (LV.asg rfl) ?_
      refine WL.nil (thenQ.n ?_)
      refine WC.block ?_
      refine WC.loop (fun m_ f_ w_ => ∃ (used2 : List Bool) (taken2 : List Bool) (i2 : Int), (0 ≤ i2) ∧ (i2 ≤ ((FB (a.take 25) (b.take 25) (1 + (least % 10))).length : Int)) ∧ (MK used2 (usd (a.take 25).length (STY (a.take 25) (b.take 25))) (bX ((FB (a.take 25) (b.take 25) (1 + (least) % 10)).take i2.toNat))) ∧ (MK taken2 (tkn (b.take 25).length (STY (a.take 25) (b.take 25))) (bY ((FB (a.take 25) (b.take 25) (1 + (least) % 10)).take i2.toNat))) ∧ (used2.length = (a.take 25).length) ∧ (taken2.length = (b.take 25).length) ∧ SH w No w_ [rowE eB 4 (.slice (some ⟨b5, 0, none⟩) ((a.take 25).length) ((a.take 25).length)) used2, rowE eB 4 (.slice (some ⟨b4, 0, none⟩) ((b.take 25).length) ((b.take 25).length)) taken2, rowE eP 41 (.slice A2 ((STY (a.take 25) (b.take 25)).length) c2) (STY (a.take 25) (b.take 25)), rowE eB3 43 (.slice A1 ((FB (a.take 25) (b.take 25) (1 + (least % 10))).length) c1) (FB (a.take 25) (b.take 25) (1 + (least % 10)))] ∧ m_ = ((((FB (a.take 25) (b.take 25) (1 + (least % 10))).length : Int) - i2).toNat) ∧ Weak (lit [(0, (.slice (cutA A_a c_a 2) ((a.take 25).length) c_a)), (1, (.slice (cutA A_b c_b 2) ((b.take 25).length) c_b)), (7, (.int .i64 (1 + (least % 10)))), (8, (.slice A1 ((FB (a.take 25) (b.take 25) (1 + (least % 10))).length) c1)), (12, (.slice (some ⟨b5, 0, none⟩) ((a.take 25).length) ((a.take 25).length))), (13, (.slice (some ⟨b4, 0, none⟩) ((b.take 25).length) ((b.take 25).length))), (15, (.int .i64 i2))]) f_) _ ⟨used, taken, 0, by omega, by omega, (by rw [u1, take_all (by omega)]; exact MK_0), (by rw [u2, take_all (by omega)]; exact MK_0), u3, u4, hL6, rfl, Weak.cons rfl <| Weak.cons rfl <| Weak.cons rfl <| Weak.cons rfl <| Weak.cons rfl <| Weak.cons rfl <| Weak.cons rfl <| Weak.nil _⟩ ?_
      rintro m11 f7 w25 ⟨used2, taken2, i2, i2lo, i2hi, m1, m2, m3, m4, hL7, rfl, hw7⟩
      refine WC.weak hw7 ?_
      clear hw7
      iterate 2 refine WC.seq ?_
      refine WC.region ?_
      iterate 2 refine WL.lv rfl (LV.mv rfl) ?_
      refine WL.lv rfl (LV.lenL Try.underlying24 rfl) ?_
      refine WL.lv rfl (LV.ltI rfl rfl) ?_
      refine WL.nil (thenQ.n ?_)
      refine WC.condP (p := i2 < ((FB (a.take 25) (b.take 25) (1 + (least % 10))).length : Int)) rfl (fun hk2 => ?_) (fun hk2 => ?_)
      · have hb_ := FB_at (a := (a.take 25)) (b := (b.take 25)) (least := (1 + (least) % 10)) (by omega) (by omega) (by omega) (by omega) i2lo hk2
        have hb1_ := hb_.1
        have hb2_ := hb_.2.f0
        have hb3_ := hb_.2.f1
        have hb4_ := hb_.2.t0
        have hb5_ := hb_.2.t1
        refine WC.skip (thenQ.n ?_)
        refine WC.seq ?_
        refine WC.block ?_
        iterate 2 refine WC.seq ?_
        have hS35 := SH.drew hL7
        refine WC.regionD [] (fun w_ => KB No w25.drew w_) [(.pure, 0), (.pure, 1), (.pure, 2), (.pure, 3), (.look, 4), (.pure, 5), (.pure, 6), (.pure, 7), (.pure, 8), (.pure, 9), (.pure, 10), (.pure, 11), (.look, 12), (.pure, 13), (.pure, 14), (.pure, 15), (.pure, 16), (.pure, 17), (.pure, 18), (.pure, 19), (.look, 20), (.pure, 21), (.pure, 22), (.pure, 23), (.pure, 24), (.pure, 25), (.pure, 26), (.pure, 27), (.look, 28), (.pure, 29), (.pure, 30), (.pure, 31), (.pure, 32), (.pure, 33), (.pure, 34), (.look, 35), (.pure, 36), (.pure, 37), (.pure, 38), (.pure, 39), (.pure, 40), (.pure, 41), (.pure, 42), (.pure, 43), (.look, 44), (.pure, 45), (.pure, 46), (.pure, 47), (.pure, 48), (.pure, 49), (.pure, 50), (.look, 51), (.pure, 52), (.pure, 53), (.pure, 54)] (by kernel_rfl) (by kernel_rfl) (KB.refl _ _) ?_
        iterate 2 refine WS.pure rfl rfl (fun _ => LV.mv rfl) ?_
        obtain ⟨A40, c40, e37, g35⟩ := St.elt (SH.rd hS35 (.tail _ (.tail _ (.tail _ (.head _))))) (0, 0, 0) i2 (by omega) (by omega)
        refine WS.pure rfl rfl (fun _ => LV.idxA Try.underlying24 ti43.sz rfl e37 rfl (by omega) (by omega)) ?_
        refine WS.pure rfl rfl (fun _ => LV.fieldA Try.underlying43 rfl ti3.sz rfl) ?_
        refine WS.look rfl rfl (fun _ hk_ => LV.load1 (v := (.int .i64 (((FB (a.take 25) (b.take 25) (1 + (least % 10))).getD (i2).toNat (0, 0, 0)).2.2))) Try.underlying3 rfl rfl (g35 _ hk_ 2 _ rfl)) ?_
        refine WS.pure rfl rfl (fun _ => LV.mv rfl) ?_
        refine WS.pure rfl rfl (fun _ => LV.as (LV.ltI rfl rfl) (decide_eq_false (by omega))) ?_
        iterate 3 refine WS.pure rfl rfl (fun _ => LV.mv rfl) ?_
        obtain ⟨A41, c41, e38, g36⟩ := St.elt (SH.rd hS35 (.tail _ (.tail _ (.tail _ (.head _))))) (0, 0, 0) i2 (by omega) (by omega)
        refine WS.pure rfl rfl (fun _ => LV.idxA Try.underlying24 ti43.sz rfl e38 rfl (by omega) (by omega)) ?_
        refine WS.pure rfl rfl (fun _ => LV.fieldA Try.underlying43 rfl ti3.sz rfl) ?_
        refine WS.look rfl rfl (fun _ hk_ => LV.load1 (v := (.int .i64 (((FB (a.take 25) (b.take 25) (1 + (least % 10))).getD (i2).toNat (0, 0, 0)).1))) Try.underlying3 rfl rfl (g36 _ hk_ 0 _ rfl)) ?_
        refine WS.pure rfl rfl (fun _ => LV.as (LV.ltI rfl rfl) (decide_eq_false (by omega))) ?_
        refine WS.pure rfl rfl (fun _ => LV.pickF rfl rfl) ?_
        iterate 3 refine WS.pure rfl rfl (fun _ => LV.mv rfl) ?_
        obtain ⟨A42, c42, e39, g37⟩ := St.elt (SH.rd hS35 (.tail _ (.tail _ (.tail _ (.head _))))) (0, 0, 0) i2 (by omega) (by omega)
        refine WS.pure rfl rfl (fun _ => LV.idxA Try.underlying24 ti43.sz rfl e39 rfl (by omega) (by omega)) ?_
        refine WS.pure rfl rfl (fun _ => LV.fieldA Try.underlying43 rfl ti3.sz rfl) ?_
        refine WS.look rfl rfl (fun _ hk_ => LV.load1 (v := (.int .i64 (((FB (a.take 25) (b.take 25) (1 + (least % 10))).getD (i2).toNat (0, 0, 0)).2.1))) Try.underlying3 rfl rfl (g37 _ hk_ 1 _ rfl)) ?_
        refine WS.pure rfl rfl (fun _ => LV.as (LV.ltI rfl rfl) (decide_eq_false (by omega))) ?_
        refine WS.pure rfl rfl (fun _ => LV.pickF rfl rfl) ?_
        iterate 3 refine WS.pure rfl rfl (fun _ => LV.mv rfl) ?_
        obtain ⟨A43, c43, e40, g38⟩ := St.elt (SH.rd hS35 (.tail _ (.tail _ (.tail _ (.head _))))) (0, 0, 0) i2 (by omega) (by omega)
        refine WS.pure rfl rfl (fun _ => LV.idxA Try.underlying24 ti43.sz rfl e40 rfl (by omega) (by omega)) ?_
        refine WS.pure rfl rfl (fun _ => LV.fieldA Try.underlying43 rfl ti3.sz rfl) ?_
        refine WS.look rfl rfl (fun _ hk_ => LV.load1 (v := (.int .i64 (((FB (a.take 25) (b.take 25) (1 + (least % 10))).getD (i2).toNat (0, 0, 0)).1))) Try.underlying3 rfl rfl (g38 _ hk_ 0 _ rfl)) ?_
        refine WS.pure rfl rfl (fun _ => LV.mv rfl) ?_
        refine WS.pure rfl rfl (fun _ => LV.lenL Try.underlying22 rfl) ?_
        iterate 2 refine WS.pure rfl rfl (fun _ => LV.mv rfl) ?_
        obtain ⟨A44, c44, e41, g39⟩ := St.elt (SH.rd hS35 (.tail _ (.tail _ (.tail _ (.head _))))) (0, 0, 0) i2 (by omega) (by omega)
        refine WS.pure rfl rfl (fun _ => LV.idxA Try.underlying24 ti43.sz rfl e41 rfl (by omega) (by omega)) ?_
        refine WS.pure rfl rfl (fun _ => LV.fieldA Try.underlying43 rfl ti3.sz rfl) ?_
        refine WS.look rfl rfl (fun _ hk_ => LV.load1 (v := (.int .i64 (((FB (a.take 25) (b.take 25) (1 + (least % 10))).getD (i2).toNat (0, 0, 0)).2.2))) Try.underlying3 rfl rfl (g39 _ hk_ 2 _ rfl)) ?_
        refine WS.pure rfl rfl (fun _ => LV.sub rfl rfl (wr64 (by omega) (by omega))) ?_
        refine WS.pure rfl rfl (fun _ => LV.as (LV.gtI rfl rfl) (decide_eq_false (by omega))) ?_
        refine WS.pure rfl rfl (fun _ => LV.pickF rfl rfl) ?_
        iterate 3 refine WS.pure rfl rfl (fun _ => LV.mv rfl) ?_
        obtain ⟨A45, c45, e42, g40⟩ := St.elt (SH.rd hS35 (.tail _ (.tail _ (.tail _ (.head _))))) (0, 0, 0) i2 (by omega) (by omega)
        refine WS.pure rfl rfl (fun _ => LV.idxA Try.underlying24 ti43.sz rfl e42 rfl (by omega) (by omega)) ?_
        refine WS.pure rfl rfl (fun _ => LV.fieldA Try.underlying43 rfl ti3.sz rfl) ?_
        refine WS.look rfl rfl (fun _ hk_ => LV.load1 (v := (.int .i64 (((FB (a.take 25) (b.take 25) (1 + (least % 10))).getD (i2).toNat (0, 0, 0)).2.1))) Try.underlying3 rfl rfl (g40 _ hk_ 1 _ rfl)) ?_
        refine WS.pure rfl rfl (fun _ => LV.mv rfl) ?_
        refine WS.pure rfl rfl (fun _ => LV.lenL Try.underlying22 rfl) ?_
        iterate 2 refine WS.pure rfl rfl (fun _ => LV.mv rfl) ?_
        obtain ⟨A46, c46, e43, g41⟩ := St.elt (SH.rd hS35 (.tail _ (.tail _ (.tail _ (.head _))))) (0, 0, 0) i2 (by omega) (by omega)
        refine WS.pure rfl rfl (fun _ => LV.idxA Try.underlying24 ti43.sz rfl e43 rfl (by omega) (by omega)) ?_
        refine WS.pure rfl rfl (fun _ => LV.fieldA Try.underlying43 rfl ti3.sz rfl) ?_
        refine WS.look rfl rfl (fun _ hk_ => LV.load1 (v := (.int .i64 (((FB (a.take 25) (b.take 25) (1 + (least % 10))).getD (i2).toNat (0, 0, 0)).2.2))) Try.underlying3 rfl rfl (g41 _ hk_ 2 _ rfl)) ?_
        refine WS.pure rfl rfl (fun _ => LV.sub rfl rfl (wr64 (by omega) (by omega))) ?_
        refine WS.pure rfl rfl (fun _ => LV.as (LV.gtI rfl rfl) (decide_eq_false (by omega))) ?_
        refine WS.pure rfl rfl (fun _ => LV.pickF rfl rfl) ?_
        refine WS.nil (thenQ.n ?_)
        refine WC.condF rfl ?_
        refine WC.skip (thenQ.n ?_)
        refine WC.seq ?_
        refine WC.region ?_
        refine WL.lv rfl (LV.asg rfl) ?_
        refine WL.nil (thenQ.n ?_)
        refine WC.block ?_
        refine WC.loop (fun m_ f_ w_ => ∃ (used3 : List Bool) (taken3 : List Bool) (k : Int), (0 ≤ k) ∧ (k ≤ ((FB (a.take 25) (b.take 25) (1 + (least) % 10)).getD i2.toNat (0, 0, 0)).2.2) ∧ (MK used3 (usd (a.take 25).length (STY (a.take 25) (b.take 25))) (bX ((FB (a.take 25) (b.take 25) (1 + (least) % 10)).take i2.toNat) ++ [(((FB (a.take 25) (b.take 25) (1 + (least) % 10)).getD i2.toNat (0, 0, 0)).1, k)])) ∧ (MK taken3 (tkn (b.take 25).length (STY (a.take 25) (b.take 25))) (bY ((FB (a.take 25) (b.take 25) (1 + (least) % 10)).take i2.toNat) ++ [(((FB (a.take 25) (b.take 25) (1 + (least) % 10)).getD i2.toNat (0, 0, 0)).2.1, k)])) ∧ (used3.length = (a.take 25).length) ∧ (taken3.length = (b.take 25).length) ∧ SH w No w_ [rowE eB 4 (.slice (some ⟨b5, 0, none⟩) ((a.take 25).length) ((a.take 25).length)) used3, rowE eB 4 (.slice (some ⟨b4, 0, none⟩) ((b.take 25).length) ((b.take 25).length)) taken3, rowE eP 41 (.slice A2 ((STY (a.take 25) (b.take 25)).length) c2) (STY (a.take 25) (b.take 25)), rowE eB3 43 (.slice A1 ((FB (a.take 25) (b.take 25) (1 + (least % 10))).length) c1) (FB (a.take 25) (b.take 25) (1 + (least % 10)))] ∧ m_ = ((((FB (a.take 25) (b.take 25) (1 + (least) % 10)).getD i2.toNat (0, 0, 0)).2.2 - k).toNat) ∧ Weak (lit [(0, (.slice (cutA A_a c_a 2) ((a.take 25).length) c_a)), (1, (.slice (cutA A_b c_b 2) ((b.take 25).length) c_b)), (7, (.int .i64 (1 + (least % 10)))), (8, (.slice A1 ((FB (a.take 25) (b.take 25) (1 + (least % 10))).length) c1)), (12, (.slice (some ⟨b5, 0, none⟩) ((a.take 25).length) ((a.take 25).length))), (13, (.slice (some ⟨b4, 0, none⟩) ((b.take 25).length) ((b.take 25).length))), (15, (.int .i64 i2)), (16, (.int .i64 k))]) f_) _ ⟨used2, taken2, 0, by omega, by omega, (MK_zero m1), (MK_zero m2), m3, m4, hS35, rfl, Weak.cons rfl <| Weak.cons rfl <| Weak.cons rfl <| Weak.cons rfl <| Weak.cons rfl <| Weak.cons rfl <| Weak.cons rfl <| Weak.cons rfl <| Weak.nil _⟩ ?_
        rintro m12 f8 w26 ⟨used3, taken3, k, klo, khi, k1, k2, k3, k4, hL8, rfl, hw8⟩
        refine WC.weak hw8 ?_
        clear hw8
        iterate 2 refine WC.seq ?_
        refine WC.region ?_
        iterate 3 refine WL.lv rfl (LV.mv rfl) ?_
        obtain ⟨A47, c47, e44, g42⟩ := St.elt (SH.rd hL8 (.tail _ (.tail _ (.tail _ (.head _))))) (0, 0, 0) i2 (by omega) (by omega)
        refine WL.lv rfl (LV.idxA Try.underlying24 ti43.sz rfl e44 rfl (by omega) (by omega)) ?_
        refine WL.lv rfl (LV.fieldA Try.underlying43 rfl ti3.sz rfl) ?_
        refine WL.lv rfl (LV.load1 (v := (.int .i64 (((FB (a.take 25) (b.take 25) (1 + (least % 10))).getD (i2).toNat (0, 0, 0)).2.2))) Try.underlying3 rfl rfl (g42 _ (KB.refl No _) 2 _ rfl)) ?_
        refine WL.lv rfl (LV.ltI rfl rfl) ?_
        refine WL.nil (thenQ.n ?_)
        refine WC.condP (p := k < (((FB (a.take 25) (b.take 25) (1 + (least % 10))).getD (i2).toNat (0, 0, 0)).2.2)) rfl (fun hk3 => ?_) (fun hk3 => ?_)
        · have hok_ := hb_.2.ok k klo hk3
          have hle_ := line_eq (a := (a.take 25)) (b := (b.take 25)) (by omega) (by omega) (by omega) (by omega) hok_.2.2.1
          have hnu_ := MK_newX hgl.1 i2lo hk2 klo hk3 k1
          have hnt_ := MK_newY hgl.1 i2lo hk2 klo hk3 k2
          refine WC.skip (thenQ.n ?_)
          refine WC.seq ?_
          refine WC.block ?_
          refine WC.seq ?_
          have hS36 := SH.drew hL8
          refine WC.regionD [] (fun w_ => KB No w26.drew w_) [(.pure, 0), (.pure, 1), (.pure, 2), (.pure, 3), (.look, 4), (.pure, 5), (.pure, 6), (.pure, 7), (.pure, 8), (.pure, 9), (.pure, 10), (.look, 11), (.pure, 12), (.pure, 13), (.pure, 14), (.pure, 15)] (by kernel_rfl) (by kernel_rfl) (KB.refl _ _) ?_
          iterate 2 refine WS.pure rfl rfl (fun _ => LV.mv rfl) ?_
          obtain ⟨A48, c48, e45, g43⟩ := St.elt (SH.rd hS36 (.tail _ (.tail _ (.tail _ (.head _))))) (0, 0, 0) i2 (by omega) (by omega)
          refine WS.pure rfl rfl (fun _ => LV.idxA Try.underlying24 ti43.sz rfl e45 rfl (by omega) (by omega)) ?_
          refine WS.pure rfl rfl (fun _ => LV.fieldA Try.underlying43 rfl ti3.sz rfl) ?_
          refine WS.look rfl rfl (fun _ hk_ => LV.load1 (v := (.int .i64 (((FB (a.take 25) (b.take 25) (1 + (least % 10))).getD (i2).toNat (0, 0, 0)).1))) Try.underlying3 rfl rfl (g43 _ hk_ 0 _ rfl)) ?_
          refine WS.pure rfl rfl (fun _ => LV.mv rfl) ?_
          refine WS.pure rfl rfl (fun _ => LV.add rfl rfl (wr64 (by omega) (by omega))) ?_
          iterate 2 refine WS.pure rfl rfl (fun _ => LV.mv rfl) ?_
          obtain ⟨A49, c49, e46, g44⟩ := St.elt (SH.rd hS36 (.tail _ (.tail _ (.tail _ (.head _))))) (0, 0, 0) i2 (by omega) (by omega)
          refine WS.pure rfl rfl (fun _ => LV.idxA Try.underlying24 ti43.sz rfl e46 rfl (by omega) (by omega)) ?_
          refine WS.pure rfl rfl (fun _ => LV.fieldA Try.underlying43 rfl ti3.sz rfl) ?_
          refine WS.look rfl rfl (fun _ hk_ => LV.load1 (v := (.int .i64 (((FB (a.take 25) (b.take 25) (1 + (least % 10))).getD (i2).toNat (0, 0, 0)).2.1))) Try.underlying3 rfl rfl (g44 _ hk_ 1 _ rfl)) ?_
          refine WS.pure rfl rfl (fun _ => LV.mv rfl) ?_
          refine WS.pure rfl rfl (fun _ => LV.add rfl rfl (wr64 (by omega) (by omega))) ?_
          iterate 2 refine WS.pure rfl rfl (fun _ => LV.asg rfl) ?_
          refine WS.nil (thenQ.n ?_)
          iterate 2 refine WC.seq ?_
          have hS37 := SH.drew hS36
          refine WC.regionD [] (fun w_ => KB No w26.drew.drew w_) [(.pure, 0), (.pure, 1), (.pure, 2), (.look, 3), (.pure, 4), (.pure, 5), (.pure, 6), (.look, 7), (.pure, 8), (.pure, 9), (.pure, 10), (.pure, 11), (.pure, 12), (.look, 13), (.pure, 14), (.pure, 15), (.pure, 16), (.pure, 17), (.pure, 18), (.look, 19), (.pure, 20)] (by kernel_rfl) (by kernel_rfl) (KB.refl _ _) ?_
          iterate 2 refine WS.pure rfl rfl (fun _ => LV.mv rfl) ?_
          obtain ⟨A50, c50, e47, g45⟩ := St.elt (SH.stN hS37 (few_rd 25 h_a)) lnD ((((FB (a.take 25) (b.take 25) (1 + (least % 10))).getD (i2).toNat (0, 0, 0)).1) + k) (by omega) (by omega)
          refine WS.pure rfl rfl (fun _ => LV.idxA Try.underlying22 ti45.sz rfl e47 rfl (by omega) (by omega)) ?_
          refine WS.look rfl rfl (fun _ hk_ => LV.loadAgg (cs := [(.string (((a.take 25).getD ((((FB (a.take 25) (b.take 25) (1 + (least % 10))).getD (i2).toNat (0, 0, 0)).1) + k).toNat lnD).1)), (.bool (((a.take 25).getD ((((FB (a.take 25) (b.take 25) (1 + (least % 10))).getD (i2).toNat (0, 0, 0)).1) + k).toNat lnD).2))]) Try.underlying45 rfl ti45 rfl rfl (fun j u hu => g45 _ hk_ j u hu)) ?_
          iterate 2 refine WS.pure rfl rfl (fun _ => LV.mv rfl) ?_
          obtain ⟨A51, c51, e48, g46⟩ := St.elt (SH.stN hS37 (few_rd 25 h_b)) lnD ((((FB (a.take 25) (b.take 25) (1 + (least % 10))).getD (i2).toNat (0, 0, 0)).2.1) + k) (by omega) (by omega)
          refine WS.pure rfl rfl (fun _ => LV.idxA Try.underlying22 ti45.sz rfl e48 rfl (by omega) (by omega)) ?_
          refine WS.look rfl rfl (fun _ hk_ => LV.loadAgg (cs := [(.string (((b.take 25).getD ((((FB (a.take 25) (b.take 25) (1 + (least % 10))).getD (i2).toNat (0, 0, 0)).2.1) + k).toNat lnD).1)), (.bool (((b.take 25).getD ((((FB (a.take 25) (b.take 25) (1 + (least % 10))).getD (i2).toNat (0, 0, 0)).2.1) + k).toNat lnD).2))]) Try.underlying45 rfl ti45 rfl rfl (fun j u hu => g46 _ hk_ j u hu)) ?_
          refine WS.pure rfl rfl (fun _ => LV.as (LV.neLn Try.underlying45 Try.underlying9 Try.underlying4 (by decide) (by kernel_rfl) (by kernel_rfl) rfl rfl) (decide_eq_false (fun h_ => h_ ⟨congrArg Prod.fst hle_, congrArg Prod.snd hle_⟩))) ?_
          iterate 3 refine WS.pure rfl rfl (fun _ => LV.mv rfl) ?_
          obtain ⟨A52, c52, e49, g47⟩ := St.elt (SH.rd hS37 (.head _)) false ((((FB (a.take 25) (b.take 25) (1 + (least % 10))).getD (i2).toNat (0, 0, 0)).1) + k) (by omega) (by omega)
          refine WS.pure rfl rfl (fun _ => LV.idxA Try.underlying34 ti4.sz rfl e49 rfl (by omega) (by omega)) ?_
          refine WS.look rfl rfl (fun _ hk_ => LV.as (c := false) (LV.load1 (v := (.bool (bI used3 ((((FB (a.take 25) (b.take 25) (1 + (least % 10))).getD (i2).toNat (0, 0, 0)).1) + k)))) Try.underlying4 rfl rfl (g47 _ hk_ 0 _ rfl)) (eq_false_of_ne_true hnu_)) ?_
          refine WS.pure rfl rfl (fun _ => LV.pickF rfl rfl) ?_
          iterate 3 refine WS.pure rfl rfl (fun _ => LV.mv rfl) ?_
          obtain ⟨A53, c53, e50, g48⟩ := St.elt (SH.rd hS37 (.tail _ (.head _))) false ((((FB (a.take 25) (b.take 25) (1 + (least % 10))).getD (i2).toNat (0, 0, 0)).2.1) + k) (by omega) (by omega)
          refine WS.pure rfl rfl (fun _ => LV.idxA Try.underlying34 ti4.sz rfl e50 rfl (by omega) (by omega)) ?_
          refine WS.look rfl rfl (fun _ hk_ => LV.as (c := false) (LV.load1 (v := (.bool (bI taken3 ((((FB (a.take 25) (b.take 25) (1 + (least % 10))).getD (i2).toNat (0, 0, 0)).2.1) + k)))) Try.underlying4 rfl rfl (g48 _ hk_ 0 _ rfl)) (eq_false_of_ne_true hnt_)) ?_
          refine WS.pure rfl rfl (fun _ => LV.pickF rfl rfl) ?_
          refine WS.nil (thenQ.n ?_)
          refine WC.condF rfl ?_
          refine WC.skip (thenQ.n ?_)
          refine WC.region ?_
          iterate 4 refine WL.lv rfl (LV.mv rfl) ?_
          obtain ⟨A54, c54, e51, g49⟩ := St.elt (SH.rd hS37 (.head _)) false ((((FB (a.take 25) (b.take 25) (1 + (least % 10))).getD (i2).toNat (0, 0, 0)).1) + k) (by omega) (by omega)
          refine WL.lv rfl (LV.idxA Try.underlying34 ti4.sz rfl e51 rfl (by omega) (by omega)) ?_
          refine WL.xse rfl (XSE.row1 (i := (((FB (a.take 25) (b.take 25) (1 + (least % 10))).getD (i2).toNat (0, 0, 0)).1) + k) (o := 0) (k := false) true hS37 e51 (by omega) (by omega) (by decide) ti4.sz rfl rfl rfl rfl) ?_
          rintro w27 ⟨hS38, hk16⟩
          obtain ⟨A55, c55, e52, g50⟩ := St.elt (SH.rd hS38 (.tail _ (.head _))) false ((((FB (a.take 25) (b.take 25) (1 + (least % 10))).getD (i2).toNat (0, 0, 0)).2.1) + k) (by omega) (by omega)
          refine WL.lv rfl (LV.idxA Try.underlying34 ti4.sz rfl e52 rfl (by omega) (by omega)) ?_
          have hS40 : SH w No w27 [rowE eB 4 (.slice (some ⟨b4, 0, none⟩) ((b.take 25).length) ((b.take 25).length)) taken3, rowE eB 4 (.slice (some ⟨b5, 0, none⟩) ((a.take 25).length) ((a.take 25).length)) (used3.set ((((FB (a.take 25) (b.take 25) (1 + (least % 10))).getD (i2).toNat (0, 0, 0)).1) + k).toNat true), rowE eP 41 (.slice A2 ((STY (a.take 25) (b.take 25)).length) c2) (STY (a.take 25) (b.take 25)), rowE eB3 43 (.slice A1 ((FB (a.take 25) (b.take 25) (1 + (least % 10))).length) c1) (FB (a.take 25) (b.take 25) (1 + (least % 10)))] := (SH.front [rowE eB 4 (.slice (some ⟨b5, 0, none⟩) ((a.take 25).length) ((a.take 25).length)) (used3.set ((((FB (a.take 25) (b.take 25) (1 + (least % 10))).getD (i2).toNat (0, 0, 0)).1) + k).toNat true)] hS38)
          refine WL.xse rfl (XSE.row1 (i := (((FB (a.take 25) (b.take 25) (1 + (least % 10))).getD (i2).toNat (0, 0, 0)).2.1) + k) (o := 0) (k := false) true hS40 e52 (by omega) (by omega) (by decide) ti4.sz rfl rfl rfl rfl) ?_
          rintro w28 ⟨hS39, hk17⟩
          refine WL.nil (blockQ.n <| thenQ.n ?_)
          refine WC.region ?_
          refine WL.lv rfl (LV.mv rfl) ?_
          refine WL.lv rfl (LV.add rfl rfl (wr64 (by omega) (by omega))) ?_
          refine WL.lv rfl (LV.asg rfl) ?_
          refine WL.nil (thenQ.n ?_)
          have hS41 : SH w No w28 [rowE eB 4 (.slice (some ⟨b5, 0, none⟩) ((a.take 25).length) ((a.take 25).length)) (used3.set ((((FB (a.take 25) (b.take 25) (1 + (least % 10))).getD (i2).toNat (0, 0, 0)).1) + k).toNat true), rowE eB 4 (.slice (some ⟨b4, 0, none⟩) ((b.take 25).length) ((b.take 25).length)) (taken3.set ((((FB (a.take 25) (b.take 25) (1 + (least % 10))).getD (i2).toNat (0, 0, 0)).2.1) + k).toNat true), rowE eP 41 (.slice A2 ((STY (a.take 25) (b.take 25)).length) c2) (STY (a.take 25) (b.take 25)), rowE eB3 43 (.slice A1 ((FB (a.take 25) (b.take 25) (1 + (least % 10))).length) c1) (FB (a.take 25) (b.take 25) (1 + (least % 10)))] := (SH.front [rowE eB 4 (.slice (some ⟨b4, 0, none⟩) ((b.take 25).length) ((b.take 25).length)) (taken3.set ((((FB (a.take 25) (b.take 25) (1 + (least % 10))).getD (i2).toNat (0, 0, 0)).2.1) + k).toNat true), rowE eP 41 (.slice A2 ((STY (a.take 25) (b.take 25)).length) c2) (STY (a.take 25) (b.take 25)), rowE eB3 43 (.slice A1 ((FB (a.take 25) (b.take 25) (1 + (least % 10))).length) c1) (FB (a.take 25) (b.take 25) (1 + (least % 10)))] (SH.front [rowE eP 41 (.slice A2 ((STY (a.take 25) (b.take 25)).length) c2) (STY (a.take 25) (b.take 25)), rowE eB3 43 (.slice A1 ((FB (a.take 25) (b.take 25) (1 + (least % 10))).length) c1) (FB (a.take 25) (b.take 25) (1 + (least % 10)))] (SH.front [rowE eB3 43 (.slice A1 ((FB (a.take 25) (b.take 25) (1 + (least % 10))).length) c1) (FB (a.take 25) (b.take 25) (1 + (least % 10))), rowE eB 4 (.slice (some ⟨b4, 0, none⟩) ((b.take 25).length) ((b.take 25).length)) (taken3.set ((((FB (a.take 25) (b.take 25) (1 + (least % 10))).getD (i2).toNat (0, 0, 0)).2.1) + k).toNat true), rowE eB 4 (.slice (some ⟨b5, 0, none⟩) ((a.take 25).length) ((a.take 25).length)) (used3.set ((((FB (a.take 25) (b.take 25) (1 + (least % 10))).getD (i2).toNat (0, 0, 0)).1) + k).toNat true)] (SH.front [rowE eB 4 (.slice (some ⟨b4, 0, none⟩) ((b.take 25).length) ((b.take 25).length)) (taken3.set ((((FB (a.take 25) (b.take 25) (1 + (least % 10))).getD (i2).toNat (0, 0, 0)).2.1) + k).toNat true), rowE eB 4 (.slice (some ⟨b5, 0, none⟩) ((a.take 25).length) ((a.take 25).length)) (used3.set ((((FB (a.take 25) (b.take 25) (1 + (least % 10))).getD (i2).toNat (0, 0, 0)).1) + k).toNat true), rowE eP 41 (.slice A2 ((STY (a.take 25) (b.take 25)).length) c2) (STY (a.take 25) (b.take 25))] hS39))))
          exact ⟨_, by omega, (used3.set ((((FB (a.take 25) (b.take 25) (1 + (least % 10))).getD (i2).toNat (0, 0, 0)).1) + k).toNat true), (taken3.set ((((FB (a.take 25) (b.take 25) (1 + (least % 10))).getD (i2).toNat (0, 0, 0)).2.1) + k).toNat true), k + 1, by omega, by omega, (MK_set k1 (by omega) klo (by omega)), (MK_set k2 (by omega) klo (by omega)), (by rw [List.length_set]; exact k3), (by rw [List.length_set]; exact k4), hS41, rfl, Weak.cons rfl <| Weak.cons rfl <| Weak.cons rfl <| Weak.cons rfl <| Weak.cons rfl <| Weak.cons rfl <| Weak.cons rfl <| Weak.cons rfl <| Weak.nil _⟩
        · skip
          refine WC.exit (thenQ.x <| thenQ.x <| blockQ.hit <| blockQ.n <| thenQ.n ?_)
          refine WC.region ?_
          refine WL.lv rfl (LV.mv rfl) ?_
          refine WL.lv rfl (LV.add rfl rfl (wr64 (by omega) (by omega))) ?_
          refine WL.lv rfl (LV.asg rfl) ?_
          refine WL.nil (thenQ.n ?_)
          exact ⟨_, by omega, used3, taken3, i2 + 1, by omega, by omega, (by rw [bX_snoc i2lo hk2]; rw [show k = ((FB (a.take 25) (b.take 25) (1 + (least) % 10)).getD i2.toNat (0, 0, 0)).2.2 by omega] at k1; exact k1), (by rw [bY_snoc i2lo hk2]; rw [show k = ((FB (a.take 25) (b.take 25) (1 + (least) % 10)).getD i2.toNat (0, 0, 0)).2.2 by omega] at k2; exact k2), k3, k4, hL8, rfl, Weak.cons rfl <| Weak.cons rfl <| Weak.cons rfl <| Weak.cons rfl <| Weak.cons rfl <| Weak.cons rfl <| Weak.cons rfl <| Weak.nil _⟩
      · skip
        refine WC.exit (thenQ.x <| thenQ.x <| blockQ.hit <| thenQ.n ?_)
        refine WC.seq ?_
        refine WC.region ?_
        iterate 2 refine WL.lv rfl (LV.mv rfl) ?_
        rw [take_all (by omega)] at m1 m2
        refine WL.xe rfl (XE.buildSlice (E := eV) [(0, (.slice (cutA A_a c_a 2) ((a.take 25).length) c_a)), (1, (.slice (cutA A_b c_b 2) ((b.take 25).length) c_b))] #[(.slice (cutA A_a c_a 2) ((a.take 25).length) c_a), (.slice (cutA A_b c_b 2) ((b.take 25).length) c_b)] [(⟨(cutA A_a c_a 2), (a.take 25).length, c_a⟩ : SV), (⟨(cutA A_b c_b 2), (b.take 25).length, c_b⟩ : SV)] hL7 Try.underlying48 ti22 rfl (by decide) (by kernel_rfl) (.inr rfl) rfl rfl (by decide)) ?_
        rintro _ w29 ⟨b6, rfl, hS42, hk18⟩
        refine WL.call rfl (XC.fn Try.func19 (by kernel_rfl) rfl rfl rfl) (rnumbers_calls  (St.rrOf (rows := [((⟨(cutA A_a c_a 2), (a.take 25).length, c_a⟩ : SV), (a.take 25)), ((⟨(cutA A_b c_b 2), (b.take 25).length, c_b⟩ : SV), (b.take 25))]) (SH.rd hS42 (.head _)) (St.inCons (r := (⟨(cutA A_a c_a 2), (a.take 25).length, c_a⟩ : SV)) rfl (SH.stN hS42 (few_rd 25 h_a)) (St.inCons (r := (⟨(cutA A_b c_b 2), (b.take 25).length, c_b⟩ : SV)) rfl (SH.stN hS42 (few_rd 25 h_b)) St.in0))) rfl (by simp) (by intro p hp; simp at hp; rcases hp with rfl | rfl <;> simp only [] <;> omega)) ?_
        rintro v_ w30 ⟨A56, c56, rows2, rfl, hq2, hS43⟩
        have hS44 := SH.joinN hS42 hS43
        have hmt := map_two (x := NA (a.take 25)) (y := NB (a.take 25) (b.take 25)) hq2
        have hra : (rows2.getD (0 : Int).toNat default).2 = NA (a.take 25) := hmt.2.1
        have hrb : (rows2.getD (1 : Int).toNat default).2 = NB (a.take 25) (b.take 25) := hmt.2.2
        have hla := NA_len (a.take 25)
        have hlb := NB_len (a.take 25) (b.take 25)
        have hl1 := hmt.1
        have hlra : (rows2.getD (0 : Int).toNat default).2.length = (a.take 25).length := by rw [hra]; exact hla
        have hlrb : (rows2.getD (1 : Int).toNat default).2.length = (b.take 25).length := by rw [hrb]; exact hlb
        refine WL.lv rfl (LV.asg rfl) ?_
        refine WL.nil (thenQ.n ?_)
        iterate 2 refine WC.seq ?_
        refine WC.region ?_
        refine WL.lv rfl (LV.asg rfl) ?_
        refine WL.nil (thenQ.n ?_)
        refine WC.block ?_
        refine WC.loop (fun m_ f_ w_ => ∃ (i3 : Int), (0 ≤ i3) ∧ (i3 ≤ ((a.take 25).length : Int)) ∧ SH w No w_ [rrE eI 33 3 (.slice A56 rows2.length c56) rows2, rowE eV 22 (.slice (some ⟨b6, 0, none⟩) 2 2) [(⟨(cutA A_a c_a 2), (a.take 25).length, c_a⟩ : SV), (⟨(cutA A_b c_b 2), (b.take 25).length, c_b⟩ : SV)], rowE eB 4 (.slice (some ⟨b5, 0, none⟩) ((a.take 25).length) ((a.take 25).length)) used2, rowE eB 4 (.slice (some ⟨b4, 0, none⟩) ((b.take 25).length) ((b.take 25).length)) taken2, rowE eP 41 (.slice A2 ((STY (a.take 25) (b.take 25)).length) c2) (STY (a.take 25) (b.take 25)), rowE eB3 43 (.slice A1 ((FB (a.take 25) (b.take 25) (1 + (least % 10))).length) c1) (FB (a.take 25) (b.take 25) (1 + (least % 10)))] ∧ m_ = ((((a.take 25).length : Int) - i3).toNat) ∧ Weak (lit [(0, (.slice (cutA A_a c_a 2) ((a.take 25).length) c_a)), (1, (.slice (cutA A_b c_b 2) ((b.take 25).length) c_b)), (7, (.int .i64 (1 + (least % 10)))), (12, (.slice (some ⟨b5, 0, none⟩) ((a.take 25).length) ((a.take 25).length))), (13, (.slice (some ⟨b4, 0, none⟩) ((b.take 25).length) ((b.take 25).length))), (19, (.slice A56 rows2.length c56)), (20, (.int .i64 i3))]) f_) _ ⟨0, by omega, by omega, hS44, rfl, Weak.cons rfl <| Weak.cons rfl <| Weak.cons rfl <| Weak.cons rfl <| Weak.cons rfl <| Weak.cons rfl <| Weak.cons rfl <| Weak.nil _⟩ ?_
        rintro m13 f9 w31 ⟨i3, i3lo, i3hi, hL9, rfl, hw9⟩
        refine WC.weak hw9 ?_
        clear hw9
        iterate 2 refine WC.seq ?_
        refine WC.region ?_
        iterate 2 refine WL.lv rfl (LV.mv rfl) ?_
        refine WL.lv rfl (LV.lenL Try.underlying22 rfl) ?_
        refine WL.lv rfl (LV.ltI rfl rfl) ?_
        refine WL.nil (thenQ.n ?_)
        refine WC.condP (p := i3 < ((a.take 25).length : Int)) rfl (fun hc3 => ?_) (fun hc3 => ?_)
        · skip
          refine WC.skip (thenQ.n ?_)
          refine WC.seq ?_
          refine WC.block ?_
          refine WC.seq ?_
          refine WC.region ?_
          refine WL.lv rfl (LV.asg rfl) ?_
          refine WL.nil (thenQ.n ?_)
          refine WC.block ?_
          refine WC.loop (fun m_ f_ w_ => ∃ (j : Int), (0 ≤ j) ∧ (j ≤ ((b.take 25).length : Int)) ∧ SH w No w_ [rrE eI 33 3 (.slice A56 rows2.length c56) rows2, rowE eV 22 (.slice (some ⟨b6, 0, none⟩) 2 2) [(⟨(cutA A_a c_a 2), (a.take 25).length, c_a⟩ : SV), (⟨(cutA A_b c_b 2), (b.take 25).length, c_b⟩ : SV)], rowE eB 4 (.slice (some ⟨b5, 0, none⟩) ((a.take 25).length) ((a.take 25).length)) used2, rowE eB 4 (.slice (some ⟨b4, 0, none⟩) ((b.take 25).length) ((b.take 25).length)) taken2, rowE eP 41 (.slice A2 ((STY (a.take 25) (b.take 25)).length) c2) (STY (a.take 25) (b.take 25)), rowE eB3 43 (.slice A1 ((FB (a.take 25) (b.take 25) (1 + (least % 10))).length) c1) (FB (a.take 25) (b.take 25) (1 + (least % 10)))] ∧ m_ = ((((b.take 25).length : Int) - j).toNat) ∧ Weak (lit [(0, (.slice (cutA A_a c_a 2) ((a.take 25).length) c_a)), (1, (.slice (cutA A_b c_b 2) ((b.take 25).length) c_b)), (7, (.int .i64 (1 + (least % 10)))), (12, (.slice (some ⟨b5, 0, none⟩) ((a.take 25).length) ((a.take 25).length))), (13, (.slice (some ⟨b4, 0, none⟩) ((b.take 25).length) ((b.take 25).length))), (19, (.slice A56 rows2.length c56)), (20, (.int .i64 i3)), (21, (.int .i64 j))]) f_) _ ⟨0, by omega, by omega, hL9, rfl, Weak.cons rfl <| Weak.cons rfl <| Weak.cons rfl <| Weak.cons rfl <| Weak.cons rfl <| Weak.cons rfl <| Weak.cons rfl <| Weak.cons rfl <| Weak.nil _⟩ ?_
          rintro m14 f10 w32 ⟨j, jlo, jhi, hL10, rfl, hw10⟩
          refine WC.weak hw10 ?_
          clear hw10
          iterate 2 refine WC.seq ?_
          refine WC.region ?_
          iterate 2 refine WL.lv rfl (LV.mv rfl) ?_
          refine WL.lv rfl (LV.lenL Try.underlying22 rfl) ?_
          refine WL.lv rfl (LV.ltI rfl rfl) ?_
          refine WL.nil (thenQ.n ?_)
          refine WC.condP (p := j < ((b.take 25).length : Int)) rfl (fun hc4 => ?_) (fun hc4 => ?_)
          · skip
            refine WC.skip (thenQ.n ?_)
            refine WC.seq ?_
            refine WC.block ?_
            refine WC.seq ?_
            have hS45 := SH.drew hL10
            refine WC.regionD [] (fun w_ => KB No w32.drew w_) [(.pure, 0), (.pure, 1), (.look, 2), (.pure, 3), (.pure, 4), (.look, 5), (.pure, 6), (.pure, 7), (.pure, 8), (.pure, 9), (.pure, 11), (.forced, 10), (.pure, 12)] (by kernel_rfl) (by kernel_rfl) (KB.refl _ _) ?_
            refine WS.pure rfl rfl (fun _ => LV.mv rfl) ?_
            obtain ⟨A57, c57, A58, c58, e53, g51, e54, r3⟩ := St.eltRR (SH.rdRR hS45 (.head _)) default (0 : Int) (by omega) (by omega)
            refine WS.pure rfl rfl (fun _ => LV.idxA Try.underlying46 ti33.sz rfl e53 rfl (by omega) (by omega)) ?_
            refine WS.look rfl rfl (fun _ hk_ => LV.load1 Try.underlying33 rfl rfl (g51 _ hk_)) ?_
            refine WS.pure rfl rfl (fun _ => LV.mv rfl) ?_
            obtain ⟨A59, c59, A60, c60, e55, g52, e56, r4⟩ := St.eltRR (SH.rdRR hS45 (.head _)) default (1 : Int) (by omega) (by omega)
            refine WS.pure rfl rfl (fun _ => LV.idxA Try.underlying46 ti33.sz rfl e55 rfl (by omega) (by omega)) ?_
            refine WS.look rfl rfl (fun _ hk_ => LV.load1 Try.underlying33 rfl rfl (g52 _ hk_)) ?_
            iterate 5 refine WS.pure rfl rfl (fun _ => LV.mv rfl) ?_
            refine WS.call rfl rfl (XC.fn Try.func17 (by kernel_rfl) rfl rfl rfl) (rgrow_calls (i := i3) (j := j) (St.inner (SH.rdRR hS45 (.head _)) (getD_mem (by omega)) e54) rfl (St.inner (SH.rdRR hS45 (.head _)) (getD_mem (by omega)) e56) rfl (SH.rd hS45 (.tail _ (.tail _ (.head _)))) (by first | exact List.length_replicate | omega) (SH.rd hS45 (.tail _ (.tail _ (.tail _ (.head _))))) (by first | exact List.length_replicate | omega) ) ?_
            rintro v_ w33 ⟨rfl, hk19⟩
            have hS46 := SH.same hS45 hk19
            refine ⟨fun h_ => (KB.transN (KB.refl _ _) hk19), ?_⟩
            refine WS.pure rfl rfl (fun _ => LV.as (LV.geI rfl rfl) (decide_eq_false (by rw [hra, hrb]; exact MK_fin hgl.1 m1 m2 i3lo (by omega) jlo (by omega)))) ?_
            refine WS.nil (thenQ.n ?_)
            refine WC.condF rfl ?_
            refine WC.skip (blockQ.n <| thenQ.n ?_)
            refine WC.region ?_
            refine WL.lv rfl (LV.mv rfl) ?_
            refine WL.lv rfl (LV.add rfl rfl (wr64 (by omega) (by omega))) ?_
            refine WL.lv rfl (LV.asg rfl) ?_
            refine WL.nil (thenQ.n ?_)
            exact ⟨_, by omega, j + 1, by omega, by omega, hS46, rfl, Weak.cons rfl <| Weak.cons rfl <| Weak.cons rfl <| Weak.cons rfl <| Weak.cons rfl <| Weak.cons rfl <| Weak.cons rfl <| Weak.cons rfl <| Weak.nil _⟩
          · skip
            refine WC.exit (thenQ.x <| thenQ.x <| blockQ.hit <| blockQ.n <| thenQ.n ?_)
            refine WC.region ?_
            refine WL.lv rfl (LV.mv rfl) ?_
            refine WL.lv rfl (LV.add rfl rfl (wr64 (by omega) (by omega))) ?_
            refine WL.lv rfl (LV.asg rfl) ?_
            refine WL.nil (thenQ.n ?_)
            exact ⟨_, by omega, i3 + 1, by omega, by omega, hL10, rfl, Weak.cons rfl <| Weak.cons rfl <| Weak.cons rfl <| Weak.cons rfl <| Weak.cons rfl <| Weak.cons rfl <| Weak.cons rfl <| Weak.nil _⟩
        · skip
          refine WC.exit (thenQ.x <| thenQ.x <| blockQ.hit <| thenQ.n ?_)
          refine WC.seq ?_
          refine WC.region ?_
          refine WL.call rfl (XC.fn Try.func12 (by kernel_rfl) rfl rfl rfl) (live37_calls  ) ?_
          rintro v_ w34 ⟨rfl, hk20⟩
          have hS47 := SH.same hL9 hk20
          refine WL.lv rfl (LV.asg rfl) ?_
          refine WL.nil (thenQ.n ?_)
          refine WC.ret (?_)
          exact ⟨_, fun a ha => res1 rfl ha rfl, rfl, hS47.kb⟩

end Go.Proofs.Ytkceknbjlogehaa
