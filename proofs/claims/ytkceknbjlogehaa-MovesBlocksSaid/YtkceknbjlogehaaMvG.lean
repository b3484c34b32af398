/- Letters. -/
import Derived.Test.YtkceknbjlogehaaMvF
import Derived.Test.YtkceknbjlogehaaMvP
namespace Go.Proofs.Ytkceknbjlogehaa
open Go Go.Gv Go.RowKit Go.Mys Go.Num Go.Scr Go.Itn Go.Mov
set_option linter.unusedVariables false
set_option linter.unusedSimpArgs false

set_option maxHeartbeats 1000000 in
theorem signs_calls {w : World} {A_a : Option Addr} {n_a c_a : Nat} {a : List Ln} {A_b : Option Addr} {n_b c_b : Nat} {b : List Ln} {least : Int} (h_a : St No w (Rd eL (.slice A_a n_a c_a) a)) (hn_a : a.length = n_a) (h_b : St No w (Rd eL (.slice A_b n_b c_b) b)) (hn_b : b.length = n_b)  :
    Calls Try.prog 10 #[(.slice A_a n_a c_a), (.slice A_b n_b c_b), (.int .i64 least)] w fun e w' => ∃ v, e = .returned v ∧ (fun v w' => v = .tuple #[.string (SGX a b least), .string (SGY a b least), .int .i64 (FE a b least)] ∧ KB No w w') v w' := by
  subst hn_a hn_b
  have hS : SH w No w [] := SH.nil _ _
  refine calls (l := litOf [(.slice A_a a.length c_a), (.slice A_b b.length c_b), (.int .i64 least)] 0) Try.func10 rfl (n := 88) rfl (Nat.le_of_ble_eq_true rfl) (lit_args _) ?_
  refine WC.seq ?_
  refine WC.region ?_
  iterate 3 refine WL.lv rfl (LV.asg rfl) ?_
  refine WL.nil (thenQ.n ?_)
  refine WC.seq ?_
  refine WC.region ?_
  iterate 3 refine WL.lv rfl (LV.mv rfl) ?_
  refine WL.call rfl (XC.fn Try.func8 (by kernel_rfl) rfl rfl rfl) (find_calls (least := least) (SH.stN hS h_a) rfl (SH.stN hS h_b) rfl ) ?_
  rintro v_ w1 ⟨A1, c1, rfl, hS1⟩
  have hS2 := SH.joinN hS hS1
  refine WL.lv rfl (LV.mv rfl) ?_
  iterate 2 refine WL.lv rfl (LV.extract rfl rfl) ?_
  iterate 2 refine WL.lv rfl (LV.asg rfl) ?_
  refine WL.nil (thenQ.n ?_)
  iterate 2 refine WC.seq ?_
  refine WC.region ?_
  refine WL.lv rfl (LV.mv rfl) ?_
  refine WL.lv rfl (LV.neI rfl rfl) ?_
  refine WL.nil (thenQ.n ?_)
  refine WC.condP (p := (FE a b least) ≠ 0) rfl (fun hc1 => ?_) (fun hc1 => ?_)
  · skip
    refine WC.seq ?_
    refine WC.region ?_
    refine WL.lv rfl (LV.mv rfl) ?_
    iterate 3 refine WL.lv rfl (LV.asg rfl) ?_
    refine WL.nil (thenQ.n ?_)
    refine WC.ret (thenQ.r <| ?_)
    exact ⟨_, fun a ha => res3 rfl ha rfl rfl rfl, tup3 (congrArg Value.string (by unfold SGX; rw [if_pos (by omega)])) (congrArg Value.string (by unfold SGY; rw [if_pos (by omega)])) rfl, hS2.kb⟩
  · have hfe_ := FE_0 hc1
    have hsyl := STY_len (a := a) (b := b)
    have hfbl := (FB_good (a := a) (b := b) (least := least) (by omega) (by omega) (by omega) (by omega)).2
    have hla := NA_len a
    have hlb := NB_len a b
    refine WC.skip (thenQ.n ?_)
    refine WC.seq ?_
    refine WC.region ?_
    refine WL.xe rfl (XE.buildSlice (E := eU8) [(0, (.int .u8 45))] #[(.int .u8 45)] [45] hS2 Try.underlying58 ti5 rfl (by decide) (by kernel_rfl) (.inr rfl) rfl rfl (by decide)) ?_
    rintro _ w2 ⟨b1, rfl, hS3, hk1⟩
    refine WL.lv rfl (LV.mv rfl) ?_
    refine WL.lv rfl (LV.lenL Try.underlying22 rfl) ?_
    refine WL.call rfl (XC.fn Try.func26 (by kernel_rfl) rfl rfl rfl) (rep8_calls' (N := a.length) (by omega) (SH.rd hS3 (.head _)) (by omega)) ?_
    rintro v_ w3 ⟨b2, rfl, hS4⟩
    have hS5 := SH.joinN hS3 hS4
    refine WL.xe rfl (XE.buildSlice (E := eU8) [(0, (.int .u8 43))] #[(.int .u8 43)] [43] hS5 Try.underlying58 ti5 rfl (by decide) (by kernel_rfl) (.inr rfl) rfl rfl (by decide)) ?_
    rintro _ w4 ⟨b3, rfl, hS6, hk2⟩
    refine WL.lv rfl (LV.mv rfl) ?_
    refine WL.lv rfl (LV.lenL Try.underlying22 rfl) ?_
    refine WL.call rfl (XC.fn Try.func26 (by kernel_rfl) rfl rfl rfl) (rep8_calls' (N := b.length) (by omega) (SH.rd hS6 (.head _)) (by omega)) ?_
    rintro v_ w5 ⟨b4, rfl, hS7⟩
    have hS8 := SH.joinN hS6 hS7
    iterate 2 refine WL.lv rfl (LV.asg rfl) ?_
    refine WL.nil (thenQ.n ?_)
    refine WC.seq ?_
    refine WC.region ?_
    iterate 2 refine WL.lv rfl (LV.mv rfl) ?_
    refine WL.call rfl (XC.fn Try.func14 (by kernel_rfl) rfl rfl rfl) (stay_calls  (SH.stN hS8 h_a) rfl (SH.stN hS8 h_b) rfl ) ?_
    rintro v_ w6 ⟨A2, c2, rfl, hS9⟩
    have hS10 := SH.joinN hS8 hS9
    refine WL.lv rfl (LV.mv rfl) ?_
    iterate 2 refine WL.lv rfl (LV.extract rfl rfl) ?_
    iterate 2 refine WL.lv rfl (LV.asg rfl) ?_
    refine WL.nil (thenQ.n ?_)
    iterate 2 refine WC.seq ?_
    refine WC.region ?_
    refine WL.lv rfl (LV.mv rfl) ?_
    refine WL.lv rfl (LV.lenL Try.underlying35 rfl) ?_
    refine WL.lv rfl (LV.mv rfl) ?_
    refine WL.nil (thenQ.n ?_)
    refine WC.block ?_
    refine WC.loop (fun m_ f_ w_ => ∃ (x : List Int) (y : List Int) (ix : Int), (0 ≤ ix) ∧ (ix ≤ ((STY a b).length : Int)) ∧ (x = sgl 45 (pX ((STY a b).take ix.toNat)) [] a.length) ∧ (y = sgl 43 (pY ((STY a b).take ix.toNat)) [] b.length) ∧ (x.length = a.length) ∧ (y.length = b.length) ∧ SH w No w_ [rowE eP 41 (.slice A2 ((STY a b).length) c2) (STY a b), rowE eU8 5 (.slice (some ⟨b4, 0, none⟩) b.length b.length) y, rowE eU8 5 (.slice (some ⟨b3, 0, none⟩) 1 1) [43], rowE eU8 5 (.slice (some ⟨b2, 0, none⟩) a.length a.length) x, rowE eU8 5 (.slice (some ⟨b1, 0, none⟩) 1 1) [45], rowE eB3 43 (.slice A1 ((FB a b least).length) c1) (FB a b least)] ∧ m_ = ((((STY a b).length : Int) - ix).toNat) ∧ Weak (lit [(9, (.slice A1 ((FB a b least).length) c1)), (11, (.slice (some ⟨b2, 0, none⟩) a.length a.length)), (12, (.slice (some ⟨b4, 0, none⟩) b.length b.length)), (44, (.slice A2 ((STY a b).length) c2)), (45, (.int .i64 ((STY a b).length : Int))), (46, (.int .i64 ix))]) f_) _ ⟨(List.replicate a.length (45 : Int)), (List.replicate b.length (43 : Int)), 0, by omega, by omega, (sgl_0 45 _), (sgl_0 43 _), (by simp), (by simp), hS10, rfl, Weak.cons rfl <| Weak.cons rfl <| Weak.cons rfl <| Weak.cons rfl <| Weak.cons rfl <| Weak.cons rfl <| Weak.nil _⟩ ?_
    rintro m1 f1 w7 ⟨x, y, ix, ixlo, ixhi, fx, fy, lx, ly, hL1, rfl, hw1⟩
    refine WC.weak hw1 ?_
    clear hw1
    refine WC.seq ?_
    refine WC.region ?_
    refine WL.lv rfl (LV.ltI rfl rfl) ?_
    refine WL.nil (thenQ.n ?_)
    refine WC.seq ?_
    refine WC.condP (p := ix < ((STY a b).length : Int)) rfl (fun hk => ?_) (fun hk => ?_)
    · have hp_ := STY_ok (a := a) (b := b) (by omega) (by omega) ixlo hk
      refine WC.skip (thenQ.n ?_)
      refine WC.seq ?_
      refine WC.block ?_
      refine WC.seq ?_
      refine WC.region ?_
      obtain ⟨A3, c3, e1, g1⟩ := St.elt (SH.rd hL1 (.head _)) (0, 0) ix (by omega) (by omega)
      refine WL.lv rfl (LV.idxA Try.underlying35 ti41.sz rfl e1 rfl (by omega) (by omega)) ?_
      refine WL.lv rfl (LV.loadAgg (cs := [(.int .i64 (((STY a b).getD (ix).toNat (0, 0)).1)), (.int .i64 (((STY a b).getD (ix).toNat (0, 0)).2))]) Try.underlying41 rfl ti41 rfl rfl (fun j u hu => g1 _ (KB.refl No _) j u hu)) ?_
      refine WL.xe rfl (XE.alloc #[(.int .i64 0), (.int .i64 0)] hL1 ti41 rfl) ?_
      rintro _ w8 ⟨b5, rfl, hS11, hk3⟩
      refine WL.xse rfl (XSE.blkAgg #[(.int .i64 (((STY a b).getD (ix).toNat (0, 0)).1)), (.int .i64 (((STY a b).getD (ix).toNat (0, 0)).2))] hS11 (by kernel_rfl) rfl (by kernel_rfl) rfl rfl) ?_
      rintro w9 ⟨hS12, hk4⟩
      refine WL.nil (thenQ.n ?_)
      have hS13 := SH.drew hS12
      refine WC.regionD [] (fun _ => True) [(.pure, 0), (.pure, 1), (.pure, 3), (.pure, 4), (.fork, 0), (.fork, 0), (.fork, 0), (.fork, 0), (.fork, 0), (.fork, 0)] (by kernel_rfl) (by kernel_rfl) trivial ?_
      refine WS.pure rfl rfl (fun _ => LV.mv rfl) ?_
      refine WS.pure rfl rfl (fun _ => LV.idxArr Try.underlying41 ti3.sz rfl rfl (by decide) (by decide)) ?_
      refine WS.pure rfl rfl (fun _ => LV.mv rfl) ?_
      refine WS.pure rfl rfl (fun _ => LV.idxArr Try.underlying41 ti3.sz rfl rfl (by decide) (by decide)) ?_
      refine WS.fork (WSX.two 2 5 (by kernel_rfl) ?_ ?_)
      · refine WO.lvT rfl rfl (LV.load1 Try.underlying3 rfl rfl (Blk.cellN (SH.at hS13 (.head _)) 0 rfl _ (KB.refl No _))) ?_
        refine WSX.of [(.pure, 6), (.fork, 0), (.fork, 0), (.fork, 0), (.fork, 0)] (by kernel_rfl) rfl ?_
        obtain ⟨A4, c4, e2, g2⟩ := St.elt (SH.rd hS13 (.tail _ (.tail _ (.tail _ (.tail _ (.head _)))))) 0 (((STY a b).getD (ix).toNat (0, 0)).1) (by omega) (by omega)
        refine WS.pure rfl rfl (fun _ => LV.idxA Try.underlying58 ti5.sz rfl e2 rfl (by omega) (by omega)) ?_
        refine WS.fork (WSX.two 5 7 (by kernel_rfl) ?_ ?_)
        · refine WO.lvT rfl rfl (LV.load1 Try.underlying3 rfl rfl (Blk.cellN (SH.at hS13 (.head _)) 1 rfl _ (KB.refl No _))) ?_
          refine WSX.of [(.forced, 7), (.pure, 8), (.forced, 9)] (by kernel_rfl) rfl ?_
          have hS15 : SH w No w9.drew [rowE eU8 5 (.slice (some ⟨b2, 0, none⟩) a.length a.length) x, blkE b5 41 #[(.int .i64 (((STY a b).getD (ix).toNat (0, 0)).1)), (.int .i64 (((STY a b).getD (ix).toNat (0, 0)).2))], rowE eP 41 (.slice A2 ((STY a b).length) c2) (STY a b), rowE eU8 5 (.slice (some ⟨b4, 0, none⟩) b.length b.length) y, rowE eU8 5 (.slice (some ⟨b3, 0, none⟩) 1 1) [43], rowE eU8 5 (.slice (some ⟨b1, 0, none⟩) 1 1) [45], rowE eB3 43 (.slice A1 ((FB a b least).length) c1) (FB a b least)] := (SH.front [blkE b5 41 #[(.int .i64 (((STY a b).getD (ix).toNat (0, 0)).1)), (.int .i64 (((STY a b).getD (ix).toNat (0, 0)).2))], rowE eP 41 (.slice A2 ((STY a b).length) c2) (STY a b), rowE eU8 5 (.slice (some ⟨b4, 0, none⟩) b.length b.length) y, rowE eU8 5 (.slice (some ⟨b3, 0, none⟩) 1 1) [43]] hS13)
          refine WS.xse rfl rfl (XSE.row1 (i := ((STY a b).getD (ix).toNat (0, 0)).1) (o := 0) (k := 0) 61 hS15 e2 (by omega) (by omega) (by decide) ti5.sz rfl rfl rfl rfl) ?_
          rintro w10 ⟨hS14, hk5⟩
          refine ⟨fun h_ => trivial, ?_⟩
          obtain ⟨A5, c5, e3, g3⟩ := St.elt (SH.rd hS13 (.tail _ (.tail _ (.head _)))) 0 (((STY a b).getD (ix).toNat (0, 0)).2) (by omega) (by omega)
          refine WS.pure rfl rfl (fun _ => LV.idxA Try.underlying58 ti5.sz rfl e3 rfl (by omega) (by omega)) ?_
          have hS17 : SH w No w10 [rowE eU8 5 (.slice (some ⟨b4, 0, none⟩) b.length b.length) y, rowE eU8 5 (.slice (some ⟨b2, 0, none⟩) a.length a.length) (x.set (((STY a b).getD (ix).toNat (0, 0)).1).toNat 61), blkE b5 41 #[(.int .i64 (((STY a b).getD (ix).toNat (0, 0)).1)), (.int .i64 (((STY a b).getD (ix).toNat (0, 0)).2))], rowE eP 41 (.slice A2 ((STY a b).length) c2) (STY a b), rowE eU8 5 (.slice (some ⟨b3, 0, none⟩) 1 1) [43], rowE eU8 5 (.slice (some ⟨b1, 0, none⟩) 1 1) [45], rowE eB3 43 (.slice A1 ((FB a b least).length) c1) (FB a b least)] := (SH.front [rowE eU8 5 (.slice (some ⟨b2, 0, none⟩) a.length a.length) (x.set (((STY a b).getD (ix).toNat (0, 0)).1).toNat 61), blkE b5 41 #[(.int .i64 (((STY a b).getD (ix).toNat (0, 0)).1)), (.int .i64 (((STY a b).getD (ix).toNat (0, 0)).2))], rowE eP 41 (.slice A2 ((STY a b).length) c2) (STY a b)] hS14)
          refine WS.xse rfl rfl (XSE.row1 (i := ((STY a b).getD (ix).toNat (0, 0)).2) (o := 0) (k := 0) 61 hS17 e3 (by omega) (by omega) (by decide) ti5.sz rfl rfl rfl rfl) ?_
          rintro w11 ⟨hS16, hk6⟩
          refine ⟨fun h_ => trivial, ?_⟩
          refine WS.nil (blockQ.n <| thenQ.n ?_)
          refine WC.region ?_
          refine WL.lv rfl (LV.add rfl rfl (wr64 (by omega) (by omega))) ?_
          refine WL.lv rfl (LV.mv rfl) ?_
          refine WL.nil (thenQ.n ?_)
          have hS18 : SH w No w11 [rowE eP 41 (.slice A2 ((STY a b).length) c2) (STY a b), rowE eU8 5 (.slice (some ⟨b4, 0, none⟩) b.length b.length) (y.set (((STY a b).getD (ix).toNat (0, 0)).2).toNat 61), rowE eU8 5 (.slice (some ⟨b3, 0, none⟩) 1 1) [43], rowE eU8 5 (.slice (some ⟨b2, 0, none⟩) a.length a.length) (x.set (((STY a b).getD (ix).toNat (0, 0)).1).toNat 61), rowE eU8 5 (.slice (some ⟨b1, 0, none⟩) 1 1) [45], rowE eB3 43 (.slice A1 ((FB a b least).length) c1) (FB a b least)] := (SH.take 6 rfl (SH.front [rowE eU8 5 (.slice (some ⟨b4, 0, none⟩) b.length b.length) (y.set (((STY a b).getD (ix).toNat (0, 0)).2).toNat 61), rowE eU8 5 (.slice (some ⟨b3, 0, none⟩) 1 1) [43], rowE eU8 5 (.slice (some ⟨b2, 0, none⟩) a.length a.length) (x.set (((STY a b).getD (ix).toNat (0, 0)).1).toNat 61), rowE eU8 5 (.slice (some ⟨b1, 0, none⟩) 1 1) [45], rowE eB3 43 (.slice A1 ((FB a b least).length) c1) (FB a b least), blkE b5 41 #[(.int .i64 (((STY a b).getD (ix).toNat (0, 0)).1)), (.int .i64 (((STY a b).getD (ix).toNat (0, 0)).2))]] (SH.front [rowE eU8 5 (.slice (some ⟨b3, 0, none⟩) 1 1) [43], rowE eU8 5 (.slice (some ⟨b2, 0, none⟩) a.length a.length) (x.set (((STY a b).getD (ix).toNat (0, 0)).1).toNat 61), rowE eU8 5 (.slice (some ⟨b1, 0, none⟩) 1 1) [45], rowE eB3 43 (.slice A1 ((FB a b least).length) c1) (FB a b least)] (SH.front [rowE eU8 5 (.slice (some ⟨b2, 0, none⟩) a.length a.length) (x.set (((STY a b).getD (ix).toNat (0, 0)).1).toNat 61), rowE eU8 5 (.slice (some ⟨b1, 0, none⟩) 1 1) [45], rowE eB3 43 (.slice A1 ((FB a b least).length) c1) (FB a b least), rowE eU8 5 (.slice (some ⟨b4, 0, none⟩) b.length b.length) (y.set (((STY a b).getD (ix).toNat (0, 0)).2).toNat 61), blkE b5 41 #[(.int .i64 (((STY a b).getD (ix).toNat (0, 0)).1)), (.int .i64 (((STY a b).getD (ix).toNat (0, 0)).2))], rowE eP 41 (.slice A2 ((STY a b).length) c2) (STY a b)] (SH.front [rowE eU8 5 (.slice (some ⟨b1, 0, none⟩) 1 1) [45], rowE eB3 43 (.slice A1 ((FB a b least).length) c1) (FB a b least), rowE eU8 5 (.slice (some ⟨b4, 0, none⟩) b.length b.length) (y.set (((STY a b).getD (ix).toNat (0, 0)).2).toNat 61)] (SH.front [rowE eB3 43 (.slice A1 ((FB a b least).length) c1) (FB a b least), rowE eU8 5 (.slice (some ⟨b4, 0, none⟩) b.length b.length) (y.set (((STY a b).getD (ix).toNat (0, 0)).2).toNat 61), rowE eU8 5 (.slice (some ⟨b2, 0, none⟩) a.length a.length) (x.set (((STY a b).getD (ix).toNat (0, 0)).1).toNat 61), blkE b5 41 #[(.int .i64 (((STY a b).getD (ix).toNat (0, 0)).1)), (.int .i64 (((STY a b).getD (ix).toNat (0, 0)).2))], rowE eP 41 (.slice A2 ((STY a b).length) c2) (STY a b), rowE eU8 5 (.slice (some ⟨b3, 0, none⟩) 1 1) [43]] (SH.front [rowE eU8 5 (.slice (some ⟨b4, 0, none⟩) b.length b.length) (y.set (((STY a b).getD (ix).toNat (0, 0)).2).toNat 61), rowE eU8 5 (.slice (some ⟨b2, 0, none⟩) a.length a.length) (x.set (((STY a b).getD (ix).toNat (0, 0)).1).toNat 61), blkE b5 41 #[(.int .i64 (((STY a b).getD (ix).toNat (0, 0)).1)), (.int .i64 (((STY a b).getD (ix).toNat (0, 0)).2))], rowE eP 41 (.slice A2 ((STY a b).length) c2) (STY a b), rowE eU8 5 (.slice (some ⟨b3, 0, none⟩) 1 1) [43], rowE eU8 5 (.slice (some ⟨b1, 0, none⟩) 1 1) [45]] hS16)))))))
          exact ⟨_, by omega, (x.set (((STY a b).getD (ix).toNat (0, 0)).1).toNat 61), (y.set (((STY a b).getD (ix).toNat (0, 0)).2).toNat 61), ix + 1, by omega, by omega, (sgX_pair ixlo hk fx (by omega)), (sgY_pair ixlo hk fy (by omega)), (by rw [List.length_set]; exact lx), (by rw [List.length_set]; exact ly), hS18, rfl, Weak.cons rfl <| Weak.cons rfl <| Weak.cons rfl <| Weak.cons rfl <| Weak.cons rfl <| Weak.cons rfl <| Weak.nil _⟩
        · have hS20 : SH w No w9.drew [rowE eU8 5 (.slice (some ⟨b2, 0, none⟩) a.length a.length) x, blkE b5 41 #[(.int .i64 (((STY a b).getD (ix).toNat (0, 0)).1)), (.int .i64 (((STY a b).getD (ix).toNat (0, 0)).2))], rowE eP 41 (.slice A2 ((STY a b).length) c2) (STY a b), rowE eU8 5 (.slice (some ⟨b4, 0, none⟩) b.length b.length) y, rowE eU8 5 (.slice (some ⟨b3, 0, none⟩) 1 1) [43], rowE eU8 5 (.slice (some ⟨b1, 0, none⟩) 1 1) [45], rowE eB3 43 (.slice A1 ((FB a b least).length) c1) (FB a b least)] := (SH.front [blkE b5 41 #[(.int .i64 (((STY a b).getD (ix).toNat (0, 0)).1)), (.int .i64 (((STY a b).getD (ix).toNat (0, 0)).2))], rowE eP 41 (.slice A2 ((STY a b).length) c2) (STY a b), rowE eU8 5 (.slice (some ⟨b4, 0, none⟩) b.length b.length) y, rowE eU8 5 (.slice (some ⟨b3, 0, none⟩) 1 1) [43]] hS13)
          refine WO.xse rfl rfl (XSE.row1 (i := ((STY a b).getD (ix).toNat (0, 0)).1) (o := 0) (k := 0) 61 hS20 e2 (by omega) (by omega) (by decide) ti5.sz rfl rfl rfl rfl) ?_
          rintro w12 ⟨hS19, hk7⟩
          refine ⟨fun h_ => trivial, ?_⟩
          refine WSX.of [(.forced, 5), (.pure, 8), (.forced, 9)] (by kernel_rfl) rfl ?_
          refine WS.lvT rfl rfl (LV.load1 Try.underlying3 rfl rfl (Blk.cellN (SH.at hS19 (.tail _ (.head _))) 1 rfl _ (KB.refl No _))) ?_
          obtain ⟨A6, c6, e4, g4⟩ := St.elt (SH.rd hS13 (.tail _ (.tail _ (.head _)))) 0 (((STY a b).getD (ix).toNat (0, 0)).2) (by omega) (by omega)
          refine WS.pure rfl rfl (fun _ => LV.idxA Try.underlying58 ti5.sz rfl e4 rfl (by omega) (by omega)) ?_
          have hS22 : SH w No w12 [rowE eU8 5 (.slice (some ⟨b4, 0, none⟩) b.length b.length) y, rowE eU8 5 (.slice (some ⟨b2, 0, none⟩) a.length a.length) (x.set (((STY a b).getD (ix).toNat (0, 0)).1).toNat 61), blkE b5 41 #[(.int .i64 (((STY a b).getD (ix).toNat (0, 0)).1)), (.int .i64 (((STY a b).getD (ix).toNat (0, 0)).2))], rowE eP 41 (.slice A2 ((STY a b).length) c2) (STY a b), rowE eU8 5 (.slice (some ⟨b3, 0, none⟩) 1 1) [43], rowE eU8 5 (.slice (some ⟨b1, 0, none⟩) 1 1) [45], rowE eB3 43 (.slice A1 ((FB a b least).length) c1) (FB a b least)] := (SH.front [rowE eU8 5 (.slice (some ⟨b2, 0, none⟩) a.length a.length) (x.set (((STY a b).getD (ix).toNat (0, 0)).1).toNat 61), blkE b5 41 #[(.int .i64 (((STY a b).getD (ix).toNat (0, 0)).1)), (.int .i64 (((STY a b).getD (ix).toNat (0, 0)).2))], rowE eP 41 (.slice A2 ((STY a b).length) c2) (STY a b)] hS19)
          refine WS.xse rfl rfl (XSE.row1 (i := ((STY a b).getD (ix).toNat (0, 0)).2) (o := 0) (k := 0) 61 hS22 e4 (by omega) (by omega) (by decide) ti5.sz rfl rfl rfl rfl) ?_
          rintro w13 ⟨hS21, hk8⟩
          refine ⟨fun h_ => trivial, ?_⟩
          refine WS.nil (blockQ.n <| thenQ.n ?_)
          refine WC.region ?_
          refine WL.lv rfl (LV.add rfl rfl (wr64 (by omega) (by omega))) ?_
          refine WL.lv rfl (LV.mv rfl) ?_
          refine WL.nil (thenQ.n ?_)
          have hS23 : SH w No w13 [rowE eP 41 (.slice A2 ((STY a b).length) c2) (STY a b), rowE eU8 5 (.slice (some ⟨b4, 0, none⟩) b.length b.length) (y.set (((STY a b).getD (ix).toNat (0, 0)).2).toNat 61), rowE eU8 5 (.slice (some ⟨b3, 0, none⟩) 1 1) [43], rowE eU8 5 (.slice (some ⟨b2, 0, none⟩) a.length a.length) (x.set (((STY a b).getD (ix).toNat (0, 0)).1).toNat 61), rowE eU8 5 (.slice (some ⟨b1, 0, none⟩) 1 1) [45], rowE eB3 43 (.slice A1 ((FB a b least).length) c1) (FB a b least)] := (SH.take 6 rfl (SH.front [rowE eU8 5 (.slice (some ⟨b4, 0, none⟩) b.length b.length) (y.set (((STY a b).getD (ix).toNat (0, 0)).2).toNat 61), rowE eU8 5 (.slice (some ⟨b3, 0, none⟩) 1 1) [43], rowE eU8 5 (.slice (some ⟨b2, 0, none⟩) a.length a.length) (x.set (((STY a b).getD (ix).toNat (0, 0)).1).toNat 61), rowE eU8 5 (.slice (some ⟨b1, 0, none⟩) 1 1) [45], rowE eB3 43 (.slice A1 ((FB a b least).length) c1) (FB a b least), blkE b5 41 #[(.int .i64 (((STY a b).getD (ix).toNat (0, 0)).1)), (.int .i64 (((STY a b).getD (ix).toNat (0, 0)).2))]] (SH.front [rowE eU8 5 (.slice (some ⟨b3, 0, none⟩) 1 1) [43], rowE eU8 5 (.slice (some ⟨b2, 0, none⟩) a.length a.length) (x.set (((STY a b).getD (ix).toNat (0, 0)).1).toNat 61), rowE eU8 5 (.slice (some ⟨b1, 0, none⟩) 1 1) [45], rowE eB3 43 (.slice A1 ((FB a b least).length) c1) (FB a b least)] (SH.front [rowE eU8 5 (.slice (some ⟨b2, 0, none⟩) a.length a.length) (x.set (((STY a b).getD (ix).toNat (0, 0)).1).toNat 61), rowE eU8 5 (.slice (some ⟨b1, 0, none⟩) 1 1) [45], rowE eB3 43 (.slice A1 ((FB a b least).length) c1) (FB a b least), rowE eU8 5 (.slice (some ⟨b4, 0, none⟩) b.length b.length) (y.set (((STY a b).getD (ix).toNat (0, 0)).2).toNat 61), blkE b5 41 #[(.int .i64 (((STY a b).getD (ix).toNat (0, 0)).1)), (.int .i64 (((STY a b).getD (ix).toNat (0, 0)).2))], rowE eP 41 (.slice A2 ((STY a b).length) c2) (STY a b)] (SH.front [rowE eU8 5 (.slice (some ⟨b1, 0, none⟩) 1 1) [45], rowE eB3 43 (.slice A1 ((FB a b least).length) c1) (FB a b least), rowE eU8 5 (.slice (some ⟨b4, 0, none⟩) b.length b.length) (y.set (((STY a b).getD (ix).toNat (0, 0)).2).toNat 61)] (SH.front [rowE eB3 43 (.slice A1 ((FB a b least).length) c1) (FB a b least), rowE eU8 5 (.slice (some ⟨b4, 0, none⟩) b.length b.length) (y.set (((STY a b).getD (ix).toNat (0, 0)).2).toNat 61), rowE eU8 5 (.slice (some ⟨b2, 0, none⟩) a.length a.length) (x.set (((STY a b).getD (ix).toNat (0, 0)).1).toNat 61), blkE b5 41 #[(.int .i64 (((STY a b).getD (ix).toNat (0, 0)).1)), (.int .i64 (((STY a b).getD (ix).toNat (0, 0)).2))], rowE eP 41 (.slice A2 ((STY a b).length) c2) (STY a b), rowE eU8 5 (.slice (some ⟨b3, 0, none⟩) 1 1) [43]] (SH.front [rowE eU8 5 (.slice (some ⟨b4, 0, none⟩) b.length b.length) (y.set (((STY a b).getD (ix).toNat (0, 0)).2).toNat 61), rowE eU8 5 (.slice (some ⟨b2, 0, none⟩) a.length a.length) (x.set (((STY a b).getD (ix).toNat (0, 0)).1).toNat 61), blkE b5 41 #[(.int .i64 (((STY a b).getD (ix).toNat (0, 0)).1)), (.int .i64 (((STY a b).getD (ix).toNat (0, 0)).2))], rowE eP 41 (.slice A2 ((STY a b).length) c2) (STY a b), rowE eU8 5 (.slice (some ⟨b3, 0, none⟩) 1 1) [43], rowE eU8 5 (.slice (some ⟨b1, 0, none⟩) 1 1) [45]] hS21)))))))
          exact ⟨_, by omega, (x.set (((STY a b).getD (ix).toNat (0, 0)).1).toNat 61), (y.set (((STY a b).getD (ix).toNat (0, 0)).2).toNat 61), ix + 1, by omega, by omega, (sgX_pair ixlo hk fx (by omega)), (sgY_pair ixlo hk fy (by omega)), (by rw [List.length_set]; exact lx), (by rw [List.length_set]; exact ly), hS23, rfl, Weak.cons rfl <| Weak.cons rfl <| Weak.cons rfl <| Weak.cons rfl <| Weak.cons rfl <| Weak.cons rfl <| Weak.nil _⟩
      · refine WO.lvT rfl rfl (LV.load1 Try.underlying3 rfl rfl (Blk.cellN (SH.at hS13 (.head _)) 1 rfl _ (KB.refl No _))) ?_
        refine WSX.of [(.forced, 2), (.pure, 6), (.forced, 7), (.pure, 8), (.forced, 9)] (by kernel_rfl) rfl ?_
        refine WS.lvT rfl rfl (LV.load1 Try.underlying3 rfl rfl (Blk.cellN (SH.at hS13 (.head _)) 0 rfl _ (KB.refl No _))) ?_
        obtain ⟨A7, c7, e5, g5⟩ := St.elt (SH.rd hS13 (.tail _ (.tail _ (.tail _ (.tail _ (.head _)))))) 0 (((STY a b).getD (ix).toNat (0, 0)).1) (by omega) (by omega)
        refine WS.pure rfl rfl (fun _ => LV.idxA Try.underlying58 ti5.sz rfl e5 rfl (by omega) (by omega)) ?_
        have hS25 : SH w No w9.drew [rowE eU8 5 (.slice (some ⟨b2, 0, none⟩) a.length a.length) x, blkE b5 41 #[(.int .i64 (((STY a b).getD (ix).toNat (0, 0)).1)), (.int .i64 (((STY a b).getD (ix).toNat (0, 0)).2))], rowE eP 41 (.slice A2 ((STY a b).length) c2) (STY a b), rowE eU8 5 (.slice (some ⟨b4, 0, none⟩) b.length b.length) y, rowE eU8 5 (.slice (some ⟨b3, 0, none⟩) 1 1) [43], rowE eU8 5 (.slice (some ⟨b1, 0, none⟩) 1 1) [45], rowE eB3 43 (.slice A1 ((FB a b least).length) c1) (FB a b least)] := (SH.front [blkE b5 41 #[(.int .i64 (((STY a b).getD (ix).toNat (0, 0)).1)), (.int .i64 (((STY a b).getD (ix).toNat (0, 0)).2))], rowE eP 41 (.slice A2 ((STY a b).length) c2) (STY a b), rowE eU8 5 (.slice (some ⟨b4, 0, none⟩) b.length b.length) y, rowE eU8 5 (.slice (some ⟨b3, 0, none⟩) 1 1) [43]] hS13)
        refine WS.xse rfl rfl (XSE.row1 (i := ((STY a b).getD (ix).toNat (0, 0)).1) (o := 0) (k := 0) 61 hS25 e5 (by omega) (by omega) (by decide) ti5.sz rfl rfl rfl rfl) ?_
        rintro w14 ⟨hS24, hk9⟩
        refine ⟨fun h_ => trivial, ?_⟩
        obtain ⟨A8, c8, e6, g6⟩ := St.elt (SH.rd hS13 (.tail _ (.tail _ (.head _)))) 0 (((STY a b).getD (ix).toNat (0, 0)).2) (by omega) (by omega)
        refine WS.pure rfl rfl (fun _ => LV.idxA Try.underlying58 ti5.sz rfl e6 rfl (by omega) (by omega)) ?_
        have hS27 : SH w No w14 [rowE eU8 5 (.slice (some ⟨b4, 0, none⟩) b.length b.length) y, rowE eU8 5 (.slice (some ⟨b2, 0, none⟩) a.length a.length) (x.set (((STY a b).getD (ix).toNat (0, 0)).1).toNat 61), blkE b5 41 #[(.int .i64 (((STY a b).getD (ix).toNat (0, 0)).1)), (.int .i64 (((STY a b).getD (ix).toNat (0, 0)).2))], rowE eP 41 (.slice A2 ((STY a b).length) c2) (STY a b), rowE eU8 5 (.slice (some ⟨b3, 0, none⟩) 1 1) [43], rowE eU8 5 (.slice (some ⟨b1, 0, none⟩) 1 1) [45], rowE eB3 43 (.slice A1 ((FB a b least).length) c1) (FB a b least)] := (SH.front [rowE eU8 5 (.slice (some ⟨b2, 0, none⟩) a.length a.length) (x.set (((STY a b).getD (ix).toNat (0, 0)).1).toNat 61), blkE b5 41 #[(.int .i64 (((STY a b).getD (ix).toNat (0, 0)).1)), (.int .i64 (((STY a b).getD (ix).toNat (0, 0)).2))], rowE eP 41 (.slice A2 ((STY a b).length) c2) (STY a b)] hS24)
        refine WS.xse rfl rfl (XSE.row1 (i := ((STY a b).getD (ix).toNat (0, 0)).2) (o := 0) (k := 0) 61 hS27 e6 (by omega) (by omega) (by decide) ti5.sz rfl rfl rfl rfl) ?_
        rintro w15 ⟨hS26, hk10⟩
        refine ⟨fun h_ => trivial, ?_⟩
        refine WS.nil (blockQ.n <| thenQ.n ?_)
        refine WC.region ?_
        refine WL.lv rfl (LV.add rfl rfl (wr64 (by omega) (by omega))) ?_
        refine WL.lv rfl (LV.mv rfl) ?_
        refine WL.nil (thenQ.n ?_)
        have hS28 : SH w No w15 [rowE eP 41 (.slice A2 ((STY a b).length) c2) (STY a b), rowE eU8 5 (.slice (some ⟨b4, 0, none⟩) b.length b.length) (y.set (((STY a b).getD (ix).toNat (0, 0)).2).toNat 61), rowE eU8 5 (.slice (some ⟨b3, 0, none⟩) 1 1) [43], rowE eU8 5 (.slice (some ⟨b2, 0, none⟩) a.length a.length) (x.set (((STY a b).getD (ix).toNat (0, 0)).1).toNat 61), rowE eU8 5 (.slice (some ⟨b1, 0, none⟩) 1 1) [45], rowE eB3 43 (.slice A1 ((FB a b least).length) c1) (FB a b least)] := (SH.take 6 rfl (SH.front [rowE eU8 5 (.slice (some ⟨b4, 0, none⟩) b.length b.length) (y.set (((STY a b).getD (ix).toNat (0, 0)).2).toNat 61), rowE eU8 5 (.slice (some ⟨b3, 0, none⟩) 1 1) [43], rowE eU8 5 (.slice (some ⟨b2, 0, none⟩) a.length a.length) (x.set (((STY a b).getD (ix).toNat (0, 0)).1).toNat 61), rowE eU8 5 (.slice (some ⟨b1, 0, none⟩) 1 1) [45], rowE eB3 43 (.slice A1 ((FB a b least).length) c1) (FB a b least), blkE b5 41 #[(.int .i64 (((STY a b).getD (ix).toNat (0, 0)).1)), (.int .i64 (((STY a b).getD (ix).toNat (0, 0)).2))]] (SH.front [rowE eU8 5 (.slice (some ⟨b3, 0, none⟩) 1 1) [43], rowE eU8 5 (.slice (some ⟨b2, 0, none⟩) a.length a.length) (x.set (((STY a b).getD (ix).toNat (0, 0)).1).toNat 61), rowE eU8 5 (.slice (some ⟨b1, 0, none⟩) 1 1) [45], rowE eB3 43 (.slice A1 ((FB a b least).length) c1) (FB a b least)] (SH.front [rowE eU8 5 (.slice (some ⟨b2, 0, none⟩) a.length a.length) (x.set (((STY a b).getD (ix).toNat (0, 0)).1).toNat 61), rowE eU8 5 (.slice (some ⟨b1, 0, none⟩) 1 1) [45], rowE eB3 43 (.slice A1 ((FB a b least).length) c1) (FB a b least), rowE eU8 5 (.slice (some ⟨b4, 0, none⟩) b.length b.length) (y.set (((STY a b).getD (ix).toNat (0, 0)).2).toNat 61), blkE b5 41 #[(.int .i64 (((STY a b).getD (ix).toNat (0, 0)).1)), (.int .i64 (((STY a b).getD (ix).toNat (0, 0)).2))], rowE eP 41 (.slice A2 ((STY a b).length) c2) (STY a b)] (SH.front [rowE eU8 5 (.slice (some ⟨b1, 0, none⟩) 1 1) [45], rowE eB3 43 (.slice A1 ((FB a b least).length) c1) (FB a b least), rowE eU8 5 (.slice (some ⟨b4, 0, none⟩) b.length b.length) (y.set (((STY a b).getD (ix).toNat (0, 0)).2).toNat 61)] (SH.front [rowE eB3 43 (.slice A1 ((FB a b least).length) c1) (FB a b least), rowE eU8 5 (.slice (some ⟨b4, 0, none⟩) b.length b.length) (y.set (((STY a b).getD (ix).toNat (0, 0)).2).toNat 61), rowE eU8 5 (.slice (some ⟨b2, 0, none⟩) a.length a.length) (x.set (((STY a b).getD (ix).toNat (0, 0)).1).toNat 61), blkE b5 41 #[(.int .i64 (((STY a b).getD (ix).toNat (0, 0)).1)), (.int .i64 (((STY a b).getD (ix).toNat (0, 0)).2))], rowE eP 41 (.slice A2 ((STY a b).length) c2) (STY a b), rowE eU8 5 (.slice (some ⟨b3, 0, none⟩) 1 1) [43]] (SH.front [rowE eU8 5 (.slice (some ⟨b4, 0, none⟩) b.length b.length) (y.set (((STY a b).getD (ix).toNat (0, 0)).2).toNat 61), rowE eU8 5 (.slice (some ⟨b2, 0, none⟩) a.length a.length) (x.set (((STY a b).getD (ix).toNat (0, 0)).1).toNat 61), blkE b5 41 #[(.int .i64 (((STY a b).getD (ix).toNat (0, 0)).1)), (.int .i64 (((STY a b).getD (ix).toNat (0, 0)).2))], rowE eP 41 (.slice A2 ((STY a b).length) c2) (STY a b), rowE eU8 5 (.slice (some ⟨b3, 0, none⟩) 1 1) [43], rowE eU8 5 (.slice (some ⟨b1, 0, none⟩) 1 1) [45]] hS26)))))))
        exact ⟨_, by omega, (x.set (((STY a b).getD (ix).toNat (0, 0)).1).toNat 61), (y.set (((STY a b).getD (ix).toNat (0, 0)).2).toNat 61), ix + 1, by omega, by omega, (sgX_pair ixlo hk fx (by omega)), (sgY_pair ixlo hk fy (by omega)), (by rw [List.length_set]; exact lx), (by rw [List.length_set]; exact ly), hS28, rfl, Weak.cons rfl <| Weak.cons rfl <| Weak.cons rfl <| Weak.cons rfl <| Weak.cons rfl <| Weak.cons rfl <| Weak.nil _⟩
    · skip
      refine WC.exit (thenQ.x <| thenQ.x <| blockQ.hit <| thenQ.n ?_)
      iterate 2 refine WC.seq ?_
      refine WC.region ?_
      refine WL.lv rfl (LV.mv rfl) ?_
      refine WL.lv rfl (LV.lenL Try.underlying24 rfl) ?_
      refine WL.lv rfl (LV.mv rfl) ?_
      refine WL.nil (thenQ.n ?_)
      refine WC.block ?_
      refine WC.loop (fun m_ f_ w_ => ∃ (x2 : List Int) (y2 : List Int) (ix2 : Int), (0 ≤ ix2) ∧ (ix2 ≤ ((FB a b least).length : Int)) ∧ (x2 = sgl 45 (pX (STY a b)) (bX ((FB a b least).take ix2.toNat)) a.length) ∧ (y2 = sgl 43 (pY (STY a b)) (bY ((FB a b least).take ix2.toNat)) b.length) ∧ (x2.length = a.length) ∧ (y2.length = b.length) ∧ SH w No w_ [rowE eP 41 (.slice A2 ((STY a b).length) c2) (STY a b), rowE eU8 5 (.slice (some ⟨b4, 0, none⟩) b.length b.length) y2, rowE eU8 5 (.slice (some ⟨b3, 0, none⟩) 1 1) [43], rowE eU8 5 (.slice (some ⟨b2, 0, none⟩) a.length a.length) x2, rowE eU8 5 (.slice (some ⟨b1, 0, none⟩) 1 1) [45], rowE eB3 43 (.slice A1 ((FB a b least).length) c1) (FB a b least)] ∧ m_ = ((((FB a b least).length : Int) - ix2).toNat) ∧ Weak (lit [(11, (.slice (some ⟨b2, 0, none⟩) a.length a.length)), (12, (.slice (some ⟨b4, 0, none⟩) b.length b.length)), (59, (.slice A1 ((FB a b least).length) c1)), (60, (.int .i64 ((FB a b least).length : Int))), (61, (.int .i64 ix2))]) f_) _ ⟨x, y, 0, by omega, by omega, (by rw [fx, take_all (by omega)]; rfl), (by rw [fy, take_all (by omega)]; rfl), lx, ly, hL1, rfl, Weak.cons rfl <| Weak.cons rfl <| Weak.cons rfl <| Weak.cons rfl <| Weak.cons rfl <| Weak.nil _⟩ ?_
      rintro m2 f2 w16 ⟨x2, y2, ix2, ix2lo, ix2hi, gx, gy, mx, my, hL2, rfl, hw2⟩
      refine WC.weak hw2 ?_
      clear hw2
      refine WC.seq ?_
      refine WC.region ?_
      refine WL.lv rfl (LV.ltI rfl rfl) ?_
      refine WL.nil (thenQ.n ?_)
      refine WC.seq ?_
      refine WC.condP (p := ix2 < ((FB a b least).length : Int)) rfl (fun hk2 => ?_) (fun hk2 => ?_)
      · have hb_ := FB_at (a := a) (b := b) (least := least) (by omega) (by omega) (by omega) (by omega) ix2lo hk2
        have hb1_ := hb_.1
        have hb2_ := hb_.2.f0
        have hb3_ := hb_.2.f1
        have hb4_ := hb_.2.t0
        have hb5_ := hb_.2.t1
        refine WC.skip (thenQ.n ?_)
        refine WC.seq ?_
        refine WC.block ?_
        refine WC.seq ?_
        refine WC.region ?_
        obtain ⟨A9, c9, e7, g7⟩ := St.elt (SH.rd hL2 (.tail _ (.tail _ (.tail _ (.tail _ (.tail _ (.head _))))))) (0, 0, 0) ix2 (by omega) (by omega)
        refine WL.lv rfl (LV.idxA Try.underlying24 ti43.sz rfl e7 rfl (by omega) (by omega)) ?_
        refine WL.lv rfl (LV.loadAgg (cs := [(.int .i64 (((FB a b least).getD (ix2).toNat (0, 0, 0)).1)), (.int .i64 (((FB a b least).getD (ix2).toNat (0, 0, 0)).2.1)), (.int .i64 (((FB a b least).getD (ix2).toNat (0, 0, 0)).2.2))]) Try.underlying43 rfl ti43 rfl rfl (fun j u hu => g7 _ (KB.refl No _) j u hu)) ?_
        refine WL.xe rfl (XE.alloc #[(.int .i64 0), (.int .i64 0), (.int .i64 0)] hL2 ti43 rfl) ?_
        rintro _ w17 ⟨b6, rfl, hS29, hk11⟩
        refine WL.xse rfl (XSE.blkAgg #[(.int .i64 (((FB a b least).getD (ix2).toNat (0, 0, 0)).1)), (.int .i64 (((FB a b least).getD (ix2).toNat (0, 0, 0)).2.1)), (.int .i64 (((FB a b least).getD (ix2).toNat (0, 0, 0)).2.2))] hS29 (by kernel_rfl) rfl (by kernel_rfl) rfl rfl) ?_
        rintro w18 ⟨hS30, hk12⟩
        refine WL.nil (thenQ.n ?_)
        refine WC.seq ?_
        refine WC.region ?_
        refine WL.lv rfl (LV.fieldA Try.underlying43 rfl ti3.sz rfl) ?_
        refine WL.lv rfl (LV.load1 Try.underlying3 rfl rfl (Blk.cellN (SH.at hS30 (.head _)) 2 rfl _ (KB.refl No _))) ?_
        refine WL.lv rfl (LV.mv rfl) ?_
        refine WL.nil (thenQ.n ?_)
        refine WC.block ?_
        refine WC.loop (fun m_ f_ w_ => ∃ (x3 : List Int) (y3 : List Int) (ix3 : Int), (0 ≤ ix3) ∧ (ix3 ≤ ((FB a b least).getD ix2.toNat (0, 0, 0)).2.2) ∧ (x3 = sgl 45 (pX (STY a b)) (bX ((FB a b least).take ix2.toNat) ++ [(((FB a b least).getD ix2.toNat (0, 0, 0)).1, ix3)]) a.length) ∧ (y3 = sgl 43 (pY (STY a b)) (bY ((FB a b least).take ix2.toNat) ++ [(((FB a b least).getD ix2.toNat (0, 0, 0)).2.1, ix3)]) b.length) ∧ (x3.length = a.length) ∧ (y3.length = b.length) ∧ SH w No w_ [blkE b6 43 #[(.int .i64 (((FB a b least).getD (ix2).toNat (0, 0, 0)).1)), (.int .i64 (((FB a b least).getD (ix2).toNat (0, 0, 0)).2.1)), (.int .i64 (((FB a b least).getD (ix2).toNat (0, 0, 0)).2.2))], rowE eP 41 (.slice A2 ((STY a b).length) c2) (STY a b), rowE eU8 5 (.slice (some ⟨b4, 0, none⟩) b.length b.length) y3, rowE eU8 5 (.slice (some ⟨b3, 0, none⟩) 1 1) [43], rowE eU8 5 (.slice (some ⟨b2, 0, none⟩) a.length a.length) x3, rowE eU8 5 (.slice (some ⟨b1, 0, none⟩) 1 1) [45], rowE eB3 43 (.slice A1 ((FB a b least).length) c1) (FB a b least)] ∧ m_ = ((((FB a b least).getD ix2.toNat (0, 0, 0)).2.2 - ix3).toNat) ∧ Weak (lit [(11, (.slice (some ⟨b2, 0, none⟩) a.length a.length)), (12, (.slice (some ⟨b4, 0, none⟩) b.length b.length)), (18, (.pointer (some ⟨b6, 0, none⟩))), (59, (.slice A1 ((FB a b least).length) c1)), (60, (.int .i64 ((FB a b least).length : Int))), (61, (.int .i64 ix2)), (66, (.int .i64 (((FB a b least).getD (ix2).toNat (0, 0, 0)).2.2))), (67, (.int .i64 ix3))]) f_) _ ⟨x2, y2, 0, by omega, by omega, (by rw [gx]; exact sgl_zero), (by rw [gy]; exact sgl_zero), mx, my, hS30, rfl, Weak.cons rfl <| Weak.cons rfl <| Weak.cons rfl <| Weak.cons rfl <| Weak.cons rfl <| Weak.cons rfl <| Weak.cons rfl <| Weak.cons rfl <| Weak.nil _⟩ ?_
        rintro m3 f3 w19 ⟨x3, y3, ix3, ix3lo, ix3hi, kx, ky, nx, ny, hL3, rfl, hw3⟩
        refine WC.weak hw3 ?_
        clear hw3
        refine WC.seq ?_
        refine WC.region ?_
        refine WL.lv rfl (LV.ltI rfl rfl) ?_
        refine WL.nil (thenQ.n ?_)
        refine WC.seq ?_
        refine WC.condP (p := ix3 < (((FB a b least).getD (ix2).toNat (0, 0, 0)).2.2)) rfl (fun hk3 => ?_) (fun hk3 => ?_)
        · skip
          refine WC.skip (thenQ.n ?_)
          refine WC.seq ?_
          refine WC.block ?_
          refine WC.seq ?_
          refine WC.region ?_
          refine WL.lv rfl (LV.mv rfl) ?_
          refine WL.lv rfl (LV.asg rfl) ?_
          refine WL.nil (thenQ.n ?_)
          have hS31 := SH.drew hL3
          refine WC.regionD [] (fun _ => True) [(.pure, 0), (.pure, 1), (.pure, 3), (.pure, 5), (.pure, 6), (.pure, 8), (.fork, 0), (.fork, 0), (.fork, 0), (.fork, 0), (.fork, 0), (.fork, 0), (.fork, 0), (.fork, 0)] (by kernel_rfl) (by kernel_rfl) trivial ?_
          refine WS.pure rfl rfl (fun _ => LV.mv rfl) ?_
          refine WS.pure rfl rfl (fun _ => LV.fieldA Try.underlying43 rfl ti3.sz rfl) ?_
          iterate 2 refine WS.pure rfl rfl (fun _ => LV.mv rfl) ?_
          refine WS.pure rfl rfl (fun _ => LV.fieldA Try.underlying43 rfl ti3.sz rfl) ?_
          refine WS.pure rfl rfl (fun _ => LV.mv rfl) ?_
          refine WS.fork (WSX.two 2 7 (by kernel_rfl) ?_ ?_)
          · refine WO.lvT rfl rfl (LV.load1 Try.underlying3 rfl rfl (Blk.cellN (SH.at hS31 (.head _)) 0 rfl _ (KB.refl No _))) ?_
            refine WSX.of [(.pure, 4), (.pure, 10), (.fork, 0), (.fork, 0), (.fork, 0), (.fork, 0), (.fork, 0)] (by kernel_rfl) rfl ?_
            refine WS.pure rfl rfl (fun _ => LV.add rfl rfl (wr64 (by omega) (by omega))) ?_
            obtain ⟨A10, c10, e8, g8⟩ := St.elt (SH.rd hS31 (.tail _ (.tail _ (.tail _ (.tail _ (.head _)))))) 0 ((((FB a b least).getD (ix2).toNat (0, 0, 0)).1) + ix3) (by omega) (by omega)
            refine WS.pure rfl rfl (fun _ => LV.idxA Try.underlying58 ti5.sz rfl e8 rfl (by omega) (by omega)) ?_
            refine WS.fork (WSX.two 7 11 (by kernel_rfl) ?_ ?_)
            · refine WO.lvT rfl rfl (LV.load1 Try.underlying3 rfl rfl (Blk.cellN (SH.at hS31 (.head _)) 1 rfl _ (KB.refl No _))) ?_
              refine WSX.of [(.pure, 9), (.forced, 11), (.pure, 12), (.forced, 13)] (by kernel_rfl) rfl ?_
              refine WS.pure rfl rfl (fun _ => LV.add rfl rfl (wr64 (by omega) (by omega))) ?_
              have hS33 : SH w No w19.drew [rowE eU8 5 (.slice (some ⟨b2, 0, none⟩) a.length a.length) x3, blkE b6 43 #[(.int .i64 (((FB a b least).getD (ix2).toNat (0, 0, 0)).1)), (.int .i64 (((FB a b least).getD (ix2).toNat (0, 0, 0)).2.1)), (.int .i64 (((FB a b least).getD (ix2).toNat (0, 0, 0)).2.2))], rowE eP 41 (.slice A2 ((STY a b).length) c2) (STY a b), rowE eU8 5 (.slice (some ⟨b4, 0, none⟩) b.length b.length) y3, rowE eU8 5 (.slice (some ⟨b3, 0, none⟩) 1 1) [43], rowE eU8 5 (.slice (some ⟨b1, 0, none⟩) 1 1) [45], rowE eB3 43 (.slice A1 ((FB a b least).length) c1) (FB a b least)] := (SH.front [blkE b6 43 #[(.int .i64 (((FB a b least).getD (ix2).toNat (0, 0, 0)).1)), (.int .i64 (((FB a b least).getD (ix2).toNat (0, 0, 0)).2.1)), (.int .i64 (((FB a b least).getD (ix2).toNat (0, 0, 0)).2.2))], rowE eP 41 (.slice A2 ((STY a b).length) c2) (STY a b), rowE eU8 5 (.slice (some ⟨b4, 0, none⟩) b.length b.length) y3, rowE eU8 5 (.slice (some ⟨b3, 0, none⟩) 1 1) [43]] hS31)
              refine WS.xse rfl rfl (XSE.row1 (i := (((FB a b least).getD (ix2).toNat (0, 0, 0)).1) + ix3) (o := 0) (k := 0) 126 hS33 e8 (by omega) (by omega) (by decide) ti5.sz rfl rfl rfl rfl) ?_
              rintro w20 ⟨hS32, hk13⟩
              refine ⟨fun h_ => trivial, ?_⟩
              obtain ⟨A11, c11, e9, g9⟩ := St.elt (SH.rd hS31 (.tail _ (.tail _ (.head _)))) 0 ((((FB a b least).getD (ix2).toNat (0, 0, 0)).2.1) + ix3) (by omega) (by omega)
              refine WS.pure rfl rfl (fun _ => LV.idxA Try.underlying58 ti5.sz rfl e9 rfl (by omega) (by omega)) ?_
              have hS35 : SH w No w20 [rowE eU8 5 (.slice (some ⟨b4, 0, none⟩) b.length b.length) y3, rowE eU8 5 (.slice (some ⟨b2, 0, none⟩) a.length a.length) (x3.set ((((FB a b least).getD (ix2).toNat (0, 0, 0)).1) + ix3).toNat 126), blkE b6 43 #[(.int .i64 (((FB a b least).getD (ix2).toNat (0, 0, 0)).1)), (.int .i64 (((FB a b least).getD (ix2).toNat (0, 0, 0)).2.1)), (.int .i64 (((FB a b least).getD (ix2).toNat (0, 0, 0)).2.2))], rowE eP 41 (.slice A2 ((STY a b).length) c2) (STY a b), rowE eU8 5 (.slice (some ⟨b3, 0, none⟩) 1 1) [43], rowE eU8 5 (.slice (some ⟨b1, 0, none⟩) 1 1) [45], rowE eB3 43 (.slice A1 ((FB a b least).length) c1) (FB a b least)] := (SH.front [rowE eU8 5 (.slice (some ⟨b2, 0, none⟩) a.length a.length) (x3.set ((((FB a b least).getD (ix2).toNat (0, 0, 0)).1) + ix3).toNat 126), blkE b6 43 #[(.int .i64 (((FB a b least).getD (ix2).toNat (0, 0, 0)).1)), (.int .i64 (((FB a b least).getD (ix2).toNat (0, 0, 0)).2.1)), (.int .i64 (((FB a b least).getD (ix2).toNat (0, 0, 0)).2.2))], rowE eP 41 (.slice A2 ((STY a b).length) c2) (STY a b)] hS32)
              refine WS.xse rfl rfl (XSE.row1 (i := (((FB a b least).getD (ix2).toNat (0, 0, 0)).2.1) + ix3) (o := 0) (k := 0) 126 hS35 e9 (by omega) (by omega) (by decide) ti5.sz rfl rfl rfl rfl) ?_
              rintro w21 ⟨hS34, hk14⟩
              refine ⟨fun h_ => trivial, ?_⟩
              refine WS.nil (blockQ.n <| thenQ.n ?_)
              refine WC.region ?_
              refine WL.lv rfl (LV.add rfl rfl (wr64 (by omega) (by omega))) ?_
              refine WL.lv rfl (LV.mv rfl) ?_
              refine WL.nil (thenQ.n ?_)
              have hS36 : SH w No w21 [blkE b6 43 #[(.int .i64 (((FB a b least).getD (ix2).toNat (0, 0, 0)).1)), (.int .i64 (((FB a b least).getD (ix2).toNat (0, 0, 0)).2.1)), (.int .i64 (((FB a b least).getD (ix2).toNat (0, 0, 0)).2.2))], rowE eP 41 (.slice A2 ((STY a b).length) c2) (STY a b), rowE eU8 5 (.slice (some ⟨b4, 0, none⟩) b.length b.length) (y3.set ((((FB a b least).getD (ix2).toNat (0, 0, 0)).2.1) + ix3).toNat 126), rowE eU8 5 (.slice (some ⟨b3, 0, none⟩) 1 1) [43], rowE eU8 5 (.slice (some ⟨b2, 0, none⟩) a.length a.length) (x3.set ((((FB a b least).getD (ix2).toNat (0, 0, 0)).1) + ix3).toNat 126), rowE eU8 5 (.slice (some ⟨b1, 0, none⟩) 1 1) [45], rowE eB3 43 (.slice A1 ((FB a b least).length) c1) (FB a b least)] := (SH.front [rowE eP 41 (.slice A2 ((STY a b).length) c2) (STY a b), rowE eU8 5 (.slice (some ⟨b4, 0, none⟩) b.length b.length) (y3.set ((((FB a b least).getD (ix2).toNat (0, 0, 0)).2.1) + ix3).toNat 126), rowE eU8 5 (.slice (some ⟨b3, 0, none⟩) 1 1) [43], rowE eU8 5 (.slice (some ⟨b2, 0, none⟩) a.length a.length) (x3.set ((((FB a b least).getD (ix2).toNat (0, 0, 0)).1) + ix3).toNat 126), rowE eU8 5 (.slice (some ⟨b1, 0, none⟩) 1 1) [45], rowE eB3 43 (.slice A1 ((FB a b least).length) c1) (FB a b least)] (SH.front [rowE eU8 5 (.slice (some ⟨b4, 0, none⟩) b.length b.length) (y3.set ((((FB a b least).getD (ix2).toNat (0, 0, 0)).2.1) + ix3).toNat 126), rowE eU8 5 (.slice (some ⟨b3, 0, none⟩) 1 1) [43], rowE eU8 5 (.slice (some ⟨b2, 0, none⟩) a.length a.length) (x3.set ((((FB a b least).getD (ix2).toNat (0, 0, 0)).1) + ix3).toNat 126), rowE eU8 5 (.slice (some ⟨b1, 0, none⟩) 1 1) [45], rowE eB3 43 (.slice A1 ((FB a b least).length) c1) (FB a b least), blkE b6 43 #[(.int .i64 (((FB a b least).getD (ix2).toNat (0, 0, 0)).1)), (.int .i64 (((FB a b least).getD (ix2).toNat (0, 0, 0)).2.1)), (.int .i64 (((FB a b least).getD (ix2).toNat (0, 0, 0)).2.2))]] (SH.front [rowE eU8 5 (.slice (some ⟨b3, 0, none⟩) 1 1) [43], rowE eU8 5 (.slice (some ⟨b2, 0, none⟩) a.length a.length) (x3.set ((((FB a b least).getD (ix2).toNat (0, 0, 0)).1) + ix3).toNat 126), rowE eU8 5 (.slice (some ⟨b1, 0, none⟩) 1 1) [45], rowE eB3 43 (.slice A1 ((FB a b least).length) c1) (FB a b least)] (SH.front [rowE eU8 5 (.slice (some ⟨b2, 0, none⟩) a.length a.length) (x3.set ((((FB a b least).getD (ix2).toNat (0, 0, 0)).1) + ix3).toNat 126), rowE eU8 5 (.slice (some ⟨b1, 0, none⟩) 1 1) [45], rowE eB3 43 (.slice A1 ((FB a b least).length) c1) (FB a b least), rowE eU8 5 (.slice (some ⟨b4, 0, none⟩) b.length b.length) (y3.set ((((FB a b least).getD (ix2).toNat (0, 0, 0)).2.1) + ix3).toNat 126), blkE b6 43 #[(.int .i64 (((FB a b least).getD (ix2).toNat (0, 0, 0)).1)), (.int .i64 (((FB a b least).getD (ix2).toNat (0, 0, 0)).2.1)), (.int .i64 (((FB a b least).getD (ix2).toNat (0, 0, 0)).2.2))], rowE eP 41 (.slice A2 ((STY a b).length) c2) (STY a b)] (SH.front [rowE eU8 5 (.slice (some ⟨b1, 0, none⟩) 1 1) [45], rowE eB3 43 (.slice A1 ((FB a b least).length) c1) (FB a b least), rowE eU8 5 (.slice (some ⟨b4, 0, none⟩) b.length b.length) (y3.set ((((FB a b least).getD (ix2).toNat (0, 0, 0)).2.1) + ix3).toNat 126)] (SH.front [rowE eB3 43 (.slice A1 ((FB a b least).length) c1) (FB a b least), rowE eU8 5 (.slice (some ⟨b4, 0, none⟩) b.length b.length) (y3.set ((((FB a b least).getD (ix2).toNat (0, 0, 0)).2.1) + ix3).toNat 126), rowE eU8 5 (.slice (some ⟨b2, 0, none⟩) a.length a.length) (x3.set ((((FB a b least).getD (ix2).toNat (0, 0, 0)).1) + ix3).toNat 126), blkE b6 43 #[(.int .i64 (((FB a b least).getD (ix2).toNat (0, 0, 0)).1)), (.int .i64 (((FB a b least).getD (ix2).toNat (0, 0, 0)).2.1)), (.int .i64 (((FB a b least).getD (ix2).toNat (0, 0, 0)).2.2))], rowE eP 41 (.slice A2 ((STY a b).length) c2) (STY a b), rowE eU8 5 (.slice (some ⟨b3, 0, none⟩) 1 1) [43]] (SH.front [rowE eU8 5 (.slice (some ⟨b4, 0, none⟩) b.length b.length) (y3.set ((((FB a b least).getD (ix2).toNat (0, 0, 0)).2.1) + ix3).toNat 126), rowE eU8 5 (.slice (some ⟨b2, 0, none⟩) a.length a.length) (x3.set ((((FB a b least).getD (ix2).toNat (0, 0, 0)).1) + ix3).toNat 126), blkE b6 43 #[(.int .i64 (((FB a b least).getD (ix2).toNat (0, 0, 0)).1)), (.int .i64 (((FB a b least).getD (ix2).toNat (0, 0, 0)).2.1)), (.int .i64 (((FB a b least).getD (ix2).toNat (0, 0, 0)).2.2))], rowE eP 41 (.slice A2 ((STY a b).length) c2) (STY a b), rowE eU8 5 (.slice (some ⟨b3, 0, none⟩) 1 1) [43], rowE eU8 5 (.slice (some ⟨b1, 0, none⟩) 1 1) [45]] hS34)))))))
              exact ⟨_, by omega, (x3.set ((((FB a b least).getD (ix2).toNat (0, 0, 0)).1) + ix3).toNat 126), (y3.set ((((FB a b least).getD (ix2).toNat (0, 0, 0)).2.1) + ix3).toNat 126), ix3 + 1, by omega, by omega, (by rw [kx]; exact sgl_blk (by omega) ix3lo), (by rw [ky]; exact sgl_blk (by omega) ix3lo), (by rw [List.length_set]; exact nx), (by rw [List.length_set]; exact ny), hS36, rfl, Weak.cons rfl <| Weak.cons rfl <| Weak.cons rfl <| Weak.cons rfl <| Weak.cons rfl <| Weak.cons rfl <| Weak.cons rfl <| Weak.cons rfl <| Weak.nil _⟩
            · have hS38 : SH w No w19.drew [rowE eU8 5 (.slice (some ⟨b2, 0, none⟩) a.length a.length) x3, blkE b6 43 #[(.int .i64 (((FB a b least).getD (ix2).toNat (0, 0, 0)).1)), (.int .i64 (((FB a b least).getD (ix2).toNat (0, 0, 0)).2.1)), (.int .i64 (((FB a b least).getD (ix2).toNat (0, 0, 0)).2.2))], rowE eP 41 (.slice A2 ((STY a b).length) c2) (STY a b), rowE eU8 5 (.slice (some ⟨b4, 0, none⟩) b.length b.length) y3, rowE eU8 5 (.slice (some ⟨b3, 0, none⟩) 1 1) [43], rowE eU8 5 (.slice (some ⟨b1, 0, none⟩) 1 1) [45], rowE eB3 43 (.slice A1 ((FB a b least).length) c1) (FB a b least)] := (SH.front [blkE b6 43 #[(.int .i64 (((FB a b least).getD (ix2).toNat (0, 0, 0)).1)), (.int .i64 (((FB a b least).getD (ix2).toNat (0, 0, 0)).2.1)), (.int .i64 (((FB a b least).getD (ix2).toNat (0, 0, 0)).2.2))], rowE eP 41 (.slice A2 ((STY a b).length) c2) (STY a b), rowE eU8 5 (.slice (some ⟨b4, 0, none⟩) b.length b.length) y3, rowE eU8 5 (.slice (some ⟨b3, 0, none⟩) 1 1) [43]] hS31)
              refine WO.xse rfl rfl (XSE.row1 (i := (((FB a b least).getD (ix2).toNat (0, 0, 0)).1) + ix3) (o := 0) (k := 0) 126 hS38 e8 (by omega) (by omega) (by decide) ti5.sz rfl rfl rfl rfl) ?_
              rintro w22 ⟨hS37, hk15⟩
              refine ⟨fun h_ => trivial, ?_⟩
              refine WSX.of [(.forced, 7), (.pure, 9), (.pure, 12), (.forced, 13)] (by kernel_rfl) rfl ?_
              refine WS.lvT rfl rfl (LV.load1 Try.underlying3 rfl rfl (Blk.cellN (SH.at hS37 (.tail _ (.head _))) 1 rfl _ (KB.refl No _))) ?_
              refine WS.pure rfl rfl (fun _ => LV.add rfl rfl (wr64 (by omega) (by omega))) ?_
              obtain ⟨A12, c12, e10, g10⟩ := St.elt (SH.rd hS31 (.tail _ (.tail _ (.head _)))) 0 ((((FB a b least).getD (ix2).toNat (0, 0, 0)).2.1) + ix3) (by omega) (by omega)
              refine WS.pure rfl rfl (fun _ => LV.idxA Try.underlying58 ti5.sz rfl e10 rfl (by omega) (by omega)) ?_
              have hS40 : SH w No w22 [rowE eU8 5 (.slice (some ⟨b4, 0, none⟩) b.length b.length) y3, rowE eU8 5 (.slice (some ⟨b2, 0, none⟩) a.length a.length) (x3.set ((((FB a b least).getD (ix2).toNat (0, 0, 0)).1) + ix3).toNat 126), blkE b6 43 #[(.int .i64 (((FB a b least).getD (ix2).toNat (0, 0, 0)).1)), (.int .i64 (((FB a b least).getD (ix2).toNat (0, 0, 0)).2.1)), (.int .i64 (((FB a b least).getD (ix2).toNat (0, 0, 0)).2.2))], rowE eP 41 (.slice A2 ((STY a b).length) c2) (STY a b), rowE eU8 5 (.slice (some ⟨b3, 0, none⟩) 1 1) [43], rowE eU8 5 (.slice (some ⟨b1, 0, none⟩) 1 1) [45], rowE eB3 43 (.slice A1 ((FB a b least).length) c1) (FB a b least)] := (SH.front [rowE eU8 5 (.slice (some ⟨b2, 0, none⟩) a.length a.length) (x3.set ((((FB a b least).getD (ix2).toNat (0, 0, 0)).1) + ix3).toNat 126), blkE b6 43 #[(.int .i64 (((FB a b least).getD (ix2).toNat (0, 0, 0)).1)), (.int .i64 (((FB a b least).getD (ix2).toNat (0, 0, 0)).2.1)), (.int .i64 (((FB a b least).getD (ix2).toNat (0, 0, 0)).2.2))], rowE eP 41 (.slice A2 ((STY a b).length) c2) (STY a b)] hS37)
              refine WS.xse rfl rfl (XSE.row1 (i := (((FB a b least).getD (ix2).toNat (0, 0, 0)).2.1) + ix3) (o := 0) (k := 0) 126 hS40 e10 (by omega) (by omega) (by decide) ti5.sz rfl rfl rfl rfl) ?_
              rintro w23 ⟨hS39, hk16⟩
              refine ⟨fun h_ => trivial, ?_⟩
              refine WS.nil (blockQ.n <| thenQ.n ?_)
              refine WC.region ?_
              refine WL.lv rfl (LV.add rfl rfl (wr64 (by omega) (by omega))) ?_
              refine WL.lv rfl (LV.mv rfl) ?_
              refine WL.nil (thenQ.n ?_)
              have hS41 : SH w No w23 [blkE b6 43 #[(.int .i64 (((FB a b least).getD (ix2).toNat (0, 0, 0)).1)), (.int .i64 (((FB a b least).getD (ix2).toNat (0, 0, 0)).2.1)), (.int .i64 (((FB a b least).getD (ix2).toNat (0, 0, 0)).2.2))], rowE eP 41 (.slice A2 ((STY a b).length) c2) (STY a b), rowE eU8 5 (.slice (some ⟨b4, 0, none⟩) b.length b.length) (y3.set ((((FB a b least).getD (ix2).toNat (0, 0, 0)).2.1) + ix3).toNat 126), rowE eU8 5 (.slice (some ⟨b3, 0, none⟩) 1 1) [43], rowE eU8 5 (.slice (some ⟨b2, 0, none⟩) a.length a.length) (x3.set ((((FB a b least).getD (ix2).toNat (0, 0, 0)).1) + ix3).toNat 126), rowE eU8 5 (.slice (some ⟨b1, 0, none⟩) 1 1) [45], rowE eB3 43 (.slice A1 ((FB a b least).length) c1) (FB a b least)] := (SH.front [rowE eP 41 (.slice A2 ((STY a b).length) c2) (STY a b), rowE eU8 5 (.slice (some ⟨b4, 0, none⟩) b.length b.length) (y3.set ((((FB a b least).getD (ix2).toNat (0, 0, 0)).2.1) + ix3).toNat 126), rowE eU8 5 (.slice (some ⟨b3, 0, none⟩) 1 1) [43], rowE eU8 5 (.slice (some ⟨b2, 0, none⟩) a.length a.length) (x3.set ((((FB a b least).getD (ix2).toNat (0, 0, 0)).1) + ix3).toNat 126), rowE eU8 5 (.slice (some ⟨b1, 0, none⟩) 1 1) [45], rowE eB3 43 (.slice A1 ((FB a b least).length) c1) (FB a b least)] (SH.front [rowE eU8 5 (.slice (some ⟨b4, 0, none⟩) b.length b.length) (y3.set ((((FB a b least).getD (ix2).toNat (0, 0, 0)).2.1) + ix3).toNat 126), rowE eU8 5 (.slice (some ⟨b3, 0, none⟩) 1 1) [43], rowE eU8 5 (.slice (some ⟨b2, 0, none⟩) a.length a.length) (x3.set ((((FB a b least).getD (ix2).toNat (0, 0, 0)).1) + ix3).toNat 126), rowE eU8 5 (.slice (some ⟨b1, 0, none⟩) 1 1) [45], rowE eB3 43 (.slice A1 ((FB a b least).length) c1) (FB a b least), blkE b6 43 #[(.int .i64 (((FB a b least).getD (ix2).toNat (0, 0, 0)).1)), (.int .i64 (((FB a b least).getD (ix2).toNat (0, 0, 0)).2.1)), (.int .i64 (((FB a b least).getD (ix2).toNat (0, 0, 0)).2.2))]] (SH.front [rowE eU8 5 (.slice (some ⟨b3, 0, none⟩) 1 1) [43], rowE eU8 5 (.slice (some ⟨b2, 0, none⟩) a.length a.length) (x3.set ((((FB a b least).getD (ix2).toNat (0, 0, 0)).1) + ix3).toNat 126), rowE eU8 5 (.slice (some ⟨b1, 0, none⟩) 1 1) [45], rowE eB3 43 (.slice A1 ((FB a b least).length) c1) (FB a b least)] (SH.front [rowE eU8 5 (.slice (some ⟨b2, 0, none⟩) a.length a.length) (x3.set ((((FB a b least).getD (ix2).toNat (0, 0, 0)).1) + ix3).toNat 126), rowE eU8 5 (.slice (some ⟨b1, 0, none⟩) 1 1) [45], rowE eB3 43 (.slice A1 ((FB a b least).length) c1) (FB a b least), rowE eU8 5 (.slice (some ⟨b4, 0, none⟩) b.length b.length) (y3.set ((((FB a b least).getD (ix2).toNat (0, 0, 0)).2.1) + ix3).toNat 126), blkE b6 43 #[(.int .i64 (((FB a b least).getD (ix2).toNat (0, 0, 0)).1)), (.int .i64 (((FB a b least).getD (ix2).toNat (0, 0, 0)).2.1)), (.int .i64 (((FB a b least).getD (ix2).toNat (0, 0, 0)).2.2))], rowE eP 41 (.slice A2 ((STY a b).length) c2) (STY a b)] (SH.front [rowE eU8 5 (.slice (some ⟨b1, 0, none⟩) 1 1) [45], rowE eB3 43 (.slice A1 ((FB a b least).length) c1) (FB a b least), rowE eU8 5 (.slice (some ⟨b4, 0, none⟩) b.length b.length) (y3.set ((((FB a b least).getD (ix2).toNat (0, 0, 0)).2.1) + ix3).toNat 126)] (SH.front [rowE eB3 43 (.slice A1 ((FB a b least).length) c1) (FB a b least), rowE eU8 5 (.slice (some ⟨b4, 0, none⟩) b.length b.length) (y3.set ((((FB a b least).getD (ix2).toNat (0, 0, 0)).2.1) + ix3).toNat 126), rowE eU8 5 (.slice (some ⟨b2, 0, none⟩) a.length a.length) (x3.set ((((FB a b least).getD (ix2).toNat (0, 0, 0)).1) + ix3).toNat 126), blkE b6 43 #[(.int .i64 (((FB a b least).getD (ix2).toNat (0, 0, 0)).1)), (.int .i64 (((FB a b least).getD (ix2).toNat (0, 0, 0)).2.1)), (.int .i64 (((FB a b least).getD (ix2).toNat (0, 0, 0)).2.2))], rowE eP 41 (.slice A2 ((STY a b).length) c2) (STY a b), rowE eU8 5 (.slice (some ⟨b3, 0, none⟩) 1 1) [43]] (SH.front [rowE eU8 5 (.slice (some ⟨b4, 0, none⟩) b.length b.length) (y3.set ((((FB a b least).getD (ix2).toNat (0, 0, 0)).2.1) + ix3).toNat 126), rowE eU8 5 (.slice (some ⟨b2, 0, none⟩) a.length a.length) (x3.set ((((FB a b least).getD (ix2).toNat (0, 0, 0)).1) + ix3).toNat 126), blkE b6 43 #[(.int .i64 (((FB a b least).getD (ix2).toNat (0, 0, 0)).1)), (.int .i64 (((FB a b least).getD (ix2).toNat (0, 0, 0)).2.1)), (.int .i64 (((FB a b least).getD (ix2).toNat (0, 0, 0)).2.2))], rowE eP 41 (.slice A2 ((STY a b).length) c2) (STY a b), rowE eU8 5 (.slice (some ⟨b3, 0, none⟩) 1 1) [43], rowE eU8 5 (.slice (some ⟨b1, 0, none⟩) 1 1) [45]] hS39)))))))
              exact ⟨_, by omega, (x3.set ((((FB a b least).getD (ix2).toNat (0, 0, 0)).1) + ix3).toNat 126), (y3.set ((((FB a b least).getD (ix2).toNat (0, 0, 0)).2.1) + ix3).toNat 126), ix3 + 1, by omega, by omega, (by rw [kx]; exact sgl_blk (by omega) ix3lo), (by rw [ky]; exact sgl_blk (by omega) ix3lo), (by rw [List.length_set]; exact nx), (by rw [List.length_set]; exact ny), hS41, rfl, Weak.cons rfl <| Weak.cons rfl <| Weak.cons rfl <| Weak.cons rfl <| Weak.cons rfl <| Weak.cons rfl <| Weak.cons rfl <| Weak.cons rfl <| Weak.nil _⟩
          · refine WO.lvT rfl rfl (LV.load1 Try.underlying3 rfl rfl (Blk.cellN (SH.at hS31 (.head _)) 1 rfl _ (KB.refl No _))) ?_
            refine WSX.of [(.pure, 9), (.forced, 2), (.pure, 4), (.pure, 10), (.forced, 11), (.pure, 12), (.forced, 13)] (by kernel_rfl) rfl ?_
            refine WS.pure rfl rfl (fun _ => LV.add rfl rfl (wr64 (by omega) (by omega))) ?_
            refine WS.lvT rfl rfl (LV.load1 Try.underlying3 rfl rfl (Blk.cellN (SH.at hS31 (.head _)) 0 rfl _ (KB.refl No _))) ?_
            refine WS.pure rfl rfl (fun _ => LV.add rfl rfl (wr64 (by omega) (by omega))) ?_
            obtain ⟨A13, c13, e11, g11⟩ := St.elt (SH.rd hS31 (.tail _ (.tail _ (.tail _ (.tail _ (.head _)))))) 0 ((((FB a b least).getD (ix2).toNat (0, 0, 0)).1) + ix3) (by omega) (by omega)
            refine WS.pure rfl rfl (fun _ => LV.idxA Try.underlying58 ti5.sz rfl e11 rfl (by omega) (by omega)) ?_
            have hS43 : SH w No w19.drew [rowE eU8 5 (.slice (some ⟨b2, 0, none⟩) a.length a.length) x3, blkE b6 43 #[(.int .i64 (((FB a b least).getD (ix2).toNat (0, 0, 0)).1)), (.int .i64 (((FB a b least).getD (ix2).toNat (0, 0, 0)).2.1)), (.int .i64 (((FB a b least).getD (ix2).toNat (0, 0, 0)).2.2))], rowE eP 41 (.slice A2 ((STY a b).length) c2) (STY a b), rowE eU8 5 (.slice (some ⟨b4, 0, none⟩) b.length b.length) y3, rowE eU8 5 (.slice (some ⟨b3, 0, none⟩) 1 1) [43], rowE eU8 5 (.slice (some ⟨b1, 0, none⟩) 1 1) [45], rowE eB3 43 (.slice A1 ((FB a b least).length) c1) (FB a b least)] := (SH.front [blkE b6 43 #[(.int .i64 (((FB a b least).getD (ix2).toNat (0, 0, 0)).1)), (.int .i64 (((FB a b least).getD (ix2).toNat (0, 0, 0)).2.1)), (.int .i64 (((FB a b least).getD (ix2).toNat (0, 0, 0)).2.2))], rowE eP 41 (.slice A2 ((STY a b).length) c2) (STY a b), rowE eU8 5 (.slice (some ⟨b4, 0, none⟩) b.length b.length) y3, rowE eU8 5 (.slice (some ⟨b3, 0, none⟩) 1 1) [43]] hS31)
            refine WS.xse rfl rfl (XSE.row1 (i := (((FB a b least).getD (ix2).toNat (0, 0, 0)).1) + ix3) (o := 0) (k := 0) 126 hS43 e11 (by omega) (by omega) (by decide) ti5.sz rfl rfl rfl rfl) ?_
            rintro w24 ⟨hS42, hk17⟩
            refine ⟨fun h_ => trivial, ?_⟩
            obtain ⟨A14, c14, e12, g12⟩ := St.elt (SH.rd hS31 (.tail _ (.tail _ (.head _)))) 0 ((((FB a b least).getD (ix2).toNat (0, 0, 0)).2.1) + ix3) (by omega) (by omega)
            refine WS.pure rfl rfl (fun _ => LV.idxA Try.underlying58 ti5.sz rfl e12 rfl (by omega) (by omega)) ?_
            have hS45 : SH w No w24 [rowE eU8 5 (.slice (some ⟨b4, 0, none⟩) b.length b.length) y3, rowE eU8 5 (.slice (some ⟨b2, 0, none⟩) a.length a.length) (x3.set ((((FB a b least).getD (ix2).toNat (0, 0, 0)).1) + ix3).toNat 126), blkE b6 43 #[(.int .i64 (((FB a b least).getD (ix2).toNat (0, 0, 0)).1)), (.int .i64 (((FB a b least).getD (ix2).toNat (0, 0, 0)).2.1)), (.int .i64 (((FB a b least).getD (ix2).toNat (0, 0, 0)).2.2))], rowE eP 41 (.slice A2 ((STY a b).length) c2) (STY a b), rowE eU8 5 (.slice (some ⟨b3, 0, none⟩) 1 1) [43], rowE eU8 5 (.slice (some ⟨b1, 0, none⟩) 1 1) [45], rowE eB3 43 (.slice A1 ((FB a b least).length) c1) (FB a b least)] := (SH.front [rowE eU8 5 (.slice (some ⟨b2, 0, none⟩) a.length a.length) (x3.set ((((FB a b least).getD (ix2).toNat (0, 0, 0)).1) + ix3).toNat 126), blkE b6 43 #[(.int .i64 (((FB a b least).getD (ix2).toNat (0, 0, 0)).1)), (.int .i64 (((FB a b least).getD (ix2).toNat (0, 0, 0)).2.1)), (.int .i64 (((FB a b least).getD (ix2).toNat (0, 0, 0)).2.2))], rowE eP 41 (.slice A2 ((STY a b).length) c2) (STY a b)] hS42)
            refine WS.xse rfl rfl (XSE.row1 (i := (((FB a b least).getD (ix2).toNat (0, 0, 0)).2.1) + ix3) (o := 0) (k := 0) 126 hS45 e12 (by omega) (by omega) (by decide) ti5.sz rfl rfl rfl rfl) ?_
            rintro w25 ⟨hS44, hk18⟩
            refine ⟨fun h_ => trivial, ?_⟩
            refine WS.nil (blockQ.n <| thenQ.n ?_)
            refine WC.region ?_
            refine WL.lv rfl (LV.add rfl rfl (wr64 (by omega) (by omega))) ?_
            refine WL.lv rfl (LV.mv rfl) ?_
            refine WL.nil (thenQ.n ?_)
            have hS46 : SH w No w25 [blkE b6 43 #[(.int .i64 (((FB a b least).getD (ix2).toNat (0, 0, 0)).1)), (.int .i64 (((FB a b least).getD (ix2).toNat (0, 0, 0)).2.1)), (.int .i64 (((FB a b least).getD (ix2).toNat (0, 0, 0)).2.2))], rowE eP 41 (.slice A2 ((STY a b).length) c2) (STY a b), rowE eU8 5 (.slice (some ⟨b4, 0, none⟩) b.length b.length) (y3.set ((((FB a b least).getD (ix2).toNat (0, 0, 0)).2.1) + ix3).toNat 126), rowE eU8 5 (.slice (some ⟨b3, 0, none⟩) 1 1) [43], rowE eU8 5 (.slice (some ⟨b2, 0, none⟩) a.length a.length) (x3.set ((((FB a b least).getD (ix2).toNat (0, 0, 0)).1) + ix3).toNat 126), rowE eU8 5 (.slice (some ⟨b1, 0, none⟩) 1 1) [45], rowE eB3 43 (.slice A1 ((FB a b least).length) c1) (FB a b least)] := (SH.front [rowE eP 41 (.slice A2 ((STY a b).length) c2) (STY a b), rowE eU8 5 (.slice (some ⟨b4, 0, none⟩) b.length b.length) (y3.set ((((FB a b least).getD (ix2).toNat (0, 0, 0)).2.1) + ix3).toNat 126), rowE eU8 5 (.slice (some ⟨b3, 0, none⟩) 1 1) [43], rowE eU8 5 (.slice (some ⟨b2, 0, none⟩) a.length a.length) (x3.set ((((FB a b least).getD (ix2).toNat (0, 0, 0)).1) + ix3).toNat 126), rowE eU8 5 (.slice (some ⟨b1, 0, none⟩) 1 1) [45], rowE eB3 43 (.slice A1 ((FB a b least).length) c1) (FB a b least)] (SH.front [rowE eU8 5 (.slice (some ⟨b4, 0, none⟩) b.length b.length) (y3.set ((((FB a b least).getD (ix2).toNat (0, 0, 0)).2.1) + ix3).toNat 126), rowE eU8 5 (.slice (some ⟨b3, 0, none⟩) 1 1) [43], rowE eU8 5 (.slice (some ⟨b2, 0, none⟩) a.length a.length) (x3.set ((((FB a b least).getD (ix2).toNat (0, 0, 0)).1) + ix3).toNat 126), rowE eU8 5 (.slice (some ⟨b1, 0, none⟩) 1 1) [45], rowE eB3 43 (.slice A1 ((FB a b least).length) c1) (FB a b least), blkE b6 43 #[(.int .i64 (((FB a b least).getD (ix2).toNat (0, 0, 0)).1)), (.int .i64 (((FB a b least).getD (ix2).toNat (0, 0, 0)).2.1)), (.int .i64 (((FB a b least).getD (ix2).toNat (0, 0, 0)).2.2))]] (SH.front [rowE eU8 5 (.slice (some ⟨b3, 0, none⟩) 1 1) [43], rowE eU8 5 (.slice (some ⟨b2, 0, none⟩) a.length a.length) (x3.set ((((FB a b least).getD (ix2).toNat (0, 0, 0)).1) + ix3).toNat 126), rowE eU8 5 (.slice (some ⟨b1, 0, none⟩) 1 1) [45], rowE eB3 43 (.slice A1 ((FB a b least).length) c1) (FB a b least)] (SH.front [rowE eU8 5 (.slice (some ⟨b2, 0, none⟩) a.length a.length) (x3.set ((((FB a b least).getD (ix2).toNat (0, 0, 0)).1) + ix3).toNat 126), rowE eU8 5 (.slice (some ⟨b1, 0, none⟩) 1 1) [45], rowE eB3 43 (.slice A1 ((FB a b least).length) c1) (FB a b least), rowE eU8 5 (.slice (some ⟨b4, 0, none⟩) b.length b.length) (y3.set ((((FB a b least).getD (ix2).toNat (0, 0, 0)).2.1) + ix3).toNat 126), blkE b6 43 #[(.int .i64 (((FB a b least).getD (ix2).toNat (0, 0, 0)).1)), (.int .i64 (((FB a b least).getD (ix2).toNat (0, 0, 0)).2.1)), (.int .i64 (((FB a b least).getD (ix2).toNat (0, 0, 0)).2.2))], rowE eP 41 (.slice A2 ((STY a b).length) c2) (STY a b)] (SH.front [rowE eU8 5 (.slice (some ⟨b1, 0, none⟩) 1 1) [45], rowE eB3 43 (.slice A1 ((FB a b least).length) c1) (FB a b least), rowE eU8 5 (.slice (some ⟨b4, 0, none⟩) b.length b.length) (y3.set ((((FB a b least).getD (ix2).toNat (0, 0, 0)).2.1) + ix3).toNat 126)] (SH.front [rowE eB3 43 (.slice A1 ((FB a b least).length) c1) (FB a b least), rowE eU8 5 (.slice (some ⟨b4, 0, none⟩) b.length b.length) (y3.set ((((FB a b least).getD (ix2).toNat (0, 0, 0)).2.1) + ix3).toNat 126), rowE eU8 5 (.slice (some ⟨b2, 0, none⟩) a.length a.length) (x3.set ((((FB a b least).getD (ix2).toNat (0, 0, 0)).1) + ix3).toNat 126), blkE b6 43 #[(.int .i64 (((FB a b least).getD (ix2).toNat (0, 0, 0)).1)), (.int .i64 (((FB a b least).getD (ix2).toNat (0, 0, 0)).2.1)), (.int .i64 (((FB a b least).getD (ix2).toNat (0, 0, 0)).2.2))], rowE eP 41 (.slice A2 ((STY a b).length) c2) (STY a b), rowE eU8 5 (.slice (some ⟨b3, 0, none⟩) 1 1) [43]] (SH.front [rowE eU8 5 (.slice (some ⟨b4, 0, none⟩) b.length b.length) (y3.set ((((FB a b least).getD (ix2).toNat (0, 0, 0)).2.1) + ix3).toNat 126), rowE eU8 5 (.slice (some ⟨b2, 0, none⟩) a.length a.length) (x3.set ((((FB a b least).getD (ix2).toNat (0, 0, 0)).1) + ix3).toNat 126), blkE b6 43 #[(.int .i64 (((FB a b least).getD (ix2).toNat (0, 0, 0)).1)), (.int .i64 (((FB a b least).getD (ix2).toNat (0, 0, 0)).2.1)), (.int .i64 (((FB a b least).getD (ix2).toNat (0, 0, 0)).2.2))], rowE eP 41 (.slice A2 ((STY a b).length) c2) (STY a b), rowE eU8 5 (.slice (some ⟨b3, 0, none⟩) 1 1) [43], rowE eU8 5 (.slice (some ⟨b1, 0, none⟩) 1 1) [45]] hS44)))))))
            exact ⟨_, by omega, (x3.set ((((FB a b least).getD (ix2).toNat (0, 0, 0)).1) + ix3).toNat 126), (y3.set ((((FB a b least).getD (ix2).toNat (0, 0, 0)).2.1) + ix3).toNat 126), ix3 + 1, by omega, by omega, (by rw [kx]; exact sgl_blk (by omega) ix3lo), (by rw [ky]; exact sgl_blk (by omega) ix3lo), (by rw [List.length_set]; exact nx), (by rw [List.length_set]; exact ny), hS46, rfl, Weak.cons rfl <| Weak.cons rfl <| Weak.cons rfl <| Weak.cons rfl <| Weak.cons rfl <| Weak.cons rfl <| Weak.cons rfl <| Weak.cons rfl <| Weak.nil _⟩
        · skip
          refine WC.exit (thenQ.x <| thenQ.x <| blockQ.hit <| blockQ.n <| thenQ.n ?_)
          refine WC.region ?_
          refine WL.lv rfl (LV.add rfl rfl (wr64 (by omega) (by omega))) ?_
          refine WL.lv rfl (LV.mv rfl) ?_
          refine WL.nil (thenQ.n ?_)
          have hS47 : SH w No w19 [rowE eP 41 (.slice A2 ((STY a b).length) c2) (STY a b), rowE eU8 5 (.slice (some ⟨b4, 0, none⟩) b.length b.length) y3, rowE eU8 5 (.slice (some ⟨b3, 0, none⟩) 1 1) [43], rowE eU8 5 (.slice (some ⟨b2, 0, none⟩) a.length a.length) x3, rowE eU8 5 (.slice (some ⟨b1, 0, none⟩) 1 1) [45], rowE eB3 43 (.slice A1 ((FB a b least).length) c1) (FB a b least)] := (SH.take 6 rfl (SH.front [rowE eU8 5 (.slice (some ⟨b4, 0, none⟩) b.length b.length) y3, rowE eU8 5 (.slice (some ⟨b3, 0, none⟩) 1 1) [43], rowE eU8 5 (.slice (some ⟨b2, 0, none⟩) a.length a.length) x3, rowE eU8 5 (.slice (some ⟨b1, 0, none⟩) 1 1) [45], rowE eB3 43 (.slice A1 ((FB a b least).length) c1) (FB a b least), blkE b6 43 #[(.int .i64 (((FB a b least).getD (ix2).toNat (0, 0, 0)).1)), (.int .i64 (((FB a b least).getD (ix2).toNat (0, 0, 0)).2.1)), (.int .i64 (((FB a b least).getD (ix2).toNat (0, 0, 0)).2.2))]] (SH.front [rowE eU8 5 (.slice (some ⟨b3, 0, none⟩) 1 1) [43], rowE eU8 5 (.slice (some ⟨b2, 0, none⟩) a.length a.length) x3, rowE eU8 5 (.slice (some ⟨b1, 0, none⟩) 1 1) [45], rowE eB3 43 (.slice A1 ((FB a b least).length) c1) (FB a b least), blkE b6 43 #[(.int .i64 (((FB a b least).getD (ix2).toNat (0, 0, 0)).1)), (.int .i64 (((FB a b least).getD (ix2).toNat (0, 0, 0)).2.1)), (.int .i64 (((FB a b least).getD (ix2).toNat (0, 0, 0)).2.2))], rowE eP 41 (.slice A2 ((STY a b).length) c2) (STY a b)] (SH.front [rowE eU8 5 (.slice (some ⟨b2, 0, none⟩) a.length a.length) x3, rowE eU8 5 (.slice (some ⟨b1, 0, none⟩) 1 1) [45], rowE eB3 43 (.slice A1 ((FB a b least).length) c1) (FB a b least), blkE b6 43 #[(.int .i64 (((FB a b least).getD (ix2).toNat (0, 0, 0)).1)), (.int .i64 (((FB a b least).getD (ix2).toNat (0, 0, 0)).2.1)), (.int .i64 (((FB a b least).getD (ix2).toNat (0, 0, 0)).2.2))], rowE eP 41 (.slice A2 ((STY a b).length) c2) (STY a b), rowE eU8 5 (.slice (some ⟨b4, 0, none⟩) b.length b.length) y3] (SH.front [rowE eU8 5 (.slice (some ⟨b1, 0, none⟩) 1 1) [45], rowE eB3 43 (.slice A1 ((FB a b least).length) c1) (FB a b least), blkE b6 43 #[(.int .i64 (((FB a b least).getD (ix2).toNat (0, 0, 0)).1)), (.int .i64 (((FB a b least).getD (ix2).toNat (0, 0, 0)).2.1)), (.int .i64 (((FB a b least).getD (ix2).toNat (0, 0, 0)).2.2))], rowE eP 41 (.slice A2 ((STY a b).length) c2) (STY a b), rowE eU8 5 (.slice (some ⟨b4, 0, none⟩) b.length b.length) y3, rowE eU8 5 (.slice (some ⟨b3, 0, none⟩) 1 1) [43]] (SH.front [rowE eB3 43 (.slice A1 ((FB a b least).length) c1) (FB a b least), blkE b6 43 #[(.int .i64 (((FB a b least).getD (ix2).toNat (0, 0, 0)).1)), (.int .i64 (((FB a b least).getD (ix2).toNat (0, 0, 0)).2.1)), (.int .i64 (((FB a b least).getD (ix2).toNat (0, 0, 0)).2.2))], rowE eP 41 (.slice A2 ((STY a b).length) c2) (STY a b), rowE eU8 5 (.slice (some ⟨b4, 0, none⟩) b.length b.length) y3, rowE eU8 5 (.slice (some ⟨b3, 0, none⟩) 1 1) [43], rowE eU8 5 (.slice (some ⟨b2, 0, none⟩) a.length a.length) x3] (SH.front [blkE b6 43 #[(.int .i64 (((FB a b least).getD (ix2).toNat (0, 0, 0)).1)), (.int .i64 (((FB a b least).getD (ix2).toNat (0, 0, 0)).2.1)), (.int .i64 (((FB a b least).getD (ix2).toNat (0, 0, 0)).2.2))], rowE eP 41 (.slice A2 ((STY a b).length) c2) (STY a b), rowE eU8 5 (.slice (some ⟨b4, 0, none⟩) b.length b.length) y3, rowE eU8 5 (.slice (some ⟨b3, 0, none⟩) 1 1) [43], rowE eU8 5 (.slice (some ⟨b2, 0, none⟩) a.length a.length) x3, rowE eU8 5 (.slice (some ⟨b1, 0, none⟩) 1 1) [45]] hL3)))))))
          exact ⟨_, by omega, x3, y3, ix2 + 1, by omega, by omega, (by rw [bX_snoc ix2lo hk2, kx, show ix3 = ((FB a b least).getD ix2.toNat (0, 0, 0)).2.2 by omega]), (by rw [bY_snoc ix2lo hk2, ky, show ix3 = ((FB a b least).getD ix2.toNat (0, 0, 0)).2.2 by omega]), nx, ny, hS47, rfl, Weak.cons rfl <| Weak.cons rfl <| Weak.cons rfl <| Weak.cons rfl <| Weak.cons rfl <| Weak.nil _⟩
      · skip
        refine WC.exit (thenQ.x <| thenQ.x <| blockQ.hit <| thenQ.n ?_)
        refine WC.seq ?_
        have hS48 := SH.drew hL2
        refine WC.regionD [] (fun w_ => KB No w16.drew w_) [(.pure, 0), (.look, 1), (.pure, 2), (.look, 3), (.pure, 4), (.pure, 5), (.pure, 6)] (by kernel_rfl) (by kernel_rfl) (KB.refl _ _) ?_
        refine WS.pure rfl rfl (fun _ => LV.mv rfl) ?_
        refine WS.look rfl rfl (fun _ hk_ => LV.strOf Try.underlying58 Try.underlying5 Try.underlying9 rfl ((SH.rd hS48 (.tail _ (.tail _ (.tail _ (.head _))))) _ hk_)) ?_
        refine WS.pure rfl rfl (fun _ => LV.mv rfl) ?_
        refine WS.look rfl rfl (fun _ hk_ => LV.strOf Try.underlying58 Try.underlying5 Try.underlying9 rfl ((SH.rd hS48 (.tail _ (.head _))) _ hk_)) ?_
        iterate 3 refine WS.pure rfl rfl (fun _ => LV.asg rfl) ?_
        refine WS.nil (thenQ.n ?_)
        refine WC.ret (?_)
        exact ⟨_, fun a ha => res3 rfl ha rfl rfl rfl, tup3 (congrArg Value.string (by unfold SGX; rw [if_neg (by omega), gx, take_all (by omega)])) (congrArg Value.string (by unfold SGY; rw [if_neg (by omega), gy, take_all (by omega)])) (congrArg (Value.int .i64) (by omega)), hS48.kb⟩

set_option maxHeartbeats 1000000 in
theorem rsigns_calls {w : World} {A_a : Option Addr} {n_a c_a : Nat} {a : List Ln} {A_b : Option Addr} {n_b c_b : Nat} {b : List Ln} {least : Int} (h_a : St No w (Rd eL (.slice A_a n_a c_a) a)) (hn_a : a.length = n_a) (h_b : St No w (Rd eL (.slice A_b n_b c_b) b)) (hn_b : b.length = n_b)  :
    Calls Try.prog 11 #[(.slice A_a n_a c_a), (.slice A_b n_b c_b), (.int .i64 least)] w fun e w' => ∃ v, e = .returned v ∧ (fun v w' => v = .tuple #[.string (SGX a b least), .string (SGY a b least), .int .i64 (FE a b least)] ∧ KB No w w') v w' := by
  subst hn_a hn_b
  have hS : SH w No w [] := SH.nil _ _
  refine calls (l := litOf [(.slice A_a a.length c_a), (.slice A_b b.length c_b), (.int .i64 least)] 0) Try.func11 rfl (n := 141) rfl (Nat.le_of_ble_eq_true rfl) (lit_args _) ?_
  refine WC.seq ?_
  refine WC.region ?_
  iterate 3 refine WL.lv rfl (LV.asg rfl) ?_
  refine WL.nil (thenQ.n ?_)
  refine WC.seq ?_
  refine WC.region ?_
  iterate 3 refine WL.lv rfl (LV.mv rfl) ?_
  refine WL.call rfl (XC.fn Try.func9 (by kernel_rfl) rfl rfl rfl) (rfind_calls (least := least) (SH.stN hS h_a) rfl (SH.stN hS h_b) rfl ) ?_
  rintro v_ w1 ⟨A1, c1, rfl, hS1⟩
  have hS2 := SH.joinN hS hS1
  refine WL.lv rfl (LV.mv rfl) ?_
  iterate 2 refine WL.lv rfl (LV.extract rfl rfl) ?_
  iterate 2 refine WL.lv rfl (LV.asg rfl) ?_
  refine WL.nil (thenQ.n ?_)
  iterate 2 refine WC.seq ?_
  refine WC.region ?_
  refine WL.lv rfl (LV.mv rfl) ?_
  refine WL.lv rfl (LV.neI rfl rfl) ?_
  refine WL.nil (thenQ.n ?_)
  refine WC.condP (p := (FE a b least) ≠ 0) rfl (fun hc1 => ?_) (fun hc1 => ?_)
  · skip
    refine WC.seq ?_
    refine WC.region ?_
    refine WL.lv rfl (LV.mv rfl) ?_
    iterate 3 refine WL.lv rfl (LV.asg rfl) ?_
    refine WL.nil (thenQ.n ?_)
    refine WC.ret (thenQ.r <| ?_)
    exact ⟨_, fun a ha => res3 rfl ha rfl rfl rfl, tup3 (congrArg Value.string (by unfold SGX; rw [if_pos (by omega)])) (congrArg Value.string (by unfold SGY; rw [if_pos (by omega)])) rfl, hS2.kb⟩
  · have hfe_ := FE_0 hc1
    have hsyl := STY_len (a := a) (b := b)
    have hfbl := (FB_good (a := a) (b := b) (least := least) (by omega) (by omega) (by omega) (by omega)).2
    have hla := NA_len a
    have hlb := NB_len a b
    refine WC.skip (thenQ.n ?_)
    refine WC.seq ?_
    refine WC.region ?_
    iterate 2 refine WL.lv rfl (LV.mv rfl) ?_
    refine WL.call rfl (XC.fn Try.func15 (by kernel_rfl) rfl rfl rfl) (rstay_calls  (SH.stN hS2 h_a) rfl (SH.stN hS2 h_b) rfl ) ?_
    rintro v_ w2 ⟨A2, c2, rfl, hS3⟩
    have hS4 := SH.joinN hS2 hS3
    refine WL.lv rfl (LV.mv rfl) ?_
    iterate 2 refine WL.lv rfl (LV.extract rfl rfl) ?_
    iterate 2 refine WL.lv rfl (LV.asg rfl) ?_
    refine WL.nil (thenQ.n ?_)
    refine WC.seq ?_
    refine WC.region ?_
    refine WL.lv rfl (LV.asg rfl) ?_
    refine WL.nil (thenQ.n ?_)
    refine WC.seq ?_
    refine WC.region ?_
    refine WL.lv rfl (LV.asg rfl) ?_
    refine WL.nil (thenQ.n ?_)
    iterate 2 refine WC.seq ?_
    refine WC.region ?_
    refine WL.lv rfl (LV.asg rfl) ?_
    refine WL.nil (thenQ.n ?_)
    refine WC.block ?_
    refine WC.loop (fun m_ f_ w_ => ∃ (x : ByteArray) (i : Int), (0 ≤ i) ∧ (i ≤ (a.length : Int)) ∧ (x = strOfNums (sgl 45 (pX (STY a b)) (bX (FB a b least)) i.toNat)) ∧ ((x.size : Int) = i) ∧ SH w No w_ [rowE eP 41 (.slice A2 ((STY a b).length) c2) (STY a b), rowE eB3 43 (.slice A1 ((FB a b least).length) c1) (FB a b least)] ∧ m_ = (((a.length : Int) - i).toNat) ∧ Weak (lit [(0, (.slice A_a a.length c_a)), (1, (.slice A_b b.length c_b)), (9, (.slice A1 ((FB a b least).length) c1)), (11, (.slice A2 ((STY a b).length) c2)), (13, (.string x)), (14, (.string ⟨#[]⟩)), (15, (.int .i64 i))]) f_) _ ⟨⟨#[]⟩, 0, by omega, by omega, rfl, rfl, hS4, rfl, Weak.cons rfl <| Weak.cons rfl <| Weak.cons rfl <| Weak.cons rfl <| Weak.cons rfl <| Weak.cons rfl <| Weak.cons rfl <| Weak.nil _⟩ ?_
    rintro m1 f1 w3 ⟨x, i, ilo, ihi, fx, sx, hL1, rfl, hw1⟩
    refine WC.weak hw1 ?_
    clear hw1
    iterate 2 refine WC.seq ?_
    refine WC.region ?_
    iterate 2 refine WL.lv rfl (LV.mv rfl) ?_
    refine WL.lv rfl (LV.lenL Try.underlying22 rfl) ?_
    refine WL.lv rfl (LV.ltI rfl rfl) ?_
    refine WL.nil (thenQ.n ?_)
    refine WC.condP (p := i < (a.length : Int)) rfl (fun hc2 => ?_) (fun hc2 => ?_)
    · skip
      refine WC.skip (thenQ.n ?_)
      refine WC.seq ?_
      refine WC.block ?_
      refine WC.seq ?_
      refine WC.region ?_
      refine WL.lv rfl (LV.asg rfl) ?_
      refine WL.nil (thenQ.n ?_)
      iterate 2 refine WC.seq ?_
      refine WC.region ?_
      refine WL.lv rfl (LV.asg rfl) ?_
      refine WL.nil (thenQ.n ?_)
      refine WC.block ?_
      refine WC.loop (fun m_ f_ w_ => ∃ (ch : ByteArray) (k : Int), (0 ≤ k) ∧ (k ≤ ((STY a b).length : Int)) ∧ (ch = chr (sg 45 (pX ((STY a b).take k.toNat)) [] i)) ∧ (ch.size = 1) ∧ SH w No w_ [rowE eP 41 (.slice A2 ((STY a b).length) c2) (STY a b), rowE eB3 43 (.slice A1 ((FB a b least).length) c1) (FB a b least)] ∧ m_ = ((((STY a b).length : Int) - k).toNat) ∧ Weak (lit [(0, (.slice A_a a.length c_a)), (1, (.slice A_b b.length c_b)), (9, (.slice A1 ((FB a b least).length) c1)), (11, (.slice A2 ((STY a b).length) c2)), (13, (.string x)), (14, (.string ⟨#[]⟩)), (15, (.int .i64 i)), (16, (.string ch)), (17, (.int .i64 k))]) f_) _ ⟨⟨#[45]⟩, 0, by omega, by omega, (lit45.trans (sg_init (ps := STY a b)).1), rfl, hL1, rfl, Weak.cons rfl <| Weak.cons rfl <| Weak.cons rfl <| Weak.cons rfl <| Weak.cons rfl <| Weak.cons rfl <| Weak.cons rfl <| Weak.cons rfl <| Weak.cons rfl <| Weak.nil _⟩ ?_
      rintro m2 f2 w4 ⟨ch, k, klo, khi, cx, cs, hL2, rfl, hw2⟩
      refine WC.weak hw2 ?_
      clear hw2
      iterate 2 refine WC.seq ?_
      refine WC.region ?_
      iterate 2 refine WL.lv rfl (LV.mv rfl) ?_
      refine WL.lv rfl (LV.lenL Try.underlying35 rfl) ?_
      refine WL.lv rfl (LV.ltI rfl rfl) ?_
      refine WL.nil (thenQ.n ?_)
      refine WC.condP (p := k < ((STY a b).length : Int)) rfl (fun hk => ?_) (fun hk => ?_)
      · skip
        refine WC.skip (thenQ.n ?_)
        refine WC.seq ?_
        refine WC.block ?_
        refine WC.seq ?_
        refine WC.region ?_
        iterate 2 refine WL.lv rfl (LV.mv rfl) ?_
        obtain ⟨A3, c3, e1, g1⟩ := St.elt (SH.rd hL2 (.head _)) (0, 0) k (by omega) (by omega)
        refine WL.lv rfl (LV.idxA Try.underlying35 ti41.sz rfl e1 rfl (by omega) (by omega)) ?_
        refine WL.lv rfl (LV.idxArr Try.underlying41 ti3.sz rfl rfl (by decide) (by decide)) ?_
        refine WL.lv rfl (LV.load1 (v := (.int .i64 (((STY a b).getD (k).toNat (0, 0)).1))) Try.underlying3 rfl rfl (g1 _ (KB.refl No _) 0 _ rfl)) ?_
        refine WL.lv rfl (LV.mv rfl) ?_
        refine WL.lv rfl (LV.eqI rfl rfl) ?_
        refine WL.nil (thenQ.n ?_)
        refine WC.condP (p := (((STY a b).getD (k).toNat (0, 0)).1) = i) rfl (fun h57 => ?_) (fun h57 => ?_)
        · skip
          refine WC.region ?_
          refine WL.lv rfl (LV.asg rfl) ?_
          refine WL.nil (blockQ.n <| thenQ.n ?_)
          refine WC.region ?_
          refine WL.lv rfl (LV.mv rfl) ?_
          refine WL.lv rfl (LV.add rfl rfl (wr64 (by omega) (by omega))) ?_
          refine WL.lv rfl (LV.asg rfl) ?_
          refine WL.nil (thenQ.n ?_)
          exact ⟨_, by omega, ⟨#[61]⟩, k + 1, by omega, by omega, (lit61.trans (congrArg chr ((sg_pX klo hk).1 h57))), (by first | rfl | exact cs), hL2, rfl, Weak.cons rfl <| Weak.cons rfl <| Weak.cons rfl <| Weak.cons rfl <| Weak.cons rfl <| Weak.cons rfl <| Weak.cons rfl <| Weak.cons rfl <| Weak.cons rfl <| Weak.nil _⟩
        · skip
          refine WC.skip (blockQ.n <| thenQ.n ?_)
          refine WC.region ?_
          refine WL.lv rfl (LV.mv rfl) ?_
          refine WL.lv rfl (LV.add rfl rfl (wr64 (by omega) (by omega))) ?_
          refine WL.lv rfl (LV.asg rfl) ?_
          refine WL.nil (thenQ.n ?_)
          exact ⟨_, by omega, ch, k + 1, by omega, by omega, (cx.trans (congrArg chr ((sg_pX klo hk).2 h57))), (by first | rfl | exact cs), hL2, rfl, Weak.cons rfl <| Weak.cons rfl <| Weak.cons rfl <| Weak.cons rfl <| Weak.cons rfl <| Weak.cons rfl <| Weak.cons rfl <| Weak.cons rfl <| Weak.cons rfl <| Weak.nil _⟩
      · skip
        refine WC.exit (thenQ.x <| thenQ.x <| blockQ.hit <| thenQ.n ?_)
        iterate 2 refine WC.seq ?_
        refine WC.region ?_
        refine WL.lv rfl (LV.asg rfl) ?_
        refine WL.nil (thenQ.n ?_)
        refine WC.block ?_
        refine WC.loop (fun m_ f_ w_ => ∃ (ch2 : ByteArray) (k2 : Int), (0 ≤ k2) ∧ (k2 ≤ ((FB a b least).length : Int)) ∧ (ch2 = chr (sg 45 (pX (STY a b)) (bX ((FB a b least).take k2.toNat)) i)) ∧ (ch2.size = 1) ∧ SH w No w_ [rowE eP 41 (.slice A2 ((STY a b).length) c2) (STY a b), rowE eB3 43 (.slice A1 ((FB a b least).length) c1) (FB a b least)] ∧ m_ = ((((FB a b least).length : Int) - k2).toNat) ∧ Weak (lit [(0, (.slice A_a a.length c_a)), (1, (.slice A_b b.length c_b)), (9, (.slice A1 ((FB a b least).length) c1)), (11, (.slice A2 ((STY a b).length) c2)), (13, (.string x)), (14, (.string ⟨#[]⟩)), (15, (.int .i64 i)), (16, (.string ch2)), (18, (.int .i64 k2))]) f_) _ ⟨ch, 0, by omega, by omega, (by rw [cx, take_all (by omega)]; rfl), cs, hL2, rfl, Weak.cons rfl <| Weak.cons rfl <| Weak.cons rfl <| Weak.cons rfl <| Weak.cons rfl <| Weak.cons rfl <| Weak.cons rfl <| Weak.cons rfl <| Weak.cons rfl <| Weak.nil _⟩ ?_
        rintro m3 f3 w5 ⟨ch2, k2, k2lo, k2hi, dx, ds, hL3, rfl, hw3⟩
        refine WC.weak hw3 ?_
        clear hw3
        iterate 2 refine WC.seq ?_
        refine WC.region ?_
        iterate 2 refine WL.lv rfl (LV.mv rfl) ?_
        refine WL.lv rfl (LV.lenL Try.underlying24 rfl) ?_
        refine WL.lv rfl (LV.ltI rfl rfl) ?_
        refine WL.nil (thenQ.n ?_)
        refine WC.condP (p := k2 < ((FB a b least).length : Int)) rfl (fun hk2 => ?_) (fun hk2 => ?_)
        · have hb_ := FB_at (a := a) (b := b) (least := least) (by omega) (by omega) (by omega) (by omega) k2lo hk2
          have hb1_ := hb_.1
          have hb2_ := hb_.2.f0
          have hb3_ := hb_.2.f1
          have hb4_ := hb_.2.t0
          have hb5_ := hb_.2.t1
          refine WC.skip (thenQ.n ?_)
          refine WC.seq ?_
          refine WC.block ?_
          refine WC.seq ?_
          have hS5 := SH.drew hL3
          refine WC.regionD [] (fun w_ => KB No w5.drew w_) [(.pure, 0), (.pure, 1), (.pure, 2), (.pure, 3), (.pure, 4), (.look, 5), (.pure, 6), (.pure, 7), (.pure, 8), (.pure, 9), (.pure, 10), (.pure, 11), (.pure, 12), (.look, 13), (.pure, 14), (.pure, 15), (.pure, 16), (.pure, 17), (.look, 18), (.pure, 19), (.pure, 20), (.pure, 21)] (by kernel_rfl) (by kernel_rfl) (KB.refl _ _) ?_
          iterate 3 refine WS.pure rfl rfl (fun _ => LV.mv rfl) ?_
          obtain ⟨A4, c4, e2, g2⟩ := St.elt (SH.rd hS5 (.tail _ (.head _))) (0, 0, 0) k2 (by omega) (by omega)
          refine WS.pure rfl rfl (fun _ => LV.idxA Try.underlying24 ti43.sz rfl e2 rfl (by omega) (by omega)) ?_
          refine WS.pure rfl rfl (fun _ => LV.fieldA Try.underlying43 rfl ti3.sz rfl) ?_
          refine WS.look rfl rfl (fun _ hk_ => LV.load1 (v := (.int .i64 (((FB a b least).getD (k2).toNat (0, 0, 0)).1))) Try.underlying3 rfl rfl (g2 _ hk_ 0 _ rfl)) ?_
          rcases Decidable.em (i ≥ (((FB a b least).getD (k2).toNat (0, 0, 0)).1)) with hg1 | hg1
          · refine WS.pure rfl rfl (fun _ => LV.as (LV.geI rfl rfl) (decide_eq_true hg1)) ?_
            iterate 4 refine WS.pure rfl rfl (fun _ => LV.mv rfl) ?_
            obtain ⟨A5, c5, e3, g3⟩ := St.elt (SH.rd hS5 (.tail _ (.head _))) (0, 0, 0) k2 (by omega) (by omega)
            refine WS.pure rfl rfl (fun _ => LV.idxA Try.underlying24 ti43.sz rfl e3 rfl (by omega) (by omega)) ?_
            refine WS.pure rfl rfl (fun _ => LV.fieldA Try.underlying43 rfl ti3.sz rfl) ?_
            refine WS.look rfl rfl (fun _ hk_ => LV.load1 (v := (.int .i64 (((FB a b least).getD (k2).toNat (0, 0, 0)).1))) Try.underlying3 rfl rfl (g3 _ hk_ 0 _ rfl)) ?_
            iterate 2 refine WS.pure rfl rfl (fun _ => LV.mv rfl) ?_
            obtain ⟨A6, c6, e4, g4⟩ := St.elt (SH.rd hS5 (.tail _ (.head _))) (0, 0, 0) k2 (by omega) (by omega)
            refine WS.pure rfl rfl (fun _ => LV.idxA Try.underlying24 ti43.sz rfl e4 rfl (by omega) (by omega)) ?_
            refine WS.pure rfl rfl (fun _ => LV.fieldA Try.underlying43 rfl ti3.sz rfl) ?_
            refine WS.look rfl rfl (fun _ hk_ => LV.load1 (v := (.int .i64 (((FB a b least).getD (k2).toNat (0, 0, 0)).2.2))) Try.underlying3 rfl rfl (g4 _ hk_ 2 _ rfl)) ?_
            refine WS.pure rfl rfl (fun _ => LV.add rfl rfl (wr64 (by omega) (by omega))) ?_
            refine WS.pure rfl rfl (fun _ => LV.ltI rfl rfl) ?_
            refine WS.pure rfl rfl (fun _ => LV.pickT rfl rfl) ?_
            refine WS.nil (thenQ.n ?_)
            refine WC.condP (p := i < ((((FB a b least).getD (k2).toNat (0, 0, 0)).1) + (((FB a b least).getD (k2).toNat (0, 0, 0)).2.2))) rfl (fun hc3 => ?_) (fun hc3 => ?_)
            · skip
              refine WC.region ?_
              refine WL.lv rfl (LV.asg rfl) ?_
              refine WL.nil (blockQ.n <| thenQ.n ?_)
              refine WC.region ?_
              refine WL.lv rfl (LV.mv rfl) ?_
              refine WL.lv rfl (LV.add rfl rfl (wr64 (by omega) (by omega))) ?_
              refine WL.lv rfl (LV.asg rfl) ?_
              refine WL.nil (thenQ.n ?_)
              exact ⟨_, by omega, ⟨#[126]⟩, k2 + 1, by omega, by omega, (by rw [bX_snoc k2lo hk2]; exact lit126.trans (congrArg chr (sg_in.1 ⟨by omega, by omega⟩))), (by first | rfl | exact ds), hS5, rfl, Weak.cons rfl <| Weak.cons rfl <| Weak.cons rfl <| Weak.cons rfl <| Weak.cons rfl <| Weak.cons rfl <| Weak.cons rfl <| Weak.cons rfl <| Weak.cons rfl <| Weak.nil _⟩
            · skip
              refine WC.skip (blockQ.n <| thenQ.n ?_)
              refine WC.region ?_
              refine WL.lv rfl (LV.mv rfl) ?_
              refine WL.lv rfl (LV.add rfl rfl (wr64 (by omega) (by omega))) ?_
              refine WL.lv rfl (LV.asg rfl) ?_
              refine WL.nil (thenQ.n ?_)
              exact ⟨_, by omega, ch2, k2 + 1, by omega, by omega, (by rw [bX_snoc k2lo hk2, dx]; exact congrArg chr (sg_in.2 (fun h_ => by omega))), (by first | rfl | exact ds), hS5, rfl, Weak.cons rfl <| Weak.cons rfl <| Weak.cons rfl <| Weak.cons rfl <| Weak.cons rfl <| Weak.cons rfl <| Weak.cons rfl <| Weak.cons rfl <| Weak.cons rfl <| Weak.nil _⟩
          · refine WS.pure rfl rfl (fun _ => LV.as (LV.geI rfl rfl) (decide_eq_false hg1)) ?_
            refine WS.pure rfl rfl (fun _ => LV.mv rfl) ?_
            iterate 5 refine WS.off rfl rfl ?_
            refine WS.offL rfl rfl ?_
            iterate 4 refine WS.off rfl rfl ?_
            refine WS.offL rfl rfl ?_
            iterate 2 refine WS.off rfl rfl ?_
            refine WS.pure rfl rfl (fun _ => LV.pickF rfl rfl) ?_
            refine WS.nil (thenQ.n ?_)
            refine WC.condF rfl ?_
            refine WC.skip (blockQ.n <| thenQ.n ?_)
            refine WC.region ?_
            refine WL.lv rfl (LV.mv rfl) ?_
            refine WL.lv rfl (LV.add rfl rfl (wr64 (by omega) (by omega))) ?_
            refine WL.lv rfl (LV.asg rfl) ?_
            refine WL.nil (thenQ.n ?_)
            exact ⟨_, by omega, ch2, k2 + 1, by omega, by omega, (by rw [bX_snoc k2lo hk2, dx]; exact congrArg chr (sg_in.2 (fun h_ => by omega))), (by first | rfl | exact ds), hS5, rfl, Weak.cons rfl <| Weak.cons rfl <| Weak.cons rfl <| Weak.cons rfl <| Weak.cons rfl <| Weak.cons rfl <| Weak.cons rfl <| Weak.cons rfl <| Weak.cons rfl <| Weak.nil _⟩
        · skip
          refine WC.exit (thenQ.x <| thenQ.x <| blockQ.hit <| thenQ.n ?_)
          refine WC.region ?_
          iterate 2 refine WL.lv rfl (LV.mv rfl) ?_
          refine WL.lv rfl (LV.addS rfl rfl (by omega)) ?_
          refine WL.lv rfl (LV.asg rfl) ?_
          refine WL.nil (blockQ.n <| thenQ.n ?_)
          refine WC.region ?_
          refine WL.lv rfl (LV.mv rfl) ?_
          refine WL.lv rfl (LV.add rfl rfl (wr64 (by omega) (by omega))) ?_
          refine WL.lv rfl (LV.asg rfl) ?_
          refine WL.nil (thenQ.n ?_)
          exact ⟨_, by omega, x ++ ch2, i + 1, by omega, by omega, (by rw [fx, dx, take_all (by omega)]; exact str_snoc ilo), (by rw [ByteArray.size_append]; omega), hL3, rfl, Weak.cons rfl <| Weak.cons rfl <| Weak.cons rfl <| Weak.cons rfl <| Weak.cons rfl <| Weak.cons rfl <| Weak.cons rfl <| Weak.nil _⟩
    · skip
      refine WC.exit (thenQ.x <| thenQ.x <| blockQ.hit <| thenQ.n ?_)
      iterate 2 refine WC.seq ?_
      refine WC.region ?_
      refine WL.lv rfl (LV.asg rfl) ?_
      refine WL.nil (thenQ.n ?_)
      refine WC.block ?_
      refine WC.loop (fun m_ f_ w_ => ∃ (y : ByteArray) (i2 : Int), (0 ≤ i2) ∧ (i2 ≤ (b.length : Int)) ∧ (y = strOfNums (sgl 43 (pY (STY a b)) (bY (FB a b least)) i2.toNat)) ∧ ((y.size : Int) = i2) ∧ SH w No w_ [rowE eP 41 (.slice A2 ((STY a b).length) c2) (STY a b), rowE eB3 43 (.slice A1 ((FB a b least).length) c1) (FB a b least)] ∧ m_ = (((b.length : Int) - i2).toNat) ∧ Weak (lit [(1, (.slice A_b b.length c_b)), (9, (.slice A1 ((FB a b least).length) c1)), (11, (.slice A2 ((STY a b).length) c2)), (13, (.string x)), (14, (.string y)), (19, (.int .i64 i2))]) f_) _ ⟨⟨#[]⟩, 0, by omega, by omega, rfl, rfl, hL1, rfl, Weak.cons rfl <| Weak.cons rfl <| Weak.cons rfl <| Weak.cons rfl <| Weak.cons rfl <| Weak.cons rfl <| Weak.nil _⟩ ?_
      rintro m4 f4 w6 ⟨y, i2, i2lo, i2hi, fy, sy, hL4, rfl, hw4⟩
      refine WC.weak hw4 ?_
      clear hw4
      iterate 2 refine WC.seq ?_
      refine WC.region ?_
      iterate 2 refine WL.lv rfl (LV.mv rfl) ?_
      refine WL.lv rfl (LV.lenL Try.underlying22 rfl) ?_
      refine WL.lv rfl (LV.ltI rfl rfl) ?_
      refine WL.nil (thenQ.n ?_)
      refine WC.condP (p := i2 < (b.length : Int)) rfl (fun hc4 => ?_) (fun hc4 => ?_)
      · skip
        refine WC.skip (thenQ.n ?_)
        refine WC.seq ?_
        refine WC.block ?_
        refine WC.seq ?_
        refine WC.region ?_
        refine WL.lv rfl (LV.asg rfl) ?_
        refine WL.nil (thenQ.n ?_)
        iterate 2 refine WC.seq ?_
        refine WC.region ?_
        refine WL.lv rfl (LV.asg rfl) ?_
        refine WL.nil (thenQ.n ?_)
        refine WC.block ?_
        refine WC.loop (fun m_ f_ w_ => ∃ (ch3 : ByteArray) (k3 : Int), (0 ≤ k3) ∧ (k3 ≤ ((STY a b).length : Int)) ∧ (ch3 = chr (sg 43 (pY ((STY a b).take k3.toNat)) [] i2)) ∧ (ch3.size = 1) ∧ SH w No w_ [rowE eP 41 (.slice A2 ((STY a b).length) c2) (STY a b), rowE eB3 43 (.slice A1 ((FB a b least).length) c1) (FB a b least)] ∧ m_ = ((((STY a b).length : Int) - k3).toNat) ∧ Weak (lit [(1, (.slice A_b b.length c_b)), (9, (.slice A1 ((FB a b least).length) c1)), (11, (.slice A2 ((STY a b).length) c2)), (13, (.string x)), (14, (.string y)), (19, (.int .i64 i2)), (20, (.string ch3)), (21, (.int .i64 k3))]) f_) _ ⟨⟨#[43]⟩, 0, by omega, by omega, (lit43.trans (sg_init (ps := STY a b)).2), rfl, hL4, rfl, Weak.cons rfl <| Weak.cons rfl <| Weak.cons rfl <| Weak.cons rfl <| Weak.cons rfl <| Weak.cons rfl <| Weak.cons rfl <| Weak.cons rfl <| Weak.nil _⟩ ?_
        rintro m5 f5 w7 ⟨ch3, k3, k3lo, k3hi, cy, ct, hL5, rfl, hw5⟩
        refine WC.weak hw5 ?_
        clear hw5
        iterate 2 refine WC.seq ?_
        refine WC.region ?_
        iterate 2 refine WL.lv rfl (LV.mv rfl) ?_
        refine WL.lv rfl (LV.lenL Try.underlying35 rfl) ?_
        refine WL.lv rfl (LV.ltI rfl rfl) ?_
        refine WL.nil (thenQ.n ?_)
        refine WC.condP (p := k3 < ((STY a b).length : Int)) rfl (fun hk3 => ?_) (fun hk3 => ?_)
        · skip
          refine WC.skip (thenQ.n ?_)
          refine WC.seq ?_
          refine WC.block ?_
          refine WC.seq ?_
          refine WC.region ?_
          iterate 2 refine WL.lv rfl (LV.mv rfl) ?_
          obtain ⟨A7, c7, e5, g5⟩ := St.elt (SH.rd hL5 (.head _)) (0, 0) k3 (by omega) (by omega)
          refine WL.lv rfl (LV.idxA Try.underlying35 ti41.sz rfl e5 rfl (by omega) (by omega)) ?_
          refine WL.lv rfl (LV.idxArr Try.underlying41 ti3.sz rfl rfl (by decide) (by decide)) ?_
          refine WL.lv rfl (LV.load1 (v := (.int .i64 (((STY a b).getD (k3).toNat (0, 0)).2))) Try.underlying3 rfl rfl (g5 _ (KB.refl No _) 1 _ rfl)) ?_
          refine WL.lv rfl (LV.mv rfl) ?_
          refine WL.lv rfl (LV.eqI rfl rfl) ?_
          refine WL.nil (thenQ.n ?_)
          refine WC.condP (p := (((STY a b).getD (k3).toNat (0, 0)).2) = i2) rfl (fun h107 => ?_) (fun h107 => ?_)
          · skip
            refine WC.region ?_
            refine WL.lv rfl (LV.asg rfl) ?_
            refine WL.nil (blockQ.n <| thenQ.n ?_)
            refine WC.region ?_
            refine WL.lv rfl (LV.mv rfl) ?_
            refine WL.lv rfl (LV.add rfl rfl (wr64 (by omega) (by omega))) ?_
            refine WL.lv rfl (LV.asg rfl) ?_
            refine WL.nil (thenQ.n ?_)
            exact ⟨_, by omega, ⟨#[61]⟩, k3 + 1, by omega, by omega, (lit61.trans (congrArg chr ((sg_pY k3lo hk3).1 h107))), (by first | rfl | exact ct), hL5, rfl, Weak.cons rfl <| Weak.cons rfl <| Weak.cons rfl <| Weak.cons rfl <| Weak.cons rfl <| Weak.cons rfl <| Weak.cons rfl <| Weak.cons rfl <| Weak.nil _⟩
          · skip
            refine WC.skip (blockQ.n <| thenQ.n ?_)
            refine WC.region ?_
            refine WL.lv rfl (LV.mv rfl) ?_
            refine WL.lv rfl (LV.add rfl rfl (wr64 (by omega) (by omega))) ?_
            refine WL.lv rfl (LV.asg rfl) ?_
            refine WL.nil (thenQ.n ?_)
            exact ⟨_, by omega, ch3, k3 + 1, by omega, by omega, (cy.trans (congrArg chr ((sg_pY k3lo hk3).2 h107))), (by first | rfl | exact ct), hL5, rfl, Weak.cons rfl <| Weak.cons rfl <| Weak.cons rfl <| Weak.cons rfl <| Weak.cons rfl <| Weak.cons rfl <| Weak.cons rfl <| Weak.cons rfl <| Weak.nil _⟩
        · skip
          refine WC.exit (thenQ.x <| thenQ.x <| blockQ.hit <| thenQ.n ?_)
          iterate 2 refine WC.seq ?_
          refine WC.region ?_
          refine WL.lv rfl (LV.asg rfl) ?_
          refine WL.nil (thenQ.n ?_)
          refine WC.block ?_
          refine WC.loop (fun m_ f_ w_ => ∃ (ch4 : ByteArray) (k4 : Int), (0 ≤ k4) ∧ (k4 ≤ ((FB a b least).length : Int)) ∧ (ch4 = chr (sg 43 (pY (STY a b)) (bY ((FB a b least).take k4.toNat)) i2)) ∧ (ch4.size = 1) ∧ SH w No w_ [rowE eP 41 (.slice A2 ((STY a b).length) c2) (STY a b), rowE eB3 43 (.slice A1 ((FB a b least).length) c1) (FB a b least)] ∧ m_ = ((((FB a b least).length : Int) - k4).toNat) ∧ Weak (lit [(1, (.slice A_b b.length c_b)), (9, (.slice A1 ((FB a b least).length) c1)), (11, (.slice A2 ((STY a b).length) c2)), (13, (.string x)), (14, (.string y)), (19, (.int .i64 i2)), (20, (.string ch4)), (22, (.int .i64 k4))]) f_) _ ⟨ch3, 0, by omega, by omega, (by rw [cy, take_all (by omega)]; rfl), ct, hL5, rfl, Weak.cons rfl <| Weak.cons rfl <| Weak.cons rfl <| Weak.cons rfl <| Weak.cons rfl <| Weak.cons rfl <| Weak.cons rfl <| Weak.cons rfl <| Weak.nil _⟩ ?_
          rintro m6 f6 w8 ⟨ch4, k4, k4lo, k4hi, dy, dt, hL6, rfl, hw6⟩
          refine WC.weak hw6 ?_
          clear hw6
          iterate 2 refine WC.seq ?_
          refine WC.region ?_
          iterate 2 refine WL.lv rfl (LV.mv rfl) ?_
          refine WL.lv rfl (LV.lenL Try.underlying24 rfl) ?_
          refine WL.lv rfl (LV.ltI rfl rfl) ?_
          refine WL.nil (thenQ.n ?_)
          refine WC.condP (p := k4 < ((FB a b least).length : Int)) rfl (fun hk4 => ?_) (fun hk4 => ?_)
          · have hb_ := FB_at (a := a) (b := b) (least := least) (by omega) (by omega) (by omega) (by omega) k4lo hk4
            have hb1_ := hb_.1
            have hb2_ := hb_.2.f0
            have hb3_ := hb_.2.f1
            have hb4_ := hb_.2.t0
            have hb5_ := hb_.2.t1
            refine WC.skip (thenQ.n ?_)
            refine WC.seq ?_
            refine WC.block ?_
            refine WC.seq ?_
            have hS6 := SH.drew hL6
            refine WC.regionD [] (fun w_ => KB No w8.drew w_) [(.pure, 0), (.pure, 1), (.pure, 2), (.pure, 3), (.pure, 4), (.look, 5), (.pure, 6), (.pure, 7), (.pure, 8), (.pure, 9), (.pure, 10), (.pure, 11), (.pure, 12), (.look, 13), (.pure, 14), (.pure, 15), (.pure, 16), (.pure, 17), (.look, 18), (.pure, 19), (.pure, 20), (.pure, 21)] (by kernel_rfl) (by kernel_rfl) (KB.refl _ _) ?_
            iterate 3 refine WS.pure rfl rfl (fun _ => LV.mv rfl) ?_
            obtain ⟨A8, c8, e6, g6⟩ := St.elt (SH.rd hS6 (.tail _ (.head _))) (0, 0, 0) k4 (by omega) (by omega)
            refine WS.pure rfl rfl (fun _ => LV.idxA Try.underlying24 ti43.sz rfl e6 rfl (by omega) (by omega)) ?_
            refine WS.pure rfl rfl (fun _ => LV.fieldA Try.underlying43 rfl ti3.sz rfl) ?_
            refine WS.look rfl rfl (fun _ hk_ => LV.load1 (v := (.int .i64 (((FB a b least).getD (k4).toNat (0, 0, 0)).2.1))) Try.underlying3 rfl rfl (g6 _ hk_ 1 _ rfl)) ?_
            rcases Decidable.em (i2 ≥ (((FB a b least).getD (k4).toNat (0, 0, 0)).2.1)) with hg2 | hg2
            · refine WS.pure rfl rfl (fun _ => LV.as (LV.geI rfl rfl) (decide_eq_true hg2)) ?_
              iterate 4 refine WS.pure rfl rfl (fun _ => LV.mv rfl) ?_
              obtain ⟨A9, c9, e7, g7⟩ := St.elt (SH.rd hS6 (.tail _ (.head _))) (0, 0, 0) k4 (by omega) (by omega)
              refine WS.pure rfl rfl (fun _ => LV.idxA Try.underlying24 ti43.sz rfl e7 rfl (by omega) (by omega)) ?_
              refine WS.pure rfl rfl (fun _ => LV.fieldA Try.underlying43 rfl ti3.sz rfl) ?_
              refine WS.look rfl rfl (fun _ hk_ => LV.load1 (v := (.int .i64 (((FB a b least).getD (k4).toNat (0, 0, 0)).2.1))) Try.underlying3 rfl rfl (g7 _ hk_ 1 _ rfl)) ?_
              iterate 2 refine WS.pure rfl rfl (fun _ => LV.mv rfl) ?_
              obtain ⟨A10, c10, e8, g8⟩ := St.elt (SH.rd hS6 (.tail _ (.head _))) (0, 0, 0) k4 (by omega) (by omega)
              refine WS.pure rfl rfl (fun _ => LV.idxA Try.underlying24 ti43.sz rfl e8 rfl (by omega) (by omega)) ?_
              refine WS.pure rfl rfl (fun _ => LV.fieldA Try.underlying43 rfl ti3.sz rfl) ?_
              refine WS.look rfl rfl (fun _ hk_ => LV.load1 (v := (.int .i64 (((FB a b least).getD (k4).toNat (0, 0, 0)).2.2))) Try.underlying3 rfl rfl (g8 _ hk_ 2 _ rfl)) ?_
              refine WS.pure rfl rfl (fun _ => LV.add rfl rfl (wr64 (by omega) (by omega))) ?_
              refine WS.pure rfl rfl (fun _ => LV.ltI rfl rfl) ?_
              refine WS.pure rfl rfl (fun _ => LV.pickT rfl rfl) ?_
              refine WS.nil (thenQ.n ?_)
              refine WC.condP (p := i2 < ((((FB a b least).getD (k4).toNat (0, 0, 0)).2.1) + (((FB a b least).getD (k4).toNat (0, 0, 0)).2.2))) rfl (fun hc5 => ?_) (fun hc5 => ?_)
              · skip
                refine WC.region ?_
                refine WL.lv rfl (LV.asg rfl) ?_
                refine WL.nil (blockQ.n <| thenQ.n ?_)
                refine WC.region ?_
                refine WL.lv rfl (LV.mv rfl) ?_
                refine WL.lv rfl (LV.add rfl rfl (wr64 (by omega) (by omega))) ?_
                refine WL.lv rfl (LV.asg rfl) ?_
                refine WL.nil (thenQ.n ?_)
                exact ⟨_, by omega, ⟨#[126]⟩, k4 + 1, by omega, by omega, (by rw [bY_snoc k4lo hk4]; exact lit126.trans (congrArg chr (sg_in.1 ⟨by omega, by omega⟩))), (by first | rfl | exact dt), hS6, rfl, Weak.cons rfl <| Weak.cons rfl <| Weak.cons rfl <| Weak.cons rfl <| Weak.cons rfl <| Weak.cons rfl <| Weak.cons rfl <| Weak.cons rfl <| Weak.nil _⟩
              · skip
                refine WC.skip (blockQ.n <| thenQ.n ?_)
                refine WC.region ?_
                refine WL.lv rfl (LV.mv rfl) ?_
                refine WL.lv rfl (LV.add rfl rfl (wr64 (by omega) (by omega))) ?_
                refine WL.lv rfl (LV.asg rfl) ?_
                refine WL.nil (thenQ.n ?_)
                exact ⟨_, by omega, ch4, k4 + 1, by omega, by omega, (by rw [bY_snoc k4lo hk4, dy]; exact congrArg chr (sg_in.2 (fun h_ => by omega))), (by first | rfl | exact dt), hS6, rfl, Weak.cons rfl <| Weak.cons rfl <| Weak.cons rfl <| Weak.cons rfl <| Weak.cons rfl <| Weak.cons rfl <| Weak.cons rfl <| Weak.cons rfl <| Weak.nil _⟩
            · refine WS.pure rfl rfl (fun _ => LV.as (LV.geI rfl rfl) (decide_eq_false hg2)) ?_
              refine WS.pure rfl rfl (fun _ => LV.mv rfl) ?_
              iterate 5 refine WS.off rfl rfl ?_
              refine WS.offL rfl rfl ?_
              iterate 4 refine WS.off rfl rfl ?_
              refine WS.offL rfl rfl ?_
              iterate 2 refine WS.off rfl rfl ?_
              refine WS.pure rfl rfl (fun _ => LV.pickF rfl rfl) ?_
              refine WS.nil (thenQ.n ?_)
              refine WC.condF rfl ?_
              refine WC.skip (blockQ.n <| thenQ.n ?_)
              refine WC.region ?_
              refine WL.lv rfl (LV.mv rfl) ?_
              refine WL.lv rfl (LV.add rfl rfl (wr64 (by omega) (by omega))) ?_
              refine WL.lv rfl (LV.asg rfl) ?_
              refine WL.nil (thenQ.n ?_)
              exact ⟨_, by omega, ch4, k4 + 1, by omega, by omega, (by rw [bY_snoc k4lo hk4, dy]; exact congrArg chr (sg_in.2 (fun h_ => by omega))), (by first | rfl | exact dt), hS6, rfl, Weak.cons rfl <| Weak.cons rfl <| Weak.cons rfl <| Weak.cons rfl <| Weak.cons rfl <| Weak.cons rfl <| Weak.cons rfl <| Weak.cons rfl <| Weak.nil _⟩
          · skip
            refine WC.exit (thenQ.x <| thenQ.x <| blockQ.hit <| thenQ.n ?_)
            refine WC.region ?_
            iterate 2 refine WL.lv rfl (LV.mv rfl) ?_
            refine WL.lv rfl (LV.addS rfl rfl (by omega)) ?_
            refine WL.lv rfl (LV.asg rfl) ?_
            refine WL.nil (blockQ.n <| thenQ.n ?_)
            refine WC.region ?_
            refine WL.lv rfl (LV.mv rfl) ?_
            refine WL.lv rfl (LV.add rfl rfl (wr64 (by omega) (by omega))) ?_
            refine WL.lv rfl (LV.asg rfl) ?_
            refine WL.nil (thenQ.n ?_)
            exact ⟨_, by omega, y ++ ch4, i2 + 1, by omega, by omega, (by rw [fy, dy, take_all (by omega)]; exact str_snoc i2lo), (by rw [ByteArray.size_append]; omega), hL6, rfl, Weak.cons rfl <| Weak.cons rfl <| Weak.cons rfl <| Weak.cons rfl <| Weak.cons rfl <| Weak.cons rfl <| Weak.nil _⟩
      · skip
        refine WC.exit (thenQ.x <| thenQ.x <| blockQ.hit <| thenQ.n ?_)
        refine WC.seq ?_
        refine WC.region ?_
        iterate 2 refine WL.lv rfl (LV.mv rfl) ?_
        iterate 3 refine WL.lv rfl (LV.asg rfl) ?_
        refine WL.nil (thenQ.n ?_)
        refine WC.ret (?_)
        exact ⟨_, fun a ha => res3 rfl ha rfl rfl rfl, tup3 (congrArg Value.string (by unfold SGX; rw [if_neg (by omega), fx, show i.toNat = a.length by omega])) (congrArg Value.string (by unfold SGY; rw [if_neg (by omega), fy, show i2.toNat = b.length by omega])) (congrArg (Value.int .i64) (by omega)), hL4.kb⟩

end Go.Proofs.Ytkceknbjlogehaa
