/- A file that comes. -/
import Derived.Test.YtigbphaimbhgjaaGreatMg23
namespace Go.Proofs.YtigbphaimbhgjaaGreat
open Go Go.Gv Go.RowKit Go.Tly Go.Wds Go.Idx
set_option linter.unusedVariables false
set_option linter.unusedSimpArgs false
theorem ti4 : TI Tryz.prog 4 (.bool false) 1 1 := by unfold TI; kernel_rfl

set_option maxHeartbeats 4000000 in
theorem puty_calls {w : World} {S : Nat → Prop} {X : IXS} {n_X : Nat} {file : ByteArray} {A_l : Option Addr} {c_l : Nat} {l : List Itm} (hS0 : SH w S w (ixL 62 68 76 X)) (h_l : St S w (Rd eIt (.slice A_l l.length c_l) l)) (hv : IXW n_X X) (hm : n_X ≤ 30) (hz : file.size ≤ 140737488355328) (hl : l.length ≤ 20) (hy : ∀ y ∈ l, y.2.2.2.1.size ≤ 60 ∧ 0 ≤ y.2.1.2 ∧ y.2.1.2 < 18446744073709551616) (hN : NAM file) :
    Calls Tryz.prog 44 #[(.pointer (some ⟨X.b, 0, none⟩)), (.string file), (.slice A_l l.length c_l)] w fun e w' => ∃ v, e = .returned v ∧ (fun v w' => ∃ (kv1' kv2' : KVS) (P1' : PLI) (P2' : PLE), v = .int .i64 0 ∧ (∀ r ∈ X.P1, r ∈ P1') ∧ (∀ r ∈ X.P2, r ∈ P2') ∧ IXW (n_X + 1) (⟨X.b, X.m1, X.m2, kv1', kv2', P1', P2', (PUTF file l X.F)⟩ : IXS) ∧ SH w S w' (ixL 62 68 76 (⟨X.b, X.m1, X.m2, kv1', kv2', P1', P2', (PUTF file l X.F)⟩ : IXS))) v w' := by
  have hS : SH w S w [blkE X.b 62 #[(.map (some X.m1)), (.map (some X.m2))], mapG kS kV X.m1 X.kv1, mapG kS kV X.m2 X.kv2, insE idS eIt 68 X.P1, insE idS eSI 76 X.P2] := hS0
  refine calls (l := litOf [(.pointer (some ⟨X.b, 0, none⟩)), (.string file), (.slice A_l l.length c_l)] 0) Tryz.func44 rfl (n := 91) rfl (Nat.le_of_ble_eq_true rfl) (lit_args _) ?_
  refine WC.seq ?_
  refine WC.region ?_
  refine WL.lv rfl (LV.asg rfl) ?_
  refine WL.nil (thenQ.n ?_)
  refine WC.seq ?_
  refine WC.block ?_
  refine WC.seq ?_
  refine WC.region ?_
  refine WL.lv rfl (LV.mv rfl) ?_
  refine WL.lv rfl (LV.eqPS Tryz.underlying27 rfl rfl) ?_
  refine WL.lv rfl (LV.asg rfl) ?_
  refine WL.nil (thenQ.n ?_)
  refine WC.condF rfl ?_
  refine WC.seq ?_
  refine WC.region ?_
  refine WL.lv rfl (LV.mv rfl) ?_
  refine WL.call rfl (XC.fn Tryz.func65 (by kernel_rfl) rfl rfl rfl) (Calls.asB (name_calls (s := file) (hz)) (decide_eq_true (hN))) ?_
  rintro v_ w1 ⟨rfl, hk1⟩
  have hS1 := SH.same hS hk1
  refine WL.lv rfl (LV.notB rfl) ?_
  refine WL.lv rfl (LV.asg rfl) ?_
  refine WL.nil (thenQ.n ?_)
  refine WC.condF rfl ?_
  refine WC.skip (blockQ.n <| thenQ.n ?_)
  refine WC.seq ?_
  refine WC.region ?_
  refine WL.lv rfl (LV.mv rfl) ?_
  refine WL.lv rfl (LV.nilCheck rfl) ?_
  refine WL.lv rfl (LV.fieldA Tryz.underlying62 rfl ti60.sz rfl) ?_
  refine WL.lv rfl (LV.load1 Tryz.underlying60 rfl rfl (Blk.cellN (SH.at hS1 (.head _)) 0 rfl _ (KB.refl No _))) ?_
  refine WL.lv rfl (LV.mv rfl) ?_
  obtain ⟨A1, c1, hv1, hr1⟩ := look_at (FILES.atL hv.fs file) (SH.rdIn hS1 (.tail _ (.tail _ (.tail _ (.head _)))))
  refine WL.lv rfl (LV.to (congrArg (fun v_ => Value.tuple #[v_, .bool (lookL X.kv1 file).isSome]) hv1) (LV.lookOkG (q := file) (V := kV) (z := svZ) (key_str Tryz.underlying9) Tryz.underlying60 ti45 (SH.at hS1 (.tail _ (.head _))) rfl rfl)) ?_
  refine WL.lv rfl (LV.mv rfl) ?_
  iterate 2 refine WL.lv rfl (LV.extract rfl rfl) ?_
  iterate 2 refine WL.lv rfl (LV.asg rfl) ?_
  refine WL.nil (thenQ.n ?_)
  iterate 2 refine WC.seq ?_
  refine WC.region ?_
  refine WL.lv rfl (LV.mv rfl) ?_
  refine WL.lv rfl (LV.lenL Tryz.underlying45 rfl) ?_
  refine WL.lv rfl (LV.as (LV.gtI rfl rfl) (decide_eq_false (by omega))) ?_
  refine WL.lv rfl (LV.mv rfl) ?_
  rcases Bool.eq_false_or_eq_true ((lookL X.kv1 file).isSome) with hg1 | hg1
  · refine WL.lv rfl (LV.as (c := true) (LV.mv rfl) hg1) ?_
    refine WL.lv rfl (LV.notB rfl) ?_
    refine WL.lv rfl (LV.mv rfl) ?_
    iterate 6 refine WL.off rfl ?_
    iterate 2 refine WL.lv rfl (LV.pickF rfl rfl) ?_
    refine WL.nil (thenQ.n ?_)
    refine WC.condF rfl ?_
    refine WC.skip (thenQ.n ?_)
    refine WC.seq ?_
    refine WC.region ?_
    iterate 2 refine WL.lv rfl (LV.mv rfl) ?_
    have hS2 : SH w S w1 [insE idS eSI 76 X.P2, blkE X.b 62 #[(.map (some X.m1)), (.map (some X.m2))], mapG kS kV X.m1 X.kv1, mapG kS kV X.m2 X.kv2, insE idS eIt 68 X.P1] := (SH.front [_, _, _, _] hS1)
    have hS3 : SH w S w1 [insE idS eIt 68 X.P1, insE idS eSI 76 X.P2, blkE X.b 62 #[(.map (some X.m1)), (.map (some X.m2))], mapG kS kV X.m1 X.kv1, mapG kS kV X.m2 X.kv2] := (SH.front [_, _, _, _] hS2)
    have hS4 : SH w S w1 [mapG kS kV X.m2 X.kv2, insE idS eIt 68 X.P1, insE idS eSI 76 X.P2, blkE X.b 62 #[(.map (some X.m1)), (.map (some X.m2))], mapG kS kV X.m1 X.kv1] := (SH.front [_, _, _, _] hS3)
    have hS5 : SH w S w1 [mapG kS kV X.m1 X.kv1, mapG kS kV X.m2 X.kv2, insE idS eIt 68 X.P1, insE idS eSI 76 X.P2, blkE X.b 62 #[(.map (some X.m1)), (.map (some X.m2))]] := (SH.front [_, _, _, _] hS4)
    have hS6 : SH w S w1 [blkE X.b 62 #[(.map (some X.m1)), (.map (some X.m2))], mapG kS kV X.m1 X.kv1, mapG kS kV X.m2 X.kv2, insE idS eIt 68 X.P1, insE idS eSI 76 X.P2] := (SH.front [_, _, _, _] hS5)
    have hT1 := SH.sub (Es := [_, _, _, _, _]) hS6
    refine WL.call rfl (XC.fn Tryz.func66 (by kernel_rfl) rfl rfl rfl) (drop_calls (X := X) (fl := file) hT1 hv (by omega)) ?_
    rintro v_ w2 ⟨kw1, kx1, Px1, rfl, hsub1, hw1, hU1⟩
    have hS7 := SH.back (Es := [_, _, _, _, _]) hS6 hU1
    refine WL.nil (thenQ.n ?_)
    refine WC.seq ?_
    have hS8 := SH.drew hS7
    refine WC.regionD [7] (fun w_ => KB No w2.drew w_) [(.pure, 0), (.pure, 1), (.pure, 2), (.look, 3), (.pure, 4), (.pure, 5), (.forced, 6), (.forced, 7)] (by kernel_rfl) (by kernel_rfl) (KB.refl _ _) ?_
    refine WS.pure rfl rfl (fun _ => LV.mv rfl) ?_
    refine WS.pure rfl rfl (fun _ => LV.nilCheck rfl) ?_
    refine WS.pure rfl rfl (fun _ => LV.fieldA Tryz.underlying62 rfl ti60.sz rfl) ?_
    refine WS.look rfl rfl (fun _ hk_ => LV.load1 Tryz.underlying60 rfl rfl (Blk.cellN (SH.at hS8 (.head _)) 0 rfl _ hk_)) ?_
    iterate 2 refine WS.pure rfl rfl (fun _ => LV.mv rfl) ?_
    refine WS.call rfl rfl (XC.fn Tryz.func67 (by kernel_rfl) rfl rfl rfl) (iclone_calls  (SH.stN hS8 h_l) rfl (by omega)) ?_
    rintro v_ w3 ⟨A2, c2, rfl, hS9⟩
    have hS10 := SH.joinN hS8 hS9
    refine ⟨fun h_ => (KB.transN (KB.refl _ _) hS9.kb), ?_⟩
    have hS11 : SH w S w3 [mapG kS kV X.m1 kw1, rowE eIt 68 (.slice A2 l.length c2) l, blkE X.b 62 #[(.map (some X.m1)), (.map (some X.m2))], mapG kS kV X.m2 kx1, insE idS eIt 68 X.P1, insE idS eSI 76 Px1] := (SH.front [_, _] hS10)
    refine WS.xse rfl rfl (XSE.mapUpdG (q := file) (v := (⟨A2, l.length, c2⟩ : SV)) (key_str Tryz.underlying9) hS11 Tryz.underlying60 rfl rfl rfl) ?_
    rintro w4 ⟨hS12, hk2⟩
    refine ⟨fun h_ => (by cases h_), ?_⟩
    refine WS.nil (thenQ.n ?_)
    iterate 2 refine WC.seq ?_
    refine WC.region ?_
    refine WL.lv rfl (LV.mv rfl) ?_
    have hS13 : SH w S w4 [insE idS eIt 68 X.P1, mapG kS kV X.m1 (updL kw1 file (⟨A2, l.length, c2⟩ : SV)), rowE eIt 68 (.slice A2 l.length c2) l, blkE X.b 62 #[(.map (some X.m1)), (.map (some X.m2))], mapG kS kV X.m2 kx1, insE idS eSI 76 Px1] := (SH.front [_, _, _, _] hS12)
    have hS14 : SH w S w4 [rowE eIt 68 (.slice A2 l.length c2) l, insE idS eIt 68 X.P1, mapG kS kV X.m1 (updL kw1 file (⟨A2, l.length, c2⟩ : SV)), blkE X.b 62 #[(.map (some X.m1)), (.map (some X.m2))], mapG kS kV X.m2 kx1, insE idS eSI 76 Px1] := (SH.front [_, _] hS13)
    have hS15 : SH w S w4 [insE idS eIt 68 (X.P1 ++ [((⟨A2, l.length, c2⟩ : SV), l)]), mapG kS kV X.m1 (updL kw1 file (⟨A2, l.length, c2⟩ : SV)), blkE X.b 62 #[(.map (some X.m1)), (.map (some X.m2))], mapG kS kV X.m2 kx1, insE idS eSI 76 Px1] := SH.insMore (sv := idS) (r := (⟨A2, l.length, c2⟩ : SV)) rfl hS14
    refine WL.lv rfl (LV.lenL Tryz.underlying45 rfl) ?_
    refine WL.lv rfl (LV.mv rfl) ?_
    refine WL.nil (thenQ.n ?_)
    refine WC.block ?_
    refine WC.loop (fun m_ f_ w_ => ∃ (ix : Int) (kv : KVS) (P : PLE), (0 ≤ ix) ∧ (ix ≤ (l.length : Int)) ∧ (ROWS kv P (GP (WOF X.F file) file l ix [])) ∧ (∀ r ∈ X.P2, r ∈ P) ∧ SH w S w_ [insE idS eIt 68 (X.P1 ++ [((⟨A2, l.length, c2⟩ : SV), l)]), mapG kS kV X.m1 (updL kw1 file (⟨A2, l.length, c2⟩ : SV)), blkE X.b 62 #[(.map (some X.m1)), (.map (some X.m2))], mapG kS kV X.m2 kv, insE idS eSI 76 P] ∧ m_ = (((l.length : Int) - ix).toNat) ∧ Weak (lit [(0, (.pointer (some ⟨X.b, 0, none⟩))), (1, (.string file)), (54, (.slice A_l l.length c_l)), (55, (.int .i64 (l.length : Int))), (56, (.int .i64 ix))]) f_) _ ⟨0, kx1, Px1, by omega, by omega, (gp_0 hw1.rs), hsub1, hS15, rfl, Weak.cons rfl <| Weak.cons rfl <| Weak.cons rfl <| Weak.cons rfl <| Weak.cons rfl <| Weak.nil _⟩ ?_
    rintro m1 f1 w5 ⟨ix, kv, P, ixlo, ixhi, q1, qs, hL1, rfl, hw2⟩
    refine WC.weak hw2 ?_
    clear hw2
    refine WC.seq ?_
    refine WC.region ?_
    refine WL.lv rfl (LV.ltI rfl rfl) ?_
    refine WL.nil (thenQ.n ?_)
    refine WC.seq ?_
    refine WC.condP (p := ix < (l.length : Int)) rfl (fun hc1 => ?_) (fun hc1 => ?_)
    · skip
      refine WC.skip (thenQ.n ?_)
      refine WC.seq ?_
      refine WC.block ?_
      refine WC.seq ?_
      refine WC.region ?_
      refine WL.lv rfl (LV.mv rfl) ?_
      obtain ⟨A3, c3, e1, g1⟩ := St.elt (SH.stN hL1 h_l) dI ix (by omega) (by omega)
      refine WL.lv rfl (LV.idxA Tryz.underlying45 ti68.sz rfl e1 rfl (by omega) (by omega)) ?_
      refine WL.lv rfl (LV.loadAgg (cs := [(.int .i64 ((l.getD (ix).toNat dI).1)), (.int .i64 ((l.getD (ix).toNat dI).2.1.1)), (.int .u64 ((l.getD (ix).toNat dI).2.1.2)), (.bool ((l.getD (ix).toNat dI).2.2.1)), (.string ((l.getD (ix).toNat dI).2.2.2.1)), (.bool ((l.getD (ix).toNat dI).2.2.2.2))]) Tryz.underlying68 rfl ti68 rfl rfl (fun j u hu => g1 _ (KB.refl No _) j u hu)) ?_
      refine WL.xe rfl (XE.alloc #[(.int .i64 0), (.int .i64 0), (.int .u64 0), (.bool false), (.string ⟨#[]⟩), (.bool false)] hL1 ti68 rfl) ?_
      rintro _ w6 ⟨b1, rfl, hS16, hk3⟩
      refine WL.lv rfl (LV.asg rfl) ?_
      refine WL.xse rfl (XSE.blkAgg #[(.int .i64 ((l.getD (ix).toNat dI).1)), (.int .i64 ((l.getD (ix).toNat dI).2.1.1)), (.int .u64 ((l.getD (ix).toNat dI).2.1.2)), (.bool ((l.getD (ix).toNat dI).2.2.1)), (.string ((l.getD (ix).toNat dI).2.2.2.1)), (.bool ((l.getD (ix).toNat dI).2.2.2.2))] hS16 (by kernel_rfl) rfl (by kernel_rfl) rfl rfl) ?_
      rintro w7 ⟨hS17, hk4⟩
      refine WL.nil (thenQ.n ?_)
      iterate 2 refine WC.seq ?_
      refine WC.region ?_
      refine WL.lv rfl (LV.fieldA Tryz.underlying68 rfl ti4.sz rfl) ?_
      refine WL.lv rfl (LV.load1 Tryz.underlying4 rfl rfl (Blk.cellN (SH.at hS17 (.head _)) 3 rfl _ (KB.refl No _))) ?_
      refine WL.nil (thenQ.n ?_)
      refine WC.cond (b := (l.getD (ix).toNat dI).2.2.1) rfl (fun ha => ?_) (fun ha => ?_)
      · skip
        refine WC.exit (thenQ.x <| blockQ.hit <| thenQ.n ?_)
        refine WC.region ?_
        refine WL.lv rfl (LV.add rfl rfl (wr64 (by omega) (by omega))) ?_
        refine WL.lv rfl (LV.mv rfl) ?_
        refine WL.nil (thenQ.n ?_)
        have hS18 : SH w S w7 [insE idS eIt 68 (X.P1 ++ [((⟨A2, l.length, c2⟩ : SV), l)]), mapG kS kV X.m1 (updL kw1 file (⟨A2, l.length, c2⟩ : SV)), blkE X.b 62 #[(.map (some X.m1)), (.map (some X.m2))], mapG kS kV X.m2 kv, insE idS eSI 76 P] := (SH.take 5 rfl (SH.front [_, _, _, _, _] (SH.front [_, _, _, _, _] (SH.front [_, _, _, _, _] (SH.front [_, _, _, _, _] (SH.front [_, _, _, _, _] hS17))))))
        exact ⟨_, by omega, ix + 1, kv, P, by omega, by omega, (gp_skip ixlo (by omega) ha q1), qs, hS18, rfl, Weak.cons rfl <| Weak.cons rfl <| Weak.cons rfl <| Weak.cons rfl <| Weak.cons rfl <| Weak.nil _⟩
      · skip
        refine WC.skip (thenQ.n ?_)
        refine WC.seq ?_
        refine WC.region ?_
        refine WL.lv rfl (LV.fieldA Tryz.underlying68 rfl ti66.sz rfl) ?_
        refine WL.lv rfl (LV.fieldA Tryz.underlying66 rfl ti9.sz rfl) ?_
        refine WL.lv rfl (LV.load1 Tryz.underlying9 rfl rfl (Blk.cellN (SH.at hS17 (.head _)) 4 rfl _ (KB.refl No _))) ?_
        have hyy_ := hy _ (getD_mem (l := l) (d := dI) (i := ix.toNat) (by omega))
        have hol_ := OF_len (l.getD ix.toNat dI).2.2.2.1
        refine WL.call rfl (XC.fn Tryz.func15 (by kernel_rfl) rfl rfl rfl) (of_calls (s := ((l.getD (ix).toNat dI).2.2.2.1)) (by omega)) ?_
        rintro v_ w8 ⟨A4, c4, rfl, hS19⟩
        have hS20 := SH.joinN hS17 hS19
        refine WL.lv rfl (LV.lenL Tryz.underlying23 rfl) ?_
        refine WL.lv rfl (LV.mv rfl) ?_
        refine WL.nil (thenQ.n ?_)
        refine WC.block ?_
        refine WC.loop (fun m_ f_ w_ => ∃ (ix2 : Int) (kw_ : KVS) (Q : PLE), (0 ≤ ix2) ∧ (ix2 ≤ ((OF ((l.getD (ix).toNat dI).2.2.2.1)).length : Int)) ∧ (ROWS kw_ Q (GP (WOF X.F file) file l ix ((OF (l.getD ix.toNat dI).2.2.2.1).take ix2.toNat))) ∧ (∀ r ∈ X.P2, r ∈ Q) ∧ SH w S w_ [rowE eS 9 (.slice A4 ((OF ((l.getD (ix).toNat dI).2.2.2.1)).length) c4) (OF ((l.getD (ix).toNat dI).2.2.2.1)), blkE b1 68 #[(.int .i64 ((l.getD (ix).toNat dI).1)), (.int .i64 ((l.getD (ix).toNat dI).2.1.1)), (.int .u64 ((l.getD (ix).toNat dI).2.1.2)), (.bool ((l.getD (ix).toNat dI).2.2.1)), (.string ((l.getD (ix).toNat dI).2.2.2.1)), (.bool ((l.getD (ix).toNat dI).2.2.2.2))], insE idS eIt 68 (X.P1 ++ [((⟨A2, l.length, c2⟩ : SV), l)]), mapG kS kV X.m1 (updL kw1 file (⟨A2, l.length, c2⟩ : SV)), blkE X.b 62 #[(.map (some X.m1)), (.map (some X.m2))], mapG kS kV X.m2 kw_, insE idS eSI 76 Q] ∧ m_ = ((((OF ((l.getD (ix).toNat dI).2.2.2.1)).length : Int) - ix2).toNat) ∧ Weak (lit [(0, (.pointer (some ⟨X.b, 0, none⟩))), (1, (.string file)), (9, (.int .i64 ix)), (54, (.slice A_l l.length c_l)), (55, (.int .i64 (l.length : Int))), (56, (.int .i64 ix)), (66, (.slice A4 ((OF ((l.getD (ix).toNat dI).2.2.2.1)).length) c4)), (67, (.int .i64 ((OF ((l.getD (ix).toNat dI).2.2.2.1)).length : Int))), (68, (.int .i64 ix2))]) f_) _ ⟨0, kv, P, by omega, by omega, (by simpa using q1), qs, hS20, rfl, Weak.cons rfl <| Weak.cons rfl <| Weak.cons rfl <| Weak.cons rfl <| Weak.cons rfl <| Weak.cons rfl <| Weak.cons rfl <| Weak.cons rfl <| Weak.cons rfl <| Weak.nil _⟩ ?_
        rintro m2 f2 w9 ⟨ix2, kw_, Q, ix2lo, ix2hi, q2, qt, hL2, rfl, hw3⟩
        refine WC.weak hw3 ?_
        clear hw3
        refine WC.seq ?_
        refine WC.region ?_
        refine WL.lv rfl (LV.ltI rfl rfl) ?_
        refine WL.nil (thenQ.n ?_)
        refine WC.seq ?_
        refine WC.condP (p := ix2 < ((OF ((l.getD (ix).toNat dI).2.2.2.1)).length : Int)) rfl (fun hc2 => ?_) (fun hc2 => ?_)
        · skip
          refine WC.skip (thenQ.n ?_)
          refine WC.seq ?_
          refine WC.block ?_
          refine WC.seq ?_
          refine WC.region ?_
          obtain ⟨A5, c5, e2, g2⟩ := St.elt (SH.rd hL2 (.head _)) ByteArray.empty ix2 (by omega) (by omega)
          refine WL.lv rfl (LV.idxA Tryz.underlying23 ti9.sz rfl e2 rfl (by omega) (by omega)) ?_
          refine WL.lv rfl (LV.load1 (v := (.string ((OF ((l.getD (ix).toNat dI).2.2.2.1)).getD (ix2).toNat ByteArray.empty))) Tryz.underlying9 rfl rfl (g2 _ (KB.refl No _) 0 _ rfl)) ?_
          refine WL.lv rfl (LV.asg rfl) ?_
          refine WL.nil (thenQ.n ?_)
          have hS21 := SH.drew hL2
          refine WC.regionD [17] (fun w_ => KB No w9.drew w_) [(.pure, 0), (.pure, 1), (.pure, 2), (.look, 3), (.pure, 4), (.pure, 5), (.pure, 6), (.pure, 7), (.look, 8), (.pure, 9), (.look, 10), (.pure, 12), (.pure, 13), (.pure, 14), (.fork, 0), (.fork, 0), (.fork, 0), (.fork, 0)] (by kernel_rfl) (by kernel_rfl) (KB.refl _ _) ?_
          refine WS.pure rfl rfl (fun _ => LV.mv rfl) ?_
          refine WS.pure rfl rfl (fun _ => LV.nilCheck rfl) ?_
          refine WS.pure rfl rfl (fun _ => LV.fieldA Tryz.underlying62 rfl ti58.sz rfl) ?_
          refine WS.look rfl rfl (fun _ hk_ => LV.load1 Tryz.underlying58 rfl rfl (Blk.cellN (SH.at hS21 (.tail _ (.tail _ (.tail _ (.tail _ (.head _)))))) 1 rfl _ hk_)) ?_
          iterate 2 refine WS.pure rfl rfl (fun _ => LV.mv rfl) ?_
          refine WS.pure rfl rfl (fun _ => LV.nilCheck rfl) ?_
          refine WS.pure rfl rfl (fun _ => LV.fieldA Tryz.underlying62 rfl ti58.sz rfl) ?_
          refine WS.look rfl rfl (fun _ hk_ => LV.load1 Tryz.underlying58 rfl rfl (Blk.cellN (SH.at hS21 (.tail _ (.tail _ (.tail _ (.tail _ (.head _)))))) 1 rfl _ hk_)) ?_
          refine WS.pure rfl rfl (fun _ => LV.mv rfl) ?_
          obtain ⟨es1, hp1, ha1⟩ := ROWS.at q2 ((OF ((l.getD (ix).toNat dI).2.2.2.1)).getD (ix2).toNat ByteArray.empty)
          obtain ⟨A6, c6, hv2, hr2⟩ := look_at ha1 (SH.rdIn hS21 (.tail _ (.tail _ (.tail _ (.tail _ (.tail _ (.tail _ (.head _))))))))
          have heb_ := gp_bd hw1.sm hw1.ln hl hp1
          refine WS.look rfl rfl (fun _ hk_ => LV.to hv2 (LV.lookG (q := ((OF ((l.getD (ix).toNat dI).2.2.2.1)).getD (ix2).toNat ByteArray.empty)) (V := kV) (z := svZ) (key_str Tryz.underlying9) Tryz.underlying58 ti59 (SH.steN hS21 (.tail _ (.tail _ (.tail _ (.tail _ (.tail _ (.head _)))))) _ hk_) rfl rfl)) ?_
          iterate 2 refine WS.pure rfl rfl (fun _ => LV.mv rfl) ?_
          refine WS.pure rfl rfl (fun _ => LV.build (vs := [(0, (.string file)), (1, (.int .i64 ix))]) (places := #[(0, 1), (1, 1)]) (cs := #[(.string file), (.int .i64 ix)]) Tryz.underlying76 ti76 (fun _ => by kernel_rfl) rfl rfl) ?_
          refine WS.fork (WSX.two 11 15 (by kernel_rfl) ?_ ?_)
          · refine WO.call rfl rfl (XC.fn Tryz.func68 (by kernel_rfl) rfl rfl rfl) (eclone_calls  (look_st ha1 hv2 (fun _ h_ => h_) (SH.rdIn hS21 (.tail _ (.tail _ (.tail _ (.tail _ (.tail _ (.tail _ (.head _))))))))) rfl (by omega)) ?_
            rintro v_ w10 ⟨A7, c7, rfl, hS22⟩
            have hS23 := SH.joinN hS21 hS22
            refine ⟨fun h_ => (KB.transN (KB.refl _ _) hS22.kb), ?_⟩
            refine WSX.of [(.forced, 15), (.forced, 16), (.forced, 17)] (by kernel_rfl) rfl ?_
            refine WS.xe rfl rfl (XE.buildSlice (E := eSI) [(0, (.agg #[(.string file), (.int .i64 ix)]))] #[(.string file), (.int .i64 ix)] [((file, ix) : En)] hS23 Tryz.underlying59 ti76 rfl (by decide) (by kernel_rfl) (.inr rfl) rfl rfl (by decide)) ?_
            rintro _ w11 ⟨b2, rfl, hS24, hk5⟩
            refine ⟨fun h_ => (KB.transN (KB.transN (KB.refl _ _) hS22.kb) hk5), ?_⟩
            have hS25 : SH w S w11 [rowE eSI 76 (.slice A7 es1.length c7) es1, rowE eSI 76 (.slice (some ⟨b2, 0, none⟩) 1 1) [((file, ix) : En)], rowE eS 9 (.slice A4 ((OF ((l.getD (ix).toNat dI).2.2.2.1)).length) c4) (OF ((l.getD (ix).toNat dI).2.2.2.1)), blkE b1 68 #[(.int .i64 ((l.getD (ix).toNat dI).1)), (.int .i64 ((l.getD (ix).toNat dI).2.1.1)), (.int .u64 ((l.getD (ix).toNat dI).2.1.2)), (.bool ((l.getD (ix).toNat dI).2.2.1)), (.string ((l.getD (ix).toNat dI).2.2.2.1)), (.bool ((l.getD (ix).toNat dI).2.2.2.2))], insE idS eIt 68 (X.P1 ++ [((⟨A2, l.length, c2⟩ : SV), l)]), mapG kS kV X.m1 (updL kw1 file (⟨A2, l.length, c2⟩ : SV)), blkE X.b 62 #[(.map (some X.m1)), (.map (some X.m2))], mapG kS kV X.m2 kw_, insE idS eSI 76 Q] := (SH.front [_] hS24)
            refine WS.xe rfl rfl (XE.append hS25 Tryz.underlying59 ti76 rfl (St.now (SH.rd hS25 (.tail _ (.head _)))) rfl rfl (by first | omega | simp only [List.length_append, List.length_cons, List.length_nil, List.length_take, List.length_reverse, List.length_drop] at *; omega) (by first | omega | simp only [List.length_append, List.length_cons, List.length_nil, List.length_take, List.length_reverse, List.length_drop] at *; omega)) ?_
            rintro _ w12 ⟨A8, c8, rfl, hS26, hk6⟩
            refine ⟨fun h_ => (KB.trans (KB.transN (KB.transN (KB.refl _ _) hS22.kb) hk5) hk6 fun i_ hi_ hs_ => (hS22.new i_ (by simpa [keys, rowE] using hs_) (Nat.lt_of_lt_of_le hi_ (KB.size (S := No) (KB.refl _ _))))), ?_⟩
            have hS27 : SH w S w12 [mapG kS kV X.m2 kw_, rowE eSI 76 (.slice A8 ((es1 ++ [((file, ix) : En)]).length) c8) (es1 ++ [((file, ix) : En)]), rowE eSI 76 (.slice (some ⟨b2, 0, none⟩) 1 1) [((file, ix) : En)], rowE eS 9 (.slice A4 ((OF ((l.getD (ix).toNat dI).2.2.2.1)).length) c4) (OF ((l.getD (ix).toNat dI).2.2.2.1)), blkE b1 68 #[(.int .i64 ((l.getD (ix).toNat dI).1)), (.int .i64 ((l.getD (ix).toNat dI).2.1.1)), (.int .u64 ((l.getD (ix).toNat dI).2.1.2)), (.bool ((l.getD (ix).toNat dI).2.2.1)), (.string ((l.getD (ix).toNat dI).2.2.2.1)), (.bool ((l.getD (ix).toNat dI).2.2.2.2))], insE idS eIt 68 (X.P1 ++ [((⟨A2, l.length, c2⟩ : SV), l)]), mapG kS kV X.m1 (updL kw1 file (⟨A2, l.length, c2⟩ : SV)), blkE X.b 62 #[(.map (some X.m1)), (.map (some X.m2))], insE idS eSI 76 Q] := (SH.front [_, _, _, _, _, _, _] hS26)
            refine WS.xse rfl rfl (XSE.mapUpdG (q := ((OF ((l.getD (ix).toNat dI).2.2.2.1)).getD (ix2).toNat ByteArray.empty)) (v := (⟨A8, (es1 ++ [((file, ix) : En)]).length, c8⟩ : SV)) (key_str Tryz.underlying9) hS27 Tryz.underlying58 rfl rfl rfl) ?_
            rintro w13 ⟨hS28, hk7⟩
            refine ⟨fun h_ => (by cases h_), ?_⟩
            refine WS.nil (blockQ.n <| thenQ.n ?_)
            refine WC.region ?_
            have hS29 : SH w S w13 [insE idS eSI 76 Q, mapG kS kV X.m2 (updL kw_ ((OF ((l.getD (ix).toNat dI).2.2.2.1)).getD (ix2).toNat ByteArray.empty) (⟨A8, (es1 ++ [((file, ix) : En)]).length, c8⟩ : SV)), rowE eSI 76 (.slice A8 ((es1 ++ [((file, ix) : En)]).length) c8) (es1 ++ [((file, ix) : En)]), rowE eSI 76 (.slice (some ⟨b2, 0, none⟩) 1 1) [((file, ix) : En)], rowE eS 9 (.slice A4 ((OF ((l.getD (ix).toNat dI).2.2.2.1)).length) c4) (OF ((l.getD (ix).toNat dI).2.2.2.1)), blkE b1 68 #[(.int .i64 ((l.getD (ix).toNat dI).1)), (.int .i64 ((l.getD (ix).toNat dI).2.1.1)), (.int .u64 ((l.getD (ix).toNat dI).2.1.2)), (.bool ((l.getD (ix).toNat dI).2.2.1)), (.string ((l.getD (ix).toNat dI).2.2.2.1)), (.bool ((l.getD (ix).toNat dI).2.2.2.2))], insE idS eIt 68 (X.P1 ++ [((⟨A2, l.length, c2⟩ : SV), l)]), mapG kS kV X.m1 (updL kw1 file (⟨A2, l.length, c2⟩ : SV)), blkE X.b 62 #[(.map (some X.m1)), (.map (some X.m2))]] := (SH.front [_, _, _, _, _, _, _, _] hS28)
            have hS30 : SH w S w13 [rowE eSI 76 (.slice A8 ((es1 ++ [((file, ix) : En)]).length) c8) (es1 ++ [((file, ix) : En)]), insE idS eSI 76 Q, mapG kS kV X.m2 (updL kw_ ((OF ((l.getD (ix).toNat dI).2.2.2.1)).getD (ix2).toNat ByteArray.empty) (⟨A8, (es1 ++ [((file, ix) : En)]).length, c8⟩ : SV)), rowE eSI 76 (.slice (some ⟨b2, 0, none⟩) 1 1) [((file, ix) : En)], rowE eS 9 (.slice A4 ((OF ((l.getD (ix).toNat dI).2.2.2.1)).length) c4) (OF ((l.getD (ix).toNat dI).2.2.2.1)), blkE b1 68 #[(.int .i64 ((l.getD (ix).toNat dI).1)), (.int .i64 ((l.getD (ix).toNat dI).2.1.1)), (.int .u64 ((l.getD (ix).toNat dI).2.1.2)), (.bool ((l.getD (ix).toNat dI).2.2.1)), (.string ((l.getD (ix).toNat dI).2.2.2.1)), (.bool ((l.getD (ix).toNat dI).2.2.2.2))], insE idS eIt 68 (X.P1 ++ [((⟨A2, l.length, c2⟩ : SV), l)]), mapG kS kV X.m1 (updL kw1 file (⟨A2, l.length, c2⟩ : SV)), blkE X.b 62 #[(.map (some X.m1)), (.map (some X.m2))]] := (SH.front [_, _] hS29)
            have hS31 : SH w S w13 [insE idS eSI 76 (Q ++ [((⟨A8, (es1 ++ [((file, ix) : En)]).length, c8⟩ : SV), (es1 ++ [((file, ix) : En)]))]), mapG kS kV X.m2 (updL kw_ ((OF ((l.getD (ix).toNat dI).2.2.2.1)).getD (ix2).toNat ByteArray.empty) (⟨A8, (es1 ++ [((file, ix) : En)]).length, c8⟩ : SV)), rowE eSI 76 (.slice (some ⟨b2, 0, none⟩) 1 1) [((file, ix) : En)], rowE eS 9 (.slice A4 ((OF ((l.getD (ix).toNat dI).2.2.2.1)).length) c4) (OF ((l.getD (ix).toNat dI).2.2.2.1)), blkE b1 68 #[(.int .i64 ((l.getD (ix).toNat dI).1)), (.int .i64 ((l.getD (ix).toNat dI).2.1.1)), (.int .u64 ((l.getD (ix).toNat dI).2.1.2)), (.bool ((l.getD (ix).toNat dI).2.2.1)), (.string ((l.getD (ix).toNat dI).2.2.2.1)), (.bool ((l.getD (ix).toNat dI).2.2.2.2))], insE idS eIt 68 (X.P1 ++ [((⟨A2, l.length, c2⟩ : SV), l)]), mapG kS kV X.m1 (updL kw1 file (⟨A2, l.length, c2⟩ : SV)), blkE X.b 62 #[(.map (some X.m1)), (.map (some X.m2))]] := SH.insMore (sv := idS) (r := (⟨A8, (es1 ++ [((file, ix) : En)]).length, c8⟩ : SV)) rfl hS30
            refine WL.lv rfl (LV.add rfl rfl (wr64 (by omega) (by omega))) ?_
            refine WL.lv rfl (LV.mv rfl) ?_
            refine WL.nil (thenQ.n ?_)
            have hS32 : SH w S w13 [rowE eS 9 (.slice A4 ((OF ((l.getD (ix).toNat dI).2.2.2.1)).length) c4) (OF ((l.getD (ix).toNat dI).2.2.2.1)), blkE b1 68 #[(.int .i64 ((l.getD (ix).toNat dI).1)), (.int .i64 ((l.getD (ix).toNat dI).2.1.1)), (.int .u64 ((l.getD (ix).toNat dI).2.1.2)), (.bool ((l.getD (ix).toNat dI).2.2.1)), (.string ((l.getD (ix).toNat dI).2.2.2.1)), (.bool ((l.getD (ix).toNat dI).2.2.2.2))], insE idS eIt 68 (X.P1 ++ [((⟨A2, l.length, c2⟩ : SV), l)]), mapG kS kV X.m1 (updL kw1 file (⟨A2, l.length, c2⟩ : SV)), blkE X.b 62 #[(.map (some X.m1)), (.map (some X.m2))], mapG kS kV X.m2 (updL kw_ ((OF ((l.getD (ix).toNat dI).2.2.2.1)).getD (ix2).toNat ByteArray.empty) (⟨A8, (es1 ++ [((file, ix) : En)]).length, c8⟩ : SV)), insE idS eSI 76 (Q ++ [((⟨A8, (es1 ++ [((file, ix) : En)]).length, c8⟩ : SV), (es1 ++ [((file, ix) : En)]))])] := (SH.take 7 rfl (SH.front [_, _, _, _, _, _, _] (SH.front [_, _, _, _, _, _, _] (SH.front [_, _, _, _, _, _, _] (SH.front [_, _, _, _, _, _, _] (SH.front [_, _, _, _, _, _, _] (SH.front [_] hS31)))))))
            exact ⟨_, by omega, ix2 + 1, (updL kw_ ((OF ((l.getD (ix).toNat dI).2.2.2.1)).getD (ix2).toNat ByteArray.empty) (⟨A8, (es1 ++ [((file, ix) : En)]).length, c8⟩ : SV)), (Q ++ [((⟨A8, (es1 ++ [((file, ix) : En)]).length, c8⟩ : SV), (es1 ++ [((file, ix) : En)]))]), by omega, by omega, (gp_next ixlo ix2lo (by omega) (ss_nodup (SRTB_ss _)) q2 hp1), (fun r_ h_ => List.mem_append_left _ (qt r_ h_)), hS32, rfl, Weak.cons rfl <| Weak.cons rfl <| Weak.cons rfl <| Weak.cons rfl <| Weak.cons rfl <| Weak.cons rfl <| Weak.cons rfl <| Weak.cons rfl <| Weak.cons rfl <| Weak.nil _⟩
          · refine WO.xe rfl rfl (XE.buildSlice (E := eSI) [(0, (.agg #[(.string file), (.int .i64 ix)]))] #[(.string file), (.int .i64 ix)] [((file, ix) : En)] hS21 Tryz.underlying59 ti76 rfl (by decide) (by kernel_rfl) (.inr rfl) rfl rfl (by decide)) ?_
            rintro _ w14 ⟨b3, rfl, hS33, hk8⟩
            refine ⟨fun h_ => (KB.transN (KB.refl _ _) hk8), ?_⟩
            refine WSX.of [(.forced, 11), (.forced, 16), (.forced, 17)] (by kernel_rfl) rfl ?_
            refine WS.call rfl rfl (XC.fn Tryz.func68 (by kernel_rfl) rfl rfl rfl) (eclone_calls  (look_st ha1 hv2 (fun _ h_ => h_) (SH.rdIn hS33 (.tail _ (.tail _ (.tail _ (.tail _ (.tail _ (.tail _ (.tail _ (.head _)))))))))) rfl (by omega)) ?_
            rintro v_ w15 ⟨A9, c9, rfl, hS34⟩
            have hS35 := SH.joinN hS33 hS34
            refine ⟨fun h_ => (KB.transN (KB.transN (KB.refl _ _) hk8) hS34.kb), ?_⟩
            refine WS.xe rfl rfl (XE.append hS35 Tryz.underlying59 ti76 rfl (St.now (SH.rd hS35 (.tail _ (.head _)))) rfl rfl (by first | omega | simp only [List.length_append, List.length_cons, List.length_nil, List.length_take, List.length_reverse, List.length_drop] at *; omega) (by first | omega | simp only [List.length_append, List.length_cons, List.length_nil, List.length_take, List.length_reverse, List.length_drop] at *; omega)) ?_
            rintro _ w16 ⟨A10, c10, rfl, hS36, hk9⟩
            refine ⟨fun h_ => (KB.trans (KB.transN (KB.transN (KB.refl _ _) hk8) hS34.kb) hk9 fun i_ hi_ hs_ => (hS34.new i_ (by simpa [keys, rowE] using hs_) (Nat.lt_of_lt_of_le hi_ (KB.size (S := No) (KB.transN (KB.refl _ _) hk8))))), ?_⟩
            have hS37 : SH w S w16 [mapG kS kV X.m2 kw_, rowE eSI 76 (.slice A10 ((es1 ++ [((file, ix) : En)]).length) c10) (es1 ++ [((file, ix) : En)]), rowE eSI 76 (.slice (some ⟨b3, 0, none⟩) 1 1) [((file, ix) : En)], rowE eS 9 (.slice A4 ((OF ((l.getD (ix).toNat dI).2.2.2.1)).length) c4) (OF ((l.getD (ix).toNat dI).2.2.2.1)), blkE b1 68 #[(.int .i64 ((l.getD (ix).toNat dI).1)), (.int .i64 ((l.getD (ix).toNat dI).2.1.1)), (.int .u64 ((l.getD (ix).toNat dI).2.1.2)), (.bool ((l.getD (ix).toNat dI).2.2.1)), (.string ((l.getD (ix).toNat dI).2.2.2.1)), (.bool ((l.getD (ix).toNat dI).2.2.2.2))], insE idS eIt 68 (X.P1 ++ [((⟨A2, l.length, c2⟩ : SV), l)]), mapG kS kV X.m1 (updL kw1 file (⟨A2, l.length, c2⟩ : SV)), blkE X.b 62 #[(.map (some X.m1)), (.map (some X.m2))], insE idS eSI 76 Q] := (SH.front [_, _, _, _, _, _, _] hS36)
            refine WS.xse rfl rfl (XSE.mapUpdG (q := ((OF ((l.getD (ix).toNat dI).2.2.2.1)).getD (ix2).toNat ByteArray.empty)) (v := (⟨A10, (es1 ++ [((file, ix) : En)]).length, c10⟩ : SV)) (key_str Tryz.underlying9) hS37 Tryz.underlying58 rfl rfl rfl) ?_
            rintro w17 ⟨hS38, hk10⟩
            refine ⟨fun h_ => (by cases h_), ?_⟩
            refine WS.nil (blockQ.n <| thenQ.n ?_)
            refine WC.region ?_
            have hS39 : SH w S w17 [insE idS eSI 76 Q, mapG kS kV X.m2 (updL kw_ ((OF ((l.getD (ix).toNat dI).2.2.2.1)).getD (ix2).toNat ByteArray.empty) (⟨A10, (es1 ++ [((file, ix) : En)]).length, c10⟩ : SV)), rowE eSI 76 (.slice A10 ((es1 ++ [((file, ix) : En)]).length) c10) (es1 ++ [((file, ix) : En)]), rowE eSI 76 (.slice (some ⟨b3, 0, none⟩) 1 1) [((file, ix) : En)], rowE eS 9 (.slice A4 ((OF ((l.getD (ix).toNat dI).2.2.2.1)).length) c4) (OF ((l.getD (ix).toNat dI).2.2.2.1)), blkE b1 68 #[(.int .i64 ((l.getD (ix).toNat dI).1)), (.int .i64 ((l.getD (ix).toNat dI).2.1.1)), (.int .u64 ((l.getD (ix).toNat dI).2.1.2)), (.bool ((l.getD (ix).toNat dI).2.2.1)), (.string ((l.getD (ix).toNat dI).2.2.2.1)), (.bool ((l.getD (ix).toNat dI).2.2.2.2))], insE idS eIt 68 (X.P1 ++ [((⟨A2, l.length, c2⟩ : SV), l)]), mapG kS kV X.m1 (updL kw1 file (⟨A2, l.length, c2⟩ : SV)), blkE X.b 62 #[(.map (some X.m1)), (.map (some X.m2))]] := (SH.front [_, _, _, _, _, _, _, _] hS38)
            have hS40 : SH w S w17 [rowE eSI 76 (.slice A10 ((es1 ++ [((file, ix) : En)]).length) c10) (es1 ++ [((file, ix) : En)]), insE idS eSI 76 Q, mapG kS kV X.m2 (updL kw_ ((OF ((l.getD (ix).toNat dI).2.2.2.1)).getD (ix2).toNat ByteArray.empty) (⟨A10, (es1 ++ [((file, ix) : En)]).length, c10⟩ : SV)), rowE eSI 76 (.slice (some ⟨b3, 0, none⟩) 1 1) [((file, ix) : En)], rowE eS 9 (.slice A4 ((OF ((l.getD (ix).toNat dI).2.2.2.1)).length) c4) (OF ((l.getD (ix).toNat dI).2.2.2.1)), blkE b1 68 #[(.int .i64 ((l.getD (ix).toNat dI).1)), (.int .i64 ((l.getD (ix).toNat dI).2.1.1)), (.int .u64 ((l.getD (ix).toNat dI).2.1.2)), (.bool ((l.getD (ix).toNat dI).2.2.1)), (.string ((l.getD (ix).toNat dI).2.2.2.1)), (.bool ((l.getD (ix).toNat dI).2.2.2.2))], insE idS eIt 68 (X.P1 ++ [((⟨A2, l.length, c2⟩ : SV), l)]), mapG kS kV X.m1 (updL kw1 file (⟨A2, l.length, c2⟩ : SV)), blkE X.b 62 #[(.map (some X.m1)), (.map (some X.m2))]] := (SH.front [_, _] hS39)
            have hS41 : SH w S w17 [insE idS eSI 76 (Q ++ [((⟨A10, (es1 ++ [((file, ix) : En)]).length, c10⟩ : SV), (es1 ++ [((file, ix) : En)]))]), mapG kS kV X.m2 (updL kw_ ((OF ((l.getD (ix).toNat dI).2.2.2.1)).getD (ix2).toNat ByteArray.empty) (⟨A10, (es1 ++ [((file, ix) : En)]).length, c10⟩ : SV)), rowE eSI 76 (.slice (some ⟨b3, 0, none⟩) 1 1) [((file, ix) : En)], rowE eS 9 (.slice A4 ((OF ((l.getD (ix).toNat dI).2.2.2.1)).length) c4) (OF ((l.getD (ix).toNat dI).2.2.2.1)), blkE b1 68 #[(.int .i64 ((l.getD (ix).toNat dI).1)), (.int .i64 ((l.getD (ix).toNat dI).2.1.1)), (.int .u64 ((l.getD (ix).toNat dI).2.1.2)), (.bool ((l.getD (ix).toNat dI).2.2.1)), (.string ((l.getD (ix).toNat dI).2.2.2.1)), (.bool ((l.getD (ix).toNat dI).2.2.2.2))], insE idS eIt 68 (X.P1 ++ [((⟨A2, l.length, c2⟩ : SV), l)]), mapG kS kV X.m1 (updL kw1 file (⟨A2, l.length, c2⟩ : SV)), blkE X.b 62 #[(.map (some X.m1)), (.map (some X.m2))]] := SH.insMore (sv := idS) (r := (⟨A10, (es1 ++ [((file, ix) : En)]).length, c10⟩ : SV)) rfl hS40
            refine WL.lv rfl (LV.add rfl rfl (wr64 (by omega) (by omega))) ?_
            refine WL.lv rfl (LV.mv rfl) ?_
            refine WL.nil (thenQ.n ?_)
            have hS42 : SH w S w17 [rowE eS 9 (.slice A4 ((OF ((l.getD (ix).toNat dI).2.2.2.1)).length) c4) (OF ((l.getD (ix).toNat dI).2.2.2.1)), blkE b1 68 #[(.int .i64 ((l.getD (ix).toNat dI).1)), (.int .i64 ((l.getD (ix).toNat dI).2.1.1)), (.int .u64 ((l.getD (ix).toNat dI).2.1.2)), (.bool ((l.getD (ix).toNat dI).2.2.1)), (.string ((l.getD (ix).toNat dI).2.2.2.1)), (.bool ((l.getD (ix).toNat dI).2.2.2.2))], insE idS eIt 68 (X.P1 ++ [((⟨A2, l.length, c2⟩ : SV), l)]), mapG kS kV X.m1 (updL kw1 file (⟨A2, l.length, c2⟩ : SV)), blkE X.b 62 #[(.map (some X.m1)), (.map (some X.m2))], mapG kS kV X.m2 (updL kw_ ((OF ((l.getD (ix).toNat dI).2.2.2.1)).getD (ix2).toNat ByteArray.empty) (⟨A10, (es1 ++ [((file, ix) : En)]).length, c10⟩ : SV)), insE idS eSI 76 (Q ++ [((⟨A10, (es1 ++ [((file, ix) : En)]).length, c10⟩ : SV), (es1 ++ [((file, ix) : En)]))])] := (SH.take 7 rfl (SH.front [_, _, _, _, _, _, _] (SH.front [_, _, _, _, _, _, _] (SH.front [_, _, _, _, _, _, _] (SH.front [_, _, _, _, _, _, _] (SH.front [_, _, _, _, _, _, _] (SH.front [_] hS41)))))))
            exact ⟨_, by omega, ix2 + 1, (updL kw_ ((OF ((l.getD (ix).toNat dI).2.2.2.1)).getD (ix2).toNat ByteArray.empty) (⟨A10, (es1 ++ [((file, ix) : En)]).length, c10⟩ : SV)), (Q ++ [((⟨A10, (es1 ++ [((file, ix) : En)]).length, c10⟩ : SV), (es1 ++ [((file, ix) : En)]))]), by omega, by omega, (gp_next ixlo ix2lo (by omega) (ss_nodup (SRTB_ss _)) q2 hp1), (fun r_ h_ => List.mem_append_left _ (qt r_ h_)), hS42, rfl, Weak.cons rfl <| Weak.cons rfl <| Weak.cons rfl <| Weak.cons rfl <| Weak.cons rfl <| Weak.cons rfl <| Weak.cons rfl <| Weak.cons rfl <| Weak.cons rfl <| Weak.nil _⟩
        · skip
          refine WC.exit (thenQ.x <| thenQ.x <| blockQ.hit <| blockQ.n <| thenQ.n ?_)
          refine WC.region ?_
          refine WL.lv rfl (LV.add rfl rfl (wr64 (by omega) (by omega))) ?_
          refine WL.lv rfl (LV.mv rfl) ?_
          refine WL.nil (thenQ.n ?_)
          have hS43 : SH w S w9 [insE idS eIt 68 (X.P1 ++ [((⟨A2, l.length, c2⟩ : SV), l)]), mapG kS kV X.m1 (updL kw1 file (⟨A2, l.length, c2⟩ : SV)), blkE X.b 62 #[(.map (some X.m1)), (.map (some X.m2))], mapG kS kV X.m2 kw_, insE idS eSI 76 Q] := (SH.take 5 rfl (SH.front [_, _, _, _, _, _] (SH.front [_, _, _, _, _, _] (SH.front [_, _, _, _, _, _] (SH.front [_, _, _, _, _, _] (SH.front [_, _, _, _, _, _] hL2))))))
          exact ⟨_, by omega, ix + 1, kw_, Q, by omega, by omega, (gp_word ixlo (by omega) (by rw [ha]; simp) rfl (by omega) q2), qt, hS43, rfl, Weak.cons rfl <| Weak.cons rfl <| Weak.cons rfl <| Weak.cons rfl <| Weak.cons rfl <| Weak.nil _⟩
    · skip
      refine WC.exit (thenQ.x <| thenQ.x <| blockQ.hit <| thenQ.n ?_)
      refine WC.seq ?_
      refine WC.region ?_
      refine WL.lv rfl (LV.asg rfl) ?_
      refine WL.nil (thenQ.n ?_)
      refine WC.ret (?_)
      have hS44 : SH w S w5 [blkE X.b 62 #[(.map (some X.m1)), (.map (some X.m2))], mapG kS kV X.m1 (updL kw1 file (⟨A2, l.length, c2⟩ : SV)), mapG kS kV X.m2 kv, insE idS eIt 68 (X.P1 ++ [((⟨A2, l.length, c2⟩ : SV), l)]), insE idS eSI 76 P] := (SH.front [_, _, _, _] (SH.front [_, _, _] (SH.front [_, _, _, _] (SH.front [_] (SH.front [_, _, _, _] hL1)))))
      exact ⟨_, fun a ha => res1 rfl ha rfl, _, _, _, _, rfl, (fun _ h_ => List.mem_append_left _ h_), qs, ixw_put hv (MapG.nodup (SH.at hL1 (.tail _ (.head _)))) (MapG.nodup (SH.at hL1 (.tail _ (.tail _ (.tail _ (.head _)))))) (files_in hv.ns hw1.fs _ _) (by omega) q1 hl hy hN.2.1, hS44⟩
  · refine WL.lv rfl (LV.as (c := false) (LV.mv rfl) hg1) ?_
    refine WL.lv rfl (LV.notB rfl) ?_
    iterate 2 refine WL.lv rfl (LV.mv rfl) ?_
    refine WL.lv rfl (LV.nilCheck rfl) ?_
    refine WL.lv rfl (LV.fieldA Tryz.underlying62 rfl ti60.sz rfl) ?_
    refine WL.lv rfl (LV.load1 Tryz.underlying60 rfl rfl (Blk.cellN (SH.at hS1 (.head _)) 0 rfl _ (KB.refl No _))) ?_
    refine WL.lv rfl (LV.lenMG (kv := X.kv1) Tryz.underlying60 (SH.at hS1 (.tail _ (.head _))) rfl) ?_
    refine WL.lv rfl (LV.as (LV.geI rfl rfl) (decide_eq_false (by have h1_ := hv.len1; have h2_ := hv.ln; omega))) ?_
    refine WL.lv rfl (LV.pickT rfl rfl) ?_
    refine WL.lv rfl (LV.pickF rfl rfl) ?_
    refine WL.nil (thenQ.n ?_)
    refine WC.condF rfl ?_
    refine WC.skip (thenQ.n ?_)
    refine WC.seq ?_
    refine WC.region ?_
    iterate 2 refine WL.lv rfl (LV.mv rfl) ?_
    have hS45 : SH w S w1 [insE idS eSI 76 X.P2, blkE X.b 62 #[(.map (some X.m1)), (.map (some X.m2))], mapG kS kV X.m1 X.kv1, mapG kS kV X.m2 X.kv2, insE idS eIt 68 X.P1] := (SH.front [_, _, _, _] hS1)
    have hS46 : SH w S w1 [insE idS eIt 68 X.P1, insE idS eSI 76 X.P2, blkE X.b 62 #[(.map (some X.m1)), (.map (some X.m2))], mapG kS kV X.m1 X.kv1, mapG kS kV X.m2 X.kv2] := (SH.front [_, _, _, _] hS45)
    have hS47 : SH w S w1 [mapG kS kV X.m2 X.kv2, insE idS eIt 68 X.P1, insE idS eSI 76 X.P2, blkE X.b 62 #[(.map (some X.m1)), (.map (some X.m2))], mapG kS kV X.m1 X.kv1] := (SH.front [_, _, _, _] hS46)
    have hS48 : SH w S w1 [mapG kS kV X.m1 X.kv1, mapG kS kV X.m2 X.kv2, insE idS eIt 68 X.P1, insE idS eSI 76 X.P2, blkE X.b 62 #[(.map (some X.m1)), (.map (some X.m2))]] := (SH.front [_, _, _, _] hS47)
    have hS49 : SH w S w1 [blkE X.b 62 #[(.map (some X.m1)), (.map (some X.m2))], mapG kS kV X.m1 X.kv1, mapG kS kV X.m2 X.kv2, insE idS eIt 68 X.P1, insE idS eSI 76 X.P2] := (SH.front [_, _, _, _] hS48)
    have hT2 := SH.sub (Es := [_, _, _, _, _]) hS49
    refine WL.call rfl (XC.fn Tryz.func66 (by kernel_rfl) rfl rfl rfl) (drop_calls (X := X) (fl := file) hT2 hv (by omega)) ?_
    rintro v_ w18 ⟨kw2, kx2, Px2, rfl, hsub2, hw4, hU2⟩
    have hS50 := SH.back (Es := [_, _, _, _, _]) hS49 hU2
    refine WL.nil (thenQ.n ?_)
    refine WC.seq ?_
    have hS51 := SH.drew hS50
    refine WC.regionD [7] (fun w_ => KB No w18.drew w_) [(.pure, 0), (.pure, 1), (.pure, 2), (.look, 3), (.pure, 4), (.pure, 5), (.forced, 6), (.forced, 7)] (by kernel_rfl) (by kernel_rfl) (KB.refl _ _) ?_
    refine WS.pure rfl rfl (fun _ => LV.mv rfl) ?_
    refine WS.pure rfl rfl (fun _ => LV.nilCheck rfl) ?_
    refine WS.pure rfl rfl (fun _ => LV.fieldA Tryz.underlying62 rfl ti60.sz rfl) ?_
    refine WS.look rfl rfl (fun _ hk_ => LV.load1 Tryz.underlying60 rfl rfl (Blk.cellN (SH.at hS51 (.head _)) 0 rfl _ hk_)) ?_
    iterate 2 refine WS.pure rfl rfl (fun _ => LV.mv rfl) ?_
    refine WS.call rfl rfl (XC.fn Tryz.func67 (by kernel_rfl) rfl rfl rfl) (iclone_calls  (SH.stN hS51 h_l) rfl (by omega)) ?_
    rintro v_ w19 ⟨A11, c11, rfl, hS52⟩
    have hS53 := SH.joinN hS51 hS52
    refine ⟨fun h_ => (KB.transN (KB.refl _ _) hS52.kb), ?_⟩
    have hS54 : SH w S w19 [mapG kS kV X.m1 kw2, rowE eIt 68 (.slice A11 l.length c11) l, blkE X.b 62 #[(.map (some X.m1)), (.map (some X.m2))], mapG kS kV X.m2 kx2, insE idS eIt 68 X.P1, insE idS eSI 76 Px2] := (SH.front [_, _] hS53)
    refine WS.xse rfl rfl (XSE.mapUpdG (q := file) (v := (⟨A11, l.length, c11⟩ : SV)) (key_str Tryz.underlying9) hS54 Tryz.underlying60 rfl rfl rfl) ?_
    rintro w20 ⟨hS55, hk11⟩
    refine ⟨fun h_ => (by cases h_), ?_⟩
    refine WS.nil (thenQ.n ?_)
    iterate 2 refine WC.seq ?_
    refine WC.region ?_
    refine WL.lv rfl (LV.mv rfl) ?_
    have hS56 : SH w S w20 [insE idS eIt 68 X.P1, mapG kS kV X.m1 (updL kw2 file (⟨A11, l.length, c11⟩ : SV)), rowE eIt 68 (.slice A11 l.length c11) l, blkE X.b 62 #[(.map (some X.m1)), (.map (some X.m2))], mapG kS kV X.m2 kx2, insE idS eSI 76 Px2] := (SH.front [_, _, _, _] hS55)
    have hS57 : SH w S w20 [rowE eIt 68 (.slice A11 l.length c11) l, insE idS eIt 68 X.P1, mapG kS kV X.m1 (updL kw2 file (⟨A11, l.length, c11⟩ : SV)), blkE X.b 62 #[(.map (some X.m1)), (.map (some X.m2))], mapG kS kV X.m2 kx2, insE idS eSI 76 Px2] := (SH.front [_, _] hS56)
    have hS58 : SH w S w20 [insE idS eIt 68 (X.P1 ++ [((⟨A11, l.length, c11⟩ : SV), l)]), mapG kS kV X.m1 (updL kw2 file (⟨A11, l.length, c11⟩ : SV)), blkE X.b 62 #[(.map (some X.m1)), (.map (some X.m2))], mapG kS kV X.m2 kx2, insE idS eSI 76 Px2] := SH.insMore (sv := idS) (r := (⟨A11, l.length, c11⟩ : SV)) rfl hS57
    refine WL.lv rfl (LV.lenL Tryz.underlying45 rfl) ?_
    refine WL.lv rfl (LV.mv rfl) ?_
    refine WL.nil (thenQ.n ?_)
    refine WC.block ?_
    refine WC.loop (fun m_ f_ w_ => ∃ (ix : Int) (kv : KVS) (P : PLE), (0 ≤ ix) ∧ (ix ≤ (l.length : Int)) ∧ (ROWS kv P (GP (WOF X.F file) file l ix [])) ∧ (∀ r ∈ X.P2, r ∈ P) ∧ SH w S w_ [insE idS eIt 68 (X.P1 ++ [((⟨A11, l.length, c11⟩ : SV), l)]), mapG kS kV X.m1 (updL kw2 file (⟨A11, l.length, c11⟩ : SV)), blkE X.b 62 #[(.map (some X.m1)), (.map (some X.m2))], mapG kS kV X.m2 kv, insE idS eSI 76 P] ∧ m_ = (((l.length : Int) - ix).toNat) ∧ Weak (lit [(0, (.pointer (some ⟨X.b, 0, none⟩))), (1, (.string file)), (54, (.slice A_l l.length c_l)), (55, (.int .i64 (l.length : Int))), (56, (.int .i64 ix))]) f_) _ ⟨0, kx2, Px2, by omega, by omega, (gp_0 hw4.rs), hsub2, hS58, rfl, Weak.cons rfl <| Weak.cons rfl <| Weak.cons rfl <| Weak.cons rfl <| Weak.cons rfl <| Weak.nil _⟩ ?_
    rintro m3 f3 w21 ⟨ix, kv, P, ixlo, ixhi, q1, qs, hL3, rfl, hw5⟩
    refine WC.weak hw5 ?_
    clear hw5
    refine WC.seq ?_
    refine WC.region ?_
    refine WL.lv rfl (LV.ltI rfl rfl) ?_
    refine WL.nil (thenQ.n ?_)
    refine WC.seq ?_
    refine WC.condP (p := ix < (l.length : Int)) rfl (fun hc3 => ?_) (fun hc3 => ?_)
    · skip
      refine WC.skip (thenQ.n ?_)
      refine WC.seq ?_
      refine WC.block ?_
      refine WC.seq ?_
      refine WC.region ?_
      refine WL.lv rfl (LV.mv rfl) ?_
      obtain ⟨A12, c12, e3, g3⟩ := St.elt (SH.stN hL3 h_l) dI ix (by omega) (by omega)
      refine WL.lv rfl (LV.idxA Tryz.underlying45 ti68.sz rfl e3 rfl (by omega) (by omega)) ?_
      refine WL.lv rfl (LV.loadAgg (cs := [(.int .i64 ((l.getD (ix).toNat dI).1)), (.int .i64 ((l.getD (ix).toNat dI).2.1.1)), (.int .u64 ((l.getD (ix).toNat dI).2.1.2)), (.bool ((l.getD (ix).toNat dI).2.2.1)), (.string ((l.getD (ix).toNat dI).2.2.2.1)), (.bool ((l.getD (ix).toNat dI).2.2.2.2))]) Tryz.underlying68 rfl ti68 rfl rfl (fun j u hu => g3 _ (KB.refl No _) j u hu)) ?_
      refine WL.xe rfl (XE.alloc #[(.int .i64 0), (.int .i64 0), (.int .u64 0), (.bool false), (.string ⟨#[]⟩), (.bool false)] hL3 ti68 rfl) ?_
      rintro _ w22 ⟨b4, rfl, hS59, hk12⟩
      refine WL.lv rfl (LV.asg rfl) ?_
      refine WL.xse rfl (XSE.blkAgg #[(.int .i64 ((l.getD (ix).toNat dI).1)), (.int .i64 ((l.getD (ix).toNat dI).2.1.1)), (.int .u64 ((l.getD (ix).toNat dI).2.1.2)), (.bool ((l.getD (ix).toNat dI).2.2.1)), (.string ((l.getD (ix).toNat dI).2.2.2.1)), (.bool ((l.getD (ix).toNat dI).2.2.2.2))] hS59 (by kernel_rfl) rfl (by kernel_rfl) rfl rfl) ?_
      rintro w23 ⟨hS60, hk13⟩
      refine WL.nil (thenQ.n ?_)
      iterate 2 refine WC.seq ?_
      refine WC.region ?_
      refine WL.lv rfl (LV.fieldA Tryz.underlying68 rfl ti4.sz rfl) ?_
      refine WL.lv rfl (LV.load1 Tryz.underlying4 rfl rfl (Blk.cellN (SH.at hS60 (.head _)) 3 rfl _ (KB.refl No _))) ?_
      refine WL.nil (thenQ.n ?_)
      refine WC.cond (b := (l.getD (ix).toNat dI).2.2.1) rfl (fun ha => ?_) (fun ha => ?_)
      · skip
        refine WC.exit (thenQ.x <| blockQ.hit <| thenQ.n ?_)
        refine WC.region ?_
        refine WL.lv rfl (LV.add rfl rfl (wr64 (by omega) (by omega))) ?_
        refine WL.lv rfl (LV.mv rfl) ?_
        refine WL.nil (thenQ.n ?_)
        have hS61 : SH w S w23 [insE idS eIt 68 (X.P1 ++ [((⟨A11, l.length, c11⟩ : SV), l)]), mapG kS kV X.m1 (updL kw2 file (⟨A11, l.length, c11⟩ : SV)), blkE X.b 62 #[(.map (some X.m1)), (.map (some X.m2))], mapG kS kV X.m2 kv, insE idS eSI 76 P] := (SH.take 5 rfl (SH.front [_, _, _, _, _] (SH.front [_, _, _, _, _] (SH.front [_, _, _, _, _] (SH.front [_, _, _, _, _] (SH.front [_, _, _, _, _] hS60))))))
        exact ⟨_, by omega, ix + 1, kv, P, by omega, by omega, (gp_skip ixlo (by omega) ha q1), qs, hS61, rfl, Weak.cons rfl <| Weak.cons rfl <| Weak.cons rfl <| Weak.cons rfl <| Weak.cons rfl <| Weak.nil _⟩
      · skip
        refine WC.skip (thenQ.n ?_)
        refine WC.seq ?_
        refine WC.region ?_
        refine WL.lv rfl (LV.fieldA Tryz.underlying68 rfl ti66.sz rfl) ?_
        refine WL.lv rfl (LV.fieldA Tryz.underlying66 rfl ti9.sz rfl) ?_
        refine WL.lv rfl (LV.load1 Tryz.underlying9 rfl rfl (Blk.cellN (SH.at hS60 (.head _)) 4 rfl _ (KB.refl No _))) ?_
        have hyy_ := hy _ (getD_mem (l := l) (d := dI) (i := ix.toNat) (by omega))
        have hol_ := OF_len (l.getD ix.toNat dI).2.2.2.1
        refine WL.call rfl (XC.fn Tryz.func15 (by kernel_rfl) rfl rfl rfl) (of_calls (s := ((l.getD (ix).toNat dI).2.2.2.1)) (by omega)) ?_
        rintro v_ w24 ⟨A13, c13, rfl, hS62⟩
        have hS63 := SH.joinN hS60 hS62
        refine WL.lv rfl (LV.lenL Tryz.underlying23 rfl) ?_
        refine WL.lv rfl (LV.mv rfl) ?_
        refine WL.nil (thenQ.n ?_)
        refine WC.block ?_
        refine WC.loop (fun m_ f_ w_ => ∃ (ix2 : Int) (kw_ : KVS) (Q : PLE), (0 ≤ ix2) ∧ (ix2 ≤ ((OF ((l.getD (ix).toNat dI).2.2.2.1)).length : Int)) ∧ (ROWS kw_ Q (GP (WOF X.F file) file l ix ((OF (l.getD ix.toNat dI).2.2.2.1).take ix2.toNat))) ∧ (∀ r ∈ X.P2, r ∈ Q) ∧ SH w S w_ [rowE eS 9 (.slice A13 ((OF ((l.getD (ix).toNat dI).2.2.2.1)).length) c13) (OF ((l.getD (ix).toNat dI).2.2.2.1)), blkE b4 68 #[(.int .i64 ((l.getD (ix).toNat dI).1)), (.int .i64 ((l.getD (ix).toNat dI).2.1.1)), (.int .u64 ((l.getD (ix).toNat dI).2.1.2)), (.bool ((l.getD (ix).toNat dI).2.2.1)), (.string ((l.getD (ix).toNat dI).2.2.2.1)), (.bool ((l.getD (ix).toNat dI).2.2.2.2))], insE idS eIt 68 (X.P1 ++ [((⟨A11, l.length, c11⟩ : SV), l)]), mapG kS kV X.m1 (updL kw2 file (⟨A11, l.length, c11⟩ : SV)), blkE X.b 62 #[(.map (some X.m1)), (.map (some X.m2))], mapG kS kV X.m2 kw_, insE idS eSI 76 Q] ∧ m_ = ((((OF ((l.getD (ix).toNat dI).2.2.2.1)).length : Int) - ix2).toNat) ∧ Weak (lit [(0, (.pointer (some ⟨X.b, 0, none⟩))), (1, (.string file)), (9, (.int .i64 ix)), (54, (.slice A_l l.length c_l)), (55, (.int .i64 (l.length : Int))), (56, (.int .i64 ix)), (66, (.slice A13 ((OF ((l.getD (ix).toNat dI).2.2.2.1)).length) c13)), (67, (.int .i64 ((OF ((l.getD (ix).toNat dI).2.2.2.1)).length : Int))), (68, (.int .i64 ix2))]) f_) _ ⟨0, kv, P, by omega, by omega, (by simpa using q1), qs, hS63, rfl, Weak.cons rfl <| Weak.cons rfl <| Weak.cons rfl <| Weak.cons rfl <| Weak.cons rfl <| Weak.cons rfl <| Weak.cons rfl <| Weak.cons rfl <| Weak.cons rfl <| Weak.nil _⟩ ?_
        rintro m4 f4 w25 ⟨ix2, kw_, Q, ix2lo, ix2hi, q2, qt, hL4, rfl, hw6⟩
        refine WC.weak hw6 ?_
        clear hw6
        refine WC.seq ?_
        refine WC.region ?_
        refine WL.lv rfl (LV.ltI rfl rfl) ?_
        refine WL.nil (thenQ.n ?_)
        refine WC.seq ?_
        refine WC.condP (p := ix2 < ((OF ((l.getD (ix).toNat dI).2.2.2.1)).length : Int)) rfl (fun hc4 => ?_) (fun hc4 => ?_)
        · skip
          refine WC.skip (thenQ.n ?_)
          refine WC.seq ?_
          refine WC.block ?_
          refine WC.seq ?_
          refine WC.region ?_
          obtain ⟨A14, c14, e4, g4⟩ := St.elt (SH.rd hL4 (.head _)) ByteArray.empty ix2 (by omega) (by omega)
          refine WL.lv rfl (LV.idxA Tryz.underlying23 ti9.sz rfl e4 rfl (by omega) (by omega)) ?_
          refine WL.lv rfl (LV.load1 (v := (.string ((OF ((l.getD (ix).toNat dI).2.2.2.1)).getD (ix2).toNat ByteArray.empty))) Tryz.underlying9 rfl rfl (g4 _ (KB.refl No _) 0 _ rfl)) ?_
          refine WL.lv rfl (LV.asg rfl) ?_
          refine WL.nil (thenQ.n ?_)
          have hS64 := SH.drew hL4
          refine WC.regionD [17] (fun w_ => KB No w25.drew w_) [(.pure, 0), (.pure, 1), (.pure, 2), (.look, 3), (.pure, 4), (.pure, 5), (.pure, 6), (.pure, 7), (.look, 8), (.pure, 9), (.look, 10), (.pure, 12), (.pure, 13), (.pure, 14), (.fork, 0), (.fork, 0), (.fork, 0), (.fork, 0)] (by kernel_rfl) (by kernel_rfl) (KB.refl _ _) ?_
          refine WS.pure rfl rfl (fun _ => LV.mv rfl) ?_
          refine WS.pure rfl rfl (fun _ => LV.nilCheck rfl) ?_
          refine WS.pure rfl rfl (fun _ => LV.fieldA Tryz.underlying62 rfl ti58.sz rfl) ?_
          refine WS.look rfl rfl (fun _ hk_ => LV.load1 Tryz.underlying58 rfl rfl (Blk.cellN (SH.at hS64 (.tail _ (.tail _ (.tail _ (.tail _ (.head _)))))) 1 rfl _ hk_)) ?_
          iterate 2 refine WS.pure rfl rfl (fun _ => LV.mv rfl) ?_
          refine WS.pure rfl rfl (fun _ => LV.nilCheck rfl) ?_
          refine WS.pure rfl rfl (fun _ => LV.fieldA Tryz.underlying62 rfl ti58.sz rfl) ?_
          refine WS.look rfl rfl (fun _ hk_ => LV.load1 Tryz.underlying58 rfl rfl (Blk.cellN (SH.at hS64 (.tail _ (.tail _ (.tail _ (.tail _ (.head _)))))) 1 rfl _ hk_)) ?_
          refine WS.pure rfl rfl (fun _ => LV.mv rfl) ?_
          obtain ⟨es2, hp2, ha2⟩ := ROWS.at q2 ((OF ((l.getD (ix).toNat dI).2.2.2.1)).getD (ix2).toNat ByteArray.empty)
          obtain ⟨A15, c15, hv3, hr3⟩ := look_at ha2 (SH.rdIn hS64 (.tail _ (.tail _ (.tail _ (.tail _ (.tail _ (.tail _ (.head _))))))))
          have heb_ := gp_bd hw4.sm hw4.ln hl hp2
          refine WS.look rfl rfl (fun _ hk_ => LV.to hv3 (LV.lookG (q := ((OF ((l.getD (ix).toNat dI).2.2.2.1)).getD (ix2).toNat ByteArray.empty)) (V := kV) (z := svZ) (key_str Tryz.underlying9) Tryz.underlying58 ti59 (SH.steN hS64 (.tail _ (.tail _ (.tail _ (.tail _ (.tail _ (.head _)))))) _ hk_) rfl rfl)) ?_
          iterate 2 refine WS.pure rfl rfl (fun _ => LV.mv rfl) ?_
          refine WS.pure rfl rfl (fun _ => LV.build (vs := [(0, (.string file)), (1, (.int .i64 ix))]) (places := #[(0, 1), (1, 1)]) (cs := #[(.string file), (.int .i64 ix)]) Tryz.underlying76 ti76 (fun _ => by kernel_rfl) rfl rfl) ?_
          refine WS.fork (WSX.two 11 15 (by kernel_rfl) ?_ ?_)
          · refine WO.call rfl rfl (XC.fn Tryz.func68 (by kernel_rfl) rfl rfl rfl) (eclone_calls  (look_st ha2 hv3 (fun _ h_ => h_) (SH.rdIn hS64 (.tail _ (.tail _ (.tail _ (.tail _ (.tail _ (.tail _ (.head _))))))))) rfl (by omega)) ?_
            rintro v_ w26 ⟨A16, c16, rfl, hS65⟩
            have hS66 := SH.joinN hS64 hS65
            refine ⟨fun h_ => (KB.transN (KB.refl _ _) hS65.kb), ?_⟩
            refine WSX.of [(.forced, 15), (.forced, 16), (.forced, 17)] (by kernel_rfl) rfl ?_
            refine WS.xe rfl rfl (XE.buildSlice (E := eSI) [(0, (.agg #[(.string file), (.int .i64 ix)]))] #[(.string file), (.int .i64 ix)] [((file, ix) : En)] hS66 Tryz.underlying59 ti76 rfl (by decide) (by kernel_rfl) (.inr rfl) rfl rfl (by decide)) ?_
            rintro _ w27 ⟨b5, rfl, hS67, hk14⟩
            refine ⟨fun h_ => (KB.transN (KB.transN (KB.refl _ _) hS65.kb) hk14), ?_⟩
            have hS68 : SH w S w27 [rowE eSI 76 (.slice A16 es2.length c16) es2, rowE eSI 76 (.slice (some ⟨b5, 0, none⟩) 1 1) [((file, ix) : En)], rowE eS 9 (.slice A13 ((OF ((l.getD (ix).toNat dI).2.2.2.1)).length) c13) (OF ((l.getD (ix).toNat dI).2.2.2.1)), blkE b4 68 #[(.int .i64 ((l.getD (ix).toNat dI).1)), (.int .i64 ((l.getD (ix).toNat dI).2.1.1)), (.int .u64 ((l.getD (ix).toNat dI).2.1.2)), (.bool ((l.getD (ix).toNat dI).2.2.1)), (.string ((l.getD (ix).toNat dI).2.2.2.1)), (.bool ((l.getD (ix).toNat dI).2.2.2.2))], insE idS eIt 68 (X.P1 ++ [((⟨A11, l.length, c11⟩ : SV), l)]), mapG kS kV X.m1 (updL kw2 file (⟨A11, l.length, c11⟩ : SV)), blkE X.b 62 #[(.map (some X.m1)), (.map (some X.m2))], mapG kS kV X.m2 kw_, insE idS eSI 76 Q] := (SH.front [_] hS67)
            refine WS.xe rfl rfl (XE.append hS68 Tryz.underlying59 ti76 rfl (St.now (SH.rd hS68 (.tail _ (.head _)))) rfl rfl (by first | omega | simp only [List.length_append, List.length_cons, List.length_nil, List.length_take, List.length_reverse, List.length_drop] at *; omega) (by first | omega | simp only [List.length_append, List.length_cons, List.length_nil, List.length_take, List.length_reverse, List.length_drop] at *; omega)) ?_
            rintro _ w28 ⟨A17, c17, rfl, hS69, hk15⟩
            refine ⟨fun h_ => (KB.trans (KB.transN (KB.transN (KB.refl _ _) hS65.kb) hk14) hk15 fun i_ hi_ hs_ => (hS65.new i_ (by simpa [keys, rowE] using hs_) (Nat.lt_of_lt_of_le hi_ (KB.size (S := No) (KB.refl _ _))))), ?_⟩
            have hS70 : SH w S w28 [mapG kS kV X.m2 kw_, rowE eSI 76 (.slice A17 ((es2 ++ [((file, ix) : En)]).length) c17) (es2 ++ [((file, ix) : En)]), rowE eSI 76 (.slice (some ⟨b5, 0, none⟩) 1 1) [((file, ix) : En)], rowE eS 9 (.slice A13 ((OF ((l.getD (ix).toNat dI).2.2.2.1)).length) c13) (OF ((l.getD (ix).toNat dI).2.2.2.1)), blkE b4 68 #[(.int .i64 ((l.getD (ix).toNat dI).1)), (.int .i64 ((l.getD (ix).toNat dI).2.1.1)), (.int .u64 ((l.getD (ix).toNat dI).2.1.2)), (.bool ((l.getD (ix).toNat dI).2.2.1)), (.string ((l.getD (ix).toNat dI).2.2.2.1)), (.bool ((l.getD (ix).toNat dI).2.2.2.2))], insE idS eIt 68 (X.P1 ++ [((⟨A11, l.length, c11⟩ : SV), l)]), mapG kS kV X.m1 (updL kw2 file (⟨A11, l.length, c11⟩ : SV)), blkE X.b 62 #[(.map (some X.m1)), (.map (some X.m2))], insE idS eSI 76 Q] := (SH.front [_, _, _, _, _, _, _] hS69)
            refine WS.xse rfl rfl (XSE.mapUpdG (q := ((OF ((l.getD (ix).toNat dI).2.2.2.1)).getD (ix2).toNat ByteArray.empty)) (v := (⟨A17, (es2 ++ [((file, ix) : En)]).length, c17⟩ : SV)) (key_str Tryz.underlying9) hS70 Tryz.underlying58 rfl rfl rfl) ?_
            rintro w29 ⟨hS71, hk16⟩
            refine ⟨fun h_ => (by cases h_), ?_⟩
            refine WS.nil (blockQ.n <| thenQ.n ?_)
            refine WC.region ?_
            have hS72 : SH w S w29 [insE idS eSI 76 Q, mapG kS kV X.m2 (updL kw_ ((OF ((l.getD (ix).toNat dI).2.2.2.1)).getD (ix2).toNat ByteArray.empty) (⟨A17, (es2 ++ [((file, ix) : En)]).length, c17⟩ : SV)), rowE eSI 76 (.slice A17 ((es2 ++ [((file, ix) : En)]).length) c17) (es2 ++ [((file, ix) : En)]), rowE eSI 76 (.slice (some ⟨b5, 0, none⟩) 1 1) [((file, ix) : En)], rowE eS 9 (.slice A13 ((OF ((l.getD (ix).toNat dI).2.2.2.1)).length) c13) (OF ((l.getD (ix).toNat dI).2.2.2.1)), blkE b4 68 #[(.int .i64 ((l.getD (ix).toNat dI).1)), (.int .i64 ((l.getD (ix).toNat dI).2.1.1)), (.int .u64 ((l.getD (ix).toNat dI).2.1.2)), (.bool ((l.getD (ix).toNat dI).2.2.1)), (.string ((l.getD (ix).toNat dI).2.2.2.1)), (.bool ((l.getD (ix).toNat dI).2.2.2.2))], insE idS eIt 68 (X.P1 ++ [((⟨A11, l.length, c11⟩ : SV), l)]), mapG kS kV X.m1 (updL kw2 file (⟨A11, l.length, c11⟩ : SV)), blkE X.b 62 #[(.map (some X.m1)), (.map (some X.m2))]] := (SH.front [_, _, _, _, _, _, _, _] hS71)
            have hS73 : SH w S w29 [rowE eSI 76 (.slice A17 ((es2 ++ [((file, ix) : En)]).length) c17) (es2 ++ [((file, ix) : En)]), insE idS eSI 76 Q, mapG kS kV X.m2 (updL kw_ ((OF ((l.getD (ix).toNat dI).2.2.2.1)).getD (ix2).toNat ByteArray.empty) (⟨A17, (es2 ++ [((file, ix) : En)]).length, c17⟩ : SV)), rowE eSI 76 (.slice (some ⟨b5, 0, none⟩) 1 1) [((file, ix) : En)], rowE eS 9 (.slice A13 ((OF ((l.getD (ix).toNat dI).2.2.2.1)).length) c13) (OF ((l.getD (ix).toNat dI).2.2.2.1)), blkE b4 68 #[(.int .i64 ((l.getD (ix).toNat dI).1)), (.int .i64 ((l.getD (ix).toNat dI).2.1.1)), (.int .u64 ((l.getD (ix).toNat dI).2.1.2)), (.bool ((l.getD (ix).toNat dI).2.2.1)), (.string ((l.getD (ix).toNat dI).2.2.2.1)), (.bool ((l.getD (ix).toNat dI).2.2.2.2))], insE idS eIt 68 (X.P1 ++ [((⟨A11, l.length, c11⟩ : SV), l)]), mapG kS kV X.m1 (updL kw2 file (⟨A11, l.length, c11⟩ : SV)), blkE X.b 62 #[(.map (some X.m1)), (.map (some X.m2))]] := (SH.front [_, _] hS72)
            have hS74 : SH w S w29 [insE idS eSI 76 (Q ++ [((⟨A17, (es2 ++ [((file, ix) : En)]).length, c17⟩ : SV), (es2 ++ [((file, ix) : En)]))]), mapG kS kV X.m2 (updL kw_ ((OF ((l.getD (ix).toNat dI).2.2.2.1)).getD (ix2).toNat ByteArray.empty) (⟨A17, (es2 ++ [((file, ix) : En)]).length, c17⟩ : SV)), rowE eSI 76 (.slice (some ⟨b5, 0, none⟩) 1 1) [((file, ix) : En)], rowE eS 9 (.slice A13 ((OF ((l.getD (ix).toNat dI).2.2.2.1)).length) c13) (OF ((l.getD (ix).toNat dI).2.2.2.1)), blkE b4 68 #[(.int .i64 ((l.getD (ix).toNat dI).1)), (.int .i64 ((l.getD (ix).toNat dI).2.1.1)), (.int .u64 ((l.getD (ix).toNat dI).2.1.2)), (.bool ((l.getD (ix).toNat dI).2.2.1)), (.string ((l.getD (ix).toNat dI).2.2.2.1)), (.bool ((l.getD (ix).toNat dI).2.2.2.2))], insE idS eIt 68 (X.P1 ++ [((⟨A11, l.length, c11⟩ : SV), l)]), mapG kS kV X.m1 (updL kw2 file (⟨A11, l.length, c11⟩ : SV)), blkE X.b 62 #[(.map (some X.m1)), (.map (some X.m2))]] := SH.insMore (sv := idS) (r := (⟨A17, (es2 ++ [((file, ix) : En)]).length, c17⟩ : SV)) rfl hS73
            refine WL.lv rfl (LV.add rfl rfl (wr64 (by omega) (by omega))) ?_
            refine WL.lv rfl (LV.mv rfl) ?_
            refine WL.nil (thenQ.n ?_)
            have hS75 : SH w S w29 [rowE eS 9 (.slice A13 ((OF ((l.getD (ix).toNat dI).2.2.2.1)).length) c13) (OF ((l.getD (ix).toNat dI).2.2.2.1)), blkE b4 68 #[(.int .i64 ((l.getD (ix).toNat dI).1)), (.int .i64 ((l.getD (ix).toNat dI).2.1.1)), (.int .u64 ((l.getD (ix).toNat dI).2.1.2)), (.bool ((l.getD (ix).toNat dI).2.2.1)), (.string ((l.getD (ix).toNat dI).2.2.2.1)), (.bool ((l.getD (ix).toNat dI).2.2.2.2))], insE idS eIt 68 (X.P1 ++ [((⟨A11, l.length, c11⟩ : SV), l)]), mapG kS kV X.m1 (updL kw2 file (⟨A11, l.length, c11⟩ : SV)), blkE X.b 62 #[(.map (some X.m1)), (.map (some X.m2))], mapG kS kV X.m2 (updL kw_ ((OF ((l.getD (ix).toNat dI).2.2.2.1)).getD (ix2).toNat ByteArray.empty) (⟨A17, (es2 ++ [((file, ix) : En)]).length, c17⟩ : SV)), insE idS eSI 76 (Q ++ [((⟨A17, (es2 ++ [((file, ix) : En)]).length, c17⟩ : SV), (es2 ++ [((file, ix) : En)]))])] := (SH.take 7 rfl (SH.front [_, _, _, _, _, _, _] (SH.front [_, _, _, _, _, _, _] (SH.front [_, _, _, _, _, _, _] (SH.front [_, _, _, _, _, _, _] (SH.front [_, _, _, _, _, _, _] (SH.front [_] hS74)))))))
            exact ⟨_, by omega, ix2 + 1, (updL kw_ ((OF ((l.getD (ix).toNat dI).2.2.2.1)).getD (ix2).toNat ByteArray.empty) (⟨A17, (es2 ++ [((file, ix) : En)]).length, c17⟩ : SV)), (Q ++ [((⟨A17, (es2 ++ [((file, ix) : En)]).length, c17⟩ : SV), (es2 ++ [((file, ix) : En)]))]), by omega, by omega, (gp_next ixlo ix2lo (by omega) (ss_nodup (SRTB_ss _)) q2 hp2), (fun r_ h_ => List.mem_append_left _ (qt r_ h_)), hS75, rfl, Weak.cons rfl <| Weak.cons rfl <| Weak.cons rfl <| Weak.cons rfl <| Weak.cons rfl <| Weak.cons rfl <| Weak.cons rfl <| Weak.cons rfl <| Weak.cons rfl <| Weak.nil _⟩
          · refine WO.xe rfl rfl (XE.buildSlice (E := eSI) [(0, (.agg #[(.string file), (.int .i64 ix)]))] #[(.string file), (.int .i64 ix)] [((file, ix) : En)] hS64 Tryz.underlying59 ti76 rfl (by decide) (by kernel_rfl) (.inr rfl) rfl rfl (by decide)) ?_
            rintro _ w30 ⟨b6, rfl, hS76, hk17⟩
            refine ⟨fun h_ => (KB.transN (KB.refl _ _) hk17), ?_⟩
            refine WSX.of [(.forced, 11), (.forced, 16), (.forced, 17)] (by kernel_rfl) rfl ?_
            refine WS.call rfl rfl (XC.fn Tryz.func68 (by kernel_rfl) rfl rfl rfl) (eclone_calls  (look_st ha2 hv3 (fun _ h_ => h_) (SH.rdIn hS76 (.tail _ (.tail _ (.tail _ (.tail _ (.tail _ (.tail _ (.tail _ (.head _)))))))))) rfl (by omega)) ?_
            rintro v_ w31 ⟨A18, c18, rfl, hS77⟩
            have hS78 := SH.joinN hS76 hS77
            refine ⟨fun h_ => (KB.transN (KB.transN (KB.refl _ _) hk17) hS77.kb), ?_⟩
            refine WS.xe rfl rfl (XE.append hS78 Tryz.underlying59 ti76 rfl (St.now (SH.rd hS78 (.tail _ (.head _)))) rfl rfl (by first | omega | simp only [List.length_append, List.length_cons, List.length_nil, List.length_take, List.length_reverse, List.length_drop] at *; omega) (by first | omega | simp only [List.length_append, List.length_cons, List.length_nil, List.length_take, List.length_reverse, List.length_drop] at *; omega)) ?_
            rintro _ w32 ⟨A19, c19, rfl, hS79, hk18⟩
            refine ⟨fun h_ => (KB.trans (KB.transN (KB.transN (KB.refl _ _) hk17) hS77.kb) hk18 fun i_ hi_ hs_ => (hS77.new i_ (by simpa [keys, rowE] using hs_) (Nat.lt_of_lt_of_le hi_ (KB.size (S := No) (KB.transN (KB.refl _ _) hk17))))), ?_⟩
            have hS80 : SH w S w32 [mapG kS kV X.m2 kw_, rowE eSI 76 (.slice A19 ((es2 ++ [((file, ix) : En)]).length) c19) (es2 ++ [((file, ix) : En)]), rowE eSI 76 (.slice (some ⟨b6, 0, none⟩) 1 1) [((file, ix) : En)], rowE eS 9 (.slice A13 ((OF ((l.getD (ix).toNat dI).2.2.2.1)).length) c13) (OF ((l.getD (ix).toNat dI).2.2.2.1)), blkE b4 68 #[(.int .i64 ((l.getD (ix).toNat dI).1)), (.int .i64 ((l.getD (ix).toNat dI).2.1.1)), (.int .u64 ((l.getD (ix).toNat dI).2.1.2)), (.bool ((l.getD (ix).toNat dI).2.2.1)), (.string ((l.getD (ix).toNat dI).2.2.2.1)), (.bool ((l.getD (ix).toNat dI).2.2.2.2))], insE idS eIt 68 (X.P1 ++ [((⟨A11, l.length, c11⟩ : SV), l)]), mapG kS kV X.m1 (updL kw2 file (⟨A11, l.length, c11⟩ : SV)), blkE X.b 62 #[(.map (some X.m1)), (.map (some X.m2))], insE idS eSI 76 Q] := (SH.front [_, _, _, _, _, _, _] hS79)
            refine WS.xse rfl rfl (XSE.mapUpdG (q := ((OF ((l.getD (ix).toNat dI).2.2.2.1)).getD (ix2).toNat ByteArray.empty)) (v := (⟨A19, (es2 ++ [((file, ix) : En)]).length, c19⟩ : SV)) (key_str Tryz.underlying9) hS80 Tryz.underlying58 rfl rfl rfl) ?_
            rintro w33 ⟨hS81, hk19⟩
            refine ⟨fun h_ => (by cases h_), ?_⟩
            refine WS.nil (blockQ.n <| thenQ.n ?_)
            refine WC.region ?_
            have hS82 : SH w S w33 [insE idS eSI 76 Q, mapG kS kV X.m2 (updL kw_ ((OF ((l.getD (ix).toNat dI).2.2.2.1)).getD (ix2).toNat ByteArray.empty) (⟨A19, (es2 ++ [((file, ix) : En)]).length, c19⟩ : SV)), rowE eSI 76 (.slice A19 ((es2 ++ [((file, ix) : En)]).length) c19) (es2 ++ [((file, ix) : En)]), rowE eSI 76 (.slice (some ⟨b6, 0, none⟩) 1 1) [((file, ix) : En)], rowE eS 9 (.slice A13 ((OF ((l.getD (ix).toNat dI).2.2.2.1)).length) c13) (OF ((l.getD (ix).toNat dI).2.2.2.1)), blkE b4 68 #[(.int .i64 ((l.getD (ix).toNat dI).1)), (.int .i64 ((l.getD (ix).toNat dI).2.1.1)), (.int .u64 ((l.getD (ix).toNat dI).2.1.2)), (.bool ((l.getD (ix).toNat dI).2.2.1)), (.string ((l.getD (ix).toNat dI).2.2.2.1)), (.bool ((l.getD (ix).toNat dI).2.2.2.2))], insE idS eIt 68 (X.P1 ++ [((⟨A11, l.length, c11⟩ : SV), l)]), mapG kS kV X.m1 (updL kw2 file (⟨A11, l.length, c11⟩ : SV)), blkE X.b 62 #[(.map (some X.m1)), (.map (some X.m2))]] := (SH.front [_, _, _, _, _, _, _, _] hS81)
            have hS83 : SH w S w33 [rowE eSI 76 (.slice A19 ((es2 ++ [((file, ix) : En)]).length) c19) (es2 ++ [((file, ix) : En)]), insE idS eSI 76 Q, mapG kS kV X.m2 (updL kw_ ((OF ((l.getD (ix).toNat dI).2.2.2.1)).getD (ix2).toNat ByteArray.empty) (⟨A19, (es2 ++ [((file, ix) : En)]).length, c19⟩ : SV)), rowE eSI 76 (.slice (some ⟨b6, 0, none⟩) 1 1) [((file, ix) : En)], rowE eS 9 (.slice A13 ((OF ((l.getD (ix).toNat dI).2.2.2.1)).length) c13) (OF ((l.getD (ix).toNat dI).2.2.2.1)), blkE b4 68 #[(.int .i64 ((l.getD (ix).toNat dI).1)), (.int .i64 ((l.getD (ix).toNat dI).2.1.1)), (.int .u64 ((l.getD (ix).toNat dI).2.1.2)), (.bool ((l.getD (ix).toNat dI).2.2.1)), (.string ((l.getD (ix).toNat dI).2.2.2.1)), (.bool ((l.getD (ix).toNat dI).2.2.2.2))], insE idS eIt 68 (X.P1 ++ [((⟨A11, l.length, c11⟩ : SV), l)]), mapG kS kV X.m1 (updL kw2 file (⟨A11, l.length, c11⟩ : SV)), blkE X.b 62 #[(.map (some X.m1)), (.map (some X.m2))]] := (SH.front [_, _] hS82)
            have hS84 : SH w S w33 [insE idS eSI 76 (Q ++ [((⟨A19, (es2 ++ [((file, ix) : En)]).length, c19⟩ : SV), (es2 ++ [((file, ix) : En)]))]), mapG kS kV X.m2 (updL kw_ ((OF ((l.getD (ix).toNat dI).2.2.2.1)).getD (ix2).toNat ByteArray.empty) (⟨A19, (es2 ++ [((file, ix) : En)]).length, c19⟩ : SV)), rowE eSI 76 (.slice (some ⟨b6, 0, none⟩) 1 1) [((file, ix) : En)], rowE eS 9 (.slice A13 ((OF ((l.getD (ix).toNat dI).2.2.2.1)).length) c13) (OF ((l.getD (ix).toNat dI).2.2.2.1)), blkE b4 68 #[(.int .i64 ((l.getD (ix).toNat dI).1)), (.int .i64 ((l.getD (ix).toNat dI).2.1.1)), (.int .u64 ((l.getD (ix).toNat dI).2.1.2)), (.bool ((l.getD (ix).toNat dI).2.2.1)), (.string ((l.getD (ix).toNat dI).2.2.2.1)), (.bool ((l.getD (ix).toNat dI).2.2.2.2))], insE idS eIt 68 (X.P1 ++ [((⟨A11, l.length, c11⟩ : SV), l)]), mapG kS kV X.m1 (updL kw2 file (⟨A11, l.length, c11⟩ : SV)), blkE X.b 62 #[(.map (some X.m1)), (.map (some X.m2))]] := SH.insMore (sv := idS) (r := (⟨A19, (es2 ++ [((file, ix) : En)]).length, c19⟩ : SV)) rfl hS83
            refine WL.lv rfl (LV.add rfl rfl (wr64 (by omega) (by omega))) ?_
            refine WL.lv rfl (LV.mv rfl) ?_
            refine WL.nil (thenQ.n ?_)
            have hS85 : SH w S w33 [rowE eS 9 (.slice A13 ((OF ((l.getD (ix).toNat dI).2.2.2.1)).length) c13) (OF ((l.getD (ix).toNat dI).2.2.2.1)), blkE b4 68 #[(.int .i64 ((l.getD (ix).toNat dI).1)), (.int .i64 ((l.getD (ix).toNat dI).2.1.1)), (.int .u64 ((l.getD (ix).toNat dI).2.1.2)), (.bool ((l.getD (ix).toNat dI).2.2.1)), (.string ((l.getD (ix).toNat dI).2.2.2.1)), (.bool ((l.getD (ix).toNat dI).2.2.2.2))], insE idS eIt 68 (X.P1 ++ [((⟨A11, l.length, c11⟩ : SV), l)]), mapG kS kV X.m1 (updL kw2 file (⟨A11, l.length, c11⟩ : SV)), blkE X.b 62 #[(.map (some X.m1)), (.map (some X.m2))], mapG kS kV X.m2 (updL kw_ ((OF ((l.getD (ix).toNat dI).2.2.2.1)).getD (ix2).toNat ByteArray.empty) (⟨A19, (es2 ++ [((file, ix) : En)]).length, c19⟩ : SV)), insE idS eSI 76 (Q ++ [((⟨A19, (es2 ++ [((file, ix) : En)]).length, c19⟩ : SV), (es2 ++ [((file, ix) : En)]))])] := (SH.take 7 rfl (SH.front [_, _, _, _, _, _, _] (SH.front [_, _, _, _, _, _, _] (SH.front [_, _, _, _, _, _, _] (SH.front [_, _, _, _, _, _, _] (SH.front [_, _, _, _, _, _, _] (SH.front [_] hS84)))))))
            exact ⟨_, by omega, ix2 + 1, (updL kw_ ((OF ((l.getD (ix).toNat dI).2.2.2.1)).getD (ix2).toNat ByteArray.empty) (⟨A19, (es2 ++ [((file, ix) : En)]).length, c19⟩ : SV)), (Q ++ [((⟨A19, (es2 ++ [((file, ix) : En)]).length, c19⟩ : SV), (es2 ++ [((file, ix) : En)]))]), by omega, by omega, (gp_next ixlo ix2lo (by omega) (ss_nodup (SRTB_ss _)) q2 hp2), (fun r_ h_ => List.mem_append_left _ (qt r_ h_)), hS85, rfl, Weak.cons rfl <| Weak.cons rfl <| Weak.cons rfl <| Weak.cons rfl <| Weak.cons rfl <| Weak.cons rfl <| Weak.cons rfl <| Weak.cons rfl <| Weak.cons rfl <| Weak.nil _⟩
        · skip
          refine WC.exit (thenQ.x <| thenQ.x <| blockQ.hit <| blockQ.n <| thenQ.n ?_)
          refine WC.region ?_
          refine WL.lv rfl (LV.add rfl rfl (wr64 (by omega) (by omega))) ?_
          refine WL.lv rfl (LV.mv rfl) ?_
          refine WL.nil (thenQ.n ?_)
          have hS86 : SH w S w25 [insE idS eIt 68 (X.P1 ++ [((⟨A11, l.length, c11⟩ : SV), l)]), mapG kS kV X.m1 (updL kw2 file (⟨A11, l.length, c11⟩ : SV)), blkE X.b 62 #[(.map (some X.m1)), (.map (some X.m2))], mapG kS kV X.m2 kw_, insE idS eSI 76 Q] := (SH.take 5 rfl (SH.front [_, _, _, _, _, _] (SH.front [_, _, _, _, _, _] (SH.front [_, _, _, _, _, _] (SH.front [_, _, _, _, _, _] (SH.front [_, _, _, _, _, _] hL4))))))
          exact ⟨_, by omega, ix + 1, kw_, Q, by omega, by omega, (gp_word ixlo (by omega) (by rw [ha]; simp) rfl (by omega) q2), qt, hS86, rfl, Weak.cons rfl <| Weak.cons rfl <| Weak.cons rfl <| Weak.cons rfl <| Weak.cons rfl <| Weak.nil _⟩
    · skip
      refine WC.exit (thenQ.x <| thenQ.x <| blockQ.hit <| thenQ.n ?_)
      refine WC.seq ?_
      refine WC.region ?_
      refine WL.lv rfl (LV.asg rfl) ?_
      refine WL.nil (thenQ.n ?_)
      refine WC.ret (?_)
      have hS87 : SH w S w21 [blkE X.b 62 #[(.map (some X.m1)), (.map (some X.m2))], mapG kS kV X.m1 (updL kw2 file (⟨A11, l.length, c11⟩ : SV)), mapG kS kV X.m2 kv, insE idS eIt 68 (X.P1 ++ [((⟨A11, l.length, c11⟩ : SV), l)]), insE idS eSI 76 P] := (SH.front [_, _, _, _] (SH.front [_, _, _] (SH.front [_, _, _, _] (SH.front [_] (SH.front [_, _, _, _] hL3)))))
      exact ⟨_, fun a ha => res1 rfl ha rfl, _, _, _, _, rfl, (fun _ h_ => List.mem_append_left _ h_), qs, ixw_put hv (MapG.nodup (SH.at hL3 (.tail _ (.head _)))) (MapG.nodup (SH.at hL3 (.tail _ (.tail _ (.tail _ (.head _)))))) (files_in hv.ns hw4.fs _ _) (by omega) q1 hl hy hN.2.1, hS87⟩

end Go.Proofs.YtigbphaimbhgjaaGreat

