/- A new index; a file that goes. -/
import Derived.Test.YtigbphaimbhgjaaGreatMg22
namespace Go.Proofs.YtigbphaimbhgjaaGreat
open Go Go.Gv Go.RowKit Go.Tly Go.Wds Go.Idx
set_option linter.unusedVariables false
set_option linter.unusedSimpArgs false
theorem ti62 : TI Tryz.prog 62 (.agg #[(.map none), (.map none)]) 2 16 := by unfold TI; kernel_rfl

theorem new_calls {w : World} :
    Calls Tryz.prog 18 #[] w fun e w' => ∃ v, e = .returned v ∧ (fun v w' => ∃ b m1 m2, v = .pointer (some ⟨b, 0, none⟩) ∧ SH w No w' [ixE 62 68 76 ⟨b, m1, m2, [], [], [], [], []⟩]) v w' := by
  have hS : SH w No w [] := SH.nil _ _
  refine calls (l := litOf [] 0) Tryz.func18 rfl (n := 5) rfl (Nat.le_of_ble_eq_true rfl) (lit_args _) ?_
  refine WC.seq ?_
  refine WC.region ?_
  refine WL.lv rfl (LV.asg rfl) ?_
  refine WL.nil (thenQ.n ?_)
  refine WC.seq ?_
  refine WC.region ?_
  refine WL.xe rfl (XE.makeMapG kS kV hS) ?_
  rintro _ w1 ⟨b1, rfl, hS1, hk1⟩
  refine WL.xe rfl (XE.makeMapG kS kV hS1) ?_
  rintro _ w2 ⟨b2, rfl, hS2, hk2⟩
  refine WL.lv rfl (LV.build (vs := [(0, (.map (some b1))), (1, (.map (some b2)))]) (places := #[(0, 1), (1, 1)]) (cs := #[(.map (some b1)), (.map (some b2))]) Tryz.underlying62 ti62 (fun _ => by kernel_rfl) rfl rfl) ?_
  refine WL.xe rfl (XE.box #[(.map (some b1)), (.map (some b2))] hS2 rfl rfl) ?_
  rintro _ w3 ⟨b3, rfl, hS3, hk3⟩
  refine WL.lv rfl (LV.asg rfl) ?_
  refine WL.nil (thenQ.n ?_)
  refine WC.ret (?_)
  have hS4 : SH w No w3 [blkE b3 62 #[(.map (some b1)), (.map (some b2))], mapG kS kV b1 [], mapG kS kV b2 []] := (SH.front [_, _] (SH.front [_, _] (SH.front [_] hS3)))
  have hS5 : SH w No w3 [insE idS eSI 76 [], blkE b3 62 #[(.map (some b1)), (.map (some b2))], mapG kS kV b1 [], mapG kS kV b2 []] := SH.ins0 (sv := idS) (E := eSI) (T1 := 76) hS4
  have hS6 : SH w No w3 [insE idS eIt 68 [], insE idS eSI 76 [], blkE b3 62 #[(.map (some b1)), (.map (some b2))], mapG kS kV b1 [], mapG kS kV b2 []] := SH.ins0 (sv := idS) (E := eIt) (T1 := 68) hS5
  have hS7 : SH w No w3 [blkE b3 62 #[(.map (some b1)), (.map (some b2))], mapG kS kV b1 [], mapG kS kV b2 [], insE idS eIt 68 [], insE idS eSI 76 []] := (SH.front [_, _, _, _] (SH.front [_, _, _, _] (SH.front [_, _, _, _] (SH.front [_] (SH.front [_] hS6)))))
  exact ⟨_, fun a ha => res1 rfl ha rfl, _, _, _, rfl, (SH.ixShut (X := ⟨b3, b1, b2, [], [], [], [], []⟩) hS7)⟩

theorem drop_calls {w : World} {S : Nat → Prop} {X : IXS} {n_X : Nat} {fl : ByteArray} (hS0 : SH w S w (ixL 62 68 76 X)) (hv : IXW n_X X) (hm : n_X ≤ 30) :
    Calls Tryz.prog 66 #[(.pointer (some ⟨X.b, 0, none⟩)), (.string fl)] w fun e w' => ∃ v, e = .returned v ∧ (fun v w' => ∃ (kv1' kv2' : KVS) (P2' : PLE), v = .tuple #[] ∧ (∀ r ∈ X.P2, r ∈ P2') ∧ IXW n_X (⟨X.b, X.m1, X.m2, kv1', kv2', X.P1, P2', (WOF X.F fl)⟩ : IXS) ∧ SH w S w' (ixL 62 68 76 (⟨X.b, X.m1, X.m2, kv1', kv2', X.P1, P2', (WOF X.F fl)⟩ : IXS))) v w' := by
  have hsm_ := lkf_small hv.sm fl
  have hS : SH w S w [blkE X.b 62 #[(.map (some X.m1)), (.map (some X.m2))], mapG kS kV X.m1 X.kv1, mapG kS kV X.m2 X.kv2, insE idS eIt 68 X.P1, insE idS eSI 76 X.P2] := hS0
  refine calls (l := litOf [(.pointer (some ⟨X.b, 0, none⟩)), (.string fl)] 0) Tryz.func66 rfl (n := 59) rfl (Nat.le_of_ble_eq_true rfl) (lit_args _) ?_
  refine WC.seq ?_
  refine WC.region ?_
  refine WL.xe rfl (XE.box #[(.string fl)] hS rfl rfl) ?_
  rintro _ w1 ⟨b1, rfl, hS1, hk1⟩
  refine WL.nil (thenQ.n ?_)
  iterate 2 refine WC.seq ?_
  have hS2 := SH.drew hS1
  refine WC.regionD [] (fun _ => True) [(.pure, 0), (.pure, 1), (.pure, 2), (.pure, 7), (.fork, 0), (.fork, 0), (.fork, 0), (.fork, 0)] (by kernel_rfl) (by kernel_rfl) trivial ?_
  refine WS.pure rfl rfl (fun _ => LV.mv rfl) ?_
  refine WS.pure rfl rfl (fun _ => LV.nilCheck rfl) ?_
  refine WS.pure rfl rfl (fun _ => LV.fieldA Tryz.underlying62 rfl ti60.sz rfl) ?_
  refine WS.pure rfl rfl (fun _ => LV.mv rfl) ?_
  refine WS.fork (WSX.two 3 4 (by kernel_rfl) ?_ ?_)
  · refine WO.lvT rfl rfl (LV.load1 Tryz.underlying60 rfl rfl (Blk.cellN (SH.at hS2 (.tail _ (.head _))) 0 rfl _ (KB.refl No _))) ?_
    refine WSX.of [(.forced, 4), (.forced, 5), (.pure, 6)] (by kernel_rfl) rfl ?_
    refine WS.lvT rfl rfl (LV.load1 Tryz.underlying9 rfl rfl (Blk.cellN (SH.at hS2 (.head _)) 0 rfl _ (KB.refl No _))) ?_
    obtain ⟨A1, c1, hv1, hr1⟩ := look_at (FILES.atL hv.fs fl) (SH.rdIn hS2 (.tail _ (.tail _ (.tail _ (.tail _ (.head _))))))
    refine WS.lvT rfl rfl (LV.to hv1 (LV.lookG (q := fl) (V := kV) (z := svZ) (key_str Tryz.underlying9) Tryz.underlying60 ti45 (SH.at hS2 (.tail _ (.tail _ (.head _)))) rfl rfl)) ?_
    refine WS.pure rfl rfl (fun _ => LV.lenL Tryz.underlying45 rfl) ?_
    refine WS.nil (thenQ.n ?_)
    refine WC.block ?_
    refine WC.loop (fun m_ f_ w_ => ∃ (ix : Int) (kv : KVS) (P : PLE), (0 ≤ ix) ∧ (ix ≤ ((LKF X.F fl).length : Int)) ∧ (ROWS kv P (GD X.F fl (WLS ((LKF X.F fl).take ix.toNat)))) ∧ (∀ r ∈ X.P2, r ∈ P) ∧ SH w S w_ [blkE b1 9 #[(.string fl)], blkE X.b 62 #[(.map (some X.m1)), (.map (some X.m2))], mapG kS kV X.m1 X.kv1, mapG kS kV X.m2 kv, insE idS eIt 68 X.P1, insE idS eSI 76 P] ∧ m_ = ((((LKF X.F fl).length : Int) - ix).toNat) ∧ Weak (lit [(0, (.pointer (some ⟨X.b, 0, none⟩))), (3, (.pointer (some ⟨b1, 0, none⟩))), (14, (.slice A1 ((LKF X.F fl).length) c1)), (15, (.int .i64 ((LKF X.F fl).length : Int))), (16, (.int .i64 ix))]) f_) _ ⟨0, X.kv2, X.P2, by omega, by omega, (gd_0 hv.rs), (fun _ h_ => h_), hS2, rfl, Weak.cons rfl <| Weak.cons rfl <| Weak.cons rfl <| Weak.cons rfl <| Weak.cons rfl <| Weak.nil _⟩ ?_
    rintro m1 f1 w2 ⟨ix, kv, P, ixlo, ixhi, q1, qs, hL1, rfl, hw1⟩
    refine WC.weak hw1 ?_
    clear hw1
    refine WC.seq ?_
    refine WC.region ?_
    refine WL.lv rfl (LV.ltI rfl rfl) ?_
    refine WL.nil (thenQ.n ?_)
    refine WC.seq ?_
    refine WC.condP (p := ix < ((LKF X.F fl).length : Int)) rfl (fun hc1 => ?_) (fun hc1 => ?_)
    · skip
      refine WC.skip (thenQ.n ?_)
      refine WC.seq ?_
      refine WC.block ?_
      refine WC.seq ?_
      refine WC.region ?_
      obtain ⟨A2, c2, e1, g1⟩ := St.elt (look_st (FILES.atL hv.fs fl) hv1 (fun _ h_ => h_) (SH.rdIn hL1 (.tail _ (.tail _ (.tail _ (.tail _ (.head _))))))) dI ix (by omega) (by omega)
      refine WL.lv rfl (LV.idxA Tryz.underlying45 ti68.sz rfl e1 rfl (by omega) (by omega)) ?_
      refine WL.lv rfl (LV.loadAgg (cs := [(.int .i64 (((LKF X.F fl).getD (ix).toNat dI).1)), (.int .i64 (((LKF X.F fl).getD (ix).toNat dI).2.1.1)), (.int .u64 (((LKF X.F fl).getD (ix).toNat dI).2.1.2)), (.bool (((LKF X.F fl).getD (ix).toNat dI).2.2.1)), (.string (((LKF X.F fl).getD (ix).toNat dI).2.2.2.1)), (.bool (((LKF X.F fl).getD (ix).toNat dI).2.2.2.2))]) Tryz.underlying68 rfl ti68 rfl rfl (fun j u hu => g1 _ (KB.refl No _) j u hu)) ?_
      refine WL.xe rfl (XE.alloc #[(.int .i64 0), (.int .i64 0), (.int .u64 0), (.bool false), (.string ⟨#[]⟩), (.bool false)] hL1 ti68 rfl) ?_
      rintro _ w3 ⟨b2, rfl, hS3, hk2⟩
      refine WL.xse rfl (XSE.blkAgg #[(.int .i64 (((LKF X.F fl).getD (ix).toNat dI).1)), (.int .i64 (((LKF X.F fl).getD (ix).toNat dI).2.1.1)), (.int .u64 (((LKF X.F fl).getD (ix).toNat dI).2.1.2)), (.bool (((LKF X.F fl).getD (ix).toNat dI).2.2.1)), (.string (((LKF X.F fl).getD (ix).toNat dI).2.2.2.1)), (.bool (((LKF X.F fl).getD (ix).toNat dI).2.2.2.2))] hS3 (by kernel_rfl) rfl (by kernel_rfl) rfl rfl) ?_
      rintro w4 ⟨hS4, hk3⟩
      refine WL.nil (thenQ.n ?_)
      refine WC.seq ?_
      refine WC.region ?_
      refine WL.lv rfl (LV.fieldA Tryz.underlying68 rfl ti66.sz rfl) ?_
      refine WL.lv rfl (LV.fieldA Tryz.underlying66 rfl ti9.sz rfl) ?_
      refine WL.lv rfl (LV.load1 Tryz.underlying9 rfl rfl (Blk.cellN (SH.at hS4 (.head _)) 4 rfl _ (KB.refl No _))) ?_
      have hyy_ := hsm_.2 _ (getD_mem (l := (LKF X.F fl)) (d := dI) (i := ix.toNat) (by omega))
      have hol_ := OF_len ((LKF X.F fl).getD ix.toNat dI).2.2.2.1
      refine WL.call rfl (XC.fn Tryz.func15 (by kernel_rfl) rfl rfl rfl) (of_calls (s := (((LKF X.F fl).getD (ix).toNat dI).2.2.2.1)) (by omega)) ?_
      rintro v_ w5 ⟨A3, c3, rfl, hS5⟩
      have hS6 := SH.joinN hS4 hS5
      refine WL.lv rfl (LV.lenL Tryz.underlying23 rfl) ?_
      refine WL.lv rfl (LV.mv rfl) ?_
      refine WL.nil (thenQ.n ?_)
      refine WC.block ?_
      refine WC.loop (fun m_ f_ w_ => ∃ (ix2 : Int) (kw : KVS) (Q : PLE), (0 ≤ ix2) ∧ (ix2 ≤ ((OF (((LKF X.F fl).getD (ix).toNat dI).2.2.2.1)).length : Int)) ∧ (ROWS kw Q (GD X.F fl (WLS ((LKF X.F fl).take ix.toNat) ++ (OF ((LKF X.F fl).getD ix.toNat dI).2.2.2.1).take ix2.toNat))) ∧ (∀ r ∈ X.P2, r ∈ Q) ∧ SH w S w_ [rowE eS 9 (.slice A3 ((OF (((LKF X.F fl).getD (ix).toNat dI).2.2.2.1)).length) c3) (OF (((LKF X.F fl).getD (ix).toNat dI).2.2.2.1)), blkE b2 68 #[(.int .i64 (((LKF X.F fl).getD (ix).toNat dI).1)), (.int .i64 (((LKF X.F fl).getD (ix).toNat dI).2.1.1)), (.int .u64 (((LKF X.F fl).getD (ix).toNat dI).2.1.2)), (.bool (((LKF X.F fl).getD (ix).toNat dI).2.2.1)), (.string (((LKF X.F fl).getD (ix).toNat dI).2.2.2.1)), (.bool (((LKF X.F fl).getD (ix).toNat dI).2.2.2.2))], blkE b1 9 #[(.string fl)], blkE X.b 62 #[(.map (some X.m1)), (.map (some X.m2))], mapG kS kV X.m1 X.kv1, mapG kS kV X.m2 kw, insE idS eIt 68 X.P1, insE idS eSI 76 Q] ∧ m_ = ((((OF (((LKF X.F fl).getD (ix).toNat dI).2.2.2.1)).length : Int) - ix2).toNat) ∧ Weak (lit [(0, (.pointer (some ⟨X.b, 0, none⟩))), (3, (.pointer (some ⟨b1, 0, none⟩))), (14, (.slice A1 ((LKF X.F fl).length) c1)), (15, (.int .i64 ((LKF X.F fl).length : Int))), (16, (.int .i64 ix)), (23, (.slice A3 ((OF (((LKF X.F fl).getD (ix).toNat dI).2.2.2.1)).length) c3)), (24, (.int .i64 ((OF (((LKF X.F fl).getD (ix).toNat dI).2.2.2.1)).length : Int))), (25, (.int .i64 ix2))]) f_) _ ⟨0, kv, P, by omega, by omega, (by simpa using q1), qs, hS6, rfl, Weak.cons rfl <| Weak.cons rfl <| Weak.cons rfl <| Weak.cons rfl <| Weak.cons rfl <| Weak.cons rfl <| Weak.cons rfl <| Weak.cons rfl <| Weak.nil _⟩ ?_
      rintro m2 f2 w6 ⟨ix2, kw, Q, ix2lo, ix2hi, q2, qt, hL2, rfl, hw2⟩
      refine WC.weak hw2 ?_
      clear hw2
      have hnd_ := MapG.nodup (SH.at hL2 (show mapG kS kV X.m2 kw ∈ _ by simp))
      refine WC.seq ?_
      refine WC.region ?_
      refine WL.lv rfl (LV.ltI rfl rfl) ?_
      refine WL.nil (thenQ.n ?_)
      refine WC.seq ?_
      refine WC.condP (p := ix2 < ((OF (((LKF X.F fl).getD (ix).toNat dI).2.2.2.1)).length : Int)) rfl (fun hc2 => ?_) (fun hc2 => ?_)
      · skip
        refine WC.skip (thenQ.n ?_)
        refine WC.seq ?_
        refine WC.block ?_
        refine WC.seq ?_
        refine WC.region ?_
        obtain ⟨A4, c4, e2, g2⟩ := St.elt (SH.rd hL2 (.head _)) ByteArray.empty ix2 (by omega) (by omega)
        refine WL.lv rfl (LV.idxA Tryz.underlying23 ti9.sz rfl e2 rfl (by omega) (by omega)) ?_
        refine WL.lv rfl (LV.load1 (v := (.string ((OF (((LKF X.F fl).getD (ix).toNat dI).2.2.2.1)).getD (ix2).toNat ByteArray.empty))) Tryz.underlying9 rfl rfl (g2 _ (KB.refl No _) 0 _ rfl)) ?_
        refine WL.lv rfl (LV.asg rfl) ?_
        refine WL.nil (thenQ.n ?_)
        refine WC.seq ?_
        refine WC.region ?_
        refine WL.lv rfl (LV.mv rfl) ?_
        refine WL.lv rfl (LV.nilCheck rfl) ?_
        refine WL.lv rfl (LV.fieldA Tryz.underlying62 rfl ti58.sz rfl) ?_
        refine WL.lv rfl (LV.load1 Tryz.underlying58 rfl rfl (Blk.cellN (SH.at hL2 (.tail _ (.tail _ (.tail _ (.head _))))) 1 rfl _ (KB.refl No _))) ?_
        refine WL.lv rfl (LV.mv rfl) ?_
        obtain ⟨es1, hp1, ha1⟩ := ROWS.at q2 ((OF (((LKF X.F fl).getD (ix).toNat dI).2.2.2.1)).getD (ix2).toNat ByteArray.empty)
        obtain ⟨A5, c5, hv2, hr2⟩ := look_at ha1 (SH.rdIn hL2 (.tail _ (.tail _ (.tail _ (.tail _ (.tail _ (.tail _ (.tail _ (.head _)))))))))
        have heb_ := gd_bd hv.sm hv.ln hp1
        have hnf_ := nf_len fl es1
        refine WL.lv rfl (LV.to hv2 (LV.lookG (q := ((OF (((LKF X.F fl).getD (ix).toNat dI).2.2.2.1)).getD (ix2).toNat ByteArray.empty)) (V := kV) (z := svZ) (key_str Tryz.underlying9) Tryz.underlying58 ti59 (SH.at hL2 (.tail _ (.tail _ (.tail _ (.tail _ (.tail _ (.head _))))))) rfl rfl)) ?_
        refine WL.call rfl (XC.fn Tryz.func68 (by kernel_rfl) rfl rfl rfl) (eclone_calls  (look_st ha1 hv2 (fun _ h_ => h_) (SH.rdIn hL2 (.tail _ (.tail _ (.tail _ (.tail _ (.tail _ (.tail _ (.tail _ (.head _)))))))))) rfl (by omega)) ?_
        rintro v_ w7 ⟨A6, c6, rfl, hS7⟩
        have hS8 := SH.joinN hL2 hS7
        refine WL.lv rfl (LV.mkFunc rfl) ?_
        have hS9 : SH w S w7 [blkE b1 9 #[(.string fl)], rowE eSI 76 (.slice A6 es1.length c6) es1, rowE eS 9 (.slice A3 ((OF (((LKF X.F fl).getD (ix).toNat dI).2.2.2.1)).length) c3) (OF (((LKF X.F fl).getD (ix).toNat dI).2.2.2.1)), blkE b2 68 #[(.int .i64 (((LKF X.F fl).getD (ix).toNat dI).1)), (.int .i64 (((LKF X.F fl).getD (ix).toNat dI).2.1.1)), (.int .u64 (((LKF X.F fl).getD (ix).toNat dI).2.1.2)), (.bool (((LKF X.F fl).getD (ix).toNat dI).2.2.1)), (.string (((LKF X.F fl).getD (ix).toNat dI).2.2.2.1)), (.bool (((LKF X.F fl).getD (ix).toNat dI).2.2.2.2))], blkE X.b 62 #[(.map (some X.m1)), (.map (some X.m2))], mapG kS kV X.m1 X.kv1, mapG kS kV X.m2 kw, insE idS eIt 68 X.P1, insE idS eSI 76 Q] := (SH.front [_, _, _] hS8)
        have hS10 : SH w S w7 [rowE eSI 76 (.slice A6 es1.length c6) es1, blkE b1 9 #[(.string fl)], rowE eS 9 (.slice A3 ((OF (((LKF X.F fl).getD (ix).toNat dI).2.2.2.1)).length) c3) (OF (((LKF X.F fl).getD (ix).toNat dI).2.2.2.1)), blkE b2 68 #[(.int .i64 (((LKF X.F fl).getD (ix).toNat dI).1)), (.int .i64 (((LKF X.F fl).getD (ix).toNat dI).2.1.1)), (.int .u64 (((LKF X.F fl).getD (ix).toNat dI).2.1.2)), (.bool (((LKF X.F fl).getD (ix).toNat dI).2.2.1)), (.string (((LKF X.F fl).getD (ix).toNat dI).2.2.2.1)), (.bool (((LKF X.F fl).getD (ix).toNat dI).2.2.2.2))], blkE X.b 62 #[(.map (some X.m1)), (.map (some X.m2))], mapG kS kV X.m1 X.kv1, mapG kS kV X.m2 kw, insE idS eIt 68 X.P1, insE idS eSI 76 Q] := (SH.front [_] hS9)
        have hT1 := SH.sub (Es := [_, _]) hS10
        refine WL.call rfl (XC.fn Tryz.func92 (by kernel_rfl) rfl rfl rfl) (edel_calls hT1) ?_
        rintro v_ w8 ⟨rfl, hU1⟩
        have hS11 := SH.back (Es := [_, _]) hS10 hU1
        refine WL.lv rfl (LV.asg rfl) ?_
        refine WL.nil (thenQ.n ?_)
        refine WC.seq ?_
        refine WC.region ?_
        refine WL.lv rfl (LV.mv rfl) ?_
        refine WL.lv rfl (LV.nilCheck rfl) ?_
        refine WL.lv rfl (LV.fieldA Tryz.underlying62 rfl ti58.sz rfl) ?_
        refine WL.lv rfl (LV.load1 Tryz.underlying58 rfl rfl (Blk.cellN (SH.at hS11 (.tail _ (.tail _ (.tail _ (.tail _ (.head _)))))) 1 rfl _ (KB.refl No _))) ?_
        iterate 2 refine WL.lv rfl (LV.mv rfl) ?_
        have hS12 : SH w S w8 [mapG kS kV X.m2 kw, rowE eSI 76 (.slice A6 ((NF fl es1).length) c6) (NF fl es1), blkE b1 9 #[(.string fl)], rowE eS 9 (.slice A3 ((OF (((LKF X.F fl).getD (ix).toNat dI).2.2.2.1)).length) c3) (OF (((LKF X.F fl).getD (ix).toNat dI).2.2.2.1)), blkE b2 68 #[(.int .i64 (((LKF X.F fl).getD (ix).toNat dI).1)), (.int .i64 (((LKF X.F fl).getD (ix).toNat dI).2.1.1)), (.int .u64 (((LKF X.F fl).getD (ix).toNat dI).2.1.2)), (.bool (((LKF X.F fl).getD (ix).toNat dI).2.2.1)), (.string (((LKF X.F fl).getD (ix).toNat dI).2.2.2.1)), (.bool (((LKF X.F fl).getD (ix).toNat dI).2.2.2.2))], blkE X.b 62 #[(.map (some X.m1)), (.map (some X.m2))], mapG kS kV X.m1 X.kv1, insE idS eIt 68 X.P1, insE idS eSI 76 Q] := (SH.front [_, _, _, _, _, _] hS11)
        refine WL.xse rfl (XSE.mapUpdG (q := ((OF (((LKF X.F fl).getD (ix).toNat dI).2.2.2.1)).getD (ix2).toNat ByteArray.empty)) (v := (⟨A6, (NF fl es1).length, c6⟩ : SV)) (key_str Tryz.underlying9) hS12 Tryz.underlying58 rfl rfl rfl) ?_
        rintro w9 ⟨hS13, hk4⟩
        refine WL.nil (thenQ.n ?_)
        refine WC.seq ?_
        refine WC.region ?_
        refine WL.lv rfl (LV.mv rfl) ?_
        have hS14 : SH w S w9 [insE idS eSI 76 Q, mapG kS kV X.m2 (updL kw ((OF (((LKF X.F fl).getD (ix).toNat dI).2.2.2.1)).getD (ix2).toNat ByteArray.empty) (⟨A6, (NF fl es1).length, c6⟩ : SV)), rowE eSI 76 (.slice A6 ((NF fl es1).length) c6) (NF fl es1), blkE b1 9 #[(.string fl)], rowE eS 9 (.slice A3 ((OF (((LKF X.F fl).getD (ix).toNat dI).2.2.2.1)).length) c3) (OF (((LKF X.F fl).getD (ix).toNat dI).2.2.2.1)), blkE b2 68 #[(.int .i64 (((LKF X.F fl).getD (ix).toNat dI).1)), (.int .i64 (((LKF X.F fl).getD (ix).toNat dI).2.1.1)), (.int .u64 (((LKF X.F fl).getD (ix).toNat dI).2.1.2)), (.bool (((LKF X.F fl).getD (ix).toNat dI).2.2.1)), (.string (((LKF X.F fl).getD (ix).toNat dI).2.2.2.1)), (.bool (((LKF X.F fl).getD (ix).toNat dI).2.2.2.2))], blkE X.b 62 #[(.map (some X.m1)), (.map (some X.m2))], mapG kS kV X.m1 X.kv1, insE idS eIt 68 X.P1] := (SH.front [_, _, _, _, _, _, _, _] hS13)
        have hS15 : SH w S w9 [rowE eSI 76 (.slice A6 ((NF fl es1).length) c6) (NF fl es1), insE idS eSI 76 Q, mapG kS kV X.m2 (updL kw ((OF (((LKF X.F fl).getD (ix).toNat dI).2.2.2.1)).getD (ix2).toNat ByteArray.empty) (⟨A6, (NF fl es1).length, c6⟩ : SV)), blkE b1 9 #[(.string fl)], rowE eS 9 (.slice A3 ((OF (((LKF X.F fl).getD (ix).toNat dI).2.2.2.1)).length) c3) (OF (((LKF X.F fl).getD (ix).toNat dI).2.2.2.1)), blkE b2 68 #[(.int .i64 (((LKF X.F fl).getD (ix).toNat dI).1)), (.int .i64 (((LKF X.F fl).getD (ix).toNat dI).2.1.1)), (.int .u64 (((LKF X.F fl).getD (ix).toNat dI).2.1.2)), (.bool (((LKF X.F fl).getD (ix).toNat dI).2.2.1)), (.string (((LKF X.F fl).getD (ix).toNat dI).2.2.2.1)), (.bool (((LKF X.F fl).getD (ix).toNat dI).2.2.2.2))], blkE X.b 62 #[(.map (some X.m1)), (.map (some X.m2))], mapG kS kV X.m1 X.kv1, insE idS eIt 68 X.P1] := (SH.front [_, _] hS14)
        have hS16 : SH w S w9 [insE idS eSI 76 (Q ++ [((⟨A6, (NF fl es1).length, c6⟩ : SV), (NF fl es1))]), mapG kS kV X.m2 (updL kw ((OF (((LKF X.F fl).getD (ix).toNat dI).2.2.2.1)).getD (ix2).toNat ByteArray.empty) (⟨A6, (NF fl es1).length, c6⟩ : SV)), blkE b1 9 #[(.string fl)], rowE eS 9 (.slice A3 ((OF (((LKF X.F fl).getD (ix).toNat dI).2.2.2.1)).length) c3) (OF (((LKF X.F fl).getD (ix).toNat dI).2.2.2.1)), blkE b2 68 #[(.int .i64 (((LKF X.F fl).getD (ix).toNat dI).1)), (.int .i64 (((LKF X.F fl).getD (ix).toNat dI).2.1.1)), (.int .u64 (((LKF X.F fl).getD (ix).toNat dI).2.1.2)), (.bool (((LKF X.F fl).getD (ix).toNat dI).2.2.1)), (.string (((LKF X.F fl).getD (ix).toNat dI).2.2.2.1)), (.bool (((LKF X.F fl).getD (ix).toNat dI).2.2.2.2))], blkE X.b 62 #[(.map (some X.m1)), (.map (some X.m2))], mapG kS kV X.m1 X.kv1, insE idS eIt 68 X.P1] := SH.insMore (sv := idS) (r := (⟨A6, (NF fl es1).length, c6⟩ : SV)) rfl hS15
        refine WL.lv rfl (LV.lenL Tryz.underlying59 rfl) ?_
        refine WL.lv rfl (LV.eqI rfl rfl) ?_
        refine WL.nil (thenQ.n ?_)
        refine WC.condP (p := ((NF fl es1).length : Int) = 0) rfl (fun hz => ?_) (fun hz => ?_)
        · skip
          refine WC.region ?_
          refine WL.lv rfl (LV.mv rfl) ?_
          refine WL.lv rfl (LV.nilCheck rfl) ?_
          refine WL.lv rfl (LV.fieldA Tryz.underlying62 rfl ti58.sz rfl) ?_
          refine WL.lv rfl (LV.load1 Tryz.underlying58 rfl rfl (Blk.cellN (SH.at hS16 (.tail _ (.tail _ (.tail _ (.tail _ (.tail _ (.head _))))))) 1 rfl _ (KB.refl No _))) ?_
          refine WL.lv rfl (LV.mv rfl) ?_
          have hS17 : SH w S w9 [mapG kS kV X.m2 (updL kw ((OF (((LKF X.F fl).getD (ix).toNat dI).2.2.2.1)).getD (ix2).toNat ByteArray.empty) (⟨A6, (NF fl es1).length, c6⟩ : SV)), insE idS eSI 76 (Q ++ [((⟨A6, (NF fl es1).length, c6⟩ : SV), (NF fl es1))]), blkE b1 9 #[(.string fl)], rowE eS 9 (.slice A3 ((OF (((LKF X.F fl).getD (ix).toNat dI).2.2.2.1)).length) c3) (OF (((LKF X.F fl).getD (ix).toNat dI).2.2.2.1)), blkE b2 68 #[(.int .i64 (((LKF X.F fl).getD (ix).toNat dI).1)), (.int .i64 (((LKF X.F fl).getD (ix).toNat dI).2.1.1)), (.int .u64 (((LKF X.F fl).getD (ix).toNat dI).2.1.2)), (.bool (((LKF X.F fl).getD (ix).toNat dI).2.2.1)), (.string (((LKF X.F fl).getD (ix).toNat dI).2.2.2.1)), (.bool (((LKF X.F fl).getD (ix).toNat dI).2.2.2.2))], blkE X.b 62 #[(.map (some X.m1)), (.map (some X.m2))], mapG kS kV X.m1 X.kv1, insE idS eIt 68 X.P1] := (SH.front [_] hS16)
          refine WL.xe rfl (XE.mapDelG (q := ((OF (((LKF X.F fl).getD (ix).toNat dI).2.2.2.1)).getD (ix2).toNat ByteArray.empty)) (key_str Tryz.underlying9) hS17 Tryz.underlying58 rfl rfl) ?_
          rintro _ w10 ⟨rfl, hS18, hk5⟩
          refine WL.nil (blockQ.n <| thenQ.n ?_)
          refine WC.region ?_
          refine WL.lv rfl (LV.add rfl rfl (wr64 (by omega) (by omega))) ?_
          refine WL.lv rfl (LV.mv rfl) ?_
          refine WL.nil (thenQ.n ?_)
          have hS19 : SH w S w10 [rowE eS 9 (.slice A3 ((OF (((LKF X.F fl).getD (ix).toNat dI).2.2.2.1)).length) c3) (OF (((LKF X.F fl).getD (ix).toNat dI).2.2.2.1)), blkE b2 68 #[(.int .i64 (((LKF X.F fl).getD (ix).toNat dI).1)), (.int .i64 (((LKF X.F fl).getD (ix).toNat dI).2.1.1)), (.int .u64 (((LKF X.F fl).getD (ix).toNat dI).2.1.2)), (.bool (((LKF X.F fl).getD (ix).toNat dI).2.2.1)), (.string (((LKF X.F fl).getD (ix).toNat dI).2.2.2.1)), (.bool (((LKF X.F fl).getD (ix).toNat dI).2.2.2.2))], blkE b1 9 #[(.string fl)], blkE X.b 62 #[(.map (some X.m1)), (.map (some X.m2))], mapG kS kV X.m1 X.kv1, mapG kS kV X.m2 (delL (updL kw ((OF (((LKF X.F fl).getD (ix).toNat dI).2.2.2.1)).getD (ix2).toNat ByteArray.empty) (⟨A6, (NF fl es1).length, c6⟩ : SV)) ((OF (((LKF X.F fl).getD (ix).toNat dI).2.2.2.1)).getD (ix2).toNat ByteArray.empty)), insE idS eIt 68 X.P1, insE idS eSI 76 (Q ++ [((⟨A6, (NF fl es1).length, c6⟩ : SV), (NF fl es1))])] := (SH.front [_, _, _, _, _, _, _] (SH.front [_, _, _, _, _, _, _] (SH.front [_, _, _, _, _] (SH.front [_, _, _, _, _, _, _] (SH.front [_, _, _, _, _, _, _] (SH.front [_, _] (SH.front [_, _, _, _, _, _, _] (SH.front [_] hS18))))))))
          exact ⟨_, by omega, ix2 + 1, (delL (updL kw ((OF (((LKF X.F fl).getD (ix).toNat dI).2.2.2.1)).getD (ix2).toNat ByteArray.empty) (⟨A6, (NF fl es1).length, c6⟩ : SV)) ((OF (((LKF X.F fl).getD (ix).toNat dI).2.2.2.1)).getD (ix2).toNat ByteArray.empty)), (Q ++ [((⟨A6, (NF fl es1).length, c6⟩ : SV), (NF fl es1))]), by omega, by omega, (gd_nextD hnd_ ix2lo (by omega) q2 hp1 hz), (fun r_ h_ => List.mem_append_left _ (qt r_ h_)), hS19, rfl, Weak.cons rfl <| Weak.cons rfl <| Weak.cons rfl <| Weak.cons rfl <| Weak.cons rfl <| Weak.cons rfl <| Weak.cons rfl <| Weak.cons rfl <| Weak.nil _⟩
        · skip
          refine WC.skip (blockQ.n <| thenQ.n ?_)
          refine WC.region ?_
          refine WL.lv rfl (LV.add rfl rfl (wr64 (by omega) (by omega))) ?_
          refine WL.lv rfl (LV.mv rfl) ?_
          refine WL.nil (thenQ.n ?_)
          have hS20 : SH w S w9 [rowE eS 9 (.slice A3 ((OF (((LKF X.F fl).getD (ix).toNat dI).2.2.2.1)).length) c3) (OF (((LKF X.F fl).getD (ix).toNat dI).2.2.2.1)), blkE b2 68 #[(.int .i64 (((LKF X.F fl).getD (ix).toNat dI).1)), (.int .i64 (((LKF X.F fl).getD (ix).toNat dI).2.1.1)), (.int .u64 (((LKF X.F fl).getD (ix).toNat dI).2.1.2)), (.bool (((LKF X.F fl).getD (ix).toNat dI).2.2.1)), (.string (((LKF X.F fl).getD (ix).toNat dI).2.2.2.1)), (.bool (((LKF X.F fl).getD (ix).toNat dI).2.2.2.2))], blkE b1 9 #[(.string fl)], blkE X.b 62 #[(.map (some X.m1)), (.map (some X.m2))], mapG kS kV X.m1 X.kv1, mapG kS kV X.m2 (updL kw ((OF (((LKF X.F fl).getD (ix).toNat dI).2.2.2.1)).getD (ix2).toNat ByteArray.empty) (⟨A6, (NF fl es1).length, c6⟩ : SV)), insE idS eIt 68 X.P1, insE idS eSI 76 (Q ++ [((⟨A6, (NF fl es1).length, c6⟩ : SV), (NF fl es1))])] := (SH.front [_, _, _, _, _, _, _] (SH.front [_, _, _, _, _, _, _] (SH.front [_, _, _, _, _] (SH.front [_, _, _, _, _, _, _] (SH.front [_, _, _, _, _, _, _] (SH.front [_, _] (SH.front [_, _, _, _, _, _, _] hS16)))))))
          exact ⟨_, by omega, ix2 + 1, (updL kw ((OF (((LKF X.F fl).getD (ix).toNat dI).2.2.2.1)).getD (ix2).toNat ByteArray.empty) (⟨A6, (NF fl es1).length, c6⟩ : SV)), (Q ++ [((⟨A6, (NF fl es1).length, c6⟩ : SV), (NF fl es1))]), by omega, by omega, (gd_nextK ix2lo (by omega) q2 hp1 hz), (fun r_ h_ => List.mem_append_left _ (qt r_ h_)), hS20, rfl, Weak.cons rfl <| Weak.cons rfl <| Weak.cons rfl <| Weak.cons rfl <| Weak.cons rfl <| Weak.cons rfl <| Weak.cons rfl <| Weak.cons rfl <| Weak.nil _⟩
      · skip
        refine WC.exit (thenQ.x <| thenQ.x <| blockQ.hit <| blockQ.n <| thenQ.n ?_)
        refine WC.region ?_
        refine WL.lv rfl (LV.add rfl rfl (wr64 (by omega) (by omega))) ?_
        refine WL.lv rfl (LV.mv rfl) ?_
        refine WL.nil (thenQ.n ?_)
        have hS21 : SH w S w6 [blkE b1 9 #[(.string fl)], blkE X.b 62 #[(.map (some X.m1)), (.map (some X.m2))], mapG kS kV X.m1 X.kv1, mapG kS kV X.m2 kw, insE idS eIt 68 X.P1, insE idS eSI 76 Q] := (SH.take 6 rfl (SH.front [_, _, _, _, _, _, _] (SH.front [_, _, _, _, _, _, _] (SH.front [_, _, _, _, _, _, _] (SH.front [_, _, _, _, _, _, _] (SH.front [_, _, _, _, _, _, _] (SH.front [_, _, _, _, _, _, _] hL2)))))))
        exact ⟨_, by omega, ix + 1, kw, Q, by omega, by omega, (gd_line ixlo (by omega) rfl (by omega) q2), qt, hS21, rfl, Weak.cons rfl <| Weak.cons rfl <| Weak.cons rfl <| Weak.cons rfl <| Weak.cons rfl <| Weak.nil _⟩
    · skip
      refine WC.exit (thenQ.x <| thenQ.x <| blockQ.hit <| thenQ.n ?_)
      have hS22 := SH.drew hL1
      refine WC.regionD [] (fun _ => True) [(.pure, 0), (.pure, 1), (.pure, 2), (.fork, 0), (.fork, 0), (.fork, 0)] (by kernel_rfl) (by kernel_rfl) trivial ?_
      refine WS.pure rfl rfl (fun _ => LV.mv rfl) ?_
      refine WS.pure rfl rfl (fun _ => LV.nilCheck rfl) ?_
      refine WS.pure rfl rfl (fun _ => LV.fieldA Tryz.underlying62 rfl ti60.sz rfl) ?_
      refine WS.fork (WSX.two 3 4 (by kernel_rfl) ?_ ?_)
      · refine WO.lvT rfl rfl (LV.load1 Tryz.underlying60 rfl rfl (Blk.cellN (SH.at hS22 (.tail _ (.head _))) 0 rfl _ (KB.refl No _))) ?_
        refine WSX.of [(.forced, 4), (.forced, 5)] (by kernel_rfl) rfl ?_
        refine WS.lvT rfl rfl (LV.load1 Tryz.underlying9 rfl rfl (Blk.cellN (SH.at hS22 (.head _)) 0 rfl _ (KB.refl No _))) ?_
        have hS23 : SH w S w2.drew [mapG kS kV X.m1 X.kv1, blkE b1 9 #[(.string fl)], blkE X.b 62 #[(.map (some X.m1)), (.map (some X.m2))], mapG kS kV X.m2 kv, insE idS eIt 68 X.P1, insE idS eSI 76 P] := (SH.front [_, _] hS22)
        refine WS.xe rfl rfl (XE.mapDelG (q := fl) (key_str Tryz.underlying9) hS23 Tryz.underlying60 rfl rfl) ?_
        rintro _ w11 ⟨rfl, hS24, hk6⟩
        refine ⟨fun h_ => trivial, ?_⟩
        refine WS.nil (?_)
        have hS25 : SH w S w11 [blkE X.b 62 #[(.map (some X.m1)), (.map (some X.m2))], mapG kS kV X.m1 (delL X.kv1 fl), mapG kS kV X.m2 kv, insE idS eIt 68 X.P1, insE idS eSI 76 P] := (SH.take 5 rfl (SH.front [_, _, _, _, _] (SH.front [_, _, _] (SH.front [_, _, _, _, _] (SH.front [_, _, _, _, _] (SH.front [_, _, _, _, _] hS24))))))
        exact ⟨_, fun a ha => res0 rfl, _, _, _, rfl, qs, ixw_drop hv (MapG.nodup (SH.at hS24 (.tail _ (.tail _ (.tail _ (.head _)))))) (by omega) q1, hS25⟩
      · refine WO.lvT rfl rfl (LV.load1 Tryz.underlying9 rfl rfl (Blk.cellN (SH.at hS22 (.head _)) 0 rfl _ (KB.refl No _))) ?_
        refine WSX.of [(.forced, 3), (.forced, 5)] (by kernel_rfl) rfl ?_
        refine WS.lvT rfl rfl (LV.load1 Tryz.underlying60 rfl rfl (Blk.cellN (SH.at hS22 (.tail _ (.head _))) 0 rfl _ (KB.refl No _))) ?_
        have hS26 : SH w S w2.drew [mapG kS kV X.m1 X.kv1, blkE b1 9 #[(.string fl)], blkE X.b 62 #[(.map (some X.m1)), (.map (some X.m2))], mapG kS kV X.m2 kv, insE idS eIt 68 X.P1, insE idS eSI 76 P] := (SH.front [_, _] hS22)
        refine WS.xe rfl rfl (XE.mapDelG (q := fl) (key_str Tryz.underlying9) hS26 Tryz.underlying60 rfl rfl) ?_
        rintro _ w12 ⟨rfl, hS27, hk7⟩
        refine ⟨fun h_ => trivial, ?_⟩
        refine WS.nil (?_)
        have hS28 : SH w S w12 [blkE X.b 62 #[(.map (some X.m1)), (.map (some X.m2))], mapG kS kV X.m1 (delL X.kv1 fl), mapG kS kV X.m2 kv, insE idS eIt 68 X.P1, insE idS eSI 76 P] := (SH.take 5 rfl (SH.front [_, _, _, _, _] (SH.front [_, _, _] (SH.front [_, _, _, _, _] (SH.front [_, _, _, _, _] (SH.front [_, _, _, _, _] hS27))))))
        exact ⟨_, fun a ha => res0 rfl, _, _, _, rfl, qs, ixw_drop hv (MapG.nodup (SH.at hS27 (.tail _ (.tail _ (.tail _ (.head _)))))) (by omega) q1, hS28⟩
  · refine WO.lvT rfl rfl (LV.load1 Tryz.underlying9 rfl rfl (Blk.cellN (SH.at hS2 (.head _)) 0 rfl _ (KB.refl No _))) ?_
    refine WSX.of [(.forced, 3), (.forced, 5), (.pure, 6)] (by kernel_rfl) rfl ?_
    refine WS.lvT rfl rfl (LV.load1 Tryz.underlying60 rfl rfl (Blk.cellN (SH.at hS2 (.tail _ (.head _))) 0 rfl _ (KB.refl No _))) ?_
    obtain ⟨A7, c7, hv3, hr3⟩ := look_at (FILES.atL hv.fs fl) (SH.rdIn hS2 (.tail _ (.tail _ (.tail _ (.tail _ (.head _))))))
    refine WS.lvT rfl rfl (LV.to hv3 (LV.lookG (q := fl) (V := kV) (z := svZ) (key_str Tryz.underlying9) Tryz.underlying60 ti45 (SH.at hS2 (.tail _ (.tail _ (.head _)))) rfl rfl)) ?_
    refine WS.pure rfl rfl (fun _ => LV.lenL Tryz.underlying45 rfl) ?_
    refine WS.nil (thenQ.n ?_)
    refine WC.block ?_
    refine WC.loop (fun m_ f_ w_ => ∃ (ix : Int) (kv : KVS) (P : PLE), (0 ≤ ix) ∧ (ix ≤ ((LKF X.F fl).length : Int)) ∧ (ROWS kv P (GD X.F fl (WLS ((LKF X.F fl).take ix.toNat)))) ∧ (∀ r ∈ X.P2, r ∈ P) ∧ SH w S w_ [blkE b1 9 #[(.string fl)], blkE X.b 62 #[(.map (some X.m1)), (.map (some X.m2))], mapG kS kV X.m1 X.kv1, mapG kS kV X.m2 kv, insE idS eIt 68 X.P1, insE idS eSI 76 P] ∧ m_ = ((((LKF X.F fl).length : Int) - ix).toNat) ∧ Weak (lit [(0, (.pointer (some ⟨X.b, 0, none⟩))), (3, (.pointer (some ⟨b1, 0, none⟩))), (14, (.slice A7 ((LKF X.F fl).length) c7)), (15, (.int .i64 ((LKF X.F fl).length : Int))), (16, (.int .i64 ix))]) f_) _ ⟨0, X.kv2, X.P2, by omega, by omega, (gd_0 hv.rs), (fun _ h_ => h_), hS2, rfl, Weak.cons rfl <| Weak.cons rfl <| Weak.cons rfl <| Weak.cons rfl <| Weak.cons rfl <| Weak.nil _⟩ ?_
    rintro m3 f3 w13 ⟨ix, kv, P, ixlo, ixhi, q1, qs, hL3, rfl, hw3⟩
    refine WC.weak hw3 ?_
    clear hw3
    refine WC.seq ?_
    refine WC.region ?_
    refine WL.lv rfl (LV.ltI rfl rfl) ?_
    refine WL.nil (thenQ.n ?_)
    refine WC.seq ?_
    refine WC.condP (p := ix < ((LKF X.F fl).length : Int)) rfl (fun hc3 => ?_) (fun hc3 => ?_)
    · skip
      refine WC.skip (thenQ.n ?_)
      refine WC.seq ?_
      refine WC.block ?_
      refine WC.seq ?_
      refine WC.region ?_
      obtain ⟨A8, c8, e3, g3⟩ := St.elt (look_st (FILES.atL hv.fs fl) hv3 (fun _ h_ => h_) (SH.rdIn hL3 (.tail _ (.tail _ (.tail _ (.tail _ (.head _))))))) dI ix (by omega) (by omega)
      refine WL.lv rfl (LV.idxA Tryz.underlying45 ti68.sz rfl e3 rfl (by omega) (by omega)) ?_
      refine WL.lv rfl (LV.loadAgg (cs := [(.int .i64 (((LKF X.F fl).getD (ix).toNat dI).1)), (.int .i64 (((LKF X.F fl).getD (ix).toNat dI).2.1.1)), (.int .u64 (((LKF X.F fl).getD (ix).toNat dI).2.1.2)), (.bool (((LKF X.F fl).getD (ix).toNat dI).2.2.1)), (.string (((LKF X.F fl).getD (ix).toNat dI).2.2.2.1)), (.bool (((LKF X.F fl).getD (ix).toNat dI).2.2.2.2))]) Tryz.underlying68 rfl ti68 rfl rfl (fun j u hu => g3 _ (KB.refl No _) j u hu)) ?_
      refine WL.xe rfl (XE.alloc #[(.int .i64 0), (.int .i64 0), (.int .u64 0), (.bool false), (.string ⟨#[]⟩), (.bool false)] hL3 ti68 rfl) ?_
      rintro _ w14 ⟨b3, rfl, hS29, hk8⟩
      refine WL.xse rfl (XSE.blkAgg #[(.int .i64 (((LKF X.F fl).getD (ix).toNat dI).1)), (.int .i64 (((LKF X.F fl).getD (ix).toNat dI).2.1.1)), (.int .u64 (((LKF X.F fl).getD (ix).toNat dI).2.1.2)), (.bool (((LKF X.F fl).getD (ix).toNat dI).2.2.1)), (.string (((LKF X.F fl).getD (ix).toNat dI).2.2.2.1)), (.bool (((LKF X.F fl).getD (ix).toNat dI).2.2.2.2))] hS29 (by kernel_rfl) rfl (by kernel_rfl) rfl rfl) ?_
      rintro w15 ⟨hS30, hk9⟩
      refine WL.nil (thenQ.n ?_)
      refine WC.seq ?_
      refine WC.region ?_
      refine WL.lv rfl (LV.fieldA Tryz.underlying68 rfl ti66.sz rfl) ?_
      refine WL.lv rfl (LV.fieldA Tryz.underlying66 rfl ti9.sz rfl) ?_
      refine WL.lv rfl (LV.load1 Tryz.underlying9 rfl rfl (Blk.cellN (SH.at hS30 (.head _)) 4 rfl _ (KB.refl No _))) ?_
      have hyy_ := hsm_.2 _ (getD_mem (l := (LKF X.F fl)) (d := dI) (i := ix.toNat) (by omega))
      have hol_ := OF_len ((LKF X.F fl).getD ix.toNat dI).2.2.2.1
      refine WL.call rfl (XC.fn Tryz.func15 (by kernel_rfl) rfl rfl rfl) (of_calls (s := (((LKF X.F fl).getD (ix).toNat dI).2.2.2.1)) (by omega)) ?_
      rintro v_ w16 ⟨A9, c9, rfl, hS31⟩
      have hS32 := SH.joinN hS30 hS31
      refine WL.lv rfl (LV.lenL Tryz.underlying23 rfl) ?_
      refine WL.lv rfl (LV.mv rfl) ?_
      refine WL.nil (thenQ.n ?_)
      refine WC.block ?_
      refine WC.loop (fun m_ f_ w_ => ∃ (ix2 : Int) (kw : KVS) (Q : PLE), (0 ≤ ix2) ∧ (ix2 ≤ ((OF (((LKF X.F fl).getD (ix).toNat dI).2.2.2.1)).length : Int)) ∧ (ROWS kw Q (GD X.F fl (WLS ((LKF X.F fl).take ix.toNat) ++ (OF ((LKF X.F fl).getD ix.toNat dI).2.2.2.1).take ix2.toNat))) ∧ (∀ r ∈ X.P2, r ∈ Q) ∧ SH w S w_ [rowE eS 9 (.slice A9 ((OF (((LKF X.F fl).getD (ix).toNat dI).2.2.2.1)).length) c9) (OF (((LKF X.F fl).getD (ix).toNat dI).2.2.2.1)), blkE b3 68 #[(.int .i64 (((LKF X.F fl).getD (ix).toNat dI).1)), (.int .i64 (((LKF X.F fl).getD (ix).toNat dI).2.1.1)), (.int .u64 (((LKF X.F fl).getD (ix).toNat dI).2.1.2)), (.bool (((LKF X.F fl).getD (ix).toNat dI).2.2.1)), (.string (((LKF X.F fl).getD (ix).toNat dI).2.2.2.1)), (.bool (((LKF X.F fl).getD (ix).toNat dI).2.2.2.2))], blkE b1 9 #[(.string fl)], blkE X.b 62 #[(.map (some X.m1)), (.map (some X.m2))], mapG kS kV X.m1 X.kv1, mapG kS kV X.m2 kw, insE idS eIt 68 X.P1, insE idS eSI 76 Q] ∧ m_ = ((((OF (((LKF X.F fl).getD (ix).toNat dI).2.2.2.1)).length : Int) - ix2).toNat) ∧ Weak (lit [(0, (.pointer (some ⟨X.b, 0, none⟩))), (3, (.pointer (some ⟨b1, 0, none⟩))), (14, (.slice A7 ((LKF X.F fl).length) c7)), (15, (.int .i64 ((LKF X.F fl).length : Int))), (16, (.int .i64 ix)), (23, (.slice A9 ((OF (((LKF X.F fl).getD (ix).toNat dI).2.2.2.1)).length) c9)), (24, (.int .i64 ((OF (((LKF X.F fl).getD (ix).toNat dI).2.2.2.1)).length : Int))), (25, (.int .i64 ix2))]) f_) _ ⟨0, kv, P, by omega, by omega, (by simpa using q1), qs, hS32, rfl, Weak.cons rfl <| Weak.cons rfl <| Weak.cons rfl <| Weak.cons rfl <| Weak.cons rfl <| Weak.cons rfl <| Weak.cons rfl <| Weak.cons rfl <| Weak.nil _⟩ ?_
      rintro m4 f4 w17 ⟨ix2, kw, Q, ix2lo, ix2hi, q2, qt, hL4, rfl, hw4⟩
      refine WC.weak hw4 ?_
      clear hw4
      have hnd_ := MapG.nodup (SH.at hL4 (show mapG kS kV X.m2 kw ∈ _ by simp))
      refine WC.seq ?_
      refine WC.region ?_
      refine WL.lv rfl (LV.ltI rfl rfl) ?_
      refine WL.nil (thenQ.n ?_)
      refine WC.seq ?_
      refine WC.condP (p := ix2 < ((OF (((LKF X.F fl).getD (ix).toNat dI).2.2.2.1)).length : Int)) rfl (fun hc4 => ?_) (fun hc4 => ?_)
      · skip
        refine WC.skip (thenQ.n ?_)
        refine WC.seq ?_
        refine WC.block ?_
        refine WC.seq ?_
        refine WC.region ?_
        obtain ⟨A10, c10, e4, g4⟩ := St.elt (SH.rd hL4 (.head _)) ByteArray.empty ix2 (by omega) (by omega)
        refine WL.lv rfl (LV.idxA Tryz.underlying23 ti9.sz rfl e4 rfl (by omega) (by omega)) ?_
        refine WL.lv rfl (LV.load1 (v := (.string ((OF (((LKF X.F fl).getD (ix).toNat dI).2.2.2.1)).getD (ix2).toNat ByteArray.empty))) Tryz.underlying9 rfl rfl (g4 _ (KB.refl No _) 0 _ rfl)) ?_
        refine WL.lv rfl (LV.asg rfl) ?_
        refine WL.nil (thenQ.n ?_)
        refine WC.seq ?_
        refine WC.region ?_
        refine WL.lv rfl (LV.mv rfl) ?_
        refine WL.lv rfl (LV.nilCheck rfl) ?_
        refine WL.lv rfl (LV.fieldA Tryz.underlying62 rfl ti58.sz rfl) ?_
        refine WL.lv rfl (LV.load1 Tryz.underlying58 rfl rfl (Blk.cellN (SH.at hL4 (.tail _ (.tail _ (.tail _ (.head _))))) 1 rfl _ (KB.refl No _))) ?_
        refine WL.lv rfl (LV.mv rfl) ?_
        obtain ⟨es2, hp2, ha2⟩ := ROWS.at q2 ((OF (((LKF X.F fl).getD (ix).toNat dI).2.2.2.1)).getD (ix2).toNat ByteArray.empty)
        obtain ⟨A11, c11, hv4, hr4⟩ := look_at ha2 (SH.rdIn hL4 (.tail _ (.tail _ (.tail _ (.tail _ (.tail _ (.tail _ (.tail _ (.head _)))))))))
        have heb_ := gd_bd hv.sm hv.ln hp2
        have hnf_ := nf_len fl es2
        refine WL.lv rfl (LV.to hv4 (LV.lookG (q := ((OF (((LKF X.F fl).getD (ix).toNat dI).2.2.2.1)).getD (ix2).toNat ByteArray.empty)) (V := kV) (z := svZ) (key_str Tryz.underlying9) Tryz.underlying58 ti59 (SH.at hL4 (.tail _ (.tail _ (.tail _ (.tail _ (.tail _ (.head _))))))) rfl rfl)) ?_
        refine WL.call rfl (XC.fn Tryz.func68 (by kernel_rfl) rfl rfl rfl) (eclone_calls  (look_st ha2 hv4 (fun _ h_ => h_) (SH.rdIn hL4 (.tail _ (.tail _ (.tail _ (.tail _ (.tail _ (.tail _ (.tail _ (.head _)))))))))) rfl (by omega)) ?_
        rintro v_ w18 ⟨A12, c12, rfl, hS33⟩
        have hS34 := SH.joinN hL4 hS33
        refine WL.lv rfl (LV.mkFunc rfl) ?_
        have hS35 : SH w S w18 [blkE b1 9 #[(.string fl)], rowE eSI 76 (.slice A12 es2.length c12) es2, rowE eS 9 (.slice A9 ((OF (((LKF X.F fl).getD (ix).toNat dI).2.2.2.1)).length) c9) (OF (((LKF X.F fl).getD (ix).toNat dI).2.2.2.1)), blkE b3 68 #[(.int .i64 (((LKF X.F fl).getD (ix).toNat dI).1)), (.int .i64 (((LKF X.F fl).getD (ix).toNat dI).2.1.1)), (.int .u64 (((LKF X.F fl).getD (ix).toNat dI).2.1.2)), (.bool (((LKF X.F fl).getD (ix).toNat dI).2.2.1)), (.string (((LKF X.F fl).getD (ix).toNat dI).2.2.2.1)), (.bool (((LKF X.F fl).getD (ix).toNat dI).2.2.2.2))], blkE X.b 62 #[(.map (some X.m1)), (.map (some X.m2))], mapG kS kV X.m1 X.kv1, mapG kS kV X.m2 kw, insE idS eIt 68 X.P1, insE idS eSI 76 Q] := (SH.front [_, _, _] hS34)
        have hS36 : SH w S w18 [rowE eSI 76 (.slice A12 es2.length c12) es2, blkE b1 9 #[(.string fl)], rowE eS 9 (.slice A9 ((OF (((LKF X.F fl).getD (ix).toNat dI).2.2.2.1)).length) c9) (OF (((LKF X.F fl).getD (ix).toNat dI).2.2.2.1)), blkE b3 68 #[(.int .i64 (((LKF X.F fl).getD (ix).toNat dI).1)), (.int .i64 (((LKF X.F fl).getD (ix).toNat dI).2.1.1)), (.int .u64 (((LKF X.F fl).getD (ix).toNat dI).2.1.2)), (.bool (((LKF X.F fl).getD (ix).toNat dI).2.2.1)), (.string (((LKF X.F fl).getD (ix).toNat dI).2.2.2.1)), (.bool (((LKF X.F fl).getD (ix).toNat dI).2.2.2.2))], blkE X.b 62 #[(.map (some X.m1)), (.map (some X.m2))], mapG kS kV X.m1 X.kv1, mapG kS kV X.m2 kw, insE idS eIt 68 X.P1, insE idS eSI 76 Q] := (SH.front [_] hS35)
        have hT2 := SH.sub (Es := [_, _]) hS36
        refine WL.call rfl (XC.fn Tryz.func92 (by kernel_rfl) rfl rfl rfl) (edel_calls hT2) ?_
        rintro v_ w19 ⟨rfl, hU2⟩
        have hS37 := SH.back (Es := [_, _]) hS36 hU2
        refine WL.lv rfl (LV.asg rfl) ?_
        refine WL.nil (thenQ.n ?_)
        refine WC.seq ?_
        refine WC.region ?_
        refine WL.lv rfl (LV.mv rfl) ?_
        refine WL.lv rfl (LV.nilCheck rfl) ?_
        refine WL.lv rfl (LV.fieldA Tryz.underlying62 rfl ti58.sz rfl) ?_
        refine WL.lv rfl (LV.load1 Tryz.underlying58 rfl rfl (Blk.cellN (SH.at hS37 (.tail _ (.tail _ (.tail _ (.tail _ (.head _)))))) 1 rfl _ (KB.refl No _))) ?_
        iterate 2 refine WL.lv rfl (LV.mv rfl) ?_
        have hS38 : SH w S w19 [mapG kS kV X.m2 kw, rowE eSI 76 (.slice A12 ((NF fl es2).length) c12) (NF fl es2), blkE b1 9 #[(.string fl)], rowE eS 9 (.slice A9 ((OF (((LKF X.F fl).getD (ix).toNat dI).2.2.2.1)).length) c9) (OF (((LKF X.F fl).getD (ix).toNat dI).2.2.2.1)), blkE b3 68 #[(.int .i64 (((LKF X.F fl).getD (ix).toNat dI).1)), (.int .i64 (((LKF X.F fl).getD (ix).toNat dI).2.1.1)), (.int .u64 (((LKF X.F fl).getD (ix).toNat dI).2.1.2)), (.bool (((LKF X.F fl).getD (ix).toNat dI).2.2.1)), (.string (((LKF X.F fl).getD (ix).toNat dI).2.2.2.1)), (.bool (((LKF X.F fl).getD (ix).toNat dI).2.2.2.2))], blkE X.b 62 #[(.map (some X.m1)), (.map (some X.m2))], mapG kS kV X.m1 X.kv1, insE idS eIt 68 X.P1, insE idS eSI 76 Q] := (SH.front [_, _, _, _, _, _] hS37)
        refine WL.xse rfl (XSE.mapUpdG (q := ((OF (((LKF X.F fl).getD (ix).toNat dI).2.2.2.1)).getD (ix2).toNat ByteArray.empty)) (v := (⟨A12, (NF fl es2).length, c12⟩ : SV)) (key_str Tryz.underlying9) hS38 Tryz.underlying58 rfl rfl rfl) ?_
        rintro w20 ⟨hS39, hk10⟩
        refine WL.nil (thenQ.n ?_)
        refine WC.seq ?_
        refine WC.region ?_
        refine WL.lv rfl (LV.mv rfl) ?_
        have hS40 : SH w S w20 [insE idS eSI 76 Q, mapG kS kV X.m2 (updL kw ((OF (((LKF X.F fl).getD (ix).toNat dI).2.2.2.1)).getD (ix2).toNat ByteArray.empty) (⟨A12, (NF fl es2).length, c12⟩ : SV)), rowE eSI 76 (.slice A12 ((NF fl es2).length) c12) (NF fl es2), blkE b1 9 #[(.string fl)], rowE eS 9 (.slice A9 ((OF (((LKF X.F fl).getD (ix).toNat dI).2.2.2.1)).length) c9) (OF (((LKF X.F fl).getD (ix).toNat dI).2.2.2.1)), blkE b3 68 #[(.int .i64 (((LKF X.F fl).getD (ix).toNat dI).1)), (.int .i64 (((LKF X.F fl).getD (ix).toNat dI).2.1.1)), (.int .u64 (((LKF X.F fl).getD (ix).toNat dI).2.1.2)), (.bool (((LKF X.F fl).getD (ix).toNat dI).2.2.1)), (.string (((LKF X.F fl).getD (ix).toNat dI).2.2.2.1)), (.bool (((LKF X.F fl).getD (ix).toNat dI).2.2.2.2))], blkE X.b 62 #[(.map (some X.m1)), (.map (some X.m2))], mapG kS kV X.m1 X.kv1, insE idS eIt 68 X.P1] := (SH.front [_, _, _, _, _, _, _, _] hS39)
        have hS41 : SH w S w20 [rowE eSI 76 (.slice A12 ((NF fl es2).length) c12) (NF fl es2), insE idS eSI 76 Q, mapG kS kV X.m2 (updL kw ((OF (((LKF X.F fl).getD (ix).toNat dI).2.2.2.1)).getD (ix2).toNat ByteArray.empty) (⟨A12, (NF fl es2).length, c12⟩ : SV)), blkE b1 9 #[(.string fl)], rowE eS 9 (.slice A9 ((OF (((LKF X.F fl).getD (ix).toNat dI).2.2.2.1)).length) c9) (OF (((LKF X.F fl).getD (ix).toNat dI).2.2.2.1)), blkE b3 68 #[(.int .i64 (((LKF X.F fl).getD (ix).toNat dI).1)), (.int .i64 (((LKF X.F fl).getD (ix).toNat dI).2.1.1)), (.int .u64 (((LKF X.F fl).getD (ix).toNat dI).2.1.2)), (.bool (((LKF X.F fl).getD (ix).toNat dI).2.2.1)), (.string (((LKF X.F fl).getD (ix).toNat dI).2.2.2.1)), (.bool (((LKF X.F fl).getD (ix).toNat dI).2.2.2.2))], blkE X.b 62 #[(.map (some X.m1)), (.map (some X.m2))], mapG kS kV X.m1 X.kv1, insE idS eIt 68 X.P1] := (SH.front [_, _] hS40)
        have hS42 : SH w S w20 [insE idS eSI 76 (Q ++ [((⟨A12, (NF fl es2).length, c12⟩ : SV), (NF fl es2))]), mapG kS kV X.m2 (updL kw ((OF (((LKF X.F fl).getD (ix).toNat dI).2.2.2.1)).getD (ix2).toNat ByteArray.empty) (⟨A12, (NF fl es2).length, c12⟩ : SV)), blkE b1 9 #[(.string fl)], rowE eS 9 (.slice A9 ((OF (((LKF X.F fl).getD (ix).toNat dI).2.2.2.1)).length) c9) (OF (((LKF X.F fl).getD (ix).toNat dI).2.2.2.1)), blkE b3 68 #[(.int .i64 (((LKF X.F fl).getD (ix).toNat dI).1)), (.int .i64 (((LKF X.F fl).getD (ix).toNat dI).2.1.1)), (.int .u64 (((LKF X.F fl).getD (ix).toNat dI).2.1.2)), (.bool (((LKF X.F fl).getD (ix).toNat dI).2.2.1)), (.string (((LKF X.F fl).getD (ix).toNat dI).2.2.2.1)), (.bool (((LKF X.F fl).getD (ix).toNat dI).2.2.2.2))], blkE X.b 62 #[(.map (some X.m1)), (.map (some X.m2))], mapG kS kV X.m1 X.kv1, insE idS eIt 68 X.P1] := SH.insMore (sv := idS) (r := (⟨A12, (NF fl es2).length, c12⟩ : SV)) rfl hS41
        refine WL.lv rfl (LV.lenL Tryz.underlying59 rfl) ?_
        refine WL.lv rfl (LV.eqI rfl rfl) ?_
        refine WL.nil (thenQ.n ?_)
        refine WC.condP (p := ((NF fl es2).length : Int) = 0) rfl (fun hz => ?_) (fun hz => ?_)
        · skip
          refine WC.region ?_
          refine WL.lv rfl (LV.mv rfl) ?_
          refine WL.lv rfl (LV.nilCheck rfl) ?_
          refine WL.lv rfl (LV.fieldA Tryz.underlying62 rfl ti58.sz rfl) ?_
          refine WL.lv rfl (LV.load1 Tryz.underlying58 rfl rfl (Blk.cellN (SH.at hS42 (.tail _ (.tail _ (.tail _ (.tail _ (.tail _ (.head _))))))) 1 rfl _ (KB.refl No _))) ?_
          refine WL.lv rfl (LV.mv rfl) ?_
          have hS43 : SH w S w20 [mapG kS kV X.m2 (updL kw ((OF (((LKF X.F fl).getD (ix).toNat dI).2.2.2.1)).getD (ix2).toNat ByteArray.empty) (⟨A12, (NF fl es2).length, c12⟩ : SV)), insE idS eSI 76 (Q ++ [((⟨A12, (NF fl es2).length, c12⟩ : SV), (NF fl es2))]), blkE b1 9 #[(.string fl)], rowE eS 9 (.slice A9 ((OF (((LKF X.F fl).getD (ix).toNat dI).2.2.2.1)).length) c9) (OF (((LKF X.F fl).getD (ix).toNat dI).2.2.2.1)), blkE b3 68 #[(.int .i64 (((LKF X.F fl).getD (ix).toNat dI).1)), (.int .i64 (((LKF X.F fl).getD (ix).toNat dI).2.1.1)), (.int .u64 (((LKF X.F fl).getD (ix).toNat dI).2.1.2)), (.bool (((LKF X.F fl).getD (ix).toNat dI).2.2.1)), (.string (((LKF X.F fl).getD (ix).toNat dI).2.2.2.1)), (.bool (((LKF X.F fl).getD (ix).toNat dI).2.2.2.2))], blkE X.b 62 #[(.map (some X.m1)), (.map (some X.m2))], mapG kS kV X.m1 X.kv1, insE idS eIt 68 X.P1] := (SH.front [_] hS42)
          refine WL.xe rfl (XE.mapDelG (q := ((OF (((LKF X.F fl).getD (ix).toNat dI).2.2.2.1)).getD (ix2).toNat ByteArray.empty)) (key_str Tryz.underlying9) hS43 Tryz.underlying58 rfl rfl) ?_
          rintro _ w21 ⟨rfl, hS44, hk11⟩
          refine WL.nil (blockQ.n <| thenQ.n ?_)
          refine WC.region ?_
          refine WL.lv rfl (LV.add rfl rfl (wr64 (by omega) (by omega))) ?_
          refine WL.lv rfl (LV.mv rfl) ?_
          refine WL.nil (thenQ.n ?_)
          have hS45 : SH w S w21 [rowE eS 9 (.slice A9 ((OF (((LKF X.F fl).getD (ix).toNat dI).2.2.2.1)).length) c9) (OF (((LKF X.F fl).getD (ix).toNat dI).2.2.2.1)), blkE b3 68 #[(.int .i64 (((LKF X.F fl).getD (ix).toNat dI).1)), (.int .i64 (((LKF X.F fl).getD (ix).toNat dI).2.1.1)), (.int .u64 (((LKF X.F fl).getD (ix).toNat dI).2.1.2)), (.bool (((LKF X.F fl).getD (ix).toNat dI).2.2.1)), (.string (((LKF X.F fl).getD (ix).toNat dI).2.2.2.1)), (.bool (((LKF X.F fl).getD (ix).toNat dI).2.2.2.2))], blkE b1 9 #[(.string fl)], blkE X.b 62 #[(.map (some X.m1)), (.map (some X.m2))], mapG kS kV X.m1 X.kv1, mapG kS kV X.m2 (delL (updL kw ((OF (((LKF X.F fl).getD (ix).toNat dI).2.2.2.1)).getD (ix2).toNat ByteArray.empty) (⟨A12, (NF fl es2).length, c12⟩ : SV)) ((OF (((LKF X.F fl).getD (ix).toNat dI).2.2.2.1)).getD (ix2).toNat ByteArray.empty)), insE idS eIt 68 X.P1, insE idS eSI 76 (Q ++ [((⟨A12, (NF fl es2).length, c12⟩ : SV), (NF fl es2))])] := (SH.front [_, _, _, _, _, _, _] (SH.front [_, _, _, _, _, _, _] (SH.front [_, _, _, _, _] (SH.front [_, _, _, _, _, _, _] (SH.front [_, _, _, _, _, _, _] (SH.front [_, _] (SH.front [_, _, _, _, _, _, _] (SH.front [_] hS44))))))))
          exact ⟨_, by omega, ix2 + 1, (delL (updL kw ((OF (((LKF X.F fl).getD (ix).toNat dI).2.2.2.1)).getD (ix2).toNat ByteArray.empty) (⟨A12, (NF fl es2).length, c12⟩ : SV)) ((OF (((LKF X.F fl).getD (ix).toNat dI).2.2.2.1)).getD (ix2).toNat ByteArray.empty)), (Q ++ [((⟨A12, (NF fl es2).length, c12⟩ : SV), (NF fl es2))]), by omega, by omega, (gd_nextD hnd_ ix2lo (by omega) q2 hp2 hz), (fun r_ h_ => List.mem_append_left _ (qt r_ h_)), hS45, rfl, Weak.cons rfl <| Weak.cons rfl <| Weak.cons rfl <| Weak.cons rfl <| Weak.cons rfl <| Weak.cons rfl <| Weak.cons rfl <| Weak.cons rfl <| Weak.nil _⟩
        · skip
          refine WC.skip (blockQ.n <| thenQ.n ?_)
          refine WC.region ?_
          refine WL.lv rfl (LV.add rfl rfl (wr64 (by omega) (by omega))) ?_
          refine WL.lv rfl (LV.mv rfl) ?_
          refine WL.nil (thenQ.n ?_)
          have hS46 : SH w S w20 [rowE eS 9 (.slice A9 ((OF (((LKF X.F fl).getD (ix).toNat dI).2.2.2.1)).length) c9) (OF (((LKF X.F fl).getD (ix).toNat dI).2.2.2.1)), blkE b3 68 #[(.int .i64 (((LKF X.F fl).getD (ix).toNat dI).1)), (.int .i64 (((LKF X.F fl).getD (ix).toNat dI).2.1.1)), (.int .u64 (((LKF X.F fl).getD (ix).toNat dI).2.1.2)), (.bool (((LKF X.F fl).getD (ix).toNat dI).2.2.1)), (.string (((LKF X.F fl).getD (ix).toNat dI).2.2.2.1)), (.bool (((LKF X.F fl).getD (ix).toNat dI).2.2.2.2))], blkE b1 9 #[(.string fl)], blkE X.b 62 #[(.map (some X.m1)), (.map (some X.m2))], mapG kS kV X.m1 X.kv1, mapG kS kV X.m2 (updL kw ((OF (((LKF X.F fl).getD (ix).toNat dI).2.2.2.1)).getD (ix2).toNat ByteArray.empty) (⟨A12, (NF fl es2).length, c12⟩ : SV)), insE idS eIt 68 X.P1, insE idS eSI 76 (Q ++ [((⟨A12, (NF fl es2).length, c12⟩ : SV), (NF fl es2))])] := (SH.front [_, _, _, _, _, _, _] (SH.front [_, _, _, _, _, _, _] (SH.front [_, _, _, _, _] (SH.front [_, _, _, _, _, _, _] (SH.front [_, _, _, _, _, _, _] (SH.front [_, _] (SH.front [_, _, _, _, _, _, _] hS42)))))))
          exact ⟨_, by omega, ix2 + 1, (updL kw ((OF (((LKF X.F fl).getD (ix).toNat dI).2.2.2.1)).getD (ix2).toNat ByteArray.empty) (⟨A12, (NF fl es2).length, c12⟩ : SV)), (Q ++ [((⟨A12, (NF fl es2).length, c12⟩ : SV), (NF fl es2))]), by omega, by omega, (gd_nextK ix2lo (by omega) q2 hp2 hz), (fun r_ h_ => List.mem_append_left _ (qt r_ h_)), hS46, rfl, Weak.cons rfl <| Weak.cons rfl <| Weak.cons rfl <| Weak.cons rfl <| Weak.cons rfl <| Weak.cons rfl <| Weak.cons rfl <| Weak.cons rfl <| Weak.nil _⟩
      · skip
        refine WC.exit (thenQ.x <| thenQ.x <| blockQ.hit <| blockQ.n <| thenQ.n ?_)
        refine WC.region ?_
        refine WL.lv rfl (LV.add rfl rfl (wr64 (by omega) (by omega))) ?_
        refine WL.lv rfl (LV.mv rfl) ?_
        refine WL.nil (thenQ.n ?_)
        have hS47 : SH w S w17 [blkE b1 9 #[(.string fl)], blkE X.b 62 #[(.map (some X.m1)), (.map (some X.m2))], mapG kS kV X.m1 X.kv1, mapG kS kV X.m2 kw, insE idS eIt 68 X.P1, insE idS eSI 76 Q] := (SH.take 6 rfl (SH.front [_, _, _, _, _, _, _] (SH.front [_, _, _, _, _, _, _] (SH.front [_, _, _, _, _, _, _] (SH.front [_, _, _, _, _, _, _] (SH.front [_, _, _, _, _, _, _] (SH.front [_, _, _, _, _, _, _] hL4)))))))
        exact ⟨_, by omega, ix + 1, kw, Q, by omega, by omega, (gd_line ixlo (by omega) rfl (by omega) q2), qt, hS47, rfl, Weak.cons rfl <| Weak.cons rfl <| Weak.cons rfl <| Weak.cons rfl <| Weak.cons rfl <| Weak.nil _⟩
    · skip
      refine WC.exit (thenQ.x <| thenQ.x <| blockQ.hit <| thenQ.n ?_)
      have hS48 := SH.drew hL3
      refine WC.regionD [] (fun _ => True) [(.pure, 0), (.pure, 1), (.pure, 2), (.fork, 0), (.fork, 0), (.fork, 0)] (by kernel_rfl) (by kernel_rfl) trivial ?_
      refine WS.pure rfl rfl (fun _ => LV.mv rfl) ?_
      refine WS.pure rfl rfl (fun _ => LV.nilCheck rfl) ?_
      refine WS.pure rfl rfl (fun _ => LV.fieldA Tryz.underlying62 rfl ti60.sz rfl) ?_
      refine WS.fork (WSX.two 3 4 (by kernel_rfl) ?_ ?_)
      · refine WO.lvT rfl rfl (LV.load1 Tryz.underlying60 rfl rfl (Blk.cellN (SH.at hS48 (.tail _ (.head _))) 0 rfl _ (KB.refl No _))) ?_
        refine WSX.of [(.forced, 4), (.forced, 5)] (by kernel_rfl) rfl ?_
        refine WS.lvT rfl rfl (LV.load1 Tryz.underlying9 rfl rfl (Blk.cellN (SH.at hS48 (.head _)) 0 rfl _ (KB.refl No _))) ?_
        have hS49 : SH w S w13.drew [mapG kS kV X.m1 X.kv1, blkE b1 9 #[(.string fl)], blkE X.b 62 #[(.map (some X.m1)), (.map (some X.m2))], mapG kS kV X.m2 kv, insE idS eIt 68 X.P1, insE idS eSI 76 P] := (SH.front [_, _] hS48)
        refine WS.xe rfl rfl (XE.mapDelG (q := fl) (key_str Tryz.underlying9) hS49 Tryz.underlying60 rfl rfl) ?_
        rintro _ w22 ⟨rfl, hS50, hk12⟩
        refine ⟨fun h_ => trivial, ?_⟩
        refine WS.nil (?_)
        have hS51 : SH w S w22 [blkE X.b 62 #[(.map (some X.m1)), (.map (some X.m2))], mapG kS kV X.m1 (delL X.kv1 fl), mapG kS kV X.m2 kv, insE idS eIt 68 X.P1, insE idS eSI 76 P] := (SH.take 5 rfl (SH.front [_, _, _, _, _] (SH.front [_, _, _] (SH.front [_, _, _, _, _] (SH.front [_, _, _, _, _] (SH.front [_, _, _, _, _] hS50))))))
        exact ⟨_, fun a ha => res0 rfl, _, _, _, rfl, qs, ixw_drop hv (MapG.nodup (SH.at hS50 (.tail _ (.tail _ (.tail _ (.head _)))))) (by omega) q1, hS51⟩
      · refine WO.lvT rfl rfl (LV.load1 Tryz.underlying9 rfl rfl (Blk.cellN (SH.at hS48 (.head _)) 0 rfl _ (KB.refl No _))) ?_
        refine WSX.of [(.forced, 3), (.forced, 5)] (by kernel_rfl) rfl ?_
        refine WS.lvT rfl rfl (LV.load1 Tryz.underlying60 rfl rfl (Blk.cellN (SH.at hS48 (.tail _ (.head _))) 0 rfl _ (KB.refl No _))) ?_
        have hS52 : SH w S w13.drew [mapG kS kV X.m1 X.kv1, blkE b1 9 #[(.string fl)], blkE X.b 62 #[(.map (some X.m1)), (.map (some X.m2))], mapG kS kV X.m2 kv, insE idS eIt 68 X.P1, insE idS eSI 76 P] := (SH.front [_, _] hS48)
        refine WS.xe rfl rfl (XE.mapDelG (q := fl) (key_str Tryz.underlying9) hS52 Tryz.underlying60 rfl rfl) ?_
        rintro _ w23 ⟨rfl, hS53, hk13⟩
        refine ⟨fun h_ => trivial, ?_⟩
        refine WS.nil (?_)
        have hS54 : SH w S w23 [blkE X.b 62 #[(.map (some X.m1)), (.map (some X.m2))], mapG kS kV X.m1 (delL X.kv1 fl), mapG kS kV X.m2 kv, insE idS eIt 68 X.P1, insE idS eSI 76 P] := (SH.take 5 rfl (SH.front [_, _, _, _, _] (SH.front [_, _, _] (SH.front [_, _, _, _, _] (SH.front [_, _, _, _, _] (SH.front [_, _, _, _, _] hS53))))))
        exact ⟨_, fun a ha => res0 rfl, _, _, _, rfl, qs, ixw_drop hv (MapG.nodup (SH.at hS53 (.tail _ (.tail _ (.tail _ (.head _)))))) (by omega) q1, hS54⟩

end Go.Proofs.YtigbphaimbhgjaaGreat

