/- Words, files. -/
import Derived.Test.YtigbphaimbhgjaaGreatMg21
import Derived.Test.YtigbphaimbhgjaaGreatMg20
namespace Go.Proofs.YtigbphaimbhgjaaGreat
open Go Go.Gv Go.RowKit Go.Tly Go.Wds Go.Idx
set_option linter.unusedVariables false
set_option linter.unusedSimpArgs false

theorem words_calls {w : World} {X : IXS} {n_X : Nat} {o : Lb} (h_X : St No w (IXR 62 X)) (hv_X : IXW n_X X) (hm_X : n_X ≤ 30) (wo : 0 ≤ o.2 ∧ o.2 < 18446744073709551616) :
    Calls Tryz.prog 9 #[(.pointer (some ⟨X.b, 0, none⟩)), (.agg #[(.int .i64 ((o).1)), (.int .u64 ((o).2))])] w fun e w' => ∃ v, e = .returned v ∧ (fun v w' => ∃ (A0' : Option Addr) (c0' : Nat), v = .slice A0' (WRDS X.F o).length c0' ∧ SH w No w' [rowE eS 9 (.slice A0' (WRDS X.F o).length c0') (WRDS X.F o)]) v w' := by
  have hS : SH w No w [] := SH.nil _ _
  refine calls (l := litOf [(.pointer (some ⟨X.b, 0, none⟩)), (.agg #[(.int .i64 ((o).1)), (.int .u64 ((o).2))])] 0) Tryz.func9 rfl (n := 33) rfl (Nat.le_of_ble_eq_true rfl) (lit_args _) ?_
  refine WC.seq ?_
  refine WC.region ?_
  refine WL.xe rfl (XE.box #[(.int .i64 ((o).1)), (.int .u64 ((o).2))] hS rfl rfl) ?_
  rintro _ w1 ⟨b1, rfl, hS1, hk1⟩
  refine WL.lv rfl (LV.asg rfl) ?_
  refine WL.nil (thenQ.n ?_)
  refine WC.seq ?_
  refine WC.region ?_
  have hS2 := SH.nilRow (E := eS) (T := 9) hS1
  refine WL.lv rfl (LV.asg rfl) ?_
  refine WL.nil (thenQ.n ?_)
  iterate 2 refine WC.seq ?_
  refine WC.region ?_
  refine WL.lv rfl (LV.mv rfl) ?_
  refine WL.lv rfl (LV.eqPS Tryz.underlying27 rfl rfl) ?_
  refine WL.nil (thenQ.n ?_)
  refine WC.condF rfl ?_
  refine WC.skip (thenQ.n ?_)
  iterate 2 refine WC.seq ?_
  refine WC.region ?_
  refine WL.lv rfl (LV.mv rfl) ?_
  refine WL.lv rfl (LV.nilCheck rfl) ?_
  refine WL.lv rfl (LV.fieldA Tryz.underlying62 rfl ti58.sz rfl) ?_
  refine WL.lv rfl (LV.load1 Tryz.underlying58 rfl rfl (Blk.cellN (SH.arg hS2 (h_X.imp fun _ h_ => h_.1)) 1 rfl _ (KB.refl No _))) ?_
  refine WL.call rfl (XC.fn Tryz.func26 (by kernel_rfl) rfl rfl rfl) (keysB_calls keysKR (some X.m2) _) ?_
  rintro v_ w2 ⟨B1, rfl, hS3⟩
  have hS4 := SH.joinN hS2 hS3
  refine WL.call rfl (XC.fn Tryz.func25 (by kernel_rfl) rfl rfl rfl) (sortedK_calls sortedR Tryz.underlying9 (SH.arg hS4 (h_X.imp fun _ h_ => h_.2.2.1)) (SH.at hS4 (.head _)) (hv_X.k2 (by omega)).1 (hv_X.k2 (by omega)).2) ?_
  rintro v_ w3 ⟨A1, c1, ys1, rfl, hss1, hS5⟩
  have hS6 := SH.joinN hS4 hS5
  have hyl_ := nodup_len (ss_nodup hss1.1) (fun a ha => (hss1.2 a).1 ha)
  rw [List.length_map] at hyl_
  have hkl_ := (hv_X.k2 (by omega)).2
  refine WL.lv rfl (LV.lenL Tryz.underlying23 rfl) ?_
  refine WL.lv rfl (LV.mv rfl) ?_
  refine WL.nil (thenQ.n ?_)
  refine WC.block ?_
  refine WC.loop (fun m_ f_ w_ => ∃ (A_out : Option Addr) (c_out : Nat) (out : List ByteArray) (ix : Int), (0 ≤ ix) ∧ (ix ≤ (ys1.length : Int)) ∧ (out = (ys1.take ix.toNat).filter (fun w_ => decide (FIND X.F (LOW w_) o ≠ []))) ∧ ((out.length : Int) ≤ ix) ∧ SH w No w_ [rowE eS 9 (.slice A1 ys1.length c1) ys1, blkE B1 58 #[(.map (some X.m2))], rowE eS 9 (.slice A_out out.length c_out) out, blkE b1 26 #[(.int .i64 ((o).1)), (.int .u64 ((o).2))]] ∧ m_ = (((ys1.length : Int) - ix).toNat) ∧ Weak (lit [(0, (.pointer (some ⟨X.b, 0, none⟩))), (3, (.pointer (some ⟨b1, 0, none⟩))), (5, (.slice A_out out.length c_out)), (15, (.slice A1 ys1.length c1)), (16, (.int .i64 (ys1.length : Int))), (17, (.int .i64 ix))]) f_) _ ⟨none, 0, [], 0, by omega, by omega, rfl, (by simp), hS6, rfl, Weak.cons rfl <| Weak.cons rfl <| Weak.cons rfl <| Weak.cons rfl <| Weak.cons rfl <| Weak.cons rfl <| Weak.nil _⟩ ?_
  rintro m1 f1 w4 ⟨A_out, c_out, out, ix, ixlo, ixhi, q1, q2, hL1, rfl, hw1⟩
  refine WC.weak hw1 ?_
  clear hw1
  refine WC.seq ?_
  refine WC.region ?_
  refine WL.lv rfl (LV.ltI rfl rfl) ?_
  refine WL.nil (thenQ.n ?_)
  refine WC.seq ?_
  refine WC.condP (p := ix < (ys1.length : Int)) rfl (fun hc1 => ?_) (fun hc1 => ?_)
  · skip
    refine WC.skip (thenQ.n ?_)
    refine WC.seq ?_
    refine WC.block ?_
    refine WC.seq ?_
    refine WC.region ?_
    obtain ⟨A2, c2, e1, g1⟩ := St.elt (SH.rd hL1 (.head _)) ByteArray.empty ix (by omega) (by omega)
    refine WL.lv rfl (LV.idxA Tryz.underlying23 ti9.sz rfl e1 rfl (by omega) (by omega)) ?_
    refine WL.lv rfl (LV.load1 (v := (.string (ys1.getD (ix).toNat ByteArray.empty))) Tryz.underlying9 rfl rfl (g1 _ (KB.refl No _) 0 _ rfl)) ?_
    refine WL.lv rfl (LV.asg rfl) ?_
    refine WL.nil (thenQ.n ?_)
    refine WC.seq ?_
    refine WC.region ?_
    iterate 2 refine WL.lv rfl (LV.mv rfl) ?_
    have hwz_ := (hv_X.k2 (by omega)).1 _ ((hss1.2 _).1 (getD_mem (l := ys1) (d := ByteArray.empty) (i := ix.toNat) (by omega)))
    refine WL.lv rfl (LV.loadAgg (cs := [(.int .i64 ((o).1)), (.int .u64 ((o).2))]) Tryz.underlying26 rfl ti26 rfl rfl (Blk.agg (SH.at hL1 (.tail _ (.tail _ (.tail _ (.head _))))) _ (KB.refl No _))) ?_
    refine WL.call rfl (XC.fn Tryz.func13 (by kernel_rfl) rfl rfl rfl) (find_calls (word := (ys1.getD (ix).toNat ByteArray.empty)) (o := o) (SH.stN hL1 h_X) hv_X (by omega) (Nat.le_trans hwz_ (by omega)) (wo)) ?_
    rintro v_ w5 ⟨A3, c3, rfl, hS7⟩
    have hS8 := SH.joinN hL1 hS7
    refine WL.lv rfl (LV.lenL Tryz.underlying32 rfl) ?_
    refine WL.lv rfl (LV.gtI rfl rfl) ?_
    refine WL.nil (thenQ.n ?_)
    refine WC.condP (p := ((FIND X.F (LOW (ys1.getD (ix).toNat ByteArray.empty)) o).length : Int) > 0) rfl (fun hb => ?_) (fun hb => ?_)
    · skip
      refine WC.region ?_
      iterate 2 refine WL.lv rfl (LV.mv rfl) ?_
      refine WL.xe rfl (XE.buildSlice (E := eS) [(0, (.string (ys1.getD (ix).toNat ByteArray.empty)))] #[(.string (ys1.getD (ix).toNat ByteArray.empty))] [ys1.getD (ix).toNat ByteArray.empty] hS8 Tryz.underlying23 ti9 rfl (by decide) (by kernel_rfl) (.inr rfl) rfl rfl (by decide)) ?_
      rintro _ w6 ⟨b2, rfl, hS9, hk2⟩
      have hS10 : SH w No w6 [rowE eS 9 (.slice A_out out.length c_out) out, rowE eS 9 (.slice (some ⟨b2, 0, none⟩) 1 1) [ys1.getD (ix).toNat ByteArray.empty], rowE eSI 49 (.slice A3 ((FIND X.F (LOW (ys1.getD (ix).toNat ByteArray.empty)) o).length) c3) (FIND X.F (LOW (ys1.getD (ix).toNat ByteArray.empty)) o), rowE eS 9 (.slice A1 ys1.length c1) ys1, blkE B1 58 #[(.map (some X.m2))], blkE b1 26 #[(.int .i64 ((o).1)), (.int .u64 ((o).2))]] := (SH.front [_, _, _, _] hS9)
      refine WL.xe rfl (XE.append hS10 Tryz.underlying23 ti9 rfl (St.now (SH.rd hS10 (.tail _ (.head _)))) rfl rfl (by first | omega | simp only [List.length_append, List.length_cons, List.length_nil, List.length_take, List.length_reverse, List.length_drop] at *; omega) (by first | omega | simp only [List.length_append, List.length_cons, List.length_nil, List.length_take, List.length_reverse, List.length_drop] at *; omega)) ?_
      rintro _ w7 ⟨A4, c4, rfl, hS11, hk3⟩
      refine WL.lv rfl (LV.asg rfl) ?_
      refine WL.nil (blockQ.n <| thenQ.n ?_)
      refine WC.region ?_
      refine WL.lv rfl (LV.add rfl rfl (wr64 (by omega) (by omega))) ?_
      refine WL.lv rfl (LV.mv rfl) ?_
      refine WL.nil (thenQ.n ?_)
      have hS12 : SH w No w7 [rowE eS 9 (.slice A1 ys1.length c1) ys1, blkE B1 58 #[(.map (some X.m2))], rowE eS 9 (.slice A4 ((out ++ [ys1.getD (ix).toNat ByteArray.empty]).length) c4) (out ++ [ys1.getD (ix).toNat ByteArray.empty]), blkE b1 26 #[(.int .i64 ((o).1)), (.int .u64 ((o).2))]] := (SH.take 4 rfl (SH.front [_, _, _, _, _] (SH.front [_, _, _, _, _] (SH.front [_] (SH.front [_, _, _, _, _] hS11)))))
      exact ⟨_, by omega, A4, c4, (out ++ [ys1.getD (ix).toNat ByteArray.empty]), ix + 1, by omega, by omega, ((by rw [flt_at ixlo (by omega), if_pos (decide_eq_true (by intro h_; rw [h_] at hb; simp at hb)), ← q1])), (by first | omega | (simp; omega)), hS12, rfl, Weak.cons rfl <| Weak.cons rfl <| Weak.cons rfl <| Weak.cons rfl <| Weak.cons rfl <| Weak.cons rfl <| Weak.nil _⟩
    · skip
      refine WC.skip (blockQ.n <| thenQ.n ?_)
      refine WC.region ?_
      refine WL.lv rfl (LV.add rfl rfl (wr64 (by omega) (by omega))) ?_
      refine WL.lv rfl (LV.mv rfl) ?_
      refine WL.nil (thenQ.n ?_)
      have hS13 : SH w No w5 [rowE eS 9 (.slice A1 ys1.length c1) ys1, blkE B1 58 #[(.map (some X.m2))], rowE eS 9 (.slice A_out out.length c_out) out, blkE b1 26 #[(.int .i64 ((o).1)), (.int .u64 ((o).2))]] := (SH.take 4 rfl (SH.front [_, _, _, _] (SH.front [_, _, _, _] (SH.front [_, _, _, _] (SH.front [_, _, _, _] hS8)))))
      exact ⟨_, by omega, A_out, c_out, out, ix + 1, by omega, by omega, ((by rw [flt_at ixlo (by omega), if_neg (by rw [decide_eq_true_iff]; exact (fun h_ => hb (by have := List.length_pos_iff.2 h_; omega))), ← q1, List.append_nil])), (by first | omega | (simp; omega)), hS13, rfl, Weak.cons rfl <| Weak.cons rfl <| Weak.cons rfl <| Weak.cons rfl <| Weak.cons rfl <| Weak.cons rfl <| Weak.nil _⟩
  · skip
    refine WC.exit (thenQ.x <| thenQ.x <| blockQ.hit <| thenQ.n ?_)
    refine WC.seq ?_
    refine WC.region ?_
    refine WL.lv rfl (LV.mv rfl) ?_
    refine WL.lv rfl (LV.asg rfl) ?_
    refine WL.nil (thenQ.n ?_)
    refine WC.ret (?_)
    have hS14 : SH w No w4 [rowE eS 9 (.slice A_out out.length c_out) out] := (SH.take 1 rfl (SH.front [_, _] hL1))
    have hres1 : (out : List ByteArray) = WRDS X.F o := words_of hv_X hss1.1 hss1.2 (by rw [q1, List.take_of_length_le (by omega)])
    exact ⟨_, fun a ha => res1 rfl ha rfl, (by rw [← hres1]; exact ⟨_, _, rfl, hS14⟩)⟩

theorem files_calls {w : World} {X : IXS} {n_X : Nat} {o : Lb} (h_X : St No w (IXR 62 X)) (hv_X : IXW n_X X) (hm_X : n_X ≤ 30) (wo : 0 ≤ o.2 ∧ o.2 < 18446744073709551616) :
    Calls Tryz.prog 11 #[(.pointer (some ⟨X.b, 0, none⟩)), (.agg #[(.int .i64 ((o).1)), (.int .u64 ((o).2))])] w fun e w' => ∃ v, e = .returned v ∧ (fun v w' => ∃ (A0' : Option Addr) (c0' : Nat), v = .slice A0' (FLS X.F o).length c0' ∧ SH w No w' [rowE eS 9 (.slice A0' (FLS X.F o).length c0') (FLS X.F o)]) v w' := by
  have hS : SH w No w [] := SH.nil _ _
  refine calls (l := litOf [(.pointer (some ⟨X.b, 0, none⟩)), (.agg #[(.int .i64 ((o).1)), (.int .u64 ((o).2))])] 0) Tryz.func11 rfl (n := 35) rfl (Nat.le_of_ble_eq_true rfl) (lit_args _) ?_
  refine WC.seq ?_
  refine WC.region ?_
  refine WL.xe rfl (XE.box #[(.int .i64 ((o).1)), (.int .u64 ((o).2))] hS rfl rfl) ?_
  rintro _ w1 ⟨b1, rfl, hS1, hk1⟩
  refine WL.lv rfl (LV.asg rfl) ?_
  refine WL.nil (thenQ.n ?_)
  refine WC.seq ?_
  refine WC.region ?_
  have hS2 := SH.nilRow (E := eS) (T := 9) hS1
  refine WL.lv rfl (LV.asg rfl) ?_
  refine WL.nil (thenQ.n ?_)
  iterate 2 refine WC.seq ?_
  refine WC.region ?_
  refine WL.lv rfl (LV.mv rfl) ?_
  refine WL.lv rfl (LV.eqPS Tryz.underlying27 rfl rfl) ?_
  refine WL.nil (thenQ.n ?_)
  refine WC.condF rfl ?_
  refine WC.skip (thenQ.n ?_)
  iterate 2 refine WC.seq ?_
  refine WC.region ?_
  refine WL.lv rfl (LV.mv rfl) ?_
  refine WL.lv rfl (LV.nilCheck rfl) ?_
  refine WL.lv rfl (LV.fieldA Tryz.underlying62 rfl ti60.sz rfl) ?_
  refine WL.lv rfl (LV.load1 Tryz.underlying60 rfl rfl (Blk.cellN (SH.arg hS2 (h_X.imp fun _ h_ => h_.1)) 0 rfl _ (KB.refl No _))) ?_
  refine WL.call rfl (XC.fn Tryz.func29 (by kernel_rfl) rfl rfl rfl) (keysB_calls keysKF (some X.m1) _) ?_
  rintro v_ w2 ⟨B1, rfl, hS3⟩
  have hS4 := SH.joinN hS2 hS3
  refine WL.call rfl (XC.fn Tryz.func25 (by kernel_rfl) rfl rfl rfl) (sortedK_calls sortedF Tryz.underlying9 (SH.arg hS4 (h_X.imp fun _ h_ => h_.2.1)) (SH.at hS4 (.head _)) (hv_X.k1 (by omega)).1 (hv_X.k1 (by omega)).2) ?_
  rintro v_ w3 ⟨A1, c1, ys1, rfl, hss1, hS5⟩
  have hS6 := SH.joinN hS4 hS5
  have hyl_ := nodup_len (ss_nodup hss1.1) (fun a ha => (hss1.2 a).1 ha)
  rw [List.length_map] at hyl_
  have hkl_ := (hv_X.k1 (by omega)).2
  refine WL.lv rfl (LV.lenL Tryz.underlying23 rfl) ?_
  refine WL.lv rfl (LV.mv rfl) ?_
  refine WL.nil (thenQ.n ?_)
  refine WC.block ?_
  refine WC.loop (fun m_ f_ w_ => ∃ (A_out : Option Addr) (c_out : Nat) (out : List ByteArray) (ix : Int), (0 ≤ ix) ∧ (ix ≤ (ys1.length : Int)) ∧ (out = (ys1.take ix.toNat).filter (fun q_ => decide (∃ y ∈ LKF X.F q_, BEL y.2.1 o))) ∧ ((out.length : Int) ≤ ix) ∧ SH w No w_ [rowE eS 9 (.slice A1 ys1.length c1) ys1, blkE B1 60 #[(.map (some X.m1))], rowE eS 9 (.slice A_out out.length c_out) out, blkE b1 26 #[(.int .i64 ((o).1)), (.int .u64 ((o).2))]] ∧ m_ = (((ys1.length : Int) - ix).toNat) ∧ Weak (lit [(0, (.pointer (some ⟨X.b, 0, none⟩))), (3, (.pointer (some ⟨b1, 0, none⟩))), (5, (.slice A_out out.length c_out)), (15, (.slice A1 ys1.length c1)), (16, (.int .i64 (ys1.length : Int))), (17, (.int .i64 ix))]) f_) _ ⟨none, 0, [], 0, by omega, by omega, rfl, (by simp), hS6, rfl, Weak.cons rfl <| Weak.cons rfl <| Weak.cons rfl <| Weak.cons rfl <| Weak.cons rfl <| Weak.cons rfl <| Weak.nil _⟩ ?_
  rintro m1 f1 w4 ⟨A_out, c_out, out, ix, ixlo, ixhi, q1, q2, hL1, rfl, hw1⟩
  refine WC.weak hw1 ?_
  clear hw1
  refine WC.seq ?_
  refine WC.region ?_
  refine WL.lv rfl (LV.ltI rfl rfl) ?_
  refine WL.nil (thenQ.n ?_)
  refine WC.seq ?_
  refine WC.condP (p := ix < (ys1.length : Int)) rfl (fun hc1 => ?_) (fun hc1 => ?_)
  · skip
    refine WC.skip (thenQ.n ?_)
    refine WC.seq ?_
    refine WC.block ?_
    refine WC.seq ?_
    refine WC.region ?_
    obtain ⟨A2, c2, e1, g1⟩ := St.elt (SH.rd hL1 (.head _)) ByteArray.empty ix (by omega) (by omega)
    refine WL.lv rfl (LV.idxA Tryz.underlying23 ti9.sz rfl e1 rfl (by omega) (by omega)) ?_
    refine WL.lv rfl (LV.load1 (v := (.string (ys1.getD (ix).toNat ByteArray.empty))) Tryz.underlying9 rfl rfl (g1 _ (KB.refl No _) 0 _ rfl)) ?_
    refine WL.lv rfl (LV.asg rfl) ?_
    refine WL.nil (thenQ.n ?_)
    refine WC.seq ?_
    refine WC.region ?_
    refine WL.lv rfl (LV.mv rfl) ?_
    refine WL.lv rfl (LV.nilCheck rfl) ?_
    refine WL.lv rfl (LV.fieldA Tryz.underlying62 rfl ti60.sz rfl) ?_
    refine WL.lv rfl (LV.load1 Tryz.underlying60 rfl rfl (Blk.cellN (SH.arg hL1 (h_X.imp fun _ h_ => h_.1)) 0 rfl _ (KB.refl No _))) ?_
    refine WL.lv rfl (LV.mv rfl) ?_
    obtain ⟨A3, c3, hv1, hr1⟩ := look_at (FILES.atL hv_X.fs (ys1.getD (ix).toNat ByteArray.empty)) (h_X.imp fun _ h_ => h_.2.2.2.1)
    refine WL.lv rfl (LV.to hv1 (LV.lookG (q := (ys1.getD (ix).toNat ByteArray.empty)) (V := kV) (z := svZ) (key_str Tryz.underlying9) Tryz.underlying60 ti45 (SH.arg hL1 (h_X.imp fun _ h_ => h_.2.1)) rfl rfl)) ?_
    refine WL.lv rfl (LV.mkFunc rfl) ?_
    refine WL.call rfl (XC.fn Tryz.func30 (by kernel_rfl) rfl rfl rfl) (icont_calls (o := o) (SH.stN hL1 hr1) rfl (SH.steN hL1 (.tail _ (.tail _ (.tail _ (.head _))))) (fun x hx => ((lkf_small hv_X.sm _).2 x hx).2) (wo)) ?_
    rintro v_ w5 ⟨rfl, hk2⟩
    have hS7 := SH.same hL1 hk2
    refine WL.nil (thenQ.n ?_)
    refine WC.condP (p := ∃ y ∈ (LKF X.F (ys1.getD (ix).toNat ByteArray.empty)), BEL y.2.1 o) rfl (fun hb => ?_) (fun hb => ?_)
    · skip
      refine WC.region ?_
      iterate 2 refine WL.lv rfl (LV.mv rfl) ?_
      refine WL.xe rfl (XE.buildSlice (E := eS) [(0, (.string (ys1.getD (ix).toNat ByteArray.empty)))] #[(.string (ys1.getD (ix).toNat ByteArray.empty))] [ys1.getD (ix).toNat ByteArray.empty] hS7 Tryz.underlying23 ti9 rfl (by decide) (by kernel_rfl) (.inr rfl) rfl rfl (by decide)) ?_
      rintro _ w6 ⟨b2, rfl, hS8, hk3⟩
      have hS9 : SH w No w6 [rowE eS 9 (.slice A_out out.length c_out) out, rowE eS 9 (.slice (some ⟨b2, 0, none⟩) 1 1) [ys1.getD (ix).toNat ByteArray.empty], rowE eS 9 (.slice A1 ys1.length c1) ys1, blkE B1 60 #[(.map (some X.m1))], blkE b1 26 #[(.int .i64 ((o).1)), (.int .u64 ((o).2))]] := (SH.front [_, _, _] hS8)
      refine WL.xe rfl (XE.append hS9 Tryz.underlying23 ti9 rfl (St.now (SH.rd hS9 (.tail _ (.head _)))) rfl rfl (by first | omega | simp only [List.length_append, List.length_cons, List.length_nil, List.length_take, List.length_reverse, List.length_drop] at *; omega) (by first | omega | simp only [List.length_append, List.length_cons, List.length_nil, List.length_take, List.length_reverse, List.length_drop] at *; omega)) ?_
      rintro _ w7 ⟨A4, c4, rfl, hS10, hk4⟩
      refine WL.lv rfl (LV.asg rfl) ?_
      refine WL.nil (blockQ.n <| thenQ.n ?_)
      refine WC.region ?_
      refine WL.lv rfl (LV.add rfl rfl (wr64 (by omega) (by omega))) ?_
      refine WL.lv rfl (LV.mv rfl) ?_
      refine WL.nil (thenQ.n ?_)
      have hS11 : SH w No w7 [rowE eS 9 (.slice A1 ys1.length c1) ys1, blkE B1 60 #[(.map (some X.m1))], rowE eS 9 (.slice A4 ((out ++ [ys1.getD (ix).toNat ByteArray.empty]).length) c4) (out ++ [ys1.getD (ix).toNat ByteArray.empty]), blkE b1 26 #[(.int .i64 ((o).1)), (.int .u64 ((o).2))]] := (SH.take 4 rfl (SH.front [_, _, _, _] (SH.front [_, _, _, _] (SH.front [_] (SH.front [_, _, _, _] hS10)))))
      exact ⟨_, by omega, A4, c4, (out ++ [ys1.getD (ix).toNat ByteArray.empty]), ix + 1, by omega, by omega, ((by rw [flt_at ixlo (by omega), if_pos (decide_eq_true hb), ← q1])), (by first | omega | (simp; omega)), hS11, rfl, Weak.cons rfl <| Weak.cons rfl <| Weak.cons rfl <| Weak.cons rfl <| Weak.cons rfl <| Weak.cons rfl <| Weak.nil _⟩
    · skip
      refine WC.skip (blockQ.n <| thenQ.n ?_)
      refine WC.region ?_
      refine WL.lv rfl (LV.add rfl rfl (wr64 (by omega) (by omega))) ?_
      refine WL.lv rfl (LV.mv rfl) ?_
      refine WL.nil (thenQ.n ?_)
      exact ⟨_, by omega, A_out, c_out, out, ix + 1, by omega, by omega, ((by rw [flt_at ixlo (by omega), if_neg (by rw [decide_eq_true_iff]; exact hb), ← q1, List.append_nil])), (by first | omega | (simp; omega)), hS7, rfl, Weak.cons rfl <| Weak.cons rfl <| Weak.cons rfl <| Weak.cons rfl <| Weak.cons rfl <| Weak.cons rfl <| Weak.nil _⟩
  · skip
    refine WC.exit (thenQ.x <| thenQ.x <| blockQ.hit <| thenQ.n ?_)
    refine WC.seq ?_
    refine WC.region ?_
    refine WL.lv rfl (LV.mv rfl) ?_
    refine WL.lv rfl (LV.asg rfl) ?_
    refine WL.nil (thenQ.n ?_)
    refine WC.ret (?_)
    have hS12 : SH w No w4 [rowE eS 9 (.slice A_out out.length c_out) out] := (SH.take 1 rfl (SH.front [_, _] hL1))
    have hres1 : (out : List ByteArray) = FLS X.F o := files_of hv_X hss1.1 hss1.2 (by rw [q1, List.take_of_length_le (by omega)])
    exact ⟨_, fun a ha => res1 rfl ha rfl, (by rw [← hres1]; exact ⟨_, _, rfl, hS12⟩)⟩

end Go.Proofs.YtigbphaimbhgjaaGreat

namespace Go.Proofs.YtigbphaimbhgjaaGreat
open Go Go.Gv Go.RowKit Go.Tly Go.Wds Go.Idx
set_option linter.unusedVariables false
set_option linter.unusedSimpArgs false
theorem ti32 : TI Tryz.prog 32 (.slice none 0 0) 1 24 := by unfold TI; kernel_rfl

theorem all_calls {w : World} {X : IXS} {n_X : Nat} {A_list : Option Addr} {n_list c_list : Nat} {list : List ByteArray} {o : Lb} (h_X : St No w (IXR 62 X)) (hv_X : IXW n_X X) (hm_X : n_X ≤ 30) (h_list : St No w (Rd eS (.slice A_list n_list c_list) list)) (hn_list : list.length = n_list) (wz : ∀ q ∈ list, q.size ≤ 140737488355328) (wo : 0 ≤ o.2 ∧ o.2 < 18446744073709551616) :
    Calls Tryz.prog 6 #[(.pointer (some ⟨X.b, 0, none⟩)), (.slice A_list n_list c_list), (.agg #[(.int .i64 ((o).1)), (.int .u64 ((o).2))])] w fun e w' => ∃ v, e = .returned v ∧ (fun v w' => ∃ (A0' : Option Addr) (c0' : Nat), v = .slice A0' (ALLF X.F o list).length c0' ∧ SH w No w' [rowE eSI 49 (.slice A0' (ALLF X.F o list).length c0') (ALLF X.F o list)]) v w' := by
  subst hn_list
  have hma := Rd.max h_list.now
  have hfl_ := fun q => find_len hv_X q o
  have hal_ := all_len X.F o _ hfl_
  have h6_ : 20 * n_X ≤ 600 := by omega
  have hS : SH w No w [] := SH.nil _ _
  refine calls (l := litOf [(.pointer (some ⟨X.b, 0, none⟩)), (.slice A_list list.length c_list), (.agg #[(.int .i64 ((o).1)), (.int .u64 ((o).2))])] 0) Tryz.func6 rfl (n := 31) rfl (Nat.le_of_ble_eq_true rfl) (lit_args _) ?_
  refine WC.seq ?_
  refine WC.region ?_
  refine WL.xe rfl (XE.box #[(.int .i64 ((o).1)), (.int .u64 ((o).2))] hS rfl rfl) ?_
  rintro _ w1 ⟨b1, rfl, hS1, hk1⟩
  refine WL.lv rfl (LV.asg rfl) ?_
  refine WL.nil (thenQ.n ?_)
  refine WC.seq ?_
  refine WC.region ?_
  have hS2 := SH.nilRow (E := eSI) (T := 49) hS1
  refine WL.lv rfl (LV.asg rfl) ?_
  refine WL.nil (thenQ.n ?_)
  iterate 2 refine WC.seq ?_
  refine WC.region ?_
  refine WL.lv rfl (LV.mv rfl) ?_
  refine WL.lv rfl (LV.lenL Tryz.underlying23 rfl) ?_
  refine WL.lv rfl (LV.mv rfl) ?_
  refine WL.nil (thenQ.n ?_)
  refine WC.block ?_
  refine WC.loop (fun m_ f_ w_ => ∃ (A_out : Option Addr) (c_out : Nat) (out : List En) (ix : Int), (0 ≤ ix) ∧ (ix ≤ (list.length : Int)) ∧ (out = ALLF X.F o (list.take ix.toNat)) ∧ SH w No w_ [rowE eSI 49 (.slice A_out out.length c_out) out, blkE b1 26 #[(.int .i64 ((o).1)), (.int .u64 ((o).2))]] ∧ m_ = (((list.length : Int) - ix).toNat) ∧ Weak (lit [(0, (.pointer (some ⟨X.b, 0, none⟩))), (5, (.pointer (some ⟨b1, 0, none⟩))), (7, (.slice A_out out.length c_out)), (11, (.slice A_list list.length c_list)), (12, (.int .i64 (list.length : Int))), (13, (.int .i64 ix))]) f_) _ ⟨none, 0, [], 0, by omega, by omega, rfl, hS2, rfl, Weak.cons rfl <| Weak.cons rfl <| Weak.cons rfl <| Weak.cons rfl <| Weak.cons rfl <| Weak.cons rfl <| Weak.nil _⟩ ?_
  rintro m1 f1 w2 ⟨A_out, c_out, out, ix, ixlo, ixhi, q1, hL1, rfl, hw1⟩
  refine WC.weak hw1 ?_
  clear hw1
  refine WC.seq ?_
  refine WC.region ?_
  refine WL.lv rfl (LV.ltI rfl rfl) ?_
  refine WL.nil (thenQ.n ?_)
  refine WC.seq ?_
  refine WC.condP (p := ix < (list.length : Int)) rfl (fun hc1 => ?_) (fun hc1 => ?_)
  · skip
    refine WC.skip (thenQ.n ?_)
    refine WC.seq ?_
    refine WC.block ?_
    refine WC.seq ?_
    refine WC.region ?_
    refine WL.lv rfl (LV.mv rfl) ?_
    obtain ⟨A1, c1, e1, g1⟩ := St.elt (SH.stN hL1 h_list) ByteArray.empty ix (by omega) (by omega)
    refine WL.lv rfl (LV.idxA Tryz.underlying23 ti9.sz rfl e1 rfl (by omega) (by omega)) ?_
    refine WL.lv rfl (LV.load1 (v := (.string (list.getD (ix).toNat ByteArray.empty))) Tryz.underlying9 rfl rfl (g1 _ (KB.refl No _) 0 _ rfl)) ?_
    iterate 2 refine WL.lv rfl (LV.asg rfl) ?_
    refine WL.nil (thenQ.n ?_)
    refine WC.seq ?_
    refine WC.region ?_
    iterate 2 refine WL.lv rfl (LV.mv rfl) ?_
    have hwz_ := wz _ (getD_mem (l := list) (d := ByteArray.empty) (i := ix.toNat) (by omega))
    refine WL.lv rfl (LV.loadAgg (cs := [(.int .i64 ((o).1)), (.int .u64 ((o).2))]) Tryz.underlying26 rfl ti26 rfl rfl (Blk.agg (SH.at hL1 (.tail _ (.head _))) _ (KB.refl No _))) ?_
    refine WL.call rfl (XC.fn Tryz.func13 (by kernel_rfl) rfl rfl rfl) (find_calls (word := (list.getD (ix).toNat ByteArray.empty)) (o := o) (SH.stN hL1 h_X) hv_X (by omega) (hwz_) (wo)) ?_
    rintro v_ w3 ⟨A2, c2, rfl, hS3⟩
    have hS4 := SH.joinN hL1 hS3
    refine WL.xe rfl (XE.alloc #[(.slice none 0 0)] hS4 ti32 rfl) ?_
    rintro _ w4 ⟨b2, rfl, hS5, hk2⟩
    refine WL.xse rfl (XSE.blk #[(.slice A2 ((FIND X.F (LOW (list.getD (ix).toNat ByteArray.empty)) o).length) c2)] hS5 (Nat.le_of_ble_eq_true rfl) ti32.sz rfl rfl rfl rfl) ?_
    rintro w5 ⟨hS6, hk3⟩
    refine WL.nil (thenQ.n ?_)
    iterate 2 refine WC.seq ?_
    refine WC.region ?_
    refine WL.lv rfl (LV.mv rfl) ?_
    refine WL.lv rfl (LV.eqI rfl rfl) ?_
    refine WL.nil (thenQ.n ?_)
    refine WC.condP (p := ix = 0) rfl (fun hi => ?_) (fun hi => ?_)
    · skip
      refine WC.region ?_
      refine WL.lv rfl (LV.load1 Tryz.underlying32 rfl rfl (Blk.cellN (SH.at hS6 (.head _)) 0 rfl _ (KB.refl No _))) ?_
      refine WL.lv rfl (LV.asg rfl) ?_
      refine WL.nil (thenQ.n ?_)
      refine WC.region ?_
      refine WL.lv rfl (LV.mv rfl) ?_
      have hw1_ := hfl_ (LOW (list.getD ix.toNat ByteArray.empty))
      have hw2_ := hal_ (list.take ix.toNat)
      rw [← q1] at hw2_
      refine WL.call rfl (XC.fn Tryz.func21 (by kernel_rfl) rfl rfl rfl) (hclone_calls  (SH.rd hS6 (.tail _ (.head _))) rfl (by omega)) ?_
      rintro v_ w6 ⟨A3, c3, rfl, hS7⟩
      have hS8 := SH.joinN hS6 hS7
      refine WL.lv rfl (LV.mkFunc rfl) ?_
      have hS9 : SH w No w6 [rowE eSI 49 (.slice A2 ((FIND X.F (LOW (list.getD (ix).toNat ByteArray.empty)) o).length) c2) (FIND X.F (LOW (list.getD (ix).toNat ByteArray.empty)) o), rowE eSI 49 (.slice A3 ((FIND X.F (LOW (list.getD (ix).toNat ByteArray.empty)) o).length) c3) (FIND X.F (LOW (list.getD (ix).toNat ByteArray.empty)) o), blkE b2 32 #[(.slice A2 ((FIND X.F (LOW (list.getD (ix).toNat ByteArray.empty)) o).length) c2)], rowE eSI 49 (.slice A_out out.length c_out) out, blkE b1 26 #[(.int .i64 ((o).1)), (.int .u64 ((o).2))]] := (SH.front [_, _] hS8)
      have hS10 : SH w No w6 [blkE b2 32 #[(.slice A2 ((FIND X.F (LOW (list.getD (ix).toNat ByteArray.empty)) o).length) c2)], rowE eSI 49 (.slice A2 ((FIND X.F (LOW (list.getD (ix).toNat ByteArray.empty)) o).length) c2) (FIND X.F (LOW (list.getD (ix).toNat ByteArray.empty)) o), rowE eSI 49 (.slice A3 ((FIND X.F (LOW (list.getD (ix).toNat ByteArray.empty)) o).length) c3) (FIND X.F (LOW (list.getD (ix).toNat ByteArray.empty)) o), rowE eSI 49 (.slice A_out out.length c_out) out, blkE b1 26 #[(.int .i64 ((o).1)), (.int .u64 ((o).2))]] := (SH.front [_, _] hS9)
      have hS11 : SH w No w6 [rowE eSI 49 (.slice A3 ((FIND X.F (LOW (list.getD (ix).toNat ByteArray.empty)) o).length) c3) (FIND X.F (LOW (list.getD (ix).toNat ByteArray.empty)) o), blkE b2 32 #[(.slice A2 ((FIND X.F (LOW (list.getD (ix).toNat ByteArray.empty)) o).length) c2)], rowE eSI 49 (.slice A2 ((FIND X.F (LOW (list.getD (ix).toNat ByteArray.empty)) o).length) c2) (FIND X.F (LOW (list.getD (ix).toNat ByteArray.empty)) o), rowE eSI 49 (.slice A_out out.length c_out) out, blkE b1 26 #[(.int .i64 ((o).1)), (.int .u64 ((o).2))]] := (SH.front [_, _] hS10)
      have hT1 := SH.sub (Es := [_, _, _]) hS11
      refine WL.call rfl (XC.fn Tryz.func20 (by kernel_rfl) rfl rfl rfl) (hdel_calls hT1) ?_
      rintro v_ w7 ⟨rfl, hU1⟩
      have hS12 := SH.back (Es := [_, _, _]) hS11 hU1
      refine WL.lv rfl (LV.asg rfl) ?_
      refine WL.nil (blockQ.n <| thenQ.n ?_)
      refine WC.region ?_
      refine WL.lv rfl (LV.add rfl rfl (wr64 (by omega) (by omega))) ?_
      refine WL.lv rfl (LV.mv rfl) ?_
      refine WL.nil (thenQ.n ?_)
      have hS13 : SH w No w7 [rowE eSI 49 (.slice A3 (((FIND X.F (LOW (list.getD (ix).toNat ByteArray.empty)) o).filter fun h_ => decide (h_ ∈ FIND X.F (LOW (list.getD (ix).toNat ByteArray.empty)) o)).length) c3) ((FIND X.F (LOW (list.getD (ix).toNat ByteArray.empty)) o).filter fun h_ => decide (h_ ∈ FIND X.F (LOW (list.getD (ix).toNat ByteArray.empty)) o)), blkE b1 26 #[(.int .i64 ((o).1)), (.int .u64 ((o).2))]] := (SH.take 2 rfl (SH.front [_] (SH.front [_, _, _, _] hS12)))
      exact ⟨_, by omega, A3, c3, ((FIND X.F (LOW (list.getD (ix).toNat ByteArray.empty)) o).filter fun h_ => decide (h_ ∈ FIND X.F (LOW (list.getD (ix).toNat ByteArray.empty)) o)), ix + 1, by omega, by omega, ((by subst hi; exact (all_0 (by omega)).symm)), hS13, rfl, Weak.cons rfl <| Weak.cons rfl <| Weak.cons rfl <| Weak.cons rfl <| Weak.cons rfl <| Weak.cons rfl <| Weak.nil _⟩
    · skip
      refine WC.skip (thenQ.n ?_)
      refine WC.region ?_
      refine WL.lv rfl (LV.mv rfl) ?_
      have hw1_ := hfl_ (LOW (list.getD ix.toNat ByteArray.empty))
      have hw2_ := hal_ (list.take ix.toNat)
      rw [← q1] at hw2_
      refine WL.call rfl (XC.fn Tryz.func21 (by kernel_rfl) rfl rfl rfl) (hclone_calls  (SH.rd hS6 (.tail _ (.tail _ (.head _)))) rfl (by omega)) ?_
      rintro v_ w8 ⟨A4, c4, rfl, hS14⟩
      have hS15 := SH.joinN hS6 hS14
      refine WL.lv rfl (LV.mkFunc rfl) ?_
      have hS16 : SH w No w8 [rowE eSI 49 (.slice A2 ((FIND X.F (LOW (list.getD (ix).toNat ByteArray.empty)) o).length) c2) (FIND X.F (LOW (list.getD (ix).toNat ByteArray.empty)) o), rowE eSI 49 (.slice A4 out.length c4) out, blkE b2 32 #[(.slice A2 ((FIND X.F (LOW (list.getD (ix).toNat ByteArray.empty)) o).length) c2)], rowE eSI 49 (.slice A_out out.length c_out) out, blkE b1 26 #[(.int .i64 ((o).1)), (.int .u64 ((o).2))]] := (SH.front [_, _] hS15)
      have hS17 : SH w No w8 [blkE b2 32 #[(.slice A2 ((FIND X.F (LOW (list.getD (ix).toNat ByteArray.empty)) o).length) c2)], rowE eSI 49 (.slice A2 ((FIND X.F (LOW (list.getD (ix).toNat ByteArray.empty)) o).length) c2) (FIND X.F (LOW (list.getD (ix).toNat ByteArray.empty)) o), rowE eSI 49 (.slice A4 out.length c4) out, rowE eSI 49 (.slice A_out out.length c_out) out, blkE b1 26 #[(.int .i64 ((o).1)), (.int .u64 ((o).2))]] := (SH.front [_, _] hS16)
      have hS18 : SH w No w8 [rowE eSI 49 (.slice A4 out.length c4) out, blkE b2 32 #[(.slice A2 ((FIND X.F (LOW (list.getD (ix).toNat ByteArray.empty)) o).length) c2)], rowE eSI 49 (.slice A2 ((FIND X.F (LOW (list.getD (ix).toNat ByteArray.empty)) o).length) c2) (FIND X.F (LOW (list.getD (ix).toNat ByteArray.empty)) o), rowE eSI 49 (.slice A_out out.length c_out) out, blkE b1 26 #[(.int .i64 ((o).1)), (.int .u64 ((o).2))]] := (SH.front [_, _] hS17)
      have hT2 := SH.sub (Es := [_, _, _]) hS18
      refine WL.call rfl (XC.fn Tryz.func20 (by kernel_rfl) rfl rfl rfl) (hdel_calls hT2) ?_
      rintro v_ w9 ⟨rfl, hU2⟩
      have hS19 := SH.back (Es := [_, _, _]) hS18 hU2
      refine WL.lv rfl (LV.asg rfl) ?_
      refine WL.nil (blockQ.n <| thenQ.n ?_)
      refine WC.region ?_
      refine WL.lv rfl (LV.add rfl rfl (wr64 (by omega) (by omega))) ?_
      refine WL.lv rfl (LV.mv rfl) ?_
      refine WL.nil (thenQ.n ?_)
      have hS20 : SH w No w9 [rowE eSI 49 (.slice A4 ((out.filter fun h_ => decide (h_ ∈ FIND X.F (LOW (list.getD (ix).toNat ByteArray.empty)) o)).length) c4) (out.filter fun h_ => decide (h_ ∈ FIND X.F (LOW (list.getD (ix).toNat ByteArray.empty)) o)), blkE b1 26 #[(.int .i64 ((o).1)), (.int .u64 ((o).2))]] := (SH.take 2 rfl (SH.front [_] (SH.front [_, _, _, _] hS19)))
      exact ⟨_, by omega, A4, c4, (out.filter fun h_ => decide (h_ ∈ FIND X.F (LOW (list.getD (ix).toNat ByteArray.empty)) o)), ix + 1, by omega, by omega, ((by rw [all_at (by omega) (by omega), ← q1])), hS20, rfl, Weak.cons rfl <| Weak.cons rfl <| Weak.cons rfl <| Weak.cons rfl <| Weak.cons rfl <| Weak.cons rfl <| Weak.nil _⟩
  · skip
    refine WC.exit (thenQ.x <| thenQ.x <| blockQ.hit <| thenQ.n ?_)
    refine WC.seq ?_
    refine WC.region ?_
    refine WL.lv rfl (LV.mv rfl) ?_
    refine WL.lv rfl (LV.asg rfl) ?_
    refine WL.nil (thenQ.n ?_)
    refine WC.ret (?_)
    have hS21 : SH w No w2 [rowE eSI 49 (.slice A_out out.length c_out) out] := (SH.take 1 rfl hL1)
    have hres1 : (out : List En) = ALLF X.F o list := (by rw [q1, List.take_of_length_le (by omega)])
    exact ⟨_, fun a ha => res1 rfl ha rfl, (by rw [← hres1]; exact ⟨_, _, rfl, hS21⟩)⟩

end Go.Proofs.YtigbphaimbhgjaaGreat

namespace Go.Idx
open Go Go.Gv Go.Wds Go.Tly
abbrev KVS := List (ByteArray × SV)
abbrev PLI := List (SV × List Itm)
abbrev PLE := List (SV × List En)
section
variable {n : Nat} {X : IXS} {F : List Fl} {file : ByteArray} {kv kv1 : KVS} {P : PLE} {P1 : PLI} {D T : List ByteArray} {i : Int} {sv : SV} {es : List En} {l : List Itm}
theorem take_w (h0 : 0 ≤ i) (h1 : i < T.length) : D ++ T.take i.toNat ++ [T.getD i.toNat ByteArray.empty] = D ++ T.take (i + 1).toNat := by rw [List.append_assoc, ← Num.take_more ByteArray.empty h0 h1]
theorem gd_nextK (h0 : 0 ≤ i) (h1 : i < T.length) (h : ROWS kv P (GD F file (D ++ T.take i.toNat))) (hp : es.Perm (GD F file (D ++ T.take i.toNat) (T.getD i.toNat ByteArray.empty))) (hne : ¬ ((NF file es).length : Int) = 0) :
    ROWS (updL kv (T.getD i.toNat ByteArray.empty) sv) (P ++ [(sv, NF file es)]) (GD F file (D ++ T.take (i + 1).toNat)) := by
  have := gd_keep (sv := sv) h hp (fun e => hne (by rw [e]; rfl))
  rwa [take_w h0 h1] at this
theorem gd_nextD (hn : (kv.map (·.1)).Nodup) (h0 : 0 ≤ i) (h1 : i < T.length) (h : ROWS kv P (GD F file (D ++ T.take i.toNat))) (hp : es.Perm (GD F file (D ++ T.take i.toNat) (T.getD i.toNat ByteArray.empty))) (hz : ((NF file es).length : Int) = 0) :
    ROWS (delL (updL kv (T.getD i.toNat ByteArray.empty) sv) (T.getD i.toNat ByteArray.empty)) (P ++ [(sv, NF file es)]) (GD F file (D ++ T.take (i + 1).toNat)) := by
  have := gd_drop (sv := sv) hn h hp (List.eq_nil_of_length_eq_zero (by omega))
  rwa [take_w h0 h1] at this
theorem gd_line (h0 : 0 ≤ i) (h1 : i < l.length) {j : Int} (hT : T = OF (l.getD i.toNat dI).2.2.2.1) (hj : (T.length : Int) ≤ j) (h : ROWS kv P (GD F file (WLS (l.take i.toNat) ++ T.take j.toNat))) : ROWS kv P (GD F file (WLS (l.take (i + 1).toNat))) := by
  rw [WLS_at h0 h1, ← hT]
  rwa [List.take_of_length_le (l := T) (by omega)] at h
theorem gd_bd (h : SMALL F) (hn : F.length ≤ n) {q : ByteArray} (hp : es.Perm (GD F file D q)) : es.length ≤ 20 * n := by
  rw [hp.length_eq]
  unfold GD
  split
  · exact en_bd (small_wof file h) (Nat.le_trans (wof_len F file) hn) q
  · exact en_bd h hn q
theorem nf_len (file : ByteArray) (es : List En) : (NF file es).length ≤ es.length := List.length_filter_le _ _
theorem ixw_drop (h : IXW n X) (hn : (kv.map (·.1)).Nodup) (hi : ((LKF X.F file).length : Int) ≤ i) (hq : ROWS kv P (GD X.F file (WLS ((LKF X.F file).take i.toNat)))) : IXW n ⟨X.b, X.m1, X.m2, delL X.kv1 file, kv, X.P1, P, WOF X.F file⟩ := by
  rw [List.take_of_length_le (by omega)] at hq
  exact ⟨files_out h.n1 h.fs file, gd_end h.ns.nd hq, del_nodup h.n1 file, hn, wof_ns h.ns, small_wof file h.sm, Nat.le_trans (wof_len _ _) h.ln, fun f hf => h.nm f (List.mem_filter.1 hf).1⟩
/-! ### a file that comes -/
theorem gp_next (h0 : 0 ≤ i) {j : Int} (hj0 : 0 ≤ j) (hj : j < T.length) (hT : T.Nodup) (h : ROWS kv P (GP F file l i (T.take j.toNat))) (hp : es.Perm (GP F file l i (T.take j.toNat) (T.getD j.toNat ByteArray.empty))) :
    ROWS (updL kv (T.getD j.toNat ByteArray.empty) sv) (P ++ [(sv, es ++ [(file, i)])]) (GP F file l i (T.take (j + 1).toNat)) := by
  have hw : T.getD j.toNat ByteArray.empty ∉ T.take j.toNat := fun hm => by
    have hlt : j.toNat < T.length := by omega
    rw [List.getD_eq_getElem?_getD, List.getElem?_eq_getElem hlt] at hm
    obtain ⟨k, hk, e⟩ := List.mem_iff_getElem.1 hm
    rw [List.length_take] at hk
    rw [List.getElem_take] at e
    exact (List.pairwise_iff_getElem.1 hT) k j.toNat (by omega) hlt (by omega) e
  have := gp_step (sv := sv) h hp hw
  rwa [← Num.take_more ByteArray.empty hj0 hj] at this
theorem gp_word (h0 : 0 ≤ i) (h1 : i < l.length) {j : Int} (ha : ¬ (l.getD i.toNat dI).2.2.1 = true) (hT : T = OF (l.getD i.toNat dI).2.2.2.1) (hj : (T.length : Int) ≤ j) (h : ROWS kv P (GP F file l i (T.take j.toNat))) : ROWS kv P (GP F file l (i + 1) []) := by
  rw [List.take_of_length_le (l := T) (by omega), hT] at h
  exact gp_line h0 h1 (by simpa using ha) h
theorem gp_bd (h : SMALL F) (hn : F.length ≤ n) (hl : l.length ≤ 20) {q : ByteArray} (hp : es.Perm (GP F file l i D q)) : es.length ≤ 20 * n + 21 := by
  rw [hp.length_eq]
  unfold GP
  have h1 := en_bd h hn q
  have h2 := ENI_len file q 0 (l.take i.toNat)
  have h3 : (l.take i.toNat).length ≤ 20 := by rw [List.length_take]; omega
  rw [List.length_append, List.length_append]
  split <;> simp only [List.length_cons, List.length_nil] <;> omega
theorem ixw_put (h : IXW n X) (hn1 : (kv1.map (·.1)).Nodup) (hn2 : (kv.map (·.1)).Nodup) (hf : FILES kv1 P1 (PUTF file l X.F)) (hi : (l.length : Int) ≤ i) (hq : ROWS kv P (GP (WOF X.F file) file l i [])) (hl : l.length ≤ 20) (hy : ∀ y ∈ l, y.2.2.2.1.size ≤ 60 ∧ 0 ≤ y.2.1.2 ∧ y.2.1.2 < 18446744073709551616) (hs : file.size ≤ 64) :
    IXW (n + 1) ⟨X.b, X.m1, X.m2, kv1, kv, P1, P, PUTF file l X.F⟩ :=
  ⟨hf, gp_end h.ns hi hq, hn1, hn2, PUTF_ns h.ns, small_put h.ns h.sm hl hy, Nat.le_trans PUTF_len.1 (Nat.succ_le_succ h.ln), fun f hf => by
    rcases List.mem_cons.1 ((PUTF_perm h.ns).mem_iff.1 hf) with e | e
    · subst e; exact hs
    · exact h.nm f (List.mem_filter.1 e).1⟩
theorem ixw_new (b m1 m2 : Nat) : IXW 0 ⟨b, m1, m2, [], [], [], [], []⟩ :=
  ⟨fun q => .inl ⟨rfl, rfl⟩, fun q => .inl ⟨rfl, rfl⟩, List.nodup_nil, List.nodup_nil, List.Pairwise.nil, fun f hf => (by cases hf), Nat.le_refl _, fun f hf => (by cases hf)⟩
end
end Go.Idx
namespace Go.Idx
open Go Go.Gv Go.Wds Go.Tly
theorem known_iff {n : Nat} {X : IXS} (h : IXW n X) (file : ByteArray) : (lookL X.kv1 file).isSome = (lookL X.F file).isSome := files_known h.fs file
end Go.Idx
namespace Go.Idx
open Go Go.Gv Go.Wds Go.Tly
/-- More rows in the pools change nothing of what an index keeps. -/
theorem ixw_more {n b m1 m2 : Nat} {kv1 kv2 : KVS} {P1 Q1 : PLI} {P2 Q2 : PLE} {F : List Fl} (h : IXW n ⟨b, m1, m2, kv1, kv2, P1, P2, F⟩) (h1 : ∀ r ∈ P1, r ∈ Q1) (h2 : ∀ r ∈ P2, r ∈ Q2) : IXW n ⟨b, m1, m2, kv1, kv2, Q1, Q2, F⟩ :=
  ⟨fun q => (h.fs q).imp id fun ⟨sv, l, a, b, c⟩ => ⟨sv, l, a, b, h1 _ c⟩, fun q => (h.rs q).imp id fun ⟨sv, l, a, b, c⟩ => ⟨sv, l, a, h2 _ b, c⟩, h.n1, h.n2, h.ns, h.sm, h.ln, h.nm⟩
theorem ixw_turn {n b m1 m2 b' m1' m2' : Nat} {kv1 kv2 : KVS} {P1 : PLI} {P2 : PLE} {F : List Fl} (h : IXW n ⟨b, m1, m2, kv1, kv2, P1, P2, F⟩) : IXW n ⟨b', m1', m2', kv1, kv2, P1, P2, F⟩ :=
  ⟨h.fs, h.rs, h.n1, h.n2, h.ns, h.sm, h.ln, h.nm⟩
end Go.Idx

