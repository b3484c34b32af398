/- What must be whatever is asked. -/
import Derived.Test.YtomeffnlmefnlaaSxN
import Derived.Test.YtomeffnlmefnlaaSxP
namespace Go.Proofs.Ytomeffnlmefnlaa
open Go Go.Gv Go.RowKit Go.Mys Go.Num Go.Scr Go.Flt Go.Sts Go.Dec Go.Rpt
set_option linter.unusedVariables false
set_option linter.unusedSimpArgs false

set_option maxHeartbeats 2000000 in
theorem bars_calls {w : World} {A_l : Option Addr} {n_l c_l : Nat} {l : List (Int × Int)} (h_l : St No w (Rd eP (.slice A_l n_l c_l) l)) (hn_l : l.length = n_l) (hw : ∀ c ∈ l, RGT c) (hl : l.length ≤ 60) :
    Calls Try.prog 20 #[(.slice A_l n_l c_l), (.int .i64 2)] w fun e w' => ∃ v, e = .returned v ∧ (fun v w' => ∃ (A0' : Option Addr) (c0' : Nat), v = .tuple #[.slice A0' (BARN (MST l) l l.length).length c0', .int .i64 0] ∧ SH w No w' [rowE eU8 5 (.slice A0' (BARN (MST l) l l.length).length c0') (BARN (MST l) l l.length)]) v w' := by
  subst hn_l
  have hS : SH w No w [] := SH.nil _ _
  refine calls (l := litOf [(.slice A_l l.length c_l), (.int .i64 2)] 0) Try.func20 rfl (n := 72) rfl (Nat.le_of_ble_eq_true rfl) (lit_args _) ?_
  refine WC.seq ?_
  refine WC.region ?_
  iterate 2 refine WL.lv rfl (LV.asg rfl) ?_
  refine WL.nil (thenQ.n ?_)
  iterate 2 refine WC.seq ?_
  refine WC.region ?_
  refine WL.lv rfl (LV.mv rfl) ?_
  refine WL.lv rfl (LV.as (c := false) (LV.ltI rfl rfl) (by decide)) ?_
  iterate 2 refine WL.lv rfl (LV.mv rfl) ?_
  refine WL.lv rfl (LV.as (c := false) (LV.gtI rfl rfl) (by decide)) ?_
  refine WL.lv rfl (LV.pickF rfl rfl) ?_
  refine WL.nil (thenQ.n ?_)
  refine WC.condF rfl ?_
  refine WC.skip (thenQ.n ?_)
  iterate 2 refine WC.seq ?_
  refine WC.region ?_
  refine WL.lv rfl (LV.mv rfl) ?_
  refine WL.lv rfl (LV.lenL Try.underlying25 rfl) ?_
  refine WL.lv rfl (LV.mv rfl) ?_
  refine WL.nil (thenQ.n ?_)
  refine WC.block ?_
  refine WC.loop (fun m_ f_ w_ => ∃ (ix : Int), (0 ≤ ix) ∧ (ix ≤ (l.length : Int)) ∧ SH w No w_ [] ∧ m_ = (((l.length : Int) - ix).toNat) ∧ Weak (lit [(0, (.slice A_l l.length c_l)), (1, (.int .i64 2)), (19, (.slice A_l l.length c_l)), (20, (.int .i64 (l.length : Int))), (21, (.int .i64 ix))]) f_) _ ⟨0, by omega, by omega, hS, rfl, Weak.cons rfl <| Weak.cons rfl <| Weak.cons rfl <| Weak.cons rfl <| Weak.cons rfl <| Weak.nil _⟩ ?_
  rintro m1 f1 w1 ⟨ix, ixlo, ixhi, hL1, rfl, hw1⟩
  refine WC.weak hw1 ?_
  clear hw1
  refine WC.seq ?_
  refine WC.region ?_
  refine WL.lv rfl (LV.ltI rfl rfl) ?_
  refine WL.nil (thenQ.n ?_)
  refine WC.seq ?_
  refine WC.condP (p := ix < (l.length : Int)) rfl (fun hc1 => ?_) (fun hc1 => ?_)
  · skip
    refine WC.skip (thenQ.n ?_)
    refine WC.seq ?_
    refine WC.block ?_
    refine WC.seq ?_
    refine WC.region ?_
    obtain ⟨A1, c1, e1, g1⟩ := St.elt (SH.stN hL1 h_l) (0, 0) ix (by omega) (by omega)
    refine WL.lv rfl (LV.idxA Try.underlying25 ti30.sz rfl e1 rfl (by omega) (by omega)) ?_
    refine WL.lv rfl (LV.loadAgg (cs := [(.int .i64 ((l.getD (ix).toNat (0, 0)).1)), (.int .i64 ((l.getD (ix).toNat (0, 0)).2))]) Try.underlying30 rfl ti30 rfl rfl (fun j u hu => g1 _ (KB.refl No _) j u hu)) ?_
    refine WL.xe rfl (XE.alloc #[(.int .i64 0), (.int .i64 0)] hL1 ti30 rfl) ?_
    rintro _ w2 ⟨b1, rfl, hS1, hk1⟩
    refine WL.xse rfl (XSE.blkAgg #[(.int .i64 ((l.getD (ix).toNat (0, 0)).1)), (.int .i64 ((l.getD (ix).toNat (0, 0)).2))] hS1 (by kernel_rfl) rfl (by kernel_rfl) rfl rfl) ?_
    rintro w3 ⟨hS2, hk2⟩
    refine WL.nil (thenQ.n ?_)
    refine WC.seq ?_
    refine WC.region ?_
    refine WL.lv rfl (LV.loadAgg (cs := [(.int .i64 ((l.getD (ix).toNat (0, 0)).1)), (.int .i64 ((l.getD (ix).toNat (0, 0)).2))]) Try.underlying30 rfl ti30 rfl rfl (Blk.agg (SH.at hS2 (.head _)) _ (KB.refl No _))) ?_
    refine WL.call rfl (XC.fn Try.func21 (by kernel_rfl) rfl rfl rfl) (Calls.asB (right_calls (c := (l.getD (ix).toNat (0, 0))) ) (decide_eq_true (hw _ (getD_mem (by omega))))) ?_
    rintro v_ w4 ⟨rfl, hk3⟩
    have hS3 := SH.same hS2 hk3
    refine WL.lv rfl (LV.notB rfl) ?_
    refine WL.nil (thenQ.n ?_)
    refine WC.condF rfl ?_
    refine WC.skip (blockQ.n <| thenQ.n ?_)
    refine WC.region ?_
    refine WL.lv rfl (LV.add rfl rfl (wr64 (by omega) (by omega))) ?_
    refine WL.lv rfl (LV.mv rfl) ?_
    refine WL.nil (thenQ.n ?_)
    have hS4 : SH w No w4 [] := (SH.take 0 rfl hS3)
    exact ⟨_, by omega, ix + 1, by omega, by omega, hS4, rfl, Weak.cons rfl <| Weak.cons rfl <| Weak.cons rfl <| Weak.cons rfl <| Weak.cons rfl <| Weak.nil _⟩
  · skip
    refine WC.exit (thenQ.x <| thenQ.x <| blockQ.hit <| thenQ.n ?_)
    refine WC.seq ?_
    refine WC.region ?_
    refine WL.lv rfl (LV.mv rfl) ?_
    refine WL.call rfl (XC.fn Try.func34 (by kernel_rfl) rfl rfl rfl) (most_calls  (SH.stN hL1 h_l) rfl (hw)) ?_
    rintro v_ w5 ⟨rfl, hk4⟩
    have hS5 := SH.same hL1 hk4
    refine WL.lv rfl (LV.asg rfl) ?_
    refine WL.nil (thenQ.n ?_)
    refine WC.seq ?_
    refine WC.region ?_
    refine WL.xe rfl (XE.buildSlice (E := eU8) [] #[] [] hS5 Try.underlying53 ti5 rfl (by decide) (by kernel_rfl) (.inr rfl) rfl rfl (by decide)) ?_
    rintro _ w6 ⟨b2, rfl, hS6, hk5⟩
    refine WL.lv rfl (LV.asg rfl) ?_
    refine WL.nil (thenQ.n ?_)
    iterate 2 refine WC.seq ?_
    refine WC.region ?_
    refine WL.lv rfl (LV.mv rfl) ?_
    refine WL.lv rfl (LV.lenL Try.underlying25 rfl) ?_
    refine WL.lv rfl (LV.mv rfl) ?_
    refine WL.nil (thenQ.n ?_)
    refine WC.block ?_
    refine WC.loop (fun m_ f_ w_ => ∃ (A_out : Option Addr) (c_out : Nat) (out : List Int) (ix2 : Int), (0 ≤ ix2) ∧ (ix2 ≤ (l.length : Int)) ∧ (out = BARN (MST l) l ix2.toNat) ∧ ((out.length : Int) ≤ 300 * ix2) ∧ SH w No w_ [rowE eU8 5 (.slice A_out out.length c_out) out] ∧ m_ = (((l.length : Int) - ix2).toNat) ∧ Weak (lit [(1, (.int .i64 2)), (8, (.int .i64 (MST l))), (9, (.slice A_out out.length c_out)), (32, (.slice A_l l.length c_l)), (33, (.int .i64 (l.length : Int))), (34, (.int .i64 ix2))]) f_) _ ⟨(some ⟨b2, 0, none⟩), 0, [], 0, by omega, by omega, rfl, (by simp), hS6, rfl, Weak.cons rfl <| Weak.cons rfl <| Weak.cons rfl <| Weak.cons rfl <| Weak.cons rfl <| Weak.cons rfl <| Weak.nil _⟩ ?_
    rintro m2 f2 w7 ⟨A_out, c_out, out, ix2, ix2lo, ix2hi, q1, q2, hL2, rfl, hw2⟩
    refine WC.weak hw2 ?_
    clear hw2
    refine WC.seq ?_
    refine WC.region ?_
    refine WL.lv rfl (LV.ltI rfl rfl) ?_
    refine WL.nil (thenQ.n ?_)
    refine WC.seq ?_
    refine WC.condP (p := ix2 < (l.length : Int)) rfl (fun hk => ?_) (fun hk => ?_)
    · have hwi_ := hw (l.getD (ix2).toNat (0, 0)) (getD_mem (by omega))
      have hr1_ := hwi_.1.1
      have hr2_ := hwi_.1.2
      have hr3_ := hwi_.2.1
      have hr4_ := hwi_.2.2
      have hmg_ := mst_ge (l := l) (c := (l.getD (ix2).toNat (0, 0))) (getD_mem (by omega))
      have hds1_ := DEC_size (ix2 + 1)
      have hds2_ := DEC_size (l.getD (ix2).toNat (0, 0)).1
      have hds3_ := DEC_size (l.getD (ix2).toNat (0, 0)).2
      have hz1_ : (⟨#[32, 43]⟩ : ByteArray).size = 2 := rfl
      have hz2_ : (⟨#[32, 45]⟩ : ByteArray).size = 2 := rfl
      have hz3_ : (⟨#[32]⟩ : ByteArray).size = 1 := rfl
      have hz4_ : (⟨#[10]⟩ : ByteArray).size = 1 := rfl
      refine WC.skip (thenQ.n ?_)
      refine WC.seq ?_
      refine WC.block ?_
      refine WC.seq ?_
      refine WC.region ?_
      refine WL.lv rfl (LV.mv rfl) ?_
      obtain ⟨A2, c2, e2, g2⟩ := St.elt (SH.stN hL2 h_l) (0, 0) ix2 (by omega) (by omega)
      refine WL.lv rfl (LV.idxA Try.underlying25 ti30.sz rfl e2 rfl (by omega) (by omega)) ?_
      refine WL.lv rfl (LV.loadAgg (cs := [(.int .i64 ((l.getD (ix2).toNat (0, 0)).1)), (.int .i64 ((l.getD (ix2).toNat (0, 0)).2))]) Try.underlying30 rfl ti30 rfl rfl (fun j u hu => g2 _ (KB.refl No _) j u hu)) ?_
      refine WL.xe rfl (XE.alloc #[(.int .i64 0), (.int .i64 0)] hL2 ti30 rfl) ?_
      rintro _ w8 ⟨b3, rfl, hS7, hk6⟩
      refine WL.lv rfl (LV.asg rfl) ?_
      refine WL.xse rfl (XSE.blkAgg #[(.int .i64 ((l.getD (ix2).toNat (0, 0)).1)), (.int .i64 ((l.getD (ix2).toNat (0, 0)).2))] hS7 (by kernel_rfl) rfl (by kernel_rfl) rfl rfl) ?_
      rintro w9 ⟨hS8, hk7⟩
      refine WL.nil (thenQ.n ?_)
      refine WC.seq ?_
      refine WC.region ?_
      refine WL.lv rfl (LV.asg rfl) ?_
      refine WL.nil (thenQ.n ?_)
      refine WC.cut (fun f_ w_ => ∃ (n1 : Int), (n1 = BARW (MST l) (l.getD (ix2).toNat (0, 0))) ∧ (0 ≤ n1 ∧ n1 ≤ 2) ∧ SH w No w_ [blkE b3 30 #[(.int .i64 ((l.getD (ix2).toNat (0, 0)).1)), (.int .i64 ((l.getD (ix2).toNat (0, 0)).2))], rowE eU8 5 (.slice A_out out.length c_out) out] ∧ Weak (lit [(1, (.int .i64 2)), (8, (.int .i64 (MST l))), (9, (.slice A_out out.length c_out)), (10, (.int .i64 ix2)), (11, (.pointer (some ⟨b3, 0, none⟩))), (12, (.int .i64 n1)), (32, (.slice A_l l.length c_l)), (33, (.int .i64 (l.length : Int))), (34, (.int .i64 ix2))]) f_) ?_ ?_
      · refine WC.seq ?_
        refine WC.region ?_
        refine WL.lv rfl (LV.mv rfl) ?_
        refine WL.lv rfl (LV.gtI rfl rfl) ?_
        refine WL.nil (thenQ.n ?_)
        refine WC.condP (p := (MST l) > 0) rfl (fun htp => ?_) (fun htp => ?_)
        · have hdb_ := div_bd (x := (l.getD (ix2).toNat (0, 0)).1 + (l.getD (ix2).toNat (0, 0)).2) (top := MST l) (by omega) (by omega) (by omega)
          refine WC.region ?_
          refine WL.lv rfl (LV.mv rfl) ?_
          refine WL.lv rfl (LV.fieldA Try.underlying30 rfl ti3.sz rfl) ?_
          refine WL.lv rfl (LV.load1 Try.underlying3 rfl rfl (Blk.cellN (SH.at hS8 (.head _)) 0 rfl _ (KB.refl No _))) ?_
          refine WL.lv rfl (LV.fieldA Try.underlying30 rfl ti3.sz rfl) ?_
          refine WL.lv rfl (LV.load1 Try.underlying3 rfl rfl (Blk.cellN (SH.at hS8 (.head _)) 1 rfl _ (KB.refl No _))) ?_
          refine WL.lv rfl (LV.add rfl rfl (wr64 (by omega) (by omega))) ?_
          refine WL.lv rfl (LV.mul rfl rfl (wr64 (by omega) (by omega))) ?_
          refine WL.lv rfl (LV.mv rfl) ?_
          refine WL.lv rfl (LV.quo rfl rfl (by omega) (quo64 (by omega) (by omega) (by omega) rfl)) ?_
          refine WL.lv rfl (LV.asg rfl) ?_
          refine WL.nil (thenQ.n ?_)
          exact ⟨(2 * (((l.getD (ix2).toNat (0, 0)).1) + ((l.getD (ix2).toNat (0, 0)).2))) / (MST l), (by unfold BARW; first | (rw [if_pos (by omega)]; done) | (rw [if_neg (by omega)]; done)), by omega, hS8, Weak.cons rfl <| Weak.cons rfl <| Weak.cons rfl <| Weak.cons rfl <| Weak.cons rfl <| Weak.cons rfl <| Weak.cons rfl <| Weak.cons rfl <| Weak.cons rfl <| Weak.nil _⟩
        · skip
          refine WC.skip (thenQ.n ?_)
          exact ⟨0, (by unfold BARW; first | (rw [if_pos (by omega)]; done) | (rw [if_neg (by omega)]; done)), by omega, hS8, Weak.cons rfl <| Weak.cons rfl <| Weak.cons rfl <| Weak.cons rfl <| Weak.cons rfl <| Weak.cons rfl <| Weak.cons rfl <| Weak.cons rfl <| Weak.cons rfl <| Weak.nil _⟩
      · rintro f3 w10 ⟨n1, u1, u2, hS9, hw3⟩
        refine WC.weak hw3 ?_
        clear hw3
        have hS10 := SH.drew hS9
        refine WC.regionD [19] (fun w_ => KB No w10.drew w_) [(.pure, 0), (.pure, 1), (.pure, 2), (.pure, 5), (.look, 6), (.pure, 10), (.look, 11), (.pure, 15), (.forced, 3), (.pure, 4), (.forced, 7), (.pure, 8), (.pure, 9), (.forced, 12), (.pure, 13), (.pure, 14), (.forced, 16), (.pure, 17), (.pure, 18), (.forced, 19), (.pure, 20)] (by kernel_rfl) (by kernel_rfl) (KB.refl _ _) ?_
        iterate 2 refine WS.pure rfl rfl (fun _ => LV.mv rfl) ?_
        have hrs_ := rpb_size n1.toNat
        refine WS.pure rfl rfl (fun _ => LV.add rfl rfl (wr64 (by omega) (by omega))) ?_
        refine WS.pure rfl rfl (fun _ => LV.fieldA Try.underlying30 rfl ti3.sz rfl) ?_
        refine WS.look rfl rfl (fun _ hk_ => LV.load1 Try.underlying3 rfl rfl (Blk.cellN (SH.at hS10 (.head _)) 0 rfl _ hk_)) ?_
        refine WS.pure rfl rfl (fun _ => LV.fieldA Try.underlying30 rfl ti3.sz rfl) ?_
        refine WS.look rfl rfl (fun _ hk_ => LV.load1 Try.underlying3 rfl rfl (Blk.cellN (SH.at hS10 (.head _)) 1 rfl _ hk_)) ?_
        refine WS.pure rfl rfl (fun _ => LV.mv rfl) ?_
        refine WS.call rfl rfl (XC.fn Try.func35 (by kernel_rfl) rfl rfl rfl) (decimal_calls (n := (ix2 + 1)) ) ?_
        rintro v_ w11 ⟨rfl, hk8⟩
        have hS11 := SH.same hS10 hk8
        refine ⟨fun h_ => (KB.transN (KB.refl _ _) hk8), ?_⟩
        refine WS.pure rfl rfl (fun _ => LV.addS rfl rfl (by first | omega | (simp only [ByteArray.size_append, lit1]; omega) | (simp only [ByteArray.size_append, lit1, str_size, List.length_cons, List.length_nil]; omega))) ?_
        refine WS.call rfl rfl (XC.fn Try.func35 (by kernel_rfl) rfl rfl rfl) (decimal_calls (n := ((l.getD (ix2).toNat (0, 0)).1)) ) ?_
        rintro v_ w12 ⟨rfl, hk9⟩
        have hS12 := SH.same hS11 hk9
        refine ⟨fun h_ => (KB.transN (KB.transN (KB.refl _ _) hk8) hk9), ?_⟩
        iterate 2 refine WS.pure rfl rfl (fun _ => LV.addS rfl rfl (by first | omega | (simp only [ByteArray.size_append, lit1]; omega) | (simp only [ByteArray.size_append, lit1, str_size, List.length_cons, List.length_nil]; omega))) ?_
        refine WS.call rfl rfl (XC.fn Try.func35 (by kernel_rfl) rfl rfl rfl) (decimal_calls (n := ((l.getD (ix2).toNat (0, 0)).2)) ) ?_
        rintro v_ w13 ⟨rfl, hk10⟩
        have hS13 := SH.same hS12 hk10
        refine ⟨fun h_ => (KB.transN (KB.transN (KB.transN (KB.refl _ _) hk8) hk9) hk10), ?_⟩
        iterate 2 refine WS.pure rfl rfl (fun _ => LV.addS rfl rfl (by first | omega | (simp only [ByteArray.size_append, lit1]; omega) | (simp only [ByteArray.size_append, lit1, str_size, List.length_cons, List.length_nil]; omega))) ?_
        refine WS.call rfl rfl (XC.fn Try.func36 (by kernel_rfl) rfl rfl rfl) (srep_calls (n := n1) (by omega) (by omega)) ?_
        rintro v_ w14 ⟨rfl, hk11⟩
        have hS14 := SH.same hS13 hk11
        refine ⟨fun h_ => (KB.transN (KB.transN (KB.transN (KB.transN (KB.refl _ _) hk8) hk9) hk10) hk11), ?_⟩
        iterate 2 refine WS.pure rfl rfl (fun _ => LV.addS rfl rfl (by first | omega | (simp only [ByteArray.size_append, lit1]; omega) | (simp only [ByteArray.size_append, lit1, str_size, List.length_cons, List.length_nil]; omega))) ?_
        have hS15 : SH w No w14 [rowE eU8 5 (.slice A_out out.length c_out) out, blkE b3 30 #[(.int .i64 ((l.getD (ix2).toNat (0, 0)).1)), (.int .i64 ((l.getD (ix2).toNat (0, 0)).2))]] := (SH.front [_] hS14)
        refine WS.xe rfl rfl (XE.appendS hS15 Try.underlying53 Try.underlying9 ti5 rfl rfl (by simp only [ByteArray.size_append]; omega)) ?_
        rintro _ w15 ⟨A3, c3, rfl, hS16, hk12⟩
        refine ⟨fun h_ => (by cases h_), ?_⟩
        refine WS.pure rfl rfl (fun _ => LV.asg rfl) ?_
        refine WS.nil (blockQ.n <| thenQ.n ?_)
        refine WC.region ?_
        refine WL.lv rfl (LV.add rfl rfl (wr64 (by omega) (by omega))) ?_
        refine WL.lv rfl (LV.mv rfl) ?_
        refine WL.nil (thenQ.n ?_)
        have hS17 : SH w No w15 [rowE eU8 5 (.slice A3 ((out ++ bytesOf ((((((((DEC (ix2 + 1)) ++ ⟨#[32, 43]⟩) ++ (DEC ((l.getD (ix2).toNat (0, 0)).1))) ++ ⟨#[32, 45]⟩) ++ (DEC ((l.getD (ix2).toNat (0, 0)).2))) ++ ⟨#[32]⟩) ++ (RPB (n1).toNat)) ++ ⟨#[10]⟩)).length) c3) (out ++ bytesOf ((((((((DEC (ix2 + 1)) ++ ⟨#[32, 43]⟩) ++ (DEC ((l.getD (ix2).toNat (0, 0)).1))) ++ ⟨#[32, 45]⟩) ++ (DEC ((l.getD (ix2).toNat (0, 0)).2))) ++ ⟨#[32]⟩) ++ (RPB (n1).toNat)) ++ ⟨#[10]⟩))] := (SH.take 1 rfl hS16)
        exact ⟨_, by omega, A3, c3, (out ++ bytesOf ((((((((DEC (ix2 + 1)) ++ ⟨#[32, 43]⟩) ++ (DEC ((l.getD (ix2).toNat (0, 0)).1))) ++ ⟨#[32, 45]⟩) ++ (DEC ((l.getD (ix2).toNat (0, 0)).2))) ++ ⟨#[32]⟩) ++ (RPB (n1).toNat)) ++ ⟨#[10]⟩)), ix2 + 1, by omega, by omega, (by rw [BARN_at ix2lo, ← q1]; unfold BARL; rw [← u1]), (by simp only [List.length_append, bytesOf_len, ByteArray.size_append]; omega), hS17, rfl, Weak.cons rfl <| Weak.cons rfl <| Weak.cons rfl <| Weak.cons rfl <| Weak.cons rfl <| Weak.cons rfl <| Weak.nil _⟩
    · skip
      refine WC.exit (thenQ.x <| thenQ.x <| blockQ.hit <| thenQ.n ?_)
      refine WC.seq ?_
      refine WC.region ?_
      refine WL.lv rfl (LV.mv rfl) ?_
      iterate 2 refine WL.lv rfl (LV.asg rfl) ?_
      refine WL.nil (thenQ.n ?_)
      refine WC.ret (?_)
      have hres1 : (out : List Int) = BARN (MST l) l l.length := by rw [q1, show ix2.toNat = l.length by omega]
      exact ⟨_, fun a ha => res2 rfl ha rfl rfl, (by rw [← hres1]; exact ⟨_, _, rfl, hL2⟩)⟩

theorem texts_calls {w : World} {A_lists : Option Addr} {n_lists c_lists : Nat} {lists : List (SV × List Ln)} (h_lists : St No w (RdRR eL (.slice A_lists n_lists c_lists) lists)) (hn_lists : lists.length = n_lists)  :
    Calls Try.prog 6 #[(.slice A_lists n_lists c_lists)] w fun e w' => ∃ v, e = .returned v ∧ (fun v w' => ∃ (A0' : Option Addr) (c0' : Nat) (rows' : List (SV × List Ln)), v = .slice A0' rows'.length c0' ∧ rows'.map (·.2) = TXT (lists.map (·.2)) ∧ St No w (RdIn (fun s : SV => s) eL rows') ∧ SH w No w' [rowE eV 24 (.slice A0' rows'.length c0') (rows'.map (·.1))]) v w' := by
  subst hn_lists
  have hS : SH w No w [] := SH.nil _ _
  refine calls (l := litOf [(.slice A_lists lists.length c_lists)] 0) Try.func6 rfl (n := 30) rfl (Nat.le_of_ble_eq_true rfl) (lit_args _) ?_
  refine WC.seq ?_
  refine WC.region ?_
  refine WL.lv rfl (LV.asg rfl) ?_
  refine WL.nil (thenQ.n ?_)
  refine WC.seq ?_
  refine WC.region ?_
  have hS1 := SH.nilRow (E := eV) (T := 24) hS
  refine WL.lv rfl (LV.asg rfl) ?_
  refine WL.nil (thenQ.n ?_)
  iterate 2 refine WC.seq ?_
  refine WC.region ?_
  refine WL.lv rfl (LV.asg rfl) ?_
  refine WL.nil (thenQ.n ?_)
  refine WC.block ?_
  refine WC.loop (fun m_ f_ w_ => ∃ (i : Int) (A2 : Option Addr) (c2 : Nat) (out : List SV) (rows : List (SV × List Ln)), (0 ≤ i) ∧ (i ≤ 8 ∧ i ≤ lists.length) ∧ (out = rows.map (·.1)) ∧ (rows.map (·.2) = ((lists.map (·.2)).take i.toNat).map (fun l => l.take 30)) ∧ (St No w (RdIn (fun s : SV => s) eL rows)) ∧ ((out.length : Int) = i) ∧ SH w No w_ [rowE eV 24 (.slice A2 out.length c2) out] ∧ m_ = (((lists.length : Int) - i).toNat) ∧ Weak (lit [(0, (.slice A_lists lists.length c_lists)), (2, (.slice none 0 0)), (3, (.slice A2 out.length c2)), (4, (.int .i64 i))]) f_) _ ⟨0, none, 0, [], ([] : List (SV × List Ln)), by omega, by omega, rfl, rfl, St.in0, rfl, hS1, rfl, Weak.cons rfl <| Weak.cons rfl <| Weak.cons rfl <| Weak.cons rfl <| Weak.nil _⟩ ?_
  rintro m1 f1 w1 ⟨i, A2, c2, out, rows, q0, q1, q2, q3, q4, q5, hL1, rfl, hw1⟩
  refine WC.weak hw1 ?_
  clear hw1
  iterate 2 refine WC.seq ?_
  refine WC.region ?_
  iterate 2 refine WL.lv rfl (LV.mv rfl) ?_
  refine WL.lv rfl (LV.lenL Try.underlying22 rfl) ?_
  rcases Decidable.em (i < (lists.length : Int)) with hg1 | hg1
  · refine WL.lv rfl (LV.as (LV.ltI rfl rfl) (decide_eq_true hg1)) ?_
    iterate 2 refine WL.lv rfl (LV.mv rfl) ?_
    refine WL.lv rfl (LV.ltI rfl rfl) ?_
    refine WL.lv rfl (LV.pickT rfl rfl) ?_
    refine WL.nil (thenQ.n ?_)
    refine WC.condP (p := i < 8) rfl (fun hc12 => ?_) (fun hc12 => ?_)
    · skip
      refine WC.skip (thenQ.n ?_)
      refine WC.seq ?_
      refine WC.block ?_
      have hS2 := SH.drew hL1
      refine WC.regionD [13] (fun w_ => KB No w1.drew w_) [(.pure, 0), (.pure, 1), (.pure, 2), (.pure, 3), (.look, 4), (.pure, 5), (.pure, 6), (.pure, 7), (.look, 8), (.pure, 9), (.pure, 10), (.pure, 11), (.forced, 12), (.forced, 13), (.pure, 14)] (by kernel_rfl) (by kernel_rfl) (KB.refl _ _) ?_
      iterate 3 refine WS.pure rfl rfl (fun _ => LV.mv rfl) ?_
      obtain ⟨A1, c1, A3, c3, e1, g1, e2, r1⟩ := St.eltRR (SH.stN hS2 h_lists) default i (by omega) (by omega)
      refine WS.pure rfl rfl (fun _ => LV.idxA Try.underlying22 ti24.sz rfl e1 rfl (by omega) (by omega)) ?_
      refine WS.look rfl rfl (fun _ hk_ => LV.load1 Try.underlying24 rfl rfl (g1 _ hk_)) ?_
      iterate 2 refine WS.pure rfl rfl (fun _ => LV.mv rfl) ?_
      obtain ⟨A4, c4, A5, c5, e3, g2, e4, r2⟩ := St.eltRR (SH.stN hS2 h_lists) default i (by omega) (by omega)
      refine WS.pure rfl rfl (fun _ => LV.idxA Try.underlying22 ti24.sz rfl e3 rfl (by omega) (by omega)) ?_
      refine WS.look rfl rfl (fun _ hk_ => LV.load1 Try.underlying24 rfl rfl (g2 _ hk_)) ?_
      refine WS.pure rfl rfl (fun _ => LV.lenL Try.underlying24 rfl) ?_
      refine WS.pure rfl rfl (fun _ => LV.minI rfl rfl) ?_
      have hcap1 : (lists.getD (i).toNat default).2.length ≤ c3 := (Rd.cap (St.now (St.inner (SH.stN hS2 h_lists) (getD_mem (by omega)) e2)))
      refine WS.pure rfl rfl (fun _ => LV.cut Try.underlying24 ti52.sz rfl rfl rfl rfl ⟨.inl ⟨rfl, rfl⟩, .inr ⟨.i64, by rw [Int.toNat_of_nonneg (a := min ((lists.getD (i).toNat default).2.length : Int) 30) (by omega)] <;> rfl⟩, .inl ⟨rfl, rfl⟩⟩ (by omega) (by omega) (by omega)) ?_
      refine WS.xe rfl rfl (XE.buildSlice (E := eV) [(0, (.slice (if c3 = 0 then A3 else A3.map (·.add (0 * 2))) ((min ((lists.getD (i).toNat default).2.length : Int) 30).toNat - 0) (c3 - 0)))] #[(.slice (if c3 = 0 then A3 else A3.map (·.add (0 * 2))) ((min ((lists.getD (i).toNat default).2.length : Int) 30).toNat - 0) (c3 - 0))] [(⟨(if c3 = 0 then A3 else A3.map (·.add (0 * 2))), ((min ((lists.getD (i).toNat default).2.length : Int) 30).toNat - 0), (c3 - 0)⟩ : SV)] hS2 Try.underlying22 ti24 rfl (by decide) (by kernel_rfl) (.inr rfl) rfl rfl (by decide)) ?_
      rintro _ w2 ⟨b1, rfl, hS3, hk1⟩
      refine ⟨fun h_ => (KB.transN (KB.refl _ _) hk1), ?_⟩
      have hS4 : SH w No w2 [rowE eV 24 (.slice A2 out.length c2) out, rowE eV 24 (.slice (some ⟨b1, 0, none⟩) 1 1) [(⟨(if c3 = 0 then A3 else A3.map (·.add (0 * 2))), ((min ((lists.getD (i).toNat default).2.length : Int) 30).toNat - 0), (c3 - 0)⟩ : SV)]] := (SH.front [_] hS3)
      refine WS.xe rfl rfl (XE.append hS4 Try.underlying22 ti24 rfl (St.now (SH.rd hS4 (.tail _ (.head _)))) rfl rfl (by first | omega | simp only [List.length_append, List.length_cons, List.length_nil, List.length_take, List.length_reverse, List.length_drop] at *; omega) (by first | omega | simp only [List.length_append, List.length_cons, List.length_nil, List.length_take, List.length_reverse, List.length_drop] at *; omega)) ?_
      rintro _ w3 ⟨A6, c6, rfl, hS5, hk2⟩
      refine ⟨fun h_ => (by cases h_), ?_⟩
      refine WS.pure rfl rfl (fun _ => LV.asg rfl) ?_
      refine WS.nil (blockQ.n <| thenQ.n ?_)
      refine WC.region ?_
      refine WL.lv rfl (LV.mv rfl) ?_
      refine WL.lv rfl (LV.add rfl rfl (wr64 (by omega) (by omega))) ?_
      refine WL.lv rfl (LV.asg rfl) ?_
      refine WL.nil (thenQ.n ?_)
      have hS6 : SH w No w3 [rowE eV 24 (.slice A6 ((out ++ [(⟨(if c3 = 0 then A3 else A3.map (·.add (0 * 2))), ((min ((lists.getD (i).toNat default).2.length : Int) 30).toNat - 0), (c3 - 0)⟩ : SV)]).length) c6) (out ++ [(⟨(if c3 = 0 then A3 else A3.map (·.add (0 * 2))), ((min ((lists.getD (i).toNat default).2.length : Int) 30).toNat - 0), (c3 - 0)⟩ : SV)])] := (SH.take 1 rfl hS5)
      exact ⟨_, by omega, i + 1, A6, c6, (out ++ [(⟨(if c3 = 0 then A3 else A3.map (·.add (0 * 2))), ((min ((lists.getD (i).toNat default).2.length : Int) 30).toNat - 0), (c3 - 0)⟩ : SV)]), (rows ++ [((⟨(if c3 = 0 then A3 else A3.map (·.add (0 * 2))), ((min ((lists.getD (i).toNat default).2.length : Int) 30).toNat - 0), (c3 - 0)⟩ : SV), (lists.getD i.toNat default).2.take 30)]), by omega, by omega, (by rw [q2, List.map_append]; rfl), (by rw [← txt_snoc q0 (by rw [List.length_map]; omega), List.map_append, q3, rrat q0 (by omega)]; rfl), (St.inSnoc rfl (txt_in (St.inner h_lists (getD_mem (by omega)) e2)) q4), (by simp; omega), hS6, rfl, Weak.cons rfl <| Weak.cons rfl <| Weak.cons rfl <| Weak.cons rfl <| Weak.nil _⟩
    · skip
      refine WC.exit (thenQ.x <| thenQ.x <| blockQ.hit <| thenQ.n ?_)
      refine WC.seq ?_
      refine WC.region ?_
      refine WL.lv rfl (LV.mv rfl) ?_
      refine WL.lv rfl (LV.asg rfl) ?_
      refine WL.nil (thenQ.n ?_)
      refine WC.ret (?_)
      exact ⟨_, fun a ha => res1 rfl ha rfl, (by subst q2; have hs_ := hL1; rw [List.length_map] at hs_ q5; rw [List.length_map]; exact ⟨_, _, rows, rfl, q3.trans (txt_of q0 q1.1 (fun h_ => by rw [List.length_map] at h_; omega)), q4, hs_⟩)⟩
  · refine WL.lv rfl (LV.as (LV.ltI rfl rfl) (decide_eq_false hg1)) ?_
    refine WL.lv rfl (LV.mv rfl) ?_
    iterate 2 refine WL.off rfl ?_
    refine WL.lv rfl (LV.pickF rfl rfl) ?_
    refine WL.nil (thenQ.n ?_)
    refine WC.condF rfl ?_
    refine WC.exit (thenQ.x <| thenQ.x <| blockQ.hit <| thenQ.n ?_)
    refine WC.seq ?_
    refine WC.region ?_
    refine WL.lv rfl (LV.mv rfl) ?_
    refine WL.lv rfl (LV.asg rfl) ?_
    refine WL.nil (thenQ.n ?_)
    refine WC.ret (?_)
    exact ⟨_, fun a ha => res1 rfl ha rfl, (by subst q2; have hs_ := hL1; rw [List.length_map] at hs_ q5; rw [List.length_map]; exact ⟨_, _, rows, rfl, q3.trans (txt_of q0 q1.1 (fun h_ => by rw [List.length_map] at h_; omega)), q4, hs_⟩)⟩

set_option maxHeartbeats 4000000 in
set_option maxRecDepth 100000 in
theorem live40_calls {w : World}  :
    Calls Try.prog 9 #[] w fun e w' => ∃ v, e = .returned v ∧ (fun v w' => v = .bool (decide (true)) ∧ KB No w w') v w' := by
  have hS : SH w No w [] := SH.nil _ _
  refine calls (l := litOf [] 0) Try.func9 rfl (n := 62) rfl (Nat.le_of_ble_eq_true rfl) (lit_args _) ?_
  refine WC.seq ?_
  refine WC.region ?_
  refine WL.lv rfl (LV.asg rfl) ?_
  refine WL.nil (thenQ.n ?_)
  refine WC.seq ?_
  refine WC.region ?_
  refine WL.lv rfl (LV.build (vs := [(0, (.string ⟨#[97]⟩))]) (places := #[(0, 1), (1, 1)]) (cs := #[(.string ⟨#[97]⟩), (.bool false)]) Try.underlying52 ti52 (fun _ => by kernel_rfl) rfl rfl) ?_
  refine WL.lv rfl (LV.build (vs := [(0, (.string ⟨#[98]⟩))]) (places := #[(0, 1), (1, 1)]) (cs := #[(.string ⟨#[98]⟩), (.bool false)]) Try.underlying52 ti52 (fun _ => by kernel_rfl) rfl rfl) ?_
  refine WL.xe rfl (XE.alloc #[(.string ⟨#[]⟩), (.bool false)] hS ti52 rfl) ?_
  rintro _ w1 ⟨b1, rfl, hS1, hk1⟩
  refine WL.xe rfl (XE.alloc #[(.string ⟨#[]⟩), (.bool false)] hS1 ti52 rfl) ?_
  rintro _ w2 ⟨b2, rfl, hS2, hk2⟩
  have hS4 : SH w No w2 [blkE b1 52 #[(.string ⟨#[]⟩), (.bool false)], blkE b2 52 #[(.string ⟨#[]⟩), (.bool false)]] := (SH.front [_] hS2)
  refine WL.xse rfl (XSE.blkAgg #[(.string ⟨#[97]⟩), (.bool false)] hS4 (by kernel_rfl) rfl (by kernel_rfl) rfl rfl) ?_
  rintro w3 ⟨hS3, hk3⟩
  have hS6 : SH w No w3 [blkE b2 52 #[(.string ⟨#[]⟩), (.bool false)], blkE b1 52 #[(.string ⟨#[97]⟩), (.bool false)]] := (SH.front [_] hS3)
  refine WL.xse rfl (XSE.blkAgg #[(.string ⟨#[98]⟩), (.bool false)] hS6 (by kernel_rfl) rfl (by kernel_rfl) rfl rfl) ?_
  rintro w4 ⟨hS5, hk4⟩
  refine WL.nil (thenQ.n ?_)
  refine WC.seq ?_
  refine WC.region ?_
  refine WL.lv rfl (LV.loadAgg (cs := [(.string ⟨#[97]⟩), (.bool false)]) Try.underlying52 rfl ti52 rfl rfl (Blk.agg (SH.at hS5 (.tail _ (.head _))) _ (KB.refl No _))) ?_
  refine WL.xe rfl (XE.buildSlice (E := eL) [(0, (.agg #[(.string ⟨#[97]⟩), (.bool false)]))] #[(.string ⟨#[97]⟩), (.bool false)] [(⟨#[97]⟩, false)] hS5 Try.underlying24 ti52 rfl (by decide) (by kernel_rfl) (.inr rfl) rfl rfl (by decide)) ?_
  rintro _ w5 ⟨b3, rfl, hS7, hk5⟩
  refine WL.lv rfl (LV.loadAgg (cs := [(.string ⟨#[97]⟩), (.bool false)]) Try.underlying52 rfl ti52 rfl rfl (Blk.agg (SH.at hS7 (.tail _ (.tail _ (.head _)))) _ (KB.refl No _))) ?_
  refine WL.lv rfl (LV.loadAgg (cs := [(.string ⟨#[98]⟩), (.bool false)]) Try.underlying52 rfl ti52 rfl rfl (Blk.agg (SH.at hS7 (.tail _ (.head _))) _ (KB.refl No _))) ?_
  refine WL.xe rfl (XE.buildSlice (E := eL) [(0, (.agg #[(.string ⟨#[97]⟩), (.bool false)])), (1, (.agg #[(.string ⟨#[98]⟩), (.bool false)]))] #[(.string ⟨#[97]⟩), (.bool false), (.string ⟨#[98]⟩), (.bool false)] [(⟨#[97]⟩, false), (⟨#[98]⟩, false)] hS7 Try.underlying24 ti52 rfl (by decide) (by kernel_rfl) (.inr rfl) rfl rfl (by decide)) ?_
  rintro _ w6 ⟨b4, rfl, hS8, hk6⟩
  refine WL.lv rfl (LV.loadAgg (cs := [(.string ⟨#[98]⟩), (.bool false)]) Try.underlying52 rfl ti52 rfl rfl (Blk.agg (SH.at hS8 (.tail _ (.tail _ (.head _)))) _ (KB.refl No _))) ?_
  refine WL.xe rfl (XE.buildSlice (E := eL) [(0, (.agg #[(.string ⟨#[98]⟩), (.bool false)]))] #[(.string ⟨#[98]⟩), (.bool false)] [(⟨#[98]⟩, false)] hS8 Try.underlying24 ti52 rfl (by decide) (by kernel_rfl) (.inr rfl) rfl rfl (by decide)) ?_
  rintro _ w7 ⟨b5, rfl, hS9, hk7⟩
  refine WL.xe rfl (XE.buildSlice (E := eV) [(0, (.slice (some ⟨b3, 0, none⟩) 1 1)), (1, (.slice (some ⟨b4, 0, none⟩) 2 2)), (2, (.slice (some ⟨b5, 0, none⟩) 1 1))] #[(.slice (some ⟨b3, 0, none⟩) 1 1), (.slice (some ⟨b4, 0, none⟩) 2 2), (.slice (some ⟨b5, 0, none⟩) 1 1)] [(⟨(some ⟨b3, 0, none⟩), 1, 1⟩ : SV), (⟨(some ⟨b4, 0, none⟩), 2, 2⟩ : SV), (⟨(some ⟨b5, 0, none⟩), 1, 1⟩ : SV)] hS9 Try.underlying22 ti24 rfl (by decide) (by kernel_rfl) (.inr rfl) rfl rfl (by decide)) ?_
  rintro _ w8 ⟨b6, rfl, hS10, hk8⟩
  refine WL.call rfl (XC.fn Try.func7 (by kernel_rfl) rfl rfl rfl) (churns_calls  (St.rrOf (rows := [((⟨(some ⟨b3, 0, none⟩), 1, 1⟩ : SV), [(⟨#[97]⟩, false)]), ((⟨(some ⟨b4, 0, none⟩), 2, 2⟩ : SV), [(⟨#[97]⟩, false), (⟨#[98]⟩, false)]), ((⟨(some ⟨b5, 0, none⟩), 1, 1⟩ : SV), [(⟨#[98]⟩, false)])]) (SH.rd hS10 (.head _)) (St.inCons (r := (⟨(some ⟨b3, 0, none⟩), 1, 1⟩ : SV)) rfl (SH.rd hS10 (.tail _ (.tail _ (.tail _ (.head _))))) (St.inCons (r := (⟨(some ⟨b4, 0, none⟩), 2, 2⟩ : SV)) rfl (SH.rd hS10 (.tail _ (.tail _ (.head _)))) (St.inCons (r := (⟨(some ⟨b5, 0, none⟩), 1, 1⟩ : SV)) rfl (SH.rd hS10 (.tail _ (.head _))) St.in0)))) rfl (by show 3 ≤ 1000; decide)) ?_
  rintro v_ w9 ⟨A1, c1, rfl, hS11⟩
  have hS12 := SH.joinN hS10 hS11
  have hlv_ := live_chr (rows := [((⟨(some ⟨b3, 0, none⟩), 1, 1⟩ : SV), [(⟨#[97]⟩, false)]), ((⟨(some ⟨b4, 0, none⟩), 2, 2⟩ : SV), [(⟨#[97]⟩, false), (⟨#[98]⟩, false)]), ((⟨(some ⟨b5, 0, none⟩), 1, 1⟩ : SV), [(⟨#[98]⟩, false)])]) rfl
  have hlv1_ := hlv_.1
  have hlv2_ := hlv_.2
  have hlv3_ : (CHR [((⟨(some ⟨b3, 0, none⟩), 1, 1⟩ : SV), [(⟨#[97]⟩, false)]), ((⟨(some ⟨b4, 0, none⟩), 2, 2⟩ : SV), [(⟨#[97]⟩, false), (⟨#[98]⟩, false)]), ((⟨(some ⟨b5, 0, none⟩), 1, 1⟩ : SV), [(⟨#[98]⟩, false)])]).length = 2 := by rw [hlv1_]; rfl
  refine WL.lv rfl (LV.mv rfl) ?_
  iterate 2 refine WL.lv rfl (LV.extract rfl rfl) ?_
  iterate 2 refine WL.lv rfl (LV.asg rfl) ?_
  refine WL.nil (thenQ.n ?_)
  refine WC.seq ?_
  refine WC.region ?_
  refine WL.lv rfl (LV.mv rfl) ?_
  refine WL.call rfl (XC.fn Try.func20 (by kernel_rfl) rfl rfl rfl) (bars_calls  (SH.rd hS12 (.head _)) rfl (by rw [hlv1_]; decide) (by omega)) ?_
  rintro v_ w10 ⟨A2, c2, rfl, hS13⟩
  have hS14 := SH.joinN hS12 hS13
  have hbr_ := (show strOfNums (BARN (MST (CHR [((⟨(some ⟨b3, 0, none⟩), 1, 1⟩ : SV), [(⟨#[97]⟩, false)]), ((⟨(some ⟨b4, 0, none⟩), 2, 2⟩ : SV), [(⟨#[97]⟩, false), (⟨#[98]⟩, false)]), ((⟨(some ⟨b5, 0, none⟩), 1, 1⟩ : SV), [(⟨#[98]⟩, false)])])) (CHR [((⟨(some ⟨b3, 0, none⟩), 1, 1⟩ : SV), [(⟨#[97]⟩, false)]), ((⟨(some ⟨b4, 0, none⟩), 2, 2⟩ : SV), [(⟨#[97]⟩, false), (⟨#[98]⟩, false)]), ((⟨(some ⟨b5, 0, none⟩), 1, 1⟩ : SV), [(⟨#[98]⟩, false)])]) (CHR [((⟨(some ⟨b3, 0, none⟩), 1, 1⟩ : SV), [(⟨#[97]⟩, false)]), ((⟨(some ⟨b4, 0, none⟩), 2, 2⟩ : SV), [(⟨#[97]⟩, false), (⟨#[98]⟩, false)]), ((⟨(some ⟨b5, 0, none⟩), 1, 1⟩ : SV), [(⟨#[98]⟩, false)])]).length) = strOfNums (BARN 1 [(1, 0), (0, 1)] 2) by rw [hlv1_, live_mst]; rfl).trans live_bars
  refine WL.lv rfl (LV.mv rfl) ?_
  iterate 2 refine WL.lv rfl (LV.extract rfl rfl) ?_
  iterate 2 refine WL.lv rfl (LV.asg rfl) ?_
  refine WL.nil (thenQ.n ?_)
  refine WC.seq ?_
  refine WC.region ?_
  refine WL.lv rfl (LV.mv rfl) ?_
  refine WL.lv rfl (LV.as (LV.eqI rfl rfl) (decide_eq_true (by omega))) ?_
  iterate 2 refine WL.lv rfl (LV.mv rfl) ?_
  refine WL.lv rfl (LV.lenL Try.underlying25 rfl) ?_
  refine WL.lv rfl (LV.as (LV.eqI rfl rfl) (decide_eq_true (by omega))) ?_
  refine WL.lv rfl (LV.pickT rfl rfl) ?_
  iterate 2 refine WL.lv rfl (LV.mv rfl) ?_
  obtain ⟨A3, c3, e1, g1⟩ := St.elt (SH.rd hS14 (.tail _ (.head _))) (0, 0) (0 : Int) (by omega) (by omega)
  refine WL.lv rfl (LV.idxA Try.underlying25 ti30.sz rfl e1 rfl (by omega) (by omega)) ?_
  refine WL.lv rfl (LV.loadAgg (cs := [(.int .i64 (((CHR [((⟨(some ⟨b3, 0, none⟩), 1, 1⟩ : SV), [(⟨#[97]⟩, false)]), ((⟨(some ⟨b4, 0, none⟩), 2, 2⟩ : SV), [(⟨#[97]⟩, false), (⟨#[98]⟩, false)]), ((⟨(some ⟨b5, 0, none⟩), 1, 1⟩ : SV), [(⟨#[98]⟩, false)])]).getD ((0 : Int)).toNat (0, 0)).1)), (.int .i64 (((CHR [((⟨(some ⟨b3, 0, none⟩), 1, 1⟩ : SV), [(⟨#[97]⟩, false)]), ((⟨(some ⟨b4, 0, none⟩), 2, 2⟩ : SV), [(⟨#[97]⟩, false), (⟨#[98]⟩, false)]), ((⟨(some ⟨b5, 0, none⟩), 1, 1⟩ : SV), [(⟨#[98]⟩, false)])]).getD ((0 : Int)).toNat (0, 0)).2))]) Try.underlying30 rfl ti30 rfl rfl (fun j u hu => g1 _ (KB.refl No _) j u hu)) ?_
  refine WL.lv rfl (LV.build (vs := [(0, (.int .i64 1))]) (places := #[(0, 1), (1, 1)]) (cs := #[(.int .i64 1), (.int .i64 0)]) Try.underlying30 ti30 (fun _ => by kernel_rfl) rfl rfl) ?_
  refine WL.lv rfl (LV.as (LV.eqG (by decide) (ae_s2 Try.underlying30 (by decide) (by kernel_rfl) (pt_int Try.underlying3 rfl) (pt_int Try.underlying3 rfl) (pt_int Try.underlying3 rfl) (pt_int Try.underlying3 rfl) (ae_int Try.underlying3) (ae_int Try.underlying3)) (by kernel_rfl) rfl rfl) (decide_eq_true (by rw [hlv1_]; decide))) ?_
  refine WL.lv rfl (LV.pickT rfl rfl) ?_
  iterate 2 refine WL.lv rfl (LV.mv rfl) ?_
  obtain ⟨A4, c4, e2, g2⟩ := St.elt (SH.rd hS14 (.tail _ (.head _))) (0, 0) (1 : Int) (by omega) (by omega)
  refine WL.lv rfl (LV.idxA Try.underlying25 ti30.sz rfl e2 rfl (by omega) (by omega)) ?_
  refine WL.lv rfl (LV.loadAgg (cs := [(.int .i64 (((CHR [((⟨(some ⟨b3, 0, none⟩), 1, 1⟩ : SV), [(⟨#[97]⟩, false)]), ((⟨(some ⟨b4, 0, none⟩), 2, 2⟩ : SV), [(⟨#[97]⟩, false), (⟨#[98]⟩, false)]), ((⟨(some ⟨b5, 0, none⟩), 1, 1⟩ : SV), [(⟨#[98]⟩, false)])]).getD ((1 : Int)).toNat (0, 0)).1)), (.int .i64 (((CHR [((⟨(some ⟨b3, 0, none⟩), 1, 1⟩ : SV), [(⟨#[97]⟩, false)]), ((⟨(some ⟨b4, 0, none⟩), 2, 2⟩ : SV), [(⟨#[97]⟩, false), (⟨#[98]⟩, false)]), ((⟨(some ⟨b5, 0, none⟩), 1, 1⟩ : SV), [(⟨#[98]⟩, false)])]).getD ((1 : Int)).toNat (0, 0)).2))]) Try.underlying30 rfl ti30 rfl rfl (fun j u hu => g2 _ (KB.refl No _) j u hu)) ?_
  refine WL.lv rfl (LV.build (vs := [(1, (.int .i64 1))]) (places := #[(0, 1), (1, 1)]) (cs := #[(.int .i64 0), (.int .i64 1)]) Try.underlying30 ti30 (fun _ => by kernel_rfl) rfl rfl) ?_
  refine WL.lv rfl (LV.as (LV.eqG (by decide) (ae_s2 Try.underlying30 (by decide) (by kernel_rfl) (pt_int Try.underlying3 rfl) (pt_int Try.underlying3 rfl) (pt_int Try.underlying3 rfl) (pt_int Try.underlying3 rfl) (ae_int Try.underlying3) (ae_int Try.underlying3)) (by kernel_rfl) rfl rfl) (decide_eq_true (by rw [hlv1_]; decide))) ?_
  refine WL.lv rfl (LV.pickT rfl rfl) ?_
  iterate 2 refine WL.lv rfl (LV.mv rfl) ?_
  refine WL.call rfl (XC.fn Try.func14 (by kernel_rfl) rfl rfl rfl) (sum_calls  (SH.rd hS14 (.tail _ (.head _))) rfl (by omega)) ?_
  rintro v_ w11 ⟨m1, d1, rfl, hf1, hf2, hf3, hf4, hk9⟩
  have hS15 := SH.same hS14 hk9
  have hme_ := (cn_some (hf1.trans (by rw [hlv1_]; exact live_mean))).2
  refine WL.lv rfl (LV.field1 Try.underlying38 rfl Try.underlying34 rfl rfl rfl) ?_
  have hsk_4602678819172646912 : sk 4602678819172646912 = (4602678819172646912 : Int) := by decide +kernel
  refine WL.lv rfl (LV.as (LV.eqF (a := m1) (b := 4602678819172646912) rfl rfl) (decide_eq_true (by rw [hme_]; decide +kernel))) ?_
  refine WL.lv rfl (LV.pickT rfl rfl) ?_
  iterate 2 refine WL.lv rfl (LV.mv rfl) ?_
  refine WL.lv rfl (LV.as (LV.eqI rfl rfl) (decide_eq_true (rfl))) ?_
  refine WL.lv rfl (LV.pickT rfl rfl) ?_
  iterate 2 refine WL.lv rfl (LV.mv rfl) ?_
  refine WL.lv rfl (LV.strOf Try.underlying53 Try.underlying5 Try.underlying9 rfl ((SH.rd hS15 (.head _)) _ (KB.refl No _))) ?_
  refine WL.lv rfl (LV.as (c := true) (LV.eqS rfl rfl) (by rw [hbr_]; decide +kernel)) ?_
  refine WL.lv rfl (LV.pickT rfl rfl) ?_
  refine WL.lv rfl (LV.asg rfl) ?_
  refine WL.nil (thenQ.n ?_)
  refine WC.ret (?_)
  exact ⟨_, fun a ha => res1 rfl ha rfl, rfl, hS15.kb⟩

end Go.Proofs.Ytomeffnlmefnlaa
