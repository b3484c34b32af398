/- The law of the greatest ones. -/
import Derived.Test.YtmmdplcnhndcgaaHtG
namespace Go.Proofs.Ytmmdplcnhndcgaa
open Go Go.Gv Go.RowKit Go.Flt Go.Dec Go.Ht
set_option linter.unusedVariables false
set_option linter.unusedSimpArgs false

set_option maxHeartbeats 2000000 in
set_option maxRecDepth 100000 in
theorem heatTop_law {w : World} {A_l : Option Addr} {n_l c_l : Nat} {l : List Nat} {n : Int} (h_l : St No w (Rd eF (.slice A_l n_l c_l) l)) (hn_l : l.length = n_l) (wl : ∀ x ∈ l, x < 18446744073709551616) :
    Calls Try.prog 4 #[(.slice A_l n_l c_l), (.int .i64 n)] w fun e w' => ∃ v, e = .returned v ∧ (fun v w' => v = .bool (decide (true)) ∧ KB No w w') v w' := by
  subst hn_l
  have hma := Rd.max h_l.now
  have hl_ : (l.take 60).length ≤ 60 := by rw [List.length_take]; omega
  have wl_ : ∀ x ∈ l.take 60, x < 18446744073709551616 := fun x hx => wl x (List.mem_of_mem_take hx)
  have hS : SH w No w [] := SH.nil _ _
  refine calls (l := litOf [(.slice A_l l.length c_l), (.int .i64 n)] 0) Try.func4 rfl (n := 122) rfl (Nat.le_of_ble_eq_true rfl) (lit_args _) ?_
  refine WC.seq ?_
  refine WC.region ?_
  refine WL.lv rfl (LV.asg rfl) ?_
  refine WL.nil (thenQ.n ?_)
  refine WC.seq ?_
  refine WC.region ?_
  refine WL.lv rfl (LV.mv rfl) ?_
  refine WL.call rfl (XC.fn Try.func11 (by kernel_rfl) rfl rfl rfl) (few32_calls (SH.stN hS h_l)) ?_
  rintro v_ w1 ⟨rfl, hk1⟩
  have hS1 := SH.same hS hk1
  refine WL.lv rfl (LV.asg rfl) ?_
  refine WL.nil (thenQ.n ?_)
  refine WC.seq ?_
  refine WC.region ?_
  refine WL.lv rfl (LV.mv rfl) ?_
  refine WL.lv rfl (LV.minI rfl rfl) ?_
  refine WL.lv rfl (LV.asg rfl) ?_
  refine WL.nil (thenQ.n ?_)
  refine WC.seq ?_
  refine WC.region ?_
  iterate 2 refine WL.lv rfl (LV.mv rfl) ?_
  refine WL.call rfl (XC.fn Try.func12 (by kernel_rfl) rfl rfl rfl) (top_calls (n := (min n 100)) (SH.stN hS1 (few_rd 60 h_l)) rfl (wl_) (by first | omega | (simp; done))) ?_
  rintro v_ w2 ⟨A1, c1, out1, rfl, hf1, hS2⟩
  have hS3 := SH.joinN hS1 hS2
  have htop_ := hf1
  have htl_ := htop_.len
  obtain ⟨ysT_, hto_, hte_⟩ := id htop_
  refine WL.lv rfl (LV.asg rfl) ?_
  refine WL.nil (thenQ.n ?_)
  iterate 2 refine WC.seq ?_
  refine WC.region ?_
  iterate 3 refine WL.lv rfl (LV.mv rfl) ?_
  refine WL.call rfl (XC.fn Try.func14 (by kernel_rfl) rfl rfl rfl) (rtop_calls (n := (min n 100)) (SH.stN hS3 (few_rd 60 h_l)) rfl (wl_) (by first | omega | (simp; done)) (hto_)) ?_
  rintro v_ w3 ⟨A2, c2, out2, rfl, hf2, hS4⟩
  have hS5 := SH.joinN hS3 hS4
  have hsame_ := top_same (by omega) htop_ hf2
  refine WL.call rfl (XC.fn Try.func13 (by kernel_rfl) rfl rfl rfl) (Calls.asB (ints_calls  (SH.rd hS5 (.tail _ (.head _))) rfl (SH.rd hS5 (.head _)) rfl ) (decide_eq_true (hsame_))) ?_
  rintro v_ w4 ⟨rfl, hk2⟩
  have hS6 := SH.same hS5 hk2
  refine WL.lv rfl (LV.notB rfl) ?_
  iterate 2 refine WL.lv rfl (LV.mv rfl) ?_
  refine WL.lv rfl (LV.lenL Try.underlying22 rfl) ?_
  refine WL.lv rfl (LV.mv rfl) ?_
  refine WL.lv rfl (LV.maxI rfl rfl) ?_
  refine WL.lv rfl (LV.as (LV.gtI rfl rfl) (decide_eq_false (by omega))) ?_
  refine WL.lv rfl (LV.pickF rfl rfl) ?_
  refine WL.nil (thenQ.n ?_)
  refine WC.condF rfl ?_
  refine WC.skip (thenQ.n ?_)
  refine WC.seq ?_
  refine WC.region ?_
  refine WL.lv rfl (LV.mv rfl) ?_
  refine WL.lv rfl (LV.lenL Try.underlying23 rfl) ?_
  refine WL.xe rfl (XE.make (E := eB) (n := (l.take 60).length) false hS6 Try.underlying34 ti4 rfl rfl rfl rfl rfl rfl (by omega) (by omega)) ?_
  rintro _ w5 ⟨b1, rfl, hS7, hk3⟩
  refine WL.lv rfl (LV.asg rfl) ?_
  refine WL.nil (thenQ.n ?_)
  iterate 2 refine WC.seq ?_
  refine WC.region ?_
  refine WL.lv rfl (LV.asg rfl) ?_
  refine WL.nil (thenQ.n ?_)
  refine WC.block ?_
  refine WC.loop (fun m_ f_ w_ => ∃ (in_ : List Bool) (i : Int), (0 ≤ i) ∧ (i ≤ (out1.length : Int)) ∧ (TK (l.take 60) (out1.take i.toNat) in_) ∧ SH w No w_ [rowE eB 4 (.slice (some ⟨b1, 0, none⟩) ((l.take 60).length) ((l.take 60).length)) in_, rowE eI 3 (.slice A2 out2.length c2) out2, rowE eI 3 (.slice A1 out1.length c1) out1] ∧ m_ = (((out1.length : Int) - i).toNat) ∧ Weak (lit [(0, (.slice (cutA A_l c_l 1) ((l.take 60).length) c_l)), (5, (.slice A1 out1.length c1)), (6, (.slice (some ⟨b1, 0, none⟩) ((l.take 60).length) ((l.take 60).length))), (7, (.int .i64 i))]) f_) _ ⟨(List.replicate ((l.take 60).length) false), 0, by omega, by omega, (TK.z _ rfl), hS7, rfl, Weak.cons rfl <| Weak.cons rfl <| Weak.cons rfl <| Weak.cons rfl <| Weak.nil _⟩ ?_
  rintro m1 f1 w6 ⟨in_, i, ilo, ihi, q2, hL1, rfl, hw1⟩
  refine WC.weak hw1 ?_
  clear hw1
  have htk_ := q2.len
  iterate 2 refine WC.seq ?_
  refine WC.region ?_
  iterate 2 refine WL.lv rfl (LV.mv rfl) ?_
  refine WL.lv rfl (LV.lenL Try.underlying22 rfl) ?_
  refine WL.lv rfl (LV.ltI rfl rfl) ?_
  refine WL.nil (thenQ.n ?_)
  refine WC.condP (p := i < (out1.length : Int)) rfl (fun hk => ?_) (fun hk => ?_)
  · have hat_ := htop_.at_ ilo (by omega)
    refine WC.skip (thenQ.n ?_)
    refine WC.seq ?_
    refine WC.block ?_
    iterate 2 refine WC.seq ?_
    have hS8 := SH.drew hL1
    refine WC.regionD [] (fun w_ => KB No w6.drew w_) [(.pure, 0), (.pure, 1), (.pure, 2), (.look, 3), (.pure, 4), (.pure, 5), (.pure, 6), (.pure, 7), (.pure, 8), (.look, 9), (.pure, 10), (.pure, 11), (.pure, 12), (.pure, 13), (.pure, 14), (.pure, 15), (.pure, 16), (.pure, 17), (.pure, 18), (.look, 19), (.pure, 20), (.look, 21), (.pure, 22), (.pure, 23), (.pure, 24), (.pure, 25), (.pure, 26), (.pure, 27), (.pure, 28), (.pure, 29), (.pure, 30), (.look, 31), (.pure, 32), (.look, 33), (.pure, 34), (.pure, 35), (.pure, 36), (.pure, 37), (.pure, 38), (.look, 39), (.pure, 40), (.look, 41), (.pure, 42), (.pure, 43), (.pure, 44)] (by kernel_rfl) (by kernel_rfl) (KB.refl _ _) ?_
    iterate 2 refine WS.pure rfl rfl (fun _ => LV.mv rfl) ?_
    obtain ⟨A3, c3, e1, g1⟩ := St.elt (SH.rd hS8 (.tail _ (.tail _ (.head _)))) 0 i (by omega) (by omega)
    refine WS.pure rfl rfl (fun _ => LV.idxA Try.underlying22 ti3.sz rfl e1 rfl (by omega) (by omega)) ?_
    refine WS.look rfl rfl (fun _ hk_ => LV.load1 (v := (.int .i64 (gI out1 (i)))) Try.underlying3 rfl rfl (g1 _ hk_ 0 _ rfl)) ?_
    refine WS.pure rfl rfl (fun _ => LV.as (LV.ltI rfl rfl) (decide_eq_false (by omega))) ?_
    iterate 3 refine WS.pure rfl rfl (fun _ => LV.mv rfl) ?_
    obtain ⟨A4, c4, e2, g2⟩ := St.elt (SH.rd hS8 (.tail _ (.tail _ (.head _)))) 0 i (by omega) (by omega)
    refine WS.pure rfl rfl (fun _ => LV.idxA Try.underlying22 ti3.sz rfl e2 rfl (by omega) (by omega)) ?_
    refine WS.look rfl rfl (fun _ hk_ => LV.load1 (v := (.int .i64 (gI out1 (i)))) Try.underlying3 rfl rfl (g2 _ hk_ 0 _ rfl)) ?_
    refine WS.pure rfl rfl (fun _ => LV.mv rfl) ?_
    refine WS.pure rfl rfl (fun _ => LV.lenL Try.underlying23 rfl) ?_
    refine WS.pure rfl rfl (fun _ => LV.as (LV.geI rfl rfl) (decide_eq_false (by omega))) ?_
    refine WS.pure rfl rfl (fun _ => LV.pickF rfl rfl) ?_
    iterate 4 refine WS.pure rfl rfl (fun _ => LV.mv rfl) ?_
    obtain ⟨A5, c5, e3, g3⟩ := St.elt (SH.rd hS8 (.tail _ (.tail _ (.head _)))) 0 i (by omega) (by omega)
    refine WS.pure rfl rfl (fun _ => LV.idxA Try.underlying22 ti3.sz rfl e3 rfl (by omega) (by omega)) ?_
    refine WS.look rfl rfl (fun _ hk_ => LV.load1 (v := (.int .i64 (gI out1 (i)))) Try.underlying3 rfl rfl (g3 _ hk_ 0 _ rfl)) ?_
    obtain ⟨A6, c6, e4, g4⟩ := St.elt (SH.rd hS8 (.head _)) false (gI out1 (i)) (by omega) (by omega)
    refine WS.pure rfl rfl (fun _ => LV.idxA Try.underlying34 ti4.sz rfl e4 rfl (by omega) (by omega)) ?_
    refine WS.look rfl rfl (fun _ hk_ => LV.as (c := false) (LV.load1 (v := (.bool (in_.getD (gI out1 (i)).toNat false))) Try.underlying4 rfl rfl (g4 _ hk_ 0 _ rfl)) (by rw [← Bool.not_eq_true]; exact fun h_ => nd_take htop_.nd ilo (by omega) ((q2.at_ _ hat_.1 hat_.2.1).1 h_))) ?_
    refine WS.pure rfl rfl (fun _ => LV.pickF rfl rfl) ?_
    iterate 2 refine WS.pure rfl rfl (fun _ => LV.mv rfl) ?_
    rcases Decidable.em (i > 0) with hg1 | hg1
    · refine WS.pure rfl rfl (fun _ => LV.as (LV.gtI rfl rfl) (decide_eq_true hg1)) ?_
      iterate 4 refine WS.pure rfl rfl (fun _ => LV.mv rfl) ?_
      have hfa_ := htop_.falls (by omega) (i := i) (by omega) (by omega)
      have hat2_ := htop_.at_ (i := i - 1) (by omega) (by omega)
      have t1_ := tk_is ((l.take 60).getD (gI out1 i).toNat 0)
      have t2_ := tk_is ((l.take 60).getD (gI out1 (i - 1)).toNat 0)
      obtain ⟨A7, c7, e5, g5⟩ := St.elt (SH.rd hS8 (.tail _ (.tail _ (.head _)))) 0 i (by omega) (by omega)
      refine WS.pure rfl rfl (fun _ => LV.idxA Try.underlying22 ti3.sz rfl e5 rfl (by omega) (by omega)) ?_
      refine WS.look rfl rfl (fun _ hk_ => LV.load1 (v := (.int .i64 (gI out1 (i)))) Try.underlying3 rfl rfl (g5 _ hk_ 0 _ rfl)) ?_
      obtain ⟨A8, c8, e6, g6⟩ := St.elt (SH.stN hS8 (few_rd 60 h_l)) 0 (gI out1 (i)) (by omega) (by omega)
      refine WS.pure rfl rfl (fun _ => LV.idxA Try.underlying23 ti28.sz rfl e6 rfl (by omega) (by omega)) ?_
      refine WS.look rfl rfl (fun _ hk_ => LV.load1 (v := (.float .f64 ((l.take 60).getD (gI out1 (i)).toNat 0))) Try.underlying28 rfl rfl (g6 _ hk_ 0 _ rfl)) ?_
      iterate 3 refine WS.pure rfl rfl (fun _ => LV.mv rfl) ?_
      refine WS.pure rfl rfl (fun _ => LV.sub rfl rfl (wr64 (by omega) (by omega))) ?_
      obtain ⟨A9, c9, e7, g7⟩ := St.elt (SH.rd hS8 (.tail _ (.tail _ (.head _)))) 0 (i - 1) (by omega) (by omega)
      refine WS.pure rfl rfl (fun _ => LV.idxA Try.underlying22 ti3.sz rfl e7 rfl (by omega) (by omega)) ?_
      refine WS.look rfl rfl (fun _ hk_ => LV.load1 (v := (.int .i64 (gI out1 (i - 1)))) Try.underlying3 rfl rfl (g7 _ hk_ 0 _ rfl)) ?_
      obtain ⟨A10, c10, e8, g8⟩ := St.elt (SH.stN hS8 (few_rd 60 h_l)) 0 (gI out1 (i - 1)) (by omega) (by omega)
      refine WS.pure rfl rfl (fun _ => LV.idxA Try.underlying23 ti28.sz rfl e8 rfl (by omega) (by omega)) ?_
      refine WS.look rfl rfl (fun _ hk_ => LV.load1 (v := (.float .f64 ((l.take 60).getD (gI out1 (i - 1)).toNat 0))) Try.underlying28 rfl rfl (g8 _ hk_ 0 _ rfl)) ?_
      refine WS.pure rfl rfl (fun _ => LV.as (LV.gtF (a := ((l.take 60).getD (gI out1 (i)).toNat 0)) (b := ((l.take 60).getD (gI out1 (i - 1)).toNat 0)) rfl rfl) (decide_eq_false (by omega))) ?_
      refine WS.pure rfl rfl (fun _ => LV.pickT rfl rfl) ?_
      refine WS.pure rfl rfl (fun _ => LV.pickF rfl rfl) ?_
      refine WS.nil (thenQ.n ?_)
      refine WC.condF rfl ?_
      refine WC.skip (thenQ.n ?_)
      refine WC.region ?_
      iterate 3 refine WL.lv rfl (LV.mv rfl) ?_
      obtain ⟨A11, c11, e9, g9⟩ := St.elt (SH.rd hS8 (.tail _ (.tail _ (.head _)))) 0 i (by omega) (by omega)
      refine WL.lv rfl (LV.idxA Try.underlying22 ti3.sz rfl e9 rfl (by omega) (by omega)) ?_
      refine WL.lv rfl (LV.load1 (v := (.int .i64 (gI out1 (i)))) Try.underlying3 rfl rfl (g9 _ (KB.refl No _) 0 _ rfl)) ?_
      obtain ⟨A12, c12, e10, g10⟩ := St.elt (SH.rd hS8 (.head _)) false (gI out1 (i)) (by omega) (by omega)
      refine WL.lv rfl (LV.idxA Try.underlying34 ti4.sz rfl e10 rfl (by omega) (by omega)) ?_
      refine WL.xse rfl (XSE.row1 (i := gI out1 (i)) (o := 0) (k := false) true hS8 e10 (by omega) (by omega) (by decide) ti4.sz rfl rfl rfl rfl) ?_
      rintro w7 ⟨hS9, hk4⟩
      refine WL.nil (blockQ.n <| thenQ.n ?_)
      refine WC.region ?_
      refine WL.lv rfl (LV.mv rfl) ?_
      refine WL.lv rfl (LV.add rfl rfl (wr64 (by omega) (by omega))) ?_
      refine WL.lv rfl (LV.asg rfl) ?_
      refine WL.nil (thenQ.n ?_)
      exact ⟨_, by omega, (in_.set (gI out1 (i)).toNat true), i + 1, by omega, by omega, (by rw [take_gt ilo (by omega)]; exact q2.put hat_.1 hat_.2.1), hS9, rfl, Weak.cons rfl <| Weak.cons rfl <| Weak.cons rfl <| Weak.cons rfl <| Weak.nil _⟩
    · refine WS.pure rfl rfl (fun _ => LV.as (LV.gtI rfl rfl) (decide_eq_false hg1)) ?_
      refine WS.pure rfl rfl (fun _ => LV.mv rfl) ?_
      iterate 4 refine WS.off rfl rfl ?_
      refine WS.offL rfl rfl ?_
      refine WS.off rfl rfl ?_
      refine WS.offL rfl rfl ?_
      iterate 5 refine WS.off rfl rfl ?_
      refine WS.offL rfl rfl ?_
      refine WS.off rfl rfl ?_
      refine WS.offL rfl rfl ?_
      refine WS.off rfl rfl ?_
      iterate 2 refine WS.pure rfl rfl (fun _ => LV.pickF rfl rfl) ?_
      refine WS.nil (thenQ.n ?_)
      refine WC.condF rfl ?_
      refine WC.skip (thenQ.n ?_)
      refine WC.region ?_
      iterate 3 refine WL.lv rfl (LV.mv rfl) ?_
      obtain ⟨A13, c13, e11, g11⟩ := St.elt (SH.rd hS8 (.tail _ (.tail _ (.head _)))) 0 i (by omega) (by omega)
      refine WL.lv rfl (LV.idxA Try.underlying22 ti3.sz rfl e11 rfl (by omega) (by omega)) ?_
      refine WL.lv rfl (LV.load1 (v := (.int .i64 (gI out1 (i)))) Try.underlying3 rfl rfl (g11 _ (KB.refl No _) 0 _ rfl)) ?_
      obtain ⟨A14, c14, e12, g12⟩ := St.elt (SH.rd hS8 (.head _)) false (gI out1 (i)) (by omega) (by omega)
      refine WL.lv rfl (LV.idxA Try.underlying34 ti4.sz rfl e12 rfl (by omega) (by omega)) ?_
      refine WL.xse rfl (XSE.row1 (i := gI out1 (i)) (o := 0) (k := false) true hS8 e12 (by omega) (by omega) (by decide) ti4.sz rfl rfl rfl rfl) ?_
      rintro w8 ⟨hS10, hk5⟩
      refine WL.nil (blockQ.n <| thenQ.n ?_)
      refine WC.region ?_
      refine WL.lv rfl (LV.mv rfl) ?_
      refine WL.lv rfl (LV.add rfl rfl (wr64 (by omega) (by omega))) ?_
      refine WL.lv rfl (LV.asg rfl) ?_
      refine WL.nil (thenQ.n ?_)
      exact ⟨_, by omega, (in_.set (gI out1 (i)).toNat true), i + 1, by omega, by omega, (by rw [take_gt ilo (by omega)]; exact q2.put hat_.1 hat_.2.1), hS10, rfl, Weak.cons rfl <| Weak.cons rfl <| Weak.cons rfl <| Weak.cons rfl <| Weak.nil _⟩
  · skip
    refine WC.exit (thenQ.x <| thenQ.x <| blockQ.hit <| thenQ.n ?_)
    iterate 2 refine WC.seq ?_
    refine WC.region ?_
    refine WL.lv rfl (LV.asg rfl) ?_
    refine WL.nil (thenQ.n ?_)
    refine WC.block ?_
    refine WC.loop (fun m_ f_ w_ => ∃ (i2 : Int), (0 ≤ i2) ∧ (i2 ≤ ((l.take 60).length : Int)) ∧ SH w No w_ [rowE eB 4 (.slice (some ⟨b1, 0, none⟩) ((l.take 60).length) ((l.take 60).length)) in_, rowE eI 3 (.slice A2 out2.length c2) out2, rowE eI 3 (.slice A1 out1.length c1) out1] ∧ m_ = ((((l.take 60).length : Int) - i2).toNat) ∧ Weak (lit [(0, (.slice (cutA A_l c_l 1) ((l.take 60).length) c_l)), (5, (.slice A1 out1.length c1)), (6, (.slice (some ⟨b1, 0, none⟩) ((l.take 60).length) ((l.take 60).length))), (8, (.int .i64 i2))]) f_) _ ⟨0, by omega, by omega, hL1, rfl, Weak.cons rfl <| Weak.cons rfl <| Weak.cons rfl <| Weak.cons rfl <| Weak.nil _⟩ ?_
    rintro m2 f2 w9 ⟨i2, i2lo, i2hi, hL2, rfl, hw2⟩
    refine WC.weak hw2 ?_
    clear hw2
    iterate 2 refine WC.seq ?_
    refine WC.region ?_
    iterate 2 refine WL.lv rfl (LV.mv rfl) ?_
    refine WL.lv rfl (LV.lenL Try.underlying23 rfl) ?_
    refine WL.lv rfl (LV.ltI rfl rfl) ?_
    refine WL.nil (thenQ.n ?_)
    refine WC.condP (p := i2 < ((l.take 60).length : Int)) rfl (fun hk2 => ?_) (fun hk2 => ?_)
    · skip
      refine WC.skip (thenQ.n ?_)
      refine WC.seq ?_
      refine WC.block ?_
      refine WC.seq ?_
      have hS11 := SH.drew hL2
      refine WC.regionD [] (fun w_ => KB No w9.drew w_) [(.pure, 0), (.pure, 1), (.pure, 2), (.look, 3), (.pure, 4), (.pure, 5), (.pure, 6), (.pure, 7), (.pure, 8), (.pure, 9), (.pure, 10), (.pure, 11), (.pure, 12), (.pure, 13), (.look, 14), (.pure, 15), (.pure, 16), (.pure, 17), (.pure, 18), (.pure, 19), (.pure, 20), (.look, 21), (.pure, 22), (.look, 23), (.pure, 24), (.pure, 25)] (by kernel_rfl) (by kernel_rfl) (KB.refl _ _) ?_
      iterate 2 refine WS.pure rfl rfl (fun _ => LV.mv rfl) ?_
      obtain ⟨A15, c15, e13, g13⟩ := St.elt (SH.rd hS11 (.head _)) false i2 (by omega) (by omega)
      refine WS.pure rfl rfl (fun _ => LV.idxA Try.underlying34 ti4.sz rfl e13 rfl (by omega) (by omega)) ?_
      rcases Bool.eq_false_or_eq_true (in_.getD (i2).toNat false) with hin_ | hin_
      · refine WS.look rfl rfl (fun _ hk_ => LV.as (c := true) (LV.load1 (v := (.bool (in_.getD (i2).toNat false))) Try.underlying4 rfl rfl (g13 _ hk_ 0 _ rfl)) hin_) ?_
        refine WS.pure rfl rfl (fun _ => LV.notB rfl) ?_
        refine WS.pure rfl rfl (fun _ => LV.mv rfl) ?_
        iterate 3 refine WS.off rfl rfl ?_
        refine WS.pure rfl rfl (fun _ => LV.pickF rfl rfl) ?_
        refine WS.pure rfl rfl (fun _ => LV.mv rfl) ?_
        iterate 3 refine WS.off rfl rfl ?_
        refine WS.offL rfl rfl ?_
        iterate 6 refine WS.off rfl rfl ?_
        refine WS.offL rfl rfl ?_
        refine WS.off rfl rfl ?_
        refine WS.offL rfl rfl ?_
        refine WS.off rfl rfl ?_
        refine WS.pure rfl rfl (fun _ => LV.pickF rfl rfl) ?_
        refine WS.nil (thenQ.n ?_)
        refine WC.condF rfl ?_
        refine WC.skip (blockQ.n <| thenQ.n ?_)
        refine WC.region ?_
        refine WL.lv rfl (LV.mv rfl) ?_
        refine WL.lv rfl (LV.add rfl rfl (wr64 (by omega) (by omega))) ?_
        refine WL.lv rfl (LV.asg rfl) ?_
        refine WL.nil (thenQ.n ?_)
        exact ⟨_, by omega, i2 + 1, by omega, by omega, hS11, rfl, Weak.cons rfl <| Weak.cons rfl <| Weak.cons rfl <| Weak.cons rfl <| Weak.nil _⟩
      · refine WS.look rfl rfl (fun _ hk_ => LV.as (c := false) (LV.load1 (v := (.bool (in_.getD (i2).toNat false))) Try.underlying4 rfl rfl (g13 _ hk_ 0 _ rfl)) hin_) ?_
        refine WS.pure rfl rfl (fun _ => LV.notB rfl) ?_
        iterate 2 refine WS.pure rfl rfl (fun _ => LV.mv rfl) ?_
        refine WS.pure rfl rfl (fun _ => LV.lenL Try.underlying22 rfl) ?_
        rcases Decidable.em ((out1.length : Int) > 0) with hg2 | hg2
        · refine WS.pure rfl rfl (fun _ => LV.as (LV.gtI rfl rfl) (decide_eq_true hg2)) ?_
          refine WS.pure rfl rfl (fun _ => LV.pickT rfl rfl) ?_
          iterate 3 refine WS.pure rfl rfl (fun _ => LV.mv rfl) ?_
          have hlst_ := htop_.at_ (i := (out1.length : Int) - 1) (by omega) (by omega)
          have t1_ := tk_is ((l.take 60).getD i2.toNat 0)
          have t2_ := tk_is ((l.take 60).getD (gI out1 ((out1.length : Int) - 1)).toNat 0)
          have hnin_ : i2 ∉ out1 := fun h_ => by have h2_ := (q2.at_ i2 i2lo (by omega)).2 (by rw [List.take_of_length_le (by omega)]; exact h_); rw [h2_] at hin_; cases hin_
          have hre_ := fun h_ => htop_.rest (by omega) i2lo (by omega) h_ hnin_ (by omega)
          obtain ⟨A16, c16, e14, g14⟩ := St.elt (SH.stN hS11 (few_rd 60 h_l)) 0 i2 (by omega) (by omega)
          refine WS.pure rfl rfl (fun _ => LV.idxA Try.underlying23 ti28.sz rfl e14 rfl (by omega) (by omega)) ?_
          refine WS.look rfl rfl (fun _ hk_ => LV.load1 (v := (.float .f64 ((l.take 60).getD (i2).toNat 0))) Try.underlying28 rfl rfl (g14 _ hk_ 0 _ rfl)) ?_
          iterate 3 refine WS.pure rfl rfl (fun _ => LV.mv rfl) ?_
          refine WS.pure rfl rfl (fun _ => LV.lenL Try.underlying22 rfl) ?_
          refine WS.pure rfl rfl (fun _ => LV.sub rfl rfl (wr64 (by omega) (by omega))) ?_
          obtain ⟨A17, c17, e15, g15⟩ := St.elt (SH.rd hS11 (.tail _ (.tail _ (.head _)))) 0 ((out1.length : Int) - 1) (by omega) (by omega)
          refine WS.pure rfl rfl (fun _ => LV.idxA Try.underlying22 ti3.sz rfl e15 rfl (by omega) (by omega)) ?_
          refine WS.look rfl rfl (fun _ hk_ => LV.load1 (v := (.int .i64 (gI out1 ((out1.length : Int) - 1)))) Try.underlying3 rfl rfl (g15 _ hk_ 0 _ rfl)) ?_
          obtain ⟨A18, c18, e16, g16⟩ := St.elt (SH.stN hS11 (few_rd 60 h_l)) 0 (gI out1 ((out1.length : Int) - 1)) (by omega) (by omega)
          refine WS.pure rfl rfl (fun _ => LV.idxA Try.underlying23 ti28.sz rfl e16 rfl (by omega) (by omega)) ?_
          refine WS.look rfl rfl (fun _ hk_ => LV.load1 (v := (.float .f64 ((l.take 60).getD (gI out1 ((out1.length : Int) - 1)).toNat 0))) Try.underlying28 rfl rfl (g16 _ hk_ 0 _ rfl)) ?_
          refine WS.pure rfl rfl (fun _ => LV.as (LV.gtF (a := ((l.take 60).getD (i2).toNat 0)) (b := ((l.take 60).getD (gI out1 ((out1.length : Int) - 1)).toNat 0)) rfl rfl) (decide_eq_false (fun h_ => by have h2_ := hre_ h_.1.1; omega))) ?_
          refine WS.pure rfl rfl (fun _ => LV.pickT rfl rfl) ?_
          refine WS.nil (thenQ.n ?_)
          refine WC.condF rfl ?_
          refine WC.skip (blockQ.n <| thenQ.n ?_)
          refine WC.region ?_
          refine WL.lv rfl (LV.mv rfl) ?_
          refine WL.lv rfl (LV.add rfl rfl (wr64 (by omega) (by omega))) ?_
          refine WL.lv rfl (LV.asg rfl) ?_
          refine WL.nil (thenQ.n ?_)
          exact ⟨_, by omega, i2 + 1, by omega, by omega, hS11, rfl, Weak.cons rfl <| Weak.cons rfl <| Weak.cons rfl <| Weak.cons rfl <| Weak.nil _⟩
        · refine WS.pure rfl rfl (fun _ => LV.as (LV.gtI rfl rfl) (decide_eq_false hg2)) ?_
          refine WS.pure rfl rfl (fun _ => LV.pickT rfl rfl) ?_
          refine WS.pure rfl rfl (fun _ => LV.mv rfl) ?_
          iterate 3 refine WS.off rfl rfl ?_
          refine WS.offL rfl rfl ?_
          iterate 6 refine WS.off rfl rfl ?_
          refine WS.offL rfl rfl ?_
          refine WS.off rfl rfl ?_
          refine WS.offL rfl rfl ?_
          refine WS.off rfl rfl ?_
          refine WS.pure rfl rfl (fun _ => LV.pickF rfl rfl) ?_
          refine WS.nil (thenQ.n ?_)
          refine WC.condF rfl ?_
          refine WC.skip (blockQ.n <| thenQ.n ?_)
          refine WC.region ?_
          refine WL.lv rfl (LV.mv rfl) ?_
          refine WL.lv rfl (LV.add rfl rfl (wr64 (by omega) (by omega))) ?_
          refine WL.lv rfl (LV.asg rfl) ?_
          refine WL.nil (thenQ.n ?_)
          exact ⟨_, by omega, i2 + 1, by omega, by omega, hS11, rfl, Weak.cons rfl <| Weak.cons rfl <| Weak.cons rfl <| Weak.cons rfl <| Weak.nil _⟩
    · skip
      refine WC.exit (thenQ.x <| thenQ.x <| blockQ.hit <| thenQ.n ?_)
      refine WC.seq ?_
      refine WC.region ?_
      refine WL.call rfl (XC.fn Try.func10 (by kernel_rfl) rfl rfl rfl) (live32_calls  ) ?_
      rintro v_ w10 ⟨rfl, hk6⟩
      have hS12 := SH.same hL2 hk6
      refine WL.lv rfl (LV.asg rfl) ?_
      refine WL.nil (thenQ.n ?_)
      refine WC.ret (?_)
      exact ⟨_, fun a ha => res1 rfl ha rfl, rfl, hS12.kb⟩

end Go.Proofs.Ytmmdplcnhndcgaa
