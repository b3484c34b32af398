/- Two laws of heat. -/
import Derived.Test.YtmmdplcnhndcgaaHtF
namespace Go.Proofs.Ytmmdplcnhndcgaa
open Go Go.Gv Go.RowKit Go.Flt Go.Dec Go.Ht
set_option linter.unusedVariables false
set_option linter.unusedSimpArgs false

set_option maxHeartbeats 2000000 in
set_option maxRecDepth 100000 in
theorem heatOf_law {w : World} {A_ages : Option Addr} {n_ages c_ages : Nat} {ages : List Int} {half : Int} (h_ages : St No w (Rd eI (.slice A_ages n_ages c_ages) ages)) (hn_ages : ages.length = n_ages) (wa : ∀ x ∈ ages, -9223372036854775808 ≤ x ∧ x ≤ 9223372036854775807) :
    Calls Try.prog 3 #[(.slice A_ages n_ages c_ages), (.int .i64 half)] w fun e w' => ∃ v, e = .returned v ∧ (fun v w' => v = .bool (decide (true)) ∧ KB No w w') v w' := by
  subst hn_ages
  have hma := Rd.max h_ages.now
  have hl_ : (ages.take 60).length ≤ 60 := by rw [List.length_take]; omega
  have wa_ : ∀ x ∈ ages.take 60, -9223372036854775808 ≤ x ∧ x ≤ 9223372036854775807 := fun x hx => wa x (List.mem_of_mem_take hx)
  have hS : SH w No w [] := SH.nil _ _
  refine calls (l := litOf [(.slice A_ages ages.length c_ages), (.int .i64 half)] 0) Try.func3 rfl (n := 95) rfl (Nat.le_of_ble_eq_true rfl) (lit_args _) ?_
  refine WC.seq ?_
  refine WC.region ?_
  refine WL.lv rfl (LV.asg rfl) ?_
  refine WL.nil (thenQ.n ?_)
  refine WC.seq ?_
  refine WC.region ?_
  iterate 2 refine WL.lv rfl (LV.mv rfl) ?_
  refine WL.lv rfl (LV.lenL Try.underlying22 rfl) ?_
  refine WL.lv rfl (LV.minI rfl rfl) ?_
  have hcap1 : ages.length ≤ c_ages := (Rd.cap (St.now (SH.stN hS h_ages)))
  refine WL.lv rfl (LV.to (v := (.slice (if c_ages = 0 then A_ages else A_ages.map (·.add (0 * 1))) ((min (ages.length : Int) 60).toNat - 0) (c_ages - 0))) (v' := (.slice (cutA A_ages c_ages 1) ((ages.take 60).length) c_ages)) (congrArg (fun n_ => Value.slice (cutA A_ages c_ages 1) n_ c_ages) (show ((min (ages.length : Int) 60).toNat - 0) = (ages.take 60).length by rw [List.length_take]; omega)) (LV.cut Try.underlying22 ti3.sz rfl rfl rfl rfl ⟨.inl ⟨rfl, rfl⟩, .inr ⟨.i64, by rw [Int.toNat_of_nonneg (a := min (ages.length : Int) 60) (by omega)] <;> rfl⟩, .inl ⟨rfl, rfl⟩⟩ (by omega) (by omega) (by omega))) ?_
  refine WL.lv rfl (LV.asg rfl) ?_
  refine WL.nil (thenQ.n ?_)
  refine WC.seq ?_
  refine WC.region ?_
  iterate 2 refine WL.lv rfl (LV.mv rfl) ?_
  refine WL.call rfl (XC.fn Try.func7 (by kernel_rfl) rfl rfl rfl) (of_calls (half := half) (SH.stN hS (few_rd 60 h_ages)) rfl (wa_) (by first | omega | simp)) ?_
  rintro v_ w1 ⟨A1, c1, ys1, e1, rfl, hf1, hS1⟩
  have hS2 := SH.joinN hS hS1
  have ha_ := hf1
  have hyl_ := ha_.len
  refine WL.lv rfl (LV.mv rfl) ?_
  iterate 2 refine WL.lv rfl (LV.extract rfl rfl) ?_
  iterate 2 refine WL.lv rfl (LV.asg rfl) ?_
  refine WL.nil (thenQ.n ?_)
  refine WC.seq ?_
  refine WC.region ?_
  iterate 2 refine WL.lv rfl (LV.mv rfl) ?_
  refine WL.call rfl (XC.fn Try.func8 (by kernel_rfl) rfl rfl rfl) (rof_calls (half := half) (SH.stN hS2 (few_rd 60 h_ages)) rfl (wa_) (by first | omega | simp)) ?_
  rintro v_ w2 ⟨A2, c2, ys2, e2, rfl, hf2, hS3⟩
  have hS4 := SH.joinN hS2 hS3
  have hb_ := hf2
  have hof_ := of_tk ha_ hb_
  refine WL.lv rfl (LV.mv rfl) ?_
  iterate 2 refine WL.lv rfl (LV.extract rfl rfl) ?_
  iterate 2 refine WL.lv rfl (LV.asg rfl) ?_
  refine WL.nil (thenQ.n ?_)
  iterate 2 refine WC.seq ?_
  refine WC.region ?_
  iterate 2 refine WL.lv rfl (LV.mv rfl) ?_
  refine WL.call rfl (XC.fn Try.func9 (by kernel_rfl) rfl rfl rfl) (Calls.asB (slist_calls  (SH.rd hS4 (.tail _ (.head _))) rfl (SH.rd hS4 (.head _)) rfl (ha_.w6 (fun t y h => h.1)) (hb_.w6 (fun t y h => h.1))) (decide_eq_true (hof_.1))) ?_
  rintro v_ w3 ⟨rfl, hk1⟩
  have hS5 := SH.same hS4 hk1
  refine WL.lv rfl (LV.notB rfl) ?_
  iterate 3 refine WL.lv rfl (LV.mv rfl) ?_
  refine WL.lv rfl (LV.as (LV.neI rfl rfl) (decide_eq_false (fun h_ => h_ hof_.2))) ?_
  refine WL.lv rfl (LV.pickF rfl rfl) ?_
  refine WL.nil (thenQ.n ?_)
  refine WC.condF rfl ?_
  refine WC.skip (thenQ.n ?_)
  iterate 2 refine WC.seq ?_
  refine WC.region ?_
  refine WL.lv rfl (LV.asg rfl) ?_
  refine WL.nil (thenQ.n ?_)
  refine WC.block ?_
  refine WC.loop (fun m_ f_ w_ => ∃ (i : Int), (0 ≤ i) ∧ (i ≤ (ys1.length : Int)) ∧ SH w No w_ [rowE eF 28 (.slice A2 ys2.length c2) ys2, rowE eF 28 (.slice A1 ys1.length c1) ys1] ∧ m_ = (((ys1.length : Int) - i).toNat) ∧ Weak (lit [(0, (.slice (cutA A_ages c_ages 1) ((ages.take 60).length) c_ages)), (5, (.slice A1 ys1.length c1)), (9, (.int .i64 i))]) f_) _ ⟨0, by omega, by omega, hS5, rfl, Weak.cons rfl <| Weak.cons rfl <| Weak.cons rfl <| Weak.nil _⟩ ?_
  rintro m1 f1 w4 ⟨i, ilo, ihi, hL1, rfl, hw1⟩
  refine WC.weak hw1 ?_
  clear hw1
  iterate 2 refine WC.seq ?_
  refine WC.region ?_
  iterate 2 refine WL.lv rfl (LV.mv rfl) ?_
  refine WL.lv rfl (LV.lenL Try.underlying23 rfl) ?_
  refine WL.lv rfl (LV.ltI rfl rfl) ?_
  refine WL.nil (thenQ.n ?_)
  refine WC.condP (p := i < (ys1.length : Int)) rfl (fun hk => ?_) (fun hk => ?_)
  · skip
    refine WC.skip (thenQ.n ?_)
    refine WC.seq ?_
    refine WC.block ?_
    iterate 2 refine WC.seq ?_
    refine WC.region ?_
    iterate 2 refine WL.lv rfl (LV.mv rfl) ?_
    obtain ⟨A3, c3, e3, g1⟩ := St.elt (SH.stN hL1 (few_rd 60 h_ages)) 0 i (by omega) (by omega)
    refine WL.lv rfl (LV.idxA Try.underlying22 ti3.sz rfl e3 rfl (by omega) (by omega)) ?_
    refine WL.lv rfl (LV.load1 (v := (.int .i64 (gI (ages.take 60) (i)))) Try.underlying3 rfl rfl (g1 _ (KB.refl No _) 0 _ rfl)) ?_
    rcases Decidable.em ((gI (ages.take 60) (i)) ≥ 0) with hg1 | hg1
    · refine WL.lv rfl (LV.as (LV.geI rfl rfl) (decide_eq_true hg1)) ?_
      iterate 3 refine WL.lv rfl (LV.mv rfl) ?_
      have hbd_ := ha_.bd ilo (by omega) (by omega)
      obtain ⟨A4, c4, e4, g2⟩ := St.elt (SH.rd hL1 (.tail _ (.head _))) 0 i (by omega) (by omega)
      refine WL.lv rfl (LV.idxA Try.underlying23 ti28.sz rfl e4 rfl (by omega) (by omega)) ?_
      refine WL.lv rfl (LV.load1 (v := (.float .f64 (ys1.getD (i).toNat 0))) Try.underlying28 rfl rfl (g2 _ (KB.refl No _) 0 _ rfl)) ?_
      have hsk_0 : sk 0 = (0 : Int) := by decide +kernel
      refine WL.lv rfl (LV.as (LV.ltF (a := (ys1.getD (i).toNat 0)) (b := 0) rfl rfl) (decide_eq_false (by omega))) ?_
      iterate 3 refine WL.lv rfl (LV.mv rfl) ?_
      obtain ⟨A5, c5, e5, g3⟩ := St.elt (SH.rd hL1 (.tail _ (.head _))) 0 i (by omega) (by omega)
      refine WL.lv rfl (LV.idxA Try.underlying23 ti28.sz rfl e5 rfl (by omega) (by omega)) ?_
      refine WL.lv rfl (LV.load1 (v := (.float .f64 (ys1.getD (i).toNat 0))) Try.underlying28 rfl rfl (g3 _ (KB.refl No _) 0 _ rfl)) ?_
      have hsk_4607182418800017408 : sk 4607182418800017408 = (4607182418800017408 : Int) := by decide +kernel
      refine WL.lv rfl (LV.as (LV.gtF (a := (ys1.getD (i).toNat 0)) (b := 4607182418800017408) rfl rfl) (decide_eq_false (by omega))) ?_
      refine WL.lv rfl (LV.pickF rfl rfl) ?_
      refine WL.lv rfl (LV.pickT rfl rfl) ?_
      refine WL.nil (thenQ.n ?_)
      refine WC.condF rfl ?_
      refine WC.skip (thenQ.n ?_)
      refine WC.seq ?_
      refine WC.region ?_
      refine WL.lv rfl (LV.asg rfl) ?_
      refine WL.nil (thenQ.n ?_)
      refine WC.block ?_
      refine WC.loop (fun m_ f_ w_ => ∃ (k : Int), (0 ≤ k) ∧ (k ≤ i) ∧ SH w No w_ [rowE eF 28 (.slice A2 ys2.length c2) ys2, rowE eF 28 (.slice A1 ys1.length c1) ys1] ∧ m_ = ((i - k).toNat) ∧ Weak (lit [(0, (.slice (cutA A_ages c_ages 1) ((ages.take 60).length) c_ages)), (5, (.slice A1 ys1.length c1)), (9, (.int .i64 i)), (10, (.int .i64 k))]) f_) _ ⟨0, by omega, by omega, hL1, rfl, Weak.cons rfl <| Weak.cons rfl <| Weak.cons rfl <| Weak.cons rfl <| Weak.nil _⟩ ?_
      rintro m2 f2 w5 ⟨k, klo, khi, hL2, rfl, hw2⟩
      refine WC.weak hw2 ?_
      clear hw2
      iterate 2 refine WC.seq ?_
      refine WC.region ?_
      iterate 2 refine WL.lv rfl (LV.mv rfl) ?_
      refine WL.lv rfl (LV.ltI rfl rfl) ?_
      refine WL.nil (thenQ.n ?_)
      refine WC.condP (p := k < i) rfl (fun hk2 => ?_) (fun hk2 => ?_)
      · skip
        refine WC.skip (thenQ.n ?_)
        refine WC.seq ?_
        refine WC.block ?_
        refine WC.seq ?_
        have hS6 := SH.drew hL2
        refine WC.regionD [] (fun w_ => KB No w5.drew w_) [(.pure, 0), (.pure, 1), (.pure, 2), (.look, 3), (.pure, 4), (.pure, 5), (.pure, 6), (.pure, 7), (.pure, 8), (.look, 9), (.pure, 10), (.pure, 11), (.pure, 12), (.look, 13), (.pure, 14), (.pure, 15), (.pure, 16), (.pure, 17), (.pure, 18), (.pure, 19), (.look, 20), (.pure, 21), (.pure, 22), (.pure, 23), (.look, 24), (.pure, 25), (.pure, 26)] (by kernel_rfl) (by kernel_rfl) (KB.refl _ _) ?_
        iterate 2 refine WS.pure rfl rfl (fun _ => LV.mv rfl) ?_
        obtain ⟨A6, c6, e6, g4⟩ := St.elt (SH.stN hS6 (few_rd 60 h_ages)) 0 i (by omega) (by omega)
        refine WS.pure rfl rfl (fun _ => LV.idxA Try.underlying22 ti3.sz rfl e6 rfl (by omega) (by omega)) ?_
        refine WS.look rfl rfl (fun _ hk_ => LV.load1 (v := (.int .i64 (gI (ages.take 60) (i)))) Try.underlying3 rfl rfl (g4 _ hk_ 0 _ rfl)) ?_
        refine WS.pure rfl rfl (fun _ => LV.as (LV.geI rfl rfl) (decide_eq_true hg1)) ?_
        iterate 3 refine WS.pure rfl rfl (fun _ => LV.mv rfl) ?_
        obtain ⟨A7, c7, e7, g5⟩ := St.elt (SH.stN hS6 (few_rd 60 h_ages)) 0 k (by omega) (by omega)
        refine WS.pure rfl rfl (fun _ => LV.idxA Try.underlying22 ti3.sz rfl e7 rfl (by omega) (by omega)) ?_
        refine WS.look rfl rfl (fun _ hk_ => LV.load1 (v := (.int .i64 (gI (ages.take 60) (k)))) Try.underlying3 rfl rfl (g5 _ hk_ 0 _ rfl)) ?_
        iterate 2 refine WS.pure rfl rfl (fun _ => LV.mv rfl) ?_
        obtain ⟨A8, c8, e8, g6⟩ := St.elt (SH.stN hS6 (few_rd 60 h_ages)) 0 i (by omega) (by omega)
        refine WS.pure rfl rfl (fun _ => LV.idxA Try.underlying22 ti3.sz rfl e8 rfl (by omega) (by omega)) ?_
        refine WS.look rfl rfl (fun _ hk_ => LV.load1 (v := (.int .i64 (gI (ages.take 60) (i)))) Try.underlying3 rfl rfl (g6 _ hk_ 0 _ rfl)) ?_
        rcases Decidable.em ((gI (ages.take 60) (k)) ≥ (gI (ages.take 60) (i))) with hg2 | hg2
        · refine WS.pure rfl rfl (fun _ => LV.as (LV.geI rfl rfl) (decide_eq_true hg2)) ?_
          refine WS.pure rfl rfl (fun _ => LV.pickT rfl rfl) ?_
          iterate 3 refine WS.pure rfl rfl (fun _ => LV.mv rfl) ?_
          have hmo_ := ha_.mono (i := i) (k := k) ilo (by omega) klo (by omega) (by omega) (by omega)
          obtain ⟨A9, c9, e9, g7⟩ := St.elt (SH.rd hS6 (.tail _ (.head _))) 0 k (by omega) (by omega)
          refine WS.pure rfl rfl (fun _ => LV.idxA Try.underlying23 ti28.sz rfl e9 rfl (by omega) (by omega)) ?_
          refine WS.look rfl rfl (fun _ hk_ => LV.load1 (v := (.float .f64 (ys1.getD (k).toNat 0))) Try.underlying28 rfl rfl (g7 _ hk_ 0 _ rfl)) ?_
          iterate 2 refine WS.pure rfl rfl (fun _ => LV.mv rfl) ?_
          obtain ⟨A10, c10, e10, g8⟩ := St.elt (SH.rd hS6 (.tail _ (.head _))) 0 i (by omega) (by omega)
          refine WS.pure rfl rfl (fun _ => LV.idxA Try.underlying23 ti28.sz rfl e10 rfl (by omega) (by omega)) ?_
          refine WS.look rfl rfl (fun _ hk_ => LV.load1 (v := (.float .f64 (ys1.getD (i).toNat 0))) Try.underlying28 rfl rfl (g8 _ hk_ 0 _ rfl)) ?_
          refine WS.pure rfl rfl (fun _ => LV.as (LV.gtF (a := (ys1.getD (k).toNat 0)) (b := (ys1.getD (i).toNat 0)) rfl rfl) (decide_eq_false (by omega))) ?_
          refine WS.pure rfl rfl (fun _ => LV.pickT rfl rfl) ?_
          refine WS.nil (thenQ.n ?_)
          refine WC.condF rfl ?_
          refine WC.skip (blockQ.n <| thenQ.n ?_)
          refine WC.region ?_
          refine WL.lv rfl (LV.mv rfl) ?_
          refine WL.lv rfl (LV.add rfl rfl (wr64 (by omega) (by omega))) ?_
          refine WL.lv rfl (LV.asg rfl) ?_
          refine WL.nil (thenQ.n ?_)
          exact ⟨_, by omega, k + 1, by omega, by omega, hS6, rfl, Weak.cons rfl <| Weak.cons rfl <| Weak.cons rfl <| Weak.cons rfl <| Weak.nil _⟩
        · refine WS.pure rfl rfl (fun _ => LV.as (LV.geI rfl rfl) (decide_eq_false hg2)) ?_
          refine WS.pure rfl rfl (fun _ => LV.pickT rfl rfl) ?_
          refine WS.pure rfl rfl (fun _ => LV.mv rfl) ?_
          iterate 3 refine WS.off rfl rfl ?_
          refine WS.offL rfl rfl ?_
          iterate 3 refine WS.off rfl rfl ?_
          refine WS.offL rfl rfl ?_
          refine WS.off rfl rfl ?_
          refine WS.pure rfl rfl (fun _ => LV.pickF rfl rfl) ?_
          refine WS.nil (thenQ.n ?_)
          refine WC.condF rfl ?_
          refine WC.skip (blockQ.n <| thenQ.n ?_)
          refine WC.region ?_
          refine WL.lv rfl (LV.mv rfl) ?_
          refine WL.lv rfl (LV.add rfl rfl (wr64 (by omega) (by omega))) ?_
          refine WL.lv rfl (LV.asg rfl) ?_
          refine WL.nil (thenQ.n ?_)
          exact ⟨_, by omega, k + 1, by omega, by omega, hS6, rfl, Weak.cons rfl <| Weak.cons rfl <| Weak.cons rfl <| Weak.cons rfl <| Weak.nil _⟩
      · skip
        refine WC.exit (thenQ.x <| thenQ.x <| blockQ.hit <| blockQ.n <| thenQ.n ?_)
        refine WC.region ?_
        refine WL.lv rfl (LV.mv rfl) ?_
        refine WL.lv rfl (LV.add rfl rfl (wr64 (by omega) (by omega))) ?_
        refine WL.lv rfl (LV.asg rfl) ?_
        refine WL.nil (thenQ.n ?_)
        exact ⟨_, by omega, i + 1, by omega, by omega, hL2, rfl, Weak.cons rfl <| Weak.cons rfl <| Weak.cons rfl <| Weak.nil _⟩
    · refine WL.lv rfl (LV.as (LV.geI rfl rfl) (decide_eq_false hg1)) ?_
      refine WL.lv rfl (LV.mv rfl) ?_
      iterate 12 refine WL.off rfl ?_
      refine WL.lv rfl (LV.pickF rfl rfl) ?_
      refine WL.nil (thenQ.n ?_)
      refine WC.condF rfl ?_
      refine WC.skip (thenQ.n ?_)
      refine WC.seq ?_
      refine WC.region ?_
      refine WL.lv rfl (LV.asg rfl) ?_
      refine WL.nil (thenQ.n ?_)
      refine WC.block ?_
      refine WC.loop (fun m_ f_ w_ => ∃ (k : Int), (0 ≤ k) ∧ (k ≤ i) ∧ SH w No w_ [rowE eF 28 (.slice A2 ys2.length c2) ys2, rowE eF 28 (.slice A1 ys1.length c1) ys1] ∧ m_ = ((i - k).toNat) ∧ Weak (lit [(0, (.slice (cutA A_ages c_ages 1) ((ages.take 60).length) c_ages)), (5, (.slice A1 ys1.length c1)), (9, (.int .i64 i)), (10, (.int .i64 k))]) f_) _ ⟨0, by omega, by omega, hL1, rfl, Weak.cons rfl <| Weak.cons rfl <| Weak.cons rfl <| Weak.cons rfl <| Weak.nil _⟩ ?_
      rintro m3 f3 w6 ⟨k, klo, khi, hL3, rfl, hw3⟩
      refine WC.weak hw3 ?_
      clear hw3
      iterate 2 refine WC.seq ?_
      refine WC.region ?_
      iterate 2 refine WL.lv rfl (LV.mv rfl) ?_
      refine WL.lv rfl (LV.ltI rfl rfl) ?_
      refine WL.nil (thenQ.n ?_)
      refine WC.condP (p := k < i) rfl (fun hk2 => ?_) (fun hk2 => ?_)
      · skip
        refine WC.skip (thenQ.n ?_)
        refine WC.seq ?_
        refine WC.block ?_
        refine WC.seq ?_
        have hS7 := SH.drew hL3
        refine WC.regionD [] (fun w_ => KB No w6.drew w_) [(.pure, 0), (.pure, 1), (.pure, 2), (.look, 3), (.pure, 4), (.pure, 5), (.pure, 6), (.pure, 7), (.pure, 8), (.look, 9), (.pure, 10), (.pure, 11), (.pure, 12), (.look, 13), (.pure, 14), (.pure, 15), (.pure, 16), (.pure, 17), (.pure, 18), (.pure, 19), (.look, 20), (.pure, 21), (.pure, 22), (.pure, 23), (.look, 24), (.pure, 25), (.pure, 26)] (by kernel_rfl) (by kernel_rfl) (KB.refl _ _) ?_
        iterate 2 refine WS.pure rfl rfl (fun _ => LV.mv rfl) ?_
        obtain ⟨A11, c11, e11, g9⟩ := St.elt (SH.stN hS7 (few_rd 60 h_ages)) 0 i (by omega) (by omega)
        refine WS.pure rfl rfl (fun _ => LV.idxA Try.underlying22 ti3.sz rfl e11 rfl (by omega) (by omega)) ?_
        refine WS.look rfl rfl (fun _ hk_ => LV.load1 (v := (.int .i64 (gI (ages.take 60) (i)))) Try.underlying3 rfl rfl (g9 _ hk_ 0 _ rfl)) ?_
        refine WS.pure rfl rfl (fun _ => LV.as (LV.geI rfl rfl) (decide_eq_false hg1)) ?_
        refine WS.pure rfl rfl (fun _ => LV.mv rfl) ?_
        iterate 3 refine WS.off rfl rfl ?_
        refine WS.offL rfl rfl ?_
        iterate 3 refine WS.off rfl rfl ?_
        refine WS.offL rfl rfl ?_
        refine WS.off rfl rfl ?_
        refine WS.pure rfl rfl (fun _ => LV.pickF rfl rfl) ?_
        refine WS.pure rfl rfl (fun _ => LV.mv rfl) ?_
        iterate 3 refine WS.off rfl rfl ?_
        refine WS.offL rfl rfl ?_
        iterate 3 refine WS.off rfl rfl ?_
        refine WS.offL rfl rfl ?_
        refine WS.off rfl rfl ?_
        refine WS.pure rfl rfl (fun _ => LV.pickF rfl rfl) ?_
        refine WS.nil (thenQ.n ?_)
        refine WC.condF rfl ?_
        refine WC.skip (blockQ.n <| thenQ.n ?_)
        refine WC.region ?_
        refine WL.lv rfl (LV.mv rfl) ?_
        refine WL.lv rfl (LV.add rfl rfl (wr64 (by omega) (by omega))) ?_
        refine WL.lv rfl (LV.asg rfl) ?_
        refine WL.nil (thenQ.n ?_)
        exact ⟨_, by omega, k + 1, by omega, by omega, hS7, rfl, Weak.cons rfl <| Weak.cons rfl <| Weak.cons rfl <| Weak.cons rfl <| Weak.nil _⟩
      · skip
        refine WC.exit (thenQ.x <| thenQ.x <| blockQ.hit <| blockQ.n <| thenQ.n ?_)
        refine WC.region ?_
        refine WL.lv rfl (LV.mv rfl) ?_
        refine WL.lv rfl (LV.add rfl rfl (wr64 (by omega) (by omega))) ?_
        refine WL.lv rfl (LV.asg rfl) ?_
        refine WL.nil (thenQ.n ?_)
        exact ⟨_, by omega, i + 1, by omega, by omega, hL3, rfl, Weak.cons rfl <| Weak.cons rfl <| Weak.cons rfl <| Weak.nil _⟩
  · skip
    refine WC.exit (thenQ.x <| thenQ.x <| blockQ.hit <| thenQ.n ?_)
    refine WC.seq ?_
    refine WC.region ?_
    refine WL.call rfl (XC.fn Try.func10 (by kernel_rfl) rfl rfl rfl) (live32_calls  ) ?_
    rintro v_ w7 ⟨rfl, hk2⟩
    have hS8 := SH.same hL1 hk2
    refine WL.lv rfl (LV.asg rfl) ?_
    refine WL.nil (thenQ.n ?_)
    refine WC.ret (?_)
    exact ⟨_, fun a ha => res1 rfl ha rfl, rfl, hS8.kb⟩

set_option maxHeartbeats 2000000 in
set_option maxRecDepth 100000 in
theorem heatAround_law {w : World} {A_l : Option Addr} {n_l c_l : Nat} {l : List Nat} {reach : Int} (h_l : St No w (Rd eF (.slice A_l n_l c_l) l)) (hn_l : l.length = n_l) (wl : ∀ x ∈ l, x < 18446744073709551616) :
    Calls Try.prog 5 #[(.slice A_l n_l c_l), (.int .i64 reach)] w fun e w' => ∃ v, e = .returned v ∧ (fun v w' => v = .bool (decide (true)) ∧ KB No w w') v w' := by
  subst hn_l
  have hma := Rd.max h_l.now
  have hl_ : (l.take 60).length ≤ 60 := by rw [List.length_take]; omega
  have wl_ : ∀ x ∈ l.take 60, x < 18446744073709551616 := fun x hx => wl x (List.mem_of_mem_take hx)
  have hS : SH w No w [] := SH.nil _ _
  refine calls (l := litOf [(.slice A_l l.length c_l), (.int .i64 reach)] 0) Try.func5 rfl (n := 77) rfl (Nat.le_of_ble_eq_true rfl) (lit_args _) ?_
  refine WC.seq ?_
  refine WC.region ?_
  refine WL.lv rfl (LV.asg rfl) ?_
  refine WL.nil (thenQ.n ?_)
  refine WC.seq ?_
  refine WC.region ?_
  refine WL.lv rfl (LV.mv rfl) ?_
  refine WL.call rfl (XC.fn Try.func11 (by kernel_rfl) rfl rfl rfl) (few32_calls (SH.stN hS h_l)) ?_
  rintro v_ w1 ⟨rfl, hk1⟩
  have hS1 := SH.same hS hk1
  refine WL.lv rfl (LV.asg rfl) ?_
  refine WL.nil (thenQ.n ?_)
  refine WC.seq ?_
  refine WC.region ?_
  iterate 2 refine WL.lv rfl (LV.mv rfl) ?_
  refine WL.call rfl (XC.fn Try.func15 (by kernel_rfl) rfl rfl rfl) (around_calls (reach := reach) (SH.stN hS1 (few_rd 60 h_l)) rfl (wl_) (by first | omega | simp)) ?_
  rintro v_ w2 ⟨A1, c1, ys1, e1, rfl, hf1, hS2⟩
  have hS3 := SH.joinN hS1 hS2
  have ha_ := hf1
  refine WL.lv rfl (LV.mv rfl) ?_
  iterate 2 refine WL.lv rfl (LV.extract rfl rfl) ?_
  iterate 2 refine WL.lv rfl (LV.asg rfl) ?_
  refine WL.nil (thenQ.n ?_)
  refine WC.seq ?_
  refine WC.region ?_
  iterate 2 refine WL.lv rfl (LV.mv rfl) ?_
  refine WL.call rfl (XC.fn Try.func16 (by kernel_rfl) rfl rfl rfl) (raround_calls (reach := reach) (SH.stN hS3 (few_rd 60 h_l)) rfl (wl_) (by first | omega | simp)) ?_
  rintro v_ w3 ⟨A2, c2, ys2, e2, rfl, hf2, hS4⟩
  have hS5 := SH.joinN hS3 hS4
  have hb_ := hf2
  have hat_ := ar_tk ha_ hb_
  refine WL.lv rfl (LV.mv rfl) ?_
  iterate 2 refine WL.lv rfl (LV.extract rfl rfl) ?_
  iterate 2 refine WL.lv rfl (LV.asg rfl) ?_
  refine WL.nil (thenQ.n ?_)
  refine WC.seq ?_
  refine WC.region ?_
  refine WL.lv rfl (LV.mv rfl) ?_
  refine WL.call rfl (XC.fn Try.func15 (by kernel_rfl) rfl rfl rfl) (around_calls (reach := (0 : Int)) (SH.stN hS5 (few_rd 60 h_l)) rfl (wl_) (by first | omega | simp)) ?_
  rintro v_ w4 ⟨A3, c3, ys3, e3, rfl, hf3, hS6⟩
  have hS7 := SH.joinN hS5 hS6
  have hc_ := hf3.z
  have hcw_ := ArR.w6 hf3
  refine WL.lv rfl (LV.mv rfl) ?_
  iterate 2 refine WL.lv rfl (LV.extract rfl rfl) ?_
  iterate 2 refine WL.lv rfl (LV.asg rfl) ?_
  refine WL.nil (thenQ.n ?_)
  iterate 2 refine WC.seq ?_
  refine WC.region ?_
  iterate 2 refine WL.lv rfl (LV.mv rfl) ?_
  refine WL.call rfl (XC.fn Try.func9 (by kernel_rfl) rfl rfl rfl) (Calls.asB (slist_calls  (SH.rd hS7 (.tail _ (.tail _ (.head _)))) rfl (SH.rd hS7 (.tail _ (.head _))) rfl (ha_.w6) (hb_.w6)) (decide_eq_true (hat_.1))) ?_
  rintro v_ w5 ⟨rfl, hk2⟩
  have hS8 := SH.same hS7 hk2
  refine WL.lv rfl (LV.notB rfl) ?_
  iterate 3 refine WL.lv rfl (LV.mv rfl) ?_
  refine WL.lv rfl (LV.as (LV.neI rfl rfl) (decide_eq_false (fun h_ => h_ hat_.2))) ?_
  refine WL.lv rfl (LV.pickF rfl rfl) ?_
  iterate 2 refine WL.lv rfl (LV.mv rfl) ?_
  refine WL.lv rfl (LV.as (LV.neI rfl rfl) (decide_eq_false (fun h_ => h_ hc_.1))) ?_
  refine WL.lv rfl (LV.pickF rfl rfl) ?_
  iterate 2 refine WL.lv rfl (LV.mv rfl) ?_
  refine WL.lv rfl (LV.lenL Try.underlying23 rfl) ?_
  refine WL.lv rfl (LV.mv rfl) ?_
  refine WL.lv rfl (LV.lenL Try.underlying23 rfl) ?_
  refine WL.lv rfl (LV.as (LV.neI rfl rfl) (decide_eq_false (by omega))) ?_
  refine WL.lv rfl (LV.pickF rfl rfl) ?_
  refine WL.nil (thenQ.n ?_)
  refine WC.condF rfl ?_
  refine WC.skip (thenQ.n ?_)
  iterate 2 refine WC.seq ?_
  refine WC.region ?_
  refine WL.lv rfl (LV.asg rfl) ?_
  refine WL.nil (thenQ.n ?_)
  refine WC.block ?_
  refine WC.loop (fun m_ f_ w_ => ∃ (i : Int), (0 ≤ i) ∧ (i ≤ (ys3.length : Int)) ∧ SH w No w_ [rowE eF 28 (.slice A3 ys3.length c3) ys3, rowE eF 28 (.slice A2 ys2.length c2) ys2, rowE eF 28 (.slice A1 ys1.length c1) ys1] ∧ m_ = (((ys3.length : Int) - i).toNat) ∧ Weak (lit [(0, (.slice (cutA A_l c_l 1) ((l.take 60).length) c_l)), (9, (.slice A3 ys3.length c3)), (11, (.int .i64 i))]) f_) _ ⟨0, by omega, by omega, hS8, rfl, Weak.cons rfl <| Weak.cons rfl <| Weak.cons rfl <| Weak.nil _⟩ ?_
  rintro m1 f1 w6 ⟨i, ilo, ihi, hL1, rfl, hw1⟩
  refine WC.weak hw1 ?_
  clear hw1
  iterate 2 refine WC.seq ?_
  refine WC.region ?_
  iterate 2 refine WL.lv rfl (LV.mv rfl) ?_
  refine WL.lv rfl (LV.lenL Try.underlying23 rfl) ?_
  refine WL.lv rfl (LV.ltI rfl rfl) ?_
  refine WL.nil (thenQ.n ?_)
  refine WC.condP (p := i < (ys3.length : Int)) rfl (fun hk => ?_) (fun hk => ?_)
  · have hwi_ := wl_ ((l.take 60).getD i.toNat 0) (getD_mem (by omega))
    have hsf_ := ar_self hwi_ ilo (by omega) (hc_.2.2 i ilo (by omega))
    have hyi_ : ys3.getD i.toNat 0 < 18446744073709551616 := hcw_ _ (getD_mem (by omega))
    have htz_ := tk_z
    refine WC.skip (thenQ.n ?_)
    refine WC.seq ?_
    refine WC.block ?_
    refine WC.seq ?_
    refine WC.region ?_
    iterate 2 refine WL.lv rfl (LV.mv rfl) ?_
    obtain ⟨A4, c4, e4, g1⟩ := St.elt (SH.stN hL1 (few_rd 60 h_l)) 0 i (by omega) (by omega)
    refine WL.lv rfl (LV.idxA Try.underlying23 ti28.sz rfl e4 rfl (by omega) (by omega)) ?_
    refine WL.lv rfl (LV.load1 (v := (.float .f64 ((l.take 60).getD (i).toNat 0))) Try.underlying28 rfl rfl (g1 _ (KB.refl No _) 0 _ rfl)) ?_
    refine WL.lv rfl (LV.asg rfl) ?_
    refine WL.nil (thenQ.n ?_)
    iterate 2 refine WC.seq ?_
    refine WC.region ?_
    iterate 2 refine WL.lv rfl (LV.mv rfl) ?_
    rcases Decidable.em (¬ (((-9218868437227405312 ≤ sk ((l.take 60).getD (i).toNat 0) ∧ sk ((l.take 60).getD (i).toNat 0) ≤ 9218868437227405312) ∧ (-9218868437227405312 ≤ sk ((l.take 60).getD (i).toNat 0) ∧ sk ((l.take 60).getD (i).toNat 0) ≤ 9218868437227405312)) ∧ sk ((l.take 60).getD (i).toNat 0) = sk ((l.take 60).getD (i).toNat 0))) with hg1 | hg1
    · refine WL.lv rfl (LV.as (LV.neF (a := ((l.take 60).getD (i).toNat 0)) (b := ((l.take 60).getD (i).toNat 0)) rfl rfl) (decide_eq_true hg1)) ?_
      refine WL.lv rfl (LV.mv rfl) ?_
      iterate 2 refine WL.off rfl ?_
      refine WL.lv rfl (LV.pickT rfl rfl) ?_
      refine WL.nil (thenQ.n ?_)
      refine WC.condT rfl ?_
      refine WC.region ?_
      refine WL.lv rfl (LV.asg rfl) ?_
      refine WL.nil (thenQ.n ?_)
      refine WC.seq ?_
      refine WC.region ?_
      iterate 2 refine WL.lv rfl (LV.mv rfl) ?_
      obtain ⟨A5, c5, e5, g2⟩ := St.elt (SH.rd hL1 (.head _)) 0 i (by omega) (by omega)
      refine WL.lv rfl (LV.idxA Try.underlying23 ti28.sz rfl e5 rfl (by omega) (by omega)) ?_
      refine WL.lv rfl (LV.load1 (v := (.float .f64 (ys3.getD (i).toNat 0))) Try.underlying28 rfl rfl (g2 _ (KB.refl No _) 0 _ rfl)) ?_
      refine WL.lv rfl (LV.mv rfl) ?_
      refine WL.call rfl (XC.fn Try.func17 (by kernel_rfl) rfl rfl rfl) (Calls.asB (fsame_calls (a := (ys3.getD (i).toNat 0)) (b := 0) (by first | assumption | omega | exact hp _ (getD_mem (by omega)) | exact hpz _ (getD_mem (by omega))) (by first | assumption | omega | exact hp _ (getD_mem (by omega)) | exact hpz _ (getD_mem (by omega)))) (decide_eq_true (by omega))) ?_
      rintro v_ w7 ⟨rfl, hk3⟩
      have hS9 := SH.same hL1 hk3
      refine WL.lv rfl (LV.notB rfl) ?_
      refine WL.nil (thenQ.n ?_)
      refine WC.condF rfl ?_
      refine WC.skip (blockQ.n <| thenQ.n ?_)
      refine WC.region ?_
      refine WL.lv rfl (LV.mv rfl) ?_
      refine WL.lv rfl (LV.add rfl rfl (wr64 (by omega) (by omega))) ?_
      refine WL.lv rfl (LV.asg rfl) ?_
      refine WL.nil (thenQ.n ?_)
      exact ⟨_, by omega, i + 1, by omega, by omega, hS9, rfl, Weak.cons rfl <| Weak.cons rfl <| Weak.cons rfl <| Weak.nil _⟩
    · refine WL.lv rfl (LV.as (LV.neF (a := ((l.take 60).getD (i).toNat 0)) (b := ((l.take 60).getD (i).toNat 0)) rfl rfl) (decide_eq_false hg1)) ?_
      iterate 2 refine WL.lv rfl (LV.mv rfl) ?_
      have hsk_0 : sk 0 = (0 : Int) := by decide +kernel
      refine WL.lv rfl (LV.eqF (a := ((l.take 60).getD (i).toNat 0)) (b := 0) rfl rfl) ?_
      refine WL.lv rfl (LV.pickF rfl rfl) ?_
      refine WL.nil (thenQ.n ?_)
      refine WC.condP (p := ((-9218868437227405312 ≤ sk ((l.take 60).getD (i).toNat 0) ∧ sk ((l.take 60).getD (i).toNat 0) ≤ 9218868437227405312) ∧ (-9218868437227405312 ≤ (0 : Int) ∧ (0 : Int) ≤ 9218868437227405312)) ∧ sk ((l.take 60).getD (i).toNat 0) = (0 : Int)) rfl (fun hc1 => ?_) (fun hc1 => ?_)
      · skip
        refine WC.region ?_
        refine WL.lv rfl (LV.asg rfl) ?_
        refine WL.nil (thenQ.n ?_)
        refine WC.seq ?_
        refine WC.region ?_
        iterate 2 refine WL.lv rfl (LV.mv rfl) ?_
        obtain ⟨A6, c6, e6, g3⟩ := St.elt (SH.rd hL1 (.head _)) 0 i (by omega) (by omega)
        refine WL.lv rfl (LV.idxA Try.underlying23 ti28.sz rfl e6 rfl (by omega) (by omega)) ?_
        refine WL.lv rfl (LV.load1 (v := (.float .f64 (ys3.getD (i).toNat 0))) Try.underlying28 rfl rfl (g3 _ (KB.refl No _) 0 _ rfl)) ?_
        refine WL.lv rfl (LV.mv rfl) ?_
        refine WL.call rfl (XC.fn Try.func17 (by kernel_rfl) rfl rfl rfl) (Calls.asB (fsame_calls (a := (ys3.getD (i).toNat 0)) (b := 0) (by first | assumption | omega | exact hp _ (getD_mem (by omega)) | exact hpz _ (getD_mem (by omega))) (by first | assumption | omega | exact hp _ (getD_mem (by omega)) | exact hpz _ (getD_mem (by omega)))) (decide_eq_true (by omega))) ?_
        rintro v_ w8 ⟨rfl, hk4⟩
        have hS10 := SH.same hL1 hk4
        refine WL.lv rfl (LV.notB rfl) ?_
        refine WL.nil (thenQ.n ?_)
        refine WC.condF rfl ?_
        refine WC.skip (blockQ.n <| thenQ.n ?_)
        refine WC.region ?_
        refine WL.lv rfl (LV.mv rfl) ?_
        refine WL.lv rfl (LV.add rfl rfl (wr64 (by omega) (by omega))) ?_
        refine WL.lv rfl (LV.asg rfl) ?_
        refine WL.nil (thenQ.n ?_)
        exact ⟨_, by omega, i + 1, by omega, by omega, hS10, rfl, Weak.cons rfl <| Weak.cons rfl <| Weak.cons rfl <| Weak.nil _⟩
      · skip
        refine WC.skip (thenQ.n ?_)
        refine WC.seq ?_
        refine WC.region ?_
        iterate 2 refine WL.lv rfl (LV.mv rfl) ?_
        obtain ⟨A7, c7, e7, g4⟩ := St.elt (SH.rd hL1 (.head _)) 0 i (by omega) (by omega)
        refine WL.lv rfl (LV.idxA Try.underlying23 ti28.sz rfl e7 rfl (by omega) (by omega)) ?_
        refine WL.lv rfl (LV.load1 (v := (.float .f64 (ys3.getD (i).toNat 0))) Try.underlying28 rfl rfl (g4 _ (KB.refl No _) 0 _ rfl)) ?_
        refine WL.lv rfl (LV.mv rfl) ?_
        refine WL.call rfl (XC.fn Try.func17 (by kernel_rfl) rfl rfl rfl) (Calls.asB (fsame_calls (a := (ys3.getD (i).toNat 0)) (b := ((l.take 60).getD (i).toNat 0)) (by first | assumption | omega | exact hp _ (getD_mem (by omega)) | exact hpz _ (getD_mem (by omega))) (by first | assumption | omega | exact hp _ (getD_mem (by omega)) | exact hpz _ (getD_mem (by omega)))) (decide_eq_true (by omega))) ?_
        rintro v_ w9 ⟨rfl, hk5⟩
        have hS11 := SH.same hL1 hk5
        refine WL.lv rfl (LV.notB rfl) ?_
        refine WL.nil (thenQ.n ?_)
        refine WC.condF rfl ?_
        refine WC.skip (blockQ.n <| thenQ.n ?_)
        refine WC.region ?_
        refine WL.lv rfl (LV.mv rfl) ?_
        refine WL.lv rfl (LV.add rfl rfl (wr64 (by omega) (by omega))) ?_
        refine WL.lv rfl (LV.asg rfl) ?_
        refine WL.nil (thenQ.n ?_)
        exact ⟨_, by omega, i + 1, by omega, by omega, hS11, rfl, Weak.cons rfl <| Weak.cons rfl <| Weak.cons rfl <| Weak.nil _⟩
  · skip
    refine WC.exit (thenQ.x <| thenQ.x <| blockQ.hit <| thenQ.n ?_)
    refine WC.seq ?_
    refine WC.region ?_
    refine WL.call rfl (XC.fn Try.func10 (by kernel_rfl) rfl rfl rfl) (live32_calls  ) ?_
    rintro v_ w10 ⟨rfl, hk6⟩
    have hS12 := SH.same hL1 hk6
    refine WL.lv rfl (LV.asg rfl) ?_
    refine WL.nil (thenQ.n ?_)
    refine WC.ret (?_)
    exact ⟨_, fun a ha => res1 rfl ha rfl, rfl, hS12.kb⟩

end Go.Proofs.Ytmmdplcnhndcgaa
