/- The law of shares. -/
import Derived.Test.YtomeffnlmefnlaaSxS
import Derived.Test.YtomeffnlmefnlaaSxO
namespace Go.Proofs.Ytomeffnlmefnlaa
open Go Go.Gv Go.RowKit Go.Mys Go.Num Go.Scr Go.Flt Go.Sts Go.Dec Go.Rpt
set_option linter.unusedVariables false
set_option linter.unusedSimpArgs false

set_option maxHeartbeats 4000000 in
set_option maxRecDepth 100000 in
theorem statsShares_law {w : World} {A_l : Option Addr} {n_l c_l : Nat} {l : List (Int × Int)} (h_l : St No w (Rd eP (.slice A_l n_l c_l) l)) (hn_l : l.length = n_l)  :
    Calls Try.prog 5 #[(.slice A_l n_l c_l)] w fun e w' => ∃ v, e = .returned v ∧ (fun v w' => v = .bool (decide (true)) ∧ KB No w w') v w' := by
  subst hn_l
  have hl_ : (l.take 60).length ≤ 60 := by rw [List.length_take]; omega
  have hS : SH w No w [] := SH.nil _ _
  refine calls (l := litOf [(.slice A_l l.length c_l)] 0) Try.func5 rfl (n := 121) rfl (Nat.le_of_ble_eq_true rfl) (lit_args _) ?_
  refine WC.seq ?_
  refine WC.region ?_
  refine WL.lv rfl (LV.asg rfl) ?_
  refine WL.nil (thenQ.n ?_)
  refine WC.seq ?_
  refine WC.region ?_
  iterate 2 refine WL.lv rfl (LV.mv rfl) ?_
  refine WL.lv rfl (LV.lenL Try.underlying25 rfl) ?_
  refine WL.lv rfl (LV.minI rfl rfl) ?_
  have hcap1 : l.length ≤ c_l := (Rd.cap (St.now (SH.stN hS h_l)))
  refine WL.lv rfl (LV.to (v := (.slice (if c_l = 0 then A_l else A_l.map (·.add (0 * 2))) ((min (l.length : Int) 60).toNat - 0) (c_l - 0))) (v' := (.slice (cutA A_l c_l 2) ((l.take 60).length) c_l)) (congrArg (fun n_ => Value.slice (cutA A_l c_l 2) n_ c_l) (show ((min (l.length : Int) 60).toNat - 0) = (l.take 60).length by rw [List.length_take]; omega)) (LV.cut Try.underlying25 ti30.sz rfl rfl rfl rfl ⟨.inl ⟨rfl, rfl⟩, .inr ⟨.i64, by rw [Int.toNat_of_nonneg (a := min (l.length : Int) 60) (by omega)] <;> rfl⟩, .inl ⟨rfl, rfl⟩⟩ (by omega) (by omega) (by omega))) ?_
  refine WL.lv rfl (LV.asg rfl) ?_
  refine WL.nil (thenQ.n ?_)
  refine WC.seq ?_
  refine WC.region ?_
  refine WL.lv rfl (LV.asg rfl) ?_
  refine WL.nil (thenQ.n ?_)
  iterate 2 refine WC.seq ?_
  refine WC.region ?_
  refine WL.lv rfl (LV.asg rfl) ?_
  refine WL.nil (thenQ.n ?_)
  refine WC.block ?_
  refine WC.loop (fun m_ f_ w_ => ∃ (sm : Bool) (i : Int), (0 ≤ i) ∧ (i ≤ ((l.take 60).length : Int)) ∧ (sm = true ↔ SHR ((l.take 60).take i.toNat) ≠ []) ∧ SH w No w_ [] ∧ m_ = ((((l.take 60).length : Int) - i).toNat) ∧ Weak (lit [(0, (.slice (cutA A_l c_l 2) ((l.take 60).length) c_l)), (3, (.bool sm)), (4, (.int .i64 i))]) f_) _ ⟨false, 0, by omega, by omega, (⟨fun h_ => absurd h_ Bool.false_ne_true, fun h_ => absurd rfl h_⟩), hS, rfl, Weak.cons rfl <| Weak.cons rfl <| Weak.cons rfl <| Weak.nil _⟩ ?_
  rintro m1 f2 w1 ⟨sm, i, ilo, ihi, f1, hL1, rfl, hw1⟩
  refine WC.weak hw1 ?_
  clear hw1
  iterate 2 refine WC.seq ?_
  refine WC.region ?_
  iterate 2 refine WL.lv rfl (LV.mv rfl) ?_
  refine WL.lv rfl (LV.lenL Try.underlying25 rfl) ?_
  refine WL.lv rfl (LV.ltI rfl rfl) ?_
  refine WL.nil (thenQ.n ?_)
  refine WC.condP (p := i < ((l.take 60).length : Int)) rfl (fun hk => ?_) (fun hk => ?_)
  · skip
    refine WC.skip (thenQ.n ?_)
    refine WC.seq ?_
    refine WC.block ?_
    refine WC.seq ?_
    have hS1 := SH.drew hL1
    refine WC.regionD [] (fun w_ => KB No w1.drew w_) [(.pure, 0), (.pure, 1), (.pure, 2), (.look, 3), (.pure, 5), (.pure, 6), (.pure, 7), (.pure, 8), (.look, 9), (.pure, 10), (.pure, 11), (.pure, 12), (.pure, 13), (.look, 14), (.pure, 15), (.forced, 4), (.forced, 16), (.pure, 17), (.pure, 18)] (by kernel_rfl) (by kernel_rfl) (KB.refl _ _) ?_
    iterate 2 refine WS.pure rfl rfl (fun _ => LV.mv rfl) ?_
    obtain ⟨A1, c1, e1, g1⟩ := St.elt (SH.stN hS1 (few_rd 60 h_l)) (0, 0) i (by omega) (by omega)
    refine WS.pure rfl rfl (fun _ => LV.idxA Try.underlying25 ti30.sz rfl e1 rfl (by omega) (by omega)) ?_
    refine WS.look rfl rfl (fun _ hk_ => LV.loadAgg (cs := [(.int .i64 (((l.take 60).getD (i).toNat (0, 0)).1)), (.int .i64 (((l.take 60).getD (i).toNat (0, 0)).2))]) Try.underlying30 rfl ti30 rfl rfl (fun j u hu => g1 _ hk_ j u hu)) ?_
    iterate 2 refine WS.pure rfl rfl (fun _ => LV.mv rfl) ?_
    obtain ⟨A2, c2, e2, g2⟩ := St.elt (SH.stN hS1 (few_rd 60 h_l)) (0, 0) i (by omega) (by omega)
    refine WS.pure rfl rfl (fun _ => LV.idxA Try.underlying25 ti30.sz rfl e2 rfl (by omega) (by omega)) ?_
    refine WS.pure rfl rfl (fun _ => LV.fieldA Try.underlying30 rfl ti3.sz rfl) ?_
    refine WS.look rfl rfl (fun _ hk_ => LV.load1 (v := (.int .i64 (((l.take 60).getD (i).toNat (0, 0)).2))) Try.underlying3 rfl rfl (g2 _ hk_ 1 _ rfl)) ?_
    iterate 2 refine WS.pure rfl rfl (fun _ => LV.mv rfl) ?_
    obtain ⟨A3, c3, e3, g3⟩ := St.elt (SH.stN hS1 (few_rd 60 h_l)) (0, 0) i (by omega) (by omega)
    refine WS.pure rfl rfl (fun _ => LV.idxA Try.underlying25 ti30.sz rfl e3 rfl (by omega) (by omega)) ?_
    refine WS.pure rfl rfl (fun _ => LV.fieldA Try.underlying30 rfl ti3.sz rfl) ?_
    refine WS.look rfl rfl (fun _ hk_ => LV.load1 (v := (.int .i64 (((l.take 60).getD (i).toNat (0, 0)).1))) Try.underlying3 rfl rfl (g3 _ hk_ 0 _ rfl)) ?_
    refine WS.pure rfl rfl (fun _ => LV.build (vs := [(0, (.int .i64 (((l.take 60).getD (i).toNat (0, 0)).2))), (1, (.int .i64 (((l.take 60).getD (i).toNat (0, 0)).1)))]) (places := #[(0, 1), (1, 1)]) (cs := #[(.int .i64 (((l.take 60).getD (i).toNat (0, 0)).2)), (.int .i64 (((l.take 60).getD (i).toNat (0, 0)).1))]) Try.underlying30 ti30 (fun _ => by kernel_rfl) rfl rfl) ?_
    refine WS.call rfl rfl (XC.fn Try.func11 (by kernel_rfl) rfl rfl rfl) (fresh_calls (c := ((l.take 60).getD (i).toNat (0, 0))) ) ?_
    rintro v_ w2 ⟨r1, rfl, hf1, hf2, hk1⟩
    have hS2 := SH.same hS1 hk1
    have hx_ := hf1
    refine ⟨fun h_ => (KB.transN (KB.refl _ _) hk1), ?_⟩
    refine WS.call rfl rfl (XC.fn Try.func11 (by kernel_rfl) rfl rfl rfl) (fresh_calls (c := (((l.take 60).getD (i).toNat (0, 0)).2, ((l.take 60).getD (i).toNat (0, 0)).1)) ) ?_
    rintro v_ w3 ⟨r2, rfl, hf3, hf4, hk2⟩
    have hS3 := SH.same hS2 hk2
    have hy_ := hf3
    have hsn_ := shares_nan hx_ hy_
    have hsn1_ := hsn_.1
    have hsn2_ := hsn_.2
    refine ⟨fun h_ => (KB.transN (KB.transN (KB.refl _ _) hk1) hk2), ?_⟩
    iterate 2 refine WS.pure rfl rfl (fun _ => LV.asg rfl) ?_
    refine WS.nil (thenQ.n ?_)
    iterate 2 refine WC.seq ?_
    refine WC.region ?_
    iterate 2 refine WL.lv rfl (LV.mv rfl) ?_
    refine WL.lv rfl (LV.neF (a := r1) (b := r1) rfl rfl) ?_
    iterate 2 refine WL.lv rfl (LV.mv rfl) ?_
    refine WL.lv rfl (LV.neF (a := r2) (b := r2) rfl rfl) ?_
    refine WL.lv rfl (LV.as (c := false) (LV.neB Try.underlying4 rfl rfl) (nn_same hsn1_)) ?_
    iterate 3 refine WL.lv rfl (LV.mv rfl) ?_
    rcases Decidable.em (((-9218868437227405312 ≤ sk r1 ∧ sk r1 ≤ 9218868437227405312) ∧ (-9218868437227405312 ≤ sk r1 ∧ sk r1 ≤ 9218868437227405312)) ∧ sk r1 = sk r1) with hg1 | hg1
    · refine WL.lv rfl (LV.as (LV.eqF (a := r1) (b := r1) rfl rfl) (decide_eq_true hg1)) ?_
      iterate 2 refine WL.lv rfl (LV.mv rfl) ?_
      have hsk_0 : sk 0 = (0 : Int) := by decide +kernel
      refine WL.lv rfl (LV.as (LV.ltF (a := r1) (b := 0) rfl rfl) (decide_eq_false (by omega))) ?_
      iterate 2 refine WL.lv rfl (LV.mv rfl) ?_
      have hsk_4607182418800017408 : sk 4607182418800017408 = (4607182418800017408 : Int) := by decide +kernel
      refine WL.lv rfl (LV.as (LV.gtF (a := r1) (b := 4607182418800017408) rfl rfl) (decide_eq_false (by omega))) ?_
      refine WL.lv rfl (LV.pickF rfl rfl) ?_
      refine WL.lv rfl (LV.pickT rfl rfl) ?_
      refine WL.lv rfl (LV.pickF rfl rfl) ?_
      refine WL.nil (thenQ.n ?_)
      refine WC.condF rfl ?_
      refine WC.skip (thenQ.n ?_)
      iterate 2 refine WC.seq ?_
      refine WC.region ?_
      refine WL.lv rfl (LV.mv rfl) ?_
      have hsk_4602678819172646912 : sk 4602678819172646912 = (4602678819172646912 : Int) := by decide +kernel
      rcases Decidable.em (((-9218868437227405312 ≤ sk r1 ∧ sk r1 ≤ 9218868437227405312) ∧ (-9218868437227405312 ≤ (4602678819172646912 : Int) ∧ (4602678819172646912 : Int) ≤ 9218868437227405312)) ∧ sk r1 = (4602678819172646912 : Int)) with hg2 | hg2
      · refine WL.lv rfl (LV.as (LV.eqF (a := r1) (b := 4602678819172646912) rfl rfl) (decide_eq_true hg2)) ?_
        refine WL.lv rfl (LV.mv rfl) ?_
        iterate 2 refine WL.off rfl ?_
        refine WL.lv rfl (LV.pickT rfl rfl) ?_
        refine WL.lv rfl (LV.mv rfl) ?_
        iterate 2 refine WL.off rfl ?_
        refine WL.lv rfl (LV.pickT rfl rfl) ?_
        iterate 3 refine WL.lv rfl (LV.mv rfl) ?_
        refine WL.xe rfl (XE.arF (a := r1) (b := r2) hS3 (.inl rfl) rfl rfl) ?_
        rintro _ w4 ⟨r3, rfl, hr1, hb1, hS4, hk3⟩
        have hst_ := shares_turn hx_ hy_ (by omega) hr1
        have hst1_ := hst_.1
        have hst2_ := hst_.2
        have hsk_4607182418800017408 : sk 4607182418800017408 = (4607182418800017408 : Int) := by decide +kernel
        refine WL.lv rfl (LV.as (LV.neF (a := r3) (b := 4607182418800017408) rfl rfl) (decide_eq_false (by omega))) ?_
        refine WL.lv rfl (LV.pickT rfl rfl) ?_
        refine WL.nil (thenQ.n ?_)
        refine WC.condF rfl ?_
        refine WC.skip (thenQ.n ?_)
        refine WC.region ?_
        rcases Bool.eq_false_or_eq_true (sm) with hgs | hgs
        · refine WL.lv rfl (LV.as (c := true) (LV.mv rfl) hgs) ?_
          refine WL.lv rfl (LV.mv rfl) ?_
          iterate 3 refine WL.off rfl ?_
          refine WL.lv rfl (LV.pickT rfl rfl) ?_
          refine WL.lv rfl (LV.asg rfl) ?_
          refine WL.nil (blockQ.n <| thenQ.n ?_)
          refine WC.region ?_
          refine WL.lv rfl (LV.mv rfl) ?_
          refine WL.lv rfl (LV.add rfl rfl (wr64 (by omega) (by omega))) ?_
          refine WL.lv rfl (LV.asg rfl) ?_
          refine WL.nil (thenQ.n ?_)
          exact ⟨_, by omega, true, i + 1, by omega, by omega, (shr_ne ilo hk hx_ f1 ⟨(fun _ => by first | exact .inl hgs | exact .inr (by omega)), fun _ => rfl⟩), hS4, rfl, Weak.cons rfl <| Weak.cons rfl <| Weak.cons rfl <| Weak.nil _⟩
        · refine WL.lv rfl (LV.as (c := false) (LV.mv rfl) hgs) ?_
          iterate 3 refine WL.lv rfl (LV.mv rfl) ?_
          refine WL.lv rfl (LV.as (LV.eqF (a := r1) (b := r1) rfl rfl) (decide_eq_true hg1)) ?_
          refine WL.lv rfl (LV.pickF rfl rfl) ?_
          refine WL.lv rfl (LV.asg rfl) ?_
          refine WL.nil (blockQ.n <| thenQ.n ?_)
          refine WC.region ?_
          refine WL.lv rfl (LV.mv rfl) ?_
          refine WL.lv rfl (LV.add rfl rfl (wr64 (by omega) (by omega))) ?_
          refine WL.lv rfl (LV.asg rfl) ?_
          refine WL.nil (thenQ.n ?_)
          exact ⟨_, by omega, true, i + 1, by omega, by omega, (shr_ne ilo hk hx_ f1 ⟨(fun _ => by first | exact .inl hgs | exact .inr (by omega)), fun _ => rfl⟩), hS4, rfl, Weak.cons rfl <| Weak.cons rfl <| Weak.cons rfl <| Weak.nil _⟩
      · refine WL.lv rfl (LV.as (LV.eqF (a := r1) (b := 4602678819172646912) rfl rfl) (decide_eq_false hg2)) ?_
        iterate 2 refine WL.lv rfl (LV.mv rfl) ?_
        have hsk_0 : sk 0 = (0 : Int) := by decide +kernel
        rcases Decidable.em (((-9218868437227405312 ≤ sk r1 ∧ sk r1 ≤ 9218868437227405312) ∧ (-9218868437227405312 ≤ (0 : Int) ∧ (0 : Int) ≤ 9218868437227405312)) ∧ sk r1 = (0 : Int)) with hg3 | hg3
        · refine WL.lv rfl (LV.as (LV.eqF (a := r1) (b := 0) rfl rfl) (decide_eq_true hg3)) ?_
          refine WL.lv rfl (LV.pickF rfl rfl) ?_
          refine WL.lv rfl (LV.mv rfl) ?_
          iterate 2 refine WL.off rfl ?_
          refine WL.lv rfl (LV.pickT rfl rfl) ?_
          iterate 3 refine WL.lv rfl (LV.mv rfl) ?_
          refine WL.xe rfl (XE.arF (a := r1) (b := r2) hS3 (.inl rfl) rfl rfl) ?_
          rintro _ w5 ⟨r4, rfl, hr2, hb2, hS5, hk4⟩
          have hst_ := shares_turn hx_ hy_ (by omega) hr2
          have hst1_ := hst_.1
          have hst2_ := hst_.2
          have hsk_4607182418800017408 : sk 4607182418800017408 = (4607182418800017408 : Int) := by decide +kernel
          refine WL.lv rfl (LV.as (LV.neF (a := r4) (b := 4607182418800017408) rfl rfl) (decide_eq_false (by omega))) ?_
          refine WL.lv rfl (LV.pickT rfl rfl) ?_
          refine WL.nil (thenQ.n ?_)
          refine WC.condF rfl ?_
          refine WC.skip (thenQ.n ?_)
          refine WC.region ?_
          rcases Bool.eq_false_or_eq_true (sm) with hgs | hgs
          · refine WL.lv rfl (LV.as (c := true) (LV.mv rfl) hgs) ?_
            refine WL.lv rfl (LV.mv rfl) ?_
            iterate 3 refine WL.off rfl ?_
            refine WL.lv rfl (LV.pickT rfl rfl) ?_
            refine WL.lv rfl (LV.asg rfl) ?_
            refine WL.nil (blockQ.n <| thenQ.n ?_)
            refine WC.region ?_
            refine WL.lv rfl (LV.mv rfl) ?_
            refine WL.lv rfl (LV.add rfl rfl (wr64 (by omega) (by omega))) ?_
            refine WL.lv rfl (LV.asg rfl) ?_
            refine WL.nil (thenQ.n ?_)
            exact ⟨_, by omega, true, i + 1, by omega, by omega, (shr_ne ilo hk hx_ f1 ⟨(fun _ => by first | exact .inl hgs | exact .inr (by omega)), fun _ => rfl⟩), hS5, rfl, Weak.cons rfl <| Weak.cons rfl <| Weak.cons rfl <| Weak.nil _⟩
          · refine WL.lv rfl (LV.as (c := false) (LV.mv rfl) hgs) ?_
            iterate 3 refine WL.lv rfl (LV.mv rfl) ?_
            refine WL.lv rfl (LV.as (LV.eqF (a := r1) (b := r1) rfl rfl) (decide_eq_true hg1)) ?_
            refine WL.lv rfl (LV.pickF rfl rfl) ?_
            refine WL.lv rfl (LV.asg rfl) ?_
            refine WL.nil (blockQ.n <| thenQ.n ?_)
            refine WC.region ?_
            refine WL.lv rfl (LV.mv rfl) ?_
            refine WL.lv rfl (LV.add rfl rfl (wr64 (by omega) (by omega))) ?_
            refine WL.lv rfl (LV.asg rfl) ?_
            refine WL.nil (thenQ.n ?_)
            exact ⟨_, by omega, true, i + 1, by omega, by omega, (shr_ne ilo hk hx_ f1 ⟨(fun _ => by first | exact .inl hgs | exact .inr (by omega)), fun _ => rfl⟩), hS5, rfl, Weak.cons rfl <| Weak.cons rfl <| Weak.cons rfl <| Weak.nil _⟩
        · refine WL.lv rfl (LV.as (LV.eqF (a := r1) (b := 0) rfl rfl) (decide_eq_false hg3)) ?_
          refine WL.lv rfl (LV.pickF rfl rfl) ?_
          iterate 2 refine WL.lv rfl (LV.mv rfl) ?_
          have hsk_4607182418800017408 : sk 4607182418800017408 = (4607182418800017408 : Int) := by decide +kernel
          rcases Decidable.em (((-9218868437227405312 ≤ sk r1 ∧ sk r1 ≤ 9218868437227405312) ∧ (-9218868437227405312 ≤ (4607182418800017408 : Int) ∧ (4607182418800017408 : Int) ≤ 9218868437227405312)) ∧ sk r1 = (4607182418800017408 : Int)) with hg4 | hg4
          · refine WL.lv rfl (LV.as (LV.eqF (a := r1) (b := 4607182418800017408) rfl rfl) (decide_eq_true hg4)) ?_
            refine WL.lv rfl (LV.pickF rfl rfl) ?_
            iterate 3 refine WL.lv rfl (LV.mv rfl) ?_
            refine WL.xe rfl (XE.arF (a := r1) (b := r2) hS3 (.inl rfl) rfl rfl) ?_
            rintro _ w6 ⟨r5, rfl, hr3, hb3, hS6, hk5⟩
            have hst_ := shares_turn hx_ hy_ (by omega) hr3
            have hst1_ := hst_.1
            have hst2_ := hst_.2
            have hsk_4607182418800017408 : sk 4607182418800017408 = (4607182418800017408 : Int) := by decide +kernel
            refine WL.lv rfl (LV.as (LV.neF (a := r5) (b := 4607182418800017408) rfl rfl) (decide_eq_false (by omega))) ?_
            refine WL.lv rfl (LV.pickT rfl rfl) ?_
            refine WL.nil (thenQ.n ?_)
            refine WC.condF rfl ?_
            refine WC.skip (thenQ.n ?_)
            refine WC.region ?_
            rcases Bool.eq_false_or_eq_true (sm) with hgs | hgs
            · refine WL.lv rfl (LV.as (c := true) (LV.mv rfl) hgs) ?_
              refine WL.lv rfl (LV.mv rfl) ?_
              iterate 3 refine WL.off rfl ?_
              refine WL.lv rfl (LV.pickT rfl rfl) ?_
              refine WL.lv rfl (LV.asg rfl) ?_
              refine WL.nil (blockQ.n <| thenQ.n ?_)
              refine WC.region ?_
              refine WL.lv rfl (LV.mv rfl) ?_
              refine WL.lv rfl (LV.add rfl rfl (wr64 (by omega) (by omega))) ?_
              refine WL.lv rfl (LV.asg rfl) ?_
              refine WL.nil (thenQ.n ?_)
              exact ⟨_, by omega, true, i + 1, by omega, by omega, (shr_ne ilo hk hx_ f1 ⟨(fun _ => by first | exact .inl hgs | exact .inr (by omega)), fun _ => rfl⟩), hS6, rfl, Weak.cons rfl <| Weak.cons rfl <| Weak.cons rfl <| Weak.nil _⟩
            · refine WL.lv rfl (LV.as (c := false) (LV.mv rfl) hgs) ?_
              iterate 3 refine WL.lv rfl (LV.mv rfl) ?_
              refine WL.lv rfl (LV.as (LV.eqF (a := r1) (b := r1) rfl rfl) (decide_eq_true hg1)) ?_
              refine WL.lv rfl (LV.pickF rfl rfl) ?_
              refine WL.lv rfl (LV.asg rfl) ?_
              refine WL.nil (blockQ.n <| thenQ.n ?_)
              refine WC.region ?_
              refine WL.lv rfl (LV.mv rfl) ?_
              refine WL.lv rfl (LV.add rfl rfl (wr64 (by omega) (by omega))) ?_
              refine WL.lv rfl (LV.asg rfl) ?_
              refine WL.nil (thenQ.n ?_)
              exact ⟨_, by omega, true, i + 1, by omega, by omega, (shr_ne ilo hk hx_ f1 ⟨(fun _ => by first | exact .inl hgs | exact .inr (by omega)), fun _ => rfl⟩), hS6, rfl, Weak.cons rfl <| Weak.cons rfl <| Weak.cons rfl <| Weak.nil _⟩
          · refine WL.lv rfl (LV.as (LV.eqF (a := r1) (b := 4607182418800017408) rfl rfl) (decide_eq_false hg4)) ?_
            refine WL.lv rfl (LV.pickF rfl rfl) ?_
            refine WL.lv rfl (LV.mv rfl) ?_
            iterate 4 refine WL.off rfl ?_
            refine WL.lv rfl (LV.pickF rfl rfl) ?_
            refine WL.nil (thenQ.n ?_)
            refine WC.condF rfl ?_
            refine WC.skip (thenQ.n ?_)
            refine WC.region ?_
            rcases Bool.eq_false_or_eq_true (sm) with hgs | hgs
            · refine WL.lv rfl (LV.as (c := true) (LV.mv rfl) hgs) ?_
              refine WL.lv rfl (LV.mv rfl) ?_
              iterate 3 refine WL.off rfl ?_
              refine WL.lv rfl (LV.pickT rfl rfl) ?_
              refine WL.lv rfl (LV.asg rfl) ?_
              refine WL.nil (blockQ.n <| thenQ.n ?_)
              refine WC.region ?_
              refine WL.lv rfl (LV.mv rfl) ?_
              refine WL.lv rfl (LV.add rfl rfl (wr64 (by omega) (by omega))) ?_
              refine WL.lv rfl (LV.asg rfl) ?_
              refine WL.nil (thenQ.n ?_)
              exact ⟨_, by omega, true, i + 1, by omega, by omega, (shr_ne ilo hk hx_ f1 ⟨(fun _ => by first | exact .inl hgs | exact .inr (by omega)), fun _ => rfl⟩), hS3, rfl, Weak.cons rfl <| Weak.cons rfl <| Weak.cons rfl <| Weak.nil _⟩
            · refine WL.lv rfl (LV.as (c := false) (LV.mv rfl) hgs) ?_
              iterate 3 refine WL.lv rfl (LV.mv rfl) ?_
              refine WL.lv rfl (LV.as (LV.eqF (a := r1) (b := r1) rfl rfl) (decide_eq_true hg1)) ?_
              refine WL.lv rfl (LV.pickF rfl rfl) ?_
              refine WL.lv rfl (LV.asg rfl) ?_
              refine WL.nil (blockQ.n <| thenQ.n ?_)
              refine WC.region ?_
              refine WL.lv rfl (LV.mv rfl) ?_
              refine WL.lv rfl (LV.add rfl rfl (wr64 (by omega) (by omega))) ?_
              refine WL.lv rfl (LV.asg rfl) ?_
              refine WL.nil (thenQ.n ?_)
              exact ⟨_, by omega, true, i + 1, by omega, by omega, (shr_ne ilo hk hx_ f1 ⟨(fun _ => by first | exact .inl hgs | exact .inr (by omega)), fun _ => rfl⟩), hS3, rfl, Weak.cons rfl <| Weak.cons rfl <| Weak.cons rfl <| Weak.nil _⟩
    · refine WL.lv rfl (LV.as (LV.eqF (a := r1) (b := r1) rfl rfl) (decide_eq_false hg1)) ?_
      refine WL.lv rfl (LV.mv rfl) ?_
      iterate 6 refine WL.off rfl ?_
      iterate 2 refine WL.lv rfl (LV.pickF rfl rfl) ?_
      refine WL.nil (thenQ.n ?_)
      refine WC.condF rfl ?_
      refine WC.skip (thenQ.n ?_)
      iterate 2 refine WC.seq ?_
      refine WC.region ?_
      refine WL.lv rfl (LV.mv rfl) ?_
      have hsk_4602678819172646912 : sk 4602678819172646912 = (4602678819172646912 : Int) := by decide +kernel
      rcases Decidable.em (((-9218868437227405312 ≤ sk r1 ∧ sk r1 ≤ 9218868437227405312) ∧ (-9218868437227405312 ≤ (4602678819172646912 : Int) ∧ (4602678819172646912 : Int) ≤ 9218868437227405312)) ∧ sk r1 = (4602678819172646912 : Int)) with hg5 | hg5
      · refine WL.lv rfl (LV.as (LV.eqF (a := r1) (b := 4602678819172646912) rfl rfl) (decide_eq_true hg5)) ?_
        refine WL.lv rfl (LV.mv rfl) ?_
        iterate 2 refine WL.off rfl ?_
        refine WL.lv rfl (LV.pickT rfl rfl) ?_
        refine WL.lv rfl (LV.mv rfl) ?_
        iterate 2 refine WL.off rfl ?_
        refine WL.lv rfl (LV.pickT rfl rfl) ?_
        iterate 3 refine WL.lv rfl (LV.mv rfl) ?_
        refine WL.xe rfl (XE.arF (a := r1) (b := r2) hS3 (.inl rfl) rfl rfl) ?_
        rintro _ w7 ⟨r6, rfl, hr4, hb4, hS7, hk6⟩
        have hst_ := shares_turn hx_ hy_ (by omega) hr4
        have hst1_ := hst_.1
        have hst2_ := hst_.2
        have hsk_4607182418800017408 : sk 4607182418800017408 = (4607182418800017408 : Int) := by decide +kernel
        refine WL.lv rfl (LV.as (LV.neF (a := r6) (b := 4607182418800017408) rfl rfl) (decide_eq_false (by omega))) ?_
        refine WL.lv rfl (LV.pickT rfl rfl) ?_
        refine WL.nil (thenQ.n ?_)
        refine WC.condF rfl ?_
        refine WC.skip (thenQ.n ?_)
        refine WC.region ?_
        rcases Bool.eq_false_or_eq_true (sm) with hgs | hgs
        · refine WL.lv rfl (LV.as (c := true) (LV.mv rfl) hgs) ?_
          refine WL.lv rfl (LV.mv rfl) ?_
          iterate 3 refine WL.off rfl ?_
          refine WL.lv rfl (LV.pickT rfl rfl) ?_
          refine WL.lv rfl (LV.asg rfl) ?_
          refine WL.nil (blockQ.n <| thenQ.n ?_)
          refine WC.region ?_
          refine WL.lv rfl (LV.mv rfl) ?_
          refine WL.lv rfl (LV.add rfl rfl (wr64 (by omega) (by omega))) ?_
          refine WL.lv rfl (LV.asg rfl) ?_
          refine WL.nil (thenQ.n ?_)
          exact ⟨_, by omega, true, i + 1, by omega, by omega, (shr_ne ilo hk hx_ f1 ⟨(fun _ => by first | exact .inl hgs | exact .inr (by omega)), fun _ => rfl⟩), hS7, rfl, Weak.cons rfl <| Weak.cons rfl <| Weak.cons rfl <| Weak.nil _⟩
        · refine WL.lv rfl (LV.as (c := false) (LV.mv rfl) hgs) ?_
          iterate 3 refine WL.lv rfl (LV.mv rfl) ?_
          refine WL.lv rfl (LV.as (LV.eqF (a := r1) (b := r1) rfl rfl) (decide_eq_false hg1)) ?_
          refine WL.lv rfl (LV.pickF rfl rfl) ?_
          refine WL.lv rfl (LV.asg rfl) ?_
          refine WL.nil (blockQ.n <| thenQ.n ?_)
          refine WC.region ?_
          refine WL.lv rfl (LV.mv rfl) ?_
          refine WL.lv rfl (LV.add rfl rfl (wr64 (by omega) (by omega))) ?_
          refine WL.lv rfl (LV.asg rfl) ?_
          refine WL.nil (thenQ.n ?_)
          exact ⟨_, by omega, false, i + 1, by omega, by omega, (shr_ne ilo hk hx_ f1 ⟨fun h_ => absurd h_ Bool.false_ne_true, fun h_ => h_.elim (fun h2_ => absurd (hgs.symm.trans h2_) Bool.false_ne_true) (fun h2_ => absurd h2_ (by omega))⟩), hS7, rfl, Weak.cons rfl <| Weak.cons rfl <| Weak.cons rfl <| Weak.nil _⟩
      · refine WL.lv rfl (LV.as (LV.eqF (a := r1) (b := 4602678819172646912) rfl rfl) (decide_eq_false hg5)) ?_
        iterate 2 refine WL.lv rfl (LV.mv rfl) ?_
        have hsk_0 : sk 0 = (0 : Int) := by decide +kernel
        rcases Decidable.em (((-9218868437227405312 ≤ sk r1 ∧ sk r1 ≤ 9218868437227405312) ∧ (-9218868437227405312 ≤ (0 : Int) ∧ (0 : Int) ≤ 9218868437227405312)) ∧ sk r1 = (0 : Int)) with hg6 | hg6
        · refine WL.lv rfl (LV.as (LV.eqF (a := r1) (b := 0) rfl rfl) (decide_eq_true hg6)) ?_
          refine WL.lv rfl (LV.pickF rfl rfl) ?_
          refine WL.lv rfl (LV.mv rfl) ?_
          iterate 2 refine WL.off rfl ?_
          refine WL.lv rfl (LV.pickT rfl rfl) ?_
          iterate 3 refine WL.lv rfl (LV.mv rfl) ?_
          refine WL.xe rfl (XE.arF (a := r1) (b := r2) hS3 (.inl rfl) rfl rfl) ?_
          rintro _ w8 ⟨r7, rfl, hr5, hb5, hS8, hk7⟩
          have hst_ := shares_turn hx_ hy_ (by omega) hr5
          have hst1_ := hst_.1
          have hst2_ := hst_.2
          have hsk_4607182418800017408 : sk 4607182418800017408 = (4607182418800017408 : Int) := by decide +kernel
          refine WL.lv rfl (LV.as (LV.neF (a := r7) (b := 4607182418800017408) rfl rfl) (decide_eq_false (by omega))) ?_
          refine WL.lv rfl (LV.pickT rfl rfl) ?_
          refine WL.nil (thenQ.n ?_)
          refine WC.condF rfl ?_
          refine WC.skip (thenQ.n ?_)
          refine WC.region ?_
          rcases Bool.eq_false_or_eq_true (sm) with hgs | hgs
          · refine WL.lv rfl (LV.as (c := true) (LV.mv rfl) hgs) ?_
            refine WL.lv rfl (LV.mv rfl) ?_
            iterate 3 refine WL.off rfl ?_
            refine WL.lv rfl (LV.pickT rfl rfl) ?_
            refine WL.lv rfl (LV.asg rfl) ?_
            refine WL.nil (blockQ.n <| thenQ.n ?_)
            refine WC.region ?_
            refine WL.lv rfl (LV.mv rfl) ?_
            refine WL.lv rfl (LV.add rfl rfl (wr64 (by omega) (by omega))) ?_
            refine WL.lv rfl (LV.asg rfl) ?_
            refine WL.nil (thenQ.n ?_)
            exact ⟨_, by omega, true, i + 1, by omega, by omega, (shr_ne ilo hk hx_ f1 ⟨(fun _ => by first | exact .inl hgs | exact .inr (by omega)), fun _ => rfl⟩), hS8, rfl, Weak.cons rfl <| Weak.cons rfl <| Weak.cons rfl <| Weak.nil _⟩
          · refine WL.lv rfl (LV.as (c := false) (LV.mv rfl) hgs) ?_
            iterate 3 refine WL.lv rfl (LV.mv rfl) ?_
            refine WL.lv rfl (LV.as (LV.eqF (a := r1) (b := r1) rfl rfl) (decide_eq_false hg1)) ?_
            refine WL.lv rfl (LV.pickF rfl rfl) ?_
            refine WL.lv rfl (LV.asg rfl) ?_
            refine WL.nil (blockQ.n <| thenQ.n ?_)
            refine WC.region ?_
            refine WL.lv rfl (LV.mv rfl) ?_
            refine WL.lv rfl (LV.add rfl rfl (wr64 (by omega) (by omega))) ?_
            refine WL.lv rfl (LV.asg rfl) ?_
            refine WL.nil (thenQ.n ?_)
            exact ⟨_, by omega, false, i + 1, by omega, by omega, (shr_ne ilo hk hx_ f1 ⟨fun h_ => absurd h_ Bool.false_ne_true, fun h_ => h_.elim (fun h2_ => absurd (hgs.symm.trans h2_) Bool.false_ne_true) (fun h2_ => absurd h2_ (by omega))⟩), hS8, rfl, Weak.cons rfl <| Weak.cons rfl <| Weak.cons rfl <| Weak.nil _⟩
        · refine WL.lv rfl (LV.as (LV.eqF (a := r1) (b := 0) rfl rfl) (decide_eq_false hg6)) ?_
          refine WL.lv rfl (LV.pickF rfl rfl) ?_
          iterate 2 refine WL.lv rfl (LV.mv rfl) ?_
          have hsk_4607182418800017408 : sk 4607182418800017408 = (4607182418800017408 : Int) := by decide +kernel
          rcases Decidable.em (((-9218868437227405312 ≤ sk r1 ∧ sk r1 ≤ 9218868437227405312) ∧ (-9218868437227405312 ≤ (4607182418800017408 : Int) ∧ (4607182418800017408 : Int) ≤ 9218868437227405312)) ∧ sk r1 = (4607182418800017408 : Int)) with hg7 | hg7
          · refine WL.lv rfl (LV.as (LV.eqF (a := r1) (b := 4607182418800017408) rfl rfl) (decide_eq_true hg7)) ?_
            refine WL.lv rfl (LV.pickF rfl rfl) ?_
            iterate 3 refine WL.lv rfl (LV.mv rfl) ?_
            refine WL.xe rfl (XE.arF (a := r1) (b := r2) hS3 (.inl rfl) rfl rfl) ?_
            rintro _ w9 ⟨r8, rfl, hr6, hb6, hS9, hk8⟩
            have hst_ := shares_turn hx_ hy_ (by omega) hr6
            have hst1_ := hst_.1
            have hst2_ := hst_.2
            have hsk_4607182418800017408 : sk 4607182418800017408 = (4607182418800017408 : Int) := by decide +kernel
            refine WL.lv rfl (LV.as (LV.neF (a := r8) (b := 4607182418800017408) rfl rfl) (decide_eq_false (by omega))) ?_
            refine WL.lv rfl (LV.pickT rfl rfl) ?_
            refine WL.nil (thenQ.n ?_)
            refine WC.condF rfl ?_
            refine WC.skip (thenQ.n ?_)
            refine WC.region ?_
            rcases Bool.eq_false_or_eq_true (sm) with hgs | hgs
            · refine WL.lv rfl (LV.as (c := true) (LV.mv rfl) hgs) ?_
              refine WL.lv rfl (LV.mv rfl) ?_
              iterate 3 refine WL.off rfl ?_
              refine WL.lv rfl (LV.pickT rfl rfl) ?_
              refine WL.lv rfl (LV.asg rfl) ?_
              refine WL.nil (blockQ.n <| thenQ.n ?_)
              refine WC.region ?_
              refine WL.lv rfl (LV.mv rfl) ?_
              refine WL.lv rfl (LV.add rfl rfl (wr64 (by omega) (by omega))) ?_
              refine WL.lv rfl (LV.asg rfl) ?_
              refine WL.nil (thenQ.n ?_)
              exact ⟨_, by omega, true, i + 1, by omega, by omega, (shr_ne ilo hk hx_ f1 ⟨(fun _ => by first | exact .inl hgs | exact .inr (by omega)), fun _ => rfl⟩), hS9, rfl, Weak.cons rfl <| Weak.cons rfl <| Weak.cons rfl <| Weak.nil _⟩
            · refine WL.lv rfl (LV.as (c := false) (LV.mv rfl) hgs) ?_
              iterate 3 refine WL.lv rfl (LV.mv rfl) ?_
              refine WL.lv rfl (LV.as (LV.eqF (a := r1) (b := r1) rfl rfl) (decide_eq_false hg1)) ?_
              refine WL.lv rfl (LV.pickF rfl rfl) ?_
              refine WL.lv rfl (LV.asg rfl) ?_
              refine WL.nil (blockQ.n <| thenQ.n ?_)
              refine WC.region ?_
              refine WL.lv rfl (LV.mv rfl) ?_
              refine WL.lv rfl (LV.add rfl rfl (wr64 (by omega) (by omega))) ?_
              refine WL.lv rfl (LV.asg rfl) ?_
              refine WL.nil (thenQ.n ?_)
              exact ⟨_, by omega, false, i + 1, by omega, by omega, (shr_ne ilo hk hx_ f1 ⟨fun h_ => absurd h_ Bool.false_ne_true, fun h_ => h_.elim (fun h2_ => absurd (hgs.symm.trans h2_) Bool.false_ne_true) (fun h2_ => absurd h2_ (by omega))⟩), hS9, rfl, Weak.cons rfl <| Weak.cons rfl <| Weak.cons rfl <| Weak.nil _⟩
          · refine WL.lv rfl (LV.as (LV.eqF (a := r1) (b := 4607182418800017408) rfl rfl) (decide_eq_false hg7)) ?_
            refine WL.lv rfl (LV.pickF rfl rfl) ?_
            refine WL.lv rfl (LV.mv rfl) ?_
            iterate 4 refine WL.off rfl ?_
            refine WL.lv rfl (LV.pickF rfl rfl) ?_
            refine WL.nil (thenQ.n ?_)
            refine WC.condF rfl ?_
            refine WC.skip (thenQ.n ?_)
            refine WC.region ?_
            rcases Bool.eq_false_or_eq_true (sm) with hgs | hgs
            · refine WL.lv rfl (LV.as (c := true) (LV.mv rfl) hgs) ?_
              refine WL.lv rfl (LV.mv rfl) ?_
              iterate 3 refine WL.off rfl ?_
              refine WL.lv rfl (LV.pickT rfl rfl) ?_
              refine WL.lv rfl (LV.asg rfl) ?_
              refine WL.nil (blockQ.n <| thenQ.n ?_)
              refine WC.region ?_
              refine WL.lv rfl (LV.mv rfl) ?_
              refine WL.lv rfl (LV.add rfl rfl (wr64 (by omega) (by omega))) ?_
              refine WL.lv rfl (LV.asg rfl) ?_
              refine WL.nil (thenQ.n ?_)
              exact ⟨_, by omega, true, i + 1, by omega, by omega, (shr_ne ilo hk hx_ f1 ⟨(fun _ => by first | exact .inl hgs | exact .inr (by omega)), fun _ => rfl⟩), hS3, rfl, Weak.cons rfl <| Weak.cons rfl <| Weak.cons rfl <| Weak.nil _⟩
            · refine WL.lv rfl (LV.as (c := false) (LV.mv rfl) hgs) ?_
              iterate 3 refine WL.lv rfl (LV.mv rfl) ?_
              refine WL.lv rfl (LV.as (LV.eqF (a := r1) (b := r1) rfl rfl) (decide_eq_false hg1)) ?_
              refine WL.lv rfl (LV.pickF rfl rfl) ?_
              refine WL.lv rfl (LV.asg rfl) ?_
              refine WL.nil (blockQ.n <| thenQ.n ?_)
              refine WC.region ?_
              refine WL.lv rfl (LV.mv rfl) ?_
              refine WL.lv rfl (LV.add rfl rfl (wr64 (by omega) (by omega))) ?_
              refine WL.lv rfl (LV.asg rfl) ?_
              refine WL.nil (thenQ.n ?_)
              exact ⟨_, by omega, false, i + 1, by omega, by omega, (shr_ne ilo hk hx_ f1 ⟨fun h_ => absurd h_ Bool.false_ne_true, fun h_ => h_.elim (fun h2_ => absurd (hgs.symm.trans h2_) Bool.false_ne_true) (fun h2_ => absurd h2_ (by omega))⟩), hS3, rfl, Weak.cons rfl <| Weak.cons rfl <| Weak.cons rfl <| Weak.nil _⟩
  · skip
    refine WC.exit (thenQ.x <| thenQ.x <| blockQ.hit <| thenQ.n ?_)
    refine WC.seq ?_
    refine WC.region ?_
    refine WL.lv rfl (LV.mv rfl) ?_
    have f2_ : sm = true ↔ SHR (l.take 60) ≠ [] := by rw [f1, List.take_of_length_le (by omega)]
    refine WL.call rfl (XC.fn Try.func14 (by kernel_rfl) rfl rfl rfl) (sum_calls  (SH.stN hL1 (few_rd 60 h_l)) rfl (hl_)) ?_
    rintro v_ w10 ⟨m2, d1, rfl, hf5, hf6, hf7, hf8, hk9⟩
    have hS10 := SH.same hL1 hk9
    have hma_ := hf5
    have hmd_ := hf7
    have hsl_ : (SHR (l.take 60)).length ≤ 60 := Nat.le_trans (List.length_filterMap_le _ _) hl_
    have hm1_ := fun h_ => mean_in hsl_ h_ (fun x hx => shr_mem hx) hma_
    have hm2_ := fun h_ => mean_none h_ hma_
    have hd1_ := fun h_ => med_in h_ (fun x hx => shr_mem hx) hmd_
    have hd2_ := fun h_ => med_none h_ hmd_
    refine WL.xe rfl (XE.alloc #[(.int .i64 0), (.int .i64 0), (.float .f64 0), (.float .f64 0), (.int .i64 0), (.int .i64 0)] hS10 ti38 rfl) ?_
    rintro _ w11 ⟨b1, rfl, hS11, hk10⟩
    refine WL.xse rfl (XSE.blkAgg #[(.int .i64 (SI (l.take 60))), (.int .i64 (SO (l.take 60))), (.float .f64 m2), (.float .f64 d1), (.int .i64 (PKF (l.take 60) (l.take 60).length)), (.int .i64 (QT (l.take 60)))] hS11 (by kernel_rfl) rfl (by kernel_rfl) rfl rfl) ?_
    rintro w12 ⟨hS12, hk11⟩
    refine WL.nil (thenQ.n ?_)
    iterate 2 refine WC.seq ?_
    refine WC.region ?_
    refine WL.lv rfl (LV.fieldA Try.underlying38 rfl ti34.sz rfl) ?_
    refine WL.lv rfl (LV.load1 Try.underlying34 rfl rfl (Blk.cellN (SH.at hS12 (.head _)) 2 rfl _ (KB.refl No _))) ?_
    refine WL.lv rfl (LV.fieldA Try.underlying38 rfl ti34.sz rfl) ?_
    refine WL.lv rfl (LV.load1 Try.underlying34 rfl rfl (Blk.cellN (SH.at hS12 (.head _)) 2 rfl _ (KB.refl No _))) ?_
    refine WL.lv rfl (LV.eqF (a := m2) (b := m2) rfl rfl) ?_
    refine WL.lv rfl (LV.mv rfl) ?_
    refine WL.lv rfl (LV.as (c := false) (LV.neB Try.underlying4 rfl rfl) (mflag f2_ hm1_ hm2_)) ?_
    refine WL.lv rfl (LV.mv rfl) ?_
    refine WL.lv rfl (LV.fieldA Try.underlying38 rfl ti34.sz rfl) ?_
    refine WL.lv rfl (LV.load1 Try.underlying34 rfl rfl (Blk.cellN (SH.at hS12 (.head _)) 3 rfl _ (KB.refl No _))) ?_
    refine WL.lv rfl (LV.fieldA Try.underlying38 rfl ti34.sz rfl) ?_
    refine WL.lv rfl (LV.load1 Try.underlying34 rfl rfl (Blk.cellN (SH.at hS12 (.head _)) 3 rfl _ (KB.refl No _))) ?_
    refine WL.lv rfl (LV.eqF (a := d1) (b := d1) rfl rfl) ?_
    refine WL.lv rfl (LV.mv rfl) ?_
    refine WL.lv rfl (LV.as (c := false) (LV.neB Try.underlying4 rfl rfl) (mflag f2_ hd1_ hd2_)) ?_
    refine WL.lv rfl (LV.pickF rfl rfl) ?_
    refine WL.nil (thenQ.n ?_)
    refine WC.condF rfl ?_
    refine WC.skip (thenQ.n ?_)
    refine WC.seq ?_
    refine WC.region ?_
    refine WL.call rfl (XC.fn Try.func9 (by kernel_rfl) rfl rfl rfl) (live40_calls  ) ?_
    rintro v_ w13 ⟨rfl, hk12⟩
    have hS13 := SH.same hS12 hk12
    refine WL.lv rfl (LV.mv rfl) ?_
    rcases Bool.eq_false_or_eq_true (sm) with hns | hns
    · refine WL.lv rfl (LV.as (c := true) (LV.mv rfl) hns) ?_
      refine WL.lv rfl (LV.notB rfl) ?_
      refine WL.lv rfl (LV.mv rfl) ?_
      refine WL.lv rfl (LV.fieldA Try.underlying38 rfl ti34.sz rfl) ?_
      refine WL.lv rfl (LV.load1 Try.underlying34 rfl rfl (Blk.cellN (SH.at hS13 (.head _)) 2 rfl _ (KB.refl No _))) ?_
      have hsk_0 : sk 0 = (0 : Int) := by decide +kernel
      refine WL.lv rfl (LV.as (LV.geF (a := m2) (b := 0) rfl rfl) (decide_eq_true (by have h_ := hm1_ (f2_.1 hns); omega))) ?_
      refine WL.lv rfl (LV.mv rfl) ?_
      refine WL.lv rfl (LV.fieldA Try.underlying38 rfl ti34.sz rfl) ?_
      refine WL.lv rfl (LV.load1 Try.underlying34 rfl rfl (Blk.cellN (SH.at hS13 (.head _)) 2 rfl _ (KB.refl No _))) ?_
      have hsk_4607182418800017408 : sk 4607182418800017408 = (4607182418800017408 : Int) := by decide +kernel
      refine WL.lv rfl (LV.as (LV.leF (a := m2) (b := 4607182418800017408) rfl rfl) (decide_eq_true (by have h_ := hm1_ (f2_.1 hns); omega))) ?_
      refine WL.lv rfl (LV.pickT rfl rfl) ?_
      refine WL.lv rfl (LV.mv rfl) ?_
      refine WL.lv rfl (LV.fieldA Try.underlying38 rfl ti34.sz rfl) ?_
      refine WL.lv rfl (LV.load1 Try.underlying34 rfl rfl (Blk.cellN (SH.at hS13 (.head _)) 3 rfl _ (KB.refl No _))) ?_
      have hsk_0 : sk 0 = (0 : Int) := by decide +kernel
      refine WL.lv rfl (LV.as (LV.geF (a := d1) (b := 0) rfl rfl) (decide_eq_true (by have h_ := hd1_ (f2_.1 hns); omega))) ?_
      refine WL.lv rfl (LV.pickT rfl rfl) ?_
      refine WL.lv rfl (LV.mv rfl) ?_
      refine WL.lv rfl (LV.fieldA Try.underlying38 rfl ti34.sz rfl) ?_
      refine WL.lv rfl (LV.load1 Try.underlying34 rfl rfl (Blk.cellN (SH.at hS13 (.head _)) 3 rfl _ (KB.refl No _))) ?_
      have hsk_4607182418800017408 : sk 4607182418800017408 = (4607182418800017408 : Int) := by decide +kernel
      refine WL.lv rfl (LV.as (LV.leF (a := d1) (b := 4607182418800017408) rfl rfl) (decide_eq_true (by have h_ := hd1_ (f2_.1 hns); omega))) ?_
      refine WL.lv rfl (LV.pickT rfl rfl) ?_
      refine WL.lv rfl (LV.pickF rfl rfl) ?_
      refine WL.lv rfl (LV.pickT rfl rfl) ?_
      refine WL.lv rfl (LV.asg rfl) ?_
      refine WL.nil (thenQ.n ?_)
      refine WC.ret (?_)
      exact ⟨_, fun a ha => res1 rfl ha rfl, rfl, hS13.kb⟩
    · refine WL.lv rfl (LV.as (c := false) (LV.mv rfl) hns) ?_
      refine WL.lv rfl (LV.notB rfl) ?_
      refine WL.lv rfl (LV.mv rfl) ?_
      iterate 18 refine WL.off rfl ?_
      iterate 2 refine WL.lv rfl (LV.pickT rfl rfl) ?_
      refine WL.lv rfl (LV.asg rfl) ?_
      refine WL.nil (thenQ.n ?_)
      refine WC.ret (?_)
      exact ⟨_, fun a ha => res1 rfl ha rfl, rfl, hS13.kb⟩

end Go.Proofs.Ytomeffnlmefnlaa
