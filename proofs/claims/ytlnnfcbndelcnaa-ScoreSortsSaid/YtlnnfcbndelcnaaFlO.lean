/- The law of shares. -/
import Derived.Test.YtlnnfcbndelcnaaFlM
import Derived.Test.YtlnnfcbndelcnaaFlN
namespace Go.Proofs.Ytlnnfcbndelcnaa
open Go Go.Gv Go.RowKit Go.Flt Go.Shelf Go.Lib Go.Sort
set_option linter.unusedVariables false
set_option linter.unusedSimpArgs false

theorem rmille_calls {w : World} {x : Nat} (hx : x < 18446744073709551616) :
    Calls Try.prog 27 #[(.float .f64 x)] w fun e w' => ∃ v, e = .returned v ∧ (fun v w' => v = .int .i64 (MIL x) ∧ KB No w w') v w' := by
  have hS : SH w No w [] := SH.nil _ _
  refine calls (l := litOf [(.float .f64 x)] 0) Try.func27 rfl (n := 24) rfl (Nat.le_of_ble_eq_true rfl) (lit_args _) ?_
  refine WC.seq ?_
  refine WC.region ?_
  refine WL.lv rfl (LV.asg rfl) ?_
  refine WL.nil (thenQ.n ?_)
  iterate 2 refine WC.seq ?_
  refine WC.region ?_
  iterate 2 refine WL.lv rfl (LV.mv rfl) ?_
  refine WL.lv rfl (LV.neF (a := x) (b := x) rfl rfl) ?_
  refine WL.nil (thenQ.n ?_)
  refine WC.condP (p := ¬ (((-9218868437227405312 ≤ sk x ∧ sk x ≤ 9218868437227405312) ∧ (-9218868437227405312 ≤ sk x ∧ sk x ≤ 9218868437227405312)) ∧ sk x = sk x)) rfl (fun hc1 => ?_) (fun hc1 => ?_)
  · skip
    refine WC.seq ?_
    refine WC.region ?_
    refine WL.lv rfl (LV.asg rfl) ?_
    refine WL.nil (thenQ.n ?_)
    refine WC.ret (thenQ.r <| ?_)
    exact ⟨_, fun a ha => res1 rfl ha rfl, congrArg (Value.int .i64) (by first | omega | exact mil_if x (by omega) | exact (mil_if x (by omega)).symm), hS.kb⟩
  · skip
    refine WC.skip (thenQ.n ?_)
    iterate 2 refine WC.seq ?_
    refine WC.region ?_
    refine WL.lv rfl (LV.mv rfl) ?_
    have hsk_4607182418800017408 : sk 4607182418800017408 = (4607182418800017408 : Int) := by decide +kernel
    refine WL.lv rfl (LV.geF (a := x) (b := 4607182418800017408) rfl rfl) ?_
    refine WL.nil (thenQ.n ?_)
    refine WC.condP (p := ((-9218868437227405312 ≤ sk x ∧ sk x ≤ 9218868437227405312) ∧ (-9218868437227405312 ≤ (4607182418800017408 : Int) ∧ (4607182418800017408 : Int) ≤ 9218868437227405312)) ∧ sk x ≥ (4607182418800017408 : Int)) rfl (fun hc2 => ?_) (fun hc2 => ?_)
    · skip
      refine WC.seq ?_
      refine WC.region ?_
      refine WL.lv rfl (LV.asg rfl) ?_
      refine WL.nil (thenQ.n ?_)
      refine WC.ret (thenQ.r <| ?_)
      exact ⟨_, fun a ha => res1 rfl ha rfl, congrArg (Value.int .i64) (by first | omega | exact mil_if x (by omega) | exact (mil_if x (by omega)).symm), hS.kb⟩
    · skip
      refine WC.skip (thenQ.n ?_)
      refine WC.seq ?_
      refine WC.region ?_
      refine WL.lv rfl (LV.mv rfl) ?_
      refine WL.xe rfl (XE.arF (a := 4652007308841189376) (b := x) hS (.inr (.inr (.inl rfl))) rfl rfl) ?_
      rintro _ w1 ⟨r1, rfl, hr1, hb1, hS1, hk1⟩
      have hm_ := mil_doc (x := x) (by omega) (by omega) hr1
      refine WL.lv rfl (LV.asg rfl) ?_
      refine WL.nil (thenQ.n ?_)
      refine WC.seq ?_
      refine WC.region ?_
      refine WL.lv rfl (LV.asg rfl) ?_
      refine WL.nil (thenQ.n ?_)
      refine WC.seq ?_
      refine WC.block ?_
      refine WC.loop (fun m_ f_ w_ => ∃ (n : Int), (0 ≤ n) ∧ (n ≤ MIL x) ∧ SH w No w_ [] ∧ m_ = ((1000 - n).toNat) ∧ Weak (lit [(3, (.float .f64 r1)), (4, (.int .i64 n))]) f_) _ ⟨0, by omega, by omega, hS1, rfl, Weak.cons rfl <| Weak.cons rfl <| Weak.nil _⟩ ?_
      rintro m1 f1 w2 ⟨n, q0, q1, hL1, rfl, hw1⟩
      refine WC.weak hw1 ?_
      clear hw1
      iterate 2 refine WC.seq ?_
      refine WC.region ?_
      refine WL.lv rfl (LV.mv rfl) ?_
      have hz_ := hm_.1 n q0
      rcases Decidable.em (n < 1000) with hg1 | hg1
      · refine WL.lv rfl (LV.as (LV.ltI rfl rfl) (decide_eq_true hg1)) ?_
        iterate 2 refine WL.lv rfl (LV.mv rfl) ?_
        refine WL.lv rfl (LV.add rfl rfl (wr64 (by omega) (by omega))) ?_
        refine WL.lv rfl (LV.cvtIF Try.underlying3 Try.underlying22 rfl) ?_
        refine WL.lv rfl (LV.mv rfl) ?_
        refine WL.lv rfl (LV.leF (a := (floatOfInt .f64 (n + 1))) (b := r1) rfl rfl) ?_
        refine WL.lv rfl (LV.pickT rfl rfl) ?_
        refine WL.nil (thenQ.n ?_)
        refine WC.condP (p := ((-9218868437227405312 ≤ sk (floatOfInt .f64 (n + 1)) ∧ sk (floatOfInt .f64 (n + 1)) ≤ 9218868437227405312) ∧ (-9218868437227405312 ≤ sk r1 ∧ sk r1 ≤ 9218868437227405312)) ∧ sk (floatOfInt .f64 (n + 1)) ≤ sk r1) rfl (fun hc3 => ?_) (fun hc3 => ?_)
        · skip
          refine WC.skip (thenQ.n ?_)
          refine WC.block ?_
          refine WC.region ?_
          refine WL.lv rfl (LV.mv rfl) ?_
          refine WL.lv rfl (LV.add rfl rfl (wr64 (by omega) (by omega))) ?_
          refine WL.lv rfl (LV.asg rfl) ?_
          refine WL.nil (blockQ.n <| thenQ.n ?_)
          exact ⟨_, by omega, n + 1, by omega, by omega, hL1, rfl, Weak.cons rfl <| Weak.cons rfl <| Weak.nil _⟩
        · skip
          refine WC.exit (thenQ.x <| thenQ.x <| blockQ.hit <| thenQ.n ?_)
          refine WC.seq ?_
          refine WC.region ?_
          refine WL.lv rfl (LV.mv rfl) ?_
          refine WL.lv rfl (LV.asg rfl) ?_
          refine WL.nil (thenQ.n ?_)
          refine WC.ret (?_)
          exact ⟨_, fun a ha => res1 rfl ha rfl, congrArg (Value.int .i64) (by first | omega | exact mil_if x (by omega) | exact (mil_if x (by omega)).symm), hL1.kb⟩
      · refine WL.lv rfl (LV.as (LV.ltI rfl rfl) (decide_eq_false hg1)) ?_
        refine WL.lv rfl (LV.mv rfl) ?_
        iterate 5 refine WL.off rfl ?_
        refine WL.lv rfl (LV.pickF rfl rfl) ?_
        refine WL.nil (thenQ.n ?_)
        refine WC.condF rfl ?_
        refine WC.exit (thenQ.x <| thenQ.x <| blockQ.hit <| thenQ.n ?_)
        refine WC.seq ?_
        refine WC.region ?_
        refine WL.lv rfl (LV.mv rfl) ?_
        refine WL.lv rfl (LV.asg rfl) ?_
        refine WL.nil (thenQ.n ?_)
        refine WC.ret (?_)
        exact ⟨_, fun a ha => res1 rfl ha rfl, congrArg (Value.int .i64) (by first | omega | exact mil_if x (by omega) | exact (mil_if x (by omega)).symm), hL1.kb⟩

theorem rratio_calls {w : World} {common : Int} {n : Int} {m : Int} (hc : -9223372036854775808 ≤ common ∧ common ≤ 9223372036854775807) (hn : -9223372036854775808 ≤ n ∧ n ≤ 9223372036854775807) (hm : -9223372036854775808 ≤ m ∧ m ≤ 9223372036854775807) :
    Calls Try.prog 13 #[(.int .i64 common), (.int .i64 n), (.int .i64 m)] w fun e w' => ∃ v, e = .returned v ∧ (fun v w' => ∃ (r' : Nat), v = .float .f64 r' ∧ cn r' = RAT common n m ∧ r' < 18446744073709551616 ∧ KB No w w') v w' := by
  have hS : SH w No w [] := SH.nil _ _
  refine calls (l := litOf [(.int .i64 common), (.int .i64 n), (.int .i64 m)] 0) Try.func13 rfl (n := 47) rfl (Nat.le_of_ble_eq_true rfl) (lit_args _) ?_
  refine WC.seq ?_
  refine WC.region ?_
  refine WL.lv rfl (LV.asg rfl) ?_
  refine WL.nil (thenQ.n ?_)
  iterate 2 refine WC.seq ?_
  refine WC.region ?_
  refine WL.lv rfl (LV.mv rfl) ?_
  rcases Decidable.em (n < 0) with hg1 | hg1
  · refine WL.lv rfl (LV.as (LV.ltI rfl rfl) (decide_eq_true hg1)) ?_
    refine WL.lv rfl (LV.mv rfl) ?_
    iterate 2 refine WL.off rfl ?_
    refine WL.lv rfl (LV.pickT rfl rfl) ?_
    refine WL.lv rfl (LV.mv rfl) ?_
    iterate 2 refine WL.off rfl ?_
    refine WL.lv rfl (LV.pickT rfl rfl) ?_
    refine WL.lv rfl (LV.mv rfl) ?_
    iterate 2 refine WL.off rfl ?_
    refine WL.lv rfl (LV.pickT rfl rfl) ?_
    refine WL.lv rfl (LV.mv rfl) ?_
    iterate 2 refine WL.off rfl ?_
    refine WL.lv rfl (LV.pickT rfl rfl) ?_
    refine WL.lv rfl (LV.mv rfl) ?_
    iterate 3 refine WL.off rfl ?_
    refine WL.lv rfl (LV.pickT rfl rfl) ?_
    refine WL.lv rfl (LV.mv rfl) ?_
    iterate 3 refine WL.off rfl ?_
    refine WL.lv rfl (LV.pickT rfl rfl) ?_
    refine WL.nil (thenQ.n ?_)
    refine WC.condT rfl ?_
    refine WC.seq ?_
    refine WC.region ?_
    refine WL.call rfl (XC.fn Try.func33 (by kernel_rfl) rfl rfl rfl) (none_calls  ) ?_
    rintro v_ w1 ⟨r1, rfl, hf1, hf2, hk1⟩
    have hS1 := SH.same hS hk1
    refine WL.lv rfl (LV.asg rfl) ?_
    refine WL.nil (thenQ.n ?_)
    refine WC.ret (thenQ.r <| ?_)
    exact ⟨_, fun a ha => res1 rfl ha rfl, r1, congrArg FV (rfl), hf1.trans (RAT_out (by omega)).symm, hf2, hS1.kb⟩
  · refine WL.lv rfl (LV.as (LV.ltI rfl rfl) (decide_eq_false hg1)) ?_
    iterate 2 refine WL.lv rfl (LV.mv rfl) ?_
    rcases Decidable.em (n > 2147483647) with hg2 | hg2
    · refine WL.lv rfl (LV.as (LV.gtI rfl rfl) (decide_eq_true hg2)) ?_
      refine WL.lv rfl (LV.pickF rfl rfl) ?_
      refine WL.lv rfl (LV.mv rfl) ?_
      iterate 2 refine WL.off rfl ?_
      refine WL.lv rfl (LV.pickT rfl rfl) ?_
      refine WL.lv rfl (LV.mv rfl) ?_
      iterate 2 refine WL.off rfl ?_
      refine WL.lv rfl (LV.pickT rfl rfl) ?_
      refine WL.lv rfl (LV.mv rfl) ?_
      iterate 2 refine WL.off rfl ?_
      refine WL.lv rfl (LV.pickT rfl rfl) ?_
      refine WL.lv rfl (LV.mv rfl) ?_
      iterate 3 refine WL.off rfl ?_
      refine WL.lv rfl (LV.pickT rfl rfl) ?_
      refine WL.lv rfl (LV.mv rfl) ?_
      iterate 3 refine WL.off rfl ?_
      refine WL.lv rfl (LV.pickT rfl rfl) ?_
      refine WL.nil (thenQ.n ?_)
      refine WC.condT rfl ?_
      refine WC.seq ?_
      refine WC.region ?_
      refine WL.call rfl (XC.fn Try.func33 (by kernel_rfl) rfl rfl rfl) (none_calls  ) ?_
      rintro v_ w2 ⟨r2, rfl, hf3, hf4, hk2⟩
      have hS2 := SH.same hS hk2
      refine WL.lv rfl (LV.asg rfl) ?_
      refine WL.nil (thenQ.n ?_)
      refine WC.ret (thenQ.r <| ?_)
      exact ⟨_, fun a ha => res1 rfl ha rfl, r2, congrArg FV (rfl), hf3.trans (RAT_out (by omega)).symm, hf4, hS2.kb⟩
    · refine WL.lv rfl (LV.as (LV.gtI rfl rfl) (decide_eq_false hg2)) ?_
      refine WL.lv rfl (LV.pickF rfl rfl) ?_
      iterate 2 refine WL.lv rfl (LV.mv rfl) ?_
      rcases Decidable.em (m < 0) with hg3 | hg3
      · refine WL.lv rfl (LV.as (LV.ltI rfl rfl) (decide_eq_true hg3)) ?_
        refine WL.lv rfl (LV.pickF rfl rfl) ?_
        refine WL.lv rfl (LV.mv rfl) ?_
        iterate 2 refine WL.off rfl ?_
        refine WL.lv rfl (LV.pickT rfl rfl) ?_
        refine WL.lv rfl (LV.mv rfl) ?_
        iterate 2 refine WL.off rfl ?_
        refine WL.lv rfl (LV.pickT rfl rfl) ?_
        refine WL.lv rfl (LV.mv rfl) ?_
        iterate 3 refine WL.off rfl ?_
        refine WL.lv rfl (LV.pickT rfl rfl) ?_
        refine WL.lv rfl (LV.mv rfl) ?_
        iterate 3 refine WL.off rfl ?_
        refine WL.lv rfl (LV.pickT rfl rfl) ?_
        refine WL.nil (thenQ.n ?_)
        refine WC.condT rfl ?_
        refine WC.seq ?_
        refine WC.region ?_
        refine WL.call rfl (XC.fn Try.func33 (by kernel_rfl) rfl rfl rfl) (none_calls  ) ?_
        rintro v_ w3 ⟨r3, rfl, hf5, hf6, hk3⟩
        have hS3 := SH.same hS hk3
        refine WL.lv rfl (LV.asg rfl) ?_
        refine WL.nil (thenQ.n ?_)
        refine WC.ret (thenQ.r <| ?_)
        exact ⟨_, fun a ha => res1 rfl ha rfl, r3, congrArg FV (rfl), hf5.trans (RAT_out (by omega)).symm, hf6, hS3.kb⟩
      · refine WL.lv rfl (LV.as (LV.ltI rfl rfl) (decide_eq_false hg3)) ?_
        refine WL.lv rfl (LV.pickF rfl rfl) ?_
        iterate 2 refine WL.lv rfl (LV.mv rfl) ?_
        rcases Decidable.em (m > 2147483647) with hg4 | hg4
        · refine WL.lv rfl (LV.as (LV.gtI rfl rfl) (decide_eq_true hg4)) ?_
          refine WL.lv rfl (LV.pickF rfl rfl) ?_
          refine WL.lv rfl (LV.mv rfl) ?_
          iterate 2 refine WL.off rfl ?_
          refine WL.lv rfl (LV.pickT rfl rfl) ?_
          refine WL.lv rfl (LV.mv rfl) ?_
          iterate 3 refine WL.off rfl ?_
          refine WL.lv rfl (LV.pickT rfl rfl) ?_
          refine WL.lv rfl (LV.mv rfl) ?_
          iterate 3 refine WL.off rfl ?_
          refine WL.lv rfl (LV.pickT rfl rfl) ?_
          refine WL.nil (thenQ.n ?_)
          refine WC.condT rfl ?_
          refine WC.seq ?_
          refine WC.region ?_
          refine WL.call rfl (XC.fn Try.func33 (by kernel_rfl) rfl rfl rfl) (none_calls  ) ?_
          rintro v_ w4 ⟨r4, rfl, hf7, hf8, hk4⟩
          have hS4 := SH.same hS hk4
          refine WL.lv rfl (LV.asg rfl) ?_
          refine WL.nil (thenQ.n ?_)
          refine WC.ret (thenQ.r <| ?_)
          exact ⟨_, fun a ha => res1 rfl ha rfl, r4, congrArg FV (rfl), hf7.trans (RAT_out (by omega)).symm, hf8, hS4.kb⟩
        · refine WL.lv rfl (LV.as (LV.gtI rfl rfl) (decide_eq_false hg4)) ?_
          refine WL.lv rfl (LV.pickF rfl rfl) ?_
          iterate 2 refine WL.lv rfl (LV.mv rfl) ?_
          rcases Decidable.em (common < 0) with hg5 | hg5
          · refine WL.lv rfl (LV.as (LV.ltI rfl rfl) (decide_eq_true hg5)) ?_
            refine WL.lv rfl (LV.pickF rfl rfl) ?_
            refine WL.lv rfl (LV.mv rfl) ?_
            iterate 3 refine WL.off rfl ?_
            refine WL.lv rfl (LV.pickT rfl rfl) ?_
            refine WL.lv rfl (LV.mv rfl) ?_
            iterate 3 refine WL.off rfl ?_
            refine WL.lv rfl (LV.pickT rfl rfl) ?_
            refine WL.nil (thenQ.n ?_)
            refine WC.condT rfl ?_
            refine WC.seq ?_
            refine WC.region ?_
            refine WL.call rfl (XC.fn Try.func33 (by kernel_rfl) rfl rfl rfl) (none_calls  ) ?_
            rintro v_ w5 ⟨r5, rfl, hf9, hf10, hk5⟩
            have hS5 := SH.same hS hk5
            refine WL.lv rfl (LV.asg rfl) ?_
            refine WL.nil (thenQ.n ?_)
            refine WC.ret (thenQ.r <| ?_)
            exact ⟨_, fun a ha => res1 rfl ha rfl, r5, congrArg FV (rfl), hf9.trans (RAT_out (by omega)).symm, hf10, hS5.kb⟩
          · refine WL.lv rfl (LV.as (LV.ltI rfl rfl) (decide_eq_false hg5)) ?_
            refine WL.lv rfl (LV.pickF rfl rfl) ?_
            iterate 3 refine WL.lv rfl (LV.mv rfl) ?_
            rcases Decidable.em (common > n) with hg6 | hg6
            · refine WL.lv rfl (LV.as (LV.gtI rfl rfl) (decide_eq_true hg6)) ?_
              refine WL.lv rfl (LV.pickF rfl rfl) ?_
              refine WL.lv rfl (LV.mv rfl) ?_
              iterate 3 refine WL.off rfl ?_
              refine WL.lv rfl (LV.pickT rfl rfl) ?_
              refine WL.nil (thenQ.n ?_)
              refine WC.condT rfl ?_
              refine WC.seq ?_
              refine WC.region ?_
              refine WL.call rfl (XC.fn Try.func33 (by kernel_rfl) rfl rfl rfl) (none_calls  ) ?_
              rintro v_ w6 ⟨r6, rfl, hf11, hf12, hk6⟩
              have hS6 := SH.same hS hk6
              refine WL.lv rfl (LV.asg rfl) ?_
              refine WL.nil (thenQ.n ?_)
              refine WC.ret (thenQ.r <| ?_)
              exact ⟨_, fun a ha => res1 rfl ha rfl, r6, congrArg FV (rfl), hf11.trans (RAT_out (by omega)).symm, hf12, hS6.kb⟩
            · refine WL.lv rfl (LV.as (LV.gtI rfl rfl) (decide_eq_false hg6)) ?_
              refine WL.lv rfl (LV.pickF rfl rfl) ?_
              iterate 3 refine WL.lv rfl (LV.mv rfl) ?_
              refine WL.lv rfl (LV.gtI rfl rfl) ?_
              refine WL.lv rfl (LV.pickF rfl rfl) ?_
              refine WL.nil (thenQ.n ?_)
              refine WC.condP (p := common > m) rfl (fun hc1 => ?_) (fun hc1 => ?_)
              · skip
                refine WC.seq ?_
                refine WC.region ?_
                refine WL.call rfl (XC.fn Try.func33 (by kernel_rfl) rfl rfl rfl) (none_calls  ) ?_
                rintro v_ w7 ⟨r7, rfl, hf13, hf14, hk7⟩
                have hS7 := SH.same hS hk7
                refine WL.lv rfl (LV.asg rfl) ?_
                refine WL.nil (thenQ.n ?_)
                refine WC.ret (thenQ.r <| ?_)
                exact ⟨_, fun a ha => res1 rfl ha rfl, r7, congrArg FV (rfl), hf13.trans (RAT_out (by omega)).symm, hf14, hS7.kb⟩
              · skip
                refine WC.skip (thenQ.n ?_)
                refine WC.seq ?_
                refine WC.region ?_
                refine WL.lv rfl (LV.mv rfl) ?_
                refine WL.lv rfl (LV.cvtIF Try.underlying3 Try.underlying22 rfl) ?_
                refine WL.lv rfl (LV.mv rfl) ?_
                refine WL.lv rfl (LV.cvtIF Try.underlying3 Try.underlying22 rfl) ?_
                refine WL.xe rfl (XE.arF (a := (floatOfInt .f64 common)) (b := (floatOfInt .f64 common)) hS (.inl rfl) rfl rfl) ?_
                rintro _ w8 ⟨r8, rfl, hr1, hb1, hS8, hk8⟩
                have hs_ := hr1
                refine WL.lv rfl (LV.mv rfl) ?_
                refine WL.lv rfl (LV.cvtIF Try.underlying3 Try.underlying22 rfl) ?_
                refine WL.lv rfl (LV.mv rfl) ?_
                refine WL.lv rfl (LV.cvtIF Try.underlying3 Try.underlying22 rfl) ?_
                refine WL.xe rfl (XE.arF (a := (floatOfInt .f64 n)) (b := (floatOfInt .f64 m)) hS8 (.inl rfl) rfl rfl) ?_
                rintro _ w9 ⟨r9, rfl, hr2, hb2, hS9, hk9⟩
                have ht_ := hr2
                refine WL.xe rfl (XE.arF (a := r8) (b := r9) hS9 (.inr (.inr (.inr rfl))) rfl rfl) ?_
                rintro _ w10 ⟨r10, rfl, hr3, hb3, hS10, hk10⟩
                refine WL.lv rfl (LV.asg rfl) ?_
                refine WL.nil (thenQ.n ?_)
                refine WC.ret (?_)
                exact ⟨_, fun a ha => res1 rfl ha rfl, r10, congrArg FV (rfl), RAT_doc (by omega) hs_ ht_ hr3, hb3, hS10.kb⟩

set_option maxHeartbeats 2000000 in
set_option maxRecDepth 100000 in
theorem scoreRatios_law {w : World} {common : Int} {n : Int} {m : Int} (hc : -9223372036854775808 ≤ common ∧ common ≤ 9223372036854775807) (hn : -9223372036854775808 ≤ n ∧ n ≤ 9223372036854775807) (hm : -9223372036854775808 ≤ m ∧ m ≤ 9223372036854775807) :
    Calls Try.prog 3 #[(.int .i64 common), (.int .i64 n), (.int .i64 m)] w fun e w' => ∃ v, e = .returned v ∧ (fun v w' => v = .bool (decide (true)) ∧ KB No w w') v w' := by
  have hS : SH w No w [] := SH.nil _ _
  refine calls (l := litOf [(.int .i64 common), (.int .i64 n), (.int .i64 m)] 0) Try.func3 rfl (n := 44) rfl (Nat.le_of_ble_eq_true rfl) (lit_args _) ?_
  refine WC.seq ?_
  refine WC.region ?_
  refine WL.lv rfl (LV.asg rfl) ?_
  refine WL.nil (thenQ.n ?_)
  refine WC.seq ?_
  refine WC.region ?_
  iterate 3 refine WL.lv rfl (LV.mv rfl) ?_
  refine WL.call rfl (XC.fn Try.func10 (by kernel_rfl) rfl rfl rfl) (ratio_calls (common := common) (n := n) (m := m) (by omega) (by omega) (by omega)) ?_
  rintro v_ w1 ⟨r1, rfl, hf1, hf2, hk1⟩
  have hS1 := SH.same hS hk1
  have hx_ := hf1
  have hxb_ := RAT_bd hf1
  refine WL.lv rfl (LV.asg rfl) ?_
  refine WL.nil (thenQ.n ?_)
  refine WC.seq ?_
  refine WC.region ?_
  iterate 3 refine WL.lv rfl (LV.mv rfl) ?_
  refine WL.call rfl (XC.fn Try.func10 (by kernel_rfl) rfl rfl rfl) (ratio_calls (common := common) (n := m) (m := n) (by omega) (by omega) (by omega)) ?_
  rintro v_ w2 ⟨r2, rfl, hf3, hf4, hk2⟩
  have hS2 := SH.same hS1 hk2
  have hy_ := hf3
  refine WL.lv rfl (LV.asg rfl) ?_
  refine WL.nil (thenQ.n ?_)
  refine WC.seq ?_
  refine WC.region ?_
  refine WL.call rfl (XC.fn Try.func11 (by kernel_rfl) rfl rfl rfl) (live22_calls  ) ?_
  rintro v_ w3 ⟨rfl, hk3⟩
  have hS3 := SH.same hS2 hk3
  iterate 5 refine WL.lv rfl (LV.mv rfl) ?_
  refine WL.call rfl (XC.fn Try.func13 (by kernel_rfl) rfl rfl rfl) (rratio_calls (common := common) (n := n) (m := m) (by omega) (by omega) (by omega)) ?_
  rintro v_ w4 ⟨r3, rfl, hf5, hf6, hk4⟩
  have hS4 := SH.same hS3 hk4
  have hz_ := hf5
  refine WL.call rfl (XC.fn Try.func12 (by kernel_rfl) rfl rfl rfl) (Calls.asB (fsame_calls (a := r1) (b := r3) (by first | assumption | omega | exact hp _ (getD_mem (by omega)) | exact hpz _ (getD_mem (by omega))) (by first | assumption | omega | exact hp _ (getD_mem (by omega)) | exact hpz _ (getD_mem (by omega)))) (decide_eq_true (tk_cn (hx_.trans hz_.symm)))) ?_
  rintro v_ w5 ⟨rfl, hk5⟩
  have hS5 := SH.same hS4 hk5
  refine WL.lv rfl (LV.pickT rfl rfl) ?_
  iterate 3 refine WL.lv rfl (LV.mv rfl) ?_
  refine WL.call rfl (XC.fn Try.func12 (by kernel_rfl) rfl rfl rfl) (Calls.asB (fsame_calls (a := r1) (b := r2) (by first | assumption | omega | exact hp _ (getD_mem (by omega)) | exact hpz _ (getD_mem (by omega))) (by first | assumption | omega | exact hp _ (getD_mem (by omega)) | exact hpz _ (getD_mem (by omega)))) (decide_eq_true (tk_cn (hx_.trans ((RAT_comm _ _ _).trans hy_.symm))))) ?_
  rintro v_ w6 ⟨rfl, hk6⟩
  have hS6 := SH.same hS5 hk6
  refine WL.lv rfl (LV.pickT rfl rfl) ?_
  iterate 3 refine WL.lv rfl (LV.mv rfl) ?_
  rcases Decidable.em (¬ (((-9218868437227405312 ≤ sk r1 ∧ sk r1 ≤ 9218868437227405312) ∧ (-9218868437227405312 ≤ sk r1 ∧ sk r1 ≤ 9218868437227405312)) ∧ sk r1 = sk r1)) with hg1 | hg1
  · refine WL.lv rfl (LV.as (LV.neF (a := r1) (b := r1) rfl rfl) (decide_eq_true hg1)) ?_
    refine WL.lv rfl (LV.mv rfl) ?_
    iterate 6 refine WL.off rfl ?_
    iterate 2 refine WL.lv rfl (LV.pickT rfl rfl) ?_
    refine WL.lv rfl (LV.asg rfl) ?_
    refine WL.nil (thenQ.n ?_)
    refine WC.ret (?_)
    exact ⟨_, fun a ha => res1 rfl ha rfl, rfl, hS6.kb⟩
  · refine WL.lv rfl (LV.as (LV.neF (a := r1) (b := r1) rfl rfl) (decide_eq_false hg1)) ?_
    iterate 2 refine WL.lv rfl (LV.mv rfl) ?_
    have hsk_0 : sk 0 = (0 : Int) := by decide +kernel
    refine WL.lv rfl (LV.as (LV.geF (a := r1) (b := 0) rfl rfl) (decide_eq_true (by omega))) ?_
    iterate 2 refine WL.lv rfl (LV.mv rfl) ?_
    have hsk_4607182418800017408 : sk 4607182418800017408 = (4607182418800017408 : Int) := by decide +kernel
    refine WL.lv rfl (LV.as (LV.leF (a := r1) (b := 4607182418800017408) rfl rfl) (decide_eq_true (by omega))) ?_
    refine WL.lv rfl (LV.pickT rfl rfl) ?_
    refine WL.lv rfl (LV.pickF rfl rfl) ?_
    refine WL.lv rfl (LV.pickT rfl rfl) ?_
    refine WL.lv rfl (LV.asg rfl) ?_
    refine WL.nil (thenQ.n ?_)
    refine WC.ret (?_)
    exact ⟨_, fun a ha => res1 rfl ha rfl, rfl, hS6.kb⟩

set_option maxHeartbeats 2000000 in
set_option maxRecDepth 100000 in
theorem scoreHalves_law {w : World} {x : Nat} {m : Int} {n : Int} (hx : x < 18446744073709551616) (hm : -9223372036854775808 ≤ m ∧ m ≤ 9223372036854775807) (hn : -9223372036854775808 ≤ n ∧ n ≤ 9223372036854775807) :
    Calls Try.prog 7 #[(.float .f64 x), (.int .i64 m), (.int .i64 n)] w fun e w' => ∃ v, e = .returned v ∧ (fun v w' => v = .bool (decide (true)) ∧ KB No w w') v w' := by
  have hx_ := tk_is x
  have h0_ := tk_is 0
  have hs0_ : sk 0 = 0 := by decide +kernel
  have hS : SH w No w [] := SH.nil _ _
  refine calls (l := litOf [(.float .f64 x), (.int .i64 m), (.int .i64 n)] 0) Try.func7 rfl (n := 62) rfl (Nat.le_of_ble_eq_true rfl) (lit_args _) ?_
  refine WC.seq ?_
  refine WC.region ?_
  refine WL.lv rfl (LV.asg rfl) ?_
  refine WL.nil (thenQ.n ?_)
  refine WC.seq ?_
  refine WC.region ?_
  iterate 2 refine WL.lv rfl (LV.mv rfl) ?_
  refine WL.call rfl (XC.fn Try.func24 (by kernel_rfl) rfl rfl rfl) (halve_calls (x := x) (n := n) (by first | assumption | omega | exact hp _ (getD_mem (by omega)) | exact hpz _ (getD_mem (by omega))) (by omega)) ?_
  rintro v_ w1 ⟨r1, rfl, hf1, hf2, hk1⟩
  have hS1 := SH.same hS hk1
  have hy_ := hf1
  refine WL.lv rfl (LV.asg rfl) ?_
  refine WL.nil (thenQ.n ?_)
  iterate 2 refine WC.seq ?_
  refine WC.region ?_
  iterate 3 refine WL.lv rfl (LV.mv rfl) ?_
  refine WL.call rfl (XC.fn Try.func25 (by kernel_rfl) rfl rfl rfl) (rhalve_calls (x := x) (n := n) (by first | assumption | omega | exact hp _ (getD_mem (by omega)) | exact hpz _ (getD_mem (by omega)))) ?_
  rintro v_ w2 ⟨r2, rfl, hf3, hf4, hk2⟩
  have hS2 := SH.same hS1 hk2
  have hz_ := hf3
  refine WL.call rfl (XC.fn Try.func12 (by kernel_rfl) rfl rfl rfl) (Calls.asB (fsame_calls (a := r1) (b := r2) (by first | assumption | omega | exact hp _ (getD_mem (by omega)) | exact hpz _ (getD_mem (by omega))) (by first | assumption | omega | exact hp _ (getD_mem (by omega)) | exact hpz _ (getD_mem (by omega)))) (decide_eq_true (halves_same hx hy_ hz_))) ?_
  rintro v_ w3 ⟨rfl, hk3⟩
  have hS3 := SH.same hS2 hk3
  refine WL.lv rfl (LV.notB rfl) ?_
  iterate 2 refine WL.lv rfl (LV.mv rfl) ?_
  refine WL.call rfl (XC.fn Try.func26 (by kernel_rfl) rfl rfl rfl) (mille_calls (x := x) (by first | assumption | omega | exact hp _ (getD_mem (by omega)) | exact hpz _ (getD_mem (by omega)))) ?_
  rintro v_ w4 ⟨rfl, hk4⟩
  have hS4 := SH.same hS3 hk4
  refine WL.lv rfl (LV.mv rfl) ?_
  refine WL.call rfl (XC.fn Try.func27 (by kernel_rfl) rfl rfl rfl) (rmille_calls (x := x) (by first | assumption | omega | exact hp _ (getD_mem (by omega)) | exact hpz _ (getD_mem (by omega)))) ?_
  rintro v_ w5 ⟨rfl, hk5⟩
  have hS5 := SH.same hS4 hk5
  refine WL.lv rfl (LV.as (LV.neI rfl rfl) (decide_eq_false (fun h_ => h_ rfl))) ?_
  refine WL.lv rfl (LV.pickF rfl rfl) ?_
  refine WL.nil (thenQ.n ?_)
  refine WC.condF rfl ?_
  refine WC.skip (thenQ.n ?_)
  refine WC.seq ?_
  refine WC.region ?_
  refine WL.lv rfl (LV.mv rfl) ?_
  refine WL.lv rfl (LV.maxI rfl rfl) ?_
  refine WL.lv rfl (LV.rem rfl rfl (by decide) (rem64 (by omega) rfl)) ?_
  refine WL.lv rfl (LV.mv rfl) ?_
  refine WL.lv rfl (LV.maxI rfl rfl) ?_
  refine WL.lv rfl (LV.rem rfl rfl (by decide) (rem64 (by omega) rfl)) ?_
  iterate 2 refine WL.lv rfl (LV.asg rfl) ?_
  refine WL.nil (thenQ.n ?_)
  iterate 2 refine WC.seq ?_
  refine WC.region ?_
  iterate 2 refine WL.lv rfl (LV.mv rfl) ?_
  refine WL.call rfl (XC.fn Try.func24 (by kernel_rfl) rfl rfl rfl) (halve_calls (x := x) (n := ((max m 0) % 2000)) (by first | assumption | omega | exact hp _ (getD_mem (by omega)) | exact hpz _ (getD_mem (by omega))) (by omega)) ?_
  rintro v_ w6 ⟨r3, rfl, hf5, hf6, hk6⟩
  have hS6 := SH.same hS5 hk6
  have ha_ := hf5
  refine WL.lv rfl (LV.mv rfl) ?_
  refine WL.call rfl (XC.fn Try.func24 (by kernel_rfl) rfl rfl rfl) (halve_calls (x := r3) (n := ((max n 0) % 2000)) (by first | assumption | omega | exact hp _ (getD_mem (by omega)) | exact hpz _ (getD_mem (by omega))) (by omega)) ?_
  rintro v_ w7 ⟨r4, rfl, hf7, hf8, hk7⟩
  have hS7 := SH.same hS6 hk7
  have hb_ := hf7
  iterate 3 refine WL.lv rfl (LV.mv rfl) ?_
  refine WL.lv rfl (LV.add rfl rfl (wr64 (by omega) (by omega))) ?_
  refine WL.call rfl (XC.fn Try.func24 (by kernel_rfl) rfl rfl rfl) (halve_calls (x := x) (n := (((max m 0) % 2000) + ((max n 0) % 2000))) (by first | assumption | omega | exact hp _ (getD_mem (by omega)) | exact hpz _ (getD_mem (by omega))) (by omega)) ?_
  rintro v_ w8 ⟨r5, rfl, hf9, hf10, hk8⟩
  have hS8 := SH.same hS7 hk8
  have hc_ := hf9
  refine WL.call rfl (XC.fn Try.func12 (by kernel_rfl) rfl rfl rfl) (Calls.asB (fsame_calls (a := r4) (b := r5) (by first | assumption | omega | exact hp _ (getD_mem (by omega)) | exact hpz _ (getD_mem (by omega))) (by first | assumption | omega | exact hp _ (getD_mem (by omega)) | exact hpz _ (getD_mem (by omega)))) (decide_eq_true (by rw [hb_, ha_, hc_, ← hlv_add, ← Int.toNat_add (by omega) (by omega)]))) ?_
  rintro v_ w9 ⟨rfl, hk9⟩
  have hS9 := SH.same hS8 hk9
  refine WL.lv rfl (LV.notB rfl) ?_
  refine WL.nil (thenQ.n ?_)
  refine WC.condF rfl ?_
  refine WC.skip (thenQ.n ?_)
  refine WC.seq ?_
  refine WC.region ?_
  refine WL.lv rfl (LV.asg rfl) ?_
  refine WL.nil (thenQ.n ?_)
  refine WC.seq ?_
  refine WC.region ?_
  refine WL.call rfl (XC.fn Try.func11 (by kernel_rfl) rfl rfl rfl) (live22_calls  ) ?_
  rintro v_ w10 ⟨rfl, hk10⟩
  have hS10 := SH.same hS9 hk10
  iterate 3 refine WL.lv rfl (LV.mv rfl) ?_
  rcases Decidable.em (¬ (((-9218868437227405312 ≤ sk x ∧ sk x ≤ 9218868437227405312) ∧ (-9218868437227405312 ≤ sk x ∧ sk x ≤ 9218868437227405312)) ∧ sk x = sk x)) with hg1 | hg1
  · refine WL.lv rfl (LV.as (LV.neF (a := x) (b := x) rfl rfl) (decide_eq_true hg1)) ?_
    refine WL.lv rfl (LV.mv rfl) ?_
    iterate 9 refine WL.off rfl ?_
    iterate 2 refine WL.lv rfl (LV.pickT rfl rfl) ?_
    refine WL.lv rfl (LV.asg rfl) ?_
    refine WL.nil (thenQ.n ?_)
    refine WC.ret (?_)
    exact ⟨_, fun a ha => res1 rfl ha rfl, rfl, hS10.kb⟩
  · refine WL.lv rfl (LV.as (LV.neF (a := x) (b := x) rfl rfl) (decide_eq_false hg1)) ?_
    iterate 3 refine WL.lv rfl (LV.mv rfl) ?_
    refine WL.call rfl (XC.fn Try.func14 (by kernel_rfl) rfl rfl rfl) (order_calls (a := x) (b := 0) (by first | assumption | omega | exact hp _ (getD_mem (by omega)) | exact hpz _ (getD_mem (by omega))) (by first | assumption | omega | exact hp _ (getD_mem (by omega)) | exact hpz _ (getD_mem (by omega)))) ?_
    rintro v_ w11 ⟨rfl, hk11⟩
    have hS11 := SH.same hS10 hk11
    refine WL.lv rfl (LV.ltI rfl rfl) ?_
    iterate 2 refine WL.lv rfl (LV.mv rfl) ?_
    refine WL.call rfl (XC.fn Try.func14 (by kernel_rfl) rfl rfl rfl) (order_calls (a := r1) (b := 0) (by first | assumption | omega | exact hp _ (getD_mem (by omega)) | exact hpz _ (getD_mem (by omega))) (by first | assumption | omega | exact hp _ (getD_mem (by omega)) | exact hpz _ (getD_mem (by omega)))) ?_
    rintro v_ w12 ⟨rfl, hk12⟩
    have hS12 := SH.same hS11 hk12
    refine WL.lv rfl (LV.ltI rfl rfl) ?_
    refine WL.lv rfl (LV.as (c := true) (LV.eqB Try.underlying4 rfl rfl) (by have hs_ := halves_sign hx (by omega) hy_; have o1_ := ord_is' x 0; have o2_ := ord_is' r1 0; rw [decide_eq_decide.2 (show ORD x 0 < 0 ↔ ORD r1 0 < 0 by omega)]; exact beq_self_eq_true _)) ?_
    refine WL.lv rfl (LV.pickF rfl rfl) ?_
    refine WL.lv rfl (LV.pickT rfl rfl) ?_
    refine WL.lv rfl (LV.asg rfl) ?_
    refine WL.nil (thenQ.n ?_)
    refine WC.ret (?_)
    exact ⟨_, fun a ha => res1 rfl ha rfl, rfl, hS12.kb⟩

end Go.Proofs.Ytlnnfcbndelcnaa
