/- Numbers halved; shares. -/
import Derived.Test.YtlnnfcbndelcnaaFlD
import Derived.Test.YtlnnfcbndelcnaaFlH
namespace Go.Proofs.Ytlnnfcbndelcnaa
open Go Go.Gv Go.RowKit Go.Flt
set_option linter.unusedVariables false
set_option linter.unusedSimpArgs false

theorem halve_calls {w : World} {x : Nat} {n : Int} (hx : x < 18446744073709551616) (hn : n ≤ 9223372036854775807) :
    Calls Try.prog 24 #[(.float .f64 x), (.int .i64 n)] w fun e w' => ∃ v, e = .returned v ∧ (fun v w' => ∃ (r' : Nat), v = .float .f64 r' ∧ r' = hlv n.toNat x ∧ r' < 18446744073709551616 ∧ KB No w w') v w' := by
  have hS : SH w No w [] := SH.nil _ _
  refine calls (l := litOf [(.float .f64 x), (.int .i64 n)] 0) Try.func24 rfl (n := 22) rfl (Nat.le_of_ble_eq_true rfl) (lit_args _) ?_
  refine WC.seq ?_
  refine WC.region ?_
  refine WL.lv rfl (LV.asg rfl) ?_
  refine WL.nil (thenQ.n ?_)
  refine WC.seq ?_
  refine WC.block ?_
  refine WC.loop (fun m_ f_ w_ => ∃ (x2 : Nat) (n2 : Int), (hlv n2.toNat x2 = hlv n.toNat x) ∧ (x2 < 18446744073709551616) ∧ (n2 ≤ 9223372036854775807) ∧ SH w No w_ [] ∧ m_ = n2.toNat ∧ Weak (lit [(0, (.float .f64 x2)), (1, (.int .i64 n2))]) f_) _ ⟨x, n, rfl, hx, by omega, hS, rfl, Weak.cons rfl <| Weak.cons rfl <| Weak.nil _⟩ ?_
  rintro m1 f1 w1 ⟨x2, n2, q1, q2, q3, hL1, rfl, hw1⟩
  refine WC.weak hw1 ?_
  clear hw1
  iterate 2 refine WC.seq ?_
  refine WC.region ?_
  refine WL.lv rfl (LV.mv rfl) ?_
  rcases Decidable.em (n2 > 0) with hg1 | hg1
  · refine WL.lv rfl (LV.as (LV.gtI rfl rfl) (decide_eq_true hg1)) ?_
    iterate 2 refine WL.lv rfl (LV.mv rfl) ?_
    have hsk_0 : sk 0 = (0 : Int) := by decide +kernel
    rcases Decidable.em (¬ (((-9218868437227405312 ≤ sk x2 ∧ sk x2 ≤ 9218868437227405312) ∧ (-9218868437227405312 ≤ (0 : Int) ∧ (0 : Int) ≤ 9218868437227405312)) ∧ sk x2 = (0 : Int))) with hg2 | hg2
    · refine WL.lv rfl (LV.as (LV.neF (a := x2) (b := 0) rfl rfl) (decide_eq_true hg2)) ?_
      refine WL.lv rfl (LV.pickT rfl rfl) ?_
      iterate 3 refine WL.lv rfl (LV.mv rfl) ?_
      refine WL.xe rfl (XE.arF (a := x2) (b := x2) hL1 (.inr (.inl rfl)) rfl rfl) ?_
      rintro _ w2 ⟨r1, rfl, hr1, hb1, hS1, hk1⟩
      have hss_ := sub_self hr1
      have hsk_0 : sk 0 = (0 : Int) := by decide +kernel
      refine WL.lv rfl (LV.eqF (a := r1) (b := 0) rfl rfl) ?_
      refine WL.lv rfl (LV.pickT rfl rfl) ?_
      refine WL.nil (thenQ.n ?_)
      refine WC.condP (p := ((-9218868437227405312 ≤ sk r1 ∧ sk r1 ≤ 9218868437227405312) ∧ (-9218868437227405312 ≤ (0 : Int) ∧ (0 : Int) ≤ 9218868437227405312)) ∧ sk r1 = (0 : Int)) rfl (fun hc1 => ?_) (fun hc1 => ?_)
      · skip
        refine WC.skip (thenQ.n ?_)
        refine WC.seq ?_
        refine WC.block ?_
        refine WC.region ?_
        refine WL.lv rfl (LV.mv rfl) ?_
        refine WL.xe rfl (XE.arF (a := x2) (b := 4611686018427387904) hS1 (.inr (.inr (.inr rfl))) rfl rfl) ?_
        rintro _ w3 ⟨r2, rfl, hr2, hb2, hS2, hk2⟩
        have hhv_ := hv_is (by unfold ok; omega) hr2
        have hbv_ := hb2
        refine WL.lv rfl (LV.asg rfl) ?_
        refine WL.nil (blockQ.n <| thenQ.n ?_)
        refine WC.region ?_
        refine WL.lv rfl (LV.mv rfl) ?_
        refine WL.lv rfl (LV.sub rfl rfl (wr64 (by omega) (by omega))) ?_
        refine WL.lv rfl (LV.asg rfl) ?_
        refine WL.nil (thenQ.n ?_)
        exact ⟨_, by omega, r2, n2 - 1, ((hlv_step (by omega) (by omega) (by omega) hhv_).trans q1), hbv_, by omega, hS2, rfl, Weak.cons rfl <| Weak.cons rfl <| Weak.nil _⟩
      · skip
        refine WC.exit (thenQ.x <| thenQ.x <| blockQ.hit <| thenQ.n ?_)
        refine WC.seq ?_
        refine WC.region ?_
        refine WL.lv rfl (LV.mv rfl) ?_
        refine WL.lv rfl (LV.asg rfl) ?_
        refine WL.nil (thenQ.n ?_)
        refine WC.ret (?_)
        exact ⟨_, fun a ha => res1 rfl ha rfl, x2, congrArg FV (rfl), (hlv_end (by omega)).symm.trans q1, q2, hS1.kb⟩
    · refine WL.lv rfl (LV.as (LV.neF (a := x2) (b := 0) rfl rfl) (decide_eq_false hg2)) ?_
      refine WL.lv rfl (LV.pickT rfl rfl) ?_
      refine WL.lv rfl (LV.mv rfl) ?_
      iterate 4 refine WL.off rfl ?_
      refine WL.lv rfl (LV.pickF rfl rfl) ?_
      refine WL.nil (thenQ.n ?_)
      refine WC.condF rfl ?_
      refine WC.exit (thenQ.x <| thenQ.x <| blockQ.hit <| thenQ.n ?_)
      refine WC.seq ?_
      refine WC.region ?_
      refine WL.lv rfl (LV.mv rfl) ?_
      refine WL.lv rfl (LV.asg rfl) ?_
      refine WL.nil (thenQ.n ?_)
      refine WC.ret (?_)
      exact ⟨_, fun a ha => res1 rfl ha rfl, x2, congrArg FV (rfl), (hlv_end (by omega)).symm.trans q1, q2, hL1.kb⟩
  · refine WL.lv rfl (LV.as (LV.gtI rfl rfl) (decide_eq_false hg1)) ?_
    refine WL.lv rfl (LV.mv rfl) ?_
    iterate 2 refine WL.off rfl ?_
    refine WL.lv rfl (LV.pickF rfl rfl) ?_
    refine WL.lv rfl (LV.mv rfl) ?_
    iterate 4 refine WL.off rfl ?_
    refine WL.lv rfl (LV.pickF rfl rfl) ?_
    refine WL.nil (thenQ.n ?_)
    refine WC.condF rfl ?_
    refine WC.exit (thenQ.x <| thenQ.x <| blockQ.hit <| thenQ.n ?_)
    refine WC.seq ?_
    refine WC.region ?_
    refine WL.lv rfl (LV.mv rfl) ?_
    refine WL.lv rfl (LV.asg rfl) ?_
    refine WL.nil (thenQ.n ?_)
    refine WC.ret (?_)
    exact ⟨_, fun a ha => res1 rfl ha rfl, x2, congrArg FV (rfl), (hlv_end (by omega)).symm.trans q1, q2, hL1.kb⟩

theorem ratio_calls {w : World} {common : Int} {n : Int} {m : Int} (hc : -9223372036854775808 ≤ common ∧ common ≤ 9223372036854775807) (hn : -9223372036854775808 ≤ n ∧ n ≤ 9223372036854775807) (hm : -9223372036854775808 ≤ m ∧ m ≤ 9223372036854775807) :
    Calls Try.prog 10 #[(.int .i64 common), (.int .i64 n), (.int .i64 m)] w fun e w' => ∃ v, e = .returned v ∧ (fun v w' => ∃ (r' : Nat), v = .float .f64 r' ∧ cn r' = RAT common n m ∧ r' < 18446744073709551616 ∧ KB No w w') v w' := by
  have hS : SH w No w [] := SH.nil _ _
  refine calls (l := litOf [(.int .i64 common), (.int .i64 n), (.int .i64 m)] 0) Try.func10 rfl (n := 47) rfl (Nat.le_of_ble_eq_true rfl) (lit_args _) ?_
  refine WC.seq ?_
  refine WC.region ?_
  refine WL.lv rfl (LV.asg rfl) ?_
  refine WL.nil (thenQ.n ?_)
  iterate 2 refine WC.seq ?_
  refine WC.region ?_
  refine WL.lv rfl (LV.mv rfl) ?_
  rcases Decidable.em (n < 0) with hg1 | hg1
  · refine WL.lv rfl (LV.as (LV.ltI rfl rfl) (decide_eq_true hg1)) ?_
    refine WL.lv rfl (LV.mv rfl) ?_
    iterate 2 refine WL.off rfl ?_
    refine WL.lv rfl (LV.pickT rfl rfl) ?_
    refine WL.lv rfl (LV.mv rfl) ?_
    iterate 2 refine WL.off rfl ?_
    refine WL.lv rfl (LV.pickT rfl rfl) ?_
    refine WL.lv rfl (LV.mv rfl) ?_
    iterate 2 refine WL.off rfl ?_
    refine WL.lv rfl (LV.pickT rfl rfl) ?_
    refine WL.lv rfl (LV.mv rfl) ?_
    iterate 2 refine WL.off rfl ?_
    refine WL.lv rfl (LV.pickT rfl rfl) ?_
    refine WL.lv rfl (LV.mv rfl) ?_
    iterate 5 refine WL.off rfl ?_
    refine WL.lv rfl (LV.pickT rfl rfl) ?_
    refine WL.lv rfl (LV.mv rfl) ?_
    iterate 4 refine WL.off rfl ?_
    refine WL.lv rfl (LV.pickT rfl rfl) ?_
    refine WL.nil (thenQ.n ?_)
    refine WC.condT rfl ?_
    refine WC.seq ?_
    refine WC.region ?_
    refine WL.call rfl (XC.fn Try.func32 (by kernel_rfl) rfl rfl rfl) (nan_calls  ) ?_
    rintro v_ w1 ⟨r1, rfl, hf1, hf2, hk1⟩
    have hS1 := SH.same hS hk1
    refine WL.lv rfl (LV.asg rfl) ?_
    refine WL.nil (thenQ.n ?_)
    refine WC.ret (thenQ.r <| ?_)
    exact ⟨_, fun a ha => res1 rfl ha rfl, r1, congrArg FV (rfl), by unfold RAT; rw [if_pos (by omega)]; exact hf1, hf2, hS1.kb⟩
  · refine WL.lv rfl (LV.as (LV.ltI rfl rfl) (decide_eq_false hg1)) ?_
    iterate 2 refine WL.lv rfl (LV.mv rfl) ?_
    rcases Decidable.em (m < 0) with hg2 | hg2
    · refine WL.lv rfl (LV.as (LV.ltI rfl rfl) (decide_eq_true hg2)) ?_
      refine WL.lv rfl (LV.pickF rfl rfl) ?_
      refine WL.lv rfl (LV.mv rfl) ?_
      iterate 2 refine WL.off rfl ?_
      refine WL.lv rfl (LV.pickT rfl rfl) ?_
      refine WL.lv rfl (LV.mv rfl) ?_
      iterate 2 refine WL.off rfl ?_
      refine WL.lv rfl (LV.pickT rfl rfl) ?_
      refine WL.lv rfl (LV.mv rfl) ?_
      iterate 2 refine WL.off rfl ?_
      refine WL.lv rfl (LV.pickT rfl rfl) ?_
      refine WL.lv rfl (LV.mv rfl) ?_
      iterate 5 refine WL.off rfl ?_
      refine WL.lv rfl (LV.pickT rfl rfl) ?_
      refine WL.lv rfl (LV.mv rfl) ?_
      iterate 4 refine WL.off rfl ?_
      refine WL.lv rfl (LV.pickT rfl rfl) ?_
      refine WL.nil (thenQ.n ?_)
      refine WC.condT rfl ?_
      refine WC.seq ?_
      refine WC.region ?_
      refine WL.call rfl (XC.fn Try.func32 (by kernel_rfl) rfl rfl rfl) (nan_calls  ) ?_
      rintro v_ w2 ⟨r2, rfl, hf3, hf4, hk2⟩
      have hS2 := SH.same hS hk2
      refine WL.lv rfl (LV.asg rfl) ?_
      refine WL.nil (thenQ.n ?_)
      refine WC.ret (thenQ.r <| ?_)
      exact ⟨_, fun a ha => res1 rfl ha rfl, r2, congrArg FV (rfl), by unfold RAT; rw [if_pos (by omega)]; exact hf3, hf4, hS2.kb⟩
    · refine WL.lv rfl (LV.as (LV.ltI rfl rfl) (decide_eq_false hg2)) ?_
      refine WL.lv rfl (LV.pickF rfl rfl) ?_
      iterate 2 refine WL.lv rfl (LV.mv rfl) ?_
      rcases Decidable.em (n > 2147483647) with hg3 | hg3
      · refine WL.lv rfl (LV.as (LV.gtI rfl rfl) (decide_eq_true hg3)) ?_
        refine WL.lv rfl (LV.pickF rfl rfl) ?_
        refine WL.lv rfl (LV.mv rfl) ?_
        iterate 2 refine WL.off rfl ?_
        refine WL.lv rfl (LV.pickT rfl rfl) ?_
        refine WL.lv rfl (LV.mv rfl) ?_
        iterate 2 refine WL.off rfl ?_
        refine WL.lv rfl (LV.pickT rfl rfl) ?_
        refine WL.lv rfl (LV.mv rfl) ?_
        iterate 5 refine WL.off rfl ?_
        refine WL.lv rfl (LV.pickT rfl rfl) ?_
        refine WL.lv rfl (LV.mv rfl) ?_
        iterate 4 refine WL.off rfl ?_
        refine WL.lv rfl (LV.pickT rfl rfl) ?_
        refine WL.nil (thenQ.n ?_)
        refine WC.condT rfl ?_
        refine WC.seq ?_
        refine WC.region ?_
        refine WL.call rfl (XC.fn Try.func32 (by kernel_rfl) rfl rfl rfl) (nan_calls  ) ?_
        rintro v_ w3 ⟨r3, rfl, hf5, hf6, hk3⟩
        have hS3 := SH.same hS hk3
        refine WL.lv rfl (LV.asg rfl) ?_
        refine WL.nil (thenQ.n ?_)
        refine WC.ret (thenQ.r <| ?_)
        exact ⟨_, fun a ha => res1 rfl ha rfl, r3, congrArg FV (rfl), by unfold RAT; rw [if_pos (by omega)]; exact hf5, hf6, hS3.kb⟩
      · refine WL.lv rfl (LV.as (LV.gtI rfl rfl) (decide_eq_false hg3)) ?_
        refine WL.lv rfl (LV.pickF rfl rfl) ?_
        iterate 2 refine WL.lv rfl (LV.mv rfl) ?_
        rcases Decidable.em (m > 2147483647) with hg4 | hg4
        · refine WL.lv rfl (LV.as (LV.gtI rfl rfl) (decide_eq_true hg4)) ?_
          refine WL.lv rfl (LV.pickF rfl rfl) ?_
          refine WL.lv rfl (LV.mv rfl) ?_
          iterate 2 refine WL.off rfl ?_
          refine WL.lv rfl (LV.pickT rfl rfl) ?_
          refine WL.lv rfl (LV.mv rfl) ?_
          iterate 5 refine WL.off rfl ?_
          refine WL.lv rfl (LV.pickT rfl rfl) ?_
          refine WL.lv rfl (LV.mv rfl) ?_
          iterate 4 refine WL.off rfl ?_
          refine WL.lv rfl (LV.pickT rfl rfl) ?_
          refine WL.nil (thenQ.n ?_)
          refine WC.condT rfl ?_
          refine WC.seq ?_
          refine WC.region ?_
          refine WL.call rfl (XC.fn Try.func32 (by kernel_rfl) rfl rfl rfl) (nan_calls  ) ?_
          rintro v_ w4 ⟨r4, rfl, hf7, hf8, hk4⟩
          have hS4 := SH.same hS hk4
          refine WL.lv rfl (LV.asg rfl) ?_
          refine WL.nil (thenQ.n ?_)
          refine WC.ret (thenQ.r <| ?_)
          exact ⟨_, fun a ha => res1 rfl ha rfl, r4, congrArg FV (rfl), by unfold RAT; rw [if_pos (by omega)]; exact hf7, hf8, hS4.kb⟩
        · refine WL.lv rfl (LV.as (LV.gtI rfl rfl) (decide_eq_false hg4)) ?_
          refine WL.lv rfl (LV.pickF rfl rfl) ?_
          iterate 2 refine WL.lv rfl (LV.mv rfl) ?_
          rcases Decidable.em (common < 0) with hg5 | hg5
          · refine WL.lv rfl (LV.as (LV.ltI rfl rfl) (decide_eq_true hg5)) ?_
            refine WL.lv rfl (LV.pickF rfl rfl) ?_
            refine WL.lv rfl (LV.mv rfl) ?_
            iterate 5 refine WL.off rfl ?_
            refine WL.lv rfl (LV.pickT rfl rfl) ?_
            refine WL.lv rfl (LV.mv rfl) ?_
            iterate 4 refine WL.off rfl ?_
            refine WL.lv rfl (LV.pickT rfl rfl) ?_
            refine WL.nil (thenQ.n ?_)
            refine WC.condT rfl ?_
            refine WC.seq ?_
            refine WC.region ?_
            refine WL.call rfl (XC.fn Try.func32 (by kernel_rfl) rfl rfl rfl) (nan_calls  ) ?_
            rintro v_ w5 ⟨r5, rfl, hf9, hf10, hk5⟩
            have hS5 := SH.same hS hk5
            refine WL.lv rfl (LV.asg rfl) ?_
            refine WL.nil (thenQ.n ?_)
            refine WC.ret (thenQ.r <| ?_)
            exact ⟨_, fun a ha => res1 rfl ha rfl, r5, congrArg FV (rfl), by unfold RAT; rw [if_pos (by omega)]; exact hf9, hf10, hS5.kb⟩
          · refine WL.lv rfl (LV.as (LV.ltI rfl rfl) (decide_eq_false hg5)) ?_
            refine WL.lv rfl (LV.pickF rfl rfl) ?_
            iterate 4 refine WL.lv rfl (LV.mv rfl) ?_
            refine WL.lv rfl (LV.minI rfl rfl) ?_
            rcases Decidable.em (common > (min n m)) with hg6 | hg6
            · refine WL.lv rfl (LV.as (LV.gtI rfl rfl) (decide_eq_true hg6)) ?_
              refine WL.lv rfl (LV.pickF rfl rfl) ?_
              refine WL.lv rfl (LV.mv rfl) ?_
              iterate 4 refine WL.off rfl ?_
              refine WL.lv rfl (LV.pickT rfl rfl) ?_
              refine WL.nil (thenQ.n ?_)
              refine WC.condT rfl ?_
              refine WC.seq ?_
              refine WC.region ?_
              refine WL.call rfl (XC.fn Try.func32 (by kernel_rfl) rfl rfl rfl) (nan_calls  ) ?_
              rintro v_ w6 ⟨r6, rfl, hf11, hf12, hk6⟩
              have hS6 := SH.same hS hk6
              refine WL.lv rfl (LV.asg rfl) ?_
              refine WL.nil (thenQ.n ?_)
              refine WC.ret (thenQ.r <| ?_)
              exact ⟨_, fun a ha => res1 rfl ha rfl, r6, congrArg FV (rfl), by unfold RAT; rw [if_pos (by omega)]; exact hf11, hf12, hS6.kb⟩
            · refine WL.lv rfl (LV.as (LV.gtI rfl rfl) (decide_eq_false hg6)) ?_
              refine WL.lv rfl (LV.pickF rfl rfl) ?_
              iterate 3 refine WL.lv rfl (LV.mv rfl) ?_
              refine WL.lv rfl (LV.add rfl rfl (wr64 (by omega) (by omega))) ?_
              refine WL.lv rfl (LV.eqI rfl rfl) ?_
              refine WL.lv rfl (LV.pickF rfl rfl) ?_
              refine WL.nil (thenQ.n ?_)
              refine WC.condP (p := (n + m) = 0) rfl (fun hc1 => ?_) (fun hc1 => ?_)
              · skip
                refine WC.seq ?_
                refine WC.region ?_
                refine WL.call rfl (XC.fn Try.func32 (by kernel_rfl) rfl rfl rfl) (nan_calls  ) ?_
                rintro v_ w7 ⟨r7, rfl, hf13, hf14, hk7⟩
                have hS7 := SH.same hS hk7
                refine WL.lv rfl (LV.asg rfl) ?_
                refine WL.nil (thenQ.n ?_)
                refine WC.ret (thenQ.r <| ?_)
                exact ⟨_, fun a ha => res1 rfl ha rfl, r7, congrArg FV (rfl), by unfold RAT; rw [if_pos (by omega)]; exact hf13, hf14, hS7.kb⟩
              · skip
                refine WC.skip (thenQ.n ?_)
                refine WC.seq ?_
                refine WC.region ?_
                refine WL.lv rfl (LV.mv rfl) ?_
                refine WL.lv rfl (LV.mul rfl rfl (wr64 (by omega) (by omega))) ?_
                refine WL.lv rfl (LV.cvtIF Try.underlying3 Try.underlying22 rfl) ?_
                iterate 2 refine WL.lv rfl (LV.mv rfl) ?_
                refine WL.lv rfl (LV.add rfl rfl (wr64 (by omega) (by omega))) ?_
                refine WL.lv rfl (LV.cvtIF Try.underlying3 Try.underlying22 rfl) ?_
                refine WL.xe rfl (XE.arF (a := (floatOfInt .f64 (2 * common))) (b := (floatOfInt .f64 (n + m))) hS (.inr (.inr (.inr rfl))) rfl rfl) ?_
                rintro _ w8 ⟨r8, rfl, hr1, hb1, hS8, hk8⟩
                refine WL.lv rfl (LV.asg rfl) ?_
                refine WL.nil (thenQ.n ?_)
                refine WC.ret (?_)
                exact ⟨_, fun a ha => res1 rfl ha rfl, r8, congrArg FV (rfl), by unfold RAT; rw [if_neg (by omega)]; exact hr1, hb1, hS8.kb⟩

end Go.Proofs.Ytlnnfcbndelcnaa
