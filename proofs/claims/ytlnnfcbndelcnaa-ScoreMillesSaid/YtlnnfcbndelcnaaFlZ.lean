/- The law of thousandths. -/
import Derived.Test.YtlnnfcbndelcnaaFlX
namespace Go.Proofs.Ytlnnfcbndelcnaa
open Go Go.Gv Go.RowKit Go.Flt Go.Shelf Go.Lib Go.Sort
set_option linter.unusedVariables false
set_option linter.unusedSimpArgs false

set_option maxHeartbeats 2000000 in
set_option maxRecDepth 100000 in
theorem scoreMilles_law {w : World} {a : Nat} {b : Nat} {A_l : Option Addr} {n_l c_l : Nat} {l : List Nat} (h_l : St No w (Rd eF (.slice A_l n_l c_l) l)) (hn_l : l.length = n_l) (ha : a < 18446744073709551616) (hb : b < 18446744073709551616) (wl : ∀ x ∈ l, x < 18446744073709551616) :
    Calls Try.prog 9 #[(.float .f64 a), (.float .f64 b), (.slice A_l n_l c_l)] w fun e w' => ∃ v, e = .returned v ∧ (fun v w' => v = .bool (decide (true)) ∧ KB No w w') v w' := by
  subst hn_l
  have hl_ : (l.take 60).length ≤ 60 := by rw [List.length_take]; omega
  have wl_ : ∀ x ∈ l.take 60, W6 x := fun x hx => wl x (List.mem_of_mem_take hx)
  have hma_ := mil_bd a
  have hmb_ := mil_bd b
  have hmm_ := mil_mono (a := a) (b := b)
  have hS : SH w No w [] := SH.nil _ _
  refine calls (l := litOf [(.float .f64 a), (.float .f64 b), (.slice A_l l.length c_l)] 0) Try.func9 rfl (n := 110) rfl (Nat.le_of_ble_eq_true rfl) (lit_args _) ?_
  refine WC.seq ?_
  refine WC.region ?_
  refine WL.lv rfl (LV.asg rfl) ?_
  refine WL.nil (thenQ.n ?_)
  refine WC.seq ?_
  refine WC.region ?_
  refine WL.lv rfl (LV.mv rfl) ?_
  refine WL.call rfl (XC.fn Try.func16 (by kernel_rfl) rfl rfl rfl) (few22_calls (SH.stN hS h_l)) ?_
  rintro v_ w1 ⟨rfl, hk1⟩
  have hS1 := SH.same hS hk1
  refine WL.lv rfl (LV.asg rfl) ?_
  refine WL.nil (thenQ.n ?_)
  iterate 2 refine WC.seq ?_
  refine WC.region ?_
  iterate 2 refine WL.lv rfl (LV.mv rfl) ?_
  rcases Decidable.em (((-9218868437227405312 ≤ sk a ∧ sk a ≤ 9218868437227405312) ∧ (-9218868437227405312 ≤ sk b ∧ sk b ≤ 9218868437227405312)) ∧ sk a ≤ sk b) with hg1 | hg1
  · refine WL.lv rfl (LV.as (LV.leF (a := a) (b := b) rfl rfl) (decide_eq_true hg1)) ?_
    iterate 2 refine WL.lv rfl (LV.mv rfl) ?_
    refine WL.call rfl (XC.fn Try.func26 (by kernel_rfl) rfl rfl rfl) (mille_calls (x := a) (by first | assumption | omega | exact hp _ (getD_mem (by omega)) | exact hpz _ (getD_mem (by omega)))) ?_
    rintro v_ w2 ⟨rfl, hk2⟩
    have hS2 := SH.same hS1 hk2
    refine WL.lv rfl (LV.mv rfl) ?_
    refine WL.call rfl (XC.fn Try.func26 (by kernel_rfl) rfl rfl rfl) (mille_calls (x := b) (by first | assumption | omega | exact hp _ (getD_mem (by omega)) | exact hpz _ (getD_mem (by omega)))) ?_
    rintro v_ w3 ⟨rfl, hk3⟩
    have hS3 := SH.same hS2 hk3
    rcases Decidable.em ((MIL a) > (MIL b)) with hg2 | hg2
    · refine WL.lv rfl (LV.as (LV.gtI rfl rfl) (decide_eq_true hg2)) ?_
      refine WL.lv rfl (LV.pickT rfl rfl) ?_
      refine WL.lv rfl (LV.mv rfl) ?_
      iterate 3 refine WL.off rfl ?_
      refine WL.lv rfl (LV.pickT rfl rfl) ?_
      refine WL.lv rfl (LV.mv rfl) ?_
      iterate 3 refine WL.off rfl ?_
      refine WL.lv rfl (LV.pickT rfl rfl) ?_
      refine WL.nil (thenQ.n ?_)
      refine WC.condT rfl ?_
      refine WC.seq ?_
      refine WC.region ?_
      refine WL.lv rfl (LV.asg rfl) ?_
      refine WL.nil (thenQ.n ?_)
      refine WC.ret (thenQ.r <| ?_)
      exact ⟨_, fun a ha => res1 rfl ha rfl, (by exfalso; omega), hS3.kb⟩
    · refine WL.lv rfl (LV.as (LV.gtI rfl rfl) (decide_eq_false hg2)) ?_
      refine WL.lv rfl (LV.pickT rfl rfl) ?_
      iterate 2 refine WL.lv rfl (LV.mv rfl) ?_
      refine WL.call rfl (XC.fn Try.func26 (by kernel_rfl) rfl rfl rfl) (mille_calls (x := a) (by first | assumption | omega | exact hp _ (getD_mem (by omega)) | exact hpz _ (getD_mem (by omega)))) ?_
      rintro v_ w4 ⟨rfl, hk4⟩
      have hS4 := SH.same hS3 hk4
      rcases Decidable.em ((MIL a) < (-1)) with hg3 | hg3
      · refine WL.lv rfl (LV.as (LV.ltI rfl rfl) (decide_eq_true hg3)) ?_
        refine WL.lv rfl (LV.pickF rfl rfl) ?_
        refine WL.lv rfl (LV.mv rfl) ?_
        iterate 3 refine WL.off rfl ?_
        refine WL.lv rfl (LV.pickT rfl rfl) ?_
        refine WL.nil (thenQ.n ?_)
        refine WC.condT rfl ?_
        refine WC.seq ?_
        refine WC.region ?_
        refine WL.lv rfl (LV.asg rfl) ?_
        refine WL.nil (thenQ.n ?_)
        refine WC.ret (thenQ.r <| ?_)
        exact ⟨_, fun a ha => res1 rfl ha rfl, (by exfalso; omega), hS4.kb⟩
      · refine WL.lv rfl (LV.as (LV.ltI rfl rfl) (decide_eq_false hg3)) ?_
        refine WL.lv rfl (LV.pickF rfl rfl) ?_
        iterate 2 refine WL.lv rfl (LV.mv rfl) ?_
        refine WL.call rfl (XC.fn Try.func26 (by kernel_rfl) rfl rfl rfl) (mille_calls (x := a) (by first | assumption | omega | exact hp _ (getD_mem (by omega)) | exact hpz _ (getD_mem (by omega)))) ?_
        rintro v_ w5 ⟨rfl, hk5⟩
        have hS5 := SH.same hS4 hk5
        refine WL.lv rfl (LV.gtI rfl rfl) ?_
        refine WL.lv rfl (LV.pickF rfl rfl) ?_
        refine WL.nil (thenQ.n ?_)
        refine WC.condP (p := (MIL a) > 1000) rfl (fun hc1 => ?_) (fun hc1 => ?_)
        · skip
          refine WC.seq ?_
          refine WC.region ?_
          refine WL.lv rfl (LV.asg rfl) ?_
          refine WL.nil (thenQ.n ?_)
          refine WC.ret (thenQ.r <| ?_)
          exact ⟨_, fun a ha => res1 rfl ha rfl, (by exfalso; omega), hS5.kb⟩
        · skip
          refine WC.skip (thenQ.n ?_)
          refine WC.seq ?_
          refine WC.region ?_
          refine WL.lv rfl (LV.mv rfl) ?_
          refine WL.call rfl (XC.fn Try.func30 (by kernel_rfl) rfl rfl rfl) (median_calls  (SH.stN hS5 (few_rd 60 h_l)) rfl (wl_) (hl_)) ?_
          rintro v_ w6 ⟨r1, rfl, hf1, hf2, hk6⟩
          have hS6 := SH.same hS5 hk6
          have hmed_ := hf1
          have hmw_ := hf2
          refine WL.lv rfl (LV.asg rfl) ?_
          refine WL.nil (thenQ.n ?_)
          refine WC.seq ?_
          refine WC.region ?_
          refine WL.lv rfl (LV.mv rfl) ?_
          refine WL.call rfl (XC.fn Try.func17 (by kernel_rfl) rfl rfl rfl) (sort22_calls (l := (l.take 60)) (SH.stN hS6 (few_rd 60 h_l)) (wl_) (by first | omega | (simp only [List.length_append, List.length_nil, List.length_take, List.length_drop]; omega))) ?_
          rintro v_ w7 ⟨A1, c1, ys1, rfl, hpm1, hpw1, hS7⟩
          have hS8 := SH.joinN hS6 hS7
          have hln_ := hpm1.length_eq
          have hmid_ := hmed_.mid hpm1 hpw1
          have hpz : ∀ x ∈ ys1, W6 x := fun x hx => wl_ x (hpm1.mem_iff.1 hx)
          refine WL.lv rfl (LV.asg rfl) ?_
          refine WL.nil (thenQ.n ?_)
          iterate 2 refine WC.seq ?_
          refine WC.region ?_
          refine WL.lv rfl (LV.mv rfl) ?_
          refine WL.lv rfl (LV.lenL Try.underlying29 rfl) ?_
          refine WL.lv rfl (LV.mv rfl) ?_
          refine WL.lv rfl (LV.lenL Try.underlying29 rfl) ?_
          refine WL.lv rfl (LV.neI rfl rfl) ?_
          refine WL.nil (thenQ.n ?_)
          refine WC.condP (p := ((l.take 60).length : Int) ≠ ((l.take 60).length : Int)) rfl (fun hc2 => ?_) (fun hc2 => ?_)
          · skip
            refine WC.seq ?_
            refine WC.region ?_
            refine WL.lv rfl (LV.asg rfl) ?_
            refine WL.nil (thenQ.n ?_)
            refine WC.ret (thenQ.r <| ?_)
            exact ⟨_, fun a ha => res1 rfl ha rfl, (by exfalso; omega), hS8.kb⟩
          · skip
            refine WC.skip (thenQ.n ?_)
            iterate 2 refine WC.seq ?_
            refine WC.region ?_
            refine WL.lv rfl (LV.mv rfl) ?_
            refine WL.lv rfl (LV.lenL Try.underlying29 rfl) ?_
            rcases Decidable.em (((l.take 60).length : Int) > 0) with hg4 | hg4
            · refine WL.lv rfl (LV.as (LV.gtI rfl rfl) (decide_eq_true hg4)) ?_
              iterate 3 refine WL.lv rfl (LV.mv rfl) ?_
              rcases Decidable.em (((-9218868437227405312 ≤ sk r1 ∧ sk r1 ≤ 9218868437227405312) ∧ (-9218868437227405312 ≤ sk r1 ∧ sk r1 ≤ 9218868437227405312)) ∧ sk r1 = sk r1) with hg5 | hg5
              · refine WL.lv rfl (LV.as (LV.eqF (a := r1) (b := r1) rfl rfl) (decide_eq_true hg5)) ?_
                refine WL.lv rfl (LV.pickT rfl rfl) ?_
                iterate 3 refine WL.lv rfl (LV.mv rfl) ?_
                obtain ⟨A2, c2, e1, g1⟩ := St.elt (SH.rd hS8 (.head _)) 0 (0 : Int) (by omega) (by omega)
                refine WL.lv rfl (LV.idxA Try.underlying29 ti22.sz rfl e1 rfl (by omega) (by omega)) ?_
                refine WL.lv rfl (LV.load1 (v := (.float .f64 (ys1.getD ((0 : Int)).toNat 0))) Try.underlying22 rfl rfl (g1 _ (KB.refl No _) 0 _ rfl)) ?_
                refine WL.call rfl (XC.fn Try.func14 (by kernel_rfl) rfl rfl rfl) (order_calls (a := r1) (b := (ys1.getD ((0 : Int)).toNat 0)) (by first | assumption | omega | exact hp _ (getD_mem (by omega)) | exact hpz _ (getD_mem (by omega))) (by first | assumption | omega | exact hp _ (getD_mem (by omega)) | exact hpz _ (getD_mem (by omega)))) ?_
                rintro v_ w8 ⟨rfl, hk7⟩
                have hS9 := SH.same hS8 hk7
                have ho1_ := ord_is' r1 (ys1.getD ((0 : Int)).toNat 0)
                rcases Decidable.em ((ORD r1 (ys1.getD ((0 : Int)).toNat 0)) < 0) with hg6 | hg6
                · refine WL.lv rfl (LV.as (LV.ltI rfl rfl) (decide_eq_true hg6)) ?_
                  refine WL.lv rfl (LV.mv rfl) ?_
                  iterate 9 refine WL.off rfl ?_
                  iterate 2 refine WL.lv rfl (LV.pickT rfl rfl) ?_
                  iterate 2 refine WL.lv rfl (LV.mv rfl) ?_
                  refine WL.lv rfl (LV.lenL Try.underlying29 rfl) ?_
                  refine WL.lv rfl (LV.rem rfl rfl (by decide) (rem64 (by omega) rfl)) ?_
                  refine WL.lv rfl (LV.eqI rfl rfl) ?_
                  refine WL.lv rfl (LV.pickT rfl rfl) ?_
                  refine WL.nil (thenQ.n ?_)
                  refine WC.condP (p := (((l.take 60).length : Int) % 2) = 1) rfl (fun hc3 => ?_) (fun hc3 => ?_)
                  · skip
                    refine WC.seq ?_
                    refine WC.region ?_
                    refine WL.lv rfl (LV.asg rfl) ?_
                    refine WL.nil (thenQ.n ?_)
                    refine WC.ret (thenQ.r <| ?_)
                    exact ⟨_, fun a ha => res1 rfl ha rfl, (by exfalso; omega), hS9.kb⟩
                  · skip
                    refine WC.skip (thenQ.n ?_)
                    refine WC.seq ?_
                    refine WC.region ?_
                    refine WL.lv rfl (LV.asg rfl) ?_
                    refine WL.nil (thenQ.n ?_)
                    refine WC.seq ?_
                    refine WC.region ?_
                    iterate 2 refine WL.lv rfl (LV.mv rfl) ?_
                    refine WL.xe rfl (XE.buildSlice (E := eF) [(0, (.float .f64 a)), (1, (.float .f64 a))] #[(.float .f64 a), (.float .f64 a)] [a, a] hS9 Try.underlying29 ti22 rfl (by decide) (by kernel_rfl) (.inr rfl) rfl rfl (by decide)) ?_
                    rintro _ w9 ⟨b1, rfl, hS10, hk8⟩
                    refine WL.call rfl (XC.fn Try.func28 (by kernel_rfl) rfl rfl rfl) (mean_calls  (SH.rd hS10 (.head _)) rfl ) ?_
                    rintro v_ w10 ⟨r2, rfl, hf3, hf4, hk9⟩
                    have hS11 := SH.same hS10 hk9
                    have hme_ := fun h1_ h2_ => mean2 ha h1_ h2_ hf3
                    have hxw_ := hf4
                    refine WL.lv rfl (LV.asg rfl) ?_
                    refine WL.nil (thenQ.n ?_)
                    refine WC.seq ?_
                    refine WC.region ?_
                    refine WL.lv rfl (LV.mv rfl) ?_
                    have hsk_9094988921128908188 : sk 9094988921128908188 = (9094988921128908188 : Int) := by decide +kernel
                    rcases Decidable.em (((-9218868437227405312 ≤ sk a ∧ sk a ≤ 9218868437227405312) ∧ (-9218868437227405312 ≤ (9094988921128908188 : Int) ∧ (9094988921128908188 : Int) ≤ 9218868437227405312)) ∧ sk a > (9094988921128908188 : Int)) with hg7 | hg7
                    · refine WL.lv rfl (LV.as (LV.gtF (a := a) (b := 9094988921128908188) rfl rfl) (decide_eq_true hg7)) ?_
                      refine WL.lv rfl (LV.mv rfl) ?_
                      iterate 2 refine WL.off rfl ?_
                      refine WL.lv rfl (LV.pickT rfl rfl) ?_
                      refine WL.lv rfl (LV.asg rfl) ?_
                      refine WL.nil (thenQ.n ?_)
                      refine WC.seq ?_
                      refine WC.region ?_
                      refine WL.call rfl (XC.fn Try.func11 (by kernel_rfl) rfl rfl rfl) (live22_calls  ) ?_
                      rintro v_ w11 ⟨rfl, hk10⟩
                      have hS12 := SH.same hS11 hk10
                      iterate 3 refine WL.lv rfl (LV.mv rfl) ?_
                      iterate 3 refine WL.off rfl ?_
                      refine WL.lv rfl (LV.pickT rfl rfl) ?_
                      refine WL.lv rfl (LV.mv rfl) ?_
                      iterate 3 refine WL.off rfl ?_
                      refine WL.lv rfl (LV.pickT rfl rfl) ?_
                      refine WL.lv rfl (LV.mv rfl) ?_
                      iterate 8 refine WL.off rfl ?_
                      iterate 2 refine WL.lv rfl (LV.pickT rfl rfl) ?_
                      refine WL.lv rfl (LV.asg rfl) ?_
                      refine WL.nil (thenQ.n ?_)
                      refine WC.ret (?_)
                      exact ⟨_, fun a ha => res1 rfl ha rfl, rfl, hS12.kb⟩
                    · refine WL.lv rfl (LV.as (LV.gtF (a := a) (b := 9094988921128908188) rfl rfl) (decide_eq_false hg7)) ?_
                      iterate 2 refine WL.lv rfl (LV.mv rfl) ?_
                      have hsk_18318360957983683996 : sk 18318360957983683996 = (-9094988921128908188 : Int) := by decide +kernel
                      rcases Decidable.em (((-9218868437227405312 ≤ sk a ∧ sk a ≤ 9218868437227405312) ∧ (-9218868437227405312 ≤ (-9094988921128908188 : Int) ∧ (-9094988921128908188 : Int) ≤ 9218868437227405312)) ∧ sk a < (-9094988921128908188 : Int)) with hg8 | hg8
                      · refine WL.lv rfl (LV.as (LV.ltF (a := a) (b := 18318360957983683996) rfl rfl) (decide_eq_true hg8)) ?_
                        refine WL.lv rfl (LV.pickF rfl rfl) ?_
                        refine WL.lv rfl (LV.asg rfl) ?_
                        refine WL.nil (thenQ.n ?_)
                        refine WC.seq ?_
                        refine WC.region ?_
                        refine WL.call rfl (XC.fn Try.func11 (by kernel_rfl) rfl rfl rfl) (live22_calls  ) ?_
                        rintro v_ w12 ⟨rfl, hk11⟩
                        have hS13 := SH.same hS11 hk11
                        iterate 3 refine WL.lv rfl (LV.mv rfl) ?_
                        iterate 3 refine WL.off rfl ?_
                        refine WL.lv rfl (LV.pickT rfl rfl) ?_
                        refine WL.lv rfl (LV.mv rfl) ?_
                        iterate 3 refine WL.off rfl ?_
                        refine WL.lv rfl (LV.pickT rfl rfl) ?_
                        refine WL.lv rfl (LV.mv rfl) ?_
                        iterate 8 refine WL.off rfl ?_
                        iterate 2 refine WL.lv rfl (LV.pickT rfl rfl) ?_
                        refine WL.lv rfl (LV.asg rfl) ?_
                        refine WL.nil (thenQ.n ?_)
                        refine WC.ret (?_)
                        exact ⟨_, fun a ha => res1 rfl ha rfl, rfl, hS13.kb⟩
                      · refine WL.lv rfl (LV.as (LV.ltF (a := a) (b := 18318360957983683996) rfl rfl) (decide_eq_false hg8)) ?_
                        refine WL.lv rfl (LV.pickF rfl rfl) ?_
                        refine WL.lv rfl (LV.asg rfl) ?_
                        refine WL.nil (thenQ.n ?_)
                        refine WC.seq ?_
                        refine WC.region ?_
                        refine WL.call rfl (XC.fn Try.func11 (by kernel_rfl) rfl rfl rfl) (live22_calls  ) ?_
                        rintro v_ w13 ⟨rfl, hk12⟩
                        have hS14 := SH.same hS11 hk12
                        iterate 5 refine WL.lv rfl (LV.mv rfl) ?_
                        rcases Decidable.em (¬ (((-9218868437227405312 ≤ sk a ∧ sk a ≤ 9218868437227405312) ∧ (-9218868437227405312 ≤ sk a ∧ sk a ≤ 9218868437227405312)) ∧ sk a = sk a)) with hg9 | hg9
                        · refine WL.lv rfl (LV.as (LV.neF (a := a) (b := a) rfl rfl) (decide_eq_true hg9)) ?_
                          refine WL.lv rfl (LV.pickF rfl rfl) ?_
                          refine WL.lv rfl (LV.mv rfl) ?_
                          iterate 3 refine WL.off rfl ?_
                          refine WL.lv rfl (LV.pickT rfl rfl) ?_
                          refine WL.lv rfl (LV.mv rfl) ?_
                          iterate 8 refine WL.off rfl ?_
                          iterate 2 refine WL.lv rfl (LV.pickT rfl rfl) ?_
                          refine WL.lv rfl (LV.asg rfl) ?_
                          refine WL.nil (thenQ.n ?_)
                          refine WC.ret (?_)
                          exact ⟨_, fun a ha => res1 rfl ha rfl, rfl, hS14.kb⟩
                        · refine WL.lv rfl (LV.as (LV.neF (a := a) (b := a) rfl rfl) (decide_eq_false hg9)) ?_
                          refine WL.lv rfl (LV.pickF rfl rfl) ?_
                          iterate 3 refine WL.lv rfl (LV.mv rfl) ?_
                          refine WL.lv rfl (LV.as (LV.eqF (a := r2) (b := a) rfl rfl) (decide_eq_true (by omega))) ?_
                          refine WL.lv rfl (LV.pickF rfl rfl) ?_
                          refine WL.lv rfl (LV.mv rfl) ?_
                          iterate 8 refine WL.off rfl ?_
                          iterate 2 refine WL.lv rfl (LV.pickT rfl rfl) ?_
                          refine WL.lv rfl (LV.asg rfl) ?_
                          refine WL.nil (thenQ.n ?_)
                          refine WC.ret (?_)
                          exact ⟨_, fun a ha => res1 rfl ha rfl, rfl, hS14.kb⟩
                · refine WL.lv rfl (LV.as (LV.ltI rfl rfl) (decide_eq_false hg6)) ?_
                  iterate 4 refine WL.lv rfl (LV.mv rfl) ?_
                  refine WL.lv rfl (LV.lenL Try.underlying29 rfl) ?_
                  refine WL.lv rfl (LV.sub rfl rfl (wr64 (by omega) (by omega))) ?_
                  obtain ⟨A3, c3, e2, g2⟩ := St.elt (SH.rd hS9 (.head _)) 0 (((l.take 60).length : Int) - 1) (by omega) (by omega)
                  refine WL.lv rfl (LV.idxA Try.underlying29 ti22.sz rfl e2 rfl (by omega) (by omega)) ?_
                  refine WL.lv rfl (LV.load1 (v := (.float .f64 (ys1.getD (((l.take 60).length : Int) - 1).toNat 0))) Try.underlying22 rfl rfl (g2 _ (KB.refl No _) 0 _ rfl)) ?_
                  refine WL.call rfl (XC.fn Try.func14 (by kernel_rfl) rfl rfl rfl) (order_calls (a := r1) (b := (ys1.getD (((l.take 60).length : Int) - 1).toNat 0)) (by first | assumption | omega | exact hp _ (getD_mem (by omega)) | exact hpz _ (getD_mem (by omega))) (by first | assumption | omega | exact hp _ (getD_mem (by omega)) | exact hpz _ (getD_mem (by omega)))) ?_
                  rintro v_ w14 ⟨rfl, hk13⟩
                  have hS15 := SH.same hS9 hk13
                  have ho2_ := ord_is' r1 (ys1.getD (((l.take 60).length : Int) - 1).toNat 0)
                  rcases Decidable.em ((ORD r1 (ys1.getD (((l.take 60).length : Int) - 1).toNat 0)) > 0) with hg10 | hg10
                  · refine WL.lv rfl (LV.as (LV.gtI rfl rfl) (decide_eq_true hg10)) ?_
                    refine WL.lv rfl (LV.pickF rfl rfl) ?_
                    refine WL.lv rfl (LV.pickT rfl rfl) ?_
                    iterate 2 refine WL.lv rfl (LV.mv rfl) ?_
                    refine WL.lv rfl (LV.lenL Try.underlying29 rfl) ?_
                    refine WL.lv rfl (LV.rem rfl rfl (by decide) (rem64 (by omega) rfl)) ?_
                    refine WL.lv rfl (LV.eqI rfl rfl) ?_
                    refine WL.lv rfl (LV.pickT rfl rfl) ?_
                    refine WL.nil (thenQ.n ?_)
                    refine WC.condP (p := (((l.take 60).length : Int) % 2) = 1) rfl (fun hc4 => ?_) (fun hc4 => ?_)
                    · skip
                      refine WC.seq ?_
                      refine WC.region ?_
                      refine WL.lv rfl (LV.asg rfl) ?_
                      refine WL.nil (thenQ.n ?_)
                      refine WC.ret (thenQ.r <| ?_)
                      exact ⟨_, fun a ha => res1 rfl ha rfl, (by exfalso; omega), hS15.kb⟩
                    · skip
                      refine WC.skip (thenQ.n ?_)
                      refine WC.seq ?_
                      refine WC.region ?_
                      refine WL.lv rfl (LV.asg rfl) ?_
                      refine WL.nil (thenQ.n ?_)
                      refine WC.seq ?_
                      refine WC.region ?_
                      iterate 2 refine WL.lv rfl (LV.mv rfl) ?_
                      refine WL.xe rfl (XE.buildSlice (E := eF) [(0, (.float .f64 a)), (1, (.float .f64 a))] #[(.float .f64 a), (.float .f64 a)] [a, a] hS15 Try.underlying29 ti22 rfl (by decide) (by kernel_rfl) (.inr rfl) rfl rfl (by decide)) ?_
                      rintro _ w15 ⟨b2, rfl, hS16, hk14⟩
                      refine WL.call rfl (XC.fn Try.func28 (by kernel_rfl) rfl rfl rfl) (mean_calls  (SH.rd hS16 (.head _)) rfl ) ?_
                      rintro v_ w16 ⟨r3, rfl, hf5, hf6, hk15⟩
                      have hS17 := SH.same hS16 hk15
                      have hme_ := fun h1_ h2_ => mean2 ha h1_ h2_ hf5
                      have hxw_ := hf6
                      refine WL.lv rfl (LV.asg rfl) ?_
                      refine WL.nil (thenQ.n ?_)
                      refine WC.seq ?_
                      refine WC.region ?_
                      refine WL.lv rfl (LV.mv rfl) ?_
                      have hsk_9094988921128908188 : sk 9094988921128908188 = (9094988921128908188 : Int) := by decide +kernel
                      rcases Decidable.em (((-9218868437227405312 ≤ sk a ∧ sk a ≤ 9218868437227405312) ∧ (-9218868437227405312 ≤ (9094988921128908188 : Int) ∧ (9094988921128908188 : Int) ≤ 9218868437227405312)) ∧ sk a > (9094988921128908188 : Int)) with hg11 | hg11
                      · refine WL.lv rfl (LV.as (LV.gtF (a := a) (b := 9094988921128908188) rfl rfl) (decide_eq_true hg11)) ?_
                        refine WL.lv rfl (LV.mv rfl) ?_
                        iterate 2 refine WL.off rfl ?_
                        refine WL.lv rfl (LV.pickT rfl rfl) ?_
                        refine WL.lv rfl (LV.asg rfl) ?_
                        refine WL.nil (thenQ.n ?_)
                        refine WC.seq ?_
                        refine WC.region ?_
                        refine WL.call rfl (XC.fn Try.func11 (by kernel_rfl) rfl rfl rfl) (live22_calls  ) ?_
                        rintro v_ w17 ⟨rfl, hk16⟩
                        have hS18 := SH.same hS17 hk16
                        iterate 3 refine WL.lv rfl (LV.mv rfl) ?_
                        iterate 3 refine WL.off rfl ?_
                        refine WL.lv rfl (LV.pickT rfl rfl) ?_
                        refine WL.lv rfl (LV.mv rfl) ?_
                        iterate 3 refine WL.off rfl ?_
                        refine WL.lv rfl (LV.pickT rfl rfl) ?_
                        refine WL.lv rfl (LV.mv rfl) ?_
                        iterate 8 refine WL.off rfl ?_
                        iterate 2 refine WL.lv rfl (LV.pickT rfl rfl) ?_
                        refine WL.lv rfl (LV.asg rfl) ?_
                        refine WL.nil (thenQ.n ?_)
                        refine WC.ret (?_)
                        exact ⟨_, fun a ha => res1 rfl ha rfl, rfl, hS18.kb⟩
                      · refine WL.lv rfl (LV.as (LV.gtF (a := a) (b := 9094988921128908188) rfl rfl) (decide_eq_false hg11)) ?_
                        iterate 2 refine WL.lv rfl (LV.mv rfl) ?_
                        have hsk_18318360957983683996 : sk 18318360957983683996 = (-9094988921128908188 : Int) := by decide +kernel
                        rcases Decidable.em (((-9218868437227405312 ≤ sk a ∧ sk a ≤ 9218868437227405312) ∧ (-9218868437227405312 ≤ (-9094988921128908188 : Int) ∧ (-9094988921128908188 : Int) ≤ 9218868437227405312)) ∧ sk a < (-9094988921128908188 : Int)) with hg12 | hg12
                        · refine WL.lv rfl (LV.as (LV.ltF (a := a) (b := 18318360957983683996) rfl rfl) (decide_eq_true hg12)) ?_
                          refine WL.lv rfl (LV.pickF rfl rfl) ?_
                          refine WL.lv rfl (LV.asg rfl) ?_
                          refine WL.nil (thenQ.n ?_)
                          refine WC.seq ?_
                          refine WC.region ?_
                          refine WL.call rfl (XC.fn Try.func11 (by kernel_rfl) rfl rfl rfl) (live22_calls  ) ?_
                          rintro v_ w18 ⟨rfl, hk17⟩
                          have hS19 := SH.same hS17 hk17
                          iterate 3 refine WL.lv rfl (LV.mv rfl) ?_
                          iterate 3 refine WL.off rfl ?_
                          refine WL.lv rfl (LV.pickT rfl rfl) ?_
                          refine WL.lv rfl (LV.mv rfl) ?_
                          iterate 3 refine WL.off rfl ?_
                          refine WL.lv rfl (LV.pickT rfl rfl) ?_
                          refine WL.lv rfl (LV.mv rfl) ?_
                          iterate 8 refine WL.off rfl ?_
                          iterate 2 refine WL.lv rfl (LV.pickT rfl rfl) ?_
                          refine WL.lv rfl (LV.asg rfl) ?_
                          refine WL.nil (thenQ.n ?_)
                          refine WC.ret (?_)
                          exact ⟨_, fun a ha => res1 rfl ha rfl, rfl, hS19.kb⟩
                        · refine WL.lv rfl (LV.as (LV.ltF (a := a) (b := 18318360957983683996) rfl rfl) (decide_eq_false hg12)) ?_
                          refine WL.lv rfl (LV.pickF rfl rfl) ?_
                          refine WL.lv rfl (LV.asg rfl) ?_
                          refine WL.nil (thenQ.n ?_)
                          refine WC.seq ?_
                          refine WC.region ?_
                          refine WL.call rfl (XC.fn Try.func11 (by kernel_rfl) rfl rfl rfl) (live22_calls  ) ?_
                          rintro v_ w19 ⟨rfl, hk18⟩
                          have hS20 := SH.same hS17 hk18
                          iterate 5 refine WL.lv rfl (LV.mv rfl) ?_
                          rcases Decidable.em (¬ (((-9218868437227405312 ≤ sk a ∧ sk a ≤ 9218868437227405312) ∧ (-9218868437227405312 ≤ sk a ∧ sk a ≤ 9218868437227405312)) ∧ sk a = sk a)) with hg13 | hg13
                          · refine WL.lv rfl (LV.as (LV.neF (a := a) (b := a) rfl rfl) (decide_eq_true hg13)) ?_
                            refine WL.lv rfl (LV.pickF rfl rfl) ?_
                            refine WL.lv rfl (LV.mv rfl) ?_
                            iterate 3 refine WL.off rfl ?_
                            refine WL.lv rfl (LV.pickT rfl rfl) ?_
                            refine WL.lv rfl (LV.mv rfl) ?_
                            iterate 8 refine WL.off rfl ?_
                            iterate 2 refine WL.lv rfl (LV.pickT rfl rfl) ?_
                            refine WL.lv rfl (LV.asg rfl) ?_
                            refine WL.nil (thenQ.n ?_)
                            refine WC.ret (?_)
                            exact ⟨_, fun a ha => res1 rfl ha rfl, rfl, hS20.kb⟩
                          · refine WL.lv rfl (LV.as (LV.neF (a := a) (b := a) rfl rfl) (decide_eq_false hg13)) ?_
                            refine WL.lv rfl (LV.pickF rfl rfl) ?_
                            iterate 3 refine WL.lv rfl (LV.mv rfl) ?_
                            refine WL.lv rfl (LV.as (LV.eqF (a := r3) (b := a) rfl rfl) (decide_eq_true (by omega))) ?_
                            refine WL.lv rfl (LV.pickF rfl rfl) ?_
                            refine WL.lv rfl (LV.mv rfl) ?_
                            iterate 8 refine WL.off rfl ?_
                            iterate 2 refine WL.lv rfl (LV.pickT rfl rfl) ?_
                            refine WL.lv rfl (LV.asg rfl) ?_
                            refine WL.nil (thenQ.n ?_)
                            refine WC.ret (?_)
                            exact ⟨_, fun a ha => res1 rfl ha rfl, rfl, hS20.kb⟩
                  · refine WL.lv rfl (LV.as (LV.gtI rfl rfl) (decide_eq_false hg10)) ?_
                    refine WL.lv rfl (LV.pickF rfl rfl) ?_
                    refine WL.lv rfl (LV.pickT rfl rfl) ?_
                    refine WL.lv rfl (LV.mv rfl) ?_
                    iterate 4 refine WL.off rfl ?_
                    refine WL.lv rfl (LV.pickF rfl rfl) ?_
                    refine WL.nil (thenQ.n ?_)
                    refine WC.condF rfl ?_
                    refine WC.skip (thenQ.n ?_)
                    refine WC.seq ?_
                    refine WC.region ?_
                    refine WL.lv rfl (LV.asg rfl) ?_
                    refine WL.nil (thenQ.n ?_)
                    refine WC.seq ?_
                    refine WC.region ?_
                    iterate 2 refine WL.lv rfl (LV.mv rfl) ?_
                    refine WL.xe rfl (XE.buildSlice (E := eF) [(0, (.float .f64 a)), (1, (.float .f64 a))] #[(.float .f64 a), (.float .f64 a)] [a, a] hS15 Try.underlying29 ti22 rfl (by decide) (by kernel_rfl) (.inr rfl) rfl rfl (by decide)) ?_
                    rintro _ w20 ⟨b3, rfl, hS21, hk19⟩
                    refine WL.call rfl (XC.fn Try.func28 (by kernel_rfl) rfl rfl rfl) (mean_calls  (SH.rd hS21 (.head _)) rfl ) ?_
                    rintro v_ w21 ⟨r4, rfl, hf7, hf8, hk20⟩
                    have hS22 := SH.same hS21 hk20
                    have hme_ := fun h1_ h2_ => mean2 ha h1_ h2_ hf7
                    have hxw_ := hf8
                    refine WL.lv rfl (LV.asg rfl) ?_
                    refine WL.nil (thenQ.n ?_)
                    refine WC.seq ?_
                    refine WC.region ?_
                    refine WL.lv rfl (LV.mv rfl) ?_
                    have hsk_9094988921128908188 : sk 9094988921128908188 = (9094988921128908188 : Int) := by decide +kernel
                    rcases Decidable.em (((-9218868437227405312 ≤ sk a ∧ sk a ≤ 9218868437227405312) ∧ (-9218868437227405312 ≤ (9094988921128908188 : Int) ∧ (9094988921128908188 : Int) ≤ 9218868437227405312)) ∧ sk a > (9094988921128908188 : Int)) with hg14 | hg14
                    · refine WL.lv rfl (LV.as (LV.gtF (a := a) (b := 9094988921128908188) rfl rfl) (decide_eq_true hg14)) ?_
                      refine WL.lv rfl (LV.mv rfl) ?_
                      iterate 2 refine WL.off rfl ?_
                      refine WL.lv rfl (LV.pickT rfl rfl) ?_
                      refine WL.lv rfl (LV.asg rfl) ?_
                      refine WL.nil (thenQ.n ?_)
                      refine WC.seq ?_
                      refine WC.region ?_
                      refine WL.call rfl (XC.fn Try.func11 (by kernel_rfl) rfl rfl rfl) (live22_calls  ) ?_
                      rintro v_ w22 ⟨rfl, hk21⟩
                      have hS23 := SH.same hS22 hk21
                      iterate 3 refine WL.lv rfl (LV.mv rfl) ?_
                      iterate 3 refine WL.off rfl ?_
                      refine WL.lv rfl (LV.pickT rfl rfl) ?_
                      refine WL.lv rfl (LV.mv rfl) ?_
                      iterate 3 refine WL.off rfl ?_
                      refine WL.lv rfl (LV.pickT rfl rfl) ?_
                      refine WL.lv rfl (LV.mv rfl) ?_
                      iterate 8 refine WL.off rfl ?_
                      iterate 2 refine WL.lv rfl (LV.pickT rfl rfl) ?_
                      refine WL.lv rfl (LV.asg rfl) ?_
                      refine WL.nil (thenQ.n ?_)
                      refine WC.ret (?_)
                      exact ⟨_, fun a ha => res1 rfl ha rfl, rfl, hS23.kb⟩
                    · refine WL.lv rfl (LV.as (LV.gtF (a := a) (b := 9094988921128908188) rfl rfl) (decide_eq_false hg14)) ?_
                      iterate 2 refine WL.lv rfl (LV.mv rfl) ?_
                      have hsk_18318360957983683996 : sk 18318360957983683996 = (-9094988921128908188 : Int) := by decide +kernel
                      rcases Decidable.em (((-9218868437227405312 ≤ sk a ∧ sk a ≤ 9218868437227405312) ∧ (-9218868437227405312 ≤ (-9094988921128908188 : Int) ∧ (-9094988921128908188 : Int) ≤ 9218868437227405312)) ∧ sk a < (-9094988921128908188 : Int)) with hg15 | hg15
                      · refine WL.lv rfl (LV.as (LV.ltF (a := a) (b := 18318360957983683996) rfl rfl) (decide_eq_true hg15)) ?_
                        refine WL.lv rfl (LV.pickF rfl rfl) ?_
                        refine WL.lv rfl (LV.asg rfl) ?_
                        refine WL.nil (thenQ.n ?_)
                        refine WC.seq ?_
                        refine WC.region ?_
                        refine WL.call rfl (XC.fn Try.func11 (by kernel_rfl) rfl rfl rfl) (live22_calls  ) ?_
                        rintro v_ w23 ⟨rfl, hk22⟩
                        have hS24 := SH.same hS22 hk22
                        iterate 3 refine WL.lv rfl (LV.mv rfl) ?_
                        iterate 3 refine WL.off rfl ?_
                        refine WL.lv rfl (LV.pickT rfl rfl) ?_
                        refine WL.lv rfl (LV.mv rfl) ?_
                        iterate 3 refine WL.off rfl ?_
                        refine WL.lv rfl (LV.pickT rfl rfl) ?_
                        refine WL.lv rfl (LV.mv rfl) ?_
                        iterate 8 refine WL.off rfl ?_
                        iterate 2 refine WL.lv rfl (LV.pickT rfl rfl) ?_
                        refine WL.lv rfl (LV.asg rfl) ?_
                        refine WL.nil (thenQ.n ?_)
                        refine WC.ret (?_)
                        exact ⟨_, fun a ha => res1 rfl ha rfl, rfl, hS24.kb⟩
                      · refine WL.lv rfl (LV.as (LV.ltF (a := a) (b := 18318360957983683996) rfl rfl) (decide_eq_false hg15)) ?_
                        refine WL.lv rfl (LV.pickF rfl rfl) ?_
                        refine WL.lv rfl (LV.asg rfl) ?_
                        refine WL.nil (thenQ.n ?_)
                        refine WC.seq ?_
                        refine WC.region ?_
                        refine WL.call rfl (XC.fn Try.func11 (by kernel_rfl) rfl rfl rfl) (live22_calls  ) ?_
                        rintro v_ w24 ⟨rfl, hk23⟩
                        have hS25 := SH.same hS22 hk23
                        iterate 5 refine WL.lv rfl (LV.mv rfl) ?_
                        rcases Decidable.em (¬ (((-9218868437227405312 ≤ sk a ∧ sk a ≤ 9218868437227405312) ∧ (-9218868437227405312 ≤ sk a ∧ sk a ≤ 9218868437227405312)) ∧ sk a = sk a)) with hg16 | hg16
                        · refine WL.lv rfl (LV.as (LV.neF (a := a) (b := a) rfl rfl) (decide_eq_true hg16)) ?_
                          refine WL.lv rfl (LV.pickF rfl rfl) ?_
                          refine WL.lv rfl (LV.mv rfl) ?_
                          iterate 3 refine WL.off rfl ?_
                          refine WL.lv rfl (LV.pickT rfl rfl) ?_
                          refine WL.lv rfl (LV.mv rfl) ?_
                          iterate 8 refine WL.off rfl ?_
                          iterate 2 refine WL.lv rfl (LV.pickT rfl rfl) ?_
                          refine WL.lv rfl (LV.asg rfl) ?_
                          refine WL.nil (thenQ.n ?_)
                          refine WC.ret (?_)
                          exact ⟨_, fun a ha => res1 rfl ha rfl, rfl, hS25.kb⟩
                        · refine WL.lv rfl (LV.as (LV.neF (a := a) (b := a) rfl rfl) (decide_eq_false hg16)) ?_
                          refine WL.lv rfl (LV.pickF rfl rfl) ?_
                          iterate 3 refine WL.lv rfl (LV.mv rfl) ?_
                          refine WL.lv rfl (LV.as (LV.eqF (a := r4) (b := a) rfl rfl) (decide_eq_true (by omega))) ?_
                          refine WL.lv rfl (LV.pickF rfl rfl) ?_
                          refine WL.lv rfl (LV.mv rfl) ?_
                          iterate 8 refine WL.off rfl ?_
                          iterate 2 refine WL.lv rfl (LV.pickT rfl rfl) ?_
                          refine WL.lv rfl (LV.asg rfl) ?_
                          refine WL.nil (thenQ.n ?_)
                          refine WC.ret (?_)
                          exact ⟨_, fun a ha => res1 rfl ha rfl, rfl, hS25.kb⟩
              · refine WL.lv rfl (LV.as (LV.eqF (a := r1) (b := r1) rfl rfl) (decide_eq_false hg5)) ?_
                refine WL.lv rfl (LV.pickT rfl rfl) ?_
                refine WL.lv rfl (LV.mv rfl) ?_
                iterate 17 refine WL.off rfl ?_
                refine WL.lv rfl (LV.pickF rfl rfl) ?_
                refine WL.lv rfl (LV.mv rfl) ?_
                iterate 4 refine WL.off rfl ?_
                refine WL.lv rfl (LV.pickF rfl rfl) ?_
                refine WL.nil (thenQ.n ?_)
                refine WC.condF rfl ?_
                refine WC.skip (thenQ.n ?_)
                refine WC.seq ?_
                refine WC.region ?_
                refine WL.lv rfl (LV.asg rfl) ?_
                refine WL.nil (thenQ.n ?_)
                refine WC.seq ?_
                refine WC.region ?_
                iterate 2 refine WL.lv rfl (LV.mv rfl) ?_
                refine WL.xe rfl (XE.buildSlice (E := eF) [(0, (.float .f64 a)), (1, (.float .f64 a))] #[(.float .f64 a), (.float .f64 a)] [a, a] hS8 Try.underlying29 ti22 rfl (by decide) (by kernel_rfl) (.inr rfl) rfl rfl (by decide)) ?_
                rintro _ w25 ⟨b4, rfl, hS26, hk24⟩
                refine WL.call rfl (XC.fn Try.func28 (by kernel_rfl) rfl rfl rfl) (mean_calls  (SH.rd hS26 (.head _)) rfl ) ?_
                rintro v_ w26 ⟨r5, rfl, hf9, hf10, hk25⟩
                have hS27 := SH.same hS26 hk25
                have hme_ := fun h1_ h2_ => mean2 ha h1_ h2_ hf9
                have hxw_ := hf10
                refine WL.lv rfl (LV.asg rfl) ?_
                refine WL.nil (thenQ.n ?_)
                refine WC.seq ?_
                refine WC.region ?_
                refine WL.lv rfl (LV.mv rfl) ?_
                have hsk_9094988921128908188 : sk 9094988921128908188 = (9094988921128908188 : Int) := by decide +kernel
                rcases Decidable.em (((-9218868437227405312 ≤ sk a ∧ sk a ≤ 9218868437227405312) ∧ (-9218868437227405312 ≤ (9094988921128908188 : Int) ∧ (9094988921128908188 : Int) ≤ 9218868437227405312)) ∧ sk a > (9094988921128908188 : Int)) with hg17 | hg17
                · refine WL.lv rfl (LV.as (LV.gtF (a := a) (b := 9094988921128908188) rfl rfl) (decide_eq_true hg17)) ?_
                  refine WL.lv rfl (LV.mv rfl) ?_
                  iterate 2 refine WL.off rfl ?_
                  refine WL.lv rfl (LV.pickT rfl rfl) ?_
                  refine WL.lv rfl (LV.asg rfl) ?_
                  refine WL.nil (thenQ.n ?_)
                  refine WC.seq ?_
                  refine WC.region ?_
                  refine WL.call rfl (XC.fn Try.func11 (by kernel_rfl) rfl rfl rfl) (live22_calls  ) ?_
                  rintro v_ w27 ⟨rfl, hk26⟩
                  have hS28 := SH.same hS27 hk26
                  iterate 3 refine WL.lv rfl (LV.mv rfl) ?_
                  iterate 3 refine WL.off rfl ?_
                  refine WL.lv rfl (LV.pickT rfl rfl) ?_
                  refine WL.lv rfl (LV.mv rfl) ?_
                  iterate 3 refine WL.off rfl ?_
                  refine WL.lv rfl (LV.pickT rfl rfl) ?_
                  refine WL.lv rfl (LV.mv rfl) ?_
                  iterate 8 refine WL.off rfl ?_
                  iterate 2 refine WL.lv rfl (LV.pickT rfl rfl) ?_
                  refine WL.lv rfl (LV.asg rfl) ?_
                  refine WL.nil (thenQ.n ?_)
                  refine WC.ret (?_)
                  exact ⟨_, fun a ha => res1 rfl ha rfl, rfl, hS28.kb⟩
                · refine WL.lv rfl (LV.as (LV.gtF (a := a) (b := 9094988921128908188) rfl rfl) (decide_eq_false hg17)) ?_
                  iterate 2 refine WL.lv rfl (LV.mv rfl) ?_
                  have hsk_18318360957983683996 : sk 18318360957983683996 = (-9094988921128908188 : Int) := by decide +kernel
                  rcases Decidable.em (((-9218868437227405312 ≤ sk a ∧ sk a ≤ 9218868437227405312) ∧ (-9218868437227405312 ≤ (-9094988921128908188 : Int) ∧ (-9094988921128908188 : Int) ≤ 9218868437227405312)) ∧ sk a < (-9094988921128908188 : Int)) with hg18 | hg18
                  · refine WL.lv rfl (LV.as (LV.ltF (a := a) (b := 18318360957983683996) rfl rfl) (decide_eq_true hg18)) ?_
                    refine WL.lv rfl (LV.pickF rfl rfl) ?_
                    refine WL.lv rfl (LV.asg rfl) ?_
                    refine WL.nil (thenQ.n ?_)
                    refine WC.seq ?_
                    refine WC.region ?_
                    refine WL.call rfl (XC.fn Try.func11 (by kernel_rfl) rfl rfl rfl) (live22_calls  ) ?_
                    rintro v_ w28 ⟨rfl, hk27⟩
                    have hS29 := SH.same hS27 hk27
                    iterate 3 refine WL.lv rfl (LV.mv rfl) ?_
                    iterate 3 refine WL.off rfl ?_
                    refine WL.lv rfl (LV.pickT rfl rfl) ?_
                    refine WL.lv rfl (LV.mv rfl) ?_
                    iterate 3 refine WL.off rfl ?_
                    refine WL.lv rfl (LV.pickT rfl rfl) ?_
                    refine WL.lv rfl (LV.mv rfl) ?_
                    iterate 8 refine WL.off rfl ?_
                    iterate 2 refine WL.lv rfl (LV.pickT rfl rfl) ?_
                    refine WL.lv rfl (LV.asg rfl) ?_
                    refine WL.nil (thenQ.n ?_)
                    refine WC.ret (?_)
                    exact ⟨_, fun a ha => res1 rfl ha rfl, rfl, hS29.kb⟩
                  · refine WL.lv rfl (LV.as (LV.ltF (a := a) (b := 18318360957983683996) rfl rfl) (decide_eq_false hg18)) ?_
                    refine WL.lv rfl (LV.pickF rfl rfl) ?_
                    refine WL.lv rfl (LV.asg rfl) ?_
                    refine WL.nil (thenQ.n ?_)
                    refine WC.seq ?_
                    refine WC.region ?_
                    refine WL.call rfl (XC.fn Try.func11 (by kernel_rfl) rfl rfl rfl) (live22_calls  ) ?_
                    rintro v_ w29 ⟨rfl, hk28⟩
                    have hS30 := SH.same hS27 hk28
                    iterate 5 refine WL.lv rfl (LV.mv rfl) ?_
                    rcases Decidable.em (¬ (((-9218868437227405312 ≤ sk a ∧ sk a ≤ 9218868437227405312) ∧ (-9218868437227405312 ≤ sk a ∧ sk a ≤ 9218868437227405312)) ∧ sk a = sk a)) with hg19 | hg19
                    · refine WL.lv rfl (LV.as (LV.neF (a := a) (b := a) rfl rfl) (decide_eq_true hg19)) ?_
                      refine WL.lv rfl (LV.pickF rfl rfl) ?_
                      refine WL.lv rfl (LV.mv rfl) ?_
                      iterate 3 refine WL.off rfl ?_
                      refine WL.lv rfl (LV.pickT rfl rfl) ?_
                      refine WL.lv rfl (LV.mv rfl) ?_
                      iterate 8 refine WL.off rfl ?_
                      iterate 2 refine WL.lv rfl (LV.pickT rfl rfl) ?_
                      refine WL.lv rfl (LV.asg rfl) ?_
                      refine WL.nil (thenQ.n ?_)
                      refine WC.ret (?_)
                      exact ⟨_, fun a ha => res1 rfl ha rfl, rfl, hS30.kb⟩
                    · refine WL.lv rfl (LV.as (LV.neF (a := a) (b := a) rfl rfl) (decide_eq_false hg19)) ?_
                      refine WL.lv rfl (LV.pickF rfl rfl) ?_
                      iterate 3 refine WL.lv rfl (LV.mv rfl) ?_
                      refine WL.lv rfl (LV.as (LV.eqF (a := r5) (b := a) rfl rfl) (decide_eq_true (by omega))) ?_
                      refine WL.lv rfl (LV.pickF rfl rfl) ?_
                      refine WL.lv rfl (LV.mv rfl) ?_
                      iterate 8 refine WL.off rfl ?_
                      iterate 2 refine WL.lv rfl (LV.pickT rfl rfl) ?_
                      refine WL.lv rfl (LV.asg rfl) ?_
                      refine WL.nil (thenQ.n ?_)
                      refine WC.ret (?_)
                      exact ⟨_, fun a ha => res1 rfl ha rfl, rfl, hS30.kb⟩
            · refine WL.lv rfl (LV.as (LV.gtI rfl rfl) (decide_eq_false hg4)) ?_
              refine WL.lv rfl (LV.mv rfl) ?_
              iterate 3 refine WL.off rfl ?_
              refine WL.lv rfl (LV.pickF rfl rfl) ?_
              refine WL.lv rfl (LV.mv rfl) ?_
              iterate 17 refine WL.off rfl ?_
              refine WL.lv rfl (LV.pickF rfl rfl) ?_
              refine WL.lv rfl (LV.mv rfl) ?_
              iterate 4 refine WL.off rfl ?_
              refine WL.lv rfl (LV.pickF rfl rfl) ?_
              refine WL.nil (thenQ.n ?_)
              refine WC.condF rfl ?_
              refine WC.skip (thenQ.n ?_)
              refine WC.seq ?_
              refine WC.region ?_
              refine WL.lv rfl (LV.asg rfl) ?_
              refine WL.nil (thenQ.n ?_)
              refine WC.seq ?_
              refine WC.region ?_
              iterate 2 refine WL.lv rfl (LV.mv rfl) ?_
              refine WL.xe rfl (XE.buildSlice (E := eF) [(0, (.float .f64 a)), (1, (.float .f64 a))] #[(.float .f64 a), (.float .f64 a)] [a, a] hS8 Try.underlying29 ti22 rfl (by decide) (by kernel_rfl) (.inr rfl) rfl rfl (by decide)) ?_
              rintro _ w30 ⟨b5, rfl, hS31, hk29⟩
              refine WL.call rfl (XC.fn Try.func28 (by kernel_rfl) rfl rfl rfl) (mean_calls  (SH.rd hS31 (.head _)) rfl ) ?_
              rintro v_ w31 ⟨r6, rfl, hf11, hf12, hk30⟩
              have hS32 := SH.same hS31 hk30
              have hme_ := fun h1_ h2_ => mean2 ha h1_ h2_ hf11
              have hxw_ := hf12
              refine WL.lv rfl (LV.asg rfl) ?_
              refine WL.nil (thenQ.n ?_)
              refine WC.seq ?_
              refine WC.region ?_
              refine WL.lv rfl (LV.mv rfl) ?_
              have hsk_9094988921128908188 : sk 9094988921128908188 = (9094988921128908188 : Int) := by decide +kernel
              rcases Decidable.em (((-9218868437227405312 ≤ sk a ∧ sk a ≤ 9218868437227405312) ∧ (-9218868437227405312 ≤ (9094988921128908188 : Int) ∧ (9094988921128908188 : Int) ≤ 9218868437227405312)) ∧ sk a > (9094988921128908188 : Int)) with hg20 | hg20
              · refine WL.lv rfl (LV.as (LV.gtF (a := a) (b := 9094988921128908188) rfl rfl) (decide_eq_true hg20)) ?_
                refine WL.lv rfl (LV.mv rfl) ?_
                iterate 2 refine WL.off rfl ?_
                refine WL.lv rfl (LV.pickT rfl rfl) ?_
                refine WL.lv rfl (LV.asg rfl) ?_
                refine WL.nil (thenQ.n ?_)
                refine WC.seq ?_
                refine WC.region ?_
                refine WL.call rfl (XC.fn Try.func11 (by kernel_rfl) rfl rfl rfl) (live22_calls  ) ?_
                rintro v_ w32 ⟨rfl, hk31⟩
                have hS33 := SH.same hS32 hk31
                iterate 3 refine WL.lv rfl (LV.mv rfl) ?_
                iterate 3 refine WL.off rfl ?_
                refine WL.lv rfl (LV.pickT rfl rfl) ?_
                refine WL.lv rfl (LV.mv rfl) ?_
                iterate 3 refine WL.off rfl ?_
                refine WL.lv rfl (LV.pickT rfl rfl) ?_
                refine WL.lv rfl (LV.mv rfl) ?_
                iterate 8 refine WL.off rfl ?_
                iterate 2 refine WL.lv rfl (LV.pickT rfl rfl) ?_
                refine WL.lv rfl (LV.asg rfl) ?_
                refine WL.nil (thenQ.n ?_)
                refine WC.ret (?_)
                exact ⟨_, fun a ha => res1 rfl ha rfl, rfl, hS33.kb⟩
              · refine WL.lv rfl (LV.as (LV.gtF (a := a) (b := 9094988921128908188) rfl rfl) (decide_eq_false hg20)) ?_
                iterate 2 refine WL.lv rfl (LV.mv rfl) ?_
                have hsk_18318360957983683996 : sk 18318360957983683996 = (-9094988921128908188 : Int) := by decide +kernel
                rcases Decidable.em (((-9218868437227405312 ≤ sk a ∧ sk a ≤ 9218868437227405312) ∧ (-9218868437227405312 ≤ (-9094988921128908188 : Int) ∧ (-9094988921128908188 : Int) ≤ 9218868437227405312)) ∧ sk a < (-9094988921128908188 : Int)) with hg21 | hg21
                · refine WL.lv rfl (LV.as (LV.ltF (a := a) (b := 18318360957983683996) rfl rfl) (decide_eq_true hg21)) ?_
                  refine WL.lv rfl (LV.pickF rfl rfl) ?_
                  refine WL.lv rfl (LV.asg rfl) ?_
                  refine WL.nil (thenQ.n ?_)
                  refine WC.seq ?_
                  refine WC.region ?_
                  refine WL.call rfl (XC.fn Try.func11 (by kernel_rfl) rfl rfl rfl) (live22_calls  ) ?_
                  rintro v_ w33 ⟨rfl, hk32⟩
                  have hS34 := SH.same hS32 hk32
                  iterate 3 refine WL.lv rfl (LV.mv rfl) ?_
                  iterate 3 refine WL.off rfl ?_
                  refine WL.lv rfl (LV.pickT rfl rfl) ?_
                  refine WL.lv rfl (LV.mv rfl) ?_
                  iterate 3 refine WL.off rfl ?_
                  refine WL.lv rfl (LV.pickT rfl rfl) ?_
                  refine WL.lv rfl (LV.mv rfl) ?_
                  iterate 8 refine WL.off rfl ?_
                  iterate 2 refine WL.lv rfl (LV.pickT rfl rfl) ?_
                  refine WL.lv rfl (LV.asg rfl) ?_
                  refine WL.nil (thenQ.n ?_)
                  refine WC.ret (?_)
                  exact ⟨_, fun a ha => res1 rfl ha rfl, rfl, hS34.kb⟩
                · refine WL.lv rfl (LV.as (LV.ltF (a := a) (b := 18318360957983683996) rfl rfl) (decide_eq_false hg21)) ?_
                  refine WL.lv rfl (LV.pickF rfl rfl) ?_
                  refine WL.lv rfl (LV.asg rfl) ?_
                  refine WL.nil (thenQ.n ?_)
                  refine WC.seq ?_
                  refine WC.region ?_
                  refine WL.call rfl (XC.fn Try.func11 (by kernel_rfl) rfl rfl rfl) (live22_calls  ) ?_
                  rintro v_ w34 ⟨rfl, hk33⟩
                  have hS35 := SH.same hS32 hk33
                  iterate 5 refine WL.lv rfl (LV.mv rfl) ?_
                  rcases Decidable.em (¬ (((-9218868437227405312 ≤ sk a ∧ sk a ≤ 9218868437227405312) ∧ (-9218868437227405312 ≤ sk a ∧ sk a ≤ 9218868437227405312)) ∧ sk a = sk a)) with hg22 | hg22
                  · refine WL.lv rfl (LV.as (LV.neF (a := a) (b := a) rfl rfl) (decide_eq_true hg22)) ?_
                    refine WL.lv rfl (LV.pickF rfl rfl) ?_
                    refine WL.lv rfl (LV.mv rfl) ?_
                    iterate 3 refine WL.off rfl ?_
                    refine WL.lv rfl (LV.pickT rfl rfl) ?_
                    refine WL.lv rfl (LV.mv rfl) ?_
                    iterate 8 refine WL.off rfl ?_
                    iterate 2 refine WL.lv rfl (LV.pickT rfl rfl) ?_
                    refine WL.lv rfl (LV.asg rfl) ?_
                    refine WL.nil (thenQ.n ?_)
                    refine WC.ret (?_)
                    exact ⟨_, fun a ha => res1 rfl ha rfl, rfl, hS35.kb⟩
                  · refine WL.lv rfl (LV.as (LV.neF (a := a) (b := a) rfl rfl) (decide_eq_false hg22)) ?_
                    refine WL.lv rfl (LV.pickF rfl rfl) ?_
                    iterate 3 refine WL.lv rfl (LV.mv rfl) ?_
                    refine WL.lv rfl (LV.as (LV.eqF (a := r6) (b := a) rfl rfl) (decide_eq_true (by omega))) ?_
                    refine WL.lv rfl (LV.pickF rfl rfl) ?_
                    refine WL.lv rfl (LV.mv rfl) ?_
                    iterate 8 refine WL.off rfl ?_
                    iterate 2 refine WL.lv rfl (LV.pickT rfl rfl) ?_
                    refine WL.lv rfl (LV.asg rfl) ?_
                    refine WL.nil (thenQ.n ?_)
                    refine WC.ret (?_)
                    exact ⟨_, fun a ha => res1 rfl ha rfl, rfl, hS35.kb⟩
  · refine WL.lv rfl (LV.as (LV.leF (a := a) (b := b) rfl rfl) (decide_eq_false hg1)) ?_
    refine WL.lv rfl (LV.mv rfl) ?_
    iterate 5 refine WL.off rfl ?_
    refine WL.lv rfl (LV.pickF rfl rfl) ?_
    iterate 2 refine WL.lv rfl (LV.mv rfl) ?_
    refine WL.call rfl (XC.fn Try.func26 (by kernel_rfl) rfl rfl rfl) (mille_calls (x := a) (by first | assumption | omega | exact hp _ (getD_mem (by omega)) | exact hpz _ (getD_mem (by omega)))) ?_
    rintro v_ w35 ⟨rfl, hk34⟩
    have hS36 := SH.same hS1 hk34
    rcases Decidable.em ((MIL a) < (-1)) with hg23 | hg23
    · refine WL.lv rfl (LV.as (LV.ltI rfl rfl) (decide_eq_true hg23)) ?_
      refine WL.lv rfl (LV.pickF rfl rfl) ?_
      refine WL.lv rfl (LV.mv rfl) ?_
      iterate 3 refine WL.off rfl ?_
      refine WL.lv rfl (LV.pickT rfl rfl) ?_
      refine WL.nil (thenQ.n ?_)
      refine WC.condT rfl ?_
      refine WC.seq ?_
      refine WC.region ?_
      refine WL.lv rfl (LV.asg rfl) ?_
      refine WL.nil (thenQ.n ?_)
      refine WC.ret (thenQ.r <| ?_)
      exact ⟨_, fun a ha => res1 rfl ha rfl, (by exfalso; omega), hS36.kb⟩
    · refine WL.lv rfl (LV.as (LV.ltI rfl rfl) (decide_eq_false hg23)) ?_
      refine WL.lv rfl (LV.pickF rfl rfl) ?_
      iterate 2 refine WL.lv rfl (LV.mv rfl) ?_
      refine WL.call rfl (XC.fn Try.func26 (by kernel_rfl) rfl rfl rfl) (mille_calls (x := a) (by first | assumption | omega | exact hp _ (getD_mem (by omega)) | exact hpz _ (getD_mem (by omega)))) ?_
      rintro v_ w36 ⟨rfl, hk35⟩
      have hS37 := SH.same hS36 hk35
      refine WL.lv rfl (LV.gtI rfl rfl) ?_
      refine WL.lv rfl (LV.pickF rfl rfl) ?_
      refine WL.nil (thenQ.n ?_)
      refine WC.condP (p := (MIL a) > 1000) rfl (fun hc5 => ?_) (fun hc5 => ?_)
      · skip
        refine WC.seq ?_
        refine WC.region ?_
        refine WL.lv rfl (LV.asg rfl) ?_
        refine WL.nil (thenQ.n ?_)
        refine WC.ret (thenQ.r <| ?_)
        exact ⟨_, fun a ha => res1 rfl ha rfl, (by exfalso; omega), hS37.kb⟩
      · skip
        refine WC.skip (thenQ.n ?_)
        refine WC.seq ?_
        refine WC.region ?_
        refine WL.lv rfl (LV.mv rfl) ?_
        refine WL.call rfl (XC.fn Try.func30 (by kernel_rfl) rfl rfl rfl) (median_calls  (SH.stN hS37 (few_rd 60 h_l)) rfl (wl_) (hl_)) ?_
        rintro v_ w37 ⟨r7, rfl, hf13, hf14, hk36⟩
        have hS38 := SH.same hS37 hk36
        have hmed_ := hf13
        have hmw_ := hf14
        refine WL.lv rfl (LV.asg rfl) ?_
        refine WL.nil (thenQ.n ?_)
        refine WC.seq ?_
        refine WC.region ?_
        refine WL.lv rfl (LV.mv rfl) ?_
        refine WL.call rfl (XC.fn Try.func17 (by kernel_rfl) rfl rfl rfl) (sort22_calls (l := (l.take 60)) (SH.stN hS38 (few_rd 60 h_l)) (wl_) (by first | omega | (simp only [List.length_append, List.length_nil, List.length_take, List.length_drop]; omega))) ?_
        rintro v_ w38 ⟨A4, c4, ys2, rfl, hpm2, hpw2, hS39⟩
        have hS40 := SH.joinN hS38 hS39
        have hln_ := hpm2.length_eq
        have hmid_ := hmed_.mid hpm2 hpw2
        have hpz : ∀ x ∈ ys2, W6 x := fun x hx => wl_ x (hpm2.mem_iff.1 hx)
        refine WL.lv rfl (LV.asg rfl) ?_
        refine WL.nil (thenQ.n ?_)
        iterate 2 refine WC.seq ?_
        refine WC.region ?_
        refine WL.lv rfl (LV.mv rfl) ?_
        refine WL.lv rfl (LV.lenL Try.underlying29 rfl) ?_
        refine WL.lv rfl (LV.mv rfl) ?_
        refine WL.lv rfl (LV.lenL Try.underlying29 rfl) ?_
        refine WL.lv rfl (LV.neI rfl rfl) ?_
        refine WL.nil (thenQ.n ?_)
        refine WC.condP (p := ((l.take 60).length : Int) ≠ ((l.take 60).length : Int)) rfl (fun hc6 => ?_) (fun hc6 => ?_)
        · skip
          refine WC.seq ?_
          refine WC.region ?_
          refine WL.lv rfl (LV.asg rfl) ?_
          refine WL.nil (thenQ.n ?_)
          refine WC.ret (thenQ.r <| ?_)
          exact ⟨_, fun a ha => res1 rfl ha rfl, (by exfalso; omega), hS40.kb⟩
        · skip
          refine WC.skip (thenQ.n ?_)
          iterate 2 refine WC.seq ?_
          refine WC.region ?_
          refine WL.lv rfl (LV.mv rfl) ?_
          refine WL.lv rfl (LV.lenL Try.underlying29 rfl) ?_
          rcases Decidable.em (((l.take 60).length : Int) > 0) with hg24 | hg24
          · refine WL.lv rfl (LV.as (LV.gtI rfl rfl) (decide_eq_true hg24)) ?_
            iterate 3 refine WL.lv rfl (LV.mv rfl) ?_
            rcases Decidable.em (((-9218868437227405312 ≤ sk r7 ∧ sk r7 ≤ 9218868437227405312) ∧ (-9218868437227405312 ≤ sk r7 ∧ sk r7 ≤ 9218868437227405312)) ∧ sk r7 = sk r7) with hg25 | hg25
            · refine WL.lv rfl (LV.as (LV.eqF (a := r7) (b := r7) rfl rfl) (decide_eq_true hg25)) ?_
              refine WL.lv rfl (LV.pickT rfl rfl) ?_
              iterate 3 refine WL.lv rfl (LV.mv rfl) ?_
              obtain ⟨A5, c5, e3, g3⟩ := St.elt (SH.rd hS40 (.head _)) 0 (0 : Int) (by omega) (by omega)
              refine WL.lv rfl (LV.idxA Try.underlying29 ti22.sz rfl e3 rfl (by omega) (by omega)) ?_
              refine WL.lv rfl (LV.load1 (v := (.float .f64 (ys2.getD ((0 : Int)).toNat 0))) Try.underlying22 rfl rfl (g3 _ (KB.refl No _) 0 _ rfl)) ?_
              refine WL.call rfl (XC.fn Try.func14 (by kernel_rfl) rfl rfl rfl) (order_calls (a := r7) (b := (ys2.getD ((0 : Int)).toNat 0)) (by first | assumption | omega | exact hp _ (getD_mem (by omega)) | exact hpz _ (getD_mem (by omega))) (by first | assumption | omega | exact hp _ (getD_mem (by omega)) | exact hpz _ (getD_mem (by omega)))) ?_
              rintro v_ w39 ⟨rfl, hk37⟩
              have hS41 := SH.same hS40 hk37
              have ho1_ := ord_is' r7 (ys2.getD ((0 : Int)).toNat 0)
              rcases Decidable.em ((ORD r7 (ys2.getD ((0 : Int)).toNat 0)) < 0) with hg26 | hg26
              · refine WL.lv rfl (LV.as (LV.ltI rfl rfl) (decide_eq_true hg26)) ?_
                refine WL.lv rfl (LV.mv rfl) ?_
                iterate 9 refine WL.off rfl ?_
                iterate 2 refine WL.lv rfl (LV.pickT rfl rfl) ?_
                iterate 2 refine WL.lv rfl (LV.mv rfl) ?_
                refine WL.lv rfl (LV.lenL Try.underlying29 rfl) ?_
                refine WL.lv rfl (LV.rem rfl rfl (by decide) (rem64 (by omega) rfl)) ?_
                refine WL.lv rfl (LV.eqI rfl rfl) ?_
                refine WL.lv rfl (LV.pickT rfl rfl) ?_
                refine WL.nil (thenQ.n ?_)
                refine WC.condP (p := (((l.take 60).length : Int) % 2) = 1) rfl (fun hc7 => ?_) (fun hc7 => ?_)
                · skip
                  refine WC.seq ?_
                  refine WC.region ?_
                  refine WL.lv rfl (LV.asg rfl) ?_
                  refine WL.nil (thenQ.n ?_)
                  refine WC.ret (thenQ.r <| ?_)
                  exact ⟨_, fun a ha => res1 rfl ha rfl, (by exfalso; omega), hS41.kb⟩
                · skip
                  refine WC.skip (thenQ.n ?_)
                  refine WC.seq ?_
                  refine WC.region ?_
                  refine WL.lv rfl (LV.asg rfl) ?_
                  refine WL.nil (thenQ.n ?_)
                  refine WC.seq ?_
                  refine WC.region ?_
                  iterate 2 refine WL.lv rfl (LV.mv rfl) ?_
                  refine WL.xe rfl (XE.buildSlice (E := eF) [(0, (.float .f64 a)), (1, (.float .f64 a))] #[(.float .f64 a), (.float .f64 a)] [a, a] hS41 Try.underlying29 ti22 rfl (by decide) (by kernel_rfl) (.inr rfl) rfl rfl (by decide)) ?_
                  rintro _ w40 ⟨b6, rfl, hS42, hk38⟩
                  refine WL.call rfl (XC.fn Try.func28 (by kernel_rfl) rfl rfl rfl) (mean_calls  (SH.rd hS42 (.head _)) rfl ) ?_
                  rintro v_ w41 ⟨r8, rfl, hf15, hf16, hk39⟩
                  have hS43 := SH.same hS42 hk39
                  have hme_ := fun h1_ h2_ => mean2 ha h1_ h2_ hf15
                  have hxw_ := hf16
                  refine WL.lv rfl (LV.asg rfl) ?_
                  refine WL.nil (thenQ.n ?_)
                  refine WC.seq ?_
                  refine WC.region ?_
                  refine WL.lv rfl (LV.mv rfl) ?_
                  have hsk_9094988921128908188 : sk 9094988921128908188 = (9094988921128908188 : Int) := by decide +kernel
                  rcases Decidable.em (((-9218868437227405312 ≤ sk a ∧ sk a ≤ 9218868437227405312) ∧ (-9218868437227405312 ≤ (9094988921128908188 : Int) ∧ (9094988921128908188 : Int) ≤ 9218868437227405312)) ∧ sk a > (9094988921128908188 : Int)) with hg27 | hg27
                  · refine WL.lv rfl (LV.as (LV.gtF (a := a) (b := 9094988921128908188) rfl rfl) (decide_eq_true hg27)) ?_
                    refine WL.lv rfl (LV.mv rfl) ?_
                    iterate 2 refine WL.off rfl ?_
                    refine WL.lv rfl (LV.pickT rfl rfl) ?_
                    refine WL.lv rfl (LV.asg rfl) ?_
                    refine WL.nil (thenQ.n ?_)
                    refine WC.seq ?_
                    refine WC.region ?_
                    refine WL.call rfl (XC.fn Try.func11 (by kernel_rfl) rfl rfl rfl) (live22_calls  ) ?_
                    rintro v_ w42 ⟨rfl, hk40⟩
                    have hS44 := SH.same hS43 hk40
                    iterate 3 refine WL.lv rfl (LV.mv rfl) ?_
                    iterate 3 refine WL.off rfl ?_
                    refine WL.lv rfl (LV.pickT rfl rfl) ?_
                    refine WL.lv rfl (LV.mv rfl) ?_
                    iterate 3 refine WL.off rfl ?_
                    refine WL.lv rfl (LV.pickT rfl rfl) ?_
                    refine WL.lv rfl (LV.mv rfl) ?_
                    iterate 8 refine WL.off rfl ?_
                    iterate 2 refine WL.lv rfl (LV.pickT rfl rfl) ?_
                    refine WL.lv rfl (LV.asg rfl) ?_
                    refine WL.nil (thenQ.n ?_)
                    refine WC.ret (?_)
                    exact ⟨_, fun a ha => res1 rfl ha rfl, rfl, hS44.kb⟩
                  · refine WL.lv rfl (LV.as (LV.gtF (a := a) (b := 9094988921128908188) rfl rfl) (decide_eq_false hg27)) ?_
                    iterate 2 refine WL.lv rfl (LV.mv rfl) ?_
                    have hsk_18318360957983683996 : sk 18318360957983683996 = (-9094988921128908188 : Int) := by decide +kernel
                    rcases Decidable.em (((-9218868437227405312 ≤ sk a ∧ sk a ≤ 9218868437227405312) ∧ (-9218868437227405312 ≤ (-9094988921128908188 : Int) ∧ (-9094988921128908188 : Int) ≤ 9218868437227405312)) ∧ sk a < (-9094988921128908188 : Int)) with hg28 | hg28
                    · refine WL.lv rfl (LV.as (LV.ltF (a := a) (b := 18318360957983683996) rfl rfl) (decide_eq_true hg28)) ?_
                      refine WL.lv rfl (LV.pickF rfl rfl) ?_
                      refine WL.lv rfl (LV.asg rfl) ?_
                      refine WL.nil (thenQ.n ?_)
                      refine WC.seq ?_
                      refine WC.region ?_
                      refine WL.call rfl (XC.fn Try.func11 (by kernel_rfl) rfl rfl rfl) (live22_calls  ) ?_
                      rintro v_ w43 ⟨rfl, hk41⟩
                      have hS45 := SH.same hS43 hk41
                      iterate 3 refine WL.lv rfl (LV.mv rfl) ?_
                      iterate 3 refine WL.off rfl ?_
                      refine WL.lv rfl (LV.pickT rfl rfl) ?_
                      refine WL.lv rfl (LV.mv rfl) ?_
                      iterate 3 refine WL.off rfl ?_
                      refine WL.lv rfl (LV.pickT rfl rfl) ?_
                      refine WL.lv rfl (LV.mv rfl) ?_
                      iterate 8 refine WL.off rfl ?_
                      iterate 2 refine WL.lv rfl (LV.pickT rfl rfl) ?_
                      refine WL.lv rfl (LV.asg rfl) ?_
                      refine WL.nil (thenQ.n ?_)
                      refine WC.ret (?_)
                      exact ⟨_, fun a ha => res1 rfl ha rfl, rfl, hS45.kb⟩
                    · refine WL.lv rfl (LV.as (LV.ltF (a := a) (b := 18318360957983683996) rfl rfl) (decide_eq_false hg28)) ?_
                      refine WL.lv rfl (LV.pickF rfl rfl) ?_
                      refine WL.lv rfl (LV.asg rfl) ?_
                      refine WL.nil (thenQ.n ?_)
                      refine WC.seq ?_
                      refine WC.region ?_
                      refine WL.call rfl (XC.fn Try.func11 (by kernel_rfl) rfl rfl rfl) (live22_calls  ) ?_
                      rintro v_ w44 ⟨rfl, hk42⟩
                      have hS46 := SH.same hS43 hk42
                      iterate 5 refine WL.lv rfl (LV.mv rfl) ?_
                      rcases Decidable.em (¬ (((-9218868437227405312 ≤ sk a ∧ sk a ≤ 9218868437227405312) ∧ (-9218868437227405312 ≤ sk a ∧ sk a ≤ 9218868437227405312)) ∧ sk a = sk a)) with hg29 | hg29
                      · refine WL.lv rfl (LV.as (LV.neF (a := a) (b := a) rfl rfl) (decide_eq_true hg29)) ?_
                        refine WL.lv rfl (LV.pickF rfl rfl) ?_
                        refine WL.lv rfl (LV.mv rfl) ?_
                        iterate 3 refine WL.off rfl ?_
                        refine WL.lv rfl (LV.pickT rfl rfl) ?_
                        refine WL.lv rfl (LV.mv rfl) ?_
                        iterate 8 refine WL.off rfl ?_
                        iterate 2 refine WL.lv rfl (LV.pickT rfl rfl) ?_
                        refine WL.lv rfl (LV.asg rfl) ?_
                        refine WL.nil (thenQ.n ?_)
                        refine WC.ret (?_)
                        exact ⟨_, fun a ha => res1 rfl ha rfl, rfl, hS46.kb⟩
                      · refine WL.lv rfl (LV.as (LV.neF (a := a) (b := a) rfl rfl) (decide_eq_false hg29)) ?_
                        refine WL.lv rfl (LV.pickF rfl rfl) ?_
                        iterate 3 refine WL.lv rfl (LV.mv rfl) ?_
                        refine WL.lv rfl (LV.as (LV.eqF (a := r8) (b := a) rfl rfl) (decide_eq_true (by omega))) ?_
                        refine WL.lv rfl (LV.pickF rfl rfl) ?_
                        refine WL.lv rfl (LV.mv rfl) ?_
                        iterate 8 refine WL.off rfl ?_
                        iterate 2 refine WL.lv rfl (LV.pickT rfl rfl) ?_
                        refine WL.lv rfl (LV.asg rfl) ?_
                        refine WL.nil (thenQ.n ?_)
                        refine WC.ret (?_)
                        exact ⟨_, fun a ha => res1 rfl ha rfl, rfl, hS46.kb⟩
              · refine WL.lv rfl (LV.as (LV.ltI rfl rfl) (decide_eq_false hg26)) ?_
                iterate 4 refine WL.lv rfl (LV.mv rfl) ?_
                refine WL.lv rfl (LV.lenL Try.underlying29 rfl) ?_
                refine WL.lv rfl (LV.sub rfl rfl (wr64 (by omega) (by omega))) ?_
                obtain ⟨A6, c6, e4, g4⟩ := St.elt (SH.rd hS41 (.head _)) 0 (((l.take 60).length : Int) - 1) (by omega) (by omega)
                refine WL.lv rfl (LV.idxA Try.underlying29 ti22.sz rfl e4 rfl (by omega) (by omega)) ?_
                refine WL.lv rfl (LV.load1 (v := (.float .f64 (ys2.getD (((l.take 60).length : Int) - 1).toNat 0))) Try.underlying22 rfl rfl (g4 _ (KB.refl No _) 0 _ rfl)) ?_
                refine WL.call rfl (XC.fn Try.func14 (by kernel_rfl) rfl rfl rfl) (order_calls (a := r7) (b := (ys2.getD (((l.take 60).length : Int) - 1).toNat 0)) (by first | assumption | omega | exact hp _ (getD_mem (by omega)) | exact hpz _ (getD_mem (by omega))) (by first | assumption | omega | exact hp _ (getD_mem (by omega)) | exact hpz _ (getD_mem (by omega)))) ?_
                rintro v_ w45 ⟨rfl, hk43⟩
                have hS47 := SH.same hS41 hk43
                have ho2_ := ord_is' r7 (ys2.getD (((l.take 60).length : Int) - 1).toNat 0)
                rcases Decidable.em ((ORD r7 (ys2.getD (((l.take 60).length : Int) - 1).toNat 0)) > 0) with hg30 | hg30
                · refine WL.lv rfl (LV.as (LV.gtI rfl rfl) (decide_eq_true hg30)) ?_
                  refine WL.lv rfl (LV.pickF rfl rfl) ?_
                  refine WL.lv rfl (LV.pickT rfl rfl) ?_
                  iterate 2 refine WL.lv rfl (LV.mv rfl) ?_
                  refine WL.lv rfl (LV.lenL Try.underlying29 rfl) ?_
                  refine WL.lv rfl (LV.rem rfl rfl (by decide) (rem64 (by omega) rfl)) ?_
                  refine WL.lv rfl (LV.eqI rfl rfl) ?_
                  refine WL.lv rfl (LV.pickT rfl rfl) ?_
                  refine WL.nil (thenQ.n ?_)
                  refine WC.condP (p := (((l.take 60).length : Int) % 2) = 1) rfl (fun hc8 => ?_) (fun hc8 => ?_)
                  · skip
                    refine WC.seq ?_
                    refine WC.region ?_
                    refine WL.lv rfl (LV.asg rfl) ?_
                    refine WL.nil (thenQ.n ?_)
                    refine WC.ret (thenQ.r <| ?_)
                    exact ⟨_, fun a ha => res1 rfl ha rfl, (by exfalso; omega), hS47.kb⟩
                  · skip
                    refine WC.skip (thenQ.n ?_)
                    refine WC.seq ?_
                    refine WC.region ?_
                    refine WL.lv rfl (LV.asg rfl) ?_
                    refine WL.nil (thenQ.n ?_)
                    refine WC.seq ?_
                    refine WC.region ?_
                    iterate 2 refine WL.lv rfl (LV.mv rfl) ?_
                    refine WL.xe rfl (XE.buildSlice (E := eF) [(0, (.float .f64 a)), (1, (.float .f64 a))] #[(.float .f64 a), (.float .f64 a)] [a, a] hS47 Try.underlying29 ti22 rfl (by decide) (by kernel_rfl) (.inr rfl) rfl rfl (by decide)) ?_
                    rintro _ w46 ⟨b7, rfl, hS48, hk44⟩
                    refine WL.call rfl (XC.fn Try.func28 (by kernel_rfl) rfl rfl rfl) (mean_calls  (SH.rd hS48 (.head _)) rfl ) ?_
                    rintro v_ w47 ⟨r9, rfl, hf17, hf18, hk45⟩
                    have hS49 := SH.same hS48 hk45
                    have hme_ := fun h1_ h2_ => mean2 ha h1_ h2_ hf17
                    have hxw_ := hf18
                    refine WL.lv rfl (LV.asg rfl) ?_
                    refine WL.nil (thenQ.n ?_)
                    refine WC.seq ?_
                    refine WC.region ?_
                    refine WL.lv rfl (LV.mv rfl) ?_
                    have hsk_9094988921128908188 : sk 9094988921128908188 = (9094988921128908188 : Int) := by decide +kernel
                    rcases Decidable.em (((-9218868437227405312 ≤ sk a ∧ sk a ≤ 9218868437227405312) ∧ (-9218868437227405312 ≤ (9094988921128908188 : Int) ∧ (9094988921128908188 : Int) ≤ 9218868437227405312)) ∧ sk a > (9094988921128908188 : Int)) with hg31 | hg31
                    · refine WL.lv rfl (LV.as (LV.gtF (a := a) (b := 9094988921128908188) rfl rfl) (decide_eq_true hg31)) ?_
                      refine WL.lv rfl (LV.mv rfl) ?_
                      iterate 2 refine WL.off rfl ?_
                      refine WL.lv rfl (LV.pickT rfl rfl) ?_
                      refine WL.lv rfl (LV.asg rfl) ?_
                      refine WL.nil (thenQ.n ?_)
                      refine WC.seq ?_
                      refine WC.region ?_
                      refine WL.call rfl (XC.fn Try.func11 (by kernel_rfl) rfl rfl rfl) (live22_calls  ) ?_
                      rintro v_ w48 ⟨rfl, hk46⟩
                      have hS50 := SH.same hS49 hk46
                      iterate 3 refine WL.lv rfl (LV.mv rfl) ?_
                      iterate 3 refine WL.off rfl ?_
                      refine WL.lv rfl (LV.pickT rfl rfl) ?_
                      refine WL.lv rfl (LV.mv rfl) ?_
                      iterate 3 refine WL.off rfl ?_
                      refine WL.lv rfl (LV.pickT rfl rfl) ?_
                      refine WL.lv rfl (LV.mv rfl) ?_
                      iterate 8 refine WL.off rfl ?_
                      iterate 2 refine WL.lv rfl (LV.pickT rfl rfl) ?_
                      refine WL.lv rfl (LV.asg rfl) ?_
                      refine WL.nil (thenQ.n ?_)
                      refine WC.ret (?_)
                      exact ⟨_, fun a ha => res1 rfl ha rfl, rfl, hS50.kb⟩
                    · refine WL.lv rfl (LV.as (LV.gtF (a := a) (b := 9094988921128908188) rfl rfl) (decide_eq_false hg31)) ?_
                      iterate 2 refine WL.lv rfl (LV.mv rfl) ?_
                      have hsk_18318360957983683996 : sk 18318360957983683996 = (-9094988921128908188 : Int) := by decide +kernel
                      rcases Decidable.em (((-9218868437227405312 ≤ sk a ∧ sk a ≤ 9218868437227405312) ∧ (-9218868437227405312 ≤ (-9094988921128908188 : Int) ∧ (-9094988921128908188 : Int) ≤ 9218868437227405312)) ∧ sk a < (-9094988921128908188 : Int)) with hg32 | hg32
                      · refine WL.lv rfl (LV.as (LV.ltF (a := a) (b := 18318360957983683996) rfl rfl) (decide_eq_true hg32)) ?_
                        refine WL.lv rfl (LV.pickF rfl rfl) ?_
                        refine WL.lv rfl (LV.asg rfl) ?_
                        refine WL.nil (thenQ.n ?_)
                        refine WC.seq ?_
                        refine WC.region ?_
                        refine WL.call rfl (XC.fn Try.func11 (by kernel_rfl) rfl rfl rfl) (live22_calls  ) ?_
                        rintro v_ w49 ⟨rfl, hk47⟩
                        have hS51 := SH.same hS49 hk47
                        iterate 3 refine WL.lv rfl (LV.mv rfl) ?_
                        iterate 3 refine WL.off rfl ?_
                        refine WL.lv rfl (LV.pickT rfl rfl) ?_
                        refine WL.lv rfl (LV.mv rfl) ?_
                        iterate 3 refine WL.off rfl ?_
                        refine WL.lv rfl (LV.pickT rfl rfl) ?_
                        refine WL.lv rfl (LV.mv rfl) ?_
                        iterate 8 refine WL.off rfl ?_
                        iterate 2 refine WL.lv rfl (LV.pickT rfl rfl) ?_
                        refine WL.lv rfl (LV.asg rfl) ?_
                        refine WL.nil (thenQ.n ?_)
                        refine WC.ret (?_)
                        exact ⟨_, fun a ha => res1 rfl ha rfl, rfl, hS51.kb⟩
                      · refine WL.lv rfl (LV.as (LV.ltF (a := a) (b := 18318360957983683996) rfl rfl) (decide_eq_false hg32)) ?_
                        refine WL.lv rfl (LV.pickF rfl rfl) ?_
                        refine WL.lv rfl (LV.asg rfl) ?_
                        refine WL.nil (thenQ.n ?_)
                        refine WC.seq ?_
                        refine WC.region ?_
                        refine WL.call rfl (XC.fn Try.func11 (by kernel_rfl) rfl rfl rfl) (live22_calls  ) ?_
                        rintro v_ w50 ⟨rfl, hk48⟩
                        have hS52 := SH.same hS49 hk48
                        iterate 5 refine WL.lv rfl (LV.mv rfl) ?_
                        rcases Decidable.em (¬ (((-9218868437227405312 ≤ sk a ∧ sk a ≤ 9218868437227405312) ∧ (-9218868437227405312 ≤ sk a ∧ sk a ≤ 9218868437227405312)) ∧ sk a = sk a)) with hg33 | hg33
                        · refine WL.lv rfl (LV.as (LV.neF (a := a) (b := a) rfl rfl) (decide_eq_true hg33)) ?_
                          refine WL.lv rfl (LV.pickF rfl rfl) ?_
                          refine WL.lv rfl (LV.mv rfl) ?_
                          iterate 3 refine WL.off rfl ?_
                          refine WL.lv rfl (LV.pickT rfl rfl) ?_
                          refine WL.lv rfl (LV.mv rfl) ?_
                          iterate 8 refine WL.off rfl ?_
                          iterate 2 refine WL.lv rfl (LV.pickT rfl rfl) ?_
                          refine WL.lv rfl (LV.asg rfl) ?_
                          refine WL.nil (thenQ.n ?_)
                          refine WC.ret (?_)
                          exact ⟨_, fun a ha => res1 rfl ha rfl, rfl, hS52.kb⟩
                        · refine WL.lv rfl (LV.as (LV.neF (a := a) (b := a) rfl rfl) (decide_eq_false hg33)) ?_
                          refine WL.lv rfl (LV.pickF rfl rfl) ?_
                          iterate 3 refine WL.lv rfl (LV.mv rfl) ?_
                          refine WL.lv rfl (LV.as (LV.eqF (a := r9) (b := a) rfl rfl) (decide_eq_true (by omega))) ?_
                          refine WL.lv rfl (LV.pickF rfl rfl) ?_
                          refine WL.lv rfl (LV.mv rfl) ?_
                          iterate 8 refine WL.off rfl ?_
                          iterate 2 refine WL.lv rfl (LV.pickT rfl rfl) ?_
                          refine WL.lv rfl (LV.asg rfl) ?_
                          refine WL.nil (thenQ.n ?_)
                          refine WC.ret (?_)
                          exact ⟨_, fun a ha => res1 rfl ha rfl, rfl, hS52.kb⟩
                · refine WL.lv rfl (LV.as (LV.gtI rfl rfl) (decide_eq_false hg30)) ?_
                  refine WL.lv rfl (LV.pickF rfl rfl) ?_
                  refine WL.lv rfl (LV.pickT rfl rfl) ?_
                  refine WL.lv rfl (LV.mv rfl) ?_
                  iterate 4 refine WL.off rfl ?_
                  refine WL.lv rfl (LV.pickF rfl rfl) ?_
                  refine WL.nil (thenQ.n ?_)
                  refine WC.condF rfl ?_
                  refine WC.skip (thenQ.n ?_)
                  refine WC.seq ?_
                  refine WC.region ?_
                  refine WL.lv rfl (LV.asg rfl) ?_
                  refine WL.nil (thenQ.n ?_)
                  refine WC.seq ?_
                  refine WC.region ?_
                  iterate 2 refine WL.lv rfl (LV.mv rfl) ?_
                  refine WL.xe rfl (XE.buildSlice (E := eF) [(0, (.float .f64 a)), (1, (.float .f64 a))] #[(.float .f64 a), (.float .f64 a)] [a, a] hS47 Try.underlying29 ti22 rfl (by decide) (by kernel_rfl) (.inr rfl) rfl rfl (by decide)) ?_
                  rintro _ w51 ⟨b8, rfl, hS53, hk49⟩
                  refine WL.call rfl (XC.fn Try.func28 (by kernel_rfl) rfl rfl rfl) (mean_calls  (SH.rd hS53 (.head _)) rfl ) ?_
                  rintro v_ w52 ⟨r10, rfl, hf19, hf20, hk50⟩
                  have hS54 := SH.same hS53 hk50
                  have hme_ := fun h1_ h2_ => mean2 ha h1_ h2_ hf19
                  have hxw_ := hf20
                  refine WL.lv rfl (LV.asg rfl) ?_
                  refine WL.nil (thenQ.n ?_)
                  refine WC.seq ?_
                  refine WC.region ?_
                  refine WL.lv rfl (LV.mv rfl) ?_
                  have hsk_9094988921128908188 : sk 9094988921128908188 = (9094988921128908188 : Int) := by decide +kernel
                  rcases Decidable.em (((-9218868437227405312 ≤ sk a ∧ sk a ≤ 9218868437227405312) ∧ (-9218868437227405312 ≤ (9094988921128908188 : Int) ∧ (9094988921128908188 : Int) ≤ 9218868437227405312)) ∧ sk a > (9094988921128908188 : Int)) with hg34 | hg34
                  · refine WL.lv rfl (LV.as (LV.gtF (a := a) (b := 9094988921128908188) rfl rfl) (decide_eq_true hg34)) ?_
                    refine WL.lv rfl (LV.mv rfl) ?_
                    iterate 2 refine WL.off rfl ?_
                    refine WL.lv rfl (LV.pickT rfl rfl) ?_
                    refine WL.lv rfl (LV.asg rfl) ?_
                    refine WL.nil (thenQ.n ?_)
                    refine WC.seq ?_
                    refine WC.region ?_
                    refine WL.call rfl (XC.fn Try.func11 (by kernel_rfl) rfl rfl rfl) (live22_calls  ) ?_
                    rintro v_ w53 ⟨rfl, hk51⟩
                    have hS55 := SH.same hS54 hk51
                    iterate 3 refine WL.lv rfl (LV.mv rfl) ?_
                    iterate 3 refine WL.off rfl ?_
                    refine WL.lv rfl (LV.pickT rfl rfl) ?_
                    refine WL.lv rfl (LV.mv rfl) ?_
                    iterate 3 refine WL.off rfl ?_
                    refine WL.lv rfl (LV.pickT rfl rfl) ?_
                    refine WL.lv rfl (LV.mv rfl) ?_
                    iterate 8 refine WL.off rfl ?_
                    iterate 2 refine WL.lv rfl (LV.pickT rfl rfl) ?_
                    refine WL.lv rfl (LV.asg rfl) ?_
                    refine WL.nil (thenQ.n ?_)
                    refine WC.ret (?_)
                    exact ⟨_, fun a ha => res1 rfl ha rfl, rfl, hS55.kb⟩
                  · refine WL.lv rfl (LV.as (LV.gtF (a := a) (b := 9094988921128908188) rfl rfl) (decide_eq_false hg34)) ?_
                    iterate 2 refine WL.lv rfl (LV.mv rfl) ?_
                    have hsk_18318360957983683996 : sk 18318360957983683996 = (-9094988921128908188 : Int) := by decide +kernel
                    rcases Decidable.em (((-9218868437227405312 ≤ sk a ∧ sk a ≤ 9218868437227405312) ∧ (-9218868437227405312 ≤ (-9094988921128908188 : Int) ∧ (-9094988921128908188 : Int) ≤ 9218868437227405312)) ∧ sk a < (-9094988921128908188 : Int)) with hg35 | hg35
                    · refine WL.lv rfl (LV.as (LV.ltF (a := a) (b := 18318360957983683996) rfl rfl) (decide_eq_true hg35)) ?_
                      refine WL.lv rfl (LV.pickF rfl rfl) ?_
                      refine WL.lv rfl (LV.asg rfl) ?_
                      refine WL.nil (thenQ.n ?_)
                      refine WC.seq ?_
                      refine WC.region ?_
                      refine WL.call rfl (XC.fn Try.func11 (by kernel_rfl) rfl rfl rfl) (live22_calls  ) ?_
                      rintro v_ w54 ⟨rfl, hk52⟩
                      have hS56 := SH.same hS54 hk52
                      iterate 3 refine WL.lv rfl (LV.mv rfl) ?_
                      iterate 3 refine WL.off rfl ?_
                      refine WL.lv rfl (LV.pickT rfl rfl) ?_
                      refine WL.lv rfl (LV.mv rfl) ?_
                      iterate 3 refine WL.off rfl ?_
                      refine WL.lv rfl (LV.pickT rfl rfl) ?_
                      refine WL.lv rfl (LV.mv rfl) ?_
                      iterate 8 refine WL.off rfl ?_
                      iterate 2 refine WL.lv rfl (LV.pickT rfl rfl) ?_
                      refine WL.lv rfl (LV.asg rfl) ?_
                      refine WL.nil (thenQ.n ?_)
                      refine WC.ret (?_)
                      exact ⟨_, fun a ha => res1 rfl ha rfl, rfl, hS56.kb⟩
                    · refine WL.lv rfl (LV.as (LV.ltF (a := a) (b := 18318360957983683996) rfl rfl) (decide_eq_false hg35)) ?_
                      refine WL.lv rfl (LV.pickF rfl rfl) ?_
                      refine WL.lv rfl (LV.asg rfl) ?_
                      refine WL.nil (thenQ.n ?_)
                      refine WC.seq ?_
                      refine WC.region ?_
                      refine WL.call rfl (XC.fn Try.func11 (by kernel_rfl) rfl rfl rfl) (live22_calls  ) ?_
                      rintro v_ w55 ⟨rfl, hk53⟩
                      have hS57 := SH.same hS54 hk53
                      iterate 5 refine WL.lv rfl (LV.mv rfl) ?_
                      rcases Decidable.em (¬ (((-9218868437227405312 ≤ sk a ∧ sk a ≤ 9218868437227405312) ∧ (-9218868437227405312 ≤ sk a ∧ sk a ≤ 9218868437227405312)) ∧ sk a = sk a)) with hg36 | hg36
                      · refine WL.lv rfl (LV.as (LV.neF (a := a) (b := a) rfl rfl) (decide_eq_true hg36)) ?_
                        refine WL.lv rfl (LV.pickF rfl rfl) ?_
                        refine WL.lv rfl (LV.mv rfl) ?_
                        iterate 3 refine WL.off rfl ?_
                        refine WL.lv rfl (LV.pickT rfl rfl) ?_
                        refine WL.lv rfl (LV.mv rfl) ?_
                        iterate 8 refine WL.off rfl ?_
                        iterate 2 refine WL.lv rfl (LV.pickT rfl rfl) ?_
                        refine WL.lv rfl (LV.asg rfl) ?_
                        refine WL.nil (thenQ.n ?_)
                        refine WC.ret (?_)
                        exact ⟨_, fun a ha => res1 rfl ha rfl, rfl, hS57.kb⟩
                      · refine WL.lv rfl (LV.as (LV.neF (a := a) (b := a) rfl rfl) (decide_eq_false hg36)) ?_
                        refine WL.lv rfl (LV.pickF rfl rfl) ?_
                        iterate 3 refine WL.lv rfl (LV.mv rfl) ?_
                        refine WL.lv rfl (LV.as (LV.eqF (a := r10) (b := a) rfl rfl) (decide_eq_true (by omega))) ?_
                        refine WL.lv rfl (LV.pickF rfl rfl) ?_
                        refine WL.lv rfl (LV.mv rfl) ?_
                        iterate 8 refine WL.off rfl ?_
                        iterate 2 refine WL.lv rfl (LV.pickT rfl rfl) ?_
                        refine WL.lv rfl (LV.asg rfl) ?_
                        refine WL.nil (thenQ.n ?_)
                        refine WC.ret (?_)
                        exact ⟨_, fun a ha => res1 rfl ha rfl, rfl, hS57.kb⟩
            · refine WL.lv rfl (LV.as (LV.eqF (a := r7) (b := r7) rfl rfl) (decide_eq_false hg25)) ?_
              refine WL.lv rfl (LV.pickT rfl rfl) ?_
              refine WL.lv rfl (LV.mv rfl) ?_
              iterate 17 refine WL.off rfl ?_
              refine WL.lv rfl (LV.pickF rfl rfl) ?_
              refine WL.lv rfl (LV.mv rfl) ?_
              iterate 4 refine WL.off rfl ?_
              refine WL.lv rfl (LV.pickF rfl rfl) ?_
              refine WL.nil (thenQ.n ?_)
              refine WC.condF rfl ?_
              refine WC.skip (thenQ.n ?_)
              refine WC.seq ?_
              refine WC.region ?_
              refine WL.lv rfl (LV.asg rfl) ?_
              refine WL.nil (thenQ.n ?_)
              refine WC.seq ?_
              refine WC.region ?_
              iterate 2 refine WL.lv rfl (LV.mv rfl) ?_
              refine WL.xe rfl (XE.buildSlice (E := eF) [(0, (.float .f64 a)), (1, (.float .f64 a))] #[(.float .f64 a), (.float .f64 a)] [a, a] hS40 Try.underlying29 ti22 rfl (by decide) (by kernel_rfl) (.inr rfl) rfl rfl (by decide)) ?_
              rintro _ w56 ⟨b9, rfl, hS58, hk54⟩
              refine WL.call rfl (XC.fn Try.func28 (by kernel_rfl) rfl rfl rfl) (mean_calls  (SH.rd hS58 (.head _)) rfl ) ?_
              rintro v_ w57 ⟨r11, rfl, hf21, hf22, hk55⟩
              have hS59 := SH.same hS58 hk55
              have hme_ := fun h1_ h2_ => mean2 ha h1_ h2_ hf21
              have hxw_ := hf22
              refine WL.lv rfl (LV.asg rfl) ?_
              refine WL.nil (thenQ.n ?_)
              refine WC.seq ?_
              refine WC.region ?_
              refine WL.lv rfl (LV.mv rfl) ?_
              have hsk_9094988921128908188 : sk 9094988921128908188 = (9094988921128908188 : Int) := by decide +kernel
              rcases Decidable.em (((-9218868437227405312 ≤ sk a ∧ sk a ≤ 9218868437227405312) ∧ (-9218868437227405312 ≤ (9094988921128908188 : Int) ∧ (9094988921128908188 : Int) ≤ 9218868437227405312)) ∧ sk a > (9094988921128908188 : Int)) with hg37 | hg37
              · refine WL.lv rfl (LV.as (LV.gtF (a := a) (b := 9094988921128908188) rfl rfl) (decide_eq_true hg37)) ?_
                refine WL.lv rfl (LV.mv rfl) ?_
                iterate 2 refine WL.off rfl ?_
                refine WL.lv rfl (LV.pickT rfl rfl) ?_
                refine WL.lv rfl (LV.asg rfl) ?_
                refine WL.nil (thenQ.n ?_)
                refine WC.seq ?_
                refine WC.region ?_
                refine WL.call rfl (XC.fn Try.func11 (by kernel_rfl) rfl rfl rfl) (live22_calls  ) ?_
                rintro v_ w58 ⟨rfl, hk56⟩
                have hS60 := SH.same hS59 hk56
                iterate 3 refine WL.lv rfl (LV.mv rfl) ?_
                iterate 3 refine WL.off rfl ?_
                refine WL.lv rfl (LV.pickT rfl rfl) ?_
                refine WL.lv rfl (LV.mv rfl) ?_
                iterate 3 refine WL.off rfl ?_
                refine WL.lv rfl (LV.pickT rfl rfl) ?_
                refine WL.lv rfl (LV.mv rfl) ?_
                iterate 8 refine WL.off rfl ?_
                iterate 2 refine WL.lv rfl (LV.pickT rfl rfl) ?_
                refine WL.lv rfl (LV.asg rfl) ?_
                refine WL.nil (thenQ.n ?_)
                refine WC.ret (?_)
                exact ⟨_, fun a ha => res1 rfl ha rfl, rfl, hS60.kb⟩
              · refine WL.lv rfl (LV.as (LV.gtF (a := a) (b := 9094988921128908188) rfl rfl) (decide_eq_false hg37)) ?_
                iterate 2 refine WL.lv rfl (LV.mv rfl) ?_
                have hsk_18318360957983683996 : sk 18318360957983683996 = (-9094988921128908188 : Int) := by decide +kernel
                rcases Decidable.em (((-9218868437227405312 ≤ sk a ∧ sk a ≤ 9218868437227405312) ∧ (-9218868437227405312 ≤ (-9094988921128908188 : Int) ∧ (-9094988921128908188 : Int) ≤ 9218868437227405312)) ∧ sk a < (-9094988921128908188 : Int)) with hg38 | hg38
                · refine WL.lv rfl (LV.as (LV.ltF (a := a) (b := 18318360957983683996) rfl rfl) (decide_eq_true hg38)) ?_
                  refine WL.lv rfl (LV.pickF rfl rfl) ?_
                  refine WL.lv rfl (LV.asg rfl) ?_
                  refine WL.nil (thenQ.n ?_)
                  refine WC.seq ?_
                  refine WC.region ?_
                  refine WL.call rfl (XC.fn Try.func11 (by kernel_rfl) rfl rfl rfl) (live22_calls  ) ?_
                  rintro v_ w59 ⟨rfl, hk57⟩
                  have hS61 := SH.same hS59 hk57
                  iterate 3 refine WL.lv rfl (LV.mv rfl) ?_
                  iterate 3 refine WL.off rfl ?_
                  refine WL.lv rfl (LV.pickT rfl rfl) ?_
                  refine WL.lv rfl (LV.mv rfl) ?_
                  iterate 3 refine WL.off rfl ?_
                  refine WL.lv rfl (LV.pickT rfl rfl) ?_
                  refine WL.lv rfl (LV.mv rfl) ?_
                  iterate 8 refine WL.off rfl ?_
                  iterate 2 refine WL.lv rfl (LV.pickT rfl rfl) ?_
                  refine WL.lv rfl (LV.asg rfl) ?_
                  refine WL.nil (thenQ.n ?_)
                  refine WC.ret (?_)
                  exact ⟨_, fun a ha => res1 rfl ha rfl, rfl, hS61.kb⟩
                · refine WL.lv rfl (LV.as (LV.ltF (a := a) (b := 18318360957983683996) rfl rfl) (decide_eq_false hg38)) ?_
                  refine WL.lv rfl (LV.pickF rfl rfl) ?_
                  refine WL.lv rfl (LV.asg rfl) ?_
                  refine WL.nil (thenQ.n ?_)
                  refine WC.seq ?_
                  refine WC.region ?_
                  refine WL.call rfl (XC.fn Try.func11 (by kernel_rfl) rfl rfl rfl) (live22_calls  ) ?_
                  rintro v_ w60 ⟨rfl, hk58⟩
                  have hS62 := SH.same hS59 hk58
                  iterate 5 refine WL.lv rfl (LV.mv rfl) ?_
                  rcases Decidable.em (¬ (((-9218868437227405312 ≤ sk a ∧ sk a ≤ 9218868437227405312) ∧ (-9218868437227405312 ≤ sk a ∧ sk a ≤ 9218868437227405312)) ∧ sk a = sk a)) with hg39 | hg39
                  · refine WL.lv rfl (LV.as (LV.neF (a := a) (b := a) rfl rfl) (decide_eq_true hg39)) ?_
                    refine WL.lv rfl (LV.pickF rfl rfl) ?_
                    refine WL.lv rfl (LV.mv rfl) ?_
                    iterate 3 refine WL.off rfl ?_
                    refine WL.lv rfl (LV.pickT rfl rfl) ?_
                    refine WL.lv rfl (LV.mv rfl) ?_
                    iterate 8 refine WL.off rfl ?_
                    iterate 2 refine WL.lv rfl (LV.pickT rfl rfl) ?_
                    refine WL.lv rfl (LV.asg rfl) ?_
                    refine WL.nil (thenQ.n ?_)
                    refine WC.ret (?_)
                    exact ⟨_, fun a ha => res1 rfl ha rfl, rfl, hS62.kb⟩
                  · refine WL.lv rfl (LV.as (LV.neF (a := a) (b := a) rfl rfl) (decide_eq_false hg39)) ?_
                    refine WL.lv rfl (LV.pickF rfl rfl) ?_
                    iterate 3 refine WL.lv rfl (LV.mv rfl) ?_
                    refine WL.lv rfl (LV.as (LV.eqF (a := r11) (b := a) rfl rfl) (decide_eq_true (by omega))) ?_
                    refine WL.lv rfl (LV.pickF rfl rfl) ?_
                    refine WL.lv rfl (LV.mv rfl) ?_
                    iterate 8 refine WL.off rfl ?_
                    iterate 2 refine WL.lv rfl (LV.pickT rfl rfl) ?_
                    refine WL.lv rfl (LV.asg rfl) ?_
                    refine WL.nil (thenQ.n ?_)
                    refine WC.ret (?_)
                    exact ⟨_, fun a ha => res1 rfl ha rfl, rfl, hS62.kb⟩
          · refine WL.lv rfl (LV.as (LV.gtI rfl rfl) (decide_eq_false hg24)) ?_
            refine WL.lv rfl (LV.mv rfl) ?_
            iterate 3 refine WL.off rfl ?_
            refine WL.lv rfl (LV.pickF rfl rfl) ?_
            refine WL.lv rfl (LV.mv rfl) ?_
            iterate 17 refine WL.off rfl ?_
            refine WL.lv rfl (LV.pickF rfl rfl) ?_
            refine WL.lv rfl (LV.mv rfl) ?_
            iterate 4 refine WL.off rfl ?_
            refine WL.lv rfl (LV.pickF rfl rfl) ?_
            refine WL.nil (thenQ.n ?_)
            refine WC.condF rfl ?_
            refine WC.skip (thenQ.n ?_)
            refine WC.seq ?_
            refine WC.region ?_
            refine WL.lv rfl (LV.asg rfl) ?_
            refine WL.nil (thenQ.n ?_)
            refine WC.seq ?_
            refine WC.region ?_
            iterate 2 refine WL.lv rfl (LV.mv rfl) ?_
            refine WL.xe rfl (XE.buildSlice (E := eF) [(0, (.float .f64 a)), (1, (.float .f64 a))] #[(.float .f64 a), (.float .f64 a)] [a, a] hS40 Try.underlying29 ti22 rfl (by decide) (by kernel_rfl) (.inr rfl) rfl rfl (by decide)) ?_
            rintro _ w61 ⟨b10, rfl, hS63, hk59⟩
            refine WL.call rfl (XC.fn Try.func28 (by kernel_rfl) rfl rfl rfl) (mean_calls  (SH.rd hS63 (.head _)) rfl ) ?_
            rintro v_ w62 ⟨r12, rfl, hf23, hf24, hk60⟩
            have hS64 := SH.same hS63 hk60
            have hme_ := fun h1_ h2_ => mean2 ha h1_ h2_ hf23
            have hxw_ := hf24
            refine WL.lv rfl (LV.asg rfl) ?_
            refine WL.nil (thenQ.n ?_)
            refine WC.seq ?_
            refine WC.region ?_
            refine WL.lv rfl (LV.mv rfl) ?_
            have hsk_9094988921128908188 : sk 9094988921128908188 = (9094988921128908188 : Int) := by decide +kernel
            rcases Decidable.em (((-9218868437227405312 ≤ sk a ∧ sk a ≤ 9218868437227405312) ∧ (-9218868437227405312 ≤ (9094988921128908188 : Int) ∧ (9094988921128908188 : Int) ≤ 9218868437227405312)) ∧ sk a > (9094988921128908188 : Int)) with hg40 | hg40
            · refine WL.lv rfl (LV.as (LV.gtF (a := a) (b := 9094988921128908188) rfl rfl) (decide_eq_true hg40)) ?_
              refine WL.lv rfl (LV.mv rfl) ?_
              iterate 2 refine WL.off rfl ?_
              refine WL.lv rfl (LV.pickT rfl rfl) ?_
              refine WL.lv rfl (LV.asg rfl) ?_
              refine WL.nil (thenQ.n ?_)
              refine WC.seq ?_
              refine WC.region ?_
              refine WL.call rfl (XC.fn Try.func11 (by kernel_rfl) rfl rfl rfl) (live22_calls  ) ?_
              rintro v_ w63 ⟨rfl, hk61⟩
              have hS65 := SH.same hS64 hk61
              iterate 3 refine WL.lv rfl (LV.mv rfl) ?_
              iterate 3 refine WL.off rfl ?_
              refine WL.lv rfl (LV.pickT rfl rfl) ?_
              refine WL.lv rfl (LV.mv rfl) ?_
              iterate 3 refine WL.off rfl ?_
              refine WL.lv rfl (LV.pickT rfl rfl) ?_
              refine WL.lv rfl (LV.mv rfl) ?_
              iterate 8 refine WL.off rfl ?_
              iterate 2 refine WL.lv rfl (LV.pickT rfl rfl) ?_
              refine WL.lv rfl (LV.asg rfl) ?_
              refine WL.nil (thenQ.n ?_)
              refine WC.ret (?_)
              exact ⟨_, fun a ha => res1 rfl ha rfl, rfl, hS65.kb⟩
            · refine WL.lv rfl (LV.as (LV.gtF (a := a) (b := 9094988921128908188) rfl rfl) (decide_eq_false hg40)) ?_
              iterate 2 refine WL.lv rfl (LV.mv rfl) ?_
              have hsk_18318360957983683996 : sk 18318360957983683996 = (-9094988921128908188 : Int) := by decide +kernel
              rcases Decidable.em (((-9218868437227405312 ≤ sk a ∧ sk a ≤ 9218868437227405312) ∧ (-9218868437227405312 ≤ (-9094988921128908188 : Int) ∧ (-9094988921128908188 : Int) ≤ 9218868437227405312)) ∧ sk a < (-9094988921128908188 : Int)) with hg41 | hg41
              · refine WL.lv rfl (LV.as (LV.ltF (a := a) (b := 18318360957983683996) rfl rfl) (decide_eq_true hg41)) ?_
                refine WL.lv rfl (LV.pickF rfl rfl) ?_
                refine WL.lv rfl (LV.asg rfl) ?_
                refine WL.nil (thenQ.n ?_)
                refine WC.seq ?_
                refine WC.region ?_
                refine WL.call rfl (XC.fn Try.func11 (by kernel_rfl) rfl rfl rfl) (live22_calls  ) ?_
                rintro v_ w64 ⟨rfl, hk62⟩
                have hS66 := SH.same hS64 hk62
                iterate 3 refine WL.lv rfl (LV.mv rfl) ?_
                iterate 3 refine WL.off rfl ?_
                refine WL.lv rfl (LV.pickT rfl rfl) ?_
                refine WL.lv rfl (LV.mv rfl) ?_
                iterate 3 refine WL.off rfl ?_
                refine WL.lv rfl (LV.pickT rfl rfl) ?_
                refine WL.lv rfl (LV.mv rfl) ?_
                iterate 8 refine WL.off rfl ?_
                iterate 2 refine WL.lv rfl (LV.pickT rfl rfl) ?_
                refine WL.lv rfl (LV.asg rfl) ?_
                refine WL.nil (thenQ.n ?_)
                refine WC.ret (?_)
                exact ⟨_, fun a ha => res1 rfl ha rfl, rfl, hS66.kb⟩
              · refine WL.lv rfl (LV.as (LV.ltF (a := a) (b := 18318360957983683996) rfl rfl) (decide_eq_false hg41)) ?_
                refine WL.lv rfl (LV.pickF rfl rfl) ?_
                refine WL.lv rfl (LV.asg rfl) ?_
                refine WL.nil (thenQ.n ?_)
                refine WC.seq ?_
                refine WC.region ?_
                refine WL.call rfl (XC.fn Try.func11 (by kernel_rfl) rfl rfl rfl) (live22_calls  ) ?_
                rintro v_ w65 ⟨rfl, hk63⟩
                have hS67 := SH.same hS64 hk63
                iterate 5 refine WL.lv rfl (LV.mv rfl) ?_
                rcases Decidable.em (¬ (((-9218868437227405312 ≤ sk a ∧ sk a ≤ 9218868437227405312) ∧ (-9218868437227405312 ≤ sk a ∧ sk a ≤ 9218868437227405312)) ∧ sk a = sk a)) with hg42 | hg42
                · refine WL.lv rfl (LV.as (LV.neF (a := a) (b := a) rfl rfl) (decide_eq_true hg42)) ?_
                  refine WL.lv rfl (LV.pickF rfl rfl) ?_
                  refine WL.lv rfl (LV.mv rfl) ?_
                  iterate 3 refine WL.off rfl ?_
                  refine WL.lv rfl (LV.pickT rfl rfl) ?_
                  refine WL.lv rfl (LV.mv rfl) ?_
                  iterate 8 refine WL.off rfl ?_
                  iterate 2 refine WL.lv rfl (LV.pickT rfl rfl) ?_
                  refine WL.lv rfl (LV.asg rfl) ?_
                  refine WL.nil (thenQ.n ?_)
                  refine WC.ret (?_)
                  exact ⟨_, fun a ha => res1 rfl ha rfl, rfl, hS67.kb⟩
                · refine WL.lv rfl (LV.as (LV.neF (a := a) (b := a) rfl rfl) (decide_eq_false hg42)) ?_
                  refine WL.lv rfl (LV.pickF rfl rfl) ?_
                  iterate 3 refine WL.lv rfl (LV.mv rfl) ?_
                  refine WL.lv rfl (LV.as (LV.eqF (a := r12) (b := a) rfl rfl) (decide_eq_true (by omega))) ?_
                  refine WL.lv rfl (LV.pickF rfl rfl) ?_
                  refine WL.lv rfl (LV.mv rfl) ?_
                  iterate 8 refine WL.off rfl ?_
                  iterate 2 refine WL.lv rfl (LV.pickT rfl rfl) ?_
                  refine WL.lv rfl (LV.asg rfl) ?_
                  refine WL.nil (thenQ.n ?_)
                  refine WC.ret (?_)
                  exact ⟨_, fun a ha => res1 rfl ha rfl, rfl, hS67.kb⟩

end Go.Proofs.Ytlnnfcbndelcnaa
