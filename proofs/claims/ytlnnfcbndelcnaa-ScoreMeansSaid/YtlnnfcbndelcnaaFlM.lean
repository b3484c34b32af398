/- The law of bounds. -/
import Derived.Test.YtlnnfcbndelcnaaFlL
namespace Go.Proofs.Ytlnnfcbndelcnaa
open Go Go.Gv Go.RowKit Go.Flt Go.Shelf Go.Lib Go.Sort
set_option linter.unusedVariables false
set_option linter.unusedSimpArgs false

set_option maxHeartbeats 2000000 in
set_option maxRecDepth 100000 in
theorem scoreClamps_law {w : World} {x : Nat} {low : Nat} {high : Nat} (hx : x < 18446744073709551616) (hlow : low < 18446744073709551616) (hhigh : high < 18446744073709551616) :
    Calls Try.prog 6 #[(.float .f64 x), (.float .f64 low), (.float .f64 high)] w fun e w' => ∃ v, e = .returned v ∧ (fun v w' => v = .bool (decide (true)) ∧ KB No w w') v w' := by
  have hx_ := tk_is x
  have hl_ := tk_is low
  have hh_ := tk_is high
  have hc_ := clp_is x low high
  have hS : SH w No w [] := SH.nil _ _
  refine calls (l := litOf [(.float .f64 x), (.float .f64 low), (.float .f64 high)] 0) Try.func6 rfl (n := 46) rfl (Nat.le_of_ble_eq_true rfl) (lit_args _) ?_
  refine WC.seq ?_
  refine WC.region ?_
  refine WL.lv rfl (LV.asg rfl) ?_
  refine WL.nil (thenQ.n ?_)
  refine WC.seq ?_
  refine WC.region ?_
  iterate 3 refine WL.lv rfl (LV.mv rfl) ?_
  refine WL.call rfl (XC.fn Try.func22 (by kernel_rfl) rfl rfl rfl) (clamp_calls (x := x) (low := low) (high := high) (by first | assumption | omega | exact hp _ (getD_mem (by omega)) | exact hpz _ (getD_mem (by omega))) (by first | assumption | omega | exact hp _ (getD_mem (by omega)) | exact hpz _ (getD_mem (by omega))) (by first | assumption | omega | exact hp _ (getD_mem (by omega)) | exact hpz _ (getD_mem (by omega)))) ?_
  rintro v_ w1 ⟨r1, rfl, hf1, hf2, hk1⟩
  have hS1 := SH.same hS hk1
  have hy_ := tk_is r1
  have oy1_ := ord_is' low r1
  have oy2_ := ord_is' r1 high
  have hcy_ := clp_is r1 low high
  refine WL.lv rfl (LV.asg rfl) ?_
  refine WL.nil (thenQ.n ?_)
  refine WC.seq ?_
  refine WC.region ?_
  refine WL.call rfl (XC.fn Try.func11 (by kernel_rfl) rfl rfl rfl) (live22_calls  ) ?_
  rintro v_ w2 ⟨rfl, hk2⟩
  have hS2 := SH.same hS1 hk2
  iterate 5 refine WL.lv rfl (LV.mv rfl) ?_
  refine WL.call rfl (XC.fn Try.func23 (by kernel_rfl) rfl rfl rfl) (rclamp_calls (x := x) (low := low) (high := high) (by first | assumption | omega | exact hp _ (getD_mem (by omega)) | exact hpz _ (getD_mem (by omega))) (by first | assumption | omega | exact hp _ (getD_mem (by omega)) | exact hpz _ (getD_mem (by omega))) (by first | assumption | omega | exact hp _ (getD_mem (by omega)) | exact hpz _ (getD_mem (by omega)))) ?_
  rintro v_ w3 ⟨r2, rfl, hf3, hf4, hk3⟩
  have hS3 := SH.same hS2 hk3
  refine WL.call rfl (XC.fn Try.func12 (by kernel_rfl) rfl rfl rfl) (Calls.asB (fsame_calls (a := r1) (b := r2) (by first | assumption | omega | exact hp _ (getD_mem (by omega)) | exact hpz _ (getD_mem (by omega))) (by first | assumption | omega | exact hp _ (getD_mem (by omega)) | exact hpz _ (getD_mem (by omega)))) (decide_eq_true (by omega))) ?_
  rintro v_ w4 ⟨rfl, hk4⟩
  have hS4 := SH.same hS3 hk4
  refine WL.lv rfl (LV.pickT rfl rfl) ?_
  iterate 3 refine WL.lv rfl (LV.mv rfl) ?_
  rcases Decidable.em (¬ (((-9218868437227405312 ≤ sk r1 ∧ sk r1 ≤ 9218868437227405312) ∧ (-9218868437227405312 ≤ sk r1 ∧ sk r1 ≤ 9218868437227405312)) ∧ sk r1 = sk r1)) with hg1 | hg1
  · refine WL.lv rfl (LV.as (LV.neF (a := r1) (b := r1) rfl rfl) (decide_eq_true hg1)) ?_
    refine WL.lv rfl (LV.mv rfl) ?_
    iterate 18 refine WL.off rfl ?_
    iterate 2 refine WL.lv rfl (LV.pickT rfl rfl) ?_
    refine WL.lv rfl (LV.asg rfl) ?_
    refine WL.nil (thenQ.n ?_)
    refine WC.ret (?_)
    exact ⟨_, fun a ha => res1 rfl ha rfl, rfl, hS4.kb⟩
  · refine WL.lv rfl (LV.as (LV.neF (a := r1) (b := r1) rfl rfl) (decide_eq_false hg1)) ?_
    iterate 3 refine WL.lv rfl (LV.mv rfl) ?_
    refine WL.call rfl (XC.fn Try.func14 (by kernel_rfl) rfl rfl rfl) (order_calls (a := low) (b := r1) (by first | assumption | omega | exact hp _ (getD_mem (by omega)) | exact hpz _ (getD_mem (by omega))) (by first | assumption | omega | exact hp _ (getD_mem (by omega)) | exact hpz _ (getD_mem (by omega)))) ?_
    rintro v_ w5 ⟨rfl, hk5⟩
    have hS5 := SH.same hS4 hk5
    refine WL.lv rfl (LV.as (LV.leI rfl rfl) (decide_eq_true (by omega))) ?_
    iterate 3 refine WL.lv rfl (LV.mv rfl) ?_
    refine WL.call rfl (XC.fn Try.func14 (by kernel_rfl) rfl rfl rfl) (order_calls (a := r1) (b := high) (by first | assumption | omega | exact hp _ (getD_mem (by omega)) | exact hpz _ (getD_mem (by omega))) (by first | assumption | omega | exact hp _ (getD_mem (by omega)) | exact hpz _ (getD_mem (by omega)))) ?_
    rintro v_ w6 ⟨rfl, hk6⟩
    have hS6 := SH.same hS5 hk6
    refine WL.lv rfl (LV.as (LV.leI rfl rfl) (decide_eq_true (by omega))) ?_
    refine WL.lv rfl (LV.pickT rfl rfl) ?_
    iterate 4 refine WL.lv rfl (LV.mv rfl) ?_
    refine WL.call rfl (XC.fn Try.func22 (by kernel_rfl) rfl rfl rfl) (clamp_calls (x := r1) (low := low) (high := high) (by first | assumption | omega | exact hp _ (getD_mem (by omega)) | exact hpz _ (getD_mem (by omega))) (by first | assumption | omega | exact hp _ (getD_mem (by omega)) | exact hpz _ (getD_mem (by omega))) (by first | assumption | omega | exact hp _ (getD_mem (by omega)) | exact hpz _ (getD_mem (by omega)))) ?_
    rintro v_ w7 ⟨r3, rfl, hf5, hf6, hk7⟩
    have hS7 := SH.same hS6 hk7
    refine WL.lv rfl (LV.mv rfl) ?_
    refine WL.call rfl (XC.fn Try.func12 (by kernel_rfl) rfl rfl rfl) (Calls.asB (fsame_calls (a := r3) (b := r1) (by first | assumption | omega | exact hp _ (getD_mem (by omega)) | exact hpz _ (getD_mem (by omega))) (by first | assumption | omega | exact hp _ (getD_mem (by omega)) | exact hpz _ (getD_mem (by omega)))) (decide_eq_true (by omega))) ?_
    rintro v_ w8 ⟨rfl, hk8⟩
    have hS8 := SH.same hS7 hk8
    refine WL.lv rfl (LV.pickT rfl rfl) ?_
    refine WL.lv rfl (LV.pickF rfl rfl) ?_
    refine WL.lv rfl (LV.pickT rfl rfl) ?_
    refine WL.lv rfl (LV.asg rfl) ?_
    refine WL.nil (thenQ.n ?_)
    refine WC.ret (?_)
    exact ⟨_, fun a ha => res1 rfl ha rfl, rfl, hS8.kb⟩

end Go.Proofs.Ytlnnfcbndelcnaa
