/- What must be whatever is asked. -/
import Derived.Test.YtlnnfcbndelcnaaFlI
namespace Go.Proofs.Ytlnnfcbndelcnaa
open Go Go.Gv Go.RowKit Go.Flt Go.Shelf Go.Lib Go.Sort
set_option linter.unusedVariables false
set_option linter.unusedSimpArgs false

set_option maxHeartbeats 2000000 in
theorem live22_calls {w : World}  :
    Calls Try.prog 11 #[] w fun e w' => ∃ v, e = .returned v ∧ (fun v w' => v = .bool (decide (true)) ∧ KB No w w') v w' := by
  have hS : SH w No w [] := SH.nil _ _
  refine calls (l := litOf [] 0) Try.func11 rfl (n := 32) rfl (Nat.le_of_ble_eq_true rfl) (lit_args _) ?_
  refine WC.seq ?_
  refine WC.region ?_
  refine WL.lv rfl (LV.asg rfl) ?_
  refine WL.nil (thenQ.n ?_)
  refine WC.seq ?_
  refine WC.region ?_
  refine WL.lv rfl (LV.asg rfl) ?_
  refine WL.nil (thenQ.n ?_)
  refine WC.seq ?_
  refine WC.region ?_
  refine WL.call rfl (XC.fn Try.func10 (by kernel_rfl) rfl rfl rfl) (ratio_calls (common := (1 : Int)) (n := (1 : Int)) (m := (3 : Int)) (by omega) (by omega) (by omega)) ?_
  rintro v_ w1 ⟨r1, rfl, hf1, hf2, hk1⟩
  have hS1 := SH.same hS hk1
  have hra_ := (cn_some (hf1.trans RAT_live)).2
  have hsk_4602678819172646912 : sk 4602678819172646912 = (4602678819172646912 : Int) := by decide +kernel
  refine WL.lv rfl (LV.as (LV.eqF (a := r1) (b := 4602678819172646912) rfl rfl) (decide_eq_true (by rw [hra_]; decide +kernel))) ?_
  iterate 2 refine WL.lv rfl (LV.mv rfl) ?_
  refine WL.lv rfl (LV.negF rfl) ?_
  refine WL.call rfl (XC.fn Try.func14 (by kernel_rfl) rfl rfl rfl) (order_calls (a := 9223372036854775808) (b := 4607182418800017408) (by first | assumption | omega | exact hp _ (getD_mem (by omega)) | exact hpz _ (getD_mem (by omega))) (by first | assumption | omega | exact hp _ (getD_mem (by omega)) | exact hpz _ (getD_mem (by omega)))) ?_
  rintro v_ w2 ⟨rfl, hk2⟩
  have hS2 := SH.same hS1 hk2
  refine WL.lv rfl (LV.as (LV.eqI rfl rfl) (decide_eq_true (by decide +kernel))) ?_
  refine WL.lv rfl (LV.pickT rfl rfl) ?_
  refine WL.lv rfl (LV.mv rfl) ?_
  refine WL.call rfl (XC.fn Try.func26 (by kernel_rfl) rfl rfl rfl) (mille_calls (x := 4598175219545276416) (by first | assumption | omega | exact hp _ (getD_mem (by omega)) | exact hpz _ (getD_mem (by omega)))) ?_
  rintro v_ w3 ⟨rfl, hk3⟩
  have hS3 := SH.same hS2 hk3
  refine WL.lv rfl (LV.as (LV.eqI rfl rfl) (decide_eq_true (MIL_live))) ?_
  refine WL.lv rfl (LV.pickT rfl rfl) ?_
  refine WL.lv rfl (LV.mv rfl) ?_
  refine WL.xe rfl (XE.buildSlice (E := eF) [(0, (.float .f64 4607182418800017408)), (1, (.float .f64 4611686018427387904))] #[(.float .f64 4607182418800017408), (.float .f64 4611686018427387904)] [4607182418800017408, 4611686018427387904] hS3 Try.underlying29 ti22 rfl (by decide) (by kernel_rfl) (.inr rfl) rfl rfl (by decide)) ?_
  rintro _ w4 ⟨b1, rfl, hS4, hk4⟩
  refine WL.call rfl (XC.fn Try.func20 (by kernel_rfl) rfl rfl rfl) (best_calls  (SH.rd hS4 (.head _)) rfl (by decide +kernel)) ?_
  rintro v_ w5 ⟨b2, rfl, hf3, hk5⟩
  have hS5 := SH.same hS4 hk5
  have hbst_ := bst_uniq hf3 live_b
  refine WL.lv rfl (LV.as (LV.eqI rfl rfl) (decide_eq_true (hbst_))) ?_
  refine WL.lv rfl (LV.pickT rfl rfl) ?_
  refine WL.lv rfl (LV.mv rfl) ?_
  refine WL.xe rfl (XE.buildSlice (E := eF) [(0, (.float .f64 4613937818241073152)), (1, (.float .f64 4607182418800017408)), (2, (.float .f64 4611686018427387904))] #[(.float .f64 4613937818241073152), (.float .f64 4607182418800017408), (.float .f64 4611686018427387904)] [4613937818241073152, 4607182418800017408, 4611686018427387904] hS5 Try.underlying29 ti22 rfl (by decide) (by kernel_rfl) (.inr rfl) rfl rfl (by decide)) ?_
  rintro _ w6 ⟨b3, rfl, hS6, hk6⟩
  refine WL.call rfl (XC.fn Try.func30 (by kernel_rfl) rfl rfl rfl) (median_calls  (SH.rd hS6 (.head _)) rfl (by decide +kernel) (by decide +kernel)) ?_
  rintro v_ w7 ⟨r2, rfl, hf4, hf5, hk7⟩
  have hS7 := SH.same hS6 hk7
  obtain ⟨ys_, hy1_, hy2_, hy3_⟩ := med_live hf4
  have hmed_ := live_m hy1_ hy2_ hy3_
  have hsk_4611686018427387904 : sk 4611686018427387904 = (4611686018427387904 : Int) := by decide +kernel
  refine WL.lv rfl (LV.as (LV.eqF (a := r2) (b := 4611686018427387904) rfl rfl) (decide_eq_true (by omega))) ?_
  refine WL.lv rfl (LV.pickT rfl rfl) ?_
  refine WL.lv rfl (LV.mv rfl) ?_
  refine WL.call rfl (XC.fn Try.func22 (by kernel_rfl) rfl rfl rfl) (clamp_calls (x := 4617315517961601024) (low := 0) (high := 4607182418800017408) (by first | assumption | omega | exact hp _ (getD_mem (by omega)) | exact hpz _ (getD_mem (by omega))) (by first | assumption | omega | exact hp _ (getD_mem (by omega)) | exact hpz _ (getD_mem (by omega))) (by first | assumption | omega | exact hp _ (getD_mem (by omega)) | exact hpz _ (getD_mem (by omega)))) ?_
  rintro v_ w8 ⟨r3, rfl, hf6, hf7, hk8⟩
  have hS8 := SH.same hS7 hk8
  have hclp_ := live_c hf6
  have hsk_4607182418800017408 : sk 4607182418800017408 = (4607182418800017408 : Int) := by decide +kernel
  refine WL.lv rfl (LV.as (LV.eqF (a := r3) (b := 4607182418800017408) rfl rfl) (decide_eq_true (by omega))) ?_
  refine WL.lv rfl (LV.pickT rfl rfl) ?_
  refine WL.lv rfl (LV.mv rfl) ?_
  refine WL.call rfl (XC.fn Try.func24 (by kernel_rfl) rfl rfl rfl) (halve_calls (x := 4620693217682128896) (n := (2 : Int)) (by first | assumption | omega | exact hp _ (getD_mem (by omega)) | exact hpz _ (getD_mem (by omega))) (by omega)) ?_
  rintro v_ w9 ⟨r4, rfl, hf8, hf9, hk9⟩
  have hS9 := SH.same hS8 hk9
  have hhal_ := hf8.trans hlv_live
  have hsk_4611686018427387904 : sk 4611686018427387904 = (4611686018427387904 : Int) := by decide +kernel
  refine WL.lv rfl (LV.as (LV.eqF (a := r4) (b := 4611686018427387904) rfl rfl) (decide_eq_true (by rw [hhal_]; decide +kernel))) ?_
  refine WL.lv rfl (LV.pickT rfl rfl) ?_
  refine WL.lv rfl (LV.asg rfl) ?_
  refine WL.nil (thenQ.n ?_)
  refine WC.ret (?_)
  exact ⟨_, fun a ha => res1 rfl ha rfl, rfl, hS9.kb⟩

end Go.Proofs.Ytlnnfcbndelcnaa
