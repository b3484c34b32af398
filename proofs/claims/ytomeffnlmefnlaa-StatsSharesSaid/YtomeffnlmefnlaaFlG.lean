/- Up to 60 numbers sorted. -/
import Derived.Test.YtomeffnlmefnlaaProg
import Derived.Test.YtomeffnlmefnlaaFlB
import Derived.Test.YtomeffnlmefnlaaGvX
import Derived.Test.YtomeffnlmefnlaaGvT
import Derived.Test.YtomeffnlmefnlaaGvG
import Derived.Test.YtomeffnlmefnlaaFlH
import Derived.Test.YtomeffnlmefnlaaFlV
import Derived.Test.YtomeffnlmefnlaaGvS
import Derived.Test.YtomeffnlmefnlaaScO
namespace Go.Proofs.Ytomeffnlmefnlaa
open Go Go.Gv Go.RowKit Go.Flt
set_option linter.unusedVariables false
set_option linter.unusedSimpArgs false
theorem ti34 : TI Try.prog 34 (.float .f64 0) 1 8 := by unfold TI; kernel_rfl

theorem isNaN_calls {w : World} {x : Nat}  :
    Calls Try.prog 39 #[(.float .f64 x)] w fun e w' => ∃ v, e = .returned v ∧ (fun v w' => (v = .bool (decide (¬ (-9218868437227405312 ≤ sk x ∧ sk x ≤ 9218868437227405312)))) ∧ KB No w w') v w' := by
  have hS : SH w No w [] := SH.nil _ _
  refine calls (l := litOf [(.float .f64 x)] 0) Try.func39 rfl (n := 6) rfl (Nat.le_of_ble_eq_true rfl) (lit_args _) ?_
  refine WC.seq ?_
  refine WC.region ?_
  refine WL.lv rfl (LV.asg rfl) ?_
  refine WL.nil (thenQ.n ?_)
  refine WC.seq ?_
  refine WC.region ?_
  iterate 2 refine WL.lv rfl (LV.mv rfl) ?_
  refine WL.lv rfl (LV.neF (a := x) (b := x) rfl rfl) ?_
  refine WL.lv rfl (LV.asg rfl) ?_
  refine WL.nil (thenQ.n ?_)
  refine WC.ret (?_)
  exact ⟨_, fun a ha => res1 rfl ha rfl, congrArg Value.bool (decide_eq_decide.2 (by omega)), hS.kb⟩

theorem nan_calls {w : World}  :
    Calls Try.prog 37 #[] w fun e w' => ∃ v, e = .returned v ∧ (fun v w' => ∃ (r' : Nat), v = .float .f64 r' ∧ cn r' = none ∧ r' < 18446744073709551616 ∧ KB No w w') v w' := by
  have hS : SH w No w [] := SH.nil _ _
  refine calls (l := litOf [] 0) Try.func37 rfl (n := 5) rfl (Nat.le_of_ble_eq_true rfl) (lit_args _) ?_
  refine WC.seq ?_
  refine WC.region ?_
  refine WL.lv rfl (LV.asg rfl) ?_
  refine WL.nil (thenQ.n ?_)
  refine WC.seq ?_
  refine WC.region ?_
  refine WL.lv rfl (LV.asg rfl) ?_
  refine WL.nil (thenQ.n ?_)
  refine WC.seq ?_
  refine WC.region ?_
  iterate 2 refine WL.lv rfl (LV.mv rfl) ?_
  refine WL.xe rfl (XE.arF (a := 0) (b := 0) hS (.inr (.inr (.inr rfl))) rfl rfl) ?_
  rintro _ w1 ⟨r1, rfl, hr1, hb1, hS1, hk1⟩
  refine WL.lv rfl (LV.asg rfl) ?_
  refine WL.nil (thenQ.n ?_)
  refine WC.ret (?_)
  exact ⟨_, fun a ha => res1 rfl ha rfl, r1, congrArg FV (rfl), hr1.trans (by decide +kernel), hb1, hS1.kb⟩

theorem none_calls {w : World}  :
    Calls Try.prog 24 #[] w fun e w' => ∃ v, e = .returned v ∧ (fun v w' => ∃ (r' : Nat), v = .float .f64 r' ∧ cn r' = none ∧ r' < 18446744073709551616 ∧ KB No w w') v w' := by
  have hS : SH w No w [] := SH.nil _ _
  refine calls (l := litOf [] 0) Try.func24 rfl (n := 5) rfl (Nat.le_of_ble_eq_true rfl) (lit_args _) ?_
  refine WC.seq ?_
  refine WC.region ?_
  refine WL.lv rfl (LV.asg rfl) ?_
  refine WL.nil (thenQ.n ?_)
  refine WC.seq ?_
  refine WC.region ?_
  refine WL.lv rfl (LV.asg rfl) ?_
  refine WL.nil (thenQ.n ?_)
  refine WC.seq ?_
  refine WC.region ?_
  iterate 2 refine WL.lv rfl (LV.mv rfl) ?_
  refine WL.xe rfl (XE.arF (a := 0) (b := 0) hS (.inr (.inr (.inr rfl))) rfl rfl) ?_
  rintro _ w1 ⟨r1, rfl, hr1, hb1, hS1, hk1⟩
  refine WL.lv rfl (LV.asg rfl) ?_
  refine WL.nil (thenQ.n ?_)
  refine WC.ret (?_)
  exact ⟨_, fun a ha => res1 rfl ha rfl, r1, congrArg FV (rfl), hr1.trans (by decide +kernel), hb1, hS1.kb⟩

theorem class_calls {w : World} {x : Nat}  :
    Calls Try.prog 73 #[(.float .f64 x)] w fun e w' => ∃ v, e = .returned v ∧ (fun v w' => (v = .int .i64 (if ¬ (-9218868437227405312 ≤ sk x ∧ sk x ≤ 9218868437227405312) then (1 : Int) else 0)) ∧ KB No w w') v w' := by
  have hS : SH w No w [] := SH.nil _ _
  refine calls (l := litOf [(.float .f64 x)] 0) Try.func73 rfl (n := 5) rfl (Nat.le_of_ble_eq_true rfl) (lit_args _) ?_
  refine WC.seq ?_
  refine WC.region ?_
  refine WL.lv rfl (LV.asg rfl) ?_
  refine WL.nil (thenQ.n ?_)
  iterate 2 refine WC.seq ?_
  refine WC.region ?_
  refine WL.lv rfl (LV.mv rfl) ?_
  refine WL.call rfl (XC.fn Try.func39 (by kernel_rfl) rfl rfl rfl) (isNaN_calls (x := x) ) ?_
  rintro v_ w1 ⟨rfl, hk1⟩
  have hS1 := SH.same hS hk1
  refine WL.nil (thenQ.n ?_)
  refine WC.condP (p := ¬ (-9218868437227405312 ≤ sk x ∧ sk x ≤ 9218868437227405312)) rfl (fun hc1 => ?_) (fun hc1 => ?_)
  · skip
    refine WC.seq ?_
    refine WC.region ?_
    refine WL.lv rfl (LV.asg rfl) ?_
    refine WL.nil (thenQ.n ?_)
    refine WC.ret (thenQ.r <| ?_)
    exact ⟨_, fun a ha => res1 rfl ha rfl, congrArg (Value.int .i64) (by first | rw [if_pos (by omega)] | rw [if_neg (by omega)]), hS1.kb⟩
  · skip
    refine WC.skip (thenQ.n ?_)
    refine WC.seq ?_
    refine WC.region ?_
    refine WL.lv rfl (LV.asg rfl) ?_
    refine WL.nil (thenQ.n ?_)
    refine WC.ret (?_)
    exact ⟨_, fun a ha => res1 rfl ha rfl, congrArg (Value.int .i64) (by first | rw [if_pos (by omega)] | rw [if_neg (by omega)]), hS1.kb⟩

theorem compare_calls {w : World} {a : Int} {b : Int}  :
    Calls Try.prog 72 #[(.int .i64 a), (.int .i64 b)] w fun e w' => ∃ v, e = .returned v ∧ (fun v w' => v = .int .i64 (if a < b then (-1 : Int) else if a > b then 1 else 0) ∧ KB No w w') v w' := by
  have hS : SH w No w [] := SH.nil _ _
  refine calls (l := litOf [(.int .i64 a), (.int .i64 b)] 0) Try.func72 rfl (n := 13) rfl (Nat.le_of_ble_eq_true rfl) (lit_args _) ?_
  refine WC.seq ?_
  refine WC.region ?_
  refine WL.lv rfl (LV.asg rfl) ?_
  refine WL.nil (thenQ.n ?_)
  refine WC.seq ?_
  refine WC.block ?_
  refine WC.seq ?_
  refine WC.region ?_
  iterate 2 refine WL.lv rfl (LV.mv rfl) ?_
  refine WL.lv rfl (LV.ltI rfl rfl) ?_
  refine WL.lv rfl (LV.asg rfl) ?_
  refine WL.nil (thenQ.n ?_)
  refine WC.condP (p := a < b) rfl (fun hc1 => ?_) (fun hc1 => ?_)
  · skip
    refine WC.seq ?_
    refine WC.region ?_
    refine WL.lv rfl (LV.asg rfl) ?_
    refine WL.nil (thenQ.n ?_)
    refine WC.ret (blockQ.r <| thenQ.r <| ?_)
    exact ⟨_, fun a ha => res1 rfl ha rfl, congrArg (Value.int .i64) (by first | rw [if_pos (by omega)] | rw [if_neg (by omega), if_pos (by omega)] | rw [if_neg (by omega), if_neg (by omega)]), hS.kb⟩
  · skip
    refine WC.seq ?_
    refine WC.region ?_
    iterate 2 refine WL.lv rfl (LV.mv rfl) ?_
    refine WL.lv rfl (LV.gtI rfl rfl) ?_
    refine WL.lv rfl (LV.asg rfl) ?_
    refine WL.nil (thenQ.n ?_)
    refine WC.condP (p := a > b) rfl (fun hc2 => ?_) (fun hc2 => ?_)
    · skip
      refine WC.seq ?_
      refine WC.region ?_
      refine WL.lv rfl (LV.asg rfl) ?_
      refine WL.nil (thenQ.n ?_)
      refine WC.ret (blockQ.r <| thenQ.r <| ?_)
      exact ⟨_, fun a ha => res1 rfl ha rfl, congrArg (Value.int .i64) (by first | rw [if_pos (by omega)] | rw [if_neg (by omega), if_pos (by omega)] | rw [if_neg (by omega), if_neg (by omega)]), hS.kb⟩
    · skip
      refine WC.skip (blockQ.n <| thenQ.n ?_)
      refine WC.seq ?_
      refine WC.region ?_
      refine WL.lv rfl (LV.asg rfl) ?_
      refine WL.nil (thenQ.n ?_)
      refine WC.ret (?_)
      exact ⟨_, fun a ha => res1 rfl ha rfl, congrArg (Value.int .i64) (by first | rw [if_pos (by omega)] | rw [if_neg (by omega), if_pos (by omega)] | rw [if_neg (by omega), if_neg (by omega)]), hS.kb⟩

theorem negative_calls {w : World} {x : Nat} (hx : x < 18446744073709551616) :
    Calls Try.prog 81 #[(.float .f64 x)] w fun e w' => ∃ v, e = .returned v ∧ (fun v w' => (v = .bool (decide (sk x = 0 ∧ x ≠ 0))) ∧ KB No w w') v w' := by
  have hS : SH w No w [] := SH.nil _ _
  refine calls (l := litOf [(.float .f64 x)] 0) Try.func81 rfl (n := 10) rfl (Nat.le_of_ble_eq_true rfl) (lit_args _) ?_
  refine WC.seq ?_
  refine WC.region ?_
  refine WL.lv rfl (LV.asg rfl) ?_
  refine WL.nil (thenQ.n ?_)
  refine WC.seq ?_
  refine WC.region ?_
  refine WL.lv rfl (LV.mv rfl) ?_
  have hsk_0 : sk 0 = (0 : Int) := by decide +kernel
  rcases Decidable.em (((-9218868437227405312 ≤ sk x ∧ sk x ≤ 9218868437227405312) ∧ (-9218868437227405312 ≤ (0 : Int) ∧ (0 : Int) ≤ 9218868437227405312)) ∧ sk x = (0 : Int)) with hg1 | hg1
  · refine WL.lv rfl (LV.as (LV.eqF (a := x) (b := 0) rfl rfl) (decide_eq_true hg1)) ?_
    iterate 2 refine WL.lv rfl (LV.mv rfl) ?_
    refine WL.xe rfl (XE.arF (a := 4607182418800017408) (b := x) hS (.inr (.inr (.inr rfl))) rfl rfl) ?_
    rintro _ w1 ⟨r1, rfl, hr1, hb1, hS1, hk1⟩
    have hz_ := inv_zero (by omega) hx hr1
    have hsk_0 : sk 0 = (0 : Int) := by decide +kernel
    refine WL.lv rfl (LV.ltF (a := r1) (b := 0) rfl rfl) ?_
    refine WL.lv rfl (LV.pickT rfl rfl) ?_
    refine WL.lv rfl (LV.asg rfl) ?_
    refine WL.nil (thenQ.n ?_)
    refine WC.ret (?_)
    exact ⟨_, fun a ha => res1 rfl ha rfl, congrArg Value.bool (decide_eq_decide.2 (by omega)), hS1.kb⟩
  · refine WL.lv rfl (LV.as (LV.eqF (a := x) (b := 0) rfl rfl) (decide_eq_false hg1)) ?_
    refine WL.lv rfl (LV.mv rfl) ?_
    iterate 3 refine WL.off rfl ?_
    refine WL.lv rfl (LV.pickF rfl rfl) ?_
    refine WL.lv rfl (LV.asg rfl) ?_
    refine WL.nil (thenQ.n ?_)
    refine WC.ret (?_)
    exact ⟨_, fun a ha => res1 rfl ha rfl, congrArg Value.bool (decide_eq_false (show ¬ (sk x = 0 ∧ x ≠ 0) by omega)).symm, hS.kb⟩

theorem sign_calls {w : World} {x : Nat} (hx : x < 18446744073709551616) :
    Calls Try.prog 74 #[(.float .f64 x)] w fun e w' => ∃ v, e = .returned v ∧ (fun v w' => (v = .int .i64 (if sk x = 0 ∧ x ≠ 0 then (0 : Int) else 1)) ∧ KB No w w') v w' := by
  have hS : SH w No w [] := SH.nil _ _
  refine calls (l := litOf [(.float .f64 x)] 0) Try.func74 rfl (n := 5) rfl (Nat.le_of_ble_eq_true rfl) (lit_args _) ?_
  refine WC.seq ?_
  refine WC.region ?_
  refine WL.lv rfl (LV.asg rfl) ?_
  refine WL.nil (thenQ.n ?_)
  iterate 2 refine WC.seq ?_
  refine WC.region ?_
  refine WL.lv rfl (LV.mv rfl) ?_
  refine WL.call rfl (XC.fn Try.func81 (by kernel_rfl) rfl rfl rfl) (negative_calls (x := x) (by first | assumption | omega | exact hp _ (getD_mem (by omega)) | exact hpz _ (getD_mem (by omega)))) ?_
  rintro v_ w1 ⟨rfl, hk1⟩
  have hS1 := SH.same hS hk1
  refine WL.nil (thenQ.n ?_)
  refine WC.condP (p := sk x = 0 ∧ x ≠ 0) rfl (fun hc1 => ?_) (fun hc1 => ?_)
  · skip
    refine WC.seq ?_
    refine WC.region ?_
    refine WL.lv rfl (LV.asg rfl) ?_
    refine WL.nil (thenQ.n ?_)
    refine WC.ret (thenQ.r <| ?_)
    exact ⟨_, fun a ha => res1 rfl ha rfl, congrArg (Value.int .i64) (by first | rw [if_pos (by omega)] | rw [if_neg (by omega)]), hS1.kb⟩
  · skip
    refine WC.skip (thenQ.n ?_)
    refine WC.seq ?_
    refine WC.region ?_
    refine WL.lv rfl (LV.asg rfl) ?_
    refine WL.nil (thenQ.n ?_)
    refine WC.ret (?_)
    exact ⟨_, fun a ha => res1 rfl ha rfl, congrArg (Value.int .i64) (by first | rw [if_pos (by omega)] | rw [if_neg (by omega)]), hS1.kb⟩

theorem order_calls {w : World} {a : Nat} {b : Nat} (ha : a < 18446744073709551616) (hb : b < 18446744073709551616) :
    Calls Try.prog 57 #[(.float .f64 a), (.float .f64 b)] w fun e w' => ∃ v, e = .returned v ∧ (fun v w' => v = .int .i64 (ORD a b) ∧ KB No w w') v w' := by
  have ha_ := tk_is a
  have hb_ := tk_is b
  have ho_ := ord_is' a b
  have hS : SH w No w [] := SH.nil _ _
  refine calls (l := litOf [(.float .f64 a), (.float .f64 b)] 0) Try.func57 rfl (n := 33) rfl (Nat.le_of_ble_eq_true rfl) (lit_args _) ?_
  refine WC.seq ?_
  refine WC.region ?_
  refine WL.lv rfl (LV.asg rfl) ?_
  refine WL.nil (thenQ.n ?_)
  refine WC.seq ?_
  refine WC.block ?_
  refine WC.seq ?_
  refine WC.region ?_
  refine WL.lv rfl (LV.mv rfl) ?_
  rcases Decidable.em (¬ (-9218868437227405312 ≤ sk a ∧ sk a ≤ 9218868437227405312)) with hg1 | hg1
  · refine WL.call rfl (XC.fn Try.func39 (by kernel_rfl) rfl rfl rfl) (Calls.asB (isNaN_calls (x := a) ) (decide_eq_true (hg1))) ?_
    rintro v_ w1 ⟨rfl, hk1⟩
    have hS1 := SH.same hS hk1
    refine WL.lv rfl (LV.mv rfl) ?_
    iterate 2 refine WL.off rfl ?_
    refine WL.lv rfl (LV.pickT rfl rfl) ?_
    refine WL.lv rfl (LV.asg rfl) ?_
    refine WL.nil (thenQ.n ?_)
    refine WC.condT rfl ?_
    refine WC.seq ?_
    refine WC.region ?_
    refine WL.lv rfl (LV.mv rfl) ?_
    refine WL.call rfl (XC.fn Try.func73 (by kernel_rfl) rfl rfl rfl) (class_calls (x := a) ) ?_
    rintro v_ w2 ⟨rfl, hk2⟩
    have hS2 := SH.same hS1 hk2
    refine WL.lv rfl (LV.mv rfl) ?_
    refine WL.call rfl (XC.fn Try.func73 (by kernel_rfl) rfl rfl rfl) (class_calls (x := b) ) ?_
    rintro v_ w3 ⟨rfl, hk3⟩
    have hS3 := SH.same hS2 hk3
    refine WL.call rfl (XC.fn Try.func72 (by kernel_rfl) rfl rfl rfl) (compare_calls (a := (if ¬ (-9218868437227405312 ≤ sk a ∧ sk a ≤ 9218868437227405312) then (1 : Int) else 0)) (b := (if ¬ (-9218868437227405312 ≤ sk b ∧ sk b ≤ 9218868437227405312) then (1 : Int) else 0)) ) ?_
    rintro v_ w4 ⟨rfl, hk4⟩
    have hS4 := SH.same hS3 hk4
    refine WL.lv rfl (LV.asg rfl) ?_
    refine WL.nil (thenQ.n ?_)
    refine WC.ret (blockQ.r <| thenQ.r <| ?_)
    exact ⟨_, fun a ha => res1 rfl ha rfl, congrArg (Value.int .i64) (by omega), hS4.kb⟩
  · refine WL.call rfl (XC.fn Try.func39 (by kernel_rfl) rfl rfl rfl) (Calls.asB (isNaN_calls (x := a) ) (decide_eq_false (hg1))) ?_
    rintro v_ w5 ⟨rfl, hk5⟩
    have hS5 := SH.same hS hk5
    iterate 2 refine WL.lv rfl (LV.mv rfl) ?_
    refine WL.call rfl (XC.fn Try.func39 (by kernel_rfl) rfl rfl rfl) (isNaN_calls (x := b) ) ?_
    rintro v_ w6 ⟨rfl, hk6⟩
    have hS6 := SH.same hS5 hk6
    refine WL.lv rfl (LV.pickF rfl rfl) ?_
    refine WL.lv rfl (LV.asg rfl) ?_
    refine WL.nil (thenQ.n ?_)
    refine WC.condP (p := ¬ (-9218868437227405312 ≤ sk b ∧ sk b ≤ 9218868437227405312)) rfl (fun hc1 => ?_) (fun hc1 => ?_)
    · skip
      refine WC.seq ?_
      refine WC.region ?_
      refine WL.lv rfl (LV.mv rfl) ?_
      refine WL.call rfl (XC.fn Try.func73 (by kernel_rfl) rfl rfl rfl) (class_calls (x := a) ) ?_
      rintro v_ w7 ⟨rfl, hk7⟩
      have hS7 := SH.same hS6 hk7
      refine WL.lv rfl (LV.mv rfl) ?_
      refine WL.call rfl (XC.fn Try.func73 (by kernel_rfl) rfl rfl rfl) (class_calls (x := b) ) ?_
      rintro v_ w8 ⟨rfl, hk8⟩
      have hS8 := SH.same hS7 hk8
      refine WL.call rfl (XC.fn Try.func72 (by kernel_rfl) rfl rfl rfl) (compare_calls (a := (if ¬ (-9218868437227405312 ≤ sk a ∧ sk a ≤ 9218868437227405312) then (1 : Int) else 0)) (b := (if ¬ (-9218868437227405312 ≤ sk b ∧ sk b ≤ 9218868437227405312) then (1 : Int) else 0)) ) ?_
      rintro v_ w9 ⟨rfl, hk9⟩
      have hS9 := SH.same hS8 hk9
      refine WL.lv rfl (LV.asg rfl) ?_
      refine WL.nil (thenQ.n ?_)
      refine WC.ret (blockQ.r <| thenQ.r <| ?_)
      exact ⟨_, fun a ha => res1 rfl ha rfl, congrArg (Value.int .i64) (by omega), hS9.kb⟩
    · skip
      refine WC.seq ?_
      refine WC.region ?_
      iterate 2 refine WL.lv rfl (LV.mv rfl) ?_
      refine WL.lv rfl (LV.ltF (a := a) (b := b) rfl rfl) ?_
      refine WL.lv rfl (LV.asg rfl) ?_
      refine WL.nil (thenQ.n ?_)
      refine WC.condP (p := ((-9218868437227405312 ≤ sk a ∧ sk a ≤ 9218868437227405312) ∧ (-9218868437227405312 ≤ sk b ∧ sk b ≤ 9218868437227405312)) ∧ sk a < sk b) rfl (fun hc2 => ?_) (fun hc2 => ?_)
      · skip
        refine WC.seq ?_
        refine WC.region ?_
        refine WL.lv rfl (LV.asg rfl) ?_
        refine WL.nil (thenQ.n ?_)
        refine WC.ret (blockQ.r <| thenQ.r <| ?_)
        exact ⟨_, fun a ha => res1 rfl ha rfl, congrArg (Value.int .i64) (by omega), hS6.kb⟩
      · skip
        refine WC.seq ?_
        refine WC.region ?_
        iterate 2 refine WL.lv rfl (LV.mv rfl) ?_
        refine WL.lv rfl (LV.gtF (a := a) (b := b) rfl rfl) ?_
        refine WL.lv rfl (LV.asg rfl) ?_
        refine WL.nil (thenQ.n ?_)
        refine WC.condP (p := ((-9218868437227405312 ≤ sk a ∧ sk a ≤ 9218868437227405312) ∧ (-9218868437227405312 ≤ sk b ∧ sk b ≤ 9218868437227405312)) ∧ sk a > sk b) rfl (fun hc3 => ?_) (fun hc3 => ?_)
        · skip
          refine WC.seq ?_
          refine WC.region ?_
          refine WL.lv rfl (LV.asg rfl) ?_
          refine WL.nil (thenQ.n ?_)
          refine WC.ret (blockQ.r <| thenQ.r <| ?_)
          exact ⟨_, fun a ha => res1 rfl ha rfl, congrArg (Value.int .i64) (by omega), hS6.kb⟩
        · skip
          refine WC.seq ?_
          refine WC.region ?_
          refine WL.lv rfl (LV.mv rfl) ?_
          have hsk_0 : sk 0 = (0 : Int) := by decide +kernel
          refine WL.lv rfl (LV.eqF (a := a) (b := 0) rfl rfl) ?_
          refine WL.lv rfl (LV.asg rfl) ?_
          refine WL.nil (thenQ.n ?_)
          refine WC.condP (p := ((-9218868437227405312 ≤ sk a ∧ sk a ≤ 9218868437227405312) ∧ (-9218868437227405312 ≤ (0 : Int) ∧ (0 : Int) ≤ 9218868437227405312)) ∧ sk a = (0 : Int)) rfl (fun hc4 => ?_) (fun hc4 => ?_)
          · skip
            refine WC.seq ?_
            refine WC.region ?_
            refine WL.lv rfl (LV.mv rfl) ?_
            refine WL.call rfl (XC.fn Try.func74 (by kernel_rfl) rfl rfl rfl) (sign_calls (x := a) (by first | assumption | omega | exact hp _ (getD_mem (by omega)) | exact hpz _ (getD_mem (by omega)))) ?_
            rintro v_ w10 ⟨rfl, hk10⟩
            have hS10 := SH.same hS6 hk10
            refine WL.lv rfl (LV.mv rfl) ?_
            refine WL.call rfl (XC.fn Try.func74 (by kernel_rfl) rfl rfl rfl) (sign_calls (x := b) (by first | assumption | omega | exact hp _ (getD_mem (by omega)) | exact hpz _ (getD_mem (by omega)))) ?_
            rintro v_ w11 ⟨rfl, hk11⟩
            have hS11 := SH.same hS10 hk11
            refine WL.call rfl (XC.fn Try.func72 (by kernel_rfl) rfl rfl rfl) (compare_calls (a := (if sk a = 0 ∧ a ≠ 0 then (0 : Int) else 1)) (b := (if sk b = 0 ∧ b ≠ 0 then (0 : Int) else 1)) ) ?_
            rintro v_ w12 ⟨rfl, hk12⟩
            have hS12 := SH.same hS11 hk12
            refine WL.lv rfl (LV.asg rfl) ?_
            refine WL.nil (thenQ.n ?_)
            refine WC.ret (blockQ.r <| thenQ.r <| ?_)
            exact ⟨_, fun a ha => res1 rfl ha rfl, congrArg (Value.int .i64) (by omega), hS12.kb⟩
          · skip
            refine WC.skip (blockQ.n <| thenQ.n ?_)
            refine WC.seq ?_
            refine WC.region ?_
            refine WL.lv rfl (LV.asg rfl) ?_
            refine WL.nil (thenQ.n ?_)
            refine WC.ret (?_)
            exact ⟨_, fun a ha => res1 rfl ha rfl, congrArg (Value.int .i64) (by omega), hS6.kb⟩

theorem rank_calls {w : World} {x : Nat} (hx : x < 18446744073709551616) :
    Calls Try.prog 75 #[(.float .f64 x)] w fun e w' => ∃ v, e = .returned v ∧ (fun v w' => v = .int .i64 (rk x) ∧ KB No w w') v w' := by
  have hx_ := tk_is x
  have hk_ := rk_is x
  have hS : SH w No w [] := SH.nil _ _
  refine calls (l := litOf [(.float .f64 x)] 0) Try.func75 rfl (n := 13) rfl (Nat.le_of_ble_eq_true rfl) (lit_args _) ?_
  refine WC.seq ?_
  refine WC.region ?_
  refine WL.lv rfl (LV.asg rfl) ?_
  refine WL.nil (thenQ.n ?_)
  iterate 2 refine WC.seq ?_
  refine WC.region ?_
  refine WL.lv rfl (LV.mv rfl) ?_
  have hsk_0 : sk 0 = (0 : Int) := by decide +kernel
  refine WL.lv rfl (LV.ltF (a := x) (b := 0) rfl rfl) ?_
  refine WL.nil (thenQ.n ?_)
  refine WC.condP (p := ((-9218868437227405312 ≤ sk x ∧ sk x ≤ 9218868437227405312) ∧ (-9218868437227405312 ≤ (0 : Int) ∧ (0 : Int) ≤ 9218868437227405312)) ∧ sk x < (0 : Int)) rfl (fun hc1 => ?_) (fun hc1 => ?_)
  · skip
    refine WC.seq ?_
    refine WC.region ?_
    refine WL.lv rfl (LV.asg rfl) ?_
    refine WL.nil (thenQ.n ?_)
    refine WC.ret (thenQ.r <| ?_)
    exact ⟨_, fun a ha => res1 rfl ha rfl, congrArg (Value.int .i64) (by omega), hS.kb⟩
  · skip
    refine WC.skip (thenQ.n ?_)
    iterate 2 refine WC.seq ?_
    refine WC.region ?_
    refine WL.lv rfl (LV.mv rfl) ?_
    have hsk_0 : sk 0 = (0 : Int) := by decide +kernel
    refine WL.lv rfl (LV.gtF (a := x) (b := 0) rfl rfl) ?_
    refine WL.nil (thenQ.n ?_)
    refine WC.condP (p := ((-9218868437227405312 ≤ sk x ∧ sk x ≤ 9218868437227405312) ∧ (-9218868437227405312 ≤ (0 : Int) ∧ (0 : Int) ≤ 9218868437227405312)) ∧ sk x > (0 : Int)) rfl (fun hc2 => ?_) (fun hc2 => ?_)
    · skip
      refine WC.seq ?_
      refine WC.region ?_
      refine WL.lv rfl (LV.asg rfl) ?_
      refine WL.nil (thenQ.n ?_)
      refine WC.ret (thenQ.r <| ?_)
      exact ⟨_, fun a ha => res1 rfl ha rfl, congrArg (Value.int .i64) (by omega), hS.kb⟩
    · skip
      refine WC.skip (thenQ.n ?_)
      iterate 2 refine WC.seq ?_
      refine WC.region ?_
      iterate 2 refine WL.lv rfl (LV.mv rfl) ?_
      refine WL.lv rfl (LV.neF (a := x) (b := x) rfl rfl) ?_
      refine WL.nil (thenQ.n ?_)
      refine WC.condP (p := ¬ (((-9218868437227405312 ≤ sk x ∧ sk x ≤ 9218868437227405312) ∧ (-9218868437227405312 ≤ sk x ∧ sk x ≤ 9218868437227405312)) ∧ sk x = sk x)) rfl (fun hc3 => ?_) (fun hc3 => ?_)
      · skip
        refine WC.seq ?_
        refine WC.region ?_
        refine WL.lv rfl (LV.asg rfl) ?_
        refine WL.nil (thenQ.n ?_)
        refine WC.ret (thenQ.r <| ?_)
        exact ⟨_, fun a ha => res1 rfl ha rfl, congrArg (Value.int .i64) (by omega), hS.kb⟩
      · skip
        refine WC.skip (thenQ.n ?_)
        iterate 2 refine WC.seq ?_
        refine WC.region ?_
        refine WL.lv rfl (LV.mv rfl) ?_
        refine WL.xe rfl (XE.arF (a := 4607182418800017408) (b := x) hS (.inr (.inr (.inr rfl))) rfl rfl) ?_
        rintro _ w1 ⟨r1, rfl, hr1, hb1, hS1, hk1⟩
        have hz_ := inv_zero (by omega) hx hr1
        have hsk_0 : sk 0 = (0 : Int) := by decide +kernel
        refine WL.lv rfl (LV.ltF (a := r1) (b := 0) rfl rfl) ?_
        refine WL.nil (thenQ.n ?_)
        refine WC.condP (p := ((-9218868437227405312 ≤ sk r1 ∧ sk r1 ≤ 9218868437227405312) ∧ (-9218868437227405312 ≤ (0 : Int) ∧ (0 : Int) ≤ 9218868437227405312)) ∧ sk r1 < (0 : Int)) rfl (fun hc4 => ?_) (fun hc4 => ?_)
        · skip
          refine WC.seq ?_
          refine WC.region ?_
          refine WL.lv rfl (LV.asg rfl) ?_
          refine WL.nil (thenQ.n ?_)
          refine WC.ret (thenQ.r <| ?_)
          exact ⟨_, fun a ha => res1 rfl ha rfl, congrArg (Value.int .i64) (by omega), hS1.kb⟩
        · skip
          refine WC.skip (thenQ.n ?_)
          refine WC.seq ?_
          refine WC.region ?_
          refine WL.lv rfl (LV.asg rfl) ?_
          refine WL.nil (thenQ.n ?_)
          refine WC.ret (?_)
          exact ⟨_, fun a ha => res1 rfl ha rfl, congrArg (Value.int .i64) (by omega), hS1.kb⟩

theorem rorder_calls {w : World} {a : Nat} {b : Nat} (ha : a < 18446744073709551616) (hb : b < 18446744073709551616) :
    Calls Try.prog 58 #[(.float .f64 a), (.float .f64 b)] w fun e w' => ∃ v, e = .returned v ∧ (fun v w' => v = .int .i64 (ORD a b) ∧ KB No w w') v w' := by
  have ha_ := tk_is a
  have hb_ := tk_is b
  have ho_ := ord_is' a b
  have ka_ := rk_is a
  have kb_ := rk_is b
  have hS : SH w No w [] := SH.nil _ _
  refine calls (l := litOf [(.float .f64 a), (.float .f64 b)] 0) Try.func58 rfl (n := 32) rfl (Nat.le_of_ble_eq_true rfl) (lit_args _) ?_
  refine WC.seq ?_
  refine WC.region ?_
  refine WL.lv rfl (LV.asg rfl) ?_
  refine WL.nil (thenQ.n ?_)
  refine WC.seq ?_
  refine WC.region ?_
  refine WL.lv rfl (LV.mv rfl) ?_
  refine WL.call rfl (XC.fn Try.func75 (by kernel_rfl) rfl rfl rfl) (rank_calls (x := a) (by first | assumption | omega | exact hp _ (getD_mem (by omega)) | exact hpz _ (getD_mem (by omega)))) ?_
  rintro v_ w1 ⟨rfl, hk1⟩
  have hS1 := SH.same hS hk1
  refine WL.lv rfl (LV.mv rfl) ?_
  refine WL.call rfl (XC.fn Try.func75 (by kernel_rfl) rfl rfl rfl) (rank_calls (x := b) (by first | assumption | omega | exact hp _ (getD_mem (by omega)) | exact hpz _ (getD_mem (by omega)))) ?_
  rintro v_ w2 ⟨rfl, hk2⟩
  have hS2 := SH.same hS1 hk2
  iterate 2 refine WL.lv rfl (LV.asg rfl) ?_
  refine WL.nil (thenQ.n ?_)
  iterate 2 refine WC.seq ?_
  refine WC.region ?_
  iterate 2 refine WL.lv rfl (LV.mv rfl) ?_
  rcases Decidable.em ((rk a) < (rk b)) with hg1 | hg1
  · refine WL.lv rfl (LV.as (LV.ltI rfl rfl) (decide_eq_true hg1)) ?_
    refine WL.lv rfl (LV.mv rfl) ?_
    iterate 8 refine WL.off rfl ?_
    refine WL.lv rfl (LV.pickT rfl rfl) ?_
    refine WL.nil (thenQ.n ?_)
    refine WC.condT rfl ?_
    refine WC.seq ?_
    refine WC.region ?_
    refine WL.lv rfl (LV.asg rfl) ?_
    refine WL.nil (thenQ.n ?_)
    refine WC.ret (thenQ.r <| ?_)
    exact ⟨_, fun a ha => res1 rfl ha rfl, congrArg (Value.int .i64) (by omega), hS2.kb⟩
  · refine WL.lv rfl (LV.as (LV.ltI rfl rfl) (decide_eq_false hg1)) ?_
    iterate 3 refine WL.lv rfl (LV.mv rfl) ?_
    rcases Decidable.em ((rk a) = (rk b)) with hg2 | hg2
    · refine WL.lv rfl (LV.as (LV.eqI rfl rfl) (decide_eq_true hg2)) ?_
      iterate 3 refine WL.lv rfl (LV.mv rfl) ?_
      refine WL.lv rfl (LV.ltF (a := a) (b := b) rfl rfl) ?_
      refine WL.lv rfl (LV.pickT rfl rfl) ?_
      refine WL.lv rfl (LV.pickF rfl rfl) ?_
      refine WL.nil (thenQ.n ?_)
      refine WC.condP (p := ((-9218868437227405312 ≤ sk a ∧ sk a ≤ 9218868437227405312) ∧ (-9218868437227405312 ≤ sk b ∧ sk b ≤ 9218868437227405312)) ∧ sk a < sk b) rfl (fun hc1 => ?_) (fun hc1 => ?_)
      · skip
        refine WC.seq ?_
        refine WC.region ?_
        refine WL.lv rfl (LV.asg rfl) ?_
        refine WL.nil (thenQ.n ?_)
        refine WC.ret (thenQ.r <| ?_)
        exact ⟨_, fun a ha => res1 rfl ha rfl, congrArg (Value.int .i64) (by omega), hS2.kb⟩
      · skip
        refine WC.skip (thenQ.n ?_)
        iterate 2 refine WC.seq ?_
        refine WC.region ?_
        iterate 2 refine WL.lv rfl (LV.mv rfl) ?_
        rcases Decidable.em ((rk a) > (rk b)) with hg3 | hg3
        · refine WL.lv rfl (LV.as (LV.gtI rfl rfl) (decide_eq_true hg3)) ?_
          refine WL.lv rfl (LV.mv rfl) ?_
          iterate 3 refine WL.off rfl ?_
          refine WL.lv rfl (LV.pickT rfl rfl) ?_
          refine WL.nil (thenQ.n ?_)
          refine WC.condT rfl ?_
          refine WC.seq ?_
          refine WC.region ?_
          refine WL.lv rfl (LV.asg rfl) ?_
          refine WL.nil (thenQ.n ?_)
          refine WC.ret (thenQ.r <| ?_)
          exact ⟨_, fun a ha => res1 rfl ha rfl, congrArg (Value.int .i64) (by omega), hS2.kb⟩
        · refine WL.lv rfl (LV.as (LV.gtI rfl rfl) (decide_eq_false hg3)) ?_
          iterate 3 refine WL.lv rfl (LV.mv rfl) ?_
          refine WL.lv rfl (LV.gtF (a := a) (b := b) rfl rfl) ?_
          refine WL.lv rfl (LV.pickF rfl rfl) ?_
          refine WL.nil (thenQ.n ?_)
          refine WC.condP (p := ((-9218868437227405312 ≤ sk a ∧ sk a ≤ 9218868437227405312) ∧ (-9218868437227405312 ≤ sk b ∧ sk b ≤ 9218868437227405312)) ∧ sk a > sk b) rfl (fun hc2 => ?_) (fun hc2 => ?_)
          · skip
            refine WC.seq ?_
            refine WC.region ?_
            refine WL.lv rfl (LV.asg rfl) ?_
            refine WL.nil (thenQ.n ?_)
            refine WC.ret (thenQ.r <| ?_)
            exact ⟨_, fun a ha => res1 rfl ha rfl, congrArg (Value.int .i64) (by omega), hS2.kb⟩
          · skip
            refine WC.skip (thenQ.n ?_)
            refine WC.seq ?_
            refine WC.region ?_
            refine WL.lv rfl (LV.asg rfl) ?_
            refine WL.nil (thenQ.n ?_)
            refine WC.ret (?_)
            exact ⟨_, fun a ha => res1 rfl ha rfl, congrArg (Value.int .i64) (by omega), hS2.kb⟩
    · refine WL.lv rfl (LV.as (LV.eqI rfl rfl) (decide_eq_false hg2)) ?_
      refine WL.lv rfl (LV.mv rfl) ?_
      iterate 3 refine WL.off rfl ?_
      iterate 2 refine WL.lv rfl (LV.pickF rfl rfl) ?_
      refine WL.nil (thenQ.n ?_)
      refine WC.condF rfl ?_
      refine WC.skip (thenQ.n ?_)
      iterate 2 refine WC.seq ?_
      refine WC.region ?_
      iterate 2 refine WL.lv rfl (LV.mv rfl) ?_
      rcases Decidable.em ((rk a) > (rk b)) with hg4 | hg4
      · refine WL.lv rfl (LV.as (LV.gtI rfl rfl) (decide_eq_true hg4)) ?_
        refine WL.lv rfl (LV.mv rfl) ?_
        iterate 3 refine WL.off rfl ?_
        refine WL.lv rfl (LV.pickT rfl rfl) ?_
        refine WL.nil (thenQ.n ?_)
        refine WC.condT rfl ?_
        refine WC.seq ?_
        refine WC.region ?_
        refine WL.lv rfl (LV.asg rfl) ?_
        refine WL.nil (thenQ.n ?_)
        refine WC.ret (thenQ.r <| ?_)
        exact ⟨_, fun a ha => res1 rfl ha rfl, congrArg (Value.int .i64) (by omega), hS2.kb⟩
      · refine WL.lv rfl (LV.as (LV.gtI rfl rfl) (decide_eq_false hg4)) ?_
        iterate 3 refine WL.lv rfl (LV.mv rfl) ?_
        refine WL.lv rfl (LV.gtF (a := a) (b := b) rfl rfl) ?_
        refine WL.lv rfl (LV.pickF rfl rfl) ?_
        refine WL.nil (thenQ.n ?_)
        refine WC.condP (p := ((-9218868437227405312 ≤ sk a ∧ sk a ≤ 9218868437227405312) ∧ (-9218868437227405312 ≤ sk b ∧ sk b ≤ 9218868437227405312)) ∧ sk a > sk b) rfl (fun hc3 => ?_) (fun hc3 => ?_)
        · skip
          refine WC.seq ?_
          refine WC.region ?_
          refine WL.lv rfl (LV.asg rfl) ?_
          refine WL.nil (thenQ.n ?_)
          refine WC.ret (thenQ.r <| ?_)
          exact ⟨_, fun a ha => res1 rfl ha rfl, congrArg (Value.int .i64) (by omega), hS2.kb⟩
        · skip
          refine WC.skip (thenQ.n ?_)
          refine WC.seq ?_
          refine WC.region ?_
          refine WL.lv rfl (LV.asg rfl) ?_
          refine WL.nil (thenQ.n ?_)
          refine WC.ret (?_)
          exact ⟨_, fun a ha => res1 rfl ha rfl, congrArg (Value.int .i64) (by omega), hS2.kb⟩

theorem fsame_calls {w : World} {a : Nat} {b : Nat} (ha : a < 18446744073709551616) (hb : b < 18446744073709551616) :
    Calls Try.prog 10 #[(.float .f64 a), (.float .f64 b)] w fun e w' => ∃ v, e = .returned v ∧ (fun v w' => v = .bool (decide (tk a = tk b)) ∧ KB No w w') v w' := by
  have ha_ := tk_is a
  have hb_ := tk_is b
  have hS : SH w No w [] := SH.nil _ _
  refine calls (l := litOf [(.float .f64 a), (.float .f64 b)] 0) Try.func10 rfl (n := 35) rfl (Nat.le_of_ble_eq_true rfl) (lit_args _) ?_
  refine WC.seq ?_
  refine WC.region ?_
  refine WL.lv rfl (LV.asg rfl) ?_
  refine WL.nil (thenQ.n ?_)
  iterate 2 refine WC.seq ?_
  refine WC.region ?_
  iterate 2 refine WL.lv rfl (LV.mv rfl) ?_
  rcases Decidable.em (¬ (((-9218868437227405312 ≤ sk a ∧ sk a ≤ 9218868437227405312) ∧ (-9218868437227405312 ≤ sk a ∧ sk a ≤ 9218868437227405312)) ∧ sk a = sk a)) with hg1 | hg1
  · refine WL.lv rfl (LV.as (LV.neF (a := a) (b := a) rfl rfl) (decide_eq_true hg1)) ?_
    refine WL.lv rfl (LV.mv rfl) ?_
    iterate 3 refine WL.off rfl ?_
    refine WL.lv rfl (LV.pickT rfl rfl) ?_
    refine WL.nil (thenQ.n ?_)
    refine WC.condT rfl ?_
    refine WC.seq ?_
    refine WC.region ?_
    iterate 2 refine WL.lv rfl (LV.mv rfl) ?_
    refine WL.lv rfl (LV.as (LV.neF (a := a) (b := a) rfl rfl) (decide_eq_true hg1)) ?_
    iterate 3 refine WL.lv rfl (LV.mv rfl) ?_
    refine WL.lv rfl (LV.neF (a := b) (b := b) rfl rfl) ?_
    refine WL.lv rfl (LV.pickT rfl rfl) ?_
    refine WL.lv rfl (LV.asg rfl) ?_
    refine WL.nil (thenQ.n ?_)
    refine WC.ret (thenQ.r <| ?_)
    exact ⟨_, fun a ha => res1 rfl ha rfl, congrArg Value.bool (decide_eq_decide.2 (by omega)), hS.kb⟩
  · refine WL.lv rfl (LV.as (LV.neF (a := a) (b := a) rfl rfl) (decide_eq_false hg1)) ?_
    iterate 3 refine WL.lv rfl (LV.mv rfl) ?_
    refine WL.lv rfl (LV.neF (a := b) (b := b) rfl rfl) ?_
    refine WL.lv rfl (LV.pickF rfl rfl) ?_
    refine WL.nil (thenQ.n ?_)
    refine WC.condP (p := ¬ (((-9218868437227405312 ≤ sk b ∧ sk b ≤ 9218868437227405312) ∧ (-9218868437227405312 ≤ sk b ∧ sk b ≤ 9218868437227405312)) ∧ sk b = sk b)) rfl (fun hc1 => ?_) (fun hc1 => ?_)
    · skip
      refine WC.seq ?_
      refine WC.region ?_
      iterate 2 refine WL.lv rfl (LV.mv rfl) ?_
      refine WL.lv rfl (LV.as (LV.neF (a := a) (b := a) rfl rfl) (decide_eq_false hg1)) ?_
      refine WL.lv rfl (LV.mv rfl) ?_
      iterate 3 refine WL.off rfl ?_
      refine WL.lv rfl (LV.pickF rfl rfl) ?_
      refine WL.lv rfl (LV.asg rfl) ?_
      refine WL.nil (thenQ.n ?_)
      refine WC.ret (thenQ.r <| ?_)
      exact ⟨_, fun a ha => res1 rfl ha rfl, congrArg Value.bool (decide_eq_false (show ¬ (tk a = tk b) by omega)).symm, hS.kb⟩
    · skip
      refine WC.skip (thenQ.n ?_)
      refine WC.seq ?_
      refine WC.region ?_
      iterate 2 refine WL.lv rfl (LV.mv rfl) ?_
      rcases Decidable.em (((-9218868437227405312 ≤ sk a ∧ sk a ≤ 9218868437227405312) ∧ (-9218868437227405312 ≤ sk b ∧ sk b ≤ 9218868437227405312)) ∧ sk a = sk b) with hg2 | hg2
      · refine WL.lv rfl (LV.as (LV.eqF (a := a) (b := b) rfl rfl) (decide_eq_true hg2)) ?_
        iterate 2 refine WL.lv rfl (LV.mv rfl) ?_
        have hsk_0 : sk 0 = (0 : Int) := by decide +kernel
        rcases Decidable.em (¬ (((-9218868437227405312 ≤ sk a ∧ sk a ≤ 9218868437227405312) ∧ (-9218868437227405312 ≤ (0 : Int) ∧ (0 : Int) ≤ 9218868437227405312)) ∧ sk a = (0 : Int))) with hg3 | hg3
        · refine WL.lv rfl (LV.as (LV.neF (a := a) (b := 0) rfl rfl) (decide_eq_true hg3)) ?_
          refine WL.lv rfl (LV.mv rfl) ?_
          iterate 5 refine WL.off rfl ?_
          iterate 2 refine WL.lv rfl (LV.pickT rfl rfl) ?_
          refine WL.lv rfl (LV.asg rfl) ?_
          refine WL.nil (thenQ.n ?_)
          refine WC.ret (?_)
          exact ⟨_, fun a ha => res1 rfl ha rfl, congrArg Value.bool (decide_eq_true (show tk a = tk b by omega)).symm, hS.kb⟩
        · refine WL.lv rfl (LV.as (LV.neF (a := a) (b := 0) rfl rfl) (decide_eq_false hg3)) ?_
          iterate 2 refine WL.lv rfl (LV.mv rfl) ?_
          refine WL.xe rfl (XE.arF (a := 4607182418800017408) (b := a) hS (.inr (.inr (.inr rfl))) rfl rfl) ?_
          rintro _ w1 ⟨r1, rfl, hr1, hb1, hS1, hk1⟩
          have hz_ := inv_zero (x := a) (by omega) ha hr1
          refine WL.lv rfl (LV.mv rfl) ?_
          refine WL.xe rfl (XE.arF (a := 4607182418800017408) (b := b) hS1 (.inr (.inr (.inr rfl))) rfl rfl) ?_
          rintro _ w2 ⟨r2, rfl, hr2, hb2, hS2, hk2⟩
          have hy_ := inv_zero (x := b) (by omega) hb hr2
          refine WL.lv rfl (LV.eqF (a := r1) (b := r2) rfl rfl) ?_
          refine WL.lv rfl (LV.pickF rfl rfl) ?_
          refine WL.lv rfl (LV.pickT rfl rfl) ?_
          refine WL.lv rfl (LV.asg rfl) ?_
          refine WL.nil (thenQ.n ?_)
          refine WC.ret (?_)
          exact ⟨_, fun a ha => res1 rfl ha rfl, congrArg Value.bool (decide_eq_decide.2 (by omega)), hS2.kb⟩
      · refine WL.lv rfl (LV.as (LV.eqF (a := a) (b := b) rfl rfl) (decide_eq_false hg2)) ?_
        refine WL.lv rfl (LV.mv rfl) ?_
        iterate 9 refine WL.off rfl ?_
        refine WL.lv rfl (LV.pickF rfl rfl) ?_
        refine WL.lv rfl (LV.asg rfl) ?_
        refine WL.nil (thenQ.n ?_)
        refine WC.ret (?_)
        exact ⟨_, fun a ha => res1 rfl ha rfl, congrArg Value.bool (decide_eq_false (show ¬ (tk a = tk b) by omega)).symm, hS.kb⟩

theorem ratio_calls {w : World} {common : Int} {n : Int} {m : Int} (hc : -9223372036854775808 ≤ common ∧ common ≤ 9223372036854775807) (hn : -9223372036854775808 ≤ n ∧ n ≤ 9223372036854775807) (hm : -9223372036854775808 ≤ m ∧ m ≤ 9223372036854775807) :
    Calls Try.prog 22 #[(.int .i64 common), (.int .i64 n), (.int .i64 m)] w fun e w' => ∃ v, e = .returned v ∧ (fun v w' => ∃ (r' : Nat), v = .float .f64 r' ∧ cn r' = RAT common n m ∧ r' < 18446744073709551616 ∧ KB No w w') v w' := by
  have hS : SH w No w [] := SH.nil _ _
  refine calls (l := litOf [(.int .i64 common), (.int .i64 n), (.int .i64 m)] 0) Try.func22 rfl (n := 47) rfl (Nat.le_of_ble_eq_true rfl) (lit_args _) ?_
  refine WC.seq ?_
  refine WC.region ?_
  refine WL.lv rfl (LV.asg rfl) ?_
  refine WL.nil (thenQ.n ?_)
  iterate 2 refine WC.seq ?_
  refine WC.region ?_
  refine WL.lv rfl (LV.mv rfl) ?_
  rcases Decidable.em (n < 0) with hg1 | hg1
  · refine WL.lv rfl (LV.as (LV.ltI rfl rfl) (decide_eq_true hg1)) ?_
    refine WL.lv rfl (LV.mv rfl) ?_
    iterate 2 refine WL.off rfl ?_
    refine WL.lv rfl (LV.pickT rfl rfl) ?_
    refine WL.lv rfl (LV.mv rfl) ?_
    iterate 2 refine WL.off rfl ?_
    refine WL.lv rfl (LV.pickT rfl rfl) ?_
    refine WL.lv rfl (LV.mv rfl) ?_
    iterate 2 refine WL.off rfl ?_
    refine WL.lv rfl (LV.pickT rfl rfl) ?_
    refine WL.lv rfl (LV.mv rfl) ?_
    iterate 2 refine WL.off rfl ?_
    refine WL.lv rfl (LV.pickT rfl rfl) ?_
    refine WL.lv rfl (LV.mv rfl) ?_
    iterate 5 refine WL.off rfl ?_
    refine WL.lv rfl (LV.pickT rfl rfl) ?_
    refine WL.lv rfl (LV.mv rfl) ?_
    iterate 4 refine WL.off rfl ?_
    refine WL.lv rfl (LV.pickT rfl rfl) ?_
    refine WL.nil (thenQ.n ?_)
    refine WC.condT rfl ?_
    refine WC.seq ?_
    refine WC.region ?_
    refine WL.call rfl (XC.fn Try.func37 (by kernel_rfl) rfl rfl rfl) (nan_calls  ) ?_
    rintro v_ w1 ⟨r1, rfl, hf1, hf2, hk1⟩
    have hS1 := SH.same hS hk1
    refine WL.lv rfl (LV.asg rfl) ?_
    refine WL.nil (thenQ.n ?_)
    refine WC.ret (thenQ.r <| ?_)
    exact ⟨_, fun a ha => res1 rfl ha rfl, r1, congrArg FV (rfl), by unfold RAT; rw [if_pos (by omega)]; exact hf1, hf2, hS1.kb⟩
  · refine WL.lv rfl (LV.as (LV.ltI rfl rfl) (decide_eq_false hg1)) ?_
    iterate 2 refine WL.lv rfl (LV.mv rfl) ?_
    rcases Decidable.em (m < 0) with hg2 | hg2
    · refine WL.lv rfl (LV.as (LV.ltI rfl rfl) (decide_eq_true hg2)) ?_
      refine WL.lv rfl (LV.pickF rfl rfl) ?_
      refine WL.lv rfl (LV.mv rfl) ?_
      iterate 2 refine WL.off rfl ?_
      refine WL.lv rfl (LV.pickT rfl rfl) ?_
      refine WL.lv rfl (LV.mv rfl) ?_
      iterate 2 refine WL.off rfl ?_
      refine WL.lv rfl (LV.pickT rfl rfl) ?_
      refine WL.lv rfl (LV.mv rfl) ?_
      iterate 2 refine WL.off rfl ?_
      refine WL.lv rfl (LV.pickT rfl rfl) ?_
      refine WL.lv rfl (LV.mv rfl) ?_
      iterate 5 refine WL.off rfl ?_
      refine WL.lv rfl (LV.pickT rfl rfl) ?_
      refine WL.lv rfl (LV.mv rfl) ?_
      iterate 4 refine WL.off rfl ?_
      refine WL.lv rfl (LV.pickT rfl rfl) ?_
      refine WL.nil (thenQ.n ?_)
      refine WC.condT rfl ?_
      refine WC.seq ?_
      refine WC.region ?_
      refine WL.call rfl (XC.fn Try.func37 (by kernel_rfl) rfl rfl rfl) (nan_calls  ) ?_
      rintro v_ w2 ⟨r2, rfl, hf3, hf4, hk2⟩
      have hS2 := SH.same hS hk2
      refine WL.lv rfl (LV.asg rfl) ?_
      refine WL.nil (thenQ.n ?_)
      refine WC.ret (thenQ.r <| ?_)
      exact ⟨_, fun a ha => res1 rfl ha rfl, r2, congrArg FV (rfl), by unfold RAT; rw [if_pos (by omega)]; exact hf3, hf4, hS2.kb⟩
    · refine WL.lv rfl (LV.as (LV.ltI rfl rfl) (decide_eq_false hg2)) ?_
      refine WL.lv rfl (LV.pickF rfl rfl) ?_
      iterate 2 refine WL.lv rfl (LV.mv rfl) ?_
      rcases Decidable.em (n > 2147483647) with hg3 | hg3
      · refine WL.lv rfl (LV.as (LV.gtI rfl rfl) (decide_eq_true hg3)) ?_
        refine WL.lv rfl (LV.pickF rfl rfl) ?_
        refine WL.lv rfl (LV.mv rfl) ?_
        iterate 2 refine WL.off rfl ?_
        refine WL.lv rfl (LV.pickT rfl rfl) ?_
        refine WL.lv rfl (LV.mv rfl) ?_
        iterate 2 refine WL.off rfl ?_
        refine WL.lv rfl (LV.pickT rfl rfl) ?_
        refine WL.lv rfl (LV.mv rfl) ?_
        iterate 5 refine WL.off rfl ?_
        refine WL.lv rfl (LV.pickT rfl rfl) ?_
        refine WL.lv rfl (LV.mv rfl) ?_
        iterate 4 refine WL.off rfl ?_
        refine WL.lv rfl (LV.pickT rfl rfl) ?_
        refine WL.nil (thenQ.n ?_)
        refine WC.condT rfl ?_
        refine WC.seq ?_
        refine WC.region ?_
        refine WL.call rfl (XC.fn Try.func37 (by kernel_rfl) rfl rfl rfl) (nan_calls  ) ?_
        rintro v_ w3 ⟨r3, rfl, hf5, hf6, hk3⟩
        have hS3 := SH.same hS hk3
        refine WL.lv rfl (LV.asg rfl) ?_
        refine WL.nil (thenQ.n ?_)
        refine WC.ret (thenQ.r <| ?_)
        exact ⟨_, fun a ha => res1 rfl ha rfl, r3, congrArg FV (rfl), by unfold RAT; rw [if_pos (by omega)]; exact hf5, hf6, hS3.kb⟩
      · refine WL.lv rfl (LV.as (LV.gtI rfl rfl) (decide_eq_false hg3)) ?_
        refine WL.lv rfl (LV.pickF rfl rfl) ?_
        iterate 2 refine WL.lv rfl (LV.mv rfl) ?_
        rcases Decidable.em (m > 2147483647) with hg4 | hg4
        · refine WL.lv rfl (LV.as (LV.gtI rfl rfl) (decide_eq_true hg4)) ?_
          refine WL.lv rfl (LV.pickF rfl rfl) ?_
          refine WL.lv rfl (LV.mv rfl) ?_
          iterate 2 refine WL.off rfl ?_
          refine WL.lv rfl (LV.pickT rfl rfl) ?_
          refine WL.lv rfl (LV.mv rfl) ?_
          iterate 5 refine WL.off rfl ?_
          refine WL.lv rfl (LV.pickT rfl rfl) ?_
          refine WL.lv rfl (LV.mv rfl) ?_
          iterate 4 refine WL.off rfl ?_
          refine WL.lv rfl (LV.pickT rfl rfl) ?_
          refine WL.nil (thenQ.n ?_)
          refine WC.condT rfl ?_
          refine WC.seq ?_
          refine WC.region ?_
          refine WL.call rfl (XC.fn Try.func37 (by kernel_rfl) rfl rfl rfl) (nan_calls  ) ?_
          rintro v_ w4 ⟨r4, rfl, hf7, hf8, hk4⟩
          have hS4 := SH.same hS hk4
          refine WL.lv rfl (LV.asg rfl) ?_
          refine WL.nil (thenQ.n ?_)
          refine WC.ret (thenQ.r <| ?_)
          exact ⟨_, fun a ha => res1 rfl ha rfl, r4, congrArg FV (rfl), by unfold RAT; rw [if_pos (by omega)]; exact hf7, hf8, hS4.kb⟩
        · refine WL.lv rfl (LV.as (LV.gtI rfl rfl) (decide_eq_false hg4)) ?_
          refine WL.lv rfl (LV.pickF rfl rfl) ?_
          iterate 2 refine WL.lv rfl (LV.mv rfl) ?_
          rcases Decidable.em (common < 0) with hg5 | hg5
          · refine WL.lv rfl (LV.as (LV.ltI rfl rfl) (decide_eq_true hg5)) ?_
            refine WL.lv rfl (LV.pickF rfl rfl) ?_
            refine WL.lv rfl (LV.mv rfl) ?_
            iterate 5 refine WL.off rfl ?_
            refine WL.lv rfl (LV.pickT rfl rfl) ?_
            refine WL.lv rfl (LV.mv rfl) ?_
            iterate 4 refine WL.off rfl ?_
            refine WL.lv rfl (LV.pickT rfl rfl) ?_
            refine WL.nil (thenQ.n ?_)
            refine WC.condT rfl ?_
            refine WC.seq ?_
            refine WC.region ?_
            refine WL.call rfl (XC.fn Try.func37 (by kernel_rfl) rfl rfl rfl) (nan_calls  ) ?_
            rintro v_ w5 ⟨r5, rfl, hf9, hf10, hk5⟩
            have hS5 := SH.same hS hk5
            refine WL.lv rfl (LV.asg rfl) ?_
            refine WL.nil (thenQ.n ?_)
            refine WC.ret (thenQ.r <| ?_)
            exact ⟨_, fun a ha => res1 rfl ha rfl, r5, congrArg FV (rfl), by unfold RAT; rw [if_pos (by omega)]; exact hf9, hf10, hS5.kb⟩
          · refine WL.lv rfl (LV.as (LV.ltI rfl rfl) (decide_eq_false hg5)) ?_
            refine WL.lv rfl (LV.pickF rfl rfl) ?_
            iterate 4 refine WL.lv rfl (LV.mv rfl) ?_
            refine WL.lv rfl (LV.minI rfl rfl) ?_
            rcases Decidable.em (common > (min n m)) with hg6 | hg6
            · refine WL.lv rfl (LV.as (LV.gtI rfl rfl) (decide_eq_true hg6)) ?_
              refine WL.lv rfl (LV.pickF rfl rfl) ?_
              refine WL.lv rfl (LV.mv rfl) ?_
              iterate 4 refine WL.off rfl ?_
              refine WL.lv rfl (LV.pickT rfl rfl) ?_
              refine WL.nil (thenQ.n ?_)
              refine WC.condT rfl ?_
              refine WC.seq ?_
              refine WC.region ?_
              refine WL.call rfl (XC.fn Try.func37 (by kernel_rfl) rfl rfl rfl) (nan_calls  ) ?_
              rintro v_ w6 ⟨r6, rfl, hf11, hf12, hk6⟩
              have hS6 := SH.same hS hk6
              refine WL.lv rfl (LV.asg rfl) ?_
              refine WL.nil (thenQ.n ?_)
              refine WC.ret (thenQ.r <| ?_)
              exact ⟨_, fun a ha => res1 rfl ha rfl, r6, congrArg FV (rfl), by unfold RAT; rw [if_pos (by omega)]; exact hf11, hf12, hS6.kb⟩
            · refine WL.lv rfl (LV.as (LV.gtI rfl rfl) (decide_eq_false hg6)) ?_
              refine WL.lv rfl (LV.pickF rfl rfl) ?_
              iterate 3 refine WL.lv rfl (LV.mv rfl) ?_
              refine WL.lv rfl (LV.add rfl rfl (wr64 (by omega) (by omega))) ?_
              refine WL.lv rfl (LV.eqI rfl rfl) ?_
              refine WL.lv rfl (LV.pickF rfl rfl) ?_
              refine WL.nil (thenQ.n ?_)
              refine WC.condP (p := (n + m) = 0) rfl (fun hc1 => ?_) (fun hc1 => ?_)
              · skip
                refine WC.seq ?_
                refine WC.region ?_
                refine WL.call rfl (XC.fn Try.func37 (by kernel_rfl) rfl rfl rfl) (nan_calls  ) ?_
                rintro v_ w7 ⟨r7, rfl, hf13, hf14, hk7⟩
                have hS7 := SH.same hS hk7
                refine WL.lv rfl (LV.asg rfl) ?_
                refine WL.nil (thenQ.n ?_)
                refine WC.ret (thenQ.r <| ?_)
                exact ⟨_, fun a ha => res1 rfl ha rfl, r7, congrArg FV (rfl), by unfold RAT; rw [if_pos (by omega)]; exact hf13, hf14, hS7.kb⟩
              · skip
                refine WC.skip (thenQ.n ?_)
                refine WC.seq ?_
                refine WC.region ?_
                refine WL.lv rfl (LV.mv rfl) ?_
                refine WL.lv rfl (LV.mul rfl rfl (wr64 (by omega) (by omega))) ?_
                refine WL.lv rfl (LV.cvtIF Try.underlying3 Try.underlying34 rfl) ?_
                iterate 2 refine WL.lv rfl (LV.mv rfl) ?_
                refine WL.lv rfl (LV.add rfl rfl (wr64 (by omega) (by omega))) ?_
                refine WL.lv rfl (LV.cvtIF Try.underlying3 Try.underlying34 rfl) ?_
                refine WL.xe rfl (XE.arF (a := (floatOfInt .f64 (2 * common))) (b := (floatOfInt .f64 (n + m))) hS (.inr (.inr (.inr rfl))) rfl rfl) ?_
                rintro _ w8 ⟨r8, rfl, hr1, hb1, hS8, hk8⟩
                refine WL.lv rfl (LV.asg rfl) ?_
                refine WL.nil (thenQ.n ?_)
                refine WC.ret (?_)
                exact ⟨_, fun a ha => res1 rfl ha rfl, r8, congrArg FV (rfl), by unfold RAT; rw [if_neg (by omega)]; exact hr1, hb1, hS8.kb⟩

abbrev W6 (x : Nat) : Prop := x < 18446744073709551616

theorem swr_calls {w : World} {S : Nat → Prop} {A : Option Addr} {n c : Nat} {xs : List Nat} {a : Int} {b : Int} {k : Int} (hn : xs.length = n) (hS0 : SH w S w [rowE eF 34 (.slice A n c) xs]) (h0 : 0 ≤ a) (hk : 0 ≤ k) (hab : a + k ≤ b) (hb : b + k ≤ n) (hl : n ≤ 1000000) :
    Calls Try.prog 83 #[(.slice A n c), (.int .i64 a), (.int .i64 b), (.int .i64 k), (.func (.func 57) #[] #[])] w fun e w' => ∃ v, e = .returned v ∧ (fun v w' => ∃ ys : List Nat, v = .tuple #[] ∧ Re xs ys (sw2 a b k) ∧ SH w S w' [rowE eF 34 (.slice A n c) ys]) v w' := by
  have hS : SH w S w [rowE eF 34 (.slice A n c) xs] := hS0
  refine calls (l := litOf [(.slice A n c), (.int .i64 a), (.int .i64 b), (.int .i64 k), (.func (.func 57) #[] #[])] 0) Try.func83 rfl (n := 38) rfl (Nat.le_of_ble_eq_true rfl) (lit_args _) ?_
  refine WC.seq ?_
  refine WC.region ?_
  refine WL.lv rfl (LV.asg rfl) ?_
  refine WL.nil (thenQ.n ?_)
  refine WC.block ?_
  refine WC.loop (fun m_ f_ w_ => ∃ (i : Int) (ys : List Nat), (0 ≤ i) ∧ (i ≤ k) ∧ (Re xs ys (sw2 a b i)) ∧ SH w S w_ [rowE eF 34 (.slice A n c) ys] ∧ m_ = ((k - i).toNat) ∧ Weak (lit [(0, (.slice A n c)), (1, (.int .i64 a)), (2, (.int .i64 b)), (3, (.int .i64 k)), (4, (.func (.func 57) #[] #[])), (10, (.int .i64 i))]) f_) _ ⟨0, xs, by omega, by omega, (sw2_0 xs a b), hS, rfl, Weak.cons rfl <| Weak.cons rfl <| Weak.cons rfl <| Weak.cons rfl <| Weak.cons rfl <| Weak.cons rfl <| Weak.nil _⟩ ?_
  rintro m1 f1 w1 ⟨i, ys, q0, q1, q2, hL1, rfl, hw1⟩
  refine WC.weak hw1 ?_
  clear hw1
  have hyl_ := q2.len
  iterate 2 refine WC.seq ?_
  refine WC.region ?_
  iterate 2 refine WL.lv rfl (LV.mv rfl) ?_
  refine WL.lv rfl (LV.ltI rfl rfl) ?_
  refine WL.nil (thenQ.n ?_)
  refine WC.condP (p := i < k) rfl (fun hc1 => ?_) (fun hc1 => ?_)
  · skip
    refine WC.skip (thenQ.n ?_)
    refine WC.seq ?_
    refine WC.block ?_
    have hS1 := SH.drew hL1
    refine WC.regionD [21, 23] (fun w_ => KB No w1.drew w_) [(.pure, 0), (.pure, 1), (.pure, 2), (.pure, 3), (.pure, 4), (.pure, 5), (.pure, 6), (.pure, 7), (.pure, 8), (.pure, 9), (.pure, 10), (.pure, 11), (.pure, 12), (.look, 13), (.pure, 14), (.pure, 15), (.pure, 16), (.pure, 17), (.pure, 18), (.look, 19), (.pure, 20), (.forced, 21), (.pure, 22), (.forced, 23)] (by kernel_rfl) (by kernel_rfl) (KB.refl _ _) ?_
    iterate 3 refine WS.pure rfl rfl (fun _ => LV.mv rfl) ?_
    refine WS.pure rfl rfl (fun _ => LV.add rfl rfl (wr64 (by omega) (by omega))) ?_
    iterate 3 refine WS.pure rfl rfl (fun _ => LV.mv rfl) ?_
    refine WS.pure rfl rfl (fun _ => LV.add rfl rfl (wr64 (by omega) (by omega))) ?_
    iterate 3 refine WS.pure rfl rfl (fun _ => LV.mv rfl) ?_
    refine WS.pure rfl rfl (fun _ => LV.add rfl rfl (wr64 (by omega) (by omega))) ?_
    obtain ⟨A1, c1, e1, g1⟩ := St.elt (SH.rd hS1 (.head _)) 0 (b + i) (by omega) (by first | omega | (rw [List.length_set]; omega))
    refine WS.pure rfl rfl (fun _ => LV.idxA Try.underlying60 ti34.sz rfl e1 rfl (by omega) (by first | omega | (rw [List.length_set]; omega))) ?_
    refine WS.look rfl rfl (fun _ hk_ => LV.load1 (v := (.float .f64 (ys.getD (b + i).toNat 0))) Try.underlying34 rfl rfl (g1 _ hk_ 0 _ rfl)) ?_
    iterate 3 refine WS.pure rfl rfl (fun _ => LV.mv rfl) ?_
    refine WS.pure rfl rfl (fun _ => LV.add rfl rfl (wr64 (by omega) (by omega))) ?_
    obtain ⟨A2, c2, e2, g2⟩ := St.elt (SH.rd hS1 (.head _)) 0 (a + i) (by omega) (by first | omega | (rw [List.length_set]; omega))
    refine WS.pure rfl rfl (fun _ => LV.idxA Try.underlying60 ti34.sz rfl e2 rfl (by omega) (by first | omega | (rw [List.length_set]; omega))) ?_
    refine WS.look rfl rfl (fun _ hk_ => LV.load1 (v := (.float .f64 (ys.getD (a + i).toNat 0))) Try.underlying34 rfl rfl (g2 _ hk_ 0 _ rfl)) ?_
    obtain ⟨A3, c3, e3, g3⟩ := St.elt (SH.rd hS1 (.head _)) 0 (a + i) (by omega) (by first | omega | (rw [List.length_set]; omega))
    refine WS.pure rfl rfl (fun _ => LV.idxA Try.underlying60 ti34.sz rfl e3 rfl (by omega) (by first | omega | (rw [List.length_set]; omega))) ?_
    refine WS.xse rfl rfl (XSE.row1 (i := a + i) (o := 0) (k := 0) (ys.getD (b + i).toNat 0) hS1 e3 (by omega) (by first | omega | (rw [List.length_set]; omega)) (by decide) ti34.sz rfl rfl rfl rfl) ?_
    rintro w2 ⟨hS2, hk1⟩
    refine ⟨fun h_ => (by cases h_), ?_⟩
    obtain ⟨A4, c4, e4, g4⟩ := St.elt (SH.rd hS1 (.head _)) 0 (b + i) (by omega) (by first | omega | (rw [List.length_set]; omega))
    refine WS.pure rfl rfl (fun _ => LV.idxA Try.underlying60 ti34.sz rfl e4 rfl (by omega) (by first | omega | (rw [List.length_set]; omega))) ?_
    refine WS.xse rfl rfl (XSE.row1 (i := b + i) (o := 0) (k := 0) (ys.getD (a + i).toNat 0) hS2 e4 (by omega) (by first | omega | (rw [List.length_set]; omega)) (by decide) ti34.sz rfl rfl rfl rfl) ?_
    rintro w3 ⟨hS3, hk2⟩
    refine ⟨fun h_ => (by cases h_), ?_⟩
    refine WS.nil (blockQ.n <| thenQ.n ?_)
    refine WC.region ?_
    refine WL.lv rfl (LV.mv rfl) ?_
    refine WL.lv rfl (LV.add rfl rfl (wr64 (by omega) (by omega))) ?_
    refine WL.lv rfl (LV.asg rfl) ?_
    refine WL.nil (thenQ.n ?_)
    exact ⟨_, by omega, i + 1, ((ys.set (a + i).toNat (ys.getD (b + i).toNat 0)).set (b + i).toNat (ys.getD (a + i).toNat 0)), by omega, by omega, (sw2_step q2 h0 q0 (by omega) (by omega)), hS3, rfl, Weak.cons rfl <| Weak.cons rfl <| Weak.cons rfl <| Weak.cons rfl <| Weak.cons rfl <| Weak.cons rfl <| Weak.nil _⟩
  · skip
    refine WC.exit (thenQ.x <| thenQ.x <| blockQ.hit <| ?_)
    exact ⟨_, fun a ha => res0 rfl, _, rfl, (by rw [show k = i by omega]; exact q2), hL1⟩

theorem rot_calls {w : World} {S : Nat → Prop} {A : Option Addr} {n c : Nat} {xs : List Nat} {a : Int} {m : Int} {b : Int} (hn : xs.length = n) (hS0 : SH w S w [rowE eF 34 (.slice A n c) xs]) (h0 : 0 ≤ a) (ham : a < m) (hmb : m < b) (hb : b ≤ n) (hl : n ≤ 1000000) :
    Calls Try.prog 82 #[(.slice A n c), (.int .i64 a), (.int .i64 m), (.int .i64 b), (.func (.func 57) #[] #[])] w fun e w' => ∃ v, e = .returned v ∧ (fun v w' => ∃ ys : List Nat, v = .tuple #[] ∧ Re xs ys (rho a m b) ∧ SH w S w' [rowE eF 34 (.slice A n c) ys]) v w' := by
  have hS : SH w S w [rowE eF 34 (.slice A n c) xs] := hS0
  refine calls (l := litOf [(.slice A n c), (.int .i64 a), (.int .i64 m), (.int .i64 b), (.func (.func 57) #[] #[])] 0) Try.func82 rfl (n := 58) rfl (Nat.le_of_ble_eq_true rfl) (lit_args _) ?_
  refine WC.seq ?_
  refine WC.region ?_
  iterate 2 refine WL.lv rfl (LV.mv rfl) ?_
  refine WL.lv rfl (LV.sub rfl rfl (wr64 (by omega) (by omega))) ?_
  refine WL.lv rfl (LV.asg rfl) ?_
  refine WL.nil (thenQ.n ?_)
  refine WC.seq ?_
  refine WC.region ?_
  iterate 2 refine WL.lv rfl (LV.mv rfl) ?_
  refine WL.lv rfl (LV.sub rfl rfl (wr64 (by omega) (by omega))) ?_
  refine WL.lv rfl (LV.asg rfl) ?_
  refine WL.nil (thenQ.n ?_)
  refine WC.seq ?_
  refine WC.block ?_
  refine WC.loop (fun m_ f_ w_ => ∃ (i j : Int) (ys : List Nat), (0 < i) ∧ (0 < j) ∧ (i ≤ m - a) ∧ (j ≤ b - m) ∧ (RotTo xs ys a m b i j) ∧ SH w S w_ [rowE eF 34 (.slice A n c) ys] ∧ m_ = ((i + j).toNat) ∧ Weak (lit [(0, (.slice A n c)), (1, (.int .i64 a)), (2, (.int .i64 m)), (3, (.int .i64 b)), (4, (.func (.func 57) #[] #[])), (10, (.int .i64 i)), (11, (.int .i64 j))]) f_) _ ⟨m - a, b - m, xs, by omega, by omega, by omega, by omega, (RotTo.z rfl rfl), hS, rfl, Weak.cons rfl <| Weak.cons rfl <| Weak.cons rfl <| Weak.cons rfl <| Weak.cons rfl <| Weak.cons rfl <| Weak.cons rfl <| Weak.nil _⟩ ?_
  rintro m1 f1 w1 ⟨i, j, ys, q0, q1, q2, q3, q4, hL1, rfl, hw1⟩
  refine WC.weak hw1 ?_
  clear hw1
  have hyl_ := q4.1
  iterate 2 refine WC.seq ?_
  refine WC.region ?_
  iterate 2 refine WL.lv rfl (LV.mv rfl) ?_
  refine WL.lv rfl (LV.neI rfl rfl) ?_
  refine WL.nil (thenQ.n ?_)
  refine WC.condP (p := i ≠ j) rfl (fun hc1 => ?_) (fun hc1 => ?_)
  · skip
    refine WC.skip (thenQ.n ?_)
    refine WC.block ?_
    refine WC.seq ?_
    refine WC.region ?_
    iterate 2 refine WL.lv rfl (LV.mv rfl) ?_
    refine WL.lv rfl (LV.gtI rfl rfl) ?_
    refine WL.nil (thenQ.n ?_)
    refine WC.condP (p := i > j) rfl (fun hc2 => ?_) (fun hc2 => ?_)
    · skip
      refine WC.seq ?_
      refine WC.region ?_
      iterate 3 refine WL.lv rfl (LV.mv rfl) ?_
      refine WL.lv rfl (LV.sub rfl rfl (wr64 (by omega) (by omega))) ?_
      iterate 3 refine WL.lv rfl (LV.mv rfl) ?_
      have hT1 := SH.sub (Es := [_]) hL1
      refine WL.call rfl (XC.fn Try.func83 (by kernel_rfl) rfl rfl rfl) (swr_calls (xs := ys) (n := n) (a := (m - i)) (b := m) (k := j) (by first | assumption | omega) hT1 (by omega) (by omega) (by omega) (by omega) (by omega)) ?_
      rintro v_ w2 ⟨ys1, rfl, hz1, hU1⟩
      have hS1 := SH.back (Es := [_]) hL1 hU1
      refine WL.nil (thenQ.n ?_)
      refine WC.region ?_
      iterate 2 refine WL.lv rfl (LV.mv rfl) ?_
      refine WL.lv rfl (LV.sub rfl rfl (wr64 (by omega) (by omega))) ?_
      refine WL.lv rfl (LV.asg rfl) ?_
      refine WL.nil (blockQ.n <| thenQ.n ?_)
      exact ⟨_, by omega, i - j, j, ys1, by omega, by omega, by omega, by omega, (RotTo.gt q4 (by omega) (by omega) (by omega) hz1), hS1, rfl, Weak.cons rfl <| Weak.cons rfl <| Weak.cons rfl <| Weak.cons rfl <| Weak.cons rfl <| Weak.cons rfl <| Weak.cons rfl <| Weak.nil _⟩
    · skip
      refine WC.seq ?_
      refine WC.region ?_
      iterate 3 refine WL.lv rfl (LV.mv rfl) ?_
      refine WL.lv rfl (LV.sub rfl rfl (wr64 (by omega) (by omega))) ?_
      iterate 2 refine WL.lv rfl (LV.mv rfl) ?_
      refine WL.lv rfl (LV.add rfl rfl (wr64 (by omega) (by omega))) ?_
      refine WL.lv rfl (LV.mv rfl) ?_
      refine WL.lv rfl (LV.sub rfl rfl (wr64 (by omega) (by omega))) ?_
      iterate 2 refine WL.lv rfl (LV.mv rfl) ?_
      have hT2 := SH.sub (Es := [_]) hL1
      refine WL.call rfl (XC.fn Try.func83 (by kernel_rfl) rfl rfl rfl) (swr_calls (xs := ys) (n := n) (a := (m - i)) (b := ((m + j) - i)) (k := i) (by first | assumption | omega) hT2 (by omega) (by omega) (by omega) (by omega) (by omega)) ?_
      rintro v_ w3 ⟨ys2, rfl, hz2, hU2⟩
      have hS2 := SH.back (Es := [_]) hL1 hU2
      refine WL.nil (thenQ.n ?_)
      refine WC.region ?_
      iterate 2 refine WL.lv rfl (LV.mv rfl) ?_
      refine WL.lv rfl (LV.sub rfl rfl (wr64 (by omega) (by omega))) ?_
      refine WL.lv rfl (LV.asg rfl) ?_
      refine WL.nil (blockQ.n <| thenQ.n ?_)
      exact ⟨_, by omega, i, j - i, ys2, by omega, by omega, by omega, by omega, (RotTo.lt q4 (by omega) (by omega) (by omega) hz2), hS2, rfl, Weak.cons rfl <| Weak.cons rfl <| Weak.cons rfl <| Weak.cons rfl <| Weak.cons rfl <| Weak.cons rfl <| Weak.cons rfl <| Weak.nil _⟩
  · skip
    refine WC.exit (thenQ.x <| thenQ.x <| blockQ.hit <| thenQ.n ?_)
    refine WC.region ?_
    iterate 3 refine WL.lv rfl (LV.mv rfl) ?_
    refine WL.lv rfl (LV.sub rfl rfl (wr64 (by omega) (by omega))) ?_
    iterate 3 refine WL.lv rfl (LV.mv rfl) ?_
    have hT3 := SH.sub (Es := [_]) hL1
    refine WL.call rfl (XC.fn Try.func83 (by kernel_rfl) rfl rfl rfl) (swr_calls (xs := ys) (n := n) (a := (m - i)) (b := m) (k := i) (by first | assumption | omega) hT3 (by omega) (by omega) (by omega) (by omega) (by omega)) ?_
    rintro v_ w4 ⟨ys3, rfl, hz3, hU3⟩
    have hS3 := SH.back (Es := [_]) hL1 hU3
    refine WL.nil (?_)
    exact ⟨_, fun a ha => res0 rfl, _, rfl, RotTo.fin q4 (by omega) hz3, hS3⟩

theorem insm_calls {w : World} {S : Nat → Prop} {A : Option Addr} {n c : Nat} {xs : List Nat} {a : Int} {b : Int} (hn : xs.length = n) (hS0 : SH w S w [rowE eF 34 (.slice A n c) xs]) (h0 : 0 ≤ a) (hab : a ≤ b) (hb : b ≤ n) (hl : n ≤ 1000000) (hp : ∀ x ∈ xs, W6 x) :
    Calls Try.prog 79 #[(.slice A n c), (.int .i64 a), (.int .i64 b), (.func (.func 57) #[] #[])] w fun e w' => ∃ v, e = .returned v ∧ (fun v w' => ∃ ys : List Nat, v = .tuple #[] ∧ MG xs ys a b ∧ SRT ys a b ∧ SH w S w' [rowE eF 34 (.slice A n c) ys]) v w' := by
  have hS : SH w S w [rowE eF 34 (.slice A n c) xs] := hS0
  refine calls (l := litOf [(.slice A n c), (.int .i64 a), (.int .i64 b), (.func (.func 57) #[] #[])] 0) Try.func79 rfl (n := 53) rfl (Nat.le_of_ble_eq_true rfl) (lit_args _) ?_
  refine WC.seq ?_
  refine WC.region ?_
  refine WL.lv rfl (LV.mv rfl) ?_
  refine WL.lv rfl (LV.add rfl rfl (wr64 (by omega) (by omega))) ?_
  refine WL.lv rfl (LV.asg rfl) ?_
  refine WL.nil (thenQ.n ?_)
  refine WC.block ?_
  refine WC.loop (fun m_ f_ w_ => ∃ (i : Int) (ys : List Nat), (a + 1 ≤ i) ∧ (i ≤ b ∨ i = a + 1) ∧ (MG xs ys a b) ∧ (SRT ys a i) ∧ SH w S w_ [rowE eF 34 (.slice A n c) ys] ∧ m_ = ((b - i).toNat) ∧ Weak (lit [(0, (.slice A n c)), (1, (.int .i64 a)), (2, (.int .i64 b)), (3, (.func (.func 57) #[] #[])), (8, (.int .i64 i))]) f_) _ ⟨a + 1, xs, by omega, by omega, (MG.refl _ _ _), (SRT.one _ (by omega)), hS, rfl, Weak.cons rfl <| Weak.cons rfl <| Weak.cons rfl <| Weak.cons rfl <| Weak.cons rfl <| Weak.nil _⟩ ?_
  rintro m1 f1 w1 ⟨i, ys, q0, q1, q2, q3, hL1, rfl, hw1⟩
  refine WC.weak hw1 ?_
  clear hw1
  have hyl_ := q2.len
  iterate 2 refine WC.seq ?_
  refine WC.region ?_
  iterate 2 refine WL.lv rfl (LV.mv rfl) ?_
  refine WL.lv rfl (LV.ltI rfl rfl) ?_
  refine WL.nil (thenQ.n ?_)
  refine WC.condP (p := i < b) rfl (fun hc1 => ?_) (fun hc1 => ?_)
  · skip
    refine WC.skip (thenQ.n ?_)
    refine WC.seq ?_
    refine WC.block ?_
    refine WC.seq ?_
    refine WC.region ?_
    refine WL.lv rfl (LV.mv rfl) ?_
    refine WL.lv rfl (LV.asg rfl) ?_
    refine WL.nil (thenQ.n ?_)
    refine WC.block ?_
    refine WC.loop (fun m_ f_ w_ => ∃ (j : Int) (zs : List Nat), (a ≤ j) ∧ (j ≤ i) ∧ (MG xs zs a b) ∧ (SrtX zs a i j) ∧ SH w S w_ [rowE eF 34 (.slice A n c) zs] ∧ m_ = ((j - a).toNat) ∧ Weak (lit [(0, (.slice A n c)), (1, (.int .i64 a)), (2, (.int .i64 b)), (3, (.func (.func 57) #[] #[])), (8, (.int .i64 i)), (9, (.int .i64 j))]) f_) _ ⟨i, ys, by omega, by omega, q2, (SrtX.z q3), hL1, rfl, Weak.cons rfl <| Weak.cons rfl <| Weak.cons rfl <| Weak.cons rfl <| Weak.cons rfl <| Weak.cons rfl <| Weak.nil _⟩ ?_
    rintro m2 f2 w2 ⟨j, zs, r0, r1, r2, r3, hL2, rfl, hw2⟩
    refine WC.weak hw2 ?_
    clear hw2
    have hzl_ := r2.len
    have hpz : ∀ x ∈ zs, W6 x := fun x hx => hp x (r2.pm.mem_iff.1 hx)
    iterate 2 refine WC.seq ?_
    have hS1 := SH.drew hL2
    refine WC.regionD [14] (fun w_ => KB No w2.drew w_) [(.pure, 0), (.pure, 1), (.pure, 2), (.pure, 3), (.pure, 4), (.pure, 5), (.pure, 6), (.pure, 7), (.look, 8), (.pure, 9), (.pure, 10), (.pure, 11), (.pure, 12), (.look, 13), (.forced, 14), (.pure, 15), (.pure, 16)] (by kernel_rfl) (by kernel_rfl) (KB.refl _ _) ?_
    iterate 2 refine WS.pure rfl rfl (fun _ => LV.mv rfl) ?_
    rcases Decidable.em (j > a) with hg1 | hg1
    · refine WS.pure rfl rfl (fun _ => LV.as (LV.gtI rfl rfl) (decide_eq_true hg1)) ?_
      iterate 4 refine WS.pure rfl rfl (fun _ => LV.mv rfl) ?_
      obtain ⟨A1, c1, e1, g1⟩ := St.elt (SH.rd hS1 (.head _)) 0 j (by omega) (by omega)
      refine WS.pure rfl rfl (fun _ => LV.idxA Try.underlying60 ti34.sz rfl e1 rfl (by omega) (by omega)) ?_
      refine WS.look rfl rfl (fun _ hk_ => LV.load1 (v := (.float .f64 (zs.getD (j).toNat 0))) Try.underlying34 rfl rfl (g1 _ hk_ 0 _ rfl)) ?_
      iterate 2 refine WS.pure rfl rfl (fun _ => LV.mv rfl) ?_
      refine WS.pure rfl rfl (fun _ => LV.sub rfl rfl (wr64 (by omega) (by omega))) ?_
      obtain ⟨A2, c2, e2, g2⟩ := St.elt (SH.rd hS1 (.head _)) 0 (j - 1) (by omega) (by omega)
      refine WS.pure rfl rfl (fun _ => LV.idxA Try.underlying60 ti34.sz rfl e2 rfl (by omega) (by omega)) ?_
      refine WS.look rfl rfl (fun _ hk_ => LV.load1 (v := (.float .f64 (zs.getD (j - 1).toNat 0))) Try.underlying34 rfl rfl (g2 _ hk_ 0 _ rfl)) ?_
      refine WS.call rfl rfl (XC.fn Try.func57 (by kernel_rfl) rfl rfl rfl) (order_calls (a := (zs.getD (j).toNat 0)) (b := (zs.getD (j - 1).toNat 0)) (by first | assumption | omega | exact hp _ (getD_mem (by omega)) | exact hpz _ (getD_mem (by omega))) (by first | assumption | omega | exact hp _ (getD_mem (by omega)) | exact hpz _ (getD_mem (by omega)))) ?_
      rintro v_ w3 ⟨rfl, hk1⟩
      have hS2 := SH.same hS1 hk1
      have ho_ := ord_is' (zs.getD (j).toNat 0) (zs.getD (j - 1).toNat 0)
      refine ⟨fun h_ => (by cases h_), ?_⟩
      refine WS.pure rfl rfl (fun _ => LV.ltI rfl rfl) ?_
      refine WS.pure rfl rfl (fun _ => LV.pickT rfl rfl) ?_
      refine WS.nil (thenQ.n ?_)
      refine WC.condP (p := (ORD (zs.getD (j).toNat 0) (zs.getD (j - 1).toNat 0)) < 0) rfl (fun hc2 => ?_) (fun hc2 => ?_)
      · skip
        refine WC.skip (thenQ.n ?_)
        refine WC.seq ?_
        refine WC.block ?_
        have hS3 := SH.drew hS2
        refine WC.regionD [15, 17] (fun w_ => KB No w3.drew w_) [(.pure, 0), (.pure, 1), (.pure, 2), (.pure, 3), (.pure, 4), (.pure, 5), (.pure, 6), (.pure, 7), (.pure, 8), (.look, 9), (.pure, 10), (.pure, 11), (.pure, 12), (.look, 13), (.pure, 14), (.forced, 15), (.pure, 16), (.forced, 17)] (by kernel_rfl) (by kernel_rfl) (KB.refl _ _) ?_
        iterate 4 refine WS.pure rfl rfl (fun _ => LV.mv rfl) ?_
        refine WS.pure rfl rfl (fun _ => LV.sub rfl rfl (wr64 (by omega) (by omega))) ?_
        iterate 2 refine WS.pure rfl rfl (fun _ => LV.mv rfl) ?_
        refine WS.pure rfl rfl (fun _ => LV.sub rfl rfl (wr64 (by omega) (by omega))) ?_
        obtain ⟨A3, c3, e3, g3⟩ := St.elt (SH.rd hS3 (.head _)) 0 (j - 1) (by omega) (by first | omega | (rw [List.length_set]; omega))
        refine WS.pure rfl rfl (fun _ => LV.idxA Try.underlying60 ti34.sz rfl e3 rfl (by omega) (by first | omega | (rw [List.length_set]; omega))) ?_
        refine WS.look rfl rfl (fun _ hk_ => LV.load1 (v := (.float .f64 (zs.getD (j - 1).toNat 0))) Try.underlying34 rfl rfl (g3 _ hk_ 0 _ rfl)) ?_
        iterate 2 refine WS.pure rfl rfl (fun _ => LV.mv rfl) ?_
        obtain ⟨A4, c4, e4, g4⟩ := St.elt (SH.rd hS3 (.head _)) 0 j (by omega) (by first | omega | (rw [List.length_set]; omega))
        refine WS.pure rfl rfl (fun _ => LV.idxA Try.underlying60 ti34.sz rfl e4 rfl (by omega) (by first | omega | (rw [List.length_set]; omega))) ?_
        refine WS.look rfl rfl (fun _ hk_ => LV.load1 (v := (.float .f64 (zs.getD (j).toNat 0))) Try.underlying34 rfl rfl (g4 _ hk_ 0 _ rfl)) ?_
        obtain ⟨A5, c5, e5, g5⟩ := St.elt (SH.rd hS3 (.head _)) 0 j (by omega) (by first | omega | (rw [List.length_set]; omega))
        refine WS.pure rfl rfl (fun _ => LV.idxA Try.underlying60 ti34.sz rfl e5 rfl (by omega) (by first | omega | (rw [List.length_set]; omega))) ?_
        refine WS.xse rfl rfl (XSE.row1 (i := j) (o := 0) (k := 0) (zs.getD (j - 1).toNat 0) hS3 e5 (by omega) (by first | omega | (rw [List.length_set]; omega)) (by decide) ti34.sz rfl rfl rfl rfl) ?_
        rintro w4 ⟨hS4, hk2⟩
        refine ⟨fun h_ => (by cases h_), ?_⟩
        obtain ⟨A6, c6, e6, g6⟩ := St.elt (SH.rd hS3 (.head _)) 0 (j - 1) (by omega) (by first | omega | (rw [List.length_set]; omega))
        refine WS.pure rfl rfl (fun _ => LV.idxA Try.underlying60 ti34.sz rfl e6 rfl (by omega) (by first | omega | (rw [List.length_set]; omega))) ?_
        refine WS.xse rfl rfl (XSE.row1 (i := j - 1) (o := 0) (k := 0) (zs.getD (j).toNat 0) hS4 e6 (by omega) (by first | omega | (rw [List.length_set]; omega)) (by decide) ti34.sz rfl rfl rfl rfl) ?_
        rintro w5 ⟨hS5, hk3⟩
        refine ⟨fun h_ => (by cases h_), ?_⟩
        refine WS.nil (blockQ.n <| thenQ.n ?_)
        refine WC.region ?_
        refine WL.lv rfl (LV.mv rfl) ?_
        refine WL.lv rfl (LV.sub rfl rfl (wr64 (by omega) (by omega))) ?_
        refine WL.lv rfl (LV.asg rfl) ?_
        refine WL.nil (thenQ.n ?_)
        exact ⟨_, by omega, j - 1, ((zs.set (j).toNat (zs.getD (j - 1).toNat 0)).set (j - 1).toNat (zs.getD (j).toNat 0)), by omega, by omega, (swp_mg r2 h0 (by omega) (by omega) (by omega) (by omega) (by omega)), (r3.step h0 (by omega) r1 (by omega) (by omega)), hS5, rfl, Weak.cons rfl <| Weak.cons rfl <| Weak.cons rfl <| Weak.cons rfl <| Weak.cons rfl <| Weak.cons rfl <| Weak.nil _⟩
      · skip
        refine WC.exit (thenQ.x <| thenQ.x <| blockQ.hit <| blockQ.n <| thenQ.n ?_)
        refine WC.region ?_
        refine WL.lv rfl (LV.mv rfl) ?_
        refine WL.lv rfl (LV.add rfl rfl (wr64 (by omega) (by omega))) ?_
        refine WL.lv rfl (LV.asg rfl) ?_
        refine WL.nil (thenQ.n ?_)
        exact ⟨_, by omega, i + 1, zs, by omega, by omega, r2, (r3.fin r0 r1 (by omega)), hS2, rfl, Weak.cons rfl <| Weak.cons rfl <| Weak.cons rfl <| Weak.cons rfl <| Weak.cons rfl <| Weak.nil _⟩
    · refine WS.pure rfl rfl (fun _ => LV.as (LV.gtI rfl rfl) (decide_eq_false hg1)) ?_
      refine WS.pure rfl rfl (fun _ => LV.mv rfl) ?_
      iterate 4 refine WS.off rfl rfl ?_
      refine WS.offL rfl rfl ?_
      iterate 4 refine WS.off rfl rfl ?_
      refine WS.offL rfl rfl ?_
      refine WS.offF rfl rfl (fun h_ => (by cases h_)) ?_
      refine WS.off rfl rfl ?_
      refine WS.pure rfl rfl (fun _ => LV.pickF rfl rfl) ?_
      refine WS.nil (thenQ.n ?_)
      refine WC.condF rfl ?_
      refine WC.exit (thenQ.x <| thenQ.x <| blockQ.hit <| blockQ.n <| thenQ.n ?_)
      refine WC.region ?_
      refine WL.lv rfl (LV.mv rfl) ?_
      refine WL.lv rfl (LV.add rfl rfl (wr64 (by omega) (by omega))) ?_
      refine WL.lv rfl (LV.asg rfl) ?_
      refine WL.nil (thenQ.n ?_)
      exact ⟨_, by omega, i + 1, zs, by omega, by omega, r2, (r3.fin r0 r1 (by omega)), hS1, rfl, Weak.cons rfl <| Weak.cons rfl <| Weak.cons rfl <| Weak.cons rfl <| Weak.cons rfl <| Weak.nil _⟩
  · skip
    refine WC.exit (thenQ.x <| thenQ.x <| blockQ.hit <| ?_)
    exact ⟨_, fun a ha => res0 rfl, _, rfl, q2, q3.sub (Int.le_refl _) (by omega), hL1⟩

def SymN (N : Nat) : Prop := ∀ {w : World} {S : Nat → Prop} {A : Option Addr} {n c : Nat} {xs : List Nat} {a : Int} {m : Int} {b : Int} (hn : xs.length = n) (hS0 : SH w S w [rowE eF 34 (.slice A n c) xs]) (h0 : 0 ≤ a) (ham : a < m) (hmb : m < b) (hb : b ≤ n) (hl : n ≤ 1000000) (hp : ∀ x ∈ xs, W6 x) (hs1 : SRT xs a m) (hs2 : SRT xs m b) (hN : (b - a).toNat < N), Calls Try.prog 80 #[(.slice A n c), (.int .i64 a), (.int .i64 m), (.int .i64 b), (.func (.func 57) #[] #[])] w fun e w' => ∃ v, e = .returned v ∧ (fun v w' => ∃ ys : List Nat, v = .tuple #[] ∧ MG xs ys a b ∧ SRT ys a b ∧ SH w S w' [rowE eF 34 (.slice A n c) ys]) v w'

set_option maxHeartbeats 4000000 in
theorem sym_calls_step {N : Nat} (IH : SymN N) {w : World} {S : Nat → Prop} {A : Option Addr} {n c : Nat} {xs : List Nat} {a : Int} {m : Int} {b : Int} (hn : xs.length = n) (hS0 : SH w S w [rowE eF 34 (.slice A n c) xs]) (h0 : 0 ≤ a) (ham : a < m) (hmb : m < b) (hb : b ≤ n) (hl : n ≤ 1000000) (hp : ∀ x ∈ xs, W6 x) (hs1 : SRT xs a m) (hs2 : SRT xs m b) (hN : (b - a).toNat ≤ N) :
    Calls Try.prog 80 #[(.slice A n c), (.int .i64 a), (.int .i64 m), (.int .i64 b), (.func (.func 57) #[] #[])] w fun e w' => ∃ v, e = .returned v ∧ (fun v w' => ∃ ys : List Nat, v = .tuple #[] ∧ MG xs ys a b ∧ SRT ys a b ∧ SH w S w' [rowE eF 34 (.slice A n c) ys]) v w' := by
  have hS : SH w S w [rowE eF 34 (.slice A n c) xs] := hS0
  refine calls (l := litOf [(.slice A n c), (.int .i64 a), (.int .i64 m), (.int .i64 b), (.func (.func 57) #[] #[])] 0) Try.func80 rfl (n := 220) rfl (Nat.le_of_ble_eq_true rfl) (lit_args _) ?_
  iterate 2 refine WC.seq ?_
  refine WC.region ?_
  iterate 2 refine WL.lv rfl (LV.mv rfl) ?_
  refine WL.lv rfl (LV.sub rfl rfl (wr64 (by omega) (by omega))) ?_
  refine WL.lv rfl (LV.eqI rfl rfl) ?_
  refine WL.nil (thenQ.n ?_)
  refine WC.condP (p := (m - a) = 1) rfl (fun hc1 => ?_) (fun hc1 => ?_)
  · skip
    refine WC.seq ?_
    refine WC.region ?_
    refine WL.lv rfl (LV.mv rfl) ?_
    refine WL.lv rfl (LV.asg rfl) ?_
    refine WL.nil (thenQ.n ?_)
    refine WC.seq ?_
    refine WC.region ?_
    refine WL.lv rfl (LV.mv rfl) ?_
    refine WL.lv rfl (LV.asg rfl) ?_
    refine WL.nil (thenQ.n ?_)
    refine WC.seq ?_
    refine WC.block ?_
    refine WC.loop (fun m_ f_ w_ => ∃ (i j : Int), (m ≤ i) ∧ (i ≤ j) ∧ (i ≤ b) ∧ (j ≤ b) ∧ (∀ t : Int, m ≤ t → t < i → tk (xs.getD t.toNat 0) < tk (xs.getD a.toNat 0)) ∧ (∀ t : Int, j ≤ t → t < b → tk (xs.getD a.toNat 0) ≤ tk (xs.getD t.toNat 0)) ∧ SH w S w_ [rowE eF 34 (.slice A n c) xs] ∧ m_ = ((j - i).toNat) ∧ Weak (lit [(0, (.slice A n c)), (1, (.int .i64 a)), (2, (.int .i64 m)), (3, (.int .i64 b)), (4, (.func (.func 57) #[] #[])), (10, (.int .i64 i)), (11, (.int .i64 j))]) f_) _ ⟨m, b, by omega, by omega, by omega, by omega, (fun t h1_ h2_ => by omega), (fun t h1_ h2_ => by omega), hS, rfl, Weak.cons rfl <| Weak.cons rfl <| Weak.cons rfl <| Weak.cons rfl <| Weak.cons rfl <| Weak.cons rfl <| Weak.cons rfl <| Weak.nil _⟩ ?_
    rintro m1 f1 w1 ⟨i, j, i0, i1, i2, i2b, i3, i4, hL1, rfl, hw1⟩
    refine WC.weak hw1 ?_
    clear hw1
    iterate 2 refine WC.seq ?_
    refine WC.region ?_
    iterate 2 refine WL.lv rfl (LV.mv rfl) ?_
    refine WL.lv rfl (LV.ltI rfl rfl) ?_
    refine WL.nil (thenQ.n ?_)
    refine WC.condP (p := i < j) rfl (fun hc2 => ?_) (fun hc2 => ?_)
    · skip
      refine WC.skip (thenQ.n ?_)
      refine WC.block ?_
      refine WC.seq ?_
      refine WC.region ?_
      iterate 2 refine WL.lv rfl (LV.mv rfl) ?_
      refine WL.lv rfl (LV.add rfl rfl (wr64 (by omega) (by omega))) ?_
      refine WL.lv rfl (LV.cvtI Try.underlying3 Try.underlying85 rfl (wrU64 (by omega) (by omega))) ?_
      refine WL.lv rfl (LV.shr rfl rfl (by decide) (shr1 (by omega))) ?_
      refine WL.lv rfl (LV.cvtI Try.underlying85 Try.underlying3 rfl (wr64 (by omega) (by omega))) ?_
      refine WL.lv rfl (LV.asg rfl) ?_
      refine WL.nil (thenQ.n ?_)
      refine WC.seq ?_
      have hS1 := SH.drew hL1
      refine WC.regionD [9] (fun w_ => KB No w1.drew w_) [(.pure, 0), (.pure, 1), (.pure, 2), (.pure, 3), (.look, 4), (.pure, 5), (.pure, 6), (.pure, 7), (.look, 8), (.forced, 9), (.pure, 10)] (by kernel_rfl) (by kernel_rfl) (KB.refl _ _) ?_
      iterate 3 refine WS.pure rfl rfl (fun _ => LV.mv rfl) ?_
      obtain ⟨A1, c1, e1, g1⟩ := St.elt (SH.rd hS1 (.head _)) 0 ((i + j) / 2) (by omega) (by omega)
      refine WS.pure rfl rfl (fun _ => LV.idxA Try.underlying60 ti34.sz rfl e1 rfl (by omega) (by omega)) ?_
      refine WS.look rfl rfl (fun _ hk_ => LV.load1 (v := (.float .f64 (xs.getD ((i + j) / 2).toNat 0))) Try.underlying34 rfl rfl (g1 _ hk_ 0 _ rfl)) ?_
      iterate 2 refine WS.pure rfl rfl (fun _ => LV.mv rfl) ?_
      obtain ⟨A2, c2, e2, g2⟩ := St.elt (SH.rd hS1 (.head _)) 0 a (by omega) (by omega)
      refine WS.pure rfl rfl (fun _ => LV.idxA Try.underlying60 ti34.sz rfl e2 rfl (by omega) (by omega)) ?_
      refine WS.look rfl rfl (fun _ hk_ => LV.load1 (v := (.float .f64 (xs.getD (a).toNat 0))) Try.underlying34 rfl rfl (g2 _ hk_ 0 _ rfl)) ?_
      refine WS.call rfl rfl (XC.fn Try.func57 (by kernel_rfl) rfl rfl rfl) (order_calls (a := (xs.getD ((i + j) / 2).toNat 0)) (b := (xs.getD (a).toNat 0)) (by first | assumption | omega | exact hp _ (getD_mem (by omega)) | exact hpz _ (getD_mem (by omega))) (by first | assumption | omega | exact hp _ (getD_mem (by omega)) | exact hpz _ (getD_mem (by omega)))) ?_
      rintro v_ w2 ⟨rfl, hk1⟩
      have hS2 := SH.same hS1 hk1
      have ho_ := ord_is' (xs.getD ((i + j) / 2).toNat 0) (xs.getD (a).toNat 0)
      refine ⟨fun h_ => (by cases h_), ?_⟩
      refine WS.pure rfl rfl (fun _ => LV.ltI rfl rfl) ?_
      refine WS.nil (thenQ.n ?_)
      refine WC.condP (p := (ORD (xs.getD ((i + j) / 2).toNat 0) (xs.getD (a).toNat 0)) < 0) rfl (fun hc3 => ?_) (fun hc3 => ?_)
      · skip
        refine WC.region ?_
        refine WL.lv rfl (LV.mv rfl) ?_
        refine WL.lv rfl (LV.add rfl rfl (wr64 (by omega) (by omega))) ?_
        refine WL.lv rfl (LV.asg rfl) ?_
        refine WL.nil (blockQ.n <| thenQ.n ?_)
        exact ⟨_, by omega, ((i + j) / 2) + 1, j, by omega, by omega, by omega, by omega, (fun t h1_ h2_ => by have h_ := hs2 t ((i + j) / 2) h1_ (by omega) (by omega); omega), i4, hS2, rfl, Weak.cons rfl <| Weak.cons rfl <| Weak.cons rfl <| Weak.cons rfl <| Weak.cons rfl <| Weak.cons rfl <| Weak.cons rfl <| Weak.nil _⟩
      · skip
        refine WC.region ?_
        refine WL.lv rfl (LV.mv rfl) ?_
        refine WL.lv rfl (LV.asg rfl) ?_
        refine WL.nil (blockQ.n <| thenQ.n ?_)
        exact ⟨_, by omega, i, (i + j) / 2, by omega, by omega, by omega, by omega, i3, (fun t h1_ h2_ => by have h_ := hs2 ((i + j) / 2) t (by omega) h1_ h2_; omega), hS2, rfl, Weak.cons rfl <| Weak.cons rfl <| Weak.cons rfl <| Weak.cons rfl <| Weak.cons rfl <| Weak.cons rfl <| Weak.cons rfl <| Weak.nil _⟩
    · skip
      refine WC.exit (thenQ.x <| thenQ.x <| blockQ.hit <| thenQ.n ?_)
      iterate 2 refine WC.seq ?_
      refine WC.region ?_
      refine WL.lv rfl (LV.mv rfl) ?_
      refine WL.lv rfl (LV.asg rfl) ?_
      refine WL.nil (thenQ.n ?_)
      refine WC.block ?_
      refine WC.loop (fun m_ f_ w_ => ∃ (k : Int) (ys : List Nat), (a ≤ k) ∧ (k ≤ i - 1) ∧ (Re xs ys (shl a k)) ∧ SH w S w_ [rowE eF 34 (.slice A n c) ys] ∧ m_ = ((i - k).toNat) ∧ Weak (lit [(0, (.slice A n c)), (1, (.int .i64 a)), (2, (.int .i64 m)), (3, (.int .i64 b)), (4, (.func (.func 57) #[] #[])), (10, (.int .i64 i)), (11, (.int .i64 j)), (13, (.int .i64 k))]) f_) _ ⟨a, xs, by omega, by omega, (shl_0 xs a), hL1, rfl, Weak.cons rfl <| Weak.cons rfl <| Weak.cons rfl <| Weak.cons rfl <| Weak.cons rfl <| Weak.cons rfl <| Weak.cons rfl <| Weak.cons rfl <| Weak.nil _⟩ ?_
      rintro m2 f2 w3 ⟨k, ys, k0, k1, k2, hL2, rfl, hw2⟩
      refine WC.weak hw2 ?_
      clear hw2
      have hyl_ := k2.len
      iterate 2 refine WC.seq ?_
      refine WC.region ?_
      iterate 2 refine WL.lv rfl (LV.mv rfl) ?_
      refine WL.lv rfl (LV.sub rfl rfl (wr64 (by omega) (by omega))) ?_
      refine WL.lv rfl (LV.ltI rfl rfl) ?_
      refine WL.nil (thenQ.n ?_)
      refine WC.condP (p := k < (i - 1)) rfl (fun hc4 => ?_) (fun hc4 => ?_)
      · skip
        refine WC.skip (thenQ.n ?_)
        refine WC.seq ?_
        refine WC.block ?_
        have hS3 := SH.drew hL2
        refine WC.regionD [15, 17] (fun w_ => KB No w3.drew w_) [(.pure, 0), (.pure, 1), (.pure, 2), (.pure, 3), (.pure, 4), (.pure, 5), (.pure, 6), (.pure, 7), (.pure, 8), (.look, 9), (.pure, 10), (.pure, 11), (.pure, 12), (.look, 13), (.pure, 14), (.forced, 15), (.pure, 16), (.forced, 17)] (by kernel_rfl) (by kernel_rfl) (KB.refl _ _) ?_
        iterate 4 refine WS.pure rfl rfl (fun _ => LV.mv rfl) ?_
        refine WS.pure rfl rfl (fun _ => LV.add rfl rfl (wr64 (by omega) (by omega))) ?_
        iterate 2 refine WS.pure rfl rfl (fun _ => LV.mv rfl) ?_
        refine WS.pure rfl rfl (fun _ => LV.add rfl rfl (wr64 (by omega) (by omega))) ?_
        obtain ⟨A3, c3, e3, g3⟩ := St.elt (SH.rd hS3 (.head _)) 0 (k + 1) (by omega) (by first | omega | (rw [List.length_set]; omega))
        refine WS.pure rfl rfl (fun _ => LV.idxA Try.underlying60 ti34.sz rfl e3 rfl (by omega) (by first | omega | (rw [List.length_set]; omega))) ?_
        refine WS.look rfl rfl (fun _ hk_ => LV.load1 (v := (.float .f64 (ys.getD (k + 1).toNat 0))) Try.underlying34 rfl rfl (g3 _ hk_ 0 _ rfl)) ?_
        iterate 2 refine WS.pure rfl rfl (fun _ => LV.mv rfl) ?_
        obtain ⟨A4, c4, e4, g4⟩ := St.elt (SH.rd hS3 (.head _)) 0 k (by omega) (by first | omega | (rw [List.length_set]; omega))
        refine WS.pure rfl rfl (fun _ => LV.idxA Try.underlying60 ti34.sz rfl e4 rfl (by omega) (by first | omega | (rw [List.length_set]; omega))) ?_
        refine WS.look rfl rfl (fun _ hk_ => LV.load1 (v := (.float .f64 (ys.getD (k).toNat 0))) Try.underlying34 rfl rfl (g4 _ hk_ 0 _ rfl)) ?_
        obtain ⟨A5, c5, e5, g5⟩ := St.elt (SH.rd hS3 (.head _)) 0 k (by omega) (by first | omega | (rw [List.length_set]; omega))
        refine WS.pure rfl rfl (fun _ => LV.idxA Try.underlying60 ti34.sz rfl e5 rfl (by omega) (by first | omega | (rw [List.length_set]; omega))) ?_
        refine WS.xse rfl rfl (XSE.row1 (i := k) (o := 0) (k := 0) (ys.getD (k + 1).toNat 0) hS3 e5 (by omega) (by first | omega | (rw [List.length_set]; omega)) (by decide) ti34.sz rfl rfl rfl rfl) ?_
        rintro w4 ⟨hS4, hk2⟩
        refine ⟨fun h_ => (by cases h_), ?_⟩
        obtain ⟨A6, c6, e6, g6⟩ := St.elt (SH.rd hS3 (.head _)) 0 (k + 1) (by omega) (by first | omega | (rw [List.length_set]; omega))
        refine WS.pure rfl rfl (fun _ => LV.idxA Try.underlying60 ti34.sz rfl e6 rfl (by omega) (by first | omega | (rw [List.length_set]; omega))) ?_
        refine WS.xse rfl rfl (XSE.row1 (i := k + 1) (o := 0) (k := 0) (ys.getD (k).toNat 0) hS4 e6 (by omega) (by first | omega | (rw [List.length_set]; omega)) (by decide) ti34.sz rfl rfl rfl rfl) ?_
        rintro w5 ⟨hS5, hk3⟩
        refine ⟨fun h_ => (by cases h_), ?_⟩
        refine WS.nil (blockQ.n <| thenQ.n ?_)
        refine WC.region ?_
        refine WL.lv rfl (LV.mv rfl) ?_
        refine WL.lv rfl (LV.add rfl rfl (wr64 (by omega) (by omega))) ?_
        refine WL.lv rfl (LV.asg rfl) ?_
        refine WL.nil (thenQ.n ?_)
        exact ⟨_, by omega, k + 1, ((ys.set (k).toNat (ys.getD (k + 1).toNat 0)).set (k + 1).toNat (ys.getD (k).toNat 0)), by omega, by omega, (shl_step k2 h0 k0 (by omega)), hS5, rfl, Weak.cons rfl <| Weak.cons rfl <| Weak.cons rfl <| Weak.cons rfl <| Weak.cons rfl <| Weak.cons rfl <| Weak.cons rfl <| Weak.cons rfl <| Weak.nil _⟩
      · skip
        refine WC.exit (thenQ.x <| thenQ.x <| blockQ.hit <| thenQ.n ?_)
        refine WC.ret (thenQ.r <| ?_)
        have hfin1 := ins_l h0 (by omega) i0 i2 hs2 i3 (fun t h1_ h2_ => i4 t (by omega) h2_) (by omega) k2
        exact ⟨_, fun a ha => res0 rfl, _, rfl, hfin1.1, hfin1.2, hL2⟩
  · skip
    refine WC.skip (thenQ.n ?_)
    iterate 2 refine WC.seq ?_
    refine WC.region ?_
    iterate 2 refine WL.lv rfl (LV.mv rfl) ?_
    refine WL.lv rfl (LV.sub rfl rfl (wr64 (by omega) (by omega))) ?_
    refine WL.lv rfl (LV.eqI rfl rfl) ?_
    refine WL.nil (thenQ.n ?_)
    refine WC.condP (p := (b - m) = 1) rfl (fun hc5 => ?_) (fun hc5 => ?_)
    · skip
      refine WC.seq ?_
      refine WC.region ?_
      refine WL.lv rfl (LV.mv rfl) ?_
      refine WL.lv rfl (LV.asg rfl) ?_
      refine WL.nil (thenQ.n ?_)
      refine WC.seq ?_
      refine WC.region ?_
      refine WL.lv rfl (LV.mv rfl) ?_
      refine WL.lv rfl (LV.asg rfl) ?_
      refine WL.nil (thenQ.n ?_)
      refine WC.seq ?_
      refine WC.block ?_
      refine WC.loop (fun m_ f_ w_ => ∃ (i j : Int), (a ≤ i) ∧ (i ≤ j) ∧ (j ≤ m) ∧ (∀ t : Int, a ≤ t → t < i → tk (xs.getD t.toNat 0) ≤ tk (xs.getD m.toNat 0)) ∧ (∀ t : Int, j ≤ t → t < m → tk (xs.getD m.toNat 0) < tk (xs.getD t.toNat 0)) ∧ SH w S w_ [rowE eF 34 (.slice A n c) xs] ∧ m_ = ((j - i).toNat) ∧ Weak (lit [(0, (.slice A n c)), (1, (.int .i64 a)), (2, (.int .i64 m)), (3, (.int .i64 b)), (4, (.func (.func 57) #[] #[])), (14, (.int .i64 i)), (15, (.int .i64 j))]) f_) _ ⟨a, m, by omega, by omega, by omega, (fun t h1_ h2_ => by omega), (fun t h1_ h2_ => by omega), hS, rfl, Weak.cons rfl <| Weak.cons rfl <| Weak.cons rfl <| Weak.cons rfl <| Weak.cons rfl <| Weak.cons rfl <| Weak.cons rfl <| Weak.nil _⟩ ?_
      rintro m3 f3 w6 ⟨i, j, i0, i1, i2, i3, i4, hL3, rfl, hw3⟩
      refine WC.weak hw3 ?_
      clear hw3
      iterate 2 refine WC.seq ?_
      refine WC.region ?_
      iterate 2 refine WL.lv rfl (LV.mv rfl) ?_
      refine WL.lv rfl (LV.ltI rfl rfl) ?_
      refine WL.nil (thenQ.n ?_)
      refine WC.condP (p := i < j) rfl (fun hc6 => ?_) (fun hc6 => ?_)
      · skip
        refine WC.skip (thenQ.n ?_)
        refine WC.block ?_
        refine WC.seq ?_
        refine WC.region ?_
        iterate 2 refine WL.lv rfl (LV.mv rfl) ?_
        refine WL.lv rfl (LV.add rfl rfl (wr64 (by omega) (by omega))) ?_
        refine WL.lv rfl (LV.cvtI Try.underlying3 Try.underlying85 rfl (wrU64 (by omega) (by omega))) ?_
        refine WL.lv rfl (LV.shr rfl rfl (by decide) (shr1 (by omega))) ?_
        refine WL.lv rfl (LV.cvtI Try.underlying85 Try.underlying3 rfl (wr64 (by omega) (by omega))) ?_
        refine WL.lv rfl (LV.asg rfl) ?_
        refine WL.nil (thenQ.n ?_)
        refine WC.seq ?_
        have hS6 := SH.drew hL3
        refine WC.regionD [9] (fun w_ => KB No w6.drew w_) [(.pure, 0), (.pure, 1), (.pure, 2), (.pure, 3), (.look, 4), (.pure, 5), (.pure, 6), (.pure, 7), (.look, 8), (.forced, 9), (.pure, 10), (.pure, 11)] (by kernel_rfl) (by kernel_rfl) (KB.refl _ _) ?_
        iterate 3 refine WS.pure rfl rfl (fun _ => LV.mv rfl) ?_
        obtain ⟨A7, c7, e7, g7⟩ := St.elt (SH.rd hS6 (.head _)) 0 m (by omega) (by omega)
        refine WS.pure rfl rfl (fun _ => LV.idxA Try.underlying60 ti34.sz rfl e7 rfl (by omega) (by omega)) ?_
        refine WS.look rfl rfl (fun _ hk_ => LV.load1 (v := (.float .f64 (xs.getD (m).toNat 0))) Try.underlying34 rfl rfl (g7 _ hk_ 0 _ rfl)) ?_
        iterate 2 refine WS.pure rfl rfl (fun _ => LV.mv rfl) ?_
        obtain ⟨A8, c8, e8, g8⟩ := St.elt (SH.rd hS6 (.head _)) 0 ((i + j) / 2) (by omega) (by omega)
        refine WS.pure rfl rfl (fun _ => LV.idxA Try.underlying60 ti34.sz rfl e8 rfl (by omega) (by omega)) ?_
        refine WS.look rfl rfl (fun _ hk_ => LV.load1 (v := (.float .f64 (xs.getD ((i + j) / 2).toNat 0))) Try.underlying34 rfl rfl (g8 _ hk_ 0 _ rfl)) ?_
        refine WS.call rfl rfl (XC.fn Try.func57 (by kernel_rfl) rfl rfl rfl) (order_calls (a := (xs.getD (m).toNat 0)) (b := (xs.getD ((i + j) / 2).toNat 0)) (by first | assumption | omega | exact hp _ (getD_mem (by omega)) | exact hpz _ (getD_mem (by omega))) (by first | assumption | omega | exact hp _ (getD_mem (by omega)) | exact hpz _ (getD_mem (by omega)))) ?_
        rintro v_ w7 ⟨rfl, hk4⟩
        have hS7 := SH.same hS6 hk4
        have ho_ := ord_is' (xs.getD (m).toNat 0) (xs.getD ((i + j) / 2).toNat 0)
        refine ⟨fun h_ => (by cases h_), ?_⟩
        refine WS.pure rfl rfl (fun _ => LV.ltI rfl rfl) ?_
        refine WS.pure rfl rfl (fun _ => LV.notP rfl) ?_
        refine WS.nil (thenQ.n ?_)
        refine WC.condP (p := ¬ ((ORD (xs.getD (m).toNat 0) (xs.getD ((i + j) / 2).toNat 0)) < 0)) rfl (fun hc7 => ?_) (fun hc7 => ?_)
        · skip
          refine WC.region ?_
          refine WL.lv rfl (LV.mv rfl) ?_
          refine WL.lv rfl (LV.add rfl rfl (wr64 (by omega) (by omega))) ?_
          refine WL.lv rfl (LV.asg rfl) ?_
          refine WL.nil (blockQ.n <| thenQ.n ?_)
          exact ⟨_, by omega, ((i + j) / 2) + 1, j, by omega, by omega, by omega, (fun t h1_ h2_ => by have h_ := hs1 t ((i + j) / 2) h1_ (by omega) (by omega); omega), i4, hS7, rfl, Weak.cons rfl <| Weak.cons rfl <| Weak.cons rfl <| Weak.cons rfl <| Weak.cons rfl <| Weak.cons rfl <| Weak.cons rfl <| Weak.nil _⟩
        · skip
          refine WC.region ?_
          refine WL.lv rfl (LV.mv rfl) ?_
          refine WL.lv rfl (LV.asg rfl) ?_
          refine WL.nil (blockQ.n <| thenQ.n ?_)
          exact ⟨_, by omega, i, (i + j) / 2, by omega, by omega, by omega, i3, (fun t h1_ h2_ => by have h_ := hs1 ((i + j) / 2) t (by omega) h1_ h2_; omega), hS7, rfl, Weak.cons rfl <| Weak.cons rfl <| Weak.cons rfl <| Weak.cons rfl <| Weak.cons rfl <| Weak.cons rfl <| Weak.cons rfl <| Weak.nil _⟩
      · skip
        refine WC.exit (thenQ.x <| thenQ.x <| blockQ.hit <| thenQ.n ?_)
        iterate 2 refine WC.seq ?_
        refine WC.region ?_
        refine WL.lv rfl (LV.mv rfl) ?_
        refine WL.lv rfl (LV.asg rfl) ?_
        refine WL.nil (thenQ.n ?_)
        refine WC.block ?_
        refine WC.loop (fun m_ f_ w_ => ∃ (k : Int) (ys : List Nat), (i ≤ k) ∧ (k ≤ m) ∧ (Re xs ys (shr m k)) ∧ SH w S w_ [rowE eF 34 (.slice A n c) ys] ∧ m_ = ((k - i).toNat) ∧ Weak (lit [(0, (.slice A n c)), (1, (.int .i64 a)), (2, (.int .i64 m)), (3, (.int .i64 b)), (4, (.func (.func 57) #[] #[])), (14, (.int .i64 i)), (15, (.int .i64 j)), (17, (.int .i64 k))]) f_) _ ⟨m, xs, by omega, by omega, (shr_0 xs m), hL3, rfl, Weak.cons rfl <| Weak.cons rfl <| Weak.cons rfl <| Weak.cons rfl <| Weak.cons rfl <| Weak.cons rfl <| Weak.cons rfl <| Weak.cons rfl <| Weak.nil _⟩ ?_
        rintro m4 f4 w8 ⟨k, ys, k0, k1, k2, hL4, rfl, hw4⟩
        refine WC.weak hw4 ?_
        clear hw4
        have hyl_ := k2.len
        iterate 2 refine WC.seq ?_
        refine WC.region ?_
        iterate 2 refine WL.lv rfl (LV.mv rfl) ?_
        refine WL.lv rfl (LV.gtI rfl rfl) ?_
        refine WL.nil (thenQ.n ?_)
        refine WC.condP (p := k > i) rfl (fun hc8 => ?_) (fun hc8 => ?_)
        · skip
          refine WC.skip (thenQ.n ?_)
          refine WC.seq ?_
          refine WC.block ?_
          have hS8 := SH.drew hL4
          refine WC.regionD [15, 17] (fun w_ => KB No w8.drew w_) [(.pure, 0), (.pure, 1), (.pure, 2), (.pure, 3), (.pure, 4), (.pure, 5), (.pure, 6), (.pure, 7), (.pure, 8), (.look, 9), (.pure, 10), (.pure, 11), (.pure, 12), (.look, 13), (.pure, 14), (.forced, 15), (.pure, 16), (.forced, 17)] (by kernel_rfl) (by kernel_rfl) (KB.refl _ _) ?_
          iterate 4 refine WS.pure rfl rfl (fun _ => LV.mv rfl) ?_
          refine WS.pure rfl rfl (fun _ => LV.sub rfl rfl (wr64 (by omega) (by omega))) ?_
          iterate 2 refine WS.pure rfl rfl (fun _ => LV.mv rfl) ?_
          refine WS.pure rfl rfl (fun _ => LV.sub rfl rfl (wr64 (by omega) (by omega))) ?_
          obtain ⟨A9, c9, e9, g9⟩ := St.elt (SH.rd hS8 (.head _)) 0 (k - 1) (by omega) (by first | omega | (rw [List.length_set]; omega))
          refine WS.pure rfl rfl (fun _ => LV.idxA Try.underlying60 ti34.sz rfl e9 rfl (by omega) (by first | omega | (rw [List.length_set]; omega))) ?_
          refine WS.look rfl rfl (fun _ hk_ => LV.load1 (v := (.float .f64 (ys.getD (k - 1).toNat 0))) Try.underlying34 rfl rfl (g9 _ hk_ 0 _ rfl)) ?_
          iterate 2 refine WS.pure rfl rfl (fun _ => LV.mv rfl) ?_
          obtain ⟨A10, c10, e10, g10⟩ := St.elt (SH.rd hS8 (.head _)) 0 k (by omega) (by first | omega | (rw [List.length_set]; omega))
          refine WS.pure rfl rfl (fun _ => LV.idxA Try.underlying60 ti34.sz rfl e10 rfl (by omega) (by first | omega | (rw [List.length_set]; omega))) ?_
          refine WS.look rfl rfl (fun _ hk_ => LV.load1 (v := (.float .f64 (ys.getD (k).toNat 0))) Try.underlying34 rfl rfl (g10 _ hk_ 0 _ rfl)) ?_
          obtain ⟨A11, c11, e11, g11⟩ := St.elt (SH.rd hS8 (.head _)) 0 k (by omega) (by first | omega | (rw [List.length_set]; omega))
          refine WS.pure rfl rfl (fun _ => LV.idxA Try.underlying60 ti34.sz rfl e11 rfl (by omega) (by first | omega | (rw [List.length_set]; omega))) ?_
          refine WS.xse rfl rfl (XSE.row1 (i := k) (o := 0) (k := 0) (ys.getD (k - 1).toNat 0) hS8 e11 (by omega) (by first | omega | (rw [List.length_set]; omega)) (by decide) ti34.sz rfl rfl rfl rfl) ?_
          rintro w9 ⟨hS9, hk5⟩
          refine ⟨fun h_ => (by cases h_), ?_⟩
          obtain ⟨A12, c12, e12, g12⟩ := St.elt (SH.rd hS8 (.head _)) 0 (k - 1) (by omega) (by first | omega | (rw [List.length_set]; omega))
          refine WS.pure rfl rfl (fun _ => LV.idxA Try.underlying60 ti34.sz rfl e12 rfl (by omega) (by first | omega | (rw [List.length_set]; omega))) ?_
          refine WS.xse rfl rfl (XSE.row1 (i := k - 1) (o := 0) (k := 0) (ys.getD (k).toNat 0) hS9 e12 (by omega) (by first | omega | (rw [List.length_set]; omega)) (by decide) ti34.sz rfl rfl rfl rfl) ?_
          rintro w10 ⟨hS10, hk6⟩
          refine ⟨fun h_ => (by cases h_), ?_⟩
          refine WS.nil (blockQ.n <| thenQ.n ?_)
          refine WC.region ?_
          refine WL.lv rfl (LV.mv rfl) ?_
          refine WL.lv rfl (LV.sub rfl rfl (wr64 (by omega) (by omega))) ?_
          refine WL.lv rfl (LV.asg rfl) ?_
          refine WL.nil (thenQ.n ?_)
          exact ⟨_, by omega, k - 1, ((ys.set (k).toNat (ys.getD (k - 1).toNat 0)).set (k - 1).toNat (ys.getD (k).toNat 0)), by omega, by omega, (shr_step k2 (by omega) k1 (by omega)), hS10, rfl, Weak.cons rfl <| Weak.cons rfl <| Weak.cons rfl <| Weak.cons rfl <| Weak.cons rfl <| Weak.cons rfl <| Weak.cons rfl <| Weak.cons rfl <| Weak.nil _⟩
        · skip
          refine WC.exit (thenQ.x <| thenQ.x <| blockQ.hit <| thenQ.n ?_)
          refine WC.ret (thenQ.r <| ?_)
          have hfin2 := ins_r h0 (by omega) i0 (by omega) hs1 i3 (fun t h1_ h2_ => i4 t (by omega) h2_) (by omega) k2
          exact ⟨_, fun a ha => res0 rfl, _, rfl, hfin2.1, hfin2.2, hL4⟩
    · skip
      refine WC.skip (thenQ.n ?_)
      refine WC.seq ?_
      refine WC.region ?_
      iterate 2 refine WL.lv rfl (LV.mv rfl) ?_
      refine WL.lv rfl (LV.add rfl rfl (wr64 (by omega) (by omega))) ?_
      refine WL.lv rfl (LV.cvtI Try.underlying3 Try.underlying85 rfl (wrU64 (by omega) (by omega))) ?_
      refine WL.lv rfl (LV.shr rfl rfl (by decide) (shr1 (by omega))) ?_
      refine WL.lv rfl (LV.cvtI Try.underlying85 Try.underlying3 rfl (wr64 (by omega) (by omega))) ?_
      refine WL.lv rfl (LV.asg rfl) ?_
      refine WL.nil (thenQ.n ?_)
      refine WC.seq ?_
      refine WC.region ?_
      iterate 2 refine WL.lv rfl (LV.mv rfl) ?_
      refine WL.lv rfl (LV.add rfl rfl (wr64 (by omega) (by omega))) ?_
      refine WL.lv rfl (LV.asg rfl) ?_
      refine WL.nil (thenQ.n ?_)
      refine WC.seq ?_
      refine WC.region ?_
      iterate 2 refine WL.lv rfl (LV.asg rfl) ?_
      refine WL.nil (thenQ.n ?_)
      iterate 2 refine WC.seq ?_
      refine WC.region ?_
      iterate 2 refine WL.lv rfl (LV.mv rfl) ?_
      refine WL.lv rfl (LV.gtI rfl rfl) ?_
      refine WL.nil (thenQ.n ?_)
      refine WC.condP (p := m > ((a + b) / 2)) rfl (fun hc9 => ?_) (fun hc9 => ?_)
      · skip
        refine WC.seq ?_
        refine WC.region ?_
        iterate 2 refine WL.lv rfl (LV.mv rfl) ?_
        refine WL.lv rfl (LV.sub rfl rfl (wr64 (by omega) (by omega))) ?_
        refine WL.lv rfl (LV.asg rfl) ?_
        refine WL.nil (thenQ.n ?_)
        refine WC.region ?_
        refine WL.lv rfl (LV.mv rfl) ?_
        refine WL.lv rfl (LV.asg rfl) ?_
        refine WL.nil (thenQ.n ?_)
        refine WC.seq ?_
        refine WC.region ?_
        refine WL.lv rfl (LV.mv rfl) ?_
        refine WL.lv rfl (LV.sub rfl rfl (wr64 (by omega) (by omega))) ?_
        refine WL.lv rfl (LV.asg rfl) ?_
        refine WL.nil (thenQ.n ?_)
        refine WC.seq ?_
        refine WC.block ?_
        refine WC.loop (fun m_ f_ w_ => ∃ (s r : Int), (a ≤ s) ∧ (s ≤ r) ∧ (r ≤ m) ∧ (r ≤ ((a + b) / 2)) ∧ (((a + b) / 2) + m - b ≤ s) ∧ (s = a ∨ s = ((a + b) / 2) + m - b ∨ tk (xs.getD (s - 1).toNat 0) ≤ tk (xs.getD (((a + b) / 2) + m - s).toNat 0)) ∧ (r = m ∨ r = ((a + b) / 2) ∨ tk (xs.getD (((a + b) / 2) + m - 1 - r).toNat 0) < tk (xs.getD r.toNat 0)) ∧ SH w S w_ [rowE eF 34 (.slice A n c) xs] ∧ m_ = ((r - s).toNat) ∧ Weak (lit [(0, (.slice A n c)), (1, (.int .i64 a)), (2, (.int .i64 m)), (3, (.int .i64 b)), (4, (.func (.func 57) #[] #[])), (18, (.int .i64 ((a + b) / 2))), (19, (.int .i64 (((a + b) / 2) + m))), (20, (.int .i64 s)), (21, (.int .i64 r)), (22, (.int .i64 ((((a + b) / 2) + m) - 1)))]) f_) _ ⟨(((a + b) / 2) + m) - b, (a + b) / 2, by omega, by omega, by omega, by omega, by omega, by omega, by omega, hS, rfl, Weak.cons rfl <| Weak.cons rfl <| Weak.cons rfl <| Weak.cons rfl <| Weak.cons rfl <| Weak.cons rfl <| Weak.cons rfl <| Weak.cons rfl <| Weak.cons rfl <| Weak.cons rfl <| Weak.nil _⟩ ?_
        rintro m5 f5 w11 ⟨s, r, t0, t1, t2, t3, t4, t5, t6, hL5, rfl, hw5⟩
        refine WC.weak hw5 ?_
        clear hw5
        iterate 2 refine WC.seq ?_
        refine WC.region ?_
        iterate 2 refine WL.lv rfl (LV.mv rfl) ?_
        refine WL.lv rfl (LV.ltI rfl rfl) ?_
        refine WL.nil (thenQ.n ?_)
        refine WC.condP (p := s < r) rfl (fun hc10 => ?_) (fun hc10 => ?_)
        · skip
          refine WC.skip (thenQ.n ?_)
          refine WC.block ?_
          refine WC.seq ?_
          refine WC.region ?_
          iterate 2 refine WL.lv rfl (LV.mv rfl) ?_
          refine WL.lv rfl (LV.add rfl rfl (wr64 (by omega) (by omega))) ?_
          refine WL.lv rfl (LV.cvtI Try.underlying3 Try.underlying85 rfl (wrU64 (by omega) (by omega))) ?_
          refine WL.lv rfl (LV.shr rfl rfl (by decide) (shr1 (by omega))) ?_
          refine WL.lv rfl (LV.cvtI Try.underlying85 Try.underlying3 rfl (wr64 (by omega) (by omega))) ?_
          refine WL.lv rfl (LV.asg rfl) ?_
          refine WL.nil (thenQ.n ?_)
          refine WC.seq ?_
          have hS11 := SH.drew hL5
          refine WC.regionD [11] (fun w_ => KB No w11.drew w_) [(.pure, 0), (.pure, 1), (.pure, 2), (.pure, 3), (.pure, 4), (.pure, 5), (.look, 6), (.pure, 7), (.pure, 8), (.pure, 9), (.look, 10), (.forced, 11), (.pure, 12), (.pure, 13)] (by kernel_rfl) (by kernel_rfl) (KB.refl _ _) ?_
          iterate 4 refine WS.pure rfl rfl (fun _ => LV.mv rfl) ?_
          refine WS.pure rfl rfl (fun _ => LV.sub rfl rfl (wr64 (by omega) (by omega))) ?_
          obtain ⟨A13, c13, e13, g13⟩ := St.elt (SH.rd hS11 (.head _)) 0 (((((a + b) / 2) + m) - 1) - ((s + r) / 2)) (by omega) (by omega)
          refine WS.pure rfl rfl (fun _ => LV.idxA Try.underlying60 ti34.sz rfl e13 rfl (by omega) (by omega)) ?_
          refine WS.look rfl rfl (fun _ hk_ => LV.load1 (v := (.float .f64 (xs.getD (((((a + b) / 2) + m) - 1) - ((s + r) / 2)).toNat 0))) Try.underlying34 rfl rfl (g13 _ hk_ 0 _ rfl)) ?_
          iterate 2 refine WS.pure rfl rfl (fun _ => LV.mv rfl) ?_
          obtain ⟨A14, c14, e14, g14⟩ := St.elt (SH.rd hS11 (.head _)) 0 ((s + r) / 2) (by omega) (by omega)
          refine WS.pure rfl rfl (fun _ => LV.idxA Try.underlying60 ti34.sz rfl e14 rfl (by omega) (by omega)) ?_
          refine WS.look rfl rfl (fun _ hk_ => LV.load1 (v := (.float .f64 (xs.getD ((s + r) / 2).toNat 0))) Try.underlying34 rfl rfl (g14 _ hk_ 0 _ rfl)) ?_
          refine WS.call rfl rfl (XC.fn Try.func57 (by kernel_rfl) rfl rfl rfl) (order_calls (a := (xs.getD (((((a + b) / 2) + m) - 1) - ((s + r) / 2)).toNat 0)) (b := (xs.getD ((s + r) / 2).toNat 0)) (by first | assumption | omega | exact hp _ (getD_mem (by omega)) | exact hpz _ (getD_mem (by omega))) (by first | assumption | omega | exact hp _ (getD_mem (by omega)) | exact hpz _ (getD_mem (by omega)))) ?_
          rintro v_ w12 ⟨rfl, hk7⟩
          have hS12 := SH.same hS11 hk7
          have ho_ := ord_is' (xs.getD (((((a + b) / 2) + m) - 1) - ((s + r) / 2)).toNat 0) (xs.getD ((s + r) / 2).toNat 0)
          refine ⟨fun h_ => (by cases h_), ?_⟩
          refine WS.pure rfl rfl (fun _ => LV.ltI rfl rfl) ?_
          refine WS.pure rfl rfl (fun _ => LV.notP rfl) ?_
          refine WS.nil (thenQ.n ?_)
          refine WC.condP (p := ¬ ((ORD (xs.getD (((((a + b) / 2) + m) - 1) - ((s + r) / 2)).toNat 0) (xs.getD ((s + r) / 2).toNat 0)) < 0)) rfl (fun hc11 => ?_) (fun hc11 => ?_)
          · skip
            refine WC.region ?_
            refine WL.lv rfl (LV.mv rfl) ?_
            refine WL.lv rfl (LV.add rfl rfl (wr64 (by omega) (by omega))) ?_
            refine WL.lv rfl (LV.asg rfl) ?_
            refine WL.nil (blockQ.n <| thenQ.n ?_)
            exact ⟨_, by omega, ((s + r) / 2) + 1, r, by omega, by omega, by omega, by omega, by omega, (by rw [show ((s + r) / 2) + 1 - 1 = ((s + r) / 2) by omega, show ((a + b) / 2) + m - (((s + r) / 2) + 1) = ((a + b) / 2) + m - 1 - ((s + r) / 2) by omega]; omega), t6, hS12, rfl, Weak.cons rfl <| Weak.cons rfl <| Weak.cons rfl <| Weak.cons rfl <| Weak.cons rfl <| Weak.cons rfl <| Weak.cons rfl <| Weak.cons rfl <| Weak.cons rfl <| Weak.cons rfl <| Weak.nil _⟩
          · skip
            refine WC.region ?_
            refine WL.lv rfl (LV.mv rfl) ?_
            refine WL.lv rfl (LV.asg rfl) ?_
            refine WL.nil (blockQ.n <| thenQ.n ?_)
            exact ⟨_, by omega, s, (s + r) / 2, by omega, by omega, by omega, by omega, by omega, t5, by omega, hS12, rfl, Weak.cons rfl <| Weak.cons rfl <| Weak.cons rfl <| Weak.cons rfl <| Weak.cons rfl <| Weak.cons rfl <| Weak.cons rfl <| Weak.cons rfl <| Weak.cons rfl <| Weak.cons rfl <| Weak.nil _⟩
        · skip
          refine WC.exit (thenQ.x <| thenQ.x <| blockQ.hit <| thenQ.n ?_)
          refine WC.seq ?_
          refine WC.region ?_
          iterate 2 refine WL.lv rfl (LV.mv rfl) ?_
          refine WL.lv rfl (LV.sub rfl rfl (wr64 (by omega) (by omega))) ?_
          refine WL.lv rfl (LV.asg rfl) ?_
          refine WL.nil (thenQ.n ?_)
          iterate 2 refine WC.seq ?_
          refine WC.region ?_
          iterate 2 refine WL.lv rfl (LV.mv rfl) ?_
          rcases Decidable.em (s < m) with hg1 | hg1
          · refine WL.lv rfl (LV.as (LV.ltI rfl rfl) (decide_eq_true hg1)) ?_
            iterate 3 refine WL.lv rfl (LV.mv rfl) ?_
            refine WL.lv rfl (LV.ltI rfl rfl) ?_
            refine WL.lv rfl (LV.pickT rfl rfl) ?_
            refine WL.nil (thenQ.n ?_)
            refine WC.condP (p := m < ((((a + b) / 2) + m) - s)) rfl (fun hc12 => ?_) (fun hc12 => ?_)
            · skip
              refine WC.region ?_
              iterate 5 refine WL.lv rfl (LV.mv rfl) ?_
              have hT1 := SH.sub (Es := [_]) hL5
              refine WL.call rfl (XC.fn Try.func82 (by kernel_rfl) rfl rfl rfl) (rot_calls (xs := xs) (n := n) (a := s) (m := m) (b := ((((a + b) / 2) + m) - s)) (by first | assumption | omega) hT1 (by omega) (by omega) (by omega) (by omega) (by omega)) ?_
              rintro v_ w13 ⟨ys1, rfl, hz1, hU1⟩
              have hS13 := SH.back (Es := [_]) hL5 hU1
              refine WL.nil (thenQ.n ?_)
              iterate 2 refine WC.seq ?_
              refine WC.region ?_
              iterate 2 refine WL.lv rfl (LV.mv rfl) ?_
              have hzz_ : Re xs ys1 (rho s m ((((a + b) / 2) + m) - s)) := hz1
              have hsr_ : s = r := by omega
              have t6_ : s = m ∨ s = ((a + b) / 2) ∨ tk (xs.getD (((a + b) / 2) + m - 1 - s).toNat 0) < tk (xs.getD s.toNat 0) := by rw [hsr_]; exact t6
              obtain ⟨p1_, p2_, p3_, p4_, p5_⟩ := sym_pre (mid := ((a + b) / 2)) (e := ((((a + b) / 2) + m) - s)) h0 hs1 hs2 ham hmb t0 (by omega) (by omega) (by omega) (by omega) t5 t6_ hzz_
              have hxz_ : MG xs ys1 a b := rho_mg h0 t0 (by omega) (by omega) (by omega) hzz_
              have hzl_ := hxz_.len
              rcases Decidable.em (a < s) with hg2 | hg2
              · refine WL.lv rfl (LV.as (LV.ltI rfl rfl) (decide_eq_true hg2)) ?_
                iterate 3 refine WL.lv rfl (LV.mv rfl) ?_
                refine WL.lv rfl (LV.ltI rfl rfl) ?_
                refine WL.lv rfl (LV.pickT rfl rfl) ?_
                refine WL.nil (thenQ.n ?_)
                refine WC.condP (p := s < ((a + b) / 2)) rfl (fun hc13 => ?_) (fun hc13 => ?_)
                · skip
                  refine WC.region ?_
                  iterate 5 refine WL.lv rfl (LV.mv rfl) ?_
                  have hT2 := SH.sub (Es := [_]) hS13
                  refine WL.call rfl (XC.fn Try.func80 (by kernel_rfl) rfl rfl rfl) (IH (xs := ys1) (n := n) (a := a) (m := s) (b := ((a + b) / 2)) (by first | assumption | omega) hT2 (by omega) (by omega) (by omega) (by omega) (by omega) (fun x hx => hp x (hxz_.pm.mem_iff.1 hx)) (p1_) (p2_) (by omega)) ?_
                  rintro v_ w14 ⟨ys2, rfl, hz2, hz3, hU2⟩
                  have hS14 := SH.back (Es := [_]) hS13 hU2
                  refine WL.nil (thenQ.n ?_)
                  refine WC.seq ?_
                  refine WC.region ?_
                  iterate 2 refine WL.lv rfl (LV.mv rfl) ?_
                  have m1_ := hz2
                  have s1_ := hz3
                  have q3_ : SRT ys2 ((a + b) / 2) ((((a + b) / 2) + m) - s) := p3_.mg m1_ (by omega) (by omega)
                  have q4_ : SRT ys2 ((((a + b) / 2) + m) - s) b := p4_.mg m1_ (by omega) (by omega)
                  have hz1l_ := m1_.len
                  rcases Decidable.em (((a + b) / 2) < ((((a + b) / 2) + m) - s)) with hg3 | hg3
                  · refine WL.lv rfl (LV.as (LV.ltI rfl rfl) (decide_eq_true hg3)) ?_
                    iterate 3 refine WL.lv rfl (LV.mv rfl) ?_
                    refine WL.lv rfl (LV.ltI rfl rfl) ?_
                    refine WL.lv rfl (LV.pickT rfl rfl) ?_
                    refine WL.nil (thenQ.n ?_)
                    refine WC.condP (p := ((((a + b) / 2) + m) - s) < b) rfl (fun hc14 => ?_) (fun hc14 => ?_)
                    · skip
                      refine WC.region ?_
                      iterate 5 refine WL.lv rfl (LV.mv rfl) ?_
                      have hT3 := SH.sub (Es := [_]) hS14
                      refine WL.call rfl (XC.fn Try.func80 (by kernel_rfl) rfl rfl rfl) (IH (xs := ys2) (n := n) (a := ((a + b) / 2)) (m := ((((a + b) / 2) + m) - s)) (b := b) (by first | assumption | omega) hT3 (by omega) (by omega) (by omega) (by omega) (by omega) (fun x hx => hp x (hxz_.pm.mem_iff.1 (m1_.pm.mem_iff.1 hx))) (q3_) (q4_) (by omega)) ?_
                      rintro v_ w15 ⟨ys3, rfl, hz4, hz5, hU3⟩
                      have hS15 := SH.back (Es := [_]) hS14 hU3
                      refine WL.nil (?_)
                      have hfin3 := sym_fin (mid := ((a + b) / 2)) h0 (by omega) hxz_ p5_ m1_ s1_ hz4 hz5
                      exact ⟨_, fun a ha => res0 rfl, _, rfl, hfin3.1, hfin3.2, hS15⟩
                    · skip
                      refine WC.skip (?_)
                      have hfin4 := sym_fin (mid := ((a + b) / 2)) h0 (by omega) hxz_ p5_ m1_ s1_ (MG.refl _ _ _) (by first | exact q4_.sub (by omega) (by omega) | exact q3_.sub (by omega) (by omega))
                      exact ⟨_, fun a ha => res0 rfl, _, rfl, hfin4.1, hfin4.2, hS14⟩
                  · refine WL.lv rfl (LV.as (LV.ltI rfl rfl) (decide_eq_false hg3)) ?_
                    refine WL.lv rfl (LV.mv rfl) ?_
                    iterate 3 refine WL.off rfl ?_
                    refine WL.lv rfl (LV.pickF rfl rfl) ?_
                    refine WL.nil (thenQ.n ?_)
                    refine WC.condF rfl ?_
                    refine WC.skip (?_)
                    have hfin5 := sym_fin (mid := ((a + b) / 2)) h0 (by omega) hxz_ p5_ m1_ s1_ (MG.refl _ _ _) (by first | exact q4_.sub (by omega) (by omega) | exact q3_.sub (by omega) (by omega))
                    exact ⟨_, fun a ha => res0 rfl, _, rfl, hfin5.1, hfin5.2, hS14⟩
                · skip
                  refine WC.skip (thenQ.n ?_)
                  refine WC.seq ?_
                  refine WC.region ?_
                  iterate 2 refine WL.lv rfl (LV.mv rfl) ?_
                  have m1_ : MG ys1 ys1 a ((a + b) / 2) := MG.refl _ _ _
                  have s1_ : SRT ys1 a ((a + b) / 2) := by first | exact p2_.sub (by omega) (by omega) | exact p1_.sub (by omega) (by omega)
                  have q3_ : SRT ys1 ((a + b) / 2) ((((a + b) / 2) + m) - s) := p3_.mg m1_ (by omega) (by omega)
                  have q4_ : SRT ys1 ((((a + b) / 2) + m) - s) b := p4_.mg m1_ (by omega) (by omega)
                  have hz1l_ := m1_.len
                  rcases Decidable.em (((a + b) / 2) < ((((a + b) / 2) + m) - s)) with hg4 | hg4
                  · refine WL.lv rfl (LV.as (LV.ltI rfl rfl) (decide_eq_true hg4)) ?_
                    iterate 3 refine WL.lv rfl (LV.mv rfl) ?_
                    refine WL.lv rfl (LV.ltI rfl rfl) ?_
                    refine WL.lv rfl (LV.pickT rfl rfl) ?_
                    refine WL.nil (thenQ.n ?_)
                    refine WC.condP (p := ((((a + b) / 2) + m) - s) < b) rfl (fun hc15 => ?_) (fun hc15 => ?_)
                    · skip
                      refine WC.region ?_
                      iterate 5 refine WL.lv rfl (LV.mv rfl) ?_
                      have hT4 := SH.sub (Es := [_]) hS13
                      refine WL.call rfl (XC.fn Try.func80 (by kernel_rfl) rfl rfl rfl) (IH (xs := ys1) (n := n) (a := ((a + b) / 2)) (m := ((((a + b) / 2) + m) - s)) (b := b) (by first | assumption | omega) hT4 (by omega) (by omega) (by omega) (by omega) (by omega) (fun x hx => hp x (hxz_.pm.mem_iff.1 (m1_.pm.mem_iff.1 hx))) (q3_) (q4_) (by omega)) ?_
                      rintro v_ w16 ⟨ys4, rfl, hz6, hz7, hU4⟩
                      have hS16 := SH.back (Es := [_]) hS13 hU4
                      refine WL.nil (?_)
                      have hfin6 := sym_fin (mid := ((a + b) / 2)) h0 (by omega) hxz_ p5_ m1_ s1_ hz6 hz7
                      exact ⟨_, fun a ha => res0 rfl, _, rfl, hfin6.1, hfin6.2, hS16⟩
                    · skip
                      refine WC.skip (?_)
                      have hfin7 := sym_fin (mid := ((a + b) / 2)) h0 (by omega) hxz_ p5_ m1_ s1_ (MG.refl _ _ _) (by first | exact q4_.sub (by omega) (by omega) | exact q3_.sub (by omega) (by omega))
                      exact ⟨_, fun a ha => res0 rfl, _, rfl, hfin7.1, hfin7.2, hS13⟩
                  · refine WL.lv rfl (LV.as (LV.ltI rfl rfl) (decide_eq_false hg4)) ?_
                    refine WL.lv rfl (LV.mv rfl) ?_
                    iterate 3 refine WL.off rfl ?_
                    refine WL.lv rfl (LV.pickF rfl rfl) ?_
                    refine WL.nil (thenQ.n ?_)
                    refine WC.condF rfl ?_
                    refine WC.skip (?_)
                    have hfin8 := sym_fin (mid := ((a + b) / 2)) h0 (by omega) hxz_ p5_ m1_ s1_ (MG.refl _ _ _) (by first | exact q4_.sub (by omega) (by omega) | exact q3_.sub (by omega) (by omega))
                    exact ⟨_, fun a ha => res0 rfl, _, rfl, hfin8.1, hfin8.2, hS13⟩
              · refine WL.lv rfl (LV.as (LV.ltI rfl rfl) (decide_eq_false hg2)) ?_
                refine WL.lv rfl (LV.mv rfl) ?_
                iterate 3 refine WL.off rfl ?_
                refine WL.lv rfl (LV.pickF rfl rfl) ?_
                refine WL.nil (thenQ.n ?_)
                refine WC.condF rfl ?_
                refine WC.skip (thenQ.n ?_)
                refine WC.seq ?_
                refine WC.region ?_
                iterate 2 refine WL.lv rfl (LV.mv rfl) ?_
                have m1_ : MG ys1 ys1 a ((a + b) / 2) := MG.refl _ _ _
                have s1_ : SRT ys1 a ((a + b) / 2) := by first | exact p2_.sub (by omega) (by omega) | exact p1_.sub (by omega) (by omega)
                have q3_ : SRT ys1 ((a + b) / 2) ((((a + b) / 2) + m) - s) := p3_.mg m1_ (by omega) (by omega)
                have q4_ : SRT ys1 ((((a + b) / 2) + m) - s) b := p4_.mg m1_ (by omega) (by omega)
                have hz1l_ := m1_.len
                rcases Decidable.em (((a + b) / 2) < ((((a + b) / 2) + m) - s)) with hg5 | hg5
                · refine WL.lv rfl (LV.as (LV.ltI rfl rfl) (decide_eq_true hg5)) ?_
                  iterate 3 refine WL.lv rfl (LV.mv rfl) ?_
                  refine WL.lv rfl (LV.ltI rfl rfl) ?_
                  refine WL.lv rfl (LV.pickT rfl rfl) ?_
                  refine WL.nil (thenQ.n ?_)
                  refine WC.condP (p := ((((a + b) / 2) + m) - s) < b) rfl (fun hc16 => ?_) (fun hc16 => ?_)
                  · skip
                    refine WC.region ?_
                    iterate 5 refine WL.lv rfl (LV.mv rfl) ?_
                    have hT5 := SH.sub (Es := [_]) hS13
                    refine WL.call rfl (XC.fn Try.func80 (by kernel_rfl) rfl rfl rfl) (IH (xs := ys1) (n := n) (a := ((a + b) / 2)) (m := ((((a + b) / 2) + m) - s)) (b := b) (by first | assumption | omega) hT5 (by omega) (by omega) (by omega) (by omega) (by omega) (fun x hx => hp x (hxz_.pm.mem_iff.1 (m1_.pm.mem_iff.1 hx))) (q3_) (q4_) (by omega)) ?_
                    rintro v_ w17 ⟨ys5, rfl, hz8, hz9, hU5⟩
                    have hS17 := SH.back (Es := [_]) hS13 hU5
                    refine WL.nil (?_)
                    have hfin9 := sym_fin (mid := ((a + b) / 2)) h0 (by omega) hxz_ p5_ m1_ s1_ hz8 hz9
                    exact ⟨_, fun a ha => res0 rfl, _, rfl, hfin9.1, hfin9.2, hS17⟩
                  · skip
                    refine WC.skip (?_)
                    have hfin10 := sym_fin (mid := ((a + b) / 2)) h0 (by omega) hxz_ p5_ m1_ s1_ (MG.refl _ _ _) (by first | exact q4_.sub (by omega) (by omega) | exact q3_.sub (by omega) (by omega))
                    exact ⟨_, fun a ha => res0 rfl, _, rfl, hfin10.1, hfin10.2, hS13⟩
                · refine WL.lv rfl (LV.as (LV.ltI rfl rfl) (decide_eq_false hg5)) ?_
                  refine WL.lv rfl (LV.mv rfl) ?_
                  iterate 3 refine WL.off rfl ?_
                  refine WL.lv rfl (LV.pickF rfl rfl) ?_
                  refine WL.nil (thenQ.n ?_)
                  refine WC.condF rfl ?_
                  refine WC.skip (?_)
                  have hfin11 := sym_fin (mid := ((a + b) / 2)) h0 (by omega) hxz_ p5_ m1_ s1_ (MG.refl _ _ _) (by first | exact q4_.sub (by omega) (by omega) | exact q3_.sub (by omega) (by omega))
                  exact ⟨_, fun a ha => res0 rfl, _, rfl, hfin11.1, hfin11.2, hS13⟩
            · skip
              refine WC.skip (thenQ.n ?_)
              iterate 2 refine WC.seq ?_
              refine WC.region ?_
              iterate 2 refine WL.lv rfl (LV.mv rfl) ?_
              have hzz_ : Re xs xs (rho s m ((((a + b) / 2) + m) - s)) := rho_id (xs := xs) (by omega)
              have hsr_ : s = r := by omega
              have t6_ : s = m ∨ s = ((a + b) / 2) ∨ tk (xs.getD (((a + b) / 2) + m - 1 - s).toNat 0) < tk (xs.getD s.toNat 0) := by rw [hsr_]; exact t6
              obtain ⟨p1_, p2_, p3_, p4_, p5_⟩ := sym_pre (mid := ((a + b) / 2)) (e := ((((a + b) / 2) + m) - s)) h0 hs1 hs2 ham hmb t0 (by omega) (by omega) (by omega) (by omega) t5 t6_ hzz_
              have hxz_ : MG xs xs a b := rho_mg h0 t0 (by omega) (by omega) (by omega) hzz_
              have hzl_ := hxz_.len
              rcases Decidable.em (a < s) with hg6 | hg6
              · refine WL.lv rfl (LV.as (LV.ltI rfl rfl) (decide_eq_true hg6)) ?_
                iterate 3 refine WL.lv rfl (LV.mv rfl) ?_
                refine WL.lv rfl (LV.ltI rfl rfl) ?_
                refine WL.lv rfl (LV.pickT rfl rfl) ?_
                refine WL.nil (thenQ.n ?_)
                refine WC.condP (p := s < ((a + b) / 2)) rfl (fun hc17 => ?_) (fun hc17 => ?_)
                · skip
                  refine WC.region ?_
                  iterate 5 refine WL.lv rfl (LV.mv rfl) ?_
                  have hT6 := SH.sub (Es := [_]) hL5
                  refine WL.call rfl (XC.fn Try.func80 (by kernel_rfl) rfl rfl rfl) (IH (xs := xs) (n := n) (a := a) (m := s) (b := ((a + b) / 2)) (by first | assumption | omega) hT6 (by omega) (by omega) (by omega) (by omega) (by omega) (fun x hx => hp x (hxz_.pm.mem_iff.1 hx)) (p1_) (p2_) (by omega)) ?_
                  rintro v_ w18 ⟨ys6, rfl, hz10, hz11, hU6⟩
                  have hS18 := SH.back (Es := [_]) hL5 hU6
                  refine WL.nil (thenQ.n ?_)
                  refine WC.seq ?_
                  refine WC.region ?_
                  iterate 2 refine WL.lv rfl (LV.mv rfl) ?_
                  have m1_ := hz10
                  have s1_ := hz11
                  have q3_ : SRT ys6 ((a + b) / 2) ((((a + b) / 2) + m) - s) := p3_.mg m1_ (by omega) (by omega)
                  have q4_ : SRT ys6 ((((a + b) / 2) + m) - s) b := p4_.mg m1_ (by omega) (by omega)
                  have hz1l_ := m1_.len
                  rcases Decidable.em (((a + b) / 2) < ((((a + b) / 2) + m) - s)) with hg7 | hg7
                  · refine WL.lv rfl (LV.as (LV.ltI rfl rfl) (decide_eq_true hg7)) ?_
                    iterate 3 refine WL.lv rfl (LV.mv rfl) ?_
                    refine WL.lv rfl (LV.ltI rfl rfl) ?_
                    refine WL.lv rfl (LV.pickT rfl rfl) ?_
                    refine WL.nil (thenQ.n ?_)
                    refine WC.condP (p := ((((a + b) / 2) + m) - s) < b) rfl (fun hc18 => ?_) (fun hc18 => ?_)
                    · skip
                      refine WC.region ?_
                      iterate 5 refine WL.lv rfl (LV.mv rfl) ?_
                      have hT7 := SH.sub (Es := [_]) hS18
                      refine WL.call rfl (XC.fn Try.func80 (by kernel_rfl) rfl rfl rfl) (IH (xs := ys6) (n := n) (a := ((a + b) / 2)) (m := ((((a + b) / 2) + m) - s)) (b := b) (by first | assumption | omega) hT7 (by omega) (by omega) (by omega) (by omega) (by omega) (fun x hx => hp x (hxz_.pm.mem_iff.1 (m1_.pm.mem_iff.1 hx))) (q3_) (q4_) (by omega)) ?_
                      rintro v_ w19 ⟨ys7, rfl, hz12, hz13, hU7⟩
                      have hS19 := SH.back (Es := [_]) hS18 hU7
                      refine WL.nil (?_)
                      have hfin12 := sym_fin (mid := ((a + b) / 2)) h0 (by omega) hxz_ p5_ m1_ s1_ hz12 hz13
                      exact ⟨_, fun a ha => res0 rfl, _, rfl, hfin12.1, hfin12.2, hS19⟩
                    · skip
                      refine WC.skip (?_)
                      have hfin13 := sym_fin (mid := ((a + b) / 2)) h0 (by omega) hxz_ p5_ m1_ s1_ (MG.refl _ _ _) (by first | exact q4_.sub (by omega) (by omega) | exact q3_.sub (by omega) (by omega))
                      exact ⟨_, fun a ha => res0 rfl, _, rfl, hfin13.1, hfin13.2, hS18⟩
                  · refine WL.lv rfl (LV.as (LV.ltI rfl rfl) (decide_eq_false hg7)) ?_
                    refine WL.lv rfl (LV.mv rfl) ?_
                    iterate 3 refine WL.off rfl ?_
                    refine WL.lv rfl (LV.pickF rfl rfl) ?_
                    refine WL.nil (thenQ.n ?_)
                    refine WC.condF rfl ?_
                    refine WC.skip (?_)
                    have hfin14 := sym_fin (mid := ((a + b) / 2)) h0 (by omega) hxz_ p5_ m1_ s1_ (MG.refl _ _ _) (by first | exact q4_.sub (by omega) (by omega) | exact q3_.sub (by omega) (by omega))
                    exact ⟨_, fun a ha => res0 rfl, _, rfl, hfin14.1, hfin14.2, hS18⟩
                · skip
                  refine WC.skip (thenQ.n ?_)
                  refine WC.seq ?_
                  refine WC.region ?_
                  iterate 2 refine WL.lv rfl (LV.mv rfl) ?_
                  have m1_ : MG xs xs a ((a + b) / 2) := MG.refl _ _ _
                  have s1_ : SRT xs a ((a + b) / 2) := by first | exact p2_.sub (by omega) (by omega) | exact p1_.sub (by omega) (by omega)
                  have q3_ : SRT xs ((a + b) / 2) ((((a + b) / 2) + m) - s) := p3_.mg m1_ (by omega) (by omega)
                  have q4_ : SRT xs ((((a + b) / 2) + m) - s) b := p4_.mg m1_ (by omega) (by omega)
                  have hz1l_ := m1_.len
                  rcases Decidable.em (((a + b) / 2) < ((((a + b) / 2) + m) - s)) with hg8 | hg8
                  · refine WL.lv rfl (LV.as (LV.ltI rfl rfl) (decide_eq_true hg8)) ?_
                    iterate 3 refine WL.lv rfl (LV.mv rfl) ?_
                    refine WL.lv rfl (LV.ltI rfl rfl) ?_
                    refine WL.lv rfl (LV.pickT rfl rfl) ?_
                    refine WL.nil (thenQ.n ?_)
                    refine WC.condP (p := ((((a + b) / 2) + m) - s) < b) rfl (fun hc19 => ?_) (fun hc19 => ?_)
                    · skip
                      refine WC.region ?_
                      iterate 5 refine WL.lv rfl (LV.mv rfl) ?_
                      have hT8 := SH.sub (Es := [_]) hL5
                      refine WL.call rfl (XC.fn Try.func80 (by kernel_rfl) rfl rfl rfl) (IH (xs := xs) (n := n) (a := ((a + b) / 2)) (m := ((((a + b) / 2) + m) - s)) (b := b) (by first | assumption | omega) hT8 (by omega) (by omega) (by omega) (by omega) (by omega) (fun x hx => hp x (hxz_.pm.mem_iff.1 (m1_.pm.mem_iff.1 hx))) (q3_) (q4_) (by omega)) ?_
                      rintro v_ w20 ⟨ys8, rfl, hz14, hz15, hU8⟩
                      have hS20 := SH.back (Es := [_]) hL5 hU8
                      refine WL.nil (?_)
                      have hfin15 := sym_fin (mid := ((a + b) / 2)) h0 (by omega) hxz_ p5_ m1_ s1_ hz14 hz15
                      exact ⟨_, fun a ha => res0 rfl, _, rfl, hfin15.1, hfin15.2, hS20⟩
                    · skip
                      refine WC.skip (?_)
                      have hfin16 := sym_fin (mid := ((a + b) / 2)) h0 (by omega) hxz_ p5_ m1_ s1_ (MG.refl _ _ _) (by first | exact q4_.sub (by omega) (by omega) | exact q3_.sub (by omega) (by omega))
                      exact ⟨_, fun a ha => res0 rfl, _, rfl, hfin16.1, hfin16.2, hL5⟩
                  · refine WL.lv rfl (LV.as (LV.ltI rfl rfl) (decide_eq_false hg8)) ?_
                    refine WL.lv rfl (LV.mv rfl) ?_
                    iterate 3 refine WL.off rfl ?_
                    refine WL.lv rfl (LV.pickF rfl rfl) ?_
                    refine WL.nil (thenQ.n ?_)
                    refine WC.condF rfl ?_
                    refine WC.skip (?_)
                    have hfin17 := sym_fin (mid := ((a + b) / 2)) h0 (by omega) hxz_ p5_ m1_ s1_ (MG.refl _ _ _) (by first | exact q4_.sub (by omega) (by omega) | exact q3_.sub (by omega) (by omega))
                    exact ⟨_, fun a ha => res0 rfl, _, rfl, hfin17.1, hfin17.2, hL5⟩
              · refine WL.lv rfl (LV.as (LV.ltI rfl rfl) (decide_eq_false hg6)) ?_
                refine WL.lv rfl (LV.mv rfl) ?_
                iterate 3 refine WL.off rfl ?_
                refine WL.lv rfl (LV.pickF rfl rfl) ?_
                refine WL.nil (thenQ.n ?_)
                refine WC.condF rfl ?_
                refine WC.skip (thenQ.n ?_)
                refine WC.seq ?_
                refine WC.region ?_
                iterate 2 refine WL.lv rfl (LV.mv rfl) ?_
                have m1_ : MG xs xs a ((a + b) / 2) := MG.refl _ _ _
                have s1_ : SRT xs a ((a + b) / 2) := by first | exact p2_.sub (by omega) (by omega) | exact p1_.sub (by omega) (by omega)
                have q3_ : SRT xs ((a + b) / 2) ((((a + b) / 2) + m) - s) := p3_.mg m1_ (by omega) (by omega)
                have q4_ : SRT xs ((((a + b) / 2) + m) - s) b := p4_.mg m1_ (by omega) (by omega)
                have hz1l_ := m1_.len
                rcases Decidable.em (((a + b) / 2) < ((((a + b) / 2) + m) - s)) with hg9 | hg9
                · refine WL.lv rfl (LV.as (LV.ltI rfl rfl) (decide_eq_true hg9)) ?_
                  iterate 3 refine WL.lv rfl (LV.mv rfl) ?_
                  refine WL.lv rfl (LV.ltI rfl rfl) ?_
                  refine WL.lv rfl (LV.pickT rfl rfl) ?_
                  refine WL.nil (thenQ.n ?_)
                  refine WC.condP (p := ((((a + b) / 2) + m) - s) < b) rfl (fun hc20 => ?_) (fun hc20 => ?_)
                  · skip
                    refine WC.region ?_
                    iterate 5 refine WL.lv rfl (LV.mv rfl) ?_
                    have hT9 := SH.sub (Es := [_]) hL5
                    refine WL.call rfl (XC.fn Try.func80 (by kernel_rfl) rfl rfl rfl) (IH (xs := xs) (n := n) (a := ((a + b) / 2)) (m := ((((a + b) / 2) + m) - s)) (b := b) (by first | assumption | omega) hT9 (by omega) (by omega) (by omega) (by omega) (by omega) (fun x hx => hp x (hxz_.pm.mem_iff.1 (m1_.pm.mem_iff.1 hx))) (q3_) (q4_) (by omega)) ?_
                    rintro v_ w21 ⟨ys9, rfl, hz16, hz17, hU9⟩
                    have hS21 := SH.back (Es := [_]) hL5 hU9
                    refine WL.nil (?_)
                    have hfin18 := sym_fin (mid := ((a + b) / 2)) h0 (by omega) hxz_ p5_ m1_ s1_ hz16 hz17
                    exact ⟨_, fun a ha => res0 rfl, _, rfl, hfin18.1, hfin18.2, hS21⟩
                  · skip
                    refine WC.skip (?_)
                    have hfin19 := sym_fin (mid := ((a + b) / 2)) h0 (by omega) hxz_ p5_ m1_ s1_ (MG.refl _ _ _) (by first | exact q4_.sub (by omega) (by omega) | exact q3_.sub (by omega) (by omega))
                    exact ⟨_, fun a ha => res0 rfl, _, rfl, hfin19.1, hfin19.2, hL5⟩
                · refine WL.lv rfl (LV.as (LV.ltI rfl rfl) (decide_eq_false hg9)) ?_
                  refine WL.lv rfl (LV.mv rfl) ?_
                  iterate 3 refine WL.off rfl ?_
                  refine WL.lv rfl (LV.pickF rfl rfl) ?_
                  refine WL.nil (thenQ.n ?_)
                  refine WC.condF rfl ?_
                  refine WC.skip (?_)
                  have hfin20 := sym_fin (mid := ((a + b) / 2)) h0 (by omega) hxz_ p5_ m1_ s1_ (MG.refl _ _ _) (by first | exact q4_.sub (by omega) (by omega) | exact q3_.sub (by omega) (by omega))
                  exact ⟨_, fun a ha => res0 rfl, _, rfl, hfin20.1, hfin20.2, hL5⟩
          · refine WL.lv rfl (LV.as (LV.ltI rfl rfl) (decide_eq_false hg1)) ?_
            refine WL.lv rfl (LV.mv rfl) ?_
            iterate 3 refine WL.off rfl ?_
            refine WL.lv rfl (LV.pickF rfl rfl) ?_
            refine WL.nil (thenQ.n ?_)
            refine WC.condF rfl ?_
            refine WC.skip (thenQ.n ?_)
            iterate 2 refine WC.seq ?_
            refine WC.region ?_
            iterate 2 refine WL.lv rfl (LV.mv rfl) ?_
            have hzz_ : Re xs xs (rho s m ((((a + b) / 2) + m) - s)) := rho_id (xs := xs) (by omega)
            have hsr_ : s = r := by omega
            have t6_ : s = m ∨ s = ((a + b) / 2) ∨ tk (xs.getD (((a + b) / 2) + m - 1 - s).toNat 0) < tk (xs.getD s.toNat 0) := by rw [hsr_]; exact t6
            obtain ⟨p1_, p2_, p3_, p4_, p5_⟩ := sym_pre (mid := ((a + b) / 2)) (e := ((((a + b) / 2) + m) - s)) h0 hs1 hs2 ham hmb t0 (by omega) (by omega) (by omega) (by omega) t5 t6_ hzz_
            have hxz_ : MG xs xs a b := rho_mg h0 t0 (by omega) (by omega) (by omega) hzz_
            have hzl_ := hxz_.len
            rcases Decidable.em (a < s) with hg10 | hg10
            · refine WL.lv rfl (LV.as (LV.ltI rfl rfl) (decide_eq_true hg10)) ?_
              iterate 3 refine WL.lv rfl (LV.mv rfl) ?_
              refine WL.lv rfl (LV.ltI rfl rfl) ?_
              refine WL.lv rfl (LV.pickT rfl rfl) ?_
              refine WL.nil (thenQ.n ?_)
              refine WC.condP (p := s < ((a + b) / 2)) rfl (fun hc21 => ?_) (fun hc21 => ?_)
              · skip
                refine WC.region ?_
                iterate 5 refine WL.lv rfl (LV.mv rfl) ?_
                have hT10 := SH.sub (Es := [_]) hL5
                refine WL.call rfl (XC.fn Try.func80 (by kernel_rfl) rfl rfl rfl) (IH (xs := xs) (n := n) (a := a) (m := s) (b := ((a + b) / 2)) (by first | assumption | omega) hT10 (by omega) (by omega) (by omega) (by omega) (by omega) (fun x hx => hp x (hxz_.pm.mem_iff.1 hx)) (p1_) (p2_) (by omega)) ?_
                rintro v_ w22 ⟨ys10, rfl, hz18, hz19, hU10⟩
                have hS22 := SH.back (Es := [_]) hL5 hU10
                refine WL.nil (thenQ.n ?_)
                refine WC.seq ?_
                refine WC.region ?_
                iterate 2 refine WL.lv rfl (LV.mv rfl) ?_
                have m1_ := hz18
                have s1_ := hz19
                have q3_ : SRT ys10 ((a + b) / 2) ((((a + b) / 2) + m) - s) := p3_.mg m1_ (by omega) (by omega)
                have q4_ : SRT ys10 ((((a + b) / 2) + m) - s) b := p4_.mg m1_ (by omega) (by omega)
                have hz1l_ := m1_.len
                rcases Decidable.em (((a + b) / 2) < ((((a + b) / 2) + m) - s)) with hg11 | hg11
                · refine WL.lv rfl (LV.as (LV.ltI rfl rfl) (decide_eq_true hg11)) ?_
                  iterate 3 refine WL.lv rfl (LV.mv rfl) ?_
                  refine WL.lv rfl (LV.ltI rfl rfl) ?_
                  refine WL.lv rfl (LV.pickT rfl rfl) ?_
                  refine WL.nil (thenQ.n ?_)
                  refine WC.condP (p := ((((a + b) / 2) + m) - s) < b) rfl (fun hc22 => ?_) (fun hc22 => ?_)
                  · skip
                    refine WC.region ?_
                    iterate 5 refine WL.lv rfl (LV.mv rfl) ?_
                    have hT11 := SH.sub (Es := [_]) hS22
                    refine WL.call rfl (XC.fn Try.func80 (by kernel_rfl) rfl rfl rfl) (IH (xs := ys10) (n := n) (a := ((a + b) / 2)) (m := ((((a + b) / 2) + m) - s)) (b := b) (by first | assumption | omega) hT11 (by omega) (by omega) (by omega) (by omega) (by omega) (fun x hx => hp x (hxz_.pm.mem_iff.1 (m1_.pm.mem_iff.1 hx))) (q3_) (q4_) (by omega)) ?_
                    rintro v_ w23 ⟨ys11, rfl, hz20, hz21, hU11⟩
                    have hS23 := SH.back (Es := [_]) hS22 hU11
                    refine WL.nil (?_)
                    have hfin21 := sym_fin (mid := ((a + b) / 2)) h0 (by omega) hxz_ p5_ m1_ s1_ hz20 hz21
                    exact ⟨_, fun a ha => res0 rfl, _, rfl, hfin21.1, hfin21.2, hS23⟩
                  · skip
                    refine WC.skip (?_)
                    have hfin22 := sym_fin (mid := ((a + b) / 2)) h0 (by omega) hxz_ p5_ m1_ s1_ (MG.refl _ _ _) (by first | exact q4_.sub (by omega) (by omega) | exact q3_.sub (by omega) (by omega))
                    exact ⟨_, fun a ha => res0 rfl, _, rfl, hfin22.1, hfin22.2, hS22⟩
                · refine WL.lv rfl (LV.as (LV.ltI rfl rfl) (decide_eq_false hg11)) ?_
                  refine WL.lv rfl (LV.mv rfl) ?_
                  iterate 3 refine WL.off rfl ?_
                  refine WL.lv rfl (LV.pickF rfl rfl) ?_
                  refine WL.nil (thenQ.n ?_)
                  refine WC.condF rfl ?_
                  refine WC.skip (?_)
                  have hfin23 := sym_fin (mid := ((a + b) / 2)) h0 (by omega) hxz_ p5_ m1_ s1_ (MG.refl _ _ _) (by first | exact q4_.sub (by omega) (by omega) | exact q3_.sub (by omega) (by omega))
                  exact ⟨_, fun a ha => res0 rfl, _, rfl, hfin23.1, hfin23.2, hS22⟩
              · skip
                refine WC.skip (thenQ.n ?_)
                refine WC.seq ?_
                refine WC.region ?_
                iterate 2 refine WL.lv rfl (LV.mv rfl) ?_
                have m1_ : MG xs xs a ((a + b) / 2) := MG.refl _ _ _
                have s1_ : SRT xs a ((a + b) / 2) := by first | exact p2_.sub (by omega) (by omega) | exact p1_.sub (by omega) (by omega)
                have q3_ : SRT xs ((a + b) / 2) ((((a + b) / 2) + m) - s) := p3_.mg m1_ (by omega) (by omega)
                have q4_ : SRT xs ((((a + b) / 2) + m) - s) b := p4_.mg m1_ (by omega) (by omega)
                have hz1l_ := m1_.len
                rcases Decidable.em (((a + b) / 2) < ((((a + b) / 2) + m) - s)) with hg12 | hg12
                · refine WL.lv rfl (LV.as (LV.ltI rfl rfl) (decide_eq_true hg12)) ?_
                  iterate 3 refine WL.lv rfl (LV.mv rfl) ?_
                  refine WL.lv rfl (LV.ltI rfl rfl) ?_
                  refine WL.lv rfl (LV.pickT rfl rfl) ?_
                  refine WL.nil (thenQ.n ?_)
                  refine WC.condP (p := ((((a + b) / 2) + m) - s) < b) rfl (fun hc23 => ?_) (fun hc23 => ?_)
                  · skip
                    refine WC.region ?_
                    iterate 5 refine WL.lv rfl (LV.mv rfl) ?_
                    have hT12 := SH.sub (Es := [_]) hL5
                    refine WL.call rfl (XC.fn Try.func80 (by kernel_rfl) rfl rfl rfl) (IH (xs := xs) (n := n) (a := ((a + b) / 2)) (m := ((((a + b) / 2) + m) - s)) (b := b) (by first | assumption | omega) hT12 (by omega) (by omega) (by omega) (by omega) (by omega) (fun x hx => hp x (hxz_.pm.mem_iff.1 (m1_.pm.mem_iff.1 hx))) (q3_) (q4_) (by omega)) ?_
                    rintro v_ w24 ⟨ys12, rfl, hz22, hz23, hU12⟩
                    have hS24 := SH.back (Es := [_]) hL5 hU12
                    refine WL.nil (?_)
                    have hfin24 := sym_fin (mid := ((a + b) / 2)) h0 (by omega) hxz_ p5_ m1_ s1_ hz22 hz23
                    exact ⟨_, fun a ha => res0 rfl, _, rfl, hfin24.1, hfin24.2, hS24⟩
                  · skip
                    refine WC.skip (?_)
                    have hfin25 := sym_fin (mid := ((a + b) / 2)) h0 (by omega) hxz_ p5_ m1_ s1_ (MG.refl _ _ _) (by first | exact q4_.sub (by omega) (by omega) | exact q3_.sub (by omega) (by omega))
                    exact ⟨_, fun a ha => res0 rfl, _, rfl, hfin25.1, hfin25.2, hL5⟩
                · refine WL.lv rfl (LV.as (LV.ltI rfl rfl) (decide_eq_false hg12)) ?_
                  refine WL.lv rfl (LV.mv rfl) ?_
                  iterate 3 refine WL.off rfl ?_
                  refine WL.lv rfl (LV.pickF rfl rfl) ?_
                  refine WL.nil (thenQ.n ?_)
                  refine WC.condF rfl ?_
                  refine WC.skip (?_)
                  have hfin26 := sym_fin (mid := ((a + b) / 2)) h0 (by omega) hxz_ p5_ m1_ s1_ (MG.refl _ _ _) (by first | exact q4_.sub (by omega) (by omega) | exact q3_.sub (by omega) (by omega))
                  exact ⟨_, fun a ha => res0 rfl, _, rfl, hfin26.1, hfin26.2, hL5⟩
            · refine WL.lv rfl (LV.as (LV.ltI rfl rfl) (decide_eq_false hg10)) ?_
              refine WL.lv rfl (LV.mv rfl) ?_
              iterate 3 refine WL.off rfl ?_
              refine WL.lv rfl (LV.pickF rfl rfl) ?_
              refine WL.nil (thenQ.n ?_)
              refine WC.condF rfl ?_
              refine WC.skip (thenQ.n ?_)
              refine WC.seq ?_
              refine WC.region ?_
              iterate 2 refine WL.lv rfl (LV.mv rfl) ?_
              have m1_ : MG xs xs a ((a + b) / 2) := MG.refl _ _ _
              have s1_ : SRT xs a ((a + b) / 2) := by first | exact p2_.sub (by omega) (by omega) | exact p1_.sub (by omega) (by omega)
              have q3_ : SRT xs ((a + b) / 2) ((((a + b) / 2) + m) - s) := p3_.mg m1_ (by omega) (by omega)
              have q4_ : SRT xs ((((a + b) / 2) + m) - s) b := p4_.mg m1_ (by omega) (by omega)
              have hz1l_ := m1_.len
              rcases Decidable.em (((a + b) / 2) < ((((a + b) / 2) + m) - s)) with hg13 | hg13
              · refine WL.lv rfl (LV.as (LV.ltI rfl rfl) (decide_eq_true hg13)) ?_
                iterate 3 refine WL.lv rfl (LV.mv rfl) ?_
                refine WL.lv rfl (LV.ltI rfl rfl) ?_
                refine WL.lv rfl (LV.pickT rfl rfl) ?_
                refine WL.nil (thenQ.n ?_)
                refine WC.condP (p := ((((a + b) / 2) + m) - s) < b) rfl (fun hc24 => ?_) (fun hc24 => ?_)
                · skip
                  refine WC.region ?_
                  iterate 5 refine WL.lv rfl (LV.mv rfl) ?_
                  have hT13 := SH.sub (Es := [_]) hL5
                  refine WL.call rfl (XC.fn Try.func80 (by kernel_rfl) rfl rfl rfl) (IH (xs := xs) (n := n) (a := ((a + b) / 2)) (m := ((((a + b) / 2) + m) - s)) (b := b) (by first | assumption | omega) hT13 (by omega) (by omega) (by omega) (by omega) (by omega) (fun x hx => hp x (hxz_.pm.mem_iff.1 (m1_.pm.mem_iff.1 hx))) (q3_) (q4_) (by omega)) ?_
                  rintro v_ w25 ⟨ys13, rfl, hz24, hz25, hU13⟩
                  have hS25 := SH.back (Es := [_]) hL5 hU13
                  refine WL.nil (?_)
                  have hfin27 := sym_fin (mid := ((a + b) / 2)) h0 (by omega) hxz_ p5_ m1_ s1_ hz24 hz25
                  exact ⟨_, fun a ha => res0 rfl, _, rfl, hfin27.1, hfin27.2, hS25⟩
                · skip
                  refine WC.skip (?_)
                  have hfin28 := sym_fin (mid := ((a + b) / 2)) h0 (by omega) hxz_ p5_ m1_ s1_ (MG.refl _ _ _) (by first | exact q4_.sub (by omega) (by omega) | exact q3_.sub (by omega) (by omega))
                  exact ⟨_, fun a ha => res0 rfl, _, rfl, hfin28.1, hfin28.2, hL5⟩
              · refine WL.lv rfl (LV.as (LV.ltI rfl rfl) (decide_eq_false hg13)) ?_
                refine WL.lv rfl (LV.mv rfl) ?_
                iterate 3 refine WL.off rfl ?_
                refine WL.lv rfl (LV.pickF rfl rfl) ?_
                refine WL.nil (thenQ.n ?_)
                refine WC.condF rfl ?_
                refine WC.skip (?_)
                have hfin29 := sym_fin (mid := ((a + b) / 2)) h0 (by omega) hxz_ p5_ m1_ s1_ (MG.refl _ _ _) (by first | exact q4_.sub (by omega) (by omega) | exact q3_.sub (by omega) (by omega))
                exact ⟨_, fun a ha => res0 rfl, _, rfl, hfin29.1, hfin29.2, hL5⟩
      · skip
        refine WC.seq ?_
        refine WC.region ?_
        refine WL.lv rfl (LV.mv rfl) ?_
        refine WL.lv rfl (LV.asg rfl) ?_
        refine WL.nil (thenQ.n ?_)
        refine WC.region ?_
        refine WL.lv rfl (LV.mv rfl) ?_
        refine WL.lv rfl (LV.asg rfl) ?_
        refine WL.nil (thenQ.n ?_)
        refine WC.seq ?_
        refine WC.region ?_
        refine WL.lv rfl (LV.mv rfl) ?_
        refine WL.lv rfl (LV.sub rfl rfl (wr64 (by omega) (by omega))) ?_
        refine WL.lv rfl (LV.asg rfl) ?_
        refine WL.nil (thenQ.n ?_)
        refine WC.seq ?_
        refine WC.block ?_
        refine WC.loop (fun m_ f_ w_ => ∃ (s r : Int), (a ≤ s) ∧ (s ≤ r) ∧ (r ≤ m) ∧ (r ≤ ((a + b) / 2)) ∧ (((a + b) / 2) + m - b ≤ s) ∧ (s = a ∨ s = ((a + b) / 2) + m - b ∨ tk (xs.getD (s - 1).toNat 0) ≤ tk (xs.getD (((a + b) / 2) + m - s).toNat 0)) ∧ (r = m ∨ r = ((a + b) / 2) ∨ tk (xs.getD (((a + b) / 2) + m - 1 - r).toNat 0) < tk (xs.getD r.toNat 0)) ∧ SH w S w_ [rowE eF 34 (.slice A n c) xs] ∧ m_ = ((r - s).toNat) ∧ Weak (lit [(0, (.slice A n c)), (1, (.int .i64 a)), (2, (.int .i64 m)), (3, (.int .i64 b)), (4, (.func (.func 57) #[] #[])), (18, (.int .i64 ((a + b) / 2))), (19, (.int .i64 (((a + b) / 2) + m))), (20, (.int .i64 s)), (21, (.int .i64 r)), (22, (.int .i64 ((((a + b) / 2) + m) - 1)))]) f_) _ ⟨a, m, by omega, by omega, by omega, by omega, by omega, by omega, by omega, hS, rfl, Weak.cons rfl <| Weak.cons rfl <| Weak.cons rfl <| Weak.cons rfl <| Weak.cons rfl <| Weak.cons rfl <| Weak.cons rfl <| Weak.cons rfl <| Weak.cons rfl <| Weak.cons rfl <| Weak.nil _⟩ ?_
        rintro m6 f6 w26 ⟨s, r, t0, t1, t2, t3, t4, t5, t6, hL6, rfl, hw6⟩
        refine WC.weak hw6 ?_
        clear hw6
        iterate 2 refine WC.seq ?_
        refine WC.region ?_
        iterate 2 refine WL.lv rfl (LV.mv rfl) ?_
        refine WL.lv rfl (LV.ltI rfl rfl) ?_
        refine WL.nil (thenQ.n ?_)
        refine WC.condP (p := s < r) rfl (fun hc25 => ?_) (fun hc25 => ?_)
        · skip
          refine WC.skip (thenQ.n ?_)
          refine WC.block ?_
          refine WC.seq ?_
          refine WC.region ?_
          iterate 2 refine WL.lv rfl (LV.mv rfl) ?_
          refine WL.lv rfl (LV.add rfl rfl (wr64 (by omega) (by omega))) ?_
          refine WL.lv rfl (LV.cvtI Try.underlying3 Try.underlying85 rfl (wrU64 (by omega) (by omega))) ?_
          refine WL.lv rfl (LV.shr rfl rfl (by decide) (shr1 (by omega))) ?_
          refine WL.lv rfl (LV.cvtI Try.underlying85 Try.underlying3 rfl (wr64 (by omega) (by omega))) ?_
          refine WL.lv rfl (LV.asg rfl) ?_
          refine WL.nil (thenQ.n ?_)
          refine WC.seq ?_
          have hS26 := SH.drew hL6
          refine WC.regionD [11] (fun w_ => KB No w26.drew w_) [(.pure, 0), (.pure, 1), (.pure, 2), (.pure, 3), (.pure, 4), (.pure, 5), (.look, 6), (.pure, 7), (.pure, 8), (.pure, 9), (.look, 10), (.forced, 11), (.pure, 12), (.pure, 13)] (by kernel_rfl) (by kernel_rfl) (KB.refl _ _) ?_
          iterate 4 refine WS.pure rfl rfl (fun _ => LV.mv rfl) ?_
          refine WS.pure rfl rfl (fun _ => LV.sub rfl rfl (wr64 (by omega) (by omega))) ?_
          obtain ⟨A15, c15, e15, g15⟩ := St.elt (SH.rd hS26 (.head _)) 0 (((((a + b) / 2) + m) - 1) - ((s + r) / 2)) (by omega) (by omega)
          refine WS.pure rfl rfl (fun _ => LV.idxA Try.underlying60 ti34.sz rfl e15 rfl (by omega) (by omega)) ?_
          refine WS.look rfl rfl (fun _ hk_ => LV.load1 (v := (.float .f64 (xs.getD (((((a + b) / 2) + m) - 1) - ((s + r) / 2)).toNat 0))) Try.underlying34 rfl rfl (g15 _ hk_ 0 _ rfl)) ?_
          iterate 2 refine WS.pure rfl rfl (fun _ => LV.mv rfl) ?_
          obtain ⟨A16, c16, e16, g16⟩ := St.elt (SH.rd hS26 (.head _)) 0 ((s + r) / 2) (by omega) (by omega)
          refine WS.pure rfl rfl (fun _ => LV.idxA Try.underlying60 ti34.sz rfl e16 rfl (by omega) (by omega)) ?_
          refine WS.look rfl rfl (fun _ hk_ => LV.load1 (v := (.float .f64 (xs.getD ((s + r) / 2).toNat 0))) Try.underlying34 rfl rfl (g16 _ hk_ 0 _ rfl)) ?_
          refine WS.call rfl rfl (XC.fn Try.func57 (by kernel_rfl) rfl rfl rfl) (order_calls (a := (xs.getD (((((a + b) / 2) + m) - 1) - ((s + r) / 2)).toNat 0)) (b := (xs.getD ((s + r) / 2).toNat 0)) (by first | assumption | omega | exact hp _ (getD_mem (by omega)) | exact hpz _ (getD_mem (by omega))) (by first | assumption | omega | exact hp _ (getD_mem (by omega)) | exact hpz _ (getD_mem (by omega)))) ?_
          rintro v_ w27 ⟨rfl, hk8⟩
          have hS27 := SH.same hS26 hk8
          have ho_ := ord_is' (xs.getD (((((a + b) / 2) + m) - 1) - ((s + r) / 2)).toNat 0) (xs.getD ((s + r) / 2).toNat 0)
          refine ⟨fun h_ => (by cases h_), ?_⟩
          refine WS.pure rfl rfl (fun _ => LV.ltI rfl rfl) ?_
          refine WS.pure rfl rfl (fun _ => LV.notP rfl) ?_
          refine WS.nil (thenQ.n ?_)
          refine WC.condP (p := ¬ ((ORD (xs.getD (((((a + b) / 2) + m) - 1) - ((s + r) / 2)).toNat 0) (xs.getD ((s + r) / 2).toNat 0)) < 0)) rfl (fun hc26 => ?_) (fun hc26 => ?_)
          · skip
            refine WC.region ?_
            refine WL.lv rfl (LV.mv rfl) ?_
            refine WL.lv rfl (LV.add rfl rfl (wr64 (by omega) (by omega))) ?_
            refine WL.lv rfl (LV.asg rfl) ?_
            refine WL.nil (blockQ.n <| thenQ.n ?_)
            exact ⟨_, by omega, ((s + r) / 2) + 1, r, by omega, by omega, by omega, by omega, by omega, (by rw [show ((s + r) / 2) + 1 - 1 = ((s + r) / 2) by omega, show ((a + b) / 2) + m - (((s + r) / 2) + 1) = ((a + b) / 2) + m - 1 - ((s + r) / 2) by omega]; omega), t6, hS27, rfl, Weak.cons rfl <| Weak.cons rfl <| Weak.cons rfl <| Weak.cons rfl <| Weak.cons rfl <| Weak.cons rfl <| Weak.cons rfl <| Weak.cons rfl <| Weak.cons rfl <| Weak.cons rfl <| Weak.nil _⟩
          · skip
            refine WC.region ?_
            refine WL.lv rfl (LV.mv rfl) ?_
            refine WL.lv rfl (LV.asg rfl) ?_
            refine WL.nil (blockQ.n <| thenQ.n ?_)
            exact ⟨_, by omega, s, (s + r) / 2, by omega, by omega, by omega, by omega, by omega, t5, by omega, hS27, rfl, Weak.cons rfl <| Weak.cons rfl <| Weak.cons rfl <| Weak.cons rfl <| Weak.cons rfl <| Weak.cons rfl <| Weak.cons rfl <| Weak.cons rfl <| Weak.cons rfl <| Weak.cons rfl <| Weak.nil _⟩
        · skip
          refine WC.exit (thenQ.x <| thenQ.x <| blockQ.hit <| thenQ.n ?_)
          refine WC.seq ?_
          refine WC.region ?_
          iterate 2 refine WL.lv rfl (LV.mv rfl) ?_
          refine WL.lv rfl (LV.sub rfl rfl (wr64 (by omega) (by omega))) ?_
          refine WL.lv rfl (LV.asg rfl) ?_
          refine WL.nil (thenQ.n ?_)
          iterate 2 refine WC.seq ?_
          refine WC.region ?_
          iterate 2 refine WL.lv rfl (LV.mv rfl) ?_
          rcases Decidable.em (s < m) with hg14 | hg14
          · refine WL.lv rfl (LV.as (LV.ltI rfl rfl) (decide_eq_true hg14)) ?_
            iterate 3 refine WL.lv rfl (LV.mv rfl) ?_
            refine WL.lv rfl (LV.ltI rfl rfl) ?_
            refine WL.lv rfl (LV.pickT rfl rfl) ?_
            refine WL.nil (thenQ.n ?_)
            refine WC.condP (p := m < ((((a + b) / 2) + m) - s)) rfl (fun hc27 => ?_) (fun hc27 => ?_)
            · skip
              refine WC.region ?_
              iterate 5 refine WL.lv rfl (LV.mv rfl) ?_
              have hT14 := SH.sub (Es := [_]) hL6
              refine WL.call rfl (XC.fn Try.func82 (by kernel_rfl) rfl rfl rfl) (rot_calls (xs := xs) (n := n) (a := s) (m := m) (b := ((((a + b) / 2) + m) - s)) (by first | assumption | omega) hT14 (by omega) (by omega) (by omega) (by omega) (by omega)) ?_
              rintro v_ w28 ⟨ys14, rfl, hz26, hU14⟩
              have hS28 := SH.back (Es := [_]) hL6 hU14
              refine WL.nil (thenQ.n ?_)
              iterate 2 refine WC.seq ?_
              refine WC.region ?_
              iterate 2 refine WL.lv rfl (LV.mv rfl) ?_
              have hzz_ : Re xs ys14 (rho s m ((((a + b) / 2) + m) - s)) := hz26
              have hsr_ : s = r := by omega
              have t6_ : s = m ∨ s = ((a + b) / 2) ∨ tk (xs.getD (((a + b) / 2) + m - 1 - s).toNat 0) < tk (xs.getD s.toNat 0) := by rw [hsr_]; exact t6
              obtain ⟨p1_, p2_, p3_, p4_, p5_⟩ := sym_pre (mid := ((a + b) / 2)) (e := ((((a + b) / 2) + m) - s)) h0 hs1 hs2 ham hmb t0 (by omega) (by omega) (by omega) (by omega) t5 t6_ hzz_
              have hxz_ : MG xs ys14 a b := rho_mg h0 t0 (by omega) (by omega) (by omega) hzz_
              have hzl_ := hxz_.len
              rcases Decidable.em (a < s) with hg15 | hg15
              · refine WL.lv rfl (LV.as (LV.ltI rfl rfl) (decide_eq_true hg15)) ?_
                iterate 3 refine WL.lv rfl (LV.mv rfl) ?_
                refine WL.lv rfl (LV.ltI rfl rfl) ?_
                refine WL.lv rfl (LV.pickT rfl rfl) ?_
                refine WL.nil (thenQ.n ?_)
                refine WC.condP (p := s < ((a + b) / 2)) rfl (fun hc28 => ?_) (fun hc28 => ?_)
                · skip
                  refine WC.region ?_
                  iterate 5 refine WL.lv rfl (LV.mv rfl) ?_
                  have hT15 := SH.sub (Es := [_]) hS28
                  refine WL.call rfl (XC.fn Try.func80 (by kernel_rfl) rfl rfl rfl) (IH (xs := ys14) (n := n) (a := a) (m := s) (b := ((a + b) / 2)) (by first | assumption | omega) hT15 (by omega) (by omega) (by omega) (by omega) (by omega) (fun x hx => hp x (hxz_.pm.mem_iff.1 hx)) (p1_) (p2_) (by omega)) ?_
                  rintro v_ w29 ⟨ys15, rfl, hz27, hz28, hU15⟩
                  have hS29 := SH.back (Es := [_]) hS28 hU15
                  refine WL.nil (thenQ.n ?_)
                  refine WC.seq ?_
                  refine WC.region ?_
                  iterate 2 refine WL.lv rfl (LV.mv rfl) ?_
                  have m1_ := hz27
                  have s1_ := hz28
                  have q3_ : SRT ys15 ((a + b) / 2) ((((a + b) / 2) + m) - s) := p3_.mg m1_ (by omega) (by omega)
                  have q4_ : SRT ys15 ((((a + b) / 2) + m) - s) b := p4_.mg m1_ (by omega) (by omega)
                  have hz1l_ := m1_.len
                  rcases Decidable.em (((a + b) / 2) < ((((a + b) / 2) + m) - s)) with hg16 | hg16
                  · refine WL.lv rfl (LV.as (LV.ltI rfl rfl) (decide_eq_true hg16)) ?_
                    iterate 3 refine WL.lv rfl (LV.mv rfl) ?_
                    refine WL.lv rfl (LV.ltI rfl rfl) ?_
                    refine WL.lv rfl (LV.pickT rfl rfl) ?_
                    refine WL.nil (thenQ.n ?_)
                    refine WC.condP (p := ((((a + b) / 2) + m) - s) < b) rfl (fun hc29 => ?_) (fun hc29 => ?_)
                    · skip
                      refine WC.region ?_
                      iterate 5 refine WL.lv rfl (LV.mv rfl) ?_
                      have hT16 := SH.sub (Es := [_]) hS29
                      refine WL.call rfl (XC.fn Try.func80 (by kernel_rfl) rfl rfl rfl) (IH (xs := ys15) (n := n) (a := ((a + b) / 2)) (m := ((((a + b) / 2) + m) - s)) (b := b) (by first | assumption | omega) hT16 (by omega) (by omega) (by omega) (by omega) (by omega) (fun x hx => hp x (hxz_.pm.mem_iff.1 (m1_.pm.mem_iff.1 hx))) (q3_) (q4_) (by omega)) ?_
                      rintro v_ w30 ⟨ys16, rfl, hz29, hz30, hU16⟩
                      have hS30 := SH.back (Es := [_]) hS29 hU16
                      refine WL.nil (?_)
                      have hfin30 := sym_fin (mid := ((a + b) / 2)) h0 (by omega) hxz_ p5_ m1_ s1_ hz29 hz30
                      exact ⟨_, fun a ha => res0 rfl, _, rfl, hfin30.1, hfin30.2, hS30⟩
                    · skip
                      refine WC.skip (?_)
                      have hfin31 := sym_fin (mid := ((a + b) / 2)) h0 (by omega) hxz_ p5_ m1_ s1_ (MG.refl _ _ _) (by first | exact q4_.sub (by omega) (by omega) | exact q3_.sub (by omega) (by omega))
                      exact ⟨_, fun a ha => res0 rfl, _, rfl, hfin31.1, hfin31.2, hS29⟩
                  · refine WL.lv rfl (LV.as (LV.ltI rfl rfl) (decide_eq_false hg16)) ?_
                    refine WL.lv rfl (LV.mv rfl) ?_
                    iterate 3 refine WL.off rfl ?_
                    refine WL.lv rfl (LV.pickF rfl rfl) ?_
                    refine WL.nil (thenQ.n ?_)
                    refine WC.condF rfl ?_
                    refine WC.skip (?_)
                    have hfin32 := sym_fin (mid := ((a + b) / 2)) h0 (by omega) hxz_ p5_ m1_ s1_ (MG.refl _ _ _) (by first | exact q4_.sub (by omega) (by omega) | exact q3_.sub (by omega) (by omega))
                    exact ⟨_, fun a ha => res0 rfl, _, rfl, hfin32.1, hfin32.2, hS29⟩
                · skip
                  refine WC.skip (thenQ.n ?_)
                  refine WC.seq ?_
                  refine WC.region ?_
                  iterate 2 refine WL.lv rfl (LV.mv rfl) ?_
                  have m1_ : MG ys14 ys14 a ((a + b) / 2) := MG.refl _ _ _
                  have s1_ : SRT ys14 a ((a + b) / 2) := by first | exact p2_.sub (by omega) (by omega) | exact p1_.sub (by omega) (by omega)
                  have q3_ : SRT ys14 ((a + b) / 2) ((((a + b) / 2) + m) - s) := p3_.mg m1_ (by omega) (by omega)
                  have q4_ : SRT ys14 ((((a + b) / 2) + m) - s) b := p4_.mg m1_ (by omega) (by omega)
                  have hz1l_ := m1_.len
                  rcases Decidable.em (((a + b) / 2) < ((((a + b) / 2) + m) - s)) with hg17 | hg17
                  · refine WL.lv rfl (LV.as (LV.ltI rfl rfl) (decide_eq_true hg17)) ?_
                    iterate 3 refine WL.lv rfl (LV.mv rfl) ?_
                    refine WL.lv rfl (LV.ltI rfl rfl) ?_
                    refine WL.lv rfl (LV.pickT rfl rfl) ?_
                    refine WL.nil (thenQ.n ?_)
                    refine WC.condP (p := ((((a + b) / 2) + m) - s) < b) rfl (fun hc30 => ?_) (fun hc30 => ?_)
                    · skip
                      refine WC.region ?_
                      iterate 5 refine WL.lv rfl (LV.mv rfl) ?_
                      have hT17 := SH.sub (Es := [_]) hS28
                      refine WL.call rfl (XC.fn Try.func80 (by kernel_rfl) rfl rfl rfl) (IH (xs := ys14) (n := n) (a := ((a + b) / 2)) (m := ((((a + b) / 2) + m) - s)) (b := b) (by first | assumption | omega) hT17 (by omega) (by omega) (by omega) (by omega) (by omega) (fun x hx => hp x (hxz_.pm.mem_iff.1 (m1_.pm.mem_iff.1 hx))) (q3_) (q4_) (by omega)) ?_
                      rintro v_ w31 ⟨ys17, rfl, hz31, hz32, hU17⟩
                      have hS31 := SH.back (Es := [_]) hS28 hU17
                      refine WL.nil (?_)
                      have hfin33 := sym_fin (mid := ((a + b) / 2)) h0 (by omega) hxz_ p5_ m1_ s1_ hz31 hz32
                      exact ⟨_, fun a ha => res0 rfl, _, rfl, hfin33.1, hfin33.2, hS31⟩
                    · skip
                      refine WC.skip (?_)
                      have hfin34 := sym_fin (mid := ((a + b) / 2)) h0 (by omega) hxz_ p5_ m1_ s1_ (MG.refl _ _ _) (by first | exact q4_.sub (by omega) (by omega) | exact q3_.sub (by omega) (by omega))
                      exact ⟨_, fun a ha => res0 rfl, _, rfl, hfin34.1, hfin34.2, hS28⟩
                  · refine WL.lv rfl (LV.as (LV.ltI rfl rfl) (decide_eq_false hg17)) ?_
                    refine WL.lv rfl (LV.mv rfl) ?_
                    iterate 3 refine WL.off rfl ?_
                    refine WL.lv rfl (LV.pickF rfl rfl) ?_
                    refine WL.nil (thenQ.n ?_)
                    refine WC.condF rfl ?_
                    refine WC.skip (?_)
                    have hfin35 := sym_fin (mid := ((a + b) / 2)) h0 (by omega) hxz_ p5_ m1_ s1_ (MG.refl _ _ _) (by first | exact q4_.sub (by omega) (by omega) | exact q3_.sub (by omega) (by omega))
                    exact ⟨_, fun a ha => res0 rfl, _, rfl, hfin35.1, hfin35.2, hS28⟩
              · refine WL.lv rfl (LV.as (LV.ltI rfl rfl) (decide_eq_false hg15)) ?_
                refine WL.lv rfl (LV.mv rfl) ?_
                iterate 3 refine WL.off rfl ?_
                refine WL.lv rfl (LV.pickF rfl rfl) ?_
                refine WL.nil (thenQ.n ?_)
                refine WC.condF rfl ?_
                refine WC.skip (thenQ.n ?_)
                refine WC.seq ?_
                refine WC.region ?_
                iterate 2 refine WL.lv rfl (LV.mv rfl) ?_
                have m1_ : MG ys14 ys14 a ((a + b) / 2) := MG.refl _ _ _
                have s1_ : SRT ys14 a ((a + b) / 2) := by first | exact p2_.sub (by omega) (by omega) | exact p1_.sub (by omega) (by omega)
                have q3_ : SRT ys14 ((a + b) / 2) ((((a + b) / 2) + m) - s) := p3_.mg m1_ (by omega) (by omega)
                have q4_ : SRT ys14 ((((a + b) / 2) + m) - s) b := p4_.mg m1_ (by omega) (by omega)
                have hz1l_ := m1_.len
                rcases Decidable.em (((a + b) / 2) < ((((a + b) / 2) + m) - s)) with hg18 | hg18
                · refine WL.lv rfl (LV.as (LV.ltI rfl rfl) (decide_eq_true hg18)) ?_
                  iterate 3 refine WL.lv rfl (LV.mv rfl) ?_
                  refine WL.lv rfl (LV.ltI rfl rfl) ?_
                  refine WL.lv rfl (LV.pickT rfl rfl) ?_
                  refine WL.nil (thenQ.n ?_)
                  refine WC.condP (p := ((((a + b) / 2) + m) - s) < b) rfl (fun hc31 => ?_) (fun hc31 => ?_)
                  · skip
                    refine WC.region ?_
                    iterate 5 refine WL.lv rfl (LV.mv rfl) ?_
                    have hT18 := SH.sub (Es := [_]) hS28
                    refine WL.call rfl (XC.fn Try.func80 (by kernel_rfl) rfl rfl rfl) (IH (xs := ys14) (n := n) (a := ((a + b) / 2)) (m := ((((a + b) / 2) + m) - s)) (b := b) (by first | assumption | omega) hT18 (by omega) (by omega) (by omega) (by omega) (by omega) (fun x hx => hp x (hxz_.pm.mem_iff.1 (m1_.pm.mem_iff.1 hx))) (q3_) (q4_) (by omega)) ?_
                    rintro v_ w32 ⟨ys18, rfl, hz33, hz34, hU18⟩
                    have hS32 := SH.back (Es := [_]) hS28 hU18
                    refine WL.nil (?_)
                    have hfin36 := sym_fin (mid := ((a + b) / 2)) h0 (by omega) hxz_ p5_ m1_ s1_ hz33 hz34
                    exact ⟨_, fun a ha => res0 rfl, _, rfl, hfin36.1, hfin36.2, hS32⟩
                  · skip
                    refine WC.skip (?_)
                    have hfin37 := sym_fin (mid := ((a + b) / 2)) h0 (by omega) hxz_ p5_ m1_ s1_ (MG.refl _ _ _) (by first | exact q4_.sub (by omega) (by omega) | exact q3_.sub (by omega) (by omega))
                    exact ⟨_, fun a ha => res0 rfl, _, rfl, hfin37.1, hfin37.2, hS28⟩
                · refine WL.lv rfl (LV.as (LV.ltI rfl rfl) (decide_eq_false hg18)) ?_
                  refine WL.lv rfl (LV.mv rfl) ?_
                  iterate 3 refine WL.off rfl ?_
                  refine WL.lv rfl (LV.pickF rfl rfl) ?_
                  refine WL.nil (thenQ.n ?_)
                  refine WC.condF rfl ?_
                  refine WC.skip (?_)
                  have hfin38 := sym_fin (mid := ((a + b) / 2)) h0 (by omega) hxz_ p5_ m1_ s1_ (MG.refl _ _ _) (by first | exact q4_.sub (by omega) (by omega) | exact q3_.sub (by omega) (by omega))
                  exact ⟨_, fun a ha => res0 rfl, _, rfl, hfin38.1, hfin38.2, hS28⟩
            · skip
              refine WC.skip (thenQ.n ?_)
              iterate 2 refine WC.seq ?_
              refine WC.region ?_
              iterate 2 refine WL.lv rfl (LV.mv rfl) ?_
              have hzz_ : Re xs xs (rho s m ((((a + b) / 2) + m) - s)) := rho_id (xs := xs) (by omega)
              have hsr_ : s = r := by omega
              have t6_ : s = m ∨ s = ((a + b) / 2) ∨ tk (xs.getD (((a + b) / 2) + m - 1 - s).toNat 0) < tk (xs.getD s.toNat 0) := by rw [hsr_]; exact t6
              obtain ⟨p1_, p2_, p3_, p4_, p5_⟩ := sym_pre (mid := ((a + b) / 2)) (e := ((((a + b) / 2) + m) - s)) h0 hs1 hs2 ham hmb t0 (by omega) (by omega) (by omega) (by omega) t5 t6_ hzz_
              have hxz_ : MG xs xs a b := rho_mg h0 t0 (by omega) (by omega) (by omega) hzz_
              have hzl_ := hxz_.len
              rcases Decidable.em (a < s) with hg19 | hg19
              · refine WL.lv rfl (LV.as (LV.ltI rfl rfl) (decide_eq_true hg19)) ?_
                iterate 3 refine WL.lv rfl (LV.mv rfl) ?_
                refine WL.lv rfl (LV.ltI rfl rfl) ?_
                refine WL.lv rfl (LV.pickT rfl rfl) ?_
                refine WL.nil (thenQ.n ?_)
                refine WC.condP (p := s < ((a + b) / 2)) rfl (fun hc32 => ?_) (fun hc32 => ?_)
                · skip
                  refine WC.region ?_
                  iterate 5 refine WL.lv rfl (LV.mv rfl) ?_
                  have hT19 := SH.sub (Es := [_]) hL6
                  refine WL.call rfl (XC.fn Try.func80 (by kernel_rfl) rfl rfl rfl) (IH (xs := xs) (n := n) (a := a) (m := s) (b := ((a + b) / 2)) (by first | assumption | omega) hT19 (by omega) (by omega) (by omega) (by omega) (by omega) (fun x hx => hp x (hxz_.pm.mem_iff.1 hx)) (p1_) (p2_) (by omega)) ?_
                  rintro v_ w33 ⟨ys19, rfl, hz35, hz36, hU19⟩
                  have hS33 := SH.back (Es := [_]) hL6 hU19
                  refine WL.nil (thenQ.n ?_)
                  refine WC.seq ?_
                  refine WC.region ?_
                  iterate 2 refine WL.lv rfl (LV.mv rfl) ?_
                  have m1_ := hz35
                  have s1_ := hz36
                  have q3_ : SRT ys19 ((a + b) / 2) ((((a + b) / 2) + m) - s) := p3_.mg m1_ (by omega) (by omega)
                  have q4_ : SRT ys19 ((((a + b) / 2) + m) - s) b := p4_.mg m1_ (by omega) (by omega)
                  have hz1l_ := m1_.len
                  rcases Decidable.em (((a + b) / 2) < ((((a + b) / 2) + m) - s)) with hg20 | hg20
                  · refine WL.lv rfl (LV.as (LV.ltI rfl rfl) (decide_eq_true hg20)) ?_
                    iterate 3 refine WL.lv rfl (LV.mv rfl) ?_
                    refine WL.lv rfl (LV.ltI rfl rfl) ?_
                    refine WL.lv rfl (LV.pickT rfl rfl) ?_
                    refine WL.nil (thenQ.n ?_)
                    refine WC.condP (p := ((((a + b) / 2) + m) - s) < b) rfl (fun hc33 => ?_) (fun hc33 => ?_)
                    · skip
                      refine WC.region ?_
                      iterate 5 refine WL.lv rfl (LV.mv rfl) ?_
                      have hT20 := SH.sub (Es := [_]) hS33
                      refine WL.call rfl (XC.fn Try.func80 (by kernel_rfl) rfl rfl rfl) (IH (xs := ys19) (n := n) (a := ((a + b) / 2)) (m := ((((a + b) / 2) + m) - s)) (b := b) (by first | assumption | omega) hT20 (by omega) (by omega) (by omega) (by omega) (by omega) (fun x hx => hp x (hxz_.pm.mem_iff.1 (m1_.pm.mem_iff.1 hx))) (q3_) (q4_) (by omega)) ?_
                      rintro v_ w34 ⟨ys20, rfl, hz37, hz38, hU20⟩
                      have hS34 := SH.back (Es := [_]) hS33 hU20
                      refine WL.nil (?_)
                      have hfin39 := sym_fin (mid := ((a + b) / 2)) h0 (by omega) hxz_ p5_ m1_ s1_ hz37 hz38
                      exact ⟨_, fun a ha => res0 rfl, _, rfl, hfin39.1, hfin39.2, hS34⟩
                    · skip
                      refine WC.skip (?_)
                      have hfin40 := sym_fin (mid := ((a + b) / 2)) h0 (by omega) hxz_ p5_ m1_ s1_ (MG.refl _ _ _) (by first | exact q4_.sub (by omega) (by omega) | exact q3_.sub (by omega) (by omega))
                      exact ⟨_, fun a ha => res0 rfl, _, rfl, hfin40.1, hfin40.2, hS33⟩
                  · refine WL.lv rfl (LV.as (LV.ltI rfl rfl) (decide_eq_false hg20)) ?_
                    refine WL.lv rfl (LV.mv rfl) ?_
                    iterate 3 refine WL.off rfl ?_
                    refine WL.lv rfl (LV.pickF rfl rfl) ?_
                    refine WL.nil (thenQ.n ?_)
                    refine WC.condF rfl ?_
                    refine WC.skip (?_)
                    have hfin41 := sym_fin (mid := ((a + b) / 2)) h0 (by omega) hxz_ p5_ m1_ s1_ (MG.refl _ _ _) (by first | exact q4_.sub (by omega) (by omega) | exact q3_.sub (by omega) (by omega))
                    exact ⟨_, fun a ha => res0 rfl, _, rfl, hfin41.1, hfin41.2, hS33⟩
                · skip
                  refine WC.skip (thenQ.n ?_)
                  refine WC.seq ?_
                  refine WC.region ?_
                  iterate 2 refine WL.lv rfl (LV.mv rfl) ?_
                  have m1_ : MG xs xs a ((a + b) / 2) := MG.refl _ _ _
                  have s1_ : SRT xs a ((a + b) / 2) := by first | exact p2_.sub (by omega) (by omega) | exact p1_.sub (by omega) (by omega)
                  have q3_ : SRT xs ((a + b) / 2) ((((a + b) / 2) + m) - s) := p3_.mg m1_ (by omega) (by omega)
                  have q4_ : SRT xs ((((a + b) / 2) + m) - s) b := p4_.mg m1_ (by omega) (by omega)
                  have hz1l_ := m1_.len
                  rcases Decidable.em (((a + b) / 2) < ((((a + b) / 2) + m) - s)) with hg21 | hg21
                  · refine WL.lv rfl (LV.as (LV.ltI rfl rfl) (decide_eq_true hg21)) ?_
                    iterate 3 refine WL.lv rfl (LV.mv rfl) ?_
                    refine WL.lv rfl (LV.ltI rfl rfl) ?_
                    refine WL.lv rfl (LV.pickT rfl rfl) ?_
                    refine WL.nil (thenQ.n ?_)
                    refine WC.condP (p := ((((a + b) / 2) + m) - s) < b) rfl (fun hc34 => ?_) (fun hc34 => ?_)
                    · skip
                      refine WC.region ?_
                      iterate 5 refine WL.lv rfl (LV.mv rfl) ?_
                      have hT21 := SH.sub (Es := [_]) hL6
                      refine WL.call rfl (XC.fn Try.func80 (by kernel_rfl) rfl rfl rfl) (IH (xs := xs) (n := n) (a := ((a + b) / 2)) (m := ((((a + b) / 2) + m) - s)) (b := b) (by first | assumption | omega) hT21 (by omega) (by omega) (by omega) (by omega) (by omega) (fun x hx => hp x (hxz_.pm.mem_iff.1 (m1_.pm.mem_iff.1 hx))) (q3_) (q4_) (by omega)) ?_
                      rintro v_ w35 ⟨ys21, rfl, hz39, hz40, hU21⟩
                      have hS35 := SH.back (Es := [_]) hL6 hU21
                      refine WL.nil (?_)
                      have hfin42 := sym_fin (mid := ((a + b) / 2)) h0 (by omega) hxz_ p5_ m1_ s1_ hz39 hz40
                      exact ⟨_, fun a ha => res0 rfl, _, rfl, hfin42.1, hfin42.2, hS35⟩
                    · skip
                      refine WC.skip (?_)
                      have hfin43 := sym_fin (mid := ((a + b) / 2)) h0 (by omega) hxz_ p5_ m1_ s1_ (MG.refl _ _ _) (by first | exact q4_.sub (by omega) (by omega) | exact q3_.sub (by omega) (by omega))
                      exact ⟨_, fun a ha => res0 rfl, _, rfl, hfin43.1, hfin43.2, hL6⟩
                  · refine WL.lv rfl (LV.as (LV.ltI rfl rfl) (decide_eq_false hg21)) ?_
                    refine WL.lv rfl (LV.mv rfl) ?_
                    iterate 3 refine WL.off rfl ?_
                    refine WL.lv rfl (LV.pickF rfl rfl) ?_
                    refine WL.nil (thenQ.n ?_)
                    refine WC.condF rfl ?_
                    refine WC.skip (?_)
                    have hfin44 := sym_fin (mid := ((a + b) / 2)) h0 (by omega) hxz_ p5_ m1_ s1_ (MG.refl _ _ _) (by first | exact q4_.sub (by omega) (by omega) | exact q3_.sub (by omega) (by omega))
                    exact ⟨_, fun a ha => res0 rfl, _, rfl, hfin44.1, hfin44.2, hL6⟩
              · refine WL.lv rfl (LV.as (LV.ltI rfl rfl) (decide_eq_false hg19)) ?_
                refine WL.lv rfl (LV.mv rfl) ?_
                iterate 3 refine WL.off rfl ?_
                refine WL.lv rfl (LV.pickF rfl rfl) ?_
                refine WL.nil (thenQ.n ?_)
                refine WC.condF rfl ?_
                refine WC.skip (thenQ.n ?_)
                refine WC.seq ?_
                refine WC.region ?_
                iterate 2 refine WL.lv rfl (LV.mv rfl) ?_
                have m1_ : MG xs xs a ((a + b) / 2) := MG.refl _ _ _
                have s1_ : SRT xs a ((a + b) / 2) := by first | exact p2_.sub (by omega) (by omega) | exact p1_.sub (by omega) (by omega)
                have q3_ : SRT xs ((a + b) / 2) ((((a + b) / 2) + m) - s) := p3_.mg m1_ (by omega) (by omega)
                have q4_ : SRT xs ((((a + b) / 2) + m) - s) b := p4_.mg m1_ (by omega) (by omega)
                have hz1l_ := m1_.len
                rcases Decidable.em (((a + b) / 2) < ((((a + b) / 2) + m) - s)) with hg22 | hg22
                · refine WL.lv rfl (LV.as (LV.ltI rfl rfl) (decide_eq_true hg22)) ?_
                  iterate 3 refine WL.lv rfl (LV.mv rfl) ?_
                  refine WL.lv rfl (LV.ltI rfl rfl) ?_
                  refine WL.lv rfl (LV.pickT rfl rfl) ?_
                  refine WL.nil (thenQ.n ?_)
                  refine WC.condP (p := ((((a + b) / 2) + m) - s) < b) rfl (fun hc35 => ?_) (fun hc35 => ?_)
                  · skip
                    refine WC.region ?_
                    iterate 5 refine WL.lv rfl (LV.mv rfl) ?_
                    have hT22 := SH.sub (Es := [_]) hL6
                    refine WL.call rfl (XC.fn Try.func80 (by kernel_rfl) rfl rfl rfl) (IH (xs := xs) (n := n) (a := ((a + b) / 2)) (m := ((((a + b) / 2) + m) - s)) (b := b) (by first | assumption | omega) hT22 (by omega) (by omega) (by omega) (by omega) (by omega) (fun x hx => hp x (hxz_.pm.mem_iff.1 (m1_.pm.mem_iff.1 hx))) (q3_) (q4_) (by omega)) ?_
                    rintro v_ w36 ⟨ys22, rfl, hz41, hz42, hU22⟩
                    have hS36 := SH.back (Es := [_]) hL6 hU22
                    refine WL.nil (?_)
                    have hfin45 := sym_fin (mid := ((a + b) / 2)) h0 (by omega) hxz_ p5_ m1_ s1_ hz41 hz42
                    exact ⟨_, fun a ha => res0 rfl, _, rfl, hfin45.1, hfin45.2, hS36⟩
                  · skip
                    refine WC.skip (?_)
                    have hfin46 := sym_fin (mid := ((a + b) / 2)) h0 (by omega) hxz_ p5_ m1_ s1_ (MG.refl _ _ _) (by first | exact q4_.sub (by omega) (by omega) | exact q3_.sub (by omega) (by omega))
                    exact ⟨_, fun a ha => res0 rfl, _, rfl, hfin46.1, hfin46.2, hL6⟩
                · refine WL.lv rfl (LV.as (LV.ltI rfl rfl) (decide_eq_false hg22)) ?_
                  refine WL.lv rfl (LV.mv rfl) ?_
                  iterate 3 refine WL.off rfl ?_
                  refine WL.lv rfl (LV.pickF rfl rfl) ?_
                  refine WL.nil (thenQ.n ?_)
                  refine WC.condF rfl ?_
                  refine WC.skip (?_)
                  have hfin47 := sym_fin (mid := ((a + b) / 2)) h0 (by omega) hxz_ p5_ m1_ s1_ (MG.refl _ _ _) (by first | exact q4_.sub (by omega) (by omega) | exact q3_.sub (by omega) (by omega))
                  exact ⟨_, fun a ha => res0 rfl, _, rfl, hfin47.1, hfin47.2, hL6⟩
          · refine WL.lv rfl (LV.as (LV.ltI rfl rfl) (decide_eq_false hg14)) ?_
            refine WL.lv rfl (LV.mv rfl) ?_
            iterate 3 refine WL.off rfl ?_
            refine WL.lv rfl (LV.pickF rfl rfl) ?_
            refine WL.nil (thenQ.n ?_)
            refine WC.condF rfl ?_
            refine WC.skip (thenQ.n ?_)
            iterate 2 refine WC.seq ?_
            refine WC.region ?_
            iterate 2 refine WL.lv rfl (LV.mv rfl) ?_
            have hzz_ : Re xs xs (rho s m ((((a + b) / 2) + m) - s)) := rho_id (xs := xs) (by omega)
            have hsr_ : s = r := by omega
            have t6_ : s = m ∨ s = ((a + b) / 2) ∨ tk (xs.getD (((a + b) / 2) + m - 1 - s).toNat 0) < tk (xs.getD s.toNat 0) := by rw [hsr_]; exact t6
            obtain ⟨p1_, p2_, p3_, p4_, p5_⟩ := sym_pre (mid := ((a + b) / 2)) (e := ((((a + b) / 2) + m) - s)) h0 hs1 hs2 ham hmb t0 (by omega) (by omega) (by omega) (by omega) t5 t6_ hzz_
            have hxz_ : MG xs xs a b := rho_mg h0 t0 (by omega) (by omega) (by omega) hzz_
            have hzl_ := hxz_.len
            rcases Decidable.em (a < s) with hg23 | hg23
            · refine WL.lv rfl (LV.as (LV.ltI rfl rfl) (decide_eq_true hg23)) ?_
              iterate 3 refine WL.lv rfl (LV.mv rfl) ?_
              refine WL.lv rfl (LV.ltI rfl rfl) ?_
              refine WL.lv rfl (LV.pickT rfl rfl) ?_
              refine WL.nil (thenQ.n ?_)
              refine WC.condP (p := s < ((a + b) / 2)) rfl (fun hc36 => ?_) (fun hc36 => ?_)
              · skip
                refine WC.region ?_
                iterate 5 refine WL.lv rfl (LV.mv rfl) ?_
                have hT23 := SH.sub (Es := [_]) hL6
                refine WL.call rfl (XC.fn Try.func80 (by kernel_rfl) rfl rfl rfl) (IH (xs := xs) (n := n) (a := a) (m := s) (b := ((a + b) / 2)) (by first | assumption | omega) hT23 (by omega) (by omega) (by omega) (by omega) (by omega) (fun x hx => hp x (hxz_.pm.mem_iff.1 hx)) (p1_) (p2_) (by omega)) ?_
                rintro v_ w37 ⟨ys23, rfl, hz43, hz44, hU23⟩
                have hS37 := SH.back (Es := [_]) hL6 hU23
                refine WL.nil (thenQ.n ?_)
                refine WC.seq ?_
                refine WC.region ?_
                iterate 2 refine WL.lv rfl (LV.mv rfl) ?_
                have m1_ := hz43
                have s1_ := hz44
                have q3_ : SRT ys23 ((a + b) / 2) ((((a + b) / 2) + m) - s) := p3_.mg m1_ (by omega) (by omega)
                have q4_ : SRT ys23 ((((a + b) / 2) + m) - s) b := p4_.mg m1_ (by omega) (by omega)
                have hz1l_ := m1_.len
                rcases Decidable.em (((a + b) / 2) < ((((a + b) / 2) + m) - s)) with hg24 | hg24
                · refine WL.lv rfl (LV.as (LV.ltI rfl rfl) (decide_eq_true hg24)) ?_
                  iterate 3 refine WL.lv rfl (LV.mv rfl) ?_
                  refine WL.lv rfl (LV.ltI rfl rfl) ?_
                  refine WL.lv rfl (LV.pickT rfl rfl) ?_
                  refine WL.nil (thenQ.n ?_)
                  refine WC.condP (p := ((((a + b) / 2) + m) - s) < b) rfl (fun hc37 => ?_) (fun hc37 => ?_)
                  · skip
                    refine WC.region ?_
                    iterate 5 refine WL.lv rfl (LV.mv rfl) ?_
                    have hT24 := SH.sub (Es := [_]) hS37
                    refine WL.call rfl (XC.fn Try.func80 (by kernel_rfl) rfl rfl rfl) (IH (xs := ys23) (n := n) (a := ((a + b) / 2)) (m := ((((a + b) / 2) + m) - s)) (b := b) (by first | assumption | omega) hT24 (by omega) (by omega) (by omega) (by omega) (by omega) (fun x hx => hp x (hxz_.pm.mem_iff.1 (m1_.pm.mem_iff.1 hx))) (q3_) (q4_) (by omega)) ?_
                    rintro v_ w38 ⟨ys24, rfl, hz45, hz46, hU24⟩
                    have hS38 := SH.back (Es := [_]) hS37 hU24
                    refine WL.nil (?_)
                    have hfin48 := sym_fin (mid := ((a + b) / 2)) h0 (by omega) hxz_ p5_ m1_ s1_ hz45 hz46
                    exact ⟨_, fun a ha => res0 rfl, _, rfl, hfin48.1, hfin48.2, hS38⟩
                  · skip
                    refine WC.skip (?_)
                    have hfin49 := sym_fin (mid := ((a + b) / 2)) h0 (by omega) hxz_ p5_ m1_ s1_ (MG.refl _ _ _) (by first | exact q4_.sub (by omega) (by omega) | exact q3_.sub (by omega) (by omega))
                    exact ⟨_, fun a ha => res0 rfl, _, rfl, hfin49.1, hfin49.2, hS37⟩
                · refine WL.lv rfl (LV.as (LV.ltI rfl rfl) (decide_eq_false hg24)) ?_
                  refine WL.lv rfl (LV.mv rfl) ?_
                  iterate 3 refine WL.off rfl ?_
                  refine WL.lv rfl (LV.pickF rfl rfl) ?_
                  refine WL.nil (thenQ.n ?_)
                  refine WC.condF rfl ?_
                  refine WC.skip (?_)
                  have hfin50 := sym_fin (mid := ((a + b) / 2)) h0 (by omega) hxz_ p5_ m1_ s1_ (MG.refl _ _ _) (by first | exact q4_.sub (by omega) (by omega) | exact q3_.sub (by omega) (by omega))
                  exact ⟨_, fun a ha => res0 rfl, _, rfl, hfin50.1, hfin50.2, hS37⟩
              · skip
                refine WC.skip (thenQ.n ?_)
                refine WC.seq ?_
                refine WC.region ?_
                iterate 2 refine WL.lv rfl (LV.mv rfl) ?_
                have m1_ : MG xs xs a ((a + b) / 2) := MG.refl _ _ _
                have s1_ : SRT xs a ((a + b) / 2) := by first | exact p2_.sub (by omega) (by omega) | exact p1_.sub (by omega) (by omega)
                have q3_ : SRT xs ((a + b) / 2) ((((a + b) / 2) + m) - s) := p3_.mg m1_ (by omega) (by omega)
                have q4_ : SRT xs ((((a + b) / 2) + m) - s) b := p4_.mg m1_ (by omega) (by omega)
                have hz1l_ := m1_.len
                rcases Decidable.em (((a + b) / 2) < ((((a + b) / 2) + m) - s)) with hg25 | hg25
                · refine WL.lv rfl (LV.as (LV.ltI rfl rfl) (decide_eq_true hg25)) ?_
                  iterate 3 refine WL.lv rfl (LV.mv rfl) ?_
                  refine WL.lv rfl (LV.ltI rfl rfl) ?_
                  refine WL.lv rfl (LV.pickT rfl rfl) ?_
                  refine WL.nil (thenQ.n ?_)
                  refine WC.condP (p := ((((a + b) / 2) + m) - s) < b) rfl (fun hc38 => ?_) (fun hc38 => ?_)
                  · skip
                    refine WC.region ?_
                    iterate 5 refine WL.lv rfl (LV.mv rfl) ?_
                    have hT25 := SH.sub (Es := [_]) hL6
                    refine WL.call rfl (XC.fn Try.func80 (by kernel_rfl) rfl rfl rfl) (IH (xs := xs) (n := n) (a := ((a + b) / 2)) (m := ((((a + b) / 2) + m) - s)) (b := b) (by first | assumption | omega) hT25 (by omega) (by omega) (by omega) (by omega) (by omega) (fun x hx => hp x (hxz_.pm.mem_iff.1 (m1_.pm.mem_iff.1 hx))) (q3_) (q4_) (by omega)) ?_
                    rintro v_ w39 ⟨ys25, rfl, hz47, hz48, hU25⟩
                    have hS39 := SH.back (Es := [_]) hL6 hU25
                    refine WL.nil (?_)
                    have hfin51 := sym_fin (mid := ((a + b) / 2)) h0 (by omega) hxz_ p5_ m1_ s1_ hz47 hz48
                    exact ⟨_, fun a ha => res0 rfl, _, rfl, hfin51.1, hfin51.2, hS39⟩
                  · skip
                    refine WC.skip (?_)
                    have hfin52 := sym_fin (mid := ((a + b) / 2)) h0 (by omega) hxz_ p5_ m1_ s1_ (MG.refl _ _ _) (by first | exact q4_.sub (by omega) (by omega) | exact q3_.sub (by omega) (by omega))
                    exact ⟨_, fun a ha => res0 rfl, _, rfl, hfin52.1, hfin52.2, hL6⟩
                · refine WL.lv rfl (LV.as (LV.ltI rfl rfl) (decide_eq_false hg25)) ?_
                  refine WL.lv rfl (LV.mv rfl) ?_
                  iterate 3 refine WL.off rfl ?_
                  refine WL.lv rfl (LV.pickF rfl rfl) ?_
                  refine WL.nil (thenQ.n ?_)
                  refine WC.condF rfl ?_
                  refine WC.skip (?_)
                  have hfin53 := sym_fin (mid := ((a + b) / 2)) h0 (by omega) hxz_ p5_ m1_ s1_ (MG.refl _ _ _) (by first | exact q4_.sub (by omega) (by omega) | exact q3_.sub (by omega) (by omega))
                  exact ⟨_, fun a ha => res0 rfl, _, rfl, hfin53.1, hfin53.2, hL6⟩
            · refine WL.lv rfl (LV.as (LV.ltI rfl rfl) (decide_eq_false hg23)) ?_
              refine WL.lv rfl (LV.mv rfl) ?_
              iterate 3 refine WL.off rfl ?_
              refine WL.lv rfl (LV.pickF rfl rfl) ?_
              refine WL.nil (thenQ.n ?_)
              refine WC.condF rfl ?_
              refine WC.skip (thenQ.n ?_)
              refine WC.seq ?_
              refine WC.region ?_
              iterate 2 refine WL.lv rfl (LV.mv rfl) ?_
              have m1_ : MG xs xs a ((a + b) / 2) := MG.refl _ _ _
              have s1_ : SRT xs a ((a + b) / 2) := by first | exact p2_.sub (by omega) (by omega) | exact p1_.sub (by omega) (by omega)
              have q3_ : SRT xs ((a + b) / 2) ((((a + b) / 2) + m) - s) := p3_.mg m1_ (by omega) (by omega)
              have q4_ : SRT xs ((((a + b) / 2) + m) - s) b := p4_.mg m1_ (by omega) (by omega)
              have hz1l_ := m1_.len
              rcases Decidable.em (((a + b) / 2) < ((((a + b) / 2) + m) - s)) with hg26 | hg26
              · refine WL.lv rfl (LV.as (LV.ltI rfl rfl) (decide_eq_true hg26)) ?_
                iterate 3 refine WL.lv rfl (LV.mv rfl) ?_
                refine WL.lv rfl (LV.ltI rfl rfl) ?_
                refine WL.lv rfl (LV.pickT rfl rfl) ?_
                refine WL.nil (thenQ.n ?_)
                refine WC.condP (p := ((((a + b) / 2) + m) - s) < b) rfl (fun hc39 => ?_) (fun hc39 => ?_)
                · skip
                  refine WC.region ?_
                  iterate 5 refine WL.lv rfl (LV.mv rfl) ?_
                  have hT26 := SH.sub (Es := [_]) hL6
                  refine WL.call rfl (XC.fn Try.func80 (by kernel_rfl) rfl rfl rfl) (IH (xs := xs) (n := n) (a := ((a + b) / 2)) (m := ((((a + b) / 2) + m) - s)) (b := b) (by first | assumption | omega) hT26 (by omega) (by omega) (by omega) (by omega) (by omega) (fun x hx => hp x (hxz_.pm.mem_iff.1 (m1_.pm.mem_iff.1 hx))) (q3_) (q4_) (by omega)) ?_
                  rintro v_ w40 ⟨ys26, rfl, hz49, hz50, hU26⟩
                  have hS40 := SH.back (Es := [_]) hL6 hU26
                  refine WL.nil (?_)
                  have hfin54 := sym_fin (mid := ((a + b) / 2)) h0 (by omega) hxz_ p5_ m1_ s1_ hz49 hz50
                  exact ⟨_, fun a ha => res0 rfl, _, rfl, hfin54.1, hfin54.2, hS40⟩
                · skip
                  refine WC.skip (?_)
                  have hfin55 := sym_fin (mid := ((a + b) / 2)) h0 (by omega) hxz_ p5_ m1_ s1_ (MG.refl _ _ _) (by first | exact q4_.sub (by omega) (by omega) | exact q3_.sub (by omega) (by omega))
                  exact ⟨_, fun a ha => res0 rfl, _, rfl, hfin55.1, hfin55.2, hL6⟩
              · refine WL.lv rfl (LV.as (LV.ltI rfl rfl) (decide_eq_false hg26)) ?_
                refine WL.lv rfl (LV.mv rfl) ?_
                iterate 3 refine WL.off rfl ?_
                refine WL.lv rfl (LV.pickF rfl rfl) ?_
                refine WL.nil (thenQ.n ?_)
                refine WC.condF rfl ?_
                refine WC.skip (?_)
                have hfin56 := sym_fin (mid := ((a + b) / 2)) h0 (by omega) hxz_ p5_ m1_ s1_ (MG.refl _ _ _) (by first | exact q4_.sub (by omega) (by omega) | exact q3_.sub (by omega) (by omega))
                exact ⟨_, fun a ha => res0 rfl, _, rfl, hfin56.1, hfin56.2, hL6⟩

theorem sym_calls_N : ∀ N : Nat, SymN N := by
  intro N; induction N with
  | zero => unfold SymN; intros; omega
  | succ N IH => unfold SymN; intros; apply sym_calls_step IH <;> first | assumption | omega
theorem sym_calls {w : World} {S : Nat → Prop} {A : Option Addr} {n c : Nat} {xs : List Nat} {a : Int} {m : Int} {b : Int} (hn : xs.length = n) (hS0 : SH w S w [rowE eF 34 (.slice A n c) xs]) (h0 : 0 ≤ a) (ham : a < m) (hmb : m < b) (hb : b ≤ n) (hl : n ≤ 1000000) (hp : ∀ x ∈ xs, W6 x) (hs1 : SRT xs a m) (hs2 : SRT xs m b) : Calls Try.prog 80 #[(.slice A n c), (.int .i64 a), (.int .i64 m), (.int .i64 b), (.func (.func 57) #[] #[])] w fun e w' => ∃ v, e = .returned v ∧ (fun v w' => ∃ ys : List Nat, v = .tuple #[] ∧ MG xs ys a b ∧ SRT ys a b ∧ SH w S w' [rowE eF 34 (.slice A n c) ys]) v w' :=
  sym_calls_N ((b - a).toNat + 1) hn hS0 h0 ham hmb hb hl hp hs1 hs2 (by omega)

set_option maxHeartbeats 2000000 in
theorem stable_calls {w : World} {S : Nat → Prop} {A : Option Addr} {c : Nat} {xs : List Nat} (hS0 : SH w S w [rowE eF 34 (.slice A xs.length c) xs]) (hp : ∀ x ∈ xs, W6 x) (hl : xs.length ≤ 60) :
    Calls Try.prog 71 #[(.slice A xs.length c), (.int .i64 (xs.length : Int)), (.func (.func 57) #[] #[])] w fun e w' => ∃ v, e = .returned v ∧ (fun v w' => ∃ ys : List Nat, v = .tuple #[] ∧ ys.Perm xs ∧ (ys.Pairwise fun a b => ¬ ORD b a < 0) ∧ SH w S w' [rowE eF 34 (.slice A xs.length c) ys]) v w' := by
  have hS : SH w S w [rowE eF 34 (.slice A xs.length c) xs] := hS0
  refine calls (l := litOf [(.slice A xs.length c), (.int .i64 (xs.length : Int)), (.func (.func 57) #[] #[])] 0) Try.func71 rfl (n := 63) rfl (Nat.le_of_ble_eq_true rfl) (lit_args _) ?_
  refine WC.seq ?_
  refine WC.region ?_
  refine WL.lv rfl (LV.asg rfl) ?_
  refine WL.nil (thenQ.n ?_)
  refine WC.seq ?_
  refine WC.region ?_
  refine WL.lv rfl (LV.mv rfl) ?_
  iterate 2 refine WL.lv rfl (LV.asg rfl) ?_
  refine WL.nil (thenQ.n ?_)
  refine WC.seq ?_
  refine WC.block ?_
  refine WC.loop (fun m_ f_ w_ => ∃ (a b : Int) (ys : List Nat), (0 ≤ a) ∧ (b = a + 20) ∧ (a % 20 = 0) ∧ (a ≤ xs.length) ∧ (ys.Perm xs) ∧ (RnI ys a) ∧ SH w S w_ [rowE eF 34 (.slice A xs.length c) ys] ∧ m_ = (((xs.length : Int) - a).toNat) ∧ Weak (lit [(0, (.slice A xs.length c)), (1, (.int .i64 (xs.length : Int))), (2, (.func (.func 57) #[] #[])), (6, (.int .i64 20)), (7, (.int .i64 a)), (8, (.int .i64 b))]) f_) _ ⟨0, 20, xs, by omega, by omega, by omega, by omega, (List.Perm.refl _), (RnI.z _), hS, rfl, Weak.cons rfl <| Weak.cons rfl <| Weak.cons rfl <| Weak.cons rfl <| Weak.cons rfl <| Weak.cons rfl <| Weak.nil _⟩ ?_
  rintro m1 f1 w1 ⟨a, b, ys, q0, q1, q2, q3, q4, q5, hL1, rfl, hw1⟩
  refine WC.weak hw1 ?_
  clear hw1
  have hyl_ := q4.length_eq
  have hpz : ∀ x ∈ ys, W6 x := fun x hx => hp x (q4.mem_iff.1 hx)
  iterate 2 refine WC.seq ?_
  refine WC.region ?_
  iterate 2 refine WL.lv rfl (LV.mv rfl) ?_
  refine WL.lv rfl (LV.leI rfl rfl) ?_
  refine WL.nil (thenQ.n ?_)
  refine WC.condP (p := b ≤ (xs.length : Int)) rfl (fun hc1 => ?_) (fun hc1 => ?_)
  · skip
    refine WC.skip (thenQ.n ?_)
    refine WC.block ?_
    refine WC.seq ?_
    refine WC.region ?_
    iterate 4 refine WL.lv rfl (LV.mv rfl) ?_
    have hT1 := SH.sub (Es := [_]) hL1
    refine WL.call rfl (XC.fn Try.func79 (by kernel_rfl) rfl rfl rfl) (insm_calls (xs := ys) (n := xs.length) (a := a) (b := b) (by first | assumption | omega) hT1 (by omega) (by omega) (by omega) (by omega) (hpz)) ?_
    rintro v_ w2 ⟨ys1, rfl, hz1, hz2, hU1⟩
    have hS1 := SH.back (Es := [_]) hL1 hU1
    refine WL.nil (thenQ.n ?_)
    refine WC.seq ?_
    refine WC.region ?_
    refine WL.lv rfl (LV.mv rfl) ?_
    refine WL.lv rfl (LV.asg rfl) ?_
    refine WL.nil (thenQ.n ?_)
    refine WC.region ?_
    iterate 2 refine WL.lv rfl (LV.mv rfl) ?_
    refine WL.lv rfl (LV.add rfl rfl (wr64 (by omega) (by omega))) ?_
    refine WL.lv rfl (LV.asg rfl) ?_
    refine WL.nil (blockQ.n <| thenQ.n ?_)
    exact ⟨_, by omega, b, b + 20, ys1, by omega, by omega, by omega, by omega, (hz1.pm.trans q4), (q5.step hz1 hz2 q2), hS1, rfl, Weak.cons rfl <| Weak.cons rfl <| Weak.cons rfl <| Weak.cons rfl <| Weak.cons rfl <| Weak.cons rfl <| Weak.nil _⟩
  · skip
    refine WC.exit (thenQ.x <| thenQ.x <| blockQ.hit <| thenQ.n ?_)
    refine WC.seq ?_
    refine WC.region ?_
    iterate 4 refine WL.lv rfl (LV.mv rfl) ?_
    have hT2 := SH.sub (Es := [_]) hL1
    refine WL.call rfl (XC.fn Try.func79 (by kernel_rfl) rfl rfl rfl) (insm_calls (xs := ys) (n := xs.length) (a := a) (b := (xs.length : Int)) (by first | assumption | omega) hT2 (by omega) (by omega) (by omega) (by omega) (hpz)) ?_
    rintro v_ w3 ⟨ys2, rfl, hz3, hz4, hU2⟩
    have hS2 := SH.back (Es := [_]) hL1 hU2
    refine WL.nil (thenQ.n ?_)
    refine WC.block ?_
    refine WC.loop (fun m_ f_ w_ => ∃ (k : Int) (zs : List Nat), (k = 20 ∨ k = 40 ∨ k = 80) ∧ (zs.Perm xs) ∧ (Rns zs k 0 xs.length) ∧ SH w S w_ [rowE eF 34 (.slice A xs.length c) zs] ∧ m_ = ((200 - k).toNat) ∧ Weak (lit [(0, (.slice A xs.length c)), (1, (.int .i64 (xs.length : Int))), (2, (.func (.func 57) #[] #[])), (6, (.int .i64 k))]) f_) _ ⟨20, ys2, by omega, (hz3.pm.trans q4), ((q5.step hz3 hz4 q2).fin), hS2, rfl, Weak.cons rfl <| Weak.cons rfl <| Weak.cons rfl <| Weak.cons rfl <| Weak.nil _⟩ ?_
    rintro m2 f2 w4 ⟨k, zs, u1, u2, u3, hL2, rfl, hw2⟩
    refine WC.weak hw2 ?_
    clear hw2
    have hzl_ := u2.length_eq
    iterate 2 refine WC.seq ?_
    refine WC.region ?_
    iterate 2 refine WL.lv rfl (LV.mv rfl) ?_
    refine WL.lv rfl (LV.ltI rfl rfl) ?_
    refine WL.nil (thenQ.n ?_)
    refine WC.condP (p := k < (xs.length : Int)) rfl (fun hc2 => ?_) (fun hc2 => ?_)
    · skip
      refine WC.skip (thenQ.n ?_)
      refine WC.block ?_
      refine WC.seq ?_
      refine WC.region ?_
      refine WL.lv rfl (LV.mv rfl) ?_
      have hkk_ : k = 20 ∨ k = 40 := by omega
      refine WL.lv rfl (LV.mul rfl rfl (wr64 (by omega) (by omega))) ?_
      iterate 2 refine WL.lv rfl (LV.asg rfl) ?_
      refine WL.nil (thenQ.n ?_)
      refine WC.seq ?_
      refine WC.block ?_
      refine WC.loop (fun m_ f_ w_ => ∃ (p q : Int) (ts : List Nat), (0 ≤ p) ∧ (q = p + 2 * k) ∧ (p % (2 * k) = 0) ∧ (p ≤ xs.length) ∧ (ts.Perm xs) ∧ (Rns ts k p xs.length) ∧ SH w S w_ [rowE eF 34 (.slice A xs.length c) ts] ∧ m_ = (((xs.length : Int) - p).toNat) ∧ Weak (lit [(0, (.slice A xs.length c)), (1, (.int .i64 (xs.length : Int))), (2, (.func (.func 57) #[] #[])), (6, (.int .i64 k)), (7, (.int .i64 p)), (8, (.int .i64 q))]) f_) _ ⟨0, 2 * k, zs, by omega, by omega, (Int.zero_emod _), by omega, u2, u3, hL2, rfl, Weak.cons rfl <| Weak.cons rfl <| Weak.cons rfl <| Weak.cons rfl <| Weak.cons rfl <| Weak.cons rfl <| Weak.nil _⟩ ?_
      rintro m3 f3 w5 ⟨p, q, ts, v0, v1, v2, v5, v3, v4, hL3, rfl, hw3⟩
      refine WC.weak hw3 ?_
      clear hw3
      have htl_ := v3.length_eq
      have hpz : ∀ x ∈ ts, W6 x := fun x hx => hp x (v3.mem_iff.1 hx)
      iterate 2 refine WC.seq ?_
      refine WC.region ?_
      iterate 2 refine WL.lv rfl (LV.mv rfl) ?_
      refine WL.lv rfl (LV.leI rfl rfl) ?_
      refine WL.nil (thenQ.n ?_)
      refine WC.condP (p := q ≤ (xs.length : Int)) rfl (fun hc3 => ?_) (fun hc3 => ?_)
      · skip
        refine WC.skip (thenQ.n ?_)
        refine WC.block ?_
        refine WC.seq ?_
        refine WC.region ?_
        iterate 4 refine WL.lv rfl (LV.mv rfl) ?_
        refine WL.lv rfl (LV.add rfl rfl (wr64 (by omega) (by omega))) ?_
        iterate 2 refine WL.lv rfl (LV.mv rfl) ?_
        have hT3 := SH.sub (Es := [_]) hL3
        refine WL.call rfl (XC.fn Try.func80 (by kernel_rfl) rfl rfl rfl) (sym_calls (xs := ts) (n := xs.length) (a := p) (m := (p + k)) (b := q) (by first | assumption | omega) hT3 (by omega) (by omega) (by omega) (by omega) (by omega) (hpz) (v4.srt1 hkk_ v0 v2 (by omega) (by omega)) (v4.srt2 hkk_ v0 v2 (by omega) (by omega))) ?_
        rintro v_ w6 ⟨ys3, rfl, hz5, hz6, hU3⟩
        have hS3 := SH.back (Es := [_]) hL3 hU3
        refine WL.nil (thenQ.n ?_)
        refine WC.seq ?_
        refine WC.region ?_
        refine WL.lv rfl (LV.mv rfl) ?_
        refine WL.lv rfl (LV.asg rfl) ?_
        refine WL.nil (thenQ.n ?_)
        refine WC.region ?_
        iterate 2 refine WL.lv rfl (LV.mv rfl) ?_
        refine WL.lv rfl (LV.mul rfl rfl (wr64 (by omega) (by omega))) ?_
        refine WL.lv rfl (LV.add rfl rfl (wr64 (by omega) (by omega))) ?_
        refine WL.lv rfl (LV.asg rfl) ?_
        refine WL.nil (blockQ.n <| thenQ.n ?_)
        exact ⟨_, by omega, q, q + (2 * k), ys3, by omega, by omega, (by rcases hkk_ with rfl | rfl <;> omega), by omega, (hz5.pm.trans v3), (by rw [v1]; exact v4.step hkk_ v0 v2 (v1 ▸ hz5) (v1 ▸ hz6)), hS3, rfl, Weak.cons rfl <| Weak.cons rfl <| Weak.cons rfl <| Weak.cons rfl <| Weak.cons rfl <| Weak.cons rfl <| Weak.nil _⟩
      · skip
        refine WC.exit (thenQ.x <| thenQ.x <| blockQ.hit <| thenQ.n ?_)
        iterate 2 refine WC.seq ?_
        refine WC.region ?_
        iterate 2 refine WL.lv rfl (LV.mv rfl) ?_
        refine WL.lv rfl (LV.add rfl rfl (wr64 (by omega) (by omega))) ?_
        refine WL.lv rfl (LV.asg rfl) ?_
        refine WL.nil (thenQ.n ?_)
        refine WC.seq ?_
        refine WC.region ?_
        iterate 2 refine WL.lv rfl (LV.mv rfl) ?_
        refine WL.lv rfl (LV.ltI rfl rfl) ?_
        refine WL.nil (thenQ.n ?_)
        refine WC.condP (p := (p + k) < (xs.length : Int)) rfl (fun hc4 => ?_) (fun hc4 => ?_)
        · skip
          refine WC.region ?_
          iterate 5 refine WL.lv rfl (LV.mv rfl) ?_
          have hT4 := SH.sub (Es := [_]) hL3
          refine WL.call rfl (XC.fn Try.func80 (by kernel_rfl) rfl rfl rfl) (sym_calls (xs := ts) (n := xs.length) (a := p) (m := (p + k)) (b := (xs.length : Int)) (by first | assumption | omega) hT4 (by omega) (by omega) (by omega) (by omega) (by omega) (hpz) (v4.srt1 hkk_ v0 v2 (by omega) (by omega)) (v4.srt2 hkk_ v0 v2 (by omega) (by omega))) ?_
          rintro v_ w7 ⟨ys4, rfl, hz7, hz8, hU4⟩
          have hS4 := SH.back (Es := [_]) hL3 hU4
          refine WL.nil (thenQ.n ?_)
          refine WC.region ?_
          refine WL.lv rfl (LV.mv rfl) ?_
          refine WL.lv rfl (LV.mul rfl rfl (wr64 (by omega) (by omega))) ?_
          refine WL.lv rfl (LV.asg rfl) ?_
          refine WL.nil (blockQ.n <| thenQ.n ?_)
          exact ⟨_, by omega, k * 2, ys4, by omega, (hz7.pm.trans v3), (v4.last hkk_ v0 v2 (by omega) hz7 hz8), hS4, rfl, Weak.cons rfl <| Weak.cons rfl <| Weak.cons rfl <| Weak.cons rfl <| Weak.nil _⟩
        · skip
          refine WC.skip (thenQ.n ?_)
          refine WC.region ?_
          refine WL.lv rfl (LV.mv rfl) ?_
          refine WL.lv rfl (LV.mul rfl rfl (wr64 (by omega) (by omega))) ?_
          refine WL.lv rfl (LV.asg rfl) ?_
          refine WL.nil (blockQ.n <| thenQ.n ?_)
          exact ⟨_, by omega, k * 2, ts, by omega, v3, (v4.last0 hkk_ v0 v2 (by omega) (by omega)), hL3, rfl, Weak.cons rfl <| Weak.cons rfl <| Weak.cons rfl <| Weak.cons rfl <| Weak.nil _⟩
    · skip
      refine WC.exit (thenQ.x <| thenQ.x <| blockQ.hit <| ?_)
      exact ⟨_, fun a ha => res0 rfl, _, rfl, u2, srt_pair ((u3.fin (by omega)).sub (by omega) (Int.le_refl _)) (by rw [u2.length_eq]), hL2⟩

theorem sortst_calls {w : World} {S : Nat → Prop} {A : Option Addr} {c : Nat} {xs : List Nat} (hS0 : SH w S w [rowE eF 34 (.slice A xs.length c) xs]) (hp : ∀ x ∈ xs, W6 x) (hl : xs.length ≤ 60) :
    Calls Try.prog 56 #[(.slice A xs.length c), (.func (.func 57) #[] #[])] w fun e w' => ∃ v, e = .returned v ∧ (fun v w' => ∃ ys : List Nat, v = .tuple #[] ∧ ys.Perm xs ∧ (ys.Pairwise fun a b => ¬ ORD b a < 0) ∧ SH w S w' [rowE eF 34 (.slice A xs.length c) ys]) v w' := by
  have hS : SH w S w [rowE eF 34 (.slice A xs.length c) xs] := hS0
  refine calls (l := litOf [(.slice A xs.length c), (.func (.func 57) #[] #[])] 0) Try.func56 rfl (n := 9) rfl (Nat.le_of_ble_eq_true rfl) (lit_args _) ?_
  refine WC.region ?_
  iterate 2 refine WL.lv rfl (LV.mv rfl) ?_
  refine WL.lv rfl (LV.lenL Try.underlying60 rfl) ?_
  refine WL.lv rfl (LV.mv rfl) ?_
  have hT1 := SH.sub (Es := [_]) hS
  refine WL.call rfl (XC.fn Try.func71 (by kernel_rfl) rfl rfl rfl) (stable_calls hT1 hp (by omega)) ?_
  rintro v_ w1 ⟨ys1, rfl, hpm1, hpw1, hU1⟩
  have hS1 := SH.back (Es := [_]) hS hU1
  refine WL.nil (?_)
  exact ⟨_, fun a ha => res0 rfl, _, rfl, hpm1, hpw1, hS1⟩

end Go.Proofs.Ytomeffnlmefnlaa
