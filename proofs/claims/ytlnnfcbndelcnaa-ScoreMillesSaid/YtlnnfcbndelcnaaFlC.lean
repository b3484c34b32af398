/- Numbers in order. -/
import Derived.Test.YtlnnfcbndelcnaaProg
import Derived.Test.YtlnnfcbndelcnaaFlB
import Derived.Test.YtlnnfcbndelcnaaGvX
import Derived.Test.YtlnnfcbndelcnaaGvT
import Derived.Test.YtlnnfcbndelcnaaGvG
namespace Go.Proofs.Ytlnnfcbndelcnaa
open Go Go.Gv Go.RowKit Go.Flt
set_option linter.unusedVariables false
set_option linter.unusedSimpArgs false

theorem isNaN_calls {w : World} {x : Nat}  :
    Calls Try.prog 34 #[(.float .f64 x)] w fun e w' => ∃ v, e = .returned v ∧ (fun v w' => (v = .bool (decide (¬ (-9218868437227405312 ≤ sk x ∧ sk x ≤ 9218868437227405312)))) ∧ KB No w w') v w' := by
  have hS : SH w No w [] := SH.nil _ _
  refine calls (l := litOf [(.float .f64 x)] 0) Try.func34 rfl (n := 6) rfl (Nat.le_of_ble_eq_true rfl) (lit_args _) ?_
  refine WC.seq ?_
  refine WC.region ?_
  refine WL.lv rfl (LV.asg rfl) ?_
  refine WL.nil (thenQ.n ?_)
  refine WC.seq ?_
  refine WC.region ?_
  iterate 2 refine WL.lv rfl (LV.mv rfl) ?_
  refine WL.lv rfl (LV.neF (a := x) (b := x) rfl rfl) ?_
  refine WL.lv rfl (LV.asg rfl) ?_
  refine WL.nil (thenQ.n ?_)
  refine WC.ret (?_)
  exact ⟨_, fun a ha => res1 rfl ha rfl, congrArg Value.bool (decide_eq_decide.2 (by omega)), hS.kb⟩

theorem nan_calls {w : World}  :
    Calls Try.prog 32 #[] w fun e w' => ∃ v, e = .returned v ∧ (fun v w' => ∃ (r' : Nat), v = .float .f64 r' ∧ cn r' = none ∧ r' < 18446744073709551616 ∧ KB No w w') v w' := by
  have hS : SH w No w [] := SH.nil _ _
  refine calls (l := litOf [] 0) Try.func32 rfl (n := 5) rfl (Nat.le_of_ble_eq_true rfl) (lit_args _) ?_
  refine WC.seq ?_
  refine WC.region ?_
  refine WL.lv rfl (LV.asg rfl) ?_
  refine WL.nil (thenQ.n ?_)
  refine WC.seq ?_
  refine WC.region ?_
  refine WL.lv rfl (LV.asg rfl) ?_
  refine WL.nil (thenQ.n ?_)
  refine WC.seq ?_
  refine WC.region ?_
  iterate 2 refine WL.lv rfl (LV.mv rfl) ?_
  refine WL.xe rfl (XE.arF (a := 0) (b := 0) hS (.inr (.inr (.inr rfl))) rfl rfl) ?_
  rintro _ w1 ⟨r1, rfl, hr1, hb1, hS1, hk1⟩
  refine WL.lv rfl (LV.asg rfl) ?_
  refine WL.nil (thenQ.n ?_)
  refine WC.ret (?_)
  exact ⟨_, fun a ha => res1 rfl ha rfl, r1, congrArg FV (rfl), hr1.trans (by decide +kernel), hb1, hS1.kb⟩

theorem none_calls {w : World}  :
    Calls Try.prog 33 #[] w fun e w' => ∃ v, e = .returned v ∧ (fun v w' => ∃ (r' : Nat), v = .float .f64 r' ∧ cn r' = none ∧ r' < 18446744073709551616 ∧ KB No w w') v w' := by
  have hS : SH w No w [] := SH.nil _ _
  refine calls (l := litOf [] 0) Try.func33 rfl (n := 5) rfl (Nat.le_of_ble_eq_true rfl) (lit_args _) ?_
  refine WC.seq ?_
  refine WC.region ?_
  refine WL.lv rfl (LV.asg rfl) ?_
  refine WL.nil (thenQ.n ?_)
  refine WC.seq ?_
  refine WC.region ?_
  refine WL.lv rfl (LV.asg rfl) ?_
  refine WL.nil (thenQ.n ?_)
  refine WC.seq ?_
  refine WC.region ?_
  iterate 2 refine WL.lv rfl (LV.mv rfl) ?_
  refine WL.xe rfl (XE.arF (a := 0) (b := 0) hS (.inr (.inr (.inr rfl))) rfl rfl) ?_
  rintro _ w1 ⟨r1, rfl, hr1, hb1, hS1, hk1⟩
  refine WL.lv rfl (LV.asg rfl) ?_
  refine WL.nil (thenQ.n ?_)
  refine WC.ret (?_)
  exact ⟨_, fun a ha => res1 rfl ha rfl, r1, congrArg FV (rfl), hr1.trans (by decide +kernel), hb1, hS1.kb⟩

theorem class_calls {w : World} {x : Nat}  :
    Calls Try.prog 36 #[(.float .f64 x)] w fun e w' => ∃ v, e = .returned v ∧ (fun v w' => (v = .int .i64 (if ¬ (-9218868437227405312 ≤ sk x ∧ sk x ≤ 9218868437227405312) then (1 : Int) else 0)) ∧ KB No w w') v w' := by
  have hS : SH w No w [] := SH.nil _ _
  refine calls (l := litOf [(.float .f64 x)] 0) Try.func36 rfl (n := 5) rfl (Nat.le_of_ble_eq_true rfl) (lit_args _) ?_
  refine WC.seq ?_
  refine WC.region ?_
  refine WL.lv rfl (LV.asg rfl) ?_
  refine WL.nil (thenQ.n ?_)
  iterate 2 refine WC.seq ?_
  refine WC.region ?_
  refine WL.lv rfl (LV.mv rfl) ?_
  refine WL.call rfl (XC.fn Try.func34 (by kernel_rfl) rfl rfl rfl) (isNaN_calls (x := x) ) ?_
  rintro v_ w1 ⟨rfl, hk1⟩
  have hS1 := SH.same hS hk1
  refine WL.nil (thenQ.n ?_)
  refine WC.condP (p := ¬ (-9218868437227405312 ≤ sk x ∧ sk x ≤ 9218868437227405312)) rfl (fun hc1 => ?_) (fun hc1 => ?_)
  · skip
    refine WC.seq ?_
    refine WC.region ?_
    refine WL.lv rfl (LV.asg rfl) ?_
    refine WL.nil (thenQ.n ?_)
    refine WC.ret (thenQ.r <| ?_)
    exact ⟨_, fun a ha => res1 rfl ha rfl, congrArg (Value.int .i64) (by first | rw [if_pos (by omega)] | rw [if_neg (by omega)]), hS1.kb⟩
  · skip
    refine WC.skip (thenQ.n ?_)
    refine WC.seq ?_
    refine WC.region ?_
    refine WL.lv rfl (LV.asg rfl) ?_
    refine WL.nil (thenQ.n ?_)
    refine WC.ret (?_)
    exact ⟨_, fun a ha => res1 rfl ha rfl, congrArg (Value.int .i64) (by first | rw [if_pos (by omega)] | rw [if_neg (by omega)]), hS1.kb⟩

theorem compare_calls {w : World} {a : Int} {b : Int}  :
    Calls Try.prog 35 #[(.int .i64 a), (.int .i64 b)] w fun e w' => ∃ v, e = .returned v ∧ (fun v w' => v = .int .i64 (if a < b then (-1 : Int) else if a > b then 1 else 0) ∧ KB No w w') v w' := by
  have hS : SH w No w [] := SH.nil _ _
  refine calls (l := litOf [(.int .i64 a), (.int .i64 b)] 0) Try.func35 rfl (n := 13) rfl (Nat.le_of_ble_eq_true rfl) (lit_args _) ?_
  refine WC.seq ?_
  refine WC.region ?_
  refine WL.lv rfl (LV.asg rfl) ?_
  refine WL.nil (thenQ.n ?_)
  refine WC.seq ?_
  refine WC.block ?_
  refine WC.seq ?_
  refine WC.region ?_
  iterate 2 refine WL.lv rfl (LV.mv rfl) ?_
  refine WL.lv rfl (LV.ltI rfl rfl) ?_
  refine WL.lv rfl (LV.asg rfl) ?_
  refine WL.nil (thenQ.n ?_)
  refine WC.condP (p := a < b) rfl (fun hc1 => ?_) (fun hc1 => ?_)
  · skip
    refine WC.seq ?_
    refine WC.region ?_
    refine WL.lv rfl (LV.asg rfl) ?_
    refine WL.nil (thenQ.n ?_)
    refine WC.ret (blockQ.r <| thenQ.r <| ?_)
    exact ⟨_, fun a ha => res1 rfl ha rfl, congrArg (Value.int .i64) (by first | rw [if_pos (by omega)] | rw [if_neg (by omega), if_pos (by omega)] | rw [if_neg (by omega), if_neg (by omega)]), hS.kb⟩
  · skip
    refine WC.seq ?_
    refine WC.region ?_
    iterate 2 refine WL.lv rfl (LV.mv rfl) ?_
    refine WL.lv rfl (LV.gtI rfl rfl) ?_
    refine WL.lv rfl (LV.asg rfl) ?_
    refine WL.nil (thenQ.n ?_)
    refine WC.condP (p := a > b) rfl (fun hc2 => ?_) (fun hc2 => ?_)
    · skip
      refine WC.seq ?_
      refine WC.region ?_
      refine WL.lv rfl (LV.asg rfl) ?_
      refine WL.nil (thenQ.n ?_)
      refine WC.ret (blockQ.r <| thenQ.r <| ?_)
      exact ⟨_, fun a ha => res1 rfl ha rfl, congrArg (Value.int .i64) (by first | rw [if_pos (by omega)] | rw [if_neg (by omega), if_pos (by omega)] | rw [if_neg (by omega), if_neg (by omega)]), hS.kb⟩
    · skip
      refine WC.skip (blockQ.n <| thenQ.n ?_)
      refine WC.seq ?_
      refine WC.region ?_
      refine WL.lv rfl (LV.asg rfl) ?_
      refine WL.nil (thenQ.n ?_)
      refine WC.ret (?_)
      exact ⟨_, fun a ha => res1 rfl ha rfl, congrArg (Value.int .i64) (by first | rw [if_pos (by omega)] | rw [if_neg (by omega), if_pos (by omega)] | rw [if_neg (by omega), if_neg (by omega)]), hS.kb⟩

theorem negative_calls {w : World} {x : Nat} (hx : x < 18446744073709551616) :
    Calls Try.prog 42 #[(.float .f64 x)] w fun e w' => ∃ v, e = .returned v ∧ (fun v w' => (v = .bool (decide (sk x = 0 ∧ x ≠ 0))) ∧ KB No w w') v w' := by
  have hS : SH w No w [] := SH.nil _ _
  refine calls (l := litOf [(.float .f64 x)] 0) Try.func42 rfl (n := 10) rfl (Nat.le_of_ble_eq_true rfl) (lit_args _) ?_
  refine WC.seq ?_
  refine WC.region ?_
  refine WL.lv rfl (LV.asg rfl) ?_
  refine WL.nil (thenQ.n ?_)
  refine WC.seq ?_
  refine WC.region ?_
  refine WL.lv rfl (LV.mv rfl) ?_
  have hsk_0 : sk 0 = (0 : Int) := by decide +kernel
  rcases Decidable.em (((-9218868437227405312 ≤ sk x ∧ sk x ≤ 9218868437227405312) ∧ (-9218868437227405312 ≤ (0 : Int) ∧ (0 : Int) ≤ 9218868437227405312)) ∧ sk x = (0 : Int)) with hg1 | hg1
  · refine WL.lv rfl (LV.as (LV.eqF (a := x) (b := 0) rfl rfl) (decide_eq_true hg1)) ?_
    iterate 2 refine WL.lv rfl (LV.mv rfl) ?_
    refine WL.xe rfl (XE.arF (a := 4607182418800017408) (b := x) hS (.inr (.inr (.inr rfl))) rfl rfl) ?_
    rintro _ w1 ⟨r1, rfl, hr1, hb1, hS1, hk1⟩
    have hz_ := inv_zero (by omega) hx hr1
    have hsk_0 : sk 0 = (0 : Int) := by decide +kernel
    refine WL.lv rfl (LV.ltF (a := r1) (b := 0) rfl rfl) ?_
    refine WL.lv rfl (LV.pickT rfl rfl) ?_
    refine WL.lv rfl (LV.asg rfl) ?_
    refine WL.nil (thenQ.n ?_)
    refine WC.ret (?_)
    exact ⟨_, fun a ha => res1 rfl ha rfl, congrArg Value.bool (decide_eq_decide.2 (by omega)), hS1.kb⟩
  · refine WL.lv rfl (LV.as (LV.eqF (a := x) (b := 0) rfl rfl) (decide_eq_false hg1)) ?_
    refine WL.lv rfl (LV.mv rfl) ?_
    iterate 3 refine WL.off rfl ?_
    refine WL.lv rfl (LV.pickF rfl rfl) ?_
    refine WL.lv rfl (LV.asg rfl) ?_
    refine WL.nil (thenQ.n ?_)
    refine WC.ret (?_)
    exact ⟨_, fun a ha => res1 rfl ha rfl, congrArg Value.bool (decide_eq_false (show ¬ (sk x = 0 ∧ x ≠ 0) by omega)).symm, hS.kb⟩

theorem sign_calls {w : World} {x : Nat} (hx : x < 18446744073709551616) :
    Calls Try.prog 37 #[(.float .f64 x)] w fun e w' => ∃ v, e = .returned v ∧ (fun v w' => (v = .int .i64 (if sk x = 0 ∧ x ≠ 0 then (0 : Int) else 1)) ∧ KB No w w') v w' := by
  have hS : SH w No w [] := SH.nil _ _
  refine calls (l := litOf [(.float .f64 x)] 0) Try.func37 rfl (n := 5) rfl (Nat.le_of_ble_eq_true rfl) (lit_args _) ?_
  refine WC.seq ?_
  refine WC.region ?_
  refine WL.lv rfl (LV.asg rfl) ?_
  refine WL.nil (thenQ.n ?_)
  iterate 2 refine WC.seq ?_
  refine WC.region ?_
  refine WL.lv rfl (LV.mv rfl) ?_
  refine WL.call rfl (XC.fn Try.func42 (by kernel_rfl) rfl rfl rfl) (negative_calls (x := x) (by first | assumption | omega | exact hp _ (getD_mem (by omega)) | exact hpz _ (getD_mem (by omega)))) ?_
  rintro v_ w1 ⟨rfl, hk1⟩
  have hS1 := SH.same hS hk1
  refine WL.nil (thenQ.n ?_)
  refine WC.condP (p := sk x = 0 ∧ x ≠ 0) rfl (fun hc1 => ?_) (fun hc1 => ?_)
  · skip
    refine WC.seq ?_
    refine WC.region ?_
    refine WL.lv rfl (LV.asg rfl) ?_
    refine WL.nil (thenQ.n ?_)
    refine WC.ret (thenQ.r <| ?_)
    exact ⟨_, fun a ha => res1 rfl ha rfl, congrArg (Value.int .i64) (by first | rw [if_pos (by omega)] | rw [if_neg (by omega)]), hS1.kb⟩
  · skip
    refine WC.skip (thenQ.n ?_)
    refine WC.seq ?_
    refine WC.region ?_
    refine WL.lv rfl (LV.asg rfl) ?_
    refine WL.nil (thenQ.n ?_)
    refine WC.ret (?_)
    exact ⟨_, fun a ha => res1 rfl ha rfl, congrArg (Value.int .i64) (by first | rw [if_pos (by omega)] | rw [if_neg (by omega)]), hS1.kb⟩

theorem order_calls {w : World} {a : Nat} {b : Nat} (ha : a < 18446744073709551616) (hb : b < 18446744073709551616) :
    Calls Try.prog 14 #[(.float .f64 a), (.float .f64 b)] w fun e w' => ∃ v, e = .returned v ∧ (fun v w' => v = .int .i64 (ORD a b) ∧ KB No w w') v w' := by
  have ha_ := tk_is a
  have hb_ := tk_is b
  have ho_ := ord_is' a b
  have hS : SH w No w [] := SH.nil _ _
  refine calls (l := litOf [(.float .f64 a), (.float .f64 b)] 0) Try.func14 rfl (n := 33) rfl (Nat.le_of_ble_eq_true rfl) (lit_args _) ?_
  refine WC.seq ?_
  refine WC.region ?_
  refine WL.lv rfl (LV.asg rfl) ?_
  refine WL.nil (thenQ.n ?_)
  refine WC.seq ?_
  refine WC.block ?_
  refine WC.seq ?_
  refine WC.region ?_
  refine WL.lv rfl (LV.mv rfl) ?_
  rcases Decidable.em (¬ (-9218868437227405312 ≤ sk a ∧ sk a ≤ 9218868437227405312)) with hg1 | hg1
  · refine WL.call rfl (XC.fn Try.func34 (by kernel_rfl) rfl rfl rfl) (Calls.asB (isNaN_calls (x := a) ) (decide_eq_true (hg1))) ?_
    rintro v_ w1 ⟨rfl, hk1⟩
    have hS1 := SH.same hS hk1
    refine WL.lv rfl (LV.mv rfl) ?_
    iterate 2 refine WL.off rfl ?_
    refine WL.lv rfl (LV.pickT rfl rfl) ?_
    refine WL.lv rfl (LV.asg rfl) ?_
    refine WL.nil (thenQ.n ?_)
    refine WC.condT rfl ?_
    refine WC.seq ?_
    refine WC.region ?_
    refine WL.lv rfl (LV.mv rfl) ?_
    refine WL.call rfl (XC.fn Try.func36 (by kernel_rfl) rfl rfl rfl) (class_calls (x := a) ) ?_
    rintro v_ w2 ⟨rfl, hk2⟩
    have hS2 := SH.same hS1 hk2
    refine WL.lv rfl (LV.mv rfl) ?_
    refine WL.call rfl (XC.fn Try.func36 (by kernel_rfl) rfl rfl rfl) (class_calls (x := b) ) ?_
    rintro v_ w3 ⟨rfl, hk3⟩
    have hS3 := SH.same hS2 hk3
    refine WL.call rfl (XC.fn Try.func35 (by kernel_rfl) rfl rfl rfl) (compare_calls (a := (if ¬ (-9218868437227405312 ≤ sk a ∧ sk a ≤ 9218868437227405312) then (1 : Int) else 0)) (b := (if ¬ (-9218868437227405312 ≤ sk b ∧ sk b ≤ 9218868437227405312) then (1 : Int) else 0)) ) ?_
    rintro v_ w4 ⟨rfl, hk4⟩
    have hS4 := SH.same hS3 hk4
    refine WL.lv rfl (LV.asg rfl) ?_
    refine WL.nil (thenQ.n ?_)
    refine WC.ret (blockQ.r <| thenQ.r <| ?_)
    exact ⟨_, fun a ha => res1 rfl ha rfl, congrArg (Value.int .i64) (by omega), hS4.kb⟩
  · refine WL.call rfl (XC.fn Try.func34 (by kernel_rfl) rfl rfl rfl) (Calls.asB (isNaN_calls (x := a) ) (decide_eq_false (hg1))) ?_
    rintro v_ w5 ⟨rfl, hk5⟩
    have hS5 := SH.same hS hk5
    iterate 2 refine WL.lv rfl (LV.mv rfl) ?_
    refine WL.call rfl (XC.fn Try.func34 (by kernel_rfl) rfl rfl rfl) (isNaN_calls (x := b) ) ?_
    rintro v_ w6 ⟨rfl, hk6⟩
    have hS6 := SH.same hS5 hk6
    refine WL.lv rfl (LV.pickF rfl rfl) ?_
    refine WL.lv rfl (LV.asg rfl) ?_
    refine WL.nil (thenQ.n ?_)
    refine WC.condP (p := ¬ (-9218868437227405312 ≤ sk b ∧ sk b ≤ 9218868437227405312)) rfl (fun hc1 => ?_) (fun hc1 => ?_)
    · skip
      refine WC.seq ?_
      refine WC.region ?_
      refine WL.lv rfl (LV.mv rfl) ?_
      refine WL.call rfl (XC.fn Try.func36 (by kernel_rfl) rfl rfl rfl) (class_calls (x := a) ) ?_
      rintro v_ w7 ⟨rfl, hk7⟩
      have hS7 := SH.same hS6 hk7
      refine WL.lv rfl (LV.mv rfl) ?_
      refine WL.call rfl (XC.fn Try.func36 (by kernel_rfl) rfl rfl rfl) (class_calls (x := b) ) ?_
      rintro v_ w8 ⟨rfl, hk8⟩
      have hS8 := SH.same hS7 hk8
      refine WL.call rfl (XC.fn Try.func35 (by kernel_rfl) rfl rfl rfl) (compare_calls (a := (if ¬ (-9218868437227405312 ≤ sk a ∧ sk a ≤ 9218868437227405312) then (1 : Int) else 0)) (b := (if ¬ (-9218868437227405312 ≤ sk b ∧ sk b ≤ 9218868437227405312) then (1 : Int) else 0)) ) ?_
      rintro v_ w9 ⟨rfl, hk9⟩
      have hS9 := SH.same hS8 hk9
      refine WL.lv rfl (LV.asg rfl) ?_
      refine WL.nil (thenQ.n ?_)
      refine WC.ret (blockQ.r <| thenQ.r <| ?_)
      exact ⟨_, fun a ha => res1 rfl ha rfl, congrArg (Value.int .i64) (by omega), hS9.kb⟩
    · skip
      refine WC.seq ?_
      refine WC.region ?_
      iterate 2 refine WL.lv rfl (LV.mv rfl) ?_
      refine WL.lv rfl (LV.ltF (a := a) (b := b) rfl rfl) ?_
      refine WL.lv rfl (LV.asg rfl) ?_
      refine WL.nil (thenQ.n ?_)
      refine WC.condP (p := ((-9218868437227405312 ≤ sk a ∧ sk a ≤ 9218868437227405312) ∧ (-9218868437227405312 ≤ sk b ∧ sk b ≤ 9218868437227405312)) ∧ sk a < sk b) rfl (fun hc2 => ?_) (fun hc2 => ?_)
      · skip
        refine WC.seq ?_
        refine WC.region ?_
        refine WL.lv rfl (LV.asg rfl) ?_
        refine WL.nil (thenQ.n ?_)
        refine WC.ret (blockQ.r <| thenQ.r <| ?_)
        exact ⟨_, fun a ha => res1 rfl ha rfl, congrArg (Value.int .i64) (by omega), hS6.kb⟩
      · skip
        refine WC.seq ?_
        refine WC.region ?_
        iterate 2 refine WL.lv rfl (LV.mv rfl) ?_
        refine WL.lv rfl (LV.gtF (a := a) (b := b) rfl rfl) ?_
        refine WL.lv rfl (LV.asg rfl) ?_
        refine WL.nil (thenQ.n ?_)
        refine WC.condP (p := ((-9218868437227405312 ≤ sk a ∧ sk a ≤ 9218868437227405312) ∧ (-9218868437227405312 ≤ sk b ∧ sk b ≤ 9218868437227405312)) ∧ sk a > sk b) rfl (fun hc3 => ?_) (fun hc3 => ?_)
        · skip
          refine WC.seq ?_
          refine WC.region ?_
          refine WL.lv rfl (LV.asg rfl) ?_
          refine WL.nil (thenQ.n ?_)
          refine WC.ret (blockQ.r <| thenQ.r <| ?_)
          exact ⟨_, fun a ha => res1 rfl ha rfl, congrArg (Value.int .i64) (by omega), hS6.kb⟩
        · skip
          refine WC.seq ?_
          refine WC.region ?_
          refine WL.lv rfl (LV.mv rfl) ?_
          have hsk_0 : sk 0 = (0 : Int) := by decide +kernel
          refine WL.lv rfl (LV.eqF (a := a) (b := 0) rfl rfl) ?_
          refine WL.lv rfl (LV.asg rfl) ?_
          refine WL.nil (thenQ.n ?_)
          refine WC.condP (p := ((-9218868437227405312 ≤ sk a ∧ sk a ≤ 9218868437227405312) ∧ (-9218868437227405312 ≤ (0 : Int) ∧ (0 : Int) ≤ 9218868437227405312)) ∧ sk a = (0 : Int)) rfl (fun hc4 => ?_) (fun hc4 => ?_)
          · skip
            refine WC.seq ?_
            refine WC.region ?_
            refine WL.lv rfl (LV.mv rfl) ?_
            refine WL.call rfl (XC.fn Try.func37 (by kernel_rfl) rfl rfl rfl) (sign_calls (x := a) (by first | assumption | omega | exact hp _ (getD_mem (by omega)) | exact hpz _ (getD_mem (by omega)))) ?_
            rintro v_ w10 ⟨rfl, hk10⟩
            have hS10 := SH.same hS6 hk10
            refine WL.lv rfl (LV.mv rfl) ?_
            refine WL.call rfl (XC.fn Try.func37 (by kernel_rfl) rfl rfl rfl) (sign_calls (x := b) (by first | assumption | omega | exact hp _ (getD_mem (by omega)) | exact hpz _ (getD_mem (by omega)))) ?_
            rintro v_ w11 ⟨rfl, hk11⟩
            have hS11 := SH.same hS10 hk11
            refine WL.call rfl (XC.fn Try.func35 (by kernel_rfl) rfl rfl rfl) (compare_calls (a := (if sk a = 0 ∧ a ≠ 0 then (0 : Int) else 1)) (b := (if sk b = 0 ∧ b ≠ 0 then (0 : Int) else 1)) ) ?_
            rintro v_ w12 ⟨rfl, hk12⟩
            have hS12 := SH.same hS11 hk12
            refine WL.lv rfl (LV.asg rfl) ?_
            refine WL.nil (thenQ.n ?_)
            refine WC.ret (blockQ.r <| thenQ.r <| ?_)
            exact ⟨_, fun a ha => res1 rfl ha rfl, congrArg (Value.int .i64) (by omega), hS12.kb⟩
          · skip
            refine WC.skip (blockQ.n <| thenQ.n ?_)
            refine WC.seq ?_
            refine WC.region ?_
            refine WL.lv rfl (LV.asg rfl) ?_
            refine WL.nil (thenQ.n ?_)
            refine WC.ret (?_)
            exact ⟨_, fun a ha => res1 rfl ha rfl, congrArg (Value.int .i64) (by omega), hS6.kb⟩

theorem rank_calls {w : World} {x : Nat} (hx : x < 18446744073709551616) :
    Calls Try.prog 38 #[(.float .f64 x)] w fun e w' => ∃ v, e = .returned v ∧ (fun v w' => v = .int .i64 (rk x) ∧ KB No w w') v w' := by
  have hx_ := tk_is x
  have hk_ := rk_is x
  have hS : SH w No w [] := SH.nil _ _
  refine calls (l := litOf [(.float .f64 x)] 0) Try.func38 rfl (n := 13) rfl (Nat.le_of_ble_eq_true rfl) (lit_args _) ?_
  refine WC.seq ?_
  refine WC.region ?_
  refine WL.lv rfl (LV.asg rfl) ?_
  refine WL.nil (thenQ.n ?_)
  iterate 2 refine WC.seq ?_
  refine WC.region ?_
  refine WL.lv rfl (LV.mv rfl) ?_
  have hsk_0 : sk 0 = (0 : Int) := by decide +kernel
  refine WL.lv rfl (LV.ltF (a := x) (b := 0) rfl rfl) ?_
  refine WL.nil (thenQ.n ?_)
  refine WC.condP (p := ((-9218868437227405312 ≤ sk x ∧ sk x ≤ 9218868437227405312) ∧ (-9218868437227405312 ≤ (0 : Int) ∧ (0 : Int) ≤ 9218868437227405312)) ∧ sk x < (0 : Int)) rfl (fun hc1 => ?_) (fun hc1 => ?_)
  · skip
    refine WC.seq ?_
    refine WC.region ?_
    refine WL.lv rfl (LV.asg rfl) ?_
    refine WL.nil (thenQ.n ?_)
    refine WC.ret (thenQ.r <| ?_)
    exact ⟨_, fun a ha => res1 rfl ha rfl, congrArg (Value.int .i64) (by omega), hS.kb⟩
  · skip
    refine WC.skip (thenQ.n ?_)
    iterate 2 refine WC.seq ?_
    refine WC.region ?_
    refine WL.lv rfl (LV.mv rfl) ?_
    have hsk_0 : sk 0 = (0 : Int) := by decide +kernel
    refine WL.lv rfl (LV.gtF (a := x) (b := 0) rfl rfl) ?_
    refine WL.nil (thenQ.n ?_)
    refine WC.condP (p := ((-9218868437227405312 ≤ sk x ∧ sk x ≤ 9218868437227405312) ∧ (-9218868437227405312 ≤ (0 : Int) ∧ (0 : Int) ≤ 9218868437227405312)) ∧ sk x > (0 : Int)) rfl (fun hc2 => ?_) (fun hc2 => ?_)
    · skip
      refine WC.seq ?_
      refine WC.region ?_
      refine WL.lv rfl (LV.asg rfl) ?_
      refine WL.nil (thenQ.n ?_)
      refine WC.ret (thenQ.r <| ?_)
      exact ⟨_, fun a ha => res1 rfl ha rfl, congrArg (Value.int .i64) (by omega), hS.kb⟩
    · skip
      refine WC.skip (thenQ.n ?_)
      iterate 2 refine WC.seq ?_
      refine WC.region ?_
      iterate 2 refine WL.lv rfl (LV.mv rfl) ?_
      refine WL.lv rfl (LV.neF (a := x) (b := x) rfl rfl) ?_
      refine WL.nil (thenQ.n ?_)
      refine WC.condP (p := ¬ (((-9218868437227405312 ≤ sk x ∧ sk x ≤ 9218868437227405312) ∧ (-9218868437227405312 ≤ sk x ∧ sk x ≤ 9218868437227405312)) ∧ sk x = sk x)) rfl (fun hc3 => ?_) (fun hc3 => ?_)
      · skip
        refine WC.seq ?_
        refine WC.region ?_
        refine WL.lv rfl (LV.asg rfl) ?_
        refine WL.nil (thenQ.n ?_)
        refine WC.ret (thenQ.r <| ?_)
        exact ⟨_, fun a ha => res1 rfl ha rfl, congrArg (Value.int .i64) (by omega), hS.kb⟩
      · skip
        refine WC.skip (thenQ.n ?_)
        iterate 2 refine WC.seq ?_
        refine WC.region ?_
        refine WL.lv rfl (LV.mv rfl) ?_
        refine WL.xe rfl (XE.arF (a := 4607182418800017408) (b := x) hS (.inr (.inr (.inr rfl))) rfl rfl) ?_
        rintro _ w1 ⟨r1, rfl, hr1, hb1, hS1, hk1⟩
        have hz_ := inv_zero (by omega) hx hr1
        have hsk_0 : sk 0 = (0 : Int) := by decide +kernel
        refine WL.lv rfl (LV.ltF (a := r1) (b := 0) rfl rfl) ?_
        refine WL.nil (thenQ.n ?_)
        refine WC.condP (p := ((-9218868437227405312 ≤ sk r1 ∧ sk r1 ≤ 9218868437227405312) ∧ (-9218868437227405312 ≤ (0 : Int) ∧ (0 : Int) ≤ 9218868437227405312)) ∧ sk r1 < (0 : Int)) rfl (fun hc4 => ?_) (fun hc4 => ?_)
        · skip
          refine WC.seq ?_
          refine WC.region ?_
          refine WL.lv rfl (LV.asg rfl) ?_
          refine WL.nil (thenQ.n ?_)
          refine WC.ret (thenQ.r <| ?_)
          exact ⟨_, fun a ha => res1 rfl ha rfl, congrArg (Value.int .i64) (by omega), hS1.kb⟩
        · skip
          refine WC.skip (thenQ.n ?_)
          refine WC.seq ?_
          refine WC.region ?_
          refine WL.lv rfl (LV.asg rfl) ?_
          refine WL.nil (thenQ.n ?_)
          refine WC.ret (?_)
          exact ⟨_, fun a ha => res1 rfl ha rfl, congrArg (Value.int .i64) (by omega), hS1.kb⟩

theorem rorder_calls {w : World} {a : Nat} {b : Nat} (ha : a < 18446744073709551616) (hb : b < 18446744073709551616) :
    Calls Try.prog 15 #[(.float .f64 a), (.float .f64 b)] w fun e w' => ∃ v, e = .returned v ∧ (fun v w' => v = .int .i64 (ORD a b) ∧ KB No w w') v w' := by
  have ha_ := tk_is a
  have hb_ := tk_is b
  have ho_ := ord_is' a b
  have ka_ := rk_is a
  have kb_ := rk_is b
  have hS : SH w No w [] := SH.nil _ _
  refine calls (l := litOf [(.float .f64 a), (.float .f64 b)] 0) Try.func15 rfl (n := 32) rfl (Nat.le_of_ble_eq_true rfl) (lit_args _) ?_
  refine WC.seq ?_
  refine WC.region ?_
  refine WL.lv rfl (LV.asg rfl) ?_
  refine WL.nil (thenQ.n ?_)
  refine WC.seq ?_
  refine WC.region ?_
  refine WL.lv rfl (LV.mv rfl) ?_
  refine WL.call rfl (XC.fn Try.func38 (by kernel_rfl) rfl rfl rfl) (rank_calls (x := a) (by first | assumption | omega | exact hp _ (getD_mem (by omega)) | exact hpz _ (getD_mem (by omega)))) ?_
  rintro v_ w1 ⟨rfl, hk1⟩
  have hS1 := SH.same hS hk1
  refine WL.lv rfl (LV.mv rfl) ?_
  refine WL.call rfl (XC.fn Try.func38 (by kernel_rfl) rfl rfl rfl) (rank_calls (x := b) (by first | assumption | omega | exact hp _ (getD_mem (by omega)) | exact hpz _ (getD_mem (by omega)))) ?_
  rintro v_ w2 ⟨rfl, hk2⟩
  have hS2 := SH.same hS1 hk2
  iterate 2 refine WL.lv rfl (LV.asg rfl) ?_
  refine WL.nil (thenQ.n ?_)
  iterate 2 refine WC.seq ?_
  refine WC.region ?_
  iterate 2 refine WL.lv rfl (LV.mv rfl) ?_
  rcases Decidable.em ((rk a) < (rk b)) with hg1 | hg1
  · refine WL.lv rfl (LV.as (LV.ltI rfl rfl) (decide_eq_true hg1)) ?_
    refine WL.lv rfl (LV.mv rfl) ?_
    iterate 8 refine WL.off rfl ?_
    refine WL.lv rfl (LV.pickT rfl rfl) ?_
    refine WL.nil (thenQ.n ?_)
    refine WC.condT rfl ?_
    refine WC.seq ?_
    refine WC.region ?_
    refine WL.lv rfl (LV.asg rfl) ?_
    refine WL.nil (thenQ.n ?_)
    refine WC.ret (thenQ.r <| ?_)
    exact ⟨_, fun a ha => res1 rfl ha rfl, congrArg (Value.int .i64) (by omega), hS2.kb⟩
  · refine WL.lv rfl (LV.as (LV.ltI rfl rfl) (decide_eq_false hg1)) ?_
    iterate 3 refine WL.lv rfl (LV.mv rfl) ?_
    rcases Decidable.em ((rk a) = (rk b)) with hg2 | hg2
    · refine WL.lv rfl (LV.as (LV.eqI rfl rfl) (decide_eq_true hg2)) ?_
      iterate 3 refine WL.lv rfl (LV.mv rfl) ?_
      refine WL.lv rfl (LV.ltF (a := a) (b := b) rfl rfl) ?_
      refine WL.lv rfl (LV.pickT rfl rfl) ?_
      refine WL.lv rfl (LV.pickF rfl rfl) ?_
      refine WL.nil (thenQ.n ?_)
      refine WC.condP (p := ((-9218868437227405312 ≤ sk a ∧ sk a ≤ 9218868437227405312) ∧ (-9218868437227405312 ≤ sk b ∧ sk b ≤ 9218868437227405312)) ∧ sk a < sk b) rfl (fun hc1 => ?_) (fun hc1 => ?_)
      · skip
        refine WC.seq ?_
        refine WC.region ?_
        refine WL.lv rfl (LV.asg rfl) ?_
        refine WL.nil (thenQ.n ?_)
        refine WC.ret (thenQ.r <| ?_)
        exact ⟨_, fun a ha => res1 rfl ha rfl, congrArg (Value.int .i64) (by omega), hS2.kb⟩
      · skip
        refine WC.skip (thenQ.n ?_)
        iterate 2 refine WC.seq ?_
        refine WC.region ?_
        iterate 2 refine WL.lv rfl (LV.mv rfl) ?_
        rcases Decidable.em ((rk a) > (rk b)) with hg3 | hg3
        · refine WL.lv rfl (LV.as (LV.gtI rfl rfl) (decide_eq_true hg3)) ?_
          refine WL.lv rfl (LV.mv rfl) ?_
          iterate 3 refine WL.off rfl ?_
          refine WL.lv rfl (LV.pickT rfl rfl) ?_
          refine WL.nil (thenQ.n ?_)
          refine WC.condT rfl ?_
          refine WC.seq ?_
          refine WC.region ?_
          refine WL.lv rfl (LV.asg rfl) ?_
          refine WL.nil (thenQ.n ?_)
          refine WC.ret (thenQ.r <| ?_)
          exact ⟨_, fun a ha => res1 rfl ha rfl, congrArg (Value.int .i64) (by omega), hS2.kb⟩
        · refine WL.lv rfl (LV.as (LV.gtI rfl rfl) (decide_eq_false hg3)) ?_
          iterate 3 refine WL.lv rfl (LV.mv rfl) ?_
          refine WL.lv rfl (LV.gtF (a := a) (b := b) rfl rfl) ?_
          refine WL.lv rfl (LV.pickF rfl rfl) ?_
          refine WL.nil (thenQ.n ?_)
          refine WC.condP (p := ((-9218868437227405312 ≤ sk a ∧ sk a ≤ 9218868437227405312) ∧ (-9218868437227405312 ≤ sk b ∧ sk b ≤ 9218868437227405312)) ∧ sk a > sk b) rfl (fun hc2 => ?_) (fun hc2 => ?_)
          · skip
            refine WC.seq ?_
            refine WC.region ?_
            refine WL.lv rfl (LV.asg rfl) ?_
            refine WL.nil (thenQ.n ?_)
            refine WC.ret (thenQ.r <| ?_)
            exact ⟨_, fun a ha => res1 rfl ha rfl, congrArg (Value.int .i64) (by omega), hS2.kb⟩
          · skip
            refine WC.skip (thenQ.n ?_)
            refine WC.seq ?_
            refine WC.region ?_
            refine WL.lv rfl (LV.asg rfl) ?_
            refine WL.nil (thenQ.n ?_)
            refine WC.ret (?_)
            exact ⟨_, fun a ha => res1 rfl ha rfl, congrArg (Value.int .i64) (by omega), hS2.kb⟩
    · refine WL.lv rfl (LV.as (LV.eqI rfl rfl) (decide_eq_false hg2)) ?_
      refine WL.lv rfl (LV.mv rfl) ?_
      iterate 3 refine WL.off rfl ?_
      iterate 2 refine WL.lv rfl (LV.pickF rfl rfl) ?_
      refine WL.nil (thenQ.n ?_)
      refine WC.condF rfl ?_
      refine WC.skip (thenQ.n ?_)
      iterate 2 refine WC.seq ?_
      refine WC.region ?_
      iterate 2 refine WL.lv rfl (LV.mv rfl) ?_
      rcases Decidable.em ((rk a) > (rk b)) with hg4 | hg4
      · refine WL.lv rfl (LV.as (LV.gtI rfl rfl) (decide_eq_true hg4)) ?_
        refine WL.lv rfl (LV.mv rfl) ?_
        iterate 3 refine WL.off rfl ?_
        refine WL.lv rfl (LV.pickT rfl rfl) ?_
        refine WL.nil (thenQ.n ?_)
        refine WC.condT rfl ?_
        refine WC.seq ?_
        refine WC.region ?_
        refine WL.lv rfl (LV.asg rfl) ?_
        refine WL.nil (thenQ.n ?_)
        refine WC.ret (thenQ.r <| ?_)
        exact ⟨_, fun a ha => res1 rfl ha rfl, congrArg (Value.int .i64) (by omega), hS2.kb⟩
      · refine WL.lv rfl (LV.as (LV.gtI rfl rfl) (decide_eq_false hg4)) ?_
        iterate 3 refine WL.lv rfl (LV.mv rfl) ?_
        refine WL.lv rfl (LV.gtF (a := a) (b := b) rfl rfl) ?_
        refine WL.lv rfl (LV.pickF rfl rfl) ?_
        refine WL.nil (thenQ.n ?_)
        refine WC.condP (p := ((-9218868437227405312 ≤ sk a ∧ sk a ≤ 9218868437227405312) ∧ (-9218868437227405312 ≤ sk b ∧ sk b ≤ 9218868437227405312)) ∧ sk a > sk b) rfl (fun hc3 => ?_) (fun hc3 => ?_)
        · skip
          refine WC.seq ?_
          refine WC.region ?_
          refine WL.lv rfl (LV.asg rfl) ?_
          refine WL.nil (thenQ.n ?_)
          refine WC.ret (thenQ.r <| ?_)
          exact ⟨_, fun a ha => res1 rfl ha rfl, congrArg (Value.int .i64) (by omega), hS2.kb⟩
        · skip
          refine WC.skip (thenQ.n ?_)
          refine WC.seq ?_
          refine WC.region ?_
          refine WL.lv rfl (LV.asg rfl) ?_
          refine WL.nil (thenQ.n ?_)
          refine WC.ret (?_)
          exact ⟨_, fun a ha => res1 rfl ha rfl, congrArg (Value.int .i64) (by omega), hS2.kb⟩

theorem fsame_calls {w : World} {a : Nat} {b : Nat} (ha : a < 18446744073709551616) (hb : b < 18446744073709551616) :
    Calls Try.prog 12 #[(.float .f64 a), (.float .f64 b)] w fun e w' => ∃ v, e = .returned v ∧ (fun v w' => v = .bool (decide (tk a = tk b)) ∧ KB No w w') v w' := by
  have ha_ := tk_is a
  have hb_ := tk_is b
  have hS : SH w No w [] := SH.nil _ _
  refine calls (l := litOf [(.float .f64 a), (.float .f64 b)] 0) Try.func12 rfl (n := 35) rfl (Nat.le_of_ble_eq_true rfl) (lit_args _) ?_
  refine WC.seq ?_
  refine WC.region ?_
  refine WL.lv rfl (LV.asg rfl) ?_
  refine WL.nil (thenQ.n ?_)
  iterate 2 refine WC.seq ?_
  refine WC.region ?_
  iterate 2 refine WL.lv rfl (LV.mv rfl) ?_
  rcases Decidable.em (¬ (((-9218868437227405312 ≤ sk a ∧ sk a ≤ 9218868437227405312) ∧ (-9218868437227405312 ≤ sk a ∧ sk a ≤ 9218868437227405312)) ∧ sk a = sk a)) with hg1 | hg1
  · refine WL.lv rfl (LV.as (LV.neF (a := a) (b := a) rfl rfl) (decide_eq_true hg1)) ?_
    refine WL.lv rfl (LV.mv rfl) ?_
    iterate 3 refine WL.off rfl ?_
    refine WL.lv rfl (LV.pickT rfl rfl) ?_
    refine WL.nil (thenQ.n ?_)
    refine WC.condT rfl ?_
    refine WC.seq ?_
    refine WC.region ?_
    iterate 2 refine WL.lv rfl (LV.mv rfl) ?_
    refine WL.lv rfl (LV.as (LV.neF (a := a) (b := a) rfl rfl) (decide_eq_true hg1)) ?_
    iterate 3 refine WL.lv rfl (LV.mv rfl) ?_
    refine WL.lv rfl (LV.neF (a := b) (b := b) rfl rfl) ?_
    refine WL.lv rfl (LV.pickT rfl rfl) ?_
    refine WL.lv rfl (LV.asg rfl) ?_
    refine WL.nil (thenQ.n ?_)
    refine WC.ret (thenQ.r <| ?_)
    exact ⟨_, fun a ha => res1 rfl ha rfl, congrArg Value.bool (decide_eq_decide.2 (by omega)), hS.kb⟩
  · refine WL.lv rfl (LV.as (LV.neF (a := a) (b := a) rfl rfl) (decide_eq_false hg1)) ?_
    iterate 3 refine WL.lv rfl (LV.mv rfl) ?_
    refine WL.lv rfl (LV.neF (a := b) (b := b) rfl rfl) ?_
    refine WL.lv rfl (LV.pickF rfl rfl) ?_
    refine WL.nil (thenQ.n ?_)
    refine WC.condP (p := ¬ (((-9218868437227405312 ≤ sk b ∧ sk b ≤ 9218868437227405312) ∧ (-9218868437227405312 ≤ sk b ∧ sk b ≤ 9218868437227405312)) ∧ sk b = sk b)) rfl (fun hc1 => ?_) (fun hc1 => ?_)
    · skip
      refine WC.seq ?_
      refine WC.region ?_
      iterate 2 refine WL.lv rfl (LV.mv rfl) ?_
      refine WL.lv rfl (LV.as (LV.neF (a := a) (b := a) rfl rfl) (decide_eq_false hg1)) ?_
      refine WL.lv rfl (LV.mv rfl) ?_
      iterate 3 refine WL.off rfl ?_
      refine WL.lv rfl (LV.pickF rfl rfl) ?_
      refine WL.lv rfl (LV.asg rfl) ?_
      refine WL.nil (thenQ.n ?_)
      refine WC.ret (thenQ.r <| ?_)
      exact ⟨_, fun a ha => res1 rfl ha rfl, congrArg Value.bool (decide_eq_false (show ¬ (tk a = tk b) by omega)).symm, hS.kb⟩
    · skip
      refine WC.skip (thenQ.n ?_)
      refine WC.seq ?_
      refine WC.region ?_
      iterate 2 refine WL.lv rfl (LV.mv rfl) ?_
      rcases Decidable.em (((-9218868437227405312 ≤ sk a ∧ sk a ≤ 9218868437227405312) ∧ (-9218868437227405312 ≤ sk b ∧ sk b ≤ 9218868437227405312)) ∧ sk a = sk b) with hg2 | hg2
      · refine WL.lv rfl (LV.as (LV.eqF (a := a) (b := b) rfl rfl) (decide_eq_true hg2)) ?_
        iterate 2 refine WL.lv rfl (LV.mv rfl) ?_
        have hsk_0 : sk 0 = (0 : Int) := by decide +kernel
        rcases Decidable.em (¬ (((-9218868437227405312 ≤ sk a ∧ sk a ≤ 9218868437227405312) ∧ (-9218868437227405312 ≤ (0 : Int) ∧ (0 : Int) ≤ 9218868437227405312)) ∧ sk a = (0 : Int))) with hg3 | hg3
        · refine WL.lv rfl (LV.as (LV.neF (a := a) (b := 0) rfl rfl) (decide_eq_true hg3)) ?_
          refine WL.lv rfl (LV.mv rfl) ?_
          iterate 5 refine WL.off rfl ?_
          iterate 2 refine WL.lv rfl (LV.pickT rfl rfl) ?_
          refine WL.lv rfl (LV.asg rfl) ?_
          refine WL.nil (thenQ.n ?_)
          refine WC.ret (?_)
          exact ⟨_, fun a ha => res1 rfl ha rfl, congrArg Value.bool (decide_eq_true (show tk a = tk b by omega)).symm, hS.kb⟩
        · refine WL.lv rfl (LV.as (LV.neF (a := a) (b := 0) rfl rfl) (decide_eq_false hg3)) ?_
          iterate 2 refine WL.lv rfl (LV.mv rfl) ?_
          refine WL.xe rfl (XE.arF (a := 4607182418800017408) (b := a) hS (.inr (.inr (.inr rfl))) rfl rfl) ?_
          rintro _ w1 ⟨r1, rfl, hr1, hb1, hS1, hk1⟩
          have hz_ := inv_zero (x := a) (by omega) ha hr1
          refine WL.lv rfl (LV.mv rfl) ?_
          refine WL.xe rfl (XE.arF (a := 4607182418800017408) (b := b) hS1 (.inr (.inr (.inr rfl))) rfl rfl) ?_
          rintro _ w2 ⟨r2, rfl, hr2, hb2, hS2, hk2⟩
          have hy_ := inv_zero (x := b) (by omega) hb hr2
          refine WL.lv rfl (LV.eqF (a := r1) (b := r2) rfl rfl) ?_
          refine WL.lv rfl (LV.pickF rfl rfl) ?_
          refine WL.lv rfl (LV.pickT rfl rfl) ?_
          refine WL.lv rfl (LV.asg rfl) ?_
          refine WL.nil (thenQ.n ?_)
          refine WC.ret (?_)
          exact ⟨_, fun a ha => res1 rfl ha rfl, congrArg Value.bool (decide_eq_decide.2 (by omega)), hS2.kb⟩
      · refine WL.lv rfl (LV.as (LV.eqF (a := a) (b := b) rfl rfl) (decide_eq_false hg2)) ?_
        refine WL.lv rfl (LV.mv rfl) ?_
        iterate 9 refine WL.off rfl ?_
        refine WL.lv rfl (LV.pickF rfl rfl) ?_
        refine WL.lv rfl (LV.asg rfl) ?_
        refine WL.nil (thenQ.n ?_)
        refine WC.ret (?_)
        exact ⟨_, fun a ha => res1 rfl ha rfl, congrArg Value.bool (decide_eq_false (show ¬ (tk a = tk b) by omega)).symm, hS.kb⟩

end Go.Proofs.Ytlnnfcbndelcnaa
