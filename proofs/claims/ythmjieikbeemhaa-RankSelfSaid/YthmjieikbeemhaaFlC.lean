/- Numbers with a point: what is taken of them. -/
import Derived.Test.YthmjieikbeemhaaProg
import Derived.Test.YthmjieikbeemhaaFlU
import Derived.Test.YthmjieikbeemhaaGvX
import Derived.Test.YthmjieikbeemhaaGvT
import Derived.Test.YthmjieikbeemhaaGvG
namespace Go.Proofs.Ythmjieikbeemhaa
open Go Go.Gv Go.RowKit Go.Flt
set_option linter.unusedVariables false
set_option linter.unusedSimpArgs false

theorem isNaN_calls {w : World} {x : Nat}  :
    Calls Try.prog 51 #[(.float .f64 x)] w fun e w' => ∃ v, e = .returned v ∧ (fun v w' => (v = .bool (decide (¬ (-9218868437227405312 ≤ sk x ∧ sk x ≤ 9218868437227405312)))) ∧ KB No w w') v w' := by
  have hS : SH w No w [] := SH.nil _ _
  refine calls (l := litOf [(.float .f64 x)] 0) Try.func51 rfl (n := 6) rfl (Nat.le_of_ble_eq_true rfl) (lit_args _) ?_
  refine WC.seq ?_
  refine WC.region ?_
  refine WL.lv rfl (LV.asg rfl) ?_
  refine WL.nil (thenQ.n ?_)
  refine WC.seq ?_
  refine WC.region ?_
  iterate 2 refine WL.lv rfl (LV.mv rfl) ?_
  refine WL.lv rfl (LV.neF (a := x) (b := x) rfl rfl) ?_
  refine WL.lv rfl (LV.asg rfl) ?_
  refine WL.nil (thenQ.n ?_)
  refine WC.ret (?_)
  exact ⟨_, fun a ha => res1 rfl ha rfl, congrArg Value.bool (decide_eq_decide.2 (by omega)), hS.kb⟩

theorem nan_calls {w : World}  :
    Calls Try.prog 44 #[] w fun e w' => ∃ v, e = .returned v ∧ (fun v w' => ∃ (r' : Nat), v = .float .f64 r' ∧ cn r' = none ∧ r' < 18446744073709551616 ∧ KB No w w') v w' := by
  have hS : SH w No w [] := SH.nil _ _
  refine calls (l := litOf [] 0) Try.func44 rfl (n := 5) rfl (Nat.le_of_ble_eq_true rfl) (lit_args _) ?_
  refine WC.seq ?_
  refine WC.region ?_
  refine WL.lv rfl (LV.asg rfl) ?_
  refine WL.nil (thenQ.n ?_)
  refine WC.seq ?_
  refine WC.region ?_
  refine WL.lv rfl (LV.asg rfl) ?_
  refine WL.nil (thenQ.n ?_)
  refine WC.seq ?_
  refine WC.region ?_
  iterate 2 refine WL.lv rfl (LV.mv rfl) ?_
  refine WL.xe rfl (XE.arF (a := 0) (b := 0) hS (.inr (.inr (.inr rfl))) rfl rfl) ?_
  rintro _ w1 ⟨r1, rfl, hr1, hb1, hS1, hk1⟩
  refine WL.lv rfl (LV.asg rfl) ?_
  refine WL.nil (thenQ.n ?_)
  refine WC.ret (?_)
  exact ⟨_, fun a ha => res1 rfl ha rfl, r1, congrArg FV (rfl), hr1.trans (by decide +kernel), hb1, hS1.kb⟩

theorem none_calls {w : World}  :
    Calls Try.prog 30 #[] w fun e w' => ∃ v, e = .returned v ∧ (fun v w' => ∃ (r' : Nat), v = .float .f64 r' ∧ cn r' = none ∧ r' < 18446744073709551616 ∧ KB No w w') v w' := by
  have hS : SH w No w [] := SH.nil _ _
  refine calls (l := litOf [] 0) Try.func30 rfl (n := 5) rfl (Nat.le_of_ble_eq_true rfl) (lit_args _) ?_
  refine WC.seq ?_
  refine WC.region ?_
  refine WL.lv rfl (LV.asg rfl) ?_
  refine WL.nil (thenQ.n ?_)
  refine WC.seq ?_
  refine WC.region ?_
  refine WL.lv rfl (LV.asg rfl) ?_
  refine WL.nil (thenQ.n ?_)
  refine WC.seq ?_
  refine WC.region ?_
  iterate 2 refine WL.lv rfl (LV.mv rfl) ?_
  refine WL.xe rfl (XE.arF (a := 0) (b := 0) hS (.inr (.inr (.inr rfl))) rfl rfl) ?_
  rintro _ w1 ⟨r1, rfl, hr1, hb1, hS1, hk1⟩
  refine WL.lv rfl (LV.asg rfl) ?_
  refine WL.nil (thenQ.n ?_)
  refine WC.ret (?_)
  exact ⟨_, fun a ha => res1 rfl ha rfl, r1, congrArg FV (rfl), hr1.trans (by decide +kernel), hb1, hS1.kb⟩

theorem class_calls {w : World} {x : Nat}  :
    Calls Try.prog 70 #[(.float .f64 x)] w fun e w' => ∃ v, e = .returned v ∧ (fun v w' => (v = .int .i64 (if ¬ (-9218868437227405312 ≤ sk x ∧ sk x ≤ 9218868437227405312) then (1 : Int) else 0)) ∧ KB No w w') v w' := by
  have hS : SH w No w [] := SH.nil _ _
  refine calls (l := litOf [(.float .f64 x)] 0) Try.func70 rfl (n := 5) rfl (Nat.le_of_ble_eq_true rfl) (lit_args _) ?_
  refine WC.seq ?_
  refine WC.region ?_
  refine WL.lv rfl (LV.asg rfl) ?_
  refine WL.nil (thenQ.n ?_)
  iterate 2 refine WC.seq ?_
  refine WC.region ?_
  refine WL.lv rfl (LV.mv rfl) ?_
  refine WL.call rfl (XC.fn Try.func51 (by kernel_rfl) rfl rfl rfl) (isNaN_calls (x := x) ) ?_
  rintro v_ w1 ⟨rfl, hk1⟩
  have hS1 := SH.same hS hk1
  refine WL.nil (thenQ.n ?_)
  refine WC.condP (p := ¬ (-9218868437227405312 ≤ sk x ∧ sk x ≤ 9218868437227405312)) rfl (fun hc1 => ?_) (fun hc1 => ?_)
  · skip
    refine WC.seq ?_
    refine WC.region ?_
    refine WL.lv rfl (LV.asg rfl) ?_
    refine WL.nil (thenQ.n ?_)
    refine WC.ret (thenQ.r <| ?_)
    exact ⟨_, fun a ha => res1 rfl ha rfl, congrArg (Value.int .i64) (by first | rw [if_pos (by omega)] | rw [if_neg (by omega)]), hS1.kb⟩
  · skip
    refine WC.skip (thenQ.n ?_)
    refine WC.seq ?_
    refine WC.region ?_
    refine WL.lv rfl (LV.asg rfl) ?_
    refine WL.nil (thenQ.n ?_)
    refine WC.ret (?_)
    exact ⟨_, fun a ha => res1 rfl ha rfl, congrArg (Value.int .i64) (by first | rw [if_pos (by omega)] | rw [if_neg (by omega)]), hS1.kb⟩

theorem compare_calls {w : World} {a : Int} {b : Int}  :
    Calls Try.prog 69 #[(.int .i64 a), (.int .i64 b)] w fun e w' => ∃ v, e = .returned v ∧ (fun v w' => v = .int .i64 (if a < b then (-1 : Int) else if a > b then 1 else 0) ∧ KB No w w') v w' := by
  have hS : SH w No w [] := SH.nil _ _
  refine calls (l := litOf [(.int .i64 a), (.int .i64 b)] 0) Try.func69 rfl (n := 13) rfl (Nat.le_of_ble_eq_true rfl) (lit_args _) ?_
  refine WC.seq ?_
  refine WC.region ?_
  refine WL.lv rfl (LV.asg rfl) ?_
  refine WL.nil (thenQ.n ?_)
  refine WC.seq ?_
  refine WC.block ?_
  refine WC.seq ?_
  refine WC.region ?_
  iterate 2 refine WL.lv rfl (LV.mv rfl) ?_
  refine WL.lv rfl (LV.ltI rfl rfl) ?_
  refine WL.lv rfl (LV.asg rfl) ?_
  refine WL.nil (thenQ.n ?_)
  refine WC.condP (p := a < b) rfl (fun hc1 => ?_) (fun hc1 => ?_)
  · skip
    refine WC.seq ?_
    refine WC.region ?_
    refine WL.lv rfl (LV.asg rfl) ?_
    refine WL.nil (thenQ.n ?_)
    refine WC.ret (blockQ.r <| thenQ.r <| ?_)
    exact ⟨_, fun a ha => res1 rfl ha rfl, congrArg (Value.int .i64) (by first | rw [if_pos (by omega)] | rw [if_neg (by omega), if_pos (by omega)] | rw [if_neg (by omega), if_neg (by omega)]), hS.kb⟩
  · skip
    refine WC.seq ?_
    refine WC.region ?_
    iterate 2 refine WL.lv rfl (LV.mv rfl) ?_
    refine WL.lv rfl (LV.gtI rfl rfl) ?_
    refine WL.lv rfl (LV.asg rfl) ?_
    refine WL.nil (thenQ.n ?_)
    refine WC.condP (p := a > b) rfl (fun hc2 => ?_) (fun hc2 => ?_)
    · skip
      refine WC.seq ?_
      refine WC.region ?_
      refine WL.lv rfl (LV.asg rfl) ?_
      refine WL.nil (thenQ.n ?_)
      refine WC.ret (blockQ.r <| thenQ.r <| ?_)
      exact ⟨_, fun a ha => res1 rfl ha rfl, congrArg (Value.int .i64) (by first | rw [if_pos (by omega)] | rw [if_neg (by omega), if_pos (by omega)] | rw [if_neg (by omega), if_neg (by omega)]), hS.kb⟩
    · skip
      refine WC.skip (blockQ.n <| thenQ.n ?_)
      refine WC.seq ?_
      refine WC.region ?_
      refine WL.lv rfl (LV.asg rfl) ?_
      refine WL.nil (thenQ.n ?_)
      refine WC.ret (?_)
      exact ⟨_, fun a ha => res1 rfl ha rfl, congrArg (Value.int .i64) (by first | rw [if_pos (by omega)] | rw [if_neg (by omega), if_pos (by omega)] | rw [if_neg (by omega), if_neg (by omega)]), hS.kb⟩

theorem negative_calls {w : World} {x : Nat} (hx : x < 18446744073709551616) :
    Calls Try.prog 79 #[(.float .f64 x)] w fun e w' => ∃ v, e = .returned v ∧ (fun v w' => (v = .bool (decide (sk x = 0 ∧ x ≠ 0))) ∧ KB No w w') v w' := by
  have hS : SH w No w [] := SH.nil _ _
  refine calls (l := litOf [(.float .f64 x)] 0) Try.func79 rfl (n := 10) rfl (Nat.le_of_ble_eq_true rfl) (lit_args _) ?_
  refine WC.seq ?_
  refine WC.region ?_
  refine WL.lv rfl (LV.asg rfl) ?_
  refine WL.nil (thenQ.n ?_)
  refine WC.seq ?_
  refine WC.region ?_
  refine WL.lv rfl (LV.mv rfl) ?_
  have hsk_0 : sk 0 = (0 : Int) := by decide +kernel
  rcases Decidable.em (((-9218868437227405312 ≤ sk x ∧ sk x ≤ 9218868437227405312) ∧ (-9218868437227405312 ≤ (0 : Int) ∧ (0 : Int) ≤ 9218868437227405312)) ∧ sk x = (0 : Int)) with hg1 | hg1
  · refine WL.lv rfl (LV.as (LV.eqF (a := x) (b := 0) rfl rfl) (decide_eq_true hg1)) ?_
    iterate 2 refine WL.lv rfl (LV.mv rfl) ?_
    refine WL.xe rfl (XE.arF (a := 4607182418800017408) (b := x) hS (.inr (.inr (.inr rfl))) rfl rfl) ?_
    rintro _ w1 ⟨r1, rfl, hr1, hb1, hS1, hk1⟩
    have hz_ := inv_zero (by omega) hx hr1
    have hsk_0 : sk 0 = (0 : Int) := by decide +kernel
    refine WL.lv rfl (LV.ltF (a := r1) (b := 0) rfl rfl) ?_
    refine WL.lv rfl (LV.pickT rfl rfl) ?_
    refine WL.lv rfl (LV.asg rfl) ?_
    refine WL.nil (thenQ.n ?_)
    refine WC.ret (?_)
    exact ⟨_, fun a ha => res1 rfl ha rfl, congrArg Value.bool (decide_eq_decide.2 (by omega)), hS1.kb⟩
  · refine WL.lv rfl (LV.as (LV.eqF (a := x) (b := 0) rfl rfl) (decide_eq_false hg1)) ?_
    refine WL.lv rfl (LV.mv rfl) ?_
    iterate 3 refine WL.off rfl ?_
    refine WL.lv rfl (LV.pickF rfl rfl) ?_
    refine WL.lv rfl (LV.asg rfl) ?_
    refine WL.nil (thenQ.n ?_)
    refine WC.ret (?_)
    exact ⟨_, fun a ha => res1 rfl ha rfl, congrArg Value.bool (decide_eq_false (show ¬ (sk x = 0 ∧ x ≠ 0) by omega)).symm, hS.kb⟩

theorem sign_calls {w : World} {x : Nat} (hx : x < 18446744073709551616) :
    Calls Try.prog 71 #[(.float .f64 x)] w fun e w' => ∃ v, e = .returned v ∧ (fun v w' => (v = .int .i64 (if sk x = 0 ∧ x ≠ 0 then (0 : Int) else 1)) ∧ KB No w w') v w' := by
  have hS : SH w No w [] := SH.nil _ _
  refine calls (l := litOf [(.float .f64 x)] 0) Try.func71 rfl (n := 5) rfl (Nat.le_of_ble_eq_true rfl) (lit_args _) ?_
  refine WC.seq ?_
  refine WC.region ?_
  refine WL.lv rfl (LV.asg rfl) ?_
  refine WL.nil (thenQ.n ?_)
  iterate 2 refine WC.seq ?_
  refine WC.region ?_
  refine WL.lv rfl (LV.mv rfl) ?_
  refine WL.call rfl (XC.fn Try.func79 (by kernel_rfl) rfl rfl rfl) (negative_calls (x := x) (by first | assumption | omega | exact hp _ (getD_mem (by omega)) | exact hpz _ (getD_mem (by omega)))) ?_
  rintro v_ w1 ⟨rfl, hk1⟩
  have hS1 := SH.same hS hk1
  refine WL.nil (thenQ.n ?_)
  refine WC.condP (p := sk x = 0 ∧ x ≠ 0) rfl (fun hc1 => ?_) (fun hc1 => ?_)
  · skip
    refine WC.seq ?_
    refine WC.region ?_
    refine WL.lv rfl (LV.asg rfl) ?_
    refine WL.nil (thenQ.n ?_)
    refine WC.ret (thenQ.r <| ?_)
    exact ⟨_, fun a ha => res1 rfl ha rfl, congrArg (Value.int .i64) (by first | rw [if_pos (by omega)] | rw [if_neg (by omega)]), hS1.kb⟩
  · skip
    refine WC.skip (thenQ.n ?_)
    refine WC.seq ?_
    refine WC.region ?_
    refine WL.lv rfl (LV.asg rfl) ?_
    refine WL.nil (thenQ.n ?_)
    refine WC.ret (?_)
    exact ⟨_, fun a ha => res1 rfl ha rfl, congrArg (Value.int .i64) (by first | rw [if_pos (by omega)] | rw [if_neg (by omega)]), hS1.kb⟩

theorem order_calls {w : World} {a : Nat} {b : Nat} (ha : a < 18446744073709551616) (hb : b < 18446744073709551616) :
    Calls Try.prog 49 #[(.float .f64 a), (.float .f64 b)] w fun e w' => ∃ v, e = .returned v ∧ (fun v w' => v = .int .i64 (ORD a b) ∧ KB No w w') v w' := by
  have ha_ := tk_is a
  have hb_ := tk_is b
  have ho_ := ord_is' a b
  have hS : SH w No w [] := SH.nil _ _
  refine calls (l := litOf [(.float .f64 a), (.float .f64 b)] 0) Try.func49 rfl (n := 33) rfl (Nat.le_of_ble_eq_true rfl) (lit_args _) ?_
  refine WC.seq ?_
  refine WC.region ?_
  refine WL.lv rfl (LV.asg rfl) ?_
  refine WL.nil (thenQ.n ?_)
  refine WC.seq ?_
  refine WC.block ?_
  refine WC.seq ?_
  refine WC.region ?_
  refine WL.lv rfl (LV.mv rfl) ?_
  rcases Decidable.em (¬ (-9218868437227405312 ≤ sk a ∧ sk a ≤ 9218868437227405312)) with hg1 | hg1
  · refine WL.call rfl (XC.fn Try.func51 (by kernel_rfl) rfl rfl rfl) (Calls.asB (isNaN_calls (x := a) ) (decide_eq_true (hg1))) ?_
    rintro v_ w1 ⟨rfl, hk1⟩
    have hS1 := SH.same hS hk1
    refine WL.lv rfl (LV.mv rfl) ?_
    iterate 2 refine WL.off rfl ?_
    refine WL.lv rfl (LV.pickT rfl rfl) ?_
    refine WL.lv rfl (LV.asg rfl) ?_
    refine WL.nil (thenQ.n ?_)
    refine WC.condT rfl ?_
    refine WC.seq ?_
    refine WC.region ?_
    refine WL.lv rfl (LV.mv rfl) ?_
    refine WL.call rfl (XC.fn Try.func70 (by kernel_rfl) rfl rfl rfl) (class_calls (x := a) ) ?_
    rintro v_ w2 ⟨rfl, hk2⟩
    have hS2 := SH.same hS1 hk2
    refine WL.lv rfl (LV.mv rfl) ?_
    refine WL.call rfl (XC.fn Try.func70 (by kernel_rfl) rfl rfl rfl) (class_calls (x := b) ) ?_
    rintro v_ w3 ⟨rfl, hk3⟩
    have hS3 := SH.same hS2 hk3
    refine WL.call rfl (XC.fn Try.func69 (by kernel_rfl) rfl rfl rfl) (compare_calls (a := (if ¬ (-9218868437227405312 ≤ sk a ∧ sk a ≤ 9218868437227405312) then (1 : Int) else 0)) (b := (if ¬ (-9218868437227405312 ≤ sk b ∧ sk b ≤ 9218868437227405312) then (1 : Int) else 0)) ) ?_
    rintro v_ w4 ⟨rfl, hk4⟩
    have hS4 := SH.same hS3 hk4
    refine WL.lv rfl (LV.asg rfl) ?_
    refine WL.nil (thenQ.n ?_)
    refine WC.ret (blockQ.r <| thenQ.r <| ?_)
    exact ⟨_, fun a ha => res1 rfl ha rfl, congrArg (Value.int .i64) (by omega), hS4.kb⟩
  · refine WL.call rfl (XC.fn Try.func51 (by kernel_rfl) rfl rfl rfl) (Calls.asB (isNaN_calls (x := a) ) (decide_eq_false (hg1))) ?_
    rintro v_ w5 ⟨rfl, hk5⟩
    have hS5 := SH.same hS hk5
    iterate 2 refine WL.lv rfl (LV.mv rfl) ?_
    refine WL.call rfl (XC.fn Try.func51 (by kernel_rfl) rfl rfl rfl) (isNaN_calls (x := b) ) ?_
    rintro v_ w6 ⟨rfl, hk6⟩
    have hS6 := SH.same hS5 hk6
    refine WL.lv rfl (LV.pickF rfl rfl) ?_
    refine WL.lv rfl (LV.asg rfl) ?_
    refine WL.nil (thenQ.n ?_)
    refine WC.condP (p := ¬ (-9218868437227405312 ≤ sk b ∧ sk b ≤ 9218868437227405312)) rfl (fun hc1 => ?_) (fun hc1 => ?_)
    · skip
      refine WC.seq ?_
      refine WC.region ?_
      refine WL.lv rfl (LV.mv rfl) ?_
      refine WL.call rfl (XC.fn Try.func70 (by kernel_rfl) rfl rfl rfl) (class_calls (x := a) ) ?_
      rintro v_ w7 ⟨rfl, hk7⟩
      have hS7 := SH.same hS6 hk7
      refine WL.lv rfl (LV.mv rfl) ?_
      refine WL.call rfl (XC.fn Try.func70 (by kernel_rfl) rfl rfl rfl) (class_calls (x := b) ) ?_
      rintro v_ w8 ⟨rfl, hk8⟩
      have hS8 := SH.same hS7 hk8
      refine WL.call rfl (XC.fn Try.func69 (by kernel_rfl) rfl rfl rfl) (compare_calls (a := (if ¬ (-9218868437227405312 ≤ sk a ∧ sk a ≤ 9218868437227405312) then (1 : Int) else 0)) (b := (if ¬ (-9218868437227405312 ≤ sk b ∧ sk b ≤ 9218868437227405312) then (1 : Int) else 0)) ) ?_
      rintro v_ w9 ⟨rfl, hk9⟩
      have hS9 := SH.same hS8 hk9
      refine WL.lv rfl (LV.asg rfl) ?_
      refine WL.nil (thenQ.n ?_)
      refine WC.ret (blockQ.r <| thenQ.r <| ?_)
      exact ⟨_, fun a ha => res1 rfl ha rfl, congrArg (Value.int .i64) (by omega), hS9.kb⟩
    · skip
      refine WC.seq ?_
      refine WC.region ?_
      iterate 2 refine WL.lv rfl (LV.mv rfl) ?_
      refine WL.lv rfl (LV.ltF (a := a) (b := b) rfl rfl) ?_
      refine WL.lv rfl (LV.asg rfl) ?_
      refine WL.nil (thenQ.n ?_)
      refine WC.condP (p := ((-9218868437227405312 ≤ sk a ∧ sk a ≤ 9218868437227405312) ∧ (-9218868437227405312 ≤ sk b ∧ sk b ≤ 9218868437227405312)) ∧ sk a < sk b) rfl (fun hc2 => ?_) (fun hc2 => ?_)
      · skip
        refine WC.seq ?_
        refine WC.region ?_
        refine WL.lv rfl (LV.asg rfl) ?_
        refine WL.nil (thenQ.n ?_)
        refine WC.ret (blockQ.r <| thenQ.r <| ?_)
        exact ⟨_, fun a ha => res1 rfl ha rfl, congrArg (Value.int .i64) (by omega), hS6.kb⟩
      · skip
        refine WC.seq ?_
        refine WC.region ?_
        iterate 2 refine WL.lv rfl (LV.mv rfl) ?_
        refine WL.lv rfl (LV.gtF (a := a) (b := b) rfl rfl) ?_
        refine WL.lv rfl (LV.asg rfl) ?_
        refine WL.nil (thenQ.n ?_)
        refine WC.condP (p := ((-9218868437227405312 ≤ sk a ∧ sk a ≤ 9218868437227405312) ∧ (-9218868437227405312 ≤ sk b ∧ sk b ≤ 9218868437227405312)) ∧ sk a > sk b) rfl (fun hc3 => ?_) (fun hc3 => ?_)
        · skip
          refine WC.seq ?_
          refine WC.region ?_
          refine WL.lv rfl (LV.asg rfl) ?_
          refine WL.nil (thenQ.n ?_)
          refine WC.ret (blockQ.r <| thenQ.r <| ?_)
          exact ⟨_, fun a ha => res1 rfl ha rfl, congrArg (Value.int .i64) (by omega), hS6.kb⟩
        · skip
          refine WC.seq ?_
          refine WC.region ?_
          refine WL.lv rfl (LV.mv rfl) ?_
          have hsk_0 : sk 0 = (0 : Int) := by decide +kernel
          refine WL.lv rfl (LV.eqF (a := a) (b := 0) rfl rfl) ?_
          refine WL.lv rfl (LV.asg rfl) ?_
          refine WL.nil (thenQ.n ?_)
          refine WC.condP (p := ((-9218868437227405312 ≤ sk a ∧ sk a ≤ 9218868437227405312) ∧ (-9218868437227405312 ≤ (0 : Int) ∧ (0 : Int) ≤ 9218868437227405312)) ∧ sk a = (0 : Int)) rfl (fun hc4 => ?_) (fun hc4 => ?_)
          · skip
            refine WC.seq ?_
            refine WC.region ?_
            refine WL.lv rfl (LV.mv rfl) ?_
            refine WL.call rfl (XC.fn Try.func71 (by kernel_rfl) rfl rfl rfl) (sign_calls (x := a) (by first | assumption | omega | exact hp _ (getD_mem (by omega)) | exact hpz _ (getD_mem (by omega)))) ?_
            rintro v_ w10 ⟨rfl, hk10⟩
            have hS10 := SH.same hS6 hk10
            refine WL.lv rfl (LV.mv rfl) ?_
            refine WL.call rfl (XC.fn Try.func71 (by kernel_rfl) rfl rfl rfl) (sign_calls (x := b) (by first | assumption | omega | exact hp _ (getD_mem (by omega)) | exact hpz _ (getD_mem (by omega)))) ?_
            rintro v_ w11 ⟨rfl, hk11⟩
            have hS11 := SH.same hS10 hk11
            refine WL.call rfl (XC.fn Try.func69 (by kernel_rfl) rfl rfl rfl) (compare_calls (a := (if sk a = 0 ∧ a ≠ 0 then (0 : Int) else 1)) (b := (if sk b = 0 ∧ b ≠ 0 then (0 : Int) else 1)) ) ?_
            rintro v_ w12 ⟨rfl, hk12⟩
            have hS12 := SH.same hS11 hk12
            refine WL.lv rfl (LV.asg rfl) ?_
            refine WL.nil (thenQ.n ?_)
            refine WC.ret (blockQ.r <| thenQ.r <| ?_)
            exact ⟨_, fun a ha => res1 rfl ha rfl, congrArg (Value.int .i64) (by omega), hS12.kb⟩
          · skip
            refine WC.skip (blockQ.n <| thenQ.n ?_)
            refine WC.seq ?_
            refine WC.region ?_
            refine WL.lv rfl (LV.asg rfl) ?_
            refine WL.nil (thenQ.n ?_)
            refine WC.ret (?_)
            exact ⟨_, fun a ha => res1 rfl ha rfl, congrArg (Value.int .i64) (by omega), hS6.kb⟩

theorem rank_calls {w : World} {x : Nat} (hx : x < 18446744073709551616) :
    Calls Try.prog 58 #[(.float .f64 x)] w fun e w' => ∃ v, e = .returned v ∧ (fun v w' => v = .int .i64 (rk x) ∧ KB No w w') v w' := by
  have hx_ := tk_is x
  have hk_ := rk_is x
  have hS : SH w No w [] := SH.nil _ _
  refine calls (l := litOf [(.float .f64 x)] 0) Try.func58 rfl (n := 13) rfl (Nat.le_of_ble_eq_true rfl) (lit_args _) ?_
  refine WC.seq ?_
  refine WC.region ?_
  refine WL.lv rfl (LV.asg rfl) ?_
  refine WL.nil (thenQ.n ?_)
  iterate 2 refine WC.seq ?_
  refine WC.region ?_
  refine WL.lv rfl (LV.mv rfl) ?_
  have hsk_0 : sk 0 = (0 : Int) := by decide +kernel
  refine WL.lv rfl (LV.ltF (a := x) (b := 0) rfl rfl) ?_
  refine WL.nil (thenQ.n ?_)
  refine WC.condP (p := ((-9218868437227405312 ≤ sk x ∧ sk x ≤ 9218868437227405312) ∧ (-9218868437227405312 ≤ (0 : Int) ∧ (0 : Int) ≤ 9218868437227405312)) ∧ sk x < (0 : Int)) rfl (fun hc1 => ?_) (fun hc1 => ?_)
  · skip
    refine WC.seq ?_
    refine WC.region ?_
    refine WL.lv rfl (LV.asg rfl) ?_
    refine WL.nil (thenQ.n ?_)
    refine WC.ret (thenQ.r <| ?_)
    exact ⟨_, fun a ha => res1 rfl ha rfl, congrArg (Value.int .i64) (by omega), hS.kb⟩
  · skip
    refine WC.skip (thenQ.n ?_)
    iterate 2 refine WC.seq ?_
    refine WC.region ?_
    refine WL.lv rfl (LV.mv rfl) ?_
    have hsk_0 : sk 0 = (0 : Int) := by decide +kernel
    refine WL.lv rfl (LV.gtF (a := x) (b := 0) rfl rfl) ?_
    refine WL.nil (thenQ.n ?_)
    refine WC.condP (p := ((-9218868437227405312 ≤ sk x ∧ sk x ≤ 9218868437227405312) ∧ (-9218868437227405312 ≤ (0 : Int) ∧ (0 : Int) ≤ 9218868437227405312)) ∧ sk x > (0 : Int)) rfl (fun hc2 => ?_) (fun hc2 => ?_)
    · skip
      refine WC.seq ?_
      refine WC.region ?_
      refine WL.lv rfl (LV.asg rfl) ?_
      refine WL.nil (thenQ.n ?_)
      refine WC.ret (thenQ.r <| ?_)
      exact ⟨_, fun a ha => res1 rfl ha rfl, congrArg (Value.int .i64) (by omega), hS.kb⟩
    · skip
      refine WC.skip (thenQ.n ?_)
      iterate 2 refine WC.seq ?_
      refine WC.region ?_
      iterate 2 refine WL.lv rfl (LV.mv rfl) ?_
      refine WL.lv rfl (LV.neF (a := x) (b := x) rfl rfl) ?_
      refine WL.nil (thenQ.n ?_)
      refine WC.condP (p := ¬ (((-9218868437227405312 ≤ sk x ∧ sk x ≤ 9218868437227405312) ∧ (-9218868437227405312 ≤ sk x ∧ sk x ≤ 9218868437227405312)) ∧ sk x = sk x)) rfl (fun hc3 => ?_) (fun hc3 => ?_)
      · skip
        refine WC.seq ?_
        refine WC.region ?_
        refine WL.lv rfl (LV.asg rfl) ?_
        refine WL.nil (thenQ.n ?_)
        refine WC.ret (thenQ.r <| ?_)
        exact ⟨_, fun a ha => res1 rfl ha rfl, congrArg (Value.int .i64) (by omega), hS.kb⟩
      · skip
        refine WC.skip (thenQ.n ?_)
        iterate 2 refine WC.seq ?_
        refine WC.region ?_
        refine WL.lv rfl (LV.mv rfl) ?_
        refine WL.xe rfl (XE.arF (a := 4607182418800017408) (b := x) hS (.inr (.inr (.inr rfl))) rfl rfl) ?_
        rintro _ w1 ⟨r1, rfl, hr1, hb1, hS1, hk1⟩
        have hz_ := inv_zero (by omega) hx hr1
        have hsk_0 : sk 0 = (0 : Int) := by decide +kernel
        refine WL.lv rfl (LV.ltF (a := r1) (b := 0) rfl rfl) ?_
        refine WL.nil (thenQ.n ?_)
        refine WC.condP (p := ((-9218868437227405312 ≤ sk r1 ∧ sk r1 ≤ 9218868437227405312) ∧ (-9218868437227405312 ≤ (0 : Int) ∧ (0 : Int) ≤ 9218868437227405312)) ∧ sk r1 < (0 : Int)) rfl (fun hc4 => ?_) (fun hc4 => ?_)
        · skip
          refine WC.seq ?_
          refine WC.region ?_
          refine WL.lv rfl (LV.asg rfl) ?_
          refine WL.nil (thenQ.n ?_)
          refine WC.ret (thenQ.r <| ?_)
          exact ⟨_, fun a ha => res1 rfl ha rfl, congrArg (Value.int .i64) (by omega), hS1.kb⟩
        · skip
          refine WC.skip (thenQ.n ?_)
          refine WC.seq ?_
          refine WC.region ?_
          refine WL.lv rfl (LV.asg rfl) ?_
          refine WL.nil (thenQ.n ?_)
          refine WC.ret (?_)
          exact ⟨_, fun a ha => res1 rfl ha rfl, congrArg (Value.int .i64) (by omega), hS1.kb⟩

theorem rorder_calls {w : World} {a : Nat} {b : Nat} (ha : a < 18446744073709551616) (hb : b < 18446744073709551616) :
    Calls Try.prog 45 #[(.float .f64 a), (.float .f64 b)] w fun e w' => ∃ v, e = .returned v ∧ (fun v w' => v = .int .i64 (ORD a b) ∧ KB No w w') v w' := by
  have ha_ := tk_is a
  have hb_ := tk_is b
  have ho_ := ord_is' a b
  have ka_ := rk_is a
  have kb_ := rk_is b
  have hS : SH w No w [] := SH.nil _ _
  refine calls (l := litOf [(.float .f64 a), (.float .f64 b)] 0) Try.func45 rfl (n := 32) rfl (Nat.le_of_ble_eq_true rfl) (lit_args _) ?_
  refine WC.seq ?_
  refine WC.region ?_
  refine WL.lv rfl (LV.asg rfl) ?_
  refine WL.nil (thenQ.n ?_)
  refine WC.seq ?_
  refine WC.region ?_
  refine WL.lv rfl (LV.mv rfl) ?_
  refine WL.call rfl (XC.fn Try.func58 (by kernel_rfl) rfl rfl rfl) (rank_calls (x := a) (by first | assumption | omega | exact hp _ (getD_mem (by omega)) | exact hpz _ (getD_mem (by omega)))) ?_
  rintro v_ w1 ⟨rfl, hk1⟩
  have hS1 := SH.same hS hk1
  refine WL.lv rfl (LV.mv rfl) ?_
  refine WL.call rfl (XC.fn Try.func58 (by kernel_rfl) rfl rfl rfl) (rank_calls (x := b) (by first | assumption | omega | exact hp _ (getD_mem (by omega)) | exact hpz _ (getD_mem (by omega)))) ?_
  rintro v_ w2 ⟨rfl, hk2⟩
  have hS2 := SH.same hS1 hk2
  iterate 2 refine WL.lv rfl (LV.asg rfl) ?_
  refine WL.nil (thenQ.n ?_)
  iterate 2 refine WC.seq ?_
  refine WC.region ?_
  iterate 2 refine WL.lv rfl (LV.mv rfl) ?_
  rcases Decidable.em ((rk a) < (rk b)) with hg1 | hg1
  · refine WL.lv rfl (LV.as (LV.ltI rfl rfl) (decide_eq_true hg1)) ?_
    refine WL.lv rfl (LV.mv rfl) ?_
    iterate 8 refine WL.off rfl ?_
    refine WL.lv rfl (LV.pickT rfl rfl) ?_
    refine WL.nil (thenQ.n ?_)
    refine WC.condT rfl ?_
    refine WC.seq ?_
    refine WC.region ?_
    refine WL.lv rfl (LV.asg rfl) ?_
    refine WL.nil (thenQ.n ?_)
    refine WC.ret (thenQ.r <| ?_)
    exact ⟨_, fun a ha => res1 rfl ha rfl, congrArg (Value.int .i64) (by omega), hS2.kb⟩
  · refine WL.lv rfl (LV.as (LV.ltI rfl rfl) (decide_eq_false hg1)) ?_
    iterate 3 refine WL.lv rfl (LV.mv rfl) ?_
    rcases Decidable.em ((rk a) = (rk b)) with hg2 | hg2
    · refine WL.lv rfl (LV.as (LV.eqI rfl rfl) (decide_eq_true hg2)) ?_
      iterate 3 refine WL.lv rfl (LV.mv rfl) ?_
      refine WL.lv rfl (LV.ltF (a := a) (b := b) rfl rfl) ?_
      refine WL.lv rfl (LV.pickT rfl rfl) ?_
      refine WL.lv rfl (LV.pickF rfl rfl) ?_
      refine WL.nil (thenQ.n ?_)
      refine WC.condP (p := ((-9218868437227405312 ≤ sk a ∧ sk a ≤ 9218868437227405312) ∧ (-9218868437227405312 ≤ sk b ∧ sk b ≤ 9218868437227405312)) ∧ sk a < sk b) rfl (fun hc1 => ?_) (fun hc1 => ?_)
      · skip
        refine WC.seq ?_
        refine WC.region ?_
        refine WL.lv rfl (LV.asg rfl) ?_
        refine WL.nil (thenQ.n ?_)
        refine WC.ret (thenQ.r <| ?_)
        exact ⟨_, fun a ha => res1 rfl ha rfl, congrArg (Value.int .i64) (by omega), hS2.kb⟩
      · skip
        refine WC.skip (thenQ.n ?_)
        iterate 2 refine WC.seq ?_
        refine WC.region ?_
        iterate 2 refine WL.lv rfl (LV.mv rfl) ?_
        rcases Decidable.em ((rk a) > (rk b)) with hg3 | hg3
        · refine WL.lv rfl (LV.as (LV.gtI rfl rfl) (decide_eq_true hg3)) ?_
          refine WL.lv rfl (LV.mv rfl) ?_
          iterate 3 refine WL.off rfl ?_
          refine WL.lv rfl (LV.pickT rfl rfl) ?_
          refine WL.nil (thenQ.n ?_)
          refine WC.condT rfl ?_
          refine WC.seq ?_
          refine WC.region ?_
          refine WL.lv rfl (LV.asg rfl) ?_
          refine WL.nil (thenQ.n ?_)
          refine WC.ret (thenQ.r <| ?_)
          exact ⟨_, fun a ha => res1 rfl ha rfl, congrArg (Value.int .i64) (by omega), hS2.kb⟩
        · refine WL.lv rfl (LV.as (LV.gtI rfl rfl) (decide_eq_false hg3)) ?_
          iterate 3 refine WL.lv rfl (LV.mv rfl) ?_
          refine WL.lv rfl (LV.gtF (a := a) (b := b) rfl rfl) ?_
          refine WL.lv rfl (LV.pickF rfl rfl) ?_
          refine WL.nil (thenQ.n ?_)
          refine WC.condP (p := ((-9218868437227405312 ≤ sk a ∧ sk a ≤ 9218868437227405312) ∧ (-9218868437227405312 ≤ sk b ∧ sk b ≤ 9218868437227405312)) ∧ sk a > sk b) rfl (fun hc2 => ?_) (fun hc2 => ?_)
          · skip
            refine WC.seq ?_
            refine WC.region ?_
            refine WL.lv rfl (LV.asg rfl) ?_
            refine WL.nil (thenQ.n ?_)
            refine WC.ret (thenQ.r <| ?_)
            exact ⟨_, fun a ha => res1 rfl ha rfl, congrArg (Value.int .i64) (by omega), hS2.kb⟩
          · skip
            refine WC.skip (thenQ.n ?_)
            refine WC.seq ?_
            refine WC.region ?_
            refine WL.lv rfl (LV.asg rfl) ?_
            refine WL.nil (thenQ.n ?_)
            refine WC.ret (?_)
            exact ⟨_, fun a ha => res1 rfl ha rfl, congrArg (Value.int .i64) (by omega), hS2.kb⟩
    · refine WL.lv rfl (LV.as (LV.eqI rfl rfl) (decide_eq_false hg2)) ?_
      refine WL.lv rfl (LV.mv rfl) ?_
      iterate 3 refine WL.off rfl ?_
      iterate 2 refine WL.lv rfl (LV.pickF rfl rfl) ?_
      refine WL.nil (thenQ.n ?_)
      refine WC.condF rfl ?_
      refine WC.skip (thenQ.n ?_)
      iterate 2 refine WC.seq ?_
      refine WC.region ?_
      iterate 2 refine WL.lv rfl (LV.mv rfl) ?_
      rcases Decidable.em ((rk a) > (rk b)) with hg4 | hg4
      · refine WL.lv rfl (LV.as (LV.gtI rfl rfl) (decide_eq_true hg4)) ?_
        refine WL.lv rfl (LV.mv rfl) ?_
        iterate 3 refine WL.off rfl ?_
        refine WL.lv rfl (LV.pickT rfl rfl) ?_
        refine WL.nil (thenQ.n ?_)
        refine WC.condT rfl ?_
        refine WC.seq ?_
        refine WC.region ?_
        refine WL.lv rfl (LV.asg rfl) ?_
        refine WL.nil (thenQ.n ?_)
        refine WC.ret (thenQ.r <| ?_)
        exact ⟨_, fun a ha => res1 rfl ha rfl, congrArg (Value.int .i64) (by omega), hS2.kb⟩
      · refine WL.lv rfl (LV.as (LV.gtI rfl rfl) (decide_eq_false hg4)) ?_
        iterate 3 refine WL.lv rfl (LV.mv rfl) ?_
        refine WL.lv rfl (LV.gtF (a := a) (b := b) rfl rfl) ?_
        refine WL.lv rfl (LV.pickF rfl rfl) ?_
        refine WL.nil (thenQ.n ?_)
        refine WC.condP (p := ((-9218868437227405312 ≤ sk a ∧ sk a ≤ 9218868437227405312) ∧ (-9218868437227405312 ≤ sk b ∧ sk b ≤ 9218868437227405312)) ∧ sk a > sk b) rfl (fun hc3 => ?_) (fun hc3 => ?_)
        · skip
          refine WC.seq ?_
          refine WC.region ?_
          refine WL.lv rfl (LV.asg rfl) ?_
          refine WL.nil (thenQ.n ?_)
          refine WC.ret (thenQ.r <| ?_)
          exact ⟨_, fun a ha => res1 rfl ha rfl, congrArg (Value.int .i64) (by omega), hS2.kb⟩
        · skip
          refine WC.skip (thenQ.n ?_)
          refine WC.seq ?_
          refine WC.region ?_
          refine WL.lv rfl (LV.asg rfl) ?_
          refine WL.nil (thenQ.n ?_)
          refine WC.ret (?_)
          exact ⟨_, fun a ha => res1 rfl ha rfl, congrArg (Value.int .i64) (by omega), hS2.kb⟩

theorem fsame_calls {w : World} {a : Nat} {b : Nat} (ha : a < 18446744073709551616) (hb : b < 18446744073709551616) :
    Calls Try.prog 13 #[(.float .f64 a), (.float .f64 b)] w fun e w' => ∃ v, e = .returned v ∧ (fun v w' => v = .bool (decide (tk a = tk b)) ∧ KB No w w') v w' := by
  have ha_ := tk_is a
  have hb_ := tk_is b
  have hS : SH w No w [] := SH.nil _ _
  refine calls (l := litOf [(.float .f64 a), (.float .f64 b)] 0) Try.func13 rfl (n := 35) rfl (Nat.le_of_ble_eq_true rfl) (lit_args _) ?_
  refine WC.seq ?_
  refine WC.region ?_
  refine WL.lv rfl (LV.asg rfl) ?_
  refine WL.nil (thenQ.n ?_)
  iterate 2 refine WC.seq ?_
  refine WC.region ?_
  iterate 2 refine WL.lv rfl (LV.mv rfl) ?_
  rcases Decidable.em (¬ (((-9218868437227405312 ≤ sk a ∧ sk a ≤ 9218868437227405312) ∧ (-9218868437227405312 ≤ sk a ∧ sk a ≤ 9218868437227405312)) ∧ sk a = sk a)) with hg1 | hg1
  · refine WL.lv rfl (LV.as (LV.neF (a := a) (b := a) rfl rfl) (decide_eq_true hg1)) ?_
    refine WL.lv rfl (LV.mv rfl) ?_
    iterate 3 refine WL.off rfl ?_
    refine WL.lv rfl (LV.pickT rfl rfl) ?_
    refine WL.nil (thenQ.n ?_)
    refine WC.condT rfl ?_
    refine WC.seq ?_
    refine WC.region ?_
    iterate 2 refine WL.lv rfl (LV.mv rfl) ?_
    refine WL.lv rfl (LV.as (LV.neF (a := a) (b := a) rfl rfl) (decide_eq_true hg1)) ?_
    iterate 3 refine WL.lv rfl (LV.mv rfl) ?_
    refine WL.lv rfl (LV.neF (a := b) (b := b) rfl rfl) ?_
    refine WL.lv rfl (LV.pickT rfl rfl) ?_
    refine WL.lv rfl (LV.asg rfl) ?_
    refine WL.nil (thenQ.n ?_)
    refine WC.ret (thenQ.r <| ?_)
    exact ⟨_, fun a ha => res1 rfl ha rfl, congrArg Value.bool (decide_eq_decide.2 (by omega)), hS.kb⟩
  · refine WL.lv rfl (LV.as (LV.neF (a := a) (b := a) rfl rfl) (decide_eq_false hg1)) ?_
    iterate 3 refine WL.lv rfl (LV.mv rfl) ?_
    refine WL.lv rfl (LV.neF (a := b) (b := b) rfl rfl) ?_
    refine WL.lv rfl (LV.pickF rfl rfl) ?_
    refine WL.nil (thenQ.n ?_)
    refine WC.condP (p := ¬ (((-9218868437227405312 ≤ sk b ∧ sk b ≤ 9218868437227405312) ∧ (-9218868437227405312 ≤ sk b ∧ sk b ≤ 9218868437227405312)) ∧ sk b = sk b)) rfl (fun hc1 => ?_) (fun hc1 => ?_)
    · skip
      refine WC.seq ?_
      refine WC.region ?_
      iterate 2 refine WL.lv rfl (LV.mv rfl) ?_
      refine WL.lv rfl (LV.as (LV.neF (a := a) (b := a) rfl rfl) (decide_eq_false hg1)) ?_
      refine WL.lv rfl (LV.mv rfl) ?_
      iterate 3 refine WL.off rfl ?_
      refine WL.lv rfl (LV.pickF rfl rfl) ?_
      refine WL.lv rfl (LV.asg rfl) ?_
      refine WL.nil (thenQ.n ?_)
      refine WC.ret (thenQ.r <| ?_)
      exact ⟨_, fun a ha => res1 rfl ha rfl, congrArg Value.bool (decide_eq_false (show ¬ (tk a = tk b) by omega)).symm, hS.kb⟩
    · skip
      refine WC.skip (thenQ.n ?_)
      refine WC.seq ?_
      refine WC.region ?_
      iterate 2 refine WL.lv rfl (LV.mv rfl) ?_
      rcases Decidable.em (((-9218868437227405312 ≤ sk a ∧ sk a ≤ 9218868437227405312) ∧ (-9218868437227405312 ≤ sk b ∧ sk b ≤ 9218868437227405312)) ∧ sk a = sk b) with hg2 | hg2
      · refine WL.lv rfl (LV.as (LV.eqF (a := a) (b := b) rfl rfl) (decide_eq_true hg2)) ?_
        iterate 2 refine WL.lv rfl (LV.mv rfl) ?_
        have hsk_0 : sk 0 = (0 : Int) := by decide +kernel
        rcases Decidable.em (¬ (((-9218868437227405312 ≤ sk a ∧ sk a ≤ 9218868437227405312) ∧ (-9218868437227405312 ≤ (0 : Int) ∧ (0 : Int) ≤ 9218868437227405312)) ∧ sk a = (0 : Int))) with hg3 | hg3
        · refine WL.lv rfl (LV.as (LV.neF (a := a) (b := 0) rfl rfl) (decide_eq_true hg3)) ?_
          refine WL.lv rfl (LV.mv rfl) ?_
          iterate 5 refine WL.off rfl ?_
          iterate 2 refine WL.lv rfl (LV.pickT rfl rfl) ?_
          refine WL.lv rfl (LV.asg rfl) ?_
          refine WL.nil (thenQ.n ?_)
          refine WC.ret (?_)
          exact ⟨_, fun a ha => res1 rfl ha rfl, congrArg Value.bool (decide_eq_true (show tk a = tk b by omega)).symm, hS.kb⟩
        · refine WL.lv rfl (LV.as (LV.neF (a := a) (b := 0) rfl rfl) (decide_eq_false hg3)) ?_
          iterate 2 refine WL.lv rfl (LV.mv rfl) ?_
          refine WL.xe rfl (XE.arF (a := 4607182418800017408) (b := a) hS (.inr (.inr (.inr rfl))) rfl rfl) ?_
          rintro _ w1 ⟨r1, rfl, hr1, hb1, hS1, hk1⟩
          have hz_ := inv_zero (x := a) (by omega) ha hr1
          refine WL.lv rfl (LV.mv rfl) ?_
          refine WL.xe rfl (XE.arF (a := 4607182418800017408) (b := b) hS1 (.inr (.inr (.inr rfl))) rfl rfl) ?_
          rintro _ w2 ⟨r2, rfl, hr2, hb2, hS2, hk2⟩
          have hy_ := inv_zero (x := b) (by omega) hb hr2
          refine WL.lv rfl (LV.eqF (a := r1) (b := r2) rfl rfl) ?_
          refine WL.lv rfl (LV.pickF rfl rfl) ?_
          refine WL.lv rfl (LV.pickT rfl rfl) ?_
          refine WL.lv rfl (LV.asg rfl) ?_
          refine WL.nil (thenQ.n ?_)
          refine WC.ret (?_)
          exact ⟨_, fun a ha => res1 rfl ha rfl, congrArg Value.bool (decide_eq_decide.2 (by omega)), hS2.kb⟩
      · refine WL.lv rfl (LV.as (LV.eqF (a := a) (b := b) rfl rfl) (decide_eq_false hg2)) ?_
        refine WL.lv rfl (LV.mv rfl) ?_
        iterate 9 refine WL.off rfl ?_
        refine WL.lv rfl (LV.pickF rfl rfl) ?_
        refine WL.lv rfl (LV.asg rfl) ?_
        refine WL.nil (thenQ.n ?_)
        refine WC.ret (?_)
        exact ⟨_, fun a ha => res1 rfl ha rfl, congrArg Value.bool (decide_eq_false (show ¬ (tk a = tk b) by omega)).symm, hS.kb⟩

theorem ratio_calls {w : World} {common : Int} {n : Int} {m : Int} (hc : -9223372036854775808 ≤ common ∧ common ≤ 9223372036854775807) (hn : -9223372036854775808 ≤ n ∧ n ≤ 9223372036854775807) (hm : -9223372036854775808 ≤ m ∧ m ≤ 9223372036854775807) :
    Calls Try.prog 29 #[(.int .i64 common), (.int .i64 n), (.int .i64 m)] w fun e w' => ∃ v, e = .returned v ∧ (fun v w' => ∃ (r' : Nat), v = .float .f64 r' ∧ cn r' = RAT common n m ∧ r' < 18446744073709551616 ∧ KB No w w') v w' := by
  have hS : SH w No w [] := SH.nil _ _
  refine calls (l := litOf [(.int .i64 common), (.int .i64 n), (.int .i64 m)] 0) Try.func29 rfl (n := 47) rfl (Nat.le_of_ble_eq_true rfl) (lit_args _) ?_
  refine WC.seq ?_
  refine WC.region ?_
  refine WL.lv rfl (LV.asg rfl) ?_
  refine WL.nil (thenQ.n ?_)
  iterate 2 refine WC.seq ?_
  refine WC.region ?_
  refine WL.lv rfl (LV.mv rfl) ?_
  rcases Decidable.em (n < 0) with hg1 | hg1
  · refine WL.lv rfl (LV.as (LV.ltI rfl rfl) (decide_eq_true hg1)) ?_
    refine WL.lv rfl (LV.mv rfl) ?_
    iterate 2 refine WL.off rfl ?_
    refine WL.lv rfl (LV.pickT rfl rfl) ?_
    refine WL.lv rfl (LV.mv rfl) ?_
    iterate 2 refine WL.off rfl ?_
    refine WL.lv rfl (LV.pickT rfl rfl) ?_
    refine WL.lv rfl (LV.mv rfl) ?_
    iterate 2 refine WL.off rfl ?_
    refine WL.lv rfl (LV.pickT rfl rfl) ?_
    refine WL.lv rfl (LV.mv rfl) ?_
    iterate 2 refine WL.off rfl ?_
    refine WL.lv rfl (LV.pickT rfl rfl) ?_
    refine WL.lv rfl (LV.mv rfl) ?_
    iterate 5 refine WL.off rfl ?_
    refine WL.lv rfl (LV.pickT rfl rfl) ?_
    refine WL.lv rfl (LV.mv rfl) ?_
    iterate 4 refine WL.off rfl ?_
    refine WL.lv rfl (LV.pickT rfl rfl) ?_
    refine WL.nil (thenQ.n ?_)
    refine WC.condT rfl ?_
    refine WC.seq ?_
    refine WC.region ?_
    refine WL.call rfl (XC.fn Try.func44 (by kernel_rfl) rfl rfl rfl) (nan_calls  ) ?_
    rintro v_ w1 ⟨r1, rfl, hf1, hf2, hk1⟩
    have hS1 := SH.same hS hk1
    refine WL.lv rfl (LV.asg rfl) ?_
    refine WL.nil (thenQ.n ?_)
    refine WC.ret (thenQ.r <| ?_)
    exact ⟨_, fun a ha => res1 rfl ha rfl, r1, congrArg FV (rfl), by unfold RAT; rw [if_pos (by omega)]; exact hf1, hf2, hS1.kb⟩
  · refine WL.lv rfl (LV.as (LV.ltI rfl rfl) (decide_eq_false hg1)) ?_
    iterate 2 refine WL.lv rfl (LV.mv rfl) ?_
    rcases Decidable.em (m < 0) with hg2 | hg2
    · refine WL.lv rfl (LV.as (LV.ltI rfl rfl) (decide_eq_true hg2)) ?_
      refine WL.lv rfl (LV.pickF rfl rfl) ?_
      refine WL.lv rfl (LV.mv rfl) ?_
      iterate 2 refine WL.off rfl ?_
      refine WL.lv rfl (LV.pickT rfl rfl) ?_
      refine WL.lv rfl (LV.mv rfl) ?_
      iterate 2 refine WL.off rfl ?_
      refine WL.lv rfl (LV.pickT rfl rfl) ?_
      refine WL.lv rfl (LV.mv rfl) ?_
      iterate 2 refine WL.off rfl ?_
      refine WL.lv rfl (LV.pickT rfl rfl) ?_
      refine WL.lv rfl (LV.mv rfl) ?_
      iterate 5 refine WL.off rfl ?_
      refine WL.lv rfl (LV.pickT rfl rfl) ?_
      refine WL.lv rfl (LV.mv rfl) ?_
      iterate 4 refine WL.off rfl ?_
      refine WL.lv rfl (LV.pickT rfl rfl) ?_
      refine WL.nil (thenQ.n ?_)
      refine WC.condT rfl ?_
      refine WC.seq ?_
      refine WC.region ?_
      refine WL.call rfl (XC.fn Try.func44 (by kernel_rfl) rfl rfl rfl) (nan_calls  ) ?_
      rintro v_ w2 ⟨r2, rfl, hf3, hf4, hk2⟩
      have hS2 := SH.same hS hk2
      refine WL.lv rfl (LV.asg rfl) ?_
      refine WL.nil (thenQ.n ?_)
      refine WC.ret (thenQ.r <| ?_)
      exact ⟨_, fun a ha => res1 rfl ha rfl, r2, congrArg FV (rfl), by unfold RAT; rw [if_pos (by omega)]; exact hf3, hf4, hS2.kb⟩
    · refine WL.lv rfl (LV.as (LV.ltI rfl rfl) (decide_eq_false hg2)) ?_
      refine WL.lv rfl (LV.pickF rfl rfl) ?_
      iterate 2 refine WL.lv rfl (LV.mv rfl) ?_
      rcases Decidable.em (n > 2147483647) with hg3 | hg3
      · refine WL.lv rfl (LV.as (LV.gtI rfl rfl) (decide_eq_true hg3)) ?_
        refine WL.lv rfl (LV.pickF rfl rfl) ?_
        refine WL.lv rfl (LV.mv rfl) ?_
        iterate 2 refine WL.off rfl ?_
        refine WL.lv rfl (LV.pickT rfl rfl) ?_
        refine WL.lv rfl (LV.mv rfl) ?_
        iterate 2 refine WL.off rfl ?_
        refine WL.lv rfl (LV.pickT rfl rfl) ?_
        refine WL.lv rfl (LV.mv rfl) ?_
        iterate 5 refine WL.off rfl ?_
        refine WL.lv rfl (LV.pickT rfl rfl) ?_
        refine WL.lv rfl (LV.mv rfl) ?_
        iterate 4 refine WL.off rfl ?_
        refine WL.lv rfl (LV.pickT rfl rfl) ?_
        refine WL.nil (thenQ.n ?_)
        refine WC.condT rfl ?_
        refine WC.seq ?_
        refine WC.region ?_
        refine WL.call rfl (XC.fn Try.func44 (by kernel_rfl) rfl rfl rfl) (nan_calls  ) ?_
        rintro v_ w3 ⟨r3, rfl, hf5, hf6, hk3⟩
        have hS3 := SH.same hS hk3
        refine WL.lv rfl (LV.asg rfl) ?_
        refine WL.nil (thenQ.n ?_)
        refine WC.ret (thenQ.r <| ?_)
        exact ⟨_, fun a ha => res1 rfl ha rfl, r3, congrArg FV (rfl), by unfold RAT; rw [if_pos (by omega)]; exact hf5, hf6, hS3.kb⟩
      · refine WL.lv rfl (LV.as (LV.gtI rfl rfl) (decide_eq_false hg3)) ?_
        refine WL.lv rfl (LV.pickF rfl rfl) ?_
        iterate 2 refine WL.lv rfl (LV.mv rfl) ?_
        rcases Decidable.em (m > 2147483647) with hg4 | hg4
        · refine WL.lv rfl (LV.as (LV.gtI rfl rfl) (decide_eq_true hg4)) ?_
          refine WL.lv rfl (LV.pickF rfl rfl) ?_
          refine WL.lv rfl (LV.mv rfl) ?_
          iterate 2 refine WL.off rfl ?_
          refine WL.lv rfl (LV.pickT rfl rfl) ?_
          refine WL.lv rfl (LV.mv rfl) ?_
          iterate 5 refine WL.off rfl ?_
          refine WL.lv rfl (LV.pickT rfl rfl) ?_
          refine WL.lv rfl (LV.mv rfl) ?_
          iterate 4 refine WL.off rfl ?_
          refine WL.lv rfl (LV.pickT rfl rfl) ?_
          refine WL.nil (thenQ.n ?_)
          refine WC.condT rfl ?_
          refine WC.seq ?_
          refine WC.region ?_
          refine WL.call rfl (XC.fn Try.func44 (by kernel_rfl) rfl rfl rfl) (nan_calls  ) ?_
          rintro v_ w4 ⟨r4, rfl, hf7, hf8, hk4⟩
          have hS4 := SH.same hS hk4
          refine WL.lv rfl (LV.asg rfl) ?_
          refine WL.nil (thenQ.n ?_)
          refine WC.ret (thenQ.r <| ?_)
          exact ⟨_, fun a ha => res1 rfl ha rfl, r4, congrArg FV (rfl), by unfold RAT; rw [if_pos (by omega)]; exact hf7, hf8, hS4.kb⟩
        · refine WL.lv rfl (LV.as (LV.gtI rfl rfl) (decide_eq_false hg4)) ?_
          refine WL.lv rfl (LV.pickF rfl rfl) ?_
          iterate 2 refine WL.lv rfl (LV.mv rfl) ?_
          rcases Decidable.em (common < 0) with hg5 | hg5
          · refine WL.lv rfl (LV.as (LV.ltI rfl rfl) (decide_eq_true hg5)) ?_
            refine WL.lv rfl (LV.pickF rfl rfl) ?_
            refine WL.lv rfl (LV.mv rfl) ?_
            iterate 5 refine WL.off rfl ?_
            refine WL.lv rfl (LV.pickT rfl rfl) ?_
            refine WL.lv rfl (LV.mv rfl) ?_
            iterate 4 refine WL.off rfl ?_
            refine WL.lv rfl (LV.pickT rfl rfl) ?_
            refine WL.nil (thenQ.n ?_)
            refine WC.condT rfl ?_
            refine WC.seq ?_
            refine WC.region ?_
            refine WL.call rfl (XC.fn Try.func44 (by kernel_rfl) rfl rfl rfl) (nan_calls  ) ?_
            rintro v_ w5 ⟨r5, rfl, hf9, hf10, hk5⟩
            have hS5 := SH.same hS hk5
            refine WL.lv rfl (LV.asg rfl) ?_
            refine WL.nil (thenQ.n ?_)
            refine WC.ret (thenQ.r <| ?_)
            exact ⟨_, fun a ha => res1 rfl ha rfl, r5, congrArg FV (rfl), by unfold RAT; rw [if_pos (by omega)]; exact hf9, hf10, hS5.kb⟩
          · refine WL.lv rfl (LV.as (LV.ltI rfl rfl) (decide_eq_false hg5)) ?_
            refine WL.lv rfl (LV.pickF rfl rfl) ?_
            iterate 4 refine WL.lv rfl (LV.mv rfl) ?_
            refine WL.lv rfl (LV.minI rfl rfl) ?_
            rcases Decidable.em (common > (min n m)) with hg6 | hg6
            · refine WL.lv rfl (LV.as (LV.gtI rfl rfl) (decide_eq_true hg6)) ?_
              refine WL.lv rfl (LV.pickF rfl rfl) ?_
              refine WL.lv rfl (LV.mv rfl) ?_
              iterate 4 refine WL.off rfl ?_
              refine WL.lv rfl (LV.pickT rfl rfl) ?_
              refine WL.nil (thenQ.n ?_)
              refine WC.condT rfl ?_
              refine WC.seq ?_
              refine WC.region ?_
              refine WL.call rfl (XC.fn Try.func44 (by kernel_rfl) rfl rfl rfl) (nan_calls  ) ?_
              rintro v_ w6 ⟨r6, rfl, hf11, hf12, hk6⟩
              have hS6 := SH.same hS hk6
              refine WL.lv rfl (LV.asg rfl) ?_
              refine WL.nil (thenQ.n ?_)
              refine WC.ret (thenQ.r <| ?_)
              exact ⟨_, fun a ha => res1 rfl ha rfl, r6, congrArg FV (rfl), by unfold RAT; rw [if_pos (by omega)]; exact hf11, hf12, hS6.kb⟩
            · refine WL.lv rfl (LV.as (LV.gtI rfl rfl) (decide_eq_false hg6)) ?_
              refine WL.lv rfl (LV.pickF rfl rfl) ?_
              iterate 3 refine WL.lv rfl (LV.mv rfl) ?_
              refine WL.lv rfl (LV.add rfl rfl (wr64 (by omega) (by omega))) ?_
              refine WL.lv rfl (LV.eqI rfl rfl) ?_
              refine WL.lv rfl (LV.pickF rfl rfl) ?_
              refine WL.nil (thenQ.n ?_)
              refine WC.condP (p := (n + m) = 0) rfl (fun hc1 => ?_) (fun hc1 => ?_)
              · skip
                refine WC.seq ?_
                refine WC.region ?_
                refine WL.call rfl (XC.fn Try.func44 (by kernel_rfl) rfl rfl rfl) (nan_calls  ) ?_
                rintro v_ w7 ⟨r7, rfl, hf13, hf14, hk7⟩
                have hS7 := SH.same hS hk7
                refine WL.lv rfl (LV.asg rfl) ?_
                refine WL.nil (thenQ.n ?_)
                refine WC.ret (thenQ.r <| ?_)
                exact ⟨_, fun a ha => res1 rfl ha rfl, r7, congrArg FV (rfl), by unfold RAT; rw [if_pos (by omega)]; exact hf13, hf14, hS7.kb⟩
              · skip
                refine WC.skip (thenQ.n ?_)
                refine WC.seq ?_
                refine WC.region ?_
                refine WL.lv rfl (LV.mv rfl) ?_
                refine WL.lv rfl (LV.mul rfl rfl (wr64 (by omega) (by omega))) ?_
                refine WL.lv rfl (LV.cvtIF Try.underlying3 Try.underlying27 rfl) ?_
                iterate 2 refine WL.lv rfl (LV.mv rfl) ?_
                refine WL.lv rfl (LV.add rfl rfl (wr64 (by omega) (by omega))) ?_
                refine WL.lv rfl (LV.cvtIF Try.underlying3 Try.underlying27 rfl) ?_
                refine WL.xe rfl (XE.arF (a := (floatOfInt .f64 (2 * common))) (b := (floatOfInt .f64 (n + m))) hS (.inr (.inr (.inr rfl))) rfl rfl) ?_
                rintro _ w8 ⟨r8, rfl, hr1, hb1, hS8, hk8⟩
                refine WL.lv rfl (LV.asg rfl) ?_
                refine WL.nil (thenQ.n ?_)
                refine WC.ret (?_)
                exact ⟨_, fun a ha => res1 rfl ha rfl, r8, congrArg FV (rfl), by unfold RAT; rw [if_neg (by omega)]; exact hr1, hb1, hS8.kb⟩

theorem mille_calls {w : World} {x : Nat} (hx : x < 18446744073709551616) :
    Calls Try.prog 37 #[(.float .f64 x)] w fun e w' => ∃ v, e = .returned v ∧ (fun v w' => v = .int .i64 (MIL x) ∧ KB No w w') v w' := by
  have hS : SH w No w [] := SH.nil _ _
  refine calls (l := litOf [(.float .f64 x)] 0) Try.func37 rfl (n := 15) rfl (Nat.le_of_ble_eq_true rfl) (lit_args _) ?_
  refine WC.seq ?_
  refine WC.region ?_
  refine WL.lv rfl (LV.asg rfl) ?_
  refine WL.nil (thenQ.n ?_)
  refine WC.seq ?_
  refine WC.block ?_
  refine WC.seq ?_
  refine WC.region ?_
  refine WL.lv rfl (LV.mv rfl) ?_
  refine WL.call rfl (XC.fn Try.func51 (by kernel_rfl) rfl rfl rfl) (isNaN_calls (x := x) ) ?_
  rintro v_ w1 ⟨rfl, hk1⟩
  have hS1 := SH.same hS hk1
  refine WL.lv rfl (LV.asg rfl) ?_
  refine WL.nil (thenQ.n ?_)
  refine WC.condP (p := ¬ (-9218868437227405312 ≤ sk x ∧ sk x ≤ 9218868437227405312)) rfl (fun hc1 => ?_) (fun hc1 => ?_)
  · skip
    refine WC.seq ?_
    refine WC.region ?_
    refine WL.lv rfl (LV.asg rfl) ?_
    refine WL.nil (thenQ.n ?_)
    refine WC.ret (blockQ.r <| thenQ.r <| ?_)
    exact ⟨_, fun a ha => res1 rfl ha rfl, congrArg (Value.int .i64) (by first | omega | exact mil_if x (by omega) | exact (mil_if x (by omega)).symm), hS1.kb⟩
  · skip
    refine WC.seq ?_
    refine WC.region ?_
    refine WL.lv rfl (LV.mv rfl) ?_
    have hsk_0 : sk 0 = (0 : Int) := by decide +kernel
    refine WL.lv rfl (LV.ltF (a := x) (b := 0) rfl rfl) ?_
    refine WL.lv rfl (LV.asg rfl) ?_
    refine WL.nil (thenQ.n ?_)
    refine WC.condP (p := ((-9218868437227405312 ≤ sk x ∧ sk x ≤ 9218868437227405312) ∧ (-9218868437227405312 ≤ (0 : Int) ∧ (0 : Int) ≤ 9218868437227405312)) ∧ sk x < (0 : Int)) rfl (fun hc2 => ?_) (fun hc2 => ?_)
    · skip
      refine WC.seq ?_
      refine WC.region ?_
      refine WL.lv rfl (LV.asg rfl) ?_
      refine WL.nil (thenQ.n ?_)
      refine WC.ret (blockQ.r <| thenQ.r <| ?_)
      exact ⟨_, fun a ha => res1 rfl ha rfl, congrArg (Value.int .i64) (by first | omega | exact mil_if x (by omega) | exact (mil_if x (by omega)).symm), hS1.kb⟩
    · skip
      refine WC.seq ?_
      refine WC.region ?_
      refine WL.lv rfl (LV.mv rfl) ?_
      have hsk_4607182418800017408 : sk 4607182418800017408 = (4607182418800017408 : Int) := by decide +kernel
      refine WL.lv rfl (LV.geF (a := x) (b := 4607182418800017408) rfl rfl) ?_
      refine WL.lv rfl (LV.asg rfl) ?_
      refine WL.nil (thenQ.n ?_)
      refine WC.condP (p := ((-9218868437227405312 ≤ sk x ∧ sk x ≤ 9218868437227405312) ∧ (-9218868437227405312 ≤ (4607182418800017408 : Int) ∧ (4607182418800017408 : Int) ≤ 9218868437227405312)) ∧ sk x ≥ (4607182418800017408 : Int)) rfl (fun hc3 => ?_) (fun hc3 => ?_)
      · skip
        refine WC.seq ?_
        refine WC.region ?_
        refine WL.lv rfl (LV.asg rfl) ?_
        refine WL.nil (thenQ.n ?_)
        refine WC.ret (blockQ.r <| thenQ.r <| ?_)
        exact ⟨_, fun a ha => res1 rfl ha rfl, congrArg (Value.int .i64) (by first | omega | exact mil_if x (by omega) | exact (mil_if x (by omega)).symm), hS1.kb⟩
      · skip
        refine WC.skip (blockQ.n <| thenQ.n ?_)
        refine WC.seq ?_
        refine WC.region ?_
        refine WL.lv rfl (LV.mv rfl) ?_
        refine WL.xe rfl (XE.arF (a := 4652007308841189376) (b := x) hS1 (.inr (.inr (.inl rfl))) rfl rfl) ?_
        rintro _ w2 ⟨r1, rfl, hr1, hb1, hS2, hk2⟩
        have hm_ := mil_is (x := x) (by omega) (by omega) hr1
        refine WL.lv rfl (LV.cvtFI Try.underlying27 Try.underlying3 rfl (hm_.2.2.2.1)) ?_
        refine WL.lv rfl (LV.asg rfl) ?_
        refine WL.nil (thenQ.n ?_)
        refine WC.ret (?_)
        exact ⟨_, fun a ha => res1 rfl ha rfl, congrArg (Value.int .i64) (by first | omega | exact mil_if x (by omega) | exact (mil_if x (by omega)).symm), hS2.kb⟩

theorem rmille_calls {w : World} {x : Nat} (hx : x < 18446744073709551616) :
    Calls Try.prog 39 #[(.float .f64 x)] w fun e w' => ∃ v, e = .returned v ∧ (fun v w' => v = .int .i64 (MIL x) ∧ KB No w w') v w' := by
  have hS : SH w No w [] := SH.nil _ _
  refine calls (l := litOf [(.float .f64 x)] 0) Try.func39 rfl (n := 24) rfl (Nat.le_of_ble_eq_true rfl) (lit_args _) ?_
  refine WC.seq ?_
  refine WC.region ?_
  refine WL.lv rfl (LV.asg rfl) ?_
  refine WL.nil (thenQ.n ?_)
  iterate 2 refine WC.seq ?_
  refine WC.region ?_
  iterate 2 refine WL.lv rfl (LV.mv rfl) ?_
  refine WL.lv rfl (LV.neF (a := x) (b := x) rfl rfl) ?_
  refine WL.nil (thenQ.n ?_)
  refine WC.condP (p := ¬ (((-9218868437227405312 ≤ sk x ∧ sk x ≤ 9218868437227405312) ∧ (-9218868437227405312 ≤ sk x ∧ sk x ≤ 9218868437227405312)) ∧ sk x = sk x)) rfl (fun hc1 => ?_) (fun hc1 => ?_)
  · skip
    refine WC.seq ?_
    refine WC.region ?_
    refine WL.lv rfl (LV.asg rfl) ?_
    refine WL.nil (thenQ.n ?_)
    refine WC.ret (thenQ.r <| ?_)
    exact ⟨_, fun a ha => res1 rfl ha rfl, congrArg (Value.int .i64) (by first | omega | exact mil_if x (by omega) | exact (mil_if x (by omega)).symm), hS.kb⟩
  · skip
    refine WC.skip (thenQ.n ?_)
    iterate 2 refine WC.seq ?_
    refine WC.region ?_
    refine WL.lv rfl (LV.mv rfl) ?_
    have hsk_4607182418800017408 : sk 4607182418800017408 = (4607182418800017408 : Int) := by decide +kernel
    refine WL.lv rfl (LV.geF (a := x) (b := 4607182418800017408) rfl rfl) ?_
    refine WL.nil (thenQ.n ?_)
    refine WC.condP (p := ((-9218868437227405312 ≤ sk x ∧ sk x ≤ 9218868437227405312) ∧ (-9218868437227405312 ≤ (4607182418800017408 : Int) ∧ (4607182418800017408 : Int) ≤ 9218868437227405312)) ∧ sk x ≥ (4607182418800017408 : Int)) rfl (fun hc2 => ?_) (fun hc2 => ?_)
    · skip
      refine WC.seq ?_
      refine WC.region ?_
      refine WL.lv rfl (LV.asg rfl) ?_
      refine WL.nil (thenQ.n ?_)
      refine WC.ret (thenQ.r <| ?_)
      exact ⟨_, fun a ha => res1 rfl ha rfl, congrArg (Value.int .i64) (by first | omega | exact mil_if x (by omega) | exact (mil_if x (by omega)).symm), hS.kb⟩
    · skip
      refine WC.skip (thenQ.n ?_)
      refine WC.seq ?_
      refine WC.region ?_
      refine WL.lv rfl (LV.mv rfl) ?_
      refine WL.xe rfl (XE.arF (a := 4652007308841189376) (b := x) hS (.inr (.inr (.inl rfl))) rfl rfl) ?_
      rintro _ w1 ⟨r1, rfl, hr1, hb1, hS1, hk1⟩
      have hm_ := mil_doc (x := x) (by omega) (by omega) hr1
      refine WL.lv rfl (LV.asg rfl) ?_
      refine WL.nil (thenQ.n ?_)
      refine WC.seq ?_
      refine WC.region ?_
      refine WL.lv rfl (LV.asg rfl) ?_
      refine WL.nil (thenQ.n ?_)
      refine WC.seq ?_
      refine WC.block ?_
      refine WC.loop (fun m_ f_ w_ => ∃ (n : Int), (0 ≤ n) ∧ (n ≤ MIL x) ∧ SH w No w_ [] ∧ m_ = ((1000 - n).toNat) ∧ Weak (lit [(3, (.float .f64 r1)), (4, (.int .i64 n))]) f_) _ ⟨0, by omega, by omega, hS1, rfl, Weak.cons rfl <| Weak.cons rfl <| Weak.nil _⟩ ?_
      rintro m1 f1 w2 ⟨n, q0, q1, hL1, rfl, hw1⟩
      refine WC.weak hw1 ?_
      clear hw1
      iterate 2 refine WC.seq ?_
      refine WC.region ?_
      refine WL.lv rfl (LV.mv rfl) ?_
      have hz_ := hm_.1 n q0
      rcases Decidable.em (n < 1000) with hg1 | hg1
      · refine WL.lv rfl (LV.as (LV.ltI rfl rfl) (decide_eq_true hg1)) ?_
        iterate 2 refine WL.lv rfl (LV.mv rfl) ?_
        refine WL.lv rfl (LV.add rfl rfl (wr64 (by omega) (by omega))) ?_
        refine WL.lv rfl (LV.cvtIF Try.underlying3 Try.underlying27 rfl) ?_
        refine WL.lv rfl (LV.mv rfl) ?_
        refine WL.lv rfl (LV.leF (a := (floatOfInt .f64 (n + 1))) (b := r1) rfl rfl) ?_
        refine WL.lv rfl (LV.pickT rfl rfl) ?_
        refine WL.nil (thenQ.n ?_)
        refine WC.condP (p := ((-9218868437227405312 ≤ sk (floatOfInt .f64 (n + 1)) ∧ sk (floatOfInt .f64 (n + 1)) ≤ 9218868437227405312) ∧ (-9218868437227405312 ≤ sk r1 ∧ sk r1 ≤ 9218868437227405312)) ∧ sk (floatOfInt .f64 (n + 1)) ≤ sk r1) rfl (fun hc3 => ?_) (fun hc3 => ?_)
        · skip
          refine WC.skip (thenQ.n ?_)
          refine WC.block ?_
          refine WC.region ?_
          refine WL.lv rfl (LV.mv rfl) ?_
          refine WL.lv rfl (LV.add rfl rfl (wr64 (by omega) (by omega))) ?_
          refine WL.lv rfl (LV.asg rfl) ?_
          refine WL.nil (blockQ.n <| thenQ.n ?_)
          exact ⟨_, by omega, n + 1, by omega, by omega, hL1, rfl, Weak.cons rfl <| Weak.cons rfl <| Weak.nil _⟩
        · skip
          refine WC.exit (thenQ.x <| thenQ.x <| blockQ.hit <| thenQ.n ?_)
          refine WC.seq ?_
          refine WC.region ?_
          refine WL.lv rfl (LV.mv rfl) ?_
          refine WL.lv rfl (LV.asg rfl) ?_
          refine WL.nil (thenQ.n ?_)
          refine WC.ret (?_)
          exact ⟨_, fun a ha => res1 rfl ha rfl, congrArg (Value.int .i64) (by first | omega | exact mil_if x (by omega) | exact (mil_if x (by omega)).symm), hL1.kb⟩
      · refine WL.lv rfl (LV.as (LV.ltI rfl rfl) (decide_eq_false hg1)) ?_
        refine WL.lv rfl (LV.mv rfl) ?_
        iterate 5 refine WL.off rfl ?_
        refine WL.lv rfl (LV.pickF rfl rfl) ?_
        refine WL.nil (thenQ.n ?_)
        refine WC.condF rfl ?_
        refine WC.exit (thenQ.x <| thenQ.x <| blockQ.hit <| thenQ.n ?_)
        refine WC.seq ?_
        refine WC.region ?_
        refine WL.lv rfl (LV.mv rfl) ?_
        refine WL.lv rfl (LV.asg rfl) ?_
        refine WL.nil (thenQ.n ?_)
        refine WC.ret (?_)
        exact ⟨_, fun a ha => res1 rfl ha rfl, congrArg (Value.int .i64) (by first | omega | exact mil_if x (by omega) | exact (mil_if x (by omega)).symm), hL1.kb⟩

theorem rratio_calls {w : World} {common : Int} {n : Int} {m : Int} (hc : -9223372036854775808 ≤ common ∧ common ≤ 9223372036854775807) (hn : -9223372036854775808 ≤ n ∧ n ≤ 9223372036854775807) (hm : -9223372036854775808 ≤ m ∧ m ≤ 9223372036854775807) :
    Calls Try.prog 31 #[(.int .i64 common), (.int .i64 n), (.int .i64 m)] w fun e w' => ∃ v, e = .returned v ∧ (fun v w' => ∃ (r' : Nat), v = .float .f64 r' ∧ cn r' = RAT common n m ∧ r' < 18446744073709551616 ∧ KB No w w') v w' := by
  have hS : SH w No w [] := SH.nil _ _
  refine calls (l := litOf [(.int .i64 common), (.int .i64 n), (.int .i64 m)] 0) Try.func31 rfl (n := 47) rfl (Nat.le_of_ble_eq_true rfl) (lit_args _) ?_
  refine WC.seq ?_
  refine WC.region ?_
  refine WL.lv rfl (LV.asg rfl) ?_
  refine WL.nil (thenQ.n ?_)
  iterate 2 refine WC.seq ?_
  refine WC.region ?_
  refine WL.lv rfl (LV.mv rfl) ?_
  rcases Decidable.em (n < 0) with hg1 | hg1
  · refine WL.lv rfl (LV.as (LV.ltI rfl rfl) (decide_eq_true hg1)) ?_
    refine WL.lv rfl (LV.mv rfl) ?_
    iterate 2 refine WL.off rfl ?_
    refine WL.lv rfl (LV.pickT rfl rfl) ?_
    refine WL.lv rfl (LV.mv rfl) ?_
    iterate 2 refine WL.off rfl ?_
    refine WL.lv rfl (LV.pickT rfl rfl) ?_
    refine WL.lv rfl (LV.mv rfl) ?_
    iterate 2 refine WL.off rfl ?_
    refine WL.lv rfl (LV.pickT rfl rfl) ?_
    refine WL.lv rfl (LV.mv rfl) ?_
    iterate 2 refine WL.off rfl ?_
    refine WL.lv rfl (LV.pickT rfl rfl) ?_
    refine WL.lv rfl (LV.mv rfl) ?_
    iterate 3 refine WL.off rfl ?_
    refine WL.lv rfl (LV.pickT rfl rfl) ?_
    refine WL.lv rfl (LV.mv rfl) ?_
    iterate 3 refine WL.off rfl ?_
    refine WL.lv rfl (LV.pickT rfl rfl) ?_
    refine WL.nil (thenQ.n ?_)
    refine WC.condT rfl ?_
    refine WC.seq ?_
    refine WC.region ?_
    refine WL.call rfl (XC.fn Try.func30 (by kernel_rfl) rfl rfl rfl) (none_calls  ) ?_
    rintro v_ w1 ⟨r1, rfl, hf1, hf2, hk1⟩
    have hS1 := SH.same hS hk1
    refine WL.lv rfl (LV.asg rfl) ?_
    refine WL.nil (thenQ.n ?_)
    refine WC.ret (thenQ.r <| ?_)
    exact ⟨_, fun a ha => res1 rfl ha rfl, r1, congrArg FV (rfl), hf1.trans (RAT_out (by omega)).symm, hf2, hS1.kb⟩
  · refine WL.lv rfl (LV.as (LV.ltI rfl rfl) (decide_eq_false hg1)) ?_
    iterate 2 refine WL.lv rfl (LV.mv rfl) ?_
    rcases Decidable.em (n > 2147483647) with hg2 | hg2
    · refine WL.lv rfl (LV.as (LV.gtI rfl rfl) (decide_eq_true hg2)) ?_
      refine WL.lv rfl (LV.pickF rfl rfl) ?_
      refine WL.lv rfl (LV.mv rfl) ?_
      iterate 2 refine WL.off rfl ?_
      refine WL.lv rfl (LV.pickT rfl rfl) ?_
      refine WL.lv rfl (LV.mv rfl) ?_
      iterate 2 refine WL.off rfl ?_
      refine WL.lv rfl (LV.pickT rfl rfl) ?_
      refine WL.lv rfl (LV.mv rfl) ?_
      iterate 2 refine WL.off rfl ?_
      refine WL.lv rfl (LV.pickT rfl rfl) ?_
      refine WL.lv rfl (LV.mv rfl) ?_
      iterate 3 refine WL.off rfl ?_
      refine WL.lv rfl (LV.pickT rfl rfl) ?_
      refine WL.lv rfl (LV.mv rfl) ?_
      iterate 3 refine WL.off rfl ?_
      refine WL.lv rfl (LV.pickT rfl rfl) ?_
      refine WL.nil (thenQ.n ?_)
      refine WC.condT rfl ?_
      refine WC.seq ?_
      refine WC.region ?_
      refine WL.call rfl (XC.fn Try.func30 (by kernel_rfl) rfl rfl rfl) (none_calls  ) ?_
      rintro v_ w2 ⟨r2, rfl, hf3, hf4, hk2⟩
      have hS2 := SH.same hS hk2
      refine WL.lv rfl (LV.asg rfl) ?_
      refine WL.nil (thenQ.n ?_)
      refine WC.ret (thenQ.r <| ?_)
      exact ⟨_, fun a ha => res1 rfl ha rfl, r2, congrArg FV (rfl), hf3.trans (RAT_out (by omega)).symm, hf4, hS2.kb⟩
    · refine WL.lv rfl (LV.as (LV.gtI rfl rfl) (decide_eq_false hg2)) ?_
      refine WL.lv rfl (LV.pickF rfl rfl) ?_
      iterate 2 refine WL.lv rfl (LV.mv rfl) ?_
      rcases Decidable.em (m < 0) with hg3 | hg3
      · refine WL.lv rfl (LV.as (LV.ltI rfl rfl) (decide_eq_true hg3)) ?_
        refine WL.lv rfl (LV.pickF rfl rfl) ?_
        refine WL.lv rfl (LV.mv rfl) ?_
        iterate 2 refine WL.off rfl ?_
        refine WL.lv rfl (LV.pickT rfl rfl) ?_
        refine WL.lv rfl (LV.mv rfl) ?_
        iterate 2 refine WL.off rfl ?_
        refine WL.lv rfl (LV.pickT rfl rfl) ?_
        refine WL.lv rfl (LV.mv rfl) ?_
        iterate 3 refine WL.off rfl ?_
        refine WL.lv rfl (LV.pickT rfl rfl) ?_
        refine WL.lv rfl (LV.mv rfl) ?_
        iterate 3 refine WL.off rfl ?_
        refine WL.lv rfl (LV.pickT rfl rfl) ?_
        refine WL.nil (thenQ.n ?_)
        refine WC.condT rfl ?_
        refine WC.seq ?_
        refine WC.region ?_
        refine WL.call rfl (XC.fn Try.func30 (by kernel_rfl) rfl rfl rfl) (none_calls  ) ?_
        rintro v_ w3 ⟨r3, rfl, hf5, hf6, hk3⟩
        have hS3 := SH.same hS hk3
        refine WL.lv rfl (LV.asg rfl) ?_
        refine WL.nil (thenQ.n ?_)
        refine WC.ret (thenQ.r <| ?_)
        exact ⟨_, fun a ha => res1 rfl ha rfl, r3, congrArg FV (rfl), hf5.trans (RAT_out (by omega)).symm, hf6, hS3.kb⟩
      · refine WL.lv rfl (LV.as (LV.ltI rfl rfl) (decide_eq_false hg3)) ?_
        refine WL.lv rfl (LV.pickF rfl rfl) ?_
        iterate 2 refine WL.lv rfl (LV.mv rfl) ?_
        rcases Decidable.em (m > 2147483647) with hg4 | hg4
        · refine WL.lv rfl (LV.as (LV.gtI rfl rfl) (decide_eq_true hg4)) ?_
          refine WL.lv rfl (LV.pickF rfl rfl) ?_
          refine WL.lv rfl (LV.mv rfl) ?_
          iterate 2 refine WL.off rfl ?_
          refine WL.lv rfl (LV.pickT rfl rfl) ?_
          refine WL.lv rfl (LV.mv rfl) ?_
          iterate 3 refine WL.off rfl ?_
          refine WL.lv rfl (LV.pickT rfl rfl) ?_
          refine WL.lv rfl (LV.mv rfl) ?_
          iterate 3 refine WL.off rfl ?_
          refine WL.lv rfl (LV.pickT rfl rfl) ?_
          refine WL.nil (thenQ.n ?_)
          refine WC.condT rfl ?_
          refine WC.seq ?_
          refine WC.region ?_
          refine WL.call rfl (XC.fn Try.func30 (by kernel_rfl) rfl rfl rfl) (none_calls  ) ?_
          rintro v_ w4 ⟨r4, rfl, hf7, hf8, hk4⟩
          have hS4 := SH.same hS hk4
          refine WL.lv rfl (LV.asg rfl) ?_
          refine WL.nil (thenQ.n ?_)
          refine WC.ret (thenQ.r <| ?_)
          exact ⟨_, fun a ha => res1 rfl ha rfl, r4, congrArg FV (rfl), hf7.trans (RAT_out (by omega)).symm, hf8, hS4.kb⟩
        · refine WL.lv rfl (LV.as (LV.gtI rfl rfl) (decide_eq_false hg4)) ?_
          refine WL.lv rfl (LV.pickF rfl rfl) ?_
          iterate 2 refine WL.lv rfl (LV.mv rfl) ?_
          rcases Decidable.em (common < 0) with hg5 | hg5
          · refine WL.lv rfl (LV.as (LV.ltI rfl rfl) (decide_eq_true hg5)) ?_
            refine WL.lv rfl (LV.pickF rfl rfl) ?_
            refine WL.lv rfl (LV.mv rfl) ?_
            iterate 3 refine WL.off rfl ?_
            refine WL.lv rfl (LV.pickT rfl rfl) ?_
            refine WL.lv rfl (LV.mv rfl) ?_
            iterate 3 refine WL.off rfl ?_
            refine WL.lv rfl (LV.pickT rfl rfl) ?_
            refine WL.nil (thenQ.n ?_)
            refine WC.condT rfl ?_
            refine WC.seq ?_
            refine WC.region ?_
            refine WL.call rfl (XC.fn Try.func30 (by kernel_rfl) rfl rfl rfl) (none_calls  ) ?_
            rintro v_ w5 ⟨r5, rfl, hf9, hf10, hk5⟩
            have hS5 := SH.same hS hk5
            refine WL.lv rfl (LV.asg rfl) ?_
            refine WL.nil (thenQ.n ?_)
            refine WC.ret (thenQ.r <| ?_)
            exact ⟨_, fun a ha => res1 rfl ha rfl, r5, congrArg FV (rfl), hf9.trans (RAT_out (by omega)).symm, hf10, hS5.kb⟩
          · refine WL.lv rfl (LV.as (LV.ltI rfl rfl) (decide_eq_false hg5)) ?_
            refine WL.lv rfl (LV.pickF rfl rfl) ?_
            iterate 3 refine WL.lv rfl (LV.mv rfl) ?_
            rcases Decidable.em (common > n) with hg6 | hg6
            · refine WL.lv rfl (LV.as (LV.gtI rfl rfl) (decide_eq_true hg6)) ?_
              refine WL.lv rfl (LV.pickF rfl rfl) ?_
              refine WL.lv rfl (LV.mv rfl) ?_
              iterate 3 refine WL.off rfl ?_
              refine WL.lv rfl (LV.pickT rfl rfl) ?_
              refine WL.nil (thenQ.n ?_)
              refine WC.condT rfl ?_
              refine WC.seq ?_
              refine WC.region ?_
              refine WL.call rfl (XC.fn Try.func30 (by kernel_rfl) rfl rfl rfl) (none_calls  ) ?_
              rintro v_ w6 ⟨r6, rfl, hf11, hf12, hk6⟩
              have hS6 := SH.same hS hk6
              refine WL.lv rfl (LV.asg rfl) ?_
              refine WL.nil (thenQ.n ?_)
              refine WC.ret (thenQ.r <| ?_)
              exact ⟨_, fun a ha => res1 rfl ha rfl, r6, congrArg FV (rfl), hf11.trans (RAT_out (by omega)).symm, hf12, hS6.kb⟩
            · refine WL.lv rfl (LV.as (LV.gtI rfl rfl) (decide_eq_false hg6)) ?_
              refine WL.lv rfl (LV.pickF rfl rfl) ?_
              iterate 3 refine WL.lv rfl (LV.mv rfl) ?_
              refine WL.lv rfl (LV.gtI rfl rfl) ?_
              refine WL.lv rfl (LV.pickF rfl rfl) ?_
              refine WL.nil (thenQ.n ?_)
              refine WC.condP (p := common > m) rfl (fun hc1 => ?_) (fun hc1 => ?_)
              · skip
                refine WC.seq ?_
                refine WC.region ?_
                refine WL.call rfl (XC.fn Try.func30 (by kernel_rfl) rfl rfl rfl) (none_calls  ) ?_
                rintro v_ w7 ⟨r7, rfl, hf13, hf14, hk7⟩
                have hS7 := SH.same hS hk7
                refine WL.lv rfl (LV.asg rfl) ?_
                refine WL.nil (thenQ.n ?_)
                refine WC.ret (thenQ.r <| ?_)
                exact ⟨_, fun a ha => res1 rfl ha rfl, r7, congrArg FV (rfl), hf13.trans (RAT_out (by omega)).symm, hf14, hS7.kb⟩
              · skip
                refine WC.skip (thenQ.n ?_)
                refine WC.seq ?_
                refine WC.region ?_
                refine WL.lv rfl (LV.mv rfl) ?_
                refine WL.lv rfl (LV.cvtIF Try.underlying3 Try.underlying27 rfl) ?_
                refine WL.lv rfl (LV.mv rfl) ?_
                refine WL.lv rfl (LV.cvtIF Try.underlying3 Try.underlying27 rfl) ?_
                refine WL.xe rfl (XE.arF (a := (floatOfInt .f64 common)) (b := (floatOfInt .f64 common)) hS (.inl rfl) rfl rfl) ?_
                rintro _ w8 ⟨r8, rfl, hr1, hb1, hS8, hk8⟩
                have hs_ := hr1
                refine WL.lv rfl (LV.mv rfl) ?_
                refine WL.lv rfl (LV.cvtIF Try.underlying3 Try.underlying27 rfl) ?_
                refine WL.lv rfl (LV.mv rfl) ?_
                refine WL.lv rfl (LV.cvtIF Try.underlying3 Try.underlying27 rfl) ?_
                refine WL.xe rfl (XE.arF (a := (floatOfInt .f64 n)) (b := (floatOfInt .f64 m)) hS8 (.inl rfl) rfl rfl) ?_
                rintro _ w9 ⟨r9, rfl, hr2, hb2, hS9, hk9⟩
                have ht_ := hr2
                refine WL.xe rfl (XE.arF (a := r8) (b := r9) hS9 (.inr (.inr (.inr rfl))) rfl rfl) ?_
                rintro _ w10 ⟨r10, rfl, hr3, hb3, hS10, hk10⟩
                refine WL.lv rfl (LV.asg rfl) ?_
                refine WL.nil (thenQ.n ?_)
                refine WC.ret (?_)
                exact ⟨_, fun a ha => res1 rfl ha rfl, r10, congrArg FV (rfl), RAT_doc (by omega) hs_ ht_ hr3, hb3, hS10.kb⟩

abbrev W6 (x : Nat) : Prop := x < 18446744073709551616

end Go.Proofs.Ythmjieikbeemhaa
