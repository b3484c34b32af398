/- The laws of order. -/
import Derived.Test.YtlnnfcbndelcnaaFlJ
namespace Go.Proofs.Ytlnnfcbndelcnaa
open Go Go.Gv Go.RowKit Go.Flt Go.Shelf Go.Lib Go.Sort
set_option linter.unusedVariables false
set_option linter.unusedSimpArgs false

set_option maxHeartbeats 2000000 in
set_option maxRecDepth 100000 in
theorem scoreOrders_law {w : World} {a : Nat} {b : Nat} {c : Nat} (ha : a < 18446744073709551616) (hb : b < 18446744073709551616) (hc : c < 18446744073709551616) :
    Calls Try.prog 4 #[(.float .f64 a), (.float .f64 b), (.float .f64 c)] w fun e w' => ∃ v, e = .returned v ∧ (fun v w' => v = .bool (decide (true)) ∧ KB No w w') v w' := by
  have o1_ := ord_is' a b
  have o2_ := ord_is' b c
  have o3_ := ord_is' a c
  have o4_ := ord_is' b a
  have hS : SH w No w [] := SH.nil _ _
  refine calls (l := litOf [(.float .f64 a), (.float .f64 b), (.float .f64 c)] 0) Try.func4 rfl (n := 65) rfl (Nat.le_of_ble_eq_true rfl) (lit_args _) ?_
  refine WC.seq ?_
  refine WC.region ?_
  refine WL.lv rfl (LV.asg rfl) ?_
  refine WL.nil (thenQ.n ?_)
  refine WC.seq ?_
  refine WC.region ?_
  iterate 2 refine WL.lv rfl (LV.mv rfl) ?_
  refine WL.call rfl (XC.fn Try.func14 (by kernel_rfl) rfl rfl rfl) (order_calls (a := a) (b := b) (by first | assumption | omega | exact hp _ (getD_mem (by omega)) | exact hpz _ (getD_mem (by omega))) (by first | assumption | omega | exact hp _ (getD_mem (by omega)) | exact hpz _ (getD_mem (by omega)))) ?_
  rintro v_ w1 ⟨rfl, hk1⟩
  have hS1 := SH.same hS hk1
  iterate 2 refine WL.lv rfl (LV.mv rfl) ?_
  refine WL.call rfl (XC.fn Try.func14 (by kernel_rfl) rfl rfl rfl) (order_calls (a := b) (b := c) (by first | assumption | omega | exact hp _ (getD_mem (by omega)) | exact hpz _ (getD_mem (by omega))) (by first | assumption | omega | exact hp _ (getD_mem (by omega)) | exact hpz _ (getD_mem (by omega)))) ?_
  rintro v_ w2 ⟨rfl, hk2⟩
  have hS2 := SH.same hS1 hk2
  iterate 2 refine WL.lv rfl (LV.mv rfl) ?_
  refine WL.call rfl (XC.fn Try.func14 (by kernel_rfl) rfl rfl rfl) (order_calls (a := a) (b := c) (by first | assumption | omega | exact hp _ (getD_mem (by omega)) | exact hpz _ (getD_mem (by omega))) (by first | assumption | omega | exact hp _ (getD_mem (by omega)) | exact hpz _ (getD_mem (by omega)))) ?_
  rintro v_ w3 ⟨rfl, hk3⟩
  have hS3 := SH.same hS2 hk3
  iterate 3 refine WL.lv rfl (LV.asg rfl) ?_
  refine WL.nil (thenQ.n ?_)
  refine WC.seq ?_
  refine WC.region ?_
  refine WL.call rfl (XC.fn Try.func11 (by kernel_rfl) rfl rfl rfl) (live22_calls  ) ?_
  rintro v_ w4 ⟨rfl, hk4⟩
  have hS4 := SH.same hS3 hk4
  iterate 4 refine WL.lv rfl (LV.mv rfl) ?_
  refine WL.call rfl (XC.fn Try.func15 (by kernel_rfl) rfl rfl rfl) (rorder_calls (a := a) (b := b) (by first | assumption | omega | exact hp _ (getD_mem (by omega)) | exact hpz _ (getD_mem (by omega))) (by first | assumption | omega | exact hp _ (getD_mem (by omega)) | exact hpz _ (getD_mem (by omega)))) ?_
  rintro v_ w5 ⟨rfl, hk5⟩
  have hS5 := SH.same hS4 hk5
  refine WL.lv rfl (LV.as (LV.eqI rfl rfl) (decide_eq_true (rfl))) ?_
  refine WL.lv rfl (LV.pickT rfl rfl) ?_
  iterate 4 refine WL.lv rfl (LV.mv rfl) ?_
  refine WL.call rfl (XC.fn Try.func14 (by kernel_rfl) rfl rfl rfl) (order_calls (a := b) (b := a) (by first | assumption | omega | exact hp _ (getD_mem (by omega)) | exact hpz _ (getD_mem (by omega))) (by first | assumption | omega | exact hp _ (getD_mem (by omega)) | exact hpz _ (getD_mem (by omega)))) ?_
  rintro v_ w6 ⟨rfl, hk6⟩
  have hS6 := SH.same hS5 hk6
  refine WL.lv rfl (LV.neg rfl (wr64 (by omega) (by omega))) ?_
  refine WL.lv rfl (LV.as (LV.eqI rfl rfl) (decide_eq_true (by omega))) ?_
  refine WL.lv rfl (LV.pickT rfl rfl) ?_
  iterate 2 refine WL.lv rfl (LV.mv rfl) ?_
  refine WL.lv rfl (LV.eqI rfl rfl) ?_
  iterate 2 refine WL.lv rfl (LV.mv rfl) ?_
  refine WL.call rfl (XC.fn Try.func12 (by kernel_rfl) rfl rfl rfl) (fsame_calls (a := a) (b := b) (by first | assumption | omega | exact hp _ (getD_mem (by omega)) | exact hpz _ (getD_mem (by omega))) (by first | assumption | omega | exact hp _ (getD_mem (by omega)) | exact hpz _ (getD_mem (by omega)))) ?_
  rintro v_ w7 ⟨rfl, hk7⟩
  have hS7 := SH.same hS6 hk7
  refine WL.lv rfl (LV.as (c := true) (LV.eqB Try.underlying4 rfl rfl) (by rw [decide_eq_decide.2 (show ORD a b = 0 ↔ tk a = tk b by omega)]; exact beq_self_eq_true _)) ?_
  refine WL.lv rfl (LV.pickT rfl rfl) ?_
  iterate 2 refine WL.lv rfl (LV.mv rfl) ?_
  rcases Decidable.em ((ORD a b) > 0) with hg1 | hg1
  · refine WL.lv rfl (LV.as (LV.gtI rfl rfl) (decide_eq_true hg1)) ?_
    refine WL.lv rfl (LV.mv rfl) ?_
    iterate 2 refine WL.off rfl ?_
    refine WL.lv rfl (LV.pickT rfl rfl) ?_
    refine WL.lv rfl (LV.mv rfl) ?_
    iterate 2 refine WL.off rfl ?_
    iterate 2 refine WL.lv rfl (LV.pickT rfl rfl) ?_
    iterate 2 refine WL.lv rfl (LV.mv rfl) ?_
    rcases Decidable.em ((ORD a b) ≠ 0) with hg2 | hg2
    · refine WL.lv rfl (LV.as (LV.neI rfl rfl) (decide_eq_true hg2)) ?_
      refine WL.lv rfl (LV.mv rfl) ?_
      iterate 4 refine WL.off rfl ?_
      iterate 2 refine WL.lv rfl (LV.pickT rfl rfl) ?_
      refine WL.lv rfl (LV.asg rfl) ?_
      refine WL.nil (thenQ.n ?_)
      refine WC.ret (?_)
      exact ⟨_, fun a ha => res1 rfl ha rfl, rfl, hS7.kb⟩
    · refine WL.lv rfl (LV.as (LV.neI rfl rfl) (decide_eq_false hg2)) ?_
      iterate 3 refine WL.lv rfl (LV.mv rfl) ?_
      refine WL.lv rfl (LV.as (LV.neI rfl rfl) (decide_eq_false (by omega))) ?_
      refine WL.lv rfl (LV.as (c := true) (LV.eqB Try.underlying4 rfl rfl) (rfl)) ?_
      refine WL.lv rfl (LV.pickF rfl rfl) ?_
      refine WL.lv rfl (LV.pickT rfl rfl) ?_
      refine WL.lv rfl (LV.asg rfl) ?_
      refine WL.nil (thenQ.n ?_)
      refine WC.ret (?_)
      exact ⟨_, fun a ha => res1 rfl ha rfl, rfl, hS7.kb⟩
  · refine WL.lv rfl (LV.as (LV.gtI rfl rfl) (decide_eq_false hg1)) ?_
    iterate 2 refine WL.lv rfl (LV.mv rfl) ?_
    rcases Decidable.em ((ORD b c) > 0) with hg3 | hg3
    · refine WL.lv rfl (LV.as (LV.gtI rfl rfl) (decide_eq_true hg3)) ?_
      refine WL.lv rfl (LV.pickF rfl rfl) ?_
      refine WL.lv rfl (LV.mv rfl) ?_
      iterate 2 refine WL.off rfl ?_
      iterate 2 refine WL.lv rfl (LV.pickT rfl rfl) ?_
      iterate 2 refine WL.lv rfl (LV.mv rfl) ?_
      rcases Decidable.em ((ORD a b) ≠ 0) with hg4 | hg4
      · refine WL.lv rfl (LV.as (LV.neI rfl rfl) (decide_eq_true hg4)) ?_
        refine WL.lv rfl (LV.mv rfl) ?_
        iterate 4 refine WL.off rfl ?_
        iterate 2 refine WL.lv rfl (LV.pickT rfl rfl) ?_
        refine WL.lv rfl (LV.asg rfl) ?_
        refine WL.nil (thenQ.n ?_)
        refine WC.ret (?_)
        exact ⟨_, fun a ha => res1 rfl ha rfl, rfl, hS7.kb⟩
      · refine WL.lv rfl (LV.as (LV.neI rfl rfl) (decide_eq_false hg4)) ?_
        iterate 3 refine WL.lv rfl (LV.mv rfl) ?_
        refine WL.lv rfl (LV.as (LV.neI rfl rfl) (decide_eq_false (by omega))) ?_
        refine WL.lv rfl (LV.as (c := true) (LV.eqB Try.underlying4 rfl rfl) (rfl)) ?_
        refine WL.lv rfl (LV.pickF rfl rfl) ?_
        refine WL.lv rfl (LV.pickT rfl rfl) ?_
        refine WL.lv rfl (LV.asg rfl) ?_
        refine WL.nil (thenQ.n ?_)
        refine WC.ret (?_)
        exact ⟨_, fun a ha => res1 rfl ha rfl, rfl, hS7.kb⟩
    · refine WL.lv rfl (LV.as (LV.gtI rfl rfl) (decide_eq_false hg3)) ?_
      refine WL.lv rfl (LV.pickF rfl rfl) ?_
      iterate 2 refine WL.lv rfl (LV.mv rfl) ?_
      refine WL.lv rfl (LV.as (LV.leI rfl rfl) (decide_eq_true (by omega))) ?_
      refine WL.lv rfl (LV.pickF rfl rfl) ?_
      refine WL.lv rfl (LV.pickT rfl rfl) ?_
      iterate 2 refine WL.lv rfl (LV.mv rfl) ?_
      rcases Decidable.em ((ORD a b) ≠ 0) with hg5 | hg5
      · refine WL.lv rfl (LV.as (LV.neI rfl rfl) (decide_eq_true hg5)) ?_
        refine WL.lv rfl (LV.mv rfl) ?_
        iterate 4 refine WL.off rfl ?_
        iterate 2 refine WL.lv rfl (LV.pickT rfl rfl) ?_
        refine WL.lv rfl (LV.asg rfl) ?_
        refine WL.nil (thenQ.n ?_)
        refine WC.ret (?_)
        exact ⟨_, fun a ha => res1 rfl ha rfl, rfl, hS7.kb⟩
      · refine WL.lv rfl (LV.as (LV.neI rfl rfl) (decide_eq_false hg5)) ?_
        iterate 3 refine WL.lv rfl (LV.mv rfl) ?_
        refine WL.lv rfl (LV.as (LV.neI rfl rfl) (decide_eq_false (by omega))) ?_
        refine WL.lv rfl (LV.as (c := true) (LV.eqB Try.underlying4 rfl rfl) (rfl)) ?_
        refine WL.lv rfl (LV.pickF rfl rfl) ?_
        refine WL.lv rfl (LV.pickT rfl rfl) ?_
        refine WL.lv rfl (LV.asg rfl) ?_
        refine WL.nil (thenQ.n ?_)
        refine WC.ret (?_)
        exact ⟨_, fun a ha => res1 rfl ha rfl, rfl, hS7.kb⟩

end Go.Proofs.Ytlnnfcbndelcnaa
