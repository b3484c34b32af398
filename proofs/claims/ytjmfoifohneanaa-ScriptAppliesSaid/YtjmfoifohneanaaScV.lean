/- The laws of script. -/
import Derived.Test.YtjmfoifohneanaaScU
namespace Go.Proofs.Ytjmfoifohneanaa
open Go Go.Gv Go.RowKit Go.Mys Go.Num Go.Scr
set_option linter.unusedVariables false
set_option linter.unusedSimpArgs false
theorem ti9 : TI Try.prog 9 (.string ⟨#[]⟩) 1 16 := by unfold TI; kernel_rfl

theorem scriptMakes_law {w : World} {A_a : Option Addr} {n_a c_a : Nat} {a : List Ln} {A_b : Option Addr} {n_b c_b : Nat} {b : List Ln} (h_a : St No w (Rd eL (.slice A_a n_a c_a) a)) (hn_a : a.length = n_a) (h_b : St No w (Rd eL (.slice A_b n_b c_b) b)) (hn_b : b.length = n_b)  :
    Calls Try.prog 3 #[(.slice A_a n_a c_a), (.slice A_b n_b c_b)] w fun e w' => ∃ v, e = .returned v ∧ (fun v w' => v = .bool (decide (true)) ∧ KB No w w') v w' := by
  subst hn_a hn_b
  have hS : SH w No w [] := SH.nil _ _
  refine calls (l := litOf [(.slice A_a a.length c_a), (.slice A_b b.length c_b)] 0) Try.func3 rfl (n := 36) rfl (Nat.le_of_ble_eq_true rfl) (lit_args _) ?_
  refine WC.seq ?_
  refine WC.region ?_
  refine WL.lv rfl (LV.asg rfl) ?_
  refine WL.nil (thenQ.n ?_)
  refine WC.seq ?_
  refine WC.region ?_
  refine WL.lv rfl (LV.mv rfl) ?_
  refine WL.call rfl (XC.fn Try.func11 (by kernel_rfl) rfl rfl rfl) (few8_calls (SH.stN hS h_a)) ?_
  rintro v_ w1 ⟨rfl, hk1⟩
  have hS1 := SH.same hS hk1
  refine WL.lv rfl (LV.mv rfl) ?_
  refine WL.call rfl (XC.fn Try.func11 (by kernel_rfl) rfl rfl rfl) (few8_calls (SH.stN hS1 h_b)) ?_
  rintro v_ w2 ⟨rfl, hk2⟩
  have hS2 := SH.same hS1 hk2
  iterate 2 refine WL.lv rfl (LV.asg rfl) ?_
  refine WL.nil (thenQ.n ?_)
  refine WC.seq ?_
  refine WC.region ?_
  iterate 2 refine WL.lv rfl (LV.mv rfl) ?_
  refine WL.call rfl (XC.fn Try.func12 (by kernel_rfl) rfl rfl rfl) (make8_calls  (SH.stN hS2 (few_rd 40 h_a)) rfl (SH.stN hS2 (few_rd 40 h_b)) rfl ) ?_
  rintro v_ w3 ⟨A1, c1, rows1, rfl, hq1, hS3⟩
  have hS4 := SH.joinN hS2 hS3
  refine WL.lv rfl (LV.mv rfl) ?_
  iterate 2 refine WL.lv rfl (LV.extract rfl rfl) ?_
  iterate 2 refine WL.lv rfl (LV.asg rfl) ?_
  refine WL.nil (thenQ.n ?_)
  refine WC.seq ?_
  refine WC.region ?_
  iterate 2 refine WL.lv rfl (LV.mv rfl) ?_
  refine WL.call rfl (XC.fn Try.func13 (by kernel_rfl) rfl rfl rfl) (rmake8_calls  (SH.stN hS4 (few_rd 40 h_a)) rfl (SH.stN hS4 (few_rd 40 h_b)) rfl ) ?_
  rintro v_ w4 ⟨A2, c2, rows2, rfl, hq2, hS5⟩
  have hS6 := SH.joinN hS4 hS5
  refine WL.lv rfl (LV.mv rfl) ?_
  iterate 2 refine WL.lv rfl (LV.extract rfl rfl) ?_
  iterate 2 refine WL.lv rfl (LV.asg rfl) ?_
  refine WL.nil (thenQ.n ?_)
  refine WC.seq ?_
  refine WC.region ?_
  refine WL.call rfl (XC.fn Try.func14 (by kernel_rfl) rfl rfl rfl) (live8_calls  ) ?_
  rintro v_ w5 ⟨rfl, hk3⟩
  have hS7 := SH.same hS6 hk3
  iterate 3 refine WL.lv rfl (LV.mv rfl) ?_
  refine WL.call rfl (XC.fn Try.func15 (by kernel_rfl) rfl rfl rfl) (Calls.asB (same8_eq  (SH.rd hS7 (.tail _ (.tail _ (.head _)))) (SH.rdIn hS7 (.tail _ (.tail _ (.tail _ (.head _))))) rfl (SH.rd hS7 (.head _)) (SH.rdIn hS7 (.tail _ (.head _))) rfl ) (decide_eq_true (hq1.trans hq2.symm))) ?_
  rintro v_ w6 ⟨rfl, hk4⟩
  have hS8 := SH.same hS7 hk4
  refine WL.lv rfl (LV.pickT rfl rfl) ?_
  iterate 3 refine WL.lv rfl (LV.mv rfl) ?_
  refine WL.lv rfl (LV.as (LV.eqI rfl rfl) (decide_eq_true (rfl))) ?_
  refine WL.lv rfl (LV.pickT rfl rfl) ?_
  refine WL.lv rfl (LV.asg rfl) ?_
  refine WL.nil (thenQ.n ?_)
  refine WC.ret (?_)
  exact ⟨_, fun a ha => res1 rfl ha rfl, rfl, hS8.kb⟩

theorem scriptSides_law {w : World} {A_inp : Option Addr} {n_inp c_inp : Nat} {inp : List (ED × List Ln)} (h_inp : St No w (Rd eE (.slice A_inp n_inp c_inp) (inp.map (·.1)))) (hi_inp : St No w (RdIn (·.2) eL inp)) (hn_inp : inp.length = n_inp) (hm : ∀ p ∈ inp, p.2.length ≤ 140737488355328) (hsz : inp.length ≤ 4398046511104) :
    Calls Try.prog 5 #[(.slice A_inp n_inp c_inp)] w fun e w' => ∃ v, e = .returned v ∧ (fun v w' => v = .bool (decide (true)) ∧ KB No w w') v w' := by
  subst hn_inp
  have hS : SH w No w [] := SH.nil _ _
  refine calls (l := litOf [(.slice A_inp inp.length c_inp)] 0) Try.func5 rfl (n := 51) rfl (Nat.le_of_ble_eq_true rfl) (lit_args _) ?_
  refine WC.seq ?_
  refine WC.region ?_
  refine WL.lv rfl (LV.asg rfl) ?_
  refine WL.nil (thenQ.n ?_)
  refine WC.seq ?_
  refine WC.region ?_
  refine WL.lv rfl (LV.mv rfl) ?_
  refine WL.call rfl (XC.fn Try.func16 (by kernel_rfl) rfl rfl rfl) (sides8_eq  (SH.stN hS h_inp) (SH.stN hS hi_inp) rfl (by assumption)) ?_
  rintro v_ w1 ⟨A1, c1, A2, c2, rfl, hS1⟩
  have hS2 := SH.joinN hS hS1
  refine WL.lv rfl (LV.mv rfl) ?_
  iterate 3 refine WL.lv rfl (LV.extract rfl rfl) ?_
  iterate 3 refine WL.lv rfl (LV.asg rfl) ?_
  refine WL.nil (thenQ.n ?_)
  refine WC.seq ?_
  refine WC.region ?_
  refine WL.lv rfl (LV.mv rfl) ?_
  refine WL.call rfl (XC.fn Try.func19 (by kernel_rfl) rfl rfl rfl) (rsides_eq  (SH.stN hS2 h_inp) (SH.stN hS2 hi_inp) rfl (by assumption)) ?_
  rintro v_ w2 ⟨A3, c3, A4, c4, rfl, hS3⟩
  have hS4 := SH.joinN hS2 hS3
  refine WL.lv rfl (LV.mv rfl) ?_
  iterate 3 refine WL.lv rfl (LV.extract rfl rfl) ?_
  iterate 3 refine WL.lv rfl (LV.asg rfl) ?_
  refine WL.nil (thenQ.n ?_)
  refine WC.seq ?_
  refine WC.region ?_
  refine WL.call rfl (XC.fn Try.func14 (by kernel_rfl) rfl rfl rfl) (live8_calls  ) ?_
  rintro v_ w3 ⟨rfl, hk1⟩
  have hS5 := SH.same hS4 hk1
  iterate 3 refine WL.lv rfl (LV.mv rfl) ?_
  refine WL.call rfl (XC.fn Try.func20 (by kernel_rfl) rfl rfl rfl) (Calls.asB (lines_eq  (SH.rd hS5 (.tail _ (.tail _ (.head _)))) rfl (SH.rd hS5 (.head _)) rfl ) (decide_eq_true (rfl))) ?_
  rintro v_ w4 ⟨rfl, hk2⟩
  have hS6 := SH.same hS5 hk2
  refine WL.lv rfl (LV.pickT rfl rfl) ?_
  iterate 3 refine WL.lv rfl (LV.mv rfl) ?_
  refine WL.call rfl (XC.fn Try.func20 (by kernel_rfl) rfl rfl rfl) (Calls.asB (lines_eq  (SH.rd hS6 (.tail _ (.tail _ (.tail _ (.head _))))) rfl (SH.rd hS6 (.tail _ (.head _))) rfl ) (decide_eq_true (rfl))) ?_
  rintro v_ w5 ⟨rfl, hk3⟩
  have hS7 := SH.same hS6 hk3
  refine WL.lv rfl (LV.pickT rfl rfl) ?_
  iterate 3 refine WL.lv rfl (LV.mv rfl) ?_
  refine WL.lv rfl (LV.as (LV.eqI rfl rfl) (decide_eq_true (rfl))) ?_
  refine WL.lv rfl (LV.pickT rfl rfl) ?_
  iterate 2 refine WL.lv rfl (LV.mv rfl) ?_
  refine WL.call rfl (XC.fn Try.func21 (by kernel_rfl) rfl rfl rfl) (check_eq  (SH.stN hS7 h_inp) (SH.stN hS7 hi_inp) rfl (by assumption)) ?_
  rintro v_ w6 ⟨rfl, hk4⟩
  have hS8 := SH.same hS7 hk4
  refine WL.lv rfl (LV.mv rfl) ?_
  refine WL.call rfl (XC.fn Try.func17 (by kernel_rfl) rfl rfl rfl) (rcheck_eq  (SH.stN hS8 h_inp) (SH.stN hS8 hi_inp) rfl (by assumption)) ?_
  rintro v_ w7 ⟨rfl, hk5⟩
  have hS9 := SH.same hS8 hk5
  refine WL.lv rfl (LV.as (LV.eqI rfl rfl) (decide_eq_true (rfl))) ?_
  refine WL.lv rfl (LV.pickT rfl rfl) ?_
  iterate 2 refine WL.lv rfl (LV.mv rfl) ?_
  refine WL.call rfl (XC.fn Try.func18 (by kernel_rfl) rfl rfl rfl) (changed_eq  (SH.stN hS9 h_inp) (SH.stN hS9 hi_inp) rfl ) ?_
  rintro v_ w8 ⟨rfl, hk6⟩
  have hS10 := SH.same hS9 hk6
  refine WL.lv rfl (LV.mv rfl) ?_
  refine WL.call rfl (XC.fn Try.func22 (by kernel_rfl) rfl rfl rfl) (rchanged_eq  (SH.stN hS10 h_inp) (SH.stN hS10 hi_inp) rfl ) ?_
  rintro v_ w9 ⟨rfl, hk7⟩
  have hS11 := SH.same hS10 hk7
  refine WL.lv rfl (LV.as (LV.eqI rfl rfl) (decide_eq_true (rfl))) ?_
  refine WL.lv rfl (LV.pickT rfl rfl) ?_
  refine WL.lv rfl (LV.asg rfl) ?_
  refine WL.nil (thenQ.n ?_)
  refine WC.ret (?_)
  exact ⟨_, fun a ha => res1 rfl ha rfl, rfl, hS11.kb⟩

theorem scriptApplies_law {w : World} {A_inp : Option Addr} {n_inp c_inp : Nat} {inp : List (ED × List Ln)} {A_a : Option Addr} {n_a c_a : Nat} {a : List Ln} (h_inp : St No w (Rd eE (.slice A_inp n_inp c_inp) (inp.map (·.1)))) (hi_inp : St No w (RdIn (·.2) eL inp)) (hn_inp : inp.length = n_inp) (h_a : St No w (Rd eL (.slice A_a n_a c_a) a)) (hn_a : a.length = n_a) (hm : ∀ p ∈ inp, p.2.length ≤ 140737488355328) (hsz : inp.length ≤ 4398046511104) :
    Calls Try.prog 8 #[(.slice A_inp n_inp c_inp), (.slice A_a n_a c_a)] w fun e w' => ∃ v, e = .returned v ∧ (fun v w' => v = .bool (decide (true)) ∧ KB No w w') v w' := by
  subst hn_inp hn_a
  have hS : SH w No w [] := SH.nil _ _
  refine calls (l := litOf [(.slice A_inp inp.length c_inp), (.slice A_a a.length c_a)] 0) Try.func8 rfl (n := 32) rfl (Nat.le_of_ble_eq_true rfl) (lit_args _) ?_
  refine WC.seq ?_
  refine WC.region ?_
  refine WL.lv rfl (LV.asg rfl) ?_
  refine WL.nil (thenQ.n ?_)
  refine WC.seq ?_
  refine WC.region ?_
  iterate 2 refine WL.lv rfl (LV.mv rfl) ?_
  refine WL.call rfl (XC.fn Try.func26 (by kernel_rfl) rfl rfl rfl) (apply_eq  (SH.stN hS h_inp) (SH.stN hS hi_inp) rfl (SH.stN hS h_a) rfl (by assumption)) ?_
  rintro v_ w1 ⟨A1, c1, rfl, hS1⟩
  have hS2 := SH.joinN hS hS1
  refine WL.lv rfl (LV.mv rfl) ?_
  iterate 2 refine WL.lv rfl (LV.extract rfl rfl) ?_
  iterate 2 refine WL.lv rfl (LV.asg rfl) ?_
  refine WL.nil (thenQ.n ?_)
  refine WC.seq ?_
  refine WC.region ?_
  iterate 2 refine WL.lv rfl (LV.mv rfl) ?_
  refine WL.call rfl (XC.fn Try.func27 (by kernel_rfl) rfl rfl rfl) (rapply_eq  (SH.stN hS2 h_inp) (SH.stN hS2 hi_inp) rfl (SH.stN hS2 h_a) rfl (by assumption)) ?_
  rintro v_ w2 ⟨A2, c2, rfl, hS3⟩
  have hS4 := SH.joinN hS2 hS3
  refine WL.lv rfl (LV.mv rfl) ?_
  iterate 2 refine WL.lv rfl (LV.extract rfl rfl) ?_
  iterate 2 refine WL.lv rfl (LV.asg rfl) ?_
  refine WL.nil (thenQ.n ?_)
  refine WC.seq ?_
  refine WC.region ?_
  refine WL.call rfl (XC.fn Try.func14 (by kernel_rfl) rfl rfl rfl) (live8_calls  ) ?_
  rintro v_ w3 ⟨rfl, hk1⟩
  have hS5 := SH.same hS4 hk1
  iterate 3 refine WL.lv rfl (LV.mv rfl) ?_
  refine WL.call rfl (XC.fn Try.func20 (by kernel_rfl) rfl rfl rfl) (Calls.asB (lines_eq  (SH.rd hS5 (.tail _ (.head _))) rfl (SH.rd hS5 (.head _)) rfl ) (decide_eq_true (rfl))) ?_
  rintro v_ w4 ⟨rfl, hk2⟩
  have hS6 := SH.same hS5 hk2
  refine WL.lv rfl (LV.pickT rfl rfl) ?_
  iterate 3 refine WL.lv rfl (LV.mv rfl) ?_
  refine WL.lv rfl (LV.as (LV.eqI rfl rfl) (decide_eq_true (rfl))) ?_
  refine WL.lv rfl (LV.pickT rfl rfl) ?_
  refine WL.lv rfl (LV.asg rfl) ?_
  refine WL.nil (thenQ.n ?_)
  refine WC.ret (?_)
  exact ⟨_, fun a ha => res1 rfl ha rfl, rfl, hS6.kb⟩

theorem scriptNormals_law {w : World} {A_inp : Option Addr} {n_inp c_inp : Nat} {inp : List (ED × List Ln)} (h_inp : St No w (Rd eE (.slice A_inp n_inp c_inp) (inp.map (·.1)))) (hi_inp : St No w (RdIn (·.2) eL inp)) (hn_inp : inp.length = n_inp) (hm : ∀ p ∈ inp, p.2.length ≤ 140737488355328) (hsz : inp.length ≤ 4398046511104) :
    Calls Try.prog 9 #[(.slice A_inp n_inp c_inp)] w fun e w' => ∃ v, e = .returned v ∧ (fun v w' => v = .bool (decide (true)) ∧ KB No w w') v w' := by
  subst hn_inp
  have hS : SH w No w [] := SH.nil _ _
  refine calls (l := litOf [(.slice A_inp inp.length c_inp)] 0) Try.func9 rfl (n := 99) rfl (Nat.le_of_ble_eq_true rfl) (lit_args _) ?_
  refine WC.seq ?_
  refine WC.region ?_
  refine WL.lv rfl (LV.asg rfl) ?_
  refine WL.nil (thenQ.n ?_)
  refine WC.seq ?_
  refine WC.region ?_
  refine WL.lv rfl (LV.mv rfl) ?_
  refine WL.call rfl (XC.fn Try.func23 (by kernel_rfl) rfl rfl rfl) (Normal_eq  (SH.stN hS h_inp) (SH.stN hS hi_inp) rfl (by assumption)) ?_
  rintro v_ w1 ⟨A1, c1, rows1, rfl, hq1, hS1⟩
  have hS2 := SH.joinN hS hS1
  refine WL.lv rfl (LV.mv rfl) ?_
  iterate 2 refine WL.lv rfl (LV.extract rfl rfl) ?_
  iterate 2 refine WL.lv rfl (LV.asg rfl) ?_
  refine WL.nil (thenQ.n ?_)
  refine WC.seq ?_
  refine WC.region ?_
  refine WL.lv rfl (LV.mv rfl) ?_
  refine WL.call rfl (XC.fn Try.func25 (by kernel_rfl) rfl rfl rfl) (rnormal_calls  (SH.stN hS2 h_inp) (SH.stN hS2 hi_inp) rfl (by assumption)) ?_
  rintro v_ w2 ⟨A2, c2, rows2, rfl, hq2, hS3⟩
  have hS4 := SH.joinN hS2 hS3
  refine WL.lv rfl (LV.mv rfl) ?_
  iterate 2 refine WL.lv rfl (LV.extract rfl rfl) ?_
  iterate 2 refine WL.lv rfl (LV.asg rfl) ?_
  refine WL.nil (thenQ.n ?_)
  refine WC.seq ?_
  refine WC.region ?_
  refine WL.lv rfl (LV.mv rfl) ?_
  refine WL.call rfl (XC.fn Try.func24 (by kernel_rfl) rfl rfl rfl) (invert_eq  (SH.stN hS4 h_inp) (SH.stN hS4 hi_inp) rfl (by assumption)) ?_
  rintro v_ w3 ⟨A3, c3, rows3, rfl, hq3, hS5⟩
  have hS6 := SH.joinN hS4 hS5
  refine WL.lv rfl (LV.mv rfl) ?_
  iterate 2 refine WL.lv rfl (LV.extract rfl rfl) ?_
  iterate 2 refine WL.lv rfl (LV.asg rfl) ?_
  refine WL.nil (thenQ.n ?_)
  refine WC.seq ?_
  refine WC.region ?_
  refine WL.lv rfl (LV.mv rfl) ?_
  refine WL.call rfl (XC.fn Try.func28 (by kernel_rfl) rfl rfl rfl) (rinvert_calls  (SH.stN hS6 h_inp) (SH.stN hS6 hi_inp) rfl (by assumption) (by omega)) ?_
  rintro v_ w4 ⟨A4, c4, rows4, rfl, hq4, hS7⟩
  have hS8 := SH.joinN hS6 hS7
  refine WL.lv rfl (LV.mv rfl) ?_
  iterate 2 refine WL.lv rfl (LV.extract rfl rfl) ?_
  iterate 2 refine WL.lv rfl (LV.asg rfl) ?_
  refine WL.nil (thenQ.n ?_)
  iterate 2 refine WC.seq ?_
  refine WC.region ?_
  iterate 2 refine WL.lv rfl (LV.mv rfl) ?_
  refine WL.call rfl (XC.fn Try.func15 (by kernel_rfl) rfl rfl rfl) (Calls.asB (same8_eq  (SH.rd hS8 (.tail _ (.tail _ (.tail _ (.tail _ (.tail _ (.tail _ (.head _)))))))) (SH.rdIn hS8 (.tail _ (.tail _ (.tail _ (.tail _ (.tail _ (.tail _ (.tail _ (.head _))))))))) rfl (SH.rd hS8 (.tail _ (.tail _ (.tail _ (.tail _ (.head _)))))) (SH.rdIn hS8 (.tail _ (.tail _ (.tail _ (.tail _ (.tail _ (.head _))))))) rfl ) (decide_eq_true (hq1.trans hq2.symm))) ?_
  rintro v_ w5 ⟨rfl, hk1⟩
  have hS9 := SH.same hS8 hk1
  refine WL.lv rfl (LV.notB rfl) ?_
  iterate 3 refine WL.lv rfl (LV.mv rfl) ?_
  refine WL.lv rfl (LV.as (LV.neI rfl rfl) (decide_eq_false (fun h => h rfl))) ?_
  refine WL.lv rfl (LV.pickF rfl rfl) ?_
  iterate 3 refine WL.lv rfl (LV.mv rfl) ?_
  refine WL.call rfl (XC.fn Try.func15 (by kernel_rfl) rfl rfl rfl) (Calls.asB (same8_eq  (SH.rd hS9 (.tail _ (.tail _ (.head _)))) (SH.rdIn hS9 (.tail _ (.tail _ (.tail _ (.head _))))) rfl (SH.rd hS9 (.head _)) (SH.rdIn hS9 (.tail _ (.head _))) rfl ) (decide_eq_true (hq3.trans hq4.symm))) ?_
  rintro v_ w6 ⟨rfl, hk2⟩
  have hS10 := SH.same hS9 hk2
  refine WL.lv rfl (LV.notB rfl) ?_
  refine WL.lv rfl (LV.pickF rfl rfl) ?_
  iterate 3 refine WL.lv rfl (LV.mv rfl) ?_
  refine WL.lv rfl (LV.as (LV.neI rfl rfl) (decide_eq_false (fun h => h rfl))) ?_
  refine WL.lv rfl (LV.pickF rfl rfl) ?_
  refine WL.nil (thenQ.n ?_)
  refine WC.condF rfl ?_
  refine WC.skip (thenQ.n ?_)
  refine WC.seq ?_
  refine WC.region ?_
  refine WL.lv rfl (LV.mv rfl) ?_
  refine WL.call rfl (XC.fn Try.func16 (by kernel_rfl) rfl rfl rfl) (sides8_eq  (SH.stN hS10 h_inp) (SH.stN hS10 hi_inp) rfl (by assumption)) ?_
  rintro v_ w7 ⟨A5, c5, A6, c6, rfl, hS11⟩
  have hS12 := SH.joinN hS10 hS11
  refine WL.lv rfl (LV.mv rfl) ?_
  iterate 3 refine WL.lv rfl (LV.extract rfl rfl) ?_
  iterate 3 refine WL.lv rfl (LV.asg rfl) ?_
  refine WL.nil (thenQ.n ?_)
  refine WC.seq ?_
  refine WC.region ?_
  refine WL.lv rfl (LV.mv rfl) ?_
  refine WL.call rfl (XC.fn Try.func16 (by kernel_rfl) rfl rfl rfl) (sides8_eq  (SH.rd hS12 (.tail _ (.tail _ (.tail _ (.tail _ (.tail _ (.tail _ (.tail _ (.tail _ (.head _)))))))))) (SH.rdIn hS12 (.tail _ (.tail _ (.tail _ (.tail _ (.tail _ (.tail _ (.tail _ (.tail _ (.tail _ (.head _))))))))))) rfl (hm_of (by rw [hq1]; exact chk_NF _))) ?_
  rintro v_ w8 ⟨A7, c7, A8, c8, rfl, hS13⟩
  have hS14 := SH.joinN hS12 hS13
  refine WL.lv rfl (LV.mv rfl) ?_
  iterate 3 refine WL.lv rfl (LV.extract rfl rfl) ?_
  iterate 3 refine WL.lv rfl (LV.asg rfl) ?_
  refine WL.nil (thenQ.n ?_)
  refine WC.seq ?_
  refine WC.region ?_
  refine WL.lv rfl (LV.mv rfl) ?_
  refine WL.call rfl (XC.fn Try.func16 (by kernel_rfl) rfl rfl rfl) (sides8_eq  (SH.rd hS14 (.tail _ (.tail _ (.tail _ (.tail _ (.tail _ (.tail _ (.head _)))))))) (SH.rdIn hS14 (.tail _ (.tail _ (.tail _ (.tail _ (.tail _ (.tail _ (.tail _ (.head _))))))))) rfl (hm_of (by rw [hq3]; exact chk_IVS _))) ?_
  rintro v_ w9 ⟨A9, c9, A10, c10, rfl, hS15⟩
  have hS16 := SH.joinN hS14 hS15
  refine WL.lv rfl (LV.mv rfl) ?_
  iterate 3 refine WL.lv rfl (LV.extract rfl rfl) ?_
  iterate 3 refine WL.lv rfl (LV.asg rfl) ?_
  refine WL.nil (thenQ.n ?_)
  refine WC.seq ?_
  refine WC.region ?_
  refine WL.call rfl (XC.fn Try.func14 (by kernel_rfl) rfl rfl rfl) (live8_calls  ) ?_
  rintro v_ w10 ⟨rfl, hk3⟩
  have hS17 := SH.same hS16 hk3
  iterate 3 refine WL.lv rfl (LV.mv rfl) ?_
  refine WL.call rfl (XC.fn Try.func20 (by kernel_rfl) rfl rfl rfl) (Calls.asB (lines_eq  (SH.rd hS17 (.tail _ (.tail _ (.tail _ (.tail _ (.head _)))))) rfl (SH.rd hS17 (.tail _ (.tail _ (.head _)))) rfl ) (decide_eq_true (by rw [hq1, SA_NF]))) ?_
  rintro v_ w11 ⟨rfl, hk4⟩
  have hS18 := SH.same hS17 hk4
  refine WL.lv rfl (LV.pickT rfl rfl) ?_
  iterate 3 refine WL.lv rfl (LV.mv rfl) ?_
  refine WL.call rfl (XC.fn Try.func20 (by kernel_rfl) rfl rfl rfl) (Calls.asB (lines_eq  (SH.rd hS18 (.tail _ (.tail _ (.tail _ (.tail _ (.tail _ (.head _))))))) rfl (SH.rd hS18 (.tail _ (.tail _ (.tail _ (.head _))))) rfl ) (decide_eq_true (by rw [hq1, SB_NF]))) ?_
  rintro v_ w12 ⟨rfl, hk5⟩
  have hS19 := SH.same hS18 hk5
  refine WL.lv rfl (LV.pickT rfl rfl) ?_
  iterate 3 refine WL.lv rfl (LV.mv rfl) ?_
  refine WL.call rfl (XC.fn Try.func20 (by kernel_rfl) rfl rfl rfl) (Calls.asB (lines_eq  (SH.rd hS19 (.tail _ (.tail _ (.tail _ (.tail _ (.head _)))))) rfl (SH.rd hS19 (.tail _ (.head _))) rfl ) (decide_eq_true (by rw [hq3, SB_IVS]))) ?_
  rintro v_ w13 ⟨rfl, hk6⟩
  have hS20 := SH.same hS19 hk6
  refine WL.lv rfl (LV.pickT rfl rfl) ?_
  iterate 3 refine WL.lv rfl (LV.mv rfl) ?_
  refine WL.call rfl (XC.fn Try.func20 (by kernel_rfl) rfl rfl rfl) (Calls.asB (lines_eq  (SH.rd hS20 (.tail _ (.tail _ (.tail _ (.tail _ (.tail _ (.head _))))))) rfl (SH.rd hS20 (.head _)) rfl ) (decide_eq_true (by rw [hq3, SA_IVS]))) ?_
  rintro v_ w14 ⟨rfl, hk7⟩
  have hS21 := SH.same hS20 hk7
  refine WL.lv rfl (LV.pickT rfl rfl) ?_
  refine WL.lv rfl (LV.asg rfl) ?_
  refine WL.nil (thenQ.n ?_)
  refine WC.ret (?_)
  exact ⟨_, fun a ha => res1 rfl ha rfl, rfl, hS21.kb⟩

theorem scriptOnce_law {w : World} {A_inp : Option Addr} {n_inp c_inp : Nat} {inp : List (ED × List Ln)} (h_inp : St No w (Rd eE (.slice A_inp n_inp c_inp) (inp.map (·.1)))) (hi_inp : St No w (RdIn (·.2) eL inp)) (hn_inp : inp.length = n_inp) (hm : ∀ p ∈ inp, p.2.length ≤ 140737488355328) (hsz : inp.length ≤ 4398046511104) :
    Calls Try.prog 6 #[(.slice A_inp n_inp c_inp)] w fun e w' => ∃ v, e = .returned v ∧ (fun v w' => v = .bool (decide (true)) ∧ KB No w w') v w' := by
  subst hn_inp
  have hS : SH w No w [] := SH.nil _ _
  refine calls (l := litOf [(.slice A_inp inp.length c_inp)] 0) Try.func6 rfl (n := 76) rfl (Nat.le_of_ble_eq_true rfl) (lit_args _) ?_
  refine WC.seq ?_
  refine WC.region ?_
  refine WL.lv rfl (LV.asg rfl) ?_
  refine WL.nil (thenQ.n ?_)
  refine WC.seq ?_
  refine WC.region ?_
  refine WL.lv rfl (LV.mv rfl) ?_
  refine WL.call rfl (XC.fn Try.func23 (by kernel_rfl) rfl rfl rfl) (Normal_eq  (SH.stN hS h_inp) (SH.stN hS hi_inp) rfl (by assumption)) ?_
  rintro v_ w1 ⟨A1, c1, rows1, rfl, hq1, hS1⟩
  have hS2 := SH.joinN hS hS1
  refine WL.lv rfl (LV.mv rfl) ?_
  iterate 2 refine WL.lv rfl (LV.extract rfl rfl) ?_
  iterate 2 refine WL.lv rfl (LV.asg rfl) ?_
  refine WL.nil (thenQ.n ?_)
  iterate 2 refine WC.seq ?_
  refine WC.region ?_
  refine WL.lv rfl (LV.mv rfl) ?_
  refine WL.lv rfl (LV.neI rfl rfl) ?_
  refine WL.nil (thenQ.n ?_)
  refine WC.condP (p := (chk (scr inp)) ≠ 0) rfl (fun hc17 => ?_) (fun hc17 => ?_)
  · skip
    refine WC.seq ?_
    refine WC.region ?_
    refine WL.call rfl (XC.fn Try.func14 (by kernel_rfl) rfl rfl rfl) (live8_calls  ) ?_
    rintro v_ w2 ⟨rfl, hk1⟩
    have hS3 := SH.same hS2 hk1
    iterate 2 refine WL.lv rfl (LV.mv rfl) ?_
    refine WL.lv rfl (LV.lenL Try.underlying24 rfl) ?_
    refine WL.lv rfl (LV.as (LV.eqI rfl rfl) (decide_eq_true (NF_none hc17 hq1))) ?_
    refine WL.lv rfl (LV.pickT rfl rfl) ?_
    refine WL.lv rfl (LV.asg rfl) ?_
    refine WL.nil (thenQ.n ?_)
    refine WC.ret (thenQ.r <| ?_)
    exact ⟨_, fun a ha => res1 rfl ha rfl, rfl, hS3.kb⟩
  · have hck : chk (scr inp) = 0 := Decidable.not_not.1 hc17
    refine WC.skip (thenQ.n ?_)
    refine WC.seq ?_
    refine WC.region ?_
    refine WL.lv rfl (LV.mv rfl) ?_
    refine WL.call rfl (XC.fn Try.func23 (by kernel_rfl) rfl rfl rfl) (Normal_eq  (SH.rd hS2 (.head _)) (SH.rdIn hS2 (.tail _ (.head _))) rfl (hm_of (by rw [hq1]; exact chk_NF _))) ?_
    rintro v_ w3 ⟨A2, c2, rows2, rfl, hq2, hS4⟩
    have hS5 := SH.joinN hS2 hS4
    refine WL.lv rfl (LV.mv rfl) ?_
    iterate 2 refine WL.lv rfl (LV.extract rfl rfl) ?_
    iterate 2 refine WL.lv rfl (LV.asg rfl) ?_
    refine WL.nil (thenQ.n ?_)
    refine WC.seq ?_
    refine WC.region ?_
    refine WL.lv rfl (LV.mv rfl) ?_
    refine WL.call rfl (XC.fn Try.func24 (by kernel_rfl) rfl rfl rfl) (invert_eq  (SH.stN hS5 h_inp) (SH.stN hS5 hi_inp) rfl (by assumption)) ?_
    rintro v_ w4 ⟨A3, c3, rows3, rfl, hq3, hS6⟩
    have hS7 := SH.joinN hS5 hS6
    refine WL.lv rfl (LV.mv rfl) ?_
    iterate 2 refine WL.lv rfl (LV.extract rfl rfl) ?_
    iterate 2 refine WL.lv rfl (LV.asg rfl) ?_
    refine WL.nil (thenQ.n ?_)
    refine WC.seq ?_
    refine WC.region ?_
    refine WL.lv rfl (LV.mv rfl) ?_
    refine WL.call rfl (XC.fn Try.func24 (by kernel_rfl) rfl rfl rfl) (invert_eq  (SH.rd hS7 (.head _)) (SH.rdIn hS7 (.tail _ (.head _))) rfl (hm_of (by rw [hq3]; exact chk_IVS _))) ?_
    rintro v_ w5 ⟨A4, c4, rows4, rfl, hq4, hS8⟩
    have hS9 := SH.joinN hS7 hS8
    refine WL.lv rfl (LV.mv rfl) ?_
    iterate 2 refine WL.lv rfl (LV.extract rfl rfl) ?_
    iterate 2 refine WL.lv rfl (LV.asg rfl) ?_
    refine WL.nil (thenQ.n ?_)
    refine WC.seq ?_
    refine WC.region ?_
    refine WL.call rfl (XC.fn Try.func14 (by kernel_rfl) rfl rfl rfl) (live8_calls  ) ?_
    rintro v_ w6 ⟨rfl, hk2⟩
    have hS10 := SH.same hS9 hk2
    iterate 2 refine WL.lv rfl (LV.mv rfl) ?_
    refine WL.lv rfl (LV.as (LV.eqI rfl rfl) (decide_eq_true (by rw [hq1]; exact chk_NF _))) ?_
    refine WL.lv rfl (LV.pickT rfl rfl) ?_
    iterate 2 refine WL.lv rfl (LV.mv rfl) ?_
    refine WL.lv rfl (LV.as (LV.eqI rfl rfl) (decide_eq_true (hck))) ?_
    refine WL.lv rfl (LV.pickT rfl rfl) ?_
    iterate 2 refine WL.lv rfl (LV.mv rfl) ?_
    refine WL.lv rfl (LV.as (LV.eqI rfl rfl) (decide_eq_true (by rw [hq3]; exact chk_IVS _))) ?_
    refine WL.lv rfl (LV.pickT rfl rfl) ?_
    iterate 3 refine WL.lv rfl (LV.mv rfl) ?_
    refine WL.call rfl (XC.fn Try.func15 (by kernel_rfl) rfl rfl rfl) (Calls.asB (same8_eq  (SH.rd hS10 (.tail _ (.tail _ (.tail _ (.tail _ (.tail _ (.tail _ (.head _)))))))) (SH.rdIn hS10 (.tail _ (.tail _ (.tail _ (.tail _ (.tail _ (.tail _ (.tail _ (.head _))))))))) rfl (SH.rd hS10 (.tail _ (.tail _ (.tail _ (.tail _ (.head _)))))) (SH.rdIn hS10 (.tail _ (.tail _ (.tail _ (.tail _ (.tail _ (.head _))))))) rfl ) (decide_eq_true (by rw [hq2, hq1]; exact (NF_NF hck).symm))) ?_
    rintro v_ w7 ⟨rfl, hk3⟩
    have hS11 := SH.same hS10 hk3
    refine WL.lv rfl (LV.pickT rfl rfl) ?_
    iterate 3 refine WL.lv rfl (LV.mv rfl) ?_
    refine WL.call rfl (XC.fn Try.func15 (by kernel_rfl) rfl rfl rfl) (Calls.asB (same8_eq  (SH.rd hS11 (.tail _ (.tail _ (.tail _ (.tail _ (.tail _ (.tail _ (.head _)))))))) (SH.rdIn hS11 (.tail _ (.tail _ (.tail _ (.tail _ (.tail _ (.tail _ (.tail _ (.head _))))))))) rfl (SH.rd hS11 (.head _)) (SH.rdIn hS11 (.tail _ (.head _))) rfl ) (decide_eq_true (by rw [hq4, hq3, hq1]; exact (IVS_IVS hck).symm))) ?_
    rintro v_ w8 ⟨rfl, hk4⟩
    have hS12 := SH.same hS11 hk4
    refine WL.lv rfl (LV.pickT rfl rfl) ?_
    iterate 2 refine WL.lv rfl (LV.mv rfl) ?_
    refine WL.call rfl (XC.fn Try.func18 (by kernel_rfl) rfl rfl rfl) (changed_eq  (SH.rd hS12 (.tail _ (.tail _ (.tail _ (.tail _ (.tail _ (.tail _ (.head _)))))))) (SH.rdIn hS12 (.tail _ (.tail _ (.tail _ (.tail _ (.tail _ (.tail _ (.tail _ (.head _))))))))) rfl ) ?_
    rintro v_ w9 ⟨rfl, hk5⟩
    have hS13 := SH.same hS12 hk5
    refine WL.lv rfl (LV.mv rfl) ?_
    refine WL.call rfl (XC.fn Try.func18 (by kernel_rfl) rfl rfl rfl) (changed_eq  (SH.stN hS13 h_inp) (SH.stN hS13 hi_inp) rfl ) ?_
    rintro v_ w10 ⟨rfl, hk6⟩
    have hS14 := SH.same hS13 hk6
    refine WL.lv rfl (LV.as (LV.eqI rfl rfl) (decide_eq_true (by rw [hq1]; exact chgI_NF hck))) ?_
    refine WL.lv rfl (LV.pickT rfl rfl) ?_
    iterate 2 refine WL.lv rfl (LV.mv rfl) ?_
    refine WL.call rfl (XC.fn Try.func18 (by kernel_rfl) rfl rfl rfl) (changed_eq  (SH.rd hS14 (.tail _ (.tail _ (.head _)))) (SH.rdIn hS14 (.tail _ (.tail _ (.tail _ (.head _))))) rfl ) ?_
    rintro v_ w11 ⟨rfl, hk7⟩
    have hS15 := SH.same hS14 hk7
    refine WL.lv rfl (LV.mv rfl) ?_
    refine WL.call rfl (XC.fn Try.func18 (by kernel_rfl) rfl rfl rfl) (changed_eq  (SH.stN hS15 h_inp) (SH.stN hS15 hi_inp) rfl ) ?_
    rintro v_ w12 ⟨rfl, hk8⟩
    have hS16 := SH.same hS15 hk8
    refine WL.lv rfl (LV.as (LV.eqI rfl rfl) (decide_eq_true (by rw [hq3]; exact chgI_IVS hck))) ?_
    refine WL.lv rfl (LV.pickT rfl rfl) ?_
    refine WL.lv rfl (LV.asg rfl) ?_
    refine WL.nil (thenQ.n ?_)
    refine WC.ret (?_)
    exact ⟨_, fun a ha => res1 rfl ha rfl, rfl, hS16.kb⟩

theorem scriptShortest_law {w : World} {A_inp : Option Addr} {n_inp c_inp : Nat} {inp : List (ED × List Ln)} (h_inp : St No w (Rd eE (.slice A_inp n_inp c_inp) (inp.map (·.1)))) (hi_inp : St No w (RdIn (·.2) eL inp)) (hn_inp : inp.length = n_inp) (hm : ∀ p ∈ inp, p.2.length ≤ 140737488355328) (hsz : inp.length ≤ 4398046511104) :
    Calls Try.prog 4 #[(.slice A_inp n_inp c_inp)] w fun e w' => ∃ v, e = .returned v ∧ (fun v w' => v = .bool (decide (true)) ∧ KB No w w') v w' := by
  subst hn_inp
  have hS : SH w No w [] := SH.nil _ _
  refine calls (l := litOf [(.slice A_inp inp.length c_inp)] 0) Try.func4 rfl (n := 51) rfl (Nat.le_of_ble_eq_true rfl) (lit_args _) ?_
  refine WC.seq ?_
  refine WC.region ?_
  refine WL.lv rfl (LV.asg rfl) ?_
  refine WL.nil (thenQ.n ?_)
  refine WC.seq ?_
  refine WC.region ?_
  refine WL.lv rfl (LV.mv rfl) ?_
  refine WL.call rfl (XC.fn Try.func16 (by kernel_rfl) rfl rfl rfl) (sides8_eq  (SH.stN hS h_inp) (SH.stN hS hi_inp) rfl (by assumption)) ?_
  rintro v_ w1 ⟨A1, c1, A2, c2, rfl, hS1⟩
  have hS2 := SH.joinN hS hS1
  refine WL.lv rfl (LV.mv rfl) ?_
  iterate 3 refine WL.lv rfl (LV.extract rfl rfl) ?_
  iterate 3 refine WL.lv rfl (LV.asg rfl) ?_
  refine WL.nil (thenQ.n ?_)
  iterate 2 refine WC.seq ?_
  refine WC.region ?_
  refine WL.lv rfl (LV.mv rfl) ?_
  rcases Decidable.em ((chk (scr inp)) ≠ 0) with hg21 | hg21
  · refine WL.lv rfl (LV.as (LV.neI rfl rfl) (decide_eq_true hg21)) ?_
    refine WL.lv rfl (LV.mv rfl) ?_
    iterate 3 refine WL.off rfl ?_
    refine WL.lv rfl (LV.pickT rfl rfl) ?_
    refine WL.lv rfl (LV.mv rfl) ?_
    iterate 3 refine WL.off rfl ?_
    refine WL.lv rfl (LV.pickT rfl rfl) ?_
    refine WL.nil (thenQ.n ?_)
    refine WC.condT rfl ?_
    refine WC.seq ?_
    refine WC.region ?_
    refine WL.call rfl (XC.fn Try.func14 (by kernel_rfl) rfl rfl rfl) (live8_calls  ) ?_
    rintro v_ w2 ⟨rfl, hk1⟩
    have hS3 := SH.same hS2 hk1
    iterate 3 refine WL.lv rfl (LV.mv rfl) ?_
    refine WL.call rfl (XC.fn Try.func17 (by kernel_rfl) rfl rfl rfl) (rcheck_eq  (SH.stN hS3 h_inp) (SH.stN hS3 hi_inp) rfl (by assumption)) ?_
    rintro v_ w3 ⟨rfl, hk2⟩
    have hS4 := SH.same hS3 hk2
    refine WL.lv rfl (LV.as (LV.eqI rfl rfl) (decide_eq_true (rfl))) ?_
    refine WL.lv rfl (LV.pickT rfl rfl) ?_
    refine WL.lv rfl (LV.asg rfl) ?_
    refine WL.nil (thenQ.n ?_)
    refine WC.ret (thenQ.r <| ?_)
    exact ⟨_, fun a ha => res1 rfl ha rfl, rfl, hS4.kb⟩
  · refine WL.lv rfl (LV.as (LV.neI rfl rfl) (decide_eq_false hg21)) ?_
    iterate 2 refine WL.lv rfl (LV.mv rfl) ?_
    refine WL.lv rfl (LV.lenL Try.underlying22 rfl) ?_
    rcases Decidable.em (((SA (scr inp)).length : Int) > 40) with hg25 | hg25
    · refine WL.lv rfl (LV.as (LV.gtI rfl rfl) (decide_eq_true hg25)) ?_
      refine WL.lv rfl (LV.pickF rfl rfl) ?_
      refine WL.lv rfl (LV.mv rfl) ?_
      iterate 3 refine WL.off rfl ?_
      refine WL.lv rfl (LV.pickT rfl rfl) ?_
      refine WL.nil (thenQ.n ?_)
      refine WC.condT rfl ?_
      refine WC.seq ?_
      refine WC.region ?_
      refine WL.call rfl (XC.fn Try.func14 (by kernel_rfl) rfl rfl rfl) (live8_calls  ) ?_
      rintro v_ w4 ⟨rfl, hk3⟩
      have hS5 := SH.same hS2 hk3
      iterate 3 refine WL.lv rfl (LV.mv rfl) ?_
      refine WL.call rfl (XC.fn Try.func17 (by kernel_rfl) rfl rfl rfl) (rcheck_eq  (SH.stN hS5 h_inp) (SH.stN hS5 hi_inp) rfl (by assumption)) ?_
      rintro v_ w5 ⟨rfl, hk4⟩
      have hS6 := SH.same hS5 hk4
      refine WL.lv rfl (LV.as (LV.eqI rfl rfl) (decide_eq_true (rfl))) ?_
      refine WL.lv rfl (LV.pickT rfl rfl) ?_
      refine WL.lv rfl (LV.asg rfl) ?_
      refine WL.nil (thenQ.n ?_)
      refine WC.ret (thenQ.r <| ?_)
      exact ⟨_, fun a ha => res1 rfl ha rfl, rfl, hS6.kb⟩
    · refine WL.lv rfl (LV.as (LV.gtI rfl rfl) (decide_eq_false hg25)) ?_
      refine WL.lv rfl (LV.pickF rfl rfl) ?_
      iterate 2 refine WL.lv rfl (LV.mv rfl) ?_
      refine WL.lv rfl (LV.lenL Try.underlying22 rfl) ?_
      refine WL.lv rfl (LV.gtI rfl rfl) ?_
      refine WL.lv rfl (LV.pickF rfl rfl) ?_
      refine WL.nil (thenQ.n ?_)
      refine WC.condP (p := ((SB (scr inp)).length : Int) > 40) rfl (fun hc25 => ?_) (fun hc25 => ?_)
      · skip
        refine WC.seq ?_
        refine WC.region ?_
        refine WL.call rfl (XC.fn Try.func14 (by kernel_rfl) rfl rfl rfl) (live8_calls  ) ?_
        rintro v_ w6 ⟨rfl, hk5⟩
        have hS7 := SH.same hS2 hk5
        iterate 3 refine WL.lv rfl (LV.mv rfl) ?_
        refine WL.call rfl (XC.fn Try.func17 (by kernel_rfl) rfl rfl rfl) (rcheck_eq  (SH.stN hS7 h_inp) (SH.stN hS7 hi_inp) rfl (by assumption)) ?_
        rintro v_ w7 ⟨rfl, hk6⟩
        have hS8 := SH.same hS7 hk6
        refine WL.lv rfl (LV.as (LV.eqI rfl rfl) (decide_eq_true (rfl))) ?_
        refine WL.lv rfl (LV.pickT rfl rfl) ?_
        refine WL.lv rfl (LV.asg rfl) ?_
        refine WL.nil (thenQ.n ?_)
        refine WC.ret (thenQ.r <| ?_)
        exact ⟨_, fun a ha => res1 rfl ha rfl, rfl, hS8.kb⟩
      · skip
        refine WC.skip (thenQ.n ?_)
        refine WC.seq ?_
        refine WC.region ?_
        iterate 2 refine WL.lv rfl (LV.mv rfl) ?_
        refine WL.call rfl (XC.fn Try.func12 (by kernel_rfl) rfl rfl rfl) (make8_calls  (SH.rd hS2 (.head _)) rfl (SH.rd hS2 (.tail _ (.head _))) rfl ) ?_
        rintro v_ w8 ⟨A3, c3, rows1, rfl, hq1, hS9⟩
        have hS10 := SH.joinN hS2 hS9
        refine WL.lv rfl (LV.mv rfl) ?_
        iterate 2 refine WL.lv rfl (LV.extract rfl rfl) ?_
        iterate 2 refine WL.lv rfl (LV.asg rfl) ?_
        refine WL.nil (thenQ.n ?_)
        refine WC.seq ?_
        refine WC.region ?_
        refine WL.call rfl (XC.fn Try.func14 (by kernel_rfl) rfl rfl rfl) (live8_calls  ) ?_
        rintro v_ w9 ⟨rfl, hk7⟩
        have hS11 := SH.same hS10 hk7
        iterate 2 refine WL.lv rfl (LV.mv rfl) ?_
        refine WL.lv rfl (LV.as (LV.eqI rfl rfl) (decide_eq_true (MKE_small (by omega) (by omega)))) ?_
        refine WL.lv rfl (LV.pickT rfl rfl) ?_
        iterate 2 refine WL.lv rfl (LV.mv rfl) ?_
        refine WL.call rfl (XC.fn Try.func18 (by kernel_rfl) rfl rfl rfl) (changed_eq  (SH.rd hS11 (.head _)) (SH.rdIn hS11 (.tail _ (.head _))) rfl ) ?_
        rintro v_ w10 ⟨rfl, hk8⟩
        have hS12 := SH.same hS11 hk8
        refine WL.lv rfl (LV.mv rfl) ?_
        refine WL.call rfl (XC.fn Try.func18 (by kernel_rfl) rfl rfl rfl) (changed_eq  (SH.stN hS12 h_inp) (SH.stN hS12 hi_inp) rfl ) ?_
        rintro v_ w11 ⟨rfl, hk9⟩
        have hS13 := SH.same hS12 hk9
        refine WL.lv rfl (LV.as (LV.leI rfl rfl) (decide_eq_true (by rw [hq1]; exact shortest' (Decidable.not_not.1 hg21) hg25 hc25))) ?_
        refine WL.lv rfl (LV.pickT rfl rfl) ?_
        refine WL.lv rfl (LV.asg rfl) ?_
        refine WL.nil (thenQ.n ?_)
        refine WC.ret (?_)
        exact ⟨_, fun a ha => res1 rfl ha rfl, rfl, hS13.kb⟩

theorem scriptBack_law {w : World} {A_a : Option Addr} {n_a c_a : Nat} {a : List Ln} {A_b : Option Addr} {n_b c_b : Nat} {b : List Ln} (h_a : St No w (Rd eL (.slice A_a n_a c_a) a)) (hn_a : a.length = n_a) (h_b : St No w (Rd eL (.slice A_b n_b c_b) b)) (hn_b : b.length = n_b)  :
    Calls Try.prog 10 #[(.slice A_a n_a c_a), (.slice A_b n_b c_b)] w fun e w' => ∃ v, e = .returned v ∧ (fun v w' => v = .bool (decide (true)) ∧ KB No w w') v w' := by
  subst hn_a hn_b
  have hla : (a.take 40).length ≤ 400 := by rw [List.length_take]; omega
  have hlb : (b.take 40).length ≤ 400 := by rw [List.length_take]; omega
  have hS : SH w No w [] := SH.nil _ _
  refine calls (l := litOf [(.slice A_a a.length c_a), (.slice A_b b.length c_b)] 0) Try.func10 rfl (n := 67) rfl (Nat.le_of_ble_eq_true rfl) (lit_args _) ?_
  refine WC.seq ?_
  refine WC.region ?_
  refine WL.lv rfl (LV.asg rfl) ?_
  refine WL.nil (thenQ.n ?_)
  refine WC.seq ?_
  refine WC.region ?_
  refine WL.lv rfl (LV.mv rfl) ?_
  refine WL.call rfl (XC.fn Try.func11 (by kernel_rfl) rfl rfl rfl) (few8_calls (SH.stN hS h_a)) ?_
  rintro v_ w1 ⟨rfl, hk1⟩
  have hS1 := SH.same hS hk1
  refine WL.lv rfl (LV.mv rfl) ?_
  refine WL.call rfl (XC.fn Try.func11 (by kernel_rfl) rfl rfl rfl) (few8_calls (SH.stN hS1 h_b)) ?_
  rintro v_ w2 ⟨rfl, hk2⟩
  have hS2 := SH.same hS1 hk2
  iterate 2 refine WL.lv rfl (LV.asg rfl) ?_
  refine WL.nil (thenQ.n ?_)
  refine WC.seq ?_
  refine WC.region ?_
  iterate 2 refine WL.lv rfl (LV.mv rfl) ?_
  refine WL.call rfl (XC.fn Try.func12 (by kernel_rfl) rfl rfl rfl) (make8_calls  (SH.stN hS2 (few_rd 40 h_a)) rfl (SH.stN hS2 (few_rd 40 h_b)) rfl ) ?_
  rintro v_ w3 ⟨A1, c1, rows1, rfl, hq1, hS3⟩
  have hS4 := SH.joinN hS2 hS3
  refine WL.lv rfl (LV.mv rfl) ?_
  iterate 2 refine WL.lv rfl (LV.extract rfl rfl) ?_
  iterate 2 refine WL.lv rfl (LV.asg rfl) ?_
  refine WL.nil (thenQ.n ?_)
  refine WC.seq ?_
  refine WC.region ?_
  iterate 2 refine WL.lv rfl (LV.mv rfl) ?_
  refine WL.call rfl (XC.fn Try.func26 (by kernel_rfl) rfl rfl rfl) (apply_eq  (SH.rd hS4 (.head _)) (SH.rdIn hS4 (.tail _ (.head _))) rfl (SH.stN hS4 (few_rd 40 h_a)) rfl (hm_of (by rw [hq1]; exact chk_MKS _ _))) ?_
  rintro v_ w4 ⟨A2, c2, rfl, hS5⟩
  have hS6 := SH.joinN hS4 hS5
  refine WL.lv rfl (LV.mv rfl) ?_
  iterate 2 refine WL.lv rfl (LV.extract rfl rfl) ?_
  iterate 2 refine WL.lv rfl (LV.asg rfl) ?_
  refine WL.nil (thenQ.n ?_)
  refine WC.seq ?_
  refine WC.region ?_
  refine WL.lv rfl (LV.mv rfl) ?_
  refine WL.call rfl (XC.fn Try.func24 (by kernel_rfl) rfl rfl rfl) (invert_eq  (SH.rd hS6 (.tail _ (.head _))) (SH.rdIn hS6 (.tail _ (.tail _ (.head _)))) rfl (hm_of (by rw [hq1]; exact chk_MKS _ _))) ?_
  rintro v_ w5 ⟨A3, c3, rows2, rfl, hq2, hS7⟩
  have hS8 := SH.joinN hS6 hS7
  refine WL.lv rfl (LV.mv rfl) ?_
  iterate 2 refine WL.lv rfl (LV.extract rfl rfl) ?_
  iterate 2 refine WL.lv rfl (LV.asg rfl) ?_
  refine WL.nil (thenQ.n ?_)
  refine WC.seq ?_
  refine WC.region ?_
  iterate 2 refine WL.lv rfl (LV.mv rfl) ?_
  refine WL.call rfl (XC.fn Try.func26 (by kernel_rfl) rfl rfl rfl) (apply_eq  (SH.rd hS8 (.head _)) (SH.rdIn hS8 (.tail _ (.head _))) rfl (SH.stN hS8 (few_rd 40 h_b)) rfl (hm_of (by rw [hq2]; exact chk_IVS _))) ?_
  rintro v_ w6 ⟨A4, c4, rfl, hS9⟩
  have hS10 := SH.joinN hS8 hS9
  refine WL.lv rfl (LV.mv rfl) ?_
  iterate 2 refine WL.lv rfl (LV.extract rfl rfl) ?_
  iterate 2 refine WL.lv rfl (LV.asg rfl) ?_
  refine WL.nil (thenQ.n ?_)
  refine WC.seq ?_
  refine WC.region ?_
  refine WL.call rfl (XC.fn Try.func14 (by kernel_rfl) rfl rfl rfl) (live8_calls  ) ?_
  rintro v_ w7 ⟨rfl, hk3⟩
  have hS11 := SH.same hS10 hk3
  iterate 2 refine WL.lv rfl (LV.mv rfl) ?_
  refine WL.lv rfl (LV.as (LV.eqI rfl rfl) (decide_eq_true (MKE_small hla hlb))) ?_
  refine WL.lv rfl (LV.pickT rfl rfl) ?_
  iterate 2 refine WL.lv rfl (LV.mv rfl) ?_
  refine WL.lv rfl (LV.as (LV.eqI rfl rfl) (decide_eq_true (by rw [hq1]; exact (apply_make hla hlb).2))) ?_
  refine WL.lv rfl (LV.pickT rfl rfl) ?_
  iterate 2 refine WL.lv rfl (LV.mv rfl) ?_
  refine WL.lv rfl (LV.as (LV.eqI rfl rfl) (decide_eq_true (by rw [hq1]; exact chk_MKS _ _))) ?_
  refine WL.lv rfl (LV.pickT rfl rfl) ?_
  iterate 2 refine WL.lv rfl (LV.mv rfl) ?_
  refine WL.lv rfl (LV.as (LV.eqI rfl rfl) (decide_eq_true (by rw [hq2, hq1]; exact (apply_back hla hlb).2))) ?_
  refine WL.lv rfl (LV.pickT rfl rfl) ?_
  iterate 3 refine WL.lv rfl (LV.mv rfl) ?_
  refine WL.call rfl (XC.fn Try.func20 (by kernel_rfl) rfl rfl rfl) (Calls.asB (lines_eq  (SH.rd hS11 (.tail _ (.tail _ (.tail _ (.head _))))) rfl (SH.stN hS11 (few_rd 40 h_b)) rfl ) (decide_eq_true (by rw [hq1]; exact (apply_make hla hlb).1))) ?_
  rintro v_ w8 ⟨rfl, hk4⟩
  have hS12 := SH.same hS11 hk4
  refine WL.lv rfl (LV.pickT rfl rfl) ?_
  iterate 3 refine WL.lv rfl (LV.mv rfl) ?_
  refine WL.call rfl (XC.fn Try.func20 (by kernel_rfl) rfl rfl rfl) (Calls.asB (lines_eq  (SH.rd hS12 (.head _)) rfl (SH.stN hS12 (few_rd 40 h_a)) rfl ) (decide_eq_true (by rw [hq2, hq1]; exact (apply_back hla hlb).1))) ?_
  rintro v_ w9 ⟨rfl, hk5⟩
  have hS13 := SH.same hS12 hk5
  refine WL.lv rfl (LV.pickT rfl rfl) ?_
  refine WL.lv rfl (LV.asg rfl) ?_
  refine WL.nil (thenQ.n ?_)
  refine WC.ret (?_)
  exact ⟨_, fun a ha => res1 rfl ha rfl, rfl, hS13.kb⟩

theorem scriptOwn_law {w : World} {A_inp : Option Addr} {n_inp c_inp : Nat} {inp : List (ED × List Ln)} (h_inp : St No w (Rd eE (.slice A_inp n_inp c_inp) (inp.map (·.1)))) (hi_inp : St No w (RdIn (·.2) eL inp)) (hn_inp : inp.length = n_inp) (hm : ∀ p ∈ inp, p.2.length ≤ 140737488355328) (hsz : inp.length ≤ 4398046511104) :
    Calls Try.prog 7 #[(.slice A_inp n_inp c_inp)] w fun e w' => ∃ v, e = .returned v ∧ (fun v w' => v = .bool (decide (true)) ∧ KB No w w') v w' := by
  subst hn_inp
  have hS : SH w No w [] := SH.nil _ _
  refine calls (l := litOf [(.slice A_inp inp.length c_inp)] 0) Try.func7 rfl (n := 81) rfl (Nat.le_of_ble_eq_true rfl) (lit_args _) ?_
  refine WC.seq ?_
  refine WC.region ?_
  refine WL.lv rfl (LV.asg rfl) ?_
  refine WL.nil (thenQ.n ?_)
  refine WC.seq ?_
  refine WC.region ?_
  refine WL.lv rfl (LV.mv rfl) ?_
  refine WL.call rfl (XC.fn Try.func25 (by kernel_rfl) rfl rfl rfl) (rnormal_calls  (SH.stN hS h_inp) (SH.stN hS hi_inp) rfl (by assumption)) ?_
  rintro v_ w1 ⟨A1, c1, rows1, rfl, hq1, hS1⟩
  have hS2 := SH.joinN hS hS1
  refine WL.lv rfl (LV.mv rfl) ?_
  iterate 2 refine WL.lv rfl (LV.extract rfl rfl) ?_
  iterate 2 refine WL.lv rfl (LV.asg rfl) ?_
  refine WL.nil (thenQ.n ?_)
  refine WC.seq ?_
  refine WC.region ?_
  refine WL.lv rfl (LV.mv rfl) ?_
  refine WL.call rfl (XC.fn Try.func23 (by kernel_rfl) rfl rfl rfl) (Normal_eq  (SH.stN hS2 h_inp) (SH.stN hS2 hi_inp) rfl (by assumption)) ?_
  rintro v_ w2 ⟨A2, c2, rows2, rfl, hq2, hS3⟩
  have hS4 := SH.joinN hS2 hS3
  refine WL.lv rfl (LV.mv rfl) ?_
  iterate 2 refine WL.lv rfl (LV.extract rfl rfl) ?_
  iterate 2 refine WL.lv rfl (LV.asg rfl) ?_
  refine WL.nil (thenQ.n ?_)
  iterate 2 refine WC.seq ?_
  refine WC.region ?_
  have hck2 : chk (scr rows2) = 0 := by rw [hq2]; exact chk_NF _
  have hl2 := (chk0 hck2).1
  rw [scr_length] at hl2
  have hsa := SA_len (scr inp)
  refine WL.lv rfl (LV.asg rfl) ?_
  refine WL.nil (thenQ.n ?_)
  refine WC.block ?_
  refine WC.loop (fun m_ f_ w_ => ∃ (a : List (ED × List Ln)) (i : Int), (0 ≤ i) ∧ (a.length = rows2.length) ∧ (∀ t : Nat, (List.getD a t (default : ED × List Ln)).2.length = (List.getD rows2 t (default : ED × List Ln)).2.length) ∧ (i ≤ (rows2.length : Int)) ∧ SH w No w_ [rowE eE 39 (.slice A2 rows2.length c2) (a.map (fun p : ED × List Ln => p.1)), insE (fun p : ED => p.2) eL 41 a, rowE eE 39 (.slice A1 rows1.length c1) (rows1.map (fun p : ED × List Ln => p.1)), insE (fun p : ED => p.2) eL 41 rows1] ∧ m_ = (((rows2.length : Int) - i).toNat) ∧ Weak (lit [(0, (.slice A_inp inp.length c_inp)), (3, (.slice A1 rows1.length c1)), (4, (.int .i64 (chk (scr inp)))), (5, (.slice A2 rows2.length c2)), (7, (.int .i64 i))]) f_) _ ⟨rows2, 0, by omega, rfl, (fun _ => rfl), by omega, hS4, rfl, Weak.cons rfl <| Weak.cons rfl <| Weak.cons rfl <| Weak.cons rfl <| Weak.cons rfl <| Weak.nil _⟩ ?_
  rintro m1 f1 w3 ⟨a, i, ilo, o1, o2, ihi, hL1, rfl, hw1⟩
  refine WC.weak hw1 ?_
  clear hw1
  iterate 2 refine WC.seq ?_
  refine WC.region ?_
  iterate 2 refine WL.lv rfl (LV.mv rfl) ?_
  refine WL.lv rfl (LV.lenL Try.underlying24 rfl) ?_
  refine WL.lv rfl (LV.ltI rfl rfl) ?_
  refine WL.nil (thenQ.n ?_)
  refine WC.condP (p := i < (rows2.length : Int)) rfl (fun hi_ => ?_) (fun hi_ => ?_)
  · skip
    refine WC.skip (thenQ.n ?_)
    refine WC.seq ?_
    refine WC.block ?_
    refine WC.seq ?_
    refine WC.region ?_
    refine WL.lv rfl (LV.asg rfl) ?_
    refine WL.nil (thenQ.n ?_)
    refine WC.block ?_
    refine WC.loop (fun m_ f_ w_ => ∃ (a2 : List (ED × List Ln)) (k : Int), (a2.length = rows2.length) ∧ (∀ t : Nat, (List.getD a2 t (default : ED × List Ln)).2.length = (List.getD rows2 t (default : ED × List Ln)).2.length) ∧ (0 ≤ k) ∧ (k ≤ ((rows2.getD i.toNat default).2.length : Int)) ∧ SH w No w_ [rowE eE 39 (.slice A2 rows2.length c2) (a2.map (fun p : ED × List Ln => p.1)), insE (fun p : ED => p.2) eL 41 a2, rowE eE 39 (.slice A1 rows1.length c1) (rows1.map (fun p : ED × List Ln => p.1)), insE (fun p : ED => p.2) eL 41 rows1] ∧ m_ = ((((rows2.getD i.toNat default).2.length : Int) - k).toNat) ∧ Weak (lit [(0, (.slice A_inp inp.length c_inp)), (3, (.slice A1 rows1.length c1)), (4, (.int .i64 (chk (scr inp)))), (5, (.slice A2 rows2.length c2)), (7, (.int .i64 i)), (8, (.int .i64 k))]) f_) _ ⟨a, 0, o1, o2, by omega, by omega, hL1, rfl, Weak.cons rfl <| Weak.cons rfl <| Weak.cons rfl <| Weak.cons rfl <| Weak.cons rfl <| Weak.cons rfl <| Weak.nil _⟩ ?_
    rintro m2 f2 w4 ⟨a2, k, o1b, o2b, klo, khi, hL2, rfl, hw2⟩
    refine WC.weak hw2 ?_
    clear hw2
    have ho2 := o2b i.toNat
    have hib := hm_of hck2 (List.getD rows2 i.toNat default) (getD_mem (by omega))
    iterate 2 refine WC.seq ?_
    refine WC.region ?_
    iterate 3 refine WL.lv rfl (LV.mv rfl) ?_
    obtain ⟨A3, c3, A4, c4, e1, g1, e2, r1⟩ := St.eltE (SH.rd hL2 (.head _)) (SH.rdIn hL2 (.tail _ (.head _))) default i (by omega) (by omega)
    refine WL.lv rfl (LV.idxA Try.underlying24 ti39.sz rfl e1 rfl (by omega) (by omega)) ?_
    refine WL.lv rfl (LV.fieldA Try.underlying39 rfl ti22.sz rfl) ?_
    refine WL.lv rfl (LV.load1 (v := (.slice A4 ((a2.getD (i).toNat default).2.length) c4)) Try.underlying22 rfl rfl (g1 _ (KB.refl No _) 1 _ rfl)) ?_
    refine WL.lv rfl (LV.lenL Try.underlying22 rfl) ?_
    refine WL.lv rfl (LV.ltI rfl rfl) ?_
    refine WL.nil (thenQ.n ?_)
    refine WC.condP (p := k < ((a2.getD (i).toNat default).2.length : Int)) rfl (fun hk_ => ?_) (fun hk_ => ?_)
    · have ho2_ := o2b i.toNat
      refine WC.skip (thenQ.n ?_)
      refine WC.seq ?_
      refine WC.block ?_
      refine WC.region ?_
      iterate 2 refine WL.lv rfl (LV.mv rfl) ?_
      obtain ⟨A5, c5, A6, c6, e3, g2, e4, r2⟩ := St.eltE (SH.rd hL2 (.head _)) (SH.rdIn hL2 (.tail _ (.head _))) default i (by omega) (by omega)
      refine WL.lv rfl (LV.idxA Try.underlying24 ti39.sz rfl e3 rfl (by omega) (by omega)) ?_
      refine WL.lv rfl (LV.fieldA Try.underlying39 rfl ti22.sz rfl) ?_
      refine WL.lv rfl (LV.load1 (v := (.slice A6 ((a2.getD (i).toNat default).2.length) c6)) Try.underlying22 rfl rfl (g2 _ (KB.refl No _) 1 _ rfl)) ?_
      refine WL.lv rfl (LV.mv rfl) ?_
      obtain ⟨A7, c7, e5, g3⟩ := St.elt (St.innerQ (SH.rdIn hL2 (.tail _ (.head _))) (getD_mem (by omega)) e4) lnD k (by omega) (by omega)
      refine WL.lv rfl (LV.idxA Try.underlying22 ti41.sz rfl e5 rfl (by omega) (by omega)) ?_
      refine WL.lv rfl (LV.fieldA Try.underlying41 rfl ti9.sz rfl) ?_
      have hS6 : SH w No w4 [insE (fun p : ED => p.2) eL 41 a2, rowE eE 39 (.slice A2 rows2.length c2) (a2.map (fun p : ED × List Ln => p.1)), rowE eE 39 (.slice A1 rows1.length c1) (rows1.map (fun p : ED × List Ln => p.1)), insE (fun p : ED => p.2) eL 41 rows1] := (SH.front [rowE eE 39 (.slice A2 rows2.length c2) (a2.map (fun p : ED × List Ln => p.1))] hL2)
      refine WL.xse rfl (XSE.nest1 (i := i) (j := k) (o := 0) (k := lnD) (⟨#[111, 116, 104, 101, 114]⟩, (((a2.getD (i).toNat default).2).getD (k).toNat lnD).2) hS6 (by omega) (by omega) (e4.trans e5) (by omega) (by omega) (by decide) ti9.sz rfl rfl rfl rfl) ?_
      rintro w5 ⟨hS5, hk1⟩
      refine WL.nil (blockQ.n <| thenQ.n ?_)
      refine WC.region ?_
      refine WL.lv rfl (LV.mv rfl) ?_
      refine WL.lv rfl (LV.add rfl rfl (wr64 (by omega) (by omega))) ?_
      refine WL.lv rfl (LV.asg rfl) ?_
      refine WL.nil (thenQ.n ?_)
      have hS7 : SH w No w5 [rowE eE 39 (.slice A2 rows2.length c2) ((a2.set (i).toNat ((a2.getD (i).toNat default).1, (a2.getD (i).toNat default).2.set (k).toNat (⟨#[111, 116, 104, 101, 114]⟩, (((a2.getD (i).toNat default).2).getD (k).toNat lnD).2))).map (fun p : ED × List Ln => p.1)), insE (fun p : ED => p.2) eL 41 (a2.set (i).toNat ((a2.getD (i).toNat default).1, (a2.getD (i).toNat default).2.set (k).toNat (⟨#[111, 116, 104, 101, 114]⟩, (((a2.getD (i).toNat default).2).getD (k).toNat lnD).2))), rowE eE 39 (.slice A1 rows1.length c1) (rows1.map (fun p : ED × List Ln => p.1)), insE (fun p : ED => p.2) eL 41 rows1] := (SH.front [insE (fun p : ED => p.2) eL 41 (a2.set (i).toNat ((a2.getD (i).toNat default).1, (a2.getD (i).toNat default).2.set (k).toNat (⟨#[111, 116, 104, 101, 114]⟩, (((a2.getD (i).toNat default).2).getD (k).toNat lnD).2))), rowE eE 39 (.slice A1 rows1.length c1) (rows1.map (fun p : ED × List Ln => p.1)), insE (fun p : ED => p.2) eL 41 rows1] (SH.front [rowE eE 39 (.slice A1 rows1.length c1) (rows1.map (fun p : ED × List Ln => p.1)), insE (fun p : ED => p.2) eL 41 rows1] (SH.front [insE (fun p : ED => p.2) eL 41 rows1, insE (fun p : ED => p.2) eL 41 (a2.set (i).toNat ((a2.getD (i).toNat default).1, (a2.getD (i).toNat default).2.set (k).toNat (⟨#[111, 116, 104, 101, 114]⟩, (((a2.getD (i).toNat default).2).getD (k).toNat lnD).2))), rowE eE 39 (.slice A2 rows2.length c2) ((a2.set (i).toNat ((a2.getD (i).toNat default).1, (a2.getD (i).toNat default).2.set (k).toNat (⟨#[111, 116, 104, 101, 114]⟩, (((a2.getD (i).toNat default).2).getD (k).toNat lnD).2))).map (fun p : ED × List Ln => p.1))] (SH.front [insE (fun p : ED => p.2) eL 41 (a2.set (i).toNat ((a2.getD (i).toNat default).1, (a2.getD (i).toNat default).2.set (k).toNat (⟨#[111, 116, 104, 101, 114]⟩, (((a2.getD (i).toNat default).2).getD (k).toNat lnD).2))), rowE eE 39 (.slice A2 rows2.length c2) ((a2.set (i).toNat ((a2.getD (i).toNat default).1, (a2.getD (i).toNat default).2.set (k).toNat (⟨#[111, 116, 104, 101, 114]⟩, (((a2.getD (i).toNat default).2).getD (k).toNat lnD).2))).map (fun p : ED × List Ln => p.1)), rowE eE 39 (.slice A1 rows1.length c1) (rows1.map (fun p : ED × List Ln => p.1))] hS5))))
      exact ⟨_, by omega, (a2.set (i).toNat ((a2.getD (i).toNat default).1, (a2.getD (i).toNat default).2.set (k).toNat (⟨#[111, 116, 104, 101, 114]⟩, (((a2.getD (i).toNat default).2).getD (k).toNat lnD).2))), k + 1, (by rw [List.length_set]; exact o1b), (fun t => (set_lens t).trans (o2b t)), by omega, by omega, hS7, rfl, Weak.cons rfl <| Weak.cons rfl <| Weak.cons rfl <| Weak.cons rfl <| Weak.cons rfl <| Weak.cons rfl <| Weak.nil _⟩
    · skip
      refine WC.exit (thenQ.x <| thenQ.x <| blockQ.hit <| blockQ.n <| thenQ.n ?_)
      refine WC.region ?_
      refine WL.lv rfl (LV.mv rfl) ?_
      refine WL.lv rfl (LV.add rfl rfl (wr64 (by omega) (by omega))) ?_
      refine WL.lv rfl (LV.asg rfl) ?_
      refine WL.nil (thenQ.n ?_)
      exact ⟨_, by omega, a2, i + 1, by omega, o1b, o2b, by omega, hL2, rfl, Weak.cons rfl <| Weak.cons rfl <| Weak.cons rfl <| Weak.cons rfl <| Weak.cons rfl <| Weak.nil _⟩
  · skip
    refine WC.exit (thenQ.x <| thenQ.x <| blockQ.hit <| thenQ.n ?_)
    refine WC.seq ?_
    refine WC.region ?_
    refine WL.lv rfl (LV.mv rfl) ?_
    refine WL.call rfl (XC.fn Try.func16 (by kernel_rfl) rfl rfl rfl) (sides8_eq  (SH.stN hL1 h_inp) (SH.stN hL1 hi_inp) rfl (by assumption)) ?_
    rintro v_ w6 ⟨A8, c8, A9, c9, rfl, hS8⟩
    have hS9 := SH.joinN hL1 hS8
    refine WL.lv rfl (LV.mv rfl) ?_
    iterate 3 refine WL.lv rfl (LV.extract rfl rfl) ?_
    iterate 3 refine WL.lv rfl (LV.asg rfl) ?_
    refine WL.nil (thenQ.n ?_)
    iterate 2 refine WC.seq ?_
    refine WC.region ?_
    refine WL.lv rfl (LV.asg rfl) ?_
    refine WL.nil (thenQ.n ?_)
    refine WC.block ?_
    refine WC.loop (fun m_ f_ w_ => ∃ (x : List Ln) (i2 : Int), (0 ≤ i2) ∧ (i2 ≤ ((SA (scr inp)).length : Int)) ∧ (x.length = (SA (scr inp)).length) ∧ SH w No w_ [rowE eL 41 (.slice A8 ((SA (scr inp)).length) c8) x, rowE eL 41 (.slice A9 ((SB (scr inp)).length) c9) (SB (scr inp)), rowE eE 39 (.slice A2 rows2.length c2) (a.map (fun p : ED × List Ln => p.1)), insE (fun p : ED => p.2) eL 41 a, rowE eE 39 (.slice A1 rows1.length c1) (rows1.map (fun p : ED × List Ln => p.1)), insE (fun p : ED => p.2) eL 41 rows1] ∧ m_ = ((((SA (scr inp)).length : Int) - i2).toNat) ∧ Weak (lit [(0, (.slice A_inp inp.length c_inp)), (3, (.slice A1 rows1.length c1)), (4, (.int .i64 (chk (scr inp)))), (9, (.slice A8 ((SA (scr inp)).length) c8)), (12, (.int .i64 i2))]) f_) _ ⟨SA (scr inp), 0, by omega, by omega, rfl, hS9, rfl, Weak.cons rfl <| Weak.cons rfl <| Weak.cons rfl <| Weak.cons rfl <| Weak.cons rfl <| Weak.nil _⟩ ?_
    rintro m3 f3 w7 ⟨x, i2, i2lo, i2hi, s1, hL3, rfl, hw3⟩
    refine WC.weak hw3 ?_
    clear hw3
    iterate 2 refine WC.seq ?_
    refine WC.region ?_
    iterate 2 refine WL.lv rfl (LV.mv rfl) ?_
    refine WL.lv rfl (LV.lenL Try.underlying22 rfl) ?_
    refine WL.lv rfl (LV.ltI rfl rfl) ?_
    refine WL.nil (thenQ.n ?_)
    refine WC.condP (p := i2 < ((SA (scr inp)).length : Int)) rfl (fun hc1 => ?_) (fun hc1 => ?_)
    · skip
      refine WC.skip (thenQ.n ?_)
      refine WC.seq ?_
      refine WC.block ?_
      refine WC.region ?_
      iterate 2 refine WL.lv rfl (LV.mv rfl) ?_
      obtain ⟨A10, c10, e6, g4⟩ := St.elt (SH.rd hL3 (.head _)) lnD i2 (by omega) (by omega)
      refine WL.lv rfl (LV.idxA Try.underlying22 ti41.sz rfl e6 rfl (by omega) (by omega)) ?_
      refine WL.lv rfl (LV.fieldA Try.underlying41 rfl ti9.sz rfl) ?_
      refine WL.xse rfl (XSE.row1 (i := i2) (o := 0) (k := lnD) (⟨#[111, 116, 104, 101, 114]⟩, (x.getD (i2).toNat lnD).2) hL3 e6 (by omega) (by omega) (by decide) ti9.sz rfl rfl rfl rfl) ?_
      rintro w8 ⟨hS10, hk2⟩
      refine WL.nil (blockQ.n <| thenQ.n ?_)
      refine WC.region ?_
      refine WL.lv rfl (LV.mv rfl) ?_
      refine WL.lv rfl (LV.add rfl rfl (wr64 (by omega) (by omega))) ?_
      refine WL.lv rfl (LV.asg rfl) ?_
      refine WL.nil (thenQ.n ?_)
      exact ⟨_, by omega, (x.set (i2).toNat (⟨#[111, 116, 104, 101, 114]⟩, (x.getD (i2).toNat lnD).2)), i2 + 1, by omega, by omega, (by rw [List.length_set]; exact s1), hS10, rfl, Weak.cons rfl <| Weak.cons rfl <| Weak.cons rfl <| Weak.cons rfl <| Weak.cons rfl <| Weak.nil _⟩
    · skip
      refine WC.exit (thenQ.x <| thenQ.x <| blockQ.hit <| thenQ.n ?_)
      refine WC.seq ?_
      refine WC.region ?_
      refine WL.lv rfl (LV.mv rfl) ?_
      refine WL.call rfl (XC.fn Try.func25 (by kernel_rfl) rfl rfl rfl) (rnormal_calls  (SH.stN hL3 h_inp) (SH.stN hL3 hi_inp) rfl (by assumption)) ?_
      rintro v_ w9 ⟨A11, c11, rows3, rfl, hq3, hS11⟩
      have hS12 := SH.joinN hL3 hS11
      refine WL.lv rfl (LV.mv rfl) ?_
      iterate 2 refine WL.lv rfl (LV.extract rfl rfl) ?_
      iterate 2 refine WL.lv rfl (LV.asg rfl) ?_
      refine WL.nil (thenQ.n ?_)
      refine WC.seq ?_
      refine WC.region ?_
      refine WL.call rfl (XC.fn Try.func14 (by kernel_rfl) rfl rfl rfl) (live8_calls  ) ?_
      rintro v_ w10 ⟨rfl, hk3⟩
      have hS13 := SH.same hS12 hk3
      iterate 3 refine WL.lv rfl (LV.mv rfl) ?_
      refine WL.lv rfl (LV.as (LV.eqI rfl rfl) (decide_eq_true (rfl))) ?_
      refine WL.lv rfl (LV.pickT rfl rfl) ?_
      iterate 3 refine WL.lv rfl (LV.mv rfl) ?_
      refine WL.call rfl (XC.fn Try.func15 (by kernel_rfl) rfl rfl rfl) (Calls.asB (same8_eq  (SH.rd hS13 (.tail _ (.tail _ (.tail _ (.tail _ (.tail _ (.tail _ (.head _)))))))) (SH.rdIn hS13 (.tail _ (.tail _ (.tail _ (.tail _ (.tail _ (.tail _ (.tail _ (.head _))))))))) rfl (SH.rd hS13 (.head _)) (SH.rdIn hS13 (.tail _ (.head _))) rfl ) (decide_eq_true (hq1.trans hq3.symm))) ?_
      rintro v_ w11 ⟨rfl, hk4⟩
      have hS14 := SH.same hS13 hk4
      refine WL.lv rfl (LV.pickT rfl rfl) ?_
      refine WL.lv rfl (LV.asg rfl) ?_
      refine WL.nil (thenQ.n ?_)
      refine WC.ret (?_)
      exact ⟨_, fun a ha => res1 rfl ha rfl, rfl, hS14.kb⟩

end Go.Proofs.Ytjmfoifohneanaa
