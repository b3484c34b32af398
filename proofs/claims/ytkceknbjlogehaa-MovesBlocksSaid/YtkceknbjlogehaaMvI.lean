/- The laws of moves. -/
import Derived.Test.YtkceknbjlogehaaMvH
import Derived.Test.YtkceknbjlogehaaGvY
namespace Go.Proofs.Ytkceknbjlogehaa
open Go Go.Gv Go.RowKit Go.Mys Go.Num Go.Scr Go.Itn Go.Mov
set_option linter.unusedVariables false
set_option linter.unusedSimpArgs false

set_option maxHeartbeats 2000000 in
theorem movesFind_law {w : World} {A_a : Option Addr} {n_a c_a : Nat} {a : List Ln} {A_b : Option Addr} {n_b c_b : Nat} {b : List Ln} {least : Int} (h_a : St No w (Rd eL (.slice A_a n_a c_a) a)) (hn_a : a.length = n_a) (h_b : St No w (Rd eL (.slice A_b n_b c_b) b)) (hn_b : b.length = n_b)  :
    Calls Try.prog 3 #[(.slice A_a n_a c_a), (.slice A_b n_b c_b), (.int .i64 least)] w fun e w' => ∃ v, e = .returned v ∧ (fun v w' => v = .bool (decide (true)) ∧ KB No w w') v w' := by
  subst hn_a hn_b
  have hS : SH w No w [] := SH.nil _ _
  refine calls (l := litOf [(.slice A_a a.length c_a), (.slice A_b b.length c_b), (.int .i64 least)] 0) Try.func3 rfl (n := 77) rfl (Nat.le_of_ble_eq_true rfl) (lit_args _) ?_
  refine WC.seq ?_
  refine WC.region ?_
  refine WL.lv rfl (LV.asg rfl) ?_
  refine WL.nil (thenQ.n ?_)
  refine WC.seq ?_
  refine WC.region ?_
  refine WL.lv rfl (LV.mv rfl) ?_
  refine WL.call rfl (XC.fn Try.func7 (by kernel_rfl) rfl rfl rfl) (few37_calls (SH.stN hS h_a)) ?_
  rintro v_ w1 ⟨rfl, hk1⟩
  have hS1 := SH.same hS hk1
  refine WL.lv rfl (LV.mv rfl) ?_
  refine WL.call rfl (XC.fn Try.func7 (by kernel_rfl) rfl rfl rfl) (few37_calls (SH.stN hS1 h_b)) ?_
  rintro v_ w2 ⟨rfl, hk2⟩
  have hS2 := SH.same hS1 hk2
  iterate 2 refine WL.lv rfl (LV.asg rfl) ?_
  refine WL.nil (thenQ.n ?_)
  refine WC.seq ?_
  refine WC.region ?_
  iterate 3 refine WL.lv rfl (LV.mv rfl) ?_
  refine WL.call rfl (XC.fn Try.func8 (by kernel_rfl) rfl rfl rfl) (find_calls (least := least) (SH.stN hS2 (few_rd 25 h_a)) rfl (SH.stN hS2 (few_rd 25 h_b)) rfl ) ?_
  rintro v_ w3 ⟨A1, c1, rfl, hS3⟩
  have hS4 := SH.joinN hS2 hS3
  refine WL.lv rfl (LV.mv rfl) ?_
  iterate 2 refine WL.lv rfl (LV.extract rfl rfl) ?_
  iterate 2 refine WL.lv rfl (LV.asg rfl) ?_
  refine WL.nil (thenQ.n ?_)
  refine WC.seq ?_
  refine WC.region ?_
  iterate 3 refine WL.lv rfl (LV.mv rfl) ?_
  refine WL.call rfl (XC.fn Try.func9 (by kernel_rfl) rfl rfl rfl) (rfind_calls (least := least) (SH.stN hS4 (few_rd 25 h_a)) rfl (SH.stN hS4 (few_rd 25 h_b)) rfl ) ?_
  rintro v_ w4 ⟨A2, c2, rfl, hS5⟩
  have hS6 := SH.joinN hS4 hS5
  refine WL.lv rfl (LV.mv rfl) ?_
  iterate 2 refine WL.lv rfl (LV.extract rfl rfl) ?_
  iterate 2 refine WL.lv rfl (LV.asg rfl) ?_
  refine WL.nil (thenQ.n ?_)
  refine WC.seq ?_
  refine WC.region ?_
  iterate 3 refine WL.lv rfl (LV.mv rfl) ?_
  refine WL.call rfl (XC.fn Try.func10 (by kernel_rfl) rfl rfl rfl) (signs_calls (least := least) (SH.stN hS6 (few_rd 25 h_a)) rfl (SH.stN hS6 (few_rd 25 h_b)) rfl ) ?_
  rintro v_ w5 ⟨rfl, hk3⟩
  have hS7 := SH.same hS6 hk3
  refine WL.lv rfl (LV.mv rfl) ?_
  iterate 3 refine WL.lv rfl (LV.extract rfl rfl) ?_
  iterate 3 refine WL.lv rfl (LV.asg rfl) ?_
  refine WL.nil (thenQ.n ?_)
  refine WC.seq ?_
  refine WC.region ?_
  iterate 3 refine WL.lv rfl (LV.mv rfl) ?_
  refine WL.call rfl (XC.fn Try.func11 (by kernel_rfl) rfl rfl rfl) (rsigns_calls (least := least) (SH.stN hS7 (few_rd 25 h_a)) rfl (SH.stN hS7 (few_rd 25 h_b)) rfl ) ?_
  rintro v_ w6 ⟨rfl, hk4⟩
  have hS8 := SH.same hS7 hk4
  refine WL.lv rfl (LV.mv rfl) ?_
  iterate 3 refine WL.lv rfl (LV.extract rfl rfl) ?_
  iterate 3 refine WL.lv rfl (LV.asg rfl) ?_
  refine WL.nil (thenQ.n ?_)
  refine WC.seq ?_
  refine WC.region ?_
  refine WL.call rfl (XC.fn Try.func12 (by kernel_rfl) rfl rfl rfl) (live37_calls  ) ?_
  rintro v_ w7 ⟨rfl, hk5⟩
  have hS9 := SH.same hS8 hk5
  iterate 3 refine WL.lv rfl (LV.mv rfl) ?_
  refine WL.call rfl (XC.fn Try.func13 (by kernel_rfl) rfl rfl rfl) (Calls.asB (same37_calls  (SH.rd hS9 (.tail _ (.head _))) rfl (SH.rd hS9 (.head _)) rfl ) (decide_eq_true (rfl))) ?_
  rintro v_ w8 ⟨rfl, hk6⟩
  have hS10 := SH.same hS9 hk6
  refine WL.lv rfl (LV.pickT rfl rfl) ?_
  iterate 3 refine WL.lv rfl (LV.mv rfl) ?_
  refine WL.lv rfl (LV.as (LV.eqI rfl rfl) (decide_eq_true (rfl))) ?_
  refine WL.lv rfl (LV.pickT rfl rfl) ?_
  iterate 3 refine WL.lv rfl (LV.mv rfl) ?_
  refine WL.lv rfl (LV.as (c := true) (LV.eqS rfl rfl) (beq_self_eq_true _)) ?_
  refine WL.lv rfl (LV.pickT rfl rfl) ?_
  iterate 3 refine WL.lv rfl (LV.mv rfl) ?_
  refine WL.lv rfl (LV.as (c := true) (LV.eqS rfl rfl) (beq_self_eq_true _)) ?_
  refine WL.lv rfl (LV.pickT rfl rfl) ?_
  iterate 3 refine WL.lv rfl (LV.mv rfl) ?_
  refine WL.lv rfl (LV.as (LV.eqI rfl rfl) (decide_eq_true (rfl))) ?_
  refine WL.lv rfl (LV.pickT rfl rfl) ?_
  refine WL.lv rfl (LV.asg rfl) ?_
  refine WL.nil (thenQ.n ?_)
  refine WC.ret (?_)
  exact ⟨_, fun a ha => res1 rfl ha rfl, rfl, hS10.kb⟩

set_option maxHeartbeats 2000000 in
theorem movesGrows_law {w : World} {A_x : Option Addr} {n_x c_x : Nat} {x : List Int} {A_y : Option Addr} {n_y c_y : Nat} {y : List Int} {A_used : Option Addr} {n_used c_used : Nat} {used : List Bool} {A_taken : Option Addr} {n_taken c_taken : Nat} {taken : List Bool} {i : Int} {j : Int} {A_a : Option Addr} {n_a c_a : Nat} {a : List Ln} {A_b : Option Addr} {n_b c_b : Nat} {b : List Ln} (h_x : St No w (Rd eI (.slice A_x n_x c_x) x)) (hn_x : x.length = n_x) (h_y : St No w (Rd eI (.slice A_y n_y c_y) y)) (hn_y : y.length = n_y) (h_used : St No w (Rd eB (.slice A_used n_used c_used) used)) (hn_used : used.length = n_used) (h_taken : St No w (Rd eB (.slice A_taken n_taken c_taken) taken)) (hn_taken : taken.length = n_taken) (h_a : St No w (Rd eL (.slice A_a n_a c_a) a)) (hn_a : a.length = n_a) (h_b : St No w (Rd eL (.slice A_b n_b c_b) b)) (hn_b : b.length = n_b)  :
    Calls Try.prog 4 #[(.slice A_x n_x c_x), (.slice A_y n_y c_y), (.slice A_used n_used c_used), (.slice A_taken n_taken c_taken), (.int .i64 i), (.int .i64 j), (.slice A_a n_a c_a), (.slice A_b n_b c_b)] w fun e w' => ∃ v, e = .returned v ∧ (fun v w' => v = .bool (decide (true)) ∧ KB No w w') v w' := by
  subst hn_x hn_y hn_used hn_taken hn_a hn_b
  have hS : SH w No w [] := SH.nil _ _
  refine calls (l := litOf [(.slice A_x x.length c_x), (.slice A_y y.length c_y), (.slice A_used used.length c_used), (.slice A_taken taken.length c_taken), (.int .i64 i), (.int .i64 j), (.slice A_a a.length c_a), (.slice A_b b.length c_b)] 0) Try.func4 rfl (n := 75) rfl (Nat.le_of_ble_eq_true rfl) (lit_args _) ?_
  refine WC.seq ?_
  refine WC.region ?_
  refine WL.lv rfl (LV.asg rfl) ?_
  refine WL.nil (thenQ.n ?_)
  refine WC.seq ?_
  have hS1 := SH.drew hS
  refine WC.regionD [] (fun w_ => KB No w.drew w_) [(.pure, 0), (.pure, 1), (.pure, 2), (.pure, 3), (.pure, 4), (.pure, 5), (.pure, 6), (.pure, 7), (.pure, 8), (.pure, 9), (.pure, 10), (.pure, 12), (.forced, 11), (.forced, 13), (.pure, 14), (.pure, 15), (.pure, 16), (.pure, 17)] (by kernel_rfl) (by kernel_rfl) (KB.refl _ _) ?_
  iterate 2 refine WS.pure rfl rfl (fun _ => LV.mv rfl) ?_
  refine WS.pure rfl rfl (fun _ => LV.lenL Try.underlying33 rfl) ?_
  refine WS.pure rfl rfl (fun _ => LV.minI rfl rfl) ?_
  have hcap1 : x.length ≤ c_x := (Rd.cap (St.now (SH.stN hS1 h_x)))
  refine WS.pure rfl rfl (fun _ => LV.cut Try.underlying33 ti3.sz rfl rfl rfl rfl ⟨.inl ⟨rfl, rfl⟩, .inr ⟨.i64, by rw [Int.toNat_of_nonneg (a := min (x.length : Int) 40) (by omega)] <;> rfl⟩, .inl ⟨rfl, rfl⟩⟩ (by omega) (by omega) (by omega)) ?_
  iterate 2 refine WS.pure rfl rfl (fun _ => LV.mv rfl) ?_
  refine WS.pure rfl rfl (fun _ => LV.lenL Try.underlying33 rfl) ?_
  refine WS.pure rfl rfl (fun _ => LV.minI rfl rfl) ?_
  have hcap2 : y.length ≤ c_y := (Rd.cap (St.now (SH.stN hS1 h_y)))
  refine WS.pure rfl rfl (fun _ => LV.cut Try.underlying33 ti3.sz rfl rfl rfl rfl ⟨.inl ⟨rfl, rfl⟩, .inr ⟨.i64, by rw [Int.toNat_of_nonneg (a := min (y.length : Int) 40) (by omega)] <;> rfl⟩, .inl ⟨rfl, rfl⟩⟩ (by omega) (by omega) (by omega)) ?_
  iterate 2 refine WS.pure rfl rfl (fun _ => LV.mv rfl) ?_
  refine WS.call rfl rfl (XC.fn Try.func7 (by kernel_rfl) rfl rfl rfl) (few37_calls (SH.stN hS1 h_a)) ?_
  rintro v_ w1 ⟨rfl, hk1⟩
  have hS2 := SH.same hS1 hk1
  refine ⟨fun h_ => (KB.transN (KB.refl _ _) hk1), ?_⟩
  refine WS.call rfl rfl (XC.fn Try.func7 (by kernel_rfl) rfl rfl rfl) (few37_calls (SH.stN hS2 h_b)) ?_
  rintro v_ w2 ⟨rfl, hk2⟩
  have hS3 := SH.same hS2 hk2
  refine ⟨fun h_ => (KB.transN (KB.transN (KB.refl _ _) hk1) hk2), ?_⟩
  iterate 4 refine WS.pure rfl rfl (fun _ => LV.asg rfl) ?_
  refine WS.nil (thenQ.n ?_)
  refine WC.seq ?_
  refine WC.region ?_
  iterate 2 refine WL.lv rfl (LV.mv rfl) ?_
  refine WL.call rfl (XC.fn Try.func14 (by kernel_rfl) rfl rfl rfl) (stay_calls  (SH.stN hS3 (few_rd 25 h_a)) rfl (SH.stN hS3 (few_rd 25 h_b)) rfl ) ?_
  rintro v_ w3 ⟨A1, c1, rfl, hS4⟩
  have hS5 := SH.joinN hS3 hS4
  refine WL.lv rfl (LV.mv rfl) ?_
  iterate 2 refine WL.lv rfl (LV.extract rfl rfl) ?_
  iterate 2 refine WL.lv rfl (LV.asg rfl) ?_
  refine WL.nil (thenQ.n ?_)
  refine WC.seq ?_
  refine WC.region ?_
  iterate 2 refine WL.lv rfl (LV.mv rfl) ?_
  refine WL.call rfl (XC.fn Try.func15 (by kernel_rfl) rfl rfl rfl) (rstay_calls  (SH.stN hS5 (few_rd 25 h_a)) rfl (SH.stN hS5 (few_rd 25 h_b)) rfl ) ?_
  rintro v_ w4 ⟨A2, c2, rfl, hS6⟩
  have hS7 := SH.joinN hS5 hS6
  refine WL.lv rfl (LV.mv rfl) ?_
  iterate 2 refine WL.lv rfl (LV.extract rfl rfl) ?_
  iterate 2 refine WL.lv rfl (LV.asg rfl) ?_
  refine WL.nil (thenQ.n ?_)
  refine WC.seq ?_
  refine WC.region ?_
  refine WL.call rfl (XC.fn Try.func12 (by kernel_rfl) rfl rfl rfl) (live37_calls  ) ?_
  rintro v_ w5 ⟨rfl, hk3⟩
  have hS8 := SH.same hS7 hk3
  iterate 7 refine WL.lv rfl (LV.mv rfl) ?_
  refine WL.call rfl (XC.fn Try.func16 (by kernel_rfl) rfl rfl rfl) (grow_calls (i := i) (j := j) ((SH.stN hS8 h_x).imp fun _ h => Rd.cut h (by omega) (by omega) (by omega) (by omega)) (by simp; omega) ((SH.stN hS8 h_y).imp fun _ h => Rd.cut h (by omega) (by omega) (by omega) (by omega)) (by simp; omega) (SH.stN hS8 h_used) rfl (SH.stN hS8 h_taken) rfl ) ?_
  rintro v_ w6 ⟨rfl, hk4⟩
  have hS9 := SH.same hS8 hk4
  iterate 6 refine WL.lv rfl (LV.mv rfl) ?_
  refine WL.call rfl (XC.fn Try.func17 (by kernel_rfl) rfl rfl rfl) (rgrow_calls (i := i) (j := j) ((SH.stN hS9 h_x).imp fun _ h => Rd.cut h (by omega) (by omega) (by omega) (by omega)) (by simp; omega) ((SH.stN hS9 h_y).imp fun _ h => Rd.cut h (by omega) (by omega) (by omega) (by omega)) (by simp; omega) (SH.stN hS9 h_used) rfl (SH.stN hS9 h_taken) rfl ) ?_
  rintro v_ w7 ⟨rfl, hk5⟩
  have hS10 := SH.same hS9 hk5
  refine WL.lv rfl (LV.as (LV.eqI rfl rfl) (decide_eq_true (rfl))) ?_
  refine WL.lv rfl (LV.pickT rfl rfl) ?_
  iterate 3 refine WL.lv rfl (LV.mv rfl) ?_
  refine WL.call rfl (XC.fn Try.func18 (by kernel_rfl) rfl rfl rfl) (same6_true (SH.rd hS10 (.tail _ (.head _))) (SH.rd hS10 (.head _))) ?_
  rintro v_ w8 ⟨rfl, hk6⟩
  have hS11 := SH.same hS10 hk6
  refine WL.lv rfl (LV.pickT rfl rfl) ?_
  iterate 3 refine WL.lv rfl (LV.mv rfl) ?_
  refine WL.lv rfl (LV.as (LV.eqI rfl rfl) (decide_eq_true (rfl))) ?_
  refine WL.lv rfl (LV.pickT rfl rfl) ?_
  refine WL.lv rfl (LV.asg rfl) ?_
  refine WL.nil (thenQ.n ?_)
  refine WC.ret (?_)
  exact ⟨_, fun a ha => res1 rfl ha rfl, rfl, hS11.kb⟩

set_option maxHeartbeats 2000000 in
theorem movesNone_law {w : World} {A_a : Option Addr} {n_a c_a : Nat} {a : List Ln} {A_b : Option Addr} {n_b c_b : Nat} {b : List Ln} {least : Int} {long : Bool} (h_a : St No w (Rd eL (.slice A_a n_a c_a) a)) (hn_a : a.length = n_a) (h_b : St No w (Rd eL (.slice A_b n_b c_b) b)) (hn_b : b.length = n_b) (h8 : 0 ≤ least ∧ least ≤ 255) :
    Calls Try.prog 6 #[(.slice A_a n_a c_a), (.slice A_b n_b c_b), (.int .u8 least), (.bool long)] w fun e w' => ∃ v, e = .returned v ∧ (fun v w' => v = .bool (decide (true)) ∧ KB No w w') v w' := by
  subst hn_a hn_b
  have ha25 : (a.take 25).length ≤ 25 := by rw [List.length_take]; omega
  have hb25 : (b.take 25).length ≤ 25 := by rw [List.length_take]; omega
  have hS : SH w No w [] := SH.nil _ _
  refine calls (l := litOf [(.slice A_a a.length c_a), (.slice A_b b.length c_b), (.int .u8 least), (.bool long)] 0) Try.func6 rfl (n := 68) rfl (Nat.le_of_ble_eq_true rfl) (lit_args _) ?_
  refine WC.seq ?_
  refine WC.region ?_
  refine WL.lv rfl (LV.asg rfl) ?_
  refine WL.nil (thenQ.n ?_)
  refine WC.seq ?_
  refine WC.region ?_
  refine WL.lv rfl (LV.mv rfl) ?_
  refine WL.call rfl (XC.fn Try.func7 (by kernel_rfl) rfl rfl rfl) (few37_calls (SH.stN hS h_a)) ?_
  rintro v_ w1 ⟨rfl, hk1⟩
  have hS1 := SH.same hS hk1
  refine WL.lv rfl (LV.mv rfl) ?_
  refine WL.call rfl (XC.fn Try.func7 (by kernel_rfl) rfl rfl rfl) (few37_calls (SH.stN hS1 h_b)) ?_
  rintro v_ w2 ⟨rfl, hk2⟩
  have hS2 := SH.same hS1 hk2
  iterate 2 refine WL.lv rfl (LV.asg rfl) ?_
  refine WL.nil (thenQ.n ?_)
  refine WC.seq ?_
  refine WC.region ?_
  iterate 3 refine WL.lv rfl (LV.mv rfl) ?_
  refine WL.lv rfl (LV.cvtI Try.underlying5 Try.underlying3 rfl (wr64 (by omega) (by omega))) ?_
  refine WL.lv rfl (LV.add rfl rfl (wr64 (by omega) (by omega))) ?_
  refine WL.call rfl (XC.fn Try.func8 (by kernel_rfl) rfl rfl rfl) (find_calls (least := (1 + least)) (SH.stN hS2 (few_rd 25 h_a)) rfl (SH.stN hS2 (few_rd 25 h_a)) rfl ) ?_
  rintro v_ w3 ⟨A1, c1, rfl, hS3⟩
  have hS4 := SH.joinN hS2 hS3
  refine WL.lv rfl (LV.mv rfl) ?_
  iterate 2 refine WL.lv rfl (LV.extract rfl rfl) ?_
  iterate 2 refine WL.lv rfl (LV.asg rfl) ?_
  refine WL.nil (thenQ.n ?_)
  refine WC.seq ?_
  refine WC.region ?_
  iterate 2 refine WL.lv rfl (LV.mv rfl) ?_
  refine WL.call rfl (XC.fn Try.func14 (by kernel_rfl) rfl rfl rfl) (stay_calls  (SH.stN hS4 (few_rd 25 h_a)) rfl (SH.stN hS4 (few_rd 25 h_b)) rfl ) ?_
  rintro v_ w4 ⟨A2, c2, rfl, hS5⟩
  have hS6 := SH.joinN hS4 hS5
  refine WL.lv rfl (LV.mv rfl) ?_
  iterate 2 refine WL.lv rfl (LV.extract rfl rfl) ?_
  iterate 2 refine WL.lv rfl (LV.asg rfl) ?_
  refine WL.nil (thenQ.n ?_)
  refine WC.seq ?_
  refine WC.region ?_
  iterate 2 refine WL.lv rfl (LV.mv rfl) ?_
  refine WL.call rfl (XC.fn Try.func14 (by kernel_rfl) rfl rfl rfl) (stay_calls  (SH.stN hS6 (few_rd 25 h_b)) rfl (SH.stN hS6 (few_rd 25 h_a)) rfl ) ?_
  rintro v_ w5 ⟨A3, c3, rfl, hS7⟩
  have hS8 := SH.joinN hS6 hS7
  refine WL.lv rfl (LV.mv rfl) ?_
  iterate 2 refine WL.lv rfl (LV.extract rfl rfl) ?_
  iterate 2 refine WL.lv rfl (LV.asg rfl) ?_
  refine WL.nil (thenQ.n ?_)
  iterate 2 refine WC.seq ?_
  refine WC.region ?_
  refine WL.lv rfl (LV.mv rfl) ?_
  refine WL.nil (thenQ.n ?_)
  refine WC.cond (b := long) rfl (fun hc1 => ?_) (fun hc1 => ?_)
  · skip
    refine WC.seq ?_
    refine WC.region ?_
    refine WL.xe rfl (XE.makeN (E := eL) (n := 401) lnD hS8 Try.underlying22 ti45 rfl (by decide) rfl rfl rfl rfl (by omega) (by omega)) ?_
    rintro _ w6 ⟨b1, rfl, hS9, hk3⟩
    refine WL.lv rfl (LV.mv rfl) ?_
    refine WL.call rfl (XC.fn Try.func8 (by kernel_rfl) rfl rfl rfl) (find_calls (least := (1 : Int)) (SH.rd hS9 (.head _)) (by first | exact List.length_replicate | omega) (SH.stN hS9 (few_rd 25 h_b)) rfl ) ?_
    rintro v_ w7 ⟨A4, c4, rfl, hS10⟩
    have hS11 := SH.joinN hS9 hS10
    refine WL.lv rfl (LV.mv rfl) ?_
    iterate 2 refine WL.lv rfl (LV.extract rfl rfl) ?_
    iterate 2 refine WL.lv rfl (LV.asg rfl) ?_
    refine WL.nil (thenQ.n ?_)
    refine WC.seq ?_
    refine WC.region ?_
    refine WL.lv rfl (LV.mv rfl) ?_
    refine WL.lv rfl (LV.as (LV.neI rfl rfl) (decide_eq_false (fun h_ => h_ (FE_long (by rw [List.length_replicate]; decide))))) ?_
    refine WL.nil (thenQ.n ?_)
    refine WC.condF rfl ?_
    refine WC.skip (thenQ.n ?_)
    refine WC.seq ?_
    refine WC.region ?_
    refine WL.call rfl (XC.fn Try.func12 (by kernel_rfl) rfl rfl rfl) (live37_calls  ) ?_
    rintro v_ w8 ⟨rfl, hk4⟩
    have hS12 := SH.same hS11 hk4
    iterate 2 refine WL.lv rfl (LV.mv rfl) ?_
    refine WL.lv rfl (LV.as (LV.eqI rfl rfl) (decide_eq_true (FE_z (by omega) (by omega) (by omega) (by omega)))) ?_
    refine WL.lv rfl (LV.pickT rfl rfl) ?_
    iterate 2 refine WL.lv rfl (LV.mv rfl) ?_
    refine WL.lv rfl (LV.lenL Try.underlying24 rfl) ?_
    refine WL.lv rfl (LV.as (LV.eqI rfl rfl) (decide_eq_true (by rw [FB_self (by omega) (by omega)]; rfl))) ?_
    refine WL.lv rfl (LV.pickT rfl rfl) ?_
    iterate 2 refine WL.lv rfl (LV.mv rfl) ?_
    refine WL.lv rfl (LV.lenL Try.underlying35 rfl) ?_
    refine WL.lv rfl (LV.mv rfl) ?_
    refine WL.lv rfl (LV.lenL Try.underlying35 rfl) ?_
    refine WL.lv rfl (LV.as (LV.eqI rfl rfl) (decide_eq_true (by rw [STY_comm (by omega) (by omega)]))) ?_
    refine WL.lv rfl (LV.pickT rfl rfl) ?_
    refine WL.lv rfl (LV.asg rfl) ?_
    refine WL.nil (thenQ.n ?_)
    refine WC.ret (?_)
    exact ⟨_, fun a ha => res1 rfl ha rfl, rfl, hS12.kb⟩
  · skip
    refine WC.skip (thenQ.n ?_)
    refine WC.seq ?_
    refine WC.region ?_
    refine WL.call rfl (XC.fn Try.func12 (by kernel_rfl) rfl rfl rfl) (live37_calls  ) ?_
    rintro v_ w9 ⟨rfl, hk5⟩
    have hS13 := SH.same hS8 hk5
    iterate 2 refine WL.lv rfl (LV.mv rfl) ?_
    refine WL.lv rfl (LV.as (LV.eqI rfl rfl) (decide_eq_true (FE_z (by omega) (by omega) (by omega) (by omega)))) ?_
    refine WL.lv rfl (LV.pickT rfl rfl) ?_
    iterate 2 refine WL.lv rfl (LV.mv rfl) ?_
    refine WL.lv rfl (LV.lenL Try.underlying24 rfl) ?_
    refine WL.lv rfl (LV.as (LV.eqI rfl rfl) (decide_eq_true (by rw [FB_self (by omega) (by omega)]; rfl))) ?_
    refine WL.lv rfl (LV.pickT rfl rfl) ?_
    iterate 2 refine WL.lv rfl (LV.mv rfl) ?_
    refine WL.lv rfl (LV.lenL Try.underlying35 rfl) ?_
    refine WL.lv rfl (LV.mv rfl) ?_
    refine WL.lv rfl (LV.lenL Try.underlying35 rfl) ?_
    refine WL.lv rfl (LV.as (LV.eqI rfl rfl) (decide_eq_true (by rw [STY_comm (by omega) (by omega)]))) ?_
    refine WL.lv rfl (LV.pickT rfl rfl) ?_
    refine WL.lv rfl (LV.asg rfl) ?_
    refine WL.nil (thenQ.n ?_)
    refine WC.ret (?_)
    exact ⟨_, fun a ha => res1 rfl ha rfl, rfl, hS13.kb⟩

end Go.Proofs.Ytkceknbjlogehaa
