/- The laws of patience. -/
import Derived.Test.YtkglebminidfeaaPaH
namespace Go.Proofs.Ytkglebminidfeaa
open Go Go.Gv Go.RowKit Go.Mys Go.Itn Go.Pat
set_option linter.unusedVariables false
set_option linter.unusedSimpArgs false
theorem ti5 : TI Try.prog 5 (.int .u8 0) 1 1 := by unfold TI; kernel_rfl

theorem few27_calls {w : World} {A0 : Option Addr} {a : List Int} {c0 : Nat} (ha : St No w (Rd eI (.slice A0 a.length c0) a)) :
    Calls Try.prog 7 #[(.slice A0 a.length c0)] w fun e w' => ∃ v, e = .returned v ∧ (fun v w' => v = .slice (cutA A0 c0 1) (a.take 40).length c0 ∧ KB No w w') v w' := by
  have hS : SH w No w [] := SH.nil _ _
  refine calls (l := litOf [(.slice A0 a.length c0)] 0) Try.func7 rfl (n := 8) rfl (Nat.le_of_ble_eq_true rfl) (lit_args _) ?_
  refine WC.seq ?_
  refine WC.region ?_
  refine WL.lv rfl (LV.asg rfl) ?_
  refine WL.nil (thenQ.n ?_)
  refine WC.seq ?_
  refine WC.region ?_
  iterate 2 refine WL.lv rfl (LV.mv rfl) ?_
  refine WL.lv rfl (LV.lenL Try.underlying22 rfl) ?_
  refine WL.lv rfl (LV.minI rfl rfl) ?_
  have hcap1 : a.length ≤ c0 := (Rd.cap (St.now (SH.stN hS ha)))
  refine WL.lv rfl (LV.cut Try.underlying22 ti3.sz rfl rfl rfl rfl ⟨.inl ⟨rfl, rfl⟩, .inr ⟨.i64, by rw [Int.toNat_of_nonneg (a := min (a.length : Int) 40) (by omega)] <;> rfl⟩, .inl ⟨rfl, rfl⟩⟩ (by omega) (by omega) (by omega)) ?_
  refine WL.lv rfl (LV.asg rfl) ?_
  refine WL.nil (thenQ.n ?_)
  refine WC.ret (?_)
  exact ⟨_, fun a ha => res1 rfl ha rfl, congrArg (fun n => Value.slice (cutA A0 c0 1) n c0) (by rw [List.length_take]; omega), hS.kb⟩

theorem ints_eq {w : World} {A_a : Option Addr} {n_a c_a : Nat} {a : List Int} {A_b : Option Addr} {n_b c_b : Nat} {b : List Int} (h_a : St No w (Rd eI (.slice A_a n_a c_a) a)) (hn_a : a.length = n_a) (h_b : St No w (Rd eI (.slice A_b n_b c_b) b)) (hn_b : b.length = n_b)  :
    Calls Try.prog 9 #[(.slice A_a n_a c_a), (.slice A_b n_b c_b)] w fun e w' => ∃ v, e = .returned v ∧ (fun v w' => v = .bool (decide (a = b)) ∧ KB No w w') v w' := by
  subst hn_a hn_b; exact ints_calls h_a h_b

theorem same6_eq {w : World} {A_a : Option Addr} {n_a c_a : Nat} {a : List (Int × Int)} {A_b : Option Addr} {n_b c_b : Nat} {b : List (Int × Int)} (h_a : St No w (Rd eP (.slice A_a n_a c_a) a)) (hn_a : a.length = n_a) (h_b : St No w (Rd eP (.slice A_b n_b c_b) b)) (hn_b : b.length = n_b)  :
    Calls Try.prog 12 #[(.slice A_a n_a c_a), (.slice A_b n_b c_b)] w fun e w' => ∃ v, e = .returned v ∧ (fun v w' => v = .bool (decide (a = b)) ∧ KB No w w') v w' := by
  subst hn_a hn_b; exact same6_calls h_a h_b

theorem same7_eq {w : World} {A_a : Option Addr} {n_a c_a : Nat} {a : List Int} {A_b : Option Addr} {n_b c_b : Nat} {b : List Int} (h_a : St No w (Rd eI (.slice A_a n_a c_a) a)) (hn_a : a.length = n_a) (h_b : St No w (Rd eI (.slice A_b n_b c_b) b)) (hn_b : b.length = n_b)  :
    Calls Try.prog 17 #[(.slice A_a n_a c_a), (.slice A_b n_b c_b)] w fun e w' => ∃ v, e = .returned v ∧ (fun v w' => v = .bool (decide (a = b)) ∧ KB No w w') v w' := by
  subst hn_a hn_b; exact same7_calls h_a h_b

theorem live27_calls {w : World}  :
    Calls Try.prog 8 #[] w fun e w' => ∃ v, e = .returned v ∧ (fun v w' => v = .bool (decide (true)) ∧ KB No w w') v w' := by
  have hS : SH w No w [] := SH.nil _ _
  refine calls (l := litOf [] 0) Try.func8 rfl (n := 20) rfl (Nat.le_of_ble_eq_true rfl) (lit_args _) ?_
  refine WC.seq ?_
  refine WC.region ?_
  refine WL.lv rfl (LV.asg rfl) ?_
  refine WL.nil (thenQ.n ?_)
  refine WC.seq ?_
  refine WC.region ?_
  refine WL.xe rfl (XE.buildSlice (E := eI) [(0, (.int .i64 3)), (1, (.int .i64 1)), (2, (.int .i64 2))] #[(.int .i64 3), (.int .i64 1), (.int .i64 2)] [3, 1, 2] hS Try.underlying22 ti3 rfl (by decide) (by kernel_rfl) (.inr rfl) rfl rfl (by decide)) ?_
  rintro _ w1 ⟨b1, rfl, hS1, hk1⟩
  refine WL.call rfl (XC.fn Try.func10 (by kernel_rfl) rfl rfl rfl) (longest_calls  (SH.rd hS1 (.head _)) rfl (by first | omega | (simp; done) | (simp; omega))) ?_
  rintro v_ w2 ⟨A1, c1, rfl, hS2⟩
  have hS3 := SH.joinN hS1 hS2
  refine WL.xe rfl (XE.buildSlice (E := eI) [(0, (.int .i64 1)), (1, (.int .i64 2))] #[(.int .i64 1), (.int .i64 2)] [1, 2] hS3 Try.underlying22 ti3 rfl (by decide) (by kernel_rfl) (.inr rfl) rfl rfl (by decide)) ?_
  rintro _ w3 ⟨b2, rfl, hS4, hk2⟩
  refine WL.call rfl (XC.fn Try.func9 (by kernel_rfl) rfl rfl rfl) (Calls.asB (ints_eq  (SH.rd hS4 (.tail _ (.head _))) rfl (SH.rd hS4 (.head _)) rfl ) (decide_eq_true (live27a))) ?_
  rintro v_ w4 ⟨rfl, hk3⟩
  have hS5 := SH.same hS4 hk3
  refine WL.lv rfl (LV.mv rfl) ?_
  refine WL.xe rfl (XE.buildSlice (E := eI) [(0, (.int .i64 1)), (1, (.int .i64 2))] #[(.int .i64 1), (.int .i64 2)] [1, 2] hS5 Try.underlying22 ti3 rfl (by decide) (by kernel_rfl) (.inr rfl) rfl rfl (by decide)) ?_
  rintro _ w5 ⟨b3, rfl, hS6, hk4⟩
  refine WL.xe rfl (XE.buildSlice (E := eI) [(0, (.int .i64 2))] #[(.int .i64 2)] [2] hS6 Try.underlying22 ti3 rfl (by decide) (by kernel_rfl) (.inr rfl) rfl rfl (by decide)) ?_
  rintro _ w6 ⟨b4, rfl, hS7, hk5⟩
  refine WL.call rfl (XC.fn Try.func15 (by kernel_rfl) rfl rfl rfl) (pairs27_calls  (SH.rd hS7 (.tail _ (.head _))) rfl (SH.rd hS7 (.head _)) rfl ) ?_
  rintro v_ w7 ⟨A2, c2, rfl, hS8⟩
  have hS9 := SH.joinN hS7 hS8
  refine WL.lv rfl (LV.buildA (vs := [(0, (.int .i64 1)), (1, (.int .i64 0))]) (cs := #[(.int .i64 1), (.int .i64 0)]) Try.underlying37 ti37 ti3 rfl rfl) ?_
  refine WL.xe rfl (XE.buildSlice (E := eP) [(0, (.agg #[(.int .i64 1), (.int .i64 0)]))] #[(.int .i64 1), (.int .i64 0)] [(1, 0)] hS9 Try.underlying30 ti37 rfl (by decide) (by kernel_rfl) (.inr rfl) rfl rfl (by decide)) ?_
  rintro _ w8 ⟨b5, rfl, hS10, hk6⟩
  refine WL.call rfl (XC.fn Try.func12 (by kernel_rfl) rfl rfl rfl) (Calls.asB (same6_eq  (SH.rd hS10 (.tail _ (.head _))) rfl (SH.rd hS10 (.head _)) rfl ) (decide_eq_true (live27b))) ?_
  rintro v_ w9 ⟨rfl, hk7⟩
  have hS11 := SH.same hS10 hk7
  refine WL.lv rfl (LV.pickT rfl rfl) ?_
  refine WL.lv rfl (LV.mv rfl) ?_
  refine WL.xe rfl (XE.buildSlice (E := eI) [(0, (.int .i64 1))] #[(.int .i64 1)] [1] hS11 Try.underlying22 ti3 rfl (by decide) (by kernel_rfl) (.inr rfl) rfl rfl (by decide)) ?_
  rintro _ w10 ⟨b6, rfl, hS12, hk8⟩
  refine WL.xe rfl (XE.buildSlice (E := eI) [(0, (.int .i64 2))] #[(.int .i64 2)] [2] hS12 Try.underlying22 ti3 rfl (by decide) (by kernel_rfl) (.inr rfl) rfl rfl (by decide)) ?_
  rintro _ w11 ⟨b7, rfl, hS13, hk9⟩
  refine WL.call rfl (XC.fn Try.func18 (by kernel_rfl) rfl rfl rfl) (steps27_calls  (SH.rd hS13 (.tail _ (.head _))) rfl (SH.rd hS13 (.head _)) rfl ) ?_
  rintro v_ w12 ⟨A3, c3, rfl, hS14⟩
  have hS15 := SH.joinN hS13 hS14
  refine WL.lv rfl (LV.lenL Try.underlying33 rfl) ?_
  refine WL.lv rfl (LV.as (LV.eqI rfl rfl) (decide_eq_true (by rw [live27c]; rfl))) ?_
  refine WL.lv rfl (LV.pickT rfl rfl) ?_
  refine WL.lv rfl (LV.asg rfl) ?_
  refine WL.nil (thenQ.n ?_)
  refine WC.ret (?_)
  exact ⟨_, fun a ha => res1 rfl ha rfl, rfl, hS15.kb⟩

set_option maxHeartbeats 2000000 in
theorem patienceLongest_law {w : World} {A_l : Option Addr} {n_l c_l : Nat} {l : List Int} (h_l : St No w (Rd eI (.slice A_l n_l c_l) l)) (hn_l : l.length = n_l)  :
    Calls Try.prog 3 #[(.slice A_l n_l c_l)] w fun e w' => ∃ v, e = .returned v ∧ (fun v w' => v = .bool (decide (true)) ∧ KB No w w') v w' := by
  subst hn_l
  have hS : SH w No w [] := SH.nil _ _
  refine calls (l := litOf [(.slice A_l l.length c_l)] 0) Try.func3 rfl (n := 13) rfl (Nat.le_of_ble_eq_true rfl) (lit_args _) ?_
  refine WC.seq ?_
  refine WC.region ?_
  refine WL.lv rfl (LV.asg rfl) ?_
  refine WL.nil (thenQ.n ?_)
  refine WC.seq ?_
  refine WC.region ?_
  refine WL.lv rfl (LV.mv rfl) ?_
  refine WL.call rfl (XC.fn Try.func7 (by kernel_rfl) rfl rfl rfl) (few27_calls (SH.stN hS h_l)) ?_
  rintro v_ w1 ⟨rfl, hk1⟩
  have hS1 := SH.same hS hk1
  refine WL.lv rfl (LV.asg rfl) ?_
  refine WL.nil (thenQ.n ?_)
  refine WC.seq ?_
  refine WC.region ?_
  refine WL.call rfl (XC.fn Try.func8 (by kernel_rfl) rfl rfl rfl) (live27_calls  ) ?_
  rintro v_ w2 ⟨rfl, hk2⟩
  have hS2 := SH.same hS1 hk2
  iterate 2 refine WL.lv rfl (LV.mv rfl) ?_
  refine WL.call rfl (XC.fn Try.func10 (by kernel_rfl) rfl rfl rfl) (longest_calls  (SH.stN hS2 (few_rd 40 h_l)) rfl (by first | omega | (simp; done) | (simp; omega))) ?_
  rintro v_ w3 ⟨A1, c1, rfl, hS3⟩
  have hS4 := SH.joinN hS2 hS3
  refine WL.lv rfl (LV.mv rfl) ?_
  refine WL.call rfl (XC.fn Try.func11 (by kernel_rfl) rfl rfl rfl) (rlongest_calls  (SH.stN hS4 (few_rd 40 h_l)) rfl (by first | omega | (simp; done) | (simp; omega))) ?_
  rintro v_ w4 ⟨A2, c2, rfl, hS5⟩
  have hS6 := SH.joinN hS4 hS5
  refine WL.call rfl (XC.fn Try.func9 (by kernel_rfl) rfl rfl rfl) (Calls.asB (ints_eq  (SH.rd hS6 (.tail _ (.head _))) rfl (SH.rd hS6 (.head _)) rfl ) (decide_eq_true (rfl))) ?_
  rintro v_ w5 ⟨rfl, hk3⟩
  have hS7 := SH.same hS6 hk3
  refine WL.lv rfl (LV.pickT rfl rfl) ?_
  refine WL.lv rfl (LV.asg rfl) ?_
  refine WL.nil (thenQ.n ?_)
  refine WC.ret (?_)
  exact ⟨_, fun a ha => res1 rfl ha rfl, rfl, hS7.kb⟩

set_option maxHeartbeats 2000000 in
theorem patiencePairs_law {w : World} {A_a : Option Addr} {n_a c_a : Nat} {a : List Int} {A_b : Option Addr} {n_b c_b : Nat} {b : List Int} (h_a : St No w (Rd eI (.slice A_a n_a c_a) a)) (hn_a : a.length = n_a) (h_b : St No w (Rd eI (.slice A_b n_b c_b) b)) (hn_b : b.length = n_b)  :
    Calls Try.prog 5 #[(.slice A_a n_a c_a), (.slice A_b n_b c_b)] w fun e w' => ∃ v, e = .returned v ∧ (fun v w' => v = .bool (decide (true)) ∧ KB No w w') v w' := by
  subst hn_a hn_b
  have ha40 : (a.take 40).length ≤ 40 := by rw [List.length_take]; omega
  have hb40 : (b.take 40).length ≤ 40 := by rw [List.length_take]; omega
  have hS : SH w No w [] := SH.nil _ _
  refine calls (l := litOf [(.slice A_a a.length c_a), (.slice A_b b.length c_b)] 0) Try.func5 rfl (n := 37) rfl (Nat.le_of_ble_eq_true rfl) (lit_args _) ?_
  refine WC.seq ?_
  refine WC.region ?_
  refine WL.lv rfl (LV.asg rfl) ?_
  refine WL.nil (thenQ.n ?_)
  refine WC.seq ?_
  refine WC.region ?_
  refine WL.lv rfl (LV.mv rfl) ?_
  refine WL.call rfl (XC.fn Try.func7 (by kernel_rfl) rfl rfl rfl) (few27_calls (SH.stN hS h_a)) ?_
  rintro v_ w1 ⟨rfl, hk1⟩
  have hS1 := SH.same hS hk1
  refine WL.lv rfl (LV.mv rfl) ?_
  refine WL.call rfl (XC.fn Try.func7 (by kernel_rfl) rfl rfl rfl) (few27_calls (SH.stN hS1 h_b)) ?_
  rintro v_ w2 ⟨rfl, hk2⟩
  have hS2 := SH.same hS1 hk2
  iterate 2 refine WL.lv rfl (LV.asg rfl) ?_
  refine WL.nil (thenQ.n ?_)
  refine WC.seq ?_
  refine WC.region ?_
  refine WL.call rfl (XC.fn Try.func8 (by kernel_rfl) rfl rfl rfl) (live27_calls  ) ?_
  rintro v_ w3 ⟨rfl, hk3⟩
  have hS3 := SH.same hS2 hk3
  iterate 3 refine WL.lv rfl (LV.mv rfl) ?_
  refine WL.call rfl (XC.fn Try.func13 (by kernel_rfl) rfl rfl rfl) (anchors_calls  (SH.stN hS3 (few_rd 40 h_a)) rfl (SH.stN hS3 (few_rd 40 h_b)) rfl (by first | omega | (simp; done) | (simp; omega)) (by first | omega | (simp; done) | (simp; omega))) ?_
  rintro v_ w4 ⟨A1, c1, rfl, hS4⟩
  have hS5 := SH.joinN hS3 hS4
  iterate 2 refine WL.lv rfl (LV.mv rfl) ?_
  refine WL.call rfl (XC.fn Try.func14 (by kernel_rfl) rfl rfl rfl) (ranchors_calls  (SH.stN hS5 (few_rd 40 h_a)) rfl (SH.stN hS5 (few_rd 40 h_b)) rfl (by first | omega | (simp; done) | (simp; omega)) (by first | omega | (simp; done) | (simp; omega))) ?_
  rintro v_ w5 ⟨A2, c2, rfl, hS6⟩
  have hS7 := SH.joinN hS5 hS6
  refine WL.call rfl (XC.fn Try.func12 (by kernel_rfl) rfl rfl rfl) (Calls.asB (same6_eq  (SH.rd hS7 (.tail _ (.head _))) rfl (SH.rd hS7 (.head _)) rfl ) (decide_eq_true (rfl))) ?_
  rintro v_ w6 ⟨rfl, hk4⟩
  have hS8 := SH.same hS7 hk4
  refine WL.lv rfl (LV.pickT rfl rfl) ?_
  iterate 3 refine WL.lv rfl (LV.mv rfl) ?_
  refine WL.call rfl (XC.fn Try.func15 (by kernel_rfl) rfl rfl rfl) (pairs27_calls  (SH.stN hS8 (few_rd 40 h_a)) rfl (SH.stN hS8 (few_rd 40 h_b)) rfl ) ?_
  rintro v_ w7 ⟨A3, c3, rfl, hS9⟩
  have hS10 := SH.joinN hS8 hS9
  iterate 2 refine WL.lv rfl (LV.mv rfl) ?_
  refine WL.call rfl (XC.fn Try.func16 (by kernel_rfl) rfl rfl rfl) (rPairs27_calls  (SH.stN hS10 (few_rd 40 h_a)) rfl (SH.stN hS10 (few_rd 40 h_b)) rfl ) ?_
  rintro v_ w8 ⟨A4, c4, rfl, hS11⟩
  have hS12 := SH.joinN hS10 hS11
  refine WL.call rfl (XC.fn Try.func12 (by kernel_rfl) rfl rfl rfl) (Calls.asB (same6_eq  (SH.rd hS12 (.tail _ (.head _))) rfl (SH.rd hS12 (.head _)) rfl ) (decide_eq_true (rfl))) ?_
  rintro v_ w9 ⟨rfl, hk5⟩
  have hS13 := SH.same hS12 hk5
  refine WL.lv rfl (LV.pickT rfl rfl) ?_
  iterate 3 refine WL.lv rfl (LV.mv rfl) ?_
  refine WL.call rfl (XC.fn Try.func18 (by kernel_rfl) rfl rfl rfl) (steps27_calls  (SH.stN hS13 (few_rd 40 h_a)) rfl (SH.stN hS13 (few_rd 40 h_b)) rfl ) ?_
  rintro v_ w10 ⟨A5, c5, rfl, hS14⟩
  have hS15 := SH.joinN hS13 hS14
  iterate 2 refine WL.lv rfl (LV.mv rfl) ?_
  refine WL.call rfl (XC.fn Try.func19 (by kernel_rfl) rfl rfl rfl) (rsteps27_calls  (SH.stN hS15 (few_rd 40 h_a)) rfl (SH.stN hS15 (few_rd 40 h_b)) rfl ) ?_
  rintro v_ w11 ⟨A6, c6, rfl, hS16⟩
  have hS17 := SH.joinN hS15 hS16
  refine WL.call rfl (XC.fn Try.func17 (by kernel_rfl) rfl rfl rfl) (Calls.asB (same7_eq  (SH.rd hS17 (.tail _ (.head _))) rfl (SH.rd hS17 (.head _)) rfl ) (decide_eq_true (rfl))) ?_
  rintro v_ w12 ⟨rfl, hk6⟩
  have hS18 := SH.same hS17 hk6
  refine WL.lv rfl (LV.pickT rfl rfl) ?_
  refine WL.lv rfl (LV.asg rfl) ?_
  refine WL.nil (thenQ.n ?_)
  refine WC.ret (?_)
  exact ⟨_, fun a ha => res1 rfl ha rfl, rfl, hS18.kb⟩

set_option maxHeartbeats 2000000 in
theorem patienceRises_law {w : World} {A_l : Option Addr} {n_l c_l : Nat} {l : List Int} {A_places : Option Addr} {n_places c_places : Nat} {places : List Int} (h_l : St No w (Rd eI (.slice A_l n_l c_l) l)) (hn_l : l.length = n_l) (h_places : St No w (Rd eU8 (.slice A_places n_places c_places) places)) (hn_places : places.length = n_places)  :
    Calls Try.prog 4 #[(.slice A_l n_l c_l), (.slice A_places n_places c_places)] w fun e w' => ∃ v, e = .returned v ∧ (fun v w' => v = .bool (decide (true)) ∧ KB No w w') v w' := by
  subst hn_l hn_places
  have hl40 : (l.take 40).length ≤ 40 := by rw [List.length_take]; omega
  have hlg_ := LNG_le (l.take 40)
  have hmp_ := Rd.max h_places.now
  have hS : SH w No w [] := SH.nil _ _
  refine calls (l := litOf [(.slice A_l l.length c_l), (.slice A_places places.length c_places)] 0) Try.func4 rfl (n := 114) rfl (Nat.le_of_ble_eq_true rfl) (lit_args _) ?_
  refine WC.seq ?_
  refine WC.region ?_
  refine WL.lv rfl (LV.asg rfl) ?_
  refine WL.nil (thenQ.n ?_)
  refine WC.seq ?_
  refine WC.region ?_
  refine WL.lv rfl (LV.mv rfl) ?_
  refine WL.call rfl (XC.fn Try.func7 (by kernel_rfl) rfl rfl rfl) (few27_calls (SH.stN hS h_l)) ?_
  rintro v_ w1 ⟨rfl, hk1⟩
  have hS1 := SH.same hS hk1
  refine WL.lv rfl (LV.asg rfl) ?_
  refine WL.nil (thenQ.n ?_)
  refine WC.seq ?_
  refine WC.region ?_
  refine WL.lv rfl (LV.mv rfl) ?_
  refine WL.call rfl (XC.fn Try.func10 (by kernel_rfl) rfl rfl rfl) (longest_calls  (SH.stN hS1 (few_rd 40 h_l)) rfl (by first | omega | (simp; done) | (simp; omega))) ?_
  rintro v_ w2 ⟨A1, c1, rfl, hS2⟩
  have hS3 := SH.joinN hS1 hS2
  refine WL.lv rfl (LV.asg rfl) ?_
  refine WL.nil (thenQ.n ?_)
  iterate 2 refine WC.seq ?_
  refine WC.region ?_
  refine WL.lv rfl (LV.asg rfl) ?_
  refine WL.nil (thenQ.n ?_)
  refine WC.block ?_
  refine WC.loop (fun m_ f_ w_ => ∃ (i : Int), (0 ≤ i) ∧ (i ≤ ((LNG (l.take 40)).length : Int)) ∧ SH w No w_ [rowE eI 3 (.slice A1 ((LNG (l.take 40)).length) c1) (LNG (l.take 40))] ∧ m_ = ((((LNG (l.take 40)).length : Int) - i).toNat) ∧ Weak (lit [(0, (.slice (cutA A_l c_l 1) ((l.take 40).length) c_l)), (1, (.slice A_places places.length c_places)), (5, (.slice A1 ((LNG (l.take 40)).length) c1)), (6, (.int .i64 i))]) f_) _ ⟨0, by omega, by omega, hS3, rfl, Weak.cons rfl <| Weak.cons rfl <| Weak.cons rfl <| Weak.cons rfl <| Weak.nil _⟩ ?_
  rintro m4 f1 w3 ⟨i, ilo, ihi, hL1, rfl, hw1⟩
  refine WC.weak hw1 ?_
  clear hw1
  iterate 2 refine WC.seq ?_
  refine WC.region ?_
  iterate 2 refine WL.lv rfl (LV.mv rfl) ?_
  refine WL.lv rfl (LV.lenL Try.underlying22 rfl) ?_
  refine WL.lv rfl (LV.ltI rfl rfl) ?_
  refine WL.nil (thenQ.n ?_)
  refine WC.condP (p := i < ((LNG (l.take 40)).length : Int)) rfl (fun hk => ?_) (fun hk => ?_)
  · have hr_ := (LNG_ris (l.take 40)).at ilo hk
    have hr0_ := hr_.1
    have hr1_ := hr_.2.1
    have hr2_ := hr_.2.2
    have hrp_ : 0 < i → 0 ≤ gI (LNG (l.take 40)) (i - 1) ∧ gI (LNG (l.take 40)) (i - 1) < (l.take 40).length := fun h_ => ⟨((LNG_ris (l.take 40)).at (t := i - 1) (by omega) (by omega)).1, ((LNG_ris (l.take 40)).at (t := i - 1) (by omega) (by omega)).2.1⟩
    refine WC.skip (thenQ.n ?_)
    refine WC.seq ?_
    refine WC.block ?_
    refine WC.seq ?_
    have hS4 := SH.drew hL1
    refine WC.regionD [] (fun w_ => KB No w3.drew w_) [(.pure, 0), (.pure, 1), (.pure, 2), (.look, 3), (.pure, 4), (.pure, 5), (.pure, 6), (.pure, 7), (.pure, 8), (.look, 9), (.pure, 10), (.pure, 11), (.pure, 12), (.pure, 13), (.pure, 14), (.pure, 15), (.pure, 16), (.pure, 17), (.pure, 18), (.pure, 19), (.pure, 20), (.look, 21), (.pure, 22), (.pure, 23), (.pure, 24), (.pure, 25), (.look, 26), (.pure, 27), (.pure, 28), (.pure, 29), (.pure, 30), (.pure, 31), (.pure, 32), (.look, 33), (.pure, 34), (.look, 35), (.pure, 36), (.pure, 37), (.pure, 38), (.pure, 39), (.pure, 40), (.look, 41), (.pure, 42), (.look, 43), (.pure, 44), (.pure, 45), (.pure, 46), (.pure, 47)] (by kernel_rfl) (by kernel_rfl) (KB.refl _ _) ?_
    iterate 2 refine WS.pure rfl rfl (fun _ => LV.mv rfl) ?_
    obtain ⟨A2, c2, e1, g1⟩ := St.elt (SH.rd hS4 (.head _)) 0 i (by omega) (by omega)
    refine WS.pure rfl rfl (fun _ => LV.idxA Try.underlying22 ti3.sz rfl e1 rfl (by omega) (by omega)) ?_
    refine WS.look rfl rfl (fun _ hk_ => LV.load1 (v := (.int .i64 (gI (LNG (l.take 40)) (i)))) Try.underlying3 rfl rfl (g1 _ hk_ 0 _ rfl)) ?_
    refine WS.pure rfl rfl (fun _ => LV.as (LV.ltI rfl rfl) (decide_eq_false (by omega))) ?_
    iterate 3 refine WS.pure rfl rfl (fun _ => LV.mv rfl) ?_
    obtain ⟨A3, c3, e2, g2⟩ := St.elt (SH.rd hS4 (.head _)) 0 i (by omega) (by omega)
    refine WS.pure rfl rfl (fun _ => LV.idxA Try.underlying22 ti3.sz rfl e2 rfl (by omega) (by omega)) ?_
    refine WS.look rfl rfl (fun _ hk_ => LV.load1 (v := (.int .i64 (gI (LNG (l.take 40)) (i)))) Try.underlying3 rfl rfl (g2 _ hk_ 0 _ rfl)) ?_
    refine WS.pure rfl rfl (fun _ => LV.mv rfl) ?_
    refine WS.pure rfl rfl (fun _ => LV.lenL Try.underlying22 rfl) ?_
    refine WS.pure rfl rfl (fun _ => LV.as (LV.geI rfl rfl) (decide_eq_false (by omega))) ?_
    refine WS.pure rfl rfl (fun _ => LV.pickF rfl rfl) ?_
    iterate 2 refine WS.pure rfl rfl (fun _ => LV.mv rfl) ?_
    rcases Decidable.em (i > 0) with hg1 | hg1
    · refine WS.pure rfl rfl (fun _ => LV.as (LV.gtI rfl rfl) (decide_eq_true hg1)) ?_
      iterate 3 refine WS.pure rfl rfl (fun _ => LV.mv rfl) ?_
      obtain ⟨A4, c4, e3, g3⟩ := St.elt (SH.rd hS4 (.head _)) 0 i (by omega) (by omega)
      refine WS.pure rfl rfl (fun _ => LV.idxA Try.underlying22 ti3.sz rfl e3 rfl (by omega) (by omega)) ?_
      refine WS.look rfl rfl (fun _ hk_ => LV.load1 (v := (.int .i64 (gI (LNG (l.take 40)) (i)))) Try.underlying3 rfl rfl (g3 _ hk_ 0 _ rfl)) ?_
      iterate 2 refine WS.pure rfl rfl (fun _ => LV.mv rfl) ?_
      refine WS.pure rfl rfl (fun _ => LV.sub rfl rfl (wr64 (by omega) (by omega))) ?_
      obtain ⟨A5, c5, e4, g4⟩ := St.elt (SH.rd hS4 (.head _)) 0 (i - 1) (by omega) (by omega)
      refine WS.pure rfl rfl (fun _ => LV.idxA Try.underlying22 ti3.sz rfl e4 rfl (by omega) (by omega)) ?_
      refine WS.look rfl rfl (fun _ hk_ => LV.load1 (v := (.int .i64 (gI (LNG (l.take 40)) (i - 1)))) Try.underlying3 rfl rfl (g4 _ hk_ 0 _ rfl)) ?_
      refine WS.pure rfl rfl (fun _ => LV.as (LV.leI rfl rfl) (decide_eq_false (by omega))) ?_
      iterate 4 refine WS.pure rfl rfl (fun _ => LV.mv rfl) ?_
      obtain ⟨A6, c6, e5, g5⟩ := St.elt (SH.rd hS4 (.head _)) 0 i (by omega) (by omega)
      refine WS.pure rfl rfl (fun _ => LV.idxA Try.underlying22 ti3.sz rfl e5 rfl (by omega) (by omega)) ?_
      refine WS.look rfl rfl (fun _ hk_ => LV.load1 (v := (.int .i64 (gI (LNG (l.take 40)) (i)))) Try.underlying3 rfl rfl (g5 _ hk_ 0 _ rfl)) ?_
      obtain ⟨A7, c7, e6, g6⟩ := St.elt (SH.stN hS4 (few_rd 40 h_l)) 0 (gI (LNG (l.take 40)) (i)) (by omega) (by omega)
      refine WS.pure rfl rfl (fun _ => LV.idxA Try.underlying22 ti3.sz rfl e6 rfl (by omega) (by omega)) ?_
      refine WS.look rfl rfl (fun _ hk_ => LV.load1 (v := (.int .i64 (gI (l.take 40) (gI (LNG (l.take 40)) (i))))) Try.underlying3 rfl rfl (g6 _ hk_ 0 _ rfl)) ?_
      iterate 3 refine WS.pure rfl rfl (fun _ => LV.mv rfl) ?_
      refine WS.pure rfl rfl (fun _ => LV.sub rfl rfl (wr64 (by omega) (by omega))) ?_
      obtain ⟨A8, c8, e7, g7⟩ := St.elt (SH.rd hS4 (.head _)) 0 (i - 1) (by omega) (by omega)
      refine WS.pure rfl rfl (fun _ => LV.idxA Try.underlying22 ti3.sz rfl e7 rfl (by omega) (by omega)) ?_
      refine WS.look rfl rfl (fun _ hk_ => LV.load1 (v := (.int .i64 (gI (LNG (l.take 40)) (i - 1)))) Try.underlying3 rfl rfl (g7 _ hk_ 0 _ rfl)) ?_
      obtain ⟨A9, c9, e8, g8⟩ := St.elt (SH.stN hS4 (few_rd 40 h_l)) 0 (gI (LNG (l.take 40)) (i - 1)) (by omega) (by omega)
      refine WS.pure rfl rfl (fun _ => LV.idxA Try.underlying22 ti3.sz rfl e8 rfl (by omega) (by omega)) ?_
      refine WS.look rfl rfl (fun _ hk_ => LV.load1 (v := (.int .i64 (gI (l.take 40) (gI (LNG (l.take 40)) (i - 1))))) Try.underlying3 rfl rfl (g8 _ hk_ 0 _ rfl)) ?_
      refine WS.pure rfl rfl (fun _ => LV.as (LV.leI rfl rfl) (decide_eq_false (by omega))) ?_
      refine WS.pure rfl rfl (fun _ => LV.pickF rfl rfl) ?_
      refine WS.pure rfl rfl (fun _ => LV.pickT rfl rfl) ?_
      refine WS.pure rfl rfl (fun _ => LV.pickF rfl rfl) ?_
      refine WS.nil (thenQ.n ?_)
      refine WC.condF rfl ?_
      refine WC.skip (blockQ.n <| thenQ.n ?_)
      refine WC.region ?_
      refine WL.lv rfl (LV.mv rfl) ?_
      refine WL.lv rfl (LV.add rfl rfl (wr64 (by omega) (by omega))) ?_
      refine WL.lv rfl (LV.asg rfl) ?_
      refine WL.nil (thenQ.n ?_)
      exact ⟨_, by omega, i + 1, by omega, by omega, hS4, rfl, Weak.cons rfl <| Weak.cons rfl <| Weak.cons rfl <| Weak.cons rfl <| Weak.nil _⟩
    · refine WS.pure rfl rfl (fun _ => LV.as (LV.gtI rfl rfl) (decide_eq_false hg1)) ?_
      refine WS.pure rfl rfl (fun _ => LV.mv rfl) ?_
      iterate 3 refine WS.off rfl rfl ?_
      refine WS.offL rfl rfl ?_
      iterate 4 refine WS.off rfl rfl ?_
      refine WS.offL rfl rfl ?_
      iterate 6 refine WS.off rfl rfl ?_
      refine WS.offL rfl rfl ?_
      refine WS.off rfl rfl ?_
      refine WS.offL rfl rfl ?_
      iterate 5 refine WS.off rfl rfl ?_
      refine WS.offL rfl rfl ?_
      refine WS.off rfl rfl ?_
      refine WS.offL rfl rfl ?_
      iterate 2 refine WS.off rfl rfl ?_
      iterate 2 refine WS.pure rfl rfl (fun _ => LV.pickF rfl rfl) ?_
      refine WS.nil (thenQ.n ?_)
      refine WC.condF rfl ?_
      refine WC.skip (blockQ.n <| thenQ.n ?_)
      refine WC.region ?_
      refine WL.lv rfl (LV.mv rfl) ?_
      refine WL.lv rfl (LV.add rfl rfl (wr64 (by omega) (by omega))) ?_
      refine WL.lv rfl (LV.asg rfl) ?_
      refine WL.nil (thenQ.n ?_)
      exact ⟨_, by omega, i + 1, by omega, by omega, hS4, rfl, Weak.cons rfl <| Weak.cons rfl <| Weak.cons rfl <| Weak.cons rfl <| Weak.nil _⟩
  · skip
    refine WC.exit (thenQ.x <| thenQ.x <| blockQ.hit <| thenQ.n ?_)
    refine WC.seq ?_
    refine WC.region ?_
    iterate 2 refine WL.lv rfl (LV.asg rfl) ?_
    refine WL.nil (thenQ.n ?_)
    iterate 2 refine WC.seq ?_
    refine WC.region ?_
    refine WL.lv rfl (LV.asg rfl) ?_
    refine WL.nil (thenQ.n ?_)
    refine WC.block ?_
    refine WC.loop (fun m_ f_ w_ => ∃ (n : Int) (last_ : Int) (i2 : Int), (0 ≤ i2) ∧ (i2 ≤ (places.length : Int)) ∧ (last_ < 0 → n = 0) ∧ (0 ≤ last_ → last_ < (l.take 40).length ∧ n ≤ gI (KN (l.take 40)) last_) ∧ (-1 ≤ last_) ∧ (0 ≤ n ∧ n ≤ i2) ∧ SH w No w_ [rowE eI 3 (.slice A1 ((LNG (l.take 40)).length) c1) (LNG (l.take 40))] ∧ m_ = (((places.length : Int) - i2).toNat) ∧ Weak (lit [(0, (.slice (cutA A_l c_l 1) ((l.take 40).length) c_l)), (1, (.slice A_places places.length c_places)), (5, (.slice A1 ((LNG (l.take 40)).length) c1)), (7, (.int .i64 n)), (8, (.int .i64 last_)), (9, (.int .i64 i2))]) f_) _ ⟨0, (-1), 0, by omega, by omega, by omega, by omega, by omega, by omega, hL1, rfl, Weak.cons rfl <| Weak.cons rfl <| Weak.cons rfl <| Weak.cons rfl <| Weak.cons rfl <| Weak.cons rfl <| Weak.nil _⟩ ?_
    rintro m5 f2 w4 ⟨n, last_, i2, i2lo, i2hi, m0, m1, m2, m3, hL2, rfl, hw2⟩
    refine WC.weak hw2 ?_
    clear hw2
    iterate 2 refine WC.seq ?_
    refine WC.region ?_
    iterate 2 refine WL.lv rfl (LV.mv rfl) ?_
    refine WL.lv rfl (LV.lenL Try.underlying27 rfl) ?_
    refine WL.lv rfl (LV.ltI rfl rfl) ?_
    refine WL.nil (thenQ.n ?_)
    refine WC.condP (p := i2 < (places.length : Int)) rfl (fun hk2 => ?_) (fun hk2 => ?_)
    · skip
      refine WC.skip (thenQ.n ?_)
      refine WC.seq ?_
      refine WC.block ?_
      refine WC.seq ?_
      refine WC.region ?_
      iterate 2 refine WL.lv rfl (LV.mv rfl) ?_
      obtain ⟨A10, c10, e9, g9⟩ := St.elt (SH.stN hL2 h_places) 0 i2 (by omega) (by omega)
      refine WL.lv rfl (LV.idxA Try.underlying27 ti5.sz rfl e9 rfl (by omega) (by omega)) ?_
      refine WL.lv rfl (LV.load1 (v := (.int .u8 (places.getD (i2).toNat 0))) Try.underlying5 rfl rfl (g9 _ (KB.refl No _) 0 _ rfl)) ?_
      refine WL.lv rfl (LV.cvtI Try.underlying5 Try.underlying3 rfl rfl) ?_
      refine WL.lv rfl (LV.asg rfl) ?_
      refine WL.nil (thenQ.n ?_)
      refine WC.seq ?_
      have hS5 := SH.drew hL2
      refine WC.regionD [] (fun w_ => KB No w4.drew w_) [(.pure, 0), (.pure, 1), (.pure, 2), (.pure, 3), (.pure, 4), (.pure, 5), (.pure, 6), (.pure, 7), (.pure, 8), (.pure, 9), (.pure, 10), (.pure, 11), (.pure, 12), (.pure, 13), (.pure, 14), (.pure, 15), (.look, 16), (.pure, 17), (.pure, 18), (.pure, 19), (.look, 20), (.pure, 21), (.pure, 22), (.pure, 23)] (by kernel_rfl) (by kernel_rfl) (KB.refl _ _) ?_
      iterate 2 refine WS.pure rfl rfl (fun _ => LV.mv rfl) ?_
      rcases Decidable.em ((IntKind.i64.wrap (places.getD (i2).toNat 0)) > last_) with hg2 | hg2
      · refine WS.pure rfl rfl (fun _ => LV.as (LV.gtI rfl rfl) (decide_eq_true hg2)) ?_
        iterate 3 refine WS.pure rfl rfl (fun _ => LV.mv rfl) ?_
        refine WS.pure rfl rfl (fun _ => LV.lenL Try.underlying22 rfl) ?_
        rcases Decidable.em ((IntKind.i64.wrap (places.getD (i2).toNat 0)) < ((l.take 40).length : Int)) with hg3 | hg3
        · refine WS.pure rfl rfl (fun _ => LV.as (LV.ltI rfl rfl) (decide_eq_true hg3)) ?_
          refine WS.pure rfl rfl (fun _ => LV.pickT rfl rfl) ?_
          iterate 2 refine WS.pure rfl rfl (fun _ => LV.mv rfl) ?_
          rcases Decidable.em (last_ < 0) with hg4 | hg4
          · refine WS.pure rfl rfl (fun _ => LV.as (LV.ltI rfl rfl) (decide_eq_true hg4)) ?_
            refine WS.pure rfl rfl (fun _ => LV.mv rfl) ?_
            iterate 3 refine WS.off rfl rfl ?_
            refine WS.offL rfl rfl ?_
            iterate 3 refine WS.off rfl rfl ?_
            refine WS.offL rfl rfl ?_
            refine WS.off rfl rfl ?_
            iterate 2 refine WS.pure rfl rfl (fun _ => LV.pickT rfl rfl) ?_
            refine WS.nil (thenQ.n ?_)
            refine WC.condT rfl ?_
            refine WC.region ?_
            refine WL.lv rfl (LV.mv rfl) ?_
            refine WL.lv rfl (LV.add rfl rfl (wr64 (by omega) (by omega))) ?_
            refine WL.lv rfl (LV.mv rfl) ?_
            iterate 2 refine WL.lv rfl (LV.asg rfl) ?_
            refine WL.nil (blockQ.n <| thenQ.n ?_)
            refine WC.region ?_
            refine WL.lv rfl (LV.mv rfl) ?_
            refine WL.lv rfl (LV.add rfl rfl (wr64 (by omega) (by omega))) ?_
            refine WL.lv rfl (LV.asg rfl) ?_
            refine WL.nil (thenQ.n ?_)
            exact ⟨_, by omega, n + 1, IntKind.i64.wrap (places.getD (i2).toNat 0), i2 + 1, by omega, by omega, by omega, (fun _ => ⟨by omega, ris_step m0 m1 (by omega) (by omega) (by omega) (by omega)⟩), by omega, by omega, hS5, rfl, Weak.cons rfl <| Weak.cons rfl <| Weak.cons rfl <| Weak.cons rfl <| Weak.cons rfl <| Weak.cons rfl <| Weak.nil _⟩
          · refine WS.pure rfl rfl (fun _ => LV.as (LV.ltI rfl rfl) (decide_eq_false hg4)) ?_
            iterate 3 refine WS.pure rfl rfl (fun _ => LV.mv rfl) ?_
            obtain ⟨A11, c11, e10, g10⟩ := St.elt (SH.stN hS5 (few_rd 40 h_l)) 0 (IntKind.i64.wrap (places.getD (i2).toNat 0)) (by omega) (by omega)
            refine WS.pure rfl rfl (fun _ => LV.idxA Try.underlying22 ti3.sz rfl e10 rfl (by omega) (by omega)) ?_
            refine WS.look rfl rfl (fun _ hk_ => LV.load1 (v := (.int .i64 (gI (l.take 40) (IntKind.i64.wrap (places.getD (i2).toNat 0))))) Try.underlying3 rfl rfl (g10 _ hk_ 0 _ rfl)) ?_
            iterate 2 refine WS.pure rfl rfl (fun _ => LV.mv rfl) ?_
            obtain ⟨A12, c12, e11, g11⟩ := St.elt (SH.stN hS5 (few_rd 40 h_l)) 0 last_ (by omega) (by omega)
            refine WS.pure rfl rfl (fun _ => LV.idxA Try.underlying22 ti3.sz rfl e11 rfl (by omega) (by omega)) ?_
            refine WS.look rfl rfl (fun _ hk_ => LV.load1 (v := (.int .i64 (gI (l.take 40) (last_)))) Try.underlying3 rfl rfl (g11 _ hk_ 0 _ rfl)) ?_
            refine WS.pure rfl rfl (fun _ => LV.gtI rfl rfl) ?_
            refine WS.pure rfl rfl (fun _ => LV.pickF rfl rfl) ?_
            refine WS.pure rfl rfl (fun _ => LV.pickT rfl rfl) ?_
            refine WS.nil (thenQ.n ?_)
            refine WC.condP (p := (gI (l.take 40) (IntKind.i64.wrap (places.getD (i2).toNat 0))) > (gI (l.take 40) (last_))) rfl (fun hc1 => ?_) (fun hc1 => ?_)
            · skip
              refine WC.region ?_
              refine WL.lv rfl (LV.mv rfl) ?_
              refine WL.lv rfl (LV.add rfl rfl (wr64 (by omega) (by omega))) ?_
              refine WL.lv rfl (LV.mv rfl) ?_
              iterate 2 refine WL.lv rfl (LV.asg rfl) ?_
              refine WL.nil (blockQ.n <| thenQ.n ?_)
              refine WC.region ?_
              refine WL.lv rfl (LV.mv rfl) ?_
              refine WL.lv rfl (LV.add rfl rfl (wr64 (by omega) (by omega))) ?_
              refine WL.lv rfl (LV.asg rfl) ?_
              refine WL.nil (thenQ.n ?_)
              exact ⟨_, by omega, n + 1, IntKind.i64.wrap (places.getD (i2).toNat 0), i2 + 1, by omega, by omega, by omega, (fun _ => ⟨by omega, ris_step m0 m1 (by omega) (by omega) (by omega) (by omega)⟩), by omega, by omega, hS5, rfl, Weak.cons rfl <| Weak.cons rfl <| Weak.cons rfl <| Weak.cons rfl <| Weak.cons rfl <| Weak.cons rfl <| Weak.nil _⟩
            · skip
              refine WC.skip (blockQ.n <| thenQ.n ?_)
              refine WC.region ?_
              refine WL.lv rfl (LV.mv rfl) ?_
              refine WL.lv rfl (LV.add rfl rfl (wr64 (by omega) (by omega))) ?_
              refine WL.lv rfl (LV.asg rfl) ?_
              refine WL.nil (thenQ.n ?_)
              exact ⟨_, by omega, n, last_, i2 + 1, by omega, by omega, by omega, m1, by omega, by omega, hS5, rfl, Weak.cons rfl <| Weak.cons rfl <| Weak.cons rfl <| Weak.cons rfl <| Weak.cons rfl <| Weak.cons rfl <| Weak.nil _⟩
        · refine WS.pure rfl rfl (fun _ => LV.as (LV.ltI rfl rfl) (decide_eq_false hg3)) ?_
          refine WS.pure rfl rfl (fun _ => LV.pickT rfl rfl) ?_
          refine WS.pure rfl rfl (fun _ => LV.mv rfl) ?_
          iterate 6 refine WS.off rfl rfl ?_
          refine WS.offL rfl rfl ?_
          iterate 3 refine WS.off rfl rfl ?_
          refine WS.offL rfl rfl ?_
          iterate 2 refine WS.off rfl rfl ?_
          refine WS.pure rfl rfl (fun _ => LV.pickF rfl rfl) ?_
          refine WS.nil (thenQ.n ?_)
          refine WC.condF rfl ?_
          refine WC.skip (blockQ.n <| thenQ.n ?_)
          refine WC.region ?_
          refine WL.lv rfl (LV.mv rfl) ?_
          refine WL.lv rfl (LV.add rfl rfl (wr64 (by omega) (by omega))) ?_
          refine WL.lv rfl (LV.asg rfl) ?_
          refine WL.nil (thenQ.n ?_)
          exact ⟨_, by omega, n, last_, i2 + 1, by omega, by omega, by omega, m1, by omega, by omega, hS5, rfl, Weak.cons rfl <| Weak.cons rfl <| Weak.cons rfl <| Weak.cons rfl <| Weak.cons rfl <| Weak.cons rfl <| Weak.nil _⟩
      · refine WS.pure rfl rfl (fun _ => LV.as (LV.gtI rfl rfl) (decide_eq_false hg2)) ?_
        refine WS.pure rfl rfl (fun _ => LV.mv rfl) ?_
        iterate 4 refine WS.off rfl rfl ?_
        refine WS.pure rfl rfl (fun _ => LV.pickF rfl rfl) ?_
        refine WS.pure rfl rfl (fun _ => LV.mv rfl) ?_
        iterate 6 refine WS.off rfl rfl ?_
        refine WS.offL rfl rfl ?_
        iterate 3 refine WS.off rfl rfl ?_
        refine WS.offL rfl rfl ?_
        iterate 2 refine WS.off rfl rfl ?_
        refine WS.pure rfl rfl (fun _ => LV.pickF rfl rfl) ?_
        refine WS.nil (thenQ.n ?_)
        refine WC.condF rfl ?_
        refine WC.skip (blockQ.n <| thenQ.n ?_)
        refine WC.region ?_
        refine WL.lv rfl (LV.mv rfl) ?_
        refine WL.lv rfl (LV.add rfl rfl (wr64 (by omega) (by omega))) ?_
        refine WL.lv rfl (LV.asg rfl) ?_
        refine WL.nil (thenQ.n ?_)
        exact ⟨_, by omega, n, last_, i2 + 1, by omega, by omega, by omega, m1, by omega, by omega, hS5, rfl, Weak.cons rfl <| Weak.cons rfl <| Weak.cons rfl <| Weak.cons rfl <| Weak.cons rfl <| Weak.cons rfl <| Weak.nil _⟩
    · skip
      refine WC.exit (thenQ.x <| thenQ.x <| blockQ.hit <| thenQ.n ?_)
      refine WC.seq ?_
      refine WC.region ?_
      refine WL.call rfl (XC.fn Try.func8 (by kernel_rfl) rfl rfl rfl) (live27_calls  ) ?_
      rintro v_ w5 ⟨rfl, hk2⟩
      have hS6 := SH.same hL2 hk2
      iterate 3 refine WL.lv rfl (LV.mv rfl) ?_
      refine WL.lv rfl (LV.lenL Try.underlying22 rfl) ?_
      refine WL.lv rfl (LV.as (LV.leI rfl rfl) (decide_eq_true (ris_fin m0 m1))) ?_
      refine WL.lv rfl (LV.pickT rfl rfl) ?_
      refine WL.lv rfl (LV.asg rfl) ?_
      refine WL.nil (thenQ.n ?_)
      refine WC.ret (?_)
      exact ⟨_, fun a ha => res1 rfl ha rfl, rfl, hS6.kb⟩

set_option maxHeartbeats 2000000 in
theorem patienceOnce_law {w : World} {A_a : Option Addr} {n_a c_a : Nat} {a : List Int} {A_b : Option Addr} {n_b c_b : Nat} {b : List Int} {long : Bool} (h_a : St No w (Rd eI (.slice A_a n_a c_a) a)) (hn_a : a.length = n_a) (h_b : St No w (Rd eI (.slice A_b n_b c_b) b)) (hn_b : b.length = n_b)  :
    Calls Try.prog 6 #[(.slice A_a n_a c_a), (.slice A_b n_b c_b), (.bool long)] w fun e w' => ∃ v, e = .returned v ∧ (fun v w' => v = .bool (decide (true)) ∧ KB No w w') v w' := by
  subst hn_a hn_b
  have ha40 : (a.take 40).length ≤ 40 := by rw [List.length_take]; omega
  have hb40 : (b.take 40).length ≤ 40 := by rw [List.length_take]; omega
  have hel_ := elst_le (a.take 40) (b.take 40)
  have hol_ := oncT_len (a.take 40) (b.take 40) (a.take 40).length
  have hon_ : (onc (a.take 40) (b.take 40)).length ≤ (a.take 40).length := hol_
  have hpu_ : (PRS (a.take 40) (b.take 40)).length ≤ (a.take 40).length := by unfold PRS; split; simp; exact (PR_up _ _).len
  have hS : SH w No w [] := SH.nil _ _
  refine calls (l := litOf [(.slice A_a a.length c_a), (.slice A_b b.length c_b), (.bool long)] 0) Try.func6 rfl (n := 102) rfl (Nat.le_of_ble_eq_true rfl) (lit_args _) ?_
  refine WC.seq ?_
  refine WC.region ?_
  refine WL.lv rfl (LV.asg rfl) ?_
  refine WL.nil (thenQ.n ?_)
  refine WC.seq ?_
  refine WC.region ?_
  refine WL.lv rfl (LV.mv rfl) ?_
  refine WL.call rfl (XC.fn Try.func7 (by kernel_rfl) rfl rfl rfl) (few27_calls (SH.stN hS h_a)) ?_
  rintro v_ w1 ⟨rfl, hk1⟩
  have hS1 := SH.same hS hk1
  refine WL.lv rfl (LV.mv rfl) ?_
  refine WL.call rfl (XC.fn Try.func7 (by kernel_rfl) rfl rfl rfl) (few27_calls (SH.stN hS1 h_b)) ?_
  rintro v_ w2 ⟨rfl, hk2⟩
  have hS2 := SH.same hS1 hk2
  iterate 2 refine WL.lv rfl (LV.asg rfl) ?_
  refine WL.nil (thenQ.n ?_)
  iterate 2 refine WC.seq ?_
  refine WC.region ?_
  refine WL.lv rfl (LV.mv rfl) ?_
  refine WL.nil (thenQ.n ?_)
  refine WC.cond (b := long) rfl (fun hc1 => ?_) (fun hc1 => ?_)
  · skip
    refine WC.seq ?_
    refine WC.region ?_
    refine WL.xe rfl (XE.make (E := eI) (n := 401) 0 hS2 Try.underlying22 ti3 rfl rfl rfl rfl rfl rfl (by omega) (by omega)) ?_
    rintro _ w3 ⟨b1, rfl, hS3, hk3⟩
    refine WL.lv rfl (LV.mv rfl) ?_
    refine WL.xe rfl (XE.append hS3 Try.underlying22 ti3 rfl (St.now (SH.stN hS3 (few_rd 40 h_a))) rfl rfl (by rw [List.length_replicate]; omega) (by rw [List.length_replicate]; omega)) ?_
    rintro _ w4 ⟨A1, c1, rfl, hS4, hk4⟩
    refine WL.lv rfl (LV.asg rfl) ?_
    refine WL.nil (thenQ.n ?_)
    refine WC.seq ?_
    refine WC.region ?_
    refine WL.call rfl (XC.fn Try.func8 (by kernel_rfl) rfl rfl rfl) (live27_calls  ) ?_
    rintro v_ w5 ⟨rfl, hk5⟩
    have hS5 := SH.same hS4 hk5
    iterate 3 refine WL.lv rfl (LV.mv rfl) ?_
    refine WL.call rfl (XC.fn Try.func15 (by kernel_rfl) rfl rfl rfl) (pairs27_calls  (SH.rd hS5 (.head _)) rfl (SH.stN hS5 (few_rd 40 h_b)) rfl ) ?_
    rintro v_ w6 ⟨A2, c2, rfl, hS6⟩
    have hS7 := SH.joinN hS5 hS6
    refine WL.lv rfl (LV.lenL Try.underlying30 rfl) ?_
    refine WL.lv rfl (LV.as (LV.eqI rfl rfl) (decide_eq_true (by rw [PRS_long (.inl (by rw [List.length_append, List.length_replicate]; omega))]; rfl))) ?_
    refine WL.lv rfl (LV.pickT rfl rfl) ?_
    iterate 3 refine WL.lv rfl (LV.mv rfl) ?_
    refine WL.call rfl (XC.fn Try.func18 (by kernel_rfl) rfl rfl rfl) (steps27_calls  (SH.stN hS7 (few_rd 40 h_b)) rfl (SH.rd hS7 (.tail _ (.head _))) rfl ) ?_
    rintro v_ w7 ⟨A3, c3, rfl, hS8⟩
    have hS9 := SH.joinN hS7 hS8
    refine WL.lv rfl (LV.lenL Try.underlying33 rfl) ?_
    refine WL.lv rfl (LV.as (LV.eqI rfl rfl) (decide_eq_true (by rw [STP_long (.inr (by rw [List.length_append, List.length_replicate]; omega))]; rfl))) ?_
    refine WL.lv rfl (LV.pickT rfl rfl) ?_
    refine WL.lv rfl (LV.asg rfl) ?_
    refine WL.nil (thenQ.n ?_)
    refine WC.ret (thenQ.r <| ?_)
    exact ⟨_, fun a ha => res1 rfl ha rfl, rfl, hS9.kb⟩
  · skip
    refine WC.skip (thenQ.n ?_)
    refine WC.seq ?_
    refine WC.region ?_
    iterate 2 refine WL.lv rfl (LV.mv rfl) ?_
    refine WL.call rfl (XC.fn Try.func20 (by kernel_rfl) rfl rfl rfl) (rends_calls  (SH.stN hS2 (few_rd 40 h_a)) rfl (SH.stN hS2 (few_rd 40 h_b)) rfl ) ?_
    rintro v_ w8 ⟨rfl, hk6⟩
    have hS10 := SH.same hS2 hk6
    refine WL.lv rfl (LV.mv rfl) ?_
    iterate 2 refine WL.lv rfl (LV.extract rfl rfl) ?_
    iterate 2 refine WL.lv rfl (LV.asg rfl) ?_
    refine WL.nil (thenQ.n ?_)
    iterate 2 refine WC.seq ?_
    refine WC.region ?_
    iterate 2 refine WL.lv rfl (LV.mv rfl) ?_
    refine WL.lv rfl (LV.add rfl rfl (wr64 (by omega) (by omega))) ?_
    refine WL.lv rfl (LV.gtI rfl rfl) ?_
    refine WL.nil (thenQ.n ?_)
    refine WC.condP (p := ((efst (a.take 40) (b.take 40) : Int) + (elst (a.take 40) (b.take 40) : Int)) > 0) rfl (fun hends => ?_) (fun hends => ?_)
    · skip
      refine WC.seq ?_
      refine WC.region ?_
      refine WL.call rfl (XC.fn Try.func8 (by kernel_rfl) rfl rfl rfl) (live27_calls  ) ?_
      rintro v_ w9 ⟨rfl, hk7⟩
      have hS11 := SH.same hS10 hk7
      refine WL.lv rfl (LV.asg rfl) ?_
      refine WL.nil (thenQ.n ?_)
      refine WC.ret (thenQ.r <| ?_)
      exact ⟨_, fun a ha => res1 rfl ha rfl, rfl, hS11.kb⟩
    · skip
      refine WC.skip (thenQ.n ?_)
      refine WC.seq ?_
      refine WC.region ?_
      iterate 2 refine WL.lv rfl (LV.mv rfl) ?_
      refine WL.call rfl (XC.fn Try.func21 (by kernel_rfl) rfl rfl rfl) (ronce_calls  (SH.stN hS10 (few_rd 40 h_a)) rfl (SH.stN hS10 (few_rd 40 h_b)) rfl (by omega) (by omega)) ?_
      rintro v_ w10 ⟨A4, c4, rfl, hS12⟩
      have hS13 := SH.joinN hS10 hS12
      refine WL.lv rfl (LV.asg rfl) ?_
      refine WL.nil (thenQ.n ?_)
      iterate 2 refine WC.seq ?_
      refine WC.region ?_
      refine WL.lv rfl (LV.asg rfl) ?_
      refine WL.nil (thenQ.n ?_)
      refine WC.block ?_
      refine WC.loop (fun m_ f_ w_ => ∃ (i : Int), (1 ≤ i) ∧ (i ≤ (onc (a.take 40) (b.take 40)).length + 1) ∧ (∀ t : Int, 1 ≤ t → t < i → ¬ ((onc (a.take 40) (b.take 40)).getD t.toNat (0, 0)).2 < ((onc (a.take 40) (b.take 40)).getD (t - 1).toNat (0, 0)).2) ∧ SH w No w_ [rowE eP 37 (.slice A4 ((onc (a.take 40) (b.take 40)).length) c4) (onc (a.take 40) (b.take 40))] ∧ m_ = ((((onc (a.take 40) (b.take 40)).length : Int) - i).toNat) ∧ Weak (lit [(0, (.slice (cutA A_a c_a 1) ((a.take 40).length) c_a)), (1, (.slice (cutA A_b c_b 1) ((b.take 40).length) c_b)), (10, (.slice A4 ((onc (a.take 40) (b.take 40)).length) c4)), (11, (.int .i64 i))]) f_) _ ⟨1, by omega, by omega, (fun t h1 h2 => by omega), hS13, rfl, Weak.cons rfl <| Weak.cons rfl <| Weak.cons rfl <| Weak.cons rfl <| Weak.nil _⟩ ?_
      rintro m1 f2 w11 ⟨i, ilo, ihi, z1, hL1, rfl, hw1⟩
      refine WC.weak hw1 ?_
      clear hw1
      iterate 2 refine WC.seq ?_
      refine WC.region ?_
      iterate 2 refine WL.lv rfl (LV.mv rfl) ?_
      refine WL.lv rfl (LV.lenL Try.underlying30 rfl) ?_
      refine WL.lv rfl (LV.ltI rfl rfl) ?_
      refine WL.nil (thenQ.n ?_)
      refine WC.condP (p := i < ((onc (a.take 40) (b.take 40)).length : Int)) rfl (fun hk => ?_) (fun hk => ?_)
      · skip
        refine WC.skip (thenQ.n ?_)
        refine WC.seq ?_
        refine WC.block ?_
        refine WC.seq ?_
        have hS14 := SH.drew hL1
        refine WC.regionD [] (fun w_ => KB No w11.drew w_) [(.pure, 0), (.pure, 1), (.pure, 2), (.pure, 3), (.look, 4), (.pure, 5), (.pure, 6), (.pure, 7), (.pure, 8), (.pure, 9), (.look, 10), (.pure, 11)] (by kernel_rfl) (by kernel_rfl) (KB.refl _ _) ?_
        iterate 2 refine WS.pure rfl rfl (fun _ => LV.mv rfl) ?_
        obtain ⟨A5, c5, e1, g1⟩ := St.elt (SH.rd hS14 (.head _)) (0, 0) i (by omega) (by omega)
        refine WS.pure rfl rfl (fun _ => LV.idxA Try.underlying30 ti37.sz rfl e1 rfl (by omega) (by omega)) ?_
        refine WS.pure rfl rfl (fun _ => LV.idxArr Try.underlying37 ti3.sz rfl rfl (by decide) (by decide)) ?_
        refine WS.look rfl rfl (fun _ hk_ => LV.load1 (v := (.int .i64 (((onc (a.take 40) (b.take 40)).getD (i).toNat (0, 0)).2))) Try.underlying3 rfl rfl (g1 _ hk_ 1 _ rfl)) ?_
        iterate 2 refine WS.pure rfl rfl (fun _ => LV.mv rfl) ?_
        refine WS.pure rfl rfl (fun _ => LV.sub rfl rfl (wr64 (by omega) (by omega))) ?_
        obtain ⟨A6, c6, e2, g2⟩ := St.elt (SH.rd hS14 (.head _)) (0, 0) (i - 1) (by omega) (by omega)
        refine WS.pure rfl rfl (fun _ => LV.idxA Try.underlying30 ti37.sz rfl e2 rfl (by omega) (by omega)) ?_
        refine WS.pure rfl rfl (fun _ => LV.idxArr Try.underlying37 ti3.sz rfl rfl (by decide) (by decide)) ?_
        refine WS.look rfl rfl (fun _ hk_ => LV.load1 (v := (.int .i64 (((onc (a.take 40) (b.take 40)).getD (i - 1).toNat (0, 0)).2))) Try.underlying3 rfl rfl (g2 _ hk_ 1 _ rfl)) ?_
        refine WS.pure rfl rfl (fun _ => LV.ltI rfl rfl) ?_
        refine WS.nil (thenQ.n ?_)
        refine WC.condP (p := (((onc (a.take 40) (b.take 40)).getD (i).toNat (0, 0)).2) < (((onc (a.take 40) (b.take 40)).getD (i - 1).toNat (0, 0)).2)) rfl (fun hc70 => ?_) (fun hc70 => ?_)
        · skip
          refine WC.seq ?_
          refine WC.region ?_
          refine WL.call rfl (XC.fn Try.func8 (by kernel_rfl) rfl rfl rfl) (live27_calls  ) ?_
          rintro v_ w12 ⟨rfl, hk8⟩
          have hS15 := SH.same hS14 hk8
          refine WL.lv rfl (LV.asg rfl) ?_
          refine WL.nil (thenQ.n ?_)
          refine WC.ret (blockQ.r <| thenQ.r <| thenQ.r <| blockQ.r <| thenQ.r <| ?_)
          exact ⟨_, fun a ha => res1 rfl ha rfl, rfl, hS15.kb⟩
        · skip
          refine WC.skip (blockQ.n <| thenQ.n ?_)
          refine WC.region ?_
          refine WL.lv rfl (LV.mv rfl) ?_
          refine WL.lv rfl (LV.add rfl rfl (wr64 (by omega) (by omega))) ?_
          refine WL.lv rfl (LV.asg rfl) ?_
          refine WL.nil (thenQ.n ?_)
          exact ⟨_, by omega, i + 1, by omega, by omega, (fun t h1 h2 => (Decidable.em (t = i)).elim (fun e_ => by subst e_; exact hc70) (fun e_ => z1 t h1 (by omega))), hS14, rfl, Weak.cons rfl <| Weak.cons rfl <| Weak.cons rfl <| Weak.cons rfl <| Weak.nil _⟩
      · skip
        refine WC.exit (thenQ.x <| thenQ.x <| blockQ.hit <| thenQ.n ?_)
        refine WC.seq ?_
        refine WC.region ?_
        iterate 2 refine WL.lv rfl (LV.mv rfl) ?_
        refine WL.call rfl (XC.fn Try.func15 (by kernel_rfl) rfl rfl rfl) (pairs27_calls  (SH.stN hL1 (few_rd 40 h_a)) rfl (SH.stN hL1 (few_rd 40 h_b)) rfl ) ?_
        rintro v_ w13 ⟨A7, c7, rfl, hS16⟩
        have hS17 := SH.joinN hL1 hS16
        refine WL.lv rfl (LV.asg rfl) ?_
        refine WL.nil (thenQ.n ?_)
        iterate 2 refine WC.seq ?_
        refine WC.region ?_
        refine WL.lv rfl (LV.asg rfl) ?_
        refine WL.nil (thenQ.n ?_)
        refine WC.block ?_
        refine WC.loop (fun m_ f_ w_ => ∃ (i2 : Int), (0 ≤ i2) ∧ (i2 ≤ ((onc (a.take 40) (b.take 40)).length : Int)) ∧ SH w No w_ [rowE eP 37 (.slice A7 ((PRS (a.take 40) (b.take 40)).length) c7) (PRS (a.take 40) (b.take 40)), rowE eP 37 (.slice A4 ((onc (a.take 40) (b.take 40)).length) c4) (onc (a.take 40) (b.take 40))] ∧ m_ = ((((onc (a.take 40) (b.take 40)).length : Int) - i2).toNat) ∧ Weak (lit [(10, (.slice A4 ((onc (a.take 40) (b.take 40)).length) c4)), (12, (.slice A7 ((PRS (a.take 40) (b.take 40)).length) c7)), (13, (.int .i64 i2))]) f_) _ ⟨0, by omega, by omega, hS17, rfl, Weak.cons rfl <| Weak.cons rfl <| Weak.cons rfl <| Weak.nil _⟩ ?_
        rintro m2 f3 w14 ⟨i2, i2lo, i2hi, hL2, rfl, hw2⟩
        refine WC.weak hw2 ?_
        clear hw2
        iterate 2 refine WC.seq ?_
        refine WC.region ?_
        iterate 2 refine WL.lv rfl (LV.mv rfl) ?_
        refine WL.lv rfl (LV.lenL Try.underlying30 rfl) ?_
        refine WL.lv rfl (LV.ltI rfl rfl) ?_
        refine WL.nil (thenQ.n ?_)
        refine WC.condP (p := i2 < ((onc (a.take 40) (b.take 40)).length : Int)) rfl (fun hk2 => ?_) (fun hk2 => ?_)
        · skip
          refine WC.skip (thenQ.n ?_)
          refine WC.seq ?_
          refine WC.block ?_
          refine WC.seq ?_
          refine WC.region ?_
          refine WL.lv rfl (LV.asg rfl) ?_
          refine WL.nil (thenQ.n ?_)
          iterate 2 refine WC.seq ?_
          refine WC.region ?_
          refine WL.lv rfl (LV.asg rfl) ?_
          refine WL.nil (thenQ.n ?_)
          refine WC.block ?_
          refine WC.loop (fun m_ f_ w_ => ∃ (found : Bool) (k : Int), (0 ≤ k) ∧ (k ≤ ((PRS (a.take 40) (b.take 40)).length : Int)) ∧ (found = true ∨ ∀ t : Int, 0 ≤ t → t < k → ¬ (((PRS (a.take 40) (b.take 40)).getD t.toNat (0, 0)).1 = ((onc (a.take 40) (b.take 40)).getD i2.toNat (0, 0)).1 ∧ ((PRS (a.take 40) (b.take 40)).getD t.toNat (0, 0)).2 = ((onc (a.take 40) (b.take 40)).getD i2.toNat (0, 0)).2)) ∧ SH w No w_ [rowE eP 37 (.slice A7 ((PRS (a.take 40) (b.take 40)).length) c7) (PRS (a.take 40) (b.take 40)), rowE eP 37 (.slice A4 ((onc (a.take 40) (b.take 40)).length) c4) (onc (a.take 40) (b.take 40))] ∧ m_ = ((((PRS (a.take 40) (b.take 40)).length : Int) - k).toNat) ∧ Weak (lit [(10, (.slice A4 ((onc (a.take 40) (b.take 40)).length) c4)), (12, (.slice A7 ((PRS (a.take 40) (b.take 40)).length) c7)), (13, (.int .i64 i2)), (14, (.bool found)), (15, (.int .i64 k))]) f_) _ ⟨false, 0, by omega, by omega, (.inr (fun t h1 h2 => by omega)), hL2, rfl, Weak.cons rfl <| Weak.cons rfl <| Weak.cons rfl <| Weak.cons rfl <| Weak.cons rfl <| Weak.nil _⟩ ?_
          rintro m3 f4 w15 ⟨found, k, klo, khi, f1, hL3, rfl, hw3⟩
          refine WC.weak hw3 ?_
          clear hw3
          iterate 2 refine WC.seq ?_
          refine WC.region ?_
          iterate 2 refine WL.lv rfl (LV.mv rfl) ?_
          refine WL.lv rfl (LV.lenL Try.underlying30 rfl) ?_
          refine WL.lv rfl (LV.ltI rfl rfl) ?_
          refine WL.nil (thenQ.n ?_)
          refine WC.condP (p := k < ((PRS (a.take 40) (b.take 40)).length : Int)) rfl (fun hk3 => ?_) (fun hk3 => ?_)
          · skip
            refine WC.skip (thenQ.n ?_)
            refine WC.seq ?_
            refine WC.block ?_
            have hS18 := SH.drew hL3
            refine WC.regionD [] (fun w_ => KB No w15.drew w_) [(.pure, 0), (.pure, 1), (.pure, 2), (.pure, 3), (.pure, 4), (.look, 5), (.pure, 6), (.pure, 7), (.pure, 8), (.look, 9), (.pure, 10), (.pure, 11), (.pure, 12)] (by kernel_rfl) (by kernel_rfl) (KB.refl _ _) ?_
            rcases Bool.eq_false_or_eq_true (found) with hgf | hgf
            · refine WS.pure rfl rfl (fun _ => LV.as (c := true) (LV.mv rfl) hgf) ?_
              refine WS.pure rfl rfl (fun _ => LV.mv rfl) ?_
              iterate 3 refine WS.off rfl rfl ?_
              refine WS.offL rfl rfl ?_
              iterate 3 refine WS.off rfl rfl ?_
              refine WS.offL rfl rfl ?_
              refine WS.off rfl rfl ?_
              refine WS.pure rfl rfl (fun _ => LV.pickT rfl rfl) ?_
              refine WS.pure rfl rfl (fun _ => LV.asg rfl) ?_
              refine WS.nil (blockQ.n <| thenQ.n ?_)
              refine WC.region ?_
              refine WL.lv rfl (LV.mv rfl) ?_
              refine WL.lv rfl (LV.add rfl rfl (wr64 (by omega) (by omega))) ?_
              refine WL.lv rfl (LV.asg rfl) ?_
              refine WL.nil (thenQ.n ?_)
              exact ⟨_, by omega, true, k + 1, by omega, by omega, (.inl rfl), hS18, rfl, Weak.cons rfl <| Weak.cons rfl <| Weak.cons rfl <| Weak.cons rfl <| Weak.cons rfl <| Weak.nil _⟩
            · refine WS.pure rfl rfl (fun _ => LV.as (c := false) (LV.mv rfl) hgf) ?_
              iterate 3 refine WS.pure rfl rfl (fun _ => LV.mv rfl) ?_
              obtain ⟨A8, c8, e3, g3⟩ := St.elt (SH.rd hS18 (.head _)) (0, 0) k (by omega) (by omega)
              refine WS.pure rfl rfl (fun _ => LV.idxA Try.underlying30 ti37.sz rfl e3 rfl (by omega) (by omega)) ?_
              refine WS.look rfl rfl (fun _ hk_ => LV.loadAgg (cs := [(.int .i64 (((PRS (a.take 40) (b.take 40)).getD (k).toNat (0, 0)).1)), (.int .i64 (((PRS (a.take 40) (b.take 40)).getD (k).toNat (0, 0)).2))]) Try.underlying37 rfl ti37 rfl rfl (fun j u hu => g3 _ hk_ j u hu)) ?_
              iterate 2 refine WS.pure rfl rfl (fun _ => LV.mv rfl) ?_
              obtain ⟨A9, c9, e4, g4⟩ := St.elt (SH.rd hS18 (.tail _ (.head _))) (0, 0) i2 (by omega) (by omega)
              refine WS.pure rfl rfl (fun _ => LV.idxA Try.underlying30 ti37.sz rfl e4 rfl (by omega) (by omega)) ?_
              refine WS.look rfl rfl (fun _ hk_ => LV.loadAgg (cs := [(.int .i64 (((onc (a.take 40) (b.take 40)).getD (i2).toNat (0, 0)).1)), (.int .i64 (((onc (a.take 40) (b.take 40)).getD (i2).toNat (0, 0)).2))]) Try.underlying37 rfl ti37 rfl rfl (fun j u hu => g4 _ hk_ j u hu)) ?_
              refine WS.pure rfl rfl (fun _ => LV.eqA2 Try.underlying37 Try.underlying3 ti3.sz (by kernel_rfl) rfl rfl) ?_
              refine WS.pure rfl rfl (fun _ => LV.pickF rfl rfl) ?_
              refine WS.pure rfl rfl (fun _ => LV.asg rfl) ?_
              refine WS.nil (blockQ.n <| thenQ.n ?_)
              refine WC.region ?_
              refine WL.lv rfl (LV.mv rfl) ?_
              refine WL.lv rfl (LV.add rfl rfl (wr64 (by omega) (by omega))) ?_
              refine WL.lv rfl (LV.asg rfl) ?_
              refine WL.nil (thenQ.n ?_)
              exact ⟨_, by omega, decide ((((PRS (a.take 40) (b.take 40)).getD (k).toNat (0, 0)).1) = (((onc (a.take 40) (b.take 40)).getD (i2).toNat (0, 0)).1) ∧ (((PRS (a.take 40) (b.take 40)).getD (k).toNat (0, 0)).2) = (((onc (a.take 40) (b.take 40)).getD (i2).toNat (0, 0)).2)), k + 1, by omega, by omega, (found_step (Q := fun t => (((PRS (a.take 40) (b.take 40)).getD t.toNat (0, 0)).1 = ((onc (a.take 40) (b.take 40)).getD i2.toNat (0, 0)).1 ∧ ((PRS (a.take 40) (b.take 40)).getD t.toNat (0, 0)).2 = ((onc (a.take 40) (b.take 40)).getD i2.toNat (0, 0)).2)) (f1.resolve_left (by rw [hgf]; decide))), hS18, rfl, Weak.cons rfl <| Weak.cons rfl <| Weak.cons rfl <| Weak.cons rfl <| Weak.cons rfl <| Weak.nil _⟩
          · skip
            refine WC.exit (thenQ.x <| thenQ.x <| blockQ.hit <| thenQ.n ?_)
            refine WC.seq ?_
            refine WC.region ?_
            refine WL.lv rfl (LV.mv rfl) ?_
            refine WL.lv rfl (LV.notB rfl) ?_
            refine WL.nil (thenQ.n ?_)
            refine WC.cond (b := !found) rfl (fun hc2 => ?_) (fun hc2 => ?_)
            · exfalso; rcases f1 with h_ | h_; (rw [h_] at hc2; cases hc2); exact once_all (by omega) (by omega) hends (fun t h1_ h2_ => z1 t h1_ (by omega)) i2lo hk2 (fun t h1_ h2_ => h_ t h1_ (by omega))
            · skip
              refine WC.skip (blockQ.n <| thenQ.n ?_)
              refine WC.region ?_
              refine WL.lv rfl (LV.mv rfl) ?_
              refine WL.lv rfl (LV.add rfl rfl (wr64 (by omega) (by omega))) ?_
              refine WL.lv rfl (LV.asg rfl) ?_
              refine WL.nil (thenQ.n ?_)
              exact ⟨_, by omega, i2 + 1, by omega, by omega, hL3, rfl, Weak.cons rfl <| Weak.cons rfl <| Weak.cons rfl <| Weak.nil _⟩
        · skip
          refine WC.exit (thenQ.x <| thenQ.x <| blockQ.hit <| thenQ.n ?_)
          refine WC.seq ?_
          refine WC.region ?_
          refine WL.call rfl (XC.fn Try.func8 (by kernel_rfl) rfl rfl rfl) (live27_calls  ) ?_
          rintro v_ w16 ⟨rfl, hk9⟩
          have hS19 := SH.same hL2 hk9
          refine WL.lv rfl (LV.asg rfl) ?_
          refine WL.nil (thenQ.n ?_)
          refine WC.ret (?_)
          exact ⟨_, fun a ha => res1 rfl ha rfl, rfl, hS19.kb⟩

end Go.Proofs.Ytkglebminidfeaa
