/- The laws of myers. -/
import Derived.Test.YtklfonkkpbkikaaMyD
import Derived.Test.YtklfonkkpbkikaaMyL
import Derived.Test.YtklfonkkpbkikaaMyT
namespace Go.Proofs.Ytklfonkkpbkikaa
open Go Go.Gv Go.RowKit Go.Mys
set_option linter.unusedVariables false
set_option linter.unusedSimpArgs false

theorem myersMetric_law {w : World} {A0 A1 A2 : Option Addr} {a b c : List Int} {c0 c1 c2 : Nat} (ha : St No w (Rd eI (.slice A0 a.length c0) a)) (hb : St No w (Rd eI (.slice A1 b.length c1) b)) (hc : St No w (Rd eI (.slice A2 c.length c2) c)) :
    Calls Try.prog 5 #[(.slice A0 a.length c0), (.slice A1 b.length c1), (.slice A2 c.length c2)] w fun e w' => ∃ v, e = .returned v ∧ (fun v w' => v = .bool true ∧ KB No w w') v w' := by
  have hd1 := Dst_bd (a.take 40) (b.take 40)
  have hd2 := Dst_bd (b.take 40) (c.take 40)
  have hd3 := Dst_bd (a.take 40) (c.take 40)
  have hS : SH w No w [] := SH.nil _ _
  refine calls (l := litOf [(.slice A0 a.length c0), (.slice A1 b.length c1), (.slice A2 c.length c2)] 0) Try.func5 rfl (n := 48) rfl (Nat.le_of_ble_eq_true rfl) (lit_args _) ?_
  refine WC.seq ?_
  refine WC.region ?_
  refine WL.lv rfl (LV.asg rfl) ?_
  refine WL.nil (thenQ.n ?_)
  refine WC.seq ?_
  refine WC.region ?_
  refine WL.lv rfl (LV.mv rfl) ?_
  refine WL.call rfl (XC.fn Try.func10 (by kernel_rfl) rfl rfl rfl) (few_calls (SH.stN hS ha)) ?_
  rintro v_ w1 ⟨rfl, hk1⟩
  have hS1 := SH.same hS hk1
  refine WL.lv rfl (LV.mv rfl) ?_
  refine WL.call rfl (XC.fn Try.func10 (by kernel_rfl) rfl rfl rfl) (few_calls (SH.stN hS1 hb)) ?_
  rintro v_ w2 ⟨rfl, hk2⟩
  have hS2 := SH.same hS1 hk2
  refine WL.lv rfl (LV.mv rfl) ?_
  refine WL.call rfl (XC.fn Try.func10 (by kernel_rfl) rfl rfl rfl) (few_calls (SH.stN hS2 hc)) ?_
  rintro v_ w3 ⟨rfl, hk3⟩
  have hS3 := SH.same hS2 hk3
  iterate 3 refine WL.lv rfl (LV.asg rfl) ?_
  refine WL.nil (thenQ.n ?_)
  refine WC.seq ?_
  refine WC.region ?_
  iterate 2 refine WL.lv rfl (LV.mv rfl) ?_
  refine WL.call rfl (XC.fn Try.func18 (by kernel_rfl) rfl rfl rfl) (distance_calls (SH.stN hS3 (few_rd 40 ha)) (SH.stN hS3 (few_rd 40 hb))) ?_
  rintro v_ w4 ⟨rfl, hk4⟩
  have hS4 := SH.same hS3 hk4
  iterate 2 refine WL.lv rfl (LV.mv rfl) ?_
  refine WL.call rfl (XC.fn Try.func18 (by kernel_rfl) rfl rfl rfl) (distance_calls (SH.stN hS4 (few_rd 40 hb)) (SH.stN hS4 (few_rd 40 hc))) ?_
  rintro v_ w5 ⟨rfl, hk5⟩
  have hS5 := SH.same hS4 hk5
  iterate 2 refine WL.lv rfl (LV.mv rfl) ?_
  refine WL.call rfl (XC.fn Try.func18 (by kernel_rfl) rfl rfl rfl) (distance_calls (SH.stN hS5 (few_rd 40 ha)) (SH.stN hS5 (few_rd 40 hc))) ?_
  rintro v_ w6 ⟨rfl, hk6⟩
  have hS6 := SH.same hS5 hk6
  iterate 3 refine WL.lv rfl (LV.asg rfl) ?_
  refine WL.nil (thenQ.n ?_)
  refine WC.seq ?_
  refine WC.region ?_
  refine WL.call rfl (XC.fn Try.func11 (by kernel_rfl) rfl rfl rfl) (live_calls) ?_
  rintro v_ w7 ⟨rfl, hk7⟩
  have hS7 := SH.same hS6 hk7
  iterate 2 refine WL.lv rfl (LV.mv rfl) ?_
  refine WL.lv rfl (LV.eqI rfl rfl) ?_
  iterate 2 refine WL.lv rfl (LV.mv rfl) ?_
  refine WL.call rfl (XC.fn Try.func20 (by kernel_rfl) rfl rfl rfl) (ints_calls (SH.stN hS7 (few_rd 40 ha)) (SH.stN hS7 (few_rd 40 hb))) ?_
  rintro v_ w8 ⟨rfl, hk8⟩
  have hS8 := SH.same hS7 hk8
  refine WL.lv rfl (LV.as (c := true) (LV.eqB Try.underlying4 rfl rfl) (metric0 (a.take 40) (b.take 40) (by rw [List.length_take]; omega) (by rw [List.length_take]; omega))) ?_
  refine WL.lv rfl (LV.pickT rfl rfl) ?_
  iterate 4 refine WL.lv rfl (LV.mv rfl) ?_
  refine WL.call rfl (XC.fn Try.func18 (by kernel_rfl) rfl rfl rfl) (distance_calls (SH.stN hS8 (few_rd 40 hb)) (SH.stN hS8 (few_rd 40 ha))) ?_
  rintro v_ w9 ⟨rfl, hk9⟩
  have hS9 := SH.same hS8 hk9
  refine WL.lv rfl (LV.as (LV.eqI rfl rfl) (decide_eq_true (Dst_comm _ _))) ?_
  refine WL.lv rfl (LV.pickT rfl rfl) ?_
  iterate 4 refine WL.lv rfl (LV.mv rfl) ?_
  refine WL.lv rfl (LV.add rfl rfl (wr64 (by omega) (by omega))) ?_
  refine WL.lv rfl (LV.as (LV.leI rfl rfl) (decide_eq_true (Dst_tri _ _ _ (by rw [List.length_take]; omega) (by rw [List.length_take]; omega) (by rw [List.length_take]; omega)))) ?_
  refine WL.lv rfl (LV.pickT rfl rfl) ?_
  refine WL.lv rfl (LV.asg rfl) ?_
  refine WL.nil (thenQ.n ?_)
  refine WC.ret (?_)
  exact ⟨_, fun a ha => res1 rfl ha rfl, rfl, hS9.kb⟩

theorem myersEnds_law {w : World} {A0 A1 A2 A3 : Option Addr} {a b c d : List Int} {c0 c1 c2 c3 : Nat} (ha : St No w (Rd eI (.slice A0 a.length c0) a)) (hb : St No w (Rd eI (.slice A1 b.length c1) b)) (hc : St No w (Rd eI (.slice A2 c.length c2) c)) (hd : St No w (Rd eI (.slice A3 d.length c3) d)) :
    Calls Try.prog 6 #[(.slice A0 a.length c0), (.slice A1 b.length c1), (.slice A2 c.length c2), (.slice A3 d.length c3)] w fun e w' => ∃ v, e = .returned v ∧ (fun v w' => v = .bool true ∧ KB No w w') v w' := by
  have hS : SH w No w [] := SH.nil _ _
  refine calls (l := litOf [(.slice A0 a.length c0), (.slice A1 b.length c1), (.slice A2 c.length c2), (.slice A3 d.length c3)] 0) Try.func6 rfl (n := 43) rfl (Nat.le_of_ble_eq_true rfl) (lit_args _) ?_
  refine WC.seq ?_
  refine WC.region ?_
  refine WL.lv rfl (LV.asg rfl) ?_
  refine WL.nil (thenQ.n ?_)
  refine WC.seq ?_
  refine WC.region ?_
  refine WL.lv rfl (LV.mv rfl) ?_
  refine WL.call rfl (XC.fn Try.func10 (by kernel_rfl) rfl rfl rfl) (few_calls (SH.stN hS ha)) ?_
  rintro v_ w1 ⟨rfl, hk1⟩
  have hS1 := SH.same hS hk1
  refine WL.lv rfl (LV.mv rfl) ?_
  refine WL.call rfl (XC.fn Try.func10 (by kernel_rfl) rfl rfl rfl) (few_calls (SH.stN hS1 hb)) ?_
  rintro v_ w2 ⟨rfl, hk2⟩
  have hS2 := SH.same hS1 hk2
  refine WL.lv rfl (LV.mv rfl) ?_
  refine WL.call rfl (XC.fn Try.func10 (by kernel_rfl) rfl rfl rfl) (few_calls (SH.stN hS2 hc)) ?_
  rintro v_ w3 ⟨rfl, hk3⟩
  have hS3 := SH.same hS2 hk3
  refine WL.lv rfl (LV.mv rfl) ?_
  refine WL.call rfl (XC.fn Try.func10 (by kernel_rfl) rfl rfl rfl) (few_calls (SH.stN hS3 hd)) ?_
  rintro v_ w4 ⟨rfl, hk4⟩
  have hS4 := SH.same hS3 hk4
  iterate 4 refine WL.lv rfl (LV.asg rfl) ?_
  refine WL.nil (thenQ.n ?_)
  refine WC.seq ?_
  refine WC.region ?_
  refine WL.xe rfl (XE.buildSlice (E := eI) [] #[] [] hS4 Try.underlying22 ti3 rfl (by decide) (by kernel_rfl) (.inr rfl) rfl rfl (by decide)) ?_
  rintro _ w5 ⟨b1, rfl, hS5, hk5⟩
  refine WL.lv rfl (LV.mv rfl) ?_
  refine WL.xe rfl (XE.append hS5 Try.underlying22 ti3 rfl (St.now (SH.stN hS5 (few_rd 40 ha))) rfl rfl (by first | omega | simp only [List.length_append, List.length_cons, List.length_nil, List.length_take, List.length_reverse, List.length_drop] at *; omega) (by first | omega | simp only [List.length_append, List.length_cons, List.length_nil, List.length_take, List.length_reverse, List.length_drop] at *; omega)) ?_
  rintro _ w6 ⟨A4, c4, rfl, hS6, hk6⟩
  refine WL.lv rfl (LV.mv rfl) ?_
  refine WL.xe rfl (XE.append hS6 Try.underlying22 ti3 rfl (St.now (SH.stN hS6 (few_rd 40 hb))) rfl rfl (by first | omega | simp only [List.length_append, List.length_cons, List.length_nil, List.length_take, List.length_reverse, List.length_drop] at *; omega) (by first | omega | simp only [List.length_append, List.length_cons, List.length_nil, List.length_take, List.length_reverse, List.length_drop] at *; omega)) ?_
  rintro _ w7 ⟨A5, c5, rfl, hS7, hk7⟩
  refine WL.lv rfl (LV.mv rfl) ?_
  refine WL.xe rfl (XE.append hS7 Try.underlying22 ti3 rfl (St.now (SH.stN hS7 (few_rd 40 hd))) rfl rfl (by first | omega | simp only [List.length_append, List.length_cons, List.length_nil, List.length_take, List.length_reverse, List.length_drop] at *; omega) (by first | omega | simp only [List.length_append, List.length_cons, List.length_nil, List.length_take, List.length_reverse, List.length_drop] at *; omega)) ?_
  rintro _ w8 ⟨A6, c6, rfl, hS8, hk8⟩
  refine WL.lv rfl (LV.asg rfl) ?_
  refine WL.nil (thenQ.n ?_)
  refine WC.seq ?_
  refine WC.region ?_
  refine WL.xe rfl (XE.buildSlice (E := eI) [] #[] [] hS8 Try.underlying22 ti3 rfl (by decide) (by kernel_rfl) (.inr rfl) rfl rfl (by decide)) ?_
  rintro _ w9 ⟨b2, rfl, hS9, hk9⟩
  refine WL.lv rfl (LV.mv rfl) ?_
  refine WL.xe rfl (XE.append hS9 Try.underlying22 ti3 rfl (St.now (SH.stN hS9 (few_rd 40 ha))) rfl rfl (by first | omega | simp only [List.length_append, List.length_cons, List.length_nil, List.length_take, List.length_reverse, List.length_drop] at *; omega) (by first | omega | simp only [List.length_append, List.length_cons, List.length_nil, List.length_take, List.length_reverse, List.length_drop] at *; omega)) ?_
  rintro _ w10 ⟨A7, c7, rfl, hS10, hk10⟩
  refine WL.lv rfl (LV.mv rfl) ?_
  refine WL.xe rfl (XE.append hS10 Try.underlying22 ti3 rfl (St.now (SH.stN hS10 (few_rd 40 hc))) rfl rfl (by first | omega | simp only [List.length_append, List.length_cons, List.length_nil, List.length_take, List.length_reverse, List.length_drop] at *; omega) (by first | omega | simp only [List.length_append, List.length_cons, List.length_nil, List.length_take, List.length_reverse, List.length_drop] at *; omega)) ?_
  rintro _ w11 ⟨A8, c8, rfl, hS11, hk11⟩
  refine WL.lv rfl (LV.mv rfl) ?_
  refine WL.xe rfl (XE.append hS11 Try.underlying22 ti3 rfl (St.now (SH.stN hS11 (few_rd 40 hd))) rfl rfl (by first | omega | simp only [List.length_append, List.length_cons, List.length_nil, List.length_take, List.length_reverse, List.length_drop] at *; omega) (by first | omega | simp only [List.length_append, List.length_cons, List.length_nil, List.length_take, List.length_reverse, List.length_drop] at *; omega)) ?_
  rintro _ w12 ⟨A9, c9, rfl, hS12, hk12⟩
  refine WL.lv rfl (LV.asg rfl) ?_
  refine WL.nil (thenQ.n ?_)
  refine WC.seq ?_
  refine WC.region ?_
  refine WL.call rfl (XC.fn Try.func11 (by kernel_rfl) rfl rfl rfl) (live_calls) ?_
  rintro v_ w13 ⟨rfl, hk13⟩
  have hS13 := SH.same hS12 hk13
  iterate 3 refine WL.lv rfl (LV.mv rfl) ?_
  refine WL.call rfl (XC.fn Try.func18 (by kernel_rfl) rfl rfl rfl) (distance_calls (SH.rd hS13 (.tail _ (.head _))) (SH.rd hS13 (.head _))) ?_
  rintro v_ w14 ⟨rfl, hk14⟩
  have hS14 := SH.same hS13 hk14
  iterate 2 refine WL.lv rfl (LV.mv rfl) ?_
  refine WL.call rfl (XC.fn Try.func18 (by kernel_rfl) rfl rfl rfl) (distance_calls (SH.stN hS14 (few_rd 40 hb)) (SH.stN hS14 (few_rd 40 hc))) ?_
  rintro v_ w15 ⟨rfl, hk15⟩
  have hS15 := SH.same hS14 hk15
  refine WL.lv rfl (LV.as (LV.eqI rfl rfl) (decide_eq_true (ends_law (by rw [List.length_take]; omega) (by rw [List.length_take]; omega) (by rw [List.length_take]; omega) (by rw [List.length_take]; omega)))) ?_
  refine WL.lv rfl (LV.pickT rfl rfl) ?_
  refine WL.lv rfl (LV.asg rfl) ?_
  refine WL.nil (thenQ.n ?_)
  refine WC.ret (?_)
  exact ⟨_, fun a ha => res1 rfl ha rfl, rfl, hS15.kb⟩

theorem myersLong_law {w : World} {A0 A1 : Option Addr} {a b : List Int} {c0 c1 : Nat} (ha : St No w (Rd eI (.slice A0 a.length c0) a)) (hb : St No w (Rd eI (.slice A1 b.length c1) b)) :
    Calls Try.prog 8 #[(.slice A0 a.length c0), (.slice A1 b.length c1)] w fun e w' => ∃ v, e = .returned v ∧ (fun v w' => v = .bool true ∧ KB No w w') v w' := by
  have hnil : a.length > 400 ∨ b.length > 400 → (Prs a b).length = 0 ∧ (Stp a b).length = 0 := fun h => by unfold Prs Stp; rw [if_pos h, if_pos h]; exact ⟨rfl, rfl⟩
  have hS : SH w No w [] := SH.nil _ _
  refine calls (l := litOf [(.slice A0 a.length c0), (.slice A1 b.length c1)] 0) Try.func8 rfl (n := 42) rfl (Nat.le_of_ble_eq_true rfl) (lit_args _) ?_
  refine WC.seq ?_
  refine WC.region ?_
  refine WL.lv rfl (LV.asg rfl) ?_
  refine WL.nil (thenQ.n ?_)
  refine WC.seq ?_
  refine WC.region ?_
  iterate 2 refine WL.lv rfl (LV.mv rfl) ?_
  refine WL.call rfl (XC.fn Try.func21 (by kernel_rfl) rfl rfl rfl) (long_calls) ?_
  rintro v_ w1 ⟨rfl, hk1⟩
  have hS1 := SH.same hS hk1
  refine WL.lv rfl (LV.asg rfl) ?_
  refine WL.nil (thenQ.n ?_)
  iterate 2 refine WC.seq ?_
  refine WC.region ?_
  iterate 2 refine WL.lv rfl (LV.mv rfl) ?_
  refine WL.lv rfl (LV.lenL Try.underlying22 rfl) ?_
  rcases Decidable.em ((a.length : Int) > 400) with hg1 | hg1
  · refine WL.lv rfl (LV.as (LV.gtI rfl rfl) (decide_eq_true hg1)) ?_
    refine WL.lv rfl (LV.mv rfl) ?_
    iterate 3 refine WL.off rfl ?_
    refine WL.lv rfl (LV.pickT rfl rfl) ?_
    refine WL.lv rfl (LV.as (c := false) (LV.neB Try.underlying4 rfl rfl) (congrArg (fun x => x != true) (decide_eq_true (show a.length > 400 ∨ b.length > 400 by omega)))) ?_
    refine WL.nil (thenQ.n ?_)
    refine WC.condF rfl ?_
    refine WC.skip (thenQ.n ?_)
    refine WC.seq ?_
    refine WC.region ?_
    refine WL.call rfl (XC.fn Try.func11 (by kernel_rfl) rfl rfl rfl) (live_calls) ?_
    rintro v_ w2 ⟨rfl, hk2⟩
    have hS2 := SH.same hS1 hk2
    iterate 2 refine WL.lv rfl (LV.mv rfl) ?_
    rcases Decidable.em (¬ (a.length > 400 ∨ b.length > 400)) with hg2 | hg2
    · refine WL.lv rfl (LV.as (LV.notP rfl) (decide_eq_true hg2)) ?_
      refine WL.lv rfl (LV.mv rfl) ?_
      iterate 16 refine WL.off rfl ?_
      iterate 2 refine WL.lv rfl (LV.pickT rfl rfl) ?_
      refine WL.lv rfl (LV.asg rfl) ?_
      refine WL.nil (thenQ.n ?_)
      refine WC.ret (?_)
      exact ⟨_, fun a ha => res1 rfl ha rfl, rfl, hS2.kb⟩
    · refine WL.lv rfl (LV.as (LV.notP rfl) (decide_eq_false hg2)) ?_
      iterate 3 refine WL.lv rfl (LV.mv rfl) ?_
      refine WL.call rfl (XC.fn Try.func18 (by kernel_rfl) rfl rfl rfl) (distance_calls (SH.stN hS2 ha) (SH.stN hS2 hb)) ?_
      rintro v_ w3 ⟨rfl, hk3⟩
      have hS3 := SH.same hS2 hk3
      refine WL.lv rfl (LV.as (LV.eqI rfl rfl) (decide_eq_true (if_pos (by omega)))) ?_
      iterate 3 refine WL.lv rfl (LV.mv rfl) ?_
      refine WL.call rfl (XC.fn Try.func16 (by kernel_rfl) rfl rfl rfl) (pairs7_eq rfl rfl (SH.stN hS3 ha) (SH.stN hS3 hb) rfl rfl) ?_
      rintro v_ w4 ⟨A2, c2, rfl, hS4⟩
      have hS5 := SH.joinN hS3 hS4
      refine WL.lv rfl (LV.lenL Try.underlying29 rfl) ?_
      iterate 2 refine WL.lv rfl (LV.mv rfl) ?_
      refine WL.call rfl (XC.fn Try.func13 (by kernel_rfl) rfl rfl rfl) (steps7_eq rfl rfl (SH.stN hS5 ha) (SH.stN hS5 hb) rfl rfl) ?_
      rintro v_ w5 ⟨A3, c3, rfl, hS6⟩
      have hS7 := SH.joinN hS5 hS6
      refine WL.lv rfl (LV.lenL Try.underlying26 rfl) ?_
      refine WL.lv rfl (LV.add rfl rfl (wr64 (by omega) (by omega))) ?_
      refine WL.lv rfl (LV.as (LV.eqI rfl rfl) (decide_eq_true (by omega))) ?_
      refine WL.lv rfl (LV.pickT rfl rfl) ?_
      refine WL.lv rfl (LV.pickF rfl rfl) ?_
      refine WL.lv rfl (LV.pickT rfl rfl) ?_
      refine WL.lv rfl (LV.asg rfl) ?_
      refine WL.nil (thenQ.n ?_)
      refine WC.ret (?_)
      exact ⟨_, fun a ha => res1 rfl ha rfl, rfl, hS7.kb⟩
  · refine WL.lv rfl (LV.as (LV.gtI rfl rfl) (decide_eq_false hg1)) ?_
    iterate 2 refine WL.lv rfl (LV.mv rfl) ?_
    refine WL.lv rfl (LV.lenL Try.underlying22 rfl) ?_
    refine WL.lv rfl (LV.gtI rfl rfl) ?_
    refine WL.lv rfl (LV.pickF rfl rfl) ?_
    refine WL.lv rfl (LV.as (c := false) (LV.neB Try.underlying4 rfl rfl) ((congrArg (fun x => x != decide ((b.length : Int) > 400)) (show decide (a.length > 400 ∨ b.length > 400) = decide ((b.length : Int) > 400) from decide_eq_decide.2 (by omega))).trans (bne_self_eq_false _))) ?_
    refine WL.nil (thenQ.n ?_)
    refine WC.condF rfl ?_
    refine WC.skip (thenQ.n ?_)
    refine WC.seq ?_
    refine WC.region ?_
    refine WL.call rfl (XC.fn Try.func11 (by kernel_rfl) rfl rfl rfl) (live_calls) ?_
    rintro v_ w6 ⟨rfl, hk4⟩
    have hS8 := SH.same hS1 hk4
    iterate 2 refine WL.lv rfl (LV.mv rfl) ?_
    rcases Decidable.em (¬ (a.length > 400 ∨ b.length > 400)) with hg3 | hg3
    · refine WL.lv rfl (LV.as (LV.notP rfl) (decide_eq_true hg3)) ?_
      refine WL.lv rfl (LV.mv rfl) ?_
      iterate 16 refine WL.off rfl ?_
      iterate 2 refine WL.lv rfl (LV.pickT rfl rfl) ?_
      refine WL.lv rfl (LV.asg rfl) ?_
      refine WL.nil (thenQ.n ?_)
      refine WC.ret (?_)
      exact ⟨_, fun a ha => res1 rfl ha rfl, rfl, hS8.kb⟩
    · refine WL.lv rfl (LV.as (LV.notP rfl) (decide_eq_false hg3)) ?_
      iterate 3 refine WL.lv rfl (LV.mv rfl) ?_
      refine WL.call rfl (XC.fn Try.func18 (by kernel_rfl) rfl rfl rfl) (distance_calls (SH.stN hS8 ha) (SH.stN hS8 hb)) ?_
      rintro v_ w7 ⟨rfl, hk5⟩
      have hS9 := SH.same hS8 hk5
      refine WL.lv rfl (LV.as (LV.eqI rfl rfl) (decide_eq_true (if_pos (by omega)))) ?_
      iterate 3 refine WL.lv rfl (LV.mv rfl) ?_
      refine WL.call rfl (XC.fn Try.func16 (by kernel_rfl) rfl rfl rfl) (pairs7_eq rfl rfl (SH.stN hS9 ha) (SH.stN hS9 hb) rfl rfl) ?_
      rintro v_ w8 ⟨A4, c4, rfl, hS10⟩
      have hS11 := SH.joinN hS9 hS10
      refine WL.lv rfl (LV.lenL Try.underlying29 rfl) ?_
      iterate 2 refine WL.lv rfl (LV.mv rfl) ?_
      refine WL.call rfl (XC.fn Try.func13 (by kernel_rfl) rfl rfl rfl) (steps7_eq rfl rfl (SH.stN hS11 ha) (SH.stN hS11 hb) rfl rfl) ?_
      rintro v_ w9 ⟨A5, c5, rfl, hS12⟩
      have hS13 := SH.joinN hS11 hS12
      refine WL.lv rfl (LV.lenL Try.underlying26 rfl) ?_
      refine WL.lv rfl (LV.add rfl rfl (wr64 (by omega) (by omega))) ?_
      refine WL.lv rfl (LV.as (LV.eqI rfl rfl) (decide_eq_true (by omega))) ?_
      refine WL.lv rfl (LV.pickT rfl rfl) ?_
      refine WL.lv rfl (LV.pickF rfl rfl) ?_
      refine WL.lv rfl (LV.pickT rfl rfl) ?_
      refine WL.lv rfl (LV.asg rfl) ?_
      refine WL.nil (thenQ.n ?_)
      refine WC.ret (?_)
      exact ⟨_, fun a ha => res1 rfl ha rfl, rfl, hS13.kb⟩

theorem myersTurned_law {w : World} {A0 A1 : Option Addr} {a b : List Int} {c0 c1 : Nat} (ha : St No w (Rd eI (.slice A0 a.length c0) a)) (hb : St No w (Rd eI (.slice A1 b.length c1) b)) {n : Int} (hn : -9223372036854775808 ≤ n ∧ n ≤ 9223372036854775807) :
    Calls Try.prog 9 #[(.slice A0 a.length c0), (.slice A1 b.length c1), (.int .i64 n)] w fun e w' => ∃ v, e = .returned v ∧ (fun v w' => v = .bool true ∧ KB No w w') v w' := by
  have hd1 := Dst_bd (a.take 40) (b.take 40)
  have hla : (a.take 40).length ≤ 40 := by rw [List.length_take]; omega
  have hlb : (b.take 40).length ≤ 40 := by rw [List.length_take]; omega
  have hS : SH w No w [] := SH.nil _ _
  refine calls (l := litOf [(.slice A0 a.length c0), (.slice A1 b.length c1), (.int .i64 n)] 0) Try.func9 rfl (n := 87) rfl (Nat.le_of_ble_eq_true rfl) (lit_args _) ?_
  refine WC.seq ?_
  refine WC.region ?_
  refine WL.lv rfl (LV.asg rfl) ?_
  refine WL.nil (thenQ.n ?_)
  refine WC.seq ?_
  refine WC.region ?_
  refine WL.lv rfl (LV.mv rfl) ?_
  refine WL.call rfl (XC.fn Try.func10 (by kernel_rfl) rfl rfl rfl) (few_calls (SH.stN hS ha)) ?_
  rintro v_ w1 ⟨rfl, hk1⟩
  have hS1 := SH.same hS hk1
  refine WL.lv rfl (LV.mv rfl) ?_
  refine WL.call rfl (XC.fn Try.func10 (by kernel_rfl) rfl rfl rfl) (few_calls (SH.stN hS1 hb)) ?_
  rintro v_ w2 ⟨rfl, hk2⟩
  have hS2 := SH.same hS1 hk2
  iterate 2 refine WL.lv rfl (LV.asg rfl) ?_
  refine WL.nil (thenQ.n ?_)
  refine WC.seq ?_
  refine WC.region ?_
  iterate 2 refine WL.lv rfl (LV.asg rfl) ?_
  refine WL.nil (thenQ.n ?_)
  iterate 2 refine WC.seq ?_
  refine WC.region ?_
  have hS3 := SH.nilRow (E := eI) (T := 3) hS2
  have hS4 := SH.nilRow (E := eI) (T := 3) hS3
  refine WL.lv rfl (LV.mv rfl) ?_
  refine WL.lv rfl (LV.lenL Try.underlying22 rfl) ?_
  refine WL.lv rfl (LV.sub rfl rfl (wr64 (by omega) (by omega))) ?_
  refine WL.lv rfl (LV.asg rfl) ?_
  refine WL.nil (thenQ.n ?_)
  refine WC.block ?_
  refine WC.loop (fun m_ f_ w_ => ∃ (i : Int) (Ax : Option Addr) (cx : Nat) (x : List Int), (-1 ≤ i) ∧ (i < (a.take 40).length) ∧ (x = ((a.take 40).drop (i + 1).toNat).reverse) ∧ SH w No w_ [rowE eI 3 (.slice Ax x.length cx) x, rowE eI 3 (.slice none 0 0) []] ∧ m_ = ((i + 1).toNat) ∧ Weak (lit [(0, (.slice (cutA A0 c0 1) ((a.take 40).length) c0)), (1, (.slice (cutA A1 c1 1) ((b.take 40).length) c1)), (2, (.int .i64 n)), (6, (.bool false)), (7, (.slice Ax x.length cx)), (8, (.slice none 0 0)), (9, (.int .i64 i))]) f_) _ ⟨((a.take 40).length : Int) - 1, none, 0, [], by omega, by omega, (by rw [List.drop_of_length_le (by omega)]; rfl), hS4, rfl, Weak.cons rfl <| Weak.cons rfl <| Weak.cons rfl <| Weak.cons rfl <| Weak.cons rfl <| Weak.cons rfl <| Weak.cons rfl <| Weak.nil _⟩ ?_
  rintro m1 f1 w3 ⟨i, Ax, cx, x, p0, p1, p2, hL1, rfl, hw1⟩
  refine WC.weak hw1 ?_
  clear hw1
  iterate 2 refine WC.seq ?_
  refine WC.region ?_
  refine WL.lv rfl (LV.mv rfl) ?_
  refine WL.lv rfl (LV.geI rfl rfl) ?_
  refine WL.nil (thenQ.n ?_)
  refine WC.condP (p := i ≥ 0) rfl (fun hc1 => ?_) (fun hc1 => ?_)
  · skip
    refine WC.skip (thenQ.n ?_)
    refine WC.seq ?_
    refine WC.block ?_
    refine WC.region ?_
    iterate 3 refine WL.lv rfl (LV.mv rfl) ?_
    obtain ⟨A2, c2, e1, g1⟩ := St.elt (SH.stN hL1 (few_rd 40 ha)) 0 i (by omega) (by omega)
    refine WL.lv rfl (LV.idxA Try.underlying22 ti3.sz rfl e1 rfl (by omega) (by omega)) ?_
    refine WL.lv rfl (LV.load1 (v := (.int .i64 (gI (a.take 40) (i)))) Try.underlying3 rfl rfl (g1 _ (KB.refl No _) 0 _ rfl)) ?_
    refine WL.xe rfl (XE.buildSlice (E := eI) [(0, (.int .i64 (gI (a.take 40) (i))))] #[(.int .i64 (gI (a.take 40) (i)))] [gI (a.take 40) (i)] hL1 Try.underlying22 ti3 rfl (by decide) (by kernel_rfl) (.inr rfl) rfl rfl (by decide)) ?_
    rintro _ w4 ⟨b1, rfl, hS5, hk3⟩
    have hS6 : SH w No w4 [rowE eI 3 (.slice Ax x.length cx) x, rowE eI 3 (.slice (some ⟨b1, 0, none⟩) 1 1) [gI (a.take 40) (i)], rowE eI 3 (.slice none 0 0) []] := (SH.front [rowE eI 3 (.slice (some ⟨b1, 0, none⟩) 1 1) [gI (a.take 40) (i)]] hS5)
    refine WL.xe rfl (XE.append hS6 Try.underlying22 ti3 rfl (St.now (SH.rd hS6 (.tail _ (.head _)))) rfl rfl (by simp [p2]; omega) (by simp [p2]; omega)) ?_
    rintro _ w5 ⟨A3, c3, rfl, hS7, hk4⟩
    refine WL.lv rfl (LV.asg rfl) ?_
    refine WL.nil (blockQ.n <| thenQ.n ?_)
    refine WC.region ?_
    refine WL.lv rfl (LV.mv rfl) ?_
    refine WL.lv rfl (LV.sub rfl rfl (wr64 (by omega) (by omega))) ?_
    refine WL.lv rfl (LV.asg rfl) ?_
    refine WL.nil (thenQ.n ?_)
    have hS8 : SH w No w5 [rowE eI 3 (.slice A3 ((x ++ [gI (a.take 40) (i)]).length) c3) (x ++ [gI (a.take 40) (i)]), rowE eI 3 (.slice none 0 0) []] := (SH.take 2 rfl (SH.front [rowE eI 3 (.slice none 0 0) []] (SH.front [rowE eI 3 (.slice A3 ((x ++ [gI (a.take 40) (i)]).length) c3) (x ++ [gI (a.take 40) (i)]), rowE eI 3 (.slice (some ⟨b1, 0, none⟩) 1 1) [gI (a.take 40) (i)]] hS7)))
    exact ⟨_, by omega, i - 1, A3, c3, (x ++ [gI (a.take 40) (i)]), by omega, by omega, (by rw [p2]; exact rev_step (by omega) (by omega)), hS8, rfl, Weak.cons rfl <| Weak.cons rfl <| Weak.cons rfl <| Weak.cons rfl <| Weak.cons rfl <| Weak.cons rfl <| Weak.cons rfl <| Weak.nil _⟩
  · skip
    refine WC.exit (thenQ.x <| thenQ.x <| blockQ.hit <| thenQ.n ?_)
    iterate 2 refine WC.seq ?_
    refine WC.region ?_
    refine WL.lv rfl (LV.mv rfl) ?_
    refine WL.lv rfl (LV.lenL Try.underlying22 rfl) ?_
    refine WL.lv rfl (LV.sub rfl rfl (wr64 (by omega) (by omega))) ?_
    refine WL.lv rfl (LV.asg rfl) ?_
    refine WL.nil (thenQ.n ?_)
    refine WC.block ?_
    refine WC.loop (fun m_ f_ w_ => ∃ (j : Int) (Ay : Option Addr) (cy : Nat) (y : List Int), (-1 ≤ j) ∧ (j < (b.take 40).length) ∧ (y = ((b.take 40).drop (j + 1).toNat).reverse) ∧ SH w No w_ [rowE eI 3 (.slice Ax x.length cx) x, rowE eI 3 (.slice Ay y.length cy) y] ∧ m_ = ((j + 1).toNat) ∧ Weak (lit [(0, (.slice (cutA A0 c0 1) ((a.take 40).length) c0)), (1, (.slice (cutA A1 c1 1) ((b.take 40).length) c1)), (2, (.int .i64 n)), (6, (.bool false)), (7, (.slice Ax x.length cx)), (8, (.slice Ay y.length cy)), (10, (.int .i64 j))]) f_) _ ⟨((b.take 40).length : Int) - 1, none, 0, [], by omega, by omega, (by rw [List.drop_of_length_le (by omega)]; rfl), hL1, rfl, Weak.cons rfl <| Weak.cons rfl <| Weak.cons rfl <| Weak.cons rfl <| Weak.cons rfl <| Weak.cons rfl <| Weak.cons rfl <| Weak.nil _⟩ ?_
    rintro m2 f2 w6 ⟨j, Ay, cy, y, q0, q1, q2, hL2, rfl, hw2⟩
    refine WC.weak hw2 ?_
    clear hw2
    iterate 2 refine WC.seq ?_
    refine WC.region ?_
    refine WL.lv rfl (LV.mv rfl) ?_
    refine WL.lv rfl (LV.geI rfl rfl) ?_
    refine WL.nil (thenQ.n ?_)
    refine WC.condP (p := j ≥ 0) rfl (fun hc2 => ?_) (fun hc2 => ?_)
    · skip
      refine WC.skip (thenQ.n ?_)
      refine WC.seq ?_
      refine WC.block ?_
      refine WC.region ?_
      iterate 3 refine WL.lv rfl (LV.mv rfl) ?_
      obtain ⟨A4, c4, e2, g2⟩ := St.elt (SH.stN hL2 (few_rd 40 hb)) 0 j (by omega) (by omega)
      refine WL.lv rfl (LV.idxA Try.underlying22 ti3.sz rfl e2 rfl (by omega) (by omega)) ?_
      refine WL.lv rfl (LV.load1 (v := (.int .i64 (gI (b.take 40) (j)))) Try.underlying3 rfl rfl (g2 _ (KB.refl No _) 0 _ rfl)) ?_
      refine WL.xe rfl (XE.buildSlice (E := eI) [(0, (.int .i64 (gI (b.take 40) (j))))] #[(.int .i64 (gI (b.take 40) (j)))] [gI (b.take 40) (j)] hL2 Try.underlying22 ti3 rfl (by decide) (by kernel_rfl) (.inr rfl) rfl rfl (by decide)) ?_
      rintro _ w7 ⟨b2, rfl, hS9, hk5⟩
      have hS10 : SH w No w7 [rowE eI 3 (.slice Ay y.length cy) y, rowE eI 3 (.slice (some ⟨b2, 0, none⟩) 1 1) [gI (b.take 40) (j)], rowE eI 3 (.slice Ax x.length cx) x] := (SH.front [rowE eI 3 (.slice (some ⟨b2, 0, none⟩) 1 1) [gI (b.take 40) (j)], rowE eI 3 (.slice Ax x.length cx) x] hS9)
      refine WL.xe rfl (XE.append hS10 Try.underlying22 ti3 rfl (St.now (SH.rd hS10 (.tail _ (.head _)))) rfl rfl (by simp [q2]; omega) (by simp [q2]; omega)) ?_
      rintro _ w8 ⟨A5, c5, rfl, hS11, hk6⟩
      refine WL.lv rfl (LV.asg rfl) ?_
      refine WL.nil (blockQ.n <| thenQ.n ?_)
      refine WC.region ?_
      refine WL.lv rfl (LV.mv rfl) ?_
      refine WL.lv rfl (LV.sub rfl rfl (wr64 (by omega) (by omega))) ?_
      refine WL.lv rfl (LV.asg rfl) ?_
      refine WL.nil (thenQ.n ?_)
      have hS12 : SH w No w8 [rowE eI 3 (.slice Ax x.length cx) x, rowE eI 3 (.slice A5 ((y ++ [gI (b.take 40) (j)]).length) c5) (y ++ [gI (b.take 40) (j)])] := (SH.take 2 rfl (SH.front [rowE eI 3 (.slice A5 ((y ++ [gI (b.take 40) (j)]).length) c5) (y ++ [gI (b.take 40) (j)]), rowE eI 3 (.slice (some ⟨b2, 0, none⟩) 1 1) [gI (b.take 40) (j)]] hS11))
      exact ⟨_, by omega, j - 1, A5, c5, (y ++ [gI (b.take 40) (j)]), by omega, by omega, (by rw [q2]; exact rev_step (by omega) (by omega)), hS12, rfl, Weak.cons rfl <| Weak.cons rfl <| Weak.cons rfl <| Weak.cons rfl <| Weak.cons rfl <| Weak.cons rfl <| Weak.cons rfl <| Weak.nil _⟩
    · skip
      refine WC.exit (thenQ.x <| thenQ.x <| blockQ.hit <| thenQ.n ?_)
      refine WC.seq ?_
      refine WC.region ?_
      iterate 2 refine WL.lv rfl (LV.mv rfl) ?_
      refine WL.call rfl (XC.fn Try.func18 (by kernel_rfl) rfl rfl rfl) (distance_calls (SH.stN hL2 (few_rd 40 ha)) (SH.stN hL2 (few_rd 40 hb))) ?_
      rintro v_ w9 ⟨rfl, hk7⟩
      have hS13 := SH.same hL2 hk7
      refine WL.lv rfl (LV.asg rfl) ?_
      refine WL.nil (thenQ.n ?_)
      refine WC.seq ?_
      refine WC.region ?_
      refine WL.xe rfl (XE.buildSlice (E := eI) [] #[] [] hS13 Try.underlying22 ti3 rfl (by decide) (by kernel_rfl) (.inr rfl) rfl rfl (by decide)) ?_
      rintro _ w10 ⟨b3, rfl, hS14, hk8⟩
      refine WL.lv rfl (LV.mv rfl) ?_
      refine WL.xe rfl (XE.append hS14 Try.underlying22 ti3 rfl (St.now (SH.stN hS14 (few_rd 40 ha))) rfl rfl (by first | omega | simp only [List.length_append, List.length_cons, List.length_nil, List.length_take, List.length_reverse, List.length_drop] at *; omega) (by first | omega | simp only [List.length_append, List.length_cons, List.length_nil, List.length_take, List.length_reverse, List.length_drop] at *; omega)) ?_
      rintro _ w11 ⟨A6, c6, rfl, hS15, hk9⟩
      refine WL.lv rfl (LV.mv rfl) ?_
      refine WL.xe rfl (XE.buildSlice (E := eI) [(0, (.int .i64 n))] #[(.int .i64 n)] [n] hS15 Try.underlying22 ti3 rfl (by decide) (by kernel_rfl) (.inr rfl) rfl rfl (by decide)) ?_
      rintro _ w12 ⟨b4, rfl, hS16, hk10⟩
      have hS17 : SH w No w12 [rowE eI 3 (.slice A6 (([] ++ (a.take 40)).length) c6) ([] ++ (a.take 40)), rowE eI 3 (.slice (some ⟨b4, 0, none⟩) 1 1) [n], rowE eI 3 (.slice Ax x.length cx) x, rowE eI 3 (.slice Ay y.length cy) y] := (SH.front [rowE eI 3 (.slice (some ⟨b4, 0, none⟩) 1 1) [n]] hS16)
      refine WL.xe rfl (XE.append hS17 Try.underlying22 ti3 rfl (St.now (SH.rd hS17 (.tail _ (.head _)))) rfl rfl (by first | omega | simp only [List.length_append, List.length_cons, List.length_nil, List.length_take, List.length_reverse, List.length_drop] at *; omega) (by first | omega | simp only [List.length_append, List.length_cons, List.length_nil, List.length_take, List.length_reverse, List.length_drop] at *; omega)) ?_
      rintro _ w13 ⟨A7, c7, rfl, hS18, hk11⟩
      refine WL.lv rfl (LV.mv rfl) ?_
      refine WL.call rfl (XC.fn Try.func18 (by kernel_rfl) rfl rfl rfl) (distance_calls (SH.rd hS18 (.head _)) (SH.stN hS18 (few_rd 40 hb))) ?_
      rintro v_ w14 ⟨rfl, hk12⟩
      have hS19 := SH.same hS18 hk12
      refine WL.lv rfl (LV.asg rfl) ?_
      refine WL.nil (thenQ.n ?_)
      refine WC.seq ?_
      refine WC.region ?_
      refine WL.call rfl (XC.fn Try.func11 (by kernel_rfl) rfl rfl rfl) (live_calls) ?_
      rintro v_ w15 ⟨rfl, hk13⟩
      have hS20 := SH.same hS19 hk13
      iterate 3 refine WL.lv rfl (LV.mv rfl) ?_
      refine WL.call rfl (XC.fn Try.func18 (by kernel_rfl) rfl rfl rfl) (distance_calls (SH.rd hS20 (.tail _ (.tail _ (.head _)))) (SH.rd hS20 (.tail _ (.tail _ (.tail _ (.head _)))))) ?_
      rintro v_ w16 ⟨rfl, hk14⟩
      have hS21 := SH.same hS20 hk14
      refine WL.lv rfl (LV.mv rfl) ?_
      refine WL.lv rfl (LV.as (LV.eqI rfl rfl) (decide_eq_true (by rw [p2, q2, show (i + 1).toNat = 0 by omega, show (j + 1).toNat = 0 by omega]; exact Dst_reverse hla hlb))) ?_
      refine WL.lv rfl (LV.pickT rfl rfl) ?_
      iterate 3 refine WL.lv rfl (LV.mv rfl) ?_
      refine WL.call rfl (XC.fn Try.func16 (by kernel_rfl) rfl rfl rfl) (pairs7_eq rfl rfl (SH.stN hS21 (few_rd 40 ha)) (SH.stN hS21 (few_rd 40 hb)) rfl rfl) ?_
      rintro v_ w17 ⟨A8, c8, rfl, hS22⟩
      have hS23 := SH.joinN hS21 hS22
      refine WL.lv rfl (LV.lenL Try.underlying29 rfl) ?_
      iterate 2 refine WL.lv rfl (LV.mv rfl) ?_
      refine WL.call rfl (XC.fn Try.func16 (by kernel_rfl) rfl rfl rfl) (pairs7_eq rfl rfl (SH.stN hS23 (few_rd 40 hb)) (SH.stN hS23 (few_rd 40 ha)) rfl rfl) ?_
      rintro v_ w18 ⟨A9, c9, rfl, hS24⟩
      have hS25 := SH.joinN hS23 hS24
      refine WL.lv rfl (LV.lenL Try.underlying29 rfl) ?_
      refine WL.lv rfl (LV.as (LV.eqI rfl rfl) (decide_eq_true (Prs_comm (by omega) (by omega)))) ?_
      refine WL.lv rfl (LV.pickT rfl rfl) ?_
      iterate 3 refine WL.lv rfl (LV.mv rfl) ?_
      refine WL.lv rfl (LV.add rfl rfl (wr64 (by omega) (by omega))) ?_
      rcases Decidable.em ((Dst (([] ++ (a.take 40)) ++ [n]) (b.take 40)) = ((Dst (a.take 40) (b.take 40)) + 1)) with hg1 | hg1
      · refine WL.lv rfl (LV.as (LV.eqI rfl rfl) (decide_eq_true hg1)) ?_
        refine WL.lv rfl (LV.mv rfl) ?_
        iterate 4 refine WL.off rfl ?_
        iterate 2 refine WL.lv rfl (LV.pickT rfl rfl) ?_
        refine WL.lv rfl (LV.asg rfl) ?_
        refine WL.nil (thenQ.n ?_)
        refine WC.ret (?_)
        exact ⟨_, fun a ha => res1 rfl ha rfl, rfl, hS25.kb⟩
      · refine WL.lv rfl (LV.as (LV.eqI rfl rfl) (decide_eq_false hg1)) ?_
        iterate 3 refine WL.lv rfl (LV.mv rfl) ?_
        refine WL.lv rfl (LV.sub rfl rfl (wr64 (by omega) (by omega))) ?_
        refine WL.lv rfl (LV.as (LV.eqI rfl rfl) (decide_eq_true (by have := Dst_more (a := a.take 40) (b := b.take 40) n hla hlb; omega))) ?_
        refine WL.lv rfl (LV.pickF rfl rfl) ?_
        refine WL.lv rfl (LV.pickT rfl rfl) ?_
        refine WL.lv rfl (LV.asg rfl) ?_
        refine WL.nil (thenQ.n ?_)
        refine WC.ret (?_)
        exact ⟨_, fun a ha => res1 rfl ha rfl, rfl, hS25.kb⟩

end Go.Proofs.Ytklfonkkpbkikaa
