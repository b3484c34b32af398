/- The document's tokens; sorted words. -/
import Derived.Test.YtigbphaimbhgjaaGreatMg29
import Derived.Test.YtigbphaimbhgjaaGreatMg30
namespace Go.Proofs.YtigbphaimbhgjaaGreat
open Go Go.Gv Go.RowKit Go.Tly Go.Wds Go.Idx
set_option linter.unusedVariables false
set_option linter.unusedSimpArgs false

theorem letter_calls {w : World} {c : Int}  :
    Calls Tryz.prog 63 #[(.int .u8 c)] w fun e w' => ∃ v, e = .returned v ∧ (fun v w' => v = .bool (decide (KD c = 1)) ∧ KB No w w') v w' := by
  have hk_ := kd_is c
  have hS : SH w No w [] := SH.nil _ _
  refine calls (l := litOf [(.int .u8 c)] 0) Tryz.func63 rfl (n := 29) rfl (Nat.le_of_ble_eq_true rfl) (lit_args _) ?_
  refine WC.seq ?_
  refine WC.region ?_
  refine WL.lv rfl (LV.asg rfl) ?_
  refine WL.nil (thenQ.n ?_)
  refine WC.seq ?_
  refine WC.region ?_
  refine WL.lv rfl (LV.mv rfl) ?_
  rcases Decidable.em (c ≥ 48) with hg1 | hg1
  · refine WL.lv rfl (LV.as (LV.geI rfl rfl) (decide_eq_true hg1)) ?_
    iterate 2 refine WL.lv rfl (LV.mv rfl) ?_
    rcases Decidable.em (c ≤ 57) with hg2 | hg2
    · refine WL.lv rfl (LV.as (LV.leI rfl rfl) (decide_eq_true hg2)) ?_
      refine WL.lv rfl (LV.pickT rfl rfl) ?_
      refine WL.lv rfl (LV.mv rfl) ?_
      iterate 6 refine WL.off rfl ?_
      refine WL.lv rfl (LV.pickT rfl rfl) ?_
      refine WL.lv rfl (LV.mv rfl) ?_
      iterate 6 refine WL.off rfl ?_
      refine WL.lv rfl (LV.pickT rfl rfl) ?_
      refine WL.lv rfl (LV.mv rfl) ?_
      iterate 2 refine WL.off rfl ?_
      refine WL.lv rfl (LV.pickT rfl rfl) ?_
      refine WL.lv rfl (LV.asg rfl) ?_
      refine WL.nil (thenQ.n ?_)
      refine WC.ret (?_)
      exact ⟨_, fun a ha => res1 rfl ha rfl, congrArg Value.bool (decide_eq_true (show KD c = 1 by omega)).symm, hS.kb⟩
    · refine WL.lv rfl (LV.as (LV.leI rfl rfl) (decide_eq_false hg2)) ?_
      refine WL.lv rfl (LV.pickT rfl rfl) ?_
      iterate 2 refine WL.lv rfl (LV.mv rfl) ?_
      rcases Decidable.em (c ≥ 65) with hg3 | hg3
      · refine WL.lv rfl (LV.as (LV.geI rfl rfl) (decide_eq_true hg3)) ?_
        iterate 2 refine WL.lv rfl (LV.mv rfl) ?_
        rcases Decidable.em (c ≤ 90) with hg4 | hg4
        · refine WL.lv rfl (LV.as (LV.leI rfl rfl) (decide_eq_true hg4)) ?_
          refine WL.lv rfl (LV.pickT rfl rfl) ?_
          refine WL.lv rfl (LV.pickF rfl rfl) ?_
          refine WL.lv rfl (LV.mv rfl) ?_
          iterate 6 refine WL.off rfl ?_
          refine WL.lv rfl (LV.pickT rfl rfl) ?_
          refine WL.lv rfl (LV.mv rfl) ?_
          iterate 2 refine WL.off rfl ?_
          refine WL.lv rfl (LV.pickT rfl rfl) ?_
          refine WL.lv rfl (LV.asg rfl) ?_
          refine WL.nil (thenQ.n ?_)
          refine WC.ret (?_)
          exact ⟨_, fun a ha => res1 rfl ha rfl, congrArg Value.bool (decide_eq_true (show KD c = 1 by omega)).symm, hS.kb⟩
        · refine WL.lv rfl (LV.as (LV.leI rfl rfl) (decide_eq_false hg4)) ?_
          refine WL.lv rfl (LV.pickT rfl rfl) ?_
          refine WL.lv rfl (LV.pickF rfl rfl) ?_
          iterate 2 refine WL.lv rfl (LV.mv rfl) ?_
          rcases Decidable.em (c ≥ 97) with hg5 | hg5
          · refine WL.lv rfl (LV.as (LV.geI rfl rfl) (decide_eq_true hg5)) ?_
            iterate 2 refine WL.lv rfl (LV.mv rfl) ?_
            rcases Decidable.em (c ≤ 122) with hg6 | hg6
            · refine WL.lv rfl (LV.as (LV.leI rfl rfl) (decide_eq_true hg6)) ?_
              refine WL.lv rfl (LV.pickT rfl rfl) ?_
              refine WL.lv rfl (LV.pickF rfl rfl) ?_
              refine WL.lv rfl (LV.mv rfl) ?_
              iterate 2 refine WL.off rfl ?_
              refine WL.lv rfl (LV.pickT rfl rfl) ?_
              refine WL.lv rfl (LV.asg rfl) ?_
              refine WL.nil (thenQ.n ?_)
              refine WC.ret (?_)
              exact ⟨_, fun a ha => res1 rfl ha rfl, congrArg Value.bool (decide_eq_true (show KD c = 1 by omega)).symm, hS.kb⟩
            · refine WL.lv rfl (LV.as (LV.leI rfl rfl) (decide_eq_false hg6)) ?_
              refine WL.lv rfl (LV.pickT rfl rfl) ?_
              refine WL.lv rfl (LV.pickF rfl rfl) ?_
              iterate 2 refine WL.lv rfl (LV.mv rfl) ?_
              refine WL.lv rfl (LV.eqI rfl rfl) ?_
              refine WL.lv rfl (LV.pickF rfl rfl) ?_
              refine WL.lv rfl (LV.asg rfl) ?_
              refine WL.nil (thenQ.n ?_)
              refine WC.ret (?_)
              exact ⟨_, fun a ha => res1 rfl ha rfl, congrArg Value.bool (decide_eq_decide.2 (by omega)), hS.kb⟩
          · refine WL.lv rfl (LV.as (LV.geI rfl rfl) (decide_eq_false hg5)) ?_
            refine WL.lv rfl (LV.mv rfl) ?_
            iterate 2 refine WL.off rfl ?_
            iterate 2 refine WL.lv rfl (LV.pickF rfl rfl) ?_
            iterate 2 refine WL.lv rfl (LV.mv rfl) ?_
            refine WL.lv rfl (LV.eqI rfl rfl) ?_
            refine WL.lv rfl (LV.pickF rfl rfl) ?_
            refine WL.lv rfl (LV.asg rfl) ?_
            refine WL.nil (thenQ.n ?_)
            refine WC.ret (?_)
            exact ⟨_, fun a ha => res1 rfl ha rfl, congrArg Value.bool (decide_eq_decide.2 (by omega)), hS.kb⟩
      · refine WL.lv rfl (LV.as (LV.geI rfl rfl) (decide_eq_false hg3)) ?_
        refine WL.lv rfl (LV.mv rfl) ?_
        iterate 2 refine WL.off rfl ?_
        iterate 2 refine WL.lv rfl (LV.pickF rfl rfl) ?_
        iterate 2 refine WL.lv rfl (LV.mv rfl) ?_
        rcases Decidable.em (c ≥ 97) with hg7 | hg7
        · refine WL.lv rfl (LV.as (LV.geI rfl rfl) (decide_eq_true hg7)) ?_
          iterate 2 refine WL.lv rfl (LV.mv rfl) ?_
          rcases Decidable.em (c ≤ 122) with hg8 | hg8
          · refine WL.lv rfl (LV.as (LV.leI rfl rfl) (decide_eq_true hg8)) ?_
            refine WL.lv rfl (LV.pickT rfl rfl) ?_
            refine WL.lv rfl (LV.pickF rfl rfl) ?_
            refine WL.lv rfl (LV.mv rfl) ?_
            iterate 2 refine WL.off rfl ?_
            refine WL.lv rfl (LV.pickT rfl rfl) ?_
            refine WL.lv rfl (LV.asg rfl) ?_
            refine WL.nil (thenQ.n ?_)
            refine WC.ret (?_)
            exact ⟨_, fun a ha => res1 rfl ha rfl, congrArg Value.bool (decide_eq_true (show KD c = 1 by omega)).symm, hS.kb⟩
          · refine WL.lv rfl (LV.as (LV.leI rfl rfl) (decide_eq_false hg8)) ?_
            refine WL.lv rfl (LV.pickT rfl rfl) ?_
            refine WL.lv rfl (LV.pickF rfl rfl) ?_
            iterate 2 refine WL.lv rfl (LV.mv rfl) ?_
            refine WL.lv rfl (LV.eqI rfl rfl) ?_
            refine WL.lv rfl (LV.pickF rfl rfl) ?_
            refine WL.lv rfl (LV.asg rfl) ?_
            refine WL.nil (thenQ.n ?_)
            refine WC.ret (?_)
            exact ⟨_, fun a ha => res1 rfl ha rfl, congrArg Value.bool (decide_eq_decide.2 (by omega)), hS.kb⟩
        · refine WL.lv rfl (LV.as (LV.geI rfl rfl) (decide_eq_false hg7)) ?_
          refine WL.lv rfl (LV.mv rfl) ?_
          iterate 2 refine WL.off rfl ?_
          iterate 2 refine WL.lv rfl (LV.pickF rfl rfl) ?_
          iterate 2 refine WL.lv rfl (LV.mv rfl) ?_
          refine WL.lv rfl (LV.eqI rfl rfl) ?_
          refine WL.lv rfl (LV.pickF rfl rfl) ?_
          refine WL.lv rfl (LV.asg rfl) ?_
          refine WL.nil (thenQ.n ?_)
          refine WC.ret (?_)
          exact ⟨_, fun a ha => res1 rfl ha rfl, congrArg Value.bool (decide_eq_decide.2 (by omega)), hS.kb⟩
  · refine WL.lv rfl (LV.as (LV.geI rfl rfl) (decide_eq_false hg1)) ?_
    refine WL.lv rfl (LV.mv rfl) ?_
    iterate 2 refine WL.off rfl ?_
    refine WL.lv rfl (LV.pickF rfl rfl) ?_
    iterate 2 refine WL.lv rfl (LV.mv rfl) ?_
    rcases Decidable.em (c ≥ 65) with hg9 | hg9
    · refine WL.lv rfl (LV.as (LV.geI rfl rfl) (decide_eq_true hg9)) ?_
      iterate 2 refine WL.lv rfl (LV.mv rfl) ?_
      rcases Decidable.em (c ≤ 90) with hg10 | hg10
      · refine WL.lv rfl (LV.as (LV.leI rfl rfl) (decide_eq_true hg10)) ?_
        refine WL.lv rfl (LV.pickT rfl rfl) ?_
        refine WL.lv rfl (LV.pickF rfl rfl) ?_
        refine WL.lv rfl (LV.mv rfl) ?_
        iterate 6 refine WL.off rfl ?_
        refine WL.lv rfl (LV.pickT rfl rfl) ?_
        refine WL.lv rfl (LV.mv rfl) ?_
        iterate 2 refine WL.off rfl ?_
        refine WL.lv rfl (LV.pickT rfl rfl) ?_
        refine WL.lv rfl (LV.asg rfl) ?_
        refine WL.nil (thenQ.n ?_)
        refine WC.ret (?_)
        exact ⟨_, fun a ha => res1 rfl ha rfl, congrArg Value.bool (decide_eq_true (show KD c = 1 by omega)).symm, hS.kb⟩
      · refine WL.lv rfl (LV.as (LV.leI rfl rfl) (decide_eq_false hg10)) ?_
        refine WL.lv rfl (LV.pickT rfl rfl) ?_
        refine WL.lv rfl (LV.pickF rfl rfl) ?_
        iterate 2 refine WL.lv rfl (LV.mv rfl) ?_
        rcases Decidable.em (c ≥ 97) with hg11 | hg11
        · refine WL.lv rfl (LV.as (LV.geI rfl rfl) (decide_eq_true hg11)) ?_
          iterate 2 refine WL.lv rfl (LV.mv rfl) ?_
          rcases Decidable.em (c ≤ 122) with hg12 | hg12
          · refine WL.lv rfl (LV.as (LV.leI rfl rfl) (decide_eq_true hg12)) ?_
            refine WL.lv rfl (LV.pickT rfl rfl) ?_
            refine WL.lv rfl (LV.pickF rfl rfl) ?_
            refine WL.lv rfl (LV.mv rfl) ?_
            iterate 2 refine WL.off rfl ?_
            refine WL.lv rfl (LV.pickT rfl rfl) ?_
            refine WL.lv rfl (LV.asg rfl) ?_
            refine WL.nil (thenQ.n ?_)
            refine WC.ret (?_)
            exact ⟨_, fun a ha => res1 rfl ha rfl, congrArg Value.bool (decide_eq_true (show KD c = 1 by omega)).symm, hS.kb⟩
          · refine WL.lv rfl (LV.as (LV.leI rfl rfl) (decide_eq_false hg12)) ?_
            refine WL.lv rfl (LV.pickT rfl rfl) ?_
            refine WL.lv rfl (LV.pickF rfl rfl) ?_
            iterate 2 refine WL.lv rfl (LV.mv rfl) ?_
            refine WL.lv rfl (LV.eqI rfl rfl) ?_
            refine WL.lv rfl (LV.pickF rfl rfl) ?_
            refine WL.lv rfl (LV.asg rfl) ?_
            refine WL.nil (thenQ.n ?_)
            refine WC.ret (?_)
            exact ⟨_, fun a ha => res1 rfl ha rfl, congrArg Value.bool (decide_eq_decide.2 (by omega)), hS.kb⟩
        · refine WL.lv rfl (LV.as (LV.geI rfl rfl) (decide_eq_false hg11)) ?_
          refine WL.lv rfl (LV.mv rfl) ?_
          iterate 2 refine WL.off rfl ?_
          iterate 2 refine WL.lv rfl (LV.pickF rfl rfl) ?_
          iterate 2 refine WL.lv rfl (LV.mv rfl) ?_
          refine WL.lv rfl (LV.eqI rfl rfl) ?_
          refine WL.lv rfl (LV.pickF rfl rfl) ?_
          refine WL.lv rfl (LV.asg rfl) ?_
          refine WL.nil (thenQ.n ?_)
          refine WC.ret (?_)
          exact ⟨_, fun a ha => res1 rfl ha rfl, congrArg Value.bool (decide_eq_decide.2 (by omega)), hS.kb⟩
    · refine WL.lv rfl (LV.as (LV.geI rfl rfl) (decide_eq_false hg9)) ?_
      refine WL.lv rfl (LV.mv rfl) ?_
      iterate 2 refine WL.off rfl ?_
      iterate 2 refine WL.lv rfl (LV.pickF rfl rfl) ?_
      iterate 2 refine WL.lv rfl (LV.mv rfl) ?_
      rcases Decidable.em (c ≥ 97) with hg13 | hg13
      · refine WL.lv rfl (LV.as (LV.geI rfl rfl) (decide_eq_true hg13)) ?_
        iterate 2 refine WL.lv rfl (LV.mv rfl) ?_
        rcases Decidable.em (c ≤ 122) with hg14 | hg14
        · refine WL.lv rfl (LV.as (LV.leI rfl rfl) (decide_eq_true hg14)) ?_
          refine WL.lv rfl (LV.pickT rfl rfl) ?_
          refine WL.lv rfl (LV.pickF rfl rfl) ?_
          refine WL.lv rfl (LV.mv rfl) ?_
          iterate 2 refine WL.off rfl ?_
          refine WL.lv rfl (LV.pickT rfl rfl) ?_
          refine WL.lv rfl (LV.asg rfl) ?_
          refine WL.nil (thenQ.n ?_)
          refine WC.ret (?_)
          exact ⟨_, fun a ha => res1 rfl ha rfl, congrArg Value.bool (decide_eq_true (show KD c = 1 by omega)).symm, hS.kb⟩
        · refine WL.lv rfl (LV.as (LV.leI rfl rfl) (decide_eq_false hg14)) ?_
          refine WL.lv rfl (LV.pickT rfl rfl) ?_
          refine WL.lv rfl (LV.pickF rfl rfl) ?_
          iterate 2 refine WL.lv rfl (LV.mv rfl) ?_
          refine WL.lv rfl (LV.eqI rfl rfl) ?_
          refine WL.lv rfl (LV.pickF rfl rfl) ?_
          refine WL.lv rfl (LV.asg rfl) ?_
          refine WL.nil (thenQ.n ?_)
          refine WC.ret (?_)
          exact ⟨_, fun a ha => res1 rfl ha rfl, congrArg Value.bool (decide_eq_decide.2 (by omega)), hS.kb⟩
      · refine WL.lv rfl (LV.as (LV.geI rfl rfl) (decide_eq_false hg13)) ?_
        refine WL.lv rfl (LV.mv rfl) ?_
        iterate 2 refine WL.off rfl ?_
        iterate 2 refine WL.lv rfl (LV.pickF rfl rfl) ?_
        iterate 2 refine WL.lv rfl (LV.mv rfl) ?_
        refine WL.lv rfl (LV.eqI rfl rfl) ?_
        refine WL.lv rfl (LV.pickF rfl rfl) ?_
        refine WL.lv rfl (LV.asg rfl) ?_
        refine WL.nil (thenQ.n ?_)
        refine WC.ret (?_)
        exact ⟨_, fun a ha => res1 rfl ha rfl, congrArg Value.bool (decide_eq_decide.2 (by omega)), hS.kb⟩

theorem blank_calls {w : World} {c : Int}  :
    Calls Tryz.prog 64 #[(.int .u8 c)] w fun e w' => ∃ v, e = .returned v ∧ (fun v w' => v = .bool (decide (KD c = 2)) ∧ KB No w w') v w' := by
  have hk_ := kd_is c
  have hS : SH w No w [] := SH.nil _ _
  refine calls (l := litOf [(.int .u8 c)] 0) Tryz.func64 rfl (n := 9) rfl (Nat.le_of_ble_eq_true rfl) (lit_args _) ?_
  refine WC.seq ?_
  refine WC.region ?_
  refine WL.lv rfl (LV.asg rfl) ?_
  refine WL.nil (thenQ.n ?_)
  refine WC.seq ?_
  refine WC.region ?_
  refine WL.lv rfl (LV.mv rfl) ?_
  rcases Decidable.em (c = 32) with hg1 | hg1
  · refine WL.lv rfl (LV.as (LV.eqI rfl rfl) (decide_eq_true hg1)) ?_
    refine WL.lv rfl (LV.mv rfl) ?_
    iterate 2 refine WL.off rfl ?_
    refine WL.lv rfl (LV.pickT rfl rfl) ?_
    refine WL.lv rfl (LV.asg rfl) ?_
    refine WL.nil (thenQ.n ?_)
    refine WC.ret (?_)
    exact ⟨_, fun a ha => res1 rfl ha rfl, congrArg Value.bool (decide_eq_true (show KD c = 2 by omega)).symm, hS.kb⟩
  · refine WL.lv rfl (LV.as (LV.eqI rfl rfl) (decide_eq_false hg1)) ?_
    iterate 2 refine WL.lv rfl (LV.mv rfl) ?_
    refine WL.lv rfl (LV.eqI rfl rfl) ?_
    refine WL.lv rfl (LV.pickF rfl rfl) ?_
    refine WL.lv rfl (LV.asg rfl) ?_
    refine WL.nil (thenQ.n ?_)
    refine WC.ret (?_)
    exact ⟨_, fun a ha => res1 rfl ha rfl, congrArg Value.bool (decide_eq_decide.2 (by omega)), hS.kb⟩

theorem rtokens_calls {w : World} {s : ByteArray} (hs : s.size ≤ 1000000) :
    Calls Tryz.prog 43 #[(.string s)] w fun e w' => ∃ v, e = .returned v ∧ (fun v w' => ∃ (A0' : Option Addr) (c0' : Nat), v = .slice A0' (TOK s).length c0' ∧ SH w No w' [rowE eS 9 (.slice A0' (TOK s).length c0') (TOK s)]) v w' := by
  have hS : SH w No w [] := SH.nil _ _
  refine calls (l := litOf [(.string s)] 0) Tryz.func43 rfl (n := 49) rfl (Nat.le_of_ble_eq_true rfl) (lit_args _) ?_
  refine WC.seq ?_
  refine WC.region ?_
  refine WL.lv rfl (LV.asg rfl) ?_
  refine WL.nil (thenQ.n ?_)
  refine WC.seq ?_
  refine WC.region ?_
  refine WL.xe rfl (XE.buildSlice (E := eS) [] #[] [] hS Tryz.underlying23 ti9 rfl (by decide) (by kernel_rfl) (.inr rfl) rfl rfl (by decide)) ?_
  rintro _ w1 ⟨b1, rfl, hS1, hk1⟩
  refine WL.lv rfl (LV.asg rfl) ?_
  refine WL.nil (thenQ.n ?_)
  refine WC.seq ?_
  refine WC.block ?_
  refine WC.loop (fun m_ f_ w_ => ∃ (s2 : ByteArray) (A_out : Option Addr) (c_out : Nat) (out : List ByteArray) (f : Nat), (TKS s f = (out, f)) ∧ (f ≤ s.size) ∧ (s2 = s.extract f s.size) ∧ (out.length ≤ f) ∧ SH w No w_ [rowE eS 9 (.slice A_out out.length c_out) out] ∧ m_ = s2.size ∧ Weak (lit [(0, (.string s2)), (3, (.slice A_out out.length c_out))]) f_) _ ⟨s, (some ⟨b1, 0, none⟩), 0, [], 0, rfl, (Nat.zero_le _), ((cut_all s).symm), (Nat.le_refl _), hS1, rfl, Weak.cons rfl <| Weak.cons rfl <| Weak.nil _⟩ ?_
  rintro m2 f1 w2 ⟨s2, A_out, c_out, out, f, q1, q2, q3, q4, hL1, rfl, hw1⟩
  refine WC.weak hw1 ?_
  clear hw1
  have hz_ := ext_size s (l := f) (Nat.le_refl s.size)
  rw [← q3] at hz_
  iterate 2 refine WC.seq ?_
  refine WC.region ?_
  refine WL.lv rfl (LV.mv rfl) ?_
  refine WL.lv rfl (LV.lenS Tryz.underlying9 rfl) ?_
  refine WL.lv rfl (LV.gtI rfl rfl) ?_
  refine WL.nil (thenQ.n ?_)
  refine WC.condP (p := (s2.size : Int) > 0) rfl (fun hk => ?_) (fun hk => ?_)
  · have hkd_ := kd_is (gI (bytesOf s2) (0 : Int))
    refine WC.skip (thenQ.n ?_)
    refine WC.block ?_
    refine WC.seq ?_
    refine WC.region ?_
    refine WL.lv rfl (LV.asg rfl) ?_
    refine WL.nil (thenQ.n ?_)
    iterate 2 refine WC.seq ?_
    refine WC.region ?_
    refine WL.lv rfl (LV.mv rfl) ?_
    refine WL.lv rfl (LV.idxSi (i := (0 : Int)) Tryz.underlying9 rfl rfl (by omega) (by omega)) ?_
    refine WL.call rfl (XC.fn Tryz.func63 (by kernel_rfl) rfl rfl rfl) (letter_calls (c := (gI (bytesOf s2) ((0 : Int)))) ) ?_
    rintro v_ w3 ⟨rfl, hk2⟩
    have hS2 := SH.same hL1 hk2
    refine WL.nil (thenQ.n ?_)
    refine WC.condP (p := KD (gI (bytesOf s2) ((0 : Int))) = 1) rfl (fun hc1 => ?_) (fun hc1 => ?_)
    · skip
      refine WC.block ?_
      refine WC.loop (fun m_ f_ w_ => ∃ (n : Int), (0 ≤ n) ∧ (n ≤ (s2.size : Int)) ∧ (1 ≤ n) ∧ (∀ t : Int, 0 ≤ t → t < n → KD (gI (bytesOf s2) t) = 1) ∧ SH w No w_ [rowE eS 9 (.slice A_out out.length c_out) out] ∧ m_ = (((s2.size : Int) - n).toNat) ∧ Weak (lit [(0, (.string s2)), (3, (.slice A_out out.length c_out)), (4, (.int .i64 n))]) f_) _ ⟨1, by omega, by omega, by omega, (fun t h0_ h1_ => by rw [show t = 0 by omega]; omega), hS2, rfl, Weak.cons rfl <| Weak.cons rfl <| Weak.cons rfl <| Weak.nil _⟩ ?_
      rintro m3 f2 w4 ⟨n, nlo, nhi, n0, n1, hL2, rfl, hw2⟩
      refine WC.weak hw2 ?_
      clear hw2
      iterate 2 refine WC.seq ?_
      refine WC.region ?_
      iterate 2 refine WL.lv rfl (LV.mv rfl) ?_
      refine WL.lv rfl (LV.lenS Tryz.underlying9 rfl) ?_
      rcases Decidable.em (n < (s2.size : Int)) with hg1 | hg1
      · refine WL.lv rfl (LV.as (LV.ltI rfl rfl) (decide_eq_true hg1)) ?_
        iterate 3 refine WL.lv rfl (LV.mv rfl) ?_
        refine WL.lv rfl (LV.idxSi (i := n) Tryz.underlying9 rfl rfl (by omega) (by omega)) ?_
        refine WL.call rfl (XC.fn Tryz.func63 (by kernel_rfl) rfl rfl rfl) (letter_calls (c := (gI (bytesOf s2) (n))) ) ?_
        rintro v_ w5 ⟨rfl, hk3⟩
        have hS3 := SH.same hL2 hk3
        refine WL.lv rfl (LV.pickT rfl rfl) ?_
        refine WL.nil (thenQ.n ?_)
        refine WC.condP (p := KD (gI (bytesOf s2) (n)) = 1) rfl (fun hc2 => ?_) (fun hc2 => ?_)
        · skip
          refine WC.skip (thenQ.n ?_)
          refine WC.block ?_
          refine WC.region ?_
          refine WL.lv rfl (LV.mv rfl) ?_
          refine WL.lv rfl (LV.add rfl rfl (wr64 (by omega) (by omega))) ?_
          refine WL.lv rfl (LV.asg rfl) ?_
          refine WL.nil (blockQ.n <| thenQ.n ?_)
          exact ⟨_, by omega, n + 1, by omega, by omega, by omega, (all_step n1 (by omega)), hS3, rfl, Weak.cons rfl <| Weak.cons rfl <| Weak.cons rfl <| Weak.nil _⟩
        · skip
          refine WC.exit (thenQ.x <| thenQ.x <| blockQ.hit <| thenQ.n ?_)
          refine WC.seq ?_
          refine WC.region ?_
          iterate 3 refine WL.lv rfl (LV.mv rfl) ?_
          refine WL.lv rfl (LV.cutS (l := 0) (h := (n).toNat) Tryz.underlying9 rfl rfl rfl ⟨.inl ⟨rfl, rfl⟩, .inr ⟨.i64, by rw [Int.toNat_of_nonneg (a := n) (by omega)] <;> rfl⟩, .inl ⟨rfl, rfl⟩⟩ (by omega) (by omega)) ?_
          refine WL.xe rfl (XE.buildSlice (E := eS) [(0, (.string (s2.extract 0 ((n).toNat))))] #[(.string (s2.extract 0 ((n).toNat)))] [s2.extract 0 ((n).toNat)] hS3 Tryz.underlying23 ti9 rfl (by decide) (by kernel_rfl) (.inr rfl) rfl rfl (by decide)) ?_
          rintro _ w6 ⟨b2, rfl, hS4, hk4⟩
          have hS5 : SH w No w6 [rowE eS 9 (.slice A_out out.length c_out) out, rowE eS 9 (.slice (some ⟨b2, 0, none⟩) 1 1) [s2.extract 0 ((n).toNat)]] := (SH.front [_] hS4)
          refine WL.xe rfl (XE.append hS5 Tryz.underlying23 ti9 rfl (St.now (SH.rd hS5 (.tail _ (.head _)))) rfl rfl (by first | omega | simp only [List.length_append, List.length_cons, List.length_nil, List.length_take, List.length_reverse, List.length_drop] at *; omega) (by first | omega | simp only [List.length_append, List.length_cons, List.length_nil, List.length_take, List.length_reverse, List.length_drop] at *; omega)) ?_
          rintro _ w7 ⟨A1, c1, rfl, hS6, hk5⟩
          refine WL.lv rfl (LV.asg rfl) ?_
          refine WL.nil (thenQ.n ?_)
          refine WC.region ?_
          iterate 2 refine WL.lv rfl (LV.mv rfl) ?_
          refine WL.lv rfl (LV.cutS (l := (n).toNat) (h := s2.size) Tryz.underlying9 rfl rfl rfl ⟨.inr ⟨.i64, by rw [Int.toNat_of_nonneg (a := n) (by omega)] <;> rfl⟩, .inl ⟨rfl, rfl, rfl⟩, .inl ⟨rfl, rfl⟩⟩ (by omega) (by omega)) ?_
          refine WL.lv rfl (LV.asg rfl) ?_
          refine WL.nil (blockQ.n <| thenQ.n ?_)
          have hS7 : SH w No w7 [rowE eS 9 (.slice A1 ((out ++ [s2.extract 0 ((n).toNat)]).length) c1) (out ++ [s2.extract 0 ((n).toNat)])] := (SH.take 1 rfl hS6)
          exact ⟨_, by rw [ext_size _ (Nat.le_refl _)]; omega, s2.extract ((n).toNat) s2.size, A1, c1, (out ++ [s2.extract 0 ((n).toNat)]), (f + (n).toNat), (doc_tok' (n := n) (k := 1) q3 q1 q2 (by omega) (by omega) (n1) (by omega) (by omega)), (doc_bd (n := n) q3 q2 (by omega) (by omega)), (doc_rest' (n := n) q3 q2 (by omega) (by omega)), (by simp; omega), hS7, rfl, Weak.cons rfl <| Weak.cons rfl <| Weak.nil _⟩
      · refine WL.lv rfl (LV.as (LV.ltI rfl rfl) (decide_eq_false hg1)) ?_
        refine WL.lv rfl (LV.mv rfl) ?_
        iterate 4 refine WL.off rfl ?_
        refine WL.lv rfl (LV.pickF rfl rfl) ?_
        refine WL.nil (thenQ.n ?_)
        refine WC.condF rfl ?_
        refine WC.exit (thenQ.x <| thenQ.x <| blockQ.hit <| thenQ.n ?_)
        refine WC.seq ?_
        refine WC.region ?_
        iterate 3 refine WL.lv rfl (LV.mv rfl) ?_
        refine WL.lv rfl (LV.cutS (l := 0) (h := (n).toNat) Tryz.underlying9 rfl rfl rfl ⟨.inl ⟨rfl, rfl⟩, .inr ⟨.i64, by rw [Int.toNat_of_nonneg (a := n) (by omega)] <;> rfl⟩, .inl ⟨rfl, rfl⟩⟩ (by omega) (by omega)) ?_
        refine WL.xe rfl (XE.buildSlice (E := eS) [(0, (.string (s2.extract 0 ((n).toNat))))] #[(.string (s2.extract 0 ((n).toNat)))] [s2.extract 0 ((n).toNat)] hL2 Tryz.underlying23 ti9 rfl (by decide) (by kernel_rfl) (.inr rfl) rfl rfl (by decide)) ?_
        rintro _ w8 ⟨b3, rfl, hS8, hk6⟩
        have hS9 : SH w No w8 [rowE eS 9 (.slice A_out out.length c_out) out, rowE eS 9 (.slice (some ⟨b3, 0, none⟩) 1 1) [s2.extract 0 ((n).toNat)]] := (SH.front [_] hS8)
        refine WL.xe rfl (XE.append hS9 Tryz.underlying23 ti9 rfl (St.now (SH.rd hS9 (.tail _ (.head _)))) rfl rfl (by first | omega | simp only [List.length_append, List.length_cons, List.length_nil, List.length_take, List.length_reverse, List.length_drop] at *; omega) (by first | omega | simp only [List.length_append, List.length_cons, List.length_nil, List.length_take, List.length_reverse, List.length_drop] at *; omega)) ?_
        rintro _ w9 ⟨A2, c2, rfl, hS10, hk7⟩
        refine WL.lv rfl (LV.asg rfl) ?_
        refine WL.nil (thenQ.n ?_)
        refine WC.region ?_
        iterate 2 refine WL.lv rfl (LV.mv rfl) ?_
        refine WL.lv rfl (LV.cutS (l := (n).toNat) (h := s2.size) Tryz.underlying9 rfl rfl rfl ⟨.inr ⟨.i64, by rw [Int.toNat_of_nonneg (a := n) (by omega)] <;> rfl⟩, .inl ⟨rfl, rfl, rfl⟩, .inl ⟨rfl, rfl⟩⟩ (by omega) (by omega)) ?_
        refine WL.lv rfl (LV.asg rfl) ?_
        refine WL.nil (blockQ.n <| thenQ.n ?_)
        have hS11 : SH w No w9 [rowE eS 9 (.slice A2 ((out ++ [s2.extract 0 ((n).toNat)]).length) c2) (out ++ [s2.extract 0 ((n).toNat)])] := (SH.take 1 rfl hS10)
        exact ⟨_, by rw [ext_size _ (Nat.le_refl _)]; omega, s2.extract ((n).toNat) s2.size, A2, c2, (out ++ [s2.extract 0 ((n).toNat)]), (f + (n).toNat), (doc_tok' (n := n) (k := 1) q3 q1 q2 (by omega) (by omega) (n1) (by omega) (by omega)), (doc_bd (n := n) q3 q2 (by omega) (by omega)), (doc_rest' (n := n) q3 q2 (by omega) (by omega)), (by simp; omega), hS11, rfl, Weak.cons rfl <| Weak.cons rfl <| Weak.nil _⟩
    · skip
      refine WC.seq ?_
      refine WC.region ?_
      refine WL.lv rfl (LV.mv rfl) ?_
      refine WL.lv rfl (LV.idxSi (i := (0 : Int)) Tryz.underlying9 rfl rfl (by omega) (by omega)) ?_
      refine WL.call rfl (XC.fn Tryz.func64 (by kernel_rfl) rfl rfl rfl) (blank_calls (c := (gI (bytesOf s2) ((0 : Int)))) ) ?_
      rintro v_ w10 ⟨rfl, hk8⟩
      have hS12 := SH.same hS2 hk8
      refine WL.nil (thenQ.n ?_)
      refine WC.condP (p := KD (gI (bytesOf s2) ((0 : Int))) = 2) rfl (fun hc3 => ?_) (fun hc3 => ?_)
      · skip
        refine WC.block ?_
        refine WC.loop (fun m_ f_ w_ => ∃ (mm : Int), (0 ≤ mm) ∧ (mm ≤ (s2.size : Int)) ∧ (1 ≤ mm) ∧ (∀ t : Int, 0 ≤ t → t < mm → KD (gI (bytesOf s2) t) = 2) ∧ SH w No w_ [rowE eS 9 (.slice A_out out.length c_out) out] ∧ m_ = (((s2.size : Int) - mm).toNat) ∧ Weak (lit [(0, (.string s2)), (3, (.slice A_out out.length c_out)), (4, (.int .i64 mm))]) f_) _ ⟨1, by omega, by omega, by omega, (fun t h0_ h1_ => by rw [show t = 0 by omega]; omega), hS12, rfl, Weak.cons rfl <| Weak.cons rfl <| Weak.cons rfl <| Weak.nil _⟩ ?_
        rintro m4 f3 w11 ⟨mm, mmlo, mmhi, m0, m1, hL3, rfl, hw3⟩
        refine WC.weak hw3 ?_
        clear hw3
        iterate 2 refine WC.seq ?_
        refine WC.region ?_
        iterate 2 refine WL.lv rfl (LV.mv rfl) ?_
        refine WL.lv rfl (LV.lenS Tryz.underlying9 rfl) ?_
        rcases Decidable.em (mm < (s2.size : Int)) with hg2 | hg2
        · refine WL.lv rfl (LV.as (LV.ltI rfl rfl) (decide_eq_true hg2)) ?_
          iterate 3 refine WL.lv rfl (LV.mv rfl) ?_
          refine WL.lv rfl (LV.idxSi (i := mm) Tryz.underlying9 rfl rfl (by omega) (by omega)) ?_
          refine WL.call rfl (XC.fn Tryz.func64 (by kernel_rfl) rfl rfl rfl) (blank_calls (c := (gI (bytesOf s2) (mm))) ) ?_
          rintro v_ w12 ⟨rfl, hk9⟩
          have hS13 := SH.same hL3 hk9
          refine WL.lv rfl (LV.pickT rfl rfl) ?_
          refine WL.nil (thenQ.n ?_)
          refine WC.condP (p := KD (gI (bytesOf s2) (mm)) = 2) rfl (fun hc4 => ?_) (fun hc4 => ?_)
          · skip
            refine WC.skip (thenQ.n ?_)
            refine WC.block ?_
            refine WC.region ?_
            refine WL.lv rfl (LV.mv rfl) ?_
            refine WL.lv rfl (LV.add rfl rfl (wr64 (by omega) (by omega))) ?_
            refine WL.lv rfl (LV.asg rfl) ?_
            refine WL.nil (blockQ.n <| thenQ.n ?_)
            exact ⟨_, by omega, mm + 1, by omega, by omega, by omega, (all_step m1 (by omega)), hS13, rfl, Weak.cons rfl <| Weak.cons rfl <| Weak.cons rfl <| Weak.nil _⟩
          · skip
            refine WC.exit (thenQ.x <| thenQ.x <| blockQ.hit <| thenQ.n ?_)
            refine WC.seq ?_
            refine WC.region ?_
            iterate 3 refine WL.lv rfl (LV.mv rfl) ?_
            refine WL.lv rfl (LV.cutS (l := 0) (h := (mm).toNat) Tryz.underlying9 rfl rfl rfl ⟨.inl ⟨rfl, rfl⟩, .inr ⟨.i64, by rw [Int.toNat_of_nonneg (a := mm) (by omega)] <;> rfl⟩, .inl ⟨rfl, rfl⟩⟩ (by omega) (by omega)) ?_
            refine WL.xe rfl (XE.buildSlice (E := eS) [(0, (.string (s2.extract 0 ((mm).toNat))))] #[(.string (s2.extract 0 ((mm).toNat)))] [s2.extract 0 ((mm).toNat)] hS13 Tryz.underlying23 ti9 rfl (by decide) (by kernel_rfl) (.inr rfl) rfl rfl (by decide)) ?_
            rintro _ w13 ⟨b4, rfl, hS14, hk10⟩
            have hS15 : SH w No w13 [rowE eS 9 (.slice A_out out.length c_out) out, rowE eS 9 (.slice (some ⟨b4, 0, none⟩) 1 1) [s2.extract 0 ((mm).toNat)]] := (SH.front [_] hS14)
            refine WL.xe rfl (XE.append hS15 Tryz.underlying23 ti9 rfl (St.now (SH.rd hS15 (.tail _ (.head _)))) rfl rfl (by first | omega | simp only [List.length_append, List.length_cons, List.length_nil, List.length_take, List.length_reverse, List.length_drop] at *; omega) (by first | omega | simp only [List.length_append, List.length_cons, List.length_nil, List.length_take, List.length_reverse, List.length_drop] at *; omega)) ?_
            rintro _ w14 ⟨A3, c3, rfl, hS16, hk11⟩
            refine WL.lv rfl (LV.asg rfl) ?_
            refine WL.nil (thenQ.n ?_)
            refine WC.region ?_
            iterate 2 refine WL.lv rfl (LV.mv rfl) ?_
            refine WL.lv rfl (LV.cutS (l := (mm).toNat) (h := s2.size) Tryz.underlying9 rfl rfl rfl ⟨.inr ⟨.i64, by rw [Int.toNat_of_nonneg (a := mm) (by omega)] <;> rfl⟩, .inl ⟨rfl, rfl, rfl⟩, .inl ⟨rfl, rfl⟩⟩ (by omega) (by omega)) ?_
            refine WL.lv rfl (LV.asg rfl) ?_
            refine WL.nil (blockQ.n <| thenQ.n ?_)
            have hS17 : SH w No w14 [rowE eS 9 (.slice A3 ((out ++ [s2.extract 0 ((mm).toNat)]).length) c3) (out ++ [s2.extract 0 ((mm).toNat)])] := (SH.take 1 rfl hS16)
            exact ⟨_, by rw [ext_size _ (Nat.le_refl _)]; omega, s2.extract ((mm).toNat) s2.size, A3, c3, (out ++ [s2.extract 0 ((mm).toNat)]), (f + (mm).toNat), (doc_tok' (n := mm) (k := 2) q3 q1 q2 (by omega) (by omega) (m1) (by omega) (by omega)), (doc_bd (n := mm) q3 q2 (by omega) (by omega)), (doc_rest' (n := mm) q3 q2 (by omega) (by omega)), (by simp; omega), hS17, rfl, Weak.cons rfl <| Weak.cons rfl <| Weak.nil _⟩
        · refine WL.lv rfl (LV.as (LV.ltI rfl rfl) (decide_eq_false hg2)) ?_
          refine WL.lv rfl (LV.mv rfl) ?_
          iterate 4 refine WL.off rfl ?_
          refine WL.lv rfl (LV.pickF rfl rfl) ?_
          refine WL.nil (thenQ.n ?_)
          refine WC.condF rfl ?_
          refine WC.exit (thenQ.x <| thenQ.x <| blockQ.hit <| thenQ.n ?_)
          refine WC.seq ?_
          refine WC.region ?_
          iterate 3 refine WL.lv rfl (LV.mv rfl) ?_
          refine WL.lv rfl (LV.cutS (l := 0) (h := (mm).toNat) Tryz.underlying9 rfl rfl rfl ⟨.inl ⟨rfl, rfl⟩, .inr ⟨.i64, by rw [Int.toNat_of_nonneg (a := mm) (by omega)] <;> rfl⟩, .inl ⟨rfl, rfl⟩⟩ (by omega) (by omega)) ?_
          refine WL.xe rfl (XE.buildSlice (E := eS) [(0, (.string (s2.extract 0 ((mm).toNat))))] #[(.string (s2.extract 0 ((mm).toNat)))] [s2.extract 0 ((mm).toNat)] hL3 Tryz.underlying23 ti9 rfl (by decide) (by kernel_rfl) (.inr rfl) rfl rfl (by decide)) ?_
          rintro _ w15 ⟨b5, rfl, hS18, hk12⟩
          have hS19 : SH w No w15 [rowE eS 9 (.slice A_out out.length c_out) out, rowE eS 9 (.slice (some ⟨b5, 0, none⟩) 1 1) [s2.extract 0 ((mm).toNat)]] := (SH.front [_] hS18)
          refine WL.xe rfl (XE.append hS19 Tryz.underlying23 ti9 rfl (St.now (SH.rd hS19 (.tail _ (.head _)))) rfl rfl (by first | omega | simp only [List.length_append, List.length_cons, List.length_nil, List.length_take, List.length_reverse, List.length_drop] at *; omega) (by first | omega | simp only [List.length_append, List.length_cons, List.length_nil, List.length_take, List.length_reverse, List.length_drop] at *; omega)) ?_
          rintro _ w16 ⟨A4, c4, rfl, hS20, hk13⟩
          refine WL.lv rfl (LV.asg rfl) ?_
          refine WL.nil (thenQ.n ?_)
          refine WC.region ?_
          iterate 2 refine WL.lv rfl (LV.mv rfl) ?_
          refine WL.lv rfl (LV.cutS (l := (mm).toNat) (h := s2.size) Tryz.underlying9 rfl rfl rfl ⟨.inr ⟨.i64, by rw [Int.toNat_of_nonneg (a := mm) (by omega)] <;> rfl⟩, .inl ⟨rfl, rfl, rfl⟩, .inl ⟨rfl, rfl⟩⟩ (by omega) (by omega)) ?_
          refine WL.lv rfl (LV.asg rfl) ?_
          refine WL.nil (blockQ.n <| thenQ.n ?_)
          have hS21 : SH w No w16 [rowE eS 9 (.slice A4 ((out ++ [s2.extract 0 ((mm).toNat)]).length) c4) (out ++ [s2.extract 0 ((mm).toNat)])] := (SH.take 1 rfl hS20)
          exact ⟨_, by rw [ext_size _ (Nat.le_refl _)]; omega, s2.extract ((mm).toNat) s2.size, A4, c4, (out ++ [s2.extract 0 ((mm).toNat)]), (f + (mm).toNat), (doc_tok' (n := mm) (k := 2) q3 q1 q2 (by omega) (by omega) (m1) (by omega) (by omega)), (doc_bd (n := mm) q3 q2 (by omega) (by omega)), (doc_rest' (n := mm) q3 q2 (by omega) (by omega)), (by simp; omega), hS21, rfl, Weak.cons rfl <| Weak.cons rfl <| Weak.nil _⟩
      · skip
        refine WC.skip (thenQ.n ?_)
        refine WC.seq ?_
        refine WC.region ?_
        iterate 3 refine WL.lv rfl (LV.mv rfl) ?_
        refine WL.lv rfl (LV.cutS (l := 0) (h := 1) Tryz.underlying9 rfl rfl rfl ⟨.inl ⟨rfl, rfl⟩, .inr ⟨.i64, rfl⟩, .inl ⟨rfl, rfl⟩⟩ (by omega) (by omega)) ?_
        refine WL.xe rfl (XE.buildSlice (E := eS) [(0, (.string (s2.extract 0 1)))] #[(.string (s2.extract 0 1))] [s2.extract 0 1] hS12 Tryz.underlying23 ti9 rfl (by decide) (by kernel_rfl) (.inr rfl) rfl rfl (by decide)) ?_
        rintro _ w17 ⟨b6, rfl, hS22, hk14⟩
        have hS23 : SH w No w17 [rowE eS 9 (.slice A_out out.length c_out) out, rowE eS 9 (.slice (some ⟨b6, 0, none⟩) 1 1) [s2.extract 0 1]] := (SH.front [_] hS22)
        refine WL.xe rfl (XE.append hS23 Tryz.underlying23 ti9 rfl (St.now (SH.rd hS23 (.tail _ (.head _)))) rfl rfl (by first | omega | simp only [List.length_append, List.length_cons, List.length_nil, List.length_take, List.length_reverse, List.length_drop] at *; omega) (by first | omega | simp only [List.length_append, List.length_cons, List.length_nil, List.length_take, List.length_reverse, List.length_drop] at *; omega)) ?_
        rintro _ w18 ⟨A5, c5, rfl, hS24, hk15⟩
        refine WL.lv rfl (LV.asg rfl) ?_
        refine WL.nil (thenQ.n ?_)
        refine WC.region ?_
        iterate 2 refine WL.lv rfl (LV.mv rfl) ?_
        refine WL.lv rfl (LV.cutS (l := 1) (h := s2.size) Tryz.underlying9 rfl rfl rfl ⟨.inr ⟨.i64, rfl⟩, .inl ⟨rfl, rfl, rfl⟩, .inl ⟨rfl, rfl⟩⟩ (by omega) (by omega)) ?_
        refine WL.lv rfl (LV.asg rfl) ?_
        refine WL.nil (blockQ.n <| thenQ.n ?_)
        have hS25 : SH w No w18 [rowE eS 9 (.slice A5 ((out ++ [s2.extract 0 1]).length) c5) (out ++ [s2.extract 0 1])] := (SH.take 1 rfl hS24)
        exact ⟨_, by rw [ext_size _ (Nat.le_refl _)]; omega, s2.extract 1 s2.size, A5, c5, (out ++ [s2.extract 0 1]), (f + ((1 : Int)).toNat), (doc_tok' (n := (1 : Int)) (k := 3) q3 q1 q2 (by omega) (by omega) (fun t h0_ h1_ => by rw [show t = 0 by omega]; omega) (by omega) (by omega)), (doc_bd (n := (1 : Int)) q3 q2 (by omega) (by omega)), (doc_rest' (n := (1 : Int)) q3 q2 (by omega) (by omega)), (by simp; omega), hS25, rfl, Weak.cons rfl <| Weak.cons rfl <| Weak.nil _⟩
  · skip
    refine WC.exit (thenQ.x <| thenQ.x <| blockQ.hit <| thenQ.n ?_)
    refine WC.seq ?_
    refine WC.region ?_
    refine WL.lv rfl (LV.mv rfl) ?_
    refine WL.lv rfl (LV.asg rfl) ?_
    refine WL.nil (thenQ.n ?_)
    refine WC.ret (?_)
    have hres1 : (out : List ByteArray) = TOK s := doc_fin q1 q2 q3 (by omega)
    exact ⟨_, fun a ha => res1 rfl ha rfl, (by rw [← hres1]; exact ⟨_, _, rfl, hL1⟩)⟩

theorem with_calls {w : World} {S : Nat → Prop} {A : Option Addr} {c : Nat} {l : List ByteArray} {s : ByteArray} (hS0 : SH w S w [rowE eS 9 (.slice A l.length c) l]) (hl : l.length ≤ 1000000) :
    Calls Tryz.prog 28 #[(.slice A l.length c), (.string s)] w fun e w' => ∃ v, e = .returned v ∧ (fun v w' => ∃ (A' : Option Addr) (c' : Nat), v = .slice A' (INSB s l).length c' ∧ SH w S w' [rowE eS 9 (.slice A' (INSB s l).length c') (INSB s l)]) v w' := by
  have hS : SH w S w [rowE eS 9 (.slice A l.length c) l] := hS0
  refine calls (l := litOf [(.slice A l.length c), (.string s)] 0) Tryz.func28 rfl (n := 48) rfl (Nat.le_of_ble_eq_true rfl) (lit_args _) ?_
  refine WC.seq ?_
  refine WC.region ?_
  refine WL.lv rfl (LV.asg rfl) ?_
  refine WL.nil (thenQ.n ?_)
  refine WC.seq ?_
  refine WC.region ?_
  refine WL.lv rfl (LV.asg rfl) ?_
  refine WL.nil (thenQ.n ?_)
  refine WC.seq ?_
  refine WC.block ?_
  refine WC.loop (fun m_ f_ w_ => ∃ (k : Int), (0 ≤ k) ∧ (k ≤ l.length) ∧ (∀ t : Int, 0 ≤ t → t < k → ltB (l.getD t.toNat ByteArray.empty) s) ∧ SH w S w_ [rowE eS 9 (.slice A l.length c) l] ∧ m_ = (((l.length : Int) - k).toNat) ∧ Weak (lit [(0, (.slice A l.length c)), (1, (.string s)), (5, (.int .i64 k))]) f_) _ ⟨0, by omega, by omega, (fun t h1 h2 => by omega), hS, rfl, Weak.cons rfl <| Weak.cons rfl <| Weak.cons rfl <| Weak.nil _⟩ ?_
  rintro m1 f1 w1 ⟨k, klo, khi, q1, hL1, rfl, hw1⟩
  refine WC.weak hw1 ?_
  clear hw1
  iterate 2 refine WC.seq ?_
  refine WC.region ?_
  iterate 2 refine WL.lv rfl (LV.mv rfl) ?_
  refine WL.lv rfl (LV.lenL Tryz.underlying23 rfl) ?_
  rcases Decidable.em (k < (l.length : Int)) with hg1 | hg1
  · refine WL.lv rfl (LV.as (LV.ltI rfl rfl) (decide_eq_true hg1)) ?_
    iterate 3 refine WL.lv rfl (LV.mv rfl) ?_
    obtain ⟨A1, c1, e1, g1⟩ := St.elt (SH.rd hL1 (.head _)) ByteArray.empty k (by omega) (by omega)
    refine WL.lv rfl (LV.idxA Tryz.underlying23 ti9.sz rfl e1 rfl (by omega) (by omega)) ?_
    refine WL.lv rfl (LV.load1 (v := (.string (l.getD (k).toNat ByteArray.empty))) Tryz.underlying9 rfl rfl (g1 _ (KB.refl No _) 0 _ rfl)) ?_
    refine WL.lv rfl (LV.mv rfl) ?_
    refine WL.lv rfl (LV.ltS (a := (l.getD (k).toNat ByteArray.empty)) (b := s) rfl rfl) ?_
    refine WL.lv rfl (LV.pickT rfl rfl) ?_
    refine WL.nil (thenQ.n ?_)
    refine WC.condP (p := ltB (l.getD (k).toNat ByteArray.empty) s) rfl (fun hc1 => ?_) (fun hc1 => ?_)
    · skip
      refine WC.skip (thenQ.n ?_)
      refine WC.block ?_
      refine WC.region ?_
      refine WL.lv rfl (LV.mv rfl) ?_
      refine WL.lv rfl (LV.add rfl rfl (wr64 (by omega) (by omega))) ?_
      refine WL.lv rfl (LV.asg rfl) ?_
      refine WL.nil (blockQ.n <| thenQ.n ?_)
      exact ⟨_, by omega, k + 1, by omega, by omega, (all_step q1 (by assumption)), hL1, rfl, Weak.cons rfl <| Weak.cons rfl <| Weak.cons rfl <| Weak.nil _⟩
    · skip
      refine WC.exit (thenQ.x <| thenQ.x <| blockQ.hit <| thenQ.n ?_)
      iterate 2 refine WC.seq ?_
      refine WC.region ?_
      iterate 2 refine WL.lv rfl (LV.mv rfl) ?_
      refine WL.lv rfl (LV.lenL Tryz.underlying23 rfl) ?_
      refine WL.lv rfl (LV.as (LV.ltI rfl rfl) (decide_eq_true hg1)) ?_
      iterate 3 refine WL.lv rfl (LV.mv rfl) ?_
      obtain ⟨A2, c2, e2, g2⟩ := St.elt (SH.rd hL1 (.head _)) ByteArray.empty k (by omega) (by omega)
      refine WL.lv rfl (LV.idxA Tryz.underlying23 ti9.sz rfl e2 rfl (by omega) (by omega)) ?_
      refine WL.lv rfl (LV.load1 (v := (.string (l.getD (k).toNat ByteArray.empty))) Tryz.underlying9 rfl rfl (g2 _ (KB.refl No _) 0 _ rfl)) ?_
      refine WL.lv rfl (LV.mv rfl) ?_
      refine WL.lv rfl (LV.eqSP (a := (l.getD (k).toNat ByteArray.empty)) (b := s) rfl rfl) ?_
      refine WL.lv rfl (LV.pickT rfl rfl) ?_
      refine WL.nil (thenQ.n ?_)
      refine WC.condP (p := (l.getD (k).toNat ByteArray.empty) = s) rfl (fun he => ?_) (fun he => ?_)
      · skip
        refine WC.seq ?_
        refine WC.region ?_
        refine WL.lv rfl (LV.mv rfl) ?_
        refine WL.lv rfl (LV.asg rfl) ?_
        refine WL.nil (thenQ.n ?_)
        refine WC.ret (thenQ.r <| ?_)
        exact ⟨_, fun a ha => res1 rfl ha rfl, (by rw [insb_in klo (by omega) q1 he]; exact ⟨_, _, rfl, hL1⟩)⟩
      · skip
        refine WC.skip (thenQ.n ?_)
        refine WC.seq ?_
        refine WC.region ?_
        refine WL.xe rfl (XE.buildSlice (E := eS) [] #[] [] hL1 Tryz.underlying23 ti9 rfl (by decide) (by kernel_rfl) (.inr rfl) rfl rfl (by decide)) ?_
        rintro _ w2 ⟨b1, rfl, hS1, hk1⟩
        iterate 2 refine WL.lv rfl (LV.mv rfl) ?_
        have hcap1 : l.length ≤ c := (Rd.cap (St.now (SH.rd hS1 (.tail _ (.head _)))))
        refine WL.lv rfl (LV.cut Tryz.underlying23 ti9.sz rfl rfl rfl rfl ⟨.inl ⟨rfl, rfl⟩, .inr ⟨.i64, by rw [Int.toNat_of_nonneg (a := k) (by omega)] <;> rfl⟩, .inl ⟨rfl, rfl⟩⟩ (by omega) (by omega) (by omega)) ?_
        refine WL.xe rfl (XE.append hS1 Tryz.underlying23 ti9 rfl (St.now ((SH.rd hS1 (.tail _ (.head _))).imp fun _ h => Rd.cut h (by omega) (by omega) (by omega) (by omega))) rfl rfl (by first | omega | simp only [List.length_append, List.length_cons, List.length_nil, List.length_take, List.length_reverse, List.length_drop] at *; omega) (by first | omega | simp only [List.length_append, List.length_cons, List.length_nil, List.length_take, List.length_reverse, List.length_drop] at *; omega)) ?_
        rintro _ w3 ⟨A3, c3, rfl, hS2, hk2⟩
        refine WL.lv rfl (LV.asg rfl) ?_
        refine WL.nil (thenQ.n ?_)
        refine WC.seq ?_
        refine WC.region ?_
        iterate 2 refine WL.lv rfl (LV.mv rfl) ?_
        refine WL.xe rfl (XE.buildSlice (E := eS) [(0, (.string s))] #[(.string s)] [s] hS2 Tryz.underlying23 ti9 rfl (by decide) (by kernel_rfl) (.inr rfl) rfl rfl (by decide)) ?_
        rintro _ w4 ⟨b2, rfl, hS3, hk3⟩
        have hS4 : SH w S w4 [rowE eS 9 (.slice A3 ((([] : List ByteArray) ++ ((l.take ((k).toNat)).drop 0)).length) c3) (([] : List ByteArray) ++ ((l.take ((k).toNat)).drop 0)), rowE eS 9 (.slice (some ⟨b2, 0, none⟩) 1 1) [s], rowE eS 9 (.slice A l.length c) l] := (SH.front [_] hS3)
        refine WL.xe rfl (XE.append hS4 Tryz.underlying23 ti9 rfl (St.now (SH.rd hS4 (.tail _ (.head _)))) rfl rfl (by first | omega | simp only [List.length_append, List.length_cons, List.length_nil, List.length_take, List.length_reverse, List.length_drop] at *; omega) (by first | omega | simp only [List.length_append, List.length_cons, List.length_nil, List.length_take, List.length_reverse, List.length_drop] at *; omega)) ?_
        rintro _ w5 ⟨A4, c4, rfl, hS5, hk4⟩
        refine WL.lv rfl (LV.asg rfl) ?_
        refine WL.nil (thenQ.n ?_)
        refine WC.seq ?_
        refine WC.region ?_
        iterate 3 refine WL.lv rfl (LV.mv rfl) ?_
        have hcap2 : l.length ≤ c := (Rd.cap (St.now (SH.rd hS5 (.tail _ (.tail _ (.head _))))))
        refine WL.lv rfl (LV.cut Tryz.underlying23 ti9.sz rfl rfl rfl rfl ⟨.inr ⟨.i64, by rw [Int.toNat_of_nonneg (a := k) (by omega)] <;> rfl⟩, .inl ⟨rfl, rfl, rfl⟩, .inl ⟨rfl, rfl⟩⟩ (by omega) (by omega) (by omega)) ?_
        refine WL.xe rfl (XE.append hS5 Tryz.underlying23 ti9 rfl (St.now ((SH.rd hS5 (.tail _ (.tail _ (.head _)))).imp fun _ h => Rd.cut h (by omega) (by omega) (by omega) (by omega))) rfl rfl (by first | omega | simp only [List.length_append, List.length_cons, List.length_nil, List.length_take, List.length_reverse, List.length_drop] at *; omega) (by first | omega | simp only [List.length_append, List.length_cons, List.length_nil, List.length_take, List.length_reverse, List.length_drop] at *; omega)) ?_
        rintro _ w6 ⟨A5, c5, rfl, hS6, hk5⟩
        refine WL.lv rfl (LV.asg rfl) ?_
        refine WL.nil (thenQ.n ?_)
        refine WC.ret (?_)
        have hS7 : SH w S w6 [rowE eS 9 (.slice A5 ((((([] : List ByteArray) ++ ((l.take ((k).toNat)).drop 0)) ++ [s]) ++ ((l.take l.length).drop ((k).toNat))).length) c5) (((([] : List ByteArray) ++ ((l.take ((k).toNat)).drop 0)) ++ [s]) ++ ((l.take l.length).drop ((k).toNat)))] := (SH.take 1 rfl hS6)
        exact ⟨_, fun a ha => res1 rfl ha rfl, (by rw [← show (((([] : List ByteArray) ++ ((l.take ((k).toNat)).drop 0)) ++ [s]) ++ ((l.take l.length).drop ((k).toNat))) = INSB s l from (by simpa using insb_new klo (by omega) q1 (fun h_ => by first | assumption | omega) (fun h_ => by first | assumption | omega))]; exact ⟨_, _, rfl, hS7⟩)⟩
  · refine WL.lv rfl (LV.as (LV.ltI rfl rfl) (decide_eq_false hg1)) ?_
    refine WL.lv rfl (LV.mv rfl) ?_
    iterate 6 refine WL.off rfl ?_
    refine WL.lv rfl (LV.pickF rfl rfl) ?_
    refine WL.nil (thenQ.n ?_)
    refine WC.condF rfl ?_
    refine WC.exit (thenQ.x <| thenQ.x <| blockQ.hit <| thenQ.n ?_)
    iterate 2 refine WC.seq ?_
    refine WC.region ?_
    iterate 2 refine WL.lv rfl (LV.mv rfl) ?_
    refine WL.lv rfl (LV.lenL Tryz.underlying23 rfl) ?_
    refine WL.lv rfl (LV.as (LV.ltI rfl rfl) (decide_eq_false hg1)) ?_
    refine WL.lv rfl (LV.mv rfl) ?_
    iterate 6 refine WL.off rfl ?_
    refine WL.lv rfl (LV.pickF rfl rfl) ?_
    refine WL.nil (thenQ.n ?_)
    refine WC.condF rfl ?_
    refine WC.skip (thenQ.n ?_)
    refine WC.seq ?_
    refine WC.region ?_
    refine WL.xe rfl (XE.buildSlice (E := eS) [] #[] [] hL1 Tryz.underlying23 ti9 rfl (by decide) (by kernel_rfl) (.inr rfl) rfl rfl (by decide)) ?_
    rintro _ w7 ⟨b3, rfl, hS8, hk6⟩
    iterate 2 refine WL.lv rfl (LV.mv rfl) ?_
    have hcap3 : l.length ≤ c := (Rd.cap (St.now (SH.rd hS8 (.tail _ (.head _)))))
    refine WL.lv rfl (LV.cut Tryz.underlying23 ti9.sz rfl rfl rfl rfl ⟨.inl ⟨rfl, rfl⟩, .inr ⟨.i64, by rw [Int.toNat_of_nonneg (a := k) (by omega)] <;> rfl⟩, .inl ⟨rfl, rfl⟩⟩ (by omega) (by omega) (by omega)) ?_
    refine WL.xe rfl (XE.append hS8 Tryz.underlying23 ti9 rfl (St.now ((SH.rd hS8 (.tail _ (.head _))).imp fun _ h => Rd.cut h (by omega) (by omega) (by omega) (by omega))) rfl rfl (by first | omega | simp only [List.length_append, List.length_cons, List.length_nil, List.length_take, List.length_reverse, List.length_drop] at *; omega) (by first | omega | simp only [List.length_append, List.length_cons, List.length_nil, List.length_take, List.length_reverse, List.length_drop] at *; omega)) ?_
    rintro _ w8 ⟨A6, c6, rfl, hS9, hk7⟩
    refine WL.lv rfl (LV.asg rfl) ?_
    refine WL.nil (thenQ.n ?_)
    refine WC.seq ?_
    refine WC.region ?_
    iterate 2 refine WL.lv rfl (LV.mv rfl) ?_
    refine WL.xe rfl (XE.buildSlice (E := eS) [(0, (.string s))] #[(.string s)] [s] hS9 Tryz.underlying23 ti9 rfl (by decide) (by kernel_rfl) (.inr rfl) rfl rfl (by decide)) ?_
    rintro _ w9 ⟨b4, rfl, hS10, hk8⟩
    have hS11 : SH w S w9 [rowE eS 9 (.slice A6 ((([] : List ByteArray) ++ ((l.take ((k).toNat)).drop 0)).length) c6) (([] : List ByteArray) ++ ((l.take ((k).toNat)).drop 0)), rowE eS 9 (.slice (some ⟨b4, 0, none⟩) 1 1) [s], rowE eS 9 (.slice A l.length c) l] := (SH.front [_] hS10)
    refine WL.xe rfl (XE.append hS11 Tryz.underlying23 ti9 rfl (St.now (SH.rd hS11 (.tail _ (.head _)))) rfl rfl (by first | omega | simp only [List.length_append, List.length_cons, List.length_nil, List.length_take, List.length_reverse, List.length_drop] at *; omega) (by first | omega | simp only [List.length_append, List.length_cons, List.length_nil, List.length_take, List.length_reverse, List.length_drop] at *; omega)) ?_
    rintro _ w10 ⟨A7, c7, rfl, hS12, hk9⟩
    refine WL.lv rfl (LV.asg rfl) ?_
    refine WL.nil (thenQ.n ?_)
    refine WC.seq ?_
    refine WC.region ?_
    iterate 3 refine WL.lv rfl (LV.mv rfl) ?_
    have hcap4 : l.length ≤ c := (Rd.cap (St.now (SH.rd hS12 (.tail _ (.tail _ (.head _))))))
    refine WL.lv rfl (LV.cut Tryz.underlying23 ti9.sz rfl rfl rfl rfl ⟨.inr ⟨.i64, by rw [Int.toNat_of_nonneg (a := k) (by omega)] <;> rfl⟩, .inl ⟨rfl, rfl, rfl⟩, .inl ⟨rfl, rfl⟩⟩ (by omega) (by omega) (by omega)) ?_
    refine WL.xe rfl (XE.append hS12 Tryz.underlying23 ti9 rfl (St.now ((SH.rd hS12 (.tail _ (.tail _ (.head _)))).imp fun _ h => Rd.cut h (by omega) (by omega) (by omega) (by omega))) rfl rfl (by first | omega | simp only [List.length_append, List.length_cons, List.length_nil, List.length_take, List.length_reverse, List.length_drop] at *; omega) (by first | omega | simp only [List.length_append, List.length_cons, List.length_nil, List.length_take, List.length_reverse, List.length_drop] at *; omega)) ?_
    rintro _ w11 ⟨A8, c8, rfl, hS13, hk10⟩
    refine WL.lv rfl (LV.asg rfl) ?_
    refine WL.nil (thenQ.n ?_)
    refine WC.ret (?_)
    have hS14 : SH w S w11 [rowE eS 9 (.slice A8 ((((([] : List ByteArray) ++ ((l.take ((k).toNat)).drop 0)) ++ [s]) ++ ((l.take l.length).drop ((k).toNat))).length) c8) (((([] : List ByteArray) ++ ((l.take ((k).toNat)).drop 0)) ++ [s]) ++ ((l.take l.length).drop ((k).toNat)))] := (SH.take 1 rfl hS13)
    exact ⟨_, fun a ha => res1 rfl ha rfl, (by rw [← show (((([] : List ByteArray) ++ ((l.take ((k).toNat)).drop 0)) ++ [s]) ++ ((l.take l.length).drop ((k).toNat))) = INSB s l from (by simpa using insb_new klo (by omega) q1 (fun h_ => by first | assumption | omega) (fun h_ => by first | assumption | omega))]; exact ⟨_, _, rfl, hS14⟩)⟩

end Go.Proofs.YtigbphaimbhgjaaGreat

