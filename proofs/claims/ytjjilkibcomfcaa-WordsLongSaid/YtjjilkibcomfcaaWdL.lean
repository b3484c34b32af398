/- The law of long texts. -/
import Derived.Test.YtjjilkibcomfcaaWdI
namespace Go.Proofs.Ytjjilkibcomfcaa
open Go Go.Gv Go.RowKit Go.Mys Go.Pat Go.Wds
set_option linter.unusedVariables false
set_option linter.unusedSimpArgs false

set_option maxHeartbeats 8000000 in
set_option maxRecDepth 100000 in
theorem wordsLong_law {w : World} {a : ByteArray} {b : ByteArray} {c : Int} (hc0 : 0 ≤ c) (hc1 : c ≤ 255) :
    Calls Try.prog 5 #[(.string a), (.string b), (.int .u8 c)] w fun e w' => ∃ v, e = .returned v ∧ (fun v w' => v = .bool (decide (true)) ∧ KB No w w') v w' := by
  have hS : SH w No w [] := SH.nil _ _
  refine calls (l := litOf [(.string a), (.string b), (.int .u8 c)] 0) Try.func5 rfl (n := 96) rfl (Nat.le_of_ble_eq_true rfl) (lit_args _) ?_
  refine WC.seq ?_
  refine WC.region ?_
  refine WL.lv rfl (LV.asg rfl) ?_
  refine WL.nil (thenQ.n ?_)
  refine WC.seq ?_
  have hS1 := SH.drew hS
  refine WC.regionD [] (fun w_ => KB No w.drew w_) [(.pure, 0), (.pure, 1), (.pure, 2), (.pure, 3), (.pure, 4), (.pure, 5), (.pure, 6), (.pure, 7), (.pure, 8), (.pure, 9), (.pure, 10), (.pure, 11)] (by kernel_rfl) (by kernel_rfl) (KB.refl _ _) ?_
  iterate 2 refine WS.pure rfl rfl (fun _ => LV.mv rfl) ?_
  refine WS.pure rfl rfl (fun _ => LV.lenS Try.underlying9 rfl) ?_
  refine WS.pure rfl rfl (fun _ => LV.minI rfl rfl) ?_
  refine WS.pure rfl rfl (fun _ => LV.to (v := (.string (a.extract 0 ((min (a.size : Int) 20).toNat)))) (v' := (.string (FW a 20))) (congrArg Value.string (fw_is (by omega))) (LV.cutS (l := 0) (h := (min (a.size : Int) 20).toNat) Try.underlying9 rfl rfl rfl ⟨.inl ⟨rfl, rfl⟩, .inr ⟨.i64, by rw [Int.toNat_of_nonneg (a := min (a.size : Int) 20) (by omega)] <;> rfl⟩, .inl ⟨rfl, rfl⟩⟩ (by omega) (by omega))) ?_
  iterate 2 refine WS.pure rfl rfl (fun _ => LV.mv rfl) ?_
  refine WS.pure rfl rfl (fun _ => LV.lenS Try.underlying9 rfl) ?_
  refine WS.pure rfl rfl (fun _ => LV.minI rfl rfl) ?_
  refine WS.pure rfl rfl (fun _ => LV.to (v := (.string (b.extract 0 ((min (b.size : Int) 20).toNat)))) (v' := (.string (FW b 20))) (congrArg Value.string (fw_is (by omega))) (LV.cutS (l := 0) (h := (min (b.size : Int) 20).toNat) Try.underlying9 rfl rfl rfl ⟨.inl ⟨rfl, rfl⟩, .inr ⟨.i64, by rw [Int.toNat_of_nonneg (a := min (b.size : Int) 20) (by omega)] <;> rfl⟩, .inl ⟨rfl, rfl⟩⟩ (by omega) (by omega))) ?_
  iterate 2 refine WS.pure rfl rfl (fun _ => LV.asg rfl) ?_
  refine WS.nil (thenQ.n ?_)
  iterate 2 refine WC.seq ?_
  refine WC.region ?_
  refine WL.lv rfl (LV.mv rfl) ?_
  rcases Decidable.em (c ≤ 32) with hg1 | hg1
  · refine WL.lv rfl (LV.as (LV.leI rfl rfl) (decide_eq_true hg1)) ?_
    refine WL.lv rfl (LV.mv rfl) ?_
    iterate 6 refine WL.off rfl ?_
    refine WL.lv rfl (LV.pickT rfl rfl) ?_
    refine WL.lv rfl (LV.mv rfl) ?_
    iterate 6 refine WL.off rfl ?_
    refine WL.lv rfl (LV.pickT rfl rfl) ?_
    refine WL.lv rfl (LV.mv rfl) ?_
    iterate 2 refine WL.off rfl ?_
    refine WL.lv rfl (LV.pickT rfl rfl) ?_
    refine WL.lv rfl (LV.mv rfl) ?_
    iterate 6 refine WL.off rfl ?_
    refine WL.lv rfl (LV.pickT rfl rfl) ?_
    refine WL.lv rfl (LV.mv rfl) ?_
    iterate 2 refine WL.off rfl ?_
    refine WL.lv rfl (LV.pickT rfl rfl) ?_
    refine WL.nil (thenQ.n ?_)
    refine WC.condT rfl ?_
    refine WC.seq ?_
    refine WC.region ?_
    refine WL.call rfl (XC.fn Try.func8 (by kernel_rfl) rfl rfl rfl) (live28_calls  ) ?_
    rintro v_ w1 ⟨rfl, hk1⟩
    have hS2 := SH.same hS1 hk1
    refine WL.lv rfl (LV.asg rfl) ?_
    refine WL.nil (thenQ.n ?_)
    refine WC.ret (thenQ.r <| ?_)
    exact ⟨_, fun a ha => res1 rfl ha rfl, rfl, hS2.kb⟩
  · refine WL.lv rfl (LV.as (LV.leI rfl rfl) (decide_eq_false hg1)) ?_
    iterate 2 refine WL.lv rfl (LV.mv rfl) ?_
    rcases Decidable.em (c ≥ 48) with hg2 | hg2
    · refine WL.lv rfl (LV.as (LV.geI rfl rfl) (decide_eq_true hg2)) ?_
      iterate 2 refine WL.lv rfl (LV.mv rfl) ?_
      rcases Decidable.em (c ≤ 57) with hg3 | hg3
      · refine WL.lv rfl (LV.as (LV.leI rfl rfl) (decide_eq_true hg3)) ?_
        refine WL.lv rfl (LV.pickT rfl rfl) ?_
        refine WL.lv rfl (LV.pickF rfl rfl) ?_
        refine WL.lv rfl (LV.mv rfl) ?_
        iterate 6 refine WL.off rfl ?_
        refine WL.lv rfl (LV.pickT rfl rfl) ?_
        refine WL.lv rfl (LV.mv rfl) ?_
        iterate 2 refine WL.off rfl ?_
        refine WL.lv rfl (LV.pickT rfl rfl) ?_
        refine WL.lv rfl (LV.mv rfl) ?_
        iterate 6 refine WL.off rfl ?_
        refine WL.lv rfl (LV.pickT rfl rfl) ?_
        refine WL.lv rfl (LV.mv rfl) ?_
        iterate 2 refine WL.off rfl ?_
        refine WL.lv rfl (LV.pickT rfl rfl) ?_
        refine WL.nil (thenQ.n ?_)
        refine WC.condT rfl ?_
        refine WC.seq ?_
        refine WC.region ?_
        refine WL.call rfl (XC.fn Try.func8 (by kernel_rfl) rfl rfl rfl) (live28_calls  ) ?_
        rintro v_ w2 ⟨rfl, hk2⟩
        have hS3 := SH.same hS1 hk2
        refine WL.lv rfl (LV.asg rfl) ?_
        refine WL.nil (thenQ.n ?_)
        refine WC.ret (thenQ.r <| ?_)
        exact ⟨_, fun a ha => res1 rfl ha rfl, rfl, hS3.kb⟩
      · refine WL.lv rfl (LV.as (LV.leI rfl rfl) (decide_eq_false hg3)) ?_
        refine WL.lv rfl (LV.pickT rfl rfl) ?_
        refine WL.lv rfl (LV.pickF rfl rfl) ?_
        iterate 2 refine WL.lv rfl (LV.mv rfl) ?_
        rcases Decidable.em (c ≥ 65) with hg4 | hg4
        · refine WL.lv rfl (LV.as (LV.geI rfl rfl) (decide_eq_true hg4)) ?_
          iterate 2 refine WL.lv rfl (LV.mv rfl) ?_
          rcases Decidable.em (c ≤ 90) with hg5 | hg5
          · refine WL.lv rfl (LV.as (LV.leI rfl rfl) (decide_eq_true hg5)) ?_
            refine WL.lv rfl (LV.pickT rfl rfl) ?_
            refine WL.lv rfl (LV.pickF rfl rfl) ?_
            refine WL.lv rfl (LV.mv rfl) ?_
            iterate 2 refine WL.off rfl ?_
            refine WL.lv rfl (LV.pickT rfl rfl) ?_
            refine WL.lv rfl (LV.mv rfl) ?_
            iterate 6 refine WL.off rfl ?_
            refine WL.lv rfl (LV.pickT rfl rfl) ?_
            refine WL.lv rfl (LV.mv rfl) ?_
            iterate 2 refine WL.off rfl ?_
            refine WL.lv rfl (LV.pickT rfl rfl) ?_
            refine WL.nil (thenQ.n ?_)
            refine WC.condT rfl ?_
            refine WC.seq ?_
            refine WC.region ?_
            refine WL.call rfl (XC.fn Try.func8 (by kernel_rfl) rfl rfl rfl) (live28_calls  ) ?_
            rintro v_ w3 ⟨rfl, hk3⟩
            have hS4 := SH.same hS1 hk3
            refine WL.lv rfl (LV.asg rfl) ?_
            refine WL.nil (thenQ.n ?_)
            refine WC.ret (thenQ.r <| ?_)
            exact ⟨_, fun a ha => res1 rfl ha rfl, rfl, hS4.kb⟩
          · refine WL.lv rfl (LV.as (LV.leI rfl rfl) (decide_eq_false hg5)) ?_
            refine WL.lv rfl (LV.pickT rfl rfl) ?_
            refine WL.lv rfl (LV.pickF rfl rfl) ?_
            iterate 2 refine WL.lv rfl (LV.mv rfl) ?_
            rcases Decidable.em (c = 95) with hg6 | hg6
            · refine WL.lv rfl (LV.as (LV.eqI rfl rfl) (decide_eq_true hg6)) ?_
              refine WL.lv rfl (LV.pickF rfl rfl) ?_
              refine WL.lv rfl (LV.mv rfl) ?_
              iterate 6 refine WL.off rfl ?_
              refine WL.lv rfl (LV.pickT rfl rfl) ?_
              refine WL.lv rfl (LV.mv rfl) ?_
              iterate 2 refine WL.off rfl ?_
              refine WL.lv rfl (LV.pickT rfl rfl) ?_
              refine WL.nil (thenQ.n ?_)
              refine WC.condT rfl ?_
              refine WC.seq ?_
              refine WC.region ?_
              refine WL.call rfl (XC.fn Try.func8 (by kernel_rfl) rfl rfl rfl) (live28_calls  ) ?_
              rintro v_ w4 ⟨rfl, hk4⟩
              have hS5 := SH.same hS1 hk4
              refine WL.lv rfl (LV.asg rfl) ?_
              refine WL.nil (thenQ.n ?_)
              refine WC.ret (thenQ.r <| ?_)
              exact ⟨_, fun a ha => res1 rfl ha rfl, rfl, hS5.kb⟩
            · refine WL.lv rfl (LV.as (LV.eqI rfl rfl) (decide_eq_false hg6)) ?_
              refine WL.lv rfl (LV.pickF rfl rfl) ?_
              iterate 2 refine WL.lv rfl (LV.mv rfl) ?_
              rcases Decidable.em (c ≥ 97) with hg7 | hg7
              · refine WL.lv rfl (LV.as (LV.geI rfl rfl) (decide_eq_true hg7)) ?_
                iterate 2 refine WL.lv rfl (LV.mv rfl) ?_
                rcases Decidable.em (c ≤ 122) with hg8 | hg8
                · refine WL.lv rfl (LV.as (LV.leI rfl rfl) (decide_eq_true hg8)) ?_
                  refine WL.lv rfl (LV.pickT rfl rfl) ?_
                  refine WL.lv rfl (LV.pickF rfl rfl) ?_
                  refine WL.lv rfl (LV.mv rfl) ?_
                  iterate 2 refine WL.off rfl ?_
                  refine WL.lv rfl (LV.pickT rfl rfl) ?_
                  refine WL.nil (thenQ.n ?_)
                  refine WC.condT rfl ?_
                  refine WC.seq ?_
                  refine WC.region ?_
                  refine WL.call rfl (XC.fn Try.func8 (by kernel_rfl) rfl rfl rfl) (live28_calls  ) ?_
                  rintro v_ w5 ⟨rfl, hk5⟩
                  have hS6 := SH.same hS1 hk5
                  refine WL.lv rfl (LV.asg rfl) ?_
                  refine WL.nil (thenQ.n ?_)
                  refine WC.ret (thenQ.r <| ?_)
                  exact ⟨_, fun a ha => res1 rfl ha rfl, rfl, hS6.kb⟩
                · refine WL.lv rfl (LV.as (LV.leI rfl rfl) (decide_eq_false hg8)) ?_
                  refine WL.lv rfl (LV.pickT rfl rfl) ?_
                  refine WL.lv rfl (LV.pickF rfl rfl) ?_
                  iterate 2 refine WL.lv rfl (LV.mv rfl) ?_
                  refine WL.lv rfl (LV.eqI rfl rfl) ?_
                  refine WL.lv rfl (LV.pickF rfl rfl) ?_
                  refine WL.nil (thenQ.n ?_)
                  refine WC.condP (p := c = 9) rfl (fun hcls => ?_) (fun hcls => ?_)
                  · skip
                    refine WC.seq ?_
                    refine WC.region ?_
                    refine WL.call rfl (XC.fn Try.func8 (by kernel_rfl) rfl rfl rfl) (live28_calls  ) ?_
                    rintro v_ w6 ⟨rfl, hk6⟩
                    have hS7 := SH.same hS1 hk6
                    refine WL.lv rfl (LV.asg rfl) ?_
                    refine WL.nil (thenQ.n ?_)
                    refine WC.ret (thenQ.r <| ?_)
                    exact ⟨_, fun a ha => res1 rfl ha rfl, rfl, hS7.kb⟩
                  · skip
                    refine WC.skip (thenQ.n ?_)
                    refine WC.seq ?_
                    refine WC.region ?_
                    have hfa_ := FW_sz a 20
                    refine WL.lv rfl (LV.mv rfl) ?_
                    refine WL.lv rfl (LV.asg rfl) ?_
                    refine WL.nil (thenQ.n ?_)
                    iterate 2 refine WC.seq ?_
                    refine WC.region ?_
                    refine WL.lv rfl (LV.asg rfl) ?_
                    refine WL.nil (thenQ.n ?_)
                    refine WC.block ?_
                    refine WC.loop (fun m_ f_ w_ => ∃ (s : ByteArray) (i : Int), (0 ≤ i) ∧ (i ≤ 401) ∧ (RPT s (FW a 20).size c i) ∧ SH w No w_ [] ∧ m_ = ((401 - i).toNat) ∧ Weak (lit [(1, (.string (FW b 20))), (2, (.int .u8 c)), (7, (.string s)), (8, (.int .i64 i))]) f_) _ ⟨(FW a 20), 0, by omega, by omega, (RPT.z _ _), hS1, rfl, Weak.cons rfl <| Weak.cons rfl <| Weak.cons rfl <| Weak.cons rfl <| Weak.nil _⟩ ?_
                    rintro m1 f1 w7 ⟨s, i, ilo, ihi, q1, hL1, rfl, hw1⟩
                    refine WC.weak hw1 ?_
                    clear hw1
                    have hsz_ := q1.1
                    iterate 2 refine WC.seq ?_
                    refine WC.region ?_
                    refine WL.lv rfl (LV.mv rfl) ?_
                    refine WL.lv rfl (LV.ltI rfl rfl) ?_
                    refine WL.nil (thenQ.n ?_)
                    refine WC.condP (p := i < 401) rfl (fun hk => ?_) (fun hk => ?_)
                    · skip
                      refine WC.skip (thenQ.n ?_)
                      refine WC.seq ?_
                      refine WC.block ?_
                      refine WC.region ?_
                      iterate 2 refine WL.lv rfl (LV.mv rfl) ?_
                      refine WL.xe rfl (XE.buildSlice (E := eU8) [(0, (.int .u8 c))] #[(.int .u8 c)] [c] hL1 Try.underlying33 ti5 rfl (by decide) (by kernel_rfl) (.inr rfl) rfl rfl (by decide)) ?_
                      rintro _ w8 ⟨b1, rfl, hS8, hk7⟩
                      refine WL.lv rfl (LV.strOf Try.underlying33 Try.underlying5 Try.underlying9 rfl ((SH.rd hS8 (.head _)) _ (KB.refl No _))) ?_
                      refine WL.lv rfl (LV.addS rfl rfl (by have h_ := strOf_sz c; omega)) ?_
                      refine WL.lv rfl (LV.asg rfl) ?_
                      refine WL.nil (blockQ.n <| thenQ.n ?_)
                      refine WC.region ?_
                      refine WL.lv rfl (LV.mv rfl) ?_
                      refine WL.lv rfl (LV.add rfl rfl (wr64 (by omega) (by omega))) ?_
                      refine WL.lv rfl (LV.asg rfl) ?_
                      refine WL.nil (thenQ.n ?_)
                      have hS9 : SH w No w8 [] := (SH.take 0 rfl hS8)
                      exact ⟨_, by omega, s ++ (strOfNums [c]), i + 1, by omega, by omega, (q1.step (strOf1 hc0 hc1)), hS9, rfl, Weak.cons rfl <| Weak.cons rfl <| Weak.cons rfl <| Weak.cons rfl <| Weak.nil _⟩
                    · skip
                      refine WC.exit (thenQ.x <| thenQ.x <| blockQ.hit <| thenQ.n ?_)
                      refine WC.seq ?_
                      refine WC.region ?_
                      refine WL.lv rfl (LV.mv rfl) ?_
                      have hkd_ := kd_is c
                      have hlg_ : (TOK s).length > 400 := q1.long (by omega) (by omega)
                      have hss_ := q1.1
                      have hfb_ := FW_sz b 20
                      have hlen_ : (EDT s (FW b 20)).length = 0 ∧ (EDT (FW b 20) s).length = 0 := by rw [edt_long (.inl hlg_), edt_long (.inr hlg_)]; exact ⟨rfl, rfl⟩
                      iterate 2 refine WL.lv rfl (LV.addS rfl rfl (by first | omega | (simp only [ByteArray.size_append, ByteArray.size_extract, lit1, lit2, lit0]; omega))) ?_
                      refine WL.lv rfl (LV.asg rfl) ?_
                      refine WL.nil (thenQ.n ?_)
                      iterate 2 refine WC.seq ?_
                      refine WC.region ?_
                      refine WL.lv rfl (LV.mv rfl) ?_
                      refine WL.lv rfl (LV.lenS Try.underlying9 rfl) ?_
                      refine WL.lv rfl (LV.gtI rfl rfl) ?_
                      refine WL.nil (thenQ.n ?_)
                      refine WC.condP (p := ((FW b 20).size : Int) > 0) rfl (fun h70 => ?_) (fun h70 => ?_)
                      · skip
                        refine WC.region ?_
                        refine WL.lv rfl (LV.mv rfl) ?_
                        refine WL.lv rfl (LV.addS rfl rfl (by first | omega | (simp only [ByteArray.size_append, ByteArray.size_extract, lit1, lit2, lit0]; omega))) ?_
                        refine WL.lv rfl (LV.mv rfl) ?_
                        iterate 2 refine WL.lv rfl (LV.addS rfl rfl (by first | omega | (simp only [ByteArray.size_append, ByteArray.size_extract, lit1, lit2, lit0]; omega))) ?_
                        refine WL.lv rfl (LV.asg rfl) ?_
                        refine WL.nil (thenQ.n ?_)
                        refine WC.seq ?_
                        refine WC.region ?_
                        refine WL.call rfl (XC.fn Try.func8 (by kernel_rfl) rfl rfl rfl) (live28_calls  ) ?_
                        rintro v_ w9 ⟨rfl, hk8⟩
                        have hS10 := SH.same hL1 hk8
                        iterate 3 refine WL.lv rfl (LV.mv rfl) ?_
                        refine WL.call rfl (XC.fn Try.func15 (by kernel_rfl) rfl rfl rfl) (edits_calls (a := s) (b := (FW b 20)) (by omega) (by omega)) ?_
                        rintro v_ w10 ⟨A1, c1, rfl, hS11⟩
                        have hS12 := SH.joinN hS10 hS11
                        refine WL.lv rfl (LV.lenL Try.underlying29 rfl) ?_
                        iterate 2 refine WL.lv rfl (LV.mv rfl) ?_
                        refine WL.call rfl (XC.fn Try.func15 (by kernel_rfl) rfl rfl rfl) (edits_calls (a := (FW b 20)) (b := s) (by omega) (by omega)) ?_
                        rintro v_ w11 ⟨A2, c2, rfl, hS13⟩
                        have hS14 := SH.joinN hS12 hS13
                        refine WL.lv rfl (LV.lenL Try.underlying29 rfl) ?_
                        refine WL.lv rfl (LV.add rfl rfl (wr64 (by omega) (by omega))) ?_
                        refine WL.lv rfl (LV.as (LV.eqI rfl rfl) (decide_eq_true (by omega))) ?_
                        refine WL.lv rfl (LV.pickT rfl rfl) ?_
                        iterate 3 refine WL.lv rfl (LV.mv rfl) ?_
                        refine WL.call rfl (XC.fn Try.func17 (by kernel_rfl) rfl rfl rfl) (marked_calls (a := s) (b := (FW b 20)) (by omega) (by omega)) ?_
                        rintro v_ w12 ⟨rfl, hk9⟩
                        have hS15 := SH.same hS14 hk9
                        refine WL.lv rfl (LV.mv rfl) ?_
                        refine WL.lv rfl (LV.as (LV.eqSP (a := (MARK s (FW b 20))) (b := (((((⟨#[91, 45]⟩ ++ s) ++ ⟨#[45, 93]⟩) ++ ⟨#[123, 43]⟩) ++ (FW b 20)) ++ ⟨#[43, 125]⟩)) rfl rfl) (decide_eq_true (by rw [mark_long (.inl hlg_), whl_11 (by omega) h70]))) ?_
                        refine WL.lv rfl (LV.pickT rfl rfl) ?_
                        refine WL.lv rfl (LV.asg rfl) ?_
                        refine WL.nil (thenQ.n ?_)
                        refine WC.ret (?_)
                        exact ⟨_, fun a ha => res1 rfl ha rfl, rfl, hS15.kb⟩
                      · skip
                        refine WC.skip (thenQ.n ?_)
                        refine WC.seq ?_
                        refine WC.region ?_
                        refine WL.call rfl (XC.fn Try.func8 (by kernel_rfl) rfl rfl rfl) (live28_calls  ) ?_
                        rintro v_ w13 ⟨rfl, hk10⟩
                        have hS16 := SH.same hL1 hk10
                        iterate 3 refine WL.lv rfl (LV.mv rfl) ?_
                        refine WL.call rfl (XC.fn Try.func15 (by kernel_rfl) rfl rfl rfl) (edits_calls (a := s) (b := (FW b 20)) (by omega) (by omega)) ?_
                        rintro v_ w14 ⟨A3, c3, rfl, hS17⟩
                        have hS18 := SH.joinN hS16 hS17
                        refine WL.lv rfl (LV.lenL Try.underlying29 rfl) ?_
                        iterate 2 refine WL.lv rfl (LV.mv rfl) ?_
                        refine WL.call rfl (XC.fn Try.func15 (by kernel_rfl) rfl rfl rfl) (edits_calls (a := (FW b 20)) (b := s) (by omega) (by omega)) ?_
                        rintro v_ w15 ⟨A4, c4, rfl, hS19⟩
                        have hS20 := SH.joinN hS18 hS19
                        refine WL.lv rfl (LV.lenL Try.underlying29 rfl) ?_
                        refine WL.lv rfl (LV.add rfl rfl (wr64 (by omega) (by omega))) ?_
                        refine WL.lv rfl (LV.as (LV.eqI rfl rfl) (decide_eq_true (by omega))) ?_
                        refine WL.lv rfl (LV.pickT rfl rfl) ?_
                        iterate 3 refine WL.lv rfl (LV.mv rfl) ?_
                        refine WL.call rfl (XC.fn Try.func17 (by kernel_rfl) rfl rfl rfl) (marked_calls (a := s) (b := (FW b 20)) (by omega) (by omega)) ?_
                        rintro v_ w16 ⟨rfl, hk11⟩
                        have hS21 := SH.same hS20 hk11
                        refine WL.lv rfl (LV.mv rfl) ?_
                        refine WL.lv rfl (LV.as (LV.eqSP (a := (MARK s (FW b 20))) (b := ((⟨#[91, 45]⟩ ++ s) ++ ⟨#[45, 93]⟩)) rfl rfl) (decide_eq_true (by rw [mark_long (.inl hlg_), whl_10 (by omega) h70]))) ?_
                        refine WL.lv rfl (LV.pickT rfl rfl) ?_
                        refine WL.lv rfl (LV.asg rfl) ?_
                        refine WL.nil (thenQ.n ?_)
                        refine WC.ret (?_)
                        exact ⟨_, fun a ha => res1 rfl ha rfl, rfl, hS21.kb⟩
              · refine WL.lv rfl (LV.as (LV.geI rfl rfl) (decide_eq_false hg7)) ?_
                refine WL.lv rfl (LV.mv rfl) ?_
                iterate 2 refine WL.off rfl ?_
                iterate 2 refine WL.lv rfl (LV.pickF rfl rfl) ?_
                iterate 2 refine WL.lv rfl (LV.mv rfl) ?_
                refine WL.lv rfl (LV.eqI rfl rfl) ?_
                refine WL.lv rfl (LV.pickF rfl rfl) ?_
                refine WL.nil (thenQ.n ?_)
                refine WC.condP (p := c = 9) rfl (fun hcls => ?_) (fun hcls => ?_)
                · skip
                  refine WC.seq ?_
                  refine WC.region ?_
                  refine WL.call rfl (XC.fn Try.func8 (by kernel_rfl) rfl rfl rfl) (live28_calls  ) ?_
                  rintro v_ w17 ⟨rfl, hk12⟩
                  have hS22 := SH.same hS1 hk12
                  refine WL.lv rfl (LV.asg rfl) ?_
                  refine WL.nil (thenQ.n ?_)
                  refine WC.ret (thenQ.r <| ?_)
                  exact ⟨_, fun a ha => res1 rfl ha rfl, rfl, hS22.kb⟩
                · skip
                  refine WC.skip (thenQ.n ?_)
                  refine WC.seq ?_
                  refine WC.region ?_
                  have hfa_ := FW_sz a 20
                  refine WL.lv rfl (LV.mv rfl) ?_
                  refine WL.lv rfl (LV.asg rfl) ?_
                  refine WL.nil (thenQ.n ?_)
                  iterate 2 refine WC.seq ?_
                  refine WC.region ?_
                  refine WL.lv rfl (LV.asg rfl) ?_
                  refine WL.nil (thenQ.n ?_)
                  refine WC.block ?_
                  refine WC.loop (fun m_ f_ w_ => ∃ (s : ByteArray) (i : Int), (0 ≤ i) ∧ (i ≤ 401) ∧ (RPT s (FW a 20).size c i) ∧ SH w No w_ [] ∧ m_ = ((401 - i).toNat) ∧ Weak (lit [(1, (.string (FW b 20))), (2, (.int .u8 c)), (7, (.string s)), (8, (.int .i64 i))]) f_) _ ⟨(FW a 20), 0, by omega, by omega, (RPT.z _ _), hS1, rfl, Weak.cons rfl <| Weak.cons rfl <| Weak.cons rfl <| Weak.cons rfl <| Weak.nil _⟩ ?_
                  rintro m2 f2 w18 ⟨s, i, ilo, ihi, q1, hL2, rfl, hw2⟩
                  refine WC.weak hw2 ?_
                  clear hw2
                  have hsz_ := q1.1
                  iterate 2 refine WC.seq ?_
                  refine WC.region ?_
                  refine WL.lv rfl (LV.mv rfl) ?_
                  refine WL.lv rfl (LV.ltI rfl rfl) ?_
                  refine WL.nil (thenQ.n ?_)
                  refine WC.condP (p := i < 401) rfl (fun hk => ?_) (fun hk => ?_)
                  · skip
                    refine WC.skip (thenQ.n ?_)
                    refine WC.seq ?_
                    refine WC.block ?_
                    refine WC.region ?_
                    iterate 2 refine WL.lv rfl (LV.mv rfl) ?_
                    refine WL.xe rfl (XE.buildSlice (E := eU8) [(0, (.int .u8 c))] #[(.int .u8 c)] [c] hL2 Try.underlying33 ti5 rfl (by decide) (by kernel_rfl) (.inr rfl) rfl rfl (by decide)) ?_
                    rintro _ w19 ⟨b2, rfl, hS23, hk13⟩
                    refine WL.lv rfl (LV.strOf Try.underlying33 Try.underlying5 Try.underlying9 rfl ((SH.rd hS23 (.head _)) _ (KB.refl No _))) ?_
                    refine WL.lv rfl (LV.addS rfl rfl (by have h_ := strOf_sz c; omega)) ?_
                    refine WL.lv rfl (LV.asg rfl) ?_
                    refine WL.nil (blockQ.n <| thenQ.n ?_)
                    refine WC.region ?_
                    refine WL.lv rfl (LV.mv rfl) ?_
                    refine WL.lv rfl (LV.add rfl rfl (wr64 (by omega) (by omega))) ?_
                    refine WL.lv rfl (LV.asg rfl) ?_
                    refine WL.nil (thenQ.n ?_)
                    have hS24 : SH w No w19 [] := (SH.take 0 rfl hS23)
                    exact ⟨_, by omega, s ++ (strOfNums [c]), i + 1, by omega, by omega, (q1.step (strOf1 hc0 hc1)), hS24, rfl, Weak.cons rfl <| Weak.cons rfl <| Weak.cons rfl <| Weak.cons rfl <| Weak.nil _⟩
                  · skip
                    refine WC.exit (thenQ.x <| thenQ.x <| blockQ.hit <| thenQ.n ?_)
                    refine WC.seq ?_
                    refine WC.region ?_
                    refine WL.lv rfl (LV.mv rfl) ?_
                    have hkd_ := kd_is c
                    have hlg_ : (TOK s).length > 400 := q1.long (by omega) (by omega)
                    have hss_ := q1.1
                    have hfb_ := FW_sz b 20
                    have hlen_ : (EDT s (FW b 20)).length = 0 ∧ (EDT (FW b 20) s).length = 0 := by rw [edt_long (.inl hlg_), edt_long (.inr hlg_)]; exact ⟨rfl, rfl⟩
                    iterate 2 refine WL.lv rfl (LV.addS rfl rfl (by first | omega | (simp only [ByteArray.size_append, ByteArray.size_extract, lit1, lit2, lit0]; omega))) ?_
                    refine WL.lv rfl (LV.asg rfl) ?_
                    refine WL.nil (thenQ.n ?_)
                    iterate 2 refine WC.seq ?_
                    refine WC.region ?_
                    refine WL.lv rfl (LV.mv rfl) ?_
                    refine WL.lv rfl (LV.lenS Try.underlying9 rfl) ?_
                    refine WL.lv rfl (LV.gtI rfl rfl) ?_
                    refine WL.nil (thenQ.n ?_)
                    refine WC.condP (p := ((FW b 20).size : Int) > 0) rfl (fun h70 => ?_) (fun h70 => ?_)
                    · skip
                      refine WC.region ?_
                      refine WL.lv rfl (LV.mv rfl) ?_
                      refine WL.lv rfl (LV.addS rfl rfl (by first | omega | (simp only [ByteArray.size_append, ByteArray.size_extract, lit1, lit2, lit0]; omega))) ?_
                      refine WL.lv rfl (LV.mv rfl) ?_
                      iterate 2 refine WL.lv rfl (LV.addS rfl rfl (by first | omega | (simp only [ByteArray.size_append, ByteArray.size_extract, lit1, lit2, lit0]; omega))) ?_
                      refine WL.lv rfl (LV.asg rfl) ?_
                      refine WL.nil (thenQ.n ?_)
                      refine WC.seq ?_
                      refine WC.region ?_
                      refine WL.call rfl (XC.fn Try.func8 (by kernel_rfl) rfl rfl rfl) (live28_calls  ) ?_
                      rintro v_ w20 ⟨rfl, hk14⟩
                      have hS25 := SH.same hL2 hk14
                      iterate 3 refine WL.lv rfl (LV.mv rfl) ?_
                      refine WL.call rfl (XC.fn Try.func15 (by kernel_rfl) rfl rfl rfl) (edits_calls (a := s) (b := (FW b 20)) (by omega) (by omega)) ?_
                      rintro v_ w21 ⟨A5, c5, rfl, hS26⟩
                      have hS27 := SH.joinN hS25 hS26
                      refine WL.lv rfl (LV.lenL Try.underlying29 rfl) ?_
                      iterate 2 refine WL.lv rfl (LV.mv rfl) ?_
                      refine WL.call rfl (XC.fn Try.func15 (by kernel_rfl) rfl rfl rfl) (edits_calls (a := (FW b 20)) (b := s) (by omega) (by omega)) ?_
                      rintro v_ w22 ⟨A6, c6, rfl, hS28⟩
                      have hS29 := SH.joinN hS27 hS28
                      refine WL.lv rfl (LV.lenL Try.underlying29 rfl) ?_
                      refine WL.lv rfl (LV.add rfl rfl (wr64 (by omega) (by omega))) ?_
                      refine WL.lv rfl (LV.as (LV.eqI rfl rfl) (decide_eq_true (by omega))) ?_
                      refine WL.lv rfl (LV.pickT rfl rfl) ?_
                      iterate 3 refine WL.lv rfl (LV.mv rfl) ?_
                      refine WL.call rfl (XC.fn Try.func17 (by kernel_rfl) rfl rfl rfl) (marked_calls (a := s) (b := (FW b 20)) (by omega) (by omega)) ?_
                      rintro v_ w23 ⟨rfl, hk15⟩
                      have hS30 := SH.same hS29 hk15
                      refine WL.lv rfl (LV.mv rfl) ?_
                      refine WL.lv rfl (LV.as (LV.eqSP (a := (MARK s (FW b 20))) (b := (((((⟨#[91, 45]⟩ ++ s) ++ ⟨#[45, 93]⟩) ++ ⟨#[123, 43]⟩) ++ (FW b 20)) ++ ⟨#[43, 125]⟩)) rfl rfl) (decide_eq_true (by rw [mark_long (.inl hlg_), whl_11 (by omega) h70]))) ?_
                      refine WL.lv rfl (LV.pickT rfl rfl) ?_
                      refine WL.lv rfl (LV.asg rfl) ?_
                      refine WL.nil (thenQ.n ?_)
                      refine WC.ret (?_)
                      exact ⟨_, fun a ha => res1 rfl ha rfl, rfl, hS30.kb⟩
                    · skip
                      refine WC.skip (thenQ.n ?_)
                      refine WC.seq ?_
                      refine WC.region ?_
                      refine WL.call rfl (XC.fn Try.func8 (by kernel_rfl) rfl rfl rfl) (live28_calls  ) ?_
                      rintro v_ w24 ⟨rfl, hk16⟩
                      have hS31 := SH.same hL2 hk16
                      iterate 3 refine WL.lv rfl (LV.mv rfl) ?_
                      refine WL.call rfl (XC.fn Try.func15 (by kernel_rfl) rfl rfl rfl) (edits_calls (a := s) (b := (FW b 20)) (by omega) (by omega)) ?_
                      rintro v_ w25 ⟨A7, c7, rfl, hS32⟩
                      have hS33 := SH.joinN hS31 hS32
                      refine WL.lv rfl (LV.lenL Try.underlying29 rfl) ?_
                      iterate 2 refine WL.lv rfl (LV.mv rfl) ?_
                      refine WL.call rfl (XC.fn Try.func15 (by kernel_rfl) rfl rfl rfl) (edits_calls (a := (FW b 20)) (b := s) (by omega) (by omega)) ?_
                      rintro v_ w26 ⟨A8, c8, rfl, hS34⟩
                      have hS35 := SH.joinN hS33 hS34
                      refine WL.lv rfl (LV.lenL Try.underlying29 rfl) ?_
                      refine WL.lv rfl (LV.add rfl rfl (wr64 (by omega) (by omega))) ?_
                      refine WL.lv rfl (LV.as (LV.eqI rfl rfl) (decide_eq_true (by omega))) ?_
                      refine WL.lv rfl (LV.pickT rfl rfl) ?_
                      iterate 3 refine WL.lv rfl (LV.mv rfl) ?_
                      refine WL.call rfl (XC.fn Try.func17 (by kernel_rfl) rfl rfl rfl) (marked_calls (a := s) (b := (FW b 20)) (by omega) (by omega)) ?_
                      rintro v_ w27 ⟨rfl, hk17⟩
                      have hS36 := SH.same hS35 hk17
                      refine WL.lv rfl (LV.mv rfl) ?_
                      refine WL.lv rfl (LV.as (LV.eqSP (a := (MARK s (FW b 20))) (b := ((⟨#[91, 45]⟩ ++ s) ++ ⟨#[45, 93]⟩)) rfl rfl) (decide_eq_true (by rw [mark_long (.inl hlg_), whl_10 (by omega) h70]))) ?_
                      refine WL.lv rfl (LV.pickT rfl rfl) ?_
                      refine WL.lv rfl (LV.asg rfl) ?_
                      refine WL.nil (thenQ.n ?_)
                      refine WC.ret (?_)
                      exact ⟨_, fun a ha => res1 rfl ha rfl, rfl, hS36.kb⟩
        · refine WL.lv rfl (LV.as (LV.geI rfl rfl) (decide_eq_false hg4)) ?_
          refine WL.lv rfl (LV.mv rfl) ?_
          iterate 2 refine WL.off rfl ?_
          iterate 2 refine WL.lv rfl (LV.pickF rfl rfl) ?_
          iterate 2 refine WL.lv rfl (LV.mv rfl) ?_
          rcases Decidable.em (c = 95) with hg9 | hg9
          · refine WL.lv rfl (LV.as (LV.eqI rfl rfl) (decide_eq_true hg9)) ?_
            refine WL.lv rfl (LV.pickF rfl rfl) ?_
            refine WL.lv rfl (LV.mv rfl) ?_
            iterate 6 refine WL.off rfl ?_
            refine WL.lv rfl (LV.pickT rfl rfl) ?_
            refine WL.lv rfl (LV.mv rfl) ?_
            iterate 2 refine WL.off rfl ?_
            refine WL.lv rfl (LV.pickT rfl rfl) ?_
            refine WL.nil (thenQ.n ?_)
            refine WC.condT rfl ?_
            refine WC.seq ?_
            refine WC.region ?_
            refine WL.call rfl (XC.fn Try.func8 (by kernel_rfl) rfl rfl rfl) (live28_calls  ) ?_
            rintro v_ w28 ⟨rfl, hk18⟩
            have hS37 := SH.same hS1 hk18
            refine WL.lv rfl (LV.asg rfl) ?_
            refine WL.nil (thenQ.n ?_)
            refine WC.ret (thenQ.r <| ?_)
            exact ⟨_, fun a ha => res1 rfl ha rfl, rfl, hS37.kb⟩
          · refine WL.lv rfl (LV.as (LV.eqI rfl rfl) (decide_eq_false hg9)) ?_
            refine WL.lv rfl (LV.pickF rfl rfl) ?_
            iterate 2 refine WL.lv rfl (LV.mv rfl) ?_
            rcases Decidable.em (c ≥ 97) with hg10 | hg10
            · refine WL.lv rfl (LV.as (LV.geI rfl rfl) (decide_eq_true hg10)) ?_
              iterate 2 refine WL.lv rfl (LV.mv rfl) ?_
              rcases Decidable.em (c ≤ 122) with hg11 | hg11
              · refine WL.lv rfl (LV.as (LV.leI rfl rfl) (decide_eq_true hg11)) ?_
                refine WL.lv rfl (LV.pickT rfl rfl) ?_
                refine WL.lv rfl (LV.pickF rfl rfl) ?_
                refine WL.lv rfl (LV.mv rfl) ?_
                iterate 2 refine WL.off rfl ?_
                refine WL.lv rfl (LV.pickT rfl rfl) ?_
                refine WL.nil (thenQ.n ?_)
                refine WC.condT rfl ?_
                refine WC.seq ?_
                refine WC.region ?_
                refine WL.call rfl (XC.fn Try.func8 (by kernel_rfl) rfl rfl rfl) (live28_calls  ) ?_
                rintro v_ w29 ⟨rfl, hk19⟩
                have hS38 := SH.same hS1 hk19
                refine WL.lv rfl (LV.asg rfl) ?_
                refine WL.nil (thenQ.n ?_)
                refine WC.ret (thenQ.r <| ?_)
                exact ⟨_, fun a ha => res1 rfl ha rfl, rfl, hS38.kb⟩
              · refine WL.lv rfl (LV.as (LV.leI rfl rfl) (decide_eq_false hg11)) ?_
                refine WL.lv rfl (LV.pickT rfl rfl) ?_
                refine WL.lv rfl (LV.pickF rfl rfl) ?_
                iterate 2 refine WL.lv rfl (LV.mv rfl) ?_
                refine WL.lv rfl (LV.eqI rfl rfl) ?_
                refine WL.lv rfl (LV.pickF rfl rfl) ?_
                refine WL.nil (thenQ.n ?_)
                refine WC.condP (p := c = 9) rfl (fun hcls => ?_) (fun hcls => ?_)
                · skip
                  refine WC.seq ?_
                  refine WC.region ?_
                  refine WL.call rfl (XC.fn Try.func8 (by kernel_rfl) rfl rfl rfl) (live28_calls  ) ?_
                  rintro v_ w30 ⟨rfl, hk20⟩
                  have hS39 := SH.same hS1 hk20
                  refine WL.lv rfl (LV.asg rfl) ?_
                  refine WL.nil (thenQ.n ?_)
                  refine WC.ret (thenQ.r <| ?_)
                  exact ⟨_, fun a ha => res1 rfl ha rfl, rfl, hS39.kb⟩
                · skip
                  refine WC.skip (thenQ.n ?_)
                  refine WC.seq ?_
                  refine WC.region ?_
                  have hfa_ := FW_sz a 20
                  refine WL.lv rfl (LV.mv rfl) ?_
                  refine WL.lv rfl (LV.asg rfl) ?_
                  refine WL.nil (thenQ.n ?_)
                  iterate 2 refine WC.seq ?_
                  refine WC.region ?_
                  refine WL.lv rfl (LV.asg rfl) ?_
                  refine WL.nil (thenQ.n ?_)
                  refine WC.block ?_
                  refine WC.loop (fun m_ f_ w_ => ∃ (s : ByteArray) (i : Int), (0 ≤ i) ∧ (i ≤ 401) ∧ (RPT s (FW a 20).size c i) ∧ SH w No w_ [] ∧ m_ = ((401 - i).toNat) ∧ Weak (lit [(1, (.string (FW b 20))), (2, (.int .u8 c)), (7, (.string s)), (8, (.int .i64 i))]) f_) _ ⟨(FW a 20), 0, by omega, by omega, (RPT.z _ _), hS1, rfl, Weak.cons rfl <| Weak.cons rfl <| Weak.cons rfl <| Weak.cons rfl <| Weak.nil _⟩ ?_
                  rintro m3 f3 w31 ⟨s, i, ilo, ihi, q1, hL3, rfl, hw3⟩
                  refine WC.weak hw3 ?_
                  clear hw3
                  have hsz_ := q1.1
                  iterate 2 refine WC.seq ?_
                  refine WC.region ?_
                  refine WL.lv rfl (LV.mv rfl) ?_
                  refine WL.lv rfl (LV.ltI rfl rfl) ?_
                  refine WL.nil (thenQ.n ?_)
                  refine WC.condP (p := i < 401) rfl (fun hk => ?_) (fun hk => ?_)
                  · skip
                    refine WC.skip (thenQ.n ?_)
                    refine WC.seq ?_
                    refine WC.block ?_
                    refine WC.region ?_
                    iterate 2 refine WL.lv rfl (LV.mv rfl) ?_
                    refine WL.xe rfl (XE.buildSlice (E := eU8) [(0, (.int .u8 c))] #[(.int .u8 c)] [c] hL3 Try.underlying33 ti5 rfl (by decide) (by kernel_rfl) (.inr rfl) rfl rfl (by decide)) ?_
                    rintro _ w32 ⟨b3, rfl, hS40, hk21⟩
                    refine WL.lv rfl (LV.strOf Try.underlying33 Try.underlying5 Try.underlying9 rfl ((SH.rd hS40 (.head _)) _ (KB.refl No _))) ?_
                    refine WL.lv rfl (LV.addS rfl rfl (by have h_ := strOf_sz c; omega)) ?_
                    refine WL.lv rfl (LV.asg rfl) ?_
                    refine WL.nil (blockQ.n <| thenQ.n ?_)
                    refine WC.region ?_
                    refine WL.lv rfl (LV.mv rfl) ?_
                    refine WL.lv rfl (LV.add rfl rfl (wr64 (by omega) (by omega))) ?_
                    refine WL.lv rfl (LV.asg rfl) ?_
                    refine WL.nil (thenQ.n ?_)
                    have hS41 : SH w No w32 [] := (SH.take 0 rfl hS40)
                    exact ⟨_, by omega, s ++ (strOfNums [c]), i + 1, by omega, by omega, (q1.step (strOf1 hc0 hc1)), hS41, rfl, Weak.cons rfl <| Weak.cons rfl <| Weak.cons rfl <| Weak.cons rfl <| Weak.nil _⟩
                  · skip
                    refine WC.exit (thenQ.x <| thenQ.x <| blockQ.hit <| thenQ.n ?_)
                    refine WC.seq ?_
                    refine WC.region ?_
                    refine WL.lv rfl (LV.mv rfl) ?_
                    have hkd_ := kd_is c
                    have hlg_ : (TOK s).length > 400 := q1.long (by omega) (by omega)
                    have hss_ := q1.1
                    have hfb_ := FW_sz b 20
                    have hlen_ : (EDT s (FW b 20)).length = 0 ∧ (EDT (FW b 20) s).length = 0 := by rw [edt_long (.inl hlg_), edt_long (.inr hlg_)]; exact ⟨rfl, rfl⟩
                    iterate 2 refine WL.lv rfl (LV.addS rfl rfl (by first | omega | (simp only [ByteArray.size_append, ByteArray.size_extract, lit1, lit2, lit0]; omega))) ?_
                    refine WL.lv rfl (LV.asg rfl) ?_
                    refine WL.nil (thenQ.n ?_)
                    iterate 2 refine WC.seq ?_
                    refine WC.region ?_
                    refine WL.lv rfl (LV.mv rfl) ?_
                    refine WL.lv rfl (LV.lenS Try.underlying9 rfl) ?_
                    refine WL.lv rfl (LV.gtI rfl rfl) ?_
                    refine WL.nil (thenQ.n ?_)
                    refine WC.condP (p := ((FW b 20).size : Int) > 0) rfl (fun h70 => ?_) (fun h70 => ?_)
                    · skip
                      refine WC.region ?_
                      refine WL.lv rfl (LV.mv rfl) ?_
                      refine WL.lv rfl (LV.addS rfl rfl (by first | omega | (simp only [ByteArray.size_append, ByteArray.size_extract, lit1, lit2, lit0]; omega))) ?_
                      refine WL.lv rfl (LV.mv rfl) ?_
                      iterate 2 refine WL.lv rfl (LV.addS rfl rfl (by first | omega | (simp only [ByteArray.size_append, ByteArray.size_extract, lit1, lit2, lit0]; omega))) ?_
                      refine WL.lv rfl (LV.asg rfl) ?_
                      refine WL.nil (thenQ.n ?_)
                      refine WC.seq ?_
                      refine WC.region ?_
                      refine WL.call rfl (XC.fn Try.func8 (by kernel_rfl) rfl rfl rfl) (live28_calls  ) ?_
                      rintro v_ w33 ⟨rfl, hk22⟩
                      have hS42 := SH.same hL3 hk22
                      iterate 3 refine WL.lv rfl (LV.mv rfl) ?_
                      refine WL.call rfl (XC.fn Try.func15 (by kernel_rfl) rfl rfl rfl) (edits_calls (a := s) (b := (FW b 20)) (by omega) (by omega)) ?_
                      rintro v_ w34 ⟨A9, c9, rfl, hS43⟩
                      have hS44 := SH.joinN hS42 hS43
                      refine WL.lv rfl (LV.lenL Try.underlying29 rfl) ?_
                      iterate 2 refine WL.lv rfl (LV.mv rfl) ?_
                      refine WL.call rfl (XC.fn Try.func15 (by kernel_rfl) rfl rfl rfl) (edits_calls (a := (FW b 20)) (b := s) (by omega) (by omega)) ?_
                      rintro v_ w35 ⟨A10, c10, rfl, hS45⟩
                      have hS46 := SH.joinN hS44 hS45
                      refine WL.lv rfl (LV.lenL Try.underlying29 rfl) ?_
                      refine WL.lv rfl (LV.add rfl rfl (wr64 (by omega) (by omega))) ?_
                      refine WL.lv rfl (LV.as (LV.eqI rfl rfl) (decide_eq_true (by omega))) ?_
                      refine WL.lv rfl (LV.pickT rfl rfl) ?_
                      iterate 3 refine WL.lv rfl (LV.mv rfl) ?_
                      refine WL.call rfl (XC.fn Try.func17 (by kernel_rfl) rfl rfl rfl) (marked_calls (a := s) (b := (FW b 20)) (by omega) (by omega)) ?_
                      rintro v_ w36 ⟨rfl, hk23⟩
                      have hS47 := SH.same hS46 hk23
                      refine WL.lv rfl (LV.mv rfl) ?_
                      refine WL.lv rfl (LV.as (LV.eqSP (a := (MARK s (FW b 20))) (b := (((((⟨#[91, 45]⟩ ++ s) ++ ⟨#[45, 93]⟩) ++ ⟨#[123, 43]⟩) ++ (FW b 20)) ++ ⟨#[43, 125]⟩)) rfl rfl) (decide_eq_true (by rw [mark_long (.inl hlg_), whl_11 (by omega) h70]))) ?_
                      refine WL.lv rfl (LV.pickT rfl rfl) ?_
                      refine WL.lv rfl (LV.asg rfl) ?_
                      refine WL.nil (thenQ.n ?_)
                      refine WC.ret (?_)
                      exact ⟨_, fun a ha => res1 rfl ha rfl, rfl, hS47.kb⟩
                    · skip
                      refine WC.skip (thenQ.n ?_)
                      refine WC.seq ?_
                      refine WC.region ?_
                      refine WL.call rfl (XC.fn Try.func8 (by kernel_rfl) rfl rfl rfl) (live28_calls  ) ?_
                      rintro v_ w37 ⟨rfl, hk24⟩
                      have hS48 := SH.same hL3 hk24
                      iterate 3 refine WL.lv rfl (LV.mv rfl) ?_
                      refine WL.call rfl (XC.fn Try.func15 (by kernel_rfl) rfl rfl rfl) (edits_calls (a := s) (b := (FW b 20)) (by omega) (by omega)) ?_
                      rintro v_ w38 ⟨A11, c11, rfl, hS49⟩
                      have hS50 := SH.joinN hS48 hS49
                      refine WL.lv rfl (LV.lenL Try.underlying29 rfl) ?_
                      iterate 2 refine WL.lv rfl (LV.mv rfl) ?_
                      refine WL.call rfl (XC.fn Try.func15 (by kernel_rfl) rfl rfl rfl) (edits_calls (a := (FW b 20)) (b := s) (by omega) (by omega)) ?_
                      rintro v_ w39 ⟨A12, c12, rfl, hS51⟩
                      have hS52 := SH.joinN hS50 hS51
                      refine WL.lv rfl (LV.lenL Try.underlying29 rfl) ?_
                      refine WL.lv rfl (LV.add rfl rfl (wr64 (by omega) (by omega))) ?_
                      refine WL.lv rfl (LV.as (LV.eqI rfl rfl) (decide_eq_true (by omega))) ?_
                      refine WL.lv rfl (LV.pickT rfl rfl) ?_
                      iterate 3 refine WL.lv rfl (LV.mv rfl) ?_
                      refine WL.call rfl (XC.fn Try.func17 (by kernel_rfl) rfl rfl rfl) (marked_calls (a := s) (b := (FW b 20)) (by omega) (by omega)) ?_
                      rintro v_ w40 ⟨rfl, hk25⟩
                      have hS53 := SH.same hS52 hk25
                      refine WL.lv rfl (LV.mv rfl) ?_
                      refine WL.lv rfl (LV.as (LV.eqSP (a := (MARK s (FW b 20))) (b := ((⟨#[91, 45]⟩ ++ s) ++ ⟨#[45, 93]⟩)) rfl rfl) (decide_eq_true (by rw [mark_long (.inl hlg_), whl_10 (by omega) h70]))) ?_
                      refine WL.lv rfl (LV.pickT rfl rfl) ?_
                      refine WL.lv rfl (LV.asg rfl) ?_
                      refine WL.nil (thenQ.n ?_)
                      refine WC.ret (?_)
                      exact ⟨_, fun a ha => res1 rfl ha rfl, rfl, hS53.kb⟩
            · refine WL.lv rfl (LV.as (LV.geI rfl rfl) (decide_eq_false hg10)) ?_
              refine WL.lv rfl (LV.mv rfl) ?_
              iterate 2 refine WL.off rfl ?_
              iterate 2 refine WL.lv rfl (LV.pickF rfl rfl) ?_
              iterate 2 refine WL.lv rfl (LV.mv rfl) ?_
              refine WL.lv rfl (LV.eqI rfl rfl) ?_
              refine WL.lv rfl (LV.pickF rfl rfl) ?_
              refine WL.nil (thenQ.n ?_)
              refine WC.condP (p := c = 9) rfl (fun hcls => ?_) (fun hcls => ?_)
              · skip
                refine WC.seq ?_
                refine WC.region ?_
                refine WL.call rfl (XC.fn Try.func8 (by kernel_rfl) rfl rfl rfl) (live28_calls  ) ?_
                rintro v_ w41 ⟨rfl, hk26⟩
                have hS54 := SH.same hS1 hk26
                refine WL.lv rfl (LV.asg rfl) ?_
                refine WL.nil (thenQ.n ?_)
                refine WC.ret (thenQ.r <| ?_)
                exact ⟨_, fun a ha => res1 rfl ha rfl, rfl, hS54.kb⟩
              · skip
                refine WC.skip (thenQ.n ?_)
                refine WC.seq ?_
                refine WC.region ?_
                have hfa_ := FW_sz a 20
                refine WL.lv rfl (LV.mv rfl) ?_
                refine WL.lv rfl (LV.asg rfl) ?_
                refine WL.nil (thenQ.n ?_)
                iterate 2 refine WC.seq ?_
                refine WC.region ?_
                refine WL.lv rfl (LV.asg rfl) ?_
                refine WL.nil (thenQ.n ?_)
                refine WC.block ?_
                refine WC.loop (fun m_ f_ w_ => ∃ (s : ByteArray) (i : Int), (0 ≤ i) ∧ (i ≤ 401) ∧ (RPT s (FW a 20).size c i) ∧ SH w No w_ [] ∧ m_ = ((401 - i).toNat) ∧ Weak (lit [(1, (.string (FW b 20))), (2, (.int .u8 c)), (7, (.string s)), (8, (.int .i64 i))]) f_) _ ⟨(FW a 20), 0, by omega, by omega, (RPT.z _ _), hS1, rfl, Weak.cons rfl <| Weak.cons rfl <| Weak.cons rfl <| Weak.cons rfl <| Weak.nil _⟩ ?_
                rintro m4 f4 w42 ⟨s, i, ilo, ihi, q1, hL4, rfl, hw4⟩
                refine WC.weak hw4 ?_
                clear hw4
                have hsz_ := q1.1
                iterate 2 refine WC.seq ?_
                refine WC.region ?_
                refine WL.lv rfl (LV.mv rfl) ?_
                refine WL.lv rfl (LV.ltI rfl rfl) ?_
                refine WL.nil (thenQ.n ?_)
                refine WC.condP (p := i < 401) rfl (fun hk => ?_) (fun hk => ?_)
                · skip
                  refine WC.skip (thenQ.n ?_)
                  refine WC.seq ?_
                  refine WC.block ?_
                  refine WC.region ?_
                  iterate 2 refine WL.lv rfl (LV.mv rfl) ?_
                  refine WL.xe rfl (XE.buildSlice (E := eU8) [(0, (.int .u8 c))] #[(.int .u8 c)] [c] hL4 Try.underlying33 ti5 rfl (by decide) (by kernel_rfl) (.inr rfl) rfl rfl (by decide)) ?_
                  rintro _ w43 ⟨b4, rfl, hS55, hk27⟩
                  refine WL.lv rfl (LV.strOf Try.underlying33 Try.underlying5 Try.underlying9 rfl ((SH.rd hS55 (.head _)) _ (KB.refl No _))) ?_
                  refine WL.lv rfl (LV.addS rfl rfl (by have h_ := strOf_sz c; omega)) ?_
                  refine WL.lv rfl (LV.asg rfl) ?_
                  refine WL.nil (blockQ.n <| thenQ.n ?_)
                  refine WC.region ?_
                  refine WL.lv rfl (LV.mv rfl) ?_
                  refine WL.lv rfl (LV.add rfl rfl (wr64 (by omega) (by omega))) ?_
                  refine WL.lv rfl (LV.asg rfl) ?_
                  refine WL.nil (thenQ.n ?_)
                  have hS56 : SH w No w43 [] := (SH.take 0 rfl hS55)
                  exact ⟨_, by omega, s ++ (strOfNums [c]), i + 1, by omega, by omega, (q1.step (strOf1 hc0 hc1)), hS56, rfl, Weak.cons rfl <| Weak.cons rfl <| Weak.cons rfl <| Weak.cons rfl <| Weak.nil _⟩
                · skip
                  refine WC.exit (thenQ.x <| thenQ.x <| blockQ.hit <| thenQ.n ?_)
                  refine WC.seq ?_
                  refine WC.region ?_
                  refine WL.lv rfl (LV.mv rfl) ?_
                  have hkd_ := kd_is c
                  have hlg_ : (TOK s).length > 400 := q1.long (by omega) (by omega)
                  have hss_ := q1.1
                  have hfb_ := FW_sz b 20
                  have hlen_ : (EDT s (FW b 20)).length = 0 ∧ (EDT (FW b 20) s).length = 0 := by rw [edt_long (.inl hlg_), edt_long (.inr hlg_)]; exact ⟨rfl, rfl⟩
                  iterate 2 refine WL.lv rfl (LV.addS rfl rfl (by first | omega | (simp only [ByteArray.size_append, ByteArray.size_extract, lit1, lit2, lit0]; omega))) ?_
                  refine WL.lv rfl (LV.asg rfl) ?_
                  refine WL.nil (thenQ.n ?_)
                  iterate 2 refine WC.seq ?_
                  refine WC.region ?_
                  refine WL.lv rfl (LV.mv rfl) ?_
                  refine WL.lv rfl (LV.lenS Try.underlying9 rfl) ?_
                  refine WL.lv rfl (LV.gtI rfl rfl) ?_
                  refine WL.nil (thenQ.n ?_)
                  refine WC.condP (p := ((FW b 20).size : Int) > 0) rfl (fun h70 => ?_) (fun h70 => ?_)
                  · skip
                    refine WC.region ?_
                    refine WL.lv rfl (LV.mv rfl) ?_
                    refine WL.lv rfl (LV.addS rfl rfl (by first | omega | (simp only [ByteArray.size_append, ByteArray.size_extract, lit1, lit2, lit0]; omega))) ?_
                    refine WL.lv rfl (LV.mv rfl) ?_
                    iterate 2 refine WL.lv rfl (LV.addS rfl rfl (by first | omega | (simp only [ByteArray.size_append, ByteArray.size_extract, lit1, lit2, lit0]; omega))) ?_
                    refine WL.lv rfl (LV.asg rfl) ?_
                    refine WL.nil (thenQ.n ?_)
                    refine WC.seq ?_
                    refine WC.region ?_
                    refine WL.call rfl (XC.fn Try.func8 (by kernel_rfl) rfl rfl rfl) (live28_calls  ) ?_
                    rintro v_ w44 ⟨rfl, hk28⟩
                    have hS57 := SH.same hL4 hk28
                    iterate 3 refine WL.lv rfl (LV.mv rfl) ?_
                    refine WL.call rfl (XC.fn Try.func15 (by kernel_rfl) rfl rfl rfl) (edits_calls (a := s) (b := (FW b 20)) (by omega) (by omega)) ?_
                    rintro v_ w45 ⟨A13, c13, rfl, hS58⟩
                    have hS59 := SH.joinN hS57 hS58
                    refine WL.lv rfl (LV.lenL Try.underlying29 rfl) ?_
                    iterate 2 refine WL.lv rfl (LV.mv rfl) ?_
                    refine WL.call rfl (XC.fn Try.func15 (by kernel_rfl) rfl rfl rfl) (edits_calls (a := (FW b 20)) (b := s) (by omega) (by omega)) ?_
                    rintro v_ w46 ⟨A14, c14, rfl, hS60⟩
                    have hS61 := SH.joinN hS59 hS60
                    refine WL.lv rfl (LV.lenL Try.underlying29 rfl) ?_
                    refine WL.lv rfl (LV.add rfl rfl (wr64 (by omega) (by omega))) ?_
                    refine WL.lv rfl (LV.as (LV.eqI rfl rfl) (decide_eq_true (by omega))) ?_
                    refine WL.lv rfl (LV.pickT rfl rfl) ?_
                    iterate 3 refine WL.lv rfl (LV.mv rfl) ?_
                    refine WL.call rfl (XC.fn Try.func17 (by kernel_rfl) rfl rfl rfl) (marked_calls (a := s) (b := (FW b 20)) (by omega) (by omega)) ?_
                    rintro v_ w47 ⟨rfl, hk29⟩
                    have hS62 := SH.same hS61 hk29
                    refine WL.lv rfl (LV.mv rfl) ?_
                    refine WL.lv rfl (LV.as (LV.eqSP (a := (MARK s (FW b 20))) (b := (((((⟨#[91, 45]⟩ ++ s) ++ ⟨#[45, 93]⟩) ++ ⟨#[123, 43]⟩) ++ (FW b 20)) ++ ⟨#[43, 125]⟩)) rfl rfl) (decide_eq_true (by rw [mark_long (.inl hlg_), whl_11 (by omega) h70]))) ?_
                    refine WL.lv rfl (LV.pickT rfl rfl) ?_
                    refine WL.lv rfl (LV.asg rfl) ?_
                    refine WL.nil (thenQ.n ?_)
                    refine WC.ret (?_)
                    exact ⟨_, fun a ha => res1 rfl ha rfl, rfl, hS62.kb⟩
                  · skip
                    refine WC.skip (thenQ.n ?_)
                    refine WC.seq ?_
                    refine WC.region ?_
                    refine WL.call rfl (XC.fn Try.func8 (by kernel_rfl) rfl rfl rfl) (live28_calls  ) ?_
                    rintro v_ w48 ⟨rfl, hk30⟩
                    have hS63 := SH.same hL4 hk30
                    iterate 3 refine WL.lv rfl (LV.mv rfl) ?_
                    refine WL.call rfl (XC.fn Try.func15 (by kernel_rfl) rfl rfl rfl) (edits_calls (a := s) (b := (FW b 20)) (by omega) (by omega)) ?_
                    rintro v_ w49 ⟨A15, c15, rfl, hS64⟩
                    have hS65 := SH.joinN hS63 hS64
                    refine WL.lv rfl (LV.lenL Try.underlying29 rfl) ?_
                    iterate 2 refine WL.lv rfl (LV.mv rfl) ?_
                    refine WL.call rfl (XC.fn Try.func15 (by kernel_rfl) rfl rfl rfl) (edits_calls (a := (FW b 20)) (b := s) (by omega) (by omega)) ?_
                    rintro v_ w50 ⟨A16, c16, rfl, hS66⟩
                    have hS67 := SH.joinN hS65 hS66
                    refine WL.lv rfl (LV.lenL Try.underlying29 rfl) ?_
                    refine WL.lv rfl (LV.add rfl rfl (wr64 (by omega) (by omega))) ?_
                    refine WL.lv rfl (LV.as (LV.eqI rfl rfl) (decide_eq_true (by omega))) ?_
                    refine WL.lv rfl (LV.pickT rfl rfl) ?_
                    iterate 3 refine WL.lv rfl (LV.mv rfl) ?_
                    refine WL.call rfl (XC.fn Try.func17 (by kernel_rfl) rfl rfl rfl) (marked_calls (a := s) (b := (FW b 20)) (by omega) (by omega)) ?_
                    rintro v_ w51 ⟨rfl, hk31⟩
                    have hS68 := SH.same hS67 hk31
                    refine WL.lv rfl (LV.mv rfl) ?_
                    refine WL.lv rfl (LV.as (LV.eqSP (a := (MARK s (FW b 20))) (b := ((⟨#[91, 45]⟩ ++ s) ++ ⟨#[45, 93]⟩)) rfl rfl) (decide_eq_true (by rw [mark_long (.inl hlg_), whl_10 (by omega) h70]))) ?_
                    refine WL.lv rfl (LV.pickT rfl rfl) ?_
                    refine WL.lv rfl (LV.asg rfl) ?_
                    refine WL.nil (thenQ.n ?_)
                    refine WC.ret (?_)
                    exact ⟨_, fun a ha => res1 rfl ha rfl, rfl, hS68.kb⟩
    · refine WL.lv rfl (LV.as (LV.geI rfl rfl) (decide_eq_false hg2)) ?_
      refine WL.lv rfl (LV.mv rfl) ?_
      iterate 2 refine WL.off rfl ?_
      iterate 2 refine WL.lv rfl (LV.pickF rfl rfl) ?_
      iterate 2 refine WL.lv rfl (LV.mv rfl) ?_
      rcases Decidable.em (c ≥ 65) with hg12 | hg12
      · refine WL.lv rfl (LV.as (LV.geI rfl rfl) (decide_eq_true hg12)) ?_
        iterate 2 refine WL.lv rfl (LV.mv rfl) ?_
        rcases Decidable.em (c ≤ 90) with hg13 | hg13
        · refine WL.lv rfl (LV.as (LV.leI rfl rfl) (decide_eq_true hg13)) ?_
          refine WL.lv rfl (LV.pickT rfl rfl) ?_
          refine WL.lv rfl (LV.pickF rfl rfl) ?_
          refine WL.lv rfl (LV.mv rfl) ?_
          iterate 2 refine WL.off rfl ?_
          refine WL.lv rfl (LV.pickT rfl rfl) ?_
          refine WL.lv rfl (LV.mv rfl) ?_
          iterate 6 refine WL.off rfl ?_
          refine WL.lv rfl (LV.pickT rfl rfl) ?_
          refine WL.lv rfl (LV.mv rfl) ?_
          iterate 2 refine WL.off rfl ?_
          refine WL.lv rfl (LV.pickT rfl rfl) ?_
          refine WL.nil (thenQ.n ?_)
          refine WC.condT rfl ?_
          refine WC.seq ?_
          refine WC.region ?_
          refine WL.call rfl (XC.fn Try.func8 (by kernel_rfl) rfl rfl rfl) (live28_calls  ) ?_
          rintro v_ w52 ⟨rfl, hk32⟩
          have hS69 := SH.same hS1 hk32
          refine WL.lv rfl (LV.asg rfl) ?_
          refine WL.nil (thenQ.n ?_)
          refine WC.ret (thenQ.r <| ?_)
          exact ⟨_, fun a ha => res1 rfl ha rfl, rfl, hS69.kb⟩
        · refine WL.lv rfl (LV.as (LV.leI rfl rfl) (decide_eq_false hg13)) ?_
          refine WL.lv rfl (LV.pickT rfl rfl) ?_
          refine WL.lv rfl (LV.pickF rfl rfl) ?_
          iterate 2 refine WL.lv rfl (LV.mv rfl) ?_
          rcases Decidable.em (c = 95) with hg14 | hg14
          · refine WL.lv rfl (LV.as (LV.eqI rfl rfl) (decide_eq_true hg14)) ?_
            refine WL.lv rfl (LV.pickF rfl rfl) ?_
            refine WL.lv rfl (LV.mv rfl) ?_
            iterate 6 refine WL.off rfl ?_
            refine WL.lv rfl (LV.pickT rfl rfl) ?_
            refine WL.lv rfl (LV.mv rfl) ?_
            iterate 2 refine WL.off rfl ?_
            refine WL.lv rfl (LV.pickT rfl rfl) ?_
            refine WL.nil (thenQ.n ?_)
            refine WC.condT rfl ?_
            refine WC.seq ?_
            refine WC.region ?_
            refine WL.call rfl (XC.fn Try.func8 (by kernel_rfl) rfl rfl rfl) (live28_calls  ) ?_
            rintro v_ w53 ⟨rfl, hk33⟩
            have hS70 := SH.same hS1 hk33
            refine WL.lv rfl (LV.asg rfl) ?_
            refine WL.nil (thenQ.n ?_)
            refine WC.ret (thenQ.r <| ?_)
            exact ⟨_, fun a ha => res1 rfl ha rfl, rfl, hS70.kb⟩
          · refine WL.lv rfl (LV.as (LV.eqI rfl rfl) (decide_eq_false hg14)) ?_
            refine WL.lv rfl (LV.pickF rfl rfl) ?_
            iterate 2 refine WL.lv rfl (LV.mv rfl) ?_
            rcases Decidable.em (c ≥ 97) with hg15 | hg15
            · refine WL.lv rfl (LV.as (LV.geI rfl rfl) (decide_eq_true hg15)) ?_
              iterate 2 refine WL.lv rfl (LV.mv rfl) ?_
              rcases Decidable.em (c ≤ 122) with hg16 | hg16
              · refine WL.lv rfl (LV.as (LV.leI rfl rfl) (decide_eq_true hg16)) ?_
                refine WL.lv rfl (LV.pickT rfl rfl) ?_
                refine WL.lv rfl (LV.pickF rfl rfl) ?_
                refine WL.lv rfl (LV.mv rfl) ?_
                iterate 2 refine WL.off rfl ?_
                refine WL.lv rfl (LV.pickT rfl rfl) ?_
                refine WL.nil (thenQ.n ?_)
                refine WC.condT rfl ?_
                refine WC.seq ?_
                refine WC.region ?_
                refine WL.call rfl (XC.fn Try.func8 (by kernel_rfl) rfl rfl rfl) (live28_calls  ) ?_
                rintro v_ w54 ⟨rfl, hk34⟩
                have hS71 := SH.same hS1 hk34
                refine WL.lv rfl (LV.asg rfl) ?_
                refine WL.nil (thenQ.n ?_)
                refine WC.ret (thenQ.r <| ?_)
                exact ⟨_, fun a ha => res1 rfl ha rfl, rfl, hS71.kb⟩
              · refine WL.lv rfl (LV.as (LV.leI rfl rfl) (decide_eq_false hg16)) ?_
                refine WL.lv rfl (LV.pickT rfl rfl) ?_
                refine WL.lv rfl (LV.pickF rfl rfl) ?_
                iterate 2 refine WL.lv rfl (LV.mv rfl) ?_
                refine WL.lv rfl (LV.eqI rfl rfl) ?_
                refine WL.lv rfl (LV.pickF rfl rfl) ?_
                refine WL.nil (thenQ.n ?_)
                refine WC.condP (p := c = 9) rfl (fun hcls => ?_) (fun hcls => ?_)
                · skip
                  refine WC.seq ?_
                  refine WC.region ?_
                  refine WL.call rfl (XC.fn Try.func8 (by kernel_rfl) rfl rfl rfl) (live28_calls  ) ?_
                  rintro v_ w55 ⟨rfl, hk35⟩
                  have hS72 := SH.same hS1 hk35
                  refine WL.lv rfl (LV.asg rfl) ?_
                  refine WL.nil (thenQ.n ?_)
                  refine WC.ret (thenQ.r <| ?_)
                  exact ⟨_, fun a ha => res1 rfl ha rfl, rfl, hS72.kb⟩
                · skip
                  refine WC.skip (thenQ.n ?_)
                  refine WC.seq ?_
                  refine WC.region ?_
                  have hfa_ := FW_sz a 20
                  refine WL.lv rfl (LV.mv rfl) ?_
                  refine WL.lv rfl (LV.asg rfl) ?_
                  refine WL.nil (thenQ.n ?_)
                  iterate 2 refine WC.seq ?_
                  refine WC.region ?_
                  refine WL.lv rfl (LV.asg rfl) ?_
                  refine WL.nil (thenQ.n ?_)
                  refine WC.block ?_
                  refine WC.loop (fun m_ f_ w_ => ∃ (s : ByteArray) (i : Int), (0 ≤ i) ∧ (i ≤ 401) ∧ (RPT s (FW a 20).size c i) ∧ SH w No w_ [] ∧ m_ = ((401 - i).toNat) ∧ Weak (lit [(1, (.string (FW b 20))), (2, (.int .u8 c)), (7, (.string s)), (8, (.int .i64 i))]) f_) _ ⟨(FW a 20), 0, by omega, by omega, (RPT.z _ _), hS1, rfl, Weak.cons rfl <| Weak.cons rfl <| Weak.cons rfl <| Weak.cons rfl <| Weak.nil _⟩ ?_
                  rintro m5 f5 w56 ⟨s, i, ilo, ihi, q1, hL5, rfl, hw5⟩
                  refine WC.weak hw5 ?_
                  clear hw5
                  have hsz_ := q1.1
                  iterate 2 refine WC.seq ?_
                  refine WC.region ?_
                  refine WL.lv rfl (LV.mv rfl) ?_
                  refine WL.lv rfl (LV.ltI rfl rfl) ?_
                  refine WL.nil (thenQ.n ?_)
                  refine WC.condP (p := i < 401) rfl (fun hk => ?_) (fun hk => ?_)
                  · skip
                    refine WC.skip (thenQ.n ?_)
                    refine WC.seq ?_
                    refine WC.block ?_
                    refine WC.region ?_
                    iterate 2 refine WL.lv rfl (LV.mv rfl) ?_
                    refine WL.xe rfl (XE.buildSlice (E := eU8) [(0, (.int .u8 c))] #[(.int .u8 c)] [c] hL5 Try.underlying33 ti5 rfl (by decide) (by kernel_rfl) (.inr rfl) rfl rfl (by decide)) ?_
                    rintro _ w57 ⟨b5, rfl, hS73, hk36⟩
                    refine WL.lv rfl (LV.strOf Try.underlying33 Try.underlying5 Try.underlying9 rfl ((SH.rd hS73 (.head _)) _ (KB.refl No _))) ?_
                    refine WL.lv rfl (LV.addS rfl rfl (by have h_ := strOf_sz c; omega)) ?_
                    refine WL.lv rfl (LV.asg rfl) ?_
                    refine WL.nil (blockQ.n <| thenQ.n ?_)
                    refine WC.region ?_
                    refine WL.lv rfl (LV.mv rfl) ?_
                    refine WL.lv rfl (LV.add rfl rfl (wr64 (by omega) (by omega))) ?_
                    refine WL.lv rfl (LV.asg rfl) ?_
                    refine WL.nil (thenQ.n ?_)
                    have hS74 : SH w No w57 [] := (SH.take 0 rfl hS73)
                    exact ⟨_, by omega, s ++ (strOfNums [c]), i + 1, by omega, by omega, (q1.step (strOf1 hc0 hc1)), hS74, rfl, Weak.cons rfl <| Weak.cons rfl <| Weak.cons rfl <| Weak.cons rfl <| Weak.nil _⟩
                  · skip
                    refine WC.exit (thenQ.x <| thenQ.x <| blockQ.hit <| thenQ.n ?_)
                    refine WC.seq ?_
                    refine WC.region ?_
                    refine WL.lv rfl (LV.mv rfl) ?_
                    have hkd_ := kd_is c
                    have hlg_ : (TOK s).length > 400 := q1.long (by omega) (by omega)
                    have hss_ := q1.1
                    have hfb_ := FW_sz b 20
                    have hlen_ : (EDT s (FW b 20)).length = 0 ∧ (EDT (FW b 20) s).length = 0 := by rw [edt_long (.inl hlg_), edt_long (.inr hlg_)]; exact ⟨rfl, rfl⟩
                    iterate 2 refine WL.lv rfl (LV.addS rfl rfl (by first | omega | (simp only [ByteArray.size_append, ByteArray.size_extract, lit1, lit2, lit0]; omega))) ?_
                    refine WL.lv rfl (LV.asg rfl) ?_
                    refine WL.nil (thenQ.n ?_)
                    iterate 2 refine WC.seq ?_
                    refine WC.region ?_
                    refine WL.lv rfl (LV.mv rfl) ?_
                    refine WL.lv rfl (LV.lenS Try.underlying9 rfl) ?_
                    refine WL.lv rfl (LV.gtI rfl rfl) ?_
                    refine WL.nil (thenQ.n ?_)
                    refine WC.condP (p := ((FW b 20).size : Int) > 0) rfl (fun h70 => ?_) (fun h70 => ?_)
                    · skip
                      refine WC.region ?_
                      refine WL.lv rfl (LV.mv rfl) ?_
                      refine WL.lv rfl (LV.addS rfl rfl (by first | omega | (simp only [ByteArray.size_append, ByteArray.size_extract, lit1, lit2, lit0]; omega))) ?_
                      refine WL.lv rfl (LV.mv rfl) ?_
                      iterate 2 refine WL.lv rfl (LV.addS rfl rfl (by first | omega | (simp only [ByteArray.size_append, ByteArray.size_extract, lit1, lit2, lit0]; omega))) ?_
                      refine WL.lv rfl (LV.asg rfl) ?_
                      refine WL.nil (thenQ.n ?_)
                      refine WC.seq ?_
                      refine WC.region ?_
                      refine WL.call rfl (XC.fn Try.func8 (by kernel_rfl) rfl rfl rfl) (live28_calls  ) ?_
                      rintro v_ w58 ⟨rfl, hk37⟩
                      have hS75 := SH.same hL5 hk37
                      iterate 3 refine WL.lv rfl (LV.mv rfl) ?_
                      refine WL.call rfl (XC.fn Try.func15 (by kernel_rfl) rfl rfl rfl) (edits_calls (a := s) (b := (FW b 20)) (by omega) (by omega)) ?_
                      rintro v_ w59 ⟨A17, c17, rfl, hS76⟩
                      have hS77 := SH.joinN hS75 hS76
                      refine WL.lv rfl (LV.lenL Try.underlying29 rfl) ?_
                      iterate 2 refine WL.lv rfl (LV.mv rfl) ?_
                      refine WL.call rfl (XC.fn Try.func15 (by kernel_rfl) rfl rfl rfl) (edits_calls (a := (FW b 20)) (b := s) (by omega) (by omega)) ?_
                      rintro v_ w60 ⟨A18, c18, rfl, hS78⟩
                      have hS79 := SH.joinN hS77 hS78
                      refine WL.lv rfl (LV.lenL Try.underlying29 rfl) ?_
                      refine WL.lv rfl (LV.add rfl rfl (wr64 (by omega) (by omega))) ?_
                      refine WL.lv rfl (LV.as (LV.eqI rfl rfl) (decide_eq_true (by omega))) ?_
                      refine WL.lv rfl (LV.pickT rfl rfl) ?_
                      iterate 3 refine WL.lv rfl (LV.mv rfl) ?_
                      refine WL.call rfl (XC.fn Try.func17 (by kernel_rfl) rfl rfl rfl) (marked_calls (a := s) (b := (FW b 20)) (by omega) (by omega)) ?_
                      rintro v_ w61 ⟨rfl, hk38⟩
                      have hS80 := SH.same hS79 hk38
                      refine WL.lv rfl (LV.mv rfl) ?_
                      refine WL.lv rfl (LV.as (LV.eqSP (a := (MARK s (FW b 20))) (b := (((((⟨#[91, 45]⟩ ++ s) ++ ⟨#[45, 93]⟩) ++ ⟨#[123, 43]⟩) ++ (FW b 20)) ++ ⟨#[43, 125]⟩)) rfl rfl) (decide_eq_true (by rw [mark_long (.inl hlg_), whl_11 (by omega) h70]))) ?_
                      refine WL.lv rfl (LV.pickT rfl rfl) ?_
                      refine WL.lv rfl (LV.asg rfl) ?_
                      refine WL.nil (thenQ.n ?_)
                      refine WC.ret (?_)
                      exact ⟨_, fun a ha => res1 rfl ha rfl, rfl, hS80.kb⟩
                    · skip
                      refine WC.skip (thenQ.n ?_)
                      refine WC.seq ?_
                      refine WC.region ?_
                      refine WL.call rfl (XC.fn Try.func8 (by kernel_rfl) rfl rfl rfl) (live28_calls  ) ?_
                      rintro v_ w62 ⟨rfl, hk39⟩
                      have hS81 := SH.same hL5 hk39
                      iterate 3 refine WL.lv rfl (LV.mv rfl) ?_
                      refine WL.call rfl (XC.fn Try.func15 (by kernel_rfl) rfl rfl rfl) (edits_calls (a := s) (b := (FW b 20)) (by omega) (by omega)) ?_
                      rintro v_ w63 ⟨A19, c19, rfl, hS82⟩
                      have hS83 := SH.joinN hS81 hS82
                      refine WL.lv rfl (LV.lenL Try.underlying29 rfl) ?_
                      iterate 2 refine WL.lv rfl (LV.mv rfl) ?_
                      refine WL.call rfl (XC.fn Try.func15 (by kernel_rfl) rfl rfl rfl) (edits_calls (a := (FW b 20)) (b := s) (by omega) (by omega)) ?_
                      rintro v_ w64 ⟨A20, c20, rfl, hS84⟩
                      have hS85 := SH.joinN hS83 hS84
                      refine WL.lv rfl (LV.lenL Try.underlying29 rfl) ?_
                      refine WL.lv rfl (LV.add rfl rfl (wr64 (by omega) (by omega))) ?_
                      refine WL.lv rfl (LV.as (LV.eqI rfl rfl) (decide_eq_true (by omega))) ?_
                      refine WL.lv rfl (LV.pickT rfl rfl) ?_
                      iterate 3 refine WL.lv rfl (LV.mv rfl) ?_
                      refine WL.call rfl (XC.fn Try.func17 (by kernel_rfl) rfl rfl rfl) (marked_calls (a := s) (b := (FW b 20)) (by omega) (by omega)) ?_
                      rintro v_ w65 ⟨rfl, hk40⟩
                      have hS86 := SH.same hS85 hk40
                      refine WL.lv rfl (LV.mv rfl) ?_
                      refine WL.lv rfl (LV.as (LV.eqSP (a := (MARK s (FW b 20))) (b := ((⟨#[91, 45]⟩ ++ s) ++ ⟨#[45, 93]⟩)) rfl rfl) (decide_eq_true (by rw [mark_long (.inl hlg_), whl_10 (by omega) h70]))) ?_
                      refine WL.lv rfl (LV.pickT rfl rfl) ?_
                      refine WL.lv rfl (LV.asg rfl) ?_
                      refine WL.nil (thenQ.n ?_)
                      refine WC.ret (?_)
                      exact ⟨_, fun a ha => res1 rfl ha rfl, rfl, hS86.kb⟩
            · refine WL.lv rfl (LV.as (LV.geI rfl rfl) (decide_eq_false hg15)) ?_
              refine WL.lv rfl (LV.mv rfl) ?_
              iterate 2 refine WL.off rfl ?_
              iterate 2 refine WL.lv rfl (LV.pickF rfl rfl) ?_
              iterate 2 refine WL.lv rfl (LV.mv rfl) ?_
              refine WL.lv rfl (LV.eqI rfl rfl) ?_
              refine WL.lv rfl (LV.pickF rfl rfl) ?_
              refine WL.nil (thenQ.n ?_)
              refine WC.condP (p := c = 9) rfl (fun hcls => ?_) (fun hcls => ?_)
              · skip
                refine WC.seq ?_
                refine WC.region ?_
                refine WL.call rfl (XC.fn Try.func8 (by kernel_rfl) rfl rfl rfl) (live28_calls  ) ?_
                rintro v_ w66 ⟨rfl, hk41⟩
                have hS87 := SH.same hS1 hk41
                refine WL.lv rfl (LV.asg rfl) ?_
                refine WL.nil (thenQ.n ?_)
                refine WC.ret (thenQ.r <| ?_)
                exact ⟨_, fun a ha => res1 rfl ha rfl, rfl, hS87.kb⟩
              · skip
                refine WC.skip (thenQ.n ?_)
                refine WC.seq ?_
                refine WC.region ?_
                have hfa_ := FW_sz a 20
                refine WL.lv rfl (LV.mv rfl) ?_
                refine WL.lv rfl (LV.asg rfl) ?_
                refine WL.nil (thenQ.n ?_)
                iterate 2 refine WC.seq ?_
                refine WC.region ?_
                refine WL.lv rfl (LV.asg rfl) ?_
                refine WL.nil (thenQ.n ?_)
                refine WC.block ?_
                refine WC.loop (fun m_ f_ w_ => ∃ (s : ByteArray) (i : Int), (0 ≤ i) ∧ (i ≤ 401) ∧ (RPT s (FW a 20).size c i) ∧ SH w No w_ [] ∧ m_ = ((401 - i).toNat) ∧ Weak (lit [(1, (.string (FW b 20))), (2, (.int .u8 c)), (7, (.string s)), (8, (.int .i64 i))]) f_) _ ⟨(FW a 20), 0, by omega, by omega, (RPT.z _ _), hS1, rfl, Weak.cons rfl <| Weak.cons rfl <| Weak.cons rfl <| Weak.cons rfl <| Weak.nil _⟩ ?_
                rintro m6 f6 w67 ⟨s, i, ilo, ihi, q1, hL6, rfl, hw6⟩
                refine WC.weak hw6 ?_
                clear hw6
                have hsz_ := q1.1
                iterate 2 refine WC.seq ?_
                refine WC.region ?_
                refine WL.lv rfl (LV.mv rfl) ?_
                refine WL.lv rfl (LV.ltI rfl rfl) ?_
                refine WL.nil (thenQ.n ?_)
                refine WC.condP (p := i < 401) rfl (fun hk => ?_) (fun hk => ?_)
                · skip
                  refine WC.skip (thenQ.n ?_)
                  refine WC.seq ?_
                  refine WC.block ?_
                  refine WC.region ?_
                  iterate 2 refine WL.lv rfl (LV.mv rfl) ?_
                  refine WL.xe rfl (XE.buildSlice (E := eU8) [(0, (.int .u8 c))] #[(.int .u8 c)] [c] hL6 Try.underlying33 ti5 rfl (by decide) (by kernel_rfl) (.inr rfl) rfl rfl (by decide)) ?_
                  rintro _ w68 ⟨b6, rfl, hS88, hk42⟩
                  refine WL.lv rfl (LV.strOf Try.underlying33 Try.underlying5 Try.underlying9 rfl ((SH.rd hS88 (.head _)) _ (KB.refl No _))) ?_
                  refine WL.lv rfl (LV.addS rfl rfl (by have h_ := strOf_sz c; omega)) ?_
                  refine WL.lv rfl (LV.asg rfl) ?_
                  refine WL.nil (blockQ.n <| thenQ.n ?_)
                  refine WC.region ?_
                  refine WL.lv rfl (LV.mv rfl) ?_
                  refine WL.lv rfl (LV.add rfl rfl (wr64 (by omega) (by omega))) ?_
                  refine WL.lv rfl (LV.asg rfl) ?_
                  refine WL.nil (thenQ.n ?_)
                  have hS89 : SH w No w68 [] := (SH.take 0 rfl hS88)
                  exact ⟨_, by omega, s ++ (strOfNums [c]), i + 1, by omega, by omega, (q1.step (strOf1 hc0 hc1)), hS89, rfl, Weak.cons rfl <| Weak.cons rfl <| Weak.cons rfl <| Weak.cons rfl <| Weak.nil _⟩
                · skip
                  refine WC.exit (thenQ.x <| thenQ.x <| blockQ.hit <| thenQ.n ?_)
                  refine WC.seq ?_
                  refine WC.region ?_
                  refine WL.lv rfl (LV.mv rfl) ?_
                  have hkd_ := kd_is c
                  have hlg_ : (TOK s).length > 400 := q1.long (by omega) (by omega)
                  have hss_ := q1.1
                  have hfb_ := FW_sz b 20
                  have hlen_ : (EDT s (FW b 20)).length = 0 ∧ (EDT (FW b 20) s).length = 0 := by rw [edt_long (.inl hlg_), edt_long (.inr hlg_)]; exact ⟨rfl, rfl⟩
                  iterate 2 refine WL.lv rfl (LV.addS rfl rfl (by first | omega | (simp only [ByteArray.size_append, ByteArray.size_extract, lit1, lit2, lit0]; omega))) ?_
                  refine WL.lv rfl (LV.asg rfl) ?_
                  refine WL.nil (thenQ.n ?_)
                  iterate 2 refine WC.seq ?_
                  refine WC.region ?_
                  refine WL.lv rfl (LV.mv rfl) ?_
                  refine WL.lv rfl (LV.lenS Try.underlying9 rfl) ?_
                  refine WL.lv rfl (LV.gtI rfl rfl) ?_
                  refine WL.nil (thenQ.n ?_)
                  refine WC.condP (p := ((FW b 20).size : Int) > 0) rfl (fun h70 => ?_) (fun h70 => ?_)
                  · skip
                    refine WC.region ?_
                    refine WL.lv rfl (LV.mv rfl) ?_
                    refine WL.lv rfl (LV.addS rfl rfl (by first | omega | (simp only [ByteArray.size_append, ByteArray.size_extract, lit1, lit2, lit0]; omega))) ?_
                    refine WL.lv rfl (LV.mv rfl) ?_
                    iterate 2 refine WL.lv rfl (LV.addS rfl rfl (by first | omega | (simp only [ByteArray.size_append, ByteArray.size_extract, lit1, lit2, lit0]; omega))) ?_
                    refine WL.lv rfl (LV.asg rfl) ?_
                    refine WL.nil (thenQ.n ?_)
                    refine WC.seq ?_
                    refine WC.region ?_
                    refine WL.call rfl (XC.fn Try.func8 (by kernel_rfl) rfl rfl rfl) (live28_calls  ) ?_
                    rintro v_ w69 ⟨rfl, hk43⟩
                    have hS90 := SH.same hL6 hk43
                    iterate 3 refine WL.lv rfl (LV.mv rfl) ?_
                    refine WL.call rfl (XC.fn Try.func15 (by kernel_rfl) rfl rfl rfl) (edits_calls (a := s) (b := (FW b 20)) (by omega) (by omega)) ?_
                    rintro v_ w70 ⟨A21, c21, rfl, hS91⟩
                    have hS92 := SH.joinN hS90 hS91
                    refine WL.lv rfl (LV.lenL Try.underlying29 rfl) ?_
                    iterate 2 refine WL.lv rfl (LV.mv rfl) ?_
                    refine WL.call rfl (XC.fn Try.func15 (by kernel_rfl) rfl rfl rfl) (edits_calls (a := (FW b 20)) (b := s) (by omega) (by omega)) ?_
                    rintro v_ w71 ⟨A22, c22, rfl, hS93⟩
                    have hS94 := SH.joinN hS92 hS93
                    refine WL.lv rfl (LV.lenL Try.underlying29 rfl) ?_
                    refine WL.lv rfl (LV.add rfl rfl (wr64 (by omega) (by omega))) ?_
                    refine WL.lv rfl (LV.as (LV.eqI rfl rfl) (decide_eq_true (by omega))) ?_
                    refine WL.lv rfl (LV.pickT rfl rfl) ?_
                    iterate 3 refine WL.lv rfl (LV.mv rfl) ?_
                    refine WL.call rfl (XC.fn Try.func17 (by kernel_rfl) rfl rfl rfl) (marked_calls (a := s) (b := (FW b 20)) (by omega) (by omega)) ?_
                    rintro v_ w72 ⟨rfl, hk44⟩
                    have hS95 := SH.same hS94 hk44
                    refine WL.lv rfl (LV.mv rfl) ?_
                    refine WL.lv rfl (LV.as (LV.eqSP (a := (MARK s (FW b 20))) (b := (((((⟨#[91, 45]⟩ ++ s) ++ ⟨#[45, 93]⟩) ++ ⟨#[123, 43]⟩) ++ (FW b 20)) ++ ⟨#[43, 125]⟩)) rfl rfl) (decide_eq_true (by rw [mark_long (.inl hlg_), whl_11 (by omega) h70]))) ?_
                    refine WL.lv rfl (LV.pickT rfl rfl) ?_
                    refine WL.lv rfl (LV.asg rfl) ?_
                    refine WL.nil (thenQ.n ?_)
                    refine WC.ret (?_)
                    exact ⟨_, fun a ha => res1 rfl ha rfl, rfl, hS95.kb⟩
                  · skip
                    refine WC.skip (thenQ.n ?_)
                    refine WC.seq ?_
                    refine WC.region ?_
                    refine WL.call rfl (XC.fn Try.func8 (by kernel_rfl) rfl rfl rfl) (live28_calls  ) ?_
                    rintro v_ w73 ⟨rfl, hk45⟩
                    have hS96 := SH.same hL6 hk45
                    iterate 3 refine WL.lv rfl (LV.mv rfl) ?_
                    refine WL.call rfl (XC.fn Try.func15 (by kernel_rfl) rfl rfl rfl) (edits_calls (a := s) (b := (FW b 20)) (by omega) (by omega)) ?_
                    rintro v_ w74 ⟨A23, c23, rfl, hS97⟩
                    have hS98 := SH.joinN hS96 hS97
                    refine WL.lv rfl (LV.lenL Try.underlying29 rfl) ?_
                    iterate 2 refine WL.lv rfl (LV.mv rfl) ?_
                    refine WL.call rfl (XC.fn Try.func15 (by kernel_rfl) rfl rfl rfl) (edits_calls (a := (FW b 20)) (b := s) (by omega) (by omega)) ?_
                    rintro v_ w75 ⟨A24, c24, rfl, hS99⟩
                    have hS100 := SH.joinN hS98 hS99
                    refine WL.lv rfl (LV.lenL Try.underlying29 rfl) ?_
                    refine WL.lv rfl (LV.add rfl rfl (wr64 (by omega) (by omega))) ?_
                    refine WL.lv rfl (LV.as (LV.eqI rfl rfl) (decide_eq_true (by omega))) ?_
                    refine WL.lv rfl (LV.pickT rfl rfl) ?_
                    iterate 3 refine WL.lv rfl (LV.mv rfl) ?_
                    refine WL.call rfl (XC.fn Try.func17 (by kernel_rfl) rfl rfl rfl) (marked_calls (a := s) (b := (FW b 20)) (by omega) (by omega)) ?_
                    rintro v_ w76 ⟨rfl, hk46⟩
                    have hS101 := SH.same hS100 hk46
                    refine WL.lv rfl (LV.mv rfl) ?_
                    refine WL.lv rfl (LV.as (LV.eqSP (a := (MARK s (FW b 20))) (b := ((⟨#[91, 45]⟩ ++ s) ++ ⟨#[45, 93]⟩)) rfl rfl) (decide_eq_true (by rw [mark_long (.inl hlg_), whl_10 (by omega) h70]))) ?_
                    refine WL.lv rfl (LV.pickT rfl rfl) ?_
                    refine WL.lv rfl (LV.asg rfl) ?_
                    refine WL.nil (thenQ.n ?_)
                    refine WC.ret (?_)
                    exact ⟨_, fun a ha => res1 rfl ha rfl, rfl, hS101.kb⟩
      · refine WL.lv rfl (LV.as (LV.geI rfl rfl) (decide_eq_false hg12)) ?_
        refine WL.lv rfl (LV.mv rfl) ?_
        iterate 2 refine WL.off rfl ?_
        iterate 2 refine WL.lv rfl (LV.pickF rfl rfl) ?_
        iterate 2 refine WL.lv rfl (LV.mv rfl) ?_
        rcases Decidable.em (c = 95) with hg17 | hg17
        · refine WL.lv rfl (LV.as (LV.eqI rfl rfl) (decide_eq_true hg17)) ?_
          refine WL.lv rfl (LV.pickF rfl rfl) ?_
          refine WL.lv rfl (LV.mv rfl) ?_
          iterate 6 refine WL.off rfl ?_
          refine WL.lv rfl (LV.pickT rfl rfl) ?_
          refine WL.lv rfl (LV.mv rfl) ?_
          iterate 2 refine WL.off rfl ?_
          refine WL.lv rfl (LV.pickT rfl rfl) ?_
          refine WL.nil (thenQ.n ?_)
          refine WC.condT rfl ?_
          refine WC.seq ?_
          refine WC.region ?_
          refine WL.call rfl (XC.fn Try.func8 (by kernel_rfl) rfl rfl rfl) (live28_calls  ) ?_
          rintro v_ w77 ⟨rfl, hk47⟩
          have hS102 := SH.same hS1 hk47
          refine WL.lv rfl (LV.asg rfl) ?_
          refine WL.nil (thenQ.n ?_)
          refine WC.ret (thenQ.r <| ?_)
          exact ⟨_, fun a ha => res1 rfl ha rfl, rfl, hS102.kb⟩
        · refine WL.lv rfl (LV.as (LV.eqI rfl rfl) (decide_eq_false hg17)) ?_
          refine WL.lv rfl (LV.pickF rfl rfl) ?_
          iterate 2 refine WL.lv rfl (LV.mv rfl) ?_
          rcases Decidable.em (c ≥ 97) with hg18 | hg18
          · refine WL.lv rfl (LV.as (LV.geI rfl rfl) (decide_eq_true hg18)) ?_
            iterate 2 refine WL.lv rfl (LV.mv rfl) ?_
            rcases Decidable.em (c ≤ 122) with hg19 | hg19
            · refine WL.lv rfl (LV.as (LV.leI rfl rfl) (decide_eq_true hg19)) ?_
              refine WL.lv rfl (LV.pickT rfl rfl) ?_
              refine WL.lv rfl (LV.pickF rfl rfl) ?_
              refine WL.lv rfl (LV.mv rfl) ?_
              iterate 2 refine WL.off rfl ?_
              refine WL.lv rfl (LV.pickT rfl rfl) ?_
              refine WL.nil (thenQ.n ?_)
              refine WC.condT rfl ?_
              refine WC.seq ?_
              refine WC.region ?_
              refine WL.call rfl (XC.fn Try.func8 (by kernel_rfl) rfl rfl rfl) (live28_calls  ) ?_
              rintro v_ w78 ⟨rfl, hk48⟩
              have hS103 := SH.same hS1 hk48
              refine WL.lv rfl (LV.asg rfl) ?_
              refine WL.nil (thenQ.n ?_)
              refine WC.ret (thenQ.r <| ?_)
              exact ⟨_, fun a ha => res1 rfl ha rfl, rfl, hS103.kb⟩
            · refine WL.lv rfl (LV.as (LV.leI rfl rfl) (decide_eq_false hg19)) ?_
              refine WL.lv rfl (LV.pickT rfl rfl) ?_
              refine WL.lv rfl (LV.pickF rfl rfl) ?_
              iterate 2 refine WL.lv rfl (LV.mv rfl) ?_
              refine WL.lv rfl (LV.eqI rfl rfl) ?_
              refine WL.lv rfl (LV.pickF rfl rfl) ?_
              refine WL.nil (thenQ.n ?_)
              refine WC.condP (p := c = 9) rfl (fun hcls => ?_) (fun hcls => ?_)
              · skip
                refine WC.seq ?_
                refine WC.region ?_
                refine WL.call rfl (XC.fn Try.func8 (by kernel_rfl) rfl rfl rfl) (live28_calls  ) ?_
                rintro v_ w79 ⟨rfl, hk49⟩
                have hS104 := SH.same hS1 hk49
                refine WL.lv rfl (LV.asg rfl) ?_
                refine WL.nil (thenQ.n ?_)
                refine WC.ret (thenQ.r <| ?_)
                exact ⟨_, fun a ha => res1 rfl ha rfl, rfl, hS104.kb⟩
              · skip
                refine WC.skip (thenQ.n ?_)
                refine WC.seq ?_
                refine WC.region ?_
                have hfa_ := FW_sz a 20
                refine WL.lv rfl (LV.mv rfl) ?_
                refine WL.lv rfl (LV.asg rfl) ?_
                refine WL.nil (thenQ.n ?_)
                iterate 2 refine WC.seq ?_
                refine WC.region ?_
                refine WL.lv rfl (LV.asg rfl) ?_
                refine WL.nil (thenQ.n ?_)
                refine WC.block ?_
                refine WC.loop (fun m_ f_ w_ => ∃ (s : ByteArray) (i : Int), (0 ≤ i) ∧ (i ≤ 401) ∧ (RPT s (FW a 20).size c i) ∧ SH w No w_ [] ∧ m_ = ((401 - i).toNat) ∧ Weak (lit [(1, (.string (FW b 20))), (2, (.int .u8 c)), (7, (.string s)), (8, (.int .i64 i))]) f_) _ ⟨(FW a 20), 0, by omega, by omega, (RPT.z _ _), hS1, rfl, Weak.cons rfl <| Weak.cons rfl <| Weak.cons rfl <| Weak.cons rfl <| Weak.nil _⟩ ?_
                rintro m7 f7 w80 ⟨s, i, ilo, ihi, q1, hL7, rfl, hw7⟩
                refine WC.weak hw7 ?_
                clear hw7
                have hsz_ := q1.1
                iterate 2 refine WC.seq ?_
                refine WC.region ?_
                refine WL.lv rfl (LV.mv rfl) ?_
                refine WL.lv rfl (LV.ltI rfl rfl) ?_
                refine WL.nil (thenQ.n ?_)
                refine WC.condP (p := i < 401) rfl (fun hk => ?_) (fun hk => ?_)
                · skip
                  refine WC.skip (thenQ.n ?_)
                  refine WC.seq ?_
                  refine WC.block ?_
                  refine WC.region ?_
                  iterate 2 refine WL.lv rfl (LV.mv rfl) ?_
                  refine WL.xe rfl (XE.buildSlice (E := eU8) [(0, (.int .u8 c))] #[(.int .u8 c)] [c] hL7 Try.underlying33 ti5 rfl (by decide) (by kernel_rfl) (.inr rfl) rfl rfl (by decide)) ?_
                  rintro _ w81 ⟨b7, rfl, hS105, hk50⟩
                  refine WL.lv rfl (LV.strOf Try.underlying33 Try.underlying5 Try.underlying9 rfl ((SH.rd hS105 (.head _)) _ (KB.refl No _))) ?_
                  refine WL.lv rfl (LV.addS rfl rfl (by have h_ := strOf_sz c; omega)) ?_
                  refine WL.lv rfl (LV.asg rfl) ?_
                  refine WL.nil (blockQ.n <| thenQ.n ?_)
                  refine WC.region ?_
                  refine WL.lv rfl (LV.mv rfl) ?_
                  refine WL.lv rfl (LV.add rfl rfl (wr64 (by omega) (by omega))) ?_
                  refine WL.lv rfl (LV.asg rfl) ?_
                  refine WL.nil (thenQ.n ?_)
                  have hS106 : SH w No w81 [] := (SH.take 0 rfl hS105)
                  exact ⟨_, by omega, s ++ (strOfNums [c]), i + 1, by omega, by omega, (q1.step (strOf1 hc0 hc1)), hS106, rfl, Weak.cons rfl <| Weak.cons rfl <| Weak.cons rfl <| Weak.cons rfl <| Weak.nil _⟩
                · skip
                  refine WC.exit (thenQ.x <| thenQ.x <| blockQ.hit <| thenQ.n ?_)
                  refine WC.seq ?_
                  refine WC.region ?_
                  refine WL.lv rfl (LV.mv rfl) ?_
                  have hkd_ := kd_is c
                  have hlg_ : (TOK s).length > 400 := q1.long (by omega) (by omega)
                  have hss_ := q1.1
                  have hfb_ := FW_sz b 20
                  have hlen_ : (EDT s (FW b 20)).length = 0 ∧ (EDT (FW b 20) s).length = 0 := by rw [edt_long (.inl hlg_), edt_long (.inr hlg_)]; exact ⟨rfl, rfl⟩
                  iterate 2 refine WL.lv rfl (LV.addS rfl rfl (by first | omega | (simp only [ByteArray.size_append, ByteArray.size_extract, lit1, lit2, lit0]; omega))) ?_
                  refine WL.lv rfl (LV.asg rfl) ?_
                  refine WL.nil (thenQ.n ?_)
                  iterate 2 refine WC.seq ?_
                  refine WC.region ?_
                  refine WL.lv rfl (LV.mv rfl) ?_
                  refine WL.lv rfl (LV.lenS Try.underlying9 rfl) ?_
                  refine WL.lv rfl (LV.gtI rfl rfl) ?_
                  refine WL.nil (thenQ.n ?_)
                  refine WC.condP (p := ((FW b 20).size : Int) > 0) rfl (fun h70 => ?_) (fun h70 => ?_)
                  · skip
                    refine WC.region ?_
                    refine WL.lv rfl (LV.mv rfl) ?_
                    refine WL.lv rfl (LV.addS rfl rfl (by first | omega | (simp only [ByteArray.size_append, ByteArray.size_extract, lit1, lit2, lit0]; omega))) ?_
                    refine WL.lv rfl (LV.mv rfl) ?_
                    iterate 2 refine WL.lv rfl (LV.addS rfl rfl (by first | omega | (simp only [ByteArray.size_append, ByteArray.size_extract, lit1, lit2, lit0]; omega))) ?_
                    refine WL.lv rfl (LV.asg rfl) ?_
                    refine WL.nil (thenQ.n ?_)
                    refine WC.seq ?_
                    refine WC.region ?_
                    refine WL.call rfl (XC.fn Try.func8 (by kernel_rfl) rfl rfl rfl) (live28_calls  ) ?_
                    rintro v_ w82 ⟨rfl, hk51⟩
                    have hS107 := SH.same hL7 hk51
                    iterate 3 refine WL.lv rfl (LV.mv rfl) ?_
                    refine WL.call rfl (XC.fn Try.func15 (by kernel_rfl) rfl rfl rfl) (edits_calls (a := s) (b := (FW b 20)) (by omega) (by omega)) ?_
                    rintro v_ w83 ⟨A25, c25, rfl, hS108⟩
                    have hS109 := SH.joinN hS107 hS108
                    refine WL.lv rfl (LV.lenL Try.underlying29 rfl) ?_
                    iterate 2 refine WL.lv rfl (LV.mv rfl) ?_
                    refine WL.call rfl (XC.fn Try.func15 (by kernel_rfl) rfl rfl rfl) (edits_calls (a := (FW b 20)) (b := s) (by omega) (by omega)) ?_
                    rintro v_ w84 ⟨A26, c26, rfl, hS110⟩
                    have hS111 := SH.joinN hS109 hS110
                    refine WL.lv rfl (LV.lenL Try.underlying29 rfl) ?_
                    refine WL.lv rfl (LV.add rfl rfl (wr64 (by omega) (by omega))) ?_
                    refine WL.lv rfl (LV.as (LV.eqI rfl rfl) (decide_eq_true (by omega))) ?_
                    refine WL.lv rfl (LV.pickT rfl rfl) ?_
                    iterate 3 refine WL.lv rfl (LV.mv rfl) ?_
                    refine WL.call rfl (XC.fn Try.func17 (by kernel_rfl) rfl rfl rfl) (marked_calls (a := s) (b := (FW b 20)) (by omega) (by omega)) ?_
                    rintro v_ w85 ⟨rfl, hk52⟩
                    have hS112 := SH.same hS111 hk52
                    refine WL.lv rfl (LV.mv rfl) ?_
                    refine WL.lv rfl (LV.as (LV.eqSP (a := (MARK s (FW b 20))) (b := (((((⟨#[91, 45]⟩ ++ s) ++ ⟨#[45, 93]⟩) ++ ⟨#[123, 43]⟩) ++ (FW b 20)) ++ ⟨#[43, 125]⟩)) rfl rfl) (decide_eq_true (by rw [mark_long (.inl hlg_), whl_11 (by omega) h70]))) ?_
                    refine WL.lv rfl (LV.pickT rfl rfl) ?_
                    refine WL.lv rfl (LV.asg rfl) ?_
                    refine WL.nil (thenQ.n ?_)
                    refine WC.ret (?_)
                    exact ⟨_, fun a ha => res1 rfl ha rfl, rfl, hS112.kb⟩
                  · skip
                    refine WC.skip (thenQ.n ?_)
                    refine WC.seq ?_
                    refine WC.region ?_
                    refine WL.call rfl (XC.fn Try.func8 (by kernel_rfl) rfl rfl rfl) (live28_calls  ) ?_
                    rintro v_ w86 ⟨rfl, hk53⟩
                    have hS113 := SH.same hL7 hk53
                    iterate 3 refine WL.lv rfl (LV.mv rfl) ?_
                    refine WL.call rfl (XC.fn Try.func15 (by kernel_rfl) rfl rfl rfl) (edits_calls (a := s) (b := (FW b 20)) (by omega) (by omega)) ?_
                    rintro v_ w87 ⟨A27, c27, rfl, hS114⟩
                    have hS115 := SH.joinN hS113 hS114
                    refine WL.lv rfl (LV.lenL Try.underlying29 rfl) ?_
                    iterate 2 refine WL.lv rfl (LV.mv rfl) ?_
                    refine WL.call rfl (XC.fn Try.func15 (by kernel_rfl) rfl rfl rfl) (edits_calls (a := (FW b 20)) (b := s) (by omega) (by omega)) ?_
                    rintro v_ w88 ⟨A28, c28, rfl, hS116⟩
                    have hS117 := SH.joinN hS115 hS116
                    refine WL.lv rfl (LV.lenL Try.underlying29 rfl) ?_
                    refine WL.lv rfl (LV.add rfl rfl (wr64 (by omega) (by omega))) ?_
                    refine WL.lv rfl (LV.as (LV.eqI rfl rfl) (decide_eq_true (by omega))) ?_
                    refine WL.lv rfl (LV.pickT rfl rfl) ?_
                    iterate 3 refine WL.lv rfl (LV.mv rfl) ?_
                    refine WL.call rfl (XC.fn Try.func17 (by kernel_rfl) rfl rfl rfl) (marked_calls (a := s) (b := (FW b 20)) (by omega) (by omega)) ?_
                    rintro v_ w89 ⟨rfl, hk54⟩
                    have hS118 := SH.same hS117 hk54
                    refine WL.lv rfl (LV.mv rfl) ?_
                    refine WL.lv rfl (LV.as (LV.eqSP (a := (MARK s (FW b 20))) (b := ((⟨#[91, 45]⟩ ++ s) ++ ⟨#[45, 93]⟩)) rfl rfl) (decide_eq_true (by rw [mark_long (.inl hlg_), whl_10 (by omega) h70]))) ?_
                    refine WL.lv rfl (LV.pickT rfl rfl) ?_
                    refine WL.lv rfl (LV.asg rfl) ?_
                    refine WL.nil (thenQ.n ?_)
                    refine WC.ret (?_)
                    exact ⟨_, fun a ha => res1 rfl ha rfl, rfl, hS118.kb⟩
          · refine WL.lv rfl (LV.as (LV.geI rfl rfl) (decide_eq_false hg18)) ?_
            refine WL.lv rfl (LV.mv rfl) ?_
            iterate 2 refine WL.off rfl ?_
            iterate 2 refine WL.lv rfl (LV.pickF rfl rfl) ?_
            iterate 2 refine WL.lv rfl (LV.mv rfl) ?_
            refine WL.lv rfl (LV.eqI rfl rfl) ?_
            refine WL.lv rfl (LV.pickF rfl rfl) ?_
            refine WL.nil (thenQ.n ?_)
            refine WC.condP (p := c = 9) rfl (fun hcls => ?_) (fun hcls => ?_)
            · skip
              refine WC.seq ?_
              refine WC.region ?_
              refine WL.call rfl (XC.fn Try.func8 (by kernel_rfl) rfl rfl rfl) (live28_calls  ) ?_
              rintro v_ w90 ⟨rfl, hk55⟩
              have hS119 := SH.same hS1 hk55
              refine WL.lv rfl (LV.asg rfl) ?_
              refine WL.nil (thenQ.n ?_)
              refine WC.ret (thenQ.r <| ?_)
              exact ⟨_, fun a ha => res1 rfl ha rfl, rfl, hS119.kb⟩
            · skip
              refine WC.skip (thenQ.n ?_)
              refine WC.seq ?_
              refine WC.region ?_
              have hfa_ := FW_sz a 20
              refine WL.lv rfl (LV.mv rfl) ?_
              refine WL.lv rfl (LV.asg rfl) ?_
              refine WL.nil (thenQ.n ?_)
              iterate 2 refine WC.seq ?_
              refine WC.region ?_
              refine WL.lv rfl (LV.asg rfl) ?_
              refine WL.nil (thenQ.n ?_)
              refine WC.block ?_
              refine WC.loop (fun m_ f_ w_ => ∃ (s : ByteArray) (i : Int), (0 ≤ i) ∧ (i ≤ 401) ∧ (RPT s (FW a 20).size c i) ∧ SH w No w_ [] ∧ m_ = ((401 - i).toNat) ∧ Weak (lit [(1, (.string (FW b 20))), (2, (.int .u8 c)), (7, (.string s)), (8, (.int .i64 i))]) f_) _ ⟨(FW a 20), 0, by omega, by omega, (RPT.z _ _), hS1, rfl, Weak.cons rfl <| Weak.cons rfl <| Weak.cons rfl <| Weak.cons rfl <| Weak.nil _⟩ ?_
              rintro m8 f8 w91 ⟨s, i, ilo, ihi, q1, hL8, rfl, hw8⟩
              refine WC.weak hw8 ?_
              clear hw8
              have hsz_ := q1.1
              iterate 2 refine WC.seq ?_
              refine WC.region ?_
              refine WL.lv rfl (LV.mv rfl) ?_
              refine WL.lv rfl (LV.ltI rfl rfl) ?_
              refine WL.nil (thenQ.n ?_)
              refine WC.condP (p := i < 401) rfl (fun hk => ?_) (fun hk => ?_)
              · skip
                refine WC.skip (thenQ.n ?_)
                refine WC.seq ?_
                refine WC.block ?_
                refine WC.region ?_
                iterate 2 refine WL.lv rfl (LV.mv rfl) ?_
                refine WL.xe rfl (XE.buildSlice (E := eU8) [(0, (.int .u8 c))] #[(.int .u8 c)] [c] hL8 Try.underlying33 ti5 rfl (by decide) (by kernel_rfl) (.inr rfl) rfl rfl (by decide)) ?_
                rintro _ w92 ⟨b8, rfl, hS120, hk56⟩
                refine WL.lv rfl (LV.strOf Try.underlying33 Try.underlying5 Try.underlying9 rfl ((SH.rd hS120 (.head _)) _ (KB.refl No _))) ?_
                refine WL.lv rfl (LV.addS rfl rfl (by have h_ := strOf_sz c; omega)) ?_
                refine WL.lv rfl (LV.asg rfl) ?_
                refine WL.nil (blockQ.n <| thenQ.n ?_)
                refine WC.region ?_
                refine WL.lv rfl (LV.mv rfl) ?_
                refine WL.lv rfl (LV.add rfl rfl (wr64 (by omega) (by omega))) ?_
                refine WL.lv rfl (LV.asg rfl) ?_
                refine WL.nil (thenQ.n ?_)
                have hS121 : SH w No w92 [] := (SH.take 0 rfl hS120)
                exact ⟨_, by omega, s ++ (strOfNums [c]), i + 1, by omega, by omega, (q1.step (strOf1 hc0 hc1)), hS121, rfl, Weak.cons rfl <| Weak.cons rfl <| Weak.cons rfl <| Weak.cons rfl <| Weak.nil _⟩
              · skip
                refine WC.exit (thenQ.x <| thenQ.x <| blockQ.hit <| thenQ.n ?_)
                refine WC.seq ?_
                refine WC.region ?_
                refine WL.lv rfl (LV.mv rfl) ?_
                have hkd_ := kd_is c
                have hlg_ : (TOK s).length > 400 := q1.long (by omega) (by omega)
                have hss_ := q1.1
                have hfb_ := FW_sz b 20
                have hlen_ : (EDT s (FW b 20)).length = 0 ∧ (EDT (FW b 20) s).length = 0 := by rw [edt_long (.inl hlg_), edt_long (.inr hlg_)]; exact ⟨rfl, rfl⟩
                iterate 2 refine WL.lv rfl (LV.addS rfl rfl (by first | omega | (simp only [ByteArray.size_append, ByteArray.size_extract, lit1, lit2, lit0]; omega))) ?_
                refine WL.lv rfl (LV.asg rfl) ?_
                refine WL.nil (thenQ.n ?_)
                iterate 2 refine WC.seq ?_
                refine WC.region ?_
                refine WL.lv rfl (LV.mv rfl) ?_
                refine WL.lv rfl (LV.lenS Try.underlying9 rfl) ?_
                refine WL.lv rfl (LV.gtI rfl rfl) ?_
                refine WL.nil (thenQ.n ?_)
                refine WC.condP (p := ((FW b 20).size : Int) > 0) rfl (fun h70 => ?_) (fun h70 => ?_)
                · skip
                  refine WC.region ?_
                  refine WL.lv rfl (LV.mv rfl) ?_
                  refine WL.lv rfl (LV.addS rfl rfl (by first | omega | (simp only [ByteArray.size_append, ByteArray.size_extract, lit1, lit2, lit0]; omega))) ?_
                  refine WL.lv rfl (LV.mv rfl) ?_
                  iterate 2 refine WL.lv rfl (LV.addS rfl rfl (by first | omega | (simp only [ByteArray.size_append, ByteArray.size_extract, lit1, lit2, lit0]; omega))) ?_
                  refine WL.lv rfl (LV.asg rfl) ?_
                  refine WL.nil (thenQ.n ?_)
                  refine WC.seq ?_
                  refine WC.region ?_
                  refine WL.call rfl (XC.fn Try.func8 (by kernel_rfl) rfl rfl rfl) (live28_calls  ) ?_
                  rintro v_ w93 ⟨rfl, hk57⟩
                  have hS122 := SH.same hL8 hk57
                  iterate 3 refine WL.lv rfl (LV.mv rfl) ?_
                  refine WL.call rfl (XC.fn Try.func15 (by kernel_rfl) rfl rfl rfl) (edits_calls (a := s) (b := (FW b 20)) (by omega) (by omega)) ?_
                  rintro v_ w94 ⟨A29, c29, rfl, hS123⟩
                  have hS124 := SH.joinN hS122 hS123
                  refine WL.lv rfl (LV.lenL Try.underlying29 rfl) ?_
                  iterate 2 refine WL.lv rfl (LV.mv rfl) ?_
                  refine WL.call rfl (XC.fn Try.func15 (by kernel_rfl) rfl rfl rfl) (edits_calls (a := (FW b 20)) (b := s) (by omega) (by omega)) ?_
                  rintro v_ w95 ⟨A30, c30, rfl, hS125⟩
                  have hS126 := SH.joinN hS124 hS125
                  refine WL.lv rfl (LV.lenL Try.underlying29 rfl) ?_
                  refine WL.lv rfl (LV.add rfl rfl (wr64 (by omega) (by omega))) ?_
                  refine WL.lv rfl (LV.as (LV.eqI rfl rfl) (decide_eq_true (by omega))) ?_
                  refine WL.lv rfl (LV.pickT rfl rfl) ?_
                  iterate 3 refine WL.lv rfl (LV.mv rfl) ?_
                  refine WL.call rfl (XC.fn Try.func17 (by kernel_rfl) rfl rfl rfl) (marked_calls (a := s) (b := (FW b 20)) (by omega) (by omega)) ?_
                  rintro v_ w96 ⟨rfl, hk58⟩
                  have hS127 := SH.same hS126 hk58
                  refine WL.lv rfl (LV.mv rfl) ?_
                  refine WL.lv rfl (LV.as (LV.eqSP (a := (MARK s (FW b 20))) (b := (((((⟨#[91, 45]⟩ ++ s) ++ ⟨#[45, 93]⟩) ++ ⟨#[123, 43]⟩) ++ (FW b 20)) ++ ⟨#[43, 125]⟩)) rfl rfl) (decide_eq_true (by rw [mark_long (.inl hlg_), whl_11 (by omega) h70]))) ?_
                  refine WL.lv rfl (LV.pickT rfl rfl) ?_
                  refine WL.lv rfl (LV.asg rfl) ?_
                  refine WL.nil (thenQ.n ?_)
                  refine WC.ret (?_)
                  exact ⟨_, fun a ha => res1 rfl ha rfl, rfl, hS127.kb⟩
                · skip
                  refine WC.skip (thenQ.n ?_)
                  refine WC.seq ?_
                  refine WC.region ?_
                  refine WL.call rfl (XC.fn Try.func8 (by kernel_rfl) rfl rfl rfl) (live28_calls  ) ?_
                  rintro v_ w97 ⟨rfl, hk59⟩
                  have hS128 := SH.same hL8 hk59
                  iterate 3 refine WL.lv rfl (LV.mv rfl) ?_
                  refine WL.call rfl (XC.fn Try.func15 (by kernel_rfl) rfl rfl rfl) (edits_calls (a := s) (b := (FW b 20)) (by omega) (by omega)) ?_
                  rintro v_ w98 ⟨A31, c31, rfl, hS129⟩
                  have hS130 := SH.joinN hS128 hS129
                  refine WL.lv rfl (LV.lenL Try.underlying29 rfl) ?_
                  iterate 2 refine WL.lv rfl (LV.mv rfl) ?_
                  refine WL.call rfl (XC.fn Try.func15 (by kernel_rfl) rfl rfl rfl) (edits_calls (a := (FW b 20)) (b := s) (by omega) (by omega)) ?_
                  rintro v_ w99 ⟨A32, c32, rfl, hS131⟩
                  have hS132 := SH.joinN hS130 hS131
                  refine WL.lv rfl (LV.lenL Try.underlying29 rfl) ?_
                  refine WL.lv rfl (LV.add rfl rfl (wr64 (by omega) (by omega))) ?_
                  refine WL.lv rfl (LV.as (LV.eqI rfl rfl) (decide_eq_true (by omega))) ?_
                  refine WL.lv rfl (LV.pickT rfl rfl) ?_
                  iterate 3 refine WL.lv rfl (LV.mv rfl) ?_
                  refine WL.call rfl (XC.fn Try.func17 (by kernel_rfl) rfl rfl rfl) (marked_calls (a := s) (b := (FW b 20)) (by omega) (by omega)) ?_
                  rintro v_ w100 ⟨rfl, hk60⟩
                  have hS133 := SH.same hS132 hk60
                  refine WL.lv rfl (LV.mv rfl) ?_
                  refine WL.lv rfl (LV.as (LV.eqSP (a := (MARK s (FW b 20))) (b := ((⟨#[91, 45]⟩ ++ s) ++ ⟨#[45, 93]⟩)) rfl rfl) (decide_eq_true (by rw [mark_long (.inl hlg_), whl_10 (by omega) h70]))) ?_
                  refine WL.lv rfl (LV.pickT rfl rfl) ?_
                  refine WL.lv rfl (LV.asg rfl) ?_
                  refine WL.nil (thenQ.n ?_)
                  refine WC.ret (?_)
                  exact ⟨_, fun a ha => res1 rfl ha rfl, rfl, hS133.kb⟩

end Go.Proofs.Ytjjilkibcomfcaa
