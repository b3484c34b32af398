/- The document's words of a text. -/
import Derived.Test.YtigbphaimbhgjaaGreatMg31
namespace Go.Proofs.YtigbphaimbhgjaaGreat
open Go Go.Gv Go.RowKit Go.Tly Go.Wds Go.Idx
set_option linter.unusedVariables false
set_option linter.unusedSimpArgs false

theorem rof_calls {w : World} {s : ByteArray} (hs : s.size ≤ 1000000) :
    Calls Tryz.prog 16 #[(.string s)] w fun e w' => ∃ v, e = .returned v ∧ (fun v w' => ∃ (A0' : Option Addr) (c0' : Nat), v = .slice A0' (OF s).length c0' ∧ SH w No w' [rowE eS 9 (.slice A0' (OF s).length c0') (OF s)]) v w' := by
  have htl_ := TOK_len s
  have hS : SH w No w [] := SH.nil _ _
  refine calls (l := litOf [(.string s)] 0) Tryz.func16 rfl (n := 55) rfl (Nat.le_of_ble_eq_true rfl) (lit_args _) ?_
  refine WC.seq ?_
  refine WC.region ?_
  refine WL.lv rfl (LV.asg rfl) ?_
  refine WL.nil (thenQ.n ?_)
  refine WC.seq ?_
  refine WC.region ?_
  refine WL.xe rfl (XE.buildSlice (E := eS) [] #[] [] hS Tryz.underlying23 ti9 rfl (by decide) (by kernel_rfl) (.inr rfl) rfl rfl (by decide)) ?_
  rintro _ w1 ⟨b1, rfl, hS1, hk1⟩
  refine WL.lv rfl (LV.asg rfl) ?_
  refine WL.nil (thenQ.n ?_)
  refine WC.seq ?_
  refine WC.region ?_
  refine WL.lv rfl (LV.mv rfl) ?_
  refine WL.call rfl (XC.fn Tryz.func43 (by kernel_rfl) rfl rfl rfl) (rtokens_calls (s := s) (by first | omega | (simp only [ByteArray.size_append, lit1]; omega))) ?_
  rintro v_ w2 ⟨A1, c1, rfl, hS2⟩
  have hS3 := SH.joinN hS1 hS2
  refine WL.lv rfl (LV.asg rfl) ?_
  refine WL.nil (thenQ.n ?_)
  iterate 2 refine WC.seq ?_
  refine WC.region ?_
  refine WL.lv rfl (LV.asg rfl) ?_
  refine WL.nil (thenQ.n ?_)
  refine WC.block ?_
  refine WC.loop (fun m_ f_ w_ => ∃ (A_out : Option Addr) (c_out : Nat) (out : List ByteArray) (i : Int), (0 ≤ i) ∧ (i ≤ ((TOK s).length : Int)) ∧ (out = SRTB (WDL ((TOK s).take i.toNat))) ∧ ((out.length : Int) ≤ i) ∧ SH w No w_ [rowE eS 9 (.slice A1 ((TOK s).length) c1) (TOK s), rowE eS 9 (.slice A_out out.length c_out) out] ∧ m_ = ((((TOK s).length : Int) - i).toNat) ∧ Weak (lit [(3, (.slice A_out out.length c_out)), (4, (.slice A1 ((TOK s).length) c1)), (5, (.int .i64 i))]) f_) _ ⟨(some ⟨b1, 0, none⟩), 0, [], 0, by omega, by omega, rfl, (by simp), hS3, rfl, Weak.cons rfl <| Weak.cons rfl <| Weak.cons rfl <| Weak.nil _⟩ ?_
  rintro m1 f1 w3 ⟨A_out, c_out, out, i, ilo, ihi, q1, q2, hL1, rfl, hw1⟩
  refine WC.weak hw1 ?_
  clear hw1
  iterate 2 refine WC.seq ?_
  refine WC.region ?_
  iterate 2 refine WL.lv rfl (LV.mv rfl) ?_
  refine WL.lv rfl (LV.lenL Tryz.underlying23 rfl) ?_
  refine WL.lv rfl (LV.ltI rfl rfl) ?_
  refine WL.nil (thenQ.n ?_)
  refine WC.condP (p := i < ((TOK s).length : Int)) rfl (fun hc1 => ?_) (fun hc1 => ?_)
  · skip
    refine WC.skip (thenQ.n ?_)
    refine WC.seq ?_
    refine WC.block ?_
    refine WC.seq ?_
    refine WC.region ?_
    iterate 2 refine WL.lv rfl (LV.mv rfl) ?_
    have htp_ := TOK_pos (getD_mem (l := TOK s) (d := ByteArray.empty) (i := i.toNat) (by omega))
    obtain ⟨A2, c2, e1, g1⟩ := St.elt (SH.rd hL1 (.head _)) ByteArray.empty i (by omega) (by omega)
    refine WL.lv rfl (LV.idxA Tryz.underlying23 ti9.sz rfl e1 rfl (by omega) (by omega)) ?_
    refine WL.lv rfl (LV.load1 (v := (.string ((TOK s).getD (i).toNat ByteArray.empty))) Tryz.underlying9 rfl rfl (g1 _ (KB.refl No _) 0 _ rfl)) ?_
    refine WL.lv rfl (LV.idxSi (i := (0 : Int)) Tryz.underlying9 rfl rfl (by omega) (by omega)) ?_
    refine WL.lv rfl (LV.asg rfl) ?_
    refine WL.nil (thenQ.n ?_)
    refine WC.seq ?_
    refine WC.region ?_
    refine WL.lv rfl (LV.mv rfl) ?_
    rcases Decidable.em ((gI (bytesOf ((TOK s).getD (i).toNat ByteArray.empty)) ((0 : Int))) ≥ 48) with hg1 | hg1
    · refine WL.lv rfl (LV.as (LV.geI rfl rfl) (decide_eq_true hg1)) ?_
      iterate 2 refine WL.lv rfl (LV.mv rfl) ?_
      rcases Decidable.em ((gI (bytesOf ((TOK s).getD (i).toNat ByteArray.empty)) ((0 : Int))) ≤ 57) with hg2 | hg2
      · refine WL.lv rfl (LV.as (LV.leI rfl rfl) (decide_eq_true hg2)) ?_
        refine WL.lv rfl (LV.pickT rfl rfl) ?_
        refine WL.lv rfl (LV.mv rfl) ?_
        iterate 6 refine WL.off rfl ?_
        refine WL.lv rfl (LV.pickT rfl rfl) ?_
        refine WL.lv rfl (LV.mv rfl) ?_
        iterate 2 refine WL.off rfl ?_
        refine WL.lv rfl (LV.pickT rfl rfl) ?_
        refine WL.lv rfl (LV.mv rfl) ?_
        iterate 6 refine WL.off rfl ?_
        refine WL.lv rfl (LV.pickT rfl rfl) ?_
        refine WL.nil (thenQ.n ?_)
        refine WC.condT rfl ?_
        refine WC.region ?_
        iterate 3 refine WL.lv rfl (LV.mv rfl) ?_
        obtain ⟨A3, c3, e2, g2⟩ := St.elt (SH.rd hL1 (.head _)) ByteArray.empty i (by omega) (by omega)
        refine WL.lv rfl (LV.idxA Tryz.underlying23 ti9.sz rfl e2 rfl (by omega) (by omega)) ?_
        refine WL.lv rfl (LV.load1 (v := (.string ((TOK s).getD (i).toNat ByteArray.empty))) Tryz.underlying9 rfl rfl (g2 _ (KB.refl No _) 0 _ rfl)) ?_
        refine WL.call rfl (XC.fn Tryz.func38 (by kernel_rfl) rfl rfl rfl) (rlower_calls (s := ((TOK s).getD (i).toNat ByteArray.empty)) (by omega)) ?_
        rintro v_ w4 ⟨rfl, hk2⟩
        have hS4 := SH.same hL1 hk2
        have hS5 : SH w No w4 [rowE eS 9 (.slice A_out out.length c_out) out, rowE eS 9 (.slice A1 ((TOK s).length) c1) (TOK s)] := (SH.front [_] hS4)
        have hT1 := SH.sub (Es := [_]) hS5
        refine WL.call rfl (XC.fn Tryz.func28 (by kernel_rfl) rfl rfl rfl) (with_calls (l := out) (s := (LOW ((TOK s).getD (i).toNat ByteArray.empty))) hT1 (by omega)) ?_
        rintro v_ w5 ⟨A4, c4, rfl, hU1⟩
        have hS6 := SH.back (Es := [_]) hS5 hU1
        refine WL.lv rfl (LV.asg rfl) ?_
        refine WL.nil (blockQ.n <| thenQ.n ?_)
        refine WC.region ?_
        refine WL.lv rfl (LV.mv rfl) ?_
        refine WL.lv rfl (LV.add rfl rfl (wr64 (by omega) (by omega))) ?_
        refine WL.lv rfl (LV.asg rfl) ?_
        refine WL.nil (thenQ.n ?_)
        have hS7 : SH w No w5 [rowE eS 9 (.slice A1 ((TOK s).length) c1) (TOK s), rowE eS 9 (.slice A4 ((INSB (LOW ((TOK s).getD (i).toNat ByteArray.empty)) out).length) c4) (INSB (LOW ((TOK s).getD (i).toNat ByteArray.empty)) out)] := (SH.front [_] hS6)
        exact ⟨_, by omega, A4, c4, (INSB (LOW ((TOK s).getD (i).toNat ByteArray.empty)) out), i + 1, by omega, by omega, ((by rw [ofd_yes ilo (by omega) (by unfold ISW; omega), ← q1])), (by first | omega | (have h_ := INSB_len (LOW ((TOK s).getD i.toNat ByteArray.empty)) out; omega)), hS7, rfl, Weak.cons rfl <| Weak.cons rfl <| Weak.cons rfl <| Weak.nil _⟩
      · refine WL.lv rfl (LV.as (LV.leI rfl rfl) (decide_eq_false hg2)) ?_
        refine WL.lv rfl (LV.pickT rfl rfl) ?_
        iterate 2 refine WL.lv rfl (LV.mv rfl) ?_
        rcases Decidable.em ((gI (bytesOf ((TOK s).getD (i).toNat ByteArray.empty)) ((0 : Int))) ≥ 65) with hg3 | hg3
        · refine WL.lv rfl (LV.as (LV.geI rfl rfl) (decide_eq_true hg3)) ?_
          iterate 2 refine WL.lv rfl (LV.mv rfl) ?_
          rcases Decidable.em ((gI (bytesOf ((TOK s).getD (i).toNat ByteArray.empty)) ((0 : Int))) ≤ 90) with hg4 | hg4
          · refine WL.lv rfl (LV.as (LV.leI rfl rfl) (decide_eq_true hg4)) ?_
            refine WL.lv rfl (LV.pickT rfl rfl) ?_
            refine WL.lv rfl (LV.pickF rfl rfl) ?_
            refine WL.lv rfl (LV.mv rfl) ?_
            iterate 2 refine WL.off rfl ?_
            refine WL.lv rfl (LV.pickT rfl rfl) ?_
            refine WL.lv rfl (LV.mv rfl) ?_
            iterate 6 refine WL.off rfl ?_
            refine WL.lv rfl (LV.pickT rfl rfl) ?_
            refine WL.nil (thenQ.n ?_)
            refine WC.condT rfl ?_
            refine WC.region ?_
            iterate 3 refine WL.lv rfl (LV.mv rfl) ?_
            obtain ⟨A5, c5, e3, g3⟩ := St.elt (SH.rd hL1 (.head _)) ByteArray.empty i (by omega) (by omega)
            refine WL.lv rfl (LV.idxA Tryz.underlying23 ti9.sz rfl e3 rfl (by omega) (by omega)) ?_
            refine WL.lv rfl (LV.load1 (v := (.string ((TOK s).getD (i).toNat ByteArray.empty))) Tryz.underlying9 rfl rfl (g3 _ (KB.refl No _) 0 _ rfl)) ?_
            refine WL.call rfl (XC.fn Tryz.func38 (by kernel_rfl) rfl rfl rfl) (rlower_calls (s := ((TOK s).getD (i).toNat ByteArray.empty)) (by omega)) ?_
            rintro v_ w6 ⟨rfl, hk3⟩
            have hS8 := SH.same hL1 hk3
            have hS9 : SH w No w6 [rowE eS 9 (.slice A_out out.length c_out) out, rowE eS 9 (.slice A1 ((TOK s).length) c1) (TOK s)] := (SH.front [_] hS8)
            have hT2 := SH.sub (Es := [_]) hS9
            refine WL.call rfl (XC.fn Tryz.func28 (by kernel_rfl) rfl rfl rfl) (with_calls (l := out) (s := (LOW ((TOK s).getD (i).toNat ByteArray.empty))) hT2 (by omega)) ?_
            rintro v_ w7 ⟨A6, c6, rfl, hU2⟩
            have hS10 := SH.back (Es := [_]) hS9 hU2
            refine WL.lv rfl (LV.asg rfl) ?_
            refine WL.nil (blockQ.n <| thenQ.n ?_)
            refine WC.region ?_
            refine WL.lv rfl (LV.mv rfl) ?_
            refine WL.lv rfl (LV.add rfl rfl (wr64 (by omega) (by omega))) ?_
            refine WL.lv rfl (LV.asg rfl) ?_
            refine WL.nil (thenQ.n ?_)
            have hS11 : SH w No w7 [rowE eS 9 (.slice A1 ((TOK s).length) c1) (TOK s), rowE eS 9 (.slice A6 ((INSB (LOW ((TOK s).getD (i).toNat ByteArray.empty)) out).length) c6) (INSB (LOW ((TOK s).getD (i).toNat ByteArray.empty)) out)] := (SH.front [_] hS10)
            exact ⟨_, by omega, A6, c6, (INSB (LOW ((TOK s).getD (i).toNat ByteArray.empty)) out), i + 1, by omega, by omega, ((by rw [ofd_yes ilo (by omega) (by unfold ISW; omega), ← q1])), (by first | omega | (have h_ := INSB_len (LOW ((TOK s).getD i.toNat ByteArray.empty)) out; omega)), hS11, rfl, Weak.cons rfl <| Weak.cons rfl <| Weak.cons rfl <| Weak.nil _⟩
          · refine WL.lv rfl (LV.as (LV.leI rfl rfl) (decide_eq_false hg4)) ?_
            refine WL.lv rfl (LV.pickT rfl rfl) ?_
            refine WL.lv rfl (LV.pickF rfl rfl) ?_
            iterate 2 refine WL.lv rfl (LV.mv rfl) ?_
            rcases Decidable.em ((gI (bytesOf ((TOK s).getD (i).toNat ByteArray.empty)) ((0 : Int))) = 95) with hg5 | hg5
            · refine WL.lv rfl (LV.as (LV.eqI rfl rfl) (decide_eq_true hg5)) ?_
              refine WL.lv rfl (LV.pickF rfl rfl) ?_
              refine WL.lv rfl (LV.mv rfl) ?_
              iterate 6 refine WL.off rfl ?_
              refine WL.lv rfl (LV.pickT rfl rfl) ?_
              refine WL.nil (thenQ.n ?_)
              refine WC.condT rfl ?_
              refine WC.region ?_
              iterate 3 refine WL.lv rfl (LV.mv rfl) ?_
              obtain ⟨A7, c7, e4, g4⟩ := St.elt (SH.rd hL1 (.head _)) ByteArray.empty i (by omega) (by omega)
              refine WL.lv rfl (LV.idxA Tryz.underlying23 ti9.sz rfl e4 rfl (by omega) (by omega)) ?_
              refine WL.lv rfl (LV.load1 (v := (.string ((TOK s).getD (i).toNat ByteArray.empty))) Tryz.underlying9 rfl rfl (g4 _ (KB.refl No _) 0 _ rfl)) ?_
              refine WL.call rfl (XC.fn Tryz.func38 (by kernel_rfl) rfl rfl rfl) (rlower_calls (s := ((TOK s).getD (i).toNat ByteArray.empty)) (by omega)) ?_
              rintro v_ w8 ⟨rfl, hk4⟩
              have hS12 := SH.same hL1 hk4
              have hS13 : SH w No w8 [rowE eS 9 (.slice A_out out.length c_out) out, rowE eS 9 (.slice A1 ((TOK s).length) c1) (TOK s)] := (SH.front [_] hS12)
              have hT3 := SH.sub (Es := [_]) hS13
              refine WL.call rfl (XC.fn Tryz.func28 (by kernel_rfl) rfl rfl rfl) (with_calls (l := out) (s := (LOW ((TOK s).getD (i).toNat ByteArray.empty))) hT3 (by omega)) ?_
              rintro v_ w9 ⟨A8, c8, rfl, hU3⟩
              have hS14 := SH.back (Es := [_]) hS13 hU3
              refine WL.lv rfl (LV.asg rfl) ?_
              refine WL.nil (blockQ.n <| thenQ.n ?_)
              refine WC.region ?_
              refine WL.lv rfl (LV.mv rfl) ?_
              refine WL.lv rfl (LV.add rfl rfl (wr64 (by omega) (by omega))) ?_
              refine WL.lv rfl (LV.asg rfl) ?_
              refine WL.nil (thenQ.n ?_)
              have hS15 : SH w No w9 [rowE eS 9 (.slice A1 ((TOK s).length) c1) (TOK s), rowE eS 9 (.slice A8 ((INSB (LOW ((TOK s).getD (i).toNat ByteArray.empty)) out).length) c8) (INSB (LOW ((TOK s).getD (i).toNat ByteArray.empty)) out)] := (SH.front [_] hS14)
              exact ⟨_, by omega, A8, c8, (INSB (LOW ((TOK s).getD (i).toNat ByteArray.empty)) out), i + 1, by omega, by omega, ((by rw [ofd_yes ilo (by omega) (by unfold ISW; omega), ← q1])), (by first | omega | (have h_ := INSB_len (LOW ((TOK s).getD i.toNat ByteArray.empty)) out; omega)), hS15, rfl, Weak.cons rfl <| Weak.cons rfl <| Weak.cons rfl <| Weak.nil _⟩
            · refine WL.lv rfl (LV.as (LV.eqI rfl rfl) (decide_eq_false hg5)) ?_
              refine WL.lv rfl (LV.pickF rfl rfl) ?_
              iterate 2 refine WL.lv rfl (LV.mv rfl) ?_
              rcases Decidable.em ((gI (bytesOf ((TOK s).getD (i).toNat ByteArray.empty)) ((0 : Int))) ≥ 97) with hg6 | hg6
              · refine WL.lv rfl (LV.as (LV.geI rfl rfl) (decide_eq_true hg6)) ?_
                iterate 2 refine WL.lv rfl (LV.mv rfl) ?_
                refine WL.lv rfl (LV.leI rfl rfl) ?_
                refine WL.lv rfl (LV.pickT rfl rfl) ?_
                refine WL.lv rfl (LV.pickF rfl rfl) ?_
                refine WL.nil (thenQ.n ?_)
                refine WC.condP (p := (gI (bytesOf ((TOK s).getD (i).toNat ByteArray.empty)) ((0 : Int))) ≤ 122) rfl (fun hw => ?_) (fun hw => ?_)
                · skip
                  refine WC.region ?_
                  iterate 3 refine WL.lv rfl (LV.mv rfl) ?_
                  obtain ⟨A9, c9, e5, g5⟩ := St.elt (SH.rd hL1 (.head _)) ByteArray.empty i (by omega) (by omega)
                  refine WL.lv rfl (LV.idxA Tryz.underlying23 ti9.sz rfl e5 rfl (by omega) (by omega)) ?_
                  refine WL.lv rfl (LV.load1 (v := (.string ((TOK s).getD (i).toNat ByteArray.empty))) Tryz.underlying9 rfl rfl (g5 _ (KB.refl No _) 0 _ rfl)) ?_
                  refine WL.call rfl (XC.fn Tryz.func38 (by kernel_rfl) rfl rfl rfl) (rlower_calls (s := ((TOK s).getD (i).toNat ByteArray.empty)) (by omega)) ?_
                  rintro v_ w10 ⟨rfl, hk5⟩
                  have hS16 := SH.same hL1 hk5
                  have hS17 : SH w No w10 [rowE eS 9 (.slice A_out out.length c_out) out, rowE eS 9 (.slice A1 ((TOK s).length) c1) (TOK s)] := (SH.front [_] hS16)
                  have hT4 := SH.sub (Es := [_]) hS17
                  refine WL.call rfl (XC.fn Tryz.func28 (by kernel_rfl) rfl rfl rfl) (with_calls (l := out) (s := (LOW ((TOK s).getD (i).toNat ByteArray.empty))) hT4 (by omega)) ?_
                  rintro v_ w11 ⟨A10, c10, rfl, hU4⟩
                  have hS18 := SH.back (Es := [_]) hS17 hU4
                  refine WL.lv rfl (LV.asg rfl) ?_
                  refine WL.nil (blockQ.n <| thenQ.n ?_)
                  refine WC.region ?_
                  refine WL.lv rfl (LV.mv rfl) ?_
                  refine WL.lv rfl (LV.add rfl rfl (wr64 (by omega) (by omega))) ?_
                  refine WL.lv rfl (LV.asg rfl) ?_
                  refine WL.nil (thenQ.n ?_)
                  have hS19 : SH w No w11 [rowE eS 9 (.slice A1 ((TOK s).length) c1) (TOK s), rowE eS 9 (.slice A10 ((INSB (LOW ((TOK s).getD (i).toNat ByteArray.empty)) out).length) c10) (INSB (LOW ((TOK s).getD (i).toNat ByteArray.empty)) out)] := (SH.front [_] hS18)
                  exact ⟨_, by omega, A10, c10, (INSB (LOW ((TOK s).getD (i).toNat ByteArray.empty)) out), i + 1, by omega, by omega, ((by rw [ofd_yes ilo (by omega) (by unfold ISW; omega), ← q1])), (by first | omega | (have h_ := INSB_len (LOW ((TOK s).getD i.toNat ByteArray.empty)) out; omega)), hS19, rfl, Weak.cons rfl <| Weak.cons rfl <| Weak.cons rfl <| Weak.nil _⟩
                · skip
                  refine WC.skip (blockQ.n <| thenQ.n ?_)
                  refine WC.region ?_
                  refine WL.lv rfl (LV.mv rfl) ?_
                  refine WL.lv rfl (LV.add rfl rfl (wr64 (by omega) (by omega))) ?_
                  refine WL.lv rfl (LV.asg rfl) ?_
                  refine WL.nil (thenQ.n ?_)
                  exact ⟨_, by omega, A_out, c_out, out, i + 1, by omega, by omega, ((by rw [ofd_no ilo (by omega) (fun h_ => by unfold ISW at h_; omega), ← q1])), (by first | omega | (have h_ := INSB_len (LOW ((TOK s).getD i.toNat ByteArray.empty)) out; omega)), hL1, rfl, Weak.cons rfl <| Weak.cons rfl <| Weak.cons rfl <| Weak.nil _⟩
              · refine WL.lv rfl (LV.as (LV.geI rfl rfl) (decide_eq_false hg6)) ?_
                refine WL.lv rfl (LV.mv rfl) ?_
                iterate 2 refine WL.off rfl ?_
                iterate 2 refine WL.lv rfl (LV.pickF rfl rfl) ?_
                refine WL.nil (thenQ.n ?_)
                refine WC.condF rfl ?_
                refine WC.skip (blockQ.n <| thenQ.n ?_)
                refine WC.region ?_
                refine WL.lv rfl (LV.mv rfl) ?_
                refine WL.lv rfl (LV.add rfl rfl (wr64 (by omega) (by omega))) ?_
                refine WL.lv rfl (LV.asg rfl) ?_
                refine WL.nil (thenQ.n ?_)
                exact ⟨_, by omega, A_out, c_out, out, i + 1, by omega, by omega, ((by rw [ofd_no ilo (by omega) (fun h_ => by unfold ISW at h_; omega), ← q1])), (by first | omega | (have h_ := INSB_len (LOW ((TOK s).getD i.toNat ByteArray.empty)) out; omega)), hL1, rfl, Weak.cons rfl <| Weak.cons rfl <| Weak.cons rfl <| Weak.nil _⟩
        · refine WL.lv rfl (LV.as (LV.geI rfl rfl) (decide_eq_false hg3)) ?_
          refine WL.lv rfl (LV.mv rfl) ?_
          iterate 2 refine WL.off rfl ?_
          iterate 2 refine WL.lv rfl (LV.pickF rfl rfl) ?_
          iterate 2 refine WL.lv rfl (LV.mv rfl) ?_
          rcases Decidable.em ((gI (bytesOf ((TOK s).getD (i).toNat ByteArray.empty)) ((0 : Int))) = 95) with hg7 | hg7
          · refine WL.lv rfl (LV.as (LV.eqI rfl rfl) (decide_eq_true hg7)) ?_
            refine WL.lv rfl (LV.pickF rfl rfl) ?_
            refine WL.lv rfl (LV.mv rfl) ?_
            iterate 6 refine WL.off rfl ?_
            refine WL.lv rfl (LV.pickT rfl rfl) ?_
            refine WL.nil (thenQ.n ?_)
            refine WC.condT rfl ?_
            refine WC.region ?_
            iterate 3 refine WL.lv rfl (LV.mv rfl) ?_
            obtain ⟨A11, c11, e6, g6⟩ := St.elt (SH.rd hL1 (.head _)) ByteArray.empty i (by omega) (by omega)
            refine WL.lv rfl (LV.idxA Tryz.underlying23 ti9.sz rfl e6 rfl (by omega) (by omega)) ?_
            refine WL.lv rfl (LV.load1 (v := (.string ((TOK s).getD (i).toNat ByteArray.empty))) Tryz.underlying9 rfl rfl (g6 _ (KB.refl No _) 0 _ rfl)) ?_
            refine WL.call rfl (XC.fn Tryz.func38 (by kernel_rfl) rfl rfl rfl) (rlower_calls (s := ((TOK s).getD (i).toNat ByteArray.empty)) (by omega)) ?_
            rintro v_ w12 ⟨rfl, hk6⟩
            have hS20 := SH.same hL1 hk6
            have hS21 : SH w No w12 [rowE eS 9 (.slice A_out out.length c_out) out, rowE eS 9 (.slice A1 ((TOK s).length) c1) (TOK s)] := (SH.front [_] hS20)
            have hT5 := SH.sub (Es := [_]) hS21
            refine WL.call rfl (XC.fn Tryz.func28 (by kernel_rfl) rfl rfl rfl) (with_calls (l := out) (s := (LOW ((TOK s).getD (i).toNat ByteArray.empty))) hT5 (by omega)) ?_
            rintro v_ w13 ⟨A12, c12, rfl, hU5⟩
            have hS22 := SH.back (Es := [_]) hS21 hU5
            refine WL.lv rfl (LV.asg rfl) ?_
            refine WL.nil (blockQ.n <| thenQ.n ?_)
            refine WC.region ?_
            refine WL.lv rfl (LV.mv rfl) ?_
            refine WL.lv rfl (LV.add rfl rfl (wr64 (by omega) (by omega))) ?_
            refine WL.lv rfl (LV.asg rfl) ?_
            refine WL.nil (thenQ.n ?_)
            have hS23 : SH w No w13 [rowE eS 9 (.slice A1 ((TOK s).length) c1) (TOK s), rowE eS 9 (.slice A12 ((INSB (LOW ((TOK s).getD (i).toNat ByteArray.empty)) out).length) c12) (INSB (LOW ((TOK s).getD (i).toNat ByteArray.empty)) out)] := (SH.front [_] hS22)
            exact ⟨_, by omega, A12, c12, (INSB (LOW ((TOK s).getD (i).toNat ByteArray.empty)) out), i + 1, by omega, by omega, ((by rw [ofd_yes ilo (by omega) (by unfold ISW; omega), ← q1])), (by first | omega | (have h_ := INSB_len (LOW ((TOK s).getD i.toNat ByteArray.empty)) out; omega)), hS23, rfl, Weak.cons rfl <| Weak.cons rfl <| Weak.cons rfl <| Weak.nil _⟩
          · refine WL.lv rfl (LV.as (LV.eqI rfl rfl) (decide_eq_false hg7)) ?_
            refine WL.lv rfl (LV.pickF rfl rfl) ?_
            iterate 2 refine WL.lv rfl (LV.mv rfl) ?_
            rcases Decidable.em ((gI (bytesOf ((TOK s).getD (i).toNat ByteArray.empty)) ((0 : Int))) ≥ 97) with hg8 | hg8
            · refine WL.lv rfl (LV.as (LV.geI rfl rfl) (decide_eq_true hg8)) ?_
              iterate 2 refine WL.lv rfl (LV.mv rfl) ?_
              refine WL.lv rfl (LV.leI rfl rfl) ?_
              refine WL.lv rfl (LV.pickT rfl rfl) ?_
              refine WL.lv rfl (LV.pickF rfl rfl) ?_
              refine WL.nil (thenQ.n ?_)
              refine WC.condP (p := (gI (bytesOf ((TOK s).getD (i).toNat ByteArray.empty)) ((0 : Int))) ≤ 122) rfl (fun hw => ?_) (fun hw => ?_)
              · skip
                refine WC.region ?_
                iterate 3 refine WL.lv rfl (LV.mv rfl) ?_
                obtain ⟨A13, c13, e7, g7⟩ := St.elt (SH.rd hL1 (.head _)) ByteArray.empty i (by omega) (by omega)
                refine WL.lv rfl (LV.idxA Tryz.underlying23 ti9.sz rfl e7 rfl (by omega) (by omega)) ?_
                refine WL.lv rfl (LV.load1 (v := (.string ((TOK s).getD (i).toNat ByteArray.empty))) Tryz.underlying9 rfl rfl (g7 _ (KB.refl No _) 0 _ rfl)) ?_
                refine WL.call rfl (XC.fn Tryz.func38 (by kernel_rfl) rfl rfl rfl) (rlower_calls (s := ((TOK s).getD (i).toNat ByteArray.empty)) (by omega)) ?_
                rintro v_ w14 ⟨rfl, hk7⟩
                have hS24 := SH.same hL1 hk7
                have hS25 : SH w No w14 [rowE eS 9 (.slice A_out out.length c_out) out, rowE eS 9 (.slice A1 ((TOK s).length) c1) (TOK s)] := (SH.front [_] hS24)
                have hT6 := SH.sub (Es := [_]) hS25
                refine WL.call rfl (XC.fn Tryz.func28 (by kernel_rfl) rfl rfl rfl) (with_calls (l := out) (s := (LOW ((TOK s).getD (i).toNat ByteArray.empty))) hT6 (by omega)) ?_
                rintro v_ w15 ⟨A14, c14, rfl, hU6⟩
                have hS26 := SH.back (Es := [_]) hS25 hU6
                refine WL.lv rfl (LV.asg rfl) ?_
                refine WL.nil (blockQ.n <| thenQ.n ?_)
                refine WC.region ?_
                refine WL.lv rfl (LV.mv rfl) ?_
                refine WL.lv rfl (LV.add rfl rfl (wr64 (by omega) (by omega))) ?_
                refine WL.lv rfl (LV.asg rfl) ?_
                refine WL.nil (thenQ.n ?_)
                have hS27 : SH w No w15 [rowE eS 9 (.slice A1 ((TOK s).length) c1) (TOK s), rowE eS 9 (.slice A14 ((INSB (LOW ((TOK s).getD (i).toNat ByteArray.empty)) out).length) c14) (INSB (LOW ((TOK s).getD (i).toNat ByteArray.empty)) out)] := (SH.front [_] hS26)
                exact ⟨_, by omega, A14, c14, (INSB (LOW ((TOK s).getD (i).toNat ByteArray.empty)) out), i + 1, by omega, by omega, ((by rw [ofd_yes ilo (by omega) (by unfold ISW; omega), ← q1])), (by first | omega | (have h_ := INSB_len (LOW ((TOK s).getD i.toNat ByteArray.empty)) out; omega)), hS27, rfl, Weak.cons rfl <| Weak.cons rfl <| Weak.cons rfl <| Weak.nil _⟩
              · skip
                refine WC.skip (blockQ.n <| thenQ.n ?_)
                refine WC.region ?_
                refine WL.lv rfl (LV.mv rfl) ?_
                refine WL.lv rfl (LV.add rfl rfl (wr64 (by omega) (by omega))) ?_
                refine WL.lv rfl (LV.asg rfl) ?_
                refine WL.nil (thenQ.n ?_)
                exact ⟨_, by omega, A_out, c_out, out, i + 1, by omega, by omega, ((by rw [ofd_no ilo (by omega) (fun h_ => by unfold ISW at h_; omega), ← q1])), (by first | omega | (have h_ := INSB_len (LOW ((TOK s).getD i.toNat ByteArray.empty)) out; omega)), hL1, rfl, Weak.cons rfl <| Weak.cons rfl <| Weak.cons rfl <| Weak.nil _⟩
            · refine WL.lv rfl (LV.as (LV.geI rfl rfl) (decide_eq_false hg8)) ?_
              refine WL.lv rfl (LV.mv rfl) ?_
              iterate 2 refine WL.off rfl ?_
              iterate 2 refine WL.lv rfl (LV.pickF rfl rfl) ?_
              refine WL.nil (thenQ.n ?_)
              refine WC.condF rfl ?_
              refine WC.skip (blockQ.n <| thenQ.n ?_)
              refine WC.region ?_
              refine WL.lv rfl (LV.mv rfl) ?_
              refine WL.lv rfl (LV.add rfl rfl (wr64 (by omega) (by omega))) ?_
              refine WL.lv rfl (LV.asg rfl) ?_
              refine WL.nil (thenQ.n ?_)
              exact ⟨_, by omega, A_out, c_out, out, i + 1, by omega, by omega, ((by rw [ofd_no ilo (by omega) (fun h_ => by unfold ISW at h_; omega), ← q1])), (by first | omega | (have h_ := INSB_len (LOW ((TOK s).getD i.toNat ByteArray.empty)) out; omega)), hL1, rfl, Weak.cons rfl <| Weak.cons rfl <| Weak.cons rfl <| Weak.nil _⟩
    · refine WL.lv rfl (LV.as (LV.geI rfl rfl) (decide_eq_false hg1)) ?_
      refine WL.lv rfl (LV.mv rfl) ?_
      iterate 2 refine WL.off rfl ?_
      refine WL.lv rfl (LV.pickF rfl rfl) ?_
      iterate 2 refine WL.lv rfl (LV.mv rfl) ?_
      rcases Decidable.em ((gI (bytesOf ((TOK s).getD (i).toNat ByteArray.empty)) ((0 : Int))) ≥ 65) with hg9 | hg9
      · refine WL.lv rfl (LV.as (LV.geI rfl rfl) (decide_eq_true hg9)) ?_
        iterate 2 refine WL.lv rfl (LV.mv rfl) ?_
        rcases Decidable.em ((gI (bytesOf ((TOK s).getD (i).toNat ByteArray.empty)) ((0 : Int))) ≤ 90) with hg10 | hg10
        · refine WL.lv rfl (LV.as (LV.leI rfl rfl) (decide_eq_true hg10)) ?_
          refine WL.lv rfl (LV.pickT rfl rfl) ?_
          refine WL.lv rfl (LV.pickF rfl rfl) ?_
          refine WL.lv rfl (LV.mv rfl) ?_
          iterate 2 refine WL.off rfl ?_
          refine WL.lv rfl (LV.pickT rfl rfl) ?_
          refine WL.lv rfl (LV.mv rfl) ?_
          iterate 6 refine WL.off rfl ?_
          refine WL.lv rfl (LV.pickT rfl rfl) ?_
          refine WL.nil (thenQ.n ?_)
          refine WC.condT rfl ?_
          refine WC.region ?_
          iterate 3 refine WL.lv rfl (LV.mv rfl) ?_
          obtain ⟨A15, c15, e8, g8⟩ := St.elt (SH.rd hL1 (.head _)) ByteArray.empty i (by omega) (by omega)
          refine WL.lv rfl (LV.idxA Tryz.underlying23 ti9.sz rfl e8 rfl (by omega) (by omega)) ?_
          refine WL.lv rfl (LV.load1 (v := (.string ((TOK s).getD (i).toNat ByteArray.empty))) Tryz.underlying9 rfl rfl (g8 _ (KB.refl No _) 0 _ rfl)) ?_
          refine WL.call rfl (XC.fn Tryz.func38 (by kernel_rfl) rfl rfl rfl) (rlower_calls (s := ((TOK s).getD (i).toNat ByteArray.empty)) (by omega)) ?_
          rintro v_ w16 ⟨rfl, hk8⟩
          have hS28 := SH.same hL1 hk8
          have hS29 : SH w No w16 [rowE eS 9 (.slice A_out out.length c_out) out, rowE eS 9 (.slice A1 ((TOK s).length) c1) (TOK s)] := (SH.front [_] hS28)
          have hT7 := SH.sub (Es := [_]) hS29
          refine WL.call rfl (XC.fn Tryz.func28 (by kernel_rfl) rfl rfl rfl) (with_calls (l := out) (s := (LOW ((TOK s).getD (i).toNat ByteArray.empty))) hT7 (by omega)) ?_
          rintro v_ w17 ⟨A16, c16, rfl, hU7⟩
          have hS30 := SH.back (Es := [_]) hS29 hU7
          refine WL.lv rfl (LV.asg rfl) ?_
          refine WL.nil (blockQ.n <| thenQ.n ?_)
          refine WC.region ?_
          refine WL.lv rfl (LV.mv rfl) ?_
          refine WL.lv rfl (LV.add rfl rfl (wr64 (by omega) (by omega))) ?_
          refine WL.lv rfl (LV.asg rfl) ?_
          refine WL.nil (thenQ.n ?_)
          have hS31 : SH w No w17 [rowE eS 9 (.slice A1 ((TOK s).length) c1) (TOK s), rowE eS 9 (.slice A16 ((INSB (LOW ((TOK s).getD (i).toNat ByteArray.empty)) out).length) c16) (INSB (LOW ((TOK s).getD (i).toNat ByteArray.empty)) out)] := (SH.front [_] hS30)
          exact ⟨_, by omega, A16, c16, (INSB (LOW ((TOK s).getD (i).toNat ByteArray.empty)) out), i + 1, by omega, by omega, ((by rw [ofd_yes ilo (by omega) (by unfold ISW; omega), ← q1])), (by first | omega | (have h_ := INSB_len (LOW ((TOK s).getD i.toNat ByteArray.empty)) out; omega)), hS31, rfl, Weak.cons rfl <| Weak.cons rfl <| Weak.cons rfl <| Weak.nil _⟩
        · refine WL.lv rfl (LV.as (LV.leI rfl rfl) (decide_eq_false hg10)) ?_
          refine WL.lv rfl (LV.pickT rfl rfl) ?_
          refine WL.lv rfl (LV.pickF rfl rfl) ?_
          iterate 2 refine WL.lv rfl (LV.mv rfl) ?_
          rcases Decidable.em ((gI (bytesOf ((TOK s).getD (i).toNat ByteArray.empty)) ((0 : Int))) = 95) with hg11 | hg11
          · refine WL.lv rfl (LV.as (LV.eqI rfl rfl) (decide_eq_true hg11)) ?_
            refine WL.lv rfl (LV.pickF rfl rfl) ?_
            refine WL.lv rfl (LV.mv rfl) ?_
            iterate 6 refine WL.off rfl ?_
            refine WL.lv rfl (LV.pickT rfl rfl) ?_
            refine WL.nil (thenQ.n ?_)
            refine WC.condT rfl ?_
            refine WC.region ?_
            iterate 3 refine WL.lv rfl (LV.mv rfl) ?_
            obtain ⟨A17, c17, e9, g9⟩ := St.elt (SH.rd hL1 (.head _)) ByteArray.empty i (by omega) (by omega)
            refine WL.lv rfl (LV.idxA Tryz.underlying23 ti9.sz rfl e9 rfl (by omega) (by omega)) ?_
            refine WL.lv rfl (LV.load1 (v := (.string ((TOK s).getD (i).toNat ByteArray.empty))) Tryz.underlying9 rfl rfl (g9 _ (KB.refl No _) 0 _ rfl)) ?_
            refine WL.call rfl (XC.fn Tryz.func38 (by kernel_rfl) rfl rfl rfl) (rlower_calls (s := ((TOK s).getD (i).toNat ByteArray.empty)) (by omega)) ?_
            rintro v_ w18 ⟨rfl, hk9⟩
            have hS32 := SH.same hL1 hk9
            have hS33 : SH w No w18 [rowE eS 9 (.slice A_out out.length c_out) out, rowE eS 9 (.slice A1 ((TOK s).length) c1) (TOK s)] := (SH.front [_] hS32)
            have hT8 := SH.sub (Es := [_]) hS33
            refine WL.call rfl (XC.fn Tryz.func28 (by kernel_rfl) rfl rfl rfl) (with_calls (l := out) (s := (LOW ((TOK s).getD (i).toNat ByteArray.empty))) hT8 (by omega)) ?_
            rintro v_ w19 ⟨A18, c18, rfl, hU8⟩
            have hS34 := SH.back (Es := [_]) hS33 hU8
            refine WL.lv rfl (LV.asg rfl) ?_
            refine WL.nil (blockQ.n <| thenQ.n ?_)
            refine WC.region ?_
            refine WL.lv rfl (LV.mv rfl) ?_
            refine WL.lv rfl (LV.add rfl rfl (wr64 (by omega) (by omega))) ?_
            refine WL.lv rfl (LV.asg rfl) ?_
            refine WL.nil (thenQ.n ?_)
            have hS35 : SH w No w19 [rowE eS 9 (.slice A1 ((TOK s).length) c1) (TOK s), rowE eS 9 (.slice A18 ((INSB (LOW ((TOK s).getD (i).toNat ByteArray.empty)) out).length) c18) (INSB (LOW ((TOK s).getD (i).toNat ByteArray.empty)) out)] := (SH.front [_] hS34)
            exact ⟨_, by omega, A18, c18, (INSB (LOW ((TOK s).getD (i).toNat ByteArray.empty)) out), i + 1, by omega, by omega, ((by rw [ofd_yes ilo (by omega) (by unfold ISW; omega), ← q1])), (by first | omega | (have h_ := INSB_len (LOW ((TOK s).getD i.toNat ByteArray.empty)) out; omega)), hS35, rfl, Weak.cons rfl <| Weak.cons rfl <| Weak.cons rfl <| Weak.nil _⟩
          · refine WL.lv rfl (LV.as (LV.eqI rfl rfl) (decide_eq_false hg11)) ?_
            refine WL.lv rfl (LV.pickF rfl rfl) ?_
            iterate 2 refine WL.lv rfl (LV.mv rfl) ?_
            rcases Decidable.em ((gI (bytesOf ((TOK s).getD (i).toNat ByteArray.empty)) ((0 : Int))) ≥ 97) with hg12 | hg12
            · refine WL.lv rfl (LV.as (LV.geI rfl rfl) (decide_eq_true hg12)) ?_
              iterate 2 refine WL.lv rfl (LV.mv rfl) ?_
              refine WL.lv rfl (LV.leI rfl rfl) ?_
              refine WL.lv rfl (LV.pickT rfl rfl) ?_
              refine WL.lv rfl (LV.pickF rfl rfl) ?_
              refine WL.nil (thenQ.n ?_)
              refine WC.condP (p := (gI (bytesOf ((TOK s).getD (i).toNat ByteArray.empty)) ((0 : Int))) ≤ 122) rfl (fun hw => ?_) (fun hw => ?_)
              · skip
                refine WC.region ?_
                iterate 3 refine WL.lv rfl (LV.mv rfl) ?_
                obtain ⟨A19, c19, e10, g10⟩ := St.elt (SH.rd hL1 (.head _)) ByteArray.empty i (by omega) (by omega)
                refine WL.lv rfl (LV.idxA Tryz.underlying23 ti9.sz rfl e10 rfl (by omega) (by omega)) ?_
                refine WL.lv rfl (LV.load1 (v := (.string ((TOK s).getD (i).toNat ByteArray.empty))) Tryz.underlying9 rfl rfl (g10 _ (KB.refl No _) 0 _ rfl)) ?_
                refine WL.call rfl (XC.fn Tryz.func38 (by kernel_rfl) rfl rfl rfl) (rlower_calls (s := ((TOK s).getD (i).toNat ByteArray.empty)) (by omega)) ?_
                rintro v_ w20 ⟨rfl, hk10⟩
                have hS36 := SH.same hL1 hk10
                have hS37 : SH w No w20 [rowE eS 9 (.slice A_out out.length c_out) out, rowE eS 9 (.slice A1 ((TOK s).length) c1) (TOK s)] := (SH.front [_] hS36)
                have hT9 := SH.sub (Es := [_]) hS37
                refine WL.call rfl (XC.fn Tryz.func28 (by kernel_rfl) rfl rfl rfl) (with_calls (l := out) (s := (LOW ((TOK s).getD (i).toNat ByteArray.empty))) hT9 (by omega)) ?_
                rintro v_ w21 ⟨A20, c20, rfl, hU9⟩
                have hS38 := SH.back (Es := [_]) hS37 hU9
                refine WL.lv rfl (LV.asg rfl) ?_
                refine WL.nil (blockQ.n <| thenQ.n ?_)
                refine WC.region ?_
                refine WL.lv rfl (LV.mv rfl) ?_
                refine WL.lv rfl (LV.add rfl rfl (wr64 (by omega) (by omega))) ?_
                refine WL.lv rfl (LV.asg rfl) ?_
                refine WL.nil (thenQ.n ?_)
                have hS39 : SH w No w21 [rowE eS 9 (.slice A1 ((TOK s).length) c1) (TOK s), rowE eS 9 (.slice A20 ((INSB (LOW ((TOK s).getD (i).toNat ByteArray.empty)) out).length) c20) (INSB (LOW ((TOK s).getD (i).toNat ByteArray.empty)) out)] := (SH.front [_] hS38)
                exact ⟨_, by omega, A20, c20, (INSB (LOW ((TOK s).getD (i).toNat ByteArray.empty)) out), i + 1, by omega, by omega, ((by rw [ofd_yes ilo (by omega) (by unfold ISW; omega), ← q1])), (by first | omega | (have h_ := INSB_len (LOW ((TOK s).getD i.toNat ByteArray.empty)) out; omega)), hS39, rfl, Weak.cons rfl <| Weak.cons rfl <| Weak.cons rfl <| Weak.nil _⟩
              · skip
                refine WC.skip (blockQ.n <| thenQ.n ?_)
                refine WC.region ?_
                refine WL.lv rfl (LV.mv rfl) ?_
                refine WL.lv rfl (LV.add rfl rfl (wr64 (by omega) (by omega))) ?_
                refine WL.lv rfl (LV.asg rfl) ?_
                refine WL.nil (thenQ.n ?_)
                exact ⟨_, by omega, A_out, c_out, out, i + 1, by omega, by omega, ((by rw [ofd_no ilo (by omega) (fun h_ => by unfold ISW at h_; omega), ← q1])), (by first | omega | (have h_ := INSB_len (LOW ((TOK s).getD i.toNat ByteArray.empty)) out; omega)), hL1, rfl, Weak.cons rfl <| Weak.cons rfl <| Weak.cons rfl <| Weak.nil _⟩
            · refine WL.lv rfl (LV.as (LV.geI rfl rfl) (decide_eq_false hg12)) ?_
              refine WL.lv rfl (LV.mv rfl) ?_
              iterate 2 refine WL.off rfl ?_
              iterate 2 refine WL.lv rfl (LV.pickF rfl rfl) ?_
              refine WL.nil (thenQ.n ?_)
              refine WC.condF rfl ?_
              refine WC.skip (blockQ.n <| thenQ.n ?_)
              refine WC.region ?_
              refine WL.lv rfl (LV.mv rfl) ?_
              refine WL.lv rfl (LV.add rfl rfl (wr64 (by omega) (by omega))) ?_
              refine WL.lv rfl (LV.asg rfl) ?_
              refine WL.nil (thenQ.n ?_)
              exact ⟨_, by omega, A_out, c_out, out, i + 1, by omega, by omega, ((by rw [ofd_no ilo (by omega) (fun h_ => by unfold ISW at h_; omega), ← q1])), (by first | omega | (have h_ := INSB_len (LOW ((TOK s).getD i.toNat ByteArray.empty)) out; omega)), hL1, rfl, Weak.cons rfl <| Weak.cons rfl <| Weak.cons rfl <| Weak.nil _⟩
      · refine WL.lv rfl (LV.as (LV.geI rfl rfl) (decide_eq_false hg9)) ?_
        refine WL.lv rfl (LV.mv rfl) ?_
        iterate 2 refine WL.off rfl ?_
        iterate 2 refine WL.lv rfl (LV.pickF rfl rfl) ?_
        iterate 2 refine WL.lv rfl (LV.mv rfl) ?_
        rcases Decidable.em ((gI (bytesOf ((TOK s).getD (i).toNat ByteArray.empty)) ((0 : Int))) = 95) with hg13 | hg13
        · refine WL.lv rfl (LV.as (LV.eqI rfl rfl) (decide_eq_true hg13)) ?_
          refine WL.lv rfl (LV.pickF rfl rfl) ?_
          refine WL.lv rfl (LV.mv rfl) ?_
          iterate 6 refine WL.off rfl ?_
          refine WL.lv rfl (LV.pickT rfl rfl) ?_
          refine WL.nil (thenQ.n ?_)
          refine WC.condT rfl ?_
          refine WC.region ?_
          iterate 3 refine WL.lv rfl (LV.mv rfl) ?_
          obtain ⟨A21, c21, e11, g11⟩ := St.elt (SH.rd hL1 (.head _)) ByteArray.empty i (by omega) (by omega)
          refine WL.lv rfl (LV.idxA Tryz.underlying23 ti9.sz rfl e11 rfl (by omega) (by omega)) ?_
          refine WL.lv rfl (LV.load1 (v := (.string ((TOK s).getD (i).toNat ByteArray.empty))) Tryz.underlying9 rfl rfl (g11 _ (KB.refl No _) 0 _ rfl)) ?_
          refine WL.call rfl (XC.fn Tryz.func38 (by kernel_rfl) rfl rfl rfl) (rlower_calls (s := ((TOK s).getD (i).toNat ByteArray.empty)) (by omega)) ?_
          rintro v_ w22 ⟨rfl, hk11⟩
          have hS40 := SH.same hL1 hk11
          have hS41 : SH w No w22 [rowE eS 9 (.slice A_out out.length c_out) out, rowE eS 9 (.slice A1 ((TOK s).length) c1) (TOK s)] := (SH.front [_] hS40)
          have hT10 := SH.sub (Es := [_]) hS41
          refine WL.call rfl (XC.fn Tryz.func28 (by kernel_rfl) rfl rfl rfl) (with_calls (l := out) (s := (LOW ((TOK s).getD (i).toNat ByteArray.empty))) hT10 (by omega)) ?_
          rintro v_ w23 ⟨A22, c22, rfl, hU10⟩
          have hS42 := SH.back (Es := [_]) hS41 hU10
          refine WL.lv rfl (LV.asg rfl) ?_
          refine WL.nil (blockQ.n <| thenQ.n ?_)
          refine WC.region ?_
          refine WL.lv rfl (LV.mv rfl) ?_
          refine WL.lv rfl (LV.add rfl rfl (wr64 (by omega) (by omega))) ?_
          refine WL.lv rfl (LV.asg rfl) ?_
          refine WL.nil (thenQ.n ?_)
          have hS43 : SH w No w23 [rowE eS 9 (.slice A1 ((TOK s).length) c1) (TOK s), rowE eS 9 (.slice A22 ((INSB (LOW ((TOK s).getD (i).toNat ByteArray.empty)) out).length) c22) (INSB (LOW ((TOK s).getD (i).toNat ByteArray.empty)) out)] := (SH.front [_] hS42)
          exact ⟨_, by omega, A22, c22, (INSB (LOW ((TOK s).getD (i).toNat ByteArray.empty)) out), i + 1, by omega, by omega, ((by rw [ofd_yes ilo (by omega) (by unfold ISW; omega), ← q1])), (by first | omega | (have h_ := INSB_len (LOW ((TOK s).getD i.toNat ByteArray.empty)) out; omega)), hS43, rfl, Weak.cons rfl <| Weak.cons rfl <| Weak.cons rfl <| Weak.nil _⟩
        · refine WL.lv rfl (LV.as (LV.eqI rfl rfl) (decide_eq_false hg13)) ?_
          refine WL.lv rfl (LV.pickF rfl rfl) ?_
          iterate 2 refine WL.lv rfl (LV.mv rfl) ?_
          rcases Decidable.em ((gI (bytesOf ((TOK s).getD (i).toNat ByteArray.empty)) ((0 : Int))) ≥ 97) with hg14 | hg14
          · refine WL.lv rfl (LV.as (LV.geI rfl rfl) (decide_eq_true hg14)) ?_
            iterate 2 refine WL.lv rfl (LV.mv rfl) ?_
            refine WL.lv rfl (LV.leI rfl rfl) ?_
            refine WL.lv rfl (LV.pickT rfl rfl) ?_
            refine WL.lv rfl (LV.pickF rfl rfl) ?_
            refine WL.nil (thenQ.n ?_)
            refine WC.condP (p := (gI (bytesOf ((TOK s).getD (i).toNat ByteArray.empty)) ((0 : Int))) ≤ 122) rfl (fun hw => ?_) (fun hw => ?_)
            · skip
              refine WC.region ?_
              iterate 3 refine WL.lv rfl (LV.mv rfl) ?_
              obtain ⟨A23, c23, e12, g12⟩ := St.elt (SH.rd hL1 (.head _)) ByteArray.empty i (by omega) (by omega)
              refine WL.lv rfl (LV.idxA Tryz.underlying23 ti9.sz rfl e12 rfl (by omega) (by omega)) ?_
              refine WL.lv rfl (LV.load1 (v := (.string ((TOK s).getD (i).toNat ByteArray.empty))) Tryz.underlying9 rfl rfl (g12 _ (KB.refl No _) 0 _ rfl)) ?_
              refine WL.call rfl (XC.fn Tryz.func38 (by kernel_rfl) rfl rfl rfl) (rlower_calls (s := ((TOK s).getD (i).toNat ByteArray.empty)) (by omega)) ?_
              rintro v_ w24 ⟨rfl, hk12⟩
              have hS44 := SH.same hL1 hk12
              have hS45 : SH w No w24 [rowE eS 9 (.slice A_out out.length c_out) out, rowE eS 9 (.slice A1 ((TOK s).length) c1) (TOK s)] := (SH.front [_] hS44)
              have hT11 := SH.sub (Es := [_]) hS45
              refine WL.call rfl (XC.fn Tryz.func28 (by kernel_rfl) rfl rfl rfl) (with_calls (l := out) (s := (LOW ((TOK s).getD (i).toNat ByteArray.empty))) hT11 (by omega)) ?_
              rintro v_ w25 ⟨A24, c24, rfl, hU11⟩
              have hS46 := SH.back (Es := [_]) hS45 hU11
              refine WL.lv rfl (LV.asg rfl) ?_
              refine WL.nil (blockQ.n <| thenQ.n ?_)
              refine WC.region ?_
              refine WL.lv rfl (LV.mv rfl) ?_
              refine WL.lv rfl (LV.add rfl rfl (wr64 (by omega) (by omega))) ?_
              refine WL.lv rfl (LV.asg rfl) ?_
              refine WL.nil (thenQ.n ?_)
              have hS47 : SH w No w25 [rowE eS 9 (.slice A1 ((TOK s).length) c1) (TOK s), rowE eS 9 (.slice A24 ((INSB (LOW ((TOK s).getD (i).toNat ByteArray.empty)) out).length) c24) (INSB (LOW ((TOK s).getD (i).toNat ByteArray.empty)) out)] := (SH.front [_] hS46)
              exact ⟨_, by omega, A24, c24, (INSB (LOW ((TOK s).getD (i).toNat ByteArray.empty)) out), i + 1, by omega, by omega, ((by rw [ofd_yes ilo (by omega) (by unfold ISW; omega), ← q1])), (by first | omega | (have h_ := INSB_len (LOW ((TOK s).getD i.toNat ByteArray.empty)) out; omega)), hS47, rfl, Weak.cons rfl <| Weak.cons rfl <| Weak.cons rfl <| Weak.nil _⟩
            · skip
              refine WC.skip (blockQ.n <| thenQ.n ?_)
              refine WC.region ?_
              refine WL.lv rfl (LV.mv rfl) ?_
              refine WL.lv rfl (LV.add rfl rfl (wr64 (by omega) (by omega))) ?_
              refine WL.lv rfl (LV.asg rfl) ?_
              refine WL.nil (thenQ.n ?_)
              exact ⟨_, by omega, A_out, c_out, out, i + 1, by omega, by omega, ((by rw [ofd_no ilo (by omega) (fun h_ => by unfold ISW at h_; omega), ← q1])), (by first | omega | (have h_ := INSB_len (LOW ((TOK s).getD i.toNat ByteArray.empty)) out; omega)), hL1, rfl, Weak.cons rfl <| Weak.cons rfl <| Weak.cons rfl <| Weak.nil _⟩
          · refine WL.lv rfl (LV.as (LV.geI rfl rfl) (decide_eq_false hg14)) ?_
            refine WL.lv rfl (LV.mv rfl) ?_
            iterate 2 refine WL.off rfl ?_
            iterate 2 refine WL.lv rfl (LV.pickF rfl rfl) ?_
            refine WL.nil (thenQ.n ?_)
            refine WC.condF rfl ?_
            refine WC.skip (blockQ.n <| thenQ.n ?_)
            refine WC.region ?_
            refine WL.lv rfl (LV.mv rfl) ?_
            refine WL.lv rfl (LV.add rfl rfl (wr64 (by omega) (by omega))) ?_
            refine WL.lv rfl (LV.asg rfl) ?_
            refine WL.nil (thenQ.n ?_)
            exact ⟨_, by omega, A_out, c_out, out, i + 1, by omega, by omega, ((by rw [ofd_no ilo (by omega) (fun h_ => by unfold ISW at h_; omega), ← q1])), (by first | omega | (have h_ := INSB_len (LOW ((TOK s).getD i.toNat ByteArray.empty)) out; omega)), hL1, rfl, Weak.cons rfl <| Weak.cons rfl <| Weak.cons rfl <| Weak.nil _⟩
  · skip
    refine WC.exit (thenQ.x <| thenQ.x <| blockQ.hit <| thenQ.n ?_)
    refine WC.seq ?_
    refine WC.region ?_
    refine WL.lv rfl (LV.mv rfl) ?_
    refine WL.lv rfl (LV.asg rfl) ?_
    refine WL.nil (thenQ.n ?_)
    refine WC.ret (?_)
    have hS48 : SH w No w3 [rowE eS 9 (.slice A_out out.length c_out) out] := (SH.take 1 rfl (SH.front [_] hL1))
    have hres1 : (out : List ByteArray) = OF s := by rw [q1, List.take_of_length_le (by omega)]; rfl
    exact ⟨_, fun a ha => res1 rfl ha rfl, (by rw [← hres1]; exact ⟨_, _, rfl, hS48⟩)⟩

theorem rhas_calls {w : World} {s : ByteArray} {word : ByteArray} (hs : s.size ≤ 1000000) :
    Calls Tryz.prog 37 #[(.string s), (.string word)] w fun e w' => ∃ v, e = .returned v ∧ (fun v w' => v = .bool (decide (word ∈ OF s)) ∧ KB No w w') v w' := by
  have hol_ := OF_len s
  have hS : SH w No w [] := SH.nil _ _
  refine calls (l := litOf [(.string s), (.string word)] 0) Tryz.func37 rfl (n := 21) rfl (Nat.le_of_ble_eq_true rfl) (lit_args _) ?_
  refine WC.seq ?_
  refine WC.region ?_
  refine WL.lv rfl (LV.asg rfl) ?_
  refine WL.nil (thenQ.n ?_)
  refine WC.seq ?_
  refine WC.region ?_
  refine WL.lv rfl (LV.mv rfl) ?_
  refine WL.call rfl (XC.fn Tryz.func16 (by kernel_rfl) rfl rfl rfl) (rof_calls (s := s) (by first | omega | (simp only [ByteArray.size_append, lit1]; omega))) ?_
  rintro v_ w1 ⟨A1, c1, rfl, hS1⟩
  have hS2 := SH.joinN hS hS1
  refine WL.lv rfl (LV.asg rfl) ?_
  refine WL.nil (thenQ.n ?_)
  iterate 2 refine WC.seq ?_
  refine WC.region ?_
  refine WL.lv rfl (LV.asg rfl) ?_
  refine WL.nil (thenQ.n ?_)
  refine WC.block ?_
  refine WC.loop (fun m_ f_ w_ => ∃ (i : Int), (0 ≤ i) ∧ (i ≤ ((OF s).length : Int)) ∧ (∀ t : Int, 0 ≤ t → t < i → ¬ (OF s).getD t.toNat ByteArray.empty = word) ∧ SH w No w_ [rowE eS 9 (.slice A1 ((OF s).length) c1) (OF s)] ∧ m_ = ((((OF s).length : Int) - i).toNat) ∧ Weak (lit [(1, (.string word)), (5, (.slice A1 ((OF s).length) c1)), (6, (.int .i64 i))]) f_) _ ⟨0, by omega, by omega, (fun t h1 h2 => by omega), hS2, rfl, Weak.cons rfl <| Weak.cons rfl <| Weak.cons rfl <| Weak.nil _⟩ ?_
  rintro m1 f1 w2 ⟨i, ilo, ihi, q1, hL1, rfl, hw1⟩
  refine WC.weak hw1 ?_
  clear hw1
  iterate 2 refine WC.seq ?_
  refine WC.region ?_
  iterate 2 refine WL.lv rfl (LV.mv rfl) ?_
  refine WL.lv rfl (LV.lenL Tryz.underlying23 rfl) ?_
  refine WL.lv rfl (LV.ltI rfl rfl) ?_
  refine WL.nil (thenQ.n ?_)
  refine WC.condP (p := i < ((OF s).length : Int)) rfl (fun hc1 => ?_) (fun hc1 => ?_)
  · skip
    refine WC.skip (thenQ.n ?_)
    refine WC.seq ?_
    refine WC.block ?_
    refine WC.seq ?_
    refine WC.region ?_
    iterate 2 refine WL.lv rfl (LV.mv rfl) ?_
    obtain ⟨A2, c2, e1, g1⟩ := St.elt (SH.rd hL1 (.head _)) ByteArray.empty i (by omega) (by omega)
    refine WL.lv rfl (LV.idxA Tryz.underlying23 ti9.sz rfl e1 rfl (by omega) (by omega)) ?_
    refine WL.lv rfl (LV.load1 (v := (.string ((OF s).getD (i).toNat ByteArray.empty))) Tryz.underlying9 rfl rfl (g1 _ (KB.refl No _) 0 _ rfl)) ?_
    refine WL.lv rfl (LV.mv rfl) ?_
    refine WL.lv rfl (LV.eqSP (a := ((OF s).getD (i).toNat ByteArray.empty)) (b := word) rfl rfl) ?_
    refine WL.nil (thenQ.n ?_)
    refine WC.condP (p := ((OF s).getD (i).toNat ByteArray.empty) = word) rfl (fun he => ?_) (fun he => ?_)
    · skip
      refine WC.seq ?_
      refine WC.region ?_
      refine WL.lv rfl (LV.asg rfl) ?_
      refine WL.nil (thenQ.n ?_)
      refine WC.ret (blockQ.r <| thenQ.r <| thenQ.r <| blockQ.r <| thenQ.r <| ?_)
      exact ⟨_, fun a ha => res1 rfl ha rfl, congrArg Value.bool ((decide_eq_true (inS_yes ilo (by omega) he)).symm), hL1.kb⟩
    · skip
      refine WC.skip (blockQ.n <| thenQ.n ?_)
      refine WC.region ?_
      refine WL.lv rfl (LV.mv rfl) ?_
      refine WL.lv rfl (LV.add rfl rfl (wr64 (by omega) (by omega))) ?_
      refine WL.lv rfl (LV.asg rfl) ?_
      refine WL.nil (thenQ.n ?_)
      exact ⟨_, by omega, i + 1, by omega, by omega, (all_step (p := fun t => ¬ (OF s).getD t.toNat ByteArray.empty = word) q1 he), hL1, rfl, Weak.cons rfl <| Weak.cons rfl <| Weak.cons rfl <| Weak.nil _⟩
  · skip
    refine WC.exit (thenQ.x <| thenQ.x <| blockQ.hit <| thenQ.n ?_)
    refine WC.seq ?_
    refine WC.region ?_
    refine WL.lv rfl (LV.asg rfl) ?_
    refine WL.nil (thenQ.n ?_)
    refine WC.ret (?_)
    exact ⟨_, fun a ha => res1 rfl ha rfl, congrArg Value.bool ((decide_eq_false (inS_no (fun t h0_ h1_ => q1 t h0_ (by omega)))).symm), hL1.kb⟩

end Go.Proofs.YtigbphaimbhgjaaGreat

