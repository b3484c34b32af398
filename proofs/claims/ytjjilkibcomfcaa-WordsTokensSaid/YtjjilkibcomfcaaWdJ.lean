/- The law of tokens. -/
import Derived.Test.YtjjilkibcomfcaaWdI
namespace Go.Proofs.Ytjjilkibcomfcaa
open Go Go.Gv Go.RowKit Go.Mys Go.Pat Go.Wds
set_option linter.unusedVariables false
set_option linter.unusedSimpArgs false

set_option maxHeartbeats 8000000 in
set_option maxRecDepth 100000 in
theorem wordsTokens_law {w : World} {s : ByteArray}  :
    Calls Try.prog 3 #[(.string s)] w fun e w' => ∃ v, e = .returned v ∧ (fun v w' => v = .bool (decide (true)) ∧ KB No w w') v w' := by
  have hS : SH w No w [] := SH.nil _ _
  refine calls (l := litOf [(.string s)] 0) Try.func3 rfl (n := 50) rfl (Nat.le_of_ble_eq_true rfl) (lit_args _) ?_
  refine WC.seq ?_
  refine WC.region ?_
  refine WL.lv rfl (LV.asg rfl) ?_
  refine WL.nil (thenQ.n ?_)
  refine WC.seq ?_
  refine WC.region ?_
  iterate 2 refine WL.lv rfl (LV.mv rfl) ?_
  refine WL.lv rfl (LV.lenS Try.underlying9 rfl) ?_
  refine WL.lv rfl (LV.minI rfl rfl) ?_
  refine WL.lv rfl (LV.to (v := (.string (s.extract 0 ((min (s.size : Int) 1000).toNat)))) (v' := (.string (FW s 1000))) (congrArg Value.string (fw_is (by omega))) (LV.cutS (l := 0) (h := (min (s.size : Int) 1000).toNat) Try.underlying9 rfl rfl rfl ⟨.inl ⟨rfl, rfl⟩, .inr ⟨.i64, by rw [Int.toNat_of_nonneg (a := min (s.size : Int) 1000) (by omega)] <;> rfl⟩, .inl ⟨rfl, rfl⟩⟩ (by omega) (by omega))) ?_
  refine WL.lv rfl (LV.asg rfl) ?_
  refine WL.nil (thenQ.n ?_)
  refine WC.seq ?_
  refine WC.region ?_
  have hfz_ := FW_sz s 1000
  have htl_ := TOK_len (FW s 1000)
  refine WL.lv rfl (LV.mv rfl) ?_
  refine WL.call rfl (XC.fn Try.func7 (by kernel_rfl) rfl rfl rfl) (tokens_calls (s := (FW s 1000)) (by first | omega | (simp only [ByteArray.size_append, lit1]; omega))) ?_
  rintro v_ w1 ⟨A1, c1, rfl, hS1⟩
  have hS2 := SH.joinN hS hS1
  refine WL.lv rfl (LV.asg rfl) ?_
  refine WL.nil (thenQ.n ?_)
  refine WC.seq ?_
  refine WC.region ?_
  refine WL.lv rfl (LV.asg rfl) ?_
  refine WL.nil (thenQ.n ?_)
  iterate 2 refine WC.seq ?_
  refine WC.region ?_
  refine WL.lv rfl (LV.asg rfl) ?_
  refine WL.nil (thenQ.n ?_)
  refine WC.block ?_
  refine WC.loop (fun m_ f_ w_ => ∃ (all : ByteArray) (i : Int), (0 ≤ i) ∧ (i ≤ ((TOK (FW s 1000)).length : Int)) ∧ (all = cat ((TOK (FW s 1000)).take i.toNat)) ∧ SH w No w_ [rowE eS 9 (.slice A1 ((TOK (FW s 1000)).length) c1) (TOK (FW s 1000))] ∧ m_ = ((((TOK (FW s 1000)).length : Int) - i).toNat) ∧ Weak (lit [(0, (.string (FW s 1000))), (3, (.slice A1 ((TOK (FW s 1000)).length) c1)), (4, (.string all)), (5, (.int .i64 i))]) f_) _ ⟨⟨#[]⟩, 0, by omega, by omega, rfl, hS2, rfl, Weak.cons rfl <| Weak.cons rfl <| Weak.cons rfl <| Weak.cons rfl <| Weak.nil _⟩ ?_
  rintro m1 f1 w2 ⟨all, i, ilo, ihi, q1, hL1, rfl, hw1⟩
  refine WC.weak hw1 ?_
  clear hw1
  iterate 2 refine WC.seq ?_
  refine WC.region ?_
  iterate 2 refine WL.lv rfl (LV.mv rfl) ?_
  refine WL.lv rfl (LV.lenL Try.underlying22 rfl) ?_
  refine WL.lv rfl (LV.ltI rfl rfl) ?_
  refine WL.nil (thenQ.n ?_)
  refine WC.condP (p := i < ((TOK (FW s 1000)).length : Int)) rfl (fun hk => ?_) (fun hk => ?_)
  · have htp_ := TOK_pos (s := FW s 1000) (t := (TOK (FW s 1000)).getD i.toNat ByteArray.empty) (getD_mem (by omega))
    have hcs_ := cat_sz (TOK (FW s 1000)) ilo hk
    rw [TOK_cat, ← q1] at hcs_
    refine WC.skip (thenQ.n ?_)
    refine WC.seq ?_
    refine WC.block ?_
    iterate 2 refine WC.seq ?_
    refine WC.region ?_
    iterate 2 refine WL.lv rfl (LV.mv rfl) ?_
    obtain ⟨A2, c2, e1, g1⟩ := St.elt (SH.rd hL1 (.head _)) ByteArray.empty i (by omega) (by omega)
    refine WL.lv rfl (LV.idxA Try.underlying22 ti9.sz rfl e1 rfl (by omega) (by omega)) ?_
    refine WL.lv rfl (LV.load1 (v := (.string ((TOK (FW s 1000)).getD (i).toNat ByteArray.empty))) Try.underlying9 rfl rfl (g1 _ (KB.refl No _) 0 _ rfl)) ?_
    refine WL.lv rfl (LV.lenS Try.underlying9 rfl) ?_
    refine WL.lv rfl (LV.eqI rfl rfl) ?_
    refine WL.nil (thenQ.n ?_)
    refine WC.condP (p := (((TOK (FW s 1000)).getD (i).toNat ByteArray.empty).size : Int) = 0) rfl (fun h0 => ?_) (fun h0 => ?_)
    · exfalso; omega
    · skip
      refine WC.skip (thenQ.n ?_)
      refine WC.region ?_
      iterate 3 refine WL.lv rfl (LV.mv rfl) ?_
      obtain ⟨A3, c3, e2, g2⟩ := St.elt (SH.rd hL1 (.head _)) ByteArray.empty i (by omega) (by omega)
      refine WL.lv rfl (LV.idxA Try.underlying22 ti9.sz rfl e2 rfl (by omega) (by omega)) ?_
      refine WL.lv rfl (LV.load1 (v := (.string ((TOK (FW s 1000)).getD (i).toNat ByteArray.empty))) Try.underlying9 rfl rfl (g2 _ (KB.refl No _) 0 _ rfl)) ?_
      refine WL.lv rfl (LV.addS rfl rfl (by first | omega | (simp only [ByteArray.size_append, ByteArray.size_extract, lit1, lit2, lit0]; omega))) ?_
      refine WL.lv rfl (LV.asg rfl) ?_
      refine WL.nil (blockQ.n <| thenQ.n ?_)
      refine WC.region ?_
      refine WL.lv rfl (LV.mv rfl) ?_
      refine WL.lv rfl (LV.add rfl rfl (wr64 (by omega) (by omega))) ?_
      refine WL.lv rfl (LV.asg rfl) ?_
      refine WL.nil (thenQ.n ?_)
      exact ⟨_, by omega, all ++ ((TOK (FW s 1000)).getD (i).toNat ByteArray.empty), i + 1, by omega, by omega, (by rw [cat_at ilo hk, q1]), hL1, rfl, Weak.cons rfl <| Weak.cons rfl <| Weak.cons rfl <| Weak.cons rfl <| Weak.nil _⟩
  · skip
    refine WC.exit (thenQ.x <| thenQ.x <| blockQ.hit <| thenQ.n ?_)
    refine WC.seq ?_
    refine WC.region ?_
    refine WL.call rfl (XC.fn Try.func8 (by kernel_rfl) rfl rfl rfl) (live28_calls  ) ?_
    rintro v_ w3 ⟨rfl, hk1⟩
    have hS3 := SH.same hL1 hk1
    iterate 3 refine WL.lv rfl (LV.mv rfl) ?_
    refine WL.call rfl (XC.fn Try.func10 (by kernel_rfl) rfl rfl rfl) (rtokens_calls (s := (FW s 1000)) (by first | omega | (simp only [ByteArray.size_append, lit1]; omega))) ?_
    rintro v_ w4 ⟨A4, c4, rfl, hS4⟩
    have hS5 := SH.joinN hS3 hS4
    refine WL.call rfl (XC.fn Try.func9 (by kernel_rfl) rfl rfl rfl) (Calls.asB (stexts_calls  (SH.rd hS5 (.tail _ (.head _))) rfl (SH.rd hS5 (.head _)) rfl ) (decide_eq_true (rfl))) ?_
    rintro v_ w5 ⟨rfl, hk2⟩
    have hS6 := SH.same hS5 hk2
    refine WL.lv rfl (LV.pickT rfl rfl) ?_
    iterate 3 refine WL.lv rfl (LV.mv rfl) ?_
    refine WL.lv rfl (LV.as (LV.eqSP (a := all) (b := (FW s 1000)) rfl rfl) (decide_eq_true (by rw [q1, List.take_of_length_le (by omega), TOK_cat]))) ?_
    refine WL.lv rfl (LV.pickT rfl rfl) ?_
    iterate 2 refine WL.lv rfl (LV.mv rfl) ?_
    refine WL.call rfl (XC.fn Try.func11 (by kernel_rfl) rfl rfl rfl) (plain_calls (s := (FW s 1000)) (by first | omega | (simp only [ByteArray.size_append, lit1]; omega))) ?_
    rintro v_ w6 ⟨rfl, hk3⟩
    have hS7 := SH.same hS6 hk3
    refine WL.lv rfl (LV.mv rfl) ?_
    refine WL.call rfl (XC.fn Try.func12 (by kernel_rfl) rfl rfl rfl) (rplain_calls (s := (FW s 1000)) (by first | omega | (simp only [ByteArray.size_append, lit1]; omega))) ?_
    rintro v_ w7 ⟨rfl, hk4⟩
    have hS8 := SH.same hS7 hk4
    refine WL.lv rfl (LV.as (LV.eqSP (a := (PLN (FW s 1000))) (b := (PLN (FW s 1000))) rfl rfl) (decide_eq_true (rfl))) ?_
    refine WL.lv rfl (LV.pickT rfl rfl) ?_
    refine WL.lv rfl (LV.asg rfl) ?_
    refine WL.nil (thenQ.n ?_)
    refine WC.ret (?_)
    exact ⟨_, fun a ha => res1 rfl ha rfl, rfl, hS8.kb⟩

end Go.Proofs.Ytjjilkibcomfcaa
