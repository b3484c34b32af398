/- The law of edits. -/
import Derived.Test.YtjjilkibcomfcaaWdH
namespace Go.Proofs.Ytjjilkibcomfcaa
open Go Go.Gv Go.RowKit Go.Mys Go.Pat Go.Wds
set_option linter.unusedVariables false
set_option linter.unusedSimpArgs false

theorem few28_calls {w : World} {s : ByteArray}  :
    Calls Try.prog 13 #[(.string s)] w fun e w' => ∃ v, e = .returned v ∧ (fun v w' => v = .string (FW s 200) ∧ KB No w w') v w' := by
  have hS : SH w No w [] := SH.nil _ _
  refine calls (l := litOf [(.string s)] 0) Try.func13 rfl (n := 8) rfl (Nat.le_of_ble_eq_true rfl) (lit_args _) ?_
  refine WC.seq ?_
  refine WC.region ?_
  refine WL.lv rfl (LV.asg rfl) ?_
  refine WL.nil (thenQ.n ?_)
  refine WC.seq ?_
  refine WC.region ?_
  iterate 2 refine WL.lv rfl (LV.mv rfl) ?_
  refine WL.lv rfl (LV.lenS Try.underlying9 rfl) ?_
  refine WL.lv rfl (LV.minI rfl rfl) ?_
  refine WL.lv rfl (LV.cutS (l := 0) (h := (min (s.size : Int) 200).toNat) Try.underlying9 rfl rfl rfl ⟨.inl ⟨rfl, rfl⟩, .inr ⟨.i64, by rw [Int.toNat_of_nonneg (a := min (s.size : Int) 200) (by omega)] <;> rfl⟩, .inl ⟨rfl, rfl⟩⟩ (by omega) (by omega)) ?_
  refine WL.lv rfl (LV.asg rfl) ?_
  refine WL.nil (thenQ.n ?_)
  refine WC.ret (?_)
  exact ⟨_, fun a ha => res1 rfl ha rfl, congrArg Value.string (fw_is (by omega)), hS.kb⟩

set_option maxHeartbeats 2000000 in
set_option maxRecDepth 100000 in
theorem live28_calls {w : World}  :
    Calls Try.prog 8 #[] w fun e w' => ∃ v, e = .returned v ∧ (fun v w' => v = .bool (decide (true)) ∧ KB No w w') v w' := by
  have hS : SH w No w [] := SH.nil _ _
  refine calls (l := litOf [] 0) Try.func8 rfl (n := 12) rfl (Nat.le_of_ble_eq_true rfl) (lit_args _) ?_
  refine WC.seq ?_
  refine WC.region ?_
  refine WL.lv rfl (LV.asg rfl) ?_
  refine WL.nil (thenQ.n ?_)
  refine WC.seq ?_
  refine WC.region ?_
  refine WL.call rfl (XC.fn Try.func17 (by kernel_rfl) rfl rfl rfl) (marked_calls (a := ⟨#[120, 32, 61, 32, 49]⟩) (b := ⟨#[120, 32, 61, 32, 50]⟩) (by decide) (by decide)) ?_
  rintro v_ w1 ⟨rfl, hk1⟩
  have hS1 := SH.same hS hk1
  refine WL.lv rfl (LV.as (LV.eqSP (a := (MARK ⟨#[120, 32, 61, 32, 49]⟩ ⟨#[120, 32, 61, 32, 50]⟩)) (b := ⟨#[120, 32, 61, 32, 91, 45, 49, 45, 93, 123, 43, 50, 43, 125]⟩) rfl rfl) (decide_eq_true (mark_live))) ?_
  refine WL.lv rfl (LV.mv rfl) ?_
  refine WL.call rfl (XC.fn Try.func7 (by kernel_rfl) rfl rfl rfl) (tokens_calls (s := ⟨#[97, 98, 32, 32, 99, 59, 59]⟩) (by decide)) ?_
  rintro v_ w2 ⟨A1, c1, rfl, hS2⟩
  have hS3 := SH.joinN hS1 hS2
  refine WL.lv rfl (LV.lenL Try.underlying22 rfl) ?_
  refine WL.lv rfl (LV.as (LV.eqI rfl rfl) (decide_eq_true (by have h_ := tok_live; omega))) ?_
  refine WL.lv rfl (LV.pickT rfl rfl) ?_
  refine WL.lv rfl (LV.mv rfl) ?_
  refine WL.call rfl (XC.fn Try.func11 (by kernel_rfl) rfl rfl rfl) (plain_calls (s := ⟨#[97, 91, 45, 98, 45, 93]⟩) (by decide)) ?_
  rintro v_ w3 ⟨rfl, hk2⟩
  have hS4 := SH.same hS3 hk2
  refine WL.lv rfl (LV.as (LV.eqSP (a := (PLN ⟨#[97, 91, 45, 98, 45, 93]⟩)) (b := ⟨#[97, 98]⟩) rfl rfl) (decide_eq_true (pln_live))) ?_
  refine WL.lv rfl (LV.pickT rfl rfl) ?_
  refine WL.lv rfl (LV.asg rfl) ?_
  refine WL.nil (thenQ.n ?_)
  refine WC.ret (?_)
  exact ⟨_, fun a ha => res1 rfl ha rfl, rfl, hS4.kb⟩

set_option maxHeartbeats 8000000 in
set_option maxRecDepth 100000 in
theorem wordsEdits_law {w : World} {a : ByteArray} {b : ByteArray}  :
    Calls Try.prog 4 #[(.string a), (.string b)] w fun e w' => ∃ v, e = .returned v ∧ (fun v w' => v = .bool (decide (true)) ∧ KB No w w') v w' := by
  have hfa_ := FW_sz a 200
  have hfb_ := FW_sz b 200
  have hta_ := TOK_len (FW a 200)
  have htb_ := TOK_len (FW b 200)
  have hS : SH w No w [] := SH.nil _ _
  refine calls (l := litOf [(.string a), (.string b)] 0) Try.func4 rfl (n := 28) rfl (Nat.le_of_ble_eq_true rfl) (lit_args _) ?_
  refine WC.seq ?_
  refine WC.region ?_
  refine WL.lv rfl (LV.asg rfl) ?_
  refine WL.nil (thenQ.n ?_)
  refine WC.seq ?_
  refine WC.region ?_
  refine WL.lv rfl (LV.mv rfl) ?_
  refine WL.call rfl (XC.fn Try.func13 (by kernel_rfl) rfl rfl rfl) (few28_calls (s := a) ) ?_
  rintro v_ w1 ⟨rfl, hk1⟩
  have hS1 := SH.same hS hk1
  refine WL.lv rfl (LV.mv rfl) ?_
  refine WL.call rfl (XC.fn Try.func13 (by kernel_rfl) rfl rfl rfl) (few28_calls (s := b) ) ?_
  rintro v_ w2 ⟨rfl, hk2⟩
  have hS2 := SH.same hS1 hk2
  iterate 2 refine WL.lv rfl (LV.asg rfl) ?_
  refine WL.nil (thenQ.n ?_)
  refine WC.seq ?_
  refine WC.region ?_
  refine WL.call rfl (XC.fn Try.func8 (by kernel_rfl) rfl rfl rfl) (live28_calls  ) ?_
  rintro v_ w3 ⟨rfl, hk3⟩
  have hS3 := SH.same hS2 hk3
  iterate 3 refine WL.lv rfl (LV.mv rfl) ?_
  refine WL.call rfl (XC.fn Try.func15 (by kernel_rfl) rfl rfl rfl) (edits_calls (a := (FW a 200)) (b := (FW b 200)) (by omega) (by omega)) ?_
  rintro v_ w4 ⟨A1, c1, rfl, hS4⟩
  have hS5 := SH.joinN hS3 hS4
  iterate 2 refine WL.lv rfl (LV.mv rfl) ?_
  refine WL.call rfl (XC.fn Try.func16 (by kernel_rfl) rfl rfl rfl) (redits_calls (a := (FW a 200)) (b := (FW b 200)) (by omega) (by omega)) ?_
  rintro v_ w5 ⟨A2, c2, rfl, hS6⟩
  have hS7 := SH.joinN hS5 hS6
  refine WL.call rfl (XC.fn Try.func14 (by kernel_rfl) rfl rfl rfl) (Calls.asB (bsame_calls  (SH.rd hS7 (.tail _ (.head _))) rfl (SH.rd hS7 (.head _)) rfl ) (decide_eq_true (rfl))) ?_
  rintro v_ w6 ⟨rfl, hk4⟩
  have hS8 := SH.same hS7 hk4
  refine WL.lv rfl (LV.pickT rfl rfl) ?_
  iterate 3 refine WL.lv rfl (LV.mv rfl) ?_
  refine WL.call rfl (XC.fn Try.func17 (by kernel_rfl) rfl rfl rfl) (marked_calls (a := (FW a 200)) (b := (FW b 200)) (by omega) (by omega)) ?_
  rintro v_ w7 ⟨rfl, hk5⟩
  have hS9 := SH.same hS8 hk5
  iterate 2 refine WL.lv rfl (LV.mv rfl) ?_
  refine WL.call rfl (XC.fn Try.func18 (by kernel_rfl) rfl rfl rfl) (rmarked_calls (a := (FW a 200)) (b := (FW b 200)) (by omega) (by omega)) ?_
  rintro v_ w8 ⟨rfl, hk6⟩
  have hS10 := SH.same hS9 hk6
  refine WL.lv rfl (LV.as (LV.eqSP (a := (MARK (FW a 200) (FW b 200))) (b := (MARK (FW a 200) (FW b 200))) rfl rfl) (decide_eq_true (rfl))) ?_
  refine WL.lv rfl (LV.pickT rfl rfl) ?_
  refine WL.lv rfl (LV.asg rfl) ?_
  refine WL.nil (thenQ.n ?_)
  refine WC.ret (?_)
  exact ⟨_, fun a ha => res1 rfl ha rfl, rfl, hS10.kb⟩

end Go.Proofs.Ytjjilkibcomfcaa
