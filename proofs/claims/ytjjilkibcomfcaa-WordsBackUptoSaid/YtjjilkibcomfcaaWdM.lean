/- The law of both sides. -/
import Derived.Test.YtjjilkibcomfcaaWdI
namespace Go.Proofs.Ytjjilkibcomfcaa
open Go Go.Gv Go.RowKit Go.Mys Go.Pat Go.Wds
set_option linter.unusedVariables false
set_option linter.unusedSimpArgs false

theorem szB_few {l : List Bt} (h : ∀ x ∈ l, x.2.size ≤ 1048576) : szB (l.take 40) ≤ 41943040 := by
  have : ∀ (r : List Bt), (∀ x ∈ r, x.2.size ≤ 1048576) → szB r ≤ r.length * 1048576 := by
    intro r
    induction r with
    | nil => intro _; exact Nat.le_refl _
    | cons x r ih =>
      intro h
      have h1 := h x (.head _)
      have h2 := ih fun y hy => h y (.tail _ hy)
      unfold szB at h2 ⊢
      rw [List.map_cons, List.sum_cons, List.length_cons]; omega
  have h2 := this (l.take 40) fun x hx => h x (List.mem_of_mem_take hx)
  have h3 : (l.take 40).length ≤ 40 := by rw [List.length_take]; omega
  omega

set_option maxHeartbeats 8000000 in
set_option maxRecDepth 100000 in
theorem wordsBack_law {w : World} {a : ByteArray} {b : ByteArray} {A_l : Option Addr} {n_l c_l : Nat} {l : List (Int × ByteArray)} (h_l : St No w (Rd eBt (.slice A_l n_l c_l) l)) (hn_l : l.length = n_l) (hz : ∀ x ∈ l, x.2.size ≤ 1048576) :
    Calls Try.prog 6 #[(.string a), (.string b), (.slice A_l n_l c_l)] w fun e w' => ∃ v, e = .returned v ∧ (fun v w' => v = .bool (decide (true)) ∧ KB No w w') v w' := by
  subst hn_l
  have hfa_ := FW_sz a 200
  have hfb_ := FW_sz b 200
  have hta_ := TOK_len (FW a 200)
  have htb_ := TOK_len (FW b 200)
  have hle_ : ¬ ((TOK (FW a 200)).length > 400 ∨ (TOK (FW b 200)).length > 400) := by omega
  have hes_ := EDT_sides hle_
  have hez_ := EDT_sz (FW a 200) (FW b 200)
  have hlz_ := szB_few hz
  have hms_ := MARK_self (a := FW a 200) (by omega)
  have hS : SH w No w [] := SH.nil _ _
  refine calls (l := litOf [(.string a), (.string b), (.slice A_l l.length c_l)] 0) Try.func6 rfl (n := 76) rfl (Nat.le_of_ble_eq_true rfl) (lit_args _) ?_
  refine WC.seq ?_
  refine WC.region ?_
  refine WL.lv rfl (LV.asg rfl) ?_
  refine WL.nil (thenQ.n ?_)
  refine WC.seq ?_
  have hS1 := SH.drew hS
  refine WC.regionD [] (fun w_ => KB No w.drew w_) [(.pure, 0), (.pure, 2), (.pure, 4), (.pure, 5), (.pure, 6), (.pure, 7), (.pure, 8), (.forced, 1), (.forced, 3), (.pure, 9), (.pure, 10), (.pure, 11)] (by kernel_rfl) (by kernel_rfl) (KB.refl _ _) ?_
  iterate 4 refine WS.pure rfl rfl (fun _ => LV.mv rfl) ?_
  refine WS.pure rfl rfl (fun _ => LV.lenL Try.underlying29 rfl) ?_
  refine WS.pure rfl rfl (fun _ => LV.minI rfl rfl) ?_
  have hcap1 : l.length ≤ c_l := (Rd.cap (St.now (SH.stN hS1 h_l)))
  refine WS.pure rfl rfl (fun _ => LV.to (v := (.slice (if c_l = 0 then A_l else A_l.map (·.add (0 * 2))) ((min (l.length : Int) 40).toNat - 0) (c_l - 0))) (v' := (.slice (cutA A_l c_l 2) ((l.take 40).length) c_l)) (congrArg (fun n_ => Value.slice (cutA A_l c_l 2) n_ c_l) (show ((min (l.length : Int) 40).toNat - 0) = (l.take 40).length by rw [List.length_take]; omega)) (LV.cut Try.underlying29 ti49.sz rfl rfl rfl rfl ⟨.inl ⟨rfl, rfl⟩, .inr ⟨.i64, by rw [Int.toNat_of_nonneg (a := min (l.length : Int) 40) (by omega)] <;> rfl⟩, .inl ⟨rfl, rfl⟩⟩ (by omega) (by omega) (by omega))) ?_
  refine WS.call rfl rfl (XC.fn Try.func13 (by kernel_rfl) rfl rfl rfl) (few28_calls (s := a) ) ?_
  rintro v_ w1 ⟨rfl, hk1⟩
  have hS2 := SH.same hS1 hk1
  refine ⟨fun h_ => (KB.transN (KB.refl _ _) hk1), ?_⟩
  refine WS.call rfl rfl (XC.fn Try.func13 (by kernel_rfl) rfl rfl rfl) (few28_calls (s := b) ) ?_
  rintro v_ w2 ⟨rfl, hk2⟩
  have hS3 := SH.same hS2 hk2
  refine ⟨fun h_ => (KB.transN (KB.transN (KB.refl _ _) hk1) hk2), ?_⟩
  iterate 3 refine WS.pure rfl rfl (fun _ => LV.asg rfl) ?_
  refine WS.nil (thenQ.n ?_)
  refine WC.seq ?_
  refine WC.region ?_
  iterate 2 refine WL.lv rfl (LV.mv rfl) ?_
  refine WL.call rfl (XC.fn Try.func15 (by kernel_rfl) rfl rfl rfl) (edits_calls (a := (FW a 200)) (b := (FW b 200)) (by omega) (by omega)) ?_
  rintro v_ w3 ⟨A1, c1, rfl, hS4⟩
  have hS5 := SH.joinN hS3 hS4
  refine WL.call rfl (XC.fn Try.func19 (by kernel_rfl) rfl rfl rfl) (sides_calls  (SH.rd hS5 (.head _)) rfl (by omega)) ?_
  rintro v_ w4 ⟨rfl, hk3⟩
  have hS6 := SH.same hS5 hk3
  refine WL.lv rfl (LV.mv rfl) ?_
  iterate 2 refine WL.lv rfl (LV.extract rfl rfl) ?_
  iterate 2 refine WL.lv rfl (LV.asg rfl) ?_
  refine WL.nil (thenQ.n ?_)
  refine WC.seq ?_
  refine WC.region ?_
  refine WL.lv rfl (LV.mv rfl) ?_
  refine WL.call rfl (XC.fn Try.func19 (by kernel_rfl) rfl rfl rfl) (sides_calls  (SH.stN hS6 (few_rd 40 h_l)) rfl (by omega)) ?_
  rintro v_ w5 ⟨rfl, hk4⟩
  have hS7 := SH.same hS6 hk4
  refine WL.lv rfl (LV.mv rfl) ?_
  iterate 2 refine WL.lv rfl (LV.extract rfl rfl) ?_
  iterate 2 refine WL.lv rfl (LV.asg rfl) ?_
  refine WL.nil (thenQ.n ?_)
  refine WC.seq ?_
  refine WC.region ?_
  refine WL.lv rfl (LV.mv rfl) ?_
  refine WL.call rfl (XC.fn Try.func20 (by kernel_rfl) rfl rfl rfl) (rsides_calls  (SH.stN hS7 (few_rd 40 h_l)) rfl (by omega)) ?_
  rintro v_ w6 ⟨rfl, hk5⟩
  have hS8 := SH.same hS7 hk5
  refine WL.lv rfl (LV.mv rfl) ?_
  iterate 2 refine WL.lv rfl (LV.extract rfl rfl) ?_
  iterate 2 refine WL.lv rfl (LV.asg rfl) ?_
  refine WL.nil (thenQ.n ?_)
  refine WC.seq ?_
  refine WC.region ?_
  refine WL.call rfl (XC.fn Try.func8 (by kernel_rfl) rfl rfl rfl) (live28_calls  ) ?_
  rintro v_ w7 ⟨rfl, hk6⟩
  have hS9 := SH.same hS8 hk6
  iterate 3 refine WL.lv rfl (LV.mv rfl) ?_
  refine WL.lv rfl (LV.as (LV.eqSP (a := (sid 3 (EDT (FW a 200) (FW b 200)))) (b := (FW a 200)) rfl rfl) (decide_eq_true (hes_.1))) ?_
  refine WL.lv rfl (LV.pickT rfl rfl) ?_
  iterate 3 refine WL.lv rfl (LV.mv rfl) ?_
  refine WL.lv rfl (LV.as (LV.eqSP (a := (sid 2 (EDT (FW a 200) (FW b 200)))) (b := (FW b 200)) rfl rfl) (decide_eq_true (hes_.2))) ?_
  refine WL.lv rfl (LV.pickT rfl rfl) ?_
  iterate 3 refine WL.lv rfl (LV.mv rfl) ?_
  refine WL.lv rfl (LV.as (LV.eqSP (a := (sid 3 (l.take 40))) (b := (sid 3 (l.take 40))) rfl rfl) (decide_eq_true (rfl))) ?_
  refine WL.lv rfl (LV.pickT rfl rfl) ?_
  iterate 3 refine WL.lv rfl (LV.mv rfl) ?_
  refine WL.lv rfl (LV.as (LV.eqSP (a := (sid 2 (l.take 40))) (b := (sid 2 (l.take 40))) rfl rfl) (decide_eq_true (rfl))) ?_
  refine WL.lv rfl (LV.pickT rfl rfl) ?_
  iterate 3 refine WL.lv rfl (LV.mv rfl) ?_
  refine WL.call rfl (XC.fn Try.func17 (by kernel_rfl) rfl rfl rfl) (marked_calls (a := (FW a 200)) (b := (FW a 200)) (by omega) (by omega)) ?_
  rintro v_ w8 ⟨rfl, hk7⟩
  have hS10 := SH.same hS9 hk7
  refine WL.lv rfl (LV.mv rfl) ?_
  refine WL.lv rfl (LV.as (LV.eqSP (a := (MARK (FW a 200) (FW a 200))) (b := (FW a 200)) rfl rfl) (decide_eq_true (hms_))) ?_
  refine WL.lv rfl (LV.pickT rfl rfl) ?_
  iterate 3 refine WL.lv rfl (LV.mv rfl) ?_
  refine WL.call rfl (XC.fn Try.func17 (by kernel_rfl) rfl rfl rfl) (marked_calls (a := (FW a 200)) (b := (FW a 200)) (by omega) (by omega)) ?_
  rintro v_ w9 ⟨rfl, hk8⟩
  have hS11 := SH.same hS10 hk8
  refine WL.call rfl (XC.fn Try.func11 (by kernel_rfl) rfl rfl rfl) (plain_calls (s := (MARK (FW a 200) (FW a 200))) (by rw [hms_]; omega)) ?_
  rintro v_ w10 ⟨rfl, hk9⟩
  have hS12 := SH.same hS11 hk9
  refine WL.lv rfl (LV.mv rfl) ?_
  refine WL.call rfl (XC.fn Try.func11 (by kernel_rfl) rfl rfl rfl) (plain_calls (s := (FW a 200)) (by first | omega | (simp only [ByteArray.size_append, lit1]; omega))) ?_
  rintro v_ w11 ⟨rfl, hk10⟩
  have hS13 := SH.same hS12 hk10
  refine WL.lv rfl (LV.as (LV.eqSP (a := (PLN (MARK (FW a 200) (FW a 200)))) (b := (PLN (FW a 200))) rfl rfl) (decide_eq_true (by rw [hms_]))) ?_
  refine WL.lv rfl (LV.pickT rfl rfl) ?_
  refine WL.lv rfl (LV.asg rfl) ?_
  refine WL.nil (thenQ.n ?_)
  refine WC.ret (?_)
  exact ⟨_, fun a ha => res1 rfl ha rfl, rfl, hS13.kb⟩

end Go.Proofs.Ytjjilkibcomfcaa
