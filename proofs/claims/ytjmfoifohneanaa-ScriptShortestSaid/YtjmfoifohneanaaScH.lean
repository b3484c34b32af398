/- A script's normal form. -/
import Derived.Test.YtjmfoifohneanaaScG
namespace Go.Proofs.Ytjmfoifohneanaa
open Go Go.Gv Go.RowKit Go.Mys Go.Num Go.Scr
set_option linter.unusedVariables false
set_option linter.unusedSimpArgs false

theorem Normal_calls {w : World} {A0 : Option Addr} {c0 : Nat} {inp : List (ED × List Ln)} (hi : St No w (Rd eE (.slice A0 inp.length c0) (inp.map (·.1)))) (hin : St No w (RdIn (·.2) eL inp)) (hm : ∀ p ∈ inp, p.2.length ≤ 140737488355328) :
    Calls Try.prog 23 #[(.slice A0 inp.length c0)] w fun e w' => ∃ v, e = .returned v ∧ (fun v w' => ∃ A' c' rows', v = .tuple #[.slice A' rows'.length c', .int .i64 (chk (scr inp))] ∧ scr rows' = NF (scr inp) ∧ SH w No w' [rowE eE 39 (.slice A' rows'.length c') (rows'.map (fun p : ED × List Ln => p.1)), insE (fun p : ED => p.2) eL 41 rows']) v w' := by
  have hS : SH w No w [] := SH.nil _ _
  refine calls (l := litOf [(.slice A0 inp.length c0)] 0) Try.func23 rfl (n := 12) rfl (Nat.le_of_ble_eq_true rfl) (lit_args _) ?_
  refine WC.seq ?_
  refine WC.region ?_
  iterate 2 refine WL.lv rfl (LV.asg rfl) ?_
  refine WL.nil (thenQ.n ?_)
  iterate 2 refine WC.seq ?_
  refine WC.region ?_
  refine WL.lv rfl (LV.mv rfl) ?_
  refine WL.call rfl (XC.fn Try.func21 (by kernel_rfl) rfl rfl rfl) (check_calls (SH.stN hS hi) (SH.stN hS hin) hm) ?_
  rintro v_ w1 ⟨rfl, hk1⟩
  have hS1 := SH.same hS hk1
  refine WL.lv rfl (LV.asg rfl) ?_
  refine WL.nil (thenQ.n ?_)
  refine WC.seq ?_
  refine WC.region ?_
  refine WL.lv rfl (LV.mv rfl) ?_
  refine WL.lv rfl (LV.neI rfl rfl) ?_
  refine WL.nil (thenQ.n ?_)
  refine WC.condP (p := (chk (scr inp)) ≠ 0) rfl (fun hc1 => ?_) (fun hc1 => ?_)
  · skip
    refine WC.seq ?_
    refine WC.region ?_
    refine WL.lv rfl (LV.mv rfl) ?_
    iterate 2 refine WL.lv rfl (LV.asg rfl) ?_
    refine WL.nil (thenQ.n ?_)
    refine WC.ret (thenQ.r <| ?_)
    have hS2 := SH.nilRow (E := eE) (T := 39) hS1
    have hS3 := SH.ins0 (sv := fun p : ED => p.2) (E := eL) (T1 := 41) hS2
    have hS4 : SH w No w1 [rowE eE 39 (.slice none 0 0) (([] : List (ED × List Ln)).map (fun p : ED × List Ln => p.1)), insE (fun p : ED => p.2) eL 41 []] := (SH.front [insE (fun p : ED => p.2) eL 41 []] hS3)
    exact ⟨_, fun a ha => res2 rfl ha rfl rfl, _, _, [], rfl, (if_neg hc1).symm, hS4⟩
  · have hck : chk (scr inp) = 0 := Decidable.not_not.1 hc1
    refine WC.skip (thenQ.n ?_)
    refine WC.seq ?_
    refine WC.region ?_
    refine WL.lv rfl (LV.mv rfl) ?_
    refine WL.call rfl (XC.fn Try.func31 (by kernel_rfl) rfl rfl rfl) (normal_calls (SH.stN hS1 hi) (SH.stN hS1 hin) (chk0 hck).2.1 (by have h_ := (chk0 hck).1; rw [scr_length] at h_; omega)) ?_
    rintro v_ w2 ⟨A1, c1, rows1, rfl, hnf1, hS5⟩
    have hS6 := SH.joinN hS1 hS5
    iterate 2 refine WL.lv rfl (LV.asg rfl) ?_
    refine WL.nil (thenQ.n ?_)
    refine WC.ret (?_)
    exact ⟨_, fun a ha => res2 rfl ha rfl rfl, _, _, _, (by rw [hck]), (by rw [hnf1]; exact (if_pos hck).symm), hS6⟩

end Go.Proofs.Ytjmfoifohneanaa
