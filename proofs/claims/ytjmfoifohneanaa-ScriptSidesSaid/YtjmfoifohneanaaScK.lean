/- A script applied. -/
import Derived.Test.YtjmfoifohneanaaScJ
namespace Go.Proofs.Ytjmfoifohneanaa
open Go Go.Gv Go.RowKit Go.Mys Go.Num Go.Scr
set_option linter.unusedVariables false
set_option linter.unusedSimpArgs false

theorem apply_calls {w : World} {A0 A1 : Option Addr} {c0 c1 : Nat} {a : List Ln} {inp : List (ED × List Ln)} (hi : St No w (Rd eE (.slice A0 inp.length c0) (inp.map (·.1)))) (hin : St No w (RdIn (·.2) eL inp)) (hm : ∀ p ∈ inp, p.2.length ≤ 140737488355328) (hla : St No w (Rd eL (.slice A1 a.length c1) a)) :
    Calls Try.prog 26 #[(.slice A0 inp.length c0), (.slice A1 a.length c1)] w fun e w' => ∃ v, e = .returned v ∧ (fun v w' => ∃ A' c', v = .tuple #[.slice A' (apT (scr inp) a).length c', .int .i64 (apE (scr inp) a)] ∧ SH w No w' [rowE eL 41 (.slice A' (apT (scr inp) a).length c') (apT (scr inp) a)]) v w' := by
  have hS : SH w No w [] := SH.nil _ _
  refine calls (l := litOf [(.slice A0 inp.length c0), (.slice A1 a.length c1)] 0) Try.func26 rfl (n := 25) rfl (Nat.le_of_ble_eq_true rfl) (lit_args _) ?_
  refine WC.seq ?_
  refine WC.region ?_
  iterate 2 refine WL.lv rfl (LV.asg rfl) ?_
  refine WL.nil (thenQ.n ?_)
  refine WC.seq ?_
  refine WC.region ?_
  refine WL.lv rfl (LV.mv rfl) ?_
  refine WL.call rfl (XC.fn Try.func16 (by kernel_rfl) rfl rfl rfl) (sides8_calls (SH.stN hS hi) (SH.stN hS hin) hm) ?_
  rintro v_ w1 ⟨A2, c2, A3, c3, rfl, hS1⟩
  have hS2 := SH.joinN hS hS1
  refine WL.lv rfl (LV.mv rfl) ?_
  iterate 3 refine WL.lv rfl (LV.extract rfl rfl) ?_
  iterate 3 refine WL.lv rfl (LV.asg rfl) ?_
  refine WL.nil (thenQ.n ?_)
  refine WC.seq ?_
  refine WC.block ?_
  refine WC.seq ?_
  refine WC.region ?_
  refine WL.lv rfl (LV.mv rfl) ?_
  refine WL.lv rfl (LV.neI rfl rfl) ?_
  refine WL.lv rfl (LV.asg rfl) ?_
  refine WL.nil (thenQ.n ?_)
  refine WC.condP (p := (chk (scr inp)) ≠ 0) rfl (fun hc1 => ?_) (fun hc1 => ?_)
  · skip
    refine WC.seq ?_
    refine WC.region ?_
    refine WL.lv rfl (LV.mv rfl) ?_
    iterate 2 refine WL.lv rfl (LV.asg rfl) ?_
    refine WL.nil (thenQ.n ?_)
    refine WC.ret (blockQ.r <| thenQ.r <| ?_)
    have hS3 := SH.nilRow (E := eL) (T := 41) hS2
    have hS4 : SH w No w1 [rowE eL 41 (.slice none 0 0) []] := (SH.take 1 rfl hS3)
    exact ⟨_, fun a ha => res2 rfl ha rfl rfl, (by rw [show apT (scr inp) a = [] from if_neg (fun h_ => hc1 h_.1), show apE (scr inp) a = chk (scr inp) from if_pos hc1]; exact ⟨_, _, rfl, hS4⟩)⟩
  · skip
    refine WC.seq ?_
    refine WC.region ?_
    iterate 2 refine WL.lv rfl (LV.mv rfl) ?_
    refine WL.call rfl (XC.fn Try.func37 (by kernel_rfl) rfl rfl rfl) (equal_calls (SH.rd hS2 (.head _)) (SH.stN hS2 hla)) ?_
    rintro v_ w2 ⟨rfl, hk1⟩
    have hS5 := SH.same hS2 hk1
    refine WL.lv rfl (LV.notP rfl) ?_
    refine WL.lv rfl (LV.asg rfl) ?_
    refine WL.nil (thenQ.n ?_)
    refine WC.condP (p := ¬ ((SA (scr inp)) = a)) rfl (fun hc2 => ?_) (fun hc2 => ?_)
    · skip
      refine WC.seq ?_
      refine WC.region ?_
      iterate 2 refine WL.lv rfl (LV.asg rfl) ?_
      refine WL.nil (thenQ.n ?_)
      refine WC.ret (blockQ.r <| thenQ.r <| ?_)
      have hS6 := SH.nilRow (E := eL) (T := 41) hS5
      have hS7 : SH w No w2 [rowE eL 41 (.slice none 0 0) []] := (SH.take 1 rfl hS6)
      exact ⟨_, fun a ha => res2 rfl ha rfl rfl, (by rw [show apT (scr inp) a = [] from if_neg (fun h_ => hc2 h_.2), show apE (scr inp) a = 8 from (if_neg hc1).trans (if_neg hc2)]; exact ⟨_, _, rfl, hS7⟩)⟩
    · skip
      refine WC.skip (blockQ.n <| thenQ.n ?_)
      refine WC.seq ?_
      refine WC.region ?_
      refine WL.lv rfl (LV.mv rfl) ?_
      iterate 2 refine WL.lv rfl (LV.asg rfl) ?_
      refine WL.nil (thenQ.n ?_)
      refine WC.ret (?_)
      have hS8 : SH w No w2 [rowE eL 41 (.slice A3 ((SB (scr inp)).length) c3) (SB (scr inp))] := (SH.take 1 rfl (SH.front [rowE eL 41 (.slice A2 ((SA (scr inp)).length) c2) (SA (scr inp))] hS5))
      exact ⟨_, fun a ha => res2 rfl ha rfl rfl, (by rw [show apT (scr inp) a = SB (scr inp) from if_pos ⟨(Decidable.not_not.1 hc1), (Decidable.not_not.1 hc2)⟩, show apE (scr inp) a = 0 from (if_neg hc1).trans (if_pos (Decidable.not_not.1 hc2))]; exact ⟨_, _, rfl, hS8⟩)⟩

theorem rapply_calls {w : World} {A0 A1 : Option Addr} {c0 c1 : Nat} {a : List Ln} {inp : List (ED × List Ln)} (hi : St No w (Rd eE (.slice A0 inp.length c0) (inp.map (·.1)))) (hin : St No w (RdIn (·.2) eL inp)) (hm : ∀ p ∈ inp, p.2.length ≤ 140737488355328) (hla : St No w (Rd eL (.slice A1 a.length c1) a)) :
    Calls Try.prog 27 #[(.slice A0 inp.length c0), (.slice A1 a.length c1)] w fun e w' => ∃ v, e = .returned v ∧ (fun v w' => ∃ A' c', v = .tuple #[.slice A' (apT (scr inp) a).length c', .int .i64 (apE (scr inp) a)] ∧ SH w No w' [rowE eL 41 (.slice A' (apT (scr inp) a).length c') (apT (scr inp) a)]) v w' := by
  have hS : SH w No w [] := SH.nil _ _
  refine calls (l := litOf [(.slice A0 inp.length c0), (.slice A1 a.length c1)] 0) Try.func27 rfl (n := 23) rfl (Nat.le_of_ble_eq_true rfl) (lit_args _) ?_
  refine WC.seq ?_
  refine WC.region ?_
  iterate 2 refine WL.lv rfl (LV.asg rfl) ?_
  refine WL.nil (thenQ.n ?_)
  refine WC.seq ?_
  refine WC.region ?_
  refine WL.lv rfl (LV.mv rfl) ?_
  refine WL.call rfl (XC.fn Try.func19 (by kernel_rfl) rfl rfl rfl) (rsides_calls (SH.stN hS hi) (SH.stN hS hin) hm) ?_
  rintro v_ w1 ⟨A2, c2, A3, c3, rfl, hS1⟩
  have hS2 := SH.joinN hS hS1
  refine WL.lv rfl (LV.mv rfl) ?_
  iterate 3 refine WL.lv rfl (LV.extract rfl rfl) ?_
  iterate 3 refine WL.lv rfl (LV.asg rfl) ?_
  refine WL.nil (thenQ.n ?_)
  iterate 2 refine WC.seq ?_
  refine WC.region ?_
  refine WL.lv rfl (LV.mv rfl) ?_
  refine WL.lv rfl (LV.neI rfl rfl) ?_
  refine WL.nil (thenQ.n ?_)
  refine WC.condP (p := (chk (scr inp)) ≠ 0) rfl (fun hc1 => ?_) (fun hc1 => ?_)
  · skip
    refine WC.seq ?_
    refine WC.region ?_
    refine WL.lv rfl (LV.mv rfl) ?_
    iterate 2 refine WL.lv rfl (LV.asg rfl) ?_
    refine WL.nil (thenQ.n ?_)
    refine WC.ret (thenQ.r <| ?_)
    have hS3 := SH.nilRow (E := eL) (T := 41) hS2
    have hS4 : SH w No w1 [rowE eL 41 (.slice none 0 0) []] := (SH.take 1 rfl hS3)
    exact ⟨_, fun a ha => res2 rfl ha rfl rfl, (by rw [show apT (scr inp) a = [] from if_neg (fun h_ => hc1 h_.1), show apE (scr inp) a = chk (scr inp) from if_pos hc1]; exact ⟨_, _, rfl, hS4⟩)⟩
  · skip
    refine WC.skip (thenQ.n ?_)
    iterate 2 refine WC.seq ?_
    refine WC.region ?_
    iterate 2 refine WL.lv rfl (LV.mv rfl) ?_
    refine WL.call rfl (XC.fn Try.func20 (by kernel_rfl) rfl rfl rfl) (lines_calls (SH.rd hS2 (.head _)) (SH.stN hS2 hla)) ?_
    rintro v_ w2 ⟨rfl, hk1⟩
    have hS5 := SH.same hS2 hk1
    refine WL.lv rfl (LV.notP rfl) ?_
    refine WL.nil (thenQ.n ?_)
    refine WC.condP (p := ¬ ((SA (scr inp)) = a)) rfl (fun hc2 => ?_) (fun hc2 => ?_)
    · skip
      refine WC.seq ?_
      refine WC.region ?_
      iterate 2 refine WL.lv rfl (LV.asg rfl) ?_
      refine WL.nil (thenQ.n ?_)
      refine WC.ret (thenQ.r <| ?_)
      have hS6 := SH.nilRow (E := eL) (T := 41) hS5
      have hS7 : SH w No w2 [rowE eL 41 (.slice none 0 0) []] := (SH.take 1 rfl hS6)
      exact ⟨_, fun a ha => res2 rfl ha rfl rfl, (by rw [show apT (scr inp) a = [] from if_neg (fun h_ => hc2 h_.2), show apE (scr inp) a = 8 from (if_neg hc1).trans (if_neg hc2)]; exact ⟨_, _, rfl, hS7⟩)⟩
    · skip
      refine WC.skip (thenQ.n ?_)
      refine WC.seq ?_
      refine WC.region ?_
      refine WL.lv rfl (LV.mv rfl) ?_
      iterate 2 refine WL.lv rfl (LV.asg rfl) ?_
      refine WL.nil (thenQ.n ?_)
      refine WC.ret (?_)
      have hS8 : SH w No w2 [rowE eL 41 (.slice A3 ((SB (scr inp)).length) c3) (SB (scr inp))] := (SH.take 1 rfl (SH.front [rowE eL 41 (.slice A2 ((SA (scr inp)).length) c2) (SA (scr inp))] hS5))
      exact ⟨_, fun a ha => res2 rfl ha rfl rfl, (by rw [show apT (scr inp) a = SB (scr inp) from if_pos ⟨(Decidable.not_not.1 hc1), (Decidable.not_not.1 hc2)⟩, show apE (scr inp) a = 0 from (if_neg hc1).trans (if_pos (Decidable.not_not.1 hc2))]; exact ⟨_, _, rfl, hS8⟩)⟩

end Go.Proofs.Ytjmfoifohneanaa
