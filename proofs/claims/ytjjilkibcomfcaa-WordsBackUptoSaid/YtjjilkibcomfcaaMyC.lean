/- The exported functions of package myers. -/
import Derived.Test.YtjjilkibcomfcaaMy
namespace Go.Proofs.Ytjjilkibcomfcaa
open Go Go.Gv Go.RowKit Go.Mys
set_option linter.unusedVariables false
set_option linter.unusedSimpArgs false

theorem long_calls {w : World} {A0 A1 : Option Addr} {n0 n1 c0 c1 : Nat} :
    Calls Try.prog 37 #[(.slice A0 n0 c0), (.slice A1 n1 c1)] w fun e w' => ∃ v, e = .returned v ∧ (fun v w' => v = .bool (decide (n0 > 400 ∨ n1 > 400)) ∧ KB No w w') v w' := by
  have hS : SH w No w [] := SH.nil _ _
  refine calls (l := litOf [(.slice A0 n0 c0), (.slice A1 n1 c1)] 0) Try.func37 rfl (n := 13) rfl (Nat.le_of_ble_eq_true rfl) (lit_args _) ?_
  refine WC.seq ?_
  refine WC.region ?_
  refine WL.lv rfl (LV.asg rfl) ?_
  refine WL.nil (thenQ.n ?_)
  refine WC.seq ?_
  refine WC.region ?_
  refine WL.lv rfl (LV.mv rfl) ?_
  refine WL.lv rfl (LV.lenL Try.underlying54 rfl) ?_
  rcases Decidable.em ((n0 : Int) > 400) with hg1 | hg1
  · refine WL.lv rfl (LV.as (LV.gtI rfl rfl) (decide_eq_true hg1)) ?_
    refine WL.lv rfl (LV.mv rfl) ?_
    iterate 3 refine WL.off rfl ?_
    refine WL.lv rfl (LV.pickT rfl rfl) ?_
    refine WL.lv rfl (LV.asg rfl) ?_
    refine WL.nil (thenQ.n ?_)
    refine WC.ret (?_)
    exact ⟨_, fun a ha => res1 rfl ha rfl, congrArg Value.bool (decide_eq_true (show n0 > 400 ∨ n1 > 400 by omega)).symm, hS.kb⟩
  · refine WL.lv rfl (LV.as (LV.gtI rfl rfl) (decide_eq_false hg1)) ?_
    iterate 2 refine WL.lv rfl (LV.mv rfl) ?_
    refine WL.lv rfl (LV.lenL Try.underlying54 rfl) ?_
    refine WL.lv rfl (LV.gtI rfl rfl) ?_
    refine WL.lv rfl (LV.pickF rfl rfl) ?_
    refine WL.lv rfl (LV.asg rfl) ?_
    refine WL.nil (thenQ.n ?_)
    refine WC.ret (?_)
    exact ⟨_, fun a ha => res1 rfl ha rfl, congrArg Value.bool (decide_eq_decide.2 (by omega)), hS.kb⟩

theorem pairs7_calls {w : World} {A0 A1 : Option Addr} {a b : List Int} {c0 c1 : Nat} (ha : St No w (Rd eI (.slice A0 a.length c0) a)) (hb : St No w (Rd eI (.slice A1 b.length c1) b)) :
    Calls Try.prog 56 #[(.slice A0 a.length c0), (.slice A1 b.length c1)] w fun e w' => ∃ v, e = .returned v ∧ (fun v w' => ∃ A' c', v = .slice A' (Prs a b).length c' ∧ SH w No w' [rowE eP 65 (.slice A' (Prs a b).length c') (Prs a b)]) v w' := by
  have hS : SH w No w [] := SH.nil _ _
  refine calls (l := litOf [(.slice A0 a.length c0), (.slice A1 b.length c1)] 0) Try.func56 rfl (n := 15) rfl (Nat.le_of_ble_eq_true rfl) (lit_args _) ?_
  refine WC.seq ?_
  refine WC.region ?_
  refine WL.lv rfl (LV.asg rfl) ?_
  refine WL.nil (thenQ.n ?_)
  iterate 2 refine WC.seq ?_
  refine WC.region ?_
  iterate 2 refine WL.lv rfl (LV.mv rfl) ?_
  refine WL.call rfl (XC.fn Try.func37 (by kernel_rfl) rfl rfl rfl) (long_calls) ?_
  rintro v_ w1 ⟨rfl, hk1⟩
  have hS1 := SH.same hS hk1
  refine WL.nil (thenQ.n ?_)
  refine WC.condP (p := a.length > 400 ∨ b.length > 400) rfl (fun hc1 => ?_) (fun hc1 => ?_)
  · skip
    refine WC.seq ?_
    refine WC.region ?_
    refine WL.lv rfl (LV.asg rfl) ?_
    refine WL.nil (thenQ.n ?_)
    refine WC.ret (thenQ.r <| ?_)
    have hS2 := SH.nilRow (E := eP) (T := 65) hS1
    exact ⟨_, fun a ha => res1 rfl ha rfl, (by rw [show Prs a b = [] from if_pos hc1]; exact ⟨_, _, rfl, hS2⟩)⟩
  · have hla : a.length ≤ 400 := by omega
    have hlb : b.length ≤ 400 := by omega
    refine WC.skip (thenQ.n ?_)
    refine WC.seq ?_
    refine WC.region ?_
    refine WL.xe rfl (XE.alloc #[(.slice none 0 0)] hS1 ti63 rfl) ?_
    rintro _ w2 ⟨b1, rfl, hS3, hk2⟩
    refine WL.nil (thenQ.n ?_)
    refine WC.seq ?_
    refine WC.region ?_
    iterate 2 refine WL.lv rfl (LV.mv rfl) ?_
    refine WL.call rfl (XC.fn Try.func64 (by kernel_rfl) rfl rfl rfl) (fill_calls (SH.stN hS3 ha) (SH.stN hS3 hb) hla hlb) ?_
    rintro v_ w3 ⟨gb1, A2, c2, rows1, rfl, hF1, hn1, hS4⟩
    have hS5 := SH.joinN hS3 hS4
    refine WL.lv rfl (LV.mkFunc rfl) ?_
    have hS6 := SH.nilRow (E := eP) (T := 65) hS5
    have hS7 : SH w No w3 [blkE b1 63 #[(.slice none 0 0)], rowE eP 65 (.slice none 0 0) [], blkE gb1 106 #[(.slice A0 a.length c0), (.slice A1 b.length c1), (.slice A2 rows1.length c2)], rrE eI 54 3 (.slice A2 rows1.length c2) rows1] := (SH.front [rowE eP 65 (.slice none 0 0) [], blkE gb1 106 #[(.slice A0 a.length c0), (.slice A1 b.length c1), (.slice A2 rows1.length c2)], rrE eI 54 3 (.slice A2 rows1.length c2) rows1] hS6)
    have hT1 := SH.sub (Es := [blkE b1 63 #[(.slice none 0 0)], rowE eP 65 (.slice none 0 0) []]) hS7
    refine WL.call rfl (XC.fn Try.func65 (by kernel_rfl) rfl rfl rfl) (walkp_calls (SH.stE (Es := [blkE b1 63 #[(.slice none 0 0)], rowE eP 65 (.slice none 0 0) []]) hS7 (.head _)) (SH.stA (Es := [blkE b1 63 #[(.slice none 0 0)], rowE eP 65 (.slice none 0 0) []]) hS7 ha) (SH.stA (Es := [blkE b1 63 #[(.slice none 0 0)], rowE eP 65 (.slice none 0 0) []]) hS7 hb) ((SH.stE (Es := [blkE b1 63 #[(.slice none 0 0)], rowE eP 65 (.slice none 0 0) []]) hS7 (.tail _ (.head _))).imp fun _ h => rr_rd h) hF1 hn1 (by omega) (by omega) hT1) ?_
    rintro v_ w4 ⟨A3, c3, rfl, hU1⟩
    have hS8 := SH.back (Es := [blkE b1 63 #[(.slice none 0 0)], rowE eP 65 (.slice none 0 0) []]) hS7 hU1
    refine WL.nil (thenQ.n ?_)
    refine WC.seq ?_
    refine WC.region ?_
    refine WL.lv rfl (LV.load1 Try.underlying63 rfl rfl (Blk.cellN (SH.at hS8 (.head _)) 0 rfl _ (KB.refl No _))) ?_
    refine WL.lv rfl (LV.asg rfl) ?_
    refine WL.nil (thenQ.n ?_)
    refine WC.ret (?_)
    have hS9 : SH w No w4 [rowE eP 65 (.slice A3 (((prs (way a b) 0 0)).length) c3) (prs (way a b) 0 0)] := (SH.take 1 rfl (SH.front [blkE b1 63 #[(.slice A3 (((prs (way a b) 0 0)).length) c3)]] hS8))
    exact ⟨_, fun a ha => res1 rfl ha rfl, (by rw [show Prs a b = prs (way a b) 0 0 from if_neg hc1]; exact ⟨_, _, rfl, hS9⟩)⟩

end Go.Proofs.Ytjjilkibcomfcaa
