/- The laws of myers. -/
import Derived.Test.YtklfonkkpbkikaaMyD
import Derived.Test.YtklfonkkpbkikaaMyB
namespace Go.Proofs.Ytklfonkkpbkikaa
open Go Go.Gv Go.RowKit Go.Mys
set_option linter.unusedVariables false
set_option linter.unusedSimpArgs false

theorem myersMetric_law {w : World} {A0 A1 A2 : Option Addr} {a b c : List Int} {c0 c1 c2 : Nat} (ha : St No w (Rd eI (.slice A0 a.length c0) a)) (hb : St No w (Rd eI (.slice A1 b.length c1) b)) (hc : St No w (Rd eI (.slice A2 c.length c2) c)) :
    Calls Try.prog 5 #[(.slice A0 a.length c0), (.slice A1 b.length c1), (.slice A2 c.length c2)] w fun e w' => ∃ v, e = .returned v ∧ (fun v w' => v = .bool true ∧ KB No w w') v w' := by
  have hd1 := Dst_bd (a.take 40) (b.take 40)
  have hd2 := Dst_bd (b.take 40) (c.take 40)
  have hd3 := Dst_bd (a.take 40) (c.take 40)
  have hS : SH w No w [] := SH.nil _ _
  refine calls (l := litOf [(.slice A0 a.length c0), (.slice A1 b.length c1), (.slice A2 c.length c2)] 0) Try.func5 rfl (n := 48) rfl (Nat.le_of_ble_eq_true rfl) (lit_args _) ?_
  refine WC.seq ?_
  refine WC.region ?_
  refine WL.lv rfl (LV.asg rfl) ?_
  refine WL.nil (thenQ.n ?_)
  refine WC.seq ?_
  refine WC.region ?_
  refine WL.lv rfl (LV.mv rfl) ?_
  refine WL.call rfl (XC.fn Try.func10 (by kernel_rfl) rfl rfl rfl) (few_calls (SH.stN hS ha)) ?_
  rintro v_ w1 ⟨rfl, hk1⟩
  have hS1 := SH.same hS hk1
  refine WL.lv rfl (LV.mv rfl) ?_
  refine WL.call rfl (XC.fn Try.func10 (by kernel_rfl) rfl rfl rfl) (few_calls (SH.stN hS1 hb)) ?_
  rintro v_ w2 ⟨rfl, hk2⟩
  have hS2 := SH.same hS1 hk2
  refine WL.lv rfl (LV.mv rfl) ?_
  refine WL.call rfl (XC.fn Try.func10 (by kernel_rfl) rfl rfl rfl) (few_calls (SH.stN hS2 hc)) ?_
  rintro v_ w3 ⟨rfl, hk3⟩
  have hS3 := SH.same hS2 hk3
  iterate 3 refine WL.lv rfl (LV.asg rfl) ?_
  refine WL.nil (thenQ.n ?_)
  refine WC.seq ?_
  refine WC.region ?_
  iterate 2 refine WL.lv rfl (LV.mv rfl) ?_
  refine WL.call rfl (XC.fn Try.func18 (by kernel_rfl) rfl rfl rfl) (distance_calls (SH.stN hS3 (few_rd 40 ha)) (SH.stN hS3 (few_rd 40 hb))) ?_
  rintro v_ w4 ⟨rfl, hk4⟩
  have hS4 := SH.same hS3 hk4
  iterate 2 refine WL.lv rfl (LV.mv rfl) ?_
  refine WL.call rfl (XC.fn Try.func18 (by kernel_rfl) rfl rfl rfl) (distance_calls (SH.stN hS4 (few_rd 40 hb)) (SH.stN hS4 (few_rd 40 hc))) ?_
  rintro v_ w5 ⟨rfl, hk5⟩
  have hS5 := SH.same hS4 hk5
  iterate 2 refine WL.lv rfl (LV.mv rfl) ?_
  refine WL.call rfl (XC.fn Try.func18 (by kernel_rfl) rfl rfl rfl) (distance_calls (SH.stN hS5 (few_rd 40 ha)) (SH.stN hS5 (few_rd 40 hc))) ?_
  rintro v_ w6 ⟨rfl, hk6⟩
  have hS6 := SH.same hS5 hk6
  iterate 3 refine WL.lv rfl (LV.asg rfl) ?_
  refine WL.nil (thenQ.n ?_)
  refine WC.seq ?_
  refine WC.region ?_
  refine WL.call rfl (XC.fn Try.func11 (by kernel_rfl) rfl rfl rfl) (live_calls) ?_
  rintro v_ w7 ⟨rfl, hk7⟩
  have hS7 := SH.same hS6 hk7
  iterate 2 refine WL.lv rfl (LV.mv rfl) ?_
  refine WL.lv rfl (LV.eqI rfl rfl) ?_
  iterate 2 refine WL.lv rfl (LV.mv rfl) ?_
  refine WL.call rfl (XC.fn Try.func20 (by kernel_rfl) rfl rfl rfl) (ints_calls (SH.stN hS7 (few_rd 40 ha)) (SH.stN hS7 (few_rd 40 hb))) ?_
  rintro v_ w8 ⟨rfl, hk8⟩
  have hS8 := SH.same hS7 hk8
  refine WL.lv rfl (LV.as (LV.eqB Try.underlying4 rfl rfl) (metric0 (a.take 40) (b.take 40) (by rw [List.length_take]; omega) (by rw [List.length_take]; omega))) ?_
  refine WL.lv rfl (LV.pickT rfl rfl) ?_
  iterate 4 refine WL.lv rfl (LV.mv rfl) ?_
  refine WL.call rfl (XC.fn Try.func18 (by kernel_rfl) rfl rfl rfl) (distance_calls (SH.stN hS8 (few_rd 40 hb)) (SH.stN hS8 (few_rd 40 ha))) ?_
  rintro v_ w9 ⟨rfl, hk9⟩
  have hS9 := SH.same hS8 hk9
  refine WL.lv rfl (LV.as (LV.eqI rfl rfl) (decide_eq_true (Dst_comm _ _))) ?_
  refine WL.lv rfl (LV.pickT rfl rfl) ?_
  iterate 4 refine WL.lv rfl (LV.mv rfl) ?_
  refine WL.lv rfl (LV.add rfl rfl (wr64 (by omega) (by omega))) ?_
  refine WL.lv rfl (LV.as (LV.leI rfl rfl) (decide_eq_true (Dst_tri _ _ _ (by rw [List.length_take]; omega) (by rw [List.length_take]; omega) (by rw [List.length_take]; omega)))) ?_
  refine WL.lv rfl (LV.pickT rfl rfl) ?_
  refine WL.lv rfl (LV.asg rfl) ?_
  refine WL.nil (thenQ.n ?_)
  refine WC.ret (?_)
  exact ⟨_, fun a ha => res1 rfl ha rfl, rfl, hS9.kb⟩

end Go.Proofs.Ytklfonkkpbkikaa
