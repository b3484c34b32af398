/- Tokens; texts without marks. -/
import Derived.Test.YtjjilkibcomfcaaBu
import Derived.Test.YtjjilkibcomfcaaWdA
import Derived.Test.YtjjilkibcomfcaaGvG
import Derived.Test.YtjjilkibcomfcaaGvH
namespace Go.Proofs.Ytjjilkibcomfcaa
open Go Go.Gv Go.RowKit Go.Wds
set_option linter.unusedVariables false
set_option linter.unusedSimpArgs false
theorem ti9 : TI Try.prog 9 (.string ⟨#[]⟩) 1 16 := by unfold TI; kernel_rfl

theorem kind_calls {w : World} {c : Int}  :
    Calls Try.prog 21 #[(.int .u8 c)] w fun e w' => ∃ v, e = .returned v ∧ (fun v w' => v = .int .i64 (KD c) ∧ KB No w w') v w' := by
  have hk_ := kd_is c
  have hS : SH w No w [] := SH.nil _ _
  refine calls (l := litOf [(.int .u8 c)] 0) Try.func21 rfl (n := 30) rfl (Nat.le_of_ble_eq_true rfl) (lit_args _) ?_
  refine WC.seq ?_
  refine WC.region ?_
  refine WL.lv rfl (LV.asg rfl) ?_
  refine WL.nil (thenQ.n ?_)
  refine WC.seq ?_
  refine WC.block ?_
  refine WC.seq ?_
  refine WC.block ?_
  refine WC.seq ?_
  iterate 2 refine WC.block ?_
  iterate 3 refine WC.seq ?_
  refine WC.region ?_
  refine WL.lv rfl (LV.mv rfl) ?_
  rcases Decidable.em (c ≥ 48) with hg1 | hg1
  · refine WL.lv rfl (LV.as (LV.geI rfl rfl) (decide_eq_true hg1)) ?_
    iterate 2 refine WL.lv rfl (LV.mv rfl) ?_
    refine WL.lv rfl (LV.leI rfl rfl) ?_
    refine WL.lv rfl (LV.pickT rfl rfl) ?_
    refine WL.lv rfl (LV.asg rfl) ?_
    refine WL.nil (thenQ.n ?_)
    refine WC.condP (p := c ≤ 57) rfl (fun hc1 => ?_) (fun hc1 => ?_)
    · skip
      refine WC.exit (thenQ.x <| thenQ.x <| blockQ.hit <| blockQ.n <| thenQ.n ?_)
      iterate 2 refine WC.seq ?_
      refine WC.region ?_
      refine WL.lv rfl (LV.asg rfl) ?_
      refine WL.nil (thenQ.n ?_)
      refine WC.ret (thenQ.r <| blockQ.r <| thenQ.r <| blockQ.r <| thenQ.r <| ?_)
      exact ⟨_, fun a ha => res1 rfl ha rfl, congrArg (Value.int .i64) (by omega), hS.kb⟩
    · skip
      refine WC.skip (thenQ.n ?_)
      iterate 3 refine WC.seq ?_
      refine WC.region ?_
      refine WL.lv rfl (LV.mv rfl) ?_
      rcases Decidable.em (c ≥ 65) with hg2 | hg2
      · refine WL.lv rfl (LV.as (LV.geI rfl rfl) (decide_eq_true hg2)) ?_
        iterate 2 refine WL.lv rfl (LV.mv rfl) ?_
        refine WL.lv rfl (LV.leI rfl rfl) ?_
        refine WL.lv rfl (LV.pickT rfl rfl) ?_
        refine WL.lv rfl (LV.asg rfl) ?_
        refine WL.nil (thenQ.n ?_)
        refine WC.condP (p := c ≤ 90) rfl (fun hc2 => ?_) (fun hc2 => ?_)
        · skip
          refine WC.skip (thenQ.n ?_)
          refine WC.condP (p := c ≤ 90) rfl (fun hc3 => ?_) (fun hc3 => ?_)
          · refine WC.exit (thenQ.x <| thenQ.x <| blockQ.miss rfl <| blockQ.hit <| thenQ.n ?_)
            iterate 2 refine WC.seq ?_
            refine WC.region ?_
            refine WL.lv rfl (LV.asg rfl) ?_
            refine WL.nil (thenQ.n ?_)
            refine WC.ret (thenQ.r <| blockQ.r <| thenQ.r <| blockQ.r <| thenQ.r <| ?_)
            exact ⟨_, fun a ha => res1 rfl ha rfl, congrArg (Value.int .i64) (by omega), hS.kb⟩
          · exact absurd hc2 hc3
        · skip
          refine WC.seq ?_
          refine WC.region ?_
          refine WL.lv rfl (LV.mv rfl) ?_
          rcases Decidable.em (c ≥ 97) with hg3 | hg3
          · refine WL.lv rfl (LV.as (LV.geI rfl rfl) (decide_eq_true hg3)) ?_
            iterate 2 refine WL.lv rfl (LV.mv rfl) ?_
            refine WL.lv rfl (LV.leI rfl rfl) ?_
            refine WL.lv rfl (LV.pickT rfl rfl) ?_
            refine WL.lv rfl (LV.asg rfl) ?_
            refine WL.nil (thenQ.n ?_)
            refine WC.condP (p := c ≤ 122) rfl (fun hc4 => ?_) (fun hc4 => ?_)
            · skip
              refine WC.skip (thenQ.n ?_)
              refine WC.condP (p := c ≤ 122) rfl (fun hc5 => ?_) (fun hc5 => ?_)
              · refine WC.exit (thenQ.x <| thenQ.x <| blockQ.miss rfl <| blockQ.hit <| thenQ.n ?_)
                iterate 2 refine WC.seq ?_
                refine WC.region ?_
                refine WL.lv rfl (LV.asg rfl) ?_
                refine WL.nil (thenQ.n ?_)
                refine WC.ret (thenQ.r <| blockQ.r <| thenQ.r <| blockQ.r <| thenQ.r <| ?_)
                exact ⟨_, fun a ha => res1 rfl ha rfl, congrArg (Value.int .i64) (by omega), hS.kb⟩
              · exact absurd hc4 hc5
            · skip
              refine WC.region ?_
              refine WL.lv rfl (LV.mv rfl) ?_
              refine WL.lv rfl (LV.eqI rfl rfl) ?_
              refine WL.lv rfl (LV.asg rfl) ?_
              refine WL.nil (thenQ.n ?_)
              refine WC.condP (p := c = 95) rfl (fun hc6 => ?_) (fun hc6 => ?_)
              · skip
                refine WC.exit (thenQ.x <| thenQ.x <| blockQ.miss rfl <| blockQ.hit <| thenQ.n ?_)
                iterate 2 refine WC.seq ?_
                refine WC.region ?_
                refine WL.lv rfl (LV.asg rfl) ?_
                refine WL.nil (thenQ.n ?_)
                refine WC.ret (thenQ.r <| blockQ.r <| thenQ.r <| blockQ.r <| thenQ.r <| ?_)
                exact ⟨_, fun a ha => res1 rfl ha rfl, congrArg (Value.int .i64) (by omega), hS.kb⟩
              · skip
                refine WC.skip (thenQ.n ?_)
                iterate 2 refine WC.seq ?_
                refine WC.region ?_
                refine WL.lv rfl (LV.mv rfl) ?_
                refine WL.lv rfl (LV.eqI rfl rfl) ?_
                refine WL.lv rfl (LV.asg rfl) ?_
                refine WL.nil (thenQ.n ?_)
                refine WC.condP (p := c = 32) rfl (fun hc7 => ?_) (fun hc7 => ?_)
                · skip
                  refine WC.skip (thenQ.n ?_)
                  refine WC.condP (p := c = 32) rfl (fun hc8 => ?_) (fun hc8 => ?_)
                  · refine WC.exit (thenQ.x <| blockQ.miss rfl <| blockQ.miss rfl <| thenQ.x <| blockQ.hit <| thenQ.n ?_)
                    iterate 2 refine WC.seq ?_
                    refine WC.region ?_
                    refine WL.lv rfl (LV.asg rfl) ?_
                    refine WL.nil (thenQ.n ?_)
                    refine WC.ret (thenQ.r <| blockQ.r <| thenQ.r <| ?_)
                    exact ⟨_, fun a ha => res1 rfl ha rfl, congrArg (Value.int .i64) (by omega), hS.kb⟩
                  · exact absurd hc7 hc8
                · skip
                  refine WC.region ?_
                  refine WL.lv rfl (LV.mv rfl) ?_
                  refine WL.lv rfl (LV.eqI rfl rfl) ?_
                  refine WL.lv rfl (LV.asg rfl) ?_
                  refine WL.nil (thenQ.n ?_)
                  refine WC.condP (p := c = 9) rfl (fun hc9 => ?_) (fun hc9 => ?_)
                  · skip
                    refine WC.exit (thenQ.x <| blockQ.miss rfl <| blockQ.miss rfl <| thenQ.x <| blockQ.hit <| thenQ.n ?_)
                    iterate 2 refine WC.seq ?_
                    refine WC.region ?_
                    refine WL.lv rfl (LV.asg rfl) ?_
                    refine WL.nil (thenQ.n ?_)
                    refine WC.ret (thenQ.r <| blockQ.r <| thenQ.r <| ?_)
                    exact ⟨_, fun a ha => res1 rfl ha rfl, congrArg (Value.int .i64) (by omega), hS.kb⟩
                  · skip
                    refine WC.skip (thenQ.n ?_)
                    refine WC.exit (blockQ.miss rfl <| blockQ.miss rfl <| thenQ.x <| blockQ.miss rfl <| thenQ.x <| blockQ.hit <| thenQ.n ?_)
                    refine WC.seq ?_
                    refine WC.region ?_
                    refine WL.lv rfl (LV.asg rfl) ?_
                    refine WL.nil (thenQ.n ?_)
                    refine WC.ret (?_)
                    exact ⟨_, fun a ha => res1 rfl ha rfl, congrArg (Value.int .i64) (by omega), hS.kb⟩
          · refine WL.lv rfl (LV.as (LV.geI rfl rfl) (decide_eq_false hg3)) ?_
            refine WL.lv rfl (LV.mv rfl) ?_
            iterate 2 refine WL.off rfl ?_
            refine WL.lv rfl (LV.pickF rfl rfl) ?_
            refine WL.lv rfl (LV.asg rfl) ?_
            refine WL.nil (thenQ.n ?_)
            refine WC.condF rfl ?_
            refine WC.region ?_
            refine WL.lv rfl (LV.mv rfl) ?_
            refine WL.lv rfl (LV.eqI rfl rfl) ?_
            refine WL.lv rfl (LV.asg rfl) ?_
            refine WL.nil (thenQ.n ?_)
            refine WC.condP (p := c = 95) rfl (fun hc10 => ?_) (fun hc10 => ?_)
            · skip
              refine WC.exit (thenQ.x <| thenQ.x <| blockQ.miss rfl <| blockQ.hit <| thenQ.n ?_)
              iterate 2 refine WC.seq ?_
              refine WC.region ?_
              refine WL.lv rfl (LV.asg rfl) ?_
              refine WL.nil (thenQ.n ?_)
              refine WC.ret (thenQ.r <| blockQ.r <| thenQ.r <| blockQ.r <| thenQ.r <| ?_)
              exact ⟨_, fun a ha => res1 rfl ha rfl, congrArg (Value.int .i64) (by omega), hS.kb⟩
            · skip
              refine WC.skip (thenQ.n ?_)
              iterate 2 refine WC.seq ?_
              refine WC.region ?_
              refine WL.lv rfl (LV.mv rfl) ?_
              refine WL.lv rfl (LV.eqI rfl rfl) ?_
              refine WL.lv rfl (LV.asg rfl) ?_
              refine WL.nil (thenQ.n ?_)
              refine WC.condP (p := c = 32) rfl (fun hc11 => ?_) (fun hc11 => ?_)
              · skip
                refine WC.skip (thenQ.n ?_)
                refine WC.condP (p := c = 32) rfl (fun hc12 => ?_) (fun hc12 => ?_)
                · refine WC.exit (thenQ.x <| blockQ.miss rfl <| blockQ.miss rfl <| thenQ.x <| blockQ.hit <| thenQ.n ?_)
                  iterate 2 refine WC.seq ?_
                  refine WC.region ?_
                  refine WL.lv rfl (LV.asg rfl) ?_
                  refine WL.nil (thenQ.n ?_)
                  refine WC.ret (thenQ.r <| blockQ.r <| thenQ.r <| ?_)
                  exact ⟨_, fun a ha => res1 rfl ha rfl, congrArg (Value.int .i64) (by omega), hS.kb⟩
                · exact absurd hc11 hc12
              · skip
                refine WC.region ?_
                refine WL.lv rfl (LV.mv rfl) ?_
                refine WL.lv rfl (LV.eqI rfl rfl) ?_
                refine WL.lv rfl (LV.asg rfl) ?_
                refine WL.nil (thenQ.n ?_)
                refine WC.condP (p := c = 9) rfl (fun hc13 => ?_) (fun hc13 => ?_)
                · skip
                  refine WC.exit (thenQ.x <| blockQ.miss rfl <| blockQ.miss rfl <| thenQ.x <| blockQ.hit <| thenQ.n ?_)
                  iterate 2 refine WC.seq ?_
                  refine WC.region ?_
                  refine WL.lv rfl (LV.asg rfl) ?_
                  refine WL.nil (thenQ.n ?_)
                  refine WC.ret (thenQ.r <| blockQ.r <| thenQ.r <| ?_)
                  exact ⟨_, fun a ha => res1 rfl ha rfl, congrArg (Value.int .i64) (by omega), hS.kb⟩
                · skip
                  refine WC.skip (thenQ.n ?_)
                  refine WC.exit (blockQ.miss rfl <| blockQ.miss rfl <| thenQ.x <| blockQ.miss rfl <| thenQ.x <| blockQ.hit <| thenQ.n ?_)
                  refine WC.seq ?_
                  refine WC.region ?_
                  refine WL.lv rfl (LV.asg rfl) ?_
                  refine WL.nil (thenQ.n ?_)
                  refine WC.ret (?_)
                  exact ⟨_, fun a ha => res1 rfl ha rfl, congrArg (Value.int .i64) (by omega), hS.kb⟩
      · refine WL.lv rfl (LV.as (LV.geI rfl rfl) (decide_eq_false hg2)) ?_
        refine WL.lv rfl (LV.mv rfl) ?_
        iterate 2 refine WL.off rfl ?_
        refine WL.lv rfl (LV.pickF rfl rfl) ?_
        refine WL.lv rfl (LV.asg rfl) ?_
        refine WL.nil (thenQ.n ?_)
        refine WC.condF rfl ?_
        refine WC.seq ?_
        refine WC.region ?_
        refine WL.lv rfl (LV.mv rfl) ?_
        rcases Decidable.em (c ≥ 97) with hg4 | hg4
        · refine WL.lv rfl (LV.as (LV.geI rfl rfl) (decide_eq_true hg4)) ?_
          iterate 2 refine WL.lv rfl (LV.mv rfl) ?_
          refine WL.lv rfl (LV.leI rfl rfl) ?_
          refine WL.lv rfl (LV.pickT rfl rfl) ?_
          refine WL.lv rfl (LV.asg rfl) ?_
          refine WL.nil (thenQ.n ?_)
          refine WC.condP (p := c ≤ 122) rfl (fun hc14 => ?_) (fun hc14 => ?_)
          · skip
            refine WC.skip (thenQ.n ?_)
            refine WC.condP (p := c ≤ 122) rfl (fun hc15 => ?_) (fun hc15 => ?_)
            · refine WC.exit (thenQ.x <| thenQ.x <| blockQ.miss rfl <| blockQ.hit <| thenQ.n ?_)
              iterate 2 refine WC.seq ?_
              refine WC.region ?_
              refine WL.lv rfl (LV.asg rfl) ?_
              refine WL.nil (thenQ.n ?_)
              refine WC.ret (thenQ.r <| blockQ.r <| thenQ.r <| blockQ.r <| thenQ.r <| ?_)
              exact ⟨_, fun a ha => res1 rfl ha rfl, congrArg (Value.int .i64) (by omega), hS.kb⟩
            · exact absurd hc14 hc15
          · skip
            refine WC.region ?_
            refine WL.lv rfl (LV.mv rfl) ?_
            refine WL.lv rfl (LV.eqI rfl rfl) ?_
            refine WL.lv rfl (LV.asg rfl) ?_
            refine WL.nil (thenQ.n ?_)
            refine WC.condP (p := c = 95) rfl (fun hc16 => ?_) (fun hc16 => ?_)
            · skip
              refine WC.exit (thenQ.x <| thenQ.x <| blockQ.miss rfl <| blockQ.hit <| thenQ.n ?_)
              iterate 2 refine WC.seq ?_
              refine WC.region ?_
              refine WL.lv rfl (LV.asg rfl) ?_
              refine WL.nil (thenQ.n ?_)
              refine WC.ret (thenQ.r <| blockQ.r <| thenQ.r <| blockQ.r <| thenQ.r <| ?_)
              exact ⟨_, fun a ha => res1 rfl ha rfl, congrArg (Value.int .i64) (by omega), hS.kb⟩
            · skip
              refine WC.skip (thenQ.n ?_)
              iterate 2 refine WC.seq ?_
              refine WC.region ?_
              refine WL.lv rfl (LV.mv rfl) ?_
              refine WL.lv rfl (LV.eqI rfl rfl) ?_
              refine WL.lv rfl (LV.asg rfl) ?_
              refine WL.nil (thenQ.n ?_)
              refine WC.condP (p := c = 32) rfl (fun hc17 => ?_) (fun hc17 => ?_)
              · skip
                refine WC.skip (thenQ.n ?_)
                refine WC.condP (p := c = 32) rfl (fun hc18 => ?_) (fun hc18 => ?_)
                · refine WC.exit (thenQ.x <| blockQ.miss rfl <| blockQ.miss rfl <| thenQ.x <| blockQ.hit <| thenQ.n ?_)
                  iterate 2 refine WC.seq ?_
                  refine WC.region ?_
                  refine WL.lv rfl (LV.asg rfl) ?_
                  refine WL.nil (thenQ.n ?_)
                  refine WC.ret (thenQ.r <| blockQ.r <| thenQ.r <| ?_)
                  exact ⟨_, fun a ha => res1 rfl ha rfl, congrArg (Value.int .i64) (by omega), hS.kb⟩
                · exact absurd hc17 hc18
              · skip
                refine WC.region ?_
                refine WL.lv rfl (LV.mv rfl) ?_
                refine WL.lv rfl (LV.eqI rfl rfl) ?_
                refine WL.lv rfl (LV.asg rfl) ?_
                refine WL.nil (thenQ.n ?_)
                refine WC.condP (p := c = 9) rfl (fun hc19 => ?_) (fun hc19 => ?_)
                · skip
                  refine WC.exit (thenQ.x <| blockQ.miss rfl <| blockQ.miss rfl <| thenQ.x <| blockQ.hit <| thenQ.n ?_)
                  iterate 2 refine WC.seq ?_
                  refine WC.region ?_
                  refine WL.lv rfl (LV.asg rfl) ?_
                  refine WL.nil (thenQ.n ?_)
                  refine WC.ret (thenQ.r <| blockQ.r <| thenQ.r <| ?_)
                  exact ⟨_, fun a ha => res1 rfl ha rfl, congrArg (Value.int .i64) (by omega), hS.kb⟩
                · skip
                  refine WC.skip (thenQ.n ?_)
                  refine WC.exit (blockQ.miss rfl <| blockQ.miss rfl <| thenQ.x <| blockQ.miss rfl <| thenQ.x <| blockQ.hit <| thenQ.n ?_)
                  refine WC.seq ?_
                  refine WC.region ?_
                  refine WL.lv rfl (LV.asg rfl) ?_
                  refine WL.nil (thenQ.n ?_)
                  refine WC.ret (?_)
                  exact ⟨_, fun a ha => res1 rfl ha rfl, congrArg (Value.int .i64) (by omega), hS.kb⟩
        · refine WL.lv rfl (LV.as (LV.geI rfl rfl) (decide_eq_false hg4)) ?_
          refine WL.lv rfl (LV.mv rfl) ?_
          iterate 2 refine WL.off rfl ?_
          refine WL.lv rfl (LV.pickF rfl rfl) ?_
          refine WL.lv rfl (LV.asg rfl) ?_
          refine WL.nil (thenQ.n ?_)
          refine WC.condF rfl ?_
          refine WC.region ?_
          refine WL.lv rfl (LV.mv rfl) ?_
          refine WL.lv rfl (LV.eqI rfl rfl) ?_
          refine WL.lv rfl (LV.asg rfl) ?_
          refine WL.nil (thenQ.n ?_)
          refine WC.condP (p := c = 95) rfl (fun hc20 => ?_) (fun hc20 => ?_)
          · skip
            refine WC.exit (thenQ.x <| thenQ.x <| blockQ.miss rfl <| blockQ.hit <| thenQ.n ?_)
            iterate 2 refine WC.seq ?_
            refine WC.region ?_
            refine WL.lv rfl (LV.asg rfl) ?_
            refine WL.nil (thenQ.n ?_)
            refine WC.ret (thenQ.r <| blockQ.r <| thenQ.r <| blockQ.r <| thenQ.r <| ?_)
            exact ⟨_, fun a ha => res1 rfl ha rfl, congrArg (Value.int .i64) (by omega), hS.kb⟩
          · skip
            refine WC.skip (thenQ.n ?_)
            iterate 2 refine WC.seq ?_
            refine WC.region ?_
            refine WL.lv rfl (LV.mv rfl) ?_
            refine WL.lv rfl (LV.eqI rfl rfl) ?_
            refine WL.lv rfl (LV.asg rfl) ?_
            refine WL.nil (thenQ.n ?_)
            refine WC.condP (p := c = 32) rfl (fun hc21 => ?_) (fun hc21 => ?_)
            · skip
              refine WC.skip (thenQ.n ?_)
              refine WC.condP (p := c = 32) rfl (fun hc22 => ?_) (fun hc22 => ?_)
              · refine WC.exit (thenQ.x <| blockQ.miss rfl <| blockQ.miss rfl <| thenQ.x <| blockQ.hit <| thenQ.n ?_)
                iterate 2 refine WC.seq ?_
                refine WC.region ?_
                refine WL.lv rfl (LV.asg rfl) ?_
                refine WL.nil (thenQ.n ?_)
                refine WC.ret (thenQ.r <| blockQ.r <| thenQ.r <| ?_)
                exact ⟨_, fun a ha => res1 rfl ha rfl, congrArg (Value.int .i64) (by omega), hS.kb⟩
              · exact absurd hc21 hc22
            · skip
              refine WC.region ?_
              refine WL.lv rfl (LV.mv rfl) ?_
              refine WL.lv rfl (LV.eqI rfl rfl) ?_
              refine WL.lv rfl (LV.asg rfl) ?_
              refine WL.nil (thenQ.n ?_)
              refine WC.condP (p := c = 9) rfl (fun hc23 => ?_) (fun hc23 => ?_)
              · skip
                refine WC.exit (thenQ.x <| blockQ.miss rfl <| blockQ.miss rfl <| thenQ.x <| blockQ.hit <| thenQ.n ?_)
                iterate 2 refine WC.seq ?_
                refine WC.region ?_
                refine WL.lv rfl (LV.asg rfl) ?_
                refine WL.nil (thenQ.n ?_)
                refine WC.ret (thenQ.r <| blockQ.r <| thenQ.r <| ?_)
                exact ⟨_, fun a ha => res1 rfl ha rfl, congrArg (Value.int .i64) (by omega), hS.kb⟩
              · skip
                refine WC.skip (thenQ.n ?_)
                refine WC.exit (blockQ.miss rfl <| blockQ.miss rfl <| thenQ.x <| blockQ.miss rfl <| thenQ.x <| blockQ.hit <| thenQ.n ?_)
                refine WC.seq ?_
                refine WC.region ?_
                refine WL.lv rfl (LV.asg rfl) ?_
                refine WL.nil (thenQ.n ?_)
                refine WC.ret (?_)
                exact ⟨_, fun a ha => res1 rfl ha rfl, congrArg (Value.int .i64) (by omega), hS.kb⟩
  · refine WL.lv rfl (LV.as (LV.geI rfl rfl) (decide_eq_false hg1)) ?_
    refine WL.lv rfl (LV.mv rfl) ?_
    iterate 2 refine WL.off rfl ?_
    refine WL.lv rfl (LV.pickF rfl rfl) ?_
    refine WL.lv rfl (LV.asg rfl) ?_
    refine WL.nil (thenQ.n ?_)
    refine WC.condF rfl ?_
    refine WC.skip (thenQ.n ?_)
    iterate 3 refine WC.seq ?_
    refine WC.region ?_
    refine WL.lv rfl (LV.mv rfl) ?_
    rcases Decidable.em (c ≥ 65) with hg5 | hg5
    · refine WL.lv rfl (LV.as (LV.geI rfl rfl) (decide_eq_true hg5)) ?_
      iterate 2 refine WL.lv rfl (LV.mv rfl) ?_
      refine WL.lv rfl (LV.leI rfl rfl) ?_
      refine WL.lv rfl (LV.pickT rfl rfl) ?_
      refine WL.lv rfl (LV.asg rfl) ?_
      refine WL.nil (thenQ.n ?_)
      refine WC.condP (p := c ≤ 90) rfl (fun hc24 => ?_) (fun hc24 => ?_)
      · skip
        refine WC.skip (thenQ.n ?_)
        refine WC.condP (p := c ≤ 90) rfl (fun hc25 => ?_) (fun hc25 => ?_)
        · refine WC.exit (thenQ.x <| thenQ.x <| blockQ.miss rfl <| blockQ.hit <| thenQ.n ?_)
          iterate 2 refine WC.seq ?_
          refine WC.region ?_
          refine WL.lv rfl (LV.asg rfl) ?_
          refine WL.nil (thenQ.n ?_)
          refine WC.ret (thenQ.r <| blockQ.r <| thenQ.r <| blockQ.r <| thenQ.r <| ?_)
          exact ⟨_, fun a ha => res1 rfl ha rfl, congrArg (Value.int .i64) (by omega), hS.kb⟩
        · exact absurd hc24 hc25
      · skip
        refine WC.seq ?_
        refine WC.region ?_
        refine WL.lv rfl (LV.mv rfl) ?_
        rcases Decidable.em (c ≥ 97) with hg6 | hg6
        · refine WL.lv rfl (LV.as (LV.geI rfl rfl) (decide_eq_true hg6)) ?_
          iterate 2 refine WL.lv rfl (LV.mv rfl) ?_
          refine WL.lv rfl (LV.leI rfl rfl) ?_
          refine WL.lv rfl (LV.pickT rfl rfl) ?_
          refine WL.lv rfl (LV.asg rfl) ?_
          refine WL.nil (thenQ.n ?_)
          refine WC.condP (p := c ≤ 122) rfl (fun hc26 => ?_) (fun hc26 => ?_)
          · skip
            refine WC.skip (thenQ.n ?_)
            refine WC.condP (p := c ≤ 122) rfl (fun hc27 => ?_) (fun hc27 => ?_)
            · refine WC.exit (thenQ.x <| thenQ.x <| blockQ.miss rfl <| blockQ.hit <| thenQ.n ?_)
              iterate 2 refine WC.seq ?_
              refine WC.region ?_
              refine WL.lv rfl (LV.asg rfl) ?_
              refine WL.nil (thenQ.n ?_)
              refine WC.ret (thenQ.r <| blockQ.r <| thenQ.r <| blockQ.r <| thenQ.r <| ?_)
              exact ⟨_, fun a ha => res1 rfl ha rfl, congrArg (Value.int .i64) (by omega), hS.kb⟩
            · exact absurd hc26 hc27
          · skip
            refine WC.region ?_
            refine WL.lv rfl (LV.mv rfl) ?_
            refine WL.lv rfl (LV.eqI rfl rfl) ?_
            refine WL.lv rfl (LV.asg rfl) ?_
            refine WL.nil (thenQ.n ?_)
            refine WC.condP (p := c = 95) rfl (fun hc28 => ?_) (fun hc28 => ?_)
            · skip
              refine WC.exit (thenQ.x <| thenQ.x <| blockQ.miss rfl <| blockQ.hit <| thenQ.n ?_)
              iterate 2 refine WC.seq ?_
              refine WC.region ?_
              refine WL.lv rfl (LV.asg rfl) ?_
              refine WL.nil (thenQ.n ?_)
              refine WC.ret (thenQ.r <| blockQ.r <| thenQ.r <| blockQ.r <| thenQ.r <| ?_)
              exact ⟨_, fun a ha => res1 rfl ha rfl, congrArg (Value.int .i64) (by omega), hS.kb⟩
            · skip
              refine WC.skip (thenQ.n ?_)
              iterate 2 refine WC.seq ?_
              refine WC.region ?_
              refine WL.lv rfl (LV.mv rfl) ?_
              refine WL.lv rfl (LV.eqI rfl rfl) ?_
              refine WL.lv rfl (LV.asg rfl) ?_
              refine WL.nil (thenQ.n ?_)
              refine WC.condP (p := c = 32) rfl (fun hc29 => ?_) (fun hc29 => ?_)
              · skip
                refine WC.skip (thenQ.n ?_)
                refine WC.condP (p := c = 32) rfl (fun hc30 => ?_) (fun hc30 => ?_)
                · refine WC.exit (thenQ.x <| blockQ.miss rfl <| blockQ.miss rfl <| thenQ.x <| blockQ.hit <| thenQ.n ?_)
                  iterate 2 refine WC.seq ?_
                  refine WC.region ?_
                  refine WL.lv rfl (LV.asg rfl) ?_
                  refine WL.nil (thenQ.n ?_)
                  refine WC.ret (thenQ.r <| blockQ.r <| thenQ.r <| ?_)
                  exact ⟨_, fun a ha => res1 rfl ha rfl, congrArg (Value.int .i64) (by omega), hS.kb⟩
                · exact absurd hc29 hc30
              · skip
                refine WC.region ?_
                refine WL.lv rfl (LV.mv rfl) ?_
                refine WL.lv rfl (LV.eqI rfl rfl) ?_
                refine WL.lv rfl (LV.asg rfl) ?_
                refine WL.nil (thenQ.n ?_)
                refine WC.condP (p := c = 9) rfl (fun hc31 => ?_) (fun hc31 => ?_)
                · skip
                  refine WC.exit (thenQ.x <| blockQ.miss rfl <| blockQ.miss rfl <| thenQ.x <| blockQ.hit <| thenQ.n ?_)
                  iterate 2 refine WC.seq ?_
                  refine WC.region ?_
                  refine WL.lv rfl (LV.asg rfl) ?_
                  refine WL.nil (thenQ.n ?_)
                  refine WC.ret (thenQ.r <| blockQ.r <| thenQ.r <| ?_)
                  exact ⟨_, fun a ha => res1 rfl ha rfl, congrArg (Value.int .i64) (by omega), hS.kb⟩
                · skip
                  refine WC.skip (thenQ.n ?_)
                  refine WC.exit (blockQ.miss rfl <| blockQ.miss rfl <| thenQ.x <| blockQ.miss rfl <| thenQ.x <| blockQ.hit <| thenQ.n ?_)
                  refine WC.seq ?_
                  refine WC.region ?_
                  refine WL.lv rfl (LV.asg rfl) ?_
                  refine WL.nil (thenQ.n ?_)
                  refine WC.ret (?_)
                  exact ⟨_, fun a ha => res1 rfl ha rfl, congrArg (Value.int .i64) (by omega), hS.kb⟩
        · refine WL.lv rfl (LV.as (LV.geI rfl rfl) (decide_eq_false hg6)) ?_
          refine WL.lv rfl (LV.mv rfl) ?_
          iterate 2 refine WL.off rfl ?_
          refine WL.lv rfl (LV.pickF rfl rfl) ?_
          refine WL.lv rfl (LV.asg rfl) ?_
          refine WL.nil (thenQ.n ?_)
          refine WC.condF rfl ?_
          refine WC.region ?_
          refine WL.lv rfl (LV.mv rfl) ?_
          refine WL.lv rfl (LV.eqI rfl rfl) ?_
          refine WL.lv rfl (LV.asg rfl) ?_
          refine WL.nil (thenQ.n ?_)
          refine WC.condP (p := c = 95) rfl (fun hc32 => ?_) (fun hc32 => ?_)
          · skip
            refine WC.exit (thenQ.x <| thenQ.x <| blockQ.miss rfl <| blockQ.hit <| thenQ.n ?_)
            iterate 2 refine WC.seq ?_
            refine WC.region ?_
            refine WL.lv rfl (LV.asg rfl) ?_
            refine WL.nil (thenQ.n ?_)
            refine WC.ret (thenQ.r <| blockQ.r <| thenQ.r <| blockQ.r <| thenQ.r <| ?_)
            exact ⟨_, fun a ha => res1 rfl ha rfl, congrArg (Value.int .i64) (by omega), hS.kb⟩
          · skip
            refine WC.skip (thenQ.n ?_)
            iterate 2 refine WC.seq ?_
            refine WC.region ?_
            refine WL.lv rfl (LV.mv rfl) ?_
            refine WL.lv rfl (LV.eqI rfl rfl) ?_
            refine WL.lv rfl (LV.asg rfl) ?_
            refine WL.nil (thenQ.n ?_)
            refine WC.condP (p := c = 32) rfl (fun hc33 => ?_) (fun hc33 => ?_)
            · skip
              refine WC.skip (thenQ.n ?_)
              refine WC.condP (p := c = 32) rfl (fun hc34 => ?_) (fun hc34 => ?_)
              · refine WC.exit (thenQ.x <| blockQ.miss rfl <| blockQ.miss rfl <| thenQ.x <| blockQ.hit <| thenQ.n ?_)
                iterate 2 refine WC.seq ?_
                refine WC.region ?_
                refine WL.lv rfl (LV.asg rfl) ?_
                refine WL.nil (thenQ.n ?_)
                refine WC.ret (thenQ.r <| blockQ.r <| thenQ.r <| ?_)
                exact ⟨_, fun a ha => res1 rfl ha rfl, congrArg (Value.int .i64) (by omega), hS.kb⟩
              · exact absurd hc33 hc34
            · skip
              refine WC.region ?_
              refine WL.lv rfl (LV.mv rfl) ?_
              refine WL.lv rfl (LV.eqI rfl rfl) ?_
              refine WL.lv rfl (LV.asg rfl) ?_
              refine WL.nil (thenQ.n ?_)
              refine WC.condP (p := c = 9) rfl (fun hc35 => ?_) (fun hc35 => ?_)
              · skip
                refine WC.exit (thenQ.x <| blockQ.miss rfl <| blockQ.miss rfl <| thenQ.x <| blockQ.hit <| thenQ.n ?_)
                iterate 2 refine WC.seq ?_
                refine WC.region ?_
                refine WL.lv rfl (LV.asg rfl) ?_
                refine WL.nil (thenQ.n ?_)
                refine WC.ret (thenQ.r <| blockQ.r <| thenQ.r <| ?_)
                exact ⟨_, fun a ha => res1 rfl ha rfl, congrArg (Value.int .i64) (by omega), hS.kb⟩
              · skip
                refine WC.skip (thenQ.n ?_)
                refine WC.exit (blockQ.miss rfl <| blockQ.miss rfl <| thenQ.x <| blockQ.miss rfl <| thenQ.x <| blockQ.hit <| thenQ.n ?_)
                refine WC.seq ?_
                refine WC.region ?_
                refine WL.lv rfl (LV.asg rfl) ?_
                refine WL.nil (thenQ.n ?_)
                refine WC.ret (?_)
                exact ⟨_, fun a ha => res1 rfl ha rfl, congrArg (Value.int .i64) (by omega), hS.kb⟩
    · refine WL.lv rfl (LV.as (LV.geI rfl rfl) (decide_eq_false hg5)) ?_
      refine WL.lv rfl (LV.mv rfl) ?_
      iterate 2 refine WL.off rfl ?_
      refine WL.lv rfl (LV.pickF rfl rfl) ?_
      refine WL.lv rfl (LV.asg rfl) ?_
      refine WL.nil (thenQ.n ?_)
      refine WC.condF rfl ?_
      refine WC.seq ?_
      refine WC.region ?_
      refine WL.lv rfl (LV.mv rfl) ?_
      rcases Decidable.em (c ≥ 97) with hg7 | hg7
      · refine WL.lv rfl (LV.as (LV.geI rfl rfl) (decide_eq_true hg7)) ?_
        iterate 2 refine WL.lv rfl (LV.mv rfl) ?_
        refine WL.lv rfl (LV.leI rfl rfl) ?_
        refine WL.lv rfl (LV.pickT rfl rfl) ?_
        refine WL.lv rfl (LV.asg rfl) ?_
        refine WL.nil (thenQ.n ?_)
        refine WC.condP (p := c ≤ 122) rfl (fun hc36 => ?_) (fun hc36 => ?_)
        · skip
          refine WC.skip (thenQ.n ?_)
          refine WC.condP (p := c ≤ 122) rfl (fun hc37 => ?_) (fun hc37 => ?_)
          · refine WC.exit (thenQ.x <| thenQ.x <| blockQ.miss rfl <| blockQ.hit <| thenQ.n ?_)
            iterate 2 refine WC.seq ?_
            refine WC.region ?_
            refine WL.lv rfl (LV.asg rfl) ?_
            refine WL.nil (thenQ.n ?_)
            refine WC.ret (thenQ.r <| blockQ.r <| thenQ.r <| blockQ.r <| thenQ.r <| ?_)
            exact ⟨_, fun a ha => res1 rfl ha rfl, congrArg (Value.int .i64) (by omega), hS.kb⟩
          · exact absurd hc36 hc37
        · skip
          refine WC.region ?_
          refine WL.lv rfl (LV.mv rfl) ?_
          refine WL.lv rfl (LV.eqI rfl rfl) ?_
          refine WL.lv rfl (LV.asg rfl) ?_
          refine WL.nil (thenQ.n ?_)
          refine WC.condP (p := c = 95) rfl (fun hc38 => ?_) (fun hc38 => ?_)
          · skip
            refine WC.exit (thenQ.x <| thenQ.x <| blockQ.miss rfl <| blockQ.hit <| thenQ.n ?_)
            iterate 2 refine WC.seq ?_
            refine WC.region ?_
            refine WL.lv rfl (LV.asg rfl) ?_
            refine WL.nil (thenQ.n ?_)
            refine WC.ret (thenQ.r <| blockQ.r <| thenQ.r <| blockQ.r <| thenQ.r <| ?_)
            exact ⟨_, fun a ha => res1 rfl ha rfl, congrArg (Value.int .i64) (by omega), hS.kb⟩
          · skip
            refine WC.skip (thenQ.n ?_)
            iterate 2 refine WC.seq ?_
            refine WC.region ?_
            refine WL.lv rfl (LV.mv rfl) ?_
            refine WL.lv rfl (LV.eqI rfl rfl) ?_
            refine WL.lv rfl (LV.asg rfl) ?_
            refine WL.nil (thenQ.n ?_)
            refine WC.condP (p := c = 32) rfl (fun hc39 => ?_) (fun hc39 => ?_)
            · skip
              refine WC.skip (thenQ.n ?_)
              refine WC.condP (p := c = 32) rfl (fun hc40 => ?_) (fun hc40 => ?_)
              · refine WC.exit (thenQ.x <| blockQ.miss rfl <| blockQ.miss rfl <| thenQ.x <| blockQ.hit <| thenQ.n ?_)
                iterate 2 refine WC.seq ?_
                refine WC.region ?_
                refine WL.lv rfl (LV.asg rfl) ?_
                refine WL.nil (thenQ.n ?_)
                refine WC.ret (thenQ.r <| blockQ.r <| thenQ.r <| ?_)
                exact ⟨_, fun a ha => res1 rfl ha rfl, congrArg (Value.int .i64) (by omega), hS.kb⟩
              · exact absurd hc39 hc40
            · skip
              refine WC.region ?_
              refine WL.lv rfl (LV.mv rfl) ?_
              refine WL.lv rfl (LV.eqI rfl rfl) ?_
              refine WL.lv rfl (LV.asg rfl) ?_
              refine WL.nil (thenQ.n ?_)
              refine WC.condP (p := c = 9) rfl (fun hc41 => ?_) (fun hc41 => ?_)
              · skip
                refine WC.exit (thenQ.x <| blockQ.miss rfl <| blockQ.miss rfl <| thenQ.x <| blockQ.hit <| thenQ.n ?_)
                iterate 2 refine WC.seq ?_
                refine WC.region ?_
                refine WL.lv rfl (LV.asg rfl) ?_
                refine WL.nil (thenQ.n ?_)
                refine WC.ret (thenQ.r <| blockQ.r <| thenQ.r <| ?_)
                exact ⟨_, fun a ha => res1 rfl ha rfl, congrArg (Value.int .i64) (by omega), hS.kb⟩
              · skip
                refine WC.skip (thenQ.n ?_)
                refine WC.exit (blockQ.miss rfl <| blockQ.miss rfl <| thenQ.x <| blockQ.miss rfl <| thenQ.x <| blockQ.hit <| thenQ.n ?_)
                refine WC.seq ?_
                refine WC.region ?_
                refine WL.lv rfl (LV.asg rfl) ?_
                refine WL.nil (thenQ.n ?_)
                refine WC.ret (?_)
                exact ⟨_, fun a ha => res1 rfl ha rfl, congrArg (Value.int .i64) (by omega), hS.kb⟩
      · refine WL.lv rfl (LV.as (LV.geI rfl rfl) (decide_eq_false hg7)) ?_
        refine WL.lv rfl (LV.mv rfl) ?_
        iterate 2 refine WL.off rfl ?_
        refine WL.lv rfl (LV.pickF rfl rfl) ?_
        refine WL.lv rfl (LV.asg rfl) ?_
        refine WL.nil (thenQ.n ?_)
        refine WC.condF rfl ?_
        refine WC.region ?_
        refine WL.lv rfl (LV.mv rfl) ?_
        refine WL.lv rfl (LV.eqI rfl rfl) ?_
        refine WL.lv rfl (LV.asg rfl) ?_
        refine WL.nil (thenQ.n ?_)
        refine WC.condP (p := c = 95) rfl (fun hc42 => ?_) (fun hc42 => ?_)
        · skip
          refine WC.exit (thenQ.x <| thenQ.x <| blockQ.miss rfl <| blockQ.hit <| thenQ.n ?_)
          iterate 2 refine WC.seq ?_
          refine WC.region ?_
          refine WL.lv rfl (LV.asg rfl) ?_
          refine WL.nil (thenQ.n ?_)
          refine WC.ret (thenQ.r <| blockQ.r <| thenQ.r <| blockQ.r <| thenQ.r <| ?_)
          exact ⟨_, fun a ha => res1 rfl ha rfl, congrArg (Value.int .i64) (by omega), hS.kb⟩
        · skip
          refine WC.skip (thenQ.n ?_)
          iterate 2 refine WC.seq ?_
          refine WC.region ?_
          refine WL.lv rfl (LV.mv rfl) ?_
          refine WL.lv rfl (LV.eqI rfl rfl) ?_
          refine WL.lv rfl (LV.asg rfl) ?_
          refine WL.nil (thenQ.n ?_)
          refine WC.condP (p := c = 32) rfl (fun hc43 => ?_) (fun hc43 => ?_)
          · skip
            refine WC.skip (thenQ.n ?_)
            refine WC.condP (p := c = 32) rfl (fun hc44 => ?_) (fun hc44 => ?_)
            · refine WC.exit (thenQ.x <| blockQ.miss rfl <| blockQ.miss rfl <| thenQ.x <| blockQ.hit <| thenQ.n ?_)
              iterate 2 refine WC.seq ?_
              refine WC.region ?_
              refine WL.lv rfl (LV.asg rfl) ?_
              refine WL.nil (thenQ.n ?_)
              refine WC.ret (thenQ.r <| blockQ.r <| thenQ.r <| ?_)
              exact ⟨_, fun a ha => res1 rfl ha rfl, congrArg (Value.int .i64) (by omega), hS.kb⟩
            · exact absurd hc43 hc44
          · skip
            refine WC.region ?_
            refine WL.lv rfl (LV.mv rfl) ?_
            refine WL.lv rfl (LV.eqI rfl rfl) ?_
            refine WL.lv rfl (LV.asg rfl) ?_
            refine WL.nil (thenQ.n ?_)
            refine WC.condP (p := c = 9) rfl (fun hc45 => ?_) (fun hc45 => ?_)
            · skip
              refine WC.exit (thenQ.x <| blockQ.miss rfl <| blockQ.miss rfl <| thenQ.x <| blockQ.hit <| thenQ.n ?_)
              iterate 2 refine WC.seq ?_
              refine WC.region ?_
              refine WL.lv rfl (LV.asg rfl) ?_
              refine WL.nil (thenQ.n ?_)
              refine WC.ret (thenQ.r <| blockQ.r <| thenQ.r <| ?_)
              exact ⟨_, fun a ha => res1 rfl ha rfl, congrArg (Value.int .i64) (by omega), hS.kb⟩
            · skip
              refine WC.skip (thenQ.n ?_)
              refine WC.exit (blockQ.miss rfl <| blockQ.miss rfl <| thenQ.x <| blockQ.miss rfl <| thenQ.x <| blockQ.hit <| thenQ.n ?_)
              refine WC.seq ?_
              refine WC.region ?_
              refine WL.lv rfl (LV.asg rfl) ?_
              refine WL.nil (thenQ.n ?_)
              refine WC.ret (?_)
              exact ⟨_, fun a ha => res1 rfl ha rfl, congrArg (Value.int .i64) (by omega), hS.kb⟩

theorem tokens_calls {w : World} {s : ByteArray} (hs : s.size ≤ 1000000) :
    Calls Try.prog 7 #[(.string s)] w fun e w' => ∃ v, e = .returned v ∧ (fun v w' => ∃ (A0' : Option Addr) (c0' : Nat), v = .slice A0' (TOK s).length c0' ∧ SH w No w' [rowE eS 9 (.slice A0' (TOK s).length c0') (TOK s)]) v w' := by
  have hS : SH w No w [] := SH.nil _ _
  refine calls (l := litOf [(.string s)] 0) Try.func7 rfl (n := 47) rfl (Nat.le_of_ble_eq_true rfl) (lit_args _) ?_
  refine WC.seq ?_
  refine WC.region ?_
  refine WL.lv rfl (LV.asg rfl) ?_
  refine WL.nil (thenQ.n ?_)
  refine WC.seq ?_
  refine WC.region ?_
  have hS1 := SH.nilRow (E := eS) (T := 9) hS
  refine WL.lv rfl (LV.asg rfl) ?_
  refine WL.nil (thenQ.n ?_)
  refine WC.seq ?_
  refine WC.region ?_
  refine WL.lv rfl (LV.asg rfl) ?_
  refine WL.nil (thenQ.n ?_)
  iterate 2 refine WC.seq ?_
  refine WC.region ?_
  refine WL.lv rfl (LV.mv rfl) ?_
  refine WL.lv rfl (LV.lenS Try.underlying9 rfl) ?_
  refine WL.lv rfl (LV.mv rfl) ?_
  refine WL.nil (thenQ.n ?_)
  refine WC.block ?_
  refine WC.loop (fun m_ f_ w_ => ∃ (A_out : Option Addr) (c_out : Nat) (out : List ByteArray) (from_ : Int) (ix : Int), (0 ≤ ix) ∧ (ix ≤ (s.size : Int)) ∧ (TKS s ix.toNat = (out, from_.toNat)) ∧ (0 ≤ from_ ∧ from_ ≤ ix) ∧ ((out.length : Int) ≤ ix) ∧ SH w No w_ [rowE eS 9 (.slice A_out out.length c_out) out] ∧ m_ = (((s.size : Int) - ix).toNat) ∧ Weak (lit [(0, (.string s)), (3, (.slice A_out out.length c_out)), (4, (.int .i64 from_)), (7, (.int .i64 (s.size : Int))), (8, (.int .i64 ix))]) f_) _ ⟨none, 0, [], 0, 0, by omega, by omega, rfl, by omega, (by simp), hS1, rfl, Weak.cons rfl <| Weak.cons rfl <| Weak.cons rfl <| Weak.cons rfl <| Weak.cons rfl <| Weak.nil _⟩ ?_
  rintro m1 f1 w1 ⟨A_out, c_out, out, from_, ix, ixlo, ixhi, q1, q2, q3, hL1, rfl, hw1⟩
  refine WC.weak hw1 ?_
  clear hw1
  refine WC.seq ?_
  refine WC.region ?_
  refine WL.lv rfl (LV.ltI rfl rfl) ?_
  refine WL.nil (thenQ.n ?_)
  refine WC.seq ?_
  refine WC.condP (p := ix < (s.size : Int)) rfl (fun hk => ?_) (fun hk => ?_)
  · skip
    refine WC.skip (thenQ.n ?_)
    refine WC.seq ?_
    refine WC.block ?_
    refine WC.seq ?_
    refine WC.region ?_
    refine WL.lv rfl (LV.mv rfl) ?_
    refine WL.lv rfl (LV.asg rfl) ?_
    refine WL.nil (thenQ.n ?_)
    refine WC.seq ?_
    have hS2 := SH.drew hL1
    refine WC.regionD [] (fun w_ => KB No w1.drew w_) [(.pure, 0), (.pure, 1), (.pure, 2), (.pure, 3), (.pure, 4), (.pure, 5), (.pure, 6), (.pure, 7), (.pure, 8), (.forced, 9), (.pure, 10), (.pure, 11), (.pure, 12), (.pure, 13), (.pure, 14), (.pure, 15), (.pure, 16), (.pure, 18), (.pure, 19), (.pure, 20), (.forced, 17), (.forced, 21), (.pure, 22), (.pure, 23)] (by kernel_rfl) (by kernel_rfl) (KB.refl _ _) ?_
    refine WS.pure rfl rfl (fun _ => LV.mv rfl) ?_
    refine WS.pure rfl rfl (fun _ => LV.add rfl rfl (wr64 (by omega) (by omega))) ?_
    refine WS.pure rfl rfl (fun _ => LV.mv rfl) ?_
    refine WS.pure rfl rfl (fun _ => LV.lenS Try.underlying9 rfl) ?_
    rcases Decidable.em ((ix + 1) = (s.size : Int)) with hg1 | hg1
    · refine WS.pure rfl rfl (fun _ => LV.as (LV.eqI rfl rfl) (decide_eq_true hg1)) ?_
      refine WS.pure rfl rfl (fun _ => LV.mv rfl) ?_
      iterate 3 refine WS.off rfl rfl ?_
      refine WS.offF rfl rfl (fun h_ => (KB.refl _ _)) ?_
      refine WS.off rfl rfl ?_
      refine WS.pure rfl rfl (fun _ => LV.pickT rfl rfl) ?_
      refine WS.pure rfl rfl (fun _ => LV.mv rfl) ?_
      iterate 7 refine WS.off rfl rfl ?_
      iterate 2 refine WS.offF rfl rfl (fun h_ => (KB.refl _ _)) ?_
      refine WS.off rfl rfl ?_
      refine WS.pure rfl rfl (fun _ => LV.pickT rfl rfl) ?_
      refine WS.nil (thenQ.n ?_)
      refine WC.condT rfl ?_
      refine WC.seq ?_
      refine WC.region ?_
      iterate 4 refine WL.lv rfl (LV.mv rfl) ?_
      refine WL.lv rfl (LV.add rfl rfl (wr64 (by omega) (by omega))) ?_
      refine WL.lv rfl (LV.cutS (l := (from_).toNat) (h := (ix + 1).toNat) Try.underlying9 rfl rfl rfl ⟨.inr ⟨.i64, by rw [Int.toNat_of_nonneg (a := from_) (by omega)] <;> rfl⟩, .inr ⟨.i64, by rw [Int.toNat_of_nonneg (a := ix + 1) (by omega)] <;> rfl⟩, .inl ⟨rfl, rfl⟩⟩ (by omega) (by omega)) ?_
      refine WL.xe rfl (XE.buildSlice (E := eS) [(0, (.string (s.extract ((from_).toNat) ((ix + 1).toNat))))] #[(.string (s.extract ((from_).toNat) ((ix + 1).toNat)))] [s.extract ((from_).toNat) ((ix + 1).toNat)] hS2 Try.underlying22 ti9 rfl (by decide) (by kernel_rfl) (.inr rfl) rfl rfl (by decide)) ?_
      rintro _ w2 ⟨b1, rfl, hS3, hk1⟩
      have hS4 : SH w No w2 [rowE eS 9 (.slice A_out out.length c_out) out, rowE eS 9 (.slice (some ⟨b1, 0, none⟩) 1 1) [s.extract ((from_).toNat) ((ix + 1).toNat)]] := (SH.front [_] hS3)
      refine WL.xe rfl (XE.append hS4 Try.underlying22 ti9 rfl (St.now (SH.rd hS4 (.tail _ (.head _)))) rfl rfl (by first | omega | simp only [List.length_append, List.length_cons, List.length_nil, List.length_take, List.length_reverse, List.length_drop] at *; omega) (by first | omega | simp only [List.length_append, List.length_cons, List.length_nil, List.length_take, List.length_reverse, List.length_drop] at *; omega)) ?_
      rintro _ w3 ⟨A1, c1, rfl, hS5, hk2⟩
      refine WL.lv rfl (LV.asg rfl) ?_
      refine WL.nil (thenQ.n ?_)
      refine WC.region ?_
      refine WL.lv rfl (LV.mv rfl) ?_
      refine WL.lv rfl (LV.add rfl rfl (wr64 (by omega) (by omega))) ?_
      refine WL.lv rfl (LV.asg rfl) ?_
      refine WL.nil (blockQ.n <| thenQ.n ?_)
      refine WC.region ?_
      refine WL.lv rfl (LV.add rfl rfl (wr64 (by omega) (by omega))) ?_
      refine WL.lv rfl (LV.mv rfl) ?_
      refine WL.nil (thenQ.n ?_)
      have hS6 : SH w No w3 [rowE eS 9 (.slice A1 ((out ++ [s.extract ((from_).toNat) ((ix + 1).toNat)]).length) c1) (out ++ [s.extract ((from_).toNat) ((ix + 1).toNat)])] := (SH.take 1 rfl hS5)
      exact ⟨_, by omega, A1, c1, (out ++ [s.extract ((from_).toNat) ((ix + 1).toNat)]), ix + 1, ix + 1, by omega, by omega, (by first | exact tks_yes ixlo (by first | exact .inl (by omega) | exact .inr (.inl (by omega)) | exact .inr (.inr (by omega))) q1 | exact tks_no ixlo (by rintro (h_ | h_ | h_) <;> omega) q1), by omega, (by first | omega | (simp; omega)), hS6, rfl, Weak.cons rfl <| Weak.cons rfl <| Weak.cons rfl <| Weak.cons rfl <| Weak.cons rfl <| Weak.nil _⟩
    · refine WS.pure rfl rfl (fun _ => LV.as (LV.eqI rfl rfl) (decide_eq_false hg1)) ?_
      iterate 3 refine WS.pure rfl rfl (fun _ => LV.mv rfl) ?_
      refine WS.pure rfl rfl (fun _ => LV.idxSi (i := ix) Try.underlying9 rfl rfl (by omega) (by omega)) ?_
      refine WS.call rfl rfl (XC.fn Try.func21 (by kernel_rfl) rfl rfl rfl) (kind_calls (c := (gI (bytesOf s) (ix))) ) ?_
      rintro v_ w4 ⟨rfl, hk3⟩
      have hS7 := SH.same hS2 hk3
      refine ⟨fun h_ => (KB.transN (KB.refl _ _) hk3), ?_⟩
      rcases Decidable.em ((KD (gI (bytesOf s) (ix))) = 3) with hg2 | hg2
      · refine WS.pure rfl rfl (fun _ => LV.as (LV.eqI rfl rfl) (decide_eq_true hg2)) ?_
        refine WS.pure rfl rfl (fun _ => LV.pickF rfl rfl) ?_
        refine WS.pure rfl rfl (fun _ => LV.mv rfl) ?_
        iterate 7 refine WS.off rfl rfl ?_
        iterate 2 refine WS.offF rfl rfl (fun h_ => (KB.transN (KB.refl _ _) hk3)) ?_
        refine WS.off rfl rfl ?_
        refine WS.pure rfl rfl (fun _ => LV.pickT rfl rfl) ?_
        refine WS.nil (thenQ.n ?_)
        refine WC.condT rfl ?_
        refine WC.seq ?_
        refine WC.region ?_
        iterate 4 refine WL.lv rfl (LV.mv rfl) ?_
        refine WL.lv rfl (LV.add rfl rfl (wr64 (by omega) (by omega))) ?_
        refine WL.lv rfl (LV.cutS (l := (from_).toNat) (h := (ix + 1).toNat) Try.underlying9 rfl rfl rfl ⟨.inr ⟨.i64, by rw [Int.toNat_of_nonneg (a := from_) (by omega)] <;> rfl⟩, .inr ⟨.i64, by rw [Int.toNat_of_nonneg (a := ix + 1) (by omega)] <;> rfl⟩, .inl ⟨rfl, rfl⟩⟩ (by omega) (by omega)) ?_
        refine WL.xe rfl (XE.buildSlice (E := eS) [(0, (.string (s.extract ((from_).toNat) ((ix + 1).toNat))))] #[(.string (s.extract ((from_).toNat) ((ix + 1).toNat)))] [s.extract ((from_).toNat) ((ix + 1).toNat)] hS7 Try.underlying22 ti9 rfl (by decide) (by kernel_rfl) (.inr rfl) rfl rfl (by decide)) ?_
        rintro _ w5 ⟨b2, rfl, hS8, hk4⟩
        have hS9 : SH w No w5 [rowE eS 9 (.slice A_out out.length c_out) out, rowE eS 9 (.slice (some ⟨b2, 0, none⟩) 1 1) [s.extract ((from_).toNat) ((ix + 1).toNat)]] := (SH.front [_] hS8)
        refine WL.xe rfl (XE.append hS9 Try.underlying22 ti9 rfl (St.now (SH.rd hS9 (.tail _ (.head _)))) rfl rfl (by first | omega | simp only [List.length_append, List.length_cons, List.length_nil, List.length_take, List.length_reverse, List.length_drop] at *; omega) (by first | omega | simp only [List.length_append, List.length_cons, List.length_nil, List.length_take, List.length_reverse, List.length_drop] at *; omega)) ?_
        rintro _ w6 ⟨A2, c2, rfl, hS10, hk5⟩
        refine WL.lv rfl (LV.asg rfl) ?_
        refine WL.nil (thenQ.n ?_)
        refine WC.region ?_
        refine WL.lv rfl (LV.mv rfl) ?_
        refine WL.lv rfl (LV.add rfl rfl (wr64 (by omega) (by omega))) ?_
        refine WL.lv rfl (LV.asg rfl) ?_
        refine WL.nil (blockQ.n <| thenQ.n ?_)
        refine WC.region ?_
        refine WL.lv rfl (LV.add rfl rfl (wr64 (by omega) (by omega))) ?_
        refine WL.lv rfl (LV.mv rfl) ?_
        refine WL.nil (thenQ.n ?_)
        have hS11 : SH w No w6 [rowE eS 9 (.slice A2 ((out ++ [s.extract ((from_).toNat) ((ix + 1).toNat)]).length) c2) (out ++ [s.extract ((from_).toNat) ((ix + 1).toNat)])] := (SH.take 1 rfl hS10)
        exact ⟨_, by omega, A2, c2, (out ++ [s.extract ((from_).toNat) ((ix + 1).toNat)]), ix + 1, ix + 1, by omega, by omega, (by first | exact tks_yes ixlo (by first | exact .inl (by omega) | exact .inr (.inl (by omega)) | exact .inr (.inr (by omega))) q1 | exact tks_no ixlo (by rintro (h_ | h_ | h_) <;> omega) q1), by omega, (by first | omega | (simp; omega)), hS11, rfl, Weak.cons rfl <| Weak.cons rfl <| Weak.cons rfl <| Weak.cons rfl <| Weak.cons rfl <| Weak.nil _⟩
      · refine WS.pure rfl rfl (fun _ => LV.as (LV.eqI rfl rfl) (decide_eq_false hg2)) ?_
        refine WS.pure rfl rfl (fun _ => LV.pickF rfl rfl) ?_
        iterate 3 refine WS.pure rfl rfl (fun _ => LV.mv rfl) ?_
        refine WS.pure rfl rfl (fun _ => LV.add rfl rfl (wr64 (by omega) (by omega))) ?_
        refine WS.pure rfl rfl (fun _ => LV.idxSi (i := ix + 1) Try.underlying9 rfl rfl (by omega) (by omega)) ?_
        iterate 2 refine WS.pure rfl rfl (fun _ => LV.mv rfl) ?_
        refine WS.pure rfl rfl (fun _ => LV.idxSi (i := ix) Try.underlying9 rfl rfl (by omega) (by omega)) ?_
        refine WS.call rfl rfl (XC.fn Try.func21 (by kernel_rfl) rfl rfl rfl) (kind_calls (c := (gI (bytesOf s) (ix + 1))) ) ?_
        rintro v_ w7 ⟨rfl, hk6⟩
        have hS12 := SH.same hS7 hk6
        refine ⟨fun h_ => (KB.transN (KB.transN (KB.refl _ _) hk3) hk6), ?_⟩
        refine WS.call rfl rfl (XC.fn Try.func21 (by kernel_rfl) rfl rfl rfl) (kind_calls (c := (gI (bytesOf s) (ix))) ) ?_
        rintro v_ w8 ⟨rfl, hk7⟩
        have hS13 := SH.same hS12 hk7
        refine ⟨fun h_ => (KB.transN (KB.transN (KB.transN (KB.refl _ _) hk3) hk6) hk7), ?_⟩
        refine WS.pure rfl rfl (fun _ => LV.neI rfl rfl) ?_
        refine WS.pure rfl rfl (fun _ => LV.pickF rfl rfl) ?_
        refine WS.nil (thenQ.n ?_)
        refine WC.condP (p := (KD (gI (bytesOf s) (ix + 1))) ≠ (KD (gI (bytesOf s) (ix)))) rfl (fun hc1 => ?_) (fun hc1 => ?_)
        · skip
          refine WC.seq ?_
          refine WC.region ?_
          iterate 4 refine WL.lv rfl (LV.mv rfl) ?_
          refine WL.lv rfl (LV.add rfl rfl (wr64 (by omega) (by omega))) ?_
          refine WL.lv rfl (LV.cutS (l := (from_).toNat) (h := (ix + 1).toNat) Try.underlying9 rfl rfl rfl ⟨.inr ⟨.i64, by rw [Int.toNat_of_nonneg (a := from_) (by omega)] <;> rfl⟩, .inr ⟨.i64, by rw [Int.toNat_of_nonneg (a := ix + 1) (by omega)] <;> rfl⟩, .inl ⟨rfl, rfl⟩⟩ (by omega) (by omega)) ?_
          refine WL.xe rfl (XE.buildSlice (E := eS) [(0, (.string (s.extract ((from_).toNat) ((ix + 1).toNat))))] #[(.string (s.extract ((from_).toNat) ((ix + 1).toNat)))] [s.extract ((from_).toNat) ((ix + 1).toNat)] hS13 Try.underlying22 ti9 rfl (by decide) (by kernel_rfl) (.inr rfl) rfl rfl (by decide)) ?_
          rintro _ w9 ⟨b3, rfl, hS14, hk8⟩
          have hS15 : SH w No w9 [rowE eS 9 (.slice A_out out.length c_out) out, rowE eS 9 (.slice (some ⟨b3, 0, none⟩) 1 1) [s.extract ((from_).toNat) ((ix + 1).toNat)]] := (SH.front [_] hS14)
          refine WL.xe rfl (XE.append hS15 Try.underlying22 ti9 rfl (St.now (SH.rd hS15 (.tail _ (.head _)))) rfl rfl (by first | omega | simp only [List.length_append, List.length_cons, List.length_nil, List.length_take, List.length_reverse, List.length_drop] at *; omega) (by first | omega | simp only [List.length_append, List.length_cons, List.length_nil, List.length_take, List.length_reverse, List.length_drop] at *; omega)) ?_
          rintro _ w10 ⟨A3, c3, rfl, hS16, hk9⟩
          refine WL.lv rfl (LV.asg rfl) ?_
          refine WL.nil (thenQ.n ?_)
          refine WC.region ?_
          refine WL.lv rfl (LV.mv rfl) ?_
          refine WL.lv rfl (LV.add rfl rfl (wr64 (by omega) (by omega))) ?_
          refine WL.lv rfl (LV.asg rfl) ?_
          refine WL.nil (blockQ.n <| thenQ.n ?_)
          refine WC.region ?_
          refine WL.lv rfl (LV.add rfl rfl (wr64 (by omega) (by omega))) ?_
          refine WL.lv rfl (LV.mv rfl) ?_
          refine WL.nil (thenQ.n ?_)
          have hS17 : SH w No w10 [rowE eS 9 (.slice A3 ((out ++ [s.extract ((from_).toNat) ((ix + 1).toNat)]).length) c3) (out ++ [s.extract ((from_).toNat) ((ix + 1).toNat)])] := (SH.take 1 rfl hS16)
          exact ⟨_, by omega, A3, c3, (out ++ [s.extract ((from_).toNat) ((ix + 1).toNat)]), ix + 1, ix + 1, by omega, by omega, (by first | exact tks_yes ixlo (by first | exact .inl (by omega) | exact .inr (.inl (by omega)) | exact .inr (.inr (by omega))) q1 | exact tks_no ixlo (by rintro (h_ | h_ | h_) <;> omega) q1), by omega, (by first | omega | (simp; omega)), hS17, rfl, Weak.cons rfl <| Weak.cons rfl <| Weak.cons rfl <| Weak.cons rfl <| Weak.cons rfl <| Weak.nil _⟩
        · skip
          refine WC.skip (blockQ.n <| thenQ.n ?_)
          refine WC.region ?_
          refine WL.lv rfl (LV.add rfl rfl (wr64 (by omega) (by omega))) ?_
          refine WL.lv rfl (LV.mv rfl) ?_
          refine WL.nil (thenQ.n ?_)
          exact ⟨_, by omega, A_out, c_out, out, from_, ix + 1, by omega, by omega, (by first | exact tks_yes ixlo (by first | exact .inl (by omega) | exact .inr (.inl (by omega)) | exact .inr (.inr (by omega))) q1 | exact tks_no ixlo (by rintro (h_ | h_ | h_) <;> omega) q1), by omega, (by first | omega | (simp; omega)), hS13, rfl, Weak.cons rfl <| Weak.cons rfl <| Weak.cons rfl <| Weak.cons rfl <| Weak.cons rfl <| Weak.nil _⟩
  · skip
    refine WC.exit (thenQ.x <| thenQ.x <| blockQ.hit <| thenQ.n ?_)
    refine WC.seq ?_
    refine WC.region ?_
    refine WL.lv rfl (LV.mv rfl) ?_
    refine WL.lv rfl (LV.asg rfl) ?_
    refine WL.nil (thenQ.n ?_)
    refine WC.ret (?_)
    have hres1 : (out : List ByteArray) = TOK s := tks_fin (by omega) q1
    exact ⟨_, fun a ha => res1 rfl ha rfl, (by rw [← hres1]; exact ⟨_, _, rfl, hL1⟩)⟩

theorem hasp0_calls {w : World} {s : ByteArray} {p : ByteArray}  :
    Calls Try.prog 42 #[(.string s), (.string p)] w fun e w' => ∃ v, e = .returned v ∧ (fun v w' => v = .bool (decide (HPX s p)) ∧ KB No w w') v w' := by
  have hS : SH w No w [] := SH.nil _ _
  refine calls (l := litOf [(.string s), (.string p)] 0) Try.func42 rfl (n := 18) rfl (Nat.le_of_ble_eq_true rfl) (lit_args _) ?_
  refine WC.seq ?_
  refine WC.region ?_
  refine WL.lv rfl (LV.asg rfl) ?_
  refine WL.nil (thenQ.n ?_)
  refine WC.seq ?_
  refine WC.region ?_
  refine WL.lv rfl (LV.mv rfl) ?_
  refine WL.lv rfl (LV.lenS Try.underlying9 rfl) ?_
  refine WL.lv rfl (LV.mv rfl) ?_
  refine WL.lv rfl (LV.lenS Try.underlying9 rfl) ?_
  rcases Decidable.em ((s.size : Int) ≥ (p.size : Int)) with hg1 | hg1
  · refine WL.lv rfl (LV.as (LV.geI rfl rfl) (decide_eq_true hg1)) ?_
    iterate 3 refine WL.lv rfl (LV.mv rfl) ?_
    refine WL.lv rfl (LV.lenS Try.underlying9 rfl) ?_
    refine WL.lv rfl (LV.cutS (l := 0) (h := ((p.size : Int)).toNat) Try.underlying9 rfl rfl rfl ⟨.inl ⟨rfl, rfl⟩, .inr ⟨.i64, by rw [Int.toNat_of_nonneg (a := (p.size : Int)) (by omega)] <;> rfl⟩, .inl ⟨rfl, rfl⟩⟩ (by omega) (by omega)) ?_
    refine WL.lv rfl (LV.mv rfl) ?_
    refine WL.lv rfl (LV.eqSP (a := (s.extract 0 (((p.size : Int)).toNat))) (b := p) rfl rfl) ?_
    refine WL.lv rfl (LV.pickT rfl rfl) ?_
    refine WL.lv rfl (LV.asg rfl) ?_
    refine WL.nil (thenQ.n ?_)
    refine WC.ret (?_)
    exact ⟨_, fun a ha => res1 rfl ha rfl, congrArg Value.bool (decide_eq_decide.2 ⟨fun h_ => ⟨by omega, h_⟩, fun h_ => h_.2⟩), hS.kb⟩
  · refine WL.lv rfl (LV.as (LV.geI rfl rfl) (decide_eq_false hg1)) ?_
    refine WL.lv rfl (LV.mv rfl) ?_
    iterate 6 refine WL.off rfl ?_
    refine WL.lv rfl (LV.pickF rfl rfl) ?_
    refine WL.lv rfl (LV.asg rfl) ?_
    refine WL.nil (thenQ.n ?_)
    refine WC.ret (?_)
    exact ⟨_, fun a ha => res1 rfl ha rfl, congrArg Value.bool ((decide_eq_false (fun h_ => by have h2_ := h_.1; omega)).symm), hS.kb⟩

theorem hasp_calls {w : World} {s : ByteArray} {p : ByteArray}  :
    Calls Try.prog 35 #[(.string s), (.string p)] w fun e w' => ∃ v, e = .returned v ∧ (fun v w' => v = .bool (decide (HPX s p)) ∧ KB No w w') v w' := by
  have hS : SH w No w [] := SH.nil _ _
  refine calls (l := litOf [(.string s), (.string p)] 0) Try.func35 rfl (n := 8) rfl (Nat.le_of_ble_eq_true rfl) (lit_args _) ?_
  refine WC.seq ?_
  refine WC.region ?_
  refine WL.lv rfl (LV.asg rfl) ?_
  refine WL.nil (thenQ.n ?_)
  refine WC.seq ?_
  refine WC.region ?_
  iterate 2 refine WL.lv rfl (LV.mv rfl) ?_
  refine WL.call rfl (XC.fn Try.func42 (by kernel_rfl) rfl rfl rfl) (hasp0_calls (s := s) (p := p) ) ?_
  rintro v_ w1 ⟨rfl, hk1⟩
  have hS1 := SH.same hS hk1
  refine WL.lv rfl (LV.asg rfl) ?_
  refine WL.nil (thenQ.n ?_)
  refine WC.ret (?_)
  exact ⟨_, fun a ha => res1 rfl ha rfl, rfl, hS1.kb⟩

theorem mark_calls {w : World} {s : ByteArray}  :
    Calls Try.prog 24 #[(.string s)] w fun e w' => ∃ v, e = .returned v ∧ (fun v w' => v = .bool (decide (MKS s)) ∧ KB No w w') v w' := by
  have hS : SH w No w [] := SH.nil _ _
  refine calls (l := litOf [(.string s)] 0) Try.func24 rfl (n := 17) rfl (Nat.le_of_ble_eq_true rfl) (lit_args _) ?_
  refine WC.seq ?_
  refine WC.region ?_
  refine WL.lv rfl (LV.asg rfl) ?_
  refine WL.nil (thenQ.n ?_)
  refine WC.seq ?_
  refine WC.region ?_
  refine WL.lv rfl (LV.mv rfl) ?_
  rcases Decidable.em (HPX s ⟨#[91, 45]⟩) with hg1 | hg1
  · refine WL.call rfl (XC.fn Try.func35 (by kernel_rfl) rfl rfl rfl) (Calls.asB (hasp_calls (s := s) (p := ⟨#[91, 45]⟩) ) (decide_eq_true (hg1))) ?_
    rintro v_ w1 ⟨rfl, hk1⟩
    have hS1 := SH.same hS hk1
    refine WL.lv rfl (LV.mv rfl) ?_
    iterate 2 refine WL.off rfl ?_
    refine WL.lv rfl (LV.pickT rfl rfl) ?_
    refine WL.lv rfl (LV.mv rfl) ?_
    iterate 2 refine WL.off rfl ?_
    refine WL.lv rfl (LV.pickT rfl rfl) ?_
    refine WL.lv rfl (LV.mv rfl) ?_
    iterate 2 refine WL.off rfl ?_
    refine WL.lv rfl (LV.pickT rfl rfl) ?_
    refine WL.lv rfl (LV.asg rfl) ?_
    refine WL.nil (thenQ.n ?_)
    refine WC.ret (?_)
    exact ⟨_, fun a ha => res1 rfl ha rfl, congrArg Value.bool (by unfold MKS; first | exact (decide_eq_true (.inl (by assumption))).symm | exact (decide_eq_true (.inr (.inl (by assumption)))).symm | exact (decide_eq_true (.inr (.inr (.inl (by assumption))))).symm | exact decide_eq_decide.2 ⟨fun h_ => .inr (.inr (.inr h_)), fun h_ => by rcases h_ with h_ | h_ | h_ | h_ <;> first | contradiction | exact h_⟩), hS1.kb⟩
  · refine WL.call rfl (XC.fn Try.func35 (by kernel_rfl) rfl rfl rfl) (Calls.asB (hasp_calls (s := s) (p := ⟨#[91, 45]⟩) ) (decide_eq_false (hg1))) ?_
    rintro v_ w2 ⟨rfl, hk2⟩
    have hS2 := SH.same hS hk2
    iterate 2 refine WL.lv rfl (LV.mv rfl) ?_
    rcases Decidable.em (HPX s ⟨#[45, 93]⟩) with hg2 | hg2
    · refine WL.call rfl (XC.fn Try.func35 (by kernel_rfl) rfl rfl rfl) (Calls.asB (hasp_calls (s := s) (p := ⟨#[45, 93]⟩) ) (decide_eq_true (hg2))) ?_
      rintro v_ w3 ⟨rfl, hk3⟩
      have hS3 := SH.same hS2 hk3
      refine WL.lv rfl (LV.pickF rfl rfl) ?_
      refine WL.lv rfl (LV.mv rfl) ?_
      iterate 2 refine WL.off rfl ?_
      refine WL.lv rfl (LV.pickT rfl rfl) ?_
      refine WL.lv rfl (LV.mv rfl) ?_
      iterate 2 refine WL.off rfl ?_
      refine WL.lv rfl (LV.pickT rfl rfl) ?_
      refine WL.lv rfl (LV.asg rfl) ?_
      refine WL.nil (thenQ.n ?_)
      refine WC.ret (?_)
      exact ⟨_, fun a ha => res1 rfl ha rfl, congrArg Value.bool (by unfold MKS; first | exact (decide_eq_true (.inl (by assumption))).symm | exact (decide_eq_true (.inr (.inl (by assumption)))).symm | exact (decide_eq_true (.inr (.inr (.inl (by assumption))))).symm | exact decide_eq_decide.2 ⟨fun h_ => .inr (.inr (.inr h_)), fun h_ => by rcases h_ with h_ | h_ | h_ | h_ <;> first | contradiction | exact h_⟩), hS3.kb⟩
    · refine WL.call rfl (XC.fn Try.func35 (by kernel_rfl) rfl rfl rfl) (Calls.asB (hasp_calls (s := s) (p := ⟨#[45, 93]⟩) ) (decide_eq_false (hg2))) ?_
      rintro v_ w4 ⟨rfl, hk4⟩
      have hS4 := SH.same hS2 hk4
      refine WL.lv rfl (LV.pickF rfl rfl) ?_
      iterate 2 refine WL.lv rfl (LV.mv rfl) ?_
      rcases Decidable.em (HPX s ⟨#[123, 43]⟩) with hg3 | hg3
      · refine WL.call rfl (XC.fn Try.func35 (by kernel_rfl) rfl rfl rfl) (Calls.asB (hasp_calls (s := s) (p := ⟨#[123, 43]⟩) ) (decide_eq_true (hg3))) ?_
        rintro v_ w5 ⟨rfl, hk5⟩
        have hS5 := SH.same hS4 hk5
        refine WL.lv rfl (LV.pickF rfl rfl) ?_
        refine WL.lv rfl (LV.mv rfl) ?_
        iterate 2 refine WL.off rfl ?_
        refine WL.lv rfl (LV.pickT rfl rfl) ?_
        refine WL.lv rfl (LV.asg rfl) ?_
        refine WL.nil (thenQ.n ?_)
        refine WC.ret (?_)
        exact ⟨_, fun a ha => res1 rfl ha rfl, congrArg Value.bool (by unfold MKS; first | exact (decide_eq_true (.inl (by assumption))).symm | exact (decide_eq_true (.inr (.inl (by assumption)))).symm | exact (decide_eq_true (.inr (.inr (.inl (by assumption))))).symm | exact decide_eq_decide.2 ⟨fun h_ => .inr (.inr (.inr h_)), fun h_ => by rcases h_ with h_ | h_ | h_ | h_ <;> first | contradiction | exact h_⟩), hS5.kb⟩
      · refine WL.call rfl (XC.fn Try.func35 (by kernel_rfl) rfl rfl rfl) (Calls.asB (hasp_calls (s := s) (p := ⟨#[123, 43]⟩) ) (decide_eq_false (hg3))) ?_
        rintro v_ w6 ⟨rfl, hk6⟩
        have hS6 := SH.same hS4 hk6
        refine WL.lv rfl (LV.pickF rfl rfl) ?_
        iterate 2 refine WL.lv rfl (LV.mv rfl) ?_
        refine WL.call rfl (XC.fn Try.func35 (by kernel_rfl) rfl rfl rfl) (hasp_calls (s := s) (p := ⟨#[43, 125]⟩) ) ?_
        rintro v_ w7 ⟨rfl, hk7⟩
        have hS7 := SH.same hS6 hk7
        refine WL.lv rfl (LV.pickF rfl rfl) ?_
        refine WL.lv rfl (LV.asg rfl) ?_
        refine WL.nil (thenQ.n ?_)
        refine WC.ret (?_)
        exact ⟨_, fun a ha => res1 rfl ha rfl, congrArg Value.bool (by unfold MKS; first | exact (decide_eq_true (.inl (by assumption))).symm | exact (decide_eq_true (.inr (.inl (by assumption)))).symm | exact (decide_eq_true (.inr (.inr (.inl (by assumption))))).symm | exact decide_eq_decide.2 ⟨fun h_ => .inr (.inr (.inr h_)), fun h_ => by rcases h_ with h_ | h_ | h_ | h_ <;> first | contradiction | exact h_⟩), hS7.kb⟩

theorem plain_calls {w : World} {s : ByteArray} (hs : s.size ≤ 1000000) :
    Calls Try.prog 11 #[(.string s)] w fun e w' => ∃ v, e = .returned v ∧ (fun v w' => v = .string (PLN s) ∧ KB No w w') v w' := by
  have hS : SH w No w [] := SH.nil _ _
  refine calls (l := litOf [(.string s)] 0) Try.func11 rfl (n := 22) rfl (Nat.le_of_ble_eq_true rfl) (lit_args _) ?_
  refine WC.seq ?_
  refine WC.region ?_
  refine WL.lv rfl (LV.asg rfl) ?_
  refine WL.nil (thenQ.n ?_)
  refine WC.seq ?_
  refine WC.region ?_
  refine WL.xe rfl (XE.alloc #[(.pointer none), (.slice none 0 0)] hS ti42 rfl) ?_
  rintro _ w1 ⟨b1, rfl, hS1, hk1⟩
  have hS2 := SH.nilRow (E := eU8) (T := 5) hS1
  refine WL.nil (thenQ.n ?_)
  iterate 2 refine WC.seq ?_
  refine WC.region ?_
  refine WL.lv rfl (LV.asg rfl) ?_
  refine WL.nil (thenQ.n ?_)
  refine WC.block ?_
  refine WC.loop (fun m_ f_ w_ => ∃ (P_out : Value) (A_out : Option Addr) (c_out : Nat) (out : ByteArray) (i : Int), (BP P_out b1) ∧ (0 ≤ i) ∧ (i ≤ (s.size : Int)) ∧ (bytesOf out ++ PL ((bytesOf s).drop i.toNat) = PL (bytesOf s)) ∧ SH w No w_ [rowE eU8 5 (.slice A_out ((bytesOf out).length) c_out) (bytesOf out), blkE b1 42 #[P_out, (.slice A_out ((bytesOf out).length) c_out)]] ∧ m_ = (((s.size : Int) - i).toNat) ∧ Weak (lit [(0, (.string s)), (3, (.pointer (some ⟨b1, 0, none⟩))), (4, (.int .i64 i))]) f_) _ ⟨(.pointer none), none, 0, ⟨#[]⟩, 0, (.inl rfl), by omega, by omega, rfl, hS2, rfl, Weak.cons rfl <| Weak.cons rfl <| Weak.cons rfl <| Weak.nil _⟩ ?_
  rintro m1 f1 w2 ⟨P_out, A_out, c_out, out, i, hp_out, ilo, ihi, q1, hL1, rfl, hw1⟩
  refine WC.weak hw1 ?_
  clear hw1
  iterate 2 refine WC.seq ?_
  refine WC.region ?_
  iterate 2 refine WL.lv rfl (LV.mv rfl) ?_
  refine WL.lv rfl (LV.lenS Try.underlying9 rfl) ?_
  refine WL.lv rfl (LV.ltI rfl rfl) ?_
  refine WL.nil (thenQ.n ?_)
  refine WC.condP (p := i < (s.size : Int)) rfl (fun hk => ?_) (fun hk => ?_)
  · have hmk_ := mks_at (s := s) ilo hk
    have hbb_ : 0 ≤ gI (bytesOf s) i ∧ gI (bytesOf s) i ≤ 255 := byte_bd s i
    have hpl_ := congrArg List.length q1
    rw [List.length_append, bytesOf_len] at hpl_
    have hpn_ := PL_len (bytesOf s).length (bytesOf s) (Nat.le_refl _)
    rw [bytesOf_len] at hpn_
    refine WC.skip (thenQ.n ?_)
    refine WC.block ?_
    iterate 2 refine WC.seq ?_
    refine WC.region ?_
    iterate 2 refine WL.lv rfl (LV.mv rfl) ?_
    refine WL.lv rfl (LV.cutS (l := (i).toNat) (h := s.size) Try.underlying9 rfl rfl rfl ⟨.inr ⟨.i64, by rw [Int.toNat_of_nonneg (a := i) (by omega)] <;> rfl⟩, .inl ⟨rfl, rfl, rfl⟩, .inl ⟨rfl, rfl⟩⟩ (by omega) (by omega)) ?_
    refine WL.call rfl (XC.fn Try.func24 (by kernel_rfl) rfl rfl rfl) (mark_calls (s := (s.extract ((i).toNat) s.size)) ) ?_
    rintro v_ w3 ⟨rfl, hk2⟩
    have hS3 := SH.same hL1 hk2
    refine WL.nil (thenQ.n ?_)
    refine WC.condP (p := MKS (s.extract ((i).toNat) s.size)) rfl (fun hm => ?_) (fun hm => ?_)
    · have hm1_ := (hmk_.1 hm).1
      refine WC.seq ?_
      refine WC.region ?_
      refine WL.lv rfl (LV.mv rfl) ?_
      refine WL.lv rfl (LV.add rfl rfl (wr64 (by omega) (by omega))) ?_
      refine WL.lv rfl (LV.asg rfl) ?_
      refine WL.nil (thenQ.n ?_)
      refine WC.exit (thenQ.x <| blockQ.hit <| thenQ.n ?_)
      exact ⟨_, by omega, P_out, A_out, c_out, out, i + 2, hp_out, by omega, by omega, ((by rw [← q1, pl_mark ilo (hmk_.1 hm).1 (hmk_.1 hm).2])), hS3, rfl, Weak.cons rfl <| Weak.cons rfl <| Weak.cons rfl <| Weak.nil _⟩
    · skip
      refine WC.skip (thenQ.n ?_)
      refine WC.seq ?_
      refine WC.region ?_
      iterate 2 refine WL.lv rfl (LV.mv rfl) ?_
      refine WL.lv rfl (LV.idxSi (i := i) Try.underlying9 rfl rfl (by omega) (by omega)) ?_
      have hS4 : SH w No w3 [blkE b1 42 #[P_out, (.slice A_out ((bytesOf out).length) c_out)], rowE eU8 5 (.slice A_out ((bytesOf out).length) c_out) (bytesOf out)] := (SH.front [_] hS3)
      have hT1 := SH.sub (Es := [_, _]) hS4
      have z1 := wb_calls (t := out) (x := (gI (bytesOf s) (i))) hT1 (hp_out) (by omega) (by omega) (by omega)
      refine WL.call rfl (XC.fn Try.func25 (by kernel_rfl) rfl rfl rfl) (z1) ?_
      rintro v_ w4 ⟨A1, c1, rfl, hU1⟩
      have hS5 := SH.back (Es := [_, _]) hS4 hU1
      refine WL.nil (thenQ.n ?_)
      refine WC.region ?_
      refine WL.lv rfl (LV.mv rfl) ?_
      refine WL.lv rfl (LV.add rfl rfl (wr64 (by omega) (by omega))) ?_
      refine WL.lv rfl (LV.asg rfl) ?_
      refine WL.nil (blockQ.n <| thenQ.n ?_)
      have hS6 : SH w No w4 [rowE eU8 5 (.slice A1 ((bytesOf (out ++ ⟨#[(gI (bytesOf s) (i)).toNat.toUInt8]⟩)).length) c1) (bytesOf (out ++ ⟨#[(gI (bytesOf s) (i)).toNat.toUInt8]⟩)), blkE b1 42 #[(.pointer (some ⟨b1, 0, none⟩)), (.slice A1 ((bytesOf (out ++ ⟨#[(gI (bytesOf s) (i)).toNat.toUInt8]⟩)).length) c1)]] := (SH.front [_] hS5)
      exact ⟨_, by omega, (.pointer (some ⟨b1, 0, none⟩)), A1, c1, (out ++ ⟨#[(gI (bytesOf s) (i)).toNat.toUInt8]⟩), i + 1, (.inr rfl), by omega, by omega, ((by rw [← q1, pl_keep ilo hk (fun h_ => hm (hmk_.2 h_)), bytesOf_app, bytesOf_lit _ (by omega) (by omega), List.append_assoc]; rfl)), hS6, rfl, Weak.cons rfl <| Weak.cons rfl <| Weak.cons rfl <| Weak.nil _⟩
  · skip
    refine WC.exit (thenQ.x <| thenQ.x <| blockQ.hit <| thenQ.n ?_)
    refine WC.seq ?_
    refine WC.region ?_
    have hS7 : SH w No w2 [blkE b1 42 #[P_out, (.slice A_out ((bytesOf out).length) c_out)], rowE eU8 5 (.slice A_out ((bytesOf out).length) c_out) (bytesOf out)] := (SH.front [_] hL1)
    have hT2 := SH.sub (Es := [_, _]) hS7
    refine WL.call rfl (XC.fn Try.func26 (by kernel_rfl) rfl rfl rfl) (bs_calls (t := out) hT2) ?_
    rintro v_ w5 ⟨rfl, hU2⟩
    have hS8 := SH.back (Es := [_, _]) hS7 hU2
    refine WL.lv rfl (LV.asg rfl) ?_
    refine WL.nil (thenQ.n ?_)
    refine WC.ret (?_)
    exact ⟨_, fun a ha => res1 rfl ha rfl, congrArg Value.string (pln_of (by rw [drop_end (by omega), PL_none, List.append_nil] at q1; exact q1)), hS8.kb⟩

theorem letter_calls {w : World} {c : Int}  :
    Calls Try.prog 22 #[(.int .u8 c)] w fun e w' => ∃ v, e = .returned v ∧ (fun v w' => v = .bool (decide (KD c = 1)) ∧ KB No w w') v w' := by
  have hk_ := kd_is c
  have hS : SH w No w [] := SH.nil _ _
  refine calls (l := litOf [(.int .u8 c)] 0) Try.func22 rfl (n := 29) rfl (Nat.le_of_ble_eq_true rfl) (lit_args _) ?_
  refine WC.seq ?_
  refine WC.region ?_
  refine WL.lv rfl (LV.asg rfl) ?_
  refine WL.nil (thenQ.n ?_)
  refine WC.seq ?_
  refine WC.region ?_
  refine WL.lv rfl (LV.mv rfl) ?_
  rcases Decidable.em (c ≥ 48) with hg1 | hg1
  · refine WL.lv rfl (LV.as (LV.geI rfl rfl) (decide_eq_true hg1)) ?_
    iterate 2 refine WL.lv rfl (LV.mv rfl) ?_
    rcases Decidable.em (c ≤ 57) with hg2 | hg2
    · refine WL.lv rfl (LV.as (LV.leI rfl rfl) (decide_eq_true hg2)) ?_
      refine WL.lv rfl (LV.pickT rfl rfl) ?_
      refine WL.lv rfl (LV.mv rfl) ?_
      iterate 6 refine WL.off rfl ?_
      refine WL.lv rfl (LV.pickT rfl rfl) ?_
      refine WL.lv rfl (LV.mv rfl) ?_
      iterate 6 refine WL.off rfl ?_
      refine WL.lv rfl (LV.pickT rfl rfl) ?_
      refine WL.lv rfl (LV.mv rfl) ?_
      iterate 2 refine WL.off rfl ?_
      refine WL.lv rfl (LV.pickT rfl rfl) ?_
      refine WL.lv rfl (LV.asg rfl) ?_
      refine WL.nil (thenQ.n ?_)
      refine WC.ret (?_)
      exact ⟨_, fun a ha => res1 rfl ha rfl, congrArg Value.bool (decide_eq_true (show KD c = 1 by omega)).symm, hS.kb⟩
    · refine WL.lv rfl (LV.as (LV.leI rfl rfl) (decide_eq_false hg2)) ?_
      refine WL.lv rfl (LV.pickT rfl rfl) ?_
      iterate 2 refine WL.lv rfl (LV.mv rfl) ?_
      rcases Decidable.em (c ≥ 65) with hg3 | hg3
      · refine WL.lv rfl (LV.as (LV.geI rfl rfl) (decide_eq_true hg3)) ?_
        iterate 2 refine WL.lv rfl (LV.mv rfl) ?_
        rcases Decidable.em (c ≤ 90) with hg4 | hg4
        · refine WL.lv rfl (LV.as (LV.leI rfl rfl) (decide_eq_true hg4)) ?_
          refine WL.lv rfl (LV.pickT rfl rfl) ?_
          refine WL.lv rfl (LV.pickF rfl rfl) ?_
          refine WL.lv rfl (LV.mv rfl) ?_
          iterate 6 refine WL.off rfl ?_
          refine WL.lv rfl (LV.pickT rfl rfl) ?_
          refine WL.lv rfl (LV.mv rfl) ?_
          iterate 2 refine WL.off rfl ?_
          refine WL.lv rfl (LV.pickT rfl rfl) ?_
          refine WL.lv rfl (LV.asg rfl) ?_
          refine WL.nil (thenQ.n ?_)
          refine WC.ret (?_)
          exact ⟨_, fun a ha => res1 rfl ha rfl, congrArg Value.bool (decide_eq_true (show KD c = 1 by omega)).symm, hS.kb⟩
        · refine WL.lv rfl (LV.as (LV.leI rfl rfl) (decide_eq_false hg4)) ?_
          refine WL.lv rfl (LV.pickT rfl rfl) ?_
          refine WL.lv rfl (LV.pickF rfl rfl) ?_
          iterate 2 refine WL.lv rfl (LV.mv rfl) ?_
          rcases Decidable.em (c ≥ 97) with hg5 | hg5
          · refine WL.lv rfl (LV.as (LV.geI rfl rfl) (decide_eq_true hg5)) ?_
            iterate 2 refine WL.lv rfl (LV.mv rfl) ?_
            rcases Decidable.em (c ≤ 122) with hg6 | hg6
            · refine WL.lv rfl (LV.as (LV.leI rfl rfl) (decide_eq_true hg6)) ?_
              refine WL.lv rfl (LV.pickT rfl rfl) ?_
              refine WL.lv rfl (LV.pickF rfl rfl) ?_
              refine WL.lv rfl (LV.mv rfl) ?_
              iterate 2 refine WL.off rfl ?_
              refine WL.lv rfl (LV.pickT rfl rfl) ?_
              refine WL.lv rfl (LV.asg rfl) ?_
              refine WL.nil (thenQ.n ?_)
              refine WC.ret (?_)
              exact ⟨_, fun a ha => res1 rfl ha rfl, congrArg Value.bool (decide_eq_true (show KD c = 1 by omega)).symm, hS.kb⟩
            · refine WL.lv rfl (LV.as (LV.leI rfl rfl) (decide_eq_false hg6)) ?_
              refine WL.lv rfl (LV.pickT rfl rfl) ?_
              refine WL.lv rfl (LV.pickF rfl rfl) ?_
              iterate 2 refine WL.lv rfl (LV.mv rfl) ?_
              refine WL.lv rfl (LV.eqI rfl rfl) ?_
              refine WL.lv rfl (LV.pickF rfl rfl) ?_
              refine WL.lv rfl (LV.asg rfl) ?_
              refine WL.nil (thenQ.n ?_)
              refine WC.ret (?_)
              exact ⟨_, fun a ha => res1 rfl ha rfl, congrArg Value.bool (decide_eq_decide.2 (by omega)), hS.kb⟩
          · refine WL.lv rfl (LV.as (LV.geI rfl rfl) (decide_eq_false hg5)) ?_
            refine WL.lv rfl (LV.mv rfl) ?_
            iterate 2 refine WL.off rfl ?_
            iterate 2 refine WL.lv rfl (LV.pickF rfl rfl) ?_
            iterate 2 refine WL.lv rfl (LV.mv rfl) ?_
            refine WL.lv rfl (LV.eqI rfl rfl) ?_
            refine WL.lv rfl (LV.pickF rfl rfl) ?_
            refine WL.lv rfl (LV.asg rfl) ?_
            refine WL.nil (thenQ.n ?_)
            refine WC.ret (?_)
            exact ⟨_, fun a ha => res1 rfl ha rfl, congrArg Value.bool (decide_eq_decide.2 (by omega)), hS.kb⟩
      · refine WL.lv rfl (LV.as (LV.geI rfl rfl) (decide_eq_false hg3)) ?_
        refine WL.lv rfl (LV.mv rfl) ?_
        iterate 2 refine WL.off rfl ?_
        iterate 2 refine WL.lv rfl (LV.pickF rfl rfl) ?_
        iterate 2 refine WL.lv rfl (LV.mv rfl) ?_
        rcases Decidable.em (c ≥ 97) with hg7 | hg7
        · refine WL.lv rfl (LV.as (LV.geI rfl rfl) (decide_eq_true hg7)) ?_
          iterate 2 refine WL.lv rfl (LV.mv rfl) ?_
          rcases Decidable.em (c ≤ 122) with hg8 | hg8
          · refine WL.lv rfl (LV.as (LV.leI rfl rfl) (decide_eq_true hg8)) ?_
            refine WL.lv rfl (LV.pickT rfl rfl) ?_
            refine WL.lv rfl (LV.pickF rfl rfl) ?_
            refine WL.lv rfl (LV.mv rfl) ?_
            iterate 2 refine WL.off rfl ?_
            refine WL.lv rfl (LV.pickT rfl rfl) ?_
            refine WL.lv rfl (LV.asg rfl) ?_
            refine WL.nil (thenQ.n ?_)
            refine WC.ret (?_)
            exact ⟨_, fun a ha => res1 rfl ha rfl, congrArg Value.bool (decide_eq_true (show KD c = 1 by omega)).symm, hS.kb⟩
          · refine WL.lv rfl (LV.as (LV.leI rfl rfl) (decide_eq_false hg8)) ?_
            refine WL.lv rfl (LV.pickT rfl rfl) ?_
            refine WL.lv rfl (LV.pickF rfl rfl) ?_
            iterate 2 refine WL.lv rfl (LV.mv rfl) ?_
            refine WL.lv rfl (LV.eqI rfl rfl) ?_
            refine WL.lv rfl (LV.pickF rfl rfl) ?_
            refine WL.lv rfl (LV.asg rfl) ?_
            refine WL.nil (thenQ.n ?_)
            refine WC.ret (?_)
            exact ⟨_, fun a ha => res1 rfl ha rfl, congrArg Value.bool (decide_eq_decide.2 (by omega)), hS.kb⟩
        · refine WL.lv rfl (LV.as (LV.geI rfl rfl) (decide_eq_false hg7)) ?_
          refine WL.lv rfl (LV.mv rfl) ?_
          iterate 2 refine WL.off rfl ?_
          iterate 2 refine WL.lv rfl (LV.pickF rfl rfl) ?_
          iterate 2 refine WL.lv rfl (LV.mv rfl) ?_
          refine WL.lv rfl (LV.eqI rfl rfl) ?_
          refine WL.lv rfl (LV.pickF rfl rfl) ?_
          refine WL.lv rfl (LV.asg rfl) ?_
          refine WL.nil (thenQ.n ?_)
          refine WC.ret (?_)
          exact ⟨_, fun a ha => res1 rfl ha rfl, congrArg Value.bool (decide_eq_decide.2 (by omega)), hS.kb⟩
  · refine WL.lv rfl (LV.as (LV.geI rfl rfl) (decide_eq_false hg1)) ?_
    refine WL.lv rfl (LV.mv rfl) ?_
    iterate 2 refine WL.off rfl ?_
    refine WL.lv rfl (LV.pickF rfl rfl) ?_
    iterate 2 refine WL.lv rfl (LV.mv rfl) ?_
    rcases Decidable.em (c ≥ 65) with hg9 | hg9
    · refine WL.lv rfl (LV.as (LV.geI rfl rfl) (decide_eq_true hg9)) ?_
      iterate 2 refine WL.lv rfl (LV.mv rfl) ?_
      rcases Decidable.em (c ≤ 90) with hg10 | hg10
      · refine WL.lv rfl (LV.as (LV.leI rfl rfl) (decide_eq_true hg10)) ?_
        refine WL.lv rfl (LV.pickT rfl rfl) ?_
        refine WL.lv rfl (LV.pickF rfl rfl) ?_
        refine WL.lv rfl (LV.mv rfl) ?_
        iterate 6 refine WL.off rfl ?_
        refine WL.lv rfl (LV.pickT rfl rfl) ?_
        refine WL.lv rfl (LV.mv rfl) ?_
        iterate 2 refine WL.off rfl ?_
        refine WL.lv rfl (LV.pickT rfl rfl) ?_
        refine WL.lv rfl (LV.asg rfl) ?_
        refine WL.nil (thenQ.n ?_)
        refine WC.ret (?_)
        exact ⟨_, fun a ha => res1 rfl ha rfl, congrArg Value.bool (decide_eq_true (show KD c = 1 by omega)).symm, hS.kb⟩
      · refine WL.lv rfl (LV.as (LV.leI rfl rfl) (decide_eq_false hg10)) ?_
        refine WL.lv rfl (LV.pickT rfl rfl) ?_
        refine WL.lv rfl (LV.pickF rfl rfl) ?_
        iterate 2 refine WL.lv rfl (LV.mv rfl) ?_
        rcases Decidable.em (c ≥ 97) with hg11 | hg11
        · refine WL.lv rfl (LV.as (LV.geI rfl rfl) (decide_eq_true hg11)) ?_
          iterate 2 refine WL.lv rfl (LV.mv rfl) ?_
          rcases Decidable.em (c ≤ 122) with hg12 | hg12
          · refine WL.lv rfl (LV.as (LV.leI rfl rfl) (decide_eq_true hg12)) ?_
            refine WL.lv rfl (LV.pickT rfl rfl) ?_
            refine WL.lv rfl (LV.pickF rfl rfl) ?_
            refine WL.lv rfl (LV.mv rfl) ?_
            iterate 2 refine WL.off rfl ?_
            refine WL.lv rfl (LV.pickT rfl rfl) ?_
            refine WL.lv rfl (LV.asg rfl) ?_
            refine WL.nil (thenQ.n ?_)
            refine WC.ret (?_)
            exact ⟨_, fun a ha => res1 rfl ha rfl, congrArg Value.bool (decide_eq_true (show KD c = 1 by omega)).symm, hS.kb⟩
          · refine WL.lv rfl (LV.as (LV.leI rfl rfl) (decide_eq_false hg12)) ?_
            refine WL.lv rfl (LV.pickT rfl rfl) ?_
            refine WL.lv rfl (LV.pickF rfl rfl) ?_
            iterate 2 refine WL.lv rfl (LV.mv rfl) ?_
            refine WL.lv rfl (LV.eqI rfl rfl) ?_
            refine WL.lv rfl (LV.pickF rfl rfl) ?_
            refine WL.lv rfl (LV.asg rfl) ?_
            refine WL.nil (thenQ.n ?_)
            refine WC.ret (?_)
            exact ⟨_, fun a ha => res1 rfl ha rfl, congrArg Value.bool (decide_eq_decide.2 (by omega)), hS.kb⟩
        · refine WL.lv rfl (LV.as (LV.geI rfl rfl) (decide_eq_false hg11)) ?_
          refine WL.lv rfl (LV.mv rfl) ?_
          iterate 2 refine WL.off rfl ?_
          iterate 2 refine WL.lv rfl (LV.pickF rfl rfl) ?_
          iterate 2 refine WL.lv rfl (LV.mv rfl) ?_
          refine WL.lv rfl (LV.eqI rfl rfl) ?_
          refine WL.lv rfl (LV.pickF rfl rfl) ?_
          refine WL.lv rfl (LV.asg rfl) ?_
          refine WL.nil (thenQ.n ?_)
          refine WC.ret (?_)
          exact ⟨_, fun a ha => res1 rfl ha rfl, congrArg Value.bool (decide_eq_decide.2 (by omega)), hS.kb⟩
    · refine WL.lv rfl (LV.as (LV.geI rfl rfl) (decide_eq_false hg9)) ?_
      refine WL.lv rfl (LV.mv rfl) ?_
      iterate 2 refine WL.off rfl ?_
      iterate 2 refine WL.lv rfl (LV.pickF rfl rfl) ?_
      iterate 2 refine WL.lv rfl (LV.mv rfl) ?_
      rcases Decidable.em (c ≥ 97) with hg13 | hg13
      · refine WL.lv rfl (LV.as (LV.geI rfl rfl) (decide_eq_true hg13)) ?_
        iterate 2 refine WL.lv rfl (LV.mv rfl) ?_
        rcases Decidable.em (c ≤ 122) with hg14 | hg14
        · refine WL.lv rfl (LV.as (LV.leI rfl rfl) (decide_eq_true hg14)) ?_
          refine WL.lv rfl (LV.pickT rfl rfl) ?_
          refine WL.lv rfl (LV.pickF rfl rfl) ?_
          refine WL.lv rfl (LV.mv rfl) ?_
          iterate 2 refine WL.off rfl ?_
          refine WL.lv rfl (LV.pickT rfl rfl) ?_
          refine WL.lv rfl (LV.asg rfl) ?_
          refine WL.nil (thenQ.n ?_)
          refine WC.ret (?_)
          exact ⟨_, fun a ha => res1 rfl ha rfl, congrArg Value.bool (decide_eq_true (show KD c = 1 by omega)).symm, hS.kb⟩
        · refine WL.lv rfl (LV.as (LV.leI rfl rfl) (decide_eq_false hg14)) ?_
          refine WL.lv rfl (LV.pickT rfl rfl) ?_
          refine WL.lv rfl (LV.pickF rfl rfl) ?_
          iterate 2 refine WL.lv rfl (LV.mv rfl) ?_
          refine WL.lv rfl (LV.eqI rfl rfl) ?_
          refine WL.lv rfl (LV.pickF rfl rfl) ?_
          refine WL.lv rfl (LV.asg rfl) ?_
          refine WL.nil (thenQ.n ?_)
          refine WC.ret (?_)
          exact ⟨_, fun a ha => res1 rfl ha rfl, congrArg Value.bool (decide_eq_decide.2 (by omega)), hS.kb⟩
      · refine WL.lv rfl (LV.as (LV.geI rfl rfl) (decide_eq_false hg13)) ?_
        refine WL.lv rfl (LV.mv rfl) ?_
        iterate 2 refine WL.off rfl ?_
        iterate 2 refine WL.lv rfl (LV.pickF rfl rfl) ?_
        iterate 2 refine WL.lv rfl (LV.mv rfl) ?_
        refine WL.lv rfl (LV.eqI rfl rfl) ?_
        refine WL.lv rfl (LV.pickF rfl rfl) ?_
        refine WL.lv rfl (LV.asg rfl) ?_
        refine WL.nil (thenQ.n ?_)
        refine WC.ret (?_)
        exact ⟨_, fun a ha => res1 rfl ha rfl, congrArg Value.bool (decide_eq_decide.2 (by omega)), hS.kb⟩

theorem blank_calls {w : World} {c : Int}  :
    Calls Try.prog 23 #[(.int .u8 c)] w fun e w' => ∃ v, e = .returned v ∧ (fun v w' => v = .bool (decide (KD c = 2)) ∧ KB No w w') v w' := by
  have hk_ := kd_is c
  have hS : SH w No w [] := SH.nil _ _
  refine calls (l := litOf [(.int .u8 c)] 0) Try.func23 rfl (n := 9) rfl (Nat.le_of_ble_eq_true rfl) (lit_args _) ?_
  refine WC.seq ?_
  refine WC.region ?_
  refine WL.lv rfl (LV.asg rfl) ?_
  refine WL.nil (thenQ.n ?_)
  refine WC.seq ?_
  refine WC.region ?_
  refine WL.lv rfl (LV.mv rfl) ?_
  rcases Decidable.em (c = 32) with hg1 | hg1
  · refine WL.lv rfl (LV.as (LV.eqI rfl rfl) (decide_eq_true hg1)) ?_
    refine WL.lv rfl (LV.mv rfl) ?_
    iterate 2 refine WL.off rfl ?_
    refine WL.lv rfl (LV.pickT rfl rfl) ?_
    refine WL.lv rfl (LV.asg rfl) ?_
    refine WL.nil (thenQ.n ?_)
    refine WC.ret (?_)
    exact ⟨_, fun a ha => res1 rfl ha rfl, congrArg Value.bool (decide_eq_true (show KD c = 2 by omega)).symm, hS.kb⟩
  · refine WL.lv rfl (LV.as (LV.eqI rfl rfl) (decide_eq_false hg1)) ?_
    iterate 2 refine WL.lv rfl (LV.mv rfl) ?_
    refine WL.lv rfl (LV.eqI rfl rfl) ?_
    refine WL.lv rfl (LV.pickF rfl rfl) ?_
    refine WL.lv rfl (LV.asg rfl) ?_
    refine WL.nil (thenQ.n ?_)
    refine WC.ret (?_)
    exact ⟨_, fun a ha => res1 rfl ha rfl, congrArg Value.bool (decide_eq_decide.2 (by omega)), hS.kb⟩

end Go.Proofs.Ytjjilkibcomfcaa
