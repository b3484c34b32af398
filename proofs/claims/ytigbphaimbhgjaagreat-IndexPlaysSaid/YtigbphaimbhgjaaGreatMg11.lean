/- Texts, labels, tokens, hits compared. -/
import Derived.Test.YtigbphaimbhgjaaGreatProg
import Derived.Test.YtigbphaimbhgjaaGreatMg10
import Derived.Test.YtigbphaimbhgjaaGreatMg3
import Derived.Test.YtigbphaimbhgjaaGreatMg4
import Derived.Test.YtigbphaimbhgjaaGreatMg5
namespace Go.Proofs.YtigbphaimbhgjaaGreat
open Go Go.Gv Go.RowKit Go.Tly Go.Wds Go.Idx
set_option linter.unusedVariables false
set_option linter.unusedSimpArgs false
theorem ti3 : TI Tryz.prog 3 (.int .i64 0) 1 8 := by unfold TI; kernel_rfl
theorem ti9 : TI Tryz.prog 9 (.string ⟨#[]⟩) 1 16 := by unfold TI; kernel_rfl
theorem ti24 : TI Tryz.prog 24 (.int .u64 0) 1 8 := by unfold TI; kernel_rfl
theorem ti26 : TI Tryz.prog 26 (.agg #[(.int .i64 0), (.int .u64 0)]) 2 16 := by unfold TI; kernel_rfl
theorem ti49 : TI Tryz.prog 49 (.agg #[(.string ⟨#[]⟩), (.int .i64 0)]) 2 24 := by unfold TI; kernel_rfl

theorem cnan_calls {w : World} {x : Int}  :
    Calls Tryz.prog 82 #[(.int .i64 x)] w fun e w' => ∃ v, e = .returned v ∧ (fun v w' => v = .bool false ∧ KB No w w') v w' := by
  have hS : SH w No w [] := SH.nil _ _
  refine calls (l := litOf [(.int .i64 x)] 0) Tryz.func82 rfl (n := 6) rfl (Nat.le_of_ble_eq_true rfl) (lit_args _) ?_
  refine WC.seq ?_
  refine WC.region ?_
  refine WL.lv rfl (LV.asg rfl) ?_
  refine WL.nil (thenQ.n ?_)
  refine WC.seq ?_
  refine WC.region ?_
  iterate 2 refine WL.lv rfl (LV.mv rfl) ?_
  refine WL.lv rfl (LV.neI rfl rfl) ?_
  refine WL.lv rfl (LV.asg rfl) ?_
  refine WL.nil (thenQ.n ?_)
  refine WC.ret (?_)
  exact ⟨_, fun a ha => res1 rfl ha rfl, congrArg Value.bool (decide_eq_false (fun h_ => h_ rfl)), hS.kb⟩

theorem ccmp_calls {w : World} {x : Int} {y : Int}  :
    Calls Tryz.prog 60 #[(.int .i64 x), (.int .i64 y)] w fun e w' => ∃ v, e = .returned v ∧ (fun v w' => v = .int .i64 (Cm.CMPI x y) ∧ KB No w w') v w' := by
  have hS : SH w No w [] := SH.nil _ _
  refine calls (l := litOf [(.int .i64 x), (.int .i64 y)] 0) Tryz.func60 rfl (n := 20) rfl (Nat.le_of_ble_eq_true rfl) (lit_args _) ?_
  refine WC.seq ?_
  refine WC.region ?_
  refine WL.lv rfl (LV.asg rfl) ?_
  refine WL.nil (thenQ.n ?_)
  refine WC.seq ?_
  refine WC.region ?_
  refine WL.lv rfl (LV.mv rfl) ?_
  refine WL.call rfl (XC.fn Tryz.func82 (by kernel_rfl) rfl rfl rfl) (cnan_calls (x := x) ) ?_
  rintro v_ w1 ⟨rfl, hk1⟩
  have hS1 := SH.same hS hk1
  refine WL.lv rfl (LV.asg rfl) ?_
  refine WL.nil (thenQ.n ?_)
  refine WC.seq ?_
  refine WC.region ?_
  refine WL.lv rfl (LV.mv rfl) ?_
  refine WL.call rfl (XC.fn Tryz.func82 (by kernel_rfl) rfl rfl rfl) (cnan_calls (x := y) ) ?_
  rintro v_ w2 ⟨rfl, hk2⟩
  have hS2 := SH.same hS1 hk2
  refine WL.lv rfl (LV.asg rfl) ?_
  refine WL.nil (thenQ.n ?_)
  iterate 2 refine WC.seq ?_
  refine WC.region ?_
  refine WL.lv rfl (LV.mv rfl) ?_
  refine WL.nil (thenQ.n ?_)
  refine WC.condF rfl ?_
  refine WC.skip (thenQ.n ?_)
  iterate 2 refine WC.seq ?_
  refine WC.region ?_
  refine WL.lv rfl (LV.mv rfl) ?_
  refine WL.nil (thenQ.n ?_)
  refine WC.condF rfl ?_
  refine WC.skip (thenQ.n ?_)
  iterate 2 refine WC.seq ?_
  refine WC.region ?_
  iterate 2 refine WL.lv rfl (LV.mv rfl) ?_
  refine WL.lv rfl (LV.ltI rfl rfl) ?_
  refine WL.nil (thenQ.n ?_)
  refine WC.condP (p := x < y) rfl (fun hc1 => ?_) (fun hc1 => ?_)
  · skip
    refine WC.seq ?_
    refine WC.region ?_
    refine WL.lv rfl (LV.asg rfl) ?_
    refine WL.nil (thenQ.n ?_)
    refine WC.ret (thenQ.r <| ?_)
    exact ⟨_, fun a ha => res1 rfl ha rfl, congrArg (Value.int .i64) (by have h_ := Cm.cmpi_is x y; omega), hS2.kb⟩
  · skip
    refine WC.skip (thenQ.n ?_)
    iterate 2 refine WC.seq ?_
    refine WC.region ?_
    iterate 2 refine WL.lv rfl (LV.mv rfl) ?_
    refine WL.lv rfl (LV.gtI rfl rfl) ?_
    refine WL.nil (thenQ.n ?_)
    refine WC.condP (p := x > y) rfl (fun hc2 => ?_) (fun hc2 => ?_)
    · skip
      refine WC.seq ?_
      refine WC.region ?_
      refine WL.lv rfl (LV.asg rfl) ?_
      refine WL.nil (thenQ.n ?_)
      refine WC.ret (thenQ.r <| ?_)
      exact ⟨_, fun a ha => res1 rfl ha rfl, congrArg (Value.int .i64) (by have h_ := Cm.cmpi_is x y; omega), hS2.kb⟩
    · skip
      refine WC.skip (thenQ.n ?_)
      refine WC.seq ?_
      refine WC.region ?_
      refine WL.lv rfl (LV.asg rfl) ?_
      refine WL.nil (thenQ.n ?_)
      refine WC.ret (?_)
      exact ⟨_, fun a ha => res1 rfl ha rfl, congrArg (Value.int .i64) (by have h_ := Cm.cmpi_is x y; omega), hS2.kb⟩

theorem cor_calls {w : World} {A_vals : Option Addr} {n_vals c_vals : Nat} {vals : List Int} (h_vals : St No w (Rd eI (.slice A_vals n_vals c_vals) vals)) (hn_vals : vals.length = n_vals)  :
    Calls Tryz.prog 58 #[(.slice A_vals n_vals c_vals)] w fun e w' => ∃ v, e = .returned v ∧ (fun v w' => v = .int .i64 (Cm.ORL vals) ∧ KB No w w') v w' := by
  subst hn_vals
  have hma := Rd.max h_vals.now
  have hS : SH w No w [] := SH.nil _ _
  refine calls (l := litOf [(.slice A_vals vals.length c_vals)] 0) Tryz.func58 rfl (n := 18) rfl (Nat.le_of_ble_eq_true rfl) (lit_args _) ?_
  refine WC.seq ?_
  refine WC.region ?_
  refine WL.lv rfl (LV.asg rfl) ?_
  refine WL.nil (thenQ.n ?_)
  refine WC.seq ?_
  refine WC.region ?_
  refine WL.lv rfl (LV.asg rfl) ?_
  refine WL.nil (thenQ.n ?_)
  iterate 2 refine WC.seq ?_
  refine WC.region ?_
  refine WL.lv rfl (LV.mv rfl) ?_
  refine WL.lv rfl (LV.lenL Tryz.underlying118 rfl) ?_
  refine WL.lv rfl (LV.mv rfl) ?_
  refine WL.nil (thenQ.n ?_)
  refine WC.block ?_
  refine WC.loop (fun m_ f_ w_ => ∃ (ix : Int), (0 ≤ ix) ∧ (ix ≤ (vals.length : Int)) ∧ (Cm.ORL (vals.drop ix.toNat) = Cm.ORL vals) ∧ SH w No w_ [] ∧ m_ = (((vals.length : Int) - ix).toNat) ∧ Weak (lit [(3, (.int .i64 0)), (6, (.slice A_vals vals.length c_vals)), (7, (.int .i64 (vals.length : Int))), (8, (.int .i64 ix))]) f_) _ ⟨0, by omega, by omega, rfl, hS, rfl, Weak.cons rfl <| Weak.cons rfl <| Weak.cons rfl <| Weak.cons rfl <| Weak.nil _⟩ ?_
  rintro m1 f1 w1 ⟨ix, ixlo, ixhi, q1, hL1, rfl, hw1⟩
  refine WC.weak hw1 ?_
  clear hw1
  refine WC.seq ?_
  refine WC.region ?_
  refine WL.lv rfl (LV.ltI rfl rfl) ?_
  refine WL.nil (thenQ.n ?_)
  refine WC.seq ?_
  refine WC.condP (p := ix < (vals.length : Int)) rfl (fun hk => ?_) (fun hk => ?_)
  · skip
    refine WC.skip (thenQ.n ?_)
    refine WC.seq ?_
    refine WC.block ?_
    refine WC.seq ?_
    refine WC.region ?_
    obtain ⟨A1, c1, e1, g1⟩ := St.elt (SH.stN hL1 h_vals) 0 ix (by omega) (by omega)
    refine WL.lv rfl (LV.idxA Tryz.underlying118 ti3.sz rfl e1 rfl (by omega) (by omega)) ?_
    refine WL.lv rfl (LV.load1 (v := (.int .i64 (gI vals (ix)))) Tryz.underlying3 rfl rfl (g1 _ (KB.refl No _) 0 _ rfl)) ?_
    refine WL.lv rfl (LV.asg rfl) ?_
    refine WL.nil (thenQ.n ?_)
    refine WC.seq ?_
    refine WC.region ?_
    iterate 2 refine WL.lv rfl (LV.mv rfl) ?_
    refine WL.lv rfl (LV.neI rfl rfl) ?_
    refine WL.nil (thenQ.n ?_)
    refine WC.condP (p := (gI vals (ix)) ≠ 0) rfl (fun hc1 => ?_) (fun hc1 => ?_)
    · skip
      refine WC.seq ?_
      refine WC.region ?_
      refine WL.lv rfl (LV.mv rfl) ?_
      refine WL.lv rfl (LV.asg rfl) ?_
      refine WL.nil (thenQ.n ?_)
      refine WC.ret (blockQ.r <| thenQ.r <| thenQ.r <| blockQ.r <| thenQ.r <| ?_)
      exact ⟨_, fun a ha => res1 rfl ha rfl, congrArg (Value.int .i64) (by first | (rw [← q1, Cm.ORL_end (by omega)]; done) | (rw [← q1, Cm.ORL_at ixlo hk, if_pos (by omega)])), hL1.kb⟩
    · skip
      refine WC.skip (blockQ.n <| thenQ.n ?_)
      refine WC.region ?_
      refine WL.lv rfl (LV.add rfl rfl (wr64 (by omega) (by omega))) ?_
      refine WL.lv rfl (LV.mv rfl) ?_
      refine WL.nil (thenQ.n ?_)
      exact ⟨_, by omega, ix + 1, by omega, by omega, (by rw [← q1, Cm.ORL_at ixlo hk, if_neg (by omega)]), hL1, rfl, Weak.cons rfl <| Weak.cons rfl <| Weak.cons rfl <| Weak.cons rfl <| Weak.nil _⟩
  · skip
    refine WC.exit (thenQ.x <| thenQ.x <| blockQ.hit <| thenQ.n ?_)
    refine WC.seq ?_
    refine WC.region ?_
    refine WL.lv rfl (LV.mv rfl) ?_
    refine WL.lv rfl (LV.asg rfl) ?_
    refine WL.nil (thenQ.n ?_)
    refine WC.ret (?_)
    exact ⟨_, fun a ha => res1 rfl ha rfl, congrArg (Value.int .i64) (by first | (rw [← q1, Cm.ORL_end (by omega)]; done) | (rw [← q1, Cm.ORL_at ixlo hk, if_pos (by omega)])), hL1.kb⟩

theorem cnans_calls {w : World} {x : ByteArray}  :
    Calls Tryz.prog 81 #[(.string x)] w fun e w' => ∃ v, e = .returned v ∧ (fun v w' => v = .bool false ∧ KB No w w') v w' := by
  have hS : SH w No w [] := SH.nil _ _
  refine calls (l := litOf [(.string x)] 0) Tryz.func81 rfl (n := 6) rfl (Nat.le_of_ble_eq_true rfl) (lit_args _) ?_
  refine WC.seq ?_
  refine WC.region ?_
  refine WL.lv rfl (LV.asg rfl) ?_
  refine WL.nil (thenQ.n ?_)
  refine WC.seq ?_
  refine WC.region ?_
  iterate 2 refine WL.lv rfl (LV.mv rfl) ?_
  refine WL.lv rfl (LV.neSP (a := x) (b := x) rfl rfl) ?_
  refine WL.lv rfl (LV.asg rfl) ?_
  refine WL.nil (thenQ.n ?_)
  refine WC.ret (?_)
  exact ⟨_, fun a ha => res1 rfl ha rfl, congrArg Value.bool (decide_eq_false (fun h_ => h_ rfl)), hS.kb⟩

theorem ccmps_calls {w : World} {x : ByteArray} {y : ByteArray}  :
    Calls Tryz.prog 59 #[(.string x), (.string y)] w fun e w' => ∃ v, e = .returned v ∧ (fun v w' => v = .int .i64 (Idx.CMPB x y) ∧ KB No w w') v w' := by
  have hS : SH w No w [] := SH.nil _ _
  refine calls (l := litOf [(.string x), (.string y)] 0) Tryz.func59 rfl (n := 20) rfl (Nat.le_of_ble_eq_true rfl) (lit_args _) ?_
  refine WC.seq ?_
  refine WC.region ?_
  refine WL.lv rfl (LV.asg rfl) ?_
  refine WL.nil (thenQ.n ?_)
  refine WC.seq ?_
  refine WC.region ?_
  refine WL.lv rfl (LV.mv rfl) ?_
  refine WL.call rfl (XC.fn Tryz.func81 (by kernel_rfl) rfl rfl rfl) (cnans_calls (x := x) ) ?_
  rintro v_ w1 ⟨rfl, hk1⟩
  have hS1 := SH.same hS hk1
  refine WL.lv rfl (LV.asg rfl) ?_
  refine WL.nil (thenQ.n ?_)
  refine WC.seq ?_
  refine WC.region ?_
  refine WL.lv rfl (LV.mv rfl) ?_
  refine WL.call rfl (XC.fn Tryz.func81 (by kernel_rfl) rfl rfl rfl) (cnans_calls (x := y) ) ?_
  rintro v_ w2 ⟨rfl, hk2⟩
  have hS2 := SH.same hS1 hk2
  refine WL.lv rfl (LV.asg rfl) ?_
  refine WL.nil (thenQ.n ?_)
  iterate 2 refine WC.seq ?_
  refine WC.region ?_
  refine WL.lv rfl (LV.mv rfl) ?_
  refine WL.nil (thenQ.n ?_)
  refine WC.condF rfl ?_
  refine WC.skip (thenQ.n ?_)
  iterate 2 refine WC.seq ?_
  refine WC.region ?_
  refine WL.lv rfl (LV.mv rfl) ?_
  refine WL.nil (thenQ.n ?_)
  refine WC.condF rfl ?_
  refine WC.skip (thenQ.n ?_)
  iterate 2 refine WC.seq ?_
  refine WC.region ?_
  iterate 2 refine WL.lv rfl (LV.mv rfl) ?_
  refine WL.lv rfl (LV.ltS (a := x) (b := y) rfl rfl) ?_
  refine WL.nil (thenQ.n ?_)
  refine WC.condP (p := ltB x y) rfl (fun hc1 => ?_) (fun hc1 => ?_)
  · skip
    refine WC.seq ?_
    refine WC.region ?_
    refine WL.lv rfl (LV.asg rfl) ?_
    refine WL.nil (thenQ.n ?_)
    refine WC.ret (thenQ.r <| ?_)
    exact ⟨_, fun a ha => res1 rfl ha rfl, congrArg (Value.int .i64) (by unfold Idx.CMPB; first | (rw [if_pos (by assumption)]; done) | (rw [if_neg (by assumption), if_pos (by assumption)]; done) | (rw [if_neg (by assumption), if_neg (by assumption)]; done)), hS2.kb⟩
  · skip
    refine WC.skip (thenQ.n ?_)
    iterate 2 refine WC.seq ?_
    refine WC.region ?_
    iterate 2 refine WL.lv rfl (LV.mv rfl) ?_
    refine WL.lv rfl (LV.gtS (a := x) (b := y) rfl rfl) ?_
    refine WL.nil (thenQ.n ?_)
    refine WC.condP (p := ltB y x) rfl (fun hc2 => ?_) (fun hc2 => ?_)
    · skip
      refine WC.seq ?_
      refine WC.region ?_
      refine WL.lv rfl (LV.asg rfl) ?_
      refine WL.nil (thenQ.n ?_)
      refine WC.ret (thenQ.r <| ?_)
      exact ⟨_, fun a ha => res1 rfl ha rfl, congrArg (Value.int .i64) (by unfold Idx.CMPB; first | (rw [if_pos (by assumption)]; done) | (rw [if_neg (by assumption), if_pos (by assumption)]; done) | (rw [if_neg (by assumption), if_neg (by assumption)]; done)), hS2.kb⟩
    · skip
      refine WC.skip (thenQ.n ?_)
      refine WC.seq ?_
      refine WC.region ?_
      refine WL.lv rfl (LV.asg rfl) ?_
      refine WL.nil (thenQ.n ?_)
      refine WC.ret (?_)
      exact ⟨_, fun a ha => res1 rfl ha rfl, congrArg (Value.int .i64) (by unfold Idx.CMPB; first | (rw [if_pos (by assumption)]; done) | (rw [if_neg (by assumption), if_pos (by assumption)]; done) | (rw [if_neg (by assumption), if_neg (by assumption)]; done)), hS2.kb⟩

theorem order_calls {w : World} {a : En} {b : En}  :
    Calls Tryz.prog 36 #[(.agg #[(.string ((a).1)), (.int .i64 ((a).2))]), (.agg #[(.string ((b).1)), (.int .i64 ((b).2))])] w fun e w' => ∃ v, e = .returned v ∧ (fun v w' => v = .int .i64 (ORDH a b) ∧ KB No w w') v w' := by
  have hS : SH w No w [] := SH.nil _ _
  refine calls (l := litOf [(.agg #[(.string ((a).1)), (.int .i64 ((a).2))]), (.agg #[(.string ((b).1)), (.int .i64 ((b).2))])] 0) Tryz.func36 rfl (n := 17) rfl (Nat.le_of_ble_eq_true rfl) (lit_args _) ?_
  refine WC.seq ?_
  refine WC.region ?_
  refine WL.xe rfl (XE.box #[(.string ((a).1)), (.int .i64 ((a).2))] hS rfl rfl) ?_
  rintro _ w1 ⟨b1, rfl, hS1, hk1⟩
  refine WL.xe rfl (XE.box #[(.string ((b).1)), (.int .i64 ((b).2))] hS1 rfl rfl) ?_
  rintro _ w2 ⟨b2, rfl, hS2, hk2⟩
  refine WL.lv rfl (LV.asg rfl) ?_
  refine WL.nil (thenQ.n ?_)
  refine WC.seq ?_
  have hS3 := SH.drew hS2
  refine WC.regionD [] (fun w_ => KB No w2.drew w_) [(.pure, 0), (.look, 1), (.pure, 2), (.look, 3), (.pure, 5), (.look, 6), (.pure, 7), (.look, 8), (.forced, 4), (.forced, 9), (.forced, 10), (.forced, 11), (.pure, 12)] (by kernel_rfl) (by kernel_rfl) (KB.refl _ _) ?_
  refine WS.pure rfl rfl (fun _ => LV.fieldA Tryz.underlying49 rfl ti9.sz rfl) ?_
  refine WS.look rfl rfl (fun _ hk_ => LV.load1 Tryz.underlying9 rfl rfl (Blk.cellN (SH.at hS3 (.tail _ (.head _))) 0 rfl _ hk_)) ?_
  refine WS.pure rfl rfl (fun _ => LV.fieldA Tryz.underlying49 rfl ti9.sz rfl) ?_
  refine WS.look rfl rfl (fun _ hk_ => LV.load1 Tryz.underlying9 rfl rfl (Blk.cellN (SH.at hS3 (.head _)) 0 rfl _ hk_)) ?_
  refine WS.pure rfl rfl (fun _ => LV.fieldA Tryz.underlying49 rfl ti3.sz rfl) ?_
  refine WS.look rfl rfl (fun _ hk_ => LV.load1 Tryz.underlying3 rfl rfl (Blk.cellN (SH.at hS3 (.tail _ (.head _))) 1 rfl _ hk_)) ?_
  refine WS.pure rfl rfl (fun _ => LV.fieldA Tryz.underlying49 rfl ti3.sz rfl) ?_
  refine WS.look rfl rfl (fun _ hk_ => LV.load1 Tryz.underlying3 rfl rfl (Blk.cellN (SH.at hS3 (.head _)) 1 rfl _ hk_)) ?_
  refine WS.call rfl rfl (XC.fn Tryz.func59 (by kernel_rfl) rfl rfl rfl) (ccmps_calls (x := ((a).1)) (y := ((b).1)) ) ?_
  rintro v_ w3 ⟨rfl, hk3⟩
  have hS4 := SH.same hS3 hk3
  refine ⟨fun h_ => (KB.transN (KB.refl _ _) hk3), ?_⟩
  refine WS.call rfl rfl (XC.fn Tryz.func60 (by kernel_rfl) rfl rfl rfl) (ccmp_calls (x := ((a).2)) (y := ((b).2)) ) ?_
  rintro v_ w4 ⟨rfl, hk4⟩
  have hS5 := SH.same hS4 hk4
  refine ⟨fun h_ => (KB.transN (KB.transN (KB.refl _ _) hk3) hk4), ?_⟩
  refine WS.xe rfl rfl (XE.buildSlice (E := eI) [(0, (.int .i64 (Idx.CMPB ((a).1) ((b).1)))), (1, (.int .i64 (Cm.CMPI ((a).2) ((b).2))))] #[(.int .i64 (Idx.CMPB ((a).1) ((b).1))), (.int .i64 (Cm.CMPI ((a).2) ((b).2)))] [Idx.CMPB ((a).1) ((b).1), Cm.CMPI ((a).2) ((b).2)] hS5 Tryz.underlying118 ti3 rfl (by decide) (by kernel_rfl) (.inr rfl) rfl rfl (by decide)) ?_
  rintro _ w5 ⟨b3, rfl, hS6, hk5⟩
  refine ⟨fun h_ => (KB.transN (KB.transN (KB.transN (KB.refl _ _) hk3) hk4) hk5), ?_⟩
  refine WS.call rfl rfl (XC.fn Tryz.func58 (by kernel_rfl) rfl rfl rfl) (cor_calls  (SH.rd hS6 (.head _)) rfl ) ?_
  rintro v_ w6 ⟨rfl, hk6⟩
  have hS7 := SH.same hS6 hk6
  refine ⟨fun h_ => (KB.transN (KB.transN (KB.transN (KB.transN (KB.refl _ _) hk3) hk4) hk5) hk6), ?_⟩
  refine WS.pure rfl rfl (fun _ => LV.asg rfl) ?_
  refine WS.nil (thenQ.n ?_)
  refine WC.ret (?_)
  exact ⟨_, fun a ha => res1 rfl ha rfl, congrArg (Value.int .i64) (rfl), hS7.kb⟩

theorem has_calls {w : World} {a : Lb} {c : Int} (wa : 0 ≤ a.2 ∧ a.2 < 18446744073709551616) :
    Calls Tryz.prog 53 #[(.agg #[(.int .i64 ((a).1)), (.int .u64 ((a).2))]), (.int .i64 c)] w fun e w' => ∃ v, e = .returned v ∧ (fun v w' => v = .bool (decide (HAS a c)) ∧ KB No w w') v w' := by
  have hfd_ := fd_nn wa.1 (min (c).toNat IntKind.u64.bits)
  have hS : SH w No w [] := SH.nil _ _
  refine calls (l := litOf [(.agg #[(.int .i64 ((a).1)), (.int .u64 ((a).2))]), (.int .i64 c)] 0) Tryz.func53 rfl (n := 19) rfl (Nat.le_of_ble_eq_true rfl) (lit_args _) ?_
  refine WC.seq ?_
  refine WC.region ?_
  refine WL.xe rfl (XE.box #[(.int .i64 ((a).1)), (.int .u64 ((a).2))] hS rfl rfl) ?_
  rintro _ w1 ⟨b1, rfl, hS1, hk1⟩
  refine WL.lv rfl (LV.asg rfl) ?_
  refine WL.nil (thenQ.n ?_)
  refine WC.seq ?_
  refine WC.region ?_
  refine WL.lv rfl (LV.mv rfl) ?_
  rcases Decidable.em (c ≥ 0) with hg1 | hg1
  · refine WL.lv rfl (LV.as (LV.geI rfl rfl) (decide_eq_true hg1)) ?_
    iterate 2 refine WL.lv rfl (LV.mv rfl) ?_
    rcases Decidable.em (c ≤ 63) with hg2 | hg2
    · refine WL.lv rfl (LV.as (LV.leI rfl rfl) (decide_eq_true hg2)) ?_
      refine WL.lv rfl (LV.pickT rfl rfl) ?_
      refine WL.lv rfl (LV.mv rfl) ?_
      refine WL.lv rfl (LV.fieldA Tryz.underlying26 rfl ti24.sz rfl) ?_
      refine WL.lv rfl (LV.load1 Tryz.underlying24 rfl rfl (Blk.cellN (SH.at hS1 (.head _)) 1 rfl _ (KB.refl No _))) ?_
      refine WL.lv rfl (LV.mv rfl) ?_
      refine WL.lv rfl (LV.shr rfl rfl (by omega) rfl) ?_
      refine WL.lv rfl (LV.rem rfl rfl (by decide) (rem64 (by omega) rfl)) ?_
      refine WL.lv rfl (LV.eqI rfl rfl) ?_
      refine WL.lv rfl (LV.pickT rfl rfl) ?_
      refine WL.lv rfl (LV.asg rfl) ?_
      refine WL.nil (thenQ.n ?_)
      refine WC.ret (?_)
      exact ⟨_, fun a ha => res1 rfl ha rfl, congrArg Value.bool (decide_eq_decide.2 ⟨fun h_ => ⟨by omega, by omega, h_⟩, fun h_ => h_.2.2⟩), hS1.kb⟩
    · refine WL.lv rfl (LV.as (LV.leI rfl rfl) (decide_eq_false hg2)) ?_
      refine WL.lv rfl (LV.pickT rfl rfl) ?_
      refine WL.lv rfl (LV.mv rfl) ?_
      iterate 6 refine WL.off rfl ?_
      refine WL.lv rfl (LV.pickF rfl rfl) ?_
      refine WL.lv rfl (LV.asg rfl) ?_
      refine WL.nil (thenQ.n ?_)
      refine WC.ret (?_)
      exact ⟨_, fun a ha => res1 rfl ha rfl, congrArg Value.bool ((decide_eq_false (fun h_ => by have h1_ := h_.1; have h2_ := h_.2.1; omega)).symm), hS1.kb⟩
  · refine WL.lv rfl (LV.as (LV.geI rfl rfl) (decide_eq_false hg1)) ?_
    refine WL.lv rfl (LV.mv rfl) ?_
    iterate 2 refine WL.off rfl ?_
    refine WL.lv rfl (LV.pickF rfl rfl) ?_
    refine WL.lv rfl (LV.mv rfl) ?_
    iterate 6 refine WL.off rfl ?_
    refine WL.lv rfl (LV.pickF rfl rfl) ?_
    refine WL.lv rfl (LV.asg rfl) ?_
    refine WL.nil (thenQ.n ?_)
    refine WC.ret (?_)
    exact ⟨_, fun a ha => res1 rfl ha rfl, congrArg Value.bool ((decide_eq_false (fun h_ => by have h1_ := h_.1; have h2_ := h_.2.1; omega)).symm), hS1.kb⟩

theorem rbelow_calls {w : World} {a : Lb} {b : Lb} (wa : 0 ≤ a.2 ∧ a.2 < 18446744073709551616) (wb : 0 ≤ b.2 ∧ b.2 < 18446744073709551616) :
    Calls Tryz.prog 27 #[(.agg #[(.int .i64 ((a).1)), (.int .u64 ((a).2))]), (.agg #[(.int .i64 ((b).1)), (.int .u64 ((b).2))])] w fun e w' => ∃ v, e = .returned v ∧ (fun v w' => v = .bool (decide (BEL a b)) ∧ KB No w w') v w' := by
  have hS : SH w No w [] := SH.nil _ _
  refine calls (l := litOf [(.agg #[(.int .i64 ((a).1)), (.int .u64 ((a).2))]), (.agg #[(.int .i64 ((b).1)), (.int .u64 ((b).2))])] 0) Tryz.func27 rfl (n := 24) rfl (Nat.le_of_ble_eq_true rfl) (lit_args _) ?_
  refine WC.seq ?_
  refine WC.region ?_
  refine WL.xe rfl (XE.box #[(.int .i64 ((a).1)), (.int .u64 ((a).2))] hS rfl rfl) ?_
  rintro _ w1 ⟨b1, rfl, hS1, hk1⟩
  refine WL.xe rfl (XE.box #[(.int .i64 ((b).1)), (.int .u64 ((b).2))] hS1 rfl rfl) ?_
  rintro _ w2 ⟨b2, rfl, hS2, hk2⟩
  refine WL.lv rfl (LV.asg rfl) ?_
  refine WL.nil (thenQ.n ?_)
  iterate 2 refine WC.seq ?_
  refine WC.region ?_
  refine WL.lv rfl (LV.fieldA Tryz.underlying26 rfl ti3.sz rfl) ?_
  refine WL.lv rfl (LV.load1 Tryz.underlying3 rfl rfl (Blk.cellN (SH.at hS2 (.tail _ (.head _))) 0 rfl _ (KB.refl No _))) ?_
  refine WL.lv rfl (LV.fieldA Tryz.underlying26 rfl ti3.sz rfl) ?_
  refine WL.lv rfl (LV.load1 Tryz.underlying3 rfl rfl (Blk.cellN (SH.at hS2 (.head _)) 0 rfl _ (KB.refl No _))) ?_
  refine WL.lv rfl (LV.gtI rfl rfl) ?_
  refine WL.nil (thenQ.n ?_)
  refine WC.condP (p := ((a).1) > ((b).1)) rfl (fun hc1 => ?_) (fun hc1 => ?_)
  · skip
    refine WC.seq ?_
    refine WC.region ?_
    refine WL.lv rfl (LV.asg rfl) ?_
    refine WL.nil (thenQ.n ?_)
    refine WC.ret (thenQ.r <| ?_)
    exact ⟨_, fun a ha => res1 rfl ha rfl, congrArg Value.bool ((decide_eq_false (fun h_ => by have h1_ := h_.1; omega)).symm), hS2.kb⟩
  · skip
    refine WC.skip (thenQ.n ?_)
    iterate 2 refine WC.seq ?_
    refine WC.region ?_
    refine WL.lv rfl (LV.asg rfl) ?_
    refine WL.nil (thenQ.n ?_)
    refine WC.block ?_
    refine WC.loop (fun m_ f_ w_ => ∃ (c : Int), (0 ≤ c) ∧ (c ≤ 64) ∧ (∀ t : Nat, t < c.toNat → ¬ (HAS a t ∧ ¬ HAS b t)) ∧ SH w No w_ [blkE b2 26 #[(.int .i64 ((b).1)), (.int .u64 ((b).2))], blkE b1 26 #[(.int .i64 ((a).1)), (.int .u64 ((a).2))]] ∧ m_ = ((64 - c).toNat) ∧ Weak (lit [(2, (.pointer (some ⟨b1, 0, none⟩))), (3, (.pointer (some ⟨b2, 0, none⟩))), (5, (.int .i64 c))]) f_) _ ⟨0, by omega, by omega, (fun t h_ => by omega), hS2, rfl, Weak.cons rfl <| Weak.cons rfl <| Weak.cons rfl <| Weak.nil _⟩ ?_
    rintro m1 f1 w3 ⟨c, clo, chi, q1, hL1, rfl, hw1⟩
    refine WC.weak hw1 ?_
    clear hw1
    iterate 2 refine WC.seq ?_
    refine WC.region ?_
    refine WL.lv rfl (LV.mv rfl) ?_
    refine WL.lv rfl (LV.ltI rfl rfl) ?_
    refine WL.nil (thenQ.n ?_)
    refine WC.condP (p := c < 64) rfl (fun hc2 => ?_) (fun hc2 => ?_)
    · skip
      refine WC.skip (thenQ.n ?_)
      refine WC.seq ?_
      refine WC.block ?_
      refine WC.seq ?_
      refine WC.region ?_
      refine WL.lv rfl (LV.loadAgg (cs := [(.int .i64 ((a).1)), (.int .u64 ((a).2))]) Tryz.underlying26 rfl ti26 rfl rfl (Blk.agg (SH.at hL1 (.tail _ (.head _))) _ (KB.refl No _))) ?_
      refine WL.lv rfl (LV.mv rfl) ?_
      rcases Decidable.em (HAS a c) with hga | hga
      · refine WL.call rfl (XC.fn Tryz.func53 (by kernel_rfl) rfl rfl rfl) (Calls.asB (has_calls (a := a) (c := c) (by omega)) (decide_eq_true (hga))) ?_
        rintro v_ w4 ⟨rfl, hk3⟩
        have hS3 := SH.same hL1 hk3
        refine WL.lv rfl (LV.mv rfl) ?_
        refine WL.lv rfl (LV.loadAgg (cs := [(.int .i64 ((b).1)), (.int .u64 ((b).2))]) Tryz.underlying26 rfl ti26 rfl rfl (Blk.agg (SH.at hS3 (.head _)) _ (KB.refl No _))) ?_
        refine WL.lv rfl (LV.mv rfl) ?_
        refine WL.call rfl (XC.fn Tryz.func53 (by kernel_rfl) rfl rfl rfl) (has_calls (a := b) (c := c) (by omega)) ?_
        rintro v_ w5 ⟨rfl, hk4⟩
        have hS4 := SH.same hS3 hk4
        refine WL.lv rfl (LV.notP rfl) ?_
        refine WL.lv rfl (LV.pickT rfl rfl) ?_
        refine WL.nil (thenQ.n ?_)
        refine WC.condP (p := ¬ (HAS b c)) rfl (fun hgb => ?_) (fun hgb => ?_)
        · skip
          refine WC.seq ?_
          refine WC.region ?_
          refine WL.lv rfl (LV.asg rfl) ?_
          refine WL.nil (thenQ.n ?_)
          refine WC.ret (blockQ.r <| thenQ.r <| thenQ.r <| blockQ.r <| thenQ.r <| ?_)
          exact ⟨_, fun a ha => res1 rfl ha rfl, congrArg Value.bool ((decide_eq_false (bel_no clo (by assumption) hga hgb)).symm), hS4.kb⟩
        · skip
          refine WC.skip (blockQ.n <| thenQ.n ?_)
          refine WC.region ?_
          refine WL.lv rfl (LV.mv rfl) ?_
          refine WL.lv rfl (LV.add rfl rfl (wr64 (by omega) (by omega))) ?_
          refine WL.lv rfl (LV.asg rfl) ?_
          refine WL.nil (thenQ.n ?_)
          exact ⟨_, by omega, c + 1, by omega, by omega, (all_up (P := fun c => HAS a c ∧ ¬ HAS b c) clo q1 (by first | exact fun h3_ => hga h3_.1 | exact fun h3_ => hgb h3_.2)), hS4, rfl, Weak.cons rfl <| Weak.cons rfl <| Weak.cons rfl <| Weak.nil _⟩
      · refine WL.call rfl (XC.fn Tryz.func53 (by kernel_rfl) rfl rfl rfl) (Calls.asB (has_calls (a := a) (c := c) (by omega)) (decide_eq_false (hga))) ?_
        rintro v_ w6 ⟨rfl, hk5⟩
        have hS5 := SH.same hL1 hk5
        refine WL.lv rfl (LV.mv rfl) ?_
        iterate 4 refine WL.off rfl ?_
        refine WL.lv rfl (LV.pickF rfl rfl) ?_
        refine WL.nil (thenQ.n ?_)
        refine WC.condF rfl ?_
        refine WC.skip (blockQ.n <| thenQ.n ?_)
        refine WC.region ?_
        refine WL.lv rfl (LV.mv rfl) ?_
        refine WL.lv rfl (LV.add rfl rfl (wr64 (by omega) (by omega))) ?_
        refine WL.lv rfl (LV.asg rfl) ?_
        refine WL.nil (thenQ.n ?_)
        exact ⟨_, by omega, c + 1, by omega, by omega, (all_up (P := fun c => HAS a c ∧ ¬ HAS b c) clo q1 (by first | exact fun h3_ => hga h3_.1 | exact fun h3_ => hgb h3_.2)), hS5, rfl, Weak.cons rfl <| Weak.cons rfl <| Weak.cons rfl <| Weak.nil _⟩
    · skip
      refine WC.exit (thenQ.x <| thenQ.x <| blockQ.hit <| thenQ.n ?_)
      refine WC.seq ?_
      refine WC.region ?_
      refine WL.lv rfl (LV.asg rfl) ?_
      refine WL.nil (thenQ.n ?_)
      refine WC.ret (?_)
      exact ⟨_, fun a ha => res1 rfl ha rfl, congrArg Value.bool ((decide_eq_true (bel_yes (by omega) (by omega) q1)).symm), hL1.kb⟩

theorem below_calls {w : World} {a : Lb} {b : Lb} (wa : 0 ≤ a.2 ∧ a.2 < 18446744073709551616) (wb : 0 ≤ b.2 ∧ b.2 < 18446744073709551616) :
    Calls Tryz.prog 32 #[(.agg #[(.int .i64 ((a).1)), (.int .u64 ((a).2))]), (.agg #[(.int .i64 ((b).1)), (.int .u64 ((b).2))])] w fun e w' => ∃ v, e = .returned v ∧ (fun v w' => v = .bool (decide (BEL a b)) ∧ KB No w w') v w' := by
  have hba_ := bel_andn (a := a) (b := b) wa.1 wb.1
  have hS : SH w No w [] := SH.nil _ _
  refine calls (l := litOf [(.agg #[(.int .i64 ((a).1)), (.int .u64 ((a).2))]), (.agg #[(.int .i64 ((b).1)), (.int .u64 ((b).2))])] 0) Tryz.func32 rfl (n := 18) rfl (Nat.le_of_ble_eq_true rfl) (lit_args _) ?_
  refine WC.seq ?_
  refine WC.region ?_
  refine WL.xe rfl (XE.box #[(.int .i64 ((a).1)), (.int .u64 ((a).2))] hS rfl rfl) ?_
  rintro _ w1 ⟨b1, rfl, hS1, hk1⟩
  refine WL.xe rfl (XE.box #[(.int .i64 ((b).1)), (.int .u64 ((b).2))] hS1 rfl rfl) ?_
  rintro _ w2 ⟨b2, rfl, hS2, hk2⟩
  refine WL.lv rfl (LV.asg rfl) ?_
  refine WL.nil (thenQ.n ?_)
  refine WC.seq ?_
  refine WC.region ?_
  refine WL.lv rfl (LV.fieldA Tryz.underlying26 rfl ti3.sz rfl) ?_
  refine WL.lv rfl (LV.load1 Tryz.underlying3 rfl rfl (Blk.cellN (SH.at hS2 (.tail _ (.head _))) 0 rfl _ (KB.refl No _))) ?_
  refine WL.lv rfl (LV.fieldA Tryz.underlying26 rfl ti3.sz rfl) ?_
  refine WL.lv rfl (LV.load1 Tryz.underlying3 rfl rfl (Blk.cellN (SH.at hS2 (.head _)) 0 rfl _ (KB.refl No _))) ?_
  rcases Decidable.em (((a).1) ≤ ((b).1)) with hg1 | hg1
  · refine WL.lv rfl (LV.as (LV.leI rfl rfl) (decide_eq_true hg1)) ?_
    refine WL.lv rfl (LV.mv rfl) ?_
    refine WL.lv rfl (LV.fieldA Tryz.underlying26 rfl ti24.sz rfl) ?_
    refine WL.lv rfl (LV.load1 Tryz.underlying24 rfl rfl (Blk.cellN (SH.at hS2 (.tail _ (.head _))) 1 rfl _ (KB.refl No _))) ?_
    refine WL.lv rfl (LV.fieldA Tryz.underlying26 rfl ti24.sz rfl) ?_
    refine WL.lv rfl (LV.load1 Tryz.underlying24 rfl rfl (Blk.cellN (SH.at hS2 (.head _)) 1 rfl _ (KB.refl No _))) ?_
    refine WL.lv rfl (LV.bandN rfl rfl) ?_
    refine WL.lv rfl (LV.eqI rfl rfl) ?_
    refine WL.lv rfl (LV.pickT rfl rfl) ?_
    refine WL.lv rfl (LV.asg rfl) ?_
    refine WL.nil (thenQ.n ?_)
    refine WC.ret (?_)
    exact ⟨_, fun a ha => res1 rfl ha rfl, congrArg Value.bool (decide_eq_decide.2 (by rw [hba_]; exact ⟨fun h_ => ⟨by omega, h_⟩, fun h_ => h_.2⟩)), hS2.kb⟩
  · refine WL.lv rfl (LV.as (LV.leI rfl rfl) (decide_eq_false hg1)) ?_
    refine WL.lv rfl (LV.mv rfl) ?_
    iterate 6 refine WL.off rfl ?_
    refine WL.lv rfl (LV.pickF rfl rfl) ?_
    refine WL.lv rfl (LV.asg rfl) ?_
    refine WL.nil (thenQ.n ?_)
    refine WC.ret (?_)
    exact ⟨_, fun a ha => res1 rfl ha rfl, congrArg Value.bool ((decide_eq_false (fun h_ => by have h1_ := hba_.1 h_; omega)).symm), hS2.kb⟩

theorem kind_calls {w : World} {c : Int}  :
    Calls Tryz.prog 61 #[(.int .u8 c)] w fun e w' => ∃ v, e = .returned v ∧ (fun v w' => v = .int .i64 (KD c) ∧ KB No w w') v w' := by
  have hk_ := kd_is c
  have hS : SH w No w [] := SH.nil _ _
  refine calls (l := litOf [(.int .u8 c)] 0) Tryz.func61 rfl (n := 30) rfl (Nat.le_of_ble_eq_true rfl) (lit_args _) ?_
  refine WC.seq ?_
  refine WC.region ?_
  refine WL.lv rfl (LV.asg rfl) ?_
  refine WL.nil (thenQ.n ?_)
  refine WC.seq ?_
  refine WC.block ?_
  refine WC.seq ?_
  refine WC.block ?_
  refine WC.seq ?_
  iterate 2 refine WC.block ?_
  iterate 3 refine WC.seq ?_
  refine WC.region ?_
  refine WL.lv rfl (LV.mv rfl) ?_
  rcases Decidable.em (c ≥ 48) with hg1 | hg1
  · refine WL.lv rfl (LV.as (LV.geI rfl rfl) (decide_eq_true hg1)) ?_
    iterate 2 refine WL.lv rfl (LV.mv rfl) ?_
    refine WL.lv rfl (LV.leI rfl rfl) ?_
    refine WL.lv rfl (LV.pickT rfl rfl) ?_
    refine WL.lv rfl (LV.asg rfl) ?_
    refine WL.nil (thenQ.n ?_)
    refine WC.condP (p := c ≤ 57) rfl (fun hc1 => ?_) (fun hc1 => ?_)
    · skip
      refine WC.exit (thenQ.x <| thenQ.x <| blockQ.hit <| blockQ.n <| thenQ.n ?_)
      iterate 2 refine WC.seq ?_
      refine WC.region ?_
      refine WL.lv rfl (LV.asg rfl) ?_
      refine WL.nil (thenQ.n ?_)
      refine WC.ret (thenQ.r <| blockQ.r <| thenQ.r <| blockQ.r <| thenQ.r <| ?_)
      exact ⟨_, fun a ha => res1 rfl ha rfl, congrArg (Value.int .i64) (by omega), hS.kb⟩
    · skip
      refine WC.skip (thenQ.n ?_)
      iterate 3 refine WC.seq ?_
      refine WC.region ?_
      refine WL.lv rfl (LV.mv rfl) ?_
      rcases Decidable.em (c ≥ 65) with hg2 | hg2
      · refine WL.lv rfl (LV.as (LV.geI rfl rfl) (decide_eq_true hg2)) ?_
        iterate 2 refine WL.lv rfl (LV.mv rfl) ?_
        refine WL.lv rfl (LV.leI rfl rfl) ?_
        refine WL.lv rfl (LV.pickT rfl rfl) ?_
        refine WL.lv rfl (LV.asg rfl) ?_
        refine WL.nil (thenQ.n ?_)
        refine WC.condP (p := c ≤ 90) rfl (fun hc2 => ?_) (fun hc2 => ?_)
        · skip
          refine WC.skip (thenQ.n ?_)
          refine WC.condP (p := c ≤ 90) rfl (fun hc3 => ?_) (fun hc3 => ?_)
          · refine WC.exit (thenQ.x <| thenQ.x <| blockQ.miss rfl <| blockQ.hit <| thenQ.n ?_)
            iterate 2 refine WC.seq ?_
            refine WC.region ?_
            refine WL.lv rfl (LV.asg rfl) ?_
            refine WL.nil (thenQ.n ?_)
            refine WC.ret (thenQ.r <| blockQ.r <| thenQ.r <| blockQ.r <| thenQ.r <| ?_)
            exact ⟨_, fun a ha => res1 rfl ha rfl, congrArg (Value.int .i64) (by omega), hS.kb⟩
          · exact absurd hc2 hc3
        · skip
          refine WC.seq ?_
          refine WC.region ?_
          refine WL.lv rfl (LV.mv rfl) ?_
          rcases Decidable.em (c ≥ 97) with hg3 | hg3
          · refine WL.lv rfl (LV.as (LV.geI rfl rfl) (decide_eq_true hg3)) ?_
            iterate 2 refine WL.lv rfl (LV.mv rfl) ?_
            refine WL.lv rfl (LV.leI rfl rfl) ?_
            refine WL.lv rfl (LV.pickT rfl rfl) ?_
            refine WL.lv rfl (LV.asg rfl) ?_
            refine WL.nil (thenQ.n ?_)
            refine WC.condP (p := c ≤ 122) rfl (fun hc4 => ?_) (fun hc4 => ?_)
            · skip
              refine WC.skip (thenQ.n ?_)
              refine WC.condP (p := c ≤ 122) rfl (fun hc5 => ?_) (fun hc5 => ?_)
              · refine WC.exit (thenQ.x <| thenQ.x <| blockQ.miss rfl <| blockQ.hit <| thenQ.n ?_)
                iterate 2 refine WC.seq ?_
                refine WC.region ?_
                refine WL.lv rfl (LV.asg rfl) ?_
                refine WL.nil (thenQ.n ?_)
                refine WC.ret (thenQ.r <| blockQ.r <| thenQ.r <| blockQ.r <| thenQ.r <| ?_)
                exact ⟨_, fun a ha => res1 rfl ha rfl, congrArg (Value.int .i64) (by omega), hS.kb⟩
              · exact absurd hc4 hc5
            · skip
              refine WC.region ?_
              refine WL.lv rfl (LV.mv rfl) ?_
              refine WL.lv rfl (LV.eqI rfl rfl) ?_
              refine WL.lv rfl (LV.asg rfl) ?_
              refine WL.nil (thenQ.n ?_)
              refine WC.condP (p := c = 95) rfl (fun hc6 => ?_) (fun hc6 => ?_)
              · skip
                refine WC.exit (thenQ.x <| thenQ.x <| blockQ.miss rfl <| blockQ.hit <| thenQ.n ?_)
                iterate 2 refine WC.seq ?_
                refine WC.region ?_
                refine WL.lv rfl (LV.asg rfl) ?_
                refine WL.nil (thenQ.n ?_)
                refine WC.ret (thenQ.r <| blockQ.r <| thenQ.r <| blockQ.r <| thenQ.r <| ?_)
                exact ⟨_, fun a ha => res1 rfl ha rfl, congrArg (Value.int .i64) (by omega), hS.kb⟩
              · skip
                refine WC.skip (thenQ.n ?_)
                iterate 2 refine WC.seq ?_
                refine WC.region ?_
                refine WL.lv rfl (LV.mv rfl) ?_
                refine WL.lv rfl (LV.eqI rfl rfl) ?_
                refine WL.lv rfl (LV.asg rfl) ?_
                refine WL.nil (thenQ.n ?_)
                refine WC.condP (p := c = 32) rfl (fun hc7 => ?_) (fun hc7 => ?_)
                · skip
                  refine WC.skip (thenQ.n ?_)
                  refine WC.condP (p := c = 32) rfl (fun hc8 => ?_) (fun hc8 => ?_)
                  · refine WC.exit (thenQ.x <| blockQ.miss rfl <| blockQ.miss rfl <| thenQ.x <| blockQ.hit <| thenQ.n ?_)
                    iterate 2 refine WC.seq ?_
                    refine WC.region ?_
                    refine WL.lv rfl (LV.asg rfl) ?_
                    refine WL.nil (thenQ.n ?_)
                    refine WC.ret (thenQ.r <| blockQ.r <| thenQ.r <| ?_)
                    exact ⟨_, fun a ha => res1 rfl ha rfl, congrArg (Value.int .i64) (by omega), hS.kb⟩
                  · exact absurd hc7 hc8
                · skip
                  refine WC.region ?_
                  refine WL.lv rfl (LV.mv rfl) ?_
                  refine WL.lv rfl (LV.eqI rfl rfl) ?_
                  refine WL.lv rfl (LV.asg rfl) ?_
                  refine WL.nil (thenQ.n ?_)
                  refine WC.condP (p := c = 9) rfl (fun hc9 => ?_) (fun hc9 => ?_)
                  · skip
                    refine WC.exit (thenQ.x <| blockQ.miss rfl <| blockQ.miss rfl <| thenQ.x <| blockQ.hit <| thenQ.n ?_)
                    iterate 2 refine WC.seq ?_
                    refine WC.region ?_
                    refine WL.lv rfl (LV.asg rfl) ?_
                    refine WL.nil (thenQ.n ?_)
                    refine WC.ret (thenQ.r <| blockQ.r <| thenQ.r <| ?_)
                    exact ⟨_, fun a ha => res1 rfl ha rfl, congrArg (Value.int .i64) (by omega), hS.kb⟩
                  · skip
                    refine WC.skip (thenQ.n ?_)
                    refine WC.exit (blockQ.miss rfl <| blockQ.miss rfl <| thenQ.x <| blockQ.miss rfl <| thenQ.x <| blockQ.hit <| thenQ.n ?_)
                    refine WC.seq ?_
                    refine WC.region ?_
                    refine WL.lv rfl (LV.asg rfl) ?_
                    refine WL.nil (thenQ.n ?_)
                    refine WC.ret (?_)
                    exact ⟨_, fun a ha => res1 rfl ha rfl, congrArg (Value.int .i64) (by omega), hS.kb⟩
          · refine WL.lv rfl (LV.as (LV.geI rfl rfl) (decide_eq_false hg3)) ?_
            refine WL.lv rfl (LV.mv rfl) ?_
            iterate 2 refine WL.off rfl ?_
            refine WL.lv rfl (LV.pickF rfl rfl) ?_
            refine WL.lv rfl (LV.asg rfl) ?_
            refine WL.nil (thenQ.n ?_)
            refine WC.condF rfl ?_
            refine WC.region ?_
            refine WL.lv rfl (LV.mv rfl) ?_
            refine WL.lv rfl (LV.eqI rfl rfl) ?_
            refine WL.lv rfl (LV.asg rfl) ?_
            refine WL.nil (thenQ.n ?_)
            refine WC.condP (p := c = 95) rfl (fun hc10 => ?_) (fun hc10 => ?_)
            · skip
              refine WC.exit (thenQ.x <| thenQ.x <| blockQ.miss rfl <| blockQ.hit <| thenQ.n ?_)
              iterate 2 refine WC.seq ?_
              refine WC.region ?_
              refine WL.lv rfl (LV.asg rfl) ?_
              refine WL.nil (thenQ.n ?_)
              refine WC.ret (thenQ.r <| blockQ.r <| thenQ.r <| blockQ.r <| thenQ.r <| ?_)
              exact ⟨_, fun a ha => res1 rfl ha rfl, congrArg (Value.int .i64) (by omega), hS.kb⟩
            · skip
              refine WC.skip (thenQ.n ?_)
              iterate 2 refine WC.seq ?_
              refine WC.region ?_
              refine WL.lv rfl (LV.mv rfl) ?_
              refine WL.lv rfl (LV.eqI rfl rfl) ?_
              refine WL.lv rfl (LV.asg rfl) ?_
              refine WL.nil (thenQ.n ?_)
              refine WC.condP (p := c = 32) rfl (fun hc11 => ?_) (fun hc11 => ?_)
              · skip
                refine WC.skip (thenQ.n ?_)
                refine WC.condP (p := c = 32) rfl (fun hc12 => ?_) (fun hc12 => ?_)
                · refine WC.exit (thenQ.x <| blockQ.miss rfl <| blockQ.miss rfl <| thenQ.x <| blockQ.hit <| thenQ.n ?_)
                  iterate 2 refine WC.seq ?_
                  refine WC.region ?_
                  refine WL.lv rfl (LV.asg rfl) ?_
                  refine WL.nil (thenQ.n ?_)
                  refine WC.ret (thenQ.r <| blockQ.r <| thenQ.r <| ?_)
                  exact ⟨_, fun a ha => res1 rfl ha rfl, congrArg (Value.int .i64) (by omega), hS.kb⟩
                · exact absurd hc11 hc12
              · skip
                refine WC.region ?_
                refine WL.lv rfl (LV.mv rfl) ?_
                refine WL.lv rfl (LV.eqI rfl rfl) ?_
                refine WL.lv rfl (LV.asg rfl) ?_
                refine WL.nil (thenQ.n ?_)
                refine WC.condP (p := c = 9) rfl (fun hc13 => ?_) (fun hc13 => ?_)
                · skip
                  refine WC.exit (thenQ.x <| blockQ.miss rfl <| blockQ.miss rfl <| thenQ.x <| blockQ.hit <| thenQ.n ?_)
                  iterate 2 refine WC.seq ?_
                  refine WC.region ?_
                  refine WL.lv rfl (LV.asg rfl) ?_
                  refine WL.nil (thenQ.n ?_)
                  refine WC.ret (thenQ.r <| blockQ.r <| thenQ.r <| ?_)
                  exact ⟨_, fun a ha => res1 rfl ha rfl, congrArg (Value.int .i64) (by omega), hS.kb⟩
                · skip
                  refine WC.skip (thenQ.n ?_)
                  refine WC.exit (blockQ.miss rfl <| blockQ.miss rfl <| thenQ.x <| blockQ.miss rfl <| thenQ.x <| blockQ.hit <| thenQ.n ?_)
                  refine WC.seq ?_
                  refine WC.region ?_
                  refine WL.lv rfl (LV.asg rfl) ?_
                  refine WL.nil (thenQ.n ?_)
                  refine WC.ret (?_)
                  exact ⟨_, fun a ha => res1 rfl ha rfl, congrArg (Value.int .i64) (by omega), hS.kb⟩
      · refine WL.lv rfl (LV.as (LV.geI rfl rfl) (decide_eq_false hg2)) ?_
        refine WL.lv rfl (LV.mv rfl) ?_
        iterate 2 refine WL.off rfl ?_
        refine WL.lv rfl (LV.pickF rfl rfl) ?_
        refine WL.lv rfl (LV.asg rfl) ?_
        refine WL.nil (thenQ.n ?_)
        refine WC.condF rfl ?_
        refine WC.seq ?_
        refine WC.region ?_
        refine WL.lv rfl (LV.mv rfl) ?_
        rcases Decidable.em (c ≥ 97) with hg4 | hg4
        · refine WL.lv rfl (LV.as (LV.geI rfl rfl) (decide_eq_true hg4)) ?_
          iterate 2 refine WL.lv rfl (LV.mv rfl) ?_
          refine WL.lv rfl (LV.leI rfl rfl) ?_
          refine WL.lv rfl (LV.pickT rfl rfl) ?_
          refine WL.lv rfl (LV.asg rfl) ?_
          refine WL.nil (thenQ.n ?_)
          refine WC.condP (p := c ≤ 122) rfl (fun hc14 => ?_) (fun hc14 => ?_)
          · skip
            refine WC.skip (thenQ.n ?_)
            refine WC.condP (p := c ≤ 122) rfl (fun hc15 => ?_) (fun hc15 => ?_)
            · refine WC.exit (thenQ.x <| thenQ.x <| blockQ.miss rfl <| blockQ.hit <| thenQ.n ?_)
              iterate 2 refine WC.seq ?_
              refine WC.region ?_
              refine WL.lv rfl (LV.asg rfl) ?_
              refine WL.nil (thenQ.n ?_)
              refine WC.ret (thenQ.r <| blockQ.r <| thenQ.r <| blockQ.r <| thenQ.r <| ?_)
              exact ⟨_, fun a ha => res1 rfl ha rfl, congrArg (Value.int .i64) (by omega), hS.kb⟩
            · exact absurd hc14 hc15
          · skip
            refine WC.region ?_
            refine WL.lv rfl (LV.mv rfl) ?_
            refine WL.lv rfl (LV.eqI rfl rfl) ?_
            refine WL.lv rfl (LV.asg rfl) ?_
            refine WL.nil (thenQ.n ?_)
            refine WC.condP (p := c = 95) rfl (fun hc16 => ?_) (fun hc16 => ?_)
            · skip
              refine WC.exit (thenQ.x <| thenQ.x <| blockQ.miss rfl <| blockQ.hit <| thenQ.n ?_)
              iterate 2 refine WC.seq ?_
              refine WC.region ?_
              refine WL.lv rfl (LV.asg rfl) ?_
              refine WL.nil (thenQ.n ?_)
              refine WC.ret (thenQ.r <| blockQ.r <| thenQ.r <| blockQ.r <| thenQ.r <| ?_)
              exact ⟨_, fun a ha => res1 rfl ha rfl, congrArg (Value.int .i64) (by omega), hS.kb⟩
            · skip
              refine WC.skip (thenQ.n ?_)
              iterate 2 refine WC.seq ?_
              refine WC.region ?_
              refine WL.lv rfl (LV.mv rfl) ?_
              refine WL.lv rfl (LV.eqI rfl rfl) ?_
              refine WL.lv rfl (LV.asg rfl) ?_
              refine WL.nil (thenQ.n ?_)
              refine WC.condP (p := c = 32) rfl (fun hc17 => ?_) (fun hc17 => ?_)
              · skip
                refine WC.skip (thenQ.n ?_)
                refine WC.condP (p := c = 32) rfl (fun hc18 => ?_) (fun hc18 => ?_)
                · refine WC.exit (thenQ.x <| blockQ.miss rfl <| blockQ.miss rfl <| thenQ.x <| blockQ.hit <| thenQ.n ?_)
                  iterate 2 refine WC.seq ?_
                  refine WC.region ?_
                  refine WL.lv rfl (LV.asg rfl) ?_
                  refine WL.nil (thenQ.n ?_)
                  refine WC.ret (thenQ.r <| blockQ.r <| thenQ.r <| ?_)
                  exact ⟨_, fun a ha => res1 rfl ha rfl, congrArg (Value.int .i64) (by omega), hS.kb⟩
                · exact absurd hc17 hc18
              · skip
                refine WC.region ?_
                refine WL.lv rfl (LV.mv rfl) ?_
                refine WL.lv rfl (LV.eqI rfl rfl) ?_
                refine WL.lv rfl (LV.asg rfl) ?_
                refine WL.nil (thenQ.n ?_)
                refine WC.condP (p := c = 9) rfl (fun hc19 => ?_) (fun hc19 => ?_)
                · skip
                  refine WC.exit (thenQ.x <| blockQ.miss rfl <| blockQ.miss rfl <| thenQ.x <| blockQ.hit <| thenQ.n ?_)
                  iterate 2 refine WC.seq ?_
                  refine WC.region ?_
                  refine WL.lv rfl (LV.asg rfl) ?_
                  refine WL.nil (thenQ.n ?_)
                  refine WC.ret (thenQ.r <| blockQ.r <| thenQ.r <| ?_)
                  exact ⟨_, fun a ha => res1 rfl ha rfl, congrArg (Value.int .i64) (by omega), hS.kb⟩
                · skip
                  refine WC.skip (thenQ.n ?_)
                  refine WC.exit (blockQ.miss rfl <| blockQ.miss rfl <| thenQ.x <| blockQ.miss rfl <| thenQ.x <| blockQ.hit <| thenQ.n ?_)
                  refine WC.seq ?_
                  refine WC.region ?_
                  refine WL.lv rfl (LV.asg rfl) ?_
                  refine WL.nil (thenQ.n ?_)
                  refine WC.ret (?_)
                  exact ⟨_, fun a ha => res1 rfl ha rfl, congrArg (Value.int .i64) (by omega), hS.kb⟩
        · refine WL.lv rfl (LV.as (LV.geI rfl rfl) (decide_eq_false hg4)) ?_
          refine WL.lv rfl (LV.mv rfl) ?_
          iterate 2 refine WL.off rfl ?_
          refine WL.lv rfl (LV.pickF rfl rfl) ?_
          refine WL.lv rfl (LV.asg rfl) ?_
          refine WL.nil (thenQ.n ?_)
          refine WC.condF rfl ?_
          refine WC.region ?_
          refine WL.lv rfl (LV.mv rfl) ?_
          refine WL.lv rfl (LV.eqI rfl rfl) ?_
          refine WL.lv rfl (LV.asg rfl) ?_
          refine WL.nil (thenQ.n ?_)
          refine WC.condP (p := c = 95) rfl (fun hc20 => ?_) (fun hc20 => ?_)
          · skip
            refine WC.exit (thenQ.x <| thenQ.x <| blockQ.miss rfl <| blockQ.hit <| thenQ.n ?_)
            iterate 2 refine WC.seq ?_
            refine WC.region ?_
            refine WL.lv rfl (LV.asg rfl) ?_
            refine WL.nil (thenQ.n ?_)
            refine WC.ret (thenQ.r <| blockQ.r <| thenQ.r <| blockQ.r <| thenQ.r <| ?_)
            exact ⟨_, fun a ha => res1 rfl ha rfl, congrArg (Value.int .i64) (by omega), hS.kb⟩
          · skip
            refine WC.skip (thenQ.n ?_)
            iterate 2 refine WC.seq ?_
            refine WC.region ?_
            refine WL.lv rfl (LV.mv rfl) ?_
            refine WL.lv rfl (LV.eqI rfl rfl) ?_
            refine WL.lv rfl (LV.asg rfl) ?_
            refine WL.nil (thenQ.n ?_)
            refine WC.condP (p := c = 32) rfl (fun hc21 => ?_) (fun hc21 => ?_)
            · skip
              refine WC.skip (thenQ.n ?_)
              refine WC.condP (p := c = 32) rfl (fun hc22 => ?_) (fun hc22 => ?_)
              · refine WC.exit (thenQ.x <| blockQ.miss rfl <| blockQ.miss rfl <| thenQ.x <| blockQ.hit <| thenQ.n ?_)
                iterate 2 refine WC.seq ?_
                refine WC.region ?_
                refine WL.lv rfl (LV.asg rfl) ?_
                refine WL.nil (thenQ.n ?_)
                refine WC.ret (thenQ.r <| blockQ.r <| thenQ.r <| ?_)
                exact ⟨_, fun a ha => res1 rfl ha rfl, congrArg (Value.int .i64) (by omega), hS.kb⟩
              · exact absurd hc21 hc22
            · skip
              refine WC.region ?_
              refine WL.lv rfl (LV.mv rfl) ?_
              refine WL.lv rfl (LV.eqI rfl rfl) ?_
              refine WL.lv rfl (LV.asg rfl) ?_
              refine WL.nil (thenQ.n ?_)
              refine WC.condP (p := c = 9) rfl (fun hc23 => ?_) (fun hc23 => ?_)
              · skip
                refine WC.exit (thenQ.x <| blockQ.miss rfl <| blockQ.miss rfl <| thenQ.x <| blockQ.hit <| thenQ.n ?_)
                iterate 2 refine WC.seq ?_
                refine WC.region ?_
                refine WL.lv rfl (LV.asg rfl) ?_
                refine WL.nil (thenQ.n ?_)
                refine WC.ret (thenQ.r <| blockQ.r <| thenQ.r <| ?_)
                exact ⟨_, fun a ha => res1 rfl ha rfl, congrArg (Value.int .i64) (by omega), hS.kb⟩
              · skip
                refine WC.skip (thenQ.n ?_)
                refine WC.exit (blockQ.miss rfl <| blockQ.miss rfl <| thenQ.x <| blockQ.miss rfl <| thenQ.x <| blockQ.hit <| thenQ.n ?_)
                refine WC.seq ?_
                refine WC.region ?_
                refine WL.lv rfl (LV.asg rfl) ?_
                refine WL.nil (thenQ.n ?_)
                refine WC.ret (?_)
                exact ⟨_, fun a ha => res1 rfl ha rfl, congrArg (Value.int .i64) (by omega), hS.kb⟩
  · refine WL.lv rfl (LV.as (LV.geI rfl rfl) (decide_eq_false hg1)) ?_
    refine WL.lv rfl (LV.mv rfl) ?_
    iterate 2 refine WL.off rfl ?_
    refine WL.lv rfl (LV.pickF rfl rfl) ?_
    refine WL.lv rfl (LV.asg rfl) ?_
    refine WL.nil (thenQ.n ?_)
    refine WC.condF rfl ?_
    refine WC.skip (thenQ.n ?_)
    iterate 3 refine WC.seq ?_
    refine WC.region ?_
    refine WL.lv rfl (LV.mv rfl) ?_
    rcases Decidable.em (c ≥ 65) with hg5 | hg5
    · refine WL.lv rfl (LV.as (LV.geI rfl rfl) (decide_eq_true hg5)) ?_
      iterate 2 refine WL.lv rfl (LV.mv rfl) ?_
      refine WL.lv rfl (LV.leI rfl rfl) ?_
      refine WL.lv rfl (LV.pickT rfl rfl) ?_
      refine WL.lv rfl (LV.asg rfl) ?_
      refine WL.nil (thenQ.n ?_)
      refine WC.condP (p := c ≤ 90) rfl (fun hc24 => ?_) (fun hc24 => ?_)
      · skip
        refine WC.skip (thenQ.n ?_)
        refine WC.condP (p := c ≤ 90) rfl (fun hc25 => ?_) (fun hc25 => ?_)
        · refine WC.exit (thenQ.x <| thenQ.x <| blockQ.miss rfl <| blockQ.hit <| thenQ.n ?_)
          iterate 2 refine WC.seq ?_
          refine WC.region ?_
          refine WL.lv rfl (LV.asg rfl) ?_
          refine WL.nil (thenQ.n ?_)
          refine WC.ret (thenQ.r <| blockQ.r <| thenQ.r <| blockQ.r <| thenQ.r <| ?_)
          exact ⟨_, fun a ha => res1 rfl ha rfl, congrArg (Value.int .i64) (by omega), hS.kb⟩
        · exact absurd hc24 hc25
      · skip
        refine WC.seq ?_
        refine WC.region ?_
        refine WL.lv rfl (LV.mv rfl) ?_
        rcases Decidable.em (c ≥ 97) with hg6 | hg6
        · refine WL.lv rfl (LV.as (LV.geI rfl rfl) (decide_eq_true hg6)) ?_
          iterate 2 refine WL.lv rfl (LV.mv rfl) ?_
          refine WL.lv rfl (LV.leI rfl rfl) ?_
          refine WL.lv rfl (LV.pickT rfl rfl) ?_
          refine WL.lv rfl (LV.asg rfl) ?_
          refine WL.nil (thenQ.n ?_)
          refine WC.condP (p := c ≤ 122) rfl (fun hc26 => ?_) (fun hc26 => ?_)
          · skip
            refine WC.skip (thenQ.n ?_)
            refine WC.condP (p := c ≤ 122) rfl (fun hc27 => ?_) (fun hc27 => ?_)
            · refine WC.exit (thenQ.x <| thenQ.x <| blockQ.miss rfl <| blockQ.hit <| thenQ.n ?_)
              iterate 2 refine WC.seq ?_
              refine WC.region ?_
              refine WL.lv rfl (LV.asg rfl) ?_
              refine WL.nil (thenQ.n ?_)
              refine WC.ret (thenQ.r <| blockQ.r <| thenQ.r <| blockQ.r <| thenQ.r <| ?_)
              exact ⟨_, fun a ha => res1 rfl ha rfl, congrArg (Value.int .i64) (by omega), hS.kb⟩
            · exact absurd hc26 hc27
          · skip
            refine WC.region ?_
            refine WL.lv rfl (LV.mv rfl) ?_
            refine WL.lv rfl (LV.eqI rfl rfl) ?_
            refine WL.lv rfl (LV.asg rfl) ?_
            refine WL.nil (thenQ.n ?_)
            refine WC.condP (p := c = 95) rfl (fun hc28 => ?_) (fun hc28 => ?_)
            · skip
              refine WC.exit (thenQ.x <| thenQ.x <| blockQ.miss rfl <| blockQ.hit <| thenQ.n ?_)
              iterate 2 refine WC.seq ?_
              refine WC.region ?_
              refine WL.lv rfl (LV.asg rfl) ?_
              refine WL.nil (thenQ.n ?_)
              refine WC.ret (thenQ.r <| blockQ.r <| thenQ.r <| blockQ.r <| thenQ.r <| ?_)
              exact ⟨_, fun a ha => res1 rfl ha rfl, congrArg (Value.int .i64) (by omega), hS.kb⟩
            · skip
              refine WC.skip (thenQ.n ?_)
              iterate 2 refine WC.seq ?_
              refine WC.region ?_
              refine WL.lv rfl (LV.mv rfl) ?_
              refine WL.lv rfl (LV.eqI rfl rfl) ?_
              refine WL.lv rfl (LV.asg rfl) ?_
              refine WL.nil (thenQ.n ?_)
              refine WC.condP (p := c = 32) rfl (fun hc29 => ?_) (fun hc29 => ?_)
              · skip
                refine WC.skip (thenQ.n ?_)
                refine WC.condP (p := c = 32) rfl (fun hc30 => ?_) (fun hc30 => ?_)
                · refine WC.exit (thenQ.x <| blockQ.miss rfl <| blockQ.miss rfl <| thenQ.x <| blockQ.hit <| thenQ.n ?_)
                  iterate 2 refine WC.seq ?_
                  refine WC.region ?_
                  refine WL.lv rfl (LV.asg rfl) ?_
                  refine WL.nil (thenQ.n ?_)
                  refine WC.ret (thenQ.r <| blockQ.r <| thenQ.r <| ?_)
                  exact ⟨_, fun a ha => res1 rfl ha rfl, congrArg (Value.int .i64) (by omega), hS.kb⟩
                · exact absurd hc29 hc30
              · skip
                refine WC.region ?_
                refine WL.lv rfl (LV.mv rfl) ?_
                refine WL.lv rfl (LV.eqI rfl rfl) ?_
                refine WL.lv rfl (LV.asg rfl) ?_
                refine WL.nil (thenQ.n ?_)
                refine WC.condP (p := c = 9) rfl (fun hc31 => ?_) (fun hc31 => ?_)
                · skip
                  refine WC.exit (thenQ.x <| blockQ.miss rfl <| blockQ.miss rfl <| thenQ.x <| blockQ.hit <| thenQ.n ?_)
                  iterate 2 refine WC.seq ?_
                  refine WC.region ?_
                  refine WL.lv rfl (LV.asg rfl) ?_
                  refine WL.nil (thenQ.n ?_)
                  refine WC.ret (thenQ.r <| blockQ.r <| thenQ.r <| ?_)
                  exact ⟨_, fun a ha => res1 rfl ha rfl, congrArg (Value.int .i64) (by omega), hS.kb⟩
                · skip
                  refine WC.skip (thenQ.n ?_)
                  refine WC.exit (blockQ.miss rfl <| blockQ.miss rfl <| thenQ.x <| blockQ.miss rfl <| thenQ.x <| blockQ.hit <| thenQ.n ?_)
                  refine WC.seq ?_
                  refine WC.region ?_
                  refine WL.lv rfl (LV.asg rfl) ?_
                  refine WL.nil (thenQ.n ?_)
                  refine WC.ret (?_)
                  exact ⟨_, fun a ha => res1 rfl ha rfl, congrArg (Value.int .i64) (by omega), hS.kb⟩
        · refine WL.lv rfl (LV.as (LV.geI rfl rfl) (decide_eq_false hg6)) ?_
          refine WL.lv rfl (LV.mv rfl) ?_
          iterate 2 refine WL.off rfl ?_
          refine WL.lv rfl (LV.pickF rfl rfl) ?_
          refine WL.lv rfl (LV.asg rfl) ?_
          refine WL.nil (thenQ.n ?_)
          refine WC.condF rfl ?_
          refine WC.region ?_
          refine WL.lv rfl (LV.mv rfl) ?_
          refine WL.lv rfl (LV.eqI rfl rfl) ?_
          refine WL.lv rfl (LV.asg rfl) ?_
          refine WL.nil (thenQ.n ?_)
          refine WC.condP (p := c = 95) rfl (fun hc32 => ?_) (fun hc32 => ?_)
          · skip
            refine WC.exit (thenQ.x <| thenQ.x <| blockQ.miss rfl <| blockQ.hit <| thenQ.n ?_)
            iterate 2 refine WC.seq ?_
            refine WC.region ?_
            refine WL.lv rfl (LV.asg rfl) ?_
            refine WL.nil (thenQ.n ?_)
            refine WC.ret (thenQ.r <| blockQ.r <| thenQ.r <| blockQ.r <| thenQ.r <| ?_)
            exact ⟨_, fun a ha => res1 rfl ha rfl, congrArg (Value.int .i64) (by omega), hS.kb⟩
          · skip
            refine WC.skip (thenQ.n ?_)
            iterate 2 refine WC.seq ?_
            refine WC.region ?_
            refine WL.lv rfl (LV.mv rfl) ?_
            refine WL.lv rfl (LV.eqI rfl rfl) ?_
            refine WL.lv rfl (LV.asg rfl) ?_
            refine WL.nil (thenQ.n ?_)
            refine WC.condP (p := c = 32) rfl (fun hc33 => ?_) (fun hc33 => ?_)
            · skip
              refine WC.skip (thenQ.n ?_)
              refine WC.condP (p := c = 32) rfl (fun hc34 => ?_) (fun hc34 => ?_)
              · refine WC.exit (thenQ.x <| blockQ.miss rfl <| blockQ.miss rfl <| thenQ.x <| blockQ.hit <| thenQ.n ?_)
                iterate 2 refine WC.seq ?_
                refine WC.region ?_
                refine WL.lv rfl (LV.asg rfl) ?_
                refine WL.nil (thenQ.n ?_)
                refine WC.ret (thenQ.r <| blockQ.r <| thenQ.r <| ?_)
                exact ⟨_, fun a ha => res1 rfl ha rfl, congrArg (Value.int .i64) (by omega), hS.kb⟩
              · exact absurd hc33 hc34
            · skip
              refine WC.region ?_
              refine WL.lv rfl (LV.mv rfl) ?_
              refine WL.lv rfl (LV.eqI rfl rfl) ?_
              refine WL.lv rfl (LV.asg rfl) ?_
              refine WL.nil (thenQ.n ?_)
              refine WC.condP (p := c = 9) rfl (fun hc35 => ?_) (fun hc35 => ?_)
              · skip
                refine WC.exit (thenQ.x <| blockQ.miss rfl <| blockQ.miss rfl <| thenQ.x <| blockQ.hit <| thenQ.n ?_)
                iterate 2 refine WC.seq ?_
                refine WC.region ?_
                refine WL.lv rfl (LV.asg rfl) ?_
                refine WL.nil (thenQ.n ?_)
                refine WC.ret (thenQ.r <| blockQ.r <| thenQ.r <| ?_)
                exact ⟨_, fun a ha => res1 rfl ha rfl, congrArg (Value.int .i64) (by omega), hS.kb⟩
              · skip
                refine WC.skip (thenQ.n ?_)
                refine WC.exit (blockQ.miss rfl <| blockQ.miss rfl <| thenQ.x <| blockQ.miss rfl <| thenQ.x <| blockQ.hit <| thenQ.n ?_)
                refine WC.seq ?_
                refine WC.region ?_
                refine WL.lv rfl (LV.asg rfl) ?_
                refine WL.nil (thenQ.n ?_)
                refine WC.ret (?_)
                exact ⟨_, fun a ha => res1 rfl ha rfl, congrArg (Value.int .i64) (by omega), hS.kb⟩
    · refine WL.lv rfl (LV.as (LV.geI rfl rfl) (decide_eq_false hg5)) ?_
      refine WL.lv rfl (LV.mv rfl) ?_
      iterate 2 refine WL.off rfl ?_
      refine WL.lv rfl (LV.pickF rfl rfl) ?_
      refine WL.lv rfl (LV.asg rfl) ?_
      refine WL.nil (thenQ.n ?_)
      refine WC.condF rfl ?_
      refine WC.seq ?_
      refine WC.region ?_
      refine WL.lv rfl (LV.mv rfl) ?_
      rcases Decidable.em (c ≥ 97) with hg7 | hg7
      · refine WL.lv rfl (LV.as (LV.geI rfl rfl) (decide_eq_true hg7)) ?_
        iterate 2 refine WL.lv rfl (LV.mv rfl) ?_
        refine WL.lv rfl (LV.leI rfl rfl) ?_
        refine WL.lv rfl (LV.pickT rfl rfl) ?_
        refine WL.lv rfl (LV.asg rfl) ?_
        refine WL.nil (thenQ.n ?_)
        refine WC.condP (p := c ≤ 122) rfl (fun hc36 => ?_) (fun hc36 => ?_)
        · skip
          refine WC.skip (thenQ.n ?_)
          refine WC.condP (p := c ≤ 122) rfl (fun hc37 => ?_) (fun hc37 => ?_)
          · refine WC.exit (thenQ.x <| thenQ.x <| blockQ.miss rfl <| blockQ.hit <| thenQ.n ?_)
            iterate 2 refine WC.seq ?_
            refine WC.region ?_
            refine WL.lv rfl (LV.asg rfl) ?_
            refine WL.nil (thenQ.n ?_)
            refine WC.ret (thenQ.r <| blockQ.r <| thenQ.r <| blockQ.r <| thenQ.r <| ?_)
            exact ⟨_, fun a ha => res1 rfl ha rfl, congrArg (Value.int .i64) (by omega), hS.kb⟩
          · exact absurd hc36 hc37
        · skip
          refine WC.region ?_
          refine WL.lv rfl (LV.mv rfl) ?_
          refine WL.lv rfl (LV.eqI rfl rfl) ?_
          refine WL.lv rfl (LV.asg rfl) ?_
          refine WL.nil (thenQ.n ?_)
          refine WC.condP (p := c = 95) rfl (fun hc38 => ?_) (fun hc38 => ?_)
          · skip
            refine WC.exit (thenQ.x <| thenQ.x <| blockQ.miss rfl <| blockQ.hit <| thenQ.n ?_)
            iterate 2 refine WC.seq ?_
            refine WC.region ?_
            refine WL.lv rfl (LV.asg rfl) ?_
            refine WL.nil (thenQ.n ?_)
            refine WC.ret (thenQ.r <| blockQ.r <| thenQ.r <| blockQ.r <| thenQ.r <| ?_)
            exact ⟨_, fun a ha => res1 rfl ha rfl, congrArg (Value.int .i64) (by omega), hS.kb⟩
          · skip
            refine WC.skip (thenQ.n ?_)
            iterate 2 refine WC.seq ?_
            refine WC.region ?_
            refine WL.lv rfl (LV.mv rfl) ?_
            refine WL.lv rfl (LV.eqI rfl rfl) ?_
            refine WL.lv rfl (LV.asg rfl) ?_
            refine WL.nil (thenQ.n ?_)
            refine WC.condP (p := c = 32) rfl (fun hc39 => ?_) (fun hc39 => ?_)
            · skip
              refine WC.skip (thenQ.n ?_)
              refine WC.condP (p := c = 32) rfl (fun hc40 => ?_) (fun hc40 => ?_)
              · refine WC.exit (thenQ.x <| blockQ.miss rfl <| blockQ.miss rfl <| thenQ.x <| blockQ.hit <| thenQ.n ?_)
                iterate 2 refine WC.seq ?_
                refine WC.region ?_
                refine WL.lv rfl (LV.asg rfl) ?_
                refine WL.nil (thenQ.n ?_)
                refine WC.ret (thenQ.r <| blockQ.r <| thenQ.r <| ?_)
                exact ⟨_, fun a ha => res1 rfl ha rfl, congrArg (Value.int .i64) (by omega), hS.kb⟩
              · exact absurd hc39 hc40
            · skip
              refine WC.region ?_
              refine WL.lv rfl (LV.mv rfl) ?_
              refine WL.lv rfl (LV.eqI rfl rfl) ?_
              refine WL.lv rfl (LV.asg rfl) ?_
              refine WL.nil (thenQ.n ?_)
              refine WC.condP (p := c = 9) rfl (fun hc41 => ?_) (fun hc41 => ?_)
              · skip
                refine WC.exit (thenQ.x <| blockQ.miss rfl <| blockQ.miss rfl <| thenQ.x <| blockQ.hit <| thenQ.n ?_)
                iterate 2 refine WC.seq ?_
                refine WC.region ?_
                refine WL.lv rfl (LV.asg rfl) ?_
                refine WL.nil (thenQ.n ?_)
                refine WC.ret (thenQ.r <| blockQ.r <| thenQ.r <| ?_)
                exact ⟨_, fun a ha => res1 rfl ha rfl, congrArg (Value.int .i64) (by omega), hS.kb⟩
              · skip
                refine WC.skip (thenQ.n ?_)
                refine WC.exit (blockQ.miss rfl <| blockQ.miss rfl <| thenQ.x <| blockQ.miss rfl <| thenQ.x <| blockQ.hit <| thenQ.n ?_)
                refine WC.seq ?_
                refine WC.region ?_
                refine WL.lv rfl (LV.asg rfl) ?_
                refine WL.nil (thenQ.n ?_)
                refine WC.ret (?_)
                exact ⟨_, fun a ha => res1 rfl ha rfl, congrArg (Value.int .i64) (by omega), hS.kb⟩
      · refine WL.lv rfl (LV.as (LV.geI rfl rfl) (decide_eq_false hg7)) ?_
        refine WL.lv rfl (LV.mv rfl) ?_
        iterate 2 refine WL.off rfl ?_
        refine WL.lv rfl (LV.pickF rfl rfl) ?_
        refine WL.lv rfl (LV.asg rfl) ?_
        refine WL.nil (thenQ.n ?_)
        refine WC.condF rfl ?_
        refine WC.region ?_
        refine WL.lv rfl (LV.mv rfl) ?_
        refine WL.lv rfl (LV.eqI rfl rfl) ?_
        refine WL.lv rfl (LV.asg rfl) ?_
        refine WL.nil (thenQ.n ?_)
        refine WC.condP (p := c = 95) rfl (fun hc42 => ?_) (fun hc42 => ?_)
        · skip
          refine WC.exit (thenQ.x <| thenQ.x <| blockQ.miss rfl <| blockQ.hit <| thenQ.n ?_)
          iterate 2 refine WC.seq ?_
          refine WC.region ?_
          refine WL.lv rfl (LV.asg rfl) ?_
          refine WL.nil (thenQ.n ?_)
          refine WC.ret (thenQ.r <| blockQ.r <| thenQ.r <| blockQ.r <| thenQ.r <| ?_)
          exact ⟨_, fun a ha => res1 rfl ha rfl, congrArg (Value.int .i64) (by omega), hS.kb⟩
        · skip
          refine WC.skip (thenQ.n ?_)
          iterate 2 refine WC.seq ?_
          refine WC.region ?_
          refine WL.lv rfl (LV.mv rfl) ?_
          refine WL.lv rfl (LV.eqI rfl rfl) ?_
          refine WL.lv rfl (LV.asg rfl) ?_
          refine WL.nil (thenQ.n ?_)
          refine WC.condP (p := c = 32) rfl (fun hc43 => ?_) (fun hc43 => ?_)
          · skip
            refine WC.skip (thenQ.n ?_)
            refine WC.condP (p := c = 32) rfl (fun hc44 => ?_) (fun hc44 => ?_)
            · refine WC.exit (thenQ.x <| blockQ.miss rfl <| blockQ.miss rfl <| thenQ.x <| blockQ.hit <| thenQ.n ?_)
              iterate 2 refine WC.seq ?_
              refine WC.region ?_
              refine WL.lv rfl (LV.asg rfl) ?_
              refine WL.nil (thenQ.n ?_)
              refine WC.ret (thenQ.r <| blockQ.r <| thenQ.r <| ?_)
              exact ⟨_, fun a ha => res1 rfl ha rfl, congrArg (Value.int .i64) (by omega), hS.kb⟩
            · exact absurd hc43 hc44
          · skip
            refine WC.region ?_
            refine WL.lv rfl (LV.mv rfl) ?_
            refine WL.lv rfl (LV.eqI rfl rfl) ?_
            refine WL.lv rfl (LV.asg rfl) ?_
            refine WL.nil (thenQ.n ?_)
            refine WC.condP (p := c = 9) rfl (fun hc45 => ?_) (fun hc45 => ?_)
            · skip
              refine WC.exit (thenQ.x <| blockQ.miss rfl <| blockQ.miss rfl <| thenQ.x <| blockQ.hit <| thenQ.n ?_)
              iterate 2 refine WC.seq ?_
              refine WC.region ?_
              refine WL.lv rfl (LV.asg rfl) ?_
              refine WL.nil (thenQ.n ?_)
              refine WC.ret (thenQ.r <| blockQ.r <| thenQ.r <| ?_)
              exact ⟨_, fun a ha => res1 rfl ha rfl, congrArg (Value.int .i64) (by omega), hS.kb⟩
            · skip
              refine WC.skip (thenQ.n ?_)
              refine WC.exit (blockQ.miss rfl <| blockQ.miss rfl <| thenQ.x <| blockQ.miss rfl <| thenQ.x <| blockQ.hit <| thenQ.n ?_)
              refine WC.seq ?_
              refine WC.region ?_
              refine WL.lv rfl (LV.asg rfl) ?_
              refine WL.nil (thenQ.n ?_)
              refine WC.ret (?_)
              exact ⟨_, fun a ha => res1 rfl ha rfl, congrArg (Value.int .i64) (by omega), hS.kb⟩

theorem tokens_calls {w : World} {s : ByteArray} (hs : s.size ≤ 1000000) :
    Calls Tryz.prog 39 #[(.string s)] w fun e w' => ∃ v, e = .returned v ∧ (fun v w' => ∃ (A0' : Option Addr) (c0' : Nat), v = .slice A0' (TOK s).length c0' ∧ SH w No w' [rowE eS 9 (.slice A0' (TOK s).length c0') (TOK s)]) v w' := by
  have hS : SH w No w [] := SH.nil _ _
  refine calls (l := litOf [(.string s)] 0) Tryz.func39 rfl (n := 47) rfl (Nat.le_of_ble_eq_true rfl) (lit_args _) ?_
  refine WC.seq ?_
  refine WC.region ?_
  refine WL.lv rfl (LV.asg rfl) ?_
  refine WL.nil (thenQ.n ?_)
  refine WC.seq ?_
  refine WC.region ?_
  have hS1 := SH.nilRow (E := eS) (T := 9) hS
  refine WL.lv rfl (LV.asg rfl) ?_
  refine WL.nil (thenQ.n ?_)
  refine WC.seq ?_
  refine WC.region ?_
  refine WL.lv rfl (LV.asg rfl) ?_
  refine WL.nil (thenQ.n ?_)
  iterate 2 refine WC.seq ?_
  refine WC.region ?_
  refine WL.lv rfl (LV.mv rfl) ?_
  refine WL.lv rfl (LV.lenS Tryz.underlying9 rfl) ?_
  refine WL.lv rfl (LV.mv rfl) ?_
  refine WL.nil (thenQ.n ?_)
  refine WC.block ?_
  refine WC.loop (fun m_ f_ w_ => ∃ (A_out : Option Addr) (c_out : Nat) (out : List ByteArray) (from_ : Int) (ix : Int), (0 ≤ ix) ∧ (ix ≤ (s.size : Int)) ∧ (TKS s ix.toNat = (out, from_.toNat)) ∧ (0 ≤ from_ ∧ from_ ≤ ix) ∧ ((out.length : Int) ≤ ix) ∧ SH w No w_ [rowE eS 9 (.slice A_out out.length c_out) out] ∧ m_ = (((s.size : Int) - ix).toNat) ∧ Weak (lit [(0, (.string s)), (3, (.slice A_out out.length c_out)), (4, (.int .i64 from_)), (7, (.int .i64 (s.size : Int))), (8, (.int .i64 ix))]) f_) _ ⟨none, 0, [], 0, 0, by omega, by omega, rfl, by omega, (by simp), hS1, rfl, Weak.cons rfl <| Weak.cons rfl <| Weak.cons rfl <| Weak.cons rfl <| Weak.cons rfl <| Weak.nil _⟩ ?_
  rintro m1 f1 w1 ⟨A_out, c_out, out, from_, ix, ixlo, ixhi, q1, q2, q3, hL1, rfl, hw1⟩
  refine WC.weak hw1 ?_
  clear hw1
  refine WC.seq ?_
  refine WC.region ?_
  refine WL.lv rfl (LV.ltI rfl rfl) ?_
  refine WL.nil (thenQ.n ?_)
  refine WC.seq ?_
  refine WC.condP (p := ix < (s.size : Int)) rfl (fun hk => ?_) (fun hk => ?_)
  · skip
    refine WC.skip (thenQ.n ?_)
    refine WC.seq ?_
    refine WC.block ?_
    refine WC.seq ?_
    refine WC.region ?_
    refine WL.lv rfl (LV.mv rfl) ?_
    refine WL.lv rfl (LV.asg rfl) ?_
    refine WL.nil (thenQ.n ?_)
    refine WC.seq ?_
    have hS2 := SH.drew hL1
    refine WC.regionD [] (fun w_ => KB No w1.drew w_) [(.pure, 0), (.pure, 1), (.pure, 2), (.pure, 3), (.pure, 4), (.pure, 5), (.pure, 6), (.pure, 7), (.pure, 8), (.forced, 9), (.pure, 10), (.pure, 11), (.pure, 12), (.pure, 13), (.pure, 14), (.pure, 15), (.pure, 16), (.pure, 18), (.pure, 19), (.pure, 20), (.forced, 17), (.forced, 21), (.pure, 22), (.pure, 23)] (by kernel_rfl) (by kernel_rfl) (KB.refl _ _) ?_
    refine WS.pure rfl rfl (fun _ => LV.mv rfl) ?_
    refine WS.pure rfl rfl (fun _ => LV.add rfl rfl (wr64 (by omega) (by omega))) ?_
    refine WS.pure rfl rfl (fun _ => LV.mv rfl) ?_
    refine WS.pure rfl rfl (fun _ => LV.lenS Tryz.underlying9 rfl) ?_
    rcases Decidable.em ((ix + 1) = (s.size : Int)) with hg1 | hg1
    · refine WS.pure rfl rfl (fun _ => LV.as (LV.eqI rfl rfl) (decide_eq_true hg1)) ?_
      refine WS.pure rfl rfl (fun _ => LV.mv rfl) ?_
      iterate 3 refine WS.off rfl rfl ?_
      refine WS.offF rfl rfl (fun h_ => (KB.refl _ _)) ?_
      refine WS.off rfl rfl ?_
      refine WS.pure rfl rfl (fun _ => LV.pickT rfl rfl) ?_
      refine WS.pure rfl rfl (fun _ => LV.mv rfl) ?_
      iterate 7 refine WS.off rfl rfl ?_
      iterate 2 refine WS.offF rfl rfl (fun h_ => (KB.refl _ _)) ?_
      refine WS.off rfl rfl ?_
      refine WS.pure rfl rfl (fun _ => LV.pickT rfl rfl) ?_
      refine WS.nil (thenQ.n ?_)
      refine WC.condT rfl ?_
      refine WC.seq ?_
      refine WC.region ?_
      iterate 4 refine WL.lv rfl (LV.mv rfl) ?_
      refine WL.lv rfl (LV.add rfl rfl (wr64 (by omega) (by omega))) ?_
      refine WL.lv rfl (LV.cutS (l := (from_).toNat) (h := (ix + 1).toNat) Tryz.underlying9 rfl rfl rfl ⟨.inr ⟨.i64, by rw [Int.toNat_of_nonneg (a := from_) (by omega)] <;> rfl⟩, .inr ⟨.i64, by rw [Int.toNat_of_nonneg (a := ix + 1) (by omega)] <;> rfl⟩, .inl ⟨rfl, rfl⟩⟩ (by omega) (by omega)) ?_
      refine WL.xe rfl (XE.buildSlice (E := eS) [(0, (.string (s.extract ((from_).toNat) ((ix + 1).toNat))))] #[(.string (s.extract ((from_).toNat) ((ix + 1).toNat)))] [s.extract ((from_).toNat) ((ix + 1).toNat)] hS2 Tryz.underlying23 ti9 rfl (by decide) (by kernel_rfl) (.inr rfl) rfl rfl (by decide)) ?_
      rintro _ w2 ⟨b1, rfl, hS3, hk1⟩
      have hS4 : SH w No w2 [rowE eS 9 (.slice A_out out.length c_out) out, rowE eS 9 (.slice (some ⟨b1, 0, none⟩) 1 1) [s.extract ((from_).toNat) ((ix + 1).toNat)]] := (SH.front [_] hS3)
      refine WL.xe rfl (XE.append hS4 Tryz.underlying23 ti9 rfl (St.now (SH.rd hS4 (.tail _ (.head _)))) rfl rfl (by first | omega | simp only [List.length_append, List.length_cons, List.length_nil, List.length_take, List.length_reverse, List.length_drop] at *; omega) (by first | omega | simp only [List.length_append, List.length_cons, List.length_nil, List.length_take, List.length_reverse, List.length_drop] at *; omega)) ?_
      rintro _ w3 ⟨A1, c1, rfl, hS5, hk2⟩
      refine WL.lv rfl (LV.asg rfl) ?_
      refine WL.nil (thenQ.n ?_)
      refine WC.region ?_
      refine WL.lv rfl (LV.mv rfl) ?_
      refine WL.lv rfl (LV.add rfl rfl (wr64 (by omega) (by omega))) ?_
      refine WL.lv rfl (LV.asg rfl) ?_
      refine WL.nil (blockQ.n <| thenQ.n ?_)
      refine WC.region ?_
      refine WL.lv rfl (LV.add rfl rfl (wr64 (by omega) (by omega))) ?_
      refine WL.lv rfl (LV.mv rfl) ?_
      refine WL.nil (thenQ.n ?_)
      have hS6 : SH w No w3 [rowE eS 9 (.slice A1 ((out ++ [s.extract ((from_).toNat) ((ix + 1).toNat)]).length) c1) (out ++ [s.extract ((from_).toNat) ((ix + 1).toNat)])] := (SH.take 1 rfl hS5)
      exact ⟨_, by omega, A1, c1, (out ++ [s.extract ((from_).toNat) ((ix + 1).toNat)]), ix + 1, ix + 1, by omega, by omega, (by first | exact tks_yes ixlo (by first | exact .inl (by omega) | exact .inr (.inl (by omega)) | exact .inr (.inr (by omega))) q1 | exact tks_no ixlo (by rintro (h_ | h_ | h_) <;> omega) q1), by omega, (by first | omega | (simp; omega)), hS6, rfl, Weak.cons rfl <| Weak.cons rfl <| Weak.cons rfl <| Weak.cons rfl <| Weak.cons rfl <| Weak.nil _⟩
    · refine WS.pure rfl rfl (fun _ => LV.as (LV.eqI rfl rfl) (decide_eq_false hg1)) ?_
      iterate 3 refine WS.pure rfl rfl (fun _ => LV.mv rfl) ?_
      refine WS.pure rfl rfl (fun _ => LV.idxSi (i := ix) Tryz.underlying9 rfl rfl (by omega) (by omega)) ?_
      refine WS.call rfl rfl (XC.fn Tryz.func61 (by kernel_rfl) rfl rfl rfl) (kind_calls (c := (gI (bytesOf s) (ix))) ) ?_
      rintro v_ w4 ⟨rfl, hk3⟩
      have hS7 := SH.same hS2 hk3
      refine ⟨fun h_ => (KB.transN (KB.refl _ _) hk3), ?_⟩
      rcases Decidable.em ((KD (gI (bytesOf s) (ix))) = 3) with hg2 | hg2
      · refine WS.pure rfl rfl (fun _ => LV.as (LV.eqI rfl rfl) (decide_eq_true hg2)) ?_
        refine WS.pure rfl rfl (fun _ => LV.pickF rfl rfl) ?_
        refine WS.pure rfl rfl (fun _ => LV.mv rfl) ?_
        iterate 7 refine WS.off rfl rfl ?_
        iterate 2 refine WS.offF rfl rfl (fun h_ => (KB.transN (KB.refl _ _) hk3)) ?_
        refine WS.off rfl rfl ?_
        refine WS.pure rfl rfl (fun _ => LV.pickT rfl rfl) ?_
        refine WS.nil (thenQ.n ?_)
        refine WC.condT rfl ?_
        refine WC.seq ?_
        refine WC.region ?_
        iterate 4 refine WL.lv rfl (LV.mv rfl) ?_
        refine WL.lv rfl (LV.add rfl rfl (wr64 (by omega) (by omega))) ?_
        refine WL.lv rfl (LV.cutS (l := (from_).toNat) (h := (ix + 1).toNat) Tryz.underlying9 rfl rfl rfl ⟨.inr ⟨.i64, by rw [Int.toNat_of_nonneg (a := from_) (by omega)] <;> rfl⟩, .inr ⟨.i64, by rw [Int.toNat_of_nonneg (a := ix + 1) (by omega)] <;> rfl⟩, .inl ⟨rfl, rfl⟩⟩ (by omega) (by omega)) ?_
        refine WL.xe rfl (XE.buildSlice (E := eS) [(0, (.string (s.extract ((from_).toNat) ((ix + 1).toNat))))] #[(.string (s.extract ((from_).toNat) ((ix + 1).toNat)))] [s.extract ((from_).toNat) ((ix + 1).toNat)] hS7 Tryz.underlying23 ti9 rfl (by decide) (by kernel_rfl) (.inr rfl) rfl rfl (by decide)) ?_
        rintro _ w5 ⟨b2, rfl, hS8, hk4⟩
        have hS9 : SH w No w5 [rowE eS 9 (.slice A_out out.length c_out) out, rowE eS 9 (.slice (some ⟨b2, 0, none⟩) 1 1) [s.extract ((from_).toNat) ((ix + 1).toNat)]] := (SH.front [_] hS8)
        refine WL.xe rfl (XE.append hS9 Tryz.underlying23 ti9 rfl (St.now (SH.rd hS9 (.tail _ (.head _)))) rfl rfl (by first | omega | simp only [List.length_append, List.length_cons, List.length_nil, List.length_take, List.length_reverse, List.length_drop] at *; omega) (by first | omega | simp only [List.length_append, List.length_cons, List.length_nil, List.length_take, List.length_reverse, List.length_drop] at *; omega)) ?_
        rintro _ w6 ⟨A2, c2, rfl, hS10, hk5⟩
        refine WL.lv rfl (LV.asg rfl) ?_
        refine WL.nil (thenQ.n ?_)
        refine WC.region ?_
        refine WL.lv rfl (LV.mv rfl) ?_
        refine WL.lv rfl (LV.add rfl rfl (wr64 (by omega) (by omega))) ?_
        refine WL.lv rfl (LV.asg rfl) ?_
        refine WL.nil (blockQ.n <| thenQ.n ?_)
        refine WC.region ?_
        refine WL.lv rfl (LV.add rfl rfl (wr64 (by omega) (by omega))) ?_
        refine WL.lv rfl (LV.mv rfl) ?_
        refine WL.nil (thenQ.n ?_)
        have hS11 : SH w No w6 [rowE eS 9 (.slice A2 ((out ++ [s.extract ((from_).toNat) ((ix + 1).toNat)]).length) c2) (out ++ [s.extract ((from_).toNat) ((ix + 1).toNat)])] := (SH.take 1 rfl hS10)
        exact ⟨_, by omega, A2, c2, (out ++ [s.extract ((from_).toNat) ((ix + 1).toNat)]), ix + 1, ix + 1, by omega, by omega, (by first | exact tks_yes ixlo (by first | exact .inl (by omega) | exact .inr (.inl (by omega)) | exact .inr (.inr (by omega))) q1 | exact tks_no ixlo (by rintro (h_ | h_ | h_) <;> omega) q1), by omega, (by first | omega | (simp; omega)), hS11, rfl, Weak.cons rfl <| Weak.cons rfl <| Weak.cons rfl <| Weak.cons rfl <| Weak.cons rfl <| Weak.nil _⟩
      · refine WS.pure rfl rfl (fun _ => LV.as (LV.eqI rfl rfl) (decide_eq_false hg2)) ?_
        refine WS.pure rfl rfl (fun _ => LV.pickF rfl rfl) ?_
        iterate 3 refine WS.pure rfl rfl (fun _ => LV.mv rfl) ?_
        refine WS.pure rfl rfl (fun _ => LV.add rfl rfl (wr64 (by omega) (by omega))) ?_
        refine WS.pure rfl rfl (fun _ => LV.idxSi (i := ix + 1) Tryz.underlying9 rfl rfl (by omega) (by omega)) ?_
        iterate 2 refine WS.pure rfl rfl (fun _ => LV.mv rfl) ?_
        refine WS.pure rfl rfl (fun _ => LV.idxSi (i := ix) Tryz.underlying9 rfl rfl (by omega) (by omega)) ?_
        refine WS.call rfl rfl (XC.fn Tryz.func61 (by kernel_rfl) rfl rfl rfl) (kind_calls (c := (gI (bytesOf s) (ix + 1))) ) ?_
        rintro v_ w7 ⟨rfl, hk6⟩
        have hS12 := SH.same hS7 hk6
        refine ⟨fun h_ => (KB.transN (KB.transN (KB.refl _ _) hk3) hk6), ?_⟩
        refine WS.call rfl rfl (XC.fn Tryz.func61 (by kernel_rfl) rfl rfl rfl) (kind_calls (c := (gI (bytesOf s) (ix))) ) ?_
        rintro v_ w8 ⟨rfl, hk7⟩
        have hS13 := SH.same hS12 hk7
        refine ⟨fun h_ => (KB.transN (KB.transN (KB.transN (KB.refl _ _) hk3) hk6) hk7), ?_⟩
        refine WS.pure rfl rfl (fun _ => LV.neI rfl rfl) ?_
        refine WS.pure rfl rfl (fun _ => LV.pickF rfl rfl) ?_
        refine WS.nil (thenQ.n ?_)
        refine WC.condP (p := (KD (gI (bytesOf s) (ix + 1))) ≠ (KD (gI (bytesOf s) (ix)))) rfl (fun hc1 => ?_) (fun hc1 => ?_)
        · skip
          refine WC.seq ?_
          refine WC.region ?_
          iterate 4 refine WL.lv rfl (LV.mv rfl) ?_
          refine WL.lv rfl (LV.add rfl rfl (wr64 (by omega) (by omega))) ?_
          refine WL.lv rfl (LV.cutS (l := (from_).toNat) (h := (ix + 1).toNat) Tryz.underlying9 rfl rfl rfl ⟨.inr ⟨.i64, by rw [Int.toNat_of_nonneg (a := from_) (by omega)] <;> rfl⟩, .inr ⟨.i64, by rw [Int.toNat_of_nonneg (a := ix + 1) (by omega)] <;> rfl⟩, .inl ⟨rfl, rfl⟩⟩ (by omega) (by omega)) ?_
          refine WL.xe rfl (XE.buildSlice (E := eS) [(0, (.string (s.extract ((from_).toNat) ((ix + 1).toNat))))] #[(.string (s.extract ((from_).toNat) ((ix + 1).toNat)))] [s.extract ((from_).toNat) ((ix + 1).toNat)] hS13 Tryz.underlying23 ti9 rfl (by decide) (by kernel_rfl) (.inr rfl) rfl rfl (by decide)) ?_
          rintro _ w9 ⟨b3, rfl, hS14, hk8⟩
          have hS15 : SH w No w9 [rowE eS 9 (.slice A_out out.length c_out) out, rowE eS 9 (.slice (some ⟨b3, 0, none⟩) 1 1) [s.extract ((from_).toNat) ((ix + 1).toNat)]] := (SH.front [_] hS14)
          refine WL.xe rfl (XE.append hS15 Tryz.underlying23 ti9 rfl (St.now (SH.rd hS15 (.tail _ (.head _)))) rfl rfl (by first | omega | simp only [List.length_append, List.length_cons, List.length_nil, List.length_take, List.length_reverse, List.length_drop] at *; omega) (by first | omega | simp only [List.length_append, List.length_cons, List.length_nil, List.length_take, List.length_reverse, List.length_drop] at *; omega)) ?_
          rintro _ w10 ⟨A3, c3, rfl, hS16, hk9⟩
          refine WL.lv rfl (LV.asg rfl) ?_
          refine WL.nil (thenQ.n ?_)
          refine WC.region ?_
          refine WL.lv rfl (LV.mv rfl) ?_
          refine WL.lv rfl (LV.add rfl rfl (wr64 (by omega) (by omega))) ?_
          refine WL.lv rfl (LV.asg rfl) ?_
          refine WL.nil (blockQ.n <| thenQ.n ?_)
          refine WC.region ?_
          refine WL.lv rfl (LV.add rfl rfl (wr64 (by omega) (by omega))) ?_
          refine WL.lv rfl (LV.mv rfl) ?_
          refine WL.nil (thenQ.n ?_)
          have hS17 : SH w No w10 [rowE eS 9 (.slice A3 ((out ++ [s.extract ((from_).toNat) ((ix + 1).toNat)]).length) c3) (out ++ [s.extract ((from_).toNat) ((ix + 1).toNat)])] := (SH.take 1 rfl hS16)
          exact ⟨_, by omega, A3, c3, (out ++ [s.extract ((from_).toNat) ((ix + 1).toNat)]), ix + 1, ix + 1, by omega, by omega, (by first | exact tks_yes ixlo (by first | exact .inl (by omega) | exact .inr (.inl (by omega)) | exact .inr (.inr (by omega))) q1 | exact tks_no ixlo (by rintro (h_ | h_ | h_) <;> omega) q1), by omega, (by first | omega | (simp; omega)), hS17, rfl, Weak.cons rfl <| Weak.cons rfl <| Weak.cons rfl <| Weak.cons rfl <| Weak.cons rfl <| Weak.nil _⟩
        · skip
          refine WC.skip (blockQ.n <| thenQ.n ?_)
          refine WC.region ?_
          refine WL.lv rfl (LV.add rfl rfl (wr64 (by omega) (by omega))) ?_
          refine WL.lv rfl (LV.mv rfl) ?_
          refine WL.nil (thenQ.n ?_)
          exact ⟨_, by omega, A_out, c_out, out, from_, ix + 1, by omega, by omega, (by first | exact tks_yes ixlo (by first | exact .inl (by omega) | exact .inr (.inl (by omega)) | exact .inr (.inr (by omega))) q1 | exact tks_no ixlo (by rintro (h_ | h_ | h_) <;> omega) q1), by omega, (by first | omega | (simp; omega)), hS13, rfl, Weak.cons rfl <| Weak.cons rfl <| Weak.cons rfl <| Weak.cons rfl <| Weak.cons rfl <| Weak.nil _⟩
  · skip
    refine WC.exit (thenQ.x <| thenQ.x <| blockQ.hit <| thenQ.n ?_)
    refine WC.seq ?_
    refine WC.region ?_
    refine WL.lv rfl (LV.mv rfl) ?_
    refine WL.lv rfl (LV.asg rfl) ?_
    refine WL.nil (thenQ.n ?_)
    refine WC.ret (?_)
    have hres1 : (out : List ByteArray) = TOK s := tks_fin (by omega) q1
    exact ⟨_, fun a ha => res1 rfl ha rfl, (by rw [← hres1]; exact ⟨_, _, rfl, hL1⟩)⟩

theorem stexts_calls {w : World} {A_a : Option Addr} {n_a c_a : Nat} {a : List ByteArray} {A_b : Option Addr} {n_b c_b : Nat} {b : List ByteArray} (h_a : St No w (Rd eS (.slice A_a n_a c_a) a)) (hn_a : a.length = n_a) (h_b : St No w (Rd eS (.slice A_b n_b c_b) b)) (hn_b : b.length = n_b)  :
    Calls Tryz.prog 8 #[(.slice A_a n_a c_a), (.slice A_b n_b c_b)] w fun e w' => ∃ v, e = .returned v ∧ (fun v w' => v = .bool (decide (a = b)) ∧ KB No w w') v w' := by
  subst hn_a hn_b
  have hma := Rd.max h_a.now
  have hS : SH w No w [] := SH.nil _ _
  refine calls (l := litOf [(.slice A_a a.length c_a), (.slice A_b b.length c_b)] 0) Tryz.func8 rfl (n := 26) rfl (Nat.le_of_ble_eq_true rfl) (lit_args _) ?_
  refine WC.seq ?_
  refine WC.region ?_
  refine WL.lv rfl (LV.asg rfl) ?_
  refine WL.nil (thenQ.n ?_)
  iterate 2 refine WC.seq ?_
  refine WC.region ?_
  refine WL.lv rfl (LV.mv rfl) ?_
  refine WL.lv rfl (LV.lenL Tryz.underlying23 rfl) ?_
  refine WL.lv rfl (LV.mv rfl) ?_
  refine WL.lv rfl (LV.lenL Tryz.underlying23 rfl) ?_
  refine WL.lv rfl (LV.neI rfl rfl) ?_
  refine WL.nil (thenQ.n ?_)
  refine WC.condP (p := (a.length : Int) ≠ (b.length : Int)) rfl (fun hc1 => ?_) (fun hc1 => ?_)
  · skip
    refine WC.seq ?_
    refine WC.region ?_
    refine WL.lv rfl (LV.asg rfl) ?_
    refine WL.nil (thenQ.n ?_)
    refine WC.ret (thenQ.r <| ?_)
    exact ⟨_, fun a ha => res1 rfl ha rfl, congrArg Value.bool ((decide_eq_false (fun h_ => by subst h_; first | omega | exact h25 rfl)).symm), hS.kb⟩
  · skip
    refine WC.skip (thenQ.n ?_)
    iterate 2 refine WC.seq ?_
    refine WC.region ?_
    refine WL.lv rfl (LV.asg rfl) ?_
    refine WL.nil (thenQ.n ?_)
    refine WC.block ?_
    refine WC.loop (fun m_ f_ w_ => ∃ (i : Int), (0 ≤ i) ∧ (i ≤ (a.length : Int)) ∧ (∀ t : Int, 0 ≤ t → t < i → a.getD t.toNat ByteArray.empty = b.getD t.toNat ByteArray.empty) ∧ SH w No w_ [] ∧ m_ = (((a.length : Int) - i).toNat) ∧ Weak (lit [(0, (.slice A_a a.length c_a)), (1, (.slice A_b b.length c_b)), (5, (.int .i64 i))]) f_) _ ⟨0, by omega, by omega, (fun t h1 h2 => by omega), hS, rfl, Weak.cons rfl <| Weak.cons rfl <| Weak.cons rfl <| Weak.nil _⟩ ?_
    rintro m1 f1 w1 ⟨i, ilo, ihi, q1, hL1, rfl, hw1⟩
    refine WC.weak hw1 ?_
    clear hw1
    iterate 2 refine WC.seq ?_
    refine WC.region ?_
    iterate 2 refine WL.lv rfl (LV.mv rfl) ?_
    refine WL.lv rfl (LV.lenL Tryz.underlying23 rfl) ?_
    refine WL.lv rfl (LV.ltI rfl rfl) ?_
    refine WL.nil (thenQ.n ?_)
    refine WC.condP (p := i < (a.length : Int)) rfl (fun hc2 => ?_) (fun hc2 => ?_)
    · skip
      refine WC.skip (thenQ.n ?_)
      refine WC.seq ?_
      refine WC.block ?_
      refine WC.seq ?_
      have hS1 := SH.drew hL1
      refine WC.regionD [] (fun w_ => KB No w1.drew w_) [(.pure, 0), (.pure, 1), (.pure, 2), (.look, 3), (.pure, 4), (.pure, 5), (.pure, 6), (.look, 7), (.pure, 8)] (by kernel_rfl) (by kernel_rfl) (KB.refl _ _) ?_
      iterate 2 refine WS.pure rfl rfl (fun _ => LV.mv rfl) ?_
      obtain ⟨A1, c1, e1, g1⟩ := St.elt (SH.stN hS1 h_a) ByteArray.empty i (by omega) (by omega)
      refine WS.pure rfl rfl (fun _ => LV.idxA Tryz.underlying23 ti9.sz rfl e1 rfl (by omega) (by omega)) ?_
      refine WS.look rfl rfl (fun _ hk_ => LV.load1 (v := (.string (a.getD (i).toNat ByteArray.empty))) Tryz.underlying9 rfl rfl (g1 _ hk_ 0 _ rfl)) ?_
      iterate 2 refine WS.pure rfl rfl (fun _ => LV.mv rfl) ?_
      obtain ⟨A2, c2, e2, g2⟩ := St.elt (SH.stN hS1 h_b) ByteArray.empty i (by omega) (by omega)
      refine WS.pure rfl rfl (fun _ => LV.idxA Tryz.underlying23 ti9.sz rfl e2 rfl (by omega) (by omega)) ?_
      refine WS.look rfl rfl (fun _ hk_ => LV.load1 (v := (.string (b.getD (i).toNat ByteArray.empty))) Tryz.underlying9 rfl rfl (g2 _ hk_ 0 _ rfl)) ?_
      refine WS.pure rfl rfl (fun _ => LV.neSP (a := (a.getD (i).toNat ByteArray.empty)) (b := (b.getD (i).toNat ByteArray.empty)) rfl rfl) ?_
      refine WS.nil (thenQ.n ?_)
      refine WC.condP (p := ¬ ((a.getD (i).toNat ByteArray.empty) = (b.getD (i).toNat ByteArray.empty))) rfl (fun h25 => ?_) (fun h25 => ?_)
      · skip
        refine WC.seq ?_
        refine WC.region ?_
        refine WL.lv rfl (LV.asg rfl) ?_
        refine WL.nil (thenQ.n ?_)
        refine WC.ret (blockQ.r <| thenQ.r <| thenQ.r <| blockQ.r <| thenQ.r <| ?_)
        exact ⟨_, fun a ha => res1 rfl ha rfl, congrArg Value.bool ((decide_eq_false (fun h_ => by subst h_; first | omega | exact h25 rfl)).symm), hS1.kb⟩
      · skip
        refine WC.skip (blockQ.n <| thenQ.n ?_)
        refine WC.region ?_
        refine WL.lv rfl (LV.mv rfl) ?_
        refine WL.lv rfl (LV.add rfl rfl (wr64 (by omega) (by omega))) ?_
        refine WL.lv rfl (LV.asg rfl) ?_
        refine WL.nil (thenQ.n ?_)
        exact ⟨_, by omega, i + 1, by omega, by omega, (all_step (p := fun t => a.getD t.toNat ByteArray.empty = b.getD t.toNat ByteArray.empty) q1 (Decidable.not_not.1 h25)), hS1, rfl, Weak.cons rfl <| Weak.cons rfl <| Weak.cons rfl <| Weak.nil _⟩
    · skip
      refine WC.exit (thenQ.x <| thenQ.x <| blockQ.hit <| thenQ.n ?_)
      refine WC.seq ?_
      refine WC.region ?_
      refine WL.lv rfl (LV.asg rfl) ?_
      refine WL.nil (thenQ.n ?_)
      refine WC.ret (?_)
      exact ⟨_, fun a ha => res1 rfl ha rfl, congrArg Value.bool ((decide_eq_true (ext_gS (by omega) (fun t h0_ h1_ => q1 t h0_ (by omega)))).symm), hL1.kb⟩

theorem shits_calls {w : World} {A_a : Option Addr} {n_a c_a : Nat} {a : List En} {A_b : Option Addr} {n_b c_b : Nat} {b : List En} (h_a : St No w (Rd eSI (.slice A_a n_a c_a) a)) (hn_a : a.length = n_a) (h_b : St No w (Rd eSI (.slice A_b n_b c_b) b)) (hn_b : b.length = n_b)  :
    Calls Tryz.prog 5 #[(.slice A_a n_a c_a), (.slice A_b n_b c_b)] w fun e w' => ∃ v, e = .returned v ∧ (fun v w' => v = .bool (decide (a = b)) ∧ KB No w w') v w' := by
  subst hn_a hn_b
  have hma := Rd.max h_a.now
  have hS : SH w No w [] := SH.nil _ _
  refine calls (l := litOf [(.slice A_a a.length c_a), (.slice A_b b.length c_b)] 0) Tryz.func5 rfl (n := 26) rfl (Nat.le_of_ble_eq_true rfl) (lit_args _) ?_
  refine WC.seq ?_
  refine WC.region ?_
  refine WL.lv rfl (LV.asg rfl) ?_
  refine WL.nil (thenQ.n ?_)
  iterate 2 refine WC.seq ?_
  refine WC.region ?_
  refine WL.lv rfl (LV.mv rfl) ?_
  refine WL.lv rfl (LV.lenL Tryz.underlying32 rfl) ?_
  refine WL.lv rfl (LV.mv rfl) ?_
  refine WL.lv rfl (LV.lenL Tryz.underlying32 rfl) ?_
  refine WL.lv rfl (LV.neI rfl rfl) ?_
  refine WL.nil (thenQ.n ?_)
  refine WC.condP (p := (a.length : Int) ≠ (b.length : Int)) rfl (fun hc1 => ?_) (fun hc1 => ?_)
  · skip
    refine WC.seq ?_
    refine WC.region ?_
    refine WL.lv rfl (LV.asg rfl) ?_
    refine WL.nil (thenQ.n ?_)
    refine WC.ret (thenQ.r <| ?_)
    exact ⟨_, fun a ha => res1 rfl ha rfl, congrArg Value.bool ((decide_eq_false (fun h_ => by subst h_; first | omega | exact h25 ⟨rfl, rfl⟩)).symm), hS.kb⟩
  · skip
    refine WC.skip (thenQ.n ?_)
    iterate 2 refine WC.seq ?_
    refine WC.region ?_
    refine WL.lv rfl (LV.asg rfl) ?_
    refine WL.nil (thenQ.n ?_)
    refine WC.block ?_
    refine WC.loop (fun m_ f_ w_ => ∃ (i : Int), (0 ≤ i) ∧ (i ≤ (a.length : Int)) ∧ (∀ t : Int, 0 ≤ t → t < i → (a.getD t.toNat (ByteArray.empty, 0)).1 = (b.getD t.toNat (ByteArray.empty, 0)).1 ∧ (a.getD t.toNat (ByteArray.empty, 0)).2 = (b.getD t.toNat (ByteArray.empty, 0)).2) ∧ SH w No w_ [] ∧ m_ = (((a.length : Int) - i).toNat) ∧ Weak (lit [(0, (.slice A_a a.length c_a)), (1, (.slice A_b b.length c_b)), (5, (.int .i64 i))]) f_) _ ⟨0, by omega, by omega, (fun t h1 h2 => by omega), hS, rfl, Weak.cons rfl <| Weak.cons rfl <| Weak.cons rfl <| Weak.nil _⟩ ?_
    rintro m1 f1 w1 ⟨i, ilo, ihi, q1, hL1, rfl, hw1⟩
    refine WC.weak hw1 ?_
    clear hw1
    iterate 2 refine WC.seq ?_
    refine WC.region ?_
    iterate 2 refine WL.lv rfl (LV.mv rfl) ?_
    refine WL.lv rfl (LV.lenL Tryz.underlying32 rfl) ?_
    refine WL.lv rfl (LV.ltI rfl rfl) ?_
    refine WL.nil (thenQ.n ?_)
    refine WC.condP (p := i < (a.length : Int)) rfl (fun hc2 => ?_) (fun hc2 => ?_)
    · skip
      refine WC.skip (thenQ.n ?_)
      refine WC.seq ?_
      refine WC.block ?_
      refine WC.seq ?_
      have hS1 := SH.drew hL1
      refine WC.regionD [] (fun w_ => KB No w1.drew w_) [(.pure, 0), (.pure, 1), (.pure, 2), (.look, 3), (.pure, 4), (.pure, 5), (.pure, 6), (.look, 7), (.pure, 8)] (by kernel_rfl) (by kernel_rfl) (KB.refl _ _) ?_
      iterate 2 refine WS.pure rfl rfl (fun _ => LV.mv rfl) ?_
      obtain ⟨A1, c1, e1, g1⟩ := St.elt (SH.stN hS1 h_a) (ByteArray.empty, 0) i (by omega) (by omega)
      refine WS.pure rfl rfl (fun _ => LV.idxA Tryz.underlying32 ti49.sz rfl e1 rfl (by omega) (by omega)) ?_
      refine WS.look rfl rfl (fun _ hk_ => LV.loadAgg (cs := [(.string ((a.getD (i).toNat (ByteArray.empty, 0)).1)), (.int .i64 ((a.getD (i).toNat (ByteArray.empty, 0)).2))]) Tryz.underlying49 rfl ti49 rfl rfl (fun j u hu => g1 _ hk_ j u hu)) ?_
      iterate 2 refine WS.pure rfl rfl (fun _ => LV.mv rfl) ?_
      obtain ⟨A2, c2, e2, g2⟩ := St.elt (SH.stN hS1 h_b) (ByteArray.empty, 0) i (by omega) (by omega)
      refine WS.pure rfl rfl (fun _ => LV.idxA Tryz.underlying32 ti49.sz rfl e2 rfl (by omega) (by omega)) ?_
      refine WS.look rfl rfl (fun _ hk_ => LV.loadAgg (cs := [(.string ((b.getD (i).toNat (ByteArray.empty, 0)).1)), (.int .i64 ((b.getD (i).toNat (ByteArray.empty, 0)).2))]) Tryz.underlying49 rfl ti49 rfl rfl (fun j u hu => g2 _ hk_ j u hu)) ?_
      refine WS.pure rfl rfl (fun _ => LV.neG (by decide) (ae_s2 Tryz.underlying49 (by decide) (by kernel_rfl) (pt_str Tryz.underlying9 rfl) (pt_str Tryz.underlying9 rfl) (pt_int Tryz.underlying3 rfl) (pt_int Tryz.underlying3 rfl) (ae_str Tryz.underlying9) (ae_int Tryz.underlying3)) (by kernel_rfl) rfl rfl) ?_
      refine WS.nil (thenQ.n ?_)
      refine WC.condP (p := ¬ ((((a.getD (i).toNat (ByteArray.empty, 0)).1) = ((b.getD (i).toNat (ByteArray.empty, 0)).1)) ∧ (((a.getD (i).toNat (ByteArray.empty, 0)).2) = ((b.getD (i).toNat (ByteArray.empty, 0)).2)))) rfl (fun h25 => ?_) (fun h25 => ?_)
      · skip
        refine WC.seq ?_
        refine WC.region ?_
        refine WL.lv rfl (LV.asg rfl) ?_
        refine WL.nil (thenQ.n ?_)
        refine WC.ret (blockQ.r <| thenQ.r <| thenQ.r <| blockQ.r <| thenQ.r <| ?_)
        exact ⟨_, fun a ha => res1 rfl ha rfl, congrArg Value.bool ((decide_eq_false (fun h_ => by subst h_; first | omega | exact h25 ⟨rfl, rfl⟩)).symm), hS1.kb⟩
      · skip
        refine WC.skip (blockQ.n <| thenQ.n ?_)
        refine WC.region ?_
        refine WL.lv rfl (LV.mv rfl) ?_
        refine WL.lv rfl (LV.add rfl rfl (wr64 (by omega) (by omega))) ?_
        refine WL.lv rfl (LV.asg rfl) ?_
        refine WL.nil (thenQ.n ?_)
        exact ⟨_, by omega, i + 1, by omega, by omega, (all_step (p := fun t => (a.getD t.toNat (ByteArray.empty, 0)).1 = (b.getD t.toNat (ByteArray.empty, 0)).1 ∧ (a.getD t.toNat (ByteArray.empty, 0)).2 = (b.getD t.toNat (ByteArray.empty, 0)).2) q1 (Decidable.not_not.1 h25)), hS1, rfl, Weak.cons rfl <| Weak.cons rfl <| Weak.cons rfl <| Weak.nil _⟩
    · skip
      refine WC.exit (thenQ.x <| thenQ.x <| blockQ.hit <| thenQ.n ?_)
      refine WC.seq ?_
      refine WC.region ?_
      refine WL.lv rfl (LV.asg rfl) ?_
      refine WL.nil (thenQ.n ?_)
      refine WC.ret (?_)
      exact ⟨_, fun a ha => res1 rfl ha rfl, congrArg Value.bool ((decide_eq_true (ext_gSI (by omega) (fun t h0_ h1_ => q1 t h0_ (by omega)))).symm), hL1.kb⟩

theorem rin_calls {w : World} {A_l : Option Addr} {n_l c_l : Nat} {l : List En} {h : En} (h_l : St No w (Rd eSI (.slice A_l n_l c_l) l)) (hn_l : l.length = n_l)  :
    Calls Tryz.prog 24 #[(.slice A_l n_l c_l), (.agg #[(.string ((h).1)), (.int .i64 ((h).2))])] w fun e w' => ∃ v, e = .returned v ∧ (fun v w' => v = .bool (decide (h ∈ l)) ∧ KB No w w') v w' := by
  subst hn_l
  have hma := Rd.max h_l.now
  have hS : SH w No w [] := SH.nil _ _
  refine calls (l := litOf [(.slice A_l l.length c_l), (.agg #[(.string ((h).1)), (.int .i64 ((h).2))])] 0) Tryz.func24 rfl (n := 18) rfl (Nat.le_of_ble_eq_true rfl) (lit_args _) ?_
  refine WC.seq ?_
  refine WC.region ?_
  refine WL.xe rfl (XE.box #[(.string ((h).1)), (.int .i64 ((h).2))] hS rfl rfl) ?_
  rintro _ w1 ⟨b1, rfl, hS1, hk1⟩
  refine WL.lv rfl (LV.asg rfl) ?_
  refine WL.nil (thenQ.n ?_)
  iterate 2 refine WC.seq ?_
  refine WC.region ?_
  refine WL.lv rfl (LV.asg rfl) ?_
  refine WL.nil (thenQ.n ?_)
  refine WC.block ?_
  refine WC.loop (fun m_ f_ w_ => ∃ (i : Int), (0 ≤ i) ∧ (i ≤ (l.length : Int)) ∧ (∀ t : Int, 0 ≤ t → t < i → ¬ ((l.getD t.toNat (ByteArray.empty, 0)).1 = h.1 ∧ (l.getD t.toNat (ByteArray.empty, 0)).2 = h.2)) ∧ SH w No w_ [blkE b1 49 #[(.string ((h).1)), (.int .i64 ((h).2))]] ∧ m_ = (((l.length : Int) - i).toNat) ∧ Weak (lit [(0, (.slice A_l l.length c_l)), (3, (.pointer (some ⟨b1, 0, none⟩))), (5, (.int .i64 i))]) f_) _ ⟨0, by omega, by omega, (fun t h1 h2 => by omega), hS1, rfl, Weak.cons rfl <| Weak.cons rfl <| Weak.cons rfl <| Weak.nil _⟩ ?_
  rintro m1 f1 w2 ⟨i, ilo, ihi, q1, hL1, rfl, hw1⟩
  refine WC.weak hw1 ?_
  clear hw1
  iterate 2 refine WC.seq ?_
  refine WC.region ?_
  iterate 2 refine WL.lv rfl (LV.mv rfl) ?_
  refine WL.lv rfl (LV.lenL Tryz.underlying32 rfl) ?_
  refine WL.lv rfl (LV.ltI rfl rfl) ?_
  refine WL.nil (thenQ.n ?_)
  refine WC.condP (p := i < (l.length : Int)) rfl (fun hc1 => ?_) (fun hc1 => ?_)
  · skip
    refine WC.skip (thenQ.n ?_)
    refine WC.seq ?_
    refine WC.block ?_
    refine WC.seq ?_
    have hS2 := SH.drew hL1
    refine WC.regionD [] (fun w_ => KB No w2.drew w_) [(.pure, 0), (.pure, 1), (.pure, 2), (.look, 3), (.look, 4), (.pure, 5)] (by kernel_rfl) (by kernel_rfl) (KB.refl _ _) ?_
    iterate 2 refine WS.pure rfl rfl (fun _ => LV.mv rfl) ?_
    obtain ⟨A1, c1, e1, g1⟩ := St.elt (SH.stN hS2 h_l) (ByteArray.empty, 0) i (by omega) (by omega)
    refine WS.pure rfl rfl (fun _ => LV.idxA Tryz.underlying32 ti49.sz rfl e1 rfl (by omega) (by omega)) ?_
    refine WS.look rfl rfl (fun _ hk_ => LV.loadAgg (cs := [(.string ((l.getD (i).toNat (ByteArray.empty, 0)).1)), (.int .i64 ((l.getD (i).toNat (ByteArray.empty, 0)).2))]) Tryz.underlying49 rfl ti49 rfl rfl (fun j u hu => g1 _ hk_ j u hu)) ?_
    refine WS.look rfl rfl (fun _ hk_ => LV.loadAgg (cs := [(.string ((h).1)), (.int .i64 ((h).2))]) Tryz.underlying49 rfl ti49 rfl rfl (Blk.agg (SH.at hS2 (.head _)) _ hk_)) ?_
    refine WS.pure rfl rfl (fun _ => LV.eqG (by decide) (ae_s2 Tryz.underlying49 (by decide) (by kernel_rfl) (pt_str Tryz.underlying9 rfl) (pt_str Tryz.underlying9 rfl) (pt_int Tryz.underlying3 rfl) (pt_int Tryz.underlying3 rfl) (ae_str Tryz.underlying9) (ae_int Tryz.underlying3)) (by kernel_rfl) rfl rfl) ?_
    refine WS.nil (thenQ.n ?_)
    refine WC.condP (p := (((l.getD (i).toNat (ByteArray.empty, 0)).1) = ((h).1)) ∧ (((l.getD (i).toNat (ByteArray.empty, 0)).2) = ((h).2))) rfl (fun h17 => ?_) (fun h17 => ?_)
    · skip
      refine WC.seq ?_
      refine WC.region ?_
      refine WL.lv rfl (LV.asg rfl) ?_
      refine WL.nil (thenQ.n ?_)
      refine WC.ret (blockQ.r <| thenQ.r <| thenQ.r <| blockQ.r <| thenQ.r <| ?_)
      exact ⟨_, fun a ha => res1 rfl ha rfl, congrArg Value.bool ((decide_eq_true (in_yes ilo (by omega) h17)).symm), hS2.kb⟩
    · skip
      refine WC.skip (blockQ.n <| thenQ.n ?_)
      refine WC.region ?_
      refine WL.lv rfl (LV.mv rfl) ?_
      refine WL.lv rfl (LV.add rfl rfl (wr64 (by omega) (by omega))) ?_
      refine WL.lv rfl (LV.asg rfl) ?_
      refine WL.nil (thenQ.n ?_)
      exact ⟨_, by omega, i + 1, by omega, by omega, (all_step (p := fun t => ¬ ((l.getD t.toNat (ByteArray.empty, 0)).1 = h.1 ∧ (l.getD t.toNat (ByteArray.empty, 0)).2 = h.2)) q1 (by first | exact h17 | exact fun h_ => h17 ⟨h_.1.symm, h_.2.symm⟩)), hS2, rfl, Weak.cons rfl <| Weak.cons rfl <| Weak.cons rfl <| Weak.nil _⟩
  · skip
    refine WC.exit (thenQ.x <| thenQ.x <| blockQ.hit <| thenQ.n ?_)
    refine WC.seq ?_
    refine WC.region ?_
    refine WL.lv rfl (LV.asg rfl) ?_
    refine WL.nil (thenQ.n ?_)
    refine WC.ret (?_)
    exact ⟨_, fun a ha => res1 rfl ha rfl, congrArg Value.bool ((decide_eq_false (in_no (fun t h0_ h1_ => q1 t h0_ (by omega)))).symm), hL1.kb⟩

theorem hindex_calls {w : World} {A_l : Option Addr} {n_l c_l : Nat} {l : List En} {h : En} (h_l : St No w (Rd eSI (.slice A_l n_l c_l) l)) (hn_l : l.length = n_l)  :
    Calls Tryz.prog 50 #[(.slice A_l n_l c_l), (.agg #[(.string ((h).1)), (.int .i64 ((h).2))])] w fun e w' => ∃ v, e = .returned v ∧ (fun v w' => ∃ (i' : Int), v = .int .i64 i' ∧ ((i' = -1 ∧ ¬ h ∈ l) ∨ (0 ≤ i' ∧ h ∈ l)) ∧ KB No w w') v w' := by
  subst hn_l
  have hma := Rd.max h_l.now
  have hS : SH w No w [] := SH.nil _ _
  refine calls (l := litOf [(.slice A_l l.length c_l), (.agg #[(.string ((h).1)), (.int .i64 ((h).2))])] 0) Tryz.func50 rfl (n := 19) rfl (Nat.le_of_ble_eq_true rfl) (lit_args _) ?_
  refine WC.seq ?_
  refine WC.region ?_
  refine WL.xe rfl (XE.box #[(.string ((h).1)), (.int .i64 ((h).2))] hS rfl rfl) ?_
  rintro _ w1 ⟨b1, rfl, hS1, hk1⟩
  refine WL.lv rfl (LV.asg rfl) ?_
  refine WL.nil (thenQ.n ?_)
  iterate 2 refine WC.seq ?_
  refine WC.region ?_
  refine WL.lv rfl (LV.mv rfl) ?_
  refine WL.lv rfl (LV.lenL Tryz.underlying32 rfl) ?_
  refine WL.lv rfl (LV.mv rfl) ?_
  refine WL.nil (thenQ.n ?_)
  refine WC.block ?_
  refine WC.loop (fun m_ f_ w_ => ∃ (ix : Int), (0 ≤ ix) ∧ (ix ≤ (l.length : Int)) ∧ (∀ t : Int, 0 ≤ t → t < ix → ¬ ((l.getD t.toNat (ByteArray.empty, 0)).1 = h.1 ∧ (l.getD t.toNat (ByteArray.empty, 0)).2 = h.2)) ∧ SH w No w_ [blkE b1 49 #[(.string ((h).1)), (.int .i64 ((h).2))]] ∧ m_ = (((l.length : Int) - ix).toNat) ∧ Weak (lit [(0, (.slice A_l l.length c_l)), (3, (.pointer (some ⟨b1, 0, none⟩))), (7, (.int .i64 (l.length : Int))), (8, (.int .i64 ix))]) f_) _ ⟨0, by omega, by omega, (fun t h1 h2 => by omega), hS1, rfl, Weak.cons rfl <| Weak.cons rfl <| Weak.cons rfl <| Weak.cons rfl <| Weak.nil _⟩ ?_
  rintro m1 f1 w2 ⟨ix, ixlo, ixhi, q1, hL1, rfl, hw1⟩
  refine WC.weak hw1 ?_
  clear hw1
  refine WC.seq ?_
  refine WC.region ?_
  refine WL.lv rfl (LV.ltI rfl rfl) ?_
  refine WL.nil (thenQ.n ?_)
  refine WC.seq ?_
  refine WC.condP (p := ix < (l.length : Int)) rfl (fun hc1 => ?_) (fun hc1 => ?_)
  · skip
    refine WC.skip (thenQ.n ?_)
    refine WC.seq ?_
    refine WC.block ?_
    refine WC.seq ?_
    refine WC.region ?_
    refine WL.lv rfl (LV.mv rfl) ?_
    refine WL.lv rfl (LV.asg rfl) ?_
    refine WL.nil (thenQ.n ?_)
    refine WC.seq ?_
    have hS2 := SH.drew hL1
    refine WC.regionD [] (fun w_ => KB No w2.drew w_) [(.look, 0), (.pure, 1), (.pure, 2), (.pure, 3), (.look, 4), (.pure, 5)] (by kernel_rfl) (by kernel_rfl) (KB.refl _ _) ?_
    refine WS.look rfl rfl (fun _ hk_ => LV.loadAgg (cs := [(.string ((h).1)), (.int .i64 ((h).2))]) Tryz.underlying49 rfl ti49 rfl rfl (Blk.agg (SH.at hS2 (.head _)) _ hk_)) ?_
    iterate 2 refine WS.pure rfl rfl (fun _ => LV.mv rfl) ?_
    obtain ⟨A1, c1, e1, g1⟩ := St.elt (SH.stN hS2 h_l) (ByteArray.empty, 0) ix (by omega) (by omega)
    refine WS.pure rfl rfl (fun _ => LV.idxA Tryz.underlying32 ti49.sz rfl e1 rfl (by omega) (by omega)) ?_
    refine WS.look rfl rfl (fun _ hk_ => LV.loadAgg (cs := [(.string ((l.getD (ix).toNat (ByteArray.empty, 0)).1)), (.int .i64 ((l.getD (ix).toNat (ByteArray.empty, 0)).2))]) Tryz.underlying49 rfl ti49 rfl rfl (fun j u hu => g1 _ hk_ j u hu)) ?_
    refine WS.pure rfl rfl (fun _ => LV.eqG (by decide) (ae_s2 Tryz.underlying49 (by decide) (by kernel_rfl) (pt_str Tryz.underlying9 rfl) (pt_str Tryz.underlying9 rfl) (pt_int Tryz.underlying3 rfl) (pt_int Tryz.underlying3 rfl) (ae_str Tryz.underlying9) (ae_int Tryz.underlying3)) (by kernel_rfl) rfl rfl) ?_
    refine WS.nil (thenQ.n ?_)
    refine WC.condP (p := (((h).1) = ((l.getD (ix).toNat (ByteArray.empty, 0)).1)) ∧ (((h).2) = ((l.getD (ix).toNat (ByteArray.empty, 0)).2))) rfl (fun h17 => ?_) (fun h17 => ?_)
    · skip
      refine WC.seq ?_
      refine WC.region ?_
      refine WL.lv rfl (LV.mv rfl) ?_
      refine WL.lv rfl (LV.asg rfl) ?_
      refine WL.nil (thenQ.n ?_)
      refine WC.ret (blockQ.r <| thenQ.r <| thenQ.r <| blockQ.r <| thenQ.r <| ?_)
      exact ⟨_, fun a ha => res1 rfl ha rfl, ix, congrArg (Value.int .i64) (by omega), .inr ⟨ixlo, in_yes ixlo (by omega) ⟨h17.1.symm, h17.2.symm⟩⟩, hS2.kb⟩
    · skip
      refine WC.skip (blockQ.n <| thenQ.n ?_)
      refine WC.region ?_
      refine WL.lv rfl (LV.add rfl rfl (wr64 (by omega) (by omega))) ?_
      refine WL.lv rfl (LV.mv rfl) ?_
      refine WL.nil (thenQ.n ?_)
      exact ⟨_, by omega, ix + 1, by omega, by omega, (all_step (p := fun t => ¬ ((l.getD t.toNat (ByteArray.empty, 0)).1 = h.1 ∧ (l.getD t.toNat (ByteArray.empty, 0)).2 = h.2)) q1 (by first | exact h17 | exact fun h_ => h17 ⟨h_.1.symm, h_.2.symm⟩)), hS2, rfl, Weak.cons rfl <| Weak.cons rfl <| Weak.cons rfl <| Weak.cons rfl <| Weak.nil _⟩
  · skip
    refine WC.exit (thenQ.x <| thenQ.x <| blockQ.hit <| thenQ.n ?_)
    refine WC.seq ?_
    refine WC.region ?_
    refine WL.lv rfl (LV.asg rfl) ?_
    refine WL.nil (thenQ.n ?_)
    refine WC.ret (?_)
    exact ⟨_, fun a ha => res1 rfl ha rfl, (-1), congrArg (Value.int .i64) (by omega), .inl ⟨rfl, in_no (fun t h0_ h1_ => q1 t h0_ (by omega))⟩, hL1.kb⟩

theorem hcontains_calls {w : World} {A_l : Option Addr} {n_l c_l : Nat} {l : List En} {h : En} (h_l : St No w (Rd eSI (.slice A_l n_l c_l) l)) (hn_l : l.length = n_l)  :
    Calls Tryz.prog 23 #[(.slice A_l n_l c_l), (.agg #[(.string ((h).1)), (.int .i64 ((h).2))])] w fun e w' => ∃ v, e = .returned v ∧ (fun v w' => v = .bool (decide (h ∈ l)) ∧ KB No w w') v w' := by
  subst hn_l
  have hS : SH w No w [] := SH.nil _ _
  refine calls (l := litOf [(.slice A_l l.length c_l), (.agg #[(.string ((h).1)), (.int .i64 ((h).2))])] 0) Tryz.func23 rfl (n := 9) rfl (Nat.le_of_ble_eq_true rfl) (lit_args _) ?_
  refine WC.seq ?_
  refine WC.region ?_
  refine WL.xe rfl (XE.box #[(.string ((h).1)), (.int .i64 ((h).2))] hS rfl rfl) ?_
  rintro _ w1 ⟨b1, rfl, hS1, hk1⟩
  refine WL.lv rfl (LV.asg rfl) ?_
  refine WL.nil (thenQ.n ?_)
  refine WC.seq ?_
  refine WC.region ?_
  refine WL.lv rfl (LV.mv rfl) ?_
  refine WL.lv rfl (LV.loadAgg (cs := [(.string ((h).1)), (.int .i64 ((h).2))]) Tryz.underlying49 rfl ti49 rfl rfl (Blk.agg (SH.at hS1 (.head _)) _ (KB.refl No _))) ?_
  refine WL.call rfl (XC.fn Tryz.func50 (by kernel_rfl) rfl rfl rfl) (hindex_calls (h := h) (SH.stN hS1 h_l) rfl ) ?_
  rintro v_ w2 ⟨i1, rfl, hf1, hk2⟩
  have hS2 := SH.same hS1 hk2
  have hx_ := hf1
  refine WL.lv rfl (LV.geI rfl rfl) ?_
  refine WL.lv rfl (LV.asg rfl) ?_
  refine WL.nil (thenQ.n ?_)
  refine WC.ret (?_)
  exact ⟨_, fun a ha => res1 rfl ha rfl, congrArg Value.bool (decide_eq_decide.2 (by rcases hx_ with ⟨h1_, h2_⟩ | ⟨h1_, h2_⟩; exact ⟨fun h3_ => by omega, fun h3_ => absurd h3_ h2_⟩; exact ⟨fun _ => h2_, fun _ => h1_⟩)), hS2.kb⟩

end Go.Proofs.YtigbphaimbhgjaaGreat

