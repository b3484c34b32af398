/- Order, with what is drawn. -/
import Derived.Test.YtannlhnjihielaaProg
import Derived.Test.YtannlhnjihielaaCwA
import Derived.Test.YtannlhnjihielaaGwF
import Derived.Test.YtannlhnjihielaaGwH
namespace Go.Proofs.Ytannlhnjihielaa.W
open Go Go.Gw Go.RowKit
set_option linter.unusedVariables false
set_option linter.unusedSimpArgs false
theorem ti3 : TI Try.prog 3 (.int .i64 0) 1 8 := by unfold TI; kernel_rfl
theorem ti23 : TI Try.prog 23 (.int .u64 0) 1 8 := by unfold TI; kernel_rfl

theorem cnan_calls {w : World} {x : Int}  :
    Calls Try.prog 29 #[(.int .i64 x)] w fun e w' => ∃ v, e = .returned v ∧ (fun v w' => v = .bool false ∧ KB No w w') v w' := by
  have hS : SH w No w [] := SH.nil _ _
  refine calls (l := litOf [(.int .i64 x)] 0) Try.func29 rfl (n := 6) rfl (Nat.le_of_ble_eq_true rfl) (lit_args _) ?_
  refine WC.seq ?_
  refine WC.region ?_
  refine WL.lv rfl (LV.asg rfl) ?_
  refine WL.nil (thenQ.n ?_)
  refine WC.seq ?_
  refine WC.region ?_
  iterate 2 refine WL.lv rfl (LV.mv rfl) ?_
  refine WL.lv rfl (LV.neI rfl rfl) ?_
  refine WL.lv rfl (LV.asg rfl) ?_
  refine WL.nil (thenQ.n ?_)
  refine WC.ret (?_)
  exact ⟨_, fun a ha => res1 rfl ha rfl, congrArg Value.bool (decide_eq_false (fun h_ => h_ rfl)), hS.kb⟩

theorem ccmp_calls {w : World} {x : Int} {y : Int}  :
    Calls Try.prog 22 #[(.int .i64 x), (.int .i64 y)] w fun e w' => ∃ v, e = .returned v ∧ (fun v w' => v = .int .i64 (Cw.CMPI x y) ∧ KB No w w') v w' := by
  have hS : SH w No w [] := SH.nil _ _
  refine calls (l := litOf [(.int .i64 x), (.int .i64 y)] 0) Try.func22 rfl (n := 20) rfl (Nat.le_of_ble_eq_true rfl) (lit_args _) ?_
  refine WC.seq ?_
  refine WC.region ?_
  refine WL.lv rfl (LV.asg rfl) ?_
  refine WL.nil (thenQ.n ?_)
  refine WC.seq ?_
  refine WC.region ?_
  refine WL.lv rfl (LV.mv rfl) ?_
  refine WL.call rfl (XC.fn Try.func29 (by kernel_rfl) rfl rfl rfl) (cnan_calls (x := x) ) ?_
  rintro v_ w1 ⟨rfl, hk1⟩
  have hS1 := SH.same hS hk1
  refine WL.lv rfl (LV.asg rfl) ?_
  refine WL.nil (thenQ.n ?_)
  refine WC.seq ?_
  refine WC.region ?_
  refine WL.lv rfl (LV.mv rfl) ?_
  refine WL.call rfl (XC.fn Try.func29 (by kernel_rfl) rfl rfl rfl) (cnan_calls (x := y) ) ?_
  rintro v_ w2 ⟨rfl, hk2⟩
  have hS2 := SH.same hS1 hk2
  refine WL.lv rfl (LV.asg rfl) ?_
  refine WL.nil (thenQ.n ?_)
  iterate 2 refine WC.seq ?_
  refine WC.region ?_
  refine WL.lv rfl (LV.mv rfl) ?_
  refine WL.nil (thenQ.n ?_)
  refine WC.condF rfl ?_
  refine WC.skip (thenQ.n ?_)
  iterate 2 refine WC.seq ?_
  refine WC.region ?_
  refine WL.lv rfl (LV.mv rfl) ?_
  refine WL.nil (thenQ.n ?_)
  refine WC.condF rfl ?_
  refine WC.skip (thenQ.n ?_)
  iterate 2 refine WC.seq ?_
  refine WC.region ?_
  iterate 2 refine WL.lv rfl (LV.mv rfl) ?_
  refine WL.lv rfl (LV.ltI rfl rfl) ?_
  refine WL.nil (thenQ.n ?_)
  refine WC.condP (p := x < y) rfl (fun hc1 => ?_) (fun hc1 => ?_)
  · skip
    refine WC.seq ?_
    refine WC.region ?_
    refine WL.lv rfl (LV.asg rfl) ?_
    refine WL.nil (thenQ.n ?_)
    refine WC.ret (thenQ.r <| ?_)
    exact ⟨_, fun a ha => res1 rfl ha rfl, congrArg (Value.int .i64) (by have h_ := Cw.cmpi_is x y; omega), hS2.kb⟩
  · skip
    refine WC.skip (thenQ.n ?_)
    iterate 2 refine WC.seq ?_
    refine WC.region ?_
    iterate 2 refine WL.lv rfl (LV.mv rfl) ?_
    refine WL.lv rfl (LV.gtI rfl rfl) ?_
    refine WL.nil (thenQ.n ?_)
    refine WC.condP (p := x > y) rfl (fun hc2 => ?_) (fun hc2 => ?_)
    · skip
      refine WC.seq ?_
      refine WC.region ?_
      refine WL.lv rfl (LV.asg rfl) ?_
      refine WL.nil (thenQ.n ?_)
      refine WC.ret (thenQ.r <| ?_)
      exact ⟨_, fun a ha => res1 rfl ha rfl, congrArg (Value.int .i64) (by have h_ := Cw.cmpi_is x y; omega), hS2.kb⟩
    · skip
      refine WC.skip (thenQ.n ?_)
      refine WC.seq ?_
      refine WC.region ?_
      refine WL.lv rfl (LV.asg rfl) ?_
      refine WL.nil (thenQ.n ?_)
      refine WC.ret (?_)
      exact ⟨_, fun a ha => res1 rfl ha rfl, congrArg (Value.int .i64) (by have h_ := Cw.cmpi_is x y; omega), hS2.kb⟩

theorem cor_calls {w : World} {A_vals : Option Addr} {n_vals c_vals : Nat} {vals : List Int} (h_vals : St No w (Rd eI (.slice A_vals n_vals c_vals) vals)) (hn_vals : vals.length = n_vals)  :
    Calls Try.prog 21 #[(.slice A_vals n_vals c_vals)] w fun e w' => ∃ v, e = .returned v ∧ (fun v w' => v = .int .i64 (Cw.ORL vals) ∧ KB No w w') v w' := by
  subst hn_vals
  have hma := Rd.max h_vals.now
  have hS : SH w No w [] := SH.nil _ _
  refine calls (l := litOf [(.slice A_vals vals.length c_vals)] 0) Try.func21 rfl (n := 18) rfl (Nat.le_of_ble_eq_true rfl) (lit_args _) ?_
  refine WC.seq ?_
  refine WC.region ?_
  refine WL.lv rfl (LV.asg rfl) ?_
  refine WL.nil (thenQ.n ?_)
  refine WC.seq ?_
  refine WC.region ?_
  refine WL.lv rfl (LV.asg rfl) ?_
  refine WL.nil (thenQ.n ?_)
  iterate 2 refine WC.seq ?_
  refine WC.region ?_
  refine WL.lv rfl (LV.mv rfl) ?_
  refine WL.lv rfl (LV.lenL Try.underlying59 rfl) ?_
  refine WL.lv rfl (LV.mv rfl) ?_
  refine WL.nil (thenQ.n ?_)
  refine WC.block ?_
  refine WC.loop (fun m_ f_ w_ => ∃ (ix : Int), (0 ≤ ix) ∧ (ix ≤ (vals.length : Int)) ∧ (Cw.ORL (vals.drop ix.toNat) = Cw.ORL vals) ∧ SH w No w_ [] ∧ m_ = (((vals.length : Int) - ix).toNat) ∧ Weak (lit [(3, (.int .i64 0)), (6, (.slice A_vals vals.length c_vals)), (7, (.int .i64 (vals.length : Int))), (8, (.int .i64 ix))]) f_) _ ⟨0, by omega, by omega, rfl, hS, rfl, Weak.cons rfl <| Weak.cons rfl <| Weak.cons rfl <| Weak.cons rfl <| Weak.nil _⟩ ?_
  rintro m1 f1 w1 ⟨ix, ixlo, ixhi, q1, hL1, rfl, hw1⟩
  refine WC.weak hw1 ?_
  clear hw1
  refine WC.seq ?_
  refine WC.region ?_
  refine WL.lv rfl (LV.ltI rfl rfl) ?_
  refine WL.nil (thenQ.n ?_)
  refine WC.seq ?_
  refine WC.condP (p := ix < (vals.length : Int)) rfl (fun hk => ?_) (fun hk => ?_)
  · skip
    refine WC.skip (thenQ.n ?_)
    refine WC.seq ?_
    refine WC.block ?_
    refine WC.seq ?_
    refine WC.region ?_
    obtain ⟨A1, c1, e1, g1⟩ := St.elt (SH.stN hL1 h_vals) 0 ix (by omega) (by omega)
    refine WL.lv rfl (LV.idxA Try.underlying59 ti3.sz rfl e1 rfl (by omega) (by omega)) ?_
    refine WL.lv rfl (LV.load1 (v := (.int .i64 (gI vals (ix)))) Try.underlying3 rfl rfl (g1 _ (KB.refl No _) 0 _ rfl)) ?_
    refine WL.lv rfl (LV.asg rfl) ?_
    refine WL.nil (thenQ.n ?_)
    refine WC.seq ?_
    refine WC.region ?_
    iterate 2 refine WL.lv rfl (LV.mv rfl) ?_
    refine WL.lv rfl (LV.neI rfl rfl) ?_
    refine WL.nil (thenQ.n ?_)
    refine WC.condP (p := (gI vals (ix)) ≠ 0) rfl (fun hc1 => ?_) (fun hc1 => ?_)
    · skip
      refine WC.seq ?_
      refine WC.region ?_
      refine WL.lv rfl (LV.mv rfl) ?_
      refine WL.lv rfl (LV.asg rfl) ?_
      refine WL.nil (thenQ.n ?_)
      refine WC.ret (blockQ.r <| thenQ.r <| thenQ.r <| blockQ.r <| thenQ.r <| ?_)
      exact ⟨_, fun a ha => res1 rfl ha rfl, congrArg (Value.int .i64) (by first | (rw [← q1, Cw.ORL_end (by omega)]; done) | (rw [← q1, Cw.ORL_at ixlo hk, if_pos (by omega)])), hL1.kb⟩
    · skip
      refine WC.skip (blockQ.n <| thenQ.n ?_)
      refine WC.region ?_
      refine WL.lv rfl (LV.add rfl rfl (wr64 (by omega) (by omega))) ?_
      refine WL.lv rfl (LV.mv rfl) ?_
      refine WL.nil (thenQ.n ?_)
      exact ⟨_, by omega, ix + 1, by omega, by omega, (by rw [← q1, Cw.ORL_at ixlo hk, if_neg (by omega)]), hL1, rfl, Weak.cons rfl <| Weak.cons rfl <| Weak.cons rfl <| Weak.cons rfl <| Weak.nil _⟩
  · skip
    refine WC.exit (thenQ.x <| thenQ.x <| blockQ.hit <| thenQ.n ?_)
    refine WC.seq ?_
    refine WC.region ?_
    refine WL.lv rfl (LV.mv rfl) ?_
    refine WL.lv rfl (LV.asg rfl) ?_
    refine WL.nil (thenQ.n ?_)
    refine WC.ret (?_)
    exact ⟨_, fun a ha => res1 rfl ha rfl, congrArg (Value.int .i64) (by first | (rw [← q1, Cw.ORL_end (by omega)]; done) | (rw [← q1, Cw.ORL_at ixlo hk, if_pos (by omega)])), hL1.kb⟩

theorem cnanu_calls {w : World} {x : Int}  :
    Calls Try.prog 30 #[(.int .u64 x)] w fun e w' => ∃ v, e = .returned v ∧ (fun v w' => v = .bool false ∧ KB No w w') v w' := by
  have hS : SH w No w [] := SH.nil _ _
  refine calls (l := litOf [(.int .u64 x)] 0) Try.func30 rfl (n := 6) rfl (Nat.le_of_ble_eq_true rfl) (lit_args _) ?_
  refine WC.seq ?_
  refine WC.region ?_
  refine WL.lv rfl (LV.asg rfl) ?_
  refine WL.nil (thenQ.n ?_)
  refine WC.seq ?_
  refine WC.region ?_
  iterate 2 refine WL.lv rfl (LV.mv rfl) ?_
  refine WL.lv rfl (LV.neI rfl rfl) ?_
  refine WL.lv rfl (LV.asg rfl) ?_
  refine WL.nil (thenQ.n ?_)
  refine WC.ret (?_)
  exact ⟨_, fun a ha => res1 rfl ha rfl, congrArg Value.bool (decide_eq_false (fun h_ => h_ rfl)), hS.kb⟩

theorem ccmpu_calls {w : World} {x : Int} {y : Int}  :
    Calls Try.prog 23 #[(.int .u64 x), (.int .u64 y)] w fun e w' => ∃ v, e = .returned v ∧ (fun v w' => v = .int .i64 (Cw.CMPI x y) ∧ KB No w w') v w' := by
  have hS : SH w No w [] := SH.nil _ _
  refine calls (l := litOf [(.int .u64 x), (.int .u64 y)] 0) Try.func23 rfl (n := 20) rfl (Nat.le_of_ble_eq_true rfl) (lit_args _) ?_
  refine WC.seq ?_
  refine WC.region ?_
  refine WL.lv rfl (LV.asg rfl) ?_
  refine WL.nil (thenQ.n ?_)
  refine WC.seq ?_
  refine WC.region ?_
  refine WL.lv rfl (LV.mv rfl) ?_
  refine WL.call rfl (XC.fn Try.func30 (by kernel_rfl) rfl rfl rfl) (cnanu_calls (x := x) ) ?_
  rintro v_ w1 ⟨rfl, hk1⟩
  have hS1 := SH.same hS hk1
  refine WL.lv rfl (LV.asg rfl) ?_
  refine WL.nil (thenQ.n ?_)
  refine WC.seq ?_
  refine WC.region ?_
  refine WL.lv rfl (LV.mv rfl) ?_
  refine WL.call rfl (XC.fn Try.func30 (by kernel_rfl) rfl rfl rfl) (cnanu_calls (x := y) ) ?_
  rintro v_ w2 ⟨rfl, hk2⟩
  have hS2 := SH.same hS1 hk2
  refine WL.lv rfl (LV.asg rfl) ?_
  refine WL.nil (thenQ.n ?_)
  iterate 2 refine WC.seq ?_
  refine WC.region ?_
  refine WL.lv rfl (LV.mv rfl) ?_
  refine WL.nil (thenQ.n ?_)
  refine WC.condF rfl ?_
  refine WC.skip (thenQ.n ?_)
  iterate 2 refine WC.seq ?_
  refine WC.region ?_
  refine WL.lv rfl (LV.mv rfl) ?_
  refine WL.nil (thenQ.n ?_)
  refine WC.condF rfl ?_
  refine WC.skip (thenQ.n ?_)
  iterate 2 refine WC.seq ?_
  refine WC.region ?_
  iterate 2 refine WL.lv rfl (LV.mv rfl) ?_
  refine WL.lv rfl (LV.ltI rfl rfl) ?_
  refine WL.nil (thenQ.n ?_)
  refine WC.condP (p := x < y) rfl (fun hc1 => ?_) (fun hc1 => ?_)
  · skip
    refine WC.seq ?_
    refine WC.region ?_
    refine WL.lv rfl (LV.asg rfl) ?_
    refine WL.nil (thenQ.n ?_)
    refine WC.ret (thenQ.r <| ?_)
    exact ⟨_, fun a ha => res1 rfl ha rfl, congrArg (Value.int .i64) (by have h_ := Cw.cmpi_is x y; omega), hS2.kb⟩
  · skip
    refine WC.skip (thenQ.n ?_)
    iterate 2 refine WC.seq ?_
    refine WC.region ?_
    iterate 2 refine WL.lv rfl (LV.mv rfl) ?_
    refine WL.lv rfl (LV.gtI rfl rfl) ?_
    refine WL.nil (thenQ.n ?_)
    refine WC.condP (p := x > y) rfl (fun hc2 => ?_) (fun hc2 => ?_)
    · skip
      refine WC.seq ?_
      refine WC.region ?_
      refine WL.lv rfl (LV.asg rfl) ?_
      refine WL.nil (thenQ.n ?_)
      refine WC.ret (thenQ.r <| ?_)
      exact ⟨_, fun a ha => res1 rfl ha rfl, congrArg (Value.int .i64) (by have h_ := Cw.cmpi_is x y; omega), hS2.kb⟩
    · skip
      refine WC.skip (thenQ.n ?_)
      refine WC.seq ?_
      refine WC.region ?_
      refine WL.lv rfl (LV.asg rfl) ?_
      refine WL.nil (thenQ.n ?_)
      refine WC.ret (?_)
      exact ⟨_, fun a ha => res1 rfl ha rfl, congrArg (Value.int .i64) (by have h_ := Cw.cmpi_is x y; omega), hS2.kb⟩

theorem orderw_calls {w : World} {a : (Int × Int)} {b : (Int × Int)}  :
    Calls Try.prog 12 #[(.agg #[(.int .i64 ((a).1)), (.int .u64 ((a).2))]), (.agg #[(.int .i64 ((b).1)), (.int .u64 ((b).2))])] w fun e w' => ∃ v, e = .returned v ∧ (fun v w' => v = .int .i64 (Cw.ORL [Cw.CMPI a.1 b.1, Cw.CMPI a.2 b.2]) ∧ KB No w w') v w' := by
  have hS : SH w No w [] := SH.nil _ _
  refine calls (l := litOf [(.agg #[(.int .i64 ((a).1)), (.int .u64 ((a).2))]), (.agg #[(.int .i64 ((b).1)), (.int .u64 ((b).2))])] 0) Try.func12 rfl (n := 17) rfl (Nat.le_of_ble_eq_true rfl) (lit_args _) ?_
  refine WC.seq ?_
  refine WC.region ?_
  refine WL.xe rfl (XE.box #[(.int .i64 ((a).1)), (.int .u64 ((a).2))] hS rfl rfl) ?_
  rintro _ w1 ⟨b1, rfl, hS1, hk1⟩
  refine WL.xe rfl (XE.box #[(.int .i64 ((b).1)), (.int .u64 ((b).2))] hS1 rfl rfl) ?_
  rintro _ w2 ⟨b2, rfl, hS2, hk2⟩
  refine WL.lv rfl (LV.asg rfl) ?_
  refine WL.nil (thenQ.n ?_)
  refine WC.seq ?_
  have hS3 := SH.drew hS2
  refine WC.regionD [] (fun w_ => KB No w2.drew w_) [(.pure, 0), (.look, 1), (.pure, 2), (.look, 3), (.pure, 5), (.look, 6), (.pure, 7), (.look, 8), (.forced, 4), (.forced, 9), (.forced, 10), (.forced, 11), (.pure, 12)] (by kernel_rfl) (by kernel_rfl) (KB.refl _ _) ?_
  refine WS.pure rfl rfl (fun _ => LV.fieldA Try.underlying25 rfl ti3.sz rfl) ?_
  refine WS.look rfl rfl (fun _ hk_ => LV.load1 Try.underlying3 rfl rfl (Blk.cellN (SH.at hS3 (.tail _ (.head _))) 0 rfl _ hk_)) ?_
  refine WS.pure rfl rfl (fun _ => LV.fieldA Try.underlying25 rfl ti3.sz rfl) ?_
  refine WS.look rfl rfl (fun _ hk_ => LV.load1 Try.underlying3 rfl rfl (Blk.cellN (SH.at hS3 (.head _)) 0 rfl _ hk_)) ?_
  refine WS.pure rfl rfl (fun _ => LV.fieldA Try.underlying25 rfl ti23.sz rfl) ?_
  refine WS.look rfl rfl (fun _ hk_ => LV.load1 Try.underlying23 rfl rfl (Blk.cellN (SH.at hS3 (.tail _ (.head _))) 1 rfl _ hk_)) ?_
  refine WS.pure rfl rfl (fun _ => LV.fieldA Try.underlying25 rfl ti23.sz rfl) ?_
  refine WS.look rfl rfl (fun _ hk_ => LV.load1 Try.underlying23 rfl rfl (Blk.cellN (SH.at hS3 (.head _)) 1 rfl _ hk_)) ?_
  refine WS.call rfl rfl (XC.fn Try.func22 (by kernel_rfl) rfl rfl rfl) (ccmp_calls (x := ((a).1)) (y := ((b).1)) ) ?_
  rintro v_ w3 ⟨rfl, hk3⟩
  have hS4 := SH.same hS3 hk3
  refine ⟨fun h_ => (KB.transN (KB.refl _ _) hk3), ?_⟩
  refine WS.call rfl rfl (XC.fn Try.func23 (by kernel_rfl) rfl rfl rfl) (ccmpu_calls (x := ((a).2)) (y := ((b).2)) ) ?_
  rintro v_ w4 ⟨rfl, hk4⟩
  have hS5 := SH.same hS4 hk4
  refine ⟨fun h_ => (KB.transN (KB.transN (KB.refl _ _) hk3) hk4), ?_⟩
  refine WS.xe rfl rfl (XE.buildSlice (E := eI) [(0, (.int .i64 (Cw.CMPI ((a).1) ((b).1)))), (1, (.int .i64 (Cw.CMPI ((a).2) ((b).2))))] #[(.int .i64 (Cw.CMPI ((a).1) ((b).1))), (.int .i64 (Cw.CMPI ((a).2) ((b).2)))] [Cw.CMPI ((a).1) ((b).1), Cw.CMPI ((a).2) ((b).2)] hS5 Try.underlying59 ti3 rfl (by decide) (by kernel_rfl) (.inr rfl) rfl rfl (by decide)) ?_
  rintro _ w5 ⟨b3, rfl, hS6, hk5⟩
  refine ⟨fun h_ => (KB.transN (KB.transN (KB.transN (KB.refl _ _) hk3) hk4) hk5), ?_⟩
  refine WS.call rfl rfl (XC.fn Try.func21 (by kernel_rfl) rfl rfl rfl) (cor_calls  (SH.rd hS6 (.head _)) rfl ) ?_
  rintro v_ w6 ⟨rfl, hk6⟩
  have hS7 := SH.same hS6 hk6
  refine ⟨fun h_ => (KB.transN (KB.transN (KB.transN (KB.transN (KB.refl _ _) hk3) hk4) hk5) hk6), ?_⟩
  refine WS.pure rfl rfl (fun _ => LV.asg rfl) ?_
  refine WS.nil (thenQ.n ?_)
  refine WC.ret (?_)
  exact ⟨_, fun a ha => res1 rfl ha rfl, congrArg (Value.int .i64) (by omega), hS7.kb⟩

end Go.Proofs.Ytannlhnjihielaa.W
