/- Labels in order, and the document's lines. -/
import Derived.Test.YtannlhnjihielaaProg
import Derived.Test.YtannlhnjihielaaTlA
import Derived.Test.YtannlhnjihielaaGvH
import Derived.Test.YtannlhnjihielaaGvX
import Derived.Test.YtannlhnjihielaaGvW
import Derived.Test.YtannlhnjihielaaGvJ
namespace Go.Proofs.Ytannlhnjihielaa
open Go Go.Gv Go.RowKit Go.Tly
set_option linter.unusedVariables false
set_option linter.unusedSimpArgs false
theorem ti3 : TI Try.prog 3 (.int .i64 0) 1 8 := by unfold TI; kernel_rfl
theorem ti4 : TI Try.prog 4 (.bool false) 1 1 := by unfold TI; kernel_rfl
theorem ti23 : TI Try.prog 23 (.int .u64 0) 1 8 := by unfold TI; kernel_rfl
theorem ti25 : TI Try.prog 25 (.agg #[(.int .i64 0), (.int .u64 0)]) 2 16 := by unfold TI; kernel_rfl
theorem ti38 : TI Try.prog 38 (.agg #[(.int .i64 0), (.int .i64 0), (.int .u64 0), (.bool false), (.string ⟨#[]⟩), (.bool false)]) 6 56 := by unfold TI; kernel_rfl

theorem cnan_calls {w : World} {x : Int}  :
    Calls Try.prog 29 #[(.int .i64 x)] w fun e w' => ∃ v, e = .returned v ∧ (fun v w' => v = .bool false ∧ KB No w w') v w' := by
  have hS : SH w No w [] := SH.nil _ _
  refine calls (l := litOf [(.int .i64 x)] 0) Try.func29 rfl (n := 6) rfl (Nat.le_of_ble_eq_true rfl) (lit_args _) ?_
  refine WC.seq ?_
  refine WC.region ?_
  refine WL.lv rfl (LV.asg rfl) ?_
  refine WL.nil (thenQ.n ?_)
  refine WC.seq ?_
  refine WC.region ?_
  iterate 2 refine WL.lv rfl (LV.mv rfl) ?_
  refine WL.lv rfl (LV.neI rfl rfl) ?_
  refine WL.lv rfl (LV.asg rfl) ?_
  refine WL.nil (thenQ.n ?_)
  refine WC.ret (?_)
  exact ⟨_, fun a ha => res1 rfl ha rfl, congrArg Value.bool (decide_eq_false (fun h_ => h_ rfl)), hS.kb⟩

theorem ccmp_calls {w : World} {x : Int} {y : Int}  :
    Calls Try.prog 22 #[(.int .i64 x), (.int .i64 y)] w fun e w' => ∃ v, e = .returned v ∧ (fun v w' => v = .int .i64 (Cm.CMPI x y) ∧ KB No w w') v w' := by
  have hS : SH w No w [] := SH.nil _ _
  refine calls (l := litOf [(.int .i64 x), (.int .i64 y)] 0) Try.func22 rfl (n := 20) rfl (Nat.le_of_ble_eq_true rfl) (lit_args _) ?_
  refine WC.seq ?_
  refine WC.region ?_
  refine WL.lv rfl (LV.asg rfl) ?_
  refine WL.nil (thenQ.n ?_)
  refine WC.seq ?_
  refine WC.region ?_
  refine WL.lv rfl (LV.mv rfl) ?_
  refine WL.call rfl (XC.fn Try.func29 (by kernel_rfl) rfl rfl rfl) (cnan_calls (x := x) ) ?_
  rintro v_ w1 ⟨rfl, hk1⟩
  have hS1 := SH.same hS hk1
  refine WL.lv rfl (LV.asg rfl) ?_
  refine WL.nil (thenQ.n ?_)
  refine WC.seq ?_
  refine WC.region ?_
  refine WL.lv rfl (LV.mv rfl) ?_
  refine WL.call rfl (XC.fn Try.func29 (by kernel_rfl) rfl rfl rfl) (cnan_calls (x := y) ) ?_
  rintro v_ w2 ⟨rfl, hk2⟩
  have hS2 := SH.same hS1 hk2
  refine WL.lv rfl (LV.asg rfl) ?_
  refine WL.nil (thenQ.n ?_)
  iterate 2 refine WC.seq ?_
  refine WC.region ?_
  refine WL.lv rfl (LV.mv rfl) ?_
  refine WL.nil (thenQ.n ?_)
  refine WC.condF rfl ?_
  refine WC.skip (thenQ.n ?_)
  iterate 2 refine WC.seq ?_
  refine WC.region ?_
  refine WL.lv rfl (LV.mv rfl) ?_
  refine WL.nil (thenQ.n ?_)
  refine WC.condF rfl ?_
  refine WC.skip (thenQ.n ?_)
  iterate 2 refine WC.seq ?_
  refine WC.region ?_
  iterate 2 refine WL.lv rfl (LV.mv rfl) ?_
  refine WL.lv rfl (LV.ltI rfl rfl) ?_
  refine WL.nil (thenQ.n ?_)
  refine WC.condP (p := x < y) rfl (fun hc1 => ?_) (fun hc1 => ?_)
  · skip
    refine WC.seq ?_
    refine WC.region ?_
    refine WL.lv rfl (LV.asg rfl) ?_
    refine WL.nil (thenQ.n ?_)
    refine WC.ret (thenQ.r <| ?_)
    exact ⟨_, fun a ha => res1 rfl ha rfl, congrArg (Value.int .i64) (by have h_ := Cm.cmpi_is x y; omega), hS2.kb⟩
  · skip
    refine WC.skip (thenQ.n ?_)
    iterate 2 refine WC.seq ?_
    refine WC.region ?_
    iterate 2 refine WL.lv rfl (LV.mv rfl) ?_
    refine WL.lv rfl (LV.gtI rfl rfl) ?_
    refine WL.nil (thenQ.n ?_)
    refine WC.condP (p := x > y) rfl (fun hc2 => ?_) (fun hc2 => ?_)
    · skip
      refine WC.seq ?_
      refine WC.region ?_
      refine WL.lv rfl (LV.asg rfl) ?_
      refine WL.nil (thenQ.n ?_)
      refine WC.ret (thenQ.r <| ?_)
      exact ⟨_, fun a ha => res1 rfl ha rfl, congrArg (Value.int .i64) (by have h_ := Cm.cmpi_is x y; omega), hS2.kb⟩
    · skip
      refine WC.skip (thenQ.n ?_)
      refine WC.seq ?_
      refine WC.region ?_
      refine WL.lv rfl (LV.asg rfl) ?_
      refine WL.nil (thenQ.n ?_)
      refine WC.ret (?_)
      exact ⟨_, fun a ha => res1 rfl ha rfl, congrArg (Value.int .i64) (by have h_ := Cm.cmpi_is x y; omega), hS2.kb⟩

theorem cor_calls {w : World} {A_vals : Option Addr} {n_vals c_vals : Nat} {vals : List Int} (h_vals : St No w (Rd eI (.slice A_vals n_vals c_vals) vals)) (hn_vals : vals.length = n_vals)  :
    Calls Try.prog 21 #[(.slice A_vals n_vals c_vals)] w fun e w' => ∃ v, e = .returned v ∧ (fun v w' => v = .int .i64 (Cm.ORL vals) ∧ KB No w w') v w' := by
  subst hn_vals
  have hma := Rd.max h_vals.now
  have hS : SH w No w [] := SH.nil _ _
  refine calls (l := litOf [(.slice A_vals vals.length c_vals)] 0) Try.func21 rfl (n := 18) rfl (Nat.le_of_ble_eq_true rfl) (lit_args _) ?_
  refine WC.seq ?_
  refine WC.region ?_
  refine WL.lv rfl (LV.asg rfl) ?_
  refine WL.nil (thenQ.n ?_)
  refine WC.seq ?_
  refine WC.region ?_
  refine WL.lv rfl (LV.asg rfl) ?_
  refine WL.nil (thenQ.n ?_)
  iterate 2 refine WC.seq ?_
  refine WC.region ?_
  refine WL.lv rfl (LV.mv rfl) ?_
  refine WL.lv rfl (LV.lenL Try.underlying59 rfl) ?_
  refine WL.lv rfl (LV.mv rfl) ?_
  refine WL.nil (thenQ.n ?_)
  refine WC.block ?_
  refine WC.loop (fun m_ f_ w_ => ∃ (ix : Int), (0 ≤ ix) ∧ (ix ≤ (vals.length : Int)) ∧ (Cm.ORL (vals.drop ix.toNat) = Cm.ORL vals) ∧ SH w No w_ [] ∧ m_ = (((vals.length : Int) - ix).toNat) ∧ Weak (lit [(3, (.int .i64 0)), (6, (.slice A_vals vals.length c_vals)), (7, (.int .i64 (vals.length : Int))), (8, (.int .i64 ix))]) f_) _ ⟨0, by omega, by omega, rfl, hS, rfl, Weak.cons rfl <| Weak.cons rfl <| Weak.cons rfl <| Weak.cons rfl <| Weak.nil _⟩ ?_
  rintro m1 f1 w1 ⟨ix, ixlo, ixhi, q1, hL1, rfl, hw1⟩
  refine WC.weak hw1 ?_
  clear hw1
  refine WC.seq ?_
  refine WC.region ?_
  refine WL.lv rfl (LV.ltI rfl rfl) ?_
  refine WL.nil (thenQ.n ?_)
  refine WC.seq ?_
  refine WC.condP (p := ix < (vals.length : Int)) rfl (fun hk => ?_) (fun hk => ?_)
  · skip
    refine WC.skip (thenQ.n ?_)
    refine WC.seq ?_
    refine WC.block ?_
    refine WC.seq ?_
    refine WC.region ?_
    obtain ⟨A1, c1, e1, g1⟩ := St.elt (SH.stN hL1 h_vals) 0 ix (by omega) (by omega)
    refine WL.lv rfl (LV.idxA Try.underlying59 ti3.sz rfl e1 rfl (by omega) (by omega)) ?_
    refine WL.lv rfl (LV.load1 (v := (.int .i64 (gI vals (ix)))) Try.underlying3 rfl rfl (g1 _ (KB.refl No _) 0 _ rfl)) ?_
    refine WL.lv rfl (LV.asg rfl) ?_
    refine WL.nil (thenQ.n ?_)
    refine WC.seq ?_
    refine WC.region ?_
    iterate 2 refine WL.lv rfl (LV.mv rfl) ?_
    refine WL.lv rfl (LV.neI rfl rfl) ?_
    refine WL.nil (thenQ.n ?_)
    refine WC.condP (p := (gI vals (ix)) ≠ 0) rfl (fun hc1 => ?_) (fun hc1 => ?_)
    · skip
      refine WC.seq ?_
      refine WC.region ?_
      refine WL.lv rfl (LV.mv rfl) ?_
      refine WL.lv rfl (LV.asg rfl) ?_
      refine WL.nil (thenQ.n ?_)
      refine WC.ret (blockQ.r <| thenQ.r <| thenQ.r <| blockQ.r <| thenQ.r <| ?_)
      exact ⟨_, fun a ha => res1 rfl ha rfl, congrArg (Value.int .i64) (by first | (rw [← q1, Cm.ORL_end (by omega)]; done) | (rw [← q1, Cm.ORL_at ixlo hk, if_pos (by omega)])), hL1.kb⟩
    · skip
      refine WC.skip (blockQ.n <| thenQ.n ?_)
      refine WC.region ?_
      refine WL.lv rfl (LV.add rfl rfl (wr64 (by omega) (by omega))) ?_
      refine WL.lv rfl (LV.mv rfl) ?_
      refine WL.nil (thenQ.n ?_)
      exact ⟨_, by omega, ix + 1, by omega, by omega, (by rw [← q1, Cm.ORL_at ixlo hk, if_neg (by omega)]), hL1, rfl, Weak.cons rfl <| Weak.cons rfl <| Weak.cons rfl <| Weak.cons rfl <| Weak.nil _⟩
  · skip
    refine WC.exit (thenQ.x <| thenQ.x <| blockQ.hit <| thenQ.n ?_)
    refine WC.seq ?_
    refine WC.region ?_
    refine WL.lv rfl (LV.mv rfl) ?_
    refine WL.lv rfl (LV.asg rfl) ?_
    refine WL.nil (thenQ.n ?_)
    refine WC.ret (?_)
    exact ⟨_, fun a ha => res1 rfl ha rfl, congrArg (Value.int .i64) (by first | (rw [← q1, Cm.ORL_end (by omega)]; done) | (rw [← q1, Cm.ORL_at ixlo hk, if_pos (by omega)])), hL1.kb⟩

theorem cnanu_calls {w : World} {x : Int}  :
    Calls Try.prog 30 #[(.int .u64 x)] w fun e w' => ∃ v, e = .returned v ∧ (fun v w' => v = .bool false ∧ KB No w w') v w' := by
  have hS : SH w No w [] := SH.nil _ _
  refine calls (l := litOf [(.int .u64 x)] 0) Try.func30 rfl (n := 6) rfl (Nat.le_of_ble_eq_true rfl) (lit_args _) ?_
  refine WC.seq ?_
  refine WC.region ?_
  refine WL.lv rfl (LV.asg rfl) ?_
  refine WL.nil (thenQ.n ?_)
  refine WC.seq ?_
  refine WC.region ?_
  iterate 2 refine WL.lv rfl (LV.mv rfl) ?_
  refine WL.lv rfl (LV.neI rfl rfl) ?_
  refine WL.lv rfl (LV.asg rfl) ?_
  refine WL.nil (thenQ.n ?_)
  refine WC.ret (?_)
  exact ⟨_, fun a ha => res1 rfl ha rfl, congrArg Value.bool (decide_eq_false (fun h_ => h_ rfl)), hS.kb⟩

theorem ccmpu_calls {w : World} {x : Int} {y : Int}  :
    Calls Try.prog 23 #[(.int .u64 x), (.int .u64 y)] w fun e w' => ∃ v, e = .returned v ∧ (fun v w' => v = .int .i64 (Cm.CMPI x y) ∧ KB No w w') v w' := by
  have hS : SH w No w [] := SH.nil _ _
  refine calls (l := litOf [(.int .u64 x), (.int .u64 y)] 0) Try.func23 rfl (n := 20) rfl (Nat.le_of_ble_eq_true rfl) (lit_args _) ?_
  refine WC.seq ?_
  refine WC.region ?_
  refine WL.lv rfl (LV.asg rfl) ?_
  refine WL.nil (thenQ.n ?_)
  refine WC.seq ?_
  refine WC.region ?_
  refine WL.lv rfl (LV.mv rfl) ?_
  refine WL.call rfl (XC.fn Try.func30 (by kernel_rfl) rfl rfl rfl) (cnanu_calls (x := x) ) ?_
  rintro v_ w1 ⟨rfl, hk1⟩
  have hS1 := SH.same hS hk1
  refine WL.lv rfl (LV.asg rfl) ?_
  refine WL.nil (thenQ.n ?_)
  refine WC.seq ?_
  refine WC.region ?_
  refine WL.lv rfl (LV.mv rfl) ?_
  refine WL.call rfl (XC.fn Try.func30 (by kernel_rfl) rfl rfl rfl) (cnanu_calls (x := y) ) ?_
  rintro v_ w2 ⟨rfl, hk2⟩
  have hS2 := SH.same hS1 hk2
  refine WL.lv rfl (LV.asg rfl) ?_
  refine WL.nil (thenQ.n ?_)
  iterate 2 refine WC.seq ?_
  refine WC.region ?_
  refine WL.lv rfl (LV.mv rfl) ?_
  refine WL.nil (thenQ.n ?_)
  refine WC.condF rfl ?_
  refine WC.skip (thenQ.n ?_)
  iterate 2 refine WC.seq ?_
  refine WC.region ?_
  refine WL.lv rfl (LV.mv rfl) ?_
  refine WL.nil (thenQ.n ?_)
  refine WC.condF rfl ?_
  refine WC.skip (thenQ.n ?_)
  iterate 2 refine WC.seq ?_
  refine WC.region ?_
  iterate 2 refine WL.lv rfl (LV.mv rfl) ?_
  refine WL.lv rfl (LV.ltI rfl rfl) ?_
  refine WL.nil (thenQ.n ?_)
  refine WC.condP (p := x < y) rfl (fun hc1 => ?_) (fun hc1 => ?_)
  · skip
    refine WC.seq ?_
    refine WC.region ?_
    refine WL.lv rfl (LV.asg rfl) ?_
    refine WL.nil (thenQ.n ?_)
    refine WC.ret (thenQ.r <| ?_)
    exact ⟨_, fun a ha => res1 rfl ha rfl, congrArg (Value.int .i64) (by have h_ := Cm.cmpi_is x y; omega), hS2.kb⟩
  · skip
    refine WC.skip (thenQ.n ?_)
    iterate 2 refine WC.seq ?_
    refine WC.region ?_
    iterate 2 refine WL.lv rfl (LV.mv rfl) ?_
    refine WL.lv rfl (LV.gtI rfl rfl) ?_
    refine WL.nil (thenQ.n ?_)
    refine WC.condP (p := x > y) rfl (fun hc2 => ?_) (fun hc2 => ?_)
    · skip
      refine WC.seq ?_
      refine WC.region ?_
      refine WL.lv rfl (LV.asg rfl) ?_
      refine WL.nil (thenQ.n ?_)
      refine WC.ret (thenQ.r <| ?_)
      exact ⟨_, fun a ha => res1 rfl ha rfl, congrArg (Value.int .i64) (by have h_ := Cm.cmpi_is x y; omega), hS2.kb⟩
    · skip
      refine WC.skip (thenQ.n ?_)
      refine WC.seq ?_
      refine WC.region ?_
      refine WL.lv rfl (LV.asg rfl) ?_
      refine WL.nil (thenQ.n ?_)
      refine WC.ret (?_)
      exact ⟨_, fun a ha => res1 rfl ha rfl, congrArg (Value.int .i64) (by have h_ := Cm.cmpi_is x y; omega), hS2.kb⟩

theorem order_calls {w : World} {a : Lb} {b : Lb}  :
    Calls Try.prog 12 #[(.agg #[(.int .i64 ((a).1)), (.int .u64 ((a).2))]), (.agg #[(.int .i64 ((b).1)), (.int .u64 ((b).2))])] w fun e w' => ∃ v, e = .returned v ∧ (fun v w' => v = .int .i64 (LO a b) ∧ KB No w w') v w' := by
  have hS : SH w No w [] := SH.nil _ _
  refine calls (l := litOf [(.agg #[(.int .i64 ((a).1)), (.int .u64 ((a).2))]), (.agg #[(.int .i64 ((b).1)), (.int .u64 ((b).2))])] 0) Try.func12 rfl (n := 17) rfl (Nat.le_of_ble_eq_true rfl) (lit_args _) ?_
  refine WC.seq ?_
  refine WC.region ?_
  refine WL.xe rfl (XE.box #[(.int .i64 ((a).1)), (.int .u64 ((a).2))] hS rfl rfl) ?_
  rintro _ w1 ⟨b1, rfl, hS1, hk1⟩
  refine WL.xe rfl (XE.box #[(.int .i64 ((b).1)), (.int .u64 ((b).2))] hS1 rfl rfl) ?_
  rintro _ w2 ⟨b2, rfl, hS2, hk2⟩
  refine WL.lv rfl (LV.asg rfl) ?_
  refine WL.nil (thenQ.n ?_)
  refine WC.seq ?_
  have hS3 := SH.drew hS2
  refine WC.regionD [] (fun w_ => KB No w2.drew w_) [(.pure, 0), (.look, 1), (.pure, 2), (.look, 3), (.pure, 5), (.look, 6), (.pure, 7), (.look, 8), (.forced, 4), (.forced, 9), (.forced, 10), (.forced, 11), (.pure, 12)] (by kernel_rfl) (by kernel_rfl) (KB.refl _ _) ?_
  refine WS.pure rfl rfl (fun _ => LV.fieldA Try.underlying25 rfl ti3.sz rfl) ?_
  refine WS.look rfl rfl (fun _ hk_ => LV.load1 Try.underlying3 rfl rfl (Blk.cellN (SH.at hS3 (.tail _ (.head _))) 0 rfl _ hk_)) ?_
  refine WS.pure rfl rfl (fun _ => LV.fieldA Try.underlying25 rfl ti3.sz rfl) ?_
  refine WS.look rfl rfl (fun _ hk_ => LV.load1 Try.underlying3 rfl rfl (Blk.cellN (SH.at hS3 (.head _)) 0 rfl _ hk_)) ?_
  refine WS.pure rfl rfl (fun _ => LV.fieldA Try.underlying25 rfl ti23.sz rfl) ?_
  refine WS.look rfl rfl (fun _ hk_ => LV.load1 Try.underlying23 rfl rfl (Blk.cellN (SH.at hS3 (.tail _ (.head _))) 1 rfl _ hk_)) ?_
  refine WS.pure rfl rfl (fun _ => LV.fieldA Try.underlying25 rfl ti23.sz rfl) ?_
  refine WS.look rfl rfl (fun _ hk_ => LV.load1 Try.underlying23 rfl rfl (Blk.cellN (SH.at hS3 (.head _)) 1 rfl _ hk_)) ?_
  refine WS.call rfl rfl (XC.fn Try.func22 (by kernel_rfl) rfl rfl rfl) (ccmp_calls (x := ((a).1)) (y := ((b).1)) ) ?_
  rintro v_ w3 ⟨rfl, hk3⟩
  have hS4 := SH.same hS3 hk3
  refine ⟨fun h_ => (KB.transN (KB.refl _ _) hk3), ?_⟩
  refine WS.call rfl rfl (XC.fn Try.func23 (by kernel_rfl) rfl rfl rfl) (ccmpu_calls (x := ((a).2)) (y := ((b).2)) ) ?_
  rintro v_ w4 ⟨rfl, hk4⟩
  have hS5 := SH.same hS4 hk4
  refine ⟨fun h_ => (KB.transN (KB.transN (KB.refl _ _) hk3) hk4), ?_⟩
  refine WS.xe rfl rfl (XE.buildSlice (E := eI) [(0, (.int .i64 (Cm.CMPI ((a).1) ((b).1)))), (1, (.int .i64 (Cm.CMPI ((a).2) ((b).2))))] #[(.int .i64 (Cm.CMPI ((a).1) ((b).1))), (.int .i64 (Cm.CMPI ((a).2) ((b).2)))] [Cm.CMPI ((a).1) ((b).1), Cm.CMPI ((a).2) ((b).2)] hS5 Try.underlying59 ti3 rfl (by decide) (by kernel_rfl) (.inr rfl) rfl rfl (by decide)) ?_
  rintro _ w5 ⟨b3, rfl, hS6, hk5⟩
  refine ⟨fun h_ => (KB.transN (KB.transN (KB.transN (KB.refl _ _) hk3) hk4) hk5), ?_⟩
  refine WS.call rfl rfl (XC.fn Try.func21 (by kernel_rfl) rfl rfl rfl) (cor_calls  (SH.rd hS6 (.head _)) rfl ) ?_
  rintro v_ w6 ⟨rfl, hk6⟩
  have hS7 := SH.same hS6 hk6
  refine ⟨fun h_ => (KB.transN (KB.transN (KB.transN (KB.transN (KB.refl _ _) hk3) hk4) hk5) hk6), ?_⟩
  refine WS.pure rfl rfl (fun _ => LV.asg rfl) ?_
  refine WS.nil (thenQ.n ?_)
  refine WC.ret (?_)
  exact ⟨_, fun a ha => res1 rfl ha rfl, congrArg (Value.int .i64) (lo_cmp a b), hS7.kb⟩

theorem rorder_calls {w : World} {a : Lb} {b : Lb}  :
    Calls Try.prog 13 #[(.agg #[(.int .i64 ((a).1)), (.int .u64 ((a).2))]), (.agg #[(.int .i64 ((b).1)), (.int .u64 ((b).2))])] w fun e w' => ∃ v, e = .returned v ∧ (fun v w' => v = .int .i64 (LO a b) ∧ KB No w w') v w' := by
  have hlo_ := lo_is a b
  have hex_ : a = b ↔ (a.1 = b.1 ∧ a.2 = b.2) := Prod.ext_iff
  rw [hex_] at hlo_
  unfold LTL at hlo_
  have hS : SH w No w [] := SH.nil _ _
  refine calls (l := litOf [(.agg #[(.int .i64 ((a).1)), (.int .u64 ((a).2))]), (.agg #[(.int .i64 ((b).1)), (.int .u64 ((b).2))])] 0) Try.func13 rfl (n := 27) rfl (Nat.le_of_ble_eq_true rfl) (lit_args _) ?_
  refine WC.seq ?_
  refine WC.region ?_
  refine WL.xe rfl (XE.box #[(.int .i64 ((a).1)), (.int .u64 ((a).2))] hS rfl rfl) ?_
  rintro _ w1 ⟨b1, rfl, hS1, hk1⟩
  refine WL.xe rfl (XE.box #[(.int .i64 ((b).1)), (.int .u64 ((b).2))] hS1 rfl rfl) ?_
  rintro _ w2 ⟨b2, rfl, hS2, hk2⟩
  refine WL.lv rfl (LV.asg rfl) ?_
  refine WL.nil (thenQ.n ?_)
  iterate 2 refine WC.seq ?_
  refine WC.region ?_
  refine WL.lv rfl (LV.fieldA Try.underlying25 rfl ti3.sz rfl) ?_
  refine WL.lv rfl (LV.load1 Try.underlying3 rfl rfl (Blk.cellN (SH.at hS2 (.tail _ (.head _))) 0 rfl _ (KB.refl No _))) ?_
  refine WL.lv rfl (LV.fieldA Try.underlying25 rfl ti3.sz rfl) ?_
  refine WL.lv rfl (LV.load1 Try.underlying3 rfl rfl (Blk.cellN (SH.at hS2 (.head _)) 0 rfl _ (KB.refl No _))) ?_
  rcases Decidable.em (((a).1) < ((b).1)) with hg1 | hg1
  · refine WL.lv rfl (LV.as (LV.ltI rfl rfl) (decide_eq_true hg1)) ?_
    refine WL.lv rfl (LV.mv rfl) ?_
    iterate 12 refine WL.off rfl ?_
    refine WL.lv rfl (LV.pickT rfl rfl) ?_
    refine WL.nil (thenQ.n ?_)
    refine WC.condT rfl ?_
    refine WC.seq ?_
    refine WC.region ?_
    refine WL.lv rfl (LV.asg rfl) ?_
    refine WL.nil (thenQ.n ?_)
    refine WC.ret (thenQ.r <| ?_)
    exact ⟨_, fun a ha => res1 rfl ha rfl, congrArg (Value.int .i64) (by omega), hS2.kb⟩
  · refine WL.lv rfl (LV.as (LV.ltI rfl rfl) (decide_eq_false hg1)) ?_
    refine WL.lv rfl (LV.mv rfl) ?_
    refine WL.lv rfl (LV.fieldA Try.underlying25 rfl ti3.sz rfl) ?_
    refine WL.lv rfl (LV.load1 Try.underlying3 rfl rfl (Blk.cellN (SH.at hS2 (.tail _ (.head _))) 0 rfl _ (KB.refl No _))) ?_
    refine WL.lv rfl (LV.fieldA Try.underlying25 rfl ti3.sz rfl) ?_
    refine WL.lv rfl (LV.load1 Try.underlying3 rfl rfl (Blk.cellN (SH.at hS2 (.head _)) 0 rfl _ (KB.refl No _))) ?_
    rcases Decidable.em (((a).1) = ((b).1)) with hg2 | hg2
    · refine WL.lv rfl (LV.as (LV.eqI rfl rfl) (decide_eq_true hg2)) ?_
      refine WL.lv rfl (LV.mv rfl) ?_
      refine WL.lv rfl (LV.fieldA Try.underlying25 rfl ti23.sz rfl) ?_
      refine WL.lv rfl (LV.load1 Try.underlying23 rfl rfl (Blk.cellN (SH.at hS2 (.tail _ (.head _))) 1 rfl _ (KB.refl No _))) ?_
      refine WL.lv rfl (LV.fieldA Try.underlying25 rfl ti23.sz rfl) ?_
      refine WL.lv rfl (LV.load1 Try.underlying23 rfl rfl (Blk.cellN (SH.at hS2 (.head _)) 1 rfl _ (KB.refl No _))) ?_
      refine WL.lv rfl (LV.ltI rfl rfl) ?_
      refine WL.lv rfl (LV.pickT rfl rfl) ?_
      refine WL.lv rfl (LV.pickF rfl rfl) ?_
      refine WL.nil (thenQ.n ?_)
      refine WC.condP (p := ((a).2) < ((b).2)) rfl (fun hc1 => ?_) (fun hc1 => ?_)
      · skip
        refine WC.seq ?_
        refine WC.region ?_
        refine WL.lv rfl (LV.asg rfl) ?_
        refine WL.nil (thenQ.n ?_)
        refine WC.ret (thenQ.r <| ?_)
        exact ⟨_, fun a ha => res1 rfl ha rfl, congrArg (Value.int .i64) (by omega), hS2.kb⟩
      · skip
        refine WC.skip (thenQ.n ?_)
        iterate 2 refine WC.seq ?_
        refine WC.region ?_
        refine WL.lv rfl (LV.loadAgg (cs := [(.int .i64 ((a).1)), (.int .u64 ((a).2))]) Try.underlying25 rfl ti25 rfl rfl (Blk.agg (SH.at hS2 (.tail _ (.head _))) _ (KB.refl No _))) ?_
        refine WL.lv rfl (LV.loadAgg (cs := [(.int .i64 ((b).1)), (.int .u64 ((b).2))]) Try.underlying25 rfl ti25 rfl rfl (Blk.agg (SH.at hS2 (.head _)) _ (KB.refl No _))) ?_
        refine WL.lv rfl (LV.eqG (by decide) (ae_s2 Try.underlying25 (by decide) (by kernel_rfl) (pt_int Try.underlying3 rfl) (pt_int Try.underlying3 rfl) (pt_int Try.underlying23 rfl) (pt_int Try.underlying23 rfl) (ae_int Try.underlying3) (ae_int Try.underlying23)) (by kernel_rfl) rfl rfl) ?_
        refine WL.nil (thenQ.n ?_)
        refine WC.condP (p := (((a).1) = ((b).1)) ∧ (((a).2) = ((b).2))) rfl (fun hc2 => ?_) (fun hc2 => ?_)
        · skip
          refine WC.seq ?_
          refine WC.region ?_
          refine WL.lv rfl (LV.asg rfl) ?_
          refine WL.nil (thenQ.n ?_)
          refine WC.ret (thenQ.r <| ?_)
          exact ⟨_, fun a ha => res1 rfl ha rfl, congrArg (Value.int .i64) (by omega), hS2.kb⟩
        · skip
          refine WC.skip (thenQ.n ?_)
          refine WC.seq ?_
          refine WC.region ?_
          refine WL.lv rfl (LV.asg rfl) ?_
          refine WL.nil (thenQ.n ?_)
          refine WC.ret (?_)
          exact ⟨_, fun a ha => res1 rfl ha rfl, congrArg (Value.int .i64) (by omega), hS2.kb⟩
    · refine WL.lv rfl (LV.as (LV.eqI rfl rfl) (decide_eq_false hg2)) ?_
      refine WL.lv rfl (LV.mv rfl) ?_
      iterate 5 refine WL.off rfl ?_
      iterate 2 refine WL.lv rfl (LV.pickF rfl rfl) ?_
      refine WL.nil (thenQ.n ?_)
      refine WC.condF rfl ?_
      refine WC.skip (thenQ.n ?_)
      iterate 2 refine WC.seq ?_
      refine WC.region ?_
      refine WL.lv rfl (LV.loadAgg (cs := [(.int .i64 ((a).1)), (.int .u64 ((a).2))]) Try.underlying25 rfl ti25 rfl rfl (Blk.agg (SH.at hS2 (.tail _ (.head _))) _ (KB.refl No _))) ?_
      refine WL.lv rfl (LV.loadAgg (cs := [(.int .i64 ((b).1)), (.int .u64 ((b).2))]) Try.underlying25 rfl ti25 rfl rfl (Blk.agg (SH.at hS2 (.head _)) _ (KB.refl No _))) ?_
      refine WL.lv rfl (LV.eqG (by decide) (ae_s2 Try.underlying25 (by decide) (by kernel_rfl) (pt_int Try.underlying3 rfl) (pt_int Try.underlying3 rfl) (pt_int Try.underlying23 rfl) (pt_int Try.underlying23 rfl) (ae_int Try.underlying3) (ae_int Try.underlying23)) (by kernel_rfl) rfl rfl) ?_
      refine WL.nil (thenQ.n ?_)
      refine WC.condP (p := (((a).1) = ((b).1)) ∧ (((a).2) = ((b).2))) rfl (fun hc3 => ?_) (fun hc3 => ?_)
      · skip
        refine WC.seq ?_
        refine WC.region ?_
        refine WL.lv rfl (LV.asg rfl) ?_
        refine WL.nil (thenQ.n ?_)
        refine WC.ret (thenQ.r <| ?_)
        exact ⟨_, fun a ha => res1 rfl ha rfl, congrArg (Value.int .i64) (by omega), hS2.kb⟩
      · skip
        refine WC.skip (thenQ.n ?_)
        refine WC.seq ?_
        refine WC.region ?_
        refine WL.lv rfl (LV.asg rfl) ?_
        refine WL.nil (thenQ.n ?_)
        refine WC.ret (?_)
        exact ⟨_, fun a ha => res1 rfl ha rfl, congrArg (Value.int .i64) (by omega), hS2.kb⟩

theorem has_calls {w : World} {a : Lb} {c : Int} (wa : 0 ≤ a.2 ∧ a.2 < 18446744073709551616) :
    Calls Try.prog 24 #[(.agg #[(.int .i64 ((a).1)), (.int .u64 ((a).2))]), (.int .i64 c)] w fun e w' => ∃ v, e = .returned v ∧ (fun v w' => v = .bool (decide (HAS a c)) ∧ KB No w w') v w' := by
  have hfd_ := fd_nn wa.1 (min (c).toNat IntKind.u64.bits)
  have hS : SH w No w [] := SH.nil _ _
  refine calls (l := litOf [(.agg #[(.int .i64 ((a).1)), (.int .u64 ((a).2))]), (.int .i64 c)] 0) Try.func24 rfl (n := 19) rfl (Nat.le_of_ble_eq_true rfl) (lit_args _) ?_
  refine WC.seq ?_
  refine WC.region ?_
  refine WL.xe rfl (XE.box #[(.int .i64 ((a).1)), (.int .u64 ((a).2))] hS rfl rfl) ?_
  rintro _ w1 ⟨b1, rfl, hS1, hk1⟩
  refine WL.lv rfl (LV.asg rfl) ?_
  refine WL.nil (thenQ.n ?_)
  refine WC.seq ?_
  refine WC.region ?_
  refine WL.lv rfl (LV.mv rfl) ?_
  rcases Decidable.em (c ≥ 0) with hg1 | hg1
  · refine WL.lv rfl (LV.as (LV.geI rfl rfl) (decide_eq_true hg1)) ?_
    iterate 2 refine WL.lv rfl (LV.mv rfl) ?_
    rcases Decidable.em (c ≤ 63) with hg2 | hg2
    · refine WL.lv rfl (LV.as (LV.leI rfl rfl) (decide_eq_true hg2)) ?_
      refine WL.lv rfl (LV.pickT rfl rfl) ?_
      refine WL.lv rfl (LV.mv rfl) ?_
      refine WL.lv rfl (LV.fieldA Try.underlying25 rfl ti23.sz rfl) ?_
      refine WL.lv rfl (LV.load1 Try.underlying23 rfl rfl (Blk.cellN (SH.at hS1 (.head _)) 1 rfl _ (KB.refl No _))) ?_
      refine WL.lv rfl (LV.mv rfl) ?_
      refine WL.lv rfl (LV.shr rfl rfl (by omega) rfl) ?_
      refine WL.lv rfl (LV.rem rfl rfl (by decide) (rem64 (by omega) rfl)) ?_
      refine WL.lv rfl (LV.eqI rfl rfl) ?_
      refine WL.lv rfl (LV.pickT rfl rfl) ?_
      refine WL.lv rfl (LV.asg rfl) ?_
      refine WL.nil (thenQ.n ?_)
      refine WC.ret (?_)
      exact ⟨_, fun a ha => res1 rfl ha rfl, congrArg Value.bool (decide_eq_decide.2 ⟨fun h_ => ⟨by omega, by omega, h_⟩, fun h_ => h_.2.2⟩), hS1.kb⟩
    · refine WL.lv rfl (LV.as (LV.leI rfl rfl) (decide_eq_false hg2)) ?_
      refine WL.lv rfl (LV.pickT rfl rfl) ?_
      refine WL.lv rfl (LV.mv rfl) ?_
      iterate 6 refine WL.off rfl ?_
      refine WL.lv rfl (LV.pickF rfl rfl) ?_
      refine WL.lv rfl (LV.asg rfl) ?_
      refine WL.nil (thenQ.n ?_)
      refine WC.ret (?_)
      exact ⟨_, fun a ha => res1 rfl ha rfl, congrArg Value.bool ((decide_eq_false (fun h_ => by have h1_ := h_.1; have h2_ := h_.2.1; omega)).symm), hS1.kb⟩
  · refine WL.lv rfl (LV.as (LV.geI rfl rfl) (decide_eq_false hg1)) ?_
    refine WL.lv rfl (LV.mv rfl) ?_
    iterate 2 refine WL.off rfl ?_
    refine WL.lv rfl (LV.pickF rfl rfl) ?_
    refine WL.lv rfl (LV.mv rfl) ?_
    iterate 6 refine WL.off rfl ?_
    refine WL.lv rfl (LV.pickF rfl rfl) ?_
    refine WL.lv rfl (LV.asg rfl) ?_
    refine WL.nil (thenQ.n ?_)
    refine WC.ret (?_)
    exact ⟨_, fun a ha => res1 rfl ha rfl, congrArg Value.bool ((decide_eq_false (fun h_ => by have h1_ := h_.1; have h2_ := h_.2.1; omega)).symm), hS1.kb⟩

theorem below_calls {w : World} {a : Lb} {b : Lb} (wa : 0 ≤ a.2 ∧ a.2 < 18446744073709551616) (wb : 0 ≤ b.2 ∧ b.2 < 18446744073709551616) :
    Calls Try.prog 14 #[(.agg #[(.int .i64 ((a).1)), (.int .u64 ((a).2))]), (.agg #[(.int .i64 ((b).1)), (.int .u64 ((b).2))])] w fun e w' => ∃ v, e = .returned v ∧ (fun v w' => v = .bool (decide (BEL a b)) ∧ KB No w w') v w' := by
  have hS : SH w No w [] := SH.nil _ _
  refine calls (l := litOf [(.agg #[(.int .i64 ((a).1)), (.int .u64 ((a).2))]), (.agg #[(.int .i64 ((b).1)), (.int .u64 ((b).2))])] 0) Try.func14 rfl (n := 24) rfl (Nat.le_of_ble_eq_true rfl) (lit_args _) ?_
  refine WC.seq ?_
  refine WC.region ?_
  refine WL.xe rfl (XE.box #[(.int .i64 ((a).1)), (.int .u64 ((a).2))] hS rfl rfl) ?_
  rintro _ w1 ⟨b1, rfl, hS1, hk1⟩
  refine WL.xe rfl (XE.box #[(.int .i64 ((b).1)), (.int .u64 ((b).2))] hS1 rfl rfl) ?_
  rintro _ w2 ⟨b2, rfl, hS2, hk2⟩
  refine WL.lv rfl (LV.asg rfl) ?_
  refine WL.nil (thenQ.n ?_)
  iterate 2 refine WC.seq ?_
  refine WC.region ?_
  refine WL.lv rfl (LV.fieldA Try.underlying25 rfl ti3.sz rfl) ?_
  refine WL.lv rfl (LV.load1 Try.underlying3 rfl rfl (Blk.cellN (SH.at hS2 (.tail _ (.head _))) 0 rfl _ (KB.refl No _))) ?_
  refine WL.lv rfl (LV.fieldA Try.underlying25 rfl ti3.sz rfl) ?_
  refine WL.lv rfl (LV.load1 Try.underlying3 rfl rfl (Blk.cellN (SH.at hS2 (.head _)) 0 rfl _ (KB.refl No _))) ?_
  refine WL.lv rfl (LV.gtI rfl rfl) ?_
  refine WL.nil (thenQ.n ?_)
  refine WC.condP (p := ((a).1) > ((b).1)) rfl (fun hc1 => ?_) (fun hc1 => ?_)
  · skip
    refine WC.seq ?_
    refine WC.region ?_
    refine WL.lv rfl (LV.asg rfl) ?_
    refine WL.nil (thenQ.n ?_)
    refine WC.ret (thenQ.r <| ?_)
    exact ⟨_, fun a ha => res1 rfl ha rfl, congrArg Value.bool ((decide_eq_false (fun h_ => by have h1_ := h_.1; omega)).symm), hS2.kb⟩
  · skip
    refine WC.skip (thenQ.n ?_)
    iterate 2 refine WC.seq ?_
    refine WC.region ?_
    refine WL.lv rfl (LV.asg rfl) ?_
    refine WL.nil (thenQ.n ?_)
    refine WC.block ?_
    refine WC.loop (fun m_ f_ w_ => ∃ (c : Int), (0 ≤ c) ∧ (c ≤ 64) ∧ (∀ t : Nat, t < c.toNat → ¬ (HAS a t ∧ ¬ HAS b t)) ∧ SH w No w_ [blkE b2 25 #[(.int .i64 ((b).1)), (.int .u64 ((b).2))], blkE b1 25 #[(.int .i64 ((a).1)), (.int .u64 ((a).2))]] ∧ m_ = ((64 - c).toNat) ∧ Weak (lit [(2, (.pointer (some ⟨b1, 0, none⟩))), (3, (.pointer (some ⟨b2, 0, none⟩))), (5, (.int .i64 c))]) f_) _ ⟨0, by omega, by omega, (fun t h_ => by omega), hS2, rfl, Weak.cons rfl <| Weak.cons rfl <| Weak.cons rfl <| Weak.nil _⟩ ?_
    rintro m1 f1 w3 ⟨c, clo, chi, q1, hL1, rfl, hw1⟩
    refine WC.weak hw1 ?_
    clear hw1
    iterate 2 refine WC.seq ?_
    refine WC.region ?_
    refine WL.lv rfl (LV.mv rfl) ?_
    refine WL.lv rfl (LV.ltI rfl rfl) ?_
    refine WL.nil (thenQ.n ?_)
    refine WC.condP (p := c < 64) rfl (fun hc2 => ?_) (fun hc2 => ?_)
    · skip
      refine WC.skip (thenQ.n ?_)
      refine WC.seq ?_
      refine WC.block ?_
      refine WC.seq ?_
      refine WC.region ?_
      refine WL.lv rfl (LV.loadAgg (cs := [(.int .i64 ((a).1)), (.int .u64 ((a).2))]) Try.underlying25 rfl ti25 rfl rfl (Blk.agg (SH.at hL1 (.tail _ (.head _))) _ (KB.refl No _))) ?_
      refine WL.lv rfl (LV.mv rfl) ?_
      rcases Decidable.em (HAS a c) with hga | hga
      · refine WL.call rfl (XC.fn Try.func24 (by kernel_rfl) rfl rfl rfl) (Calls.asB (has_calls (a := a) (c := c) (by omega)) (decide_eq_true (hga))) ?_
        rintro v_ w4 ⟨rfl, hk3⟩
        have hS3 := SH.same hL1 hk3
        refine WL.lv rfl (LV.mv rfl) ?_
        refine WL.lv rfl (LV.loadAgg (cs := [(.int .i64 ((b).1)), (.int .u64 ((b).2))]) Try.underlying25 rfl ti25 rfl rfl (Blk.agg (SH.at hS3 (.head _)) _ (KB.refl No _))) ?_
        refine WL.lv rfl (LV.mv rfl) ?_
        refine WL.call rfl (XC.fn Try.func24 (by kernel_rfl) rfl rfl rfl) (has_calls (a := b) (c := c) (by omega)) ?_
        rintro v_ w5 ⟨rfl, hk4⟩
        have hS4 := SH.same hS3 hk4
        refine WL.lv rfl (LV.notP rfl) ?_
        refine WL.lv rfl (LV.pickT rfl rfl) ?_
        refine WL.nil (thenQ.n ?_)
        refine WC.condP (p := ¬ (HAS b c)) rfl (fun hgb => ?_) (fun hgb => ?_)
        · skip
          refine WC.seq ?_
          refine WC.region ?_
          refine WL.lv rfl (LV.asg rfl) ?_
          refine WL.nil (thenQ.n ?_)
          refine WC.ret (blockQ.r <| thenQ.r <| thenQ.r <| blockQ.r <| thenQ.r <| ?_)
          exact ⟨_, fun a ha => res1 rfl ha rfl, congrArg Value.bool ((decide_eq_false (bel_no clo (by assumption) hga hgb)).symm), hS4.kb⟩
        · skip
          refine WC.skip (blockQ.n <| thenQ.n ?_)
          refine WC.region ?_
          refine WL.lv rfl (LV.mv rfl) ?_
          refine WL.lv rfl (LV.add rfl rfl (wr64 (by omega) (by omega))) ?_
          refine WL.lv rfl (LV.asg rfl) ?_
          refine WL.nil (thenQ.n ?_)
          exact ⟨_, by omega, c + 1, by omega, by omega, (all_up (P := fun c => HAS a c ∧ ¬ HAS b c) clo q1 (by first | exact fun h3_ => hga h3_.1 | exact fun h3_ => hgb h3_.2)), hS4, rfl, Weak.cons rfl <| Weak.cons rfl <| Weak.cons rfl <| Weak.nil _⟩
      · refine WL.call rfl (XC.fn Try.func24 (by kernel_rfl) rfl rfl rfl) (Calls.asB (has_calls (a := a) (c := c) (by omega)) (decide_eq_false (hga))) ?_
        rintro v_ w6 ⟨rfl, hk5⟩
        have hS5 := SH.same hL1 hk5
        refine WL.lv rfl (LV.mv rfl) ?_
        iterate 4 refine WL.off rfl ?_
        refine WL.lv rfl (LV.pickF rfl rfl) ?_
        refine WL.nil (thenQ.n ?_)
        refine WC.condF rfl ?_
        refine WC.skip (blockQ.n <| thenQ.n ?_)
        refine WC.region ?_
        refine WL.lv rfl (LV.mv rfl) ?_
        refine WL.lv rfl (LV.add rfl rfl (wr64 (by omega) (by omega))) ?_
        refine WL.lv rfl (LV.asg rfl) ?_
        refine WL.nil (thenQ.n ?_)
        exact ⟨_, by omega, c + 1, by omega, by omega, (all_up (P := fun c => HAS a c ∧ ¬ HAS b c) clo q1 (by first | exact fun h3_ => hga h3_.1 | exact fun h3_ => hgb h3_.2)), hS5, rfl, Weak.cons rfl <| Weak.cons rfl <| Weak.cons rfl <| Weak.nil _⟩
    · skip
      refine WC.exit (thenQ.x <| thenQ.x <| blockQ.hit <| thenQ.n ?_)
      refine WC.seq ?_
      refine WC.region ?_
      refine WL.lv rfl (LV.asg rfl) ?_
      refine WL.nil (thenQ.n ?_)
      refine WC.ret (?_)
      exact ⟨_, fun a ha => res1 rfl ha rfl, congrArg Value.bool ((decide_eq_true (bel_yes (by omega) (by omega) q1)).symm), hL1.kb⟩

theorem rlines_calls {w : World} {A_l : Option Addr} {n_l c_l : Nat} {l : List Itm} {a : Lb} (h_l : St No w (Rd eIt (.slice A_l n_l c_l) l)) (hn_l : l.length = n_l)  :
    Calls Try.prog 11 #[(.slice A_l n_l c_l), (.agg #[(.int .i64 ((a).1)), (.int .u64 ((a).2))])] w fun e w' => ∃ v, e = .returned v ∧ (fun v w' => v = .int .i64 (LNS l a) ∧ KB No w w') v w' := by
  subst hn_l
  have hma := Rd.max h_l.now
  have hS : SH w No w [] := SH.nil _ _
  refine calls (l := litOf [(.slice A_l l.length c_l), (.agg #[(.int .i64 ((a).1)), (.int .u64 ((a).2))])] 0) Try.func11 rfl (n := 31) rfl (Nat.le_of_ble_eq_true rfl) (lit_args _) ?_
  refine WC.seq ?_
  refine WC.region ?_
  refine WL.xe rfl (XE.box #[(.int .i64 ((a).1)), (.int .u64 ((a).2))] hS rfl rfl) ?_
  rintro _ w1 ⟨b1, rfl, hS1, hk1⟩
  refine WL.lv rfl (LV.asg rfl) ?_
  refine WL.nil (thenQ.n ?_)
  refine WC.seq ?_
  refine WC.region ?_
  refine WL.lv rfl (LV.asg rfl) ?_
  refine WL.nil (thenQ.n ?_)
  iterate 2 refine WC.seq ?_
  refine WC.region ?_
  refine WL.lv rfl (LV.asg rfl) ?_
  refine WL.nil (thenQ.n ?_)
  refine WC.block ?_
  refine WC.loop (fun m_ f_ w_ => ∃ (n : Int) (i : Int), (0 ≤ i) ∧ (i ≤ (l.length : Int)) ∧ (n = LNS (l.take i.toNat) a) ∧ (0 ≤ n ∧ n ≤ i) ∧ SH w No w_ [blkE b1 25 #[(.int .i64 ((a).1)), (.int .u64 ((a).2))]] ∧ m_ = (((l.length : Int) - i).toNat) ∧ Weak (lit [(0, (.slice A_l l.length c_l)), (3, (.pointer (some ⟨b1, 0, none⟩))), (5, (.int .i64 n)), (6, (.int .i64 i))]) f_) _ ⟨0, 0, by omega, by omega, rfl, by omega, hS1, rfl, Weak.cons rfl <| Weak.cons rfl <| Weak.cons rfl <| Weak.cons rfl <| Weak.nil _⟩ ?_
  rintro m1 f1 w2 ⟨n, i, ilo, ihi, q1, q2, hL1, rfl, hw1⟩
  refine WC.weak hw1 ?_
  clear hw1
  iterate 2 refine WC.seq ?_
  refine WC.region ?_
  iterate 2 refine WL.lv rfl (LV.mv rfl) ?_
  refine WL.lv rfl (LV.lenL Try.underlying22 rfl) ?_
  refine WL.lv rfl (LV.ltI rfl rfl) ?_
  refine WL.nil (thenQ.n ?_)
  refine WC.condP (p := i < (l.length : Int)) rfl (fun hk => ?_) (fun hk => ?_)
  · skip
    refine WC.skip (thenQ.n ?_)
    refine WC.seq ?_
    refine WC.block ?_
    refine WC.seq ?_
    have hS2 := SH.drew hL1
    refine WC.regionD [] (fun w_ => KB No w2.drew w_) [(.pure, 0), (.pure, 1), (.pure, 2), (.pure, 3), (.look, 4), (.pure, 5), (.pure, 6), (.pure, 7), (.pure, 8), (.pure, 9), (.pure, 10), (.look, 11), (.look, 12), (.pure, 13), (.pure, 14)] (by kernel_rfl) (by kernel_rfl) (KB.refl _ _) ?_
    iterate 2 refine WS.pure rfl rfl (fun _ => LV.mv rfl) ?_
    obtain ⟨A1, c1, e1, g1⟩ := St.elt (SH.stN hS2 h_l) dI i (by omega) (by omega)
    refine WS.pure rfl rfl (fun _ => LV.idxA Try.underlying22 ti38.sz rfl e1 rfl (by omega) (by omega)) ?_
    refine WS.pure rfl rfl (fun _ => LV.fieldA Try.underlying38 rfl ti4.sz rfl) ?_
    rcases Bool.eq_false_or_eq_true ((l.getD (i).toNat dI).2.2.1) with han | han
    · refine WS.look rfl rfl (fun _ hk_ => LV.as (c := true) (LV.load1 (v := (.bool ((l.getD (i).toNat dI).2.2.1))) Try.underlying4 rfl rfl (g1 _ hk_ 3 _ rfl)) han) ?_
      refine WS.pure rfl rfl (fun _ => LV.notB rfl) ?_
      refine WS.pure rfl rfl (fun _ => LV.mv rfl) ?_
      iterate 4 refine WS.off rfl rfl ?_
      iterate 2 refine WS.offL rfl rfl ?_
      refine WS.off rfl rfl ?_
      refine WS.pure rfl rfl (fun _ => LV.pickF rfl rfl) ?_
      refine WS.nil (thenQ.n ?_)
      refine WC.condF rfl ?_
      refine WC.skip (blockQ.n <| thenQ.n ?_)
      refine WC.region ?_
      refine WL.lv rfl (LV.mv rfl) ?_
      refine WL.lv rfl (LV.add rfl rfl (wr64 (by omega) (by omega))) ?_
      refine WL.lv rfl (LV.asg rfl) ?_
      refine WL.nil (thenQ.n ?_)
      exact ⟨_, by omega, n, i + 1, by omega, by omega, (by first | exact lns_yes ilo hk q1 han hh | exact lns_no ilo hk q1 (.inl han) | exact lns_no ilo hk q1 (.inr hh)), by omega, hS2, rfl, Weak.cons rfl <| Weak.cons rfl <| Weak.cons rfl <| Weak.cons rfl <| Weak.nil _⟩
    · refine WS.look rfl rfl (fun _ hk_ => LV.as (c := false) (LV.load1 (v := (.bool ((l.getD (i).toNat dI).2.2.1))) Try.underlying4 rfl rfl (g1 _ hk_ 3 _ rfl)) han) ?_
      refine WS.pure rfl rfl (fun _ => LV.notB rfl) ?_
      iterate 3 refine WS.pure rfl rfl (fun _ => LV.mv rfl) ?_
      obtain ⟨A2, c2, e2, g2⟩ := St.elt (SH.stN hS2 h_l) dI i (by omega) (by omega)
      refine WS.pure rfl rfl (fun _ => LV.idxA Try.underlying22 ti38.sz rfl e2 rfl (by omega) (by omega)) ?_
      refine WS.pure rfl rfl (fun _ => LV.fieldA Try.underlying38 rfl ti25.sz rfl) ?_
      refine WS.look rfl rfl (fun _ hk_ => LV.loadAgg (cs := [(.int .i64 ((l.getD (i).toNat dI).2.1.1)), (.int .u64 ((l.getD (i).toNat dI).2.1.2))]) Try.underlying25 rfl ti25 rfl rfl (elt_part (off := 1) (n := 2) g2 rfl _ hk_)) ?_
      refine WS.look rfl rfl (fun _ hk_ => LV.loadAgg (cs := [(.int .i64 ((a).1)), (.int .u64 ((a).2))]) Try.underlying25 rfl ti25 rfl rfl (Blk.agg (SH.at hS2 (.head _)) _ hk_)) ?_
      refine WS.pure rfl rfl (fun _ => LV.eqG (by decide) (ae_s2 Try.underlying25 (by decide) (by kernel_rfl) (pt_int Try.underlying3 rfl) (pt_int Try.underlying3 rfl) (pt_int Try.underlying23 rfl) (pt_int Try.underlying23 rfl) (ae_int Try.underlying3) (ae_int Try.underlying23)) (by kernel_rfl) rfl rfl) ?_
      refine WS.pure rfl rfl (fun _ => LV.pickT rfl rfl) ?_
      refine WS.nil (thenQ.n ?_)
      refine WC.condP (p := (((l.getD (i).toNat dI).2.1.1) = ((a).1)) ∧ (((l.getD (i).toNat dI).2.1.2) = ((a).2))) rfl (fun hh => ?_) (fun hh => ?_)
      · skip
        refine WC.region ?_
        refine WL.lv rfl (LV.mv rfl) ?_
        refine WL.lv rfl (LV.add rfl rfl (wr64 (by omega) (by omega))) ?_
        refine WL.lv rfl (LV.asg rfl) ?_
        refine WL.nil (blockQ.n <| thenQ.n ?_)
        refine WC.region ?_
        refine WL.lv rfl (LV.mv rfl) ?_
        refine WL.lv rfl (LV.add rfl rfl (wr64 (by omega) (by omega))) ?_
        refine WL.lv rfl (LV.asg rfl) ?_
        refine WL.nil (thenQ.n ?_)
        exact ⟨_, by omega, n + 1, i + 1, by omega, by omega, (by first | exact lns_yes ilo hk q1 han hh | exact lns_no ilo hk q1 (.inl han) | exact lns_no ilo hk q1 (.inr hh)), by omega, hS2, rfl, Weak.cons rfl <| Weak.cons rfl <| Weak.cons rfl <| Weak.cons rfl <| Weak.nil _⟩
      · skip
        refine WC.skip (blockQ.n <| thenQ.n ?_)
        refine WC.region ?_
        refine WL.lv rfl (LV.mv rfl) ?_
        refine WL.lv rfl (LV.add rfl rfl (wr64 (by omega) (by omega))) ?_
        refine WL.lv rfl (LV.asg rfl) ?_
        refine WL.nil (thenQ.n ?_)
        exact ⟨_, by omega, n, i + 1, by omega, by omega, (by first | exact lns_yes ilo hk q1 han hh | exact lns_no ilo hk q1 (.inl han) | exact lns_no ilo hk q1 (.inr hh)), by omega, hS2, rfl, Weak.cons rfl <| Weak.cons rfl <| Weak.cons rfl <| Weak.cons rfl <| Weak.nil _⟩
  · skip
    refine WC.exit (thenQ.x <| thenQ.x <| blockQ.hit <| thenQ.n ?_)
    refine WC.seq ?_
    refine WC.region ?_
    refine WL.lv rfl (LV.mv rfl) ?_
    refine WL.lv rfl (LV.asg rfl) ?_
    refine WL.nil (thenQ.n ?_)
    refine WC.ret (?_)
    exact ⟨_, fun a ha => res1 rfl ha rfl, congrArg (Value.int .i64) (by rw [q1, List.take_of_length_le (by omega)]), hL1.kb⟩

theorem cut_calls {w : World} {A_l : Option Addr} {n_l c_l : Nat} {l : List Itm} {b : Lb} (h_l : St No w (Rd eIt (.slice A_l n_l c_l) l)) (hn_l : l.length = n_l) (wl : ∀ x ∈ l, 0 ≤ x.2.1.2 ∧ x.2.1.2 < 18446744073709551616) (wb : 0 ≤ b.2 ∧ b.2 < 18446744073709551616) (hl : l.length ≤ 100000) :
    Calls Try.prog 15 #[(.slice A_l n_l c_l), (.agg #[(.int .i64 ((b).1)), (.int .u64 ((b).2))])] w fun e w' => ∃ v, e = .returned v ∧ (fun v w' => ∃ (A0' : Option Addr) (c0' : Nat), v = .slice A0' (CUTL l b).length c0' ∧ SH w No w' [rowE eIt 38 (.slice A0' (CUTL l b).length c0') (CUTL l b)]) v w' := by
  subst hn_l
  have hma := Rd.max h_l.now
  have hS : SH w No w [] := SH.nil _ _
  refine calls (l := litOf [(.slice A_l l.length c_l), (.agg #[(.int .i64 ((b).1)), (.int .u64 ((b).2))])] 0) Try.func15 rfl (n := 29) rfl (Nat.le_of_ble_eq_true rfl) (lit_args _) ?_
  refine WC.seq ?_
  refine WC.region ?_
  refine WL.xe rfl (XE.box #[(.int .i64 ((b).1)), (.int .u64 ((b).2))] hS rfl rfl) ?_
  rintro _ w1 ⟨b1, rfl, hS1, hk1⟩
  refine WL.lv rfl (LV.asg rfl) ?_
  refine WL.nil (thenQ.n ?_)
  refine WC.seq ?_
  refine WC.region ?_
  refine WL.xe rfl (XE.buildSlice (E := eIt) [] #[] [] hS1 Try.underlying22 ti38 rfl (by decide) (by kernel_rfl) (.inr rfl) rfl rfl (by decide)) ?_
  rintro _ w2 ⟨b2, rfl, hS2, hk2⟩
  refine WL.lv rfl (LV.asg rfl) ?_
  refine WL.nil (thenQ.n ?_)
  iterate 2 refine WC.seq ?_
  refine WC.region ?_
  refine WL.lv rfl (LV.asg rfl) ?_
  refine WL.nil (thenQ.n ?_)
  refine WC.block ?_
  refine WC.loop (fun m_ f_ w_ => ∃ (A_out : Option Addr) (c_out : Nat) (out : List Itm) (i : Int), (0 ≤ i) ∧ (i ≤ (l.length : Int)) ∧ (out = CUTL (l.take i.toNat) b) ∧ ((out.length : Int) ≤ i) ∧ SH w No w_ [rowE eIt 38 (.slice A_out out.length c_out) out, blkE b1 25 #[(.int .i64 ((b).1)), (.int .u64 ((b).2))]] ∧ m_ = (((l.length : Int) - i).toNat) ∧ Weak (lit [(0, (.slice A_l l.length c_l)), (3, (.pointer (some ⟨b1, 0, none⟩))), (5, (.slice A_out out.length c_out)), (6, (.int .i64 i))]) f_) _ ⟨(some ⟨b2, 0, none⟩), 0, [], 0, by omega, by omega, rfl, (by simp), hS2, rfl, Weak.cons rfl <| Weak.cons rfl <| Weak.cons rfl <| Weak.cons rfl <| Weak.nil _⟩ ?_
  rintro m1 f1 w3 ⟨A_out, c_out, out, i, ilo, ihi, q1, q2, hL1, rfl, hw1⟩
  refine WC.weak hw1 ?_
  clear hw1
  iterate 2 refine WC.seq ?_
  refine WC.region ?_
  iterate 2 refine WL.lv rfl (LV.mv rfl) ?_
  refine WL.lv rfl (LV.lenL Try.underlying22 rfl) ?_
  refine WL.lv rfl (LV.ltI rfl rfl) ?_
  refine WL.nil (thenQ.n ?_)
  refine WC.condP (p := i < (l.length : Int)) rfl (fun hk => ?_) (fun hk => ?_)
  · have hwi_ := wl (l.getD i.toNat dI) (getD_mem (by omega))
    refine WC.skip (thenQ.n ?_)
    refine WC.seq ?_
    refine WC.block ?_
    refine WC.seq ?_
    have hS3 := SH.drew hL1
    refine WC.regionD [] (fun w_ => KB No w3.drew w_) [(.pure, 0), (.pure, 1), (.pure, 2), (.pure, 3), (.look, 4), (.look, 5), (.forced, 6)] (by kernel_rfl) (by kernel_rfl) (KB.refl _ _) ?_
    iterate 2 refine WS.pure rfl rfl (fun _ => LV.mv rfl) ?_
    obtain ⟨A1, c1, e1, g1⟩ := St.elt (SH.stN hS3 h_l) dI i (by omega) (by omega)
    refine WS.pure rfl rfl (fun _ => LV.idxA Try.underlying22 ti38.sz rfl e1 rfl (by omega) (by omega)) ?_
    refine WS.pure rfl rfl (fun _ => LV.fieldA Try.underlying38 rfl ti25.sz rfl) ?_
    refine WS.look rfl rfl (fun _ hk_ => LV.loadAgg (cs := [(.int .i64 ((l.getD (i).toNat dI).2.1.1)), (.int .u64 ((l.getD (i).toNat dI).2.1.2))]) Try.underlying25 rfl ti25 rfl rfl (elt_part (off := 1) (n := 2) g1 rfl _ hk_)) ?_
    refine WS.look rfl rfl (fun _ hk_ => LV.loadAgg (cs := [(.int .i64 ((b).1)), (.int .u64 ((b).2))]) Try.underlying25 rfl ti25 rfl rfl (Blk.agg (SH.at hS3 (.tail _ (.head _))) _ hk_)) ?_
    refine WS.call rfl rfl (XC.fn Try.func14 (by kernel_rfl) rfl rfl rfl) (below_calls (a := ((l.getD (i).toNat dI).2.1)) (b := b) (by omega) (by omega)) ?_
    rintro v_ w4 ⟨rfl, hk3⟩
    have hS4 := SH.same hS3 hk3
    refine ⟨fun h_ => (KB.transN (KB.refl _ _) hk3), ?_⟩
    refine WS.nil (thenQ.n ?_)
    refine WC.condP (p := BEL ((l.getD (i).toNat dI).2.1) b) rfl (fun hb => ?_) (fun hb => ?_)
    · skip
      refine WC.region ?_
      iterate 3 refine WL.lv rfl (LV.mv rfl) ?_
      obtain ⟨A2, c2, e2, g2⟩ := St.elt (SH.stN hS4 h_l) dI i (by omega) (by omega)
      refine WL.lv rfl (LV.idxA Try.underlying22 ti38.sz rfl e2 rfl (by omega) (by omega)) ?_
      refine WL.lv rfl (LV.loadAgg (cs := [(.int .i64 ((l.getD (i).toNat dI).1)), (.int .i64 ((l.getD (i).toNat dI).2.1.1)), (.int .u64 ((l.getD (i).toNat dI).2.1.2)), (.bool ((l.getD (i).toNat dI).2.2.1)), (.string ((l.getD (i).toNat dI).2.2.2.1)), (.bool ((l.getD (i).toNat dI).2.2.2.2))]) Try.underlying38 rfl ti38 rfl rfl (fun j u hu => g2 _ (KB.refl No _) j u hu)) ?_
      refine WL.xe rfl (XE.buildSlice (E := eIt) [(0, (.agg #[(.int .i64 ((l.getD (i).toNat dI).1)), (.int .i64 ((l.getD (i).toNat dI).2.1.1)), (.int .u64 ((l.getD (i).toNat dI).2.1.2)), (.bool ((l.getD (i).toNat dI).2.2.1)), (.string ((l.getD (i).toNat dI).2.2.2.1)), (.bool ((l.getD (i).toNat dI).2.2.2.2))]))] #[(.int .i64 ((l.getD (i).toNat dI).1)), (.int .i64 ((l.getD (i).toNat dI).2.1.1)), (.int .u64 ((l.getD (i).toNat dI).2.1.2)), (.bool ((l.getD (i).toNat dI).2.2.1)), (.string ((l.getD (i).toNat dI).2.2.2.1)), (.bool ((l.getD (i).toNat dI).2.2.2.2))] [(((l.getD (i).toNat dI).1, ((l.getD (i).toNat dI).2.1.1, (l.getD (i).toNat dI).2.1.2), (l.getD (i).toNat dI).2.2.1, ((l.getD (i).toNat dI).2.2.2.1, (l.getD (i).toNat dI).2.2.2.2)) : Itm)] hS4 Try.underlying22 ti38 rfl (by decide) (by kernel_rfl) (.inr rfl) rfl rfl (by decide)) ?_
      rintro _ w5 ⟨b3, rfl, hS5, hk4⟩
      have hS6 : SH w No w5 [rowE eIt 38 (.slice A_out out.length c_out) out, rowE eIt 38 (.slice (some ⟨b3, 0, none⟩) 1 1) [(((l.getD (i).toNat dI).1, ((l.getD (i).toNat dI).2.1.1, (l.getD (i).toNat dI).2.1.2), (l.getD (i).toNat dI).2.2.1, ((l.getD (i).toNat dI).2.2.2.1, (l.getD (i).toNat dI).2.2.2.2)) : Itm)], blkE b1 25 #[(.int .i64 ((b).1)), (.int .u64 ((b).2))]] := (SH.front [rowE eIt 38 (.slice (some ⟨b3, 0, none⟩) 1 1) [(((l.getD (i).toNat dI).1, ((l.getD (i).toNat dI).2.1.1, (l.getD (i).toNat dI).2.1.2), (l.getD (i).toNat dI).2.2.1, ((l.getD (i).toNat dI).2.2.2.1, (l.getD (i).toNat dI).2.2.2.2)) : Itm)]] hS5)
      refine WL.xe rfl (XE.append hS6 Try.underlying22 ti38 rfl (St.now (SH.rd hS6 (.tail _ (.head _)))) rfl rfl (by first | omega | simp only [List.length_append, List.length_cons, List.length_nil, List.length_take, List.length_reverse, List.length_drop] at *; omega) (by first | omega | simp only [List.length_append, List.length_cons, List.length_nil, List.length_take, List.length_reverse, List.length_drop] at *; omega)) ?_
      rintro _ w6 ⟨A3, c3, rfl, hS7, hk5⟩
      refine WL.lv rfl (LV.asg rfl) ?_
      refine WL.nil (blockQ.n <| thenQ.n ?_)
      refine WC.region ?_
      refine WL.lv rfl (LV.mv rfl) ?_
      refine WL.lv rfl (LV.add rfl rfl (wr64 (by omega) (by omega))) ?_
      refine WL.lv rfl (LV.asg rfl) ?_
      refine WL.nil (thenQ.n ?_)
      have hS8 : SH w No w6 [rowE eIt 38 (.slice A3 ((out ++ [(((l.getD (i).toNat dI).1, ((l.getD (i).toNat dI).2.1.1, (l.getD (i).toNat dI).2.1.2), (l.getD (i).toNat dI).2.2.1, ((l.getD (i).toNat dI).2.2.2.1, (l.getD (i).toNat dI).2.2.2.2)) : Itm)]).length) c3) (out ++ [(((l.getD (i).toNat dI).1, ((l.getD (i).toNat dI).2.1.1, (l.getD (i).toNat dI).2.1.2), (l.getD (i).toNat dI).2.2.1, ((l.getD (i).toNat dI).2.2.2.1, (l.getD (i).toNat dI).2.2.2.2)) : Itm)]), blkE b1 25 #[(.int .i64 ((b).1)), (.int .u64 ((b).2))]] := (SH.take 2 rfl (SH.front [blkE b1 25 #[(.int .i64 ((b).1)), (.int .u64 ((b).2))]] (SH.front [rowE eIt 38 (.slice A3 ((out ++ [(((l.getD (i).toNat dI).1, ((l.getD (i).toNat dI).2.1.1, (l.getD (i).toNat dI).2.1.2), (l.getD (i).toNat dI).2.2.1, ((l.getD (i).toNat dI).2.2.2.1, (l.getD (i).toNat dI).2.2.2.2)) : Itm)]).length) c3) (out ++ [(((l.getD (i).toNat dI).1, ((l.getD (i).toNat dI).2.1.1, (l.getD (i).toNat dI).2.1.2), (l.getD (i).toNat dI).2.2.1, ((l.getD (i).toNat dI).2.2.2.1, (l.getD (i).toNat dI).2.2.2.2)) : Itm)]), rowE eIt 38 (.slice (some ⟨b3, 0, none⟩) 1 1) [(((l.getD (i).toNat dI).1, ((l.getD (i).toNat dI).2.1.1, (l.getD (i).toNat dI).2.1.2), (l.getD (i).toNat dI).2.2.1, ((l.getD (i).toNat dI).2.2.2.1, (l.getD (i).toNat dI).2.2.2.2)) : Itm)]] hS7)))
      exact ⟨_, by omega, A3, c3, (out ++ [(((l.getD (i).toNat dI).1, ((l.getD (i).toNat dI).2.1.1, (l.getD (i).toNat dI).2.1.2), (l.getD (i).toNat dI).2.2.1, ((l.getD (i).toNat dI).2.2.2.1, (l.getD (i).toNat dI).2.2.2.2)) : Itm)]), i + 1, by omega, by omega, (by rw [CUTL_at ilo hk, ← q1]; first | (rw [if_pos hb]; done) | (rw [if_neg hb]; done)), (by first | omega | (simp; omega)), hS8, rfl, Weak.cons rfl <| Weak.cons rfl <| Weak.cons rfl <| Weak.cons rfl <| Weak.nil _⟩
    · skip
      refine WC.skip (blockQ.n <| thenQ.n ?_)
      refine WC.region ?_
      refine WL.lv rfl (LV.mv rfl) ?_
      refine WL.lv rfl (LV.add rfl rfl (wr64 (by omega) (by omega))) ?_
      refine WL.lv rfl (LV.asg rfl) ?_
      refine WL.nil (thenQ.n ?_)
      exact ⟨_, by omega, A_out, c_out, out, i + 1, by omega, by omega, (by rw [CUTL_at ilo hk, ← q1]; first | (rw [if_pos hb]; done) | (rw [if_neg hb]; done)), (by first | omega | (simp; omega)), hS4, rfl, Weak.cons rfl <| Weak.cons rfl <| Weak.cons rfl <| Weak.cons rfl <| Weak.nil _⟩
  · skip
    refine WC.exit (thenQ.x <| thenQ.x <| blockQ.hit <| thenQ.n ?_)
    refine WC.seq ?_
    refine WC.region ?_
    refine WL.lv rfl (LV.mv rfl) ?_
    refine WL.lv rfl (LV.asg rfl) ?_
    refine WL.nil (thenQ.n ?_)
    refine WC.ret (?_)
    have hS9 : SH w No w3 [rowE eIt 38 (.slice A_out out.length c_out) out] := (SH.take 1 rfl hL1)
    have hres1 : (out : List Itm) = CUTL l b := by rw [q1, List.take_of_length_le (by omega)]
    exact ⟨_, fun a ha => res1 rfl ha rfl, (by rw [← hres1]; exact ⟨_, _, rfl, hS9⟩)⟩

theorem by_calls {w : World} {A_l : Option Addr} {n_l c_l : Nat} {l : List Itm} (h_l : St No w (Rd eIt (.slice A_l n_l c_l) l)) (hn_l : l.length = n_l) (hl : l.length ≤ 100000) :
    Calls Try.prog 16 #[(.slice A_l n_l c_l)] w fun e w' => ∃ v, e = .returned v ∧ (fun v w' => ∃ (b0' : Nat), v = .map (some b0') ∧ SH w No w' [mapE kLb kI b0' (BY l)]) v w' := by
  subst hn_l
  have hS : SH w No w [] := SH.nil _ _
  refine calls (l := litOf [(.slice A_l l.length c_l)] 0) Try.func16 rfl (n := 25) rfl (Nat.le_of_ble_eq_true rfl) (lit_args _) ?_
  refine WC.seq ?_
  refine WC.region ?_
  refine WL.lv rfl (LV.asg rfl) ?_
  refine WL.nil (thenQ.n ?_)
  refine WC.seq ?_
  refine WC.region ?_
  refine WL.xe rfl (XE.makeMap kLb kI hS) ?_
  rintro _ w1 ⟨b1, rfl, hS1, hk1⟩
  refine WL.lv rfl (LV.asg rfl) ?_
  refine WL.nil (thenQ.n ?_)
  iterate 2 refine WC.seq ?_
  refine WC.region ?_
  refine WL.lv rfl (LV.mv rfl) ?_
  refine WL.lv rfl (LV.lenL Try.underlying22 rfl) ?_
  refine WL.lv rfl (LV.mv rfl) ?_
  refine WL.nil (thenQ.n ?_)
  refine WC.block ?_
  refine WC.loop (fun m_ f_ w_ => ∃ (out : List (Lb × Int)) (ix : Int), (0 ≤ ix) ∧ (ix ≤ (l.length : Int)) ∧ (out = BY (l.take ix.toNat)) ∧ SH w No w_ [mapE kLb kI b1 out] ∧ m_ = (((l.length : Int) - ix).toNat) ∧ Weak (lit [(3, (.map (some b1))), (7, (.slice A_l l.length c_l)), (8, (.int .i64 (l.length : Int))), (9, (.int .i64 ix))]) f_) _ ⟨[], 0, by omega, by omega, rfl, hS1, rfl, Weak.cons rfl <| Weak.cons rfl <| Weak.cons rfl <| Weak.cons rfl <| Weak.nil _⟩ ?_
  rintro m1 f1 w2 ⟨out, ix, ixlo, ixhi, q1, hL1, rfl, hw1⟩
  refine WC.weak hw1 ?_
  clear hw1
  refine WC.seq ?_
  refine WC.region ?_
  refine WL.lv rfl (LV.ltI rfl rfl) ?_
  refine WL.nil (thenQ.n ?_)
  refine WC.seq ?_
  refine WC.condP (p := ix < (l.length : Int)) rfl (fun hk => ?_) (fun hk => ?_)
  · skip
    refine WC.skip (thenQ.n ?_)
    refine WC.seq ?_
    refine WC.block ?_
    refine WC.seq ?_
    refine WC.region ?_
    obtain ⟨A1, c1, e1, g1⟩ := St.elt (SH.stN hL1 h_l) dI ix (by omega) (by omega)
    refine WL.lv rfl (LV.idxA Try.underlying22 ti38.sz rfl e1 rfl (by omega) (by omega)) ?_
    refine WL.lv rfl (LV.loadAgg (cs := [(.int .i64 ((l.getD (ix).toNat dI).1)), (.int .i64 ((l.getD (ix).toNat dI).2.1.1)), (.int .u64 ((l.getD (ix).toNat dI).2.1.2)), (.bool ((l.getD (ix).toNat dI).2.2.1)), (.string ((l.getD (ix).toNat dI).2.2.2.1)), (.bool ((l.getD (ix).toNat dI).2.2.2.2))]) Try.underlying38 rfl ti38 rfl rfl (fun j u hu => g1 _ (KB.refl No _) j u hu)) ?_
    refine WL.xe rfl (XE.alloc #[(.int .i64 0), (.int .i64 0), (.int .u64 0), (.bool false), (.string ⟨#[]⟩), (.bool false)] hL1 ti38 rfl) ?_
    rintro _ w3 ⟨b2, rfl, hS2, hk2⟩
    refine WL.xse rfl (XSE.blkAgg #[(.int .i64 ((l.getD (ix).toNat dI).1)), (.int .i64 ((l.getD (ix).toNat dI).2.1.1)), (.int .u64 ((l.getD (ix).toNat dI).2.1.2)), (.bool ((l.getD (ix).toNat dI).2.2.1)), (.string ((l.getD (ix).toNat dI).2.2.2.1)), (.bool ((l.getD (ix).toNat dI).2.2.2.2))] hS2 (by kernel_rfl) rfl (by kernel_rfl) rfl rfl) ?_
    rintro w4 ⟨hS3, hk3⟩
    refine WL.nil (thenQ.n ?_)
    refine WC.seq ?_
    refine WC.region ?_
    refine WL.lv rfl (LV.fieldA Try.underlying38 rfl ti4.sz rfl) ?_
    refine WL.lv rfl (LV.load1 Try.underlying4 rfl rfl (Blk.cellN (SH.at hS3 (.head _)) 3 rfl _ (KB.refl No _))) ?_
    refine WL.lv rfl (LV.notB rfl) ?_
    refine WL.nil (thenQ.n ?_)
    refine WC.cond (b := !((l.getD (ix).toNat dI).2.2.1)) rfl (fun ha => ?_) (fun ha => ?_)
    · have hbd_ := by_bd q1 ((l.getD (ix).toNat dI).2.1.1, (l.getD (ix).toNat dI).2.1.2)
      have hlp_ := look_put out ((l.getD (ix).toNat dI).2.1.1, (l.getD (ix).toNat dI).2.1.2) ((lookL out ((l.getD (ix).toNat dI).2.1.1, (l.getD (ix).toNat dI).2.1.2)).getD 0)
      have hS4 := SH.drew hS3
      refine WC.regionD [] (fun _ => True) [(.pure, 0), (.pure, 1), (.forced, 2), (.fork, 0), (.fork, 0), (.fork, 0), (.fork, 0), (.fork, 0)] (by kernel_rfl) (by kernel_rfl) trivial ?_
      refine WS.pure rfl rfl (fun _ => LV.mv rfl) ?_
      refine WS.pure rfl rfl (fun _ => LV.fieldA Try.underlying38 rfl ti25.sz rfl) ?_
      refine WS.lvT rfl rfl (LV.loadAgg (cs := [(.int .i64 ((l.getD (ix).toNat dI).2.1.1)), (.int .u64 ((l.getD (ix).toNat dI).2.1.2))]) Try.underlying25 rfl ti25 rfl rfl (Blk.part 1 2 (SH.at hS4 (.head _)) rfl _ (KB.refl No _))) ?_
      refine WS.fork (WSX.two 3 5 (by kernel_rfl) ?_ ?_)
      · refine WO.lvT rfl rfl (LV.look (q := ((l.getD (ix).toNat dI).2.1.1, (l.getD (ix).toNat dI).2.1.2)) (z := 0) (key_lb Try.underlying25 Try.underlying3 Try.underlying23 (by decide) (by kernel_rfl)) Try.underlying42 ti3 (SH.at hS4 (.tail _ (.head _))) rfl rfl) ?_
        refine WSX.of [(.pure, 4), (.forced, 5), (.pure, 6), (.forced, 7)] (by kernel_rfl) rfl ?_
        refine WS.pure rfl rfl (fun _ => LV.add rfl rfl (wr64 (by omega) (by omega))) ?_
        have hS5 : SH w No w4.drew [mapE kLb kI b1 out, blkE b2 38 #[(.int .i64 ((l.getD (ix).toNat dI).1)), (.int .i64 ((l.getD (ix).toNat dI).2.1.1)), (.int .u64 ((l.getD (ix).toNat dI).2.1.2)), (.bool ((l.getD (ix).toNat dI).2.2.1)), (.string ((l.getD (ix).toNat dI).2.2.2.1)), (.bool ((l.getD (ix).toNat dI).2.2.2.2))]] := (SH.front [blkE b2 38 #[(.int .i64 ((l.getD (ix).toNat dI).1)), (.int .i64 ((l.getD (ix).toNat dI).2.1.1)), (.int .u64 ((l.getD (ix).toNat dI).2.1.2)), (.bool ((l.getD (ix).toNat dI).2.2.1)), (.string ((l.getD (ix).toNat dI).2.2.2.1)), (.bool ((l.getD (ix).toNat dI).2.2.2.2))]] hS4)
        refine WS.xe rfl rfl (XE.mapEntry (q := ((l.getD (ix).toNat dI).2.1.1, (l.getD (ix).toNat dI).2.1.2)) (z := 0) (key_lb Try.underlying25 Try.underlying3 Try.underlying23 (by decide) (by kernel_rfl)) hS5 Try.underlying42 ti3 rfl rfl) ?_
        rintro _ w5 ⟨n1, rfl, hq1, hS6, hk4⟩
        refine ⟨fun h_ => trivial, ?_⟩
        refine WS.pure rfl rfl (fun _ => LV.extract rfl rfl) ?_
        refine WS.xse rfl rfl (XSE.entryStore (q := ((l.getD (ix).toNat dI).2.1.1, (l.getD (ix).toNat dI).2.1.2)) (v := (((lookL out ((l.getD (ix).toNat dI).2.1.1, (l.getD (ix).toNat dI).2.1.2)).getD 0) + 1)) hS6 hq1 rfl rfl rfl) ?_
        rintro w6 ⟨hS7, hk5⟩
        refine ⟨fun h_ => trivial, ?_⟩
        rw [updL_twice] at hS7
        refine WS.nil (blockQ.n <| thenQ.n ?_)
        refine WC.region ?_
        refine WL.lv rfl (LV.add rfl rfl (wr64 (by omega) (by omega))) ?_
        refine WL.lv rfl (LV.mv rfl) ?_
        refine WL.nil (thenQ.n ?_)
        have hS9 : SH w No w6 [mapE kLb kI b1 (updL out ((l.getD (ix).toNat dI).2.1.1, (l.getD (ix).toNat dI).2.1.2) (((lookL out ((l.getD (ix).toNat dI).2.1.1, (l.getD (ix).toNat dI).2.1.2)).getD 0) + 1))] := (SH.take 1 rfl hS7)
        exact ⟨_, by omega, (updL out ((l.getD (ix).toNat dI).2.1.1, (l.getD (ix).toNat dI).2.1.2) (((lookL out ((l.getD (ix).toNat dI).2.1.1, (l.getD (ix).toNat dI).2.1.2)).getD 0) + 1)), ix + 1, by omega, by omega, (by first | exact by_no ixlo hk q1 ha | exact by_yes ixlo hk q1 ha rfl | exact by_yes ixlo hk q1 ha hlp_), hS9, rfl, Weak.cons rfl <| Weak.cons rfl <| Weak.cons rfl <| Weak.cons rfl <| Weak.nil _⟩
      · have hS10 : SH w No w4.drew [mapE kLb kI b1 out, blkE b2 38 #[(.int .i64 ((l.getD (ix).toNat dI).1)), (.int .i64 ((l.getD (ix).toNat dI).2.1.1)), (.int .u64 ((l.getD (ix).toNat dI).2.1.2)), (.bool ((l.getD (ix).toNat dI).2.2.1)), (.string ((l.getD (ix).toNat dI).2.2.2.1)), (.bool ((l.getD (ix).toNat dI).2.2.2.2))]] := (SH.front [blkE b2 38 #[(.int .i64 ((l.getD (ix).toNat dI).1)), (.int .i64 ((l.getD (ix).toNat dI).2.1.1)), (.int .u64 ((l.getD (ix).toNat dI).2.1.2)), (.bool ((l.getD (ix).toNat dI).2.2.1)), (.string ((l.getD (ix).toNat dI).2.2.2.1)), (.bool ((l.getD (ix).toNat dI).2.2.2.2))]] hS4)
        refine WO.xe rfl rfl (XE.mapEntry (q := ((l.getD (ix).toNat dI).2.1.1, (l.getD (ix).toNat dI).2.1.2)) (z := 0) (key_lb Try.underlying25 Try.underlying3 Try.underlying23 (by decide) (by kernel_rfl)) hS10 Try.underlying42 ti3 rfl rfl) ?_
        rintro _ w7 ⟨n2, rfl, hq2, hS11, hk6⟩
        refine ⟨fun h_ => trivial, ?_⟩
        refine WSX.of [(.pure, 6), (.forced, 3), (.pure, 4), (.forced, 7)] (by kernel_rfl) rfl ?_
        refine WS.pure rfl rfl (fun _ => LV.extract rfl rfl) ?_
        refine WS.lvT rfl rfl (LV.look (q := ((l.getD (ix).toNat dI).2.1.1, (l.getD (ix).toNat dI).2.1.2)) (z := 0) (key_lb Try.underlying25 Try.underlying3 Try.underlying23 (by decide) (by kernel_rfl)) Try.underlying42 ti3 (SH.at hS11 (.head _)) rfl rfl) ?_
        refine WS.pure rfl rfl (fun _ => LV.add rfl rfl (wr64 (by omega) (by omega))) ?_
        refine WS.xse rfl rfl (XSE.entryStore (q := ((l.getD (ix).toNat dI).2.1.1, (l.getD (ix).toNat dI).2.1.2)) (v := (((lookL (updL out ((l.getD (ix).toNat dI).2.1.1, (l.getD (ix).toNat dI).2.1.2) ((lookL out ((l.getD (ix).toNat dI).2.1.1, (l.getD (ix).toNat dI).2.1.2)).getD 0)) ((l.getD (ix).toNat dI).2.1.1, (l.getD (ix).toNat dI).2.1.2)).getD 0) + 1)) hS11 hq2 rfl rfl rfl) ?_
        rintro w8 ⟨hS12, hk7⟩
        refine ⟨fun h_ => trivial, ?_⟩
        rw [updL_twice] at hS12
        refine WS.nil (blockQ.n <| thenQ.n ?_)
        refine WC.region ?_
        refine WL.lv rfl (LV.add rfl rfl (wr64 (by omega) (by omega))) ?_
        refine WL.lv rfl (LV.mv rfl) ?_
        refine WL.nil (thenQ.n ?_)
        have hS14 : SH w No w8 [mapE kLb kI b1 (updL out ((l.getD (ix).toNat dI).2.1.1, (l.getD (ix).toNat dI).2.1.2) (((lookL (updL out ((l.getD (ix).toNat dI).2.1.1, (l.getD (ix).toNat dI).2.1.2) ((lookL out ((l.getD (ix).toNat dI).2.1.1, (l.getD (ix).toNat dI).2.1.2)).getD 0)) ((l.getD (ix).toNat dI).2.1.1, (l.getD (ix).toNat dI).2.1.2)).getD 0) + 1))] := (SH.take 1 rfl hS12)
        exact ⟨_, by omega, (updL out ((l.getD (ix).toNat dI).2.1.1, (l.getD (ix).toNat dI).2.1.2) (((lookL (updL out ((l.getD (ix).toNat dI).2.1.1, (l.getD (ix).toNat dI).2.1.2) ((lookL out ((l.getD (ix).toNat dI).2.1.1, (l.getD (ix).toNat dI).2.1.2)).getD 0)) ((l.getD (ix).toNat dI).2.1.1, (l.getD (ix).toNat dI).2.1.2)).getD 0) + 1)), ix + 1, by omega, by omega, (by first | exact by_no ixlo hk q1 ha | exact by_yes ixlo hk q1 ha rfl | exact by_yes ixlo hk q1 ha hlp_), hS14, rfl, Weak.cons rfl <| Weak.cons rfl <| Weak.cons rfl <| Weak.cons rfl <| Weak.nil _⟩
    · skip
      refine WC.skip (blockQ.n <| thenQ.n ?_)
      refine WC.region ?_
      refine WL.lv rfl (LV.add rfl rfl (wr64 (by omega) (by omega))) ?_
      refine WL.lv rfl (LV.mv rfl) ?_
      refine WL.nil (thenQ.n ?_)
      have hS15 : SH w No w4 [mapE kLb kI b1 out] := (SH.take 1 rfl (SH.front [blkE b2 38 #[(.int .i64 ((l.getD (ix).toNat dI).1)), (.int .i64 ((l.getD (ix).toNat dI).2.1.1)), (.int .u64 ((l.getD (ix).toNat dI).2.1.2)), (.bool ((l.getD (ix).toNat dI).2.2.1)), (.string ((l.getD (ix).toNat dI).2.2.2.1)), (.bool ((l.getD (ix).toNat dI).2.2.2.2))]] hS3))
      exact ⟨_, by omega, out, ix + 1, by omega, by omega, (by first | exact by_no ixlo hk q1 ha | exact by_yes ixlo hk q1 ha rfl | exact by_yes ixlo hk q1 ha hlp_), hS15, rfl, Weak.cons rfl <| Weak.cons rfl <| Weak.cons rfl <| Weak.cons rfl <| Weak.nil _⟩
  · skip
    refine WC.exit (thenQ.x <| thenQ.x <| blockQ.hit <| thenQ.n ?_)
    refine WC.seq ?_
    refine WC.region ?_
    refine WL.lv rfl (LV.mv rfl) ?_
    refine WL.lv rfl (LV.asg rfl) ?_
    refine WL.nil (thenQ.n ?_)
    refine WC.ret (?_)
    have hres1 : out = BY l := by rw [q1, List.take_of_length_le (by omega)]
    exact ⟨_, fun a ha => res1 rfl ha rfl, (by rw [← hres1]; exact ⟨_, rfl, hL1⟩)⟩

end Go.Proofs.Ytannlhnjihielaa
