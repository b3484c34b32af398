/- How hot ages are, and what is around. -/
import Derived.Test.YtmmdplcnhndcgaaDc
import Derived.Test.YtmmdplcnhndcgaaFlC
import Derived.Test.YtmmdplcnhndcgaaHtA
import Derived.Test.YtmmdplcnhndcgaaCmA
import Derived.Test.YtmmdplcnhndcgaaGvH
namespace Go.Proofs.Ytmmdplcnhndcgaa
open Go Go.Gv Go.RowKit Go.Flt Go.Dec Go.Ht
set_option linter.unusedVariables false
set_option linter.unusedSimpArgs false
theorem ti28 : TI Try.prog 28 (.float .f64 0) 1 8 := by unfold TI; kernel_rfl

theorem cnan_calls {w : World} {x : Int}  :
    Calls Try.prog 44 #[(.int .i64 x)] w fun e w' => ∃ v, e = .returned v ∧ (fun v w' => v = .bool false ∧ KB No w w') v w' := by
  have hS : SH w No w [] := SH.nil _ _
  refine calls (l := litOf [(.int .i64 x)] 0) Try.func44 rfl (n := 6) rfl (Nat.le_of_ble_eq_true rfl) (lit_args _) ?_
  refine WC.seq ?_
  refine WC.region ?_
  refine WL.lv rfl (LV.asg rfl) ?_
  refine WL.nil (thenQ.n ?_)
  refine WC.seq ?_
  refine WC.region ?_
  iterate 2 refine WL.lv rfl (LV.mv rfl) ?_
  refine WL.lv rfl (LV.neI rfl rfl) ?_
  refine WL.lv rfl (LV.asg rfl) ?_
  refine WL.nil (thenQ.n ?_)
  refine WC.ret (?_)
  exact ⟨_, fun a ha => res1 rfl ha rfl, congrArg Value.bool (decide_eq_false (fun h_ => h_ rfl)), hS.kb⟩

theorem ccmp_calls {w : World} {x : Int} {y : Int}  :
    Calls Try.prog 31 #[(.int .i64 x), (.int .i64 y)] w fun e w' => ∃ v, e = .returned v ∧ (fun v w' => v = .int .i64 (Cm.CMPI x y) ∧ KB No w w') v w' := by
  have hS : SH w No w [] := SH.nil _ _
  refine calls (l := litOf [(.int .i64 x), (.int .i64 y)] 0) Try.func31 rfl (n := 20) rfl (Nat.le_of_ble_eq_true rfl) (lit_args _) ?_
  refine WC.seq ?_
  refine WC.region ?_
  refine WL.lv rfl (LV.asg rfl) ?_
  refine WL.nil (thenQ.n ?_)
  refine WC.seq ?_
  refine WC.region ?_
  refine WL.lv rfl (LV.mv rfl) ?_
  refine WL.call rfl (XC.fn Try.func44 (by kernel_rfl) rfl rfl rfl) (cnan_calls (x := x) ) ?_
  rintro v_ w1 ⟨rfl, hk1⟩
  have hS1 := SH.same hS hk1
  refine WL.lv rfl (LV.asg rfl) ?_
  refine WL.nil (thenQ.n ?_)
  refine WC.seq ?_
  refine WC.region ?_
  refine WL.lv rfl (LV.mv rfl) ?_
  refine WL.call rfl (XC.fn Try.func44 (by kernel_rfl) rfl rfl rfl) (cnan_calls (x := y) ) ?_
  rintro v_ w2 ⟨rfl, hk2⟩
  have hS2 := SH.same hS1 hk2
  refine WL.lv rfl (LV.asg rfl) ?_
  refine WL.nil (thenQ.n ?_)
  iterate 2 refine WC.seq ?_
  refine WC.region ?_
  refine WL.lv rfl (LV.mv rfl) ?_
  refine WL.nil (thenQ.n ?_)
  refine WC.condF rfl ?_
  refine WC.skip (thenQ.n ?_)
  iterate 2 refine WC.seq ?_
  refine WC.region ?_
  refine WL.lv rfl (LV.mv rfl) ?_
  refine WL.nil (thenQ.n ?_)
  refine WC.condF rfl ?_
  refine WC.skip (thenQ.n ?_)
  iterate 2 refine WC.seq ?_
  refine WC.region ?_
  iterate 2 refine WL.lv rfl (LV.mv rfl) ?_
  refine WL.lv rfl (LV.ltI rfl rfl) ?_
  refine WL.nil (thenQ.n ?_)
  refine WC.condP (p := x < y) rfl (fun hc1 => ?_) (fun hc1 => ?_)
  · skip
    refine WC.seq ?_
    refine WC.region ?_
    refine WL.lv rfl (LV.asg rfl) ?_
    refine WL.nil (thenQ.n ?_)
    refine WC.ret (thenQ.r <| ?_)
    exact ⟨_, fun a ha => res1 rfl ha rfl, congrArg (Value.int .i64) (by have h_ := Cm.cmpi_is x y; omega), hS2.kb⟩
  · skip
    refine WC.skip (thenQ.n ?_)
    iterate 2 refine WC.seq ?_
    refine WC.region ?_
    iterate 2 refine WL.lv rfl (LV.mv rfl) ?_
    refine WL.lv rfl (LV.gtI rfl rfl) ?_
    refine WL.nil (thenQ.n ?_)
    refine WC.condP (p := x > y) rfl (fun hc2 => ?_) (fun hc2 => ?_)
    · skip
      refine WC.seq ?_
      refine WC.region ?_
      refine WL.lv rfl (LV.asg rfl) ?_
      refine WL.nil (thenQ.n ?_)
      refine WC.ret (thenQ.r <| ?_)
      exact ⟨_, fun a ha => res1 rfl ha rfl, congrArg (Value.int .i64) (by have h_ := Cm.cmpi_is x y; omega), hS2.kb⟩
    · skip
      refine WC.skip (thenQ.n ?_)
      refine WC.seq ?_
      refine WC.region ?_
      refine WL.lv rfl (LV.asg rfl) ?_
      refine WL.nil (thenQ.n ?_)
      refine WC.ret (?_)
      exact ⟨_, fun a ha => res1 rfl ha rfl, congrArg (Value.int .i64) (by have h_ := Cm.cmpi_is x y; omega), hS2.kb⟩

theorem cor_calls {w : World} {A_vals : Option Addr} {n_vals c_vals : Nat} {vals : List Int} (h_vals : St No w (Rd eI (.slice A_vals n_vals c_vals) vals)) (hn_vals : vals.length = n_vals)  :
    Calls Try.prog 29 #[(.slice A_vals n_vals c_vals)] w fun e w' => ∃ v, e = .returned v ∧ (fun v w' => v = .int .i64 (Cm.ORL vals) ∧ KB No w w') v w' := by
  subst hn_vals
  have hma := Rd.max h_vals.now
  have hS : SH w No w [] := SH.nil _ _
  refine calls (l := litOf [(.slice A_vals vals.length c_vals)] 0) Try.func29 rfl (n := 18) rfl (Nat.le_of_ble_eq_true rfl) (lit_args _) ?_
  refine WC.seq ?_
  refine WC.region ?_
  refine WL.lv rfl (LV.asg rfl) ?_
  refine WL.nil (thenQ.n ?_)
  refine WC.seq ?_
  refine WC.region ?_
  refine WL.lv rfl (LV.asg rfl) ?_
  refine WL.nil (thenQ.n ?_)
  iterate 2 refine WC.seq ?_
  refine WC.region ?_
  refine WL.lv rfl (LV.mv rfl) ?_
  refine WL.lv rfl (LV.lenL Try.underlying22 rfl) ?_
  refine WL.lv rfl (LV.mv rfl) ?_
  refine WL.nil (thenQ.n ?_)
  refine WC.block ?_
  refine WC.loop (fun m_ f_ w_ => ∃ (ix : Int), (0 ≤ ix) ∧ (ix ≤ (vals.length : Int)) ∧ (Cm.ORL (vals.drop ix.toNat) = Cm.ORL vals) ∧ SH w No w_ [] ∧ m_ = (((vals.length : Int) - ix).toNat) ∧ Weak (lit [(3, (.int .i64 0)), (6, (.slice A_vals vals.length c_vals)), (7, (.int .i64 (vals.length : Int))), (8, (.int .i64 ix))]) f_) _ ⟨0, by omega, by omega, rfl, hS, rfl, Weak.cons rfl <| Weak.cons rfl <| Weak.cons rfl <| Weak.cons rfl <| Weak.nil _⟩ ?_
  rintro m1 f1 w1 ⟨ix, ixlo, ixhi, q1, hL1, rfl, hw1⟩
  refine WC.weak hw1 ?_
  clear hw1
  refine WC.seq ?_
  refine WC.region ?_
  refine WL.lv rfl (LV.ltI rfl rfl) ?_
  refine WL.nil (thenQ.n ?_)
  refine WC.seq ?_
  refine WC.condP (p := ix < (vals.length : Int)) rfl (fun hk => ?_) (fun hk => ?_)
  · skip
    refine WC.skip (thenQ.n ?_)
    refine WC.seq ?_
    refine WC.block ?_
    refine WC.seq ?_
    refine WC.region ?_
    obtain ⟨A1, c1, e1, g1⟩ := St.elt (SH.stN hL1 h_vals) 0 ix (by omega) (by omega)
    refine WL.lv rfl (LV.idxA Try.underlying22 ti3.sz rfl e1 rfl (by omega) (by omega)) ?_
    refine WL.lv rfl (LV.load1 (v := (.int .i64 (gI vals (ix)))) Try.underlying3 rfl rfl (g1 _ (KB.refl No _) 0 _ rfl)) ?_
    refine WL.lv rfl (LV.asg rfl) ?_
    refine WL.nil (thenQ.n ?_)
    refine WC.seq ?_
    refine WC.region ?_
    iterate 2 refine WL.lv rfl (LV.mv rfl) ?_
    refine WL.lv rfl (LV.neI rfl rfl) ?_
    refine WL.nil (thenQ.n ?_)
    refine WC.condP (p := (gI vals (ix)) ≠ 0) rfl (fun hc1 => ?_) (fun hc1 => ?_)
    · skip
      refine WC.seq ?_
      refine WC.region ?_
      refine WL.lv rfl (LV.mv rfl) ?_
      refine WL.lv rfl (LV.asg rfl) ?_
      refine WL.nil (thenQ.n ?_)
      refine WC.ret (blockQ.r <| thenQ.r <| thenQ.r <| blockQ.r <| thenQ.r <| ?_)
      exact ⟨_, fun a ha => res1 rfl ha rfl, congrArg (Value.int .i64) (by first | (rw [← q1, Cm.ORL_end (by omega)]; done) | (rw [← q1, Cm.ORL_at ixlo hk, if_pos (by omega)])), hL1.kb⟩
    · skip
      refine WC.skip (blockQ.n <| thenQ.n ?_)
      refine WC.region ?_
      refine WL.lv rfl (LV.add rfl rfl (wr64 (by omega) (by omega))) ?_
      refine WL.lv rfl (LV.mv rfl) ?_
      refine WL.nil (thenQ.n ?_)
      exact ⟨_, by omega, ix + 1, by omega, by omega, (by rw [← q1, Cm.ORL_at ixlo hk, if_neg (by omega)]), hL1, rfl, Weak.cons rfl <| Weak.cons rfl <| Weak.cons rfl <| Weak.cons rfl <| Weak.nil _⟩
  · skip
    refine WC.exit (thenQ.x <| thenQ.x <| blockQ.hit <| thenQ.n ?_)
    refine WC.seq ?_
    refine WC.region ?_
    refine WL.lv rfl (LV.mv rfl) ?_
    refine WL.lv rfl (LV.asg rfl) ?_
    refine WL.nil (thenQ.n ?_)
    refine WC.ret (?_)
    exact ⟨_, fun a ha => res1 rfl ha rfl, congrArg (Value.int .i64) (by first | (rw [← q1, Cm.ORL_end (by omega)]; done) | (rw [← q1, Cm.ORL_at ixlo hk, if_pos (by omega)])), hL1.kb⟩

theorem slist_calls {w : World} {A_a : Option Addr} {n_a c_a : Nat} {a : List Nat} {A_b : Option Addr} {n_b c_b : Nat} {b : List Nat} (h_a : St No w (Rd eF (.slice A_a n_a c_a) a)) (hn_a : a.length = n_a) (h_b : St No w (Rd eF (.slice A_b n_b c_b) b)) (hn_b : b.length = n_b) (wa : ∀ x ∈ a, x < 18446744073709551616) (wb : ∀ x ∈ b, x < 18446744073709551616) :
    Calls Try.prog 9 #[(.slice A_a n_a c_a), (.slice A_b n_b c_b)] w fun e w' => ∃ v, e = .returned v ∧ (fun v w' => v = .bool (decide (a.map tk = b.map tk)) ∧ KB No w w') v w' := by
  subst hn_a hn_b
  have hma := Rd.max h_a.now
  have hS : SH w No w [] := SH.nil _ _
  refine calls (l := litOf [(.slice A_a a.length c_a), (.slice A_b b.length c_b)] 0) Try.func9 rfl (n := 27) rfl (Nat.le_of_ble_eq_true rfl) (lit_args _) ?_
  refine WC.seq ?_
  refine WC.region ?_
  refine WL.lv rfl (LV.asg rfl) ?_
  refine WL.nil (thenQ.n ?_)
  iterate 2 refine WC.seq ?_
  refine WC.region ?_
  refine WL.lv rfl (LV.mv rfl) ?_
  refine WL.lv rfl (LV.lenL Try.underlying23 rfl) ?_
  refine WL.lv rfl (LV.mv rfl) ?_
  refine WL.lv rfl (LV.lenL Try.underlying23 rfl) ?_
  refine WL.lv rfl (LV.neI rfl rfl) ?_
  refine WL.nil (thenQ.n ?_)
  refine WC.condP (p := (a.length : Int) ≠ (b.length : Int)) rfl (fun hc1 => ?_) (fun hc1 => ?_)
  · skip
    refine WC.seq ?_
    refine WC.region ?_
    refine WL.lv rfl (LV.asg rfl) ?_
    refine WL.nil (thenQ.n ?_)
    refine WC.ret (thenQ.r <| ?_)
    exact ⟨_, fun a ha => res1 rfl ha rfl, congrArg Value.bool ((decide_eq_false (fun h_ => by first | (have hl_ := congrArg List.length h_; simp only [List.length_map] at hl_; omega) | exact h25 (map_tk h_ ilo hk))).symm), hS.kb⟩
  · skip
    refine WC.skip (thenQ.n ?_)
    iterate 2 refine WC.seq ?_
    refine WC.region ?_
    refine WL.lv rfl (LV.asg rfl) ?_
    refine WL.nil (thenQ.n ?_)
    refine WC.block ?_
    refine WC.loop (fun m_ f_ w_ => ∃ (i : Int), (0 ≤ i) ∧ (i ≤ (a.length : Int)) ∧ (∀ t : Int, 0 ≤ t → t < i → tk (a.getD t.toNat 0) = tk (b.getD t.toNat 0)) ∧ SH w No w_ [] ∧ m_ = (((a.length : Int) - i).toNat) ∧ Weak (lit [(0, (.slice A_a a.length c_a)), (1, (.slice A_b b.length c_b)), (5, (.int .i64 i))]) f_) _ ⟨0, by omega, by omega, (fun t h1 h2 => by omega), hS, rfl, Weak.cons rfl <| Weak.cons rfl <| Weak.cons rfl <| Weak.nil _⟩ ?_
    rintro m1 f1 w1 ⟨i, ilo, ihi, q1, hL1, rfl, hw1⟩
    refine WC.weak hw1 ?_
    clear hw1
    iterate 2 refine WC.seq ?_
    refine WC.region ?_
    iterate 2 refine WL.lv rfl (LV.mv rfl) ?_
    refine WL.lv rfl (LV.lenL Try.underlying23 rfl) ?_
    refine WL.lv rfl (LV.ltI rfl rfl) ?_
    refine WL.nil (thenQ.n ?_)
    refine WC.condP (p := i < (a.length : Int)) rfl (fun hk => ?_) (fun hk => ?_)
    · have hwa_ := wa (a.getD i.toNat 0) (getD_mem (by omega))
      have hwb_ := wb (b.getD i.toNat 0) (getD_mem (by omega))
      refine WC.skip (thenQ.n ?_)
      refine WC.seq ?_
      refine WC.block ?_
      refine WC.seq ?_
      have hS1 := SH.drew hL1
      refine WC.regionD [] (fun w_ => KB No w1.drew w_) [(.pure, 0), (.pure, 1), (.pure, 2), (.look, 3), (.pure, 4), (.pure, 5), (.pure, 6), (.look, 7), (.forced, 8), (.pure, 9)] (by kernel_rfl) (by kernel_rfl) (KB.refl _ _) ?_
      iterate 2 refine WS.pure rfl rfl (fun _ => LV.mv rfl) ?_
      obtain ⟨A1, c1, e1, g1⟩ := St.elt (SH.stN hS1 h_a) 0 i (by omega) (by omega)
      refine WS.pure rfl rfl (fun _ => LV.idxA Try.underlying23 ti28.sz rfl e1 rfl (by omega) (by omega)) ?_
      refine WS.look rfl rfl (fun _ hk_ => LV.load1 (v := (.float .f64 (a.getD (i).toNat 0))) Try.underlying28 rfl rfl (g1 _ hk_ 0 _ rfl)) ?_
      iterate 2 refine WS.pure rfl rfl (fun _ => LV.mv rfl) ?_
      obtain ⟨A2, c2, e2, g2⟩ := St.elt (SH.stN hS1 h_b) 0 i (by omega) (by omega)
      refine WS.pure rfl rfl (fun _ => LV.idxA Try.underlying23 ti28.sz rfl e2 rfl (by omega) (by omega)) ?_
      refine WS.look rfl rfl (fun _ hk_ => LV.load1 (v := (.float .f64 (b.getD (i).toNat 0))) Try.underlying28 rfl rfl (g2 _ hk_ 0 _ rfl)) ?_
      refine WS.call rfl rfl (XC.fn Try.func17 (by kernel_rfl) rfl rfl rfl) (fsame_calls (a := (a.getD (i).toNat 0)) (b := (b.getD (i).toNat 0)) (by first | assumption | omega | exact hp _ (getD_mem (by omega)) | exact hpz _ (getD_mem (by omega))) (by first | assumption | omega | exact hp _ (getD_mem (by omega)) | exact hpz _ (getD_mem (by omega)))) ?_
      rintro v_ w2 ⟨rfl, hk1⟩
      have hS2 := SH.same hS1 hk1
      refine ⟨fun h_ => (KB.transN (KB.refl _ _) hk1), ?_⟩
      refine WS.pure rfl rfl (fun _ => LV.notP rfl) ?_
      refine WS.nil (thenQ.n ?_)
      refine WC.condP (p := ¬ (tk (a.getD (i).toNat 0) = tk (b.getD (i).toNat 0))) rfl (fun h25 => ?_) (fun h25 => ?_)
      · skip
        refine WC.seq ?_
        refine WC.region ?_
        refine WL.lv rfl (LV.asg rfl) ?_
        refine WL.nil (thenQ.n ?_)
        refine WC.ret (blockQ.r <| thenQ.r <| thenQ.r <| blockQ.r <| thenQ.r <| ?_)
        exact ⟨_, fun a ha => res1 rfl ha rfl, congrArg Value.bool ((decide_eq_false (fun h_ => by first | (have hl_ := congrArg List.length h_; simp only [List.length_map] at hl_; omega) | exact h25 (map_tk h_ ilo hk))).symm), hS2.kb⟩
      · skip
        refine WC.skip (blockQ.n <| thenQ.n ?_)
        refine WC.region ?_
        refine WL.lv rfl (LV.mv rfl) ?_
        refine WL.lv rfl (LV.add rfl rfl (wr64 (by omega) (by omega))) ?_
        refine WL.lv rfl (LV.asg rfl) ?_
        refine WL.nil (thenQ.n ?_)
        exact ⟨_, by omega, i + 1, by omega, by omega, (all_step (p := fun t => tk (a.getD t.toNat 0) = tk (b.getD t.toNat 0)) q1 (Decidable.not_not.1 h25)), hS2, rfl, Weak.cons rfl <| Weak.cons rfl <| Weak.cons rfl <| Weak.nil _⟩
    · skip
      refine WC.exit (thenQ.x <| thenQ.x <| blockQ.hit <| thenQ.n ?_)
      refine WC.seq ?_
      refine WC.region ?_
      refine WL.lv rfl (LV.asg rfl) ?_
      refine WL.nil (thenQ.n ?_)
      refine WC.ret (?_)
      exact ⟨_, fun a ha => res1 rfl ha rfl, congrArg Value.bool ((decide_eq_true (ext_tk (by omega) (fun t h0_ h1_ => q1 t h0_ (by omega)))).symm), hL1.kb⟩

theorem hnone_calls {w : World} {x : Nat}  :
    Calls Try.prog 26 #[(.float .f64 x)] w fun e w' => ∃ v, e = .returned v ∧ (fun v w' => (v = .bool (decide (¬ (-9218868437227405312 ≤ sk x ∧ sk x ≤ 9218868437227405312)))) ∧ KB No w w') v w' := by
  have hS : SH w No w [] := SH.nil _ _
  refine calls (l := litOf [(.float .f64 x)] 0) Try.func26 rfl (n := 6) rfl (Nat.le_of_ble_eq_true rfl) (lit_args _) ?_
  refine WC.seq ?_
  refine WC.region ?_
  refine WL.lv rfl (LV.asg rfl) ?_
  refine WL.nil (thenQ.n ?_)
  refine WC.seq ?_
  refine WC.region ?_
  iterate 2 refine WL.lv rfl (LV.mv rfl) ?_
  refine WL.lv rfl (LV.neF (a := x) (b := x) rfl rfl) ?_
  refine WL.lv rfl (LV.asg rfl) ?_
  refine WL.nil (thenQ.n ?_)
  refine WC.ret (?_)
  exact ⟨_, fun a ha => res1 rfl ha rfl, congrArg Value.bool (decide_eq_decide.2 (by omega)), hS.kb⟩

theorem hnan_calls {w : World}  :
    Calls Try.prog 22 #[] w fun e w' => ∃ v, e = .returned v ∧ (fun v w' => ∃ (r' : Nat), v = .float .f64 r' ∧ cn r' = none ∧ r' < 18446744073709551616 ∧ KB No w w') v w' := by
  have hS : SH w No w [] := SH.nil _ _
  refine calls (l := litOf [] 0) Try.func22 rfl (n := 2) rfl (Nat.le_of_ble_eq_true rfl) (lit_args _) ?_
  refine WC.seq ?_
  refine WC.region ?_
  refine WL.lv rfl (LV.asg rfl) ?_
  refine WL.nil (thenQ.n ?_)
  refine WC.seq ?_
  refine WC.region ?_
  refine WL.call rfl (XC.fn Try.func37 (by kernel_rfl) rfl rfl rfl) (ratio_calls (common := (0 : Int)) (n := (0 : Int)) (m := (0 : Int)) (by omega) (by omega) (by omega)) ?_
  rintro v_ w1 ⟨r1, rfl, hf1, hf2, hk1⟩
  have hS1 := SH.same hS hk1
  refine WL.lv rfl (LV.asg rfl) ?_
  refine WL.nil (thenQ.n ?_)
  refine WC.ret (?_)
  exact ⟨_, fun a ha => res1 rfl ha rfl, r1, congrArg FV (rfl), hf1.trans rat000, hf2, hS1.kb⟩

theorem of_calls {w : World} {A_ages : Option Addr} {n_ages c_ages : Nat} {ages : List Int} {half : Int} (h_ages : St No w (Rd eI (.slice A_ages n_ages c_ages) ages)) (hn_ages : ages.length = n_ages) (wa : ∀ x ∈ ages, -9223372036854775808 ≤ x ∧ x ≤ 9223372036854775807) (hl : ages.length ≤ 1000000) :
    Calls Try.prog 7 #[(.slice A_ages n_ages c_ages), (.int .i64 half)] w fun e w' => ∃ v, e = .returned v ∧ (fun v w' => ∃ (A0' : Option Addr) (c0' : Nat) (ys' : List Nat) (e' : Int), v = .tuple #[.slice A0' (ys').length c0', .int .i64 e'] ∧ OfR (OfP ages half) ages half ys' e' ∧ SH w No w' [rowE eF 28 (.slice A0' (ys').length c0') ys']) v w' := by
  subst hn_ages
  have hS : SH w No w [] := SH.nil _ _
  refine calls (l := litOf [(.slice A_ages ages.length c_ages), (.int .i64 half)] 0) Try.func7 rfl (n := 31) rfl (Nat.le_of_ble_eq_true rfl) (lit_args _) ?_
  refine WC.seq ?_
  refine WC.region ?_
  iterate 2 refine WL.lv rfl (LV.asg rfl) ?_
  refine WL.nil (thenQ.n ?_)
  iterate 2 refine WC.seq ?_
  refine WC.region ?_
  refine WL.lv rfl (LV.mv rfl) ?_
  refine WL.lv rfl (LV.ltI rfl rfl) ?_
  refine WL.nil (thenQ.n ?_)
  refine WC.condP (p := half < 1) rfl (fun hc1 => ?_) (fun hc1 => ?_)
  · skip
    refine WC.seq ?_
    refine WC.region ?_
    iterate 2 refine WL.lv rfl (LV.asg rfl) ?_
    refine WL.nil (thenQ.n ?_)
    refine WC.ret (thenQ.r <| ?_)
    have hS1 := SH.nilRow (E := eF) (T := 28) hS
    exact ⟨_, fun a ha => res2 rfl ha rfl rfl, _, _, [], 2, tup2 rfl (congrArg (Value.int .i64) (by omega)), .inl ⟨by omega, rfl, rfl⟩, hS1⟩
  · skip
    refine WC.skip (thenQ.n ?_)
    refine WC.seq ?_
    refine WC.region ?_
    have hS2 := SH.nilRow (E := eF) (T := 28) hS
    refine WL.lv rfl (LV.asg rfl) ?_
    refine WL.nil (thenQ.n ?_)
    iterate 2 refine WC.seq ?_
    refine WC.region ?_
    refine WL.lv rfl (LV.mv rfl) ?_
    refine WL.lv rfl (LV.lenL Try.underlying22 rfl) ?_
    refine WL.lv rfl (LV.mv rfl) ?_
    refine WL.nil (thenQ.n ?_)
    refine WC.block ?_
    refine WC.loop (fun m_ f_ w_ => ∃ (A_out : Option Addr) (c_out : Nat) (out : List Nat) (ix : Int), (0 ≤ ix) ∧ (ix ≤ (ages.length : Int)) ∧ (Ea (OfP ages half) out ix) ∧ SH w No w_ [rowE eF 28 (.slice A_out out.length c_out) out] ∧ m_ = (((ages.length : Int) - ix).toNat) ∧ Weak (lit [(1, (.int .i64 half)), (6, (.slice A_out out.length c_out)), (12, (.slice A_ages ages.length c_ages)), (13, (.int .i64 (ages.length : Int))), (14, (.int .i64 ix))]) f_) _ ⟨none, 0, [], 0, by omega, by omega, (Ea.z _), hS2, rfl, Weak.cons rfl <| Weak.cons rfl <| Weak.cons rfl <| Weak.cons rfl <| Weak.cons rfl <| Weak.nil _⟩ ?_
    rintro m1 f1 w1 ⟨A_out, c_out, out, ix, ixlo, ixhi, q1, hL1, rfl, hw1⟩
    refine WC.weak hw1 ?_
    clear hw1
    have hol_ := q1.len
    refine WC.seq ?_
    refine WC.region ?_
    refine WL.lv rfl (LV.ltI rfl rfl) ?_
    refine WL.nil (thenQ.n ?_)
    refine WC.seq ?_
    refine WC.condP (p := ix < (ages.length : Int)) rfl (fun hk => ?_) (fun hk => ?_)
    · have hwa_ := wa (gI ages ix) (getD_mem (by omega))
      refine WC.skip (thenQ.n ?_)
      refine WC.seq ?_
      refine WC.block ?_
      refine WC.seq ?_
      refine WC.region ?_
      obtain ⟨A1, c1, e1, g1⟩ := St.elt (SH.stN hL1 h_ages) 0 ix (by omega) (by omega)
      refine WL.lv rfl (LV.idxA Try.underlying22 ti3.sz rfl e1 rfl (by omega) (by omega)) ?_
      refine WL.lv rfl (LV.load1 (v := (.int .i64 (gI ages (ix)))) Try.underlying3 rfl rfl (g1 _ (KB.refl No _) 0 _ rfl)) ?_
      refine WL.lv rfl (LV.asg rfl) ?_
      refine WL.nil (thenQ.n ?_)
      refine WC.seq ?_
      refine WC.region ?_
      refine WL.call rfl (XC.fn Try.func22 (by kernel_rfl) rfl rfl rfl) (hnan_calls  ) ?_
      rintro v_ w2 ⟨r1, rfl, hf1, hf2, hk1⟩
      have hS3 := SH.same hL1 hk1
      refine WL.lv rfl (LV.asg rfl) ?_
      refine WL.nil (thenQ.n ?_)
      iterate 2 refine WC.seq ?_
      refine WC.region ?_
      refine WL.lv rfl (LV.mv rfl) ?_
      refine WL.lv rfl (LV.geI rfl rfl) ?_
      refine WL.nil (thenQ.n ?_)
      refine WC.condP (p := (gI ages (ix)) ≥ 0) rfl (fun hc2 => ?_) (fun hc2 => ?_)
      · skip
        refine WC.region ?_
        iterate 2 refine WL.lv rfl (LV.mv rfl) ?_
        have hdv_ := div_bd (n := gI ages ix) (half := half) (by omega) (by omega)
        refine WL.lv rfl (LV.quo rfl rfl (by omega) (quo64 (by omega) (by omega) (by omega) rfl)) ?_
        refine WL.call rfl (XC.fn Try.func23 (by kernel_rfl) rfl rfl rfl) (halve_calls (x := 4607182418800017408) (n := ((gI ages (ix)) / half)) (by first | assumption | omega | exact hp _ (getD_mem (by omega)) | exact hpz _ (getD_mem (by omega))) (by omega)) ?_
        rintro v_ w3 ⟨r2, rfl, hf3, hf4, hk2⟩
        have hS4 := SH.same hS3 hk2
        refine WL.lv rfl (LV.asg rfl) ?_
        refine WL.nil (thenQ.n ?_)
        refine WC.region ?_
        iterate 2 refine WL.lv rfl (LV.mv rfl) ?_
        refine WL.xe rfl (XE.buildSlice (E := eF) [(0, (.float .f64 r2))] #[(.float .f64 r2)] [r2] hS4 Try.underlying23 ti28 rfl (by decide) (by kernel_rfl) (.inr rfl) rfl rfl (by decide)) ?_
        rintro _ w4 ⟨b1, rfl, hS5, hk3⟩
        have hS6 : SH w No w4 [rowE eF 28 (.slice A_out out.length c_out) out, rowE eF 28 (.slice (some ⟨b1, 0, none⟩) 1 1) [r2]] := (SH.front [rowE eF 28 (.slice (some ⟨b1, 0, none⟩) 1 1) [r2]] hS5)
        refine WL.xe rfl (XE.append hS6 Try.underlying23 ti28 rfl (St.now (SH.rd hS6 (.tail _ (.head _)))) rfl rfl (by first | omega | simp only [List.length_append, List.length_cons, List.length_nil, List.length_take, List.length_reverse, List.length_drop] at *; omega) (by first | omega | simp only [List.length_append, List.length_cons, List.length_nil, List.length_take, List.length_reverse, List.length_drop] at *; omega)) ?_
        rintro _ w5 ⟨A2, c2, rfl, hS7, hk4⟩
        refine WL.lv rfl (LV.asg rfl) ?_
        refine WL.nil (blockQ.n <| thenQ.n ?_)
        refine WC.region ?_
        refine WL.lv rfl (LV.add rfl rfl (wr64 (by omega) (by omega))) ?_
        refine WL.lv rfl (LV.mv rfl) ?_
        refine WL.nil (thenQ.n ?_)
        have hS8 : SH w No w5 [rowE eF 28 (.slice A2 ((out ++ [r2]).length) c2) (out ++ [r2])] := (SH.take 1 rfl hS7)
        exact ⟨_, by omega, A2, c2, (out ++ [r2]), ix + 1, by omega, by omega, (q1.snoc ixlo ⟨hf4, .inr ⟨by omega, hf3⟩⟩), hS8, rfl, Weak.cons rfl <| Weak.cons rfl <| Weak.cons rfl <| Weak.cons rfl <| Weak.cons rfl <| Weak.nil _⟩
      · skip
        refine WC.skip (thenQ.n ?_)
        refine WC.region ?_
        iterate 2 refine WL.lv rfl (LV.mv rfl) ?_
        refine WL.xe rfl (XE.buildSlice (E := eF) [(0, (.float .f64 r1))] #[(.float .f64 r1)] [r1] hS3 Try.underlying23 ti28 rfl (by decide) (by kernel_rfl) (.inr rfl) rfl rfl (by decide)) ?_
        rintro _ w6 ⟨b2, rfl, hS9, hk5⟩
        have hS10 : SH w No w6 [rowE eF 28 (.slice A_out out.length c_out) out, rowE eF 28 (.slice (some ⟨b2, 0, none⟩) 1 1) [r1]] := (SH.front [rowE eF 28 (.slice (some ⟨b2, 0, none⟩) 1 1) [r1]] hS9)
        refine WL.xe rfl (XE.append hS10 Try.underlying23 ti28 rfl (St.now (SH.rd hS10 (.tail _ (.head _)))) rfl rfl (by first | omega | simp only [List.length_append, List.length_cons, List.length_nil, List.length_take, List.length_reverse, List.length_drop] at *; omega) (by first | omega | simp only [List.length_append, List.length_cons, List.length_nil, List.length_take, List.length_reverse, List.length_drop] at *; omega)) ?_
        rintro _ w7 ⟨A3, c3, rfl, hS11, hk6⟩
        refine WL.lv rfl (LV.asg rfl) ?_
        refine WL.nil (blockQ.n <| thenQ.n ?_)
        refine WC.region ?_
        refine WL.lv rfl (LV.add rfl rfl (wr64 (by omega) (by omega))) ?_
        refine WL.lv rfl (LV.mv rfl) ?_
        refine WL.nil (thenQ.n ?_)
        have hS12 : SH w No w7 [rowE eF 28 (.slice A3 ((out ++ [r1]).length) c3) (out ++ [r1])] := (SH.take 1 rfl hS11)
        exact ⟨_, by omega, A3, c3, (out ++ [r1]), ix + 1, by omega, by omega, (q1.snoc ixlo ⟨hf2, .inl ⟨by omega, hf1⟩⟩), hS12, rfl, Weak.cons rfl <| Weak.cons rfl <| Weak.cons rfl <| Weak.cons rfl <| Weak.cons rfl <| Weak.nil _⟩
    · skip
      refine WC.exit (thenQ.x <| thenQ.x <| blockQ.hit <| thenQ.n ?_)
      refine WC.seq ?_
      refine WC.region ?_
      refine WL.lv rfl (LV.mv rfl) ?_
      iterate 2 refine WL.lv rfl (LV.asg rfl) ?_
      refine WL.nil (thenQ.n ?_)
      refine WC.ret (?_)
      exact ⟨_, fun a ha => res2 rfl ha rfl rfl, _, _, out, 0, tup2 rfl (congrArg (Value.int .i64) (by omega)), .inr ⟨by omega, rfl, q1.fin (by omega)⟩, hL1⟩

theorem rof_calls {w : World} {A_ages : Option Addr} {n_ages c_ages : Nat} {ages : List Int} {half : Int} (h_ages : St No w (Rd eI (.slice A_ages n_ages c_ages) ages)) (hn_ages : ages.length = n_ages) (wa : ∀ x ∈ ages, -9223372036854775808 ≤ x ∧ x ≤ 9223372036854775807) (hl : ages.length ≤ 1000000) :
    Calls Try.prog 8 #[(.slice A_ages n_ages c_ages), (.int .i64 half)] w fun e w' => ∃ v, e = .returned v ∧ (fun v w' => ∃ (A0' : Option Addr) (c0' : Nat) (ys' : List Nat) (e' : Int), v = .tuple #[.slice A0' (ys').length c0', .int .i64 e'] ∧ OfR (OfD ages half) ages half ys' e' ∧ SH w No w' [rowE eF 28 (.slice A0' (ys').length c0') ys']) v w' := by
  subst hn_ages
  have hS : SH w No w [] := SH.nil _ _
  refine calls (l := litOf [(.slice A_ages ages.length c_ages), (.int .i64 half)] 0) Try.func8 rfl (n := 37) rfl (Nat.le_of_ble_eq_true rfl) (lit_args _) ?_
  refine WC.seq ?_
  refine WC.region ?_
  iterate 2 refine WL.lv rfl (LV.asg rfl) ?_
  refine WL.nil (thenQ.n ?_)
  iterate 2 refine WC.seq ?_
  refine WC.region ?_
  refine WL.lv rfl (LV.mv rfl) ?_
  refine WL.lv rfl (LV.ltI rfl rfl) ?_
  refine WL.nil (thenQ.n ?_)
  refine WC.condP (p := half < 1) rfl (fun hc1 => ?_) (fun hc1 => ?_)
  · skip
    refine WC.seq ?_
    refine WC.region ?_
    iterate 2 refine WL.lv rfl (LV.asg rfl) ?_
    refine WL.nil (thenQ.n ?_)
    refine WC.ret (thenQ.r <| ?_)
    have hS1 := SH.nilRow (E := eF) (T := 28) hS
    exact ⟨_, fun a ha => res2 rfl ha rfl rfl, _, _, [], 2, tup2 rfl (congrArg (Value.int .i64) (by omega)), .inl ⟨by omega, rfl, rfl⟩, hS1⟩
  · skip
    refine WC.skip (thenQ.n ?_)
    refine WC.seq ?_
    refine WC.region ?_
    refine WL.xe rfl (XE.buildSlice (E := eF) [] #[] [] hS Try.underlying23 ti28 rfl (by decide) (by kernel_rfl) (.inr rfl) rfl rfl (by decide)) ?_
    rintro _ w1 ⟨b1, rfl, hS2, hk1⟩
    refine WL.lv rfl (LV.asg rfl) ?_
    refine WL.nil (thenQ.n ?_)
    iterate 2 refine WC.seq ?_
    refine WC.region ?_
    refine WL.lv rfl (LV.asg rfl) ?_
    refine WL.nil (thenQ.n ?_)
    refine WC.block ?_
    refine WC.loop (fun m_ f_ w_ => ∃ (A_out : Option Addr) (c_out : Nat) (out : List Nat) (i : Int), (0 ≤ i) ∧ (i ≤ (ages.length : Int)) ∧ (Ea (OfD ages half) out i) ∧ SH w No w_ [rowE eF 28 (.slice A_out out.length c_out) out] ∧ m_ = (((ages.length : Int) - i).toNat) ∧ Weak (lit [(0, (.slice A_ages ages.length c_ages)), (1, (.int .i64 half)), (6, (.slice A_out out.length c_out)), (7, (.int .i64 i))]) f_) _ ⟨(some ⟨b1, 0, none⟩), 0, [], 0, by omega, by omega, (Ea.z _), hS2, rfl, Weak.cons rfl <| Weak.cons rfl <| Weak.cons rfl <| Weak.cons rfl <| Weak.nil _⟩ ?_
    rintro m1 f1 w2 ⟨A_out, c_out, out, i, ilo, ihi, q1, hL1, rfl, hw1⟩
    refine WC.weak hw1 ?_
    clear hw1
    have hol_ := q1.len
    iterate 2 refine WC.seq ?_
    refine WC.region ?_
    iterate 2 refine WL.lv rfl (LV.mv rfl) ?_
    refine WL.lv rfl (LV.lenL Try.underlying22 rfl) ?_
    refine WL.lv rfl (LV.ltI rfl rfl) ?_
    refine WL.nil (thenQ.n ?_)
    refine WC.condP (p := i < (ages.length : Int)) rfl (fun hk => ?_) (fun hk => ?_)
    · have hwa_ := wa (gI ages i) (getD_mem (by omega))
      refine WC.skip (thenQ.n ?_)
      refine WC.seq ?_
      refine WC.block ?_
      refine WC.seq ?_
      refine WC.region ?_
      iterate 2 refine WL.lv rfl (LV.mv rfl) ?_
      obtain ⟨A1, c1, e1, g1⟩ := St.elt (SH.stN hL1 h_ages) 0 i (by omega) (by omega)
      refine WL.lv rfl (LV.idxA Try.underlying22 ti3.sz rfl e1 rfl (by omega) (by omega)) ?_
      refine WL.lv rfl (LV.load1 (v := (.int .i64 (gI ages (i)))) Try.underlying3 rfl rfl (g1 _ (KB.refl No _) 0 _ rfl)) ?_
      refine WL.lv rfl (LV.ltI rfl rfl) ?_
      refine WL.nil (thenQ.n ?_)
      refine WC.condP (p := (gI ages (i)) < 0) rfl (fun hc2 => ?_) (fun hc2 => ?_)
      · skip
        refine WC.region ?_
        refine WL.lv rfl (LV.mv rfl) ?_
        refine WL.call rfl (XC.fn Try.func24 (by kernel_rfl) rfl rfl rfl) (none_calls  ) ?_
        rintro v_ w3 ⟨r1, rfl, hf1, hf2, hk2⟩
        have hS3 := SH.same hL1 hk2
        refine WL.xe rfl (XE.buildSlice (E := eF) [(0, (.float .f64 r1))] #[(.float .f64 r1)] [r1] hS3 Try.underlying23 ti28 rfl (by decide) (by kernel_rfl) (.inr rfl) rfl rfl (by decide)) ?_
        rintro _ w4 ⟨b2, rfl, hS4, hk3⟩
        have hS5 : SH w No w4 [rowE eF 28 (.slice A_out out.length c_out) out, rowE eF 28 (.slice (some ⟨b2, 0, none⟩) 1 1) [r1]] := (SH.front [rowE eF 28 (.slice (some ⟨b2, 0, none⟩) 1 1) [r1]] hS4)
        refine WL.xe rfl (XE.append hS5 Try.underlying23 ti28 rfl (St.now (SH.rd hS5 (.tail _ (.head _)))) rfl rfl (by first | omega | simp only [List.length_append, List.length_cons, List.length_nil, List.length_take, List.length_reverse, List.length_drop] at *; omega) (by first | omega | simp only [List.length_append, List.length_cons, List.length_nil, List.length_take, List.length_reverse, List.length_drop] at *; omega)) ?_
        rintro _ w5 ⟨A2, c2, rfl, hS6, hk4⟩
        refine WL.lv rfl (LV.asg rfl) ?_
        refine WL.nil (blockQ.n <| thenQ.n ?_)
        refine WC.region ?_
        refine WL.lv rfl (LV.mv rfl) ?_
        refine WL.lv rfl (LV.add rfl rfl (wr64 (by omega) (by omega))) ?_
        refine WL.lv rfl (LV.asg rfl) ?_
        refine WL.nil (thenQ.n ?_)
        have hS7 : SH w No w5 [rowE eF 28 (.slice A2 ((out ++ [r1]).length) c2) (out ++ [r1])] := (SH.take 1 rfl hS6)
        exact ⟨_, by omega, A2, c2, (out ++ [r1]), i + 1, by omega, by omega, (q1.snoc ilo ⟨hf2, .inl ⟨by omega, hf1⟩⟩), hS7, rfl, Weak.cons rfl <| Weak.cons rfl <| Weak.cons rfl <| Weak.cons rfl <| Weak.nil _⟩
      · skip
        refine WC.region ?_
        iterate 3 refine WL.lv rfl (LV.mv rfl) ?_
        obtain ⟨A3, c3, e2, g2⟩ := St.elt (SH.stN hL1 h_ages) 0 i (by omega) (by omega)
        refine WL.lv rfl (LV.idxA Try.underlying22 ti3.sz rfl e2 rfl (by omega) (by omega)) ?_
        refine WL.lv rfl (LV.load1 (v := (.int .i64 (gI ages (i)))) Try.underlying3 rfl rfl (g2 _ (KB.refl No _) 0 _ rfl)) ?_
        refine WL.lv rfl (LV.mv rfl) ?_
        have hdv_ := div_bd (n := gI ages i) (half := half) (by omega) (by omega)
        refine WL.lv rfl (LV.quo rfl rfl (by omega) (quo64 (by omega) (by omega) (by omega) rfl)) ?_
        refine WL.call rfl (XC.fn Try.func25 (by kernel_rfl) rfl rfl rfl) (rhalve_calls (x := 4607182418800017408) (n := ((gI ages (i)) / half)) (by first | assumption | omega | exact hp _ (getD_mem (by omega)) | exact hpz _ (getD_mem (by omega)))) ?_
        rintro v_ w6 ⟨r2, rfl, hf3, hf4, hk5⟩
        have hS8 := SH.same hL1 hk5
        refine WL.xe rfl (XE.buildSlice (E := eF) [(0, (.float .f64 r2))] #[(.float .f64 r2)] [r2] hS8 Try.underlying23 ti28 rfl (by decide) (by kernel_rfl) (.inr rfl) rfl rfl (by decide)) ?_
        rintro _ w7 ⟨b3, rfl, hS9, hk6⟩
        have hS10 : SH w No w7 [rowE eF 28 (.slice A_out out.length c_out) out, rowE eF 28 (.slice (some ⟨b3, 0, none⟩) 1 1) [r2]] := (SH.front [rowE eF 28 (.slice (some ⟨b3, 0, none⟩) 1 1) [r2]] hS9)
        refine WL.xe rfl (XE.append hS10 Try.underlying23 ti28 rfl (St.now (SH.rd hS10 (.tail _ (.head _)))) rfl rfl (by first | omega | simp only [List.length_append, List.length_cons, List.length_nil, List.length_take, List.length_reverse, List.length_drop] at *; omega) (by first | omega | simp only [List.length_append, List.length_cons, List.length_nil, List.length_take, List.length_reverse, List.length_drop] at *; omega)) ?_
        rintro _ w8 ⟨A4, c4, rfl, hS11, hk7⟩
        refine WL.lv rfl (LV.asg rfl) ?_
        refine WL.nil (blockQ.n <| thenQ.n ?_)
        refine WC.region ?_
        refine WL.lv rfl (LV.mv rfl) ?_
        refine WL.lv rfl (LV.add rfl rfl (wr64 (by omega) (by omega))) ?_
        refine WL.lv rfl (LV.asg rfl) ?_
        refine WL.nil (thenQ.n ?_)
        have hS12 : SH w No w8 [rowE eF 28 (.slice A4 ((out ++ [r2]).length) c4) (out ++ [r2])] := (SH.take 1 rfl hS11)
        exact ⟨_, by omega, A4, c4, (out ++ [r2]), i + 1, by omega, by omega, (q1.snoc ilo ⟨hf4, .inr ⟨by omega, hf3⟩⟩), hS12, rfl, Weak.cons rfl <| Weak.cons rfl <| Weak.cons rfl <| Weak.cons rfl <| Weak.nil _⟩
    · skip
      refine WC.exit (thenQ.x <| thenQ.x <| blockQ.hit <| thenQ.n ?_)
      refine WC.seq ?_
      refine WC.region ?_
      refine WL.lv rfl (LV.mv rfl) ?_
      iterate 2 refine WL.lv rfl (LV.asg rfl) ?_
      refine WL.nil (thenQ.n ?_)
      refine WC.ret (?_)
      exact ⟨_, fun a ha => res2 rfl ha rfl rfl, _, _, out, 0, tup2 rfl (congrArg (Value.int .i64) (by omega)), .inr ⟨by omega, rfl, q1.fin (by omega)⟩, hL1⟩

theorem around_calls {w : World} {A_l : Option Addr} {n_l c_l : Nat} {l : List Nat} {reach : Int} (h_l : St No w (Rd eF (.slice A_l n_l c_l) l)) (hn_l : l.length = n_l) (wl : ∀ x ∈ l, x < 18446744073709551616) (hl : l.length ≤ 1000000) :
    Calls Try.prog 15 #[(.slice A_l n_l c_l), (.int .i64 reach)] w fun e w' => ∃ v, e = .returned v ∧ (fun v w' => ∃ (A0' : Option Addr) (c0' : Nat) (ys' : List Nat) (e' : Int), v = .tuple #[.slice A0' (ys').length c0', .int .i64 e'] ∧ ArR l reach ys' e' ∧ SH w No w' [rowE eF 28 (.slice A0' (ys').length c0') ys']) v w' := by
  subst hn_l
  have hma := Rd.max h_l.now
  have hS : SH w No w [] := SH.nil _ _
  refine calls (l := litOf [(.slice A_l l.length c_l), (.int .i64 reach)] 0) Try.func15 rfl (n := 64) rfl (Nat.le_of_ble_eq_true rfl) (lit_args _) ?_
  refine WC.seq ?_
  refine WC.region ?_
  iterate 2 refine WL.lv rfl (LV.asg rfl) ?_
  refine WL.nil (thenQ.n ?_)
  iterate 2 refine WC.seq ?_
  refine WC.region ?_
  refine WL.lv rfl (LV.mv rfl) ?_
  rcases Decidable.em (reach < 0) with hg1 | hg1
  · refine WL.lv rfl (LV.as (LV.ltI rfl rfl) (decide_eq_true hg1)) ?_
    refine WL.lv rfl (LV.mv rfl) ?_
    iterate 2 refine WL.off rfl ?_
    refine WL.lv rfl (LV.pickT rfl rfl) ?_
    refine WL.nil (thenQ.n ?_)
    refine WC.condT rfl ?_
    refine WC.seq ?_
    refine WC.region ?_
    iterate 2 refine WL.lv rfl (LV.asg rfl) ?_
    refine WL.nil (thenQ.n ?_)
    refine WC.ret (thenQ.r <| ?_)
    have hS1 := SH.nilRow (E := eF) (T := 28) hS
    exact ⟨_, fun a ha => res2 rfl ha rfl rfl, _, _, [], 2, tup2 rfl (congrArg (Value.int .i64) (by omega)), .inl ⟨by omega, rfl, rfl⟩, hS1⟩
  · refine WL.lv rfl (LV.as (LV.ltI rfl rfl) (decide_eq_false hg1)) ?_
    iterate 2 refine WL.lv rfl (LV.mv rfl) ?_
    refine WL.lv rfl (LV.gtI rfl rfl) ?_
    refine WL.lv rfl (LV.pickF rfl rfl) ?_
    refine WL.nil (thenQ.n ?_)
    refine WC.condP (p := reach > 20) rfl (fun hc1 => ?_) (fun hc1 => ?_)
    · skip
      refine WC.seq ?_
      refine WC.region ?_
      iterate 2 refine WL.lv rfl (LV.asg rfl) ?_
      refine WL.nil (thenQ.n ?_)
      refine WC.ret (thenQ.r <| ?_)
      have hS2 := SH.nilRow (E := eF) (T := 28) hS
      exact ⟨_, fun a ha => res2 rfl ha rfl rfl, _, _, [], 2, tup2 rfl (congrArg (Value.int .i64) (by omega)), .inl ⟨by omega, rfl, rfl⟩, hS2⟩
    · skip
      refine WC.skip (thenQ.n ?_)
      refine WC.seq ?_
      refine WC.region ?_
      have hS3 := SH.nilRow (E := eF) (T := 28) hS
      refine WL.lv rfl (LV.asg rfl) ?_
      refine WL.nil (thenQ.n ?_)
      iterate 2 refine WC.seq ?_
      refine WC.region ?_
      refine WL.lv rfl (LV.mv rfl) ?_
      refine WL.lv rfl (LV.lenL Try.underlying23 rfl) ?_
      refine WL.lv rfl (LV.mv rfl) ?_
      refine WL.nil (thenQ.n ?_)
      refine WC.block ?_
      refine WC.loop (fun m_ f_ w_ => ∃ (A_out : Option Addr) (c_out : Nat) (out : List Nat) (ix : Int), (0 ≤ ix) ∧ (ix ≤ (l.length : Int)) ∧ (Ea (ArP l reach) out ix) ∧ SH w No w_ [rowE eF 28 (.slice A_out out.length c_out) out] ∧ m_ = (((l.length : Int) - ix).toNat) ∧ Weak (lit [(0, (.slice A_l l.length c_l)), (1, (.int .i64 reach)), (6, (.slice A_out out.length c_out)), (17, (.int .i64 (l.length : Int))), (18, (.int .i64 ix))]) f_) _ ⟨none, 0, [], 0, by omega, by omega, (Ea.z _), hS3, rfl, Weak.cons rfl <| Weak.cons rfl <| Weak.cons rfl <| Weak.cons rfl <| Weak.cons rfl <| Weak.nil _⟩ ?_
      rintro m1 f1 w1 ⟨A_out, c_out, out, ix, ixlo, ixhi, q1, hL1, rfl, hw1⟩
      refine WC.weak hw1 ?_
      clear hw1
      have hol_ := q1.len
      refine WC.seq ?_
      refine WC.region ?_
      refine WL.lv rfl (LV.ltI rfl rfl) ?_
      refine WL.nil (thenQ.n ?_)
      refine WC.seq ?_
      refine WC.condP (p := ix < (l.length : Int)) rfl (fun hk => ?_) (fun hk => ?_)
      · skip
        refine WC.skip (thenQ.n ?_)
        refine WC.seq ?_
        refine WC.block ?_
        refine WC.seq ?_
        refine WC.region ?_
        refine WL.lv rfl (LV.mv rfl) ?_
        refine WL.lv rfl (LV.asg rfl) ?_
        refine WL.nil (thenQ.n ?_)
        refine WC.seq ?_
        refine WC.region ?_
        refine WL.lv rfl (LV.asg rfl) ?_
        refine WL.nil (thenQ.n ?_)
        iterate 2 refine WC.seq ?_
        refine WC.region ?_
        iterate 2 refine WL.lv rfl (LV.mv rfl) ?_
        refine WL.lv rfl (LV.sub rfl rfl (wr64 (by omega) (by omega))) ?_
        refine WL.lv rfl (LV.maxI rfl rfl) ?_
        refine WL.lv rfl (LV.asg rfl) ?_
        refine WL.nil (thenQ.n ?_)
        refine WC.block ?_
        refine WC.loop (fun m_ f_ w_ => ∃ (sum : Nat) (k : Int), (0 ≤ k) ∧ (k ≤ (l.length : Int)) ∧ (cn sum = AR l reach ix k.toNat) ∧ (sum < 18446744073709551616) ∧ (ix - reach ≤ k) ∧ SH w No w_ [rowE eF 28 (.slice A_out out.length c_out) out] ∧ m_ = (((l.length : Int) - k).toNat) ∧ Weak (lit [(0, (.slice A_l l.length c_l)), (1, (.int .i64 reach)), (6, (.slice A_out out.length c_out)), (7, (.int .i64 ix)), (8, (.float .f64 sum)), (9, (.int .i64 k)), (17, (.int .i64 (l.length : Int))), (18, (.int .i64 ix))]) f_) _ ⟨0, max 0 (ix - reach), by omega, by omega, (ar_start (by omega)), (by decide), by omega, hL1, rfl, Weak.cons rfl <| Weak.cons rfl <| Weak.cons rfl <| Weak.cons rfl <| Weak.cons rfl <| Weak.cons rfl <| Weak.cons rfl <| Weak.cons rfl <| Weak.nil _⟩ ?_
        rintro m2 f2 w2 ⟨sum, k, klo, khi, s1, s2, s3, hL2, rfl, hw2⟩
        refine WC.weak hw2 ?_
        clear hw2
        iterate 2 refine WC.seq ?_
        refine WC.region ?_
        iterate 2 refine WL.lv rfl (LV.mv rfl) ?_
        refine WL.lv rfl (LV.lenL Try.underlying23 rfl) ?_
        rcases Decidable.em (k < (l.length : Int)) with hg2 | hg2
        · refine WL.lv rfl (LV.as (LV.ltI rfl rfl) (decide_eq_true hg2)) ?_
          iterate 4 refine WL.lv rfl (LV.mv rfl) ?_
          refine WL.lv rfl (LV.add rfl rfl (wr64 (by omega) (by omega))) ?_
          refine WL.lv rfl (LV.leI rfl rfl) ?_
          refine WL.lv rfl (LV.pickT rfl rfl) ?_
          refine WL.nil (thenQ.n ?_)
          refine WC.condP (p := k ≤ (ix + reach)) rfl (fun hk2 => ?_) (fun hk2 => ?_)
          · skip
            refine WC.skip (thenQ.n ?_)
            refine WC.seq ?_
            refine WC.block ?_
            refine WC.seq ?_
            refine WC.region ?_
            iterate 2 refine WL.lv rfl (LV.mv rfl) ?_
            obtain ⟨A1, c1, e1, g1⟩ := St.elt (SH.stN hL2 h_l) 0 k (by omega) (by omega)
            refine WL.lv rfl (LV.idxA Try.underlying23 ti28.sz rfl e1 rfl (by omega) (by omega)) ?_
            refine WL.lv rfl (LV.load1 (v := (.float .f64 (l.getD (k).toNat 0))) Try.underlying28 rfl rfl (g1 _ (KB.refl No _) 0 _ rfl)) ?_
            refine WL.call rfl (XC.fn Try.func26 (by kernel_rfl) rfl rfl rfl) (hnone_calls (x := (l.getD (k).toNat 0)) ) ?_
            rintro v_ w3 ⟨rfl, hk1⟩
            have hS4 := SH.same hL2 hk1
            refine WL.lv rfl (LV.notP rfl) ?_
            refine WL.nil (thenQ.n ?_)
            refine WC.condP (p := ¬ (¬ (-9218868437227405312 ≤ sk (l.getD (k).toNat 0) ∧ sk (l.getD (k).toNat 0) ≤ 9218868437227405312))) rfl (fun hc2 => ?_) (fun hc2 => ?_)
            · skip
              refine WC.region ?_
              iterate 3 refine WL.lv rfl (LV.mv rfl) ?_
              have hwk_ := wl (l.getD k.toNat 0) (getD_mem (by omega))
              obtain ⟨A2, c2, e2, g2⟩ := St.elt (SH.stN hS4 h_l) 0 k (by omega) (by omega)
              refine WL.lv rfl (LV.idxA Try.underlying23 ti28.sz rfl e2 rfl (by omega) (by omega)) ?_
              refine WL.lv rfl (LV.load1 (v := (.float .f64 (l.getD (k).toNat 0))) Try.underlying28 rfl rfl (g2 _ (KB.refl No _) 0 _ rfl)) ?_
              iterate 2 refine WL.lv rfl (LV.mv rfl) ?_
              refine WL.lv rfl (LV.sub rfl rfl (wr64 (by omega) (by omega))) ?_
              iterate 2 refine WL.lv rfl (LV.mv rfl) ?_
              refine WL.lv rfl (LV.sub rfl rfl (wr64 (by omega) (by omega))) ?_
              refine WL.lv rfl (LV.maxI rfl rfl) ?_
              refine WL.call rfl (XC.fn Try.func23 (by kernel_rfl) rfl rfl rfl) (halve_calls (x := (l.getD (k).toNat 0)) (n := (max (ix - k) (k - ix))) (by first | assumption | omega | exact hp _ (getD_mem (by omega)) | exact hpz _ (getD_mem (by omega))) (by omega)) ?_
              rintro v_ w4 ⟨r1, rfl, hf1, hf2, hk2⟩
              have hS5 := SH.same hS4 hk2
              have hhv_ := hf1
              refine WL.xe rfl (XE.arF (a := sum) (b := r1) hS5 (.inl rfl) rfl rfl) ?_
              rintro _ w5 ⟨r2, rfl, hr1, hb1, hS6, hk3⟩
              have hst_ := ar_yes (reach := reach) (i := ix) klo ⟨⟨by omega, by omega⟩, by omega, by omega⟩ s1 hhv_ hr1
              have hbd_ := hb1
              refine WL.lv rfl (LV.asg rfl) ?_
              refine WL.nil (blockQ.n <| thenQ.n ?_)
              refine WC.region ?_
              refine WL.lv rfl (LV.mv rfl) ?_
              refine WL.lv rfl (LV.add rfl rfl (wr64 (by omega) (by omega))) ?_
              refine WL.lv rfl (LV.asg rfl) ?_
              refine WL.nil (thenQ.n ?_)
              exact ⟨_, by omega, r2, k + 1, by omega, by omega, hst_, hbd_, by omega, hS6, rfl, Weak.cons rfl <| Weak.cons rfl <| Weak.cons rfl <| Weak.cons rfl <| Weak.cons rfl <| Weak.cons rfl <| Weak.cons rfl <| Weak.cons rfl <| Weak.nil _⟩
            · skip
              refine WC.skip (blockQ.n <| thenQ.n ?_)
              refine WC.region ?_
              refine WL.lv rfl (LV.mv rfl) ?_
              refine WL.lv rfl (LV.add rfl rfl (wr64 (by omega) (by omega))) ?_
              refine WL.lv rfl (LV.asg rfl) ?_
              refine WL.nil (thenQ.n ?_)
              exact ⟨_, by omega, sum, k + 1, by omega, by omega, (s1.trans (ar_no klo (fun h_ => by have h2_ := h_.2; omega)).symm), s2, by omega, hS4, rfl, Weak.cons rfl <| Weak.cons rfl <| Weak.cons rfl <| Weak.cons rfl <| Weak.cons rfl <| Weak.cons rfl <| Weak.cons rfl <| Weak.cons rfl <| Weak.nil _⟩
          · skip
            refine WC.exit (thenQ.x <| thenQ.x <| blockQ.hit <| thenQ.n ?_)
            refine WC.region ?_
            iterate 2 refine WL.lv rfl (LV.mv rfl) ?_
            refine WL.xe rfl (XE.buildSlice (E := eF) [(0, (.float .f64 sum))] #[(.float .f64 sum)] [sum] hL2 Try.underlying23 ti28 rfl (by decide) (by kernel_rfl) (.inr rfl) rfl rfl (by decide)) ?_
            rintro _ w6 ⟨b1, rfl, hS7, hk4⟩
            have hS8 : SH w No w6 [rowE eF 28 (.slice A_out out.length c_out) out, rowE eF 28 (.slice (some ⟨b1, 0, none⟩) 1 1) [sum]] := (SH.front [rowE eF 28 (.slice (some ⟨b1, 0, none⟩) 1 1) [sum]] hS7)
            refine WL.xe rfl (XE.append hS8 Try.underlying23 ti28 rfl (St.now (SH.rd hS8 (.tail _ (.head _)))) rfl rfl (by first | omega | simp only [List.length_append, List.length_cons, List.length_nil, List.length_take, List.length_reverse, List.length_drop] at *; omega) (by first | omega | simp only [List.length_append, List.length_cons, List.length_nil, List.length_take, List.length_reverse, List.length_drop] at *; omega)) ?_
            rintro _ w7 ⟨A3, c3, rfl, hS9, hk5⟩
            refine WL.lv rfl (LV.asg rfl) ?_
            refine WL.nil (blockQ.n <| thenQ.n ?_)
            refine WC.region ?_
            refine WL.lv rfl (LV.add rfl rfl (wr64 (by omega) (by omega))) ?_
            refine WL.lv rfl (LV.mv rfl) ?_
            refine WL.nil (thenQ.n ?_)
            have hS10 : SH w No w7 [rowE eF 28 (.slice A3 ((out ++ [sum]).length) c3) (out ++ [sum])] := (SH.take 1 rfl hS9)
            exact ⟨_, by omega, A3, c3, (out ++ [sum]), ix + 1, by omega, by omega, (q1.snoc ixlo ⟨s2, s1.trans (ar_end klo khi (by omega))⟩), hS10, rfl, Weak.cons rfl <| Weak.cons rfl <| Weak.cons rfl <| Weak.cons rfl <| Weak.cons rfl <| Weak.nil _⟩
        · refine WL.lv rfl (LV.as (LV.ltI rfl rfl) (decide_eq_false hg2)) ?_
          refine WL.lv rfl (LV.mv rfl) ?_
          iterate 5 refine WL.off rfl ?_
          refine WL.lv rfl (LV.pickF rfl rfl) ?_
          refine WL.nil (thenQ.n ?_)
          refine WC.condF rfl ?_
          refine WC.exit (thenQ.x <| thenQ.x <| blockQ.hit <| thenQ.n ?_)
          refine WC.region ?_
          iterate 2 refine WL.lv rfl (LV.mv rfl) ?_
          refine WL.xe rfl (XE.buildSlice (E := eF) [(0, (.float .f64 sum))] #[(.float .f64 sum)] [sum] hL2 Try.underlying23 ti28 rfl (by decide) (by kernel_rfl) (.inr rfl) rfl rfl (by decide)) ?_
          rintro _ w8 ⟨b2, rfl, hS11, hk6⟩
          have hS12 : SH w No w8 [rowE eF 28 (.slice A_out out.length c_out) out, rowE eF 28 (.slice (some ⟨b2, 0, none⟩) 1 1) [sum]] := (SH.front [rowE eF 28 (.slice (some ⟨b2, 0, none⟩) 1 1) [sum]] hS11)
          refine WL.xe rfl (XE.append hS12 Try.underlying23 ti28 rfl (St.now (SH.rd hS12 (.tail _ (.head _)))) rfl rfl (by first | omega | simp only [List.length_append, List.length_cons, List.length_nil, List.length_take, List.length_reverse, List.length_drop] at *; omega) (by first | omega | simp only [List.length_append, List.length_cons, List.length_nil, List.length_take, List.length_reverse, List.length_drop] at *; omega)) ?_
          rintro _ w9 ⟨A4, c4, rfl, hS13, hk7⟩
          refine WL.lv rfl (LV.asg rfl) ?_
          refine WL.nil (blockQ.n <| thenQ.n ?_)
          refine WC.region ?_
          refine WL.lv rfl (LV.add rfl rfl (wr64 (by omega) (by omega))) ?_
          refine WL.lv rfl (LV.mv rfl) ?_
          refine WL.nil (thenQ.n ?_)
          have hS14 : SH w No w9 [rowE eF 28 (.slice A4 ((out ++ [sum]).length) c4) (out ++ [sum])] := (SH.take 1 rfl hS13)
          exact ⟨_, by omega, A4, c4, (out ++ [sum]), ix + 1, by omega, by omega, (q1.snoc ixlo ⟨s2, s1.trans (ar_end klo khi (by omega))⟩), hS14, rfl, Weak.cons rfl <| Weak.cons rfl <| Weak.cons rfl <| Weak.cons rfl <| Weak.cons rfl <| Weak.nil _⟩
      · skip
        refine WC.exit (thenQ.x <| thenQ.x <| blockQ.hit <| thenQ.n ?_)
        refine WC.seq ?_
        refine WC.region ?_
        refine WL.lv rfl (LV.mv rfl) ?_
        iterate 2 refine WL.lv rfl (LV.asg rfl) ?_
        refine WL.nil (thenQ.n ?_)
        refine WC.ret (?_)
        exact ⟨_, fun a ha => res2 rfl ha rfl rfl, _, _, out, 0, tup2 rfl (congrArg (Value.int .i64) (by omega)), .inr ⟨by omega, rfl, q1.fin (by omega)⟩, hL1⟩

theorem raround_calls {w : World} {A_l : Option Addr} {n_l c_l : Nat} {l : List Nat} {reach : Int} (h_l : St No w (Rd eF (.slice A_l n_l c_l) l)) (hn_l : l.length = n_l) (wl : ∀ x ∈ l, x < 18446744073709551616) (hl : l.length ≤ 1000000) :
    Calls Try.prog 16 #[(.slice A_l n_l c_l), (.int .i64 reach)] w fun e w' => ∃ v, e = .returned v ∧ (fun v w' => ∃ (A0' : Option Addr) (c0' : Nat) (ys' : List Nat) (e' : Int), v = .tuple #[.slice A0' (ys').length c0', .int .i64 e'] ∧ ArR l reach ys' e' ∧ SH w No w' [rowE eF 28 (.slice A0' (ys').length c0') ys']) v w' := by
  subst hn_l
  have hma := Rd.max h_l.now
  have hS : SH w No w [] := SH.nil _ _
  refine calls (l := litOf [(.slice A_l l.length c_l), (.int .i64 reach)] 0) Try.func16 rfl (n := 66) rfl (Nat.le_of_ble_eq_true rfl) (lit_args _) ?_
  refine WC.seq ?_
  refine WC.region ?_
  iterate 2 refine WL.lv rfl (LV.asg rfl) ?_
  refine WL.nil (thenQ.n ?_)
  iterate 2 refine WC.seq ?_
  refine WC.region ?_
  refine WL.lv rfl (LV.mv rfl) ?_
  rcases Decidable.em (reach < 0) with hg1 | hg1
  · refine WL.lv rfl (LV.as (LV.ltI rfl rfl) (decide_eq_true hg1)) ?_
    refine WL.lv rfl (LV.mv rfl) ?_
    iterate 2 refine WL.off rfl ?_
    refine WL.lv rfl (LV.pickT rfl rfl) ?_
    refine WL.nil (thenQ.n ?_)
    refine WC.condT rfl ?_
    refine WC.seq ?_
    refine WC.region ?_
    iterate 2 refine WL.lv rfl (LV.asg rfl) ?_
    refine WL.nil (thenQ.n ?_)
    refine WC.ret (thenQ.r <| ?_)
    have hS1 := SH.nilRow (E := eF) (T := 28) hS
    exact ⟨_, fun a ha => res2 rfl ha rfl rfl, _, _, [], 2, tup2 rfl (congrArg (Value.int .i64) (by omega)), .inl ⟨by omega, rfl, rfl⟩, hS1⟩
  · refine WL.lv rfl (LV.as (LV.ltI rfl rfl) (decide_eq_false hg1)) ?_
    iterate 2 refine WL.lv rfl (LV.mv rfl) ?_
    refine WL.lv rfl (LV.gtI rfl rfl) ?_
    refine WL.lv rfl (LV.pickF rfl rfl) ?_
    refine WL.nil (thenQ.n ?_)
    refine WC.condP (p := reach > 20) rfl (fun hc1 => ?_) (fun hc1 => ?_)
    · skip
      refine WC.seq ?_
      refine WC.region ?_
      iterate 2 refine WL.lv rfl (LV.asg rfl) ?_
      refine WL.nil (thenQ.n ?_)
      refine WC.ret (thenQ.r <| ?_)
      have hS2 := SH.nilRow (E := eF) (T := 28) hS
      exact ⟨_, fun a ha => res2 rfl ha rfl rfl, _, _, [], 2, tup2 rfl (congrArg (Value.int .i64) (by omega)), .inl ⟨by omega, rfl, rfl⟩, hS2⟩
    · skip
      refine WC.skip (thenQ.n ?_)
      refine WC.seq ?_
      refine WC.region ?_
      refine WL.xe rfl (XE.buildSlice (E := eF) [] #[] [] hS Try.underlying23 ti28 rfl (by decide) (by kernel_rfl) (.inr rfl) rfl rfl (by decide)) ?_
      rintro _ w1 ⟨b1, rfl, hS3, hk1⟩
      refine WL.lv rfl (LV.asg rfl) ?_
      refine WL.nil (thenQ.n ?_)
      iterate 2 refine WC.seq ?_
      refine WC.region ?_
      refine WL.lv rfl (LV.asg rfl) ?_
      refine WL.nil (thenQ.n ?_)
      refine WC.block ?_
      refine WC.loop (fun m_ f_ w_ => ∃ (A_out : Option Addr) (c_out : Nat) (out : List Nat) (i : Int), (0 ≤ i) ∧ (i ≤ (l.length : Int)) ∧ (Ea (ArP l reach) out i) ∧ SH w No w_ [rowE eF 28 (.slice A_out out.length c_out) out] ∧ m_ = (((l.length : Int) - i).toNat) ∧ Weak (lit [(0, (.slice A_l l.length c_l)), (1, (.int .i64 reach)), (6, (.slice A_out out.length c_out)), (7, (.int .i64 i))]) f_) _ ⟨(some ⟨b1, 0, none⟩), 0, [], 0, by omega, by omega, (Ea.z _), hS3, rfl, Weak.cons rfl <| Weak.cons rfl <| Weak.cons rfl <| Weak.cons rfl <| Weak.nil _⟩ ?_
      rintro m1 f1 w2 ⟨A_out, c_out, out, i, ilo, ihi, q1, hL1, rfl, hw1⟩
      refine WC.weak hw1 ?_
      clear hw1
      have hol_ := q1.len
      iterate 2 refine WC.seq ?_
      refine WC.region ?_
      iterate 2 refine WL.lv rfl (LV.mv rfl) ?_
      refine WL.lv rfl (LV.lenL Try.underlying23 rfl) ?_
      refine WL.lv rfl (LV.ltI rfl rfl) ?_
      refine WL.nil (thenQ.n ?_)
      refine WC.condP (p := i < (l.length : Int)) rfl (fun hk => ?_) (fun hk => ?_)
      · skip
        refine WC.skip (thenQ.n ?_)
        refine WC.seq ?_
        refine WC.block ?_
        refine WC.seq ?_
        refine WC.region ?_
        refine WL.lv rfl (LV.asg rfl) ?_
        refine WL.nil (thenQ.n ?_)
        iterate 2 refine WC.seq ?_
        refine WC.region ?_
        refine WL.lv rfl (LV.asg rfl) ?_
        refine WL.nil (thenQ.n ?_)
        refine WC.block ?_
        refine WC.loop (fun m_ f_ w_ => ∃ (sum : Nat) (k : Int), (0 ≤ k) ∧ (k ≤ (l.length : Int)) ∧ (cn sum = AR l reach i k.toNat) ∧ (sum < 18446744073709551616) ∧ SH w No w_ [rowE eF 28 (.slice A_out out.length c_out) out] ∧ m_ = (((l.length : Int) - k).toNat) ∧ Weak (lit [(0, (.slice A_l l.length c_l)), (1, (.int .i64 reach)), (6, (.slice A_out out.length c_out)), (7, (.int .i64 i)), (8, (.float .f64 sum)), (9, (.int .i64 k))]) f_) _ ⟨0, 0, by omega, by omega, ((show cn 0 = some 0 by decide +kernel)), (by decide), hL1, rfl, Weak.cons rfl <| Weak.cons rfl <| Weak.cons rfl <| Weak.cons rfl <| Weak.cons rfl <| Weak.cons rfl <| Weak.nil _⟩ ?_
        rintro m2 f2 w3 ⟨sum, k, klo, khi, s1, s2, hL2, rfl, hw2⟩
        refine WC.weak hw2 ?_
        clear hw2
        iterate 2 refine WC.seq ?_
        refine WC.region ?_
        iterate 2 refine WL.lv rfl (LV.mv rfl) ?_
        refine WL.lv rfl (LV.lenL Try.underlying23 rfl) ?_
        refine WL.lv rfl (LV.ltI rfl rfl) ?_
        refine WL.nil (thenQ.n ?_)
        refine WC.condP (p := k < (l.length : Int)) rfl (fun hk2 => ?_) (fun hk2 => ?_)
        · skip
          refine WC.skip (thenQ.n ?_)
          refine WC.seq ?_
          refine WC.block ?_
          refine WC.seq ?_
          refine WC.region ?_
          iterate 2 refine WL.lv rfl (LV.mv rfl) ?_
          refine WL.lv rfl (LV.sub rfl rfl (wr64 (by omega) (by omega))) ?_
          refine WL.lv rfl (LV.asg rfl) ?_
          refine WL.nil (thenQ.n ?_)
          iterate 2 refine WC.seq ?_
          refine WC.region ?_
          iterate 2 refine WL.lv rfl (LV.mv rfl) ?_
          refine WL.lv rfl (LV.gtI rfl rfl) ?_
          refine WL.nil (thenQ.n ?_)
          refine WC.condP (p := k > i) rfl (fun hc2 => ?_) (fun hc2 => ?_)
          · skip
            refine WC.region ?_
            iterate 2 refine WL.lv rfl (LV.mv rfl) ?_
            refine WL.lv rfl (LV.sub rfl rfl (wr64 (by omega) (by omega))) ?_
            refine WL.lv rfl (LV.asg rfl) ?_
            refine WL.nil (thenQ.n ?_)
            refine WC.seq ?_
            have hS4 := SH.drew hL2
            refine WC.regionD [] (fun w_ => KB No w3.drew w_) [(.pure, 0), (.pure, 1), (.pure, 2), (.pure, 3), (.pure, 4), (.pure, 5), (.pure, 6), (.look, 7), (.pure, 8), (.pure, 9), (.pure, 10), (.look, 11), (.pure, 12), (.pure, 13)] (by kernel_rfl) (by kernel_rfl) (KB.refl _ _) ?_
            iterate 2 refine WS.pure rfl rfl (fun _ => LV.mv rfl) ?_
            rcases Decidable.em ((k - i) ≤ reach) with hg2 | hg2
            · refine WS.pure rfl rfl (fun _ => LV.as (LV.leI rfl rfl) (decide_eq_true hg2)) ?_
              iterate 3 refine WS.pure rfl rfl (fun _ => LV.mv rfl) ?_
              obtain ⟨A1, c1, e1, g1⟩ := St.elt (SH.stN hS4 h_l) 0 k (by omega) (by omega)
              refine WS.pure rfl rfl (fun _ => LV.idxA Try.underlying23 ti28.sz rfl e1 rfl (by omega) (by omega)) ?_
              refine WS.look rfl rfl (fun _ hk_ => LV.load1 (v := (.float .f64 (l.getD (k).toNat 0))) Try.underlying28 rfl rfl (g1 _ hk_ 0 _ rfl)) ?_
              iterate 2 refine WS.pure rfl rfl (fun _ => LV.mv rfl) ?_
              obtain ⟨A2, c2, e2, g2⟩ := St.elt (SH.stN hS4 h_l) 0 k (by omega) (by omega)
              refine WS.pure rfl rfl (fun _ => LV.idxA Try.underlying23 ti28.sz rfl e2 rfl (by omega) (by omega)) ?_
              refine WS.look rfl rfl (fun _ hk_ => LV.load1 (v := (.float .f64 (l.getD (k).toNat 0))) Try.underlying28 rfl rfl (g2 _ hk_ 0 _ rfl)) ?_
              refine WS.pure rfl rfl (fun _ => LV.eqF (a := (l.getD (k).toNat 0)) (b := (l.getD (k).toNat 0)) rfl rfl) ?_
              refine WS.pure rfl rfl (fun _ => LV.pickT rfl rfl) ?_
              refine WS.nil (thenQ.n ?_)
              refine WC.condP (p := ((-9218868437227405312 ≤ sk (l.getD (k).toNat 0) ∧ sk (l.getD (k).toNat 0) ≤ 9218868437227405312) ∧ (-9218868437227405312 ≤ sk (l.getD (k).toNat 0) ∧ sk (l.getD (k).toNat 0) ≤ 9218868437227405312)) ∧ sk (l.getD (k).toNat 0) = sk (l.getD (k).toNat 0)) rfl (fun hc3 => ?_) (fun hc3 => ?_)
              · skip
                refine WC.region ?_
                iterate 3 refine WL.lv rfl (LV.mv rfl) ?_
                have hwk_ := wl (l.getD k.toNat 0) (getD_mem (by omega))
                obtain ⟨A3, c3, e3, g3⟩ := St.elt (SH.stN hS4 h_l) 0 k (by omega) (by omega)
                refine WL.lv rfl (LV.idxA Try.underlying23 ti28.sz rfl e3 rfl (by omega) (by omega)) ?_
                refine WL.lv rfl (LV.load1 (v := (.float .f64 (l.getD (k).toNat 0))) Try.underlying28 rfl rfl (g3 _ (KB.refl No _) 0 _ rfl)) ?_
                refine WL.lv rfl (LV.mv rfl) ?_
                refine WL.call rfl (XC.fn Try.func25 (by kernel_rfl) rfl rfl rfl) (rhalve_calls (x := (l.getD (k).toNat 0)) (n := (k - i)) (by first | assumption | omega | exact hp _ (getD_mem (by omega)) | exact hpz _ (getD_mem (by omega)))) ?_
                rintro v_ w4 ⟨r1, rfl, hf1, hf2, hk2⟩
                have hS5 := SH.same hS4 hk2
                have hhv_ := halve_doc hwk_ ⟨by omega, by omega⟩ (by omega) (by omega) hf1
                refine WL.xe rfl (XE.arF (a := sum) (b := r1) hS5 (.inl rfl) rfl rfl) ?_
                rintro _ w5 ⟨r2, rfl, hr1, hb1, hS6, hk3⟩
                have hst_ := ar_yes (reach := reach) (i := i) klo ⟨⟨by omega, by omega⟩, by omega, by omega⟩ s1 (hhv_.trans (congrArg (fun n_ : Int => hlv n_.toNat (l.getD k.toNat 0)) (by omega))) hr1
                have hbd_ := hb1
                refine WL.lv rfl (LV.asg rfl) ?_
                refine WL.nil (blockQ.n <| thenQ.n ?_)
                refine WC.region ?_
                refine WL.lv rfl (LV.mv rfl) ?_
                refine WL.lv rfl (LV.add rfl rfl (wr64 (by omega) (by omega))) ?_
                refine WL.lv rfl (LV.asg rfl) ?_
                refine WL.nil (thenQ.n ?_)
                exact ⟨_, by omega, r2, k + 1, by omega, by omega, hst_, hbd_, hS6, rfl, Weak.cons rfl <| Weak.cons rfl <| Weak.cons rfl <| Weak.cons rfl <| Weak.cons rfl <| Weak.cons rfl <| Weak.nil _⟩
              · skip
                refine WC.skip (blockQ.n <| thenQ.n ?_)
                refine WC.region ?_
                refine WL.lv rfl (LV.mv rfl) ?_
                refine WL.lv rfl (LV.add rfl rfl (wr64 (by omega) (by omega))) ?_
                refine WL.lv rfl (LV.asg rfl) ?_
                refine WL.nil (thenQ.n ?_)
                exact ⟨_, by omega, sum, k + 1, by omega, by omega, (s1.trans (ar_no klo (fun h_ => by have h2_ := h_.1; have h3_ := h_.2; omega)).symm), s2, hS4, rfl, Weak.cons rfl <| Weak.cons rfl <| Weak.cons rfl <| Weak.cons rfl <| Weak.cons rfl <| Weak.cons rfl <| Weak.nil _⟩
            · refine WS.pure rfl rfl (fun _ => LV.as (LV.leI rfl rfl) (decide_eq_false hg2)) ?_
              refine WS.pure rfl rfl (fun _ => LV.mv rfl) ?_
              iterate 3 refine WS.off rfl rfl ?_
              refine WS.offL rfl rfl ?_
              iterate 3 refine WS.off rfl rfl ?_
              refine WS.offL rfl rfl ?_
              refine WS.off rfl rfl ?_
              refine WS.pure rfl rfl (fun _ => LV.pickF rfl rfl) ?_
              refine WS.nil (thenQ.n ?_)
              refine WC.condF rfl ?_
              refine WC.skip (blockQ.n <| thenQ.n ?_)
              refine WC.region ?_
              refine WL.lv rfl (LV.mv rfl) ?_
              refine WL.lv rfl (LV.add rfl rfl (wr64 (by omega) (by omega))) ?_
              refine WL.lv rfl (LV.asg rfl) ?_
              refine WL.nil (thenQ.n ?_)
              exact ⟨_, by omega, sum, k + 1, by omega, by omega, (s1.trans (ar_no klo (fun h_ => by have h2_ := h_.1; have h3_ := h_.2; omega)).symm), s2, hS4, rfl, Weak.cons rfl <| Weak.cons rfl <| Weak.cons rfl <| Weak.cons rfl <| Weak.cons rfl <| Weak.cons rfl <| Weak.nil _⟩
          · skip
            refine WC.skip (thenQ.n ?_)
            refine WC.seq ?_
            have hS7 := SH.drew hL2
            refine WC.regionD [] (fun w_ => KB No w3.drew w_) [(.pure, 0), (.pure, 1), (.pure, 2), (.pure, 3), (.pure, 4), (.pure, 5), (.pure, 6), (.look, 7), (.pure, 8), (.pure, 9), (.pure, 10), (.look, 11), (.pure, 12), (.pure, 13)] (by kernel_rfl) (by kernel_rfl) (KB.refl _ _) ?_
            iterate 2 refine WS.pure rfl rfl (fun _ => LV.mv rfl) ?_
            rcases Decidable.em ((i - k) ≤ reach) with hg3 | hg3
            · refine WS.pure rfl rfl (fun _ => LV.as (LV.leI rfl rfl) (decide_eq_true hg3)) ?_
              iterate 3 refine WS.pure rfl rfl (fun _ => LV.mv rfl) ?_
              obtain ⟨A4, c4, e4, g4⟩ := St.elt (SH.stN hS7 h_l) 0 k (by omega) (by omega)
              refine WS.pure rfl rfl (fun _ => LV.idxA Try.underlying23 ti28.sz rfl e4 rfl (by omega) (by omega)) ?_
              refine WS.look rfl rfl (fun _ hk_ => LV.load1 (v := (.float .f64 (l.getD (k).toNat 0))) Try.underlying28 rfl rfl (g4 _ hk_ 0 _ rfl)) ?_
              iterate 2 refine WS.pure rfl rfl (fun _ => LV.mv rfl) ?_
              obtain ⟨A5, c5, e5, g5⟩ := St.elt (SH.stN hS7 h_l) 0 k (by omega) (by omega)
              refine WS.pure rfl rfl (fun _ => LV.idxA Try.underlying23 ti28.sz rfl e5 rfl (by omega) (by omega)) ?_
              refine WS.look rfl rfl (fun _ hk_ => LV.load1 (v := (.float .f64 (l.getD (k).toNat 0))) Try.underlying28 rfl rfl (g5 _ hk_ 0 _ rfl)) ?_
              refine WS.pure rfl rfl (fun _ => LV.eqF (a := (l.getD (k).toNat 0)) (b := (l.getD (k).toNat 0)) rfl rfl) ?_
              refine WS.pure rfl rfl (fun _ => LV.pickT rfl rfl) ?_
              refine WS.nil (thenQ.n ?_)
              refine WC.condP (p := ((-9218868437227405312 ≤ sk (l.getD (k).toNat 0) ∧ sk (l.getD (k).toNat 0) ≤ 9218868437227405312) ∧ (-9218868437227405312 ≤ sk (l.getD (k).toNat 0) ∧ sk (l.getD (k).toNat 0) ≤ 9218868437227405312)) ∧ sk (l.getD (k).toNat 0) = sk (l.getD (k).toNat 0)) rfl (fun hc4 => ?_) (fun hc4 => ?_)
              · skip
                refine WC.region ?_
                iterate 3 refine WL.lv rfl (LV.mv rfl) ?_
                have hwk_ := wl (l.getD k.toNat 0) (getD_mem (by omega))
                obtain ⟨A6, c6, e6, g6⟩ := St.elt (SH.stN hS7 h_l) 0 k (by omega) (by omega)
                refine WL.lv rfl (LV.idxA Try.underlying23 ti28.sz rfl e6 rfl (by omega) (by omega)) ?_
                refine WL.lv rfl (LV.load1 (v := (.float .f64 (l.getD (k).toNat 0))) Try.underlying28 rfl rfl (g6 _ (KB.refl No _) 0 _ rfl)) ?_
                refine WL.lv rfl (LV.mv rfl) ?_
                refine WL.call rfl (XC.fn Try.func25 (by kernel_rfl) rfl rfl rfl) (rhalve_calls (x := (l.getD (k).toNat 0)) (n := (i - k)) (by first | assumption | omega | exact hp _ (getD_mem (by omega)) | exact hpz _ (getD_mem (by omega)))) ?_
                rintro v_ w6 ⟨r3, rfl, hf3, hf4, hk4⟩
                have hS8 := SH.same hS7 hk4
                have hhv_ := halve_doc hwk_ ⟨by omega, by omega⟩ (by omega) (by omega) hf3
                refine WL.xe rfl (XE.arF (a := sum) (b := r3) hS8 (.inl rfl) rfl rfl) ?_
                rintro _ w7 ⟨r4, rfl, hr2, hb2, hS9, hk5⟩
                have hst_ := ar_yes (reach := reach) (i := i) klo ⟨⟨by omega, by omega⟩, by omega, by omega⟩ s1 (hhv_.trans (congrArg (fun n_ : Int => hlv n_.toNat (l.getD k.toNat 0)) (by omega))) hr2
                have hbd_ := hb2
                refine WL.lv rfl (LV.asg rfl) ?_
                refine WL.nil (blockQ.n <| thenQ.n ?_)
                refine WC.region ?_
                refine WL.lv rfl (LV.mv rfl) ?_
                refine WL.lv rfl (LV.add rfl rfl (wr64 (by omega) (by omega))) ?_
                refine WL.lv rfl (LV.asg rfl) ?_
                refine WL.nil (thenQ.n ?_)
                exact ⟨_, by omega, r4, k + 1, by omega, by omega, hst_, hbd_, hS9, rfl, Weak.cons rfl <| Weak.cons rfl <| Weak.cons rfl <| Weak.cons rfl <| Weak.cons rfl <| Weak.cons rfl <| Weak.nil _⟩
              · skip
                refine WC.skip (blockQ.n <| thenQ.n ?_)
                refine WC.region ?_
                refine WL.lv rfl (LV.mv rfl) ?_
                refine WL.lv rfl (LV.add rfl rfl (wr64 (by omega) (by omega))) ?_
                refine WL.lv rfl (LV.asg rfl) ?_
                refine WL.nil (thenQ.n ?_)
                exact ⟨_, by omega, sum, k + 1, by omega, by omega, (s1.trans (ar_no klo (fun h_ => by have h2_ := h_.1; have h3_ := h_.2; omega)).symm), s2, hS7, rfl, Weak.cons rfl <| Weak.cons rfl <| Weak.cons rfl <| Weak.cons rfl <| Weak.cons rfl <| Weak.cons rfl <| Weak.nil _⟩
            · refine WS.pure rfl rfl (fun _ => LV.as (LV.leI rfl rfl) (decide_eq_false hg3)) ?_
              refine WS.pure rfl rfl (fun _ => LV.mv rfl) ?_
              iterate 3 refine WS.off rfl rfl ?_
              refine WS.offL rfl rfl ?_
              iterate 3 refine WS.off rfl rfl ?_
              refine WS.offL rfl rfl ?_
              refine WS.off rfl rfl ?_
              refine WS.pure rfl rfl (fun _ => LV.pickF rfl rfl) ?_
              refine WS.nil (thenQ.n ?_)
              refine WC.condF rfl ?_
              refine WC.skip (blockQ.n <| thenQ.n ?_)
              refine WC.region ?_
              refine WL.lv rfl (LV.mv rfl) ?_
              refine WL.lv rfl (LV.add rfl rfl (wr64 (by omega) (by omega))) ?_
              refine WL.lv rfl (LV.asg rfl) ?_
              refine WL.nil (thenQ.n ?_)
              exact ⟨_, by omega, sum, k + 1, by omega, by omega, (s1.trans (ar_no klo (fun h_ => by have h2_ := h_.1; have h3_ := h_.2; omega)).symm), s2, hS7, rfl, Weak.cons rfl <| Weak.cons rfl <| Weak.cons rfl <| Weak.cons rfl <| Weak.cons rfl <| Weak.cons rfl <| Weak.nil _⟩
        · skip
          refine WC.exit (thenQ.x <| thenQ.x <| blockQ.hit <| thenQ.n ?_)
          refine WC.region ?_
          iterate 2 refine WL.lv rfl (LV.mv rfl) ?_
          refine WL.xe rfl (XE.buildSlice (E := eF) [(0, (.float .f64 sum))] #[(.float .f64 sum)] [sum] hL2 Try.underlying23 ti28 rfl (by decide) (by kernel_rfl) (.inr rfl) rfl rfl (by decide)) ?_
          rintro _ w8 ⟨b2, rfl, hS10, hk6⟩
          have hS11 : SH w No w8 [rowE eF 28 (.slice A_out out.length c_out) out, rowE eF 28 (.slice (some ⟨b2, 0, none⟩) 1 1) [sum]] := (SH.front [rowE eF 28 (.slice (some ⟨b2, 0, none⟩) 1 1) [sum]] hS10)
          refine WL.xe rfl (XE.append hS11 Try.underlying23 ti28 rfl (St.now (SH.rd hS11 (.tail _ (.head _)))) rfl rfl (by first | omega | simp only [List.length_append, List.length_cons, List.length_nil, List.length_take, List.length_reverse, List.length_drop] at *; omega) (by first | omega | simp only [List.length_append, List.length_cons, List.length_nil, List.length_take, List.length_reverse, List.length_drop] at *; omega)) ?_
          rintro _ w9 ⟨A7, c7, rfl, hS12, hk7⟩
          refine WL.lv rfl (LV.asg rfl) ?_
          refine WL.nil (blockQ.n <| thenQ.n ?_)
          refine WC.region ?_
          refine WL.lv rfl (LV.mv rfl) ?_
          refine WL.lv rfl (LV.add rfl rfl (wr64 (by omega) (by omega))) ?_
          refine WL.lv rfl (LV.asg rfl) ?_
          refine WL.nil (thenQ.n ?_)
          have hS13 : SH w No w9 [rowE eF 28 (.slice A7 ((out ++ [sum]).length) c7) (out ++ [sum])] := (SH.take 1 rfl hS12)
          exact ⟨_, by omega, A7, c7, (out ++ [sum]), i + 1, by omega, by omega, (q1.snoc ilo ⟨s2, s1.trans (by congr 1; omega)⟩), hS13, rfl, Weak.cons rfl <| Weak.cons rfl <| Weak.cons rfl <| Weak.cons rfl <| Weak.nil _⟩
      · skip
        refine WC.exit (thenQ.x <| thenQ.x <| blockQ.hit <| thenQ.n ?_)
        refine WC.seq ?_
        refine WC.region ?_
        refine WL.lv rfl (LV.mv rfl) ?_
        iterate 2 refine WL.lv rfl (LV.asg rfl) ?_
        refine WL.nil (thenQ.n ?_)
        refine WC.ret (?_)
        exact ⟨_, fun a ha => res2 rfl ha rfl rfl, _, _, out, 0, tup2 rfl (congrArg (Value.int .i64) (by omega)), .inr ⟨by omega, rfl, q1.fin (by omega)⟩, hL1⟩

end Go.Proofs.Ytmmdplcnhndcgaa
