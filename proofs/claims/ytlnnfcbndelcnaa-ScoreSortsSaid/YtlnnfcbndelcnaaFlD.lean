/- Numbers between bounds; rows of them. -/
import Derived.Test.YtlnnfcbndelcnaaFlC
namespace Go.Proofs.Ytlnnfcbndelcnaa
open Go Go.Gv Go.RowKit Go.Flt
set_option linter.unusedVariables false
set_option linter.unusedSimpArgs false
theorem ti22 : TI Try.prog 22 (.float .f64 0) 1 8 := by unfold TI; kernel_rfl

theorem clamp_calls {w : World} {x : Nat} {low : Nat} {high : Nat} (hx : x < 18446744073709551616) (hlow : low < 18446744073709551616) (hhigh : high < 18446744073709551616) :
    Calls Try.prog 22 #[(.float .f64 x), (.float .f64 low), (.float .f64 high)] w fun e w' => ∃ v, e = .returned v ∧ (fun v w' => ∃ (r' : Nat), v = .float .f64 r' ∧ tk r' = CLP x low high ∧ r' < 18446744073709551616 ∧ KB No w w') v w' := by
  have hx_ := tk_is x
  have hl_ := tk_is low
  have hh_ := tk_is high
  have o1_ := ord_is' low high
  have o2_ := ord_is' x low
  have o3_ := ord_is' x high
  have hc_ := clp_is x low high
  have hS : SH w No w [] := SH.nil _ _
  refine calls (l := litOf [(.float .f64 x), (.float .f64 low), (.float .f64 high)] 0) Try.func22 rfl (n := 38) rfl (Nat.le_of_ble_eq_true rfl) (lit_args _) ?_
  refine WC.seq ?_
  refine WC.region ?_
  refine WL.lv rfl (LV.asg rfl) ?_
  refine WL.nil (thenQ.n ?_)
  refine WC.seq ?_
  refine WC.block ?_
  refine WC.seq ?_
  refine WC.region ?_
  refine WL.lv rfl (LV.mv rfl) ?_
  rcases Decidable.em (¬ (-9218868437227405312 ≤ sk x ∧ sk x ≤ 9218868437227405312)) with hg1 | hg1
  · refine WL.call rfl (XC.fn Try.func34 (by kernel_rfl) rfl rfl rfl) (Calls.asB (isNaN_calls (x := x) ) (decide_eq_true (hg1))) ?_
    rintro v_ w1 ⟨rfl, hk1⟩
    have hS1 := SH.same hS hk1
    refine WL.lv rfl (LV.mv rfl) ?_
    iterate 2 refine WL.off rfl ?_
    refine WL.lv rfl (LV.pickT rfl rfl) ?_
    refine WL.lv rfl (LV.mv rfl) ?_
    iterate 2 refine WL.off rfl ?_
    refine WL.lv rfl (LV.pickT rfl rfl) ?_
    refine WL.lv rfl (LV.mv rfl) ?_
    iterate 4 refine WL.off rfl ?_
    refine WL.lv rfl (LV.pickT rfl rfl) ?_
    refine WL.lv rfl (LV.asg rfl) ?_
    refine WL.nil (thenQ.n ?_)
    refine WC.condT rfl ?_
    refine WC.seq ?_
    refine WC.region ?_
    refine WL.call rfl (XC.fn Try.func32 (by kernel_rfl) rfl rfl rfl) (nan_calls  ) ?_
    rintro v_ w2 ⟨r1, rfl, hf1, hf2, hk2⟩
    have hS2 := SH.same hS1 hk2
    have htn_ := tk_none hf1
    refine WL.lv rfl (LV.asg rfl) ?_
    refine WL.nil (thenQ.n ?_)
    refine WC.ret (blockQ.r <| thenQ.r <| ?_)
    exact ⟨_, fun a ha => res1 rfl ha rfl, r1, congrArg FV (rfl), by omega, by omega, hS2.kb⟩
  · refine WL.call rfl (XC.fn Try.func34 (by kernel_rfl) rfl rfl rfl) (Calls.asB (isNaN_calls (x := x) ) (decide_eq_false (hg1))) ?_
    rintro v_ w3 ⟨rfl, hk3⟩
    have hS3 := SH.same hS hk3
    iterate 2 refine WL.lv rfl (LV.mv rfl) ?_
    rcases Decidable.em (¬ (-9218868437227405312 ≤ sk low ∧ sk low ≤ 9218868437227405312)) with hg2 | hg2
    · refine WL.call rfl (XC.fn Try.func34 (by kernel_rfl) rfl rfl rfl) (Calls.asB (isNaN_calls (x := low) ) (decide_eq_true (hg2))) ?_
      rintro v_ w4 ⟨rfl, hk4⟩
      have hS4 := SH.same hS3 hk4
      refine WL.lv rfl (LV.pickF rfl rfl) ?_
      refine WL.lv rfl (LV.mv rfl) ?_
      iterate 2 refine WL.off rfl ?_
      refine WL.lv rfl (LV.pickT rfl rfl) ?_
      refine WL.lv rfl (LV.mv rfl) ?_
      iterate 4 refine WL.off rfl ?_
      refine WL.lv rfl (LV.pickT rfl rfl) ?_
      refine WL.lv rfl (LV.asg rfl) ?_
      refine WL.nil (thenQ.n ?_)
      refine WC.condT rfl ?_
      refine WC.seq ?_
      refine WC.region ?_
      refine WL.call rfl (XC.fn Try.func32 (by kernel_rfl) rfl rfl rfl) (nan_calls  ) ?_
      rintro v_ w5 ⟨r2, rfl, hf3, hf4, hk5⟩
      have hS5 := SH.same hS4 hk5
      have htn_ := tk_none hf3
      refine WL.lv rfl (LV.asg rfl) ?_
      refine WL.nil (thenQ.n ?_)
      refine WC.ret (blockQ.r <| thenQ.r <| ?_)
      exact ⟨_, fun a ha => res1 rfl ha rfl, r2, congrArg FV (rfl), by omega, by omega, hS5.kb⟩
    · refine WL.call rfl (XC.fn Try.func34 (by kernel_rfl) rfl rfl rfl) (Calls.asB (isNaN_calls (x := low) ) (decide_eq_false (hg2))) ?_
      rintro v_ w6 ⟨rfl, hk6⟩
      have hS6 := SH.same hS3 hk6
      refine WL.lv rfl (LV.pickF rfl rfl) ?_
      iterate 2 refine WL.lv rfl (LV.mv rfl) ?_
      rcases Decidable.em (¬ (-9218868437227405312 ≤ sk high ∧ sk high ≤ 9218868437227405312)) with hg3 | hg3
      · refine WL.call rfl (XC.fn Try.func34 (by kernel_rfl) rfl rfl rfl) (Calls.asB (isNaN_calls (x := high) ) (decide_eq_true (hg3))) ?_
        rintro v_ w7 ⟨rfl, hk7⟩
        have hS7 := SH.same hS6 hk7
        refine WL.lv rfl (LV.pickF rfl rfl) ?_
        refine WL.lv rfl (LV.mv rfl) ?_
        iterate 4 refine WL.off rfl ?_
        refine WL.lv rfl (LV.pickT rfl rfl) ?_
        refine WL.lv rfl (LV.asg rfl) ?_
        refine WL.nil (thenQ.n ?_)
        refine WC.condT rfl ?_
        refine WC.seq ?_
        refine WC.region ?_
        refine WL.call rfl (XC.fn Try.func32 (by kernel_rfl) rfl rfl rfl) (nan_calls  ) ?_
        rintro v_ w8 ⟨r3, rfl, hf5, hf6, hk8⟩
        have hS8 := SH.same hS7 hk8
        have htn_ := tk_none hf5
        refine WL.lv rfl (LV.asg rfl) ?_
        refine WL.nil (thenQ.n ?_)
        refine WC.ret (blockQ.r <| thenQ.r <| ?_)
        exact ⟨_, fun a ha => res1 rfl ha rfl, r3, congrArg FV (rfl), by omega, by omega, hS8.kb⟩
      · refine WL.call rfl (XC.fn Try.func34 (by kernel_rfl) rfl rfl rfl) (Calls.asB (isNaN_calls (x := high) ) (decide_eq_false (hg3))) ?_
        rintro v_ w9 ⟨rfl, hk9⟩
        have hS9 := SH.same hS6 hk9
        refine WL.lv rfl (LV.pickF rfl rfl) ?_
        iterate 3 refine WL.lv rfl (LV.mv rfl) ?_
        refine WL.call rfl (XC.fn Try.func14 (by kernel_rfl) rfl rfl rfl) (order_calls (a := low) (b := high) (by first | assumption | omega | exact hp _ (getD_mem (by omega)) | exact hpz _ (getD_mem (by omega))) (by first | assumption | omega | exact hp _ (getD_mem (by omega)) | exact hpz _ (getD_mem (by omega)))) ?_
        rintro v_ w10 ⟨rfl, hk10⟩
        have hS10 := SH.same hS9 hk10
        refine WL.lv rfl (LV.gtI rfl rfl) ?_
        refine WL.lv rfl (LV.pickF rfl rfl) ?_
        refine WL.lv rfl (LV.asg rfl) ?_
        refine WL.nil (thenQ.n ?_)
        refine WC.condP (p := (ORD low high) > 0) rfl (fun hc1 => ?_) (fun hc1 => ?_)
        · skip
          refine WC.seq ?_
          refine WC.region ?_
          refine WL.call rfl (XC.fn Try.func32 (by kernel_rfl) rfl rfl rfl) (nan_calls  ) ?_
          rintro v_ w11 ⟨r4, rfl, hf7, hf8, hk11⟩
          have hS11 := SH.same hS10 hk11
          have htn_ := tk_none hf7
          refine WL.lv rfl (LV.asg rfl) ?_
          refine WL.nil (thenQ.n ?_)
          refine WC.ret (blockQ.r <| thenQ.r <| ?_)
          exact ⟨_, fun a ha => res1 rfl ha rfl, r4, congrArg FV (rfl), by omega, by omega, hS11.kb⟩
        · skip
          refine WC.seq ?_
          refine WC.region ?_
          iterate 2 refine WL.lv rfl (LV.mv rfl) ?_
          refine WL.call rfl (XC.fn Try.func14 (by kernel_rfl) rfl rfl rfl) (order_calls (a := x) (b := low) (by first | assumption | omega | exact hp _ (getD_mem (by omega)) | exact hpz _ (getD_mem (by omega))) (by first | assumption | omega | exact hp _ (getD_mem (by omega)) | exact hpz _ (getD_mem (by omega)))) ?_
          rintro v_ w12 ⟨rfl, hk12⟩
          have hS12 := SH.same hS10 hk12
          refine WL.lv rfl (LV.ltI rfl rfl) ?_
          refine WL.lv rfl (LV.asg rfl) ?_
          refine WL.nil (thenQ.n ?_)
          refine WC.condP (p := (ORD x low) < 0) rfl (fun hc2 => ?_) (fun hc2 => ?_)
          · skip
            refine WC.seq ?_
            refine WC.region ?_
            refine WL.lv rfl (LV.mv rfl) ?_
            refine WL.lv rfl (LV.asg rfl) ?_
            refine WL.nil (thenQ.n ?_)
            refine WC.ret (blockQ.r <| thenQ.r <| ?_)
            exact ⟨_, fun a ha => res1 rfl ha rfl, low, congrArg FV (rfl), by omega, by omega, hS12.kb⟩
          · skip
            refine WC.seq ?_
            refine WC.region ?_
            iterate 2 refine WL.lv rfl (LV.mv rfl) ?_
            refine WL.call rfl (XC.fn Try.func14 (by kernel_rfl) rfl rfl rfl) (order_calls (a := x) (b := high) (by first | assumption | omega | exact hp _ (getD_mem (by omega)) | exact hpz _ (getD_mem (by omega))) (by first | assumption | omega | exact hp _ (getD_mem (by omega)) | exact hpz _ (getD_mem (by omega)))) ?_
            rintro v_ w13 ⟨rfl, hk13⟩
            have hS13 := SH.same hS12 hk13
            refine WL.lv rfl (LV.gtI rfl rfl) ?_
            refine WL.lv rfl (LV.asg rfl) ?_
            refine WL.nil (thenQ.n ?_)
            refine WC.condP (p := (ORD x high) > 0) rfl (fun hc3 => ?_) (fun hc3 => ?_)
            · skip
              refine WC.seq ?_
              refine WC.region ?_
              refine WL.lv rfl (LV.mv rfl) ?_
              refine WL.lv rfl (LV.asg rfl) ?_
              refine WL.nil (thenQ.n ?_)
              refine WC.ret (blockQ.r <| thenQ.r <| ?_)
              exact ⟨_, fun a ha => res1 rfl ha rfl, high, congrArg FV (rfl), by omega, by omega, hS13.kb⟩
            · skip
              refine WC.skip (blockQ.n <| thenQ.n ?_)
              refine WC.seq ?_
              refine WC.region ?_
              refine WL.lv rfl (LV.mv rfl) ?_
              refine WL.lv rfl (LV.asg rfl) ?_
              refine WL.nil (thenQ.n ?_)
              refine WC.ret (?_)
              exact ⟨_, fun a ha => res1 rfl ha rfl, x, congrArg FV (rfl), by omega, by omega, hS13.kb⟩

theorem slist_calls {w : World} {A_a : Option Addr} {n_a c_a : Nat} {a : List Nat} {A_b : Option Addr} {n_b c_b : Nat} {b : List Nat} (h_a : St No w (Rd eF (.slice A_a n_a c_a) a)) (hn_a : a.length = n_a) (h_b : St No w (Rd eF (.slice A_b n_b c_b) b)) (hn_b : b.length = n_b) (wa : ∀ x ∈ a, x < 18446744073709551616) (wb : ∀ x ∈ b, x < 18446744073709551616) :
    Calls Try.prog 18 #[(.slice A_a n_a c_a), (.slice A_b n_b c_b)] w fun e w' => ∃ v, e = .returned v ∧ (fun v w' => v = .bool (decide (a.map tk = b.map tk)) ∧ KB No w w') v w' := by
  subst hn_a hn_b
  have hma := Rd.max h_a.now
  have hS : SH w No w [] := SH.nil _ _
  refine calls (l := litOf [(.slice A_a a.length c_a), (.slice A_b b.length c_b)] 0) Try.func18 rfl (n := 27) rfl (Nat.le_of_ble_eq_true rfl) (lit_args _) ?_
  refine WC.seq ?_
  refine WC.region ?_
  refine WL.lv rfl (LV.asg rfl) ?_
  refine WL.nil (thenQ.n ?_)
  iterate 2 refine WC.seq ?_
  refine WC.region ?_
  refine WL.lv rfl (LV.mv rfl) ?_
  refine WL.lv rfl (LV.lenL Try.underlying29 rfl) ?_
  refine WL.lv rfl (LV.mv rfl) ?_
  refine WL.lv rfl (LV.lenL Try.underlying29 rfl) ?_
  refine WL.lv rfl (LV.neI rfl rfl) ?_
  refine WL.nil (thenQ.n ?_)
  refine WC.condP (p := (a.length : Int) ≠ (b.length : Int)) rfl (fun hc1 => ?_) (fun hc1 => ?_)
  · skip
    refine WC.seq ?_
    refine WC.region ?_
    refine WL.lv rfl (LV.asg rfl) ?_
    refine WL.nil (thenQ.n ?_)
    refine WC.ret (thenQ.r <| ?_)
    exact ⟨_, fun a ha => res1 rfl ha rfl, congrArg Value.bool ((decide_eq_false (fun h_ => by first | (have hl_ := congrArg List.length h_; simp only [List.length_map] at hl_; omega) | exact h25 (map_tk h_ ilo hk))).symm), hS.kb⟩
  · skip
    refine WC.skip (thenQ.n ?_)
    iterate 2 refine WC.seq ?_
    refine WC.region ?_
    refine WL.lv rfl (LV.asg rfl) ?_
    refine WL.nil (thenQ.n ?_)
    refine WC.block ?_
    refine WC.loop (fun m_ f_ w_ => ∃ (i : Int), (0 ≤ i) ∧ (i ≤ (a.length : Int)) ∧ (∀ t : Int, 0 ≤ t → t < i → tk (a.getD t.toNat 0) = tk (b.getD t.toNat 0)) ∧ SH w No w_ [] ∧ m_ = (((a.length : Int) - i).toNat) ∧ Weak (lit [(0, (.slice A_a a.length c_a)), (1, (.slice A_b b.length c_b)), (5, (.int .i64 i))]) f_) _ ⟨0, by omega, by omega, (fun t h1 h2 => by omega), hS, rfl, Weak.cons rfl <| Weak.cons rfl <| Weak.cons rfl <| Weak.nil _⟩ ?_
    rintro m1 f1 w1 ⟨i, ilo, ihi, q1, hL1, rfl, hw1⟩
    refine WC.weak hw1 ?_
    clear hw1
    iterate 2 refine WC.seq ?_
    refine WC.region ?_
    iterate 2 refine WL.lv rfl (LV.mv rfl) ?_
    refine WL.lv rfl (LV.lenL Try.underlying29 rfl) ?_
    refine WL.lv rfl (LV.ltI rfl rfl) ?_
    refine WL.nil (thenQ.n ?_)
    refine WC.condP (p := i < (a.length : Int)) rfl (fun hk => ?_) (fun hk => ?_)
    · have hwa_ := wa (a.getD i.toNat 0) (getD_mem (by omega))
      have hwb_ := wb (b.getD i.toNat 0) (getD_mem (by omega))
      refine WC.skip (thenQ.n ?_)
      refine WC.seq ?_
      refine WC.block ?_
      refine WC.seq ?_
      have hS1 := SH.drew hL1
      refine WC.regionD [] (fun w_ => KB No w1.drew w_) [(.pure, 0), (.pure, 1), (.pure, 2), (.look, 3), (.pure, 4), (.pure, 5), (.pure, 6), (.look, 7), (.forced, 8), (.pure, 9)] (by kernel_rfl) (by kernel_rfl) (KB.refl _ _) ?_
      iterate 2 refine WS.pure rfl rfl (fun _ => LV.mv rfl) ?_
      obtain ⟨A1, c1, e1, g1⟩ := St.elt (SH.stN hS1 h_a) 0 i (by omega) (by omega)
      refine WS.pure rfl rfl (fun _ => LV.idxA Try.underlying29 ti22.sz rfl e1 rfl (by omega) (by omega)) ?_
      refine WS.look rfl rfl (fun _ hk_ => LV.load1 (v := (.float .f64 (a.getD (i).toNat 0))) Try.underlying22 rfl rfl (g1 _ hk_ 0 _ rfl)) ?_
      iterate 2 refine WS.pure rfl rfl (fun _ => LV.mv rfl) ?_
      obtain ⟨A2, c2, e2, g2⟩ := St.elt (SH.stN hS1 h_b) 0 i (by omega) (by omega)
      refine WS.pure rfl rfl (fun _ => LV.idxA Try.underlying29 ti22.sz rfl e2 rfl (by omega) (by omega)) ?_
      refine WS.look rfl rfl (fun _ hk_ => LV.load1 (v := (.float .f64 (b.getD (i).toNat 0))) Try.underlying22 rfl rfl (g2 _ hk_ 0 _ rfl)) ?_
      refine WS.call rfl rfl (XC.fn Try.func12 (by kernel_rfl) rfl rfl rfl) (fsame_calls (a := (a.getD (i).toNat 0)) (b := (b.getD (i).toNat 0)) (by first | assumption | omega | exact hp _ (getD_mem (by omega)) | exact hpz _ (getD_mem (by omega))) (by first | assumption | omega | exact hp _ (getD_mem (by omega)) | exact hpz _ (getD_mem (by omega)))) ?_
      rintro v_ w2 ⟨rfl, hk1⟩
      have hS2 := SH.same hS1 hk1
      refine ⟨fun h_ => (KB.transN (KB.refl _ _) hk1), ?_⟩
      refine WS.pure rfl rfl (fun _ => LV.notP rfl) ?_
      refine WS.nil (thenQ.n ?_)
      refine WC.condP (p := ¬ (tk (a.getD (i).toNat 0) = tk (b.getD (i).toNat 0))) rfl (fun h25 => ?_) (fun h25 => ?_)
      · skip
        refine WC.seq ?_
        refine WC.region ?_
        refine WL.lv rfl (LV.asg rfl) ?_
        refine WL.nil (thenQ.n ?_)
        refine WC.ret (blockQ.r <| thenQ.r <| thenQ.r <| blockQ.r <| thenQ.r <| ?_)
        exact ⟨_, fun a ha => res1 rfl ha rfl, congrArg Value.bool ((decide_eq_false (fun h_ => by first | (have hl_ := congrArg List.length h_; simp only [List.length_map] at hl_; omega) | exact h25 (map_tk h_ ilo hk))).symm), hS2.kb⟩
      · skip
        refine WC.skip (blockQ.n <| thenQ.n ?_)
        refine WC.region ?_
        refine WL.lv rfl (LV.mv rfl) ?_
        refine WL.lv rfl (LV.add rfl rfl (wr64 (by omega) (by omega))) ?_
        refine WL.lv rfl (LV.asg rfl) ?_
        refine WL.nil (thenQ.n ?_)
        exact ⟨_, by omega, i + 1, by omega, by omega, (all_step (p := fun t => tk (a.getD t.toNat 0) = tk (b.getD t.toNat 0)) q1 (Decidable.not_not.1 h25)), hS2, rfl, Weak.cons rfl <| Weak.cons rfl <| Weak.cons rfl <| Weak.nil _⟩
    · skip
      refine WC.exit (thenQ.x <| thenQ.x <| blockQ.hit <| thenQ.n ?_)
      refine WC.seq ?_
      refine WC.region ?_
      refine WL.lv rfl (LV.asg rfl) ?_
      refine WL.nil (thenQ.n ?_)
      refine WC.ret (?_)
      exact ⟨_, fun a ha => res1 rfl ha rfl, congrArg Value.bool ((decide_eq_true (ext_tk (by omega) (fun t h0_ h1_ => q1 t h0_ (by omega)))).symm), hL1.kb⟩

theorem best_calls {w : World} {A_l : Option Addr} {n_l c_l : Nat} {l : List Nat} (h_l : St No w (Rd eF (.slice A_l n_l c_l) l)) (hn_l : l.length = n_l) (wl : ∀ x ∈ l, x < 18446744073709551616) :
    Calls Try.prog 20 #[(.slice A_l n_l c_l)] w fun e w' => ∃ v, e = .returned v ∧ (fun v w' => ∃ (b' : Int), v = .int .i64 b' ∧ IsBst l b' ∧ KB No w w') v w' := by
  subst hn_l
  have hma := Rd.max h_l.now
  have hS : SH w No w [] := SH.nil _ _
  refine calls (l := litOf [(.slice A_l l.length c_l)] 0) Try.func20 rfl (n := 32) rfl (Nat.le_of_ble_eq_true rfl) (lit_args _) ?_
  refine WC.seq ?_
  refine WC.region ?_
  refine WL.lv rfl (LV.asg rfl) ?_
  refine WL.nil (thenQ.n ?_)
  refine WC.seq ?_
  refine WC.region ?_
  refine WL.lv rfl (LV.asg rfl) ?_
  refine WL.nil (thenQ.n ?_)
  iterate 2 refine WC.seq ?_
  refine WC.region ?_
  refine WL.lv rfl (LV.mv rfl) ?_
  refine WL.lv rfl (LV.lenL Try.underlying29 rfl) ?_
  refine WL.lv rfl (LV.mv rfl) ?_
  refine WL.nil (thenQ.n ?_)
  refine WC.block ?_
  refine WC.loop (fun m_ f_ w_ => ∃ (best_ : Int) (ix : Int), (0 ≤ ix) ∧ (ix ≤ (l.length : Int)) ∧ (IsBstN l best_ ix) ∧ (-1 ≤ best_ ∧ best_ < ix) ∧ SH w No w_ [] ∧ m_ = (((l.length : Int) - ix).toNat) ∧ Weak (lit [(0, (.slice A_l l.length c_l)), (3, (.int .i64 best_)), (6, (.slice A_l l.length c_l)), (7, (.int .i64 (l.length : Int))), (8, (.int .i64 ix))]) f_) _ ⟨(-1), 0, by omega, by omega, (bstN_0 l), by omega, hS, rfl, Weak.cons rfl <| Weak.cons rfl <| Weak.cons rfl <| Weak.cons rfl <| Weak.cons rfl <| Weak.nil _⟩ ?_
  rintro m1 f1 w1 ⟨best_, ix, ixlo, ixhi, q1, q2, hL1, rfl, hw1⟩
  refine WC.weak hw1 ?_
  clear hw1
  refine WC.seq ?_
  refine WC.region ?_
  refine WL.lv rfl (LV.ltI rfl rfl) ?_
  refine WL.nil (thenQ.n ?_)
  refine WC.seq ?_
  refine WC.condP (p := ix < (l.length : Int)) rfl (fun hk => ?_) (fun hk => ?_)
  · have hwx_ := wl (l.getD ix.toNat 0) (getD_mem (by omega))
    have htx_ := tk_is (l.getD ix.toNat 0)
    have hwb_ : best_ < 0 ∨ l.getD best_.toNat 0 < 18446744073709551616 := (Int.lt_or_le best_ 0).imp id fun h_ => wl _ (getD_mem (by omega))
    have hob_ := ord_is' (l.getD ix.toNat 0) (l.getD best_.toNat 0)
    refine WC.skip (thenQ.n ?_)
    refine WC.seq ?_
    refine WC.block ?_
    refine WC.seq ?_
    refine WC.region ?_
    refine WL.lv rfl (LV.mv rfl) ?_
    obtain ⟨A1, c1, e1, g1⟩ := St.elt (SH.stN hL1 h_l) 0 ix (by omega) (by omega)
    refine WL.lv rfl (LV.idxA Try.underlying29 ti22.sz rfl e1 rfl (by omega) (by omega)) ?_
    refine WL.lv rfl (LV.load1 (v := (.float .f64 (l.getD (ix).toNat 0))) Try.underlying22 rfl rfl (g1 _ (KB.refl No _) 0 _ rfl)) ?_
    iterate 2 refine WL.lv rfl (LV.asg rfl) ?_
    refine WL.nil (thenQ.n ?_)
    refine WC.seq ?_
    refine WC.region ?_
    refine WL.lv rfl (LV.mv rfl) ?_
    rcases Decidable.em (¬ (-9218868437227405312 ≤ sk (l.getD (ix).toNat 0) ∧ sk (l.getD (ix).toNat 0) ≤ 9218868437227405312)) with hg1 | hg1
    · refine WL.call rfl (XC.fn Try.func34 (by kernel_rfl) rfl rfl rfl) (Calls.asB (isNaN_calls (x := (l.getD (ix).toNat 0)) ) (decide_eq_true (hg1))) ?_
      rintro v_ w2 ⟨rfl, hk1⟩
      have hS1 := SH.same hL1 hk1
      refine WL.lv rfl (LV.notB rfl) ?_
      refine WL.lv rfl (LV.mv rfl) ?_
      iterate 11 refine WL.off rfl ?_
      refine WL.lv rfl (LV.pickF rfl rfl) ?_
      refine WL.nil (thenQ.n ?_)
      refine WC.condF rfl ?_
      refine WC.skip (blockQ.n <| thenQ.n ?_)
      refine WC.region ?_
      refine WL.lv rfl (LV.add rfl rfl (wr64 (by omega) (by omega))) ?_
      refine WL.lv rfl (LV.mv rfl) ?_
      refine WL.nil (thenQ.n ?_)
      exact ⟨_, by omega, best_, ix + 1, by omega, by omega, (bstN_keep q1 (by omega)), by omega, hS1, rfl, Weak.cons rfl <| Weak.cons rfl <| Weak.cons rfl <| Weak.cons rfl <| Weak.cons rfl <| Weak.nil _⟩
    · refine WL.call rfl (XC.fn Try.func34 (by kernel_rfl) rfl rfl rfl) (Calls.asB (isNaN_calls (x := (l.getD (ix).toNat 0)) ) (decide_eq_false (hg1))) ?_
      rintro v_ w3 ⟨rfl, hk2⟩
      have hS2 := SH.same hL1 hk2
      refine WL.lv rfl (LV.notB rfl) ?_
      iterate 2 refine WL.lv rfl (LV.mv rfl) ?_
      rcases Decidable.em (best_ < 0) with hg2 | hg2
      · refine WL.lv rfl (LV.as (LV.ltI rfl rfl) (decide_eq_true hg2)) ?_
        refine WL.lv rfl (LV.mv rfl) ?_
        iterate 7 refine WL.off rfl ?_
        iterate 2 refine WL.lv rfl (LV.pickT rfl rfl) ?_
        refine WL.nil (thenQ.n ?_)
        refine WC.condT rfl ?_
        refine WC.region ?_
        refine WL.lv rfl (LV.mv rfl) ?_
        refine WL.lv rfl (LV.asg rfl) ?_
        refine WL.nil (blockQ.n <| thenQ.n ?_)
        refine WC.region ?_
        refine WL.lv rfl (LV.add rfl rfl (wr64 (by omega) (by omega))) ?_
        refine WL.lv rfl (LV.mv rfl) ?_
        refine WL.nil (thenQ.n ?_)
        exact ⟨_, by omega, ix, ix + 1, by omega, by omega, (bstN_take q1 ixlo (by omega) (by omega)), by omega, hS2, rfl, Weak.cons rfl <| Weak.cons rfl <| Weak.cons rfl <| Weak.cons rfl <| Weak.cons rfl <| Weak.nil _⟩
      · refine WL.lv rfl (LV.as (LV.ltI rfl rfl) (decide_eq_false hg2)) ?_
        iterate 4 refine WL.lv rfl (LV.mv rfl) ?_
        obtain ⟨A2, c2, e2, g2⟩ := St.elt (SH.stN hS2 h_l) 0 best_ (by omega) (by omega)
        refine WL.lv rfl (LV.idxA Try.underlying29 ti22.sz rfl e2 rfl (by omega) (by omega)) ?_
        refine WL.lv rfl (LV.load1 (v := (.float .f64 (l.getD (best_).toNat 0))) Try.underlying22 rfl rfl (g2 _ (KB.refl No _) 0 _ rfl)) ?_
        refine WL.call rfl (XC.fn Try.func14 (by kernel_rfl) rfl rfl rfl) (order_calls (a := (l.getD (ix).toNat 0)) (b := (l.getD (best_).toNat 0)) (by first | assumption | omega | exact hp _ (getD_mem (by omega)) | exact hpz _ (getD_mem (by omega))) (by first | assumption | omega | exact hp _ (getD_mem (by omega)) | exact hpz _ (getD_mem (by omega)))) ?_
        rintro v_ w4 ⟨rfl, hk3⟩
        have hS3 := SH.same hS2 hk3
        refine WL.lv rfl (LV.gtI rfl rfl) ?_
        refine WL.lv rfl (LV.pickF rfl rfl) ?_
        refine WL.lv rfl (LV.pickT rfl rfl) ?_
        refine WL.nil (thenQ.n ?_)
        refine WC.condP (p := (ORD (l.getD (ix).toNat 0) (l.getD (best_).toNat 0)) > 0) rfl (fun hc1 => ?_) (fun hc1 => ?_)
        · skip
          refine WC.region ?_
          refine WL.lv rfl (LV.mv rfl) ?_
          refine WL.lv rfl (LV.asg rfl) ?_
          refine WL.nil (blockQ.n <| thenQ.n ?_)
          refine WC.region ?_
          refine WL.lv rfl (LV.add rfl rfl (wr64 (by omega) (by omega))) ?_
          refine WL.lv rfl (LV.mv rfl) ?_
          refine WL.nil (thenQ.n ?_)
          exact ⟨_, by omega, ix, ix + 1, by omega, by omega, (bstN_take q1 ixlo (by omega) (by omega)), by omega, hS3, rfl, Weak.cons rfl <| Weak.cons rfl <| Weak.cons rfl <| Weak.cons rfl <| Weak.cons rfl <| Weak.nil _⟩
        · skip
          refine WC.skip (blockQ.n <| thenQ.n ?_)
          refine WC.region ?_
          refine WL.lv rfl (LV.add rfl rfl (wr64 (by omega) (by omega))) ?_
          refine WL.lv rfl (LV.mv rfl) ?_
          refine WL.nil (thenQ.n ?_)
          exact ⟨_, by omega, best_, ix + 1, by omega, by omega, (bstN_keep q1 (by omega)), by omega, hS3, rfl, Weak.cons rfl <| Weak.cons rfl <| Weak.cons rfl <| Weak.cons rfl <| Weak.cons rfl <| Weak.nil _⟩
  · skip
    refine WC.exit (thenQ.x <| thenQ.x <| blockQ.hit <| thenQ.n ?_)
    refine WC.seq ?_
    refine WC.region ?_
    refine WL.lv rfl (LV.mv rfl) ?_
    refine WL.lv rfl (LV.asg rfl) ?_
    refine WL.nil (thenQ.n ?_)
    refine WC.ret (?_)
    exact ⟨_, fun a ha => res1 rfl ha rfl, best_, congrArg (Value.int .i64) (by omega), bstN_fin q1 (by omega), hL1.kb⟩

end Go.Proofs.Ytlnnfcbndelcnaa
