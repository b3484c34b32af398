/- The law of the mean and the median. -/
import Derived.Test.YtomeffnlmefnlaaFlG
import Derived.Test.YtomeffnlmefnlaaFlW
namespace Go.Proofs.Ytomeffnlmefnlaa
open Go Go.Gv Go.RowKit Go.Flt Go.Shelf Go.Lib Go.Sort
set_option linter.unusedVariables false
set_option linter.unusedSimpArgs false

theorem clonef_calls {w : World} {A_s : Option Addr} {n_s c_s : Nat} {s : List Nat} (h_s : St No w (Rd eF (.slice A_s n_s c_s) s)) (hn_s : s.length = n_s) (hl : s.length ≤ 1000000) :
    Calls Try.prog 55 #[(.slice A_s n_s c_s)] w fun e w' => ∃ v, e = .returned v ∧ (fun v w' => ∃ (A0' : Option Addr) (c0' : Nat), v = .slice A0' (s).length c0' ∧ SH w No w' [rowE eF 34 (.slice A0' (s).length c0') s]) v w' := by
  subst hn_s
  have hS : SH w No w [] := SH.nil _ _
  refine calls (l := litOf [(.slice A_s s.length c_s)] 0) Try.func55 rfl (n := 8) rfl (Nat.le_of_ble_eq_true rfl) (lit_args _) ?_
  refine WC.seq ?_
  refine WC.region ?_
  refine WL.lv rfl (LV.asg rfl) ?_
  refine WL.nil (thenQ.n ?_)
  iterate 2 refine WC.seq ?_
  refine WC.region ?_
  refine WL.lv rfl (LV.mv rfl) ?_
  refine WL.lv rfl (LV.eqNil Try.underlying60 rfl rfl) ?_
  refine WL.nil (thenQ.n ?_)
  refine WC.cond (b := (A_s).isNone) rfl (fun hc1 => ?_) (fun hc1 => ?_)
  · skip
    refine WC.seq ?_
    refine WC.region ?_
    refine WL.lv rfl (LV.asg rfl) ?_
    refine WL.nil (thenQ.n ?_)
    refine WC.ret (thenQ.r <| ?_)
    have hS1 := SH.nilRow (E := eF) (T := 34) hS
    have hres1 : ([] : List Nat) = s := (Rd.isNone h_s.now hc1).symm
    exact ⟨_, fun a ha => res1 rfl ha rfl, (by rw [← hres1]; exact ⟨_, _, rfl, hS1⟩)⟩
  · skip
    refine WC.skip (thenQ.n ?_)
    refine WC.seq ?_
    refine WC.region ?_
    refine WL.xe rfl (XE.buildSlice (E := eF) [] #[] [] hS Try.underlying60 ti34 rfl (by decide) (by kernel_rfl) (.inr rfl) rfl rfl (by decide)) ?_
    rintro _ w1 ⟨b1, rfl, hS2, hk1⟩
    refine WL.lv rfl (LV.mv rfl) ?_
    refine WL.xe rfl (XE.append hS2 Try.underlying60 ti34 rfl (St.now (SH.stN hS2 h_s)) rfl rfl (by first | omega | simp only [List.length_append, List.length_cons, List.length_nil, List.length_take, List.length_reverse, List.length_drop] at *; omega) (by first | omega | simp only [List.length_append, List.length_cons, List.length_nil, List.length_take, List.length_reverse, List.length_drop] at *; omega)) ?_
    rintro _ w2 ⟨A1, c1, rfl, hS3, hk2⟩
    refine WL.lv rfl (LV.asg rfl) ?_
    refine WL.nil (thenQ.n ?_)
    refine WC.ret (?_)
    have hres2 : ((([] : List Nat) ++ s) : List Nat) = s := List.nil_append _
    exact ⟨_, fun a ha => res1 rfl ha rfl, (by rw [← hres2]; exact ⟨_, _, rfl, hS3⟩)⟩

theorem sort22_calls {w : World} {A_l : Option Addr} {c_l : Nat} {l : List Nat} (h_l : St No w (Rd eF (.slice A_l l.length c_l) l)) (hp : ∀ x ∈ l, W6 x) (hl : l.length ≤ 60) :
    Calls Try.prog 40 #[(.slice A_l l.length c_l)] w fun e w' => ∃ v, e = .returned v ∧ (fun v w' => ∃ A' c' ys, v = .slice A' l.length c' ∧ ys.Perm l ∧ (ys.Pairwise fun a b => ¬ ORD b a < 0) ∧ SH w No w' [rowE eF 34 (.slice A' l.length c') ys]) v w' := by
  have hS : SH w No w [] := SH.nil _ _
  refine calls (l := litOf [(.slice A_l l.length c_l)] 0) Try.func40 rfl (n := 9) rfl (Nat.le_of_ble_eq_true rfl) (lit_args _) ?_
  refine WC.seq ?_
  refine WC.region ?_
  refine WL.lv rfl (LV.asg rfl) ?_
  refine WL.nil (thenQ.n ?_)
  refine WC.seq ?_
  refine WC.region ?_
  refine WL.lv rfl (LV.mv rfl) ?_
  refine WL.call rfl (XC.fn Try.func55 (by kernel_rfl) rfl rfl rfl) (clonef_calls  (SH.stN hS h_l) rfl (by omega)) ?_
  rintro v_ w1 ⟨A1, c1, rfl, hS1⟩
  have hS2 := SH.joinN hS hS1
  refine WL.lv rfl (LV.asg rfl) ?_
  refine WL.nil (thenQ.n ?_)
  refine WC.seq ?_
  refine WC.region ?_
  refine WL.lv rfl (LV.mv rfl) ?_
  have hT1 := SH.sub (Es := [_]) hS2
  refine WL.call rfl (XC.fn Try.func56 (by kernel_rfl) rfl rfl rfl) (sortst_calls hT1 hp (by omega)) ?_
  rintro v_ w2 ⟨ys1, rfl, hpm1, hpw1, hU1⟩
  have hS3 := SH.back (Es := [_]) hS2 hU1
  refine WL.nil (thenQ.n ?_)
  refine WC.seq ?_
  refine WC.region ?_
  refine WL.lv rfl (LV.mv rfl) ?_
  refine WL.lv rfl (LV.asg rfl) ?_
  refine WL.nil (thenQ.n ?_)
  refine WC.ret (?_)
  exact ⟨_, fun a ha => res1 rfl ha rfl, _, _, _, rfl, hpm1, hpw1, hS3⟩

theorem indexf_calls {w : World} {A_s : Option Addr} {n_s c_s : Nat} {s : List Nat} (h_s : St No w (Rd eF (.slice A_s n_s c_s) s)) (hn_s : s.length = n_s)  :
    Calls Try.prog 54 #[(.slice A_s n_s c_s), (.func (.func 39) #[] #[])] w fun e w' => ∃ v, e = .returned v ∧ (fun v w' => ∃ (i' : Int), v = .int .i64 i' ∧ ((i' = -1 ∧ anyN s = false) ∨ (0 ≤ i' ∧ anyN s = true)) ∧ KB No w w') v w' := by
  subst hn_s
  have hma := Rd.max h_s.now
  have hS : SH w No w [] := SH.nil _ _
  refine calls (l := litOf [(.slice A_s s.length c_s), (.func (.func 39) #[] #[])] 0) Try.func54 rfl (n := 19) rfl (Nat.le_of_ble_eq_true rfl) (lit_args _) ?_
  refine WC.seq ?_
  refine WC.region ?_
  refine WL.lv rfl (LV.asg rfl) ?_
  refine WL.nil (thenQ.n ?_)
  iterate 2 refine WC.seq ?_
  refine WC.region ?_
  refine WL.lv rfl (LV.mv rfl) ?_
  refine WL.lv rfl (LV.lenL Try.underlying60 rfl) ?_
  refine WL.lv rfl (LV.mv rfl) ?_
  refine WL.nil (thenQ.n ?_)
  refine WC.block ?_
  refine WC.loop (fun m_ f_ w_ => ∃ (ix : Int), (0 ≤ ix) ∧ (ix ≤ (s.length : Int)) ∧ (∀ t : Int, 0 ≤ t → t < ix → -9218868437227405312 ≤ sk (s.getD t.toNat 0) ∧ sk (s.getD t.toNat 0) ≤ 9218868437227405312) ∧ SH w No w_ [] ∧ m_ = (((s.length : Int) - ix).toNat) ∧ Weak (lit [(0, (.slice A_s s.length c_s)), (1, (.func (.func 39) #[] #[])), (7, (.int .i64 (s.length : Int))), (8, (.int .i64 ix))]) f_) _ ⟨0, by omega, by omega, (fun t h1_ h2_ => by omega), hS, rfl, Weak.cons rfl <| Weak.cons rfl <| Weak.cons rfl <| Weak.cons rfl <| Weak.nil _⟩ ?_
  rintro m1 f1 w1 ⟨ix, ixlo, ixhi, q1, hL1, rfl, hw1⟩
  refine WC.weak hw1 ?_
  clear hw1
  refine WC.seq ?_
  refine WC.region ?_
  refine WL.lv rfl (LV.ltI rfl rfl) ?_
  refine WL.nil (thenQ.n ?_)
  refine WC.seq ?_
  refine WC.condP (p := ix < (s.length : Int)) rfl (fun h9 => ?_) (fun h9 => ?_)
  · skip
    refine WC.skip (thenQ.n ?_)
    refine WC.seq ?_
    refine WC.block ?_
    refine WC.seq ?_
    refine WC.region ?_
    refine WL.lv rfl (LV.mv rfl) ?_
    refine WL.lv rfl (LV.asg rfl) ?_
    refine WL.nil (thenQ.n ?_)
    refine WC.seq ?_
    refine WC.region ?_
    iterate 3 refine WL.lv rfl (LV.mv rfl) ?_
    obtain ⟨A1, c1, e1, g1⟩ := St.elt (SH.stN hL1 h_s) 0 ix (by omega) (by omega)
    refine WL.lv rfl (LV.idxA Try.underlying60 ti34.sz rfl e1 rfl (by omega) (by omega)) ?_
    refine WL.lv rfl (LV.load1 (v := (.float .f64 (s.getD (ix).toNat 0))) Try.underlying34 rfl rfl (g1 _ (KB.refl No _) 0 _ rfl)) ?_
    refine WL.call rfl (XC.fn Try.func39 (by kernel_rfl) rfl rfl rfl) (isNaN_calls (x := (s.getD (ix).toNat 0)) ) ?_
    rintro v_ w2 ⟨rfl, hk1⟩
    have hS1 := SH.same hL1 hk1
    refine WL.nil (thenQ.n ?_)
    refine WC.condP (p := ¬ (-9218868437227405312 ≤ sk (s.getD (ix).toNat 0) ∧ sk (s.getD (ix).toNat 0) ≤ 9218868437227405312)) rfl (fun hc1 => ?_) (fun hc1 => ?_)
    · skip
      refine WC.seq ?_
      refine WC.region ?_
      refine WL.lv rfl (LV.mv rfl) ?_
      refine WL.lv rfl (LV.asg rfl) ?_
      refine WL.nil (thenQ.n ?_)
      refine WC.ret (blockQ.r <| thenQ.r <| thenQ.r <| blockQ.r <| thenQ.r <| ?_)
      exact ⟨_, fun a ha => res1 rfl ha rfl, ix, congrArg (Value.int .i64) (by omega), .inr ⟨ixlo, any_yes ixlo h9 (by omega)⟩, hS1.kb⟩
    · skip
      refine WC.skip (blockQ.n <| thenQ.n ?_)
      refine WC.region ?_
      refine WL.lv rfl (LV.add rfl rfl (wr64 (by omega) (by omega))) ?_
      refine WL.lv rfl (LV.mv rfl) ?_
      refine WL.nil (thenQ.n ?_)
      exact ⟨_, by omega, ix + 1, by omega, by omega, (all_step (p := fun t => -9218868437227405312 ≤ sk (s.getD t.toNat 0) ∧ sk (s.getD t.toNat 0) ≤ 9218868437227405312) q1 (by omega)), hS1, rfl, Weak.cons rfl <| Weak.cons rfl <| Weak.cons rfl <| Weak.cons rfl <| Weak.nil _⟩
  · skip
    refine WC.exit (thenQ.x <| thenQ.x <| blockQ.hit <| thenQ.n ?_)
    refine WC.seq ?_
    refine WC.region ?_
    refine WL.lv rfl (LV.asg rfl) ?_
    refine WL.nil (thenQ.n ?_)
    refine WC.ret (?_)
    exact ⟨_, fun a ha => res1 rfl ha rfl, (-1), congrArg (Value.int .i64) (by omega), .inl ⟨rfl, any_no (fun t h0_ h1_ => q1 t h0_ (by omega))⟩, hL1.kb⟩

theorem containsf_calls {w : World} {A_s : Option Addr} {n_s c_s : Nat} {s : List Nat} (h_s : St No w (Rd eF (.slice A_s n_s c_s) s)) (hn_s : s.length = n_s)  :
    Calls Try.prog 38 #[(.slice A_s n_s c_s), (.func (.func 39) #[] #[])] w fun e w' => ∃ v, e = .returned v ∧ (fun v w' => v = .bool (anyN s) ∧ KB No w w') v w' := by
  subst hn_s
  have hS : SH w No w [] := SH.nil _ _
  refine calls (l := litOf [(.slice A_s s.length c_s), (.func (.func 39) #[] #[])] 0) Try.func38 rfl (n := 9) rfl (Nat.le_of_ble_eq_true rfl) (lit_args _) ?_
  refine WC.seq ?_
  refine WC.region ?_
  refine WL.lv rfl (LV.asg rfl) ?_
  refine WL.nil (thenQ.n ?_)
  refine WC.seq ?_
  refine WC.region ?_
  iterate 2 refine WL.lv rfl (LV.mv rfl) ?_
  refine WL.call rfl (XC.fn Try.func54 (by kernel_rfl) rfl rfl rfl) (indexf_calls  (SH.stN hS h_s) rfl ) ?_
  rintro v_ w1 ⟨i1, rfl, hf1, hk1⟩
  have hS1 := SH.same hS hk1
  have hx_ := hf1
  refine WL.lv rfl (LV.geI rfl rfl) ?_
  refine WL.lv rfl (LV.asg rfl) ?_
  refine WL.nil (thenQ.n ?_)
  refine WC.ret (?_)
  exact ⟨_, fun a ha => res1 rfl ha rfl, congrArg Value.bool (by rcases hx_ with ⟨h1_, h2_⟩ | ⟨h1_, h2_⟩ <;> rw [h2_] <;> simp <;> omega), hS1.kb⟩

theorem median_calls {w : World} {A_l : Option Addr} {n_l c_l : Nat} {l : List Nat} (h_l : St No w (Rd eF (.slice A_l n_l c_l) l)) (hn_l : l.length = n_l) (hp : ∀ x ∈ l, W6 x) (hl : l.length ≤ 60) :
    Calls Try.prog 27 #[(.slice A_l n_l c_l)] w fun e w' => ∃ v, e = .returned v ∧ (fun v w' => ∃ (r' : Nat), v = .float .f64 r' ∧ MEDN l r' ∧ r' < 18446744073709551616 ∧ KB No w w') v w' := by
  subst hn_l
  have hS : SH w No w [] := SH.nil _ _
  refine calls (l := litOf [(.slice A_l l.length c_l)] 0) Try.func27 rfl (n := 42) rfl (Nat.le_of_ble_eq_true rfl) (lit_args _) ?_
  refine WC.seq ?_
  refine WC.region ?_
  refine WL.lv rfl (LV.asg rfl) ?_
  refine WL.nil (thenQ.n ?_)
  refine WC.seq ?_
  refine WC.region ?_
  refine WL.lv rfl (LV.mv rfl) ?_
  refine WL.lv rfl (LV.lenL Try.underlying60 rfl) ?_
  refine WL.lv rfl (LV.asg rfl) ?_
  refine WL.nil (thenQ.n ?_)
  iterate 2 refine WC.seq ?_
  refine WC.region ?_
  refine WL.lv rfl (LV.mv rfl) ?_
  rcases Decidable.em ((l.length : Int) = 0) with hg1 | hg1
  · refine WL.lv rfl (LV.as (LV.eqI rfl rfl) (decide_eq_true hg1)) ?_
    refine WL.lv rfl (LV.mv rfl) ?_
    iterate 2 refine WL.off rfl ?_
    refine WL.lv rfl (LV.pickT rfl rfl) ?_
    refine WL.nil (thenQ.n ?_)
    refine WC.condT rfl ?_
    refine WC.seq ?_
    refine WC.region ?_
    refine WL.call rfl (XC.fn Try.func37 (by kernel_rfl) rfl rfl rfl) (nan_calls  ) ?_
    rintro v_ w1 ⟨r1, rfl, hf1, hf2, hk1⟩
    have hS1 := SH.same hS hk1
    refine WL.lv rfl (LV.asg rfl) ?_
    refine WL.nil (thenQ.n ?_)
    refine WC.ret (thenQ.r <| ?_)
    exact ⟨_, fun a ha => res1 rfl ha rfl, r1, congrArg FV (rfl), .inl ⟨by first | exact .inl (by omega) | exact .inr (by assumption) | exact .inr (any_yes ilo (by omega) (by omega)), hf1⟩, hf2, hS1.kb⟩
  · refine WL.lv rfl (LV.as (LV.eqI rfl rfl) (decide_eq_false hg1)) ?_
    iterate 2 refine WL.lv rfl (LV.mv rfl) ?_
    refine WL.call rfl (XC.fn Try.func38 (by kernel_rfl) rfl rfl rfl) (containsf_calls  (SH.stN hS h_l) rfl ) ?_
    rintro v_ w2 ⟨rfl, hk2⟩
    have hS2 := SH.same hS hk2
    refine WL.lv rfl (LV.pickF rfl rfl) ?_
    refine WL.nil (thenQ.n ?_)
    refine WC.cond (b := anyN l) rfl (fun hc1 => ?_) (fun hc1 => ?_)
    · skip
      refine WC.seq ?_
      refine WC.region ?_
      refine WL.call rfl (XC.fn Try.func37 (by kernel_rfl) rfl rfl rfl) (nan_calls  ) ?_
      rintro v_ w3 ⟨r2, rfl, hf3, hf4, hk3⟩
      have hS3 := SH.same hS2 hk3
      refine WL.lv rfl (LV.asg rfl) ?_
      refine WL.nil (thenQ.n ?_)
      refine WC.ret (thenQ.r <| ?_)
      exact ⟨_, fun a ha => res1 rfl ha rfl, r2, congrArg FV (rfl), .inl ⟨by first | exact .inl (by omega) | exact .inr (by assumption) | exact .inr (any_yes ilo (by omega) (by omega)), hf3⟩, hf4, hS3.kb⟩
    · skip
      refine WC.skip (thenQ.n ?_)
      refine WC.seq ?_
      refine WC.region ?_
      refine WL.lv rfl (LV.mv rfl) ?_
      refine WL.call rfl (XC.fn Try.func40 (by kernel_rfl) rfl rfl rfl) (sort22_calls (l := l) (SH.stN hS2 h_l) (hp) (by first | omega | (simp only [List.length_append, List.length_nil, List.length_take, List.length_drop]; omega))) ?_
      rintro v_ w4 ⟨A1, c1, ys1, rfl, hpm1, hpw1, hS4⟩
      have hS5 := SH.joinN hS2 hS4
      have hln_ := hpm1.length_eq
      refine WL.lv rfl (LV.asg rfl) ?_
      refine WL.nil (thenQ.n ?_)
      iterate 2 refine WC.seq ?_
      refine WC.region ?_
      refine WL.lv rfl (LV.mv rfl) ?_
      refine WL.lv rfl (LV.rem rfl rfl (by decide) (rem64 (by omega) rfl)) ?_
      refine WL.lv rfl (LV.eqI rfl rfl) ?_
      refine WL.nil (thenQ.n ?_)
      refine WC.condP (p := ((l.length : Int) % 2) = 1) rfl (fun hc2 => ?_) (fun hc2 => ?_)
      · skip
        refine WC.seq ?_
        refine WC.region ?_
        iterate 2 refine WL.lv rfl (LV.mv rfl) ?_
        refine WL.lv rfl (LV.quo rfl rfl (by decide) (quo64 (by omega) (by omega) (by decide) rfl)) ?_
        obtain ⟨A2, c2, e1, g1⟩ := St.elt (SH.rd hS5 (.head _)) 0 ((l.length : Int) / 2) (by omega) (by omega)
        refine WL.lv rfl (LV.idxA Try.underlying60 ti34.sz rfl e1 rfl (by omega) (by omega)) ?_
        refine WL.lv rfl (LV.load1 (v := (.float .f64 (ys1.getD ((l.length : Int) / 2).toNat 0))) Try.underlying34 rfl rfl (g1 _ (KB.refl No _) 0 _ rfl)) ?_
        refine WL.lv rfl (LV.asg rfl) ?_
        refine WL.nil (thenQ.n ?_)
        refine WC.ret (thenQ.r <| ?_)
        exact ⟨_, fun a ha => res1 rfl ha rfl, ys1.getD ((l.length : Int) / 2).toNat 0, congrArg FV (rfl), .inr ⟨⟨by omega, by assumption⟩, ys1, hpm1, hpw1, .inl ⟨by omega, congrArg (fun i_ => List.getD ys1 i_ 0) (by omega)⟩⟩, hp _ (hpm1.mem_iff.1 (getD_mem (by omega))), hS5.kb⟩
      · skip
        refine WC.skip (thenQ.n ?_)
        refine WC.seq ?_
        have hS6 := SH.drew hS5
        refine WC.regionD [] (fun w_ => KB No w4.drew w_) [(.pure, 0), (.pure, 1), (.pure, 2), (.pure, 3), (.pure, 4), (.look, 5), (.pure, 7), (.pure, 8), (.pure, 9), (.pure, 10), (.look, 11), (.fork, 0), (.fork, 0), (.fork, 0), (.fork, 0)] (by kernel_rfl) (by kernel_rfl) (KB.refl _ _) ?_
        iterate 2 refine WS.pure rfl rfl (fun _ => LV.mv rfl) ?_
        refine WS.pure rfl rfl (fun _ => LV.quo rfl rfl (by decide) (quo64 (by omega) (by omega) (by decide) rfl)) ?_
        refine WS.pure rfl rfl (fun _ => LV.sub rfl rfl (wr64 (by omega) (by omega))) ?_
        obtain ⟨A3, c3, e2, g2⟩ := St.elt (SH.rd hS6 (.head _)) 0 (((l.length : Int) / 2) - 1) (by omega) (by omega)
        refine WS.pure rfl rfl (fun _ => LV.idxA Try.underlying60 ti34.sz rfl e2 rfl (by omega) (by omega)) ?_
        refine WS.look rfl rfl (fun _ hk_ => LV.load1 (v := (.float .f64 (ys1.getD (((l.length : Int) / 2) - 1).toNat 0))) Try.underlying34 rfl rfl (g2 _ hk_ 0 _ rfl)) ?_
        iterate 2 refine WS.pure rfl rfl (fun _ => LV.mv rfl) ?_
        refine WS.pure rfl rfl (fun _ => LV.quo rfl rfl (by decide) (quo64 (by omega) (by omega) (by decide) rfl)) ?_
        obtain ⟨A4, c4, e3, g3⟩ := St.elt (SH.rd hS6 (.head _)) 0 ((l.length : Int) / 2) (by omega) (by omega)
        refine WS.pure rfl rfl (fun _ => LV.idxA Try.underlying60 ti34.sz rfl e3 rfl (by omega) (by omega)) ?_
        refine WS.look rfl rfl (fun _ hk_ => LV.load1 (v := (.float .f64 (ys1.getD ((l.length : Int) / 2).toNat 0))) Try.underlying34 rfl rfl (g3 _ hk_ 0 _ rfl)) ?_
        refine WS.fork (WSX.two 6 12 (by kernel_rfl) ?_ ?_)
        · refine WO.xe rfl rfl (XE.arF (a := (ys1.getD (((l.length : Int) / 2) - 1).toNat 0)) (b := 4611686018427387904) hS6 (.inr (.inr (.inr rfl))) rfl rfl) ?_
          rintro _ w5 ⟨r3, rfl, hr1, hb1, hS7, hk4⟩
          refine ⟨fun h_ => (KB.transN (KB.refl _ _) hk4), ?_⟩
          have hq1_ := hr1
          refine WSX.of [(.pure, 13), (.forced, 12), (.pure, 14)] (by kernel_rfl) rfl ?_
          refine WS.pure rfl rfl (fun _ => LV.asg rfl) ?_
          refine WS.xe rfl rfl (XE.arF (a := (ys1.getD ((l.length : Int) / 2).toNat 0)) (b := 4611686018427387904) hS7 (.inr (.inr (.inr rfl))) rfl rfl) ?_
          rintro _ w6 ⟨r4, rfl, hr2, hb2, hS8, hk5⟩
          refine ⟨fun h_ => (KB.transN (KB.transN (KB.refl _ _) hk4) hk5), ?_⟩
          have hq2_ := hr2
          refine WS.pure rfl rfl (fun _ => LV.asg rfl) ?_
          refine WS.nil (thenQ.n ?_)
          refine WC.seq ?_
          refine WC.region ?_
          iterate 2 refine WL.lv rfl (LV.mv rfl) ?_
          refine WL.xe rfl (XE.arF (a := r3) (b := r4) hS8 (.inl rfl) rfl rfl) ?_
          rintro _ w7 ⟨r5, rfl, hr3, hb3, hS9, hk6⟩
          refine WL.lv rfl (LV.asg rfl) ?_
          refine WL.nil (thenQ.n ?_)
          refine WC.ret (?_)
          exact ⟨_, fun a ha => res1 rfl ha rfl, r5, congrArg FV (rfl), .inr ⟨⟨by omega, by assumption⟩, ys1, hpm1, hpw1, .inr ⟨by omega, _, _, hq1_, hq2_, hr3⟩⟩, hb3, hS9.kb⟩
        · refine WO.xe rfl rfl (XE.arF (a := (ys1.getD ((l.length : Int) / 2).toNat 0)) (b := 4611686018427387904) hS6 (.inr (.inr (.inr rfl))) rfl rfl) ?_
          rintro _ w8 ⟨r6, rfl, hr4, hb4, hS10, hk7⟩
          refine ⟨fun h_ => (KB.transN (KB.refl _ _) hk7), ?_⟩
          have hq2_ := hr4
          refine WSX.of [(.forced, 6), (.pure, 13), (.pure, 14)] (by kernel_rfl) rfl ?_
          refine WS.xe rfl rfl (XE.arF (a := (ys1.getD (((l.length : Int) / 2) - 1).toNat 0)) (b := 4611686018427387904) hS10 (.inr (.inr (.inr rfl))) rfl rfl) ?_
          rintro _ w9 ⟨r7, rfl, hr5, hb5, hS11, hk8⟩
          refine ⟨fun h_ => (KB.transN (KB.transN (KB.refl _ _) hk7) hk8), ?_⟩
          have hq1_ := hr5
          iterate 2 refine WS.pure rfl rfl (fun _ => LV.asg rfl) ?_
          refine WS.nil (thenQ.n ?_)
          refine WC.seq ?_
          refine WC.region ?_
          iterate 2 refine WL.lv rfl (LV.mv rfl) ?_
          refine WL.xe rfl (XE.arF (a := r7) (b := r6) hS11 (.inl rfl) rfl rfl) ?_
          rintro _ w10 ⟨r8, rfl, hr6, hb6, hS12, hk9⟩
          refine WL.lv rfl (LV.asg rfl) ?_
          refine WL.nil (thenQ.n ?_)
          refine WC.ret (?_)
          exact ⟨_, fun a ha => res1 rfl ha rfl, r8, congrArg FV (rfl), .inr ⟨⟨by omega, by assumption⟩, ys1, hpm1, hpw1, .inr ⟨by omega, _, _, hq1_, hq2_, hr6⟩⟩, hb6, hS12.kb⟩

theorem rsort22_calls {w : World} {A_l : Option Addr} {c_l : Nat} {l : List Nat} (h_l : St No w (Rd eF (.slice A_l l.length c_l) l)) (hp : ∀ x ∈ l, W6 x) (hl : l.length ≤ 100) :
    Calls Try.prog 41 #[(.slice A_l l.length c_l)] w fun e w' => ∃ v, e = .returned v ∧ (fun v w' => ∃ A' c' ys, v = .slice A' ys.length c' ∧ ys.Perm l ∧ (ys.Pairwise fun a b => ¬ ORD b a < 0) ∧ SH w No w' [rowE eF 34 (.slice A' ys.length c') ys]) v w' := by
  have hS : SH w No w [] := SH.nil _ _
  refine calls (l := litOf [(.slice A_l l.length c_l)] 0) Try.func41 rfl (n := 50) rfl (Nat.le_of_ble_eq_true rfl) (lit_args _) ?_
  refine WC.seq ?_
  refine WC.region ?_
  refine WL.lv rfl (LV.asg rfl) ?_
  refine WL.nil (thenQ.n ?_)
  refine WC.seq ?_
  refine WC.region ?_
  refine WL.xe rfl (XE.buildSlice (E := eF) [] #[] [] hS Try.underlying60 ti34 rfl (by decide) (by kernel_rfl) (.inr rfl) rfl rfl (by decide)) ?_
  rintro _ w1 ⟨b1, rfl, hS1, hk1⟩
  refine WL.lv rfl (LV.asg rfl) ?_
  refine WL.nil (thenQ.n ?_)
  iterate 2 refine WC.seq ?_
  refine WC.region ?_
  refine WL.lv rfl (LV.asg rfl) ?_
  refine WL.nil (thenQ.n ?_)
  refine WC.block ?_
  refine WC.loop (fun m_ f_ w_ => ∃ (A_out : Option Addr) (c_out : Nat) (out : List Nat) (i : Int), (0 ≤ i) ∧ (i ≤ (l.length : Int)) ∧ (out.Perm (l.take i.toNat)) ∧ (out.Pairwise (fun a b => ¬ ORD b a < 0)) ∧ ((out.length : Int) = i) ∧ SH w No w_ [rowE eF 34 (.slice A_out out.length c_out) out] ∧ m_ = (((l.length : Int) - i).toNat) ∧ Weak (lit [(0, (.slice A_l l.length c_l)), (3, (.slice A_out out.length c_out)), (4, (.int .i64 i))]) f_) _ ⟨(some ⟨b1, 0, none⟩), 0, [], 0, by omega, by omega, (List.Perm.refl _), List.Pairwise.nil, rfl, hS1, rfl, Weak.cons rfl <| Weak.cons rfl <| Weak.cons rfl <| Weak.nil _⟩ ?_
  rintro m1 f1 w2 ⟨A_out, c_out, out, i, ilo, ihi, q1, q2, q3, hL1, rfl, hw1⟩
  refine WC.weak hw1 ?_
  clear hw1
  iterate 2 refine WC.seq ?_
  refine WC.region ?_
  iterate 2 refine WL.lv rfl (LV.mv rfl) ?_
  refine WL.lv rfl (LV.lenL Try.underlying60 rfl) ?_
  refine WL.lv rfl (LV.ltI rfl rfl) ?_
  refine WL.nil (thenQ.n ?_)
  refine WC.condP (p := i < (l.length : Int)) rfl (fun h11 => ?_) (fun h11 => ?_)
  · have hwi_ : l.getD i.toNat 0 < 18446744073709551616 := hp (l.getD i.toNat 0) (getD_mem (by omega))
    refine WC.skip (thenQ.n ?_)
    refine WC.seq ?_
    refine WC.block ?_
    refine WC.seq ?_
    refine WC.region ?_
    refine WL.lv rfl (LV.asg rfl) ?_
    refine WL.nil (thenQ.n ?_)
    refine WC.seq ?_
    refine WC.block ?_
    refine WC.loop (fun m_ f_ w_ => ∃ (k : Int), (0 ≤ k) ∧ (k ≤ (out.length : Int)) ∧ (∀ t : Int, 0 ≤ t → t < k → tk (out.getD t.toNat 0) ≤ tk (l.getD i.toNat 0)) ∧ SH w No w_ [rowE eF 34 (.slice A_out out.length c_out) out] ∧ m_ = (((out.length : Int) - k).toNat) ∧ Weak (lit [(0, (.slice A_l l.length c_l)), (3, (.slice A_out out.length c_out)), (4, (.int .i64 i)), (5, (.int .i64 k))]) f_) _ ⟨0, by omega, by omega, (fun t h1_ h2_ => by omega), hL1, rfl, Weak.cons rfl <| Weak.cons rfl <| Weak.cons rfl <| Weak.cons rfl <| Weak.nil _⟩ ?_
    rintro m2 f2 w3 ⟨k, klo, khi, s1, hL2, rfl, hw2⟩
    refine WC.weak hw2 ?_
    clear hw2
    iterate 2 refine WC.seq ?_
    have hS2 := SH.drew hL2
    refine WC.regionD [] (fun w_ => KB No w3.drew w_) [(.pure, 0), (.pure, 1), (.pure, 2), (.pure, 3), (.pure, 4), (.pure, 5), (.pure, 6), (.pure, 7), (.look, 8), (.pure, 9), (.pure, 10), (.pure, 11), (.look, 12), (.forced, 13), (.pure, 14), (.pure, 15)] (by kernel_rfl) (by kernel_rfl) (KB.refl _ _) ?_
    iterate 2 refine WS.pure rfl rfl (fun _ => LV.mv rfl) ?_
    refine WS.pure rfl rfl (fun _ => LV.lenL Try.underlying60 rfl) ?_
    rcases Decidable.em (k < (out.length : Int)) with hg1 | hg1
    · refine WS.pure rfl rfl (fun _ => LV.as (LV.ltI rfl rfl) (decide_eq_true hg1)) ?_
      iterate 3 refine WS.pure rfl rfl (fun _ => LV.mv rfl) ?_
      obtain ⟨A1, c1, e1, g1⟩ := St.elt (SH.rd hS2 (.head _)) 0 k (by omega) (by omega)
      refine WS.pure rfl rfl (fun _ => LV.idxA Try.underlying60 ti34.sz rfl e1 rfl (by omega) (by omega)) ?_
      refine WS.look rfl rfl (fun _ hk_ => LV.load1 (v := (.float .f64 (out.getD (k).toNat 0))) Try.underlying34 rfl rfl (g1 _ hk_ 0 _ rfl)) ?_
      iterate 2 refine WS.pure rfl rfl (fun _ => LV.mv rfl) ?_
      obtain ⟨A2, c2, e2, g2⟩ := St.elt (SH.stN hS2 h_l) 0 i (by omega) (by omega)
      refine WS.pure rfl rfl (fun _ => LV.idxA Try.underlying60 ti34.sz rfl e2 rfl (by omega) (by omega)) ?_
      refine WS.look rfl rfl (fun _ hk_ => LV.load1 (v := (.float .f64 (l.getD (i).toNat 0))) Try.underlying34 rfl rfl (g2 _ hk_ 0 _ rfl)) ?_
      have hwo_ : out.getD k.toNat 0 < 18446744073709551616 := hp _ (List.mem_of_mem_take (q1.mem_iff.1 (getD_mem (by omega))))
      have ho_ := ord_is' (out.getD k.toNat 0) (l.getD i.toNat 0)
      refine WS.call rfl rfl (XC.fn Try.func58 (by kernel_rfl) rfl rfl rfl) (rorder_calls (a := (out.getD (k).toNat 0)) (b := (l.getD (i).toNat 0)) (by first | assumption | omega | exact hp _ (getD_mem (by omega)) | exact hpz _ (getD_mem (by omega))) (by first | assumption | omega | exact hp _ (getD_mem (by omega)) | exact hpz _ (getD_mem (by omega)))) ?_
      rintro v_ w4 ⟨rfl, hk2⟩
      have hS3 := SH.same hS2 hk2
      refine ⟨fun h_ => (KB.transN (KB.refl _ _) hk2), ?_⟩
      refine WS.pure rfl rfl (fun _ => LV.leI rfl rfl) ?_
      refine WS.pure rfl rfl (fun _ => LV.pickT rfl rfl) ?_
      refine WS.nil (thenQ.n ?_)
      refine WC.condP (p := (ORD (out.getD (k).toNat 0) (l.getD (i).toNat 0)) ≤ 0) rfl (fun hc1 => ?_) (fun hc1 => ?_)
      · skip
        refine WC.skip (thenQ.n ?_)
        refine WC.block ?_
        refine WC.region ?_
        refine WL.lv rfl (LV.mv rfl) ?_
        refine WL.lv rfl (LV.add rfl rfl (wr64 (by omega) (by omega))) ?_
        refine WL.lv rfl (LV.asg rfl) ?_
        refine WL.nil (blockQ.n <| thenQ.n ?_)
        exact ⟨_, by omega, k + 1, by omega, by omega, (all_step (p := fun t => tk (out.getD t.toNat 0) ≤ tk (l.getD i.toNat 0)) s1 (by omega)), hS3, rfl, Weak.cons rfl <| Weak.cons rfl <| Weak.cons rfl <| Weak.cons rfl <| Weak.nil _⟩
      · skip
        refine WC.exit (thenQ.x <| thenQ.x <| blockQ.hit <| thenQ.n ?_)
        refine WC.seq ?_
        refine WC.region ?_
        refine WL.xe rfl (XE.buildSlice (E := eF) [] #[] [] hS3 Try.underlying60 ti34 rfl (by decide) (by kernel_rfl) (.inr rfl) rfl rfl (by decide)) ?_
        rintro _ w5 ⟨b2, rfl, hS4, hk3⟩
        iterate 2 refine WL.lv rfl (LV.mv rfl) ?_
        have hcap1 : out.length ≤ c_out := (Rd.cap (St.now (SH.rd hS4 (.tail _ (.head _)))))
        refine WL.lv rfl (LV.cut Try.underlying60 ti34.sz rfl rfl rfl rfl ⟨.inl ⟨rfl, rfl⟩, .inr ⟨.i64, by rw [Int.toNat_of_nonneg (a := k) (by omega)] <;> rfl⟩, .inl ⟨rfl, rfl⟩⟩ (by omega) (by omega) (by omega)) ?_
        refine WL.xe rfl (XE.append hS4 Try.underlying60 ti34 rfl (St.now ((SH.rd hS4 (.tail _ (.head _))).imp fun _ h => Rd.cut h (by omega) (by omega) (by omega) (by omega))) rfl rfl (by first | omega | simp only [List.length_append, List.length_cons, List.length_nil, List.length_take, List.length_reverse, List.length_drop] at *; omega) (by first | omega | simp only [List.length_append, List.length_cons, List.length_nil, List.length_take, List.length_reverse, List.length_drop] at *; omega)) ?_
        rintro _ w6 ⟨A3, c3, rfl, hS5, hk4⟩
        refine WL.lv rfl (LV.asg rfl) ?_
        refine WL.nil (thenQ.n ?_)
        refine WC.seq ?_
        refine WC.region ?_
        iterate 3 refine WL.lv rfl (LV.mv rfl) ?_
        obtain ⟨A4, c4, e3, g3⟩ := St.elt (SH.stN hS5 h_l) 0 i (by omega) (by omega)
        refine WL.lv rfl (LV.idxA Try.underlying60 ti34.sz rfl e3 rfl (by omega) (by omega)) ?_
        refine WL.lv rfl (LV.load1 (v := (.float .f64 (l.getD (i).toNat 0))) Try.underlying34 rfl rfl (g3 _ (KB.refl No _) 0 _ rfl)) ?_
        refine WL.xe rfl (XE.buildSlice (E := eF) [(0, (.float .f64 (l.getD (i).toNat 0)))] #[(.float .f64 (l.getD (i).toNat 0))] [l.getD (i).toNat 0] hS5 Try.underlying60 ti34 rfl (by decide) (by kernel_rfl) (.inr rfl) rfl rfl (by decide)) ?_
        rintro _ w7 ⟨b3, rfl, hS6, hk5⟩
        have hS7 : SH w No w7 [rowE eF 34 (.slice A3 ((([] : List Nat) ++ ((out.take ((k).toNat)).drop 0)).length) c3) (([] : List Nat) ++ ((out.take ((k).toNat)).drop 0)), rowE eF 34 (.slice (some ⟨b3, 0, none⟩) 1 1) [l.getD (i).toNat 0], rowE eF 34 (.slice A_out out.length c_out) out] := (SH.front [_] hS6)
        refine WL.xe rfl (XE.append hS7 Try.underlying60 ti34 rfl (St.now (SH.rd hS7 (.tail _ (.head _)))) rfl rfl (by first | omega | simp only [List.length_append, List.length_cons, List.length_nil, List.length_take, List.length_reverse, List.length_drop] at *; omega) (by first | omega | simp only [List.length_append, List.length_cons, List.length_nil, List.length_take, List.length_reverse, List.length_drop] at *; omega)) ?_
        rintro _ w8 ⟨A5, c5, rfl, hS8, hk6⟩
        refine WL.lv rfl (LV.asg rfl) ?_
        refine WL.nil (thenQ.n ?_)
        refine WC.region ?_
        iterate 3 refine WL.lv rfl (LV.mv rfl) ?_
        have hcap2 : out.length ≤ c_out := (Rd.cap (St.now (SH.rd hS8 (.tail _ (.tail _ (.head _))))))
        refine WL.lv rfl (LV.cut Try.underlying60 ti34.sz rfl rfl rfl rfl ⟨.inr ⟨.i64, by rw [Int.toNat_of_nonneg (a := k) (by omega)] <;> rfl⟩, .inl ⟨rfl, rfl, rfl⟩, .inl ⟨rfl, rfl⟩⟩ (by omega) (by omega) (by omega)) ?_
        refine WL.xe rfl (XE.append hS8 Try.underlying60 ti34 rfl (St.now ((SH.rd hS8 (.tail _ (.tail _ (.head _)))).imp fun _ h => Rd.cut h (by omega) (by omega) (by omega) (by omega))) rfl rfl (by first | omega | simp only [List.length_append, List.length_cons, List.length_nil, List.length_take, List.length_reverse, List.length_drop] at *; omega) (by first | omega | simp only [List.length_append, List.length_cons, List.length_nil, List.length_take, List.length_reverse, List.length_drop] at *; omega)) ?_
        rintro _ w9 ⟨A6, c6, rfl, hS9, hk7⟩
        refine WL.lv rfl (LV.asg rfl) ?_
        refine WL.nil (blockQ.n <| thenQ.n ?_)
        refine WC.region ?_
        refine WL.lv rfl (LV.mv rfl) ?_
        refine WL.lv rfl (LV.add rfl rfl (wr64 (by omega) (by omega))) ?_
        refine WL.lv rfl (LV.asg rfl) ?_
        refine WL.nil (thenQ.n ?_)
        have hS10 : SH w No w9 [rowE eF 34 (.slice A6 ((((([] : List Nat) ++ ((out.take ((k).toNat)).drop 0)) ++ [l.getD (i).toNat 0]) ++ ((out.take out.length).drop ((k).toNat))).length) c6) (((([] : List Nat) ++ ((out.take ((k).toNat)).drop 0)) ++ [l.getD (i).toNat 0]) ++ ((out.take out.length).drop ((k).toNat)))] := (SH.take 1 rfl hS9)
        exact ⟨_, by omega, A6, c6, (((([] : List Nat) ++ ((out.take ((k).toNat)).drop 0)) ++ [l.getD (i).toNat 0]) ++ ((out.take out.length).drop ((k).toNat))), i + 1, by omega, by omega, (new_perm ilo h11 q1), (new_sort q2 khi s1 (fun h_ => by omega)), (by rw [new_eq]; simp; omega), hS10, rfl, Weak.cons rfl <| Weak.cons rfl <| Weak.cons rfl <| Weak.nil _⟩
    · refine WS.pure rfl rfl (fun _ => LV.as (LV.ltI rfl rfl) (decide_eq_false hg1)) ?_
      refine WS.pure rfl rfl (fun _ => LV.mv rfl) ?_
      iterate 3 refine WS.off rfl rfl ?_
      refine WS.offL rfl rfl ?_
      iterate 3 refine WS.off rfl rfl ?_
      refine WS.offL rfl rfl ?_
      refine WS.offF rfl rfl (fun h_ => (KB.refl _ _)) ?_
      refine WS.off rfl rfl ?_
      refine WS.pure rfl rfl (fun _ => LV.pickF rfl rfl) ?_
      refine WS.nil (thenQ.n ?_)
      refine WC.condF rfl ?_
      refine WC.exit (thenQ.x <| thenQ.x <| blockQ.hit <| thenQ.n ?_)
      refine WC.seq ?_
      refine WC.region ?_
      refine WL.xe rfl (XE.buildSlice (E := eF) [] #[] [] hS2 Try.underlying60 ti34 rfl (by decide) (by kernel_rfl) (.inr rfl) rfl rfl (by decide)) ?_
      rintro _ w10 ⟨b4, rfl, hS11, hk8⟩
      iterate 2 refine WL.lv rfl (LV.mv rfl) ?_
      have hcap3 : out.length ≤ c_out := (Rd.cap (St.now (SH.rd hS11 (.tail _ (.head _)))))
      refine WL.lv rfl (LV.cut Try.underlying60 ti34.sz rfl rfl rfl rfl ⟨.inl ⟨rfl, rfl⟩, .inr ⟨.i64, by rw [Int.toNat_of_nonneg (a := k) (by omega)] <;> rfl⟩, .inl ⟨rfl, rfl⟩⟩ (by omega) (by omega) (by omega)) ?_
      refine WL.xe rfl (XE.append hS11 Try.underlying60 ti34 rfl (St.now ((SH.rd hS11 (.tail _ (.head _))).imp fun _ h => Rd.cut h (by omega) (by omega) (by omega) (by omega))) rfl rfl (by first | omega | simp only [List.length_append, List.length_cons, List.length_nil, List.length_take, List.length_reverse, List.length_drop] at *; omega) (by first | omega | simp only [List.length_append, List.length_cons, List.length_nil, List.length_take, List.length_reverse, List.length_drop] at *; omega)) ?_
      rintro _ w11 ⟨A7, c7, rfl, hS12, hk9⟩
      refine WL.lv rfl (LV.asg rfl) ?_
      refine WL.nil (thenQ.n ?_)
      refine WC.seq ?_
      refine WC.region ?_
      iterate 3 refine WL.lv rfl (LV.mv rfl) ?_
      obtain ⟨A8, c8, e4, g4⟩ := St.elt (SH.stN hS12 h_l) 0 i (by omega) (by omega)
      refine WL.lv rfl (LV.idxA Try.underlying60 ti34.sz rfl e4 rfl (by omega) (by omega)) ?_
      refine WL.lv rfl (LV.load1 (v := (.float .f64 (l.getD (i).toNat 0))) Try.underlying34 rfl rfl (g4 _ (KB.refl No _) 0 _ rfl)) ?_
      refine WL.xe rfl (XE.buildSlice (E := eF) [(0, (.float .f64 (l.getD (i).toNat 0)))] #[(.float .f64 (l.getD (i).toNat 0))] [l.getD (i).toNat 0] hS12 Try.underlying60 ti34 rfl (by decide) (by kernel_rfl) (.inr rfl) rfl rfl (by decide)) ?_
      rintro _ w12 ⟨b5, rfl, hS13, hk10⟩
      have hS14 : SH w No w12 [rowE eF 34 (.slice A7 ((([] : List Nat) ++ ((out.take ((k).toNat)).drop 0)).length) c7) (([] : List Nat) ++ ((out.take ((k).toNat)).drop 0)), rowE eF 34 (.slice (some ⟨b5, 0, none⟩) 1 1) [l.getD (i).toNat 0], rowE eF 34 (.slice A_out out.length c_out) out] := (SH.front [_] hS13)
      refine WL.xe rfl (XE.append hS14 Try.underlying60 ti34 rfl (St.now (SH.rd hS14 (.tail _ (.head _)))) rfl rfl (by first | omega | simp only [List.length_append, List.length_cons, List.length_nil, List.length_take, List.length_reverse, List.length_drop] at *; omega) (by first | omega | simp only [List.length_append, List.length_cons, List.length_nil, List.length_take, List.length_reverse, List.length_drop] at *; omega)) ?_
      rintro _ w13 ⟨A9, c9, rfl, hS15, hk11⟩
      refine WL.lv rfl (LV.asg rfl) ?_
      refine WL.nil (thenQ.n ?_)
      refine WC.region ?_
      iterate 3 refine WL.lv rfl (LV.mv rfl) ?_
      have hcap4 : out.length ≤ c_out := (Rd.cap (St.now (SH.rd hS15 (.tail _ (.tail _ (.head _))))))
      refine WL.lv rfl (LV.cut Try.underlying60 ti34.sz rfl rfl rfl rfl ⟨.inr ⟨.i64, by rw [Int.toNat_of_nonneg (a := k) (by omega)] <;> rfl⟩, .inl ⟨rfl, rfl, rfl⟩, .inl ⟨rfl, rfl⟩⟩ (by omega) (by omega) (by omega)) ?_
      refine WL.xe rfl (XE.append hS15 Try.underlying60 ti34 rfl (St.now ((SH.rd hS15 (.tail _ (.tail _ (.head _)))).imp fun _ h => Rd.cut h (by omega) (by omega) (by omega) (by omega))) rfl rfl (by first | omega | simp only [List.length_append, List.length_cons, List.length_nil, List.length_take, List.length_reverse, List.length_drop] at *; omega) (by first | omega | simp only [List.length_append, List.length_cons, List.length_nil, List.length_take, List.length_reverse, List.length_drop] at *; omega)) ?_
      rintro _ w14 ⟨A10, c10, rfl, hS16, hk12⟩
      refine WL.lv rfl (LV.asg rfl) ?_
      refine WL.nil (blockQ.n <| thenQ.n ?_)
      refine WC.region ?_
      refine WL.lv rfl (LV.mv rfl) ?_
      refine WL.lv rfl (LV.add rfl rfl (wr64 (by omega) (by omega))) ?_
      refine WL.lv rfl (LV.asg rfl) ?_
      refine WL.nil (thenQ.n ?_)
      have hS17 : SH w No w14 [rowE eF 34 (.slice A10 ((((([] : List Nat) ++ ((out.take ((k).toNat)).drop 0)) ++ [l.getD (i).toNat 0]) ++ ((out.take out.length).drop ((k).toNat))).length) c10) (((([] : List Nat) ++ ((out.take ((k).toNat)).drop 0)) ++ [l.getD (i).toNat 0]) ++ ((out.take out.length).drop ((k).toNat)))] := (SH.take 1 rfl hS16)
      exact ⟨_, by omega, A10, c10, (((([] : List Nat) ++ ((out.take ((k).toNat)).drop 0)) ++ [l.getD (i).toNat 0]) ++ ((out.take out.length).drop ((k).toNat))), i + 1, by omega, by omega, (new_perm ilo h11 q1), (new_sort q2 khi s1 (fun h_ => by omega)), (by rw [new_eq]; simp; omega), hS17, rfl, Weak.cons rfl <| Weak.cons rfl <| Weak.cons rfl <| Weak.nil _⟩
  · skip
    refine WC.exit (thenQ.x <| thenQ.x <| blockQ.hit <| thenQ.n ?_)
    refine WC.seq ?_
    refine WC.region ?_
    refine WL.lv rfl (LV.mv rfl) ?_
    refine WL.lv rfl (LV.asg rfl) ?_
    refine WL.nil (thenQ.n ?_)
    refine WC.ret (?_)
    exact ⟨_, fun a ha => res1 rfl ha rfl, _, _, _, rfl, (by rw [List.take_of_length_le (by omega)] at q1; exact q1), q2, hL1⟩

theorem mean_calls {w : World} {A_l : Option Addr} {n_l c_l : Nat} {l : List Nat} (h_l : St No w (Rd eF (.slice A_l n_l c_l) l)) (hn_l : l.length = n_l)  :
    Calls Try.prog 26 #[(.slice A_l n_l c_l)] w fun e w' => ∃ v, e = .returned v ∧ (fun v w' => ∃ (r' : Nat), v = .float .f64 r' ∧ cn r' = MEAN l ∧ r' < 18446744073709551616 ∧ KB No w w') v w' := by
  subst hn_l
  have hma := Rd.max h_l.now
  have hS : SH w No w [] := SH.nil _ _
  refine calls (l := litOf [(.slice A_l l.length c_l)] 0) Try.func26 rfl (n := 21) rfl (Nat.le_of_ble_eq_true rfl) (lit_args _) ?_
  refine WC.seq ?_
  refine WC.region ?_
  refine WL.lv rfl (LV.asg rfl) ?_
  refine WL.nil (thenQ.n ?_)
  refine WC.seq ?_
  refine WC.region ?_
  refine WL.lv rfl (LV.asg rfl) ?_
  refine WL.nil (thenQ.n ?_)
  iterate 2 refine WC.seq ?_
  refine WC.region ?_
  refine WL.lv rfl (LV.mv rfl) ?_
  refine WL.lv rfl (LV.lenL Try.underlying60 rfl) ?_
  refine WL.lv rfl (LV.mv rfl) ?_
  refine WL.nil (thenQ.n ?_)
  refine WC.block ?_
  refine WC.loop (fun m_ f_ w_ => ∃ (sum : Nat) (ix : Int), (0 ≤ ix) ∧ (ix ≤ (l.length : Int)) ∧ (cn sum = fsum (l.take ix.toNat)) ∧ (sum < 18446744073709551616) ∧ SH w No w_ [] ∧ m_ = (((l.length : Int) - ix).toNat) ∧ Weak (lit [(0, (.slice A_l l.length c_l)), (3, (.float .f64 sum)), (6, (.slice A_l l.length c_l)), (7, (.int .i64 (l.length : Int))), (8, (.int .i64 ix))]) f_) _ ⟨0, 0, by omega, by omega, ((show cn 0 = some 0 by decide +kernel)), (by decide), hS, rfl, Weak.cons rfl <| Weak.cons rfl <| Weak.cons rfl <| Weak.cons rfl <| Weak.cons rfl <| Weak.nil _⟩ ?_
  rintro m1 f1 w1 ⟨sum, ix, ixlo, ixhi, q1, q2, hL1, rfl, hw1⟩
  refine WC.weak hw1 ?_
  clear hw1
  refine WC.seq ?_
  refine WC.region ?_
  refine WL.lv rfl (LV.ltI rfl rfl) ?_
  refine WL.nil (thenQ.n ?_)
  refine WC.seq ?_
  refine WC.condP (p := ix < (l.length : Int)) rfl (fun hk => ?_) (fun hk => ?_)
  · skip
    refine WC.skip (thenQ.n ?_)
    refine WC.seq ?_
    refine WC.block ?_
    refine WC.seq ?_
    refine WC.region ?_
    obtain ⟨A1, c1, e1, g1⟩ := St.elt (SH.stN hL1 h_l) 0 ix (by omega) (by omega)
    refine WL.lv rfl (LV.idxA Try.underlying60 ti34.sz rfl e1 rfl (by omega) (by omega)) ?_
    refine WL.lv rfl (LV.load1 (v := (.float .f64 (l.getD (ix).toNat 0))) Try.underlying34 rfl rfl (g1 _ (KB.refl No _) 0 _ rfl)) ?_
    refine WL.lv rfl (LV.asg rfl) ?_
    refine WL.nil (thenQ.n ?_)
    refine WC.region ?_
    iterate 2 refine WL.lv rfl (LV.mv rfl) ?_
    refine WL.xe rfl (XE.arF (a := sum) (b := (l.getD (ix).toNat 0)) hL1 (.inl rfl) rfl rfl) ?_
    rintro _ w2 ⟨r1, rfl, hr1, hb1, hS1, hk1⟩
    have hst_ := fsum_step ixlo hk q1 hr1
    have hbd_ := hb1
    refine WL.lv rfl (LV.asg rfl) ?_
    refine WL.nil (blockQ.n <| thenQ.n ?_)
    refine WC.region ?_
    refine WL.lv rfl (LV.add rfl rfl (wr64 (by omega) (by omega))) ?_
    refine WL.lv rfl (LV.mv rfl) ?_
    refine WL.nil (thenQ.n ?_)
    exact ⟨_, by omega, r1, ix + 1, by omega, by omega, hst_, hbd_, hS1, rfl, Weak.cons rfl <| Weak.cons rfl <| Weak.cons rfl <| Weak.cons rfl <| Weak.cons rfl <| Weak.nil _⟩
  · skip
    refine WC.exit (thenQ.x <| thenQ.x <| blockQ.hit <| thenQ.n ?_)
    refine WC.seq ?_
    refine WC.region ?_
    iterate 2 refine WL.lv rfl (LV.mv rfl) ?_
    refine WL.lv rfl (LV.lenL Try.underlying60 rfl) ?_
    refine WL.lv rfl (LV.cvtIF Try.underlying3 Try.underlying34 rfl) ?_
    refine WL.xe rfl (XE.arF (a := sum) (b := (floatOfInt .f64 (l.length : Int))) hL1 (.inr (.inr (.inr rfl))) rfl rfl) ?_
    rintro _ w3 ⟨r2, rfl, hr2, hb2, hS2, hk2⟩
    refine WL.lv rfl (LV.asg rfl) ?_
    refine WL.nil (thenQ.n ?_)
    refine WC.ret (?_)
    exact ⟨_, fun a ha => res1 rfl ha rfl, r2, congrArg FV (rfl), by rw [hr2, fop_is, q1, List.take_of_length_le (by omega)]; rfl, hb2, hS2.kb⟩

theorem rmean_calls {w : World} {A_l : Option Addr} {n_l c_l : Nat} {l : List Nat} (h_l : St No w (Rd eF (.slice A_l n_l c_l) l)) (hn_l : l.length = n_l)  :
    Calls Try.prog 28 #[(.slice A_l n_l c_l)] w fun e w' => ∃ v, e = .returned v ∧ (fun v w' => ∃ (r' : Nat), v = .float .f64 r' ∧ cn r' = MEAN l ∧ r' < 18446744073709551616 ∧ KB No w w') v w' := by
  subst hn_l
  have hma := Rd.max h_l.now
  have hS : SH w No w [] := SH.nil _ _
  refine calls (l := litOf [(.slice A_l l.length c_l)] 0) Try.func28 rfl (n := 22) rfl (Nat.le_of_ble_eq_true rfl) (lit_args _) ?_
  refine WC.seq ?_
  refine WC.region ?_
  refine WL.lv rfl (LV.asg rfl) ?_
  refine WL.nil (thenQ.n ?_)
  refine WC.seq ?_
  refine WC.region ?_
  refine WL.lv rfl (LV.asg rfl) ?_
  refine WL.nil (thenQ.n ?_)
  iterate 2 refine WC.seq ?_
  refine WC.region ?_
  refine WL.lv rfl (LV.asg rfl) ?_
  refine WL.nil (thenQ.n ?_)
  refine WC.block ?_
  refine WC.loop (fun m_ f_ w_ => ∃ (sum : Nat) (i : Int), (0 ≤ i) ∧ (i ≤ (l.length : Int)) ∧ (cn sum = fsum (l.take i.toNat)) ∧ (sum < 18446744073709551616) ∧ SH w No w_ [] ∧ m_ = (((l.length : Int) - i).toNat) ∧ Weak (lit [(0, (.slice A_l l.length c_l)), (3, (.float .f64 sum)), (4, (.int .i64 i))]) f_) _ ⟨0, 0, by omega, by omega, ((show cn 0 = some 0 by decide +kernel)), (by decide), hS, rfl, Weak.cons rfl <| Weak.cons rfl <| Weak.cons rfl <| Weak.nil _⟩ ?_
  rintro m1 f1 w1 ⟨sum, i, ilo, ihi, q1, q2, hL1, rfl, hw1⟩
  refine WC.weak hw1 ?_
  clear hw1
  iterate 2 refine WC.seq ?_
  refine WC.region ?_
  iterate 2 refine WL.lv rfl (LV.mv rfl) ?_
  refine WL.lv rfl (LV.lenL Try.underlying60 rfl) ?_
  refine WL.lv rfl (LV.ltI rfl rfl) ?_
  refine WL.nil (thenQ.n ?_)
  refine WC.condP (p := i < (l.length : Int)) rfl (fun hk => ?_) (fun hk => ?_)
  · skip
    refine WC.skip (thenQ.n ?_)
    refine WC.seq ?_
    refine WC.block ?_
    refine WC.region ?_
    iterate 3 refine WL.lv rfl (LV.mv rfl) ?_
    obtain ⟨A1, c1, e1, g1⟩ := St.elt (SH.stN hL1 h_l) 0 i (by omega) (by omega)
    refine WL.lv rfl (LV.idxA Try.underlying60 ti34.sz rfl e1 rfl (by omega) (by omega)) ?_
    refine WL.lv rfl (LV.load1 (v := (.float .f64 (l.getD (i).toNat 0))) Try.underlying34 rfl rfl (g1 _ (KB.refl No _) 0 _ rfl)) ?_
    refine WL.xe rfl (XE.arF (a := sum) (b := (l.getD (i).toNat 0)) hL1 (.inl rfl) rfl rfl) ?_
    rintro _ w2 ⟨r1, rfl, hr1, hb1, hS1, hk1⟩
    have hst_ := fsum_step ilo hk q1 hr1
    have hbd_ := hb1
    refine WL.lv rfl (LV.asg rfl) ?_
    refine WL.nil (blockQ.n <| thenQ.n ?_)
    refine WC.region ?_
    refine WL.lv rfl (LV.mv rfl) ?_
    refine WL.lv rfl (LV.add rfl rfl (wr64 (by omega) (by omega))) ?_
    refine WL.lv rfl (LV.asg rfl) ?_
    refine WL.nil (thenQ.n ?_)
    exact ⟨_, by omega, r1, i + 1, by omega, by omega, hst_, hbd_, hS1, rfl, Weak.cons rfl <| Weak.cons rfl <| Weak.cons rfl <| Weak.nil _⟩
  · skip
    refine WC.exit (thenQ.x <| thenQ.x <| blockQ.hit <| thenQ.n ?_)
    refine WC.seq ?_
    refine WC.region ?_
    iterate 2 refine WL.lv rfl (LV.mv rfl) ?_
    refine WL.lv rfl (LV.lenL Try.underlying60 rfl) ?_
    refine WL.lv rfl (LV.cvtIF Try.underlying3 Try.underlying34 rfl) ?_
    refine WL.xe rfl (XE.arF (a := sum) (b := (floatOfInt .f64 (l.length : Int))) hL1 (.inr (.inr (.inr rfl))) rfl rfl) ?_
    rintro _ w3 ⟨r2, rfl, hr2, hb2, hS2, hk2⟩
    refine WL.lv rfl (LV.asg rfl) ?_
    refine WL.nil (thenQ.n ?_)
    refine WC.ret (?_)
    exact ⟨_, fun a ha => res1 rfl ha rfl, r2, congrArg FV (rfl), by rw [hr2, fop_is, q1, List.take_of_length_le (by omega)]; rfl, hb2, hS2.kb⟩

theorem rmedian_calls {w : World} {A_l : Option Addr} {n_l c_l : Nat} {l : List Nat} (h_l : St No w (Rd eF (.slice A_l n_l c_l) l)) (hn_l : l.length = n_l) (hp : ∀ x ∈ l, W6 x) (hl : l.length ≤ 60) :
    Calls Try.prog 29 #[(.slice A_l n_l c_l)] w fun e w' => ∃ v, e = .returned v ∧ (fun v w' => ∃ (r' : Nat), v = .float .f64 r' ∧ MEDN l r' ∧ r' < 18446744073709551616 ∧ KB No w w') v w' := by
  subst hn_l
  have hma := Rd.max h_l.now
  have hS : SH w No w [] := SH.nil _ _
  refine calls (l := litOf [(.slice A_l l.length c_l)] 0) Try.func29 rfl (n := 58) rfl (Nat.le_of_ble_eq_true rfl) (lit_args _) ?_
  refine WC.seq ?_
  refine WC.region ?_
  refine WL.lv rfl (LV.asg rfl) ?_
  refine WL.nil (thenQ.n ?_)
  iterate 2 refine WC.seq ?_
  refine WC.region ?_
  refine WL.lv rfl (LV.asg rfl) ?_
  refine WL.nil (thenQ.n ?_)
  refine WC.block ?_
  refine WC.loop (fun m_ f_ w_ => ∃ (i : Int), (0 ≤ i) ∧ (i ≤ (l.length : Int)) ∧ (∀ t : Int, 0 ≤ t → t < i → -9218868437227405312 ≤ sk (l.getD t.toNat 0) ∧ sk (l.getD t.toNat 0) ≤ 9218868437227405312) ∧ SH w No w_ [] ∧ m_ = (((l.length : Int) - i).toNat) ∧ Weak (lit [(0, (.slice A_l l.length c_l)), (3, (.int .i64 i))]) f_) _ ⟨0, by omega, by omega, (fun t h1_ h2_ => by omega), hS, rfl, Weak.cons rfl <| Weak.cons rfl <| Weak.nil _⟩ ?_
  rintro m1 f1 w1 ⟨i, ilo, ihi, q1, hL1, rfl, hw1⟩
  refine WC.weak hw1 ?_
  clear hw1
  iterate 2 refine WC.seq ?_
  refine WC.region ?_
  iterate 2 refine WL.lv rfl (LV.mv rfl) ?_
  refine WL.lv rfl (LV.lenL Try.underlying60 rfl) ?_
  refine WL.lv rfl (LV.ltI rfl rfl) ?_
  refine WL.nil (thenQ.n ?_)
  refine WC.condP (p := i < (l.length : Int)) rfl (fun hc1 => ?_) (fun hc1 => ?_)
  · skip
    refine WC.skip (thenQ.n ?_)
    refine WC.seq ?_
    refine WC.block ?_
    refine WC.seq ?_
    have hS1 := SH.drew hL1
    refine WC.regionD [] (fun w_ => KB No w1.drew w_) [(.pure, 0), (.pure, 1), (.pure, 2), (.look, 3), (.pure, 4), (.pure, 5), (.pure, 6), (.look, 7), (.pure, 8)] (by kernel_rfl) (by kernel_rfl) (KB.refl _ _) ?_
    iterate 2 refine WS.pure rfl rfl (fun _ => LV.mv rfl) ?_
    obtain ⟨A1, c1, e1, g1⟩ := St.elt (SH.stN hS1 h_l) 0 i (by omega) (by omega)
    refine WS.pure rfl rfl (fun _ => LV.idxA Try.underlying60 ti34.sz rfl e1 rfl (by omega) (by omega)) ?_
    refine WS.look rfl rfl (fun _ hk_ => LV.load1 (v := (.float .f64 (l.getD (i).toNat 0))) Try.underlying34 rfl rfl (g1 _ hk_ 0 _ rfl)) ?_
    iterate 2 refine WS.pure rfl rfl (fun _ => LV.mv rfl) ?_
    obtain ⟨A2, c2, e2, g2⟩ := St.elt (SH.stN hS1 h_l) 0 i (by omega) (by omega)
    refine WS.pure rfl rfl (fun _ => LV.idxA Try.underlying60 ti34.sz rfl e2 rfl (by omega) (by omega)) ?_
    refine WS.look rfl rfl (fun _ hk_ => LV.load1 (v := (.float .f64 (l.getD (i).toNat 0))) Try.underlying34 rfl rfl (g2 _ hk_ 0 _ rfl)) ?_
    refine WS.pure rfl rfl (fun _ => LV.neF (a := (l.getD (i).toNat 0)) (b := (l.getD (i).toNat 0)) rfl rfl) ?_
    refine WS.nil (thenQ.n ?_)
    refine WC.condP (p := ¬ (((-9218868437227405312 ≤ sk (l.getD (i).toNat 0) ∧ sk (l.getD (i).toNat 0) ≤ 9218868437227405312) ∧ (-9218868437227405312 ≤ sk (l.getD (i).toNat 0) ∧ sk (l.getD (i).toNat 0) ≤ 9218868437227405312)) ∧ sk (l.getD (i).toNat 0) = sk (l.getD (i).toNat 0))) rfl (fun hk => ?_) (fun hk => ?_)
    · skip
      refine WC.seq ?_
      refine WC.region ?_
      refine WL.call rfl (XC.fn Try.func24 (by kernel_rfl) rfl rfl rfl) (none_calls  ) ?_
      rintro v_ w2 ⟨r1, rfl, hf1, hf2, hk1⟩
      have hS2 := SH.same hS1 hk1
      refine WL.lv rfl (LV.asg rfl) ?_
      refine WL.nil (thenQ.n ?_)
      refine WC.ret (blockQ.r <| thenQ.r <| thenQ.r <| blockQ.r <| thenQ.r <| ?_)
      exact ⟨_, fun a ha => res1 rfl ha rfl, r1, congrArg FV (rfl), .inl ⟨by first | exact .inl (by omega) | exact .inr (by assumption) | exact .inr (any_yes ilo (by omega) (by omega)), hf1⟩, hf2, hS2.kb⟩
    · skip
      refine WC.skip (blockQ.n <| thenQ.n ?_)
      refine WC.region ?_
      refine WL.lv rfl (LV.mv rfl) ?_
      refine WL.lv rfl (LV.add rfl rfl (wr64 (by omega) (by omega))) ?_
      refine WL.lv rfl (LV.asg rfl) ?_
      refine WL.nil (thenQ.n ?_)
      exact ⟨_, by omega, i + 1, by omega, by omega, (all_step (p := fun t => -9218868437227405312 ≤ sk (l.getD t.toNat 0) ∧ sk (l.getD t.toNat 0) ≤ 9218868437227405312) q1 (by omega)), hS1, rfl, Weak.cons rfl <| Weak.cons rfl <| Weak.nil _⟩
  · skip
    refine WC.exit (thenQ.x <| thenQ.x <| blockQ.hit <| thenQ.n ?_)
    iterate 2 refine WC.seq ?_
    refine WC.region ?_
    refine WL.lv rfl (LV.mv rfl) ?_
    refine WL.lv rfl (LV.lenL Try.underlying60 rfl) ?_
    refine WL.lv rfl (LV.eqI rfl rfl) ?_
    refine WL.nil (thenQ.n ?_)
    refine WC.condP (p := (l.length : Int) = 0) rfl (fun hc2 => ?_) (fun hc2 => ?_)
    · skip
      refine WC.seq ?_
      refine WC.region ?_
      refine WL.call rfl (XC.fn Try.func24 (by kernel_rfl) rfl rfl rfl) (none_calls  ) ?_
      rintro v_ w3 ⟨r2, rfl, hf3, hf4, hk2⟩
      have hS3 := SH.same hL1 hk2
      refine WL.lv rfl (LV.asg rfl) ?_
      refine WL.nil (thenQ.n ?_)
      refine WC.ret (thenQ.r <| ?_)
      exact ⟨_, fun a ha => res1 rfl ha rfl, r2, congrArg FV (rfl), .inl ⟨by first | exact .inl (by omega) | exact .inr (by assumption) | exact .inr (any_yes ilo (by omega) (by omega)), hf3⟩, hf4, hS3.kb⟩
    · skip
      refine WC.skip (thenQ.n ?_)
      refine WC.seq ?_
      refine WC.region ?_
      refine WL.lv rfl (LV.mv rfl) ?_
      refine WL.call rfl (XC.fn Try.func41 (by kernel_rfl) rfl rfl rfl) (rsort22_calls (l := l) (SH.stN hL1 h_l) (hp) (by first | omega | (show (3 : Nat) ≤ 100; decide))) ?_
      rintro v_ w4 ⟨A3, c3, ys1, rfl, hpm1, hpw1, hS4⟩
      have hS5 := SH.joinN hL1 hS4
      have hln_ := hpm1.length_eq
      refine WL.lv rfl (LV.asg rfl) ?_
      refine WL.nil (thenQ.n ?_)
      iterate 2 refine WC.seq ?_
      refine WC.region ?_
      refine WL.lv rfl (LV.mv rfl) ?_
      refine WL.lv rfl (LV.lenL Try.underlying60 rfl) ?_
      refine WL.lv rfl (LV.rem rfl rfl (by decide) (rem64 (by omega) rfl)) ?_
      refine WL.lv rfl (LV.eqI rfl rfl) ?_
      refine WL.nil (thenQ.n ?_)
      refine WC.condP (p := ((ys1.length : Int) % 2) = 1) rfl (fun hc3 => ?_) (fun hc3 => ?_)
      · skip
        refine WC.seq ?_
        refine WC.region ?_
        iterate 2 refine WL.lv rfl (LV.mv rfl) ?_
        refine WL.lv rfl (LV.lenL Try.underlying60 rfl) ?_
        refine WL.lv rfl (LV.sub rfl rfl (wr64 (by omega) (by omega))) ?_
        refine WL.lv rfl (LV.quo rfl rfl (by decide) (quo64 (by omega) (by omega) (by decide) rfl)) ?_
        obtain ⟨A4, c4, e3, g3⟩ := St.elt (SH.rd hS5 (.head _)) 0 (((ys1.length : Int) - 1) / 2) (by omega) (by omega)
        refine WL.lv rfl (LV.idxA Try.underlying60 ti34.sz rfl e3 rfl (by omega) (by omega)) ?_
        refine WL.lv rfl (LV.load1 (v := (.float .f64 (ys1.getD (((ys1.length : Int) - 1) / 2).toNat 0))) Try.underlying34 rfl rfl (g3 _ (KB.refl No _) 0 _ rfl)) ?_
        refine WL.lv rfl (LV.asg rfl) ?_
        refine WL.nil (thenQ.n ?_)
        refine WC.ret (thenQ.r <| ?_)
        exact ⟨_, fun a ha => res1 rfl ha rfl, ys1.getD (((ys1.length : Int) - 1) / 2).toNat 0, congrArg FV (rfl), .inr ⟨⟨by omega, any_no (fun t h0_ h1_ => q1 t h0_ (by omega))⟩, ys1, hpm1, hpw1, .inl ⟨by omega, congrArg (fun i_ => List.getD ys1 i_ 0) (by omega)⟩⟩, hp _ (hpm1.mem_iff.1 (getD_mem (by omega))), hS5.kb⟩
      · skip
        refine WC.skip (thenQ.n ?_)
        refine WC.seq ?_
        refine WC.region ?_
        iterate 2 refine WL.lv rfl (LV.mv rfl) ?_
        refine WL.lv rfl (LV.lenL Try.underlying60 rfl) ?_
        refine WL.lv rfl (LV.quo rfl rfl (by decide) (quo64 (by omega) (by omega) (by decide) rfl)) ?_
        refine WL.lv rfl (LV.sub rfl rfl (wr64 (by omega) (by omega))) ?_
        obtain ⟨A5, c5, e4, g4⟩ := St.elt (SH.rd hS5 (.head _)) 0 (((ys1.length : Int) / 2) - 1) (by omega) (by omega)
        refine WL.lv rfl (LV.idxA Try.underlying60 ti34.sz rfl e4 rfl (by omega) (by omega)) ?_
        refine WL.lv rfl (LV.load1 (v := (.float .f64 (ys1.getD (((ys1.length : Int) / 2) - 1).toNat 0))) Try.underlying34 rfl rfl (g4 _ (KB.refl No _) 0 _ rfl)) ?_
        refine WL.xe rfl (XE.arF (a := (ys1.getD (((ys1.length : Int) / 2) - 1).toNat 0)) (b := 4611686018427387904) hS5 (.inr (.inr (.inr rfl))) rfl rfl) ?_
        rintro _ w5 ⟨r3, rfl, hr1, hb1, hS6, hk3⟩
        have hq1_ := hr1
        refine WL.lv rfl (LV.asg rfl) ?_
        refine WL.nil (thenQ.n ?_)
        refine WC.seq ?_
        refine WC.region ?_
        iterate 2 refine WL.lv rfl (LV.mv rfl) ?_
        refine WL.lv rfl (LV.lenL Try.underlying60 rfl) ?_
        refine WL.lv rfl (LV.quo rfl rfl (by decide) (quo64 (by omega) (by omega) (by decide) rfl)) ?_
        obtain ⟨A6, c6, e5, g5⟩ := St.elt (SH.rd hS6 (.head _)) 0 ((ys1.length : Int) / 2) (by omega) (by omega)
        refine WL.lv rfl (LV.idxA Try.underlying60 ti34.sz rfl e5 rfl (by omega) (by omega)) ?_
        refine WL.lv rfl (LV.load1 (v := (.float .f64 (ys1.getD ((ys1.length : Int) / 2).toNat 0))) Try.underlying34 rfl rfl (g5 _ (KB.refl No _) 0 _ rfl)) ?_
        refine WL.xe rfl (XE.arF (a := (ys1.getD ((ys1.length : Int) / 2).toNat 0)) (b := 4611686018427387904) hS6 (.inr (.inr (.inr rfl))) rfl rfl) ?_
        rintro _ w6 ⟨r4, rfl, hr2, hb2, hS7, hk4⟩
        have hq2_ := hr2
        refine WL.lv rfl (LV.asg rfl) ?_
        refine WL.nil (thenQ.n ?_)
        refine WC.seq ?_
        refine WC.region ?_
        iterate 2 refine WL.lv rfl (LV.mv rfl) ?_
        refine WL.xe rfl (XE.arF (a := r3) (b := r4) hS7 (.inl rfl) rfl rfl) ?_
        rintro _ w7 ⟨r5, rfl, hr3, hb3, hS8, hk5⟩
        refine WL.lv rfl (LV.asg rfl) ?_
        refine WL.nil (thenQ.n ?_)
        refine WC.ret (?_)
        exact ⟨_, fun a ha => res1 rfl ha rfl, r5, congrArg FV (rfl), .inr ⟨⟨by omega, any_no (fun t h0_ h1_ => q1 t h0_ (by omega))⟩, ys1, hpm1, hpw1, .inr ⟨by omega, _, _, by rw [show (l.length : Int) / 2 - 1 = (ys1.length : Int) / 2 - 1 by omega]; exact hq1_, by rw [show (l.length : Int) / 2 = (ys1.length : Int) / 2 by omega]; exact hq2_, hr3⟩⟩, hb3, hS8.kb⟩

end Go.Proofs.Ytomeffnlmefnlaa
