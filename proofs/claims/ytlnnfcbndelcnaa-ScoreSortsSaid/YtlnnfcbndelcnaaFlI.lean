/- What the numbers' laws begin with. -/
import Derived.Test.YtlnnfcbndelcnaaFlG
import Derived.Test.YtlnnfcbndelcnaaFlW
namespace Go.Proofs.Ytlnnfcbndelcnaa
open Go Go.Gv Go.RowKit Go.Flt Go.Shelf Go.Lib Go.Sort
set_option linter.unusedVariables false
set_option linter.unusedSimpArgs false

theorem clone_calls {w : World} {A_s : Option Addr} {n_s c_s : Nat} {s : List Nat} (h_s : St No w (Rd eF (.slice A_s n_s c_s) s)) (hn_s : s.length = n_s) (hl : s.length ≤ 1000000) :
    Calls Try.prog 39 #[(.slice A_s n_s c_s)] w fun e w' => ∃ v, e = .returned v ∧ (fun v w' => ∃ (A0' : Option Addr) (c0' : Nat), v = .slice A0' (s).length c0' ∧ SH w No w' [rowE eF 22 (.slice A0' (s).length c0') s]) v w' := by
  subst hn_s
  have hS : SH w No w [] := SH.nil _ _
  refine calls (l := litOf [(.slice A_s s.length c_s)] 0) Try.func39 rfl (n := 8) rfl (Nat.le_of_ble_eq_true rfl) (lit_args _) ?_
  refine WC.seq ?_
  refine WC.region ?_
  refine WL.lv rfl (LV.asg rfl) ?_
  refine WL.nil (thenQ.n ?_)
  iterate 2 refine WC.seq ?_
  refine WC.region ?_
  refine WL.lv rfl (LV.mv rfl) ?_
  refine WL.lv rfl (LV.eqNil Try.underlying29 rfl rfl) ?_
  refine WL.nil (thenQ.n ?_)
  refine WC.cond (b := (A_s).isNone) rfl (fun hc1 => ?_) (fun hc1 => ?_)
  · skip
    refine WC.seq ?_
    refine WC.region ?_
    refine WL.lv rfl (LV.asg rfl) ?_
    refine WL.nil (thenQ.n ?_)
    refine WC.ret (thenQ.r <| ?_)
    have hS1 := SH.nilRow (E := eF) (T := 22) hS
    have hres1 : ([] : List Nat) = s := (Rd.isNone h_s.now hc1).symm
    exact ⟨_, fun a ha => res1 rfl ha rfl, (by rw [← hres1]; exact ⟨_, _, rfl, hS1⟩)⟩
  · skip
    refine WC.skip (thenQ.n ?_)
    refine WC.seq ?_
    refine WC.region ?_
    refine WL.xe rfl (XE.buildSlice (E := eF) [] #[] [] hS Try.underlying29 ti22 rfl (by decide) (by kernel_rfl) (.inr rfl) rfl rfl (by decide)) ?_
    rintro _ w1 ⟨b1, rfl, hS2, hk1⟩
    refine WL.lv rfl (LV.mv rfl) ?_
    refine WL.xe rfl (XE.append hS2 Try.underlying29 ti22 rfl (St.now (SH.stN hS2 h_s)) rfl rfl (by first | omega | simp only [List.length_append, List.length_cons, List.length_nil, List.length_take, List.length_reverse, List.length_drop] at *; omega) (by first | omega | simp only [List.length_append, List.length_cons, List.length_nil, List.length_take, List.length_reverse, List.length_drop] at *; omega)) ?_
    rintro _ w2 ⟨A1, c1, rfl, hS3, hk2⟩
    refine WL.lv rfl (LV.asg rfl) ?_
    refine WL.nil (thenQ.n ?_)
    refine WC.ret (?_)
    have hres2 : ((([] : List Nat) ++ s) : List Nat) = s := List.nil_append _
    exact ⟨_, fun a ha => res1 rfl ha rfl, (by rw [← hres2]; exact ⟨_, _, rfl, hS3⟩)⟩

theorem sort22_calls {w : World} {A_l : Option Addr} {c_l : Nat} {l : List Nat} (h_l : St No w (Rd eF (.slice A_l l.length c_l) l)) (hp : ∀ x ∈ l, W6 x) (hl : l.length ≤ 60) :
    Calls Try.prog 17 #[(.slice A_l l.length c_l)] w fun e w' => ∃ v, e = .returned v ∧ (fun v w' => ∃ A' c' ys, v = .slice A' l.length c' ∧ ys.Perm l ∧ (ys.Pairwise fun a b => ¬ ORD b a < 0) ∧ SH w No w' [rowE eF 22 (.slice A' l.length c') ys]) v w' := by
  have hS : SH w No w [] := SH.nil _ _
  refine calls (l := litOf [(.slice A_l l.length c_l)] 0) Try.func17 rfl (n := 9) rfl (Nat.le_of_ble_eq_true rfl) (lit_args _) ?_
  refine WC.seq ?_
  refine WC.region ?_
  refine WL.lv rfl (LV.asg rfl) ?_
  refine WL.nil (thenQ.n ?_)
  refine WC.seq ?_
  refine WC.region ?_
  refine WL.lv rfl (LV.mv rfl) ?_
  refine WL.call rfl (XC.fn Try.func39 (by kernel_rfl) rfl rfl rfl) (clone_calls  (SH.stN hS h_l) rfl (by omega)) ?_
  rintro v_ w1 ⟨A1, c1, rfl, hS1⟩
  have hS2 := SH.joinN hS hS1
  refine WL.lv rfl (LV.asg rfl) ?_
  refine WL.nil (thenQ.n ?_)
  refine WC.seq ?_
  refine WC.region ?_
  refine WL.lv rfl (LV.mv rfl) ?_
  have hT1 := SH.sub (Es := [rowE eF 22 (.slice A1 l.length c1) l]) hS2
  refine WL.call rfl (XC.fn Try.func40 (by kernel_rfl) rfl rfl rfl) (sortst_calls hT1 hp (by omega)) ?_
  rintro v_ w2 ⟨ys1, rfl, hpm1, hpw1, hU1⟩
  have hS3 := SH.back (Es := [rowE eF 22 (.slice A1 l.length c1) l]) hS2 hU1
  refine WL.nil (thenQ.n ?_)
  refine WC.seq ?_
  refine WC.region ?_
  refine WL.lv rfl (LV.mv rfl) ?_
  refine WL.lv rfl (LV.asg rfl) ?_
  refine WL.nil (thenQ.n ?_)
  refine WC.ret (?_)
  exact ⟨_, fun a ha => res1 rfl ha rfl, _, _, _, rfl, hpm1, hpw1, hS3⟩

theorem indexf_calls {w : World} {A_s : Option Addr} {n_s c_s : Nat} {s : List Nat} (h_s : St No w (Rd eF (.slice A_s n_s c_s) s)) (hn_s : s.length = n_s)  :
    Calls Try.prog 44 #[(.slice A_s n_s c_s), (.func (.func 34) #[] #[])] w fun e w' => ∃ v, e = .returned v ∧ (fun v w' => ∃ (i' : Int), v = .int .i64 i' ∧ ((i' = -1 ∧ anyN s = false) ∨ (0 ≤ i' ∧ anyN s = true)) ∧ KB No w w') v w' := by
  subst hn_s
  have hma := Rd.max h_s.now
  have hS : SH w No w [] := SH.nil _ _
  refine calls (l := litOf [(.slice A_s s.length c_s), (.func (.func 34) #[] #[])] 0) Try.func44 rfl (n := 19) rfl (Nat.le_of_ble_eq_true rfl) (lit_args _) ?_
  refine WC.seq ?_
  refine WC.region ?_
  refine WL.lv rfl (LV.asg rfl) ?_
  refine WL.nil (thenQ.n ?_)
  iterate 2 refine WC.seq ?_
  refine WC.region ?_
  refine WL.lv rfl (LV.mv rfl) ?_
  refine WL.lv rfl (LV.lenL Try.underlying29 rfl) ?_
  refine WL.lv rfl (LV.mv rfl) ?_
  refine WL.nil (thenQ.n ?_)
  refine WC.block ?_
  refine WC.loop (fun m_ f_ w_ => ∃ (ix : Int), (0 ≤ ix) ∧ (ix ≤ (s.length : Int)) ∧ (∀ t : Int, 0 ≤ t → t < ix → -9218868437227405312 ≤ sk (s.getD t.toNat 0) ∧ sk (s.getD t.toNat 0) ≤ 9218868437227405312) ∧ SH w No w_ [] ∧ m_ = (((s.length : Int) - ix).toNat) ∧ Weak (lit [(0, (.slice A_s s.length c_s)), (1, (.func (.func 34) #[] #[])), (7, (.int .i64 (s.length : Int))), (8, (.int .i64 ix))]) f_) _ ⟨0, by omega, by omega, (fun t h1_ h2_ => by omega), hS, rfl, Weak.cons rfl <| Weak.cons rfl <| Weak.cons rfl <| Weak.cons rfl <| Weak.nil _⟩ ?_
  rintro m1 f1 w1 ⟨ix, ixlo, ixhi, q1, hL1, rfl, hw1⟩
  refine WC.weak hw1 ?_
  clear hw1
  refine WC.seq ?_
  refine WC.region ?_
  refine WL.lv rfl (LV.ltI rfl rfl) ?_
  refine WL.nil (thenQ.n ?_)
  refine WC.seq ?_
  refine WC.condP (p := ix < (s.length : Int)) rfl (fun h9 => ?_) (fun h9 => ?_)
  · skip
    refine WC.skip (thenQ.n ?_)
    refine WC.seq ?_
    refine WC.block ?_
    refine WC.seq ?_
    refine WC.region ?_
    refine WL.lv rfl (LV.mv rfl) ?_
    refine WL.lv rfl (LV.asg rfl) ?_
    refine WL.nil (thenQ.n ?_)
    refine WC.seq ?_
    refine WC.region ?_
    iterate 3 refine WL.lv rfl (LV.mv rfl) ?_
    obtain ⟨A1, c1, e1, g1⟩ := St.elt (SH.stN hL1 h_s) 0 ix (by omega) (by omega)
    refine WL.lv rfl (LV.idxA Try.underlying29 ti22.sz rfl e1 rfl (by omega) (by omega)) ?_
    refine WL.lv rfl (LV.load1 (v := (.float .f64 (s.getD (ix).toNat 0))) Try.underlying22 rfl rfl (g1 _ (KB.refl No _) 0 _ rfl)) ?_
    refine WL.call rfl (XC.fn Try.func34 (by kernel_rfl) rfl rfl rfl) (isNaN_calls (x := (s.getD (ix).toNat 0)) ) ?_
    rintro v_ w2 ⟨rfl, hk1⟩
    have hS1 := SH.same hL1 hk1
    refine WL.nil (thenQ.n ?_)
    refine WC.condP (p := ¬ (-9218868437227405312 ≤ sk (s.getD (ix).toNat 0) ∧ sk (s.getD (ix).toNat 0) ≤ 9218868437227405312)) rfl (fun hc1 => ?_) (fun hc1 => ?_)
    · skip
      refine WC.seq ?_
      refine WC.region ?_
      refine WL.lv rfl (LV.mv rfl) ?_
      refine WL.lv rfl (LV.asg rfl) ?_
      refine WL.nil (thenQ.n ?_)
      refine WC.ret (blockQ.r <| thenQ.r <| thenQ.r <| blockQ.r <| thenQ.r <| ?_)
      exact ⟨_, fun a ha => res1 rfl ha rfl, ix, congrArg (Value.int .i64) (by omega), .inr ⟨ixlo, any_yes ixlo h9 (by omega)⟩, hS1.kb⟩
    · skip
      refine WC.skip (blockQ.n <| thenQ.n ?_)
      refine WC.region ?_
      refine WL.lv rfl (LV.add rfl rfl (wr64 (by omega) (by omega))) ?_
      refine WL.lv rfl (LV.mv rfl) ?_
      refine WL.nil (thenQ.n ?_)
      exact ⟨_, by omega, ix + 1, by omega, by omega, (all_step (p := fun t => -9218868437227405312 ≤ sk (s.getD t.toNat 0) ∧ sk (s.getD t.toNat 0) ≤ 9218868437227405312) q1 (by omega)), hS1, rfl, Weak.cons rfl <| Weak.cons rfl <| Weak.cons rfl <| Weak.cons rfl <| Weak.nil _⟩
  · skip
    refine WC.exit (thenQ.x <| thenQ.x <| blockQ.hit <| thenQ.n ?_)
    refine WC.seq ?_
    refine WC.region ?_
    refine WL.lv rfl (LV.asg rfl) ?_
    refine WL.nil (thenQ.n ?_)
    refine WC.ret (?_)
    exact ⟨_, fun a ha => res1 rfl ha rfl, (-1), congrArg (Value.int .i64) (by omega), .inl ⟨rfl, any_no (fun t h0_ h1_ => q1 t h0_ (by omega))⟩, hL1.kb⟩

theorem containsf_calls {w : World} {A_s : Option Addr} {n_s c_s : Nat} {s : List Nat} (h_s : St No w (Rd eF (.slice A_s n_s c_s) s)) (hn_s : s.length = n_s)  :
    Calls Try.prog 41 #[(.slice A_s n_s c_s), (.func (.func 34) #[] #[])] w fun e w' => ∃ v, e = .returned v ∧ (fun v w' => v = .bool (anyN s) ∧ KB No w w') v w' := by
  subst hn_s
  have hS : SH w No w [] := SH.nil _ _
  refine calls (l := litOf [(.slice A_s s.length c_s), (.func (.func 34) #[] #[])] 0) Try.func41 rfl (n := 9) rfl (Nat.le_of_ble_eq_true rfl) (lit_args _) ?_
  refine WC.seq ?_
  refine WC.region ?_
  refine WL.lv rfl (LV.asg rfl) ?_
  refine WL.nil (thenQ.n ?_)
  refine WC.seq ?_
  refine WC.region ?_
  iterate 2 refine WL.lv rfl (LV.mv rfl) ?_
  refine WL.call rfl (XC.fn Try.func44 (by kernel_rfl) rfl rfl rfl) (indexf_calls  (SH.stN hS h_s) rfl ) ?_
  rintro v_ w1 ⟨i1, rfl, hf1, hk1⟩
  have hS1 := SH.same hS hk1
  have hx_ := hf1
  refine WL.lv rfl (LV.geI rfl rfl) ?_
  refine WL.lv rfl (LV.asg rfl) ?_
  refine WL.nil (thenQ.n ?_)
  refine WC.ret (?_)
  exact ⟨_, fun a ha => res1 rfl ha rfl, congrArg Value.bool (by rcases hx_ with ⟨h1_, h2_⟩ | ⟨h1_, h2_⟩ <;> rw [h2_] <;> simp <;> omega), hS1.kb⟩

theorem median_calls {w : World} {A_l : Option Addr} {n_l c_l : Nat} {l : List Nat} (h_l : St No w (Rd eF (.slice A_l n_l c_l) l)) (hn_l : l.length = n_l) (hp : ∀ x ∈ l, W6 x) (hl : l.length ≤ 60) :
    Calls Try.prog 30 #[(.slice A_l n_l c_l)] w fun e w' => ∃ v, e = .returned v ∧ (fun v w' => ∃ (r' : Nat), v = .float .f64 r' ∧ MEDN l r' ∧ r' < 18446744073709551616 ∧ KB No w w') v w' := by
  subst hn_l
  have hS : SH w No w [] := SH.nil _ _
  refine calls (l := litOf [(.slice A_l l.length c_l)] 0) Try.func30 rfl (n := 42) rfl (Nat.le_of_ble_eq_true rfl) (lit_args _) ?_
  refine WC.seq ?_
  refine WC.region ?_
  refine WL.lv rfl (LV.asg rfl) ?_
  refine WL.nil (thenQ.n ?_)
  refine WC.seq ?_
  refine WC.region ?_
  refine WL.lv rfl (LV.mv rfl) ?_
  refine WL.lv rfl (LV.lenL Try.underlying29 rfl) ?_
  refine WL.lv rfl (LV.asg rfl) ?_
  refine WL.nil (thenQ.n ?_)
  iterate 2 refine WC.seq ?_
  refine WC.region ?_
  refine WL.lv rfl (LV.mv rfl) ?_
  rcases Decidable.em ((l.length : Int) = 0) with hg1 | hg1
  · refine WL.lv rfl (LV.as (LV.eqI rfl rfl) (decide_eq_true hg1)) ?_
    refine WL.lv rfl (LV.mv rfl) ?_
    iterate 2 refine WL.off rfl ?_
    refine WL.lv rfl (LV.pickT rfl rfl) ?_
    refine WL.nil (thenQ.n ?_)
    refine WC.condT rfl ?_
    refine WC.seq ?_
    refine WC.region ?_
    refine WL.call rfl (XC.fn Try.func32 (by kernel_rfl) rfl rfl rfl) (nan_calls  ) ?_
    rintro v_ w1 ⟨r1, rfl, hf1, hf2, hk1⟩
    have hS1 := SH.same hS hk1
    refine WL.lv rfl (LV.asg rfl) ?_
    refine WL.nil (thenQ.n ?_)
    refine WC.ret (thenQ.r <| ?_)
    exact ⟨_, fun a ha => res1 rfl ha rfl, r1, congrArg FV (rfl), .inl ⟨by first | exact .inl (by omega) | exact .inr (by assumption) | exact .inr (any_yes ilo (by omega) (by omega)), hf1⟩, hf2, hS1.kb⟩
  · refine WL.lv rfl (LV.as (LV.eqI rfl rfl) (decide_eq_false hg1)) ?_
    iterate 2 refine WL.lv rfl (LV.mv rfl) ?_
    refine WL.call rfl (XC.fn Try.func41 (by kernel_rfl) rfl rfl rfl) (containsf_calls  (SH.stN hS h_l) rfl ) ?_
    rintro v_ w2 ⟨rfl, hk2⟩
    have hS2 := SH.same hS hk2
    refine WL.lv rfl (LV.pickF rfl rfl) ?_
    refine WL.nil (thenQ.n ?_)
    refine WC.cond (b := anyN l) rfl (fun hc1 => ?_) (fun hc1 => ?_)
    · skip
      refine WC.seq ?_
      refine WC.region ?_
      refine WL.call rfl (XC.fn Try.func32 (by kernel_rfl) rfl rfl rfl) (nan_calls  ) ?_
      rintro v_ w3 ⟨r2, rfl, hf3, hf4, hk3⟩
      have hS3 := SH.same hS2 hk3
      refine WL.lv rfl (LV.asg rfl) ?_
      refine WL.nil (thenQ.n ?_)
      refine WC.ret (thenQ.r <| ?_)
      exact ⟨_, fun a ha => res1 rfl ha rfl, r2, congrArg FV (rfl), .inl ⟨by first | exact .inl (by omega) | exact .inr (by assumption) | exact .inr (any_yes ilo (by omega) (by omega)), hf3⟩, hf4, hS3.kb⟩
    · skip
      refine WC.skip (thenQ.n ?_)
      refine WC.seq ?_
      refine WC.region ?_
      refine WL.lv rfl (LV.mv rfl) ?_
      refine WL.call rfl (XC.fn Try.func17 (by kernel_rfl) rfl rfl rfl) (sort22_calls (l := l) (SH.stN hS2 h_l) (hp) (by first | omega | (simp only [List.length_append, List.length_nil, List.length_take, List.length_drop]; omega))) ?_
      rintro v_ w4 ⟨A1, c1, ys1, rfl, hpm1, hpw1, hS4⟩
      have hS5 := SH.joinN hS2 hS4
      have hln_ := hpm1.length_eq
      refine WL.lv rfl (LV.asg rfl) ?_
      refine WL.nil (thenQ.n ?_)
      iterate 2 refine WC.seq ?_
      refine WC.region ?_
      refine WL.lv rfl (LV.mv rfl) ?_
      refine WL.lv rfl (LV.rem rfl rfl (by decide) (rem64 (by omega) rfl)) ?_
      refine WL.lv rfl (LV.eqI rfl rfl) ?_
      refine WL.nil (thenQ.n ?_)
      refine WC.condP (p := ((l.length : Int) % 2) = 1) rfl (fun hc2 => ?_) (fun hc2 => ?_)
      · skip
        refine WC.seq ?_
        refine WC.region ?_
        iterate 2 refine WL.lv rfl (LV.mv rfl) ?_
        refine WL.lv rfl (LV.quo rfl rfl (by decide) (quo64 (by omega) (by omega) (by decide) rfl)) ?_
        obtain ⟨A2, c2, e1, g1⟩ := St.elt (SH.rd hS5 (.head _)) 0 ((l.length : Int) / 2) (by omega) (by omega)
        refine WL.lv rfl (LV.idxA Try.underlying29 ti22.sz rfl e1 rfl (by omega) (by omega)) ?_
        refine WL.lv rfl (LV.load1 (v := (.float .f64 (ys1.getD ((l.length : Int) / 2).toNat 0))) Try.underlying22 rfl rfl (g1 _ (KB.refl No _) 0 _ rfl)) ?_
        refine WL.lv rfl (LV.asg rfl) ?_
        refine WL.nil (thenQ.n ?_)
        refine WC.ret (thenQ.r <| ?_)
        exact ⟨_, fun a ha => res1 rfl ha rfl, ys1.getD ((l.length : Int) / 2).toNat 0, congrArg FV (rfl), .inr ⟨⟨by omega, by assumption⟩, ys1, hpm1, hpw1, .inl ⟨by omega, congrArg (fun i_ => List.getD ys1 i_ 0) (by omega)⟩⟩, hp _ (hpm1.mem_iff.1 (getD_mem (by omega))), hS5.kb⟩
      · skip
        refine WC.skip (thenQ.n ?_)
        refine WC.seq ?_
        have hS6 := SH.drew hS5
        refine WC.regionD [] (fun w_ => KB No w4.drew w_) [(.pure, 0), (.pure, 1), (.pure, 2), (.pure, 3), (.pure, 4), (.look, 5), (.pure, 7), (.pure, 8), (.pure, 9), (.pure, 10), (.look, 11), (.fork, 0), (.fork, 0), (.fork, 0), (.fork, 0)] (by kernel_rfl) (by kernel_rfl) (KB.refl _ _) ?_
        iterate 2 refine WS.pure rfl rfl (fun _ => LV.mv rfl) ?_
        refine WS.pure rfl rfl (fun _ => LV.quo rfl rfl (by decide) (quo64 (by omega) (by omega) (by decide) rfl)) ?_
        refine WS.pure rfl rfl (fun _ => LV.sub rfl rfl (wr64 (by omega) (by omega))) ?_
        obtain ⟨A3, c3, e2, g2⟩ := St.elt (SH.rd hS6 (.head _)) 0 (((l.length : Int) / 2) - 1) (by omega) (by omega)
        refine WS.pure rfl rfl (fun _ => LV.idxA Try.underlying29 ti22.sz rfl e2 rfl (by omega) (by omega)) ?_
        refine WS.look rfl rfl (fun _ hk_ => LV.load1 (v := (.float .f64 (ys1.getD (((l.length : Int) / 2) - 1).toNat 0))) Try.underlying22 rfl rfl (g2 _ hk_ 0 _ rfl)) ?_
        iterate 2 refine WS.pure rfl rfl (fun _ => LV.mv rfl) ?_
        refine WS.pure rfl rfl (fun _ => LV.quo rfl rfl (by decide) (quo64 (by omega) (by omega) (by decide) rfl)) ?_
        obtain ⟨A4, c4, e3, g3⟩ := St.elt (SH.rd hS6 (.head _)) 0 ((l.length : Int) / 2) (by omega) (by omega)
        refine WS.pure rfl rfl (fun _ => LV.idxA Try.underlying29 ti22.sz rfl e3 rfl (by omega) (by omega)) ?_
        refine WS.look rfl rfl (fun _ hk_ => LV.load1 (v := (.float .f64 (ys1.getD ((l.length : Int) / 2).toNat 0))) Try.underlying22 rfl rfl (g3 _ hk_ 0 _ rfl)) ?_
        refine WS.fork (WSX.two 6 12 (by kernel_rfl) ?_ ?_)
        · refine WO.xe rfl rfl (XE.arF (a := (ys1.getD (((l.length : Int) / 2) - 1).toNat 0)) (b := 4611686018427387904) hS6 (.inr (.inr (.inr rfl))) rfl rfl) ?_
          rintro _ w5 ⟨r3, rfl, hr1, hb1, hS7, hk4⟩
          refine ⟨fun h_ => (KB.transN (KB.refl _ _) hk4), ?_⟩
          have hq1_ := hr1
          refine WSX.of [(.pure, 13), (.forced, 12), (.pure, 14)] (by kernel_rfl) rfl ?_
          refine WS.pure rfl rfl (fun _ => LV.asg rfl) ?_
          refine WS.xe rfl rfl (XE.arF (a := (ys1.getD ((l.length : Int) / 2).toNat 0)) (b := 4611686018427387904) hS7 (.inr (.inr (.inr rfl))) rfl rfl) ?_
          rintro _ w6 ⟨r4, rfl, hr2, hb2, hS8, hk5⟩
          refine ⟨fun h_ => (KB.transN (KB.transN (KB.refl _ _) hk4) hk5), ?_⟩
          have hq2_ := hr2
          refine WS.pure rfl rfl (fun _ => LV.asg rfl) ?_
          refine WS.nil (thenQ.n ?_)
          refine WC.seq ?_
          refine WC.region ?_
          iterate 2 refine WL.lv rfl (LV.mv rfl) ?_
          refine WL.xe rfl (XE.arF (a := r3) (b := r4) hS8 (.inl rfl) rfl rfl) ?_
          rintro _ w7 ⟨r5, rfl, hr3, hb3, hS9, hk6⟩
          refine WL.lv rfl (LV.asg rfl) ?_
          refine WL.nil (thenQ.n ?_)
          refine WC.ret (?_)
          exact ⟨_, fun a ha => res1 rfl ha rfl, r5, congrArg FV (rfl), .inr ⟨⟨by omega, by assumption⟩, ys1, hpm1, hpw1, .inr ⟨by omega, _, _, hq1_, hq2_, hr3⟩⟩, hb3, hS9.kb⟩
        · refine WO.xe rfl rfl (XE.arF (a := (ys1.getD ((l.length : Int) / 2).toNat 0)) (b := 4611686018427387904) hS6 (.inr (.inr (.inr rfl))) rfl rfl) ?_
          rintro _ w8 ⟨r6, rfl, hr4, hb4, hS10, hk7⟩
          refine ⟨fun h_ => (KB.transN (KB.refl _ _) hk7), ?_⟩
          have hq2_ := hr4
          refine WSX.of [(.forced, 6), (.pure, 13), (.pure, 14)] (by kernel_rfl) rfl ?_
          refine WS.xe rfl rfl (XE.arF (a := (ys1.getD (((l.length : Int) / 2) - 1).toNat 0)) (b := 4611686018427387904) hS10 (.inr (.inr (.inr rfl))) rfl rfl) ?_
          rintro _ w9 ⟨r7, rfl, hr5, hb5, hS11, hk8⟩
          refine ⟨fun h_ => (KB.transN (KB.transN (KB.refl _ _) hk7) hk8), ?_⟩
          have hq1_ := hr5
          iterate 2 refine WS.pure rfl rfl (fun _ => LV.asg rfl) ?_
          refine WS.nil (thenQ.n ?_)
          refine WC.seq ?_
          refine WC.region ?_
          iterate 2 refine WL.lv rfl (LV.mv rfl) ?_
          refine WL.xe rfl (XE.arF (a := r7) (b := r6) hS11 (.inl rfl) rfl rfl) ?_
          rintro _ w10 ⟨r8, rfl, hr6, hb6, hS12, hk9⟩
          refine WL.lv rfl (LV.asg rfl) ?_
          refine WL.nil (thenQ.n ?_)
          refine WC.ret (?_)
          exact ⟨_, fun a ha => res1 rfl ha rfl, r8, congrArg FV (rfl), .inr ⟨⟨by omega, by assumption⟩, ys1, hpm1, hpw1, .inr ⟨by omega, _, _, hq1_, hq2_, hr6⟩⟩, hb6, hS12.kb⟩

theorem mille_calls {w : World} {x : Nat} (hx : x < 18446744073709551616) :
    Calls Try.prog 26 #[(.float .f64 x)] w fun e w' => ∃ v, e = .returned v ∧ (fun v w' => v = .int .i64 (MIL x) ∧ KB No w w') v w' := by
  have hS : SH w No w [] := SH.nil _ _
  refine calls (l := litOf [(.float .f64 x)] 0) Try.func26 rfl (n := 15) rfl (Nat.le_of_ble_eq_true rfl) (lit_args _) ?_
  refine WC.seq ?_
  refine WC.region ?_
  refine WL.lv rfl (LV.asg rfl) ?_
  refine WL.nil (thenQ.n ?_)
  refine WC.seq ?_
  refine WC.block ?_
  refine WC.seq ?_
  refine WC.region ?_
  refine WL.lv rfl (LV.mv rfl) ?_
  refine WL.call rfl (XC.fn Try.func34 (by kernel_rfl) rfl rfl rfl) (isNaN_calls (x := x) ) ?_
  rintro v_ w1 ⟨rfl, hk1⟩
  have hS1 := SH.same hS hk1
  refine WL.lv rfl (LV.asg rfl) ?_
  refine WL.nil (thenQ.n ?_)
  refine WC.condP (p := ¬ (-9218868437227405312 ≤ sk x ∧ sk x ≤ 9218868437227405312)) rfl (fun hc1 => ?_) (fun hc1 => ?_)
  · skip
    refine WC.seq ?_
    refine WC.region ?_
    refine WL.lv rfl (LV.asg rfl) ?_
    refine WL.nil (thenQ.n ?_)
    refine WC.ret (blockQ.r <| thenQ.r <| ?_)
    exact ⟨_, fun a ha => res1 rfl ha rfl, congrArg (Value.int .i64) (by first | omega | exact mil_if x (by omega) | exact (mil_if x (by omega)).symm), hS1.kb⟩
  · skip
    refine WC.seq ?_
    refine WC.region ?_
    refine WL.lv rfl (LV.mv rfl) ?_
    have hsk_0 : sk 0 = (0 : Int) := by decide +kernel
    refine WL.lv rfl (LV.ltF (a := x) (b := 0) rfl rfl) ?_
    refine WL.lv rfl (LV.asg rfl) ?_
    refine WL.nil (thenQ.n ?_)
    refine WC.condP (p := ((-9218868437227405312 ≤ sk x ∧ sk x ≤ 9218868437227405312) ∧ (-9218868437227405312 ≤ (0 : Int) ∧ (0 : Int) ≤ 9218868437227405312)) ∧ sk x < (0 : Int)) rfl (fun hc2 => ?_) (fun hc2 => ?_)
    · skip
      refine WC.seq ?_
      refine WC.region ?_
      refine WL.lv rfl (LV.asg rfl) ?_
      refine WL.nil (thenQ.n ?_)
      refine WC.ret (blockQ.r <| thenQ.r <| ?_)
      exact ⟨_, fun a ha => res1 rfl ha rfl, congrArg (Value.int .i64) (by first | omega | exact mil_if x (by omega) | exact (mil_if x (by omega)).symm), hS1.kb⟩
    · skip
      refine WC.seq ?_
      refine WC.region ?_
      refine WL.lv rfl (LV.mv rfl) ?_
      have hsk_4607182418800017408 : sk 4607182418800017408 = (4607182418800017408 : Int) := by decide +kernel
      refine WL.lv rfl (LV.geF (a := x) (b := 4607182418800017408) rfl rfl) ?_
      refine WL.lv rfl (LV.asg rfl) ?_
      refine WL.nil (thenQ.n ?_)
      refine WC.condP (p := ((-9218868437227405312 ≤ sk x ∧ sk x ≤ 9218868437227405312) ∧ (-9218868437227405312 ≤ (4607182418800017408 : Int) ∧ (4607182418800017408 : Int) ≤ 9218868437227405312)) ∧ sk x ≥ (4607182418800017408 : Int)) rfl (fun hc3 => ?_) (fun hc3 => ?_)
      · skip
        refine WC.seq ?_
        refine WC.region ?_
        refine WL.lv rfl (LV.asg rfl) ?_
        refine WL.nil (thenQ.n ?_)
        refine WC.ret (blockQ.r <| thenQ.r <| ?_)
        exact ⟨_, fun a ha => res1 rfl ha rfl, congrArg (Value.int .i64) (by first | omega | exact mil_if x (by omega) | exact (mil_if x (by omega)).symm), hS1.kb⟩
      · skip
        refine WC.skip (blockQ.n <| thenQ.n ?_)
        refine WC.seq ?_
        refine WC.region ?_
        refine WL.lv rfl (LV.mv rfl) ?_
        refine WL.xe rfl (XE.arF (a := 4652007308841189376) (b := x) hS1 (.inr (.inr (.inl rfl))) rfl rfl) ?_
        rintro _ w2 ⟨r1, rfl, hr1, hb1, hS2, hk2⟩
        have hm_ := mil_is (x := x) (by omega) (by omega) hr1
        refine WL.lv rfl (LV.cvtFI Try.underlying22 Try.underlying3 rfl (hm_.2.2.2.1)) ?_
        refine WL.lv rfl (LV.asg rfl) ?_
        refine WL.nil (thenQ.n ?_)
        refine WC.ret (?_)
        exact ⟨_, fun a ha => res1 rfl ha rfl, congrArg (Value.int .i64) (by first | omega | exact mil_if x (by omega) | exact (mil_if x (by omega)).symm), hS2.kb⟩

end Go.Proofs.Ytlnnfcbndelcnaa
