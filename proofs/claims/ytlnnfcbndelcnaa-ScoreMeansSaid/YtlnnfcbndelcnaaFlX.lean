/- The law of the mean and the median. -/
import Derived.Test.YtlnnfcbndelcnaaFlO
namespace Go.Proofs.Ytlnnfcbndelcnaa
open Go Go.Gv Go.RowKit Go.Flt Go.Shelf Go.Lib Go.Sort
set_option linter.unusedVariables false
set_option linter.unusedSimpArgs false

theorem rmedian_calls {w : World} {A_l : Option Addr} {n_l c_l : Nat} {l : List Nat} (h_l : St No w (Rd eF (.slice A_l n_l c_l) l)) (hn_l : l.length = n_l) (hp : ∀ x ∈ l, W6 x) (hl : l.length ≤ 60) :
    Calls Try.prog 31 #[(.slice A_l n_l c_l)] w fun e w' => ∃ v, e = .returned v ∧ (fun v w' => ∃ (r' : Nat), v = .float .f64 r' ∧ MEDN l r' ∧ r' < 18446744073709551616 ∧ KB No w w') v w' := by
  subst hn_l
  have hma := Rd.max h_l.now
  have hS : SH w No w [] := SH.nil _ _
  refine calls (l := litOf [(.slice A_l l.length c_l)] 0) Try.func31 rfl (n := 58) rfl (Nat.le_of_ble_eq_true rfl) (lit_args _) ?_
  refine WC.seq ?_
  refine WC.region ?_
  refine WL.lv rfl (LV.asg rfl) ?_
  refine WL.nil (thenQ.n ?_)
  iterate 2 refine WC.seq ?_
  refine WC.region ?_
  refine WL.lv rfl (LV.asg rfl) ?_
  refine WL.nil (thenQ.n ?_)
  refine WC.block ?_
  refine WC.loop (fun m_ f_ w_ => ∃ (i : Int), (0 ≤ i) ∧ (i ≤ (l.length : Int)) ∧ (∀ t : Int, 0 ≤ t → t < i → -9218868437227405312 ≤ sk (l.getD t.toNat 0) ∧ sk (l.getD t.toNat 0) ≤ 9218868437227405312) ∧ SH w No w_ [] ∧ m_ = (((l.length : Int) - i).toNat) ∧ Weak (lit [(0, (.slice A_l l.length c_l)), (3, (.int .i64 i))]) f_) _ ⟨0, by omega, by omega, (fun t h1_ h2_ => by omega), hS, rfl, Weak.cons rfl <| Weak.cons rfl <| Weak.nil _⟩ ?_
  rintro m1 f1 w1 ⟨i, ilo, ihi, q1, hL1, rfl, hw1⟩
  refine WC.weak hw1 ?_
  clear hw1
  iterate 2 refine WC.seq ?_
  refine WC.region ?_
  iterate 2 refine WL.lv rfl (LV.mv rfl) ?_
  refine WL.lv rfl (LV.lenL Try.underlying29 rfl) ?_
  refine WL.lv rfl (LV.ltI rfl rfl) ?_
  refine WL.nil (thenQ.n ?_)
  refine WC.condP (p := i < (l.length : Int)) rfl (fun hc1 => ?_) (fun hc1 => ?_)
  · skip
    refine WC.skip (thenQ.n ?_)
    refine WC.seq ?_
    refine WC.block ?_
    refine WC.seq ?_
    have hS1 := SH.drew hL1
    refine WC.regionD [] (fun w_ => KB No w1.drew w_) [(.pure, 0), (.pure, 1), (.pure, 2), (.look, 3), (.pure, 4), (.pure, 5), (.pure, 6), (.look, 7), (.pure, 8)] (by kernel_rfl) (by kernel_rfl) (KB.refl _ _) ?_
    iterate 2 refine WS.pure rfl rfl (fun _ => LV.mv rfl) ?_
    obtain ⟨A1, c1, e1, g1⟩ := St.elt (SH.stN hS1 h_l) 0 i (by omega) (by omega)
    refine WS.pure rfl rfl (fun _ => LV.idxA Try.underlying29 ti22.sz rfl e1 rfl (by omega) (by omega)) ?_
    refine WS.look rfl rfl (fun _ hk_ => LV.load1 (v := (.float .f64 (l.getD (i).toNat 0))) Try.underlying22 rfl rfl (g1 _ hk_ 0 _ rfl)) ?_
    iterate 2 refine WS.pure rfl rfl (fun _ => LV.mv rfl) ?_
    obtain ⟨A2, c2, e2, g2⟩ := St.elt (SH.stN hS1 h_l) 0 i (by omega) (by omega)
    refine WS.pure rfl rfl (fun _ => LV.idxA Try.underlying29 ti22.sz rfl e2 rfl (by omega) (by omega)) ?_
    refine WS.look rfl rfl (fun _ hk_ => LV.load1 (v := (.float .f64 (l.getD (i).toNat 0))) Try.underlying22 rfl rfl (g2 _ hk_ 0 _ rfl)) ?_
    refine WS.pure rfl rfl (fun _ => LV.neF (a := (l.getD (i).toNat 0)) (b := (l.getD (i).toNat 0)) rfl rfl) ?_
    refine WS.nil (thenQ.n ?_)
    refine WC.condP (p := ¬ (((-9218868437227405312 ≤ sk (l.getD (i).toNat 0) ∧ sk (l.getD (i).toNat 0) ≤ 9218868437227405312) ∧ (-9218868437227405312 ≤ sk (l.getD (i).toNat 0) ∧ sk (l.getD (i).toNat 0) ≤ 9218868437227405312)) ∧ sk (l.getD (i).toNat 0) = sk (l.getD (i).toNat 0))) rfl (fun hk => ?_) (fun hk => ?_)
    · skip
      refine WC.seq ?_
      refine WC.region ?_
      refine WL.call rfl (XC.fn Try.func33 (by kernel_rfl) rfl rfl rfl) (none_calls  ) ?_
      rintro v_ w2 ⟨r1, rfl, hf1, hf2, hk1⟩
      have hS2 := SH.same hS1 hk1
      refine WL.lv rfl (LV.asg rfl) ?_
      refine WL.nil (thenQ.n ?_)
      refine WC.ret (blockQ.r <| thenQ.r <| thenQ.r <| blockQ.r <| thenQ.r <| ?_)
      exact ⟨_, fun a ha => res1 rfl ha rfl, r1, congrArg FV (rfl), .inl ⟨by first | exact .inl (by omega) | exact .inr (by assumption) | exact .inr (any_yes ilo (by omega) (by omega)), hf1⟩, hf2, hS2.kb⟩
    · skip
      refine WC.skip (blockQ.n <| thenQ.n ?_)
      refine WC.region ?_
      refine WL.lv rfl (LV.mv rfl) ?_
      refine WL.lv rfl (LV.add rfl rfl (wr64 (by omega) (by omega))) ?_
      refine WL.lv rfl (LV.asg rfl) ?_
      refine WL.nil (thenQ.n ?_)
      exact ⟨_, by omega, i + 1, by omega, by omega, (all_step (p := fun t => -9218868437227405312 ≤ sk (l.getD t.toNat 0) ∧ sk (l.getD t.toNat 0) ≤ 9218868437227405312) q1 (by omega)), hS1, rfl, Weak.cons rfl <| Weak.cons rfl <| Weak.nil _⟩
  · skip
    refine WC.exit (thenQ.x <| thenQ.x <| blockQ.hit <| thenQ.n ?_)
    iterate 2 refine WC.seq ?_
    refine WC.region ?_
    refine WL.lv rfl (LV.mv rfl) ?_
    refine WL.lv rfl (LV.lenL Try.underlying29 rfl) ?_
    refine WL.lv rfl (LV.eqI rfl rfl) ?_
    refine WL.nil (thenQ.n ?_)
    refine WC.condP (p := (l.length : Int) = 0) rfl (fun hc2 => ?_) (fun hc2 => ?_)
    · skip
      refine WC.seq ?_
      refine WC.region ?_
      refine WL.call rfl (XC.fn Try.func33 (by kernel_rfl) rfl rfl rfl) (none_calls  ) ?_
      rintro v_ w3 ⟨r2, rfl, hf3, hf4, hk2⟩
      have hS3 := SH.same hL1 hk2
      refine WL.lv rfl (LV.asg rfl) ?_
      refine WL.nil (thenQ.n ?_)
      refine WC.ret (thenQ.r <| ?_)
      exact ⟨_, fun a ha => res1 rfl ha rfl, r2, congrArg FV (rfl), .inl ⟨by first | exact .inl (by omega) | exact .inr (by assumption) | exact .inr (any_yes ilo (by omega) (by omega)), hf3⟩, hf4, hS3.kb⟩
    · skip
      refine WC.skip (thenQ.n ?_)
      refine WC.seq ?_
      refine WC.region ?_
      refine WL.lv rfl (LV.mv rfl) ?_
      refine WL.call rfl (XC.fn Try.func19 (by kernel_rfl) rfl rfl rfl) (rsort22_calls (l := l) (SH.stN hL1 h_l) (hp) (by first | omega | (show (3 : Nat) ≤ 100; decide))) ?_
      rintro v_ w4 ⟨A3, c3, ys1, rfl, hpm1, hpw1, hS4⟩
      have hS5 := SH.joinN hL1 hS4
      have hln_ := hpm1.length_eq
      refine WL.lv rfl (LV.asg rfl) ?_
      refine WL.nil (thenQ.n ?_)
      iterate 2 refine WC.seq ?_
      refine WC.region ?_
      refine WL.lv rfl (LV.mv rfl) ?_
      refine WL.lv rfl (LV.lenL Try.underlying29 rfl) ?_
      refine WL.lv rfl (LV.rem rfl rfl (by decide) (rem64 (by omega) rfl)) ?_
      refine WL.lv rfl (LV.eqI rfl rfl) ?_
      refine WL.nil (thenQ.n ?_)
      refine WC.condP (p := ((ys1.length : Int) % 2) = 1) rfl (fun hc3 => ?_) (fun hc3 => ?_)
      · skip
        refine WC.seq ?_
        refine WC.region ?_
        iterate 2 refine WL.lv rfl (LV.mv rfl) ?_
        refine WL.lv rfl (LV.lenL Try.underlying29 rfl) ?_
        refine WL.lv rfl (LV.sub rfl rfl (wr64 (by omega) (by omega))) ?_
        refine WL.lv rfl (LV.quo rfl rfl (by decide) (quo64 (by omega) (by omega) (by decide) rfl)) ?_
        obtain ⟨A4, c4, e3, g3⟩ := St.elt (SH.rd hS5 (.head _)) 0 (((ys1.length : Int) - 1) / 2) (by omega) (by omega)
        refine WL.lv rfl (LV.idxA Try.underlying29 ti22.sz rfl e3 rfl (by omega) (by omega)) ?_
        refine WL.lv rfl (LV.load1 (v := (.float .f64 (ys1.getD (((ys1.length : Int) - 1) / 2).toNat 0))) Try.underlying22 rfl rfl (g3 _ (KB.refl No _) 0 _ rfl)) ?_
        refine WL.lv rfl (LV.asg rfl) ?_
        refine WL.nil (thenQ.n ?_)
        refine WC.ret (thenQ.r <| ?_)
        exact ⟨_, fun a ha => res1 rfl ha rfl, ys1.getD (((ys1.length : Int) - 1) / 2).toNat 0, congrArg FV (rfl), .inr ⟨⟨by omega, any_no (fun t h0_ h1_ => q1 t h0_ (by omega))⟩, ys1, hpm1, hpw1, .inl ⟨by omega, congrArg (fun i_ => List.getD ys1 i_ 0) (by omega)⟩⟩, hp _ (hpm1.mem_iff.1 (getD_mem (by omega))), hS5.kb⟩
      · skip
        refine WC.skip (thenQ.n ?_)
        refine WC.seq ?_
        refine WC.region ?_
        iterate 2 refine WL.lv rfl (LV.mv rfl) ?_
        refine WL.lv rfl (LV.lenL Try.underlying29 rfl) ?_
        refine WL.lv rfl (LV.quo rfl rfl (by decide) (quo64 (by omega) (by omega) (by decide) rfl)) ?_
        refine WL.lv rfl (LV.sub rfl rfl (wr64 (by omega) (by omega))) ?_
        obtain ⟨A5, c5, e4, g4⟩ := St.elt (SH.rd hS5 (.head _)) 0 (((ys1.length : Int) / 2) - 1) (by omega) (by omega)
        refine WL.lv rfl (LV.idxA Try.underlying29 ti22.sz rfl e4 rfl (by omega) (by omega)) ?_
        refine WL.lv rfl (LV.load1 (v := (.float .f64 (ys1.getD (((ys1.length : Int) / 2) - 1).toNat 0))) Try.underlying22 rfl rfl (g4 _ (KB.refl No _) 0 _ rfl)) ?_
        refine WL.xe rfl (XE.arF (a := (ys1.getD (((ys1.length : Int) / 2) - 1).toNat 0)) (b := 4611686018427387904) hS5 (.inr (.inr (.inr rfl))) rfl rfl) ?_
        rintro _ w5 ⟨r3, rfl, hr1, hb1, hS6, hk3⟩
        have hq1_ := hr1
        refine WL.lv rfl (LV.asg rfl) ?_
        refine WL.nil (thenQ.n ?_)
        refine WC.seq ?_
        refine WC.region ?_
        iterate 2 refine WL.lv rfl (LV.mv rfl) ?_
        refine WL.lv rfl (LV.lenL Try.underlying29 rfl) ?_
        refine WL.lv rfl (LV.quo rfl rfl (by decide) (quo64 (by omega) (by omega) (by decide) rfl)) ?_
        obtain ⟨A6, c6, e5, g5⟩ := St.elt (SH.rd hS6 (.head _)) 0 ((ys1.length : Int) / 2) (by omega) (by omega)
        refine WL.lv rfl (LV.idxA Try.underlying29 ti22.sz rfl e5 rfl (by omega) (by omega)) ?_
        refine WL.lv rfl (LV.load1 (v := (.float .f64 (ys1.getD ((ys1.length : Int) / 2).toNat 0))) Try.underlying22 rfl rfl (g5 _ (KB.refl No _) 0 _ rfl)) ?_
        refine WL.xe rfl (XE.arF (a := (ys1.getD ((ys1.length : Int) / 2).toNat 0)) (b := 4611686018427387904) hS6 (.inr (.inr (.inr rfl))) rfl rfl) ?_
        rintro _ w6 ⟨r4, rfl, hr2, hb2, hS7, hk4⟩
        have hq2_ := hr2
        refine WL.lv rfl (LV.asg rfl) ?_
        refine WL.nil (thenQ.n ?_)
        refine WC.seq ?_
        refine WC.region ?_
        iterate 2 refine WL.lv rfl (LV.mv rfl) ?_
        refine WL.xe rfl (XE.arF (a := r3) (b := r4) hS7 (.inl rfl) rfl rfl) ?_
        rintro _ w7 ⟨r5, rfl, hr3, hb3, hS8, hk5⟩
        refine WL.lv rfl (LV.asg rfl) ?_
        refine WL.nil (thenQ.n ?_)
        refine WC.ret (?_)
        exact ⟨_, fun a ha => res1 rfl ha rfl, r5, congrArg FV (rfl), .inr ⟨⟨by omega, any_no (fun t h0_ h1_ => q1 t h0_ (by omega))⟩, ys1, hpm1, hpw1, .inr ⟨by omega, _, _, by rw [show (l.length : Int) / 2 - 1 = (ys1.length : Int) / 2 - 1 by omega]; exact hq1_, by rw [show (l.length : Int) / 2 = (ys1.length : Int) / 2 by omega]; exact hq2_, hr3⟩⟩, hb3, hS8.kb⟩

theorem few22_calls {w : World} {A0 : Option Addr} {a : List Nat} {c0 : Nat} (ha : St No w (Rd eF (.slice A0 a.length c0) a)) :
    Calls Try.prog 16 #[(.slice A0 a.length c0)] w fun e w' => ∃ v, e = .returned v ∧ (fun v w' => v = .slice (cutA A0 c0 1) (a.take 60).length c0 ∧ KB No w w') v w' := by
  have hS : SH w No w [] := SH.nil _ _
  refine calls (l := litOf [(.slice A0 a.length c0)] 0) Try.func16 rfl (n := 8) rfl (Nat.le_of_ble_eq_true rfl) (lit_args _) ?_
  refine WC.seq ?_
  refine WC.region ?_
  refine WL.lv rfl (LV.asg rfl) ?_
  refine WL.nil (thenQ.n ?_)
  refine WC.seq ?_
  refine WC.region ?_
  iterate 2 refine WL.lv rfl (LV.mv rfl) ?_
  refine WL.lv rfl (LV.lenL Try.underlying29 rfl) ?_
  refine WL.lv rfl (LV.minI rfl rfl) ?_
  have hcap1 : a.length ≤ c0 := (Rd.cap (St.now (SH.stN hS ha)))
  refine WL.lv rfl (LV.cut Try.underlying29 ti22.sz rfl rfl rfl rfl ⟨.inl ⟨rfl, rfl⟩, .inr ⟨.i64, by rw [Int.toNat_of_nonneg (a := min (a.length : Int) 60) (by omega)] <;> rfl⟩, .inl ⟨rfl, rfl⟩⟩ (by omega) (by omega) (by omega)) ?_
  refine WL.lv rfl (LV.asg rfl) ?_
  refine WL.nil (thenQ.n ?_)
  refine WC.ret (?_)
  exact ⟨_, fun a ha => res1 rfl ha rfl, congrArg (fun n => Value.slice (cutA A0 c0 1) n c0) (by rw [List.length_take]; omega), hS.kb⟩

set_option maxHeartbeats 2000000 in
set_option maxRecDepth 100000 in
theorem scoreMeans_law {w : World} {A_l : Option Addr} {n_l c_l : Nat} {l : List Nat} (h_l : St No w (Rd eF (.slice A_l n_l c_l) l)) (hn_l : l.length = n_l) (wl : ∀ x ∈ l, x < 18446744073709551616) :
    Calls Try.prog 8 #[(.slice A_l n_l c_l)] w fun e w' => ∃ v, e = .returned v ∧ (fun v w' => v = .bool (decide (true)) ∧ KB No w w') v w' := by
  subst hn_l
  have hl_ : (l.take 60).length ≤ 60 := by rw [List.length_take]; omega
  have wl_ : ∀ x ∈ l.take 60, W6 x := fun x hx => wl x (List.mem_of_mem_take hx)
  have hS : SH w No w [] := SH.nil _ _
  refine calls (l := litOf [(.slice A_l l.length c_l)] 0) Try.func8 rfl (n := 20) rfl (Nat.le_of_ble_eq_true rfl) (lit_args _) ?_
  refine WC.seq ?_
  refine WC.region ?_
  refine WL.lv rfl (LV.asg rfl) ?_
  refine WL.nil (thenQ.n ?_)
  refine WC.seq ?_
  refine WC.region ?_
  refine WL.lv rfl (LV.mv rfl) ?_
  refine WL.call rfl (XC.fn Try.func16 (by kernel_rfl) rfl rfl rfl) (few22_calls (SH.stN hS h_l)) ?_
  rintro v_ w1 ⟨rfl, hk1⟩
  have hS1 := SH.same hS hk1
  refine WL.lv rfl (LV.asg rfl) ?_
  refine WL.nil (thenQ.n ?_)
  refine WC.seq ?_
  refine WC.region ?_
  refine WL.call rfl (XC.fn Try.func11 (by kernel_rfl) rfl rfl rfl) (live22_calls  ) ?_
  rintro v_ w2 ⟨rfl, hk2⟩
  have hS2 := SH.same hS1 hk2
  iterate 2 refine WL.lv rfl (LV.mv rfl) ?_
  refine WL.call rfl (XC.fn Try.func28 (by kernel_rfl) rfl rfl rfl) (mean_calls  (SH.stN hS2 (few_rd 60 h_l)) rfl ) ?_
  rintro v_ w3 ⟨r1, rfl, hf1, hf2, hk3⟩
  have hS3 := SH.same hS2 hk3
  have h1_ := hf1
  refine WL.lv rfl (LV.mv rfl) ?_
  refine WL.call rfl (XC.fn Try.func29 (by kernel_rfl) rfl rfl rfl) (rmean_calls  (SH.stN hS3 (few_rd 60 h_l)) rfl ) ?_
  rintro v_ w4 ⟨r2, rfl, hf3, hf4, hk4⟩
  have hS4 := SH.same hS3 hk4
  have h2_ := hf3
  refine WL.call rfl (XC.fn Try.func12 (by kernel_rfl) rfl rfl rfl) (Calls.asB (fsame_calls (a := r1) (b := r2) (by first | assumption | omega | exact hp _ (getD_mem (by omega)) | exact hpz _ (getD_mem (by omega))) (by first | assumption | omega | exact hp _ (getD_mem (by omega)) | exact hpz _ (getD_mem (by omega)))) (decide_eq_true (tk_cn (h1_.trans h2_.symm)))) ?_
  rintro v_ w5 ⟨rfl, hk5⟩
  have hS5 := SH.same hS4 hk5
  refine WL.lv rfl (LV.pickT rfl rfl) ?_
  iterate 2 refine WL.lv rfl (LV.mv rfl) ?_
  refine WL.call rfl (XC.fn Try.func30 (by kernel_rfl) rfl rfl rfl) (median_calls  (SH.stN hS5 (few_rd 60 h_l)) rfl (wl_) (hl_)) ?_
  rintro v_ w6 ⟨r3, rfl, hf5, hf6, hk6⟩
  have hS6 := SH.same hS5 hk6
  have h3_ := hf5
  have h3w_ := hf6
  refine WL.lv rfl (LV.mv rfl) ?_
  refine WL.call rfl (XC.fn Try.func31 (by kernel_rfl) rfl rfl rfl) (rmedian_calls  (SH.stN hS6 (few_rd 60 h_l)) rfl (wl_) (hl_)) ?_
  rintro v_ w7 ⟨r4, rfl, hf7, hf8, hk7⟩
  have hS7 := SH.same hS6 hk7
  have h4_ := hf7
  refine WL.call rfl (XC.fn Try.func12 (by kernel_rfl) rfl rfl rfl) (Calls.asB (fsame_calls (a := r3) (b := r4) (by first | assumption | omega | exact hp _ (getD_mem (by omega)) | exact hpz _ (getD_mem (by omega))) (by first | assumption | omega | exact hp _ (getD_mem (by omega)) | exact hpz _ (getD_mem (by omega)))) (decide_eq_true (h3_.same wl_ h4_))) ?_
  rintro v_ w8 ⟨rfl, hk8⟩
  have hS8 := SH.same hS7 hk8
  refine WL.lv rfl (LV.pickT rfl rfl) ?_
  refine WL.lv rfl (LV.asg rfl) ?_
  refine WL.nil (thenQ.n ?_)
  refine WC.ret (?_)
  exact ⟨_, fun a ha => res1 rfl ha rfl, rfl, hS8.kb⟩

end Go.Proofs.Ytlnnfcbndelcnaa
