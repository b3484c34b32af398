/- Means. -/
import Derived.Test.YtlnnfcbndelcnaaFlL
namespace Go.Proofs.Ytlnnfcbndelcnaa
open Go Go.Gv Go.RowKit Go.Flt Go.Shelf Go.Lib Go.Sort
set_option linter.unusedVariables false
set_option linter.unusedSimpArgs false

theorem rbest_calls {w : World} {A_l : Option Addr} {n_l c_l : Nat} {l : List Nat} (h_l : St No w (Rd eF (.slice A_l n_l c_l) l)) (hn_l : l.length = n_l) (wl : ∀ x ∈ l, x < 18446744073709551616) :
    Calls Try.prog 21 #[(.slice A_l n_l c_l)] w fun e w' => ∃ v, e = .returned v ∧ (fun v w' => ∃ (b' : Int), v = .int .i64 b' ∧ IsBst l b' ∧ KB No w w') v w' := by
  subst hn_l
  have hma := Rd.max h_l.now
  have hS : SH w No w [] := SH.nil _ _
  refine calls (l := litOf [(.slice A_l l.length c_l)] 0) Try.func21 rfl (n := 50) rfl (Nat.le_of_ble_eq_true rfl) (lit_args _) ?_
  refine WC.seq ?_
  refine WC.region ?_
  refine WL.lv rfl (LV.asg rfl) ?_
  refine WL.nil (thenQ.n ?_)
  iterate 2 refine WC.seq ?_
  refine WC.region ?_
  refine WL.lv rfl (LV.asg rfl) ?_
  refine WL.nil (thenQ.n ?_)
  refine WC.block ?_
  refine WC.loop (fun m_ f_ w_ => ∃ (i : Int), (0 ≤ i) ∧ (i ≤ (l.length : Int)) ∧ (∀ t : Int, 0 ≤ t → t < i → ¬ Top l t l.length) ∧ SH w No w_ [] ∧ m_ = (((l.length : Int) - i).toNat) ∧ Weak (lit [(0, (.slice A_l l.length c_l)), (3, (.int .i64 i))]) f_) _ ⟨0, by omega, by omega, (fun t h1_ h2_ => by omega), hS, rfl, Weak.cons rfl <| Weak.cons rfl <| Weak.nil _⟩ ?_
  rintro m1 f1 w1 ⟨i, ilo, ihi, q1, hL1, rfl, hw1⟩
  refine WC.weak hw1 ?_
  clear hw1
  iterate 2 refine WC.seq ?_
  refine WC.region ?_
  iterate 2 refine WL.lv rfl (LV.mv rfl) ?_
  refine WL.lv rfl (LV.lenL Try.underlying29 rfl) ?_
  refine WL.lv rfl (LV.ltI rfl rfl) ?_
  refine WL.nil (thenQ.n ?_)
  refine WC.condP (p := i < (l.length : Int)) rfl (fun h9 => ?_) (fun h9 => ?_)
  · have hti_ := tk_is (l.getD i.toNat 0)
    have hwi_ := wl (l.getD i.toNat 0) (getD_mem (by omega))
    refine WC.skip (thenQ.n ?_)
    refine WC.seq ?_
    refine WC.block ?_
    refine WC.seq ?_
    have hS1 := SH.drew hL1
    refine WC.regionD [] (fun w_ => KB No w1.drew w_) [(.pure, 0), (.pure, 1), (.pure, 2), (.look, 3), (.pure, 4), (.pure, 5), (.pure, 6), (.look, 7), (.pure, 8), (.pure, 9)] (by kernel_rfl) (by kernel_rfl) (KB.refl _ _) ?_
    iterate 2 refine WS.pure rfl rfl (fun _ => LV.mv rfl) ?_
    obtain ⟨A1, c1, e1, g1⟩ := St.elt (SH.stN hS1 h_l) 0 i (by omega) (by omega)
    refine WS.pure rfl rfl (fun _ => LV.idxA Try.underlying29 ti22.sz rfl e1 rfl (by omega) (by omega)) ?_
    refine WS.look rfl rfl (fun _ hk_ => LV.load1 (v := (.float .f64 (l.getD (i).toNat 0))) Try.underlying22 rfl rfl (g1 _ hk_ 0 _ rfl)) ?_
    iterate 2 refine WS.pure rfl rfl (fun _ => LV.mv rfl) ?_
    obtain ⟨A2, c2, e2, g2⟩ := St.elt (SH.stN hS1 h_l) 0 i (by omega) (by omega)
    refine WS.pure rfl rfl (fun _ => LV.idxA Try.underlying29 ti22.sz rfl e2 rfl (by omega) (by omega)) ?_
    refine WS.look rfl rfl (fun _ hk_ => LV.load1 (v := (.float .f64 (l.getD (i).toNat 0))) Try.underlying22 rfl rfl (g2 _ hk_ 0 _ rfl)) ?_
    refine WS.pure rfl rfl (fun _ => LV.eqF (a := (l.getD (i).toNat 0)) (b := (l.getD (i).toNat 0)) rfl rfl) ?_
    refine WS.pure rfl rfl (fun _ => LV.asg rfl) ?_
    refine WS.nil (thenQ.n ?_)
    iterate 2 refine WC.seq ?_
    refine WC.region ?_
    refine WL.lv rfl (LV.asg rfl) ?_
    refine WL.nil (thenQ.n ?_)
    refine WC.block ?_
    refine WC.loop (fun m_ f_ w_ => ∃ (ok : Bool) (k : Int), (0 ≤ k) ∧ (k ≤ (l.length : Int)) ∧ (Top l i k ↔ ok = true) ∧ SH w No w_ [] ∧ m_ = (((l.length : Int) - k).toNat) ∧ Weak (lit [(0, (.slice A_l l.length c_l)), (3, (.int .i64 i)), (4, (.bool ok)), (5, (.int .i64 k))]) f_) _ ⟨decide (((-9218868437227405312 ≤ sk (l.getD (i).toNat 0) ∧ sk (l.getD (i).toNat 0) ≤ 9218868437227405312) ∧ (-9218868437227405312 ≤ sk (l.getD (i).toNat 0) ∧ sk (l.getD (i).toNat 0) ≤ 9218868437227405312)) ∧ sk (l.getD (i).toNat 0) = sk (l.getD (i).toNat 0)), 0, by omega, by omega, (⟨fun h_ => decide_eq_true (by have h2_ := h_.1; omega), fun h_ => top_0.2 (by have h2_ := of_decide_eq_true h_; omega)⟩), hS1, rfl, Weak.cons rfl <| Weak.cons rfl <| Weak.cons rfl <| Weak.cons rfl <| Weak.nil _⟩ ?_
    rintro m2 f2 w2 ⟨ok, k, klo, khi, r1, hL2, rfl, hw2⟩
    refine WC.weak hw2 ?_
    clear hw2
    iterate 2 refine WC.seq ?_
    refine WC.region ?_
    iterate 2 refine WL.lv rfl (LV.mv rfl) ?_
    refine WL.lv rfl (LV.lenL Try.underlying29 rfl) ?_
    refine WL.lv rfl (LV.ltI rfl rfl) ?_
    refine WL.nil (thenQ.n ?_)
    refine WC.condP (p := k < (l.length : Int)) rfl (fun h24 => ?_) (fun h24 => ?_)
    · have htk_ := tk_is (l.getD k.toNat 0)
      have hwk_ := wl (l.getD k.toNat 0) (getD_mem (by omega))
      have ho_ := ord_is' (l.getD k.toNat 0) (l.getD i.toNat 0)
      refine WC.skip (thenQ.n ?_)
      refine WC.seq ?_
      refine WC.block ?_
      refine WC.seq ?_
      have hS2 := SH.drew hL2
      refine WC.regionD [] (fun w_ => KB No w2.drew w_) [(.pure, 0), (.pure, 1), (.pure, 2), (.look, 3), (.pure, 4), (.pure, 5), (.pure, 6), (.look, 7), (.pure, 8), (.pure, 9), (.pure, 10), (.pure, 11), (.pure, 12), (.look, 13), (.pure, 14), (.pure, 15), (.pure, 16), (.look, 17), (.forced, 18), (.pure, 19), (.pure, 20)] (by kernel_rfl) (by kernel_rfl) (KB.refl _ _) ?_
      iterate 2 refine WS.pure rfl rfl (fun _ => LV.mv rfl) ?_
      obtain ⟨A3, c3, e3, g3⟩ := St.elt (SH.stN hS2 h_l) 0 k (by omega) (by omega)
      refine WS.pure rfl rfl (fun _ => LV.idxA Try.underlying29 ti22.sz rfl e3 rfl (by omega) (by omega)) ?_
      refine WS.look rfl rfl (fun _ hk_ => LV.load1 (v := (.float .f64 (l.getD (k).toNat 0))) Try.underlying22 rfl rfl (g3 _ hk_ 0 _ rfl)) ?_
      iterate 2 refine WS.pure rfl rfl (fun _ => LV.mv rfl) ?_
      obtain ⟨A4, c4, e4, g4⟩ := St.elt (SH.stN hS2 h_l) 0 k (by omega) (by omega)
      refine WS.pure rfl rfl (fun _ => LV.idxA Try.underlying29 ti22.sz rfl e4 rfl (by omega) (by omega)) ?_
      refine WS.look rfl rfl (fun _ hk_ => LV.load1 (v := (.float .f64 (l.getD (k).toNat 0))) Try.underlying22 rfl rfl (g4 _ hk_ 0 _ rfl)) ?_
      rcases Decidable.em (((-9218868437227405312 ≤ sk (l.getD (k).toNat 0) ∧ sk (l.getD (k).toNat 0) ≤ 9218868437227405312) ∧ (-9218868437227405312 ≤ sk (l.getD (k).toNat 0) ∧ sk (l.getD (k).toNat 0) ≤ 9218868437227405312)) ∧ sk (l.getD (k).toNat 0) = sk (l.getD (k).toNat 0)) with hg1 | hg1
      · refine WS.pure rfl rfl (fun _ => LV.as (LV.eqF (a := (l.getD (k).toNat 0)) (b := (l.getD (k).toNat 0)) rfl rfl) (decide_eq_true hg1)) ?_
        iterate 3 refine WS.pure rfl rfl (fun _ => LV.mv rfl) ?_
        obtain ⟨A5, c5, e5, g5⟩ := St.elt (SH.stN hS2 h_l) 0 k (by omega) (by omega)
        refine WS.pure rfl rfl (fun _ => LV.idxA Try.underlying29 ti22.sz rfl e5 rfl (by omega) (by omega)) ?_
        refine WS.look rfl rfl (fun _ hk_ => LV.load1 (v := (.float .f64 (l.getD (k).toNat 0))) Try.underlying22 rfl rfl (g5 _ hk_ 0 _ rfl)) ?_
        iterate 2 refine WS.pure rfl rfl (fun _ => LV.mv rfl) ?_
        obtain ⟨A6, c6, e6, g6⟩ := St.elt (SH.stN hS2 h_l) 0 i (by omega) (by omega)
        refine WS.pure rfl rfl (fun _ => LV.idxA Try.underlying29 ti22.sz rfl e6 rfl (by omega) (by omega)) ?_
        refine WS.look rfl rfl (fun _ hk_ => LV.load1 (v := (.float .f64 (l.getD (i).toNat 0))) Try.underlying22 rfl rfl (g6 _ hk_ 0 _ rfl)) ?_
        refine WS.call rfl rfl (XC.fn Try.func15 (by kernel_rfl) rfl rfl rfl) (rorder_calls (a := (l.getD (k).toNat 0)) (b := (l.getD (i).toNat 0)) (by first | assumption | omega | exact hp _ (getD_mem (by omega)) | exact hpz _ (getD_mem (by omega))) (by first | assumption | omega | exact hp _ (getD_mem (by omega)) | exact hpz _ (getD_mem (by omega)))) ?_
        rintro v_ w3 ⟨rfl, hk1⟩
        have hS3 := SH.same hS2 hk1
        refine ⟨fun h_ => (KB.transN (KB.refl _ _) hk1), ?_⟩
        refine WS.pure rfl rfl (fun _ => LV.gtI rfl rfl) ?_
        refine WS.pure rfl rfl (fun _ => LV.pickT rfl rfl) ?_
        refine WS.nil (thenQ.n ?_)
        refine WC.condP (p := (ORD (l.getD (k).toNat 0) (l.getD (i).toNat 0)) > 0) rfl (fun hc1 => ?_) (fun hc1 => ?_)
        · skip
          refine WC.region ?_
          refine WL.lv rfl (LV.asg rfl) ?_
          refine WL.nil (blockQ.n <| thenQ.n ?_)
          refine WC.region ?_
          refine WL.lv rfl (LV.mv rfl) ?_
          refine WL.lv rfl (LV.add rfl rfl (wr64 (by omega) (by omega))) ?_
          refine WL.lv rfl (LV.asg rfl) ?_
          refine WL.nil (thenQ.n ?_)
          exact ⟨_, by omega, false, k + 1, by omega, by omega, ((top_step klo).trans ⟨fun h_ => absurd (h_.2 (by omega)) (by omega), fun h_ => absurd h_ Bool.false_ne_true⟩), hS3, rfl, Weak.cons rfl <| Weak.cons rfl <| Weak.cons rfl <| Weak.cons rfl <| Weak.nil _⟩
        · skip
          refine WC.skip (blockQ.n <| thenQ.n ?_)
          refine WC.region ?_
          refine WL.lv rfl (LV.mv rfl) ?_
          refine WL.lv rfl (LV.add rfl rfl (wr64 (by omega) (by omega))) ?_
          refine WL.lv rfl (LV.asg rfl) ?_
          refine WL.nil (thenQ.n ?_)
          exact ⟨_, by omega, ok, k + 1, by omega, by omega, ((top_step klo).trans ⟨fun h_ => r1.1 h_.1, fun h_ => ⟨r1.2 h_, fun h2_ => by omega⟩⟩), hS3, rfl, Weak.cons rfl <| Weak.cons rfl <| Weak.cons rfl <| Weak.cons rfl <| Weak.nil _⟩
      · refine WS.pure rfl rfl (fun _ => LV.as (LV.eqF (a := (l.getD (k).toNat 0)) (b := (l.getD (k).toNat 0)) rfl rfl) (decide_eq_false hg1)) ?_
        refine WS.pure rfl rfl (fun _ => LV.mv rfl) ?_
        iterate 3 refine WS.off rfl rfl ?_
        refine WS.offL rfl rfl ?_
        iterate 3 refine WS.off rfl rfl ?_
        refine WS.offL rfl rfl ?_
        refine WS.offF rfl rfl (fun h_ => (KB.refl _ _)) ?_
        refine WS.off rfl rfl ?_
        refine WS.pure rfl rfl (fun _ => LV.pickF rfl rfl) ?_
        refine WS.nil (thenQ.n ?_)
        refine WC.condF rfl ?_
        refine WC.skip (blockQ.n <| thenQ.n ?_)
        refine WC.region ?_
        refine WL.lv rfl (LV.mv rfl) ?_
        refine WL.lv rfl (LV.add rfl rfl (wr64 (by omega) (by omega))) ?_
        refine WL.lv rfl (LV.asg rfl) ?_
        refine WL.nil (thenQ.n ?_)
        exact ⟨_, by omega, ok, k + 1, by omega, by omega, ((top_step klo).trans ⟨fun h_ => r1.1 h_.1, fun h_ => ⟨r1.2 h_, fun h2_ => by omega⟩⟩), hS2, rfl, Weak.cons rfl <| Weak.cons rfl <| Weak.cons rfl <| Weak.cons rfl <| Weak.nil _⟩
    · skip
      refine WC.exit (thenQ.x <| thenQ.x <| blockQ.hit <| thenQ.n ?_)
      refine WC.seq ?_
      refine WC.region ?_
      refine WL.lv rfl (LV.mv rfl) ?_
      refine WL.nil (thenQ.n ?_)
      refine WC.cond (b := ok) rfl (fun hc2 => ?_) (fun hc2 => ?_)
      · have kfin : k = (l.length : Int) := by omega
        refine WC.seq ?_
        refine WC.region ?_
        refine WL.lv rfl (LV.mv rfl) ?_
        refine WL.lv rfl (LV.asg rfl) ?_
        refine WL.nil (thenQ.n ?_)
        refine WC.ret (blockQ.r <| thenQ.r <| thenQ.r <| blockQ.r <| thenQ.r <| ?_)
        exact ⟨_, fun a ha => res1 rfl ha rfl, i, congrArg (Value.int .i64) (by omega), top_yes ilo h9 (kfin ▸ r1.2 hc2) q1, hL2.kb⟩
      · have kfin : k = (l.length : Int) := by omega
        refine WC.skip (blockQ.n <| thenQ.n ?_)
        refine WC.region ?_
        refine WL.lv rfl (LV.mv rfl) ?_
        refine WL.lv rfl (LV.add rfl rfl (wr64 (by omega) (by omega))) ?_
        refine WL.lv rfl (LV.asg rfl) ?_
        refine WL.nil (thenQ.n ?_)
        exact ⟨_, by omega, i + 1, by omega, by omega, (all_step (p := fun t => ¬ Top l t l.length) q1 (fun h_ => by rw [← kfin] at h_; have h2_ := r1.1 h_; rw [hc2] at h2_; cases h2_)), hL2, rfl, Weak.cons rfl <| Weak.cons rfl <| Weak.nil _⟩
  · skip
    refine WC.exit (thenQ.x <| thenQ.x <| blockQ.hit <| thenQ.n ?_)
    refine WC.seq ?_
    refine WC.region ?_
    refine WL.lv rfl (LV.asg rfl) ?_
    refine WL.nil (thenQ.n ?_)
    refine WC.ret (?_)
    exact ⟨_, fun a ha => res1 rfl ha rfl, (-1), congrArg (Value.int .i64) (by omega), top_no (fun t h0_ h1_ => q1 t h0_ (by omega)), hL1.kb⟩

theorem rhalve_calls {w : World} {x : Nat} {n : Int} (hx : x < 18446744073709551616) :
    Calls Try.prog 25 #[(.float .f64 x), (.int .i64 n)] w fun e w' => ∃ v, e = .returned v ∧ (fun v w' => ∃ (r' : Nat), v = .float .f64 r' ∧ cn r' = HN (max 0 (min n 3000)).toNat (cn x) ∧ r' < 18446744073709551616 ∧ KB No w w') v w' := by
  have hS : SH w No w [] := SH.nil _ _
  refine calls (l := litOf [(.float .f64 x), (.int .i64 n)] 0) Try.func25 rfl (n := 18) rfl (Nat.le_of_ble_eq_true rfl) (lit_args _) ?_
  refine WC.seq ?_
  refine WC.region ?_
  refine WL.lv rfl (LV.asg rfl) ?_
  refine WL.nil (thenQ.n ?_)
  iterate 2 refine WC.seq ?_
  refine WC.region ?_
  refine WL.lv rfl (LV.asg rfl) ?_
  refine WL.nil (thenQ.n ?_)
  refine WC.block ?_
  refine WC.loop (fun m_ f_ w_ => ∃ (x2 : Nat) (i : Int), (0 ≤ i) ∧ (i ≤ max 0 (min n 3000)) ∧ (cn x2 = HN i.toNat (cn x)) ∧ (x2 < 18446744073709551616) ∧ SH w No w_ [] ∧ m_ = ((3000 - i).toNat) ∧ Weak (lit [(0, (.float .f64 x2)), (1, (.int .i64 n)), (5, (.int .i64 i))]) f_) _ ⟨x, 0, by omega, by omega, rfl, hx, hS, rfl, Weak.cons rfl <| Weak.cons rfl <| Weak.cons rfl <| Weak.nil _⟩ ?_
  rintro m1 f1 w1 ⟨x2, i, q0, q3, q1, q2, hL1, rfl, hw1⟩
  refine WC.weak hw1 ?_
  clear hw1
  iterate 2 refine WC.seq ?_
  refine WC.region ?_
  iterate 2 refine WL.lv rfl (LV.mv rfl) ?_
  rcases Decidable.em (i < n) with hg1 | hg1
  · refine WL.lv rfl (LV.as (LV.ltI rfl rfl) (decide_eq_true hg1)) ?_
    iterate 2 refine WL.lv rfl (LV.mv rfl) ?_
    refine WL.lv rfl (LV.ltI rfl rfl) ?_
    refine WL.lv rfl (LV.pickT rfl rfl) ?_
    refine WL.nil (thenQ.n ?_)
    refine WC.condP (p := i < 3000) rfl (fun hc1 => ?_) (fun hc1 => ?_)
    · skip
      refine WC.skip (thenQ.n ?_)
      refine WC.seq ?_
      refine WC.block ?_
      refine WC.region ?_
      refine WL.lv rfl (LV.mv rfl) ?_
      refine WL.xe rfl (XE.arF (a := x2) (b := 4611686018427387904) hL1 (.inr (.inr (.inr rfl))) rfl rfl) ?_
      rintro _ w2 ⟨r1, rfl, hr1, hb1, hS1, hk1⟩
      have hst_ := HN_step q0 q1 hr1
      have hbd_ := hb1
      refine WL.lv rfl (LV.asg rfl) ?_
      refine WL.nil (blockQ.n <| thenQ.n ?_)
      refine WC.region ?_
      refine WL.lv rfl (LV.mv rfl) ?_
      refine WL.lv rfl (LV.add rfl rfl (wr64 (by omega) (by omega))) ?_
      refine WL.lv rfl (LV.asg rfl) ?_
      refine WL.nil (thenQ.n ?_)
      exact ⟨_, by omega, r1, i + 1, by omega, by omega, hst_, hbd_, hS1, rfl, Weak.cons rfl <| Weak.cons rfl <| Weak.cons rfl <| Weak.nil _⟩
    · skip
      refine WC.exit (thenQ.x <| thenQ.x <| blockQ.hit <| thenQ.n ?_)
      refine WC.seq ?_
      refine WC.region ?_
      refine WL.lv rfl (LV.mv rfl) ?_
      refine WL.lv rfl (LV.asg rfl) ?_
      refine WL.nil (thenQ.n ?_)
      refine WC.ret (?_)
      exact ⟨_, fun a ha => res1 rfl ha rfl, x2, congrArg FV (rfl), by rw [q1, show i = max 0 (min n 3000) by omega], q2, hL1.kb⟩
  · refine WL.lv rfl (LV.as (LV.ltI rfl rfl) (decide_eq_false hg1)) ?_
    refine WL.lv rfl (LV.mv rfl) ?_
    iterate 2 refine WL.off rfl ?_
    refine WL.lv rfl (LV.pickF rfl rfl) ?_
    refine WL.nil (thenQ.n ?_)
    refine WC.condF rfl ?_
    refine WC.exit (thenQ.x <| thenQ.x <| blockQ.hit <| thenQ.n ?_)
    refine WC.seq ?_
    refine WC.region ?_
    refine WL.lv rfl (LV.mv rfl) ?_
    refine WL.lv rfl (LV.asg rfl) ?_
    refine WL.nil (thenQ.n ?_)
    refine WC.ret (?_)
    exact ⟨_, fun a ha => res1 rfl ha rfl, x2, congrArg FV (rfl), by rw [q1, show i = max 0 (min n 3000) by omega], q2, hL1.kb⟩

theorem mean_calls {w : World} {A_l : Option Addr} {n_l c_l : Nat} {l : List Nat} (h_l : St No w (Rd eF (.slice A_l n_l c_l) l)) (hn_l : l.length = n_l)  :
    Calls Try.prog 28 #[(.slice A_l n_l c_l)] w fun e w' => ∃ v, e = .returned v ∧ (fun v w' => ∃ (r' : Nat), v = .float .f64 r' ∧ cn r' = MEAN l ∧ r' < 18446744073709551616 ∧ KB No w w') v w' := by
  subst hn_l
  have hma := Rd.max h_l.now
  have hS : SH w No w [] := SH.nil _ _
  refine calls (l := litOf [(.slice A_l l.length c_l)] 0) Try.func28 rfl (n := 21) rfl (Nat.le_of_ble_eq_true rfl) (lit_args _) ?_
  refine WC.seq ?_
  refine WC.region ?_
  refine WL.lv rfl (LV.asg rfl) ?_
  refine WL.nil (thenQ.n ?_)
  refine WC.seq ?_
  refine WC.region ?_
  refine WL.lv rfl (LV.asg rfl) ?_
  refine WL.nil (thenQ.n ?_)
  iterate 2 refine WC.seq ?_
  refine WC.region ?_
  refine WL.lv rfl (LV.mv rfl) ?_
  refine WL.lv rfl (LV.lenL Try.underlying29 rfl) ?_
  refine WL.lv rfl (LV.mv rfl) ?_
  refine WL.nil (thenQ.n ?_)
  refine WC.block ?_
  refine WC.loop (fun m_ f_ w_ => ∃ (sum : Nat) (ix : Int), (0 ≤ ix) ∧ (ix ≤ (l.length : Int)) ∧ (cn sum = fsum (l.take ix.toNat)) ∧ (sum < 18446744073709551616) ∧ SH w No w_ [] ∧ m_ = (((l.length : Int) - ix).toNat) ∧ Weak (lit [(0, (.slice A_l l.length c_l)), (3, (.float .f64 sum)), (6, (.slice A_l l.length c_l)), (7, (.int .i64 (l.length : Int))), (8, (.int .i64 ix))]) f_) _ ⟨0, 0, by omega, by omega, ((show cn 0 = some 0 by decide +kernel)), (by decide), hS, rfl, Weak.cons rfl <| Weak.cons rfl <| Weak.cons rfl <| Weak.cons rfl <| Weak.cons rfl <| Weak.nil _⟩ ?_
  rintro m1 f1 w1 ⟨sum, ix, ixlo, ixhi, q1, q2, hL1, rfl, hw1⟩
  refine WC.weak hw1 ?_
  clear hw1
  refine WC.seq ?_
  refine WC.region ?_
  refine WL.lv rfl (LV.ltI rfl rfl) ?_
  refine WL.nil (thenQ.n ?_)
  refine WC.seq ?_
  refine WC.condP (p := ix < (l.length : Int)) rfl (fun hk => ?_) (fun hk => ?_)
  · skip
    refine WC.skip (thenQ.n ?_)
    refine WC.seq ?_
    refine WC.block ?_
    refine WC.seq ?_
    refine WC.region ?_
    obtain ⟨A1, c1, e1, g1⟩ := St.elt (SH.stN hL1 h_l) 0 ix (by omega) (by omega)
    refine WL.lv rfl (LV.idxA Try.underlying29 ti22.sz rfl e1 rfl (by omega) (by omega)) ?_
    refine WL.lv rfl (LV.load1 (v := (.float .f64 (l.getD (ix).toNat 0))) Try.underlying22 rfl rfl (g1 _ (KB.refl No _) 0 _ rfl)) ?_
    refine WL.lv rfl (LV.asg rfl) ?_
    refine WL.nil (thenQ.n ?_)
    refine WC.region ?_
    iterate 2 refine WL.lv rfl (LV.mv rfl) ?_
    refine WL.xe rfl (XE.arF (a := sum) (b := (l.getD (ix).toNat 0)) hL1 (.inl rfl) rfl rfl) ?_
    rintro _ w2 ⟨r1, rfl, hr1, hb1, hS1, hk1⟩
    have hst_ := fsum_step ixlo hk q1 hr1
    have hbd_ := hb1
    refine WL.lv rfl (LV.asg rfl) ?_
    refine WL.nil (blockQ.n <| thenQ.n ?_)
    refine WC.region ?_
    refine WL.lv rfl (LV.add rfl rfl (wr64 (by omega) (by omega))) ?_
    refine WL.lv rfl (LV.mv rfl) ?_
    refine WL.nil (thenQ.n ?_)
    exact ⟨_, by omega, r1, ix + 1, by omega, by omega, hst_, hbd_, hS1, rfl, Weak.cons rfl <| Weak.cons rfl <| Weak.cons rfl <| Weak.cons rfl <| Weak.cons rfl <| Weak.nil _⟩
  · skip
    refine WC.exit (thenQ.x <| thenQ.x <| blockQ.hit <| thenQ.n ?_)
    refine WC.seq ?_
    refine WC.region ?_
    iterate 2 refine WL.lv rfl (LV.mv rfl) ?_
    refine WL.lv rfl (LV.lenL Try.underlying29 rfl) ?_
    refine WL.lv rfl (LV.cvtIF Try.underlying3 Try.underlying22 rfl) ?_
    refine WL.xe rfl (XE.arF (a := sum) (b := (floatOfInt .f64 (l.length : Int))) hL1 (.inr (.inr (.inr rfl))) rfl rfl) ?_
    rintro _ w3 ⟨r2, rfl, hr2, hb2, hS2, hk2⟩
    refine WL.lv rfl (LV.asg rfl) ?_
    refine WL.nil (thenQ.n ?_)
    refine WC.ret (?_)
    exact ⟨_, fun a ha => res1 rfl ha rfl, r2, congrArg FV (rfl), by rw [hr2, fop_is, q1, List.take_of_length_le (by omega)]; rfl, hb2, hS2.kb⟩

theorem rmean_calls {w : World} {A_l : Option Addr} {n_l c_l : Nat} {l : List Nat} (h_l : St No w (Rd eF (.slice A_l n_l c_l) l)) (hn_l : l.length = n_l)  :
    Calls Try.prog 29 #[(.slice A_l n_l c_l)] w fun e w' => ∃ v, e = .returned v ∧ (fun v w' => ∃ (r' : Nat), v = .float .f64 r' ∧ cn r' = MEAN l ∧ r' < 18446744073709551616 ∧ KB No w w') v w' := by
  subst hn_l
  have hma := Rd.max h_l.now
  have hS : SH w No w [] := SH.nil _ _
  refine calls (l := litOf [(.slice A_l l.length c_l)] 0) Try.func29 rfl (n := 22) rfl (Nat.le_of_ble_eq_true rfl) (lit_args _) ?_
  refine WC.seq ?_
  refine WC.region ?_
  refine WL.lv rfl (LV.asg rfl) ?_
  refine WL.nil (thenQ.n ?_)
  refine WC.seq ?_
  refine WC.region ?_
  refine WL.lv rfl (LV.asg rfl) ?_
  refine WL.nil (thenQ.n ?_)
  iterate 2 refine WC.seq ?_
  refine WC.region ?_
  refine WL.lv rfl (LV.asg rfl) ?_
  refine WL.nil (thenQ.n ?_)
  refine WC.block ?_
  refine WC.loop (fun m_ f_ w_ => ∃ (sum : Nat) (i : Int), (0 ≤ i) ∧ (i ≤ (l.length : Int)) ∧ (cn sum = fsum (l.take i.toNat)) ∧ (sum < 18446744073709551616) ∧ SH w No w_ [] ∧ m_ = (((l.length : Int) - i).toNat) ∧ Weak (lit [(0, (.slice A_l l.length c_l)), (3, (.float .f64 sum)), (4, (.int .i64 i))]) f_) _ ⟨0, 0, by omega, by omega, ((show cn 0 = some 0 by decide +kernel)), (by decide), hS, rfl, Weak.cons rfl <| Weak.cons rfl <| Weak.cons rfl <| Weak.nil _⟩ ?_
  rintro m1 f1 w1 ⟨sum, i, ilo, ihi, q1, q2, hL1, rfl, hw1⟩
  refine WC.weak hw1 ?_
  clear hw1
  iterate 2 refine WC.seq ?_
  refine WC.region ?_
  iterate 2 refine WL.lv rfl (LV.mv rfl) ?_
  refine WL.lv rfl (LV.lenL Try.underlying29 rfl) ?_
  refine WL.lv rfl (LV.ltI rfl rfl) ?_
  refine WL.nil (thenQ.n ?_)
  refine WC.condP (p := i < (l.length : Int)) rfl (fun hk => ?_) (fun hk => ?_)
  · skip
    refine WC.skip (thenQ.n ?_)
    refine WC.seq ?_
    refine WC.block ?_
    refine WC.region ?_
    iterate 3 refine WL.lv rfl (LV.mv rfl) ?_
    obtain ⟨A1, c1, e1, g1⟩ := St.elt (SH.stN hL1 h_l) 0 i (by omega) (by omega)
    refine WL.lv rfl (LV.idxA Try.underlying29 ti22.sz rfl e1 rfl (by omega) (by omega)) ?_
    refine WL.lv rfl (LV.load1 (v := (.float .f64 (l.getD (i).toNat 0))) Try.underlying22 rfl rfl (g1 _ (KB.refl No _) 0 _ rfl)) ?_
    refine WL.xe rfl (XE.arF (a := sum) (b := (l.getD (i).toNat 0)) hL1 (.inl rfl) rfl rfl) ?_
    rintro _ w2 ⟨r1, rfl, hr1, hb1, hS1, hk1⟩
    have hst_ := fsum_step ilo hk q1 hr1
    have hbd_ := hb1
    refine WL.lv rfl (LV.asg rfl) ?_
    refine WL.nil (blockQ.n <| thenQ.n ?_)
    refine WC.region ?_
    refine WL.lv rfl (LV.mv rfl) ?_
    refine WL.lv rfl (LV.add rfl rfl (wr64 (by omega) (by omega))) ?_
    refine WL.lv rfl (LV.asg rfl) ?_
    refine WL.nil (thenQ.n ?_)
    exact ⟨_, by omega, r1, i + 1, by omega, by omega, hst_, hbd_, hS1, rfl, Weak.cons rfl <| Weak.cons rfl <| Weak.cons rfl <| Weak.nil _⟩
  · skip
    refine WC.exit (thenQ.x <| thenQ.x <| blockQ.hit <| thenQ.n ?_)
    refine WC.seq ?_
    refine WC.region ?_
    iterate 2 refine WL.lv rfl (LV.mv rfl) ?_
    refine WL.lv rfl (LV.lenL Try.underlying29 rfl) ?_
    refine WL.lv rfl (LV.cvtIF Try.underlying3 Try.underlying22 rfl) ?_
    refine WL.xe rfl (XE.arF (a := sum) (b := (floatOfInt .f64 (l.length : Int))) hL1 (.inr (.inr (.inr rfl))) rfl rfl) ?_
    rintro _ w3 ⟨r2, rfl, hr2, hb2, hS2, hk2⟩
    refine WL.lv rfl (LV.asg rfl) ?_
    refine WL.nil (thenQ.n ?_)
    refine WC.ret (?_)
    exact ⟨_, fun a ha => res1 rfl ha rfl, r2, congrArg FV (rfl), by rw [hr2, fop_is, q1, List.take_of_length_le (by omega)]; rfl, hb2, hS2.kb⟩

end Go.Proofs.Ytlnnfcbndelcnaa
