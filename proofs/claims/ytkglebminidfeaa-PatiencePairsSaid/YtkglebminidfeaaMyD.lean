/- Rows compared, and what the laws begin with. -/
import Derived.Test.YtkglebminidfeaaMyC
namespace Go.Proofs.Ytkglebminidfeaa
open Go Go.Gv Go.RowKit Go.Mys
set_option linter.unusedVariables false
set_option linter.unusedSimpArgs false
theorem ti48 : TI Try.prog 48 (.int .i64 0) 1 8 := by unfold TI; kernel_rfl

theorem ints_calls {w : World} {A0 A1 : Option Addr} {a b : List Int} {c0 c1 : Nat} (ha : St No w (Rd eI (.slice A0 a.length c0) a)) (hb : St No w (Rd eI (.slice A1 b.length c1) b)) :
    Calls Try.prog 9 #[(.slice A0 a.length c0), (.slice A1 b.length c1)] w fun e w' => ∃ v, e = .returned v ∧ (fun v w' => v = .bool (decide (a = b)) ∧ KB No w w') v w' := by
  have hma := Rd.max ha.now
  have hS : SH w No w [] := SH.nil _ _
  refine calls (l := litOf [(.slice A0 a.length c0), (.slice A1 b.length c1)] 0) Try.func9 rfl (n := 26) rfl (Nat.le_of_ble_eq_true rfl) (lit_args _) ?_
  refine WC.seq ?_
  refine WC.region ?_
  refine WL.lv rfl (LV.asg rfl) ?_
  refine WL.nil (thenQ.n ?_)
  iterate 2 refine WC.seq ?_
  refine WC.region ?_
  refine WL.lv rfl (LV.mv rfl) ?_
  refine WL.lv rfl (LV.lenL Try.underlying22 rfl) ?_
  refine WL.lv rfl (LV.mv rfl) ?_
  refine WL.lv rfl (LV.lenL Try.underlying22 rfl) ?_
  refine WL.lv rfl (LV.neI rfl rfl) ?_
  refine WL.nil (thenQ.n ?_)
  refine WC.condP (p := (a.length : Int) ≠ (b.length : Int)) rfl (fun h10 => ?_) (fun h10 => ?_)
  · skip
    refine WC.seq ?_
    refine WC.region ?_
    refine WL.lv rfl (LV.asg rfl) ?_
    refine WL.nil (thenQ.n ?_)
    refine WC.ret (thenQ.r <| ?_)
    exact ⟨_, fun a ha => res1 rfl ha rfl, congrArg Value.bool (decide_eq_false (fun h => h10 (by rw [h]))).symm, hS.kb⟩
  · skip
    refine WC.skip (thenQ.n ?_)
    iterate 2 refine WC.seq ?_
    refine WC.region ?_
    refine WL.lv rfl (LV.asg rfl) ?_
    refine WL.nil (thenQ.n ?_)
    refine WC.block ?_
    refine WC.loop (fun m_ f_ w_ => ∃ (i : Int), (0 ≤ i) ∧ (i ≤ a.length) ∧ (∀ t, 0 ≤ t → t < i → (gI a t = gI b t)) ∧ SH w No w_ [] ∧ m_ = (((a.length : Int) - i).toNat) ∧ Weak (lit [(0, (.slice A0 a.length c0)), (1, (.slice A1 b.length c1)), (4, (.bool false)), (5, (.int .i64 i))]) f_) _ ⟨0, by omega, by omega, (fun t h1 h2 => by omega), hS, rfl, Weak.cons rfl <| Weak.cons rfl <| Weak.cons rfl <| Weak.cons rfl <| Weak.nil _⟩ ?_
    rintro m1 f1 w1 ⟨i, q0, q1, q2, hL1, rfl, hw1⟩
    refine WC.weak hw1 ?_
    clear hw1
    iterate 2 refine WC.seq ?_
    refine WC.region ?_
    iterate 2 refine WL.lv rfl (LV.mv rfl) ?_
    refine WL.lv rfl (LV.lenL Try.underlying22 rfl) ?_
    refine WL.lv rfl (LV.ltI rfl rfl) ?_
    refine WL.nil (thenQ.n ?_)
    refine WC.condP (p := i < (a.length : Int)) rfl (fun h14 => ?_) (fun h14 => ?_)
    · skip
      refine WC.skip (thenQ.n ?_)
      refine WC.seq ?_
      refine WC.block ?_
      refine WC.seq ?_
      have hS1 := SH.drew hL1
      refine WC.regionD [] (fun w_ => KB No w1.drew w_) [(.pure, 0), (.pure, 1), (.pure, 2), (.look, 3), (.pure, 4), (.pure, 5), (.pure, 6), (.look, 7), (.pure, 8)] (by kernel_rfl) (by kernel_rfl) (KB.refl _ _) ?_
      iterate 2 refine WS.pure rfl rfl (fun _ => LV.mv rfl) ?_
      obtain ⟨A2, c2, e1, g1⟩ := St.elt (SH.stN hS1 ha) 0 i (by omega) (by omega)
      refine WS.pure rfl rfl (fun _ => LV.idxA Try.underlying22 ti3.sz rfl e1 rfl (by omega) (by omega)) ?_
      refine WS.look rfl rfl (fun _ hk_ => LV.load1 (v := (.int .i64 (gI a (i)))) Try.underlying3 rfl rfl (g1 _ hk_ 0 _ rfl)) ?_
      iterate 2 refine WS.pure rfl rfl (fun _ => LV.mv rfl) ?_
      obtain ⟨A3, c3, e2, g2⟩ := St.elt (SH.stN hS1 hb) 0 i (by omega) (by omega)
      refine WS.pure rfl rfl (fun _ => LV.idxA Try.underlying22 ti3.sz rfl e2 rfl (by omega) (by omega)) ?_
      refine WS.look rfl rfl (fun _ hk_ => LV.load1 (v := (.int .i64 (gI b (i)))) Try.underlying3 rfl rfl (g2 _ hk_ 0 _ rfl)) ?_
      refine WS.pure rfl rfl (fun _ => LV.neI rfl rfl) ?_
      refine WS.nil (thenQ.n ?_)
      refine WC.condP (p := (gI a (i)) ≠ (gI b (i))) rfl (fun h25 => ?_) (fun h25 => ?_)
      · skip
        refine WC.seq ?_
        refine WC.region ?_
        refine WL.lv rfl (LV.asg rfl) ?_
        refine WL.nil (thenQ.n ?_)
        refine WC.ret (blockQ.r <| thenQ.r <| thenQ.r <| blockQ.r <| thenQ.r <| ?_)
        exact ⟨_, fun a ha => res1 rfl ha rfl, congrArg Value.bool (decide_eq_false (fun h => h25 (by rw [h]))).symm, hS1.kb⟩
      · skip
        refine WC.skip (blockQ.n <| thenQ.n ?_)
        refine WC.region ?_
        refine WL.lv rfl (LV.mv rfl) ?_
        refine WL.lv rfl (LV.add rfl rfl (wr64 (by omega) (by omega))) ?_
        refine WL.lv rfl (LV.asg rfl) ?_
        refine WL.nil (thenQ.n ?_)
        exact ⟨_, by omega, i + 1, by omega, by omega, (all_step (p := fun t => gI a t = gI b t) q2 (Decidable.not_not.1 h25)), hS1, rfl, Weak.cons rfl <| Weak.cons rfl <| Weak.cons rfl <| Weak.cons rfl <| Weak.nil _⟩
    · skip
      refine WC.exit (thenQ.x <| thenQ.x <| blockQ.hit <| thenQ.n ?_)
      refine WC.seq ?_
      refine WC.region ?_
      refine WL.lv rfl (LV.asg rfl) ?_
      refine WL.nil (thenQ.n ?_)
      refine WC.ret (?_)
      exact ⟨_, fun a ha => res1 rfl ha rfl, congrArg Value.bool (decide_eq_true (ext_gI (by omega) fun t h1 h2 => q2 t h1 (by omega))).symm, hL1.kb⟩

theorem same7_calls {w : World} {A0 A1 : Option Addr} {a b : List Int} {c0 c1 : Nat} (ha : St No w (Rd eI (.slice A0 a.length c0) a)) (hb : St No w (Rd eI (.slice A1 b.length c1) b)) :
    Calls Try.prog 17 #[(.slice A0 a.length c0), (.slice A1 b.length c1)] w fun e w' => ∃ v, e = .returned v ∧ (fun v w' => v = .bool (decide (a = b)) ∧ KB No w w') v w' := by
  have hma := Rd.max ha.now
  have hS : SH w No w [] := SH.nil _ _
  refine calls (l := litOf [(.slice A0 a.length c0), (.slice A1 b.length c1)] 0) Try.func17 rfl (n := 26) rfl (Nat.le_of_ble_eq_true rfl) (lit_args _) ?_
  refine WC.seq ?_
  refine WC.region ?_
  refine WL.lv rfl (LV.asg rfl) ?_
  refine WL.nil (thenQ.n ?_)
  iterate 2 refine WC.seq ?_
  refine WC.region ?_
  refine WL.lv rfl (LV.mv rfl) ?_
  refine WL.lv rfl (LV.lenL Try.underlying33 rfl) ?_
  refine WL.lv rfl (LV.mv rfl) ?_
  refine WL.lv rfl (LV.lenL Try.underlying33 rfl) ?_
  refine WL.lv rfl (LV.neI rfl rfl) ?_
  refine WL.nil (thenQ.n ?_)
  refine WC.condP (p := (a.length : Int) ≠ (b.length : Int)) rfl (fun h10 => ?_) (fun h10 => ?_)
  · skip
    refine WC.seq ?_
    refine WC.region ?_
    refine WL.lv rfl (LV.asg rfl) ?_
    refine WL.nil (thenQ.n ?_)
    refine WC.ret (thenQ.r <| ?_)
    exact ⟨_, fun a ha => res1 rfl ha rfl, congrArg Value.bool (decide_eq_false (fun h => h10 (by rw [h]))).symm, hS.kb⟩
  · skip
    refine WC.skip (thenQ.n ?_)
    iterate 2 refine WC.seq ?_
    refine WC.region ?_
    refine WL.lv rfl (LV.asg rfl) ?_
    refine WL.nil (thenQ.n ?_)
    refine WC.block ?_
    refine WC.loop (fun m_ f_ w_ => ∃ (i : Int), (0 ≤ i) ∧ (i ≤ a.length) ∧ (∀ t, 0 ≤ t → t < i → (gI a t = gI b t)) ∧ SH w No w_ [] ∧ m_ = (((a.length : Int) - i).toNat) ∧ Weak (lit [(0, (.slice A0 a.length c0)), (1, (.slice A1 b.length c1)), (4, (.bool false)), (5, (.int .i64 i))]) f_) _ ⟨0, by omega, by omega, (fun t h1 h2 => by omega), hS, rfl, Weak.cons rfl <| Weak.cons rfl <| Weak.cons rfl <| Weak.cons rfl <| Weak.nil _⟩ ?_
    rintro m1 f1 w1 ⟨i, q0, q1, q2, hL1, rfl, hw1⟩
    refine WC.weak hw1 ?_
    clear hw1
    iterate 2 refine WC.seq ?_
    refine WC.region ?_
    iterate 2 refine WL.lv rfl (LV.mv rfl) ?_
    refine WL.lv rfl (LV.lenL Try.underlying33 rfl) ?_
    refine WL.lv rfl (LV.ltI rfl rfl) ?_
    refine WL.nil (thenQ.n ?_)
    refine WC.condP (p := i < (a.length : Int)) rfl (fun h14 => ?_) (fun h14 => ?_)
    · skip
      refine WC.skip (thenQ.n ?_)
      refine WC.seq ?_
      refine WC.block ?_
      refine WC.seq ?_
      have hS1 := SH.drew hL1
      refine WC.regionD [] (fun w_ => KB No w1.drew w_) [(.pure, 0), (.pure, 1), (.pure, 2), (.look, 3), (.pure, 4), (.pure, 5), (.pure, 6), (.look, 7), (.pure, 8)] (by kernel_rfl) (by kernel_rfl) (KB.refl _ _) ?_
      iterate 2 refine WS.pure rfl rfl (fun _ => LV.mv rfl) ?_
      obtain ⟨A2, c2, e1, g1⟩ := St.elt (SH.stN hS1 ha) 0 i (by omega) (by omega)
      refine WS.pure rfl rfl (fun _ => LV.idxA Try.underlying33 ti48.sz rfl e1 rfl (by omega) (by omega)) ?_
      refine WS.look rfl rfl (fun _ hk_ => LV.load1 (v := (.int .i64 (gI a (i)))) Try.underlying48 rfl rfl (g1 _ hk_ 0 _ rfl)) ?_
      iterate 2 refine WS.pure rfl rfl (fun _ => LV.mv rfl) ?_
      obtain ⟨A3, c3, e2, g2⟩ := St.elt (SH.stN hS1 hb) 0 i (by omega) (by omega)
      refine WS.pure rfl rfl (fun _ => LV.idxA Try.underlying33 ti48.sz rfl e2 rfl (by omega) (by omega)) ?_
      refine WS.look rfl rfl (fun _ hk_ => LV.load1 (v := (.int .i64 (gI b (i)))) Try.underlying48 rfl rfl (g2 _ hk_ 0 _ rfl)) ?_
      refine WS.pure rfl rfl (fun _ => LV.neI rfl rfl) ?_
      refine WS.nil (thenQ.n ?_)
      refine WC.condP (p := (gI a (i)) ≠ (gI b (i))) rfl (fun h25 => ?_) (fun h25 => ?_)
      · skip
        refine WC.seq ?_
        refine WC.region ?_
        refine WL.lv rfl (LV.asg rfl) ?_
        refine WL.nil (thenQ.n ?_)
        refine WC.ret (blockQ.r <| thenQ.r <| thenQ.r <| blockQ.r <| thenQ.r <| ?_)
        exact ⟨_, fun a ha => res1 rfl ha rfl, congrArg Value.bool (decide_eq_false (fun h => h25 (by rw [h]))).symm, hS1.kb⟩
      · skip
        refine WC.skip (blockQ.n <| thenQ.n ?_)
        refine WC.region ?_
        refine WL.lv rfl (LV.mv rfl) ?_
        refine WL.lv rfl (LV.add rfl rfl (wr64 (by omega) (by omega))) ?_
        refine WL.lv rfl (LV.asg rfl) ?_
        refine WL.nil (thenQ.n ?_)
        exact ⟨_, by omega, i + 1, by omega, by omega, (all_step (p := fun t => gI a t = gI b t) q2 (Decidable.not_not.1 h25)), hS1, rfl, Weak.cons rfl <| Weak.cons rfl <| Weak.cons rfl <| Weak.cons rfl <| Weak.nil _⟩
    · skip
      refine WC.exit (thenQ.x <| thenQ.x <| blockQ.hit <| thenQ.n ?_)
      refine WC.seq ?_
      refine WC.region ?_
      refine WL.lv rfl (LV.asg rfl) ?_
      refine WL.nil (thenQ.n ?_)
      refine WC.ret (?_)
      exact ⟨_, fun a ha => res1 rfl ha rfl, congrArg Value.bool (decide_eq_true (ext_gI (by omega) fun t h1 h2 => q2 t h1 (by omega))).symm, hL1.kb⟩

theorem same6_calls {w : World} {A0 A1 : Option Addr} {a b : List (Int × Int)} {c0 c1 : Nat} (ha : St No w (Rd eP (.slice A0 a.length c0) a)) (hb : St No w (Rd eP (.slice A1 b.length c1) b)) :
    Calls Try.prog 12 #[(.slice A0 a.length c0), (.slice A1 b.length c1)] w fun e w' => ∃ v, e = .returned v ∧ (fun v w' => v = .bool (decide (a = b)) ∧ KB No w w') v w' := by
  have hma := Rd.max ha.now
  have hS : SH w No w [] := SH.nil _ _
  refine calls (l := litOf [(.slice A0 a.length c0), (.slice A1 b.length c1)] 0) Try.func12 rfl (n := 26) rfl (Nat.le_of_ble_eq_true rfl) (lit_args _) ?_
  refine WC.seq ?_
  refine WC.region ?_
  refine WL.lv rfl (LV.asg rfl) ?_
  refine WL.nil (thenQ.n ?_)
  iterate 2 refine WC.seq ?_
  refine WC.region ?_
  refine WL.lv rfl (LV.mv rfl) ?_
  refine WL.lv rfl (LV.lenL Try.underlying30 rfl) ?_
  refine WL.lv rfl (LV.mv rfl) ?_
  refine WL.lv rfl (LV.lenL Try.underlying30 rfl) ?_
  refine WL.lv rfl (LV.neI rfl rfl) ?_
  refine WL.nil (thenQ.n ?_)
  refine WC.condP (p := (a.length : Int) ≠ (b.length : Int)) rfl (fun h10 => ?_) (fun h10 => ?_)
  · skip
    refine WC.seq ?_
    refine WC.region ?_
    refine WL.lv rfl (LV.asg rfl) ?_
    refine WL.nil (thenQ.n ?_)
    refine WC.ret (thenQ.r <| ?_)
    exact ⟨_, fun a ha => res1 rfl ha rfl, congrArg Value.bool (decide_eq_false (fun h => h10 (by rw [h]))).symm, hS.kb⟩
  · skip
    refine WC.skip (thenQ.n ?_)
    iterate 2 refine WC.seq ?_
    refine WC.region ?_
    refine WL.lv rfl (LV.asg rfl) ?_
    refine WL.nil (thenQ.n ?_)
    refine WC.block ?_
    refine WC.loop (fun m_ f_ w_ => ∃ (i : Int), (0 ≤ i) ∧ (i ≤ a.length) ∧ (∀ t, 0 ≤ t → t < i → ((a.getD t.toNat (0, 0)).1 = (b.getD t.toNat (0, 0)).1 ∧ (a.getD t.toNat (0, 0)).2 = (b.getD t.toNat (0, 0)).2)) ∧ SH w No w_ [] ∧ m_ = (((a.length : Int) - i).toNat) ∧ Weak (lit [(0, (.slice A0 a.length c0)), (1, (.slice A1 b.length c1)), (4, (.bool false)), (5, (.int .i64 i))]) f_) _ ⟨0, by omega, by omega, (fun t h1 h2 => by omega), hS, rfl, Weak.cons rfl <| Weak.cons rfl <| Weak.cons rfl <| Weak.cons rfl <| Weak.nil _⟩ ?_
    rintro m1 f1 w1 ⟨i, q0, q1, q2, hL1, rfl, hw1⟩
    refine WC.weak hw1 ?_
    clear hw1
    iterate 2 refine WC.seq ?_
    refine WC.region ?_
    iterate 2 refine WL.lv rfl (LV.mv rfl) ?_
    refine WL.lv rfl (LV.lenL Try.underlying30 rfl) ?_
    refine WL.lv rfl (LV.ltI rfl rfl) ?_
    refine WL.nil (thenQ.n ?_)
    refine WC.condP (p := i < (a.length : Int)) rfl (fun h14 => ?_) (fun h14 => ?_)
    · skip
      refine WC.skip (thenQ.n ?_)
      refine WC.seq ?_
      refine WC.block ?_
      refine WC.seq ?_
      have hS1 := SH.drew hL1
      refine WC.regionD [] (fun w_ => KB No w1.drew w_) [(.pure, 0), (.pure, 1), (.pure, 2), (.look, 3), (.pure, 4), (.pure, 5), (.pure, 6), (.look, 7), (.pure, 8)] (by kernel_rfl) (by kernel_rfl) (KB.refl _ _) ?_
      iterate 2 refine WS.pure rfl rfl (fun _ => LV.mv rfl) ?_
      obtain ⟨A2, c2, e1, g1⟩ := St.elt (SH.stN hS1 ha) (0, 0) i (by omega) (by omega)
      refine WS.pure rfl rfl (fun _ => LV.idxA Try.underlying30 ti37.sz rfl e1 rfl (by omega) (by omega)) ?_
      refine WS.look rfl rfl (fun _ hk_ => LV.loadAgg (cs := [(.int .i64 ((a.getD (i).toNat (0, 0)).1)), (.int .i64 ((a.getD (i).toNat (0, 0)).2))]) Try.underlying37 rfl ti37 rfl rfl (fun j u hu => g1 _ hk_ j u hu)) ?_
      iterate 2 refine WS.pure rfl rfl (fun _ => LV.mv rfl) ?_
      obtain ⟨A3, c3, e2, g2⟩ := St.elt (SH.stN hS1 hb) (0, 0) i (by omega) (by omega)
      refine WS.pure rfl rfl (fun _ => LV.idxA Try.underlying30 ti37.sz rfl e2 rfl (by omega) (by omega)) ?_
      refine WS.look rfl rfl (fun _ hk_ => LV.loadAgg (cs := [(.int .i64 ((b.getD (i).toNat (0, 0)).1)), (.int .i64 ((b.getD (i).toNat (0, 0)).2))]) Try.underlying37 rfl ti37 rfl rfl (fun j u hu => g2 _ hk_ j u hu)) ?_
      refine WS.pure rfl rfl (fun _ => LV.neA2 Try.underlying37 Try.underlying3 ti3.sz (by kernel_rfl) rfl rfl) ?_
      refine WS.nil (thenQ.n ?_)
      refine WC.condP (p := ¬ (((a.getD (i).toNat (0, 0)).1) = ((b.getD (i).toNat (0, 0)).1) ∧ ((a.getD (i).toNat (0, 0)).2) = ((b.getD (i).toNat (0, 0)).2))) rfl (fun h25 => ?_) (fun h25 => ?_)
      · skip
        refine WC.seq ?_
        refine WC.region ?_
        refine WL.lv rfl (LV.asg rfl) ?_
        refine WL.nil (thenQ.n ?_)
        refine WC.ret (blockQ.r <| thenQ.r <| thenQ.r <| blockQ.r <| thenQ.r <| ?_)
        exact ⟨_, fun a ha => res1 rfl ha rfl, congrArg Value.bool (decide_eq_false (fun h => h25 (by rw [h]; exact ⟨rfl, rfl⟩))).symm, hS1.kb⟩
      · skip
        refine WC.skip (blockQ.n <| thenQ.n ?_)
        refine WC.region ?_
        refine WL.lv rfl (LV.mv rfl) ?_
        refine WL.lv rfl (LV.add rfl rfl (wr64 (by omega) (by omega))) ?_
        refine WL.lv rfl (LV.asg rfl) ?_
        refine WL.nil (thenQ.n ?_)
        exact ⟨_, by omega, i + 1, by omega, by omega, (all_step (p := fun t => (a.getD t.toNat (0, 0)).1 = (b.getD t.toNat (0, 0)).1 ∧ (a.getD t.toNat (0, 0)).2 = (b.getD t.toNat (0, 0)).2) q2 (Decidable.not_not.1 h25)), hS1, rfl, Weak.cons rfl <| Weak.cons rfl <| Weak.cons rfl <| Weak.cons rfl <| Weak.nil _⟩
    · skip
      refine WC.exit (thenQ.x <| thenQ.x <| blockQ.hit <| thenQ.n ?_)
      refine WC.seq ?_
      refine WC.region ?_
      refine WL.lv rfl (LV.asg rfl) ?_
      refine WL.nil (thenQ.n ?_)
      refine WC.ret (?_)
      exact ⟨_, fun a ha => res1 rfl ha rfl, congrArg Value.bool (decide_eq_true (ext_gP (by omega) fun t h1 h2 => q2 t h1 (by omega))).symm, hL1.kb⟩

theorem pairs7_eq {w : World} {A0 A1 : Option Addr} {a b : List Int} {c0 c1 na nb : Nat} {r : List (Int × Int)} {nr : Nat} (hr : Prs a b = r) (hnr : r.length = nr) (ha : St No w (Rd eI (.slice A0 na c0) a)) (hb : St No w (Rd eI (.slice A1 nb c1) b)) (hna : a.length = na) (hnb : b.length = nb) : Calls Try.prog 40 #[(.slice A0 na c0), (.slice A1 nb c1)] w fun e w' => ∃ v, e = .returned v ∧ (fun v w' => ∃ A' c', v = .slice A' nr c' ∧ SH w No w' [rowE eP 37 (.slice A' nr c') r]) v w' := by
  subst hna hnb hnr hr; exact pairs7_calls ha hb

end Go.Proofs.Ytkglebminidfeaa
