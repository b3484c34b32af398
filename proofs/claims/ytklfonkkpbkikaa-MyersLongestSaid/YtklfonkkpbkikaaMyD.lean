/- Rows compared, and what the laws begin with. -/
import Derived.Test.YtklfonkkpbkikaaMyC
namespace Go.Proofs.Ytklfonkkpbkikaa
open Go Go.Gv Go.RowKit Go.Mys
set_option linter.unusedVariables false
set_option linter.unusedSimpArgs false

theorem ints_calls {w : World} {A0 A1 : Option Addr} {a b : List Int} {c0 c1 : Nat} (ha : St No w (Rd eI (.slice A0 a.length c0) a)) (hb : St No w (Rd eI (.slice A1 b.length c1) b)) :
    Calls Try.prog 20 #[(.slice A0 a.length c0), (.slice A1 b.length c1)] w fun e w' => ∃ v, e = .returned v ∧ (fun v w' => v = .bool (decide (a = b)) ∧ KB No w w') v w' := by
  have hma := Rd.max ha.now
  have hS : SH w No w [] := SH.nil _ _
  refine calls (l := litOf [(.slice A0 a.length c0), (.slice A1 b.length c1)] 0) Try.func20 rfl (n := 26) rfl (Nat.le_of_ble_eq_true rfl) (lit_args _) ?_
  refine WC.seq ?_
  refine WC.region ?_
  refine WL.lv rfl (LV.asg rfl) ?_
  refine WL.nil (thenQ.n ?_)
  iterate 2 refine WC.seq ?_
  refine WC.region ?_
  refine WL.lv rfl (LV.mv rfl) ?_
  refine WL.lv rfl (LV.lenL Try.underlying22 rfl) ?_
  refine WL.lv rfl (LV.mv rfl) ?_
  refine WL.lv rfl (LV.lenL Try.underlying22 rfl) ?_
  refine WL.lv rfl (LV.neI rfl rfl) ?_
  refine WL.nil (thenQ.n ?_)
  refine WC.condP (p := (a.length : Int) ≠ (b.length : Int)) rfl (fun h10 => ?_) (fun h10 => ?_)
  · skip
    refine WC.seq ?_
    refine WC.region ?_
    refine WL.lv rfl (LV.asg rfl) ?_
    refine WL.nil (thenQ.n ?_)
    refine WC.ret (thenQ.r <| ?_)
    exact ⟨_, fun a ha => res1 rfl ha rfl, congrArg Value.bool (decide_eq_false (fun h => h10 (by rw [h]))).symm, hS.kb⟩
  · skip
    refine WC.skip (thenQ.n ?_)
    iterate 2 refine WC.seq ?_
    refine WC.region ?_
    refine WL.lv rfl (LV.asg rfl) ?_
    refine WL.nil (thenQ.n ?_)
    refine WC.block ?_
    refine WC.loop (fun m_ f_ w_ => ∃ (i : Int), (0 ≤ i) ∧ (i ≤ a.length) ∧ (∀ t, 0 ≤ t → t < i → (gI a t = gI b t)) ∧ SH w No w_ [] ∧ m_ = (((a.length : Int) - i).toNat) ∧ Weak (lit [(0, (.slice A0 a.length c0)), (1, (.slice A1 b.length c1)), (4, (.bool false)), (5, (.int .i64 i))]) f_) _ ⟨0, by omega, by omega, (fun t h1 h2 => by omega), hS, rfl, Weak.cons rfl <| Weak.cons rfl <| Weak.cons rfl <| Weak.cons rfl <| Weak.nil _⟩ ?_
    rintro m1 f1 w1 ⟨i, q0, q1, q2, hL1, rfl, hw1⟩
    refine WC.weak hw1 ?_
    clear hw1
    iterate 2 refine WC.seq ?_
    refine WC.region ?_
    iterate 2 refine WL.lv rfl (LV.mv rfl) ?_
    refine WL.lv rfl (LV.lenL Try.underlying22 rfl) ?_
    refine WL.lv rfl (LV.ltI rfl rfl) ?_
    refine WL.nil (thenQ.n ?_)
    refine WC.condP (p := i < (a.length : Int)) rfl (fun h14 => ?_) (fun h14 => ?_)
    · skip
      refine WC.skip (thenQ.n ?_)
      refine WC.seq ?_
      refine WC.block ?_
      refine WC.seq ?_
      have hS1 := SH.drew hL1
      refine WC.regionD [] (fun w_ => KB No w1.drew w_) [(.pure, 0), (.pure, 1), (.pure, 2), (.look, 3), (.pure, 4), (.pure, 5), (.pure, 6), (.look, 7), (.pure, 8)] (by kernel_rfl) (by kernel_rfl) (KB.refl _ _) ?_
      iterate 2 refine WS.pure rfl rfl (fun _ => LV.mv rfl) ?_
      obtain ⟨A2, c2, e1, g1⟩ := St.elt (SH.stN hS1 ha) 0 i (by omega) (by omega)
      refine WS.pure rfl rfl (fun _ => LV.idxA Try.underlying22 ti3.sz rfl e1 rfl (by omega) (by omega)) ?_
      refine WS.look rfl rfl (fun _ hk_ => LV.load1 (v := (.int .i64 (gI a (i)))) Try.underlying3 rfl rfl (g1 _ hk_ 0 _ rfl)) ?_
      iterate 2 refine WS.pure rfl rfl (fun _ => LV.mv rfl) ?_
      obtain ⟨A3, c3, e2, g2⟩ := St.elt (SH.stN hS1 hb) 0 i (by omega) (by omega)
      refine WS.pure rfl rfl (fun _ => LV.idxA Try.underlying22 ti3.sz rfl e2 rfl (by omega) (by omega)) ?_
      refine WS.look rfl rfl (fun _ hk_ => LV.load1 (v := (.int .i64 (gI b (i)))) Try.underlying3 rfl rfl (g2 _ hk_ 0 _ rfl)) ?_
      refine WS.pure rfl rfl (fun _ => LV.neI rfl rfl) ?_
      refine WS.nil (thenQ.n ?_)
      refine WC.condP (p := (gI a (i)) ≠ (gI b (i))) rfl (fun h25 => ?_) (fun h25 => ?_)
      · skip
        refine WC.seq ?_
        refine WC.region ?_
        refine WL.lv rfl (LV.asg rfl) ?_
        refine WL.nil (thenQ.n ?_)
        refine WC.ret (blockQ.r <| thenQ.r <| thenQ.r <| blockQ.r <| thenQ.r <| ?_)
        exact ⟨_, fun a ha => res1 rfl ha rfl, congrArg Value.bool (decide_eq_false (fun h => h25 (by rw [h]))).symm, hS1.kb⟩
      · skip
        refine WC.skip (blockQ.n <| thenQ.n ?_)
        refine WC.region ?_
        refine WL.lv rfl (LV.mv rfl) ?_
        refine WL.lv rfl (LV.add rfl rfl (wr64 (by omega) (by omega))) ?_
        refine WL.lv rfl (LV.asg rfl) ?_
        refine WL.nil (thenQ.n ?_)
        exact ⟨_, by omega, i + 1, by omega, by omega, (all_step (p := fun t => gI a t = gI b t) q2 (Decidable.not_not.1 h25)), hS1, rfl, Weak.cons rfl <| Weak.cons rfl <| Weak.cons rfl <| Weak.cons rfl <| Weak.nil _⟩
    · skip
      refine WC.exit (thenQ.x <| thenQ.x <| blockQ.hit <| thenQ.n ?_)
      refine WC.seq ?_
      refine WC.region ?_
      refine WL.lv rfl (LV.asg rfl) ?_
      refine WL.nil (thenQ.n ?_)
      refine WC.ret (?_)
      exact ⟨_, fun a ha => res1 rfl ha rfl, congrArg Value.bool (decide_eq_true (ext_gI (by omega) fun t h1 h2 => q2 t h1 (by omega))).symm, hL1.kb⟩

theorem same7_calls {w : World} {A0 A1 : Option Addr} {a b : List Int} {c0 c1 : Nat} (ha : St No w (Rd eI (.slice A0 a.length c0) a)) (hb : St No w (Rd eI (.slice A1 b.length c1) b)) :
    Calls Try.prog 12 #[(.slice A0 a.length c0), (.slice A1 b.length c1)] w fun e w' => ∃ v, e = .returned v ∧ (fun v w' => v = .bool (decide (a = b)) ∧ KB No w w') v w' := by
  have hma := Rd.max ha.now
  have hS : SH w No w [] := SH.nil _ _
  refine calls (l := litOf [(.slice A0 a.length c0), (.slice A1 b.length c1)] 0) Try.func12 rfl (n := 26) rfl (Nat.le_of_ble_eq_true rfl) (lit_args _) ?_
  refine WC.seq ?_
  refine WC.region ?_
  refine WL.lv rfl (LV.asg rfl) ?_
  refine WL.nil (thenQ.n ?_)
  iterate 2 refine WC.seq ?_
  refine WC.region ?_
  refine WL.lv rfl (LV.mv rfl) ?_
  refine WL.lv rfl (LV.lenL Try.underlying26 rfl) ?_
  refine WL.lv rfl (LV.mv rfl) ?_
  refine WL.lv rfl (LV.lenL Try.underlying26 rfl) ?_
  refine WL.lv rfl (LV.neI rfl rfl) ?_
  refine WL.nil (thenQ.n ?_)
  refine WC.condP (p := (a.length : Int) ≠ (b.length : Int)) rfl (fun h10 => ?_) (fun h10 => ?_)
  · skip
    refine WC.seq ?_
    refine WC.region ?_
    refine WL.lv rfl (LV.asg rfl) ?_
    refine WL.nil (thenQ.n ?_)
    refine WC.ret (thenQ.r <| ?_)
    exact ⟨_, fun a ha => res1 rfl ha rfl, congrArg Value.bool (decide_eq_false (fun h => h10 (by rw [h]))).symm, hS.kb⟩
  · skip
    refine WC.skip (thenQ.n ?_)
    iterate 2 refine WC.seq ?_
    refine WC.region ?_
    refine WL.lv rfl (LV.asg rfl) ?_
    refine WL.nil (thenQ.n ?_)
    refine WC.block ?_
    refine WC.loop (fun m_ f_ w_ => ∃ (i : Int), (0 ≤ i) ∧ (i ≤ a.length) ∧ (∀ t, 0 ≤ t → t < i → (gI a t = gI b t)) ∧ SH w No w_ [] ∧ m_ = (((a.length : Int) - i).toNat) ∧ Weak (lit [(0, (.slice A0 a.length c0)), (1, (.slice A1 b.length c1)), (4, (.bool false)), (5, (.int .i64 i))]) f_) _ ⟨0, by omega, by omega, (fun t h1 h2 => by omega), hS, rfl, Weak.cons rfl <| Weak.cons rfl <| Weak.cons rfl <| Weak.cons rfl <| Weak.nil _⟩ ?_
    rintro m1 f1 w1 ⟨i, q0, q1, q2, hL1, rfl, hw1⟩
    refine WC.weak hw1 ?_
    clear hw1
    iterate 2 refine WC.seq ?_
    refine WC.region ?_
    iterate 2 refine WL.lv rfl (LV.mv rfl) ?_
    refine WL.lv rfl (LV.lenL Try.underlying26 rfl) ?_
    refine WL.lv rfl (LV.ltI rfl rfl) ?_
    refine WL.nil (thenQ.n ?_)
    refine WC.condP (p := i < (a.length : Int)) rfl (fun h14 => ?_) (fun h14 => ?_)
    · skip
      refine WC.skip (thenQ.n ?_)
      refine WC.seq ?_
      refine WC.block ?_
      refine WC.seq ?_
      have hS1 := SH.drew hL1
      refine WC.regionD [] (fun w_ => KB No w1.drew w_) [(.pure, 0), (.pure, 1), (.pure, 2), (.look, 3), (.pure, 4), (.pure, 5), (.pure, 6), (.look, 7), (.pure, 8)] (by kernel_rfl) (by kernel_rfl) (KB.refl _ _) ?_
      iterate 2 refine WS.pure rfl rfl (fun _ => LV.mv rfl) ?_
      obtain ⟨A2, c2, e1, g1⟩ := St.elt (SH.stN hS1 ha) 0 i (by omega) (by omega)
      refine WS.pure rfl rfl (fun _ => LV.idxA Try.underlying26 ti38.sz rfl e1 rfl (by omega) (by omega)) ?_
      refine WS.look rfl rfl (fun _ hk_ => LV.load1 (v := (.int .i64 (gI a (i)))) Try.underlying38 rfl rfl (g1 _ hk_ 0 _ rfl)) ?_
      iterate 2 refine WS.pure rfl rfl (fun _ => LV.mv rfl) ?_
      obtain ⟨A3, c3, e2, g2⟩ := St.elt (SH.stN hS1 hb) 0 i (by omega) (by omega)
      refine WS.pure rfl rfl (fun _ => LV.idxA Try.underlying26 ti38.sz rfl e2 rfl (by omega) (by omega)) ?_
      refine WS.look rfl rfl (fun _ hk_ => LV.load1 (v := (.int .i64 (gI b (i)))) Try.underlying38 rfl rfl (g2 _ hk_ 0 _ rfl)) ?_
      refine WS.pure rfl rfl (fun _ => LV.neI rfl rfl) ?_
      refine WS.nil (thenQ.n ?_)
      refine WC.condP (p := (gI a (i)) ≠ (gI b (i))) rfl (fun h25 => ?_) (fun h25 => ?_)
      · skip
        refine WC.seq ?_
        refine WC.region ?_
        refine WL.lv rfl (LV.asg rfl) ?_
        refine WL.nil (thenQ.n ?_)
        refine WC.ret (blockQ.r <| thenQ.r <| thenQ.r <| blockQ.r <| thenQ.r <| ?_)
        exact ⟨_, fun a ha => res1 rfl ha rfl, congrArg Value.bool (decide_eq_false (fun h => h25 (by rw [h]))).symm, hS1.kb⟩
      · skip
        refine WC.skip (blockQ.n <| thenQ.n ?_)
        refine WC.region ?_
        refine WL.lv rfl (LV.mv rfl) ?_
        refine WL.lv rfl (LV.add rfl rfl (wr64 (by omega) (by omega))) ?_
        refine WL.lv rfl (LV.asg rfl) ?_
        refine WL.nil (thenQ.n ?_)
        exact ⟨_, by omega, i + 1, by omega, by omega, (all_step (p := fun t => gI a t = gI b t) q2 (Decidable.not_not.1 h25)), hS1, rfl, Weak.cons rfl <| Weak.cons rfl <| Weak.cons rfl <| Weak.cons rfl <| Weak.nil _⟩
    · skip
      refine WC.exit (thenQ.x <| thenQ.x <| blockQ.hit <| thenQ.n ?_)
      refine WC.seq ?_
      refine WC.region ?_
      refine WL.lv rfl (LV.asg rfl) ?_
      refine WL.nil (thenQ.n ?_)
      refine WC.ret (?_)
      exact ⟨_, fun a ha => res1 rfl ha rfl, congrArg Value.bool (decide_eq_true (ext_gI (by omega) fun t h1 h2 => q2 t h1 (by omega))).symm, hL1.kb⟩

theorem same6_calls {w : World} {A0 A1 : Option Addr} {a b : List (Int × Int)} {c0 c1 : Nat} (ha : St No w (Rd eP (.slice A0 a.length c0) a)) (hb : St No w (Rd eP (.slice A1 b.length c1) b)) :
    Calls Try.prog 15 #[(.slice A0 a.length c0), (.slice A1 b.length c1)] w fun e w' => ∃ v, e = .returned v ∧ (fun v w' => v = .bool (decide (a = b)) ∧ KB No w w') v w' := by
  have hma := Rd.max ha.now
  have hS : SH w No w [] := SH.nil _ _
  refine calls (l := litOf [(.slice A0 a.length c0), (.slice A1 b.length c1)] 0) Try.func15 rfl (n := 26) rfl (Nat.le_of_ble_eq_true rfl) (lit_args _) ?_
  refine WC.seq ?_
  refine WC.region ?_
  refine WL.lv rfl (LV.asg rfl) ?_
  refine WL.nil (thenQ.n ?_)
  iterate 2 refine WC.seq ?_
  refine WC.region ?_
  refine WL.lv rfl (LV.mv rfl) ?_
  refine WL.lv rfl (LV.lenL Try.underlying29 rfl) ?_
  refine WL.lv rfl (LV.mv rfl) ?_
  refine WL.lv rfl (LV.lenL Try.underlying29 rfl) ?_
  refine WL.lv rfl (LV.neI rfl rfl) ?_
  refine WL.nil (thenQ.n ?_)
  refine WC.condP (p := (a.length : Int) ≠ (b.length : Int)) rfl (fun h10 => ?_) (fun h10 => ?_)
  · skip
    refine WC.seq ?_
    refine WC.region ?_
    refine WL.lv rfl (LV.asg rfl) ?_
    refine WL.nil (thenQ.n ?_)
    refine WC.ret (thenQ.r <| ?_)
    exact ⟨_, fun a ha => res1 rfl ha rfl, congrArg Value.bool (decide_eq_false (fun h => h10 (by rw [h]))).symm, hS.kb⟩
  · skip
    refine WC.skip (thenQ.n ?_)
    iterate 2 refine WC.seq ?_
    refine WC.region ?_
    refine WL.lv rfl (LV.asg rfl) ?_
    refine WL.nil (thenQ.n ?_)
    refine WC.block ?_
    refine WC.loop (fun m_ f_ w_ => ∃ (i : Int), (0 ≤ i) ∧ (i ≤ a.length) ∧ (∀ t, 0 ≤ t → t < i → ((a.getD t.toNat (0, 0)).1 = (b.getD t.toNat (0, 0)).1 ∧ (a.getD t.toNat (0, 0)).2 = (b.getD t.toNat (0, 0)).2)) ∧ SH w No w_ [] ∧ m_ = (((a.length : Int) - i).toNat) ∧ Weak (lit [(0, (.slice A0 a.length c0)), (1, (.slice A1 b.length c1)), (4, (.bool false)), (5, (.int .i64 i))]) f_) _ ⟨0, by omega, by omega, (fun t h1 h2 => by omega), hS, rfl, Weak.cons rfl <| Weak.cons rfl <| Weak.cons rfl <| Weak.cons rfl <| Weak.nil _⟩ ?_
    rintro m1 f1 w1 ⟨i, q0, q1, q2, hL1, rfl, hw1⟩
    refine WC.weak hw1 ?_
    clear hw1
    iterate 2 refine WC.seq ?_
    refine WC.region ?_
    iterate 2 refine WL.lv rfl (LV.mv rfl) ?_
    refine WL.lv rfl (LV.lenL Try.underlying29 rfl) ?_
    refine WL.lv rfl (LV.ltI rfl rfl) ?_
    refine WL.nil (thenQ.n ?_)
    refine WC.condP (p := i < (a.length : Int)) rfl (fun h14 => ?_) (fun h14 => ?_)
    · skip
      refine WC.skip (thenQ.n ?_)
      refine WC.seq ?_
      refine WC.block ?_
      refine WC.seq ?_
      have hS1 := SH.drew hL1
      refine WC.regionD [] (fun w_ => KB No w1.drew w_) [(.pure, 0), (.pure, 1), (.pure, 2), (.look, 3), (.pure, 4), (.pure, 5), (.pure, 6), (.look, 7), (.pure, 8)] (by kernel_rfl) (by kernel_rfl) (KB.refl _ _) ?_
      iterate 2 refine WS.pure rfl rfl (fun _ => LV.mv rfl) ?_
      obtain ⟨A2, c2, e1, g1⟩ := St.elt (SH.stN hS1 ha) (0, 0) i (by omega) (by omega)
      refine WS.pure rfl rfl (fun _ => LV.idxA Try.underlying29 ti34.sz rfl e1 rfl (by omega) (by omega)) ?_
      refine WS.look rfl rfl (fun _ hk_ => LV.loadAgg (cs := [(.int .i64 ((a.getD (i).toNat (0, 0)).1)), (.int .i64 ((a.getD (i).toNat (0, 0)).2))]) Try.underlying34 rfl ti34 rfl rfl (fun j u hu => g1 _ hk_ j u hu)) ?_
      iterate 2 refine WS.pure rfl rfl (fun _ => LV.mv rfl) ?_
      obtain ⟨A3, c3, e2, g2⟩ := St.elt (SH.stN hS1 hb) (0, 0) i (by omega) (by omega)
      refine WS.pure rfl rfl (fun _ => LV.idxA Try.underlying29 ti34.sz rfl e2 rfl (by omega) (by omega)) ?_
      refine WS.look rfl rfl (fun _ hk_ => LV.loadAgg (cs := [(.int .i64 ((b.getD (i).toNat (0, 0)).1)), (.int .i64 ((b.getD (i).toNat (0, 0)).2))]) Try.underlying34 rfl ti34 rfl rfl (fun j u hu => g2 _ hk_ j u hu)) ?_
      refine WS.pure rfl rfl (fun _ => LV.neA2 Try.underlying34 Try.underlying3 ti3.sz (by kernel_rfl) rfl rfl) ?_
      refine WS.nil (thenQ.n ?_)
      refine WC.condP (p := ¬ (((a.getD (i).toNat (0, 0)).1) = ((b.getD (i).toNat (0, 0)).1) ∧ ((a.getD (i).toNat (0, 0)).2) = ((b.getD (i).toNat (0, 0)).2))) rfl (fun h25 => ?_) (fun h25 => ?_)
      · skip
        refine WC.seq ?_
        refine WC.region ?_
        refine WL.lv rfl (LV.asg rfl) ?_
        refine WL.nil (thenQ.n ?_)
        refine WC.ret (blockQ.r <| thenQ.r <| thenQ.r <| blockQ.r <| thenQ.r <| ?_)
        exact ⟨_, fun a ha => res1 rfl ha rfl, congrArg Value.bool (decide_eq_false (fun h => h25 (by rw [h]; exact ⟨rfl, rfl⟩))).symm, hS1.kb⟩
      · skip
        refine WC.skip (blockQ.n <| thenQ.n ?_)
        refine WC.region ?_
        refine WL.lv rfl (LV.mv rfl) ?_
        refine WL.lv rfl (LV.add rfl rfl (wr64 (by omega) (by omega))) ?_
        refine WL.lv rfl (LV.asg rfl) ?_
        refine WL.nil (thenQ.n ?_)
        exact ⟨_, by omega, i + 1, by omega, by omega, (all_step (p := fun t => (a.getD t.toNat (0, 0)).1 = (b.getD t.toNat (0, 0)).1 ∧ (a.getD t.toNat (0, 0)).2 = (b.getD t.toNat (0, 0)).2) q2 (Decidable.not_not.1 h25)), hS1, rfl, Weak.cons rfl <| Weak.cons rfl <| Weak.cons rfl <| Weak.cons rfl <| Weak.nil _⟩
    · skip
      refine WC.exit (thenQ.x <| thenQ.x <| blockQ.hit <| thenQ.n ?_)
      refine WC.seq ?_
      refine WC.region ?_
      refine WL.lv rfl (LV.asg rfl) ?_
      refine WL.nil (thenQ.n ?_)
      refine WC.ret (?_)
      exact ⟨_, fun a ha => res1 rfl ha rfl, congrArg Value.bool (decide_eq_true (ext_gP (by omega) fun t h1 h2 => q2 t h1 (by omega))).symm, hL1.kb⟩

theorem few_calls {w : World} {A0 : Option Addr} {a : List Int} {c0 : Nat} (ha : St No w (Rd eI (.slice A0 a.length c0) a)) :
    Calls Try.prog 10 #[(.slice A0 a.length c0)] w fun e w' => ∃ v, e = .returned v ∧ (fun v w' => v = .slice (cutA A0 c0 1) (a.take 40).length c0 ∧ KB No w w') v w' := by
  have hS : SH w No w [] := SH.nil _ _
  refine calls (l := litOf [(.slice A0 a.length c0)] 0) Try.func10 rfl (n := 8) rfl (Nat.le_of_ble_eq_true rfl) (lit_args _) ?_
  refine WC.seq ?_
  refine WC.region ?_
  refine WL.lv rfl (LV.asg rfl) ?_
  refine WL.nil (thenQ.n ?_)
  refine WC.seq ?_
  refine WC.region ?_
  iterate 2 refine WL.lv rfl (LV.mv rfl) ?_
  refine WL.lv rfl (LV.lenL Try.underlying22 rfl) ?_
  refine WL.lv rfl (LV.minI rfl rfl) ?_
  have hcap1 : a.length ≤ c0 := (Rd.cap (St.now (SH.stN hS ha)))
  refine WL.lv rfl (LV.cut Try.underlying22 ti3.sz rfl rfl rfl rfl ⟨.inl ⟨rfl, rfl⟩, .inr ⟨.i64, by rw [Int.toNat_of_nonneg (a := min (a.length : Int) 40) (by omega)]⟩, .inl ⟨rfl, rfl⟩⟩ (by omega) (by omega) (by omega)) ?_
  refine WL.lv rfl (LV.asg rfl) ?_
  refine WL.nil (thenQ.n ?_)
  refine WC.ret (?_)
  exact ⟨_, fun a ha => res1 rfl ha rfl, congrArg (fun n => Value.slice (cutA A0 c0 1) n c0) (by rw [List.length_take]; omega), hS.kb⟩

theorem distance_eq {w : World} {A0 A1 : Option Addr} {a b : List Int} {c0 c1 na nb : Nat} {r : Int} (hr : Dst a b = r) (ha : St No w (Rd eI (.slice A0 na c0) a)) (hb : St No w (Rd eI (.slice A1 nb c1) b)) (hna : a.length = na) (hnb : b.length = nb) : Calls Try.prog 18 #[(.slice A0 na c0), (.slice A1 nb c1)] w fun e w' => ∃ v, e = .returned v ∧ (fun v w' => v = .int .i64 r ∧ KB No w w') v w' := by
  subst hna hnb hr; exact distance_calls ha hb
theorem steps7_eq {w : World} {A0 A1 : Option Addr} {a b : List Int} {c0 c1 na nb : Nat} {r : List Int} {nr : Nat} (hr : Stp a b = r) (hnr : r.length = nr) (ha : St No w (Rd eI (.slice A0 na c0) a)) (hb : St No w (Rd eI (.slice A1 nb c1) b)) (hna : a.length = na) (hnb : b.length = nb) : Calls Try.prog 13 #[(.slice A0 na c0), (.slice A1 nb c1)] w fun e w' => ∃ v, e = .returned v ∧ (fun v w' => ∃ A' c', v = .slice A' nr c' ∧ SH w No w' [rowE eI 38 (.slice A' nr c') r]) v w' := by
  subst hna hnb hnr hr; exact steps7_calls ha hb
theorem pairs7_eq {w : World} {A0 A1 : Option Addr} {a b : List Int} {c0 c1 na nb : Nat} {r : List (Int × Int)} {nr : Nat} (hr : Prs a b = r) (hnr : r.length = nr) (ha : St No w (Rd eI (.slice A0 na c0) a)) (hb : St No w (Rd eI (.slice A1 nb c1) b)) (hna : a.length = na) (hnb : b.length = nb) : Calls Try.prog 16 #[(.slice A0 na c0), (.slice A1 nb c1)] w fun e w' => ∃ v, e = .returned v ∧ (fun v w' => ∃ A' c', v = .slice A' nr c' ∧ SH w No w' [rowE eP 34 (.slice A' nr c') r]) v w' := by
  subst hna hnb hnr hr; exact pairs7_calls ha hb

theorem live_calls {w : World} :
    Calls Try.prog 11 #[] w fun e w' => ∃ v, e = .returned v ∧ (fun v w' => v = .bool true ∧ KB No w w') v w' := by
  have hS : SH w No w [] := SH.nil _ _
  refine calls (l := litOf [] 0) Try.func11 rfl (n := 53) rfl (Nat.le_of_ble_eq_true rfl) (lit_args _) ?_
  refine WC.seq ?_
  refine WC.region ?_
  refine WL.lv rfl (LV.asg rfl) ?_
  refine WL.nil (thenQ.n ?_)
  refine WC.seq ?_
  refine WC.region ?_
  refine WL.xe rfl (XE.buildSlice (E := eI) [(0, (.int .i64 1)), (1, (.int .i64 2)), (2, (.int .i64 3))] #[(.int .i64 1), (.int .i64 2), (.int .i64 3)] [1, 2, 3] hS Try.underlying22 ti3 rfl (by decide) (by kernel_rfl) (.inr rfl) rfl rfl (by decide)) ?_
  rintro _ w1 ⟨b1, rfl, hS1, hk1⟩
  refine WL.xe rfl (XE.buildSlice (E := eI) [(0, (.int .i64 2)), (1, (.int .i64 4))] #[(.int .i64 2), (.int .i64 4)] [2, 4] hS1 Try.underlying22 ti3 rfl (by decide) (by kernel_rfl) (.inr rfl) rfl rfl (by decide)) ?_
  rintro _ w2 ⟨b2, rfl, hS2, hk2⟩
  refine WL.call rfl (XC.fn Try.func13 (by kernel_rfl) rfl rfl rfl) (steps7_eq live_s rfl (SH.rd hS2 (.tail _ (.head _))) (SH.rd hS2 (.head _)) rfl rfl) ?_
  rintro v_ w3 ⟨A1, c1, rfl, hS3⟩
  have hS4 := SH.joinN hS2 hS3
  refine WL.lv rfl (LV.asg rfl) ?_
  refine WL.nil (thenQ.n ?_)
  refine WC.seq ?_
  refine WC.region ?_
  refine WL.xe rfl (XE.buildSlice (E := eI) [(0, (.int .i64 1)), (1, (.int .i64 2))] #[(.int .i64 1), (.int .i64 2)] [1, 2] hS4 Try.underlying22 ti3 rfl (by decide) (by kernel_rfl) (.inr rfl) rfl rfl (by decide)) ?_
  rintro _ w4 ⟨b3, rfl, hS5, hk3⟩
  refine WL.xe rfl (XE.buildSlice (E := eI) [(0, (.int .i64 2))] #[(.int .i64 2)] [2] hS5 Try.underlying22 ti3 rfl (by decide) (by kernel_rfl) (.inr rfl) rfl rfl (by decide)) ?_
  rintro _ w5 ⟨b4, rfl, hS6, hk4⟩
  refine WL.call rfl (XC.fn Try.func16 (by kernel_rfl) rfl rfl rfl) (pairs7_eq live_p rfl (SH.rd hS6 (.tail _ (.head _))) (SH.rd hS6 (.head _)) rfl rfl) ?_
  rintro v_ w6 ⟨A2, c2, rfl, hS7⟩
  have hS8 := SH.joinN hS6 hS7
  refine WL.lv rfl (LV.asg rfl) ?_
  refine WL.nil (thenQ.n ?_)
  refine WC.seq ?_
  refine WC.region ?_
  refine WL.lv rfl (LV.mv rfl) ?_
  refine WL.lv rfl (LV.lenL Try.underlying26 rfl) ?_
  refine WL.lv rfl (LV.as (c := true) (LV.eqI rfl rfl) (by decide)) ?_
  iterate 2 refine WL.lv rfl (LV.mv rfl) ?_
  obtain ⟨A3, c3, e1, g1⟩ := St.elt (SH.rd hS8 (.tail _ (.tail _ (.tail _ (.head _))))) 0 (0 : Int) (by decide) (by decide)
  refine WL.lv rfl (LV.idxA Try.underlying26 ti38.sz rfl e1 rfl (by decide) (by decide)) ?_
  refine WL.lv rfl (LV.load1 (v := (.int .i64 2)) Try.underlying38 rfl rfl (g1 _ (KB.refl No _) 0 _ rfl)) ?_
  refine WL.lv rfl (LV.as (c := true) (LV.eqI rfl rfl) (by decide)) ?_
  refine WL.lv rfl (LV.pickT rfl rfl) ?_
  iterate 2 refine WL.lv rfl (LV.mv rfl) ?_
  obtain ⟨A4, c4, e2, g2⟩ := St.elt (SH.rd hS8 (.tail _ (.tail _ (.tail _ (.head _))))) 0 (1 : Int) (by decide) (by decide)
  refine WL.lv rfl (LV.idxA Try.underlying26 ti38.sz rfl e2 rfl (by decide) (by decide)) ?_
  refine WL.lv rfl (LV.load1 (v := (.int .i64 1)) Try.underlying38 rfl rfl (g2 _ (KB.refl No _) 0 _ rfl)) ?_
  refine WL.lv rfl (LV.as (c := true) (LV.eqI rfl rfl) (by decide)) ?_
  refine WL.lv rfl (LV.pickT rfl rfl) ?_
  iterate 2 refine WL.lv rfl (LV.mv rfl) ?_
  obtain ⟨A5, c5, e3, g3⟩ := St.elt (SH.rd hS8 (.tail _ (.tail _ (.tail _ (.head _))))) 0 (2 : Int) (by decide) (by decide)
  refine WL.lv rfl (LV.idxA Try.underlying26 ti38.sz rfl e3 rfl (by decide) (by decide)) ?_
  refine WL.lv rfl (LV.load1 (v := (.int .i64 2)) Try.underlying38 rfl rfl (g3 _ (KB.refl No _) 0 _ rfl)) ?_
  refine WL.lv rfl (LV.as (c := true) (LV.eqI rfl rfl) (by decide)) ?_
  refine WL.lv rfl (LV.pickT rfl rfl) ?_
  iterate 2 refine WL.lv rfl (LV.mv rfl) ?_
  obtain ⟨A6, c6, e4, g4⟩ := St.elt (SH.rd hS8 (.tail _ (.tail _ (.tail _ (.head _))))) 0 (3 : Int) (by decide) (by decide)
  refine WL.lv rfl (LV.idxA Try.underlying26 ti38.sz rfl e4 rfl (by decide) (by decide)) ?_
  refine WL.lv rfl (LV.load1 (v := (.int .i64 3)) Try.underlying38 rfl rfl (g4 _ (KB.refl No _) 0 _ rfl)) ?_
  refine WL.lv rfl (LV.as (c := true) (LV.eqI rfl rfl) (by decide)) ?_
  refine WL.lv rfl (LV.pickT rfl rfl) ?_
  iterate 2 refine WL.lv rfl (LV.mv rfl) ?_
  refine WL.lv rfl (LV.lenL Try.underlying29 rfl) ?_
  refine WL.lv rfl (LV.as (c := true) (LV.eqI rfl rfl) (by decide)) ?_
  refine WL.lv rfl (LV.pickT rfl rfl) ?_
  iterate 2 refine WL.lv rfl (LV.mv rfl) ?_
  obtain ⟨A7, c7, e5, g5⟩ := St.elt (SH.rd hS8 (.head _)) (0, 0) (0 : Int) (by decide) (by decide)
  refine WL.lv rfl (LV.idxA Try.underlying29 ti34.sz rfl e5 rfl (by decide) (by decide)) ?_
  refine WL.lv rfl (LV.loadAgg (cs := [(.int .i64 1), (.int .i64 0)]) Try.underlying34 rfl ti34 rfl rfl (fun j u hu => g5 _ (KB.refl No _) j u hu)) ?_
  refine WL.lv rfl (LV.buildA (vs := [(0, (.int .i64 1)), (1, (.int .i64 0))]) (cs := #[(.int .i64 1), (.int .i64 0)]) Try.underlying34 ti34 ti3 rfl rfl) ?_
  refine WL.lv rfl (LV.as (c := true) (LV.eqA2 Try.underlying34 Try.underlying3 ti3.sz (by kernel_rfl) rfl rfl) (by decide)) ?_
  refine WL.lv rfl (LV.pickT rfl rfl) ?_
  refine WL.lv rfl (LV.mv rfl) ?_
  refine WL.xe rfl (XE.buildSlice (E := eI) [(0, (.int .i64 1))] #[(.int .i64 1)] [1] hS8 Try.underlying22 ti3 rfl (by decide) (by kernel_rfl) (.inr rfl) rfl rfl (by decide)) ?_
  rintro _ w7 ⟨b5, rfl, hS9, hk5⟩
  refine WL.call rfl (XC.fn Try.func18 (by kernel_rfl) rfl rfl rfl) (distance_eq live_d (SH.rd hS9 (.head _)) (Rd.stN Rd.nil) rfl rfl) ?_
  rintro v_ w8 ⟨rfl, hk6⟩
  have hS10 := SH.same hS9 hk6
  refine WL.lv rfl (LV.as (c := true) (LV.eqI rfl rfl) (by decide)) ?_
  refine WL.lv rfl (LV.pickT rfl rfl) ?_
  refine WL.lv rfl (LV.asg rfl) ?_
  refine WL.nil (thenQ.n ?_)
  refine WC.ret (?_)
  exact ⟨_, fun a ha => res1 rfl ha rfl, rfl, hS10.kb⟩

end Go.Proofs.Ytklfonkkpbkikaa
