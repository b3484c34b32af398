/- Rows compared. -/
import Derived.Test.YtpgpiljnmhpnhaaNr
import Derived.Test.YtpgpiljnmhpnhaaGvH
import Derived.Test.YtpgpiljnmhpnhaaGvG
namespace Go.Proofs.Ytpgpiljnmhpnhaa
open Go Go.Gv Go.RowKit
set_option linter.unusedVariables false
set_option linter.unusedSimpArgs false
theorem ti38 : TI Try.prog 38 (.agg #[(.int .i64 0), (.int .i64 0)]) 2 16 := by unfold TI; kernel_rfl

theorem ints_calls {w : World} {A_a : Option Addr} {n_a c_a : Nat} {a : List Int} {A_b : Option Addr} {n_b c_b : Nat} {b : List Int} (h_a : St No w (Rd eI (.slice A_a n_a c_a) a)) (hn_a : a.length = n_a) (h_b : St No w (Rd eI (.slice A_b n_b c_b) b)) (hn_b : b.length = n_b)  :
    Calls Try.prog 11 #[(.slice A_a n_a c_a), (.slice A_b n_b c_b)] w fun e w' => ∃ v, e = .returned v ∧ (fun v w' => v = .bool (decide (a = b)) ∧ KB No w w') v w' := by
  subst hn_a hn_b
  have hma := Rd.max h_a.now
  have hS : SH w No w [] := SH.nil _ _
  refine calls (l := litOf [(.slice A_a a.length c_a), (.slice A_b b.length c_b)] 0) Try.func11 rfl (n := 26) rfl (Nat.le_of_ble_eq_true rfl) (lit_args _) ?_
  refine WC.seq ?_
  refine WC.region ?_
  refine WL.lv rfl (LV.asg rfl) ?_
  refine WL.nil (thenQ.n ?_)
  iterate 2 refine WC.seq ?_
  refine WC.region ?_
  refine WL.lv rfl (LV.mv rfl) ?_
  refine WL.lv rfl (LV.lenL Try.underlying28 rfl) ?_
  refine WL.lv rfl (LV.mv rfl) ?_
  refine WL.lv rfl (LV.lenL Try.underlying28 rfl) ?_
  refine WL.lv rfl (LV.neI rfl rfl) ?_
  refine WL.nil (thenQ.n ?_)
  refine WC.condP (p := (a.length : Int) ≠ (b.length : Int)) rfl (fun h10 => ?_) (fun h10 => ?_)
  · skip
    refine WC.seq ?_
    refine WC.region ?_
    refine WL.lv rfl (LV.asg rfl) ?_
    refine WL.nil (thenQ.n ?_)
    refine WC.ret (thenQ.r <| ?_)
    exact ⟨_, fun a ha => res1 rfl ha rfl, congrArg Value.bool ((decide_eq_false (fun h_ => by subst h_; first | omega | exact h25 rfl)).symm), hS.kb⟩
  · skip
    refine WC.skip (thenQ.n ?_)
    iterate 2 refine WC.seq ?_
    refine WC.region ?_
    refine WL.lv rfl (LV.asg rfl) ?_
    refine WL.nil (thenQ.n ?_)
    refine WC.block ?_
    refine WC.loop (fun m_ f_ w_ => ∃ (i : Int), (0 ≤ i) ∧ (i ≤ (a.length : Int)) ∧ (∀ t : Int, 0 ≤ t → t < i → gI a t = gI b t) ∧ SH w No w_ [] ∧ m_ = (((a.length : Int) - i).toNat) ∧ Weak (lit [(0, (.slice A_a a.length c_a)), (1, (.slice A_b b.length c_b)), (5, (.int .i64 i))]) f_) _ ⟨0, by omega, by omega, (fun t h1 h2 => by omega), hS, rfl, Weak.cons rfl <| Weak.cons rfl <| Weak.cons rfl <| Weak.nil _⟩ ?_
    rintro m1 f1 w1 ⟨i, ilo, ihi, q1, hL1, rfl, hw1⟩
    refine WC.weak hw1 ?_
    clear hw1
    iterate 2 refine WC.seq ?_
    refine WC.region ?_
    iterate 2 refine WL.lv rfl (LV.mv rfl) ?_
    refine WL.lv rfl (LV.lenL Try.underlying28 rfl) ?_
    refine WL.lv rfl (LV.ltI rfl rfl) ?_
    refine WL.nil (thenQ.n ?_)
    refine WC.condP (p := i < (a.length : Int)) rfl (fun hc1 => ?_) (fun hc1 => ?_)
    · skip
      refine WC.skip (thenQ.n ?_)
      refine WC.seq ?_
      refine WC.block ?_
      refine WC.seq ?_
      have hS1 := SH.drew hL1
      refine WC.regionD [] (fun w_ => KB No w1.drew w_) [(.pure, 0), (.pure, 1), (.pure, 2), (.look, 3), (.pure, 4), (.pure, 5), (.pure, 6), (.look, 7), (.pure, 8)] (by kernel_rfl) (by kernel_rfl) (KB.refl _ _) ?_
      iterate 2 refine WS.pure rfl rfl (fun _ => LV.mv rfl) ?_
      obtain ⟨A1, c1, e1, g1⟩ := St.elt (SH.stN hS1 h_a) 0 i (by omega) (by omega)
      refine WS.pure rfl rfl (fun _ => LV.idxA Try.underlying28 ti3.sz rfl e1 rfl (by omega) (by omega)) ?_
      refine WS.look rfl rfl (fun _ hk_ => LV.load1 (v := (.int .i64 (gI a (i)))) Try.underlying3 rfl rfl (g1 _ hk_ 0 _ rfl)) ?_
      iterate 2 refine WS.pure rfl rfl (fun _ => LV.mv rfl) ?_
      obtain ⟨A2, c2, e2, g2⟩ := St.elt (SH.stN hS1 h_b) 0 i (by omega) (by omega)
      refine WS.pure rfl rfl (fun _ => LV.idxA Try.underlying28 ti3.sz rfl e2 rfl (by omega) (by omega)) ?_
      refine WS.look rfl rfl (fun _ hk_ => LV.load1 (v := (.int .i64 (gI b (i)))) Try.underlying3 rfl rfl (g2 _ hk_ 0 _ rfl)) ?_
      refine WS.pure rfl rfl (fun _ => LV.neI rfl rfl) ?_
      refine WS.nil (thenQ.n ?_)
      refine WC.condP (p := (gI a (i)) ≠ (gI b (i))) rfl (fun h25 => ?_) (fun h25 => ?_)
      · skip
        refine WC.seq ?_
        refine WC.region ?_
        refine WL.lv rfl (LV.asg rfl) ?_
        refine WL.nil (thenQ.n ?_)
        refine WC.ret (blockQ.r <| thenQ.r <| thenQ.r <| blockQ.r <| thenQ.r <| ?_)
        exact ⟨_, fun a ha => res1 rfl ha rfl, congrArg Value.bool ((decide_eq_false (fun h_ => by subst h_; first | omega | exact h25 rfl)).symm), hS1.kb⟩
      · skip
        refine WC.skip (blockQ.n <| thenQ.n ?_)
        refine WC.region ?_
        refine WL.lv rfl (LV.mv rfl) ?_
        refine WL.lv rfl (LV.add rfl rfl (wr64 (by omega) (by omega))) ?_
        refine WL.lv rfl (LV.asg rfl) ?_
        refine WL.nil (thenQ.n ?_)
        exact ⟨_, by omega, i + 1, by omega, by omega, (all_step (p := fun t => gI a t = gI b t) q1 (Decidable.not_not.1 h25)), hS1, rfl, Weak.cons rfl <| Weak.cons rfl <| Weak.cons rfl <| Weak.nil _⟩
    · skip
      refine WC.exit (thenQ.x <| thenQ.x <| blockQ.hit <| thenQ.n ?_)
      refine WC.seq ?_
      refine WC.region ?_
      refine WL.lv rfl (LV.asg rfl) ?_
      refine WL.nil (thenQ.n ?_)
      refine WC.ret (?_)
      exact ⟨_, fun a ha => res1 rfl ha rfl, congrArg Value.bool ((decide_eq_true (ext_gI (by omega) (fun t h0_ h1_ => q1 t h0_ (by omega)))).symm), hL1.kb⟩

theorem same6_calls {w : World} {A_a : Option Addr} {n_a c_a : Nat} {a : List (Int × Int)} {A_b : Option Addr} {n_b c_b : Nat} {b : List (Int × Int)} (h_a : St No w (Rd eP (.slice A_a n_a c_a) a)) (hn_a : a.length = n_a) (h_b : St No w (Rd eP (.slice A_b n_b c_b) b)) (hn_b : b.length = n_b)  :
    Calls Try.prog 16 #[(.slice A_a n_a c_a), (.slice A_b n_b c_b)] w fun e w' => ∃ v, e = .returned v ∧ (fun v w' => v = .bool (decide (a = b)) ∧ KB No w w') v w' := by
  subst hn_a hn_b
  have hma := Rd.max h_a.now
  have hS : SH w No w [] := SH.nil _ _
  refine calls (l := litOf [(.slice A_a a.length c_a), (.slice A_b b.length c_b)] 0) Try.func16 rfl (n := 26) rfl (Nat.le_of_ble_eq_true rfl) (lit_args _) ?_
  refine WC.seq ?_
  refine WC.region ?_
  refine WL.lv rfl (LV.asg rfl) ?_
  refine WL.nil (thenQ.n ?_)
  iterate 2 refine WC.seq ?_
  refine WC.region ?_
  refine WL.lv rfl (LV.mv rfl) ?_
  refine WL.lv rfl (LV.lenL Try.underlying36 rfl) ?_
  refine WL.lv rfl (LV.mv rfl) ?_
  refine WL.lv rfl (LV.lenL Try.underlying36 rfl) ?_
  refine WL.lv rfl (LV.neI rfl rfl) ?_
  refine WL.nil (thenQ.n ?_)
  refine WC.condP (p := (a.length : Int) ≠ (b.length : Int)) rfl (fun h10 => ?_) (fun h10 => ?_)
  · skip
    refine WC.seq ?_
    refine WC.region ?_
    refine WL.lv rfl (LV.asg rfl) ?_
    refine WL.nil (thenQ.n ?_)
    refine WC.ret (thenQ.r <| ?_)
    exact ⟨_, fun a ha => res1 rfl ha rfl, congrArg Value.bool ((decide_eq_false (fun h_ => by subst h_; first | omega | exact h25 ⟨rfl, rfl⟩)).symm), hS.kb⟩
  · skip
    refine WC.skip (thenQ.n ?_)
    iterate 2 refine WC.seq ?_
    refine WC.region ?_
    refine WL.lv rfl (LV.asg rfl) ?_
    refine WL.nil (thenQ.n ?_)
    refine WC.block ?_
    refine WC.loop (fun m_ f_ w_ => ∃ (i : Int), (0 ≤ i) ∧ (i ≤ (a.length : Int)) ∧ (∀ t : Int, 0 ≤ t → t < i → (a.getD t.toNat (0, 0)).1 = (b.getD t.toNat (0, 0)).1 ∧ (a.getD t.toNat (0, 0)).2 = (b.getD t.toNat (0, 0)).2) ∧ SH w No w_ [] ∧ m_ = (((a.length : Int) - i).toNat) ∧ Weak (lit [(0, (.slice A_a a.length c_a)), (1, (.slice A_b b.length c_b)), (5, (.int .i64 i))]) f_) _ ⟨0, by omega, by omega, (fun t h1 h2 => by omega), hS, rfl, Weak.cons rfl <| Weak.cons rfl <| Weak.cons rfl <| Weak.nil _⟩ ?_
    rintro m1 f1 w1 ⟨i, ilo, ihi, q1, hL1, rfl, hw1⟩
    refine WC.weak hw1 ?_
    clear hw1
    iterate 2 refine WC.seq ?_
    refine WC.region ?_
    iterate 2 refine WL.lv rfl (LV.mv rfl) ?_
    refine WL.lv rfl (LV.lenL Try.underlying36 rfl) ?_
    refine WL.lv rfl (LV.ltI rfl rfl) ?_
    refine WL.nil (thenQ.n ?_)
    refine WC.condP (p := i < (a.length : Int)) rfl (fun hc1 => ?_) (fun hc1 => ?_)
    · skip
      refine WC.skip (thenQ.n ?_)
      refine WC.seq ?_
      refine WC.block ?_
      refine WC.seq ?_
      have hS1 := SH.drew hL1
      refine WC.regionD [] (fun w_ => KB No w1.drew w_) [(.pure, 0), (.pure, 1), (.pure, 2), (.look, 3), (.pure, 4), (.pure, 5), (.pure, 6), (.look, 7), (.pure, 8)] (by kernel_rfl) (by kernel_rfl) (KB.refl _ _) ?_
      iterate 2 refine WS.pure rfl rfl (fun _ => LV.mv rfl) ?_
      obtain ⟨A1, c1, e1, g1⟩ := St.elt (SH.stN hS1 h_a) (0, 0) i (by omega) (by omega)
      refine WS.pure rfl rfl (fun _ => LV.idxA Try.underlying36 ti38.sz rfl e1 rfl (by omega) (by omega)) ?_
      refine WS.look rfl rfl (fun _ hk_ => LV.loadAgg (cs := [(.int .i64 ((a.getD (i).toNat (0, 0)).1)), (.int .i64 ((a.getD (i).toNat (0, 0)).2))]) Try.underlying38 rfl ti38 rfl rfl (fun j u hu => g1 _ hk_ j u hu)) ?_
      iterate 2 refine WS.pure rfl rfl (fun _ => LV.mv rfl) ?_
      obtain ⟨A2, c2, e2, g2⟩ := St.elt (SH.stN hS1 h_b) (0, 0) i (by omega) (by omega)
      refine WS.pure rfl rfl (fun _ => LV.idxA Try.underlying36 ti38.sz rfl e2 rfl (by omega) (by omega)) ?_
      refine WS.look rfl rfl (fun _ hk_ => LV.loadAgg (cs := [(.int .i64 ((b.getD (i).toNat (0, 0)).1)), (.int .i64 ((b.getD (i).toNat (0, 0)).2))]) Try.underlying38 rfl ti38 rfl rfl (fun j u hu => g2 _ hk_ j u hu)) ?_
      refine WS.pure rfl rfl (fun _ => LV.neA2 Try.underlying38 Try.underlying3 ti3.sz (by kernel_rfl) rfl rfl) ?_
      refine WS.nil (thenQ.n ?_)
      refine WC.condP (p := ¬ (((a.getD (i).toNat (0, 0)).1) = ((b.getD (i).toNat (0, 0)).1) ∧ ((a.getD (i).toNat (0, 0)).2) = ((b.getD (i).toNat (0, 0)).2))) rfl (fun h25 => ?_) (fun h25 => ?_)
      · skip
        refine WC.seq ?_
        refine WC.region ?_
        refine WL.lv rfl (LV.asg rfl) ?_
        refine WL.nil (thenQ.n ?_)
        refine WC.ret (blockQ.r <| thenQ.r <| thenQ.r <| blockQ.r <| thenQ.r <| ?_)
        exact ⟨_, fun a ha => res1 rfl ha rfl, congrArg Value.bool ((decide_eq_false (fun h_ => by subst h_; first | omega | exact h25 ⟨rfl, rfl⟩)).symm), hS1.kb⟩
      · skip
        refine WC.skip (blockQ.n <| thenQ.n ?_)
        refine WC.region ?_
        refine WL.lv rfl (LV.mv rfl) ?_
        refine WL.lv rfl (LV.add rfl rfl (wr64 (by omega) (by omega))) ?_
        refine WL.lv rfl (LV.asg rfl) ?_
        refine WL.nil (thenQ.n ?_)
        exact ⟨_, by omega, i + 1, by omega, by omega, (all_step (p := fun t => (a.getD t.toNat (0, 0)).1 = (b.getD t.toNat (0, 0)).1 ∧ (a.getD t.toNat (0, 0)).2 = (b.getD t.toNat (0, 0)).2) q1 (Decidable.not_not.1 h25)), hS1, rfl, Weak.cons rfl <| Weak.cons rfl <| Weak.cons rfl <| Weak.nil _⟩
    · skip
      refine WC.exit (thenQ.x <| thenQ.x <| blockQ.hit <| thenQ.n ?_)
      refine WC.seq ?_
      refine WC.region ?_
      refine WL.lv rfl (LV.asg rfl) ?_
      refine WL.nil (thenQ.n ?_)
      refine WC.ret (?_)
      exact ⟨_, fun a ha => res1 rfl ha rfl, congrArg Value.bool ((decide_eq_true (ext_gP (by omega) (fun t h0_ h1_ => q1 t h0_ (by omega)))).symm), hL1.kb⟩

end Go.Proofs.Ytpgpiljnmhpnhaa
