/- Scripts compared. -/
import Derived.Test.YtjmfoifohneanaaScK
namespace Go.Proofs.Ytjmfoifohneanaa
open Go Go.Gv Go.RowKit Go.Mys Go.Num Go.Scr
set_option linter.unusedVariables false
set_option linter.unusedSimpArgs false

theorem same8_calls {w : World} {A0 A1 : Option Addr} {c0 c1 : Nat} {ra rb : List (ED × List Ln)} (ha : St No w (Rd eE (.slice A0 ra.length c0) (ra.map (·.1)))) (hai : St No w (RdIn (·.2) eL ra)) (hb : St No w (Rd eE (.slice A1 rb.length c1) (rb.map (·.1)))) (hbi : St No w (RdIn (·.2) eL rb)) :
    Calls Try.prog 15 #[(.slice A0 ra.length c0), (.slice A1 rb.length c1)] w fun e w' => ∃ v, e = .returned v ∧ (fun v w' => v = .bool (decide (scr ra = scr rb)) ∧ KB No w w') v w' := by
  have hma := by have hmx_ := Rd.max ha.now; simpa using hmx_
  have hS : SH w No w [] := SH.nil _ _
  refine calls (l := litOf [(.slice A0 ra.length c0), (.slice A1 rb.length c1)] 0) Try.func15 rfl (n := 42) rfl (Nat.le_of_ble_eq_true rfl) (lit_args _) ?_
  refine WC.seq ?_
  refine WC.region ?_
  refine WL.lv rfl (LV.asg rfl) ?_
  refine WL.nil (thenQ.n ?_)
  iterate 2 refine WC.seq ?_
  refine WC.region ?_
  refine WL.lv rfl (LV.mv rfl) ?_
  refine WL.lv rfl (LV.lenL Try.underlying24 rfl) ?_
  refine WL.lv rfl (LV.mv rfl) ?_
  refine WL.lv rfl (LV.lenL Try.underlying24 rfl) ?_
  refine WL.lv rfl (LV.neI rfl rfl) ?_
  refine WL.nil (thenQ.n ?_)
  refine WC.condP (p := (ra.length : Int) ≠ (rb.length : Int)) rfl (fun h10 => ?_) (fun h10 => ?_)
  · skip
    refine WC.seq ?_
    refine WC.region ?_
    refine WL.lv rfl (LV.asg rfl) ?_
    refine WL.nil (thenQ.n ?_)
    refine WC.ret (thenQ.r <| ?_)
    exact ⟨_, fun a ha => res1 rfl ha rfl, congrArg Value.bool (decide_eq_false (fun h => h10 (by have h_ := congrArg List.length h; rw [scr_length, scr_length] at h_; omega))).symm, hS.kb⟩
  · skip
    refine WC.skip (thenQ.n ?_)
    iterate 2 refine WC.seq ?_
    refine WC.region ?_
    refine WL.lv rfl (LV.asg rfl) ?_
    refine WL.nil (thenQ.n ?_)
    refine WC.block ?_
    refine WC.loop (fun m_ f_ w_ => ∃ (i : Int), (0 ≤ i) ∧ (i ≤ ra.length) ∧ (∀ t, 0 ≤ t → t < i → ((ra.getD t.toNat default).1.1 = (rb.getD t.toNat default).1.1 ∧ (ra.getD t.toNat default).2 = (rb.getD t.toNat default).2)) ∧ SH w No w_ [] ∧ m_ = (((ra.length : Int) - i).toNat) ∧ Weak (lit [(0, (.slice A0 ra.length c0)), (1, (.slice A1 rb.length c1)), (4, (.bool false)), (5, (.int .i64 i))]) f_) _ ⟨0, by omega, by omega, (fun t h1 h2 => by omega), hS, rfl, Weak.cons rfl <| Weak.cons rfl <| Weak.cons rfl <| Weak.cons rfl <| Weak.nil _⟩ ?_
    rintro m1 f1 w1 ⟨i, q0, q1, q2, hL1, rfl, hw1⟩
    refine WC.weak hw1 ?_
    clear hw1
    iterate 2 refine WC.seq ?_
    refine WC.region ?_
    iterate 2 refine WL.lv rfl (LV.mv rfl) ?_
    refine WL.lv rfl (LV.lenL Try.underlying24 rfl) ?_
    refine WL.lv rfl (LV.ltI rfl rfl) ?_
    refine WL.nil (thenQ.n ?_)
    refine WC.condP (p := i < (ra.length : Int)) rfl (fun h14 => ?_) (fun h14 => ?_)
    · skip
      refine WC.skip (thenQ.n ?_)
      refine WC.seq ?_
      refine WC.block ?_
      refine WC.seq ?_
      have hS1 := SH.drew hL1
      refine WC.regionD [] (fun w_ => KB No w1.drew w_) [(.pure, 0), (.pure, 1), (.pure, 2), (.pure, 3), (.look, 4), (.pure, 5), (.pure, 6), (.pure, 7), (.pure, 8), (.look, 9), (.pure, 10), (.pure, 11), (.pure, 12), (.pure, 13), (.pure, 14), (.pure, 15), (.look, 16), (.pure, 17), (.pure, 18), (.pure, 19), (.pure, 20), (.look, 21), (.forced, 22), (.pure, 23), (.pure, 24)] (by kernel_rfl) (by kernel_rfl) (KB.refl _ _) ?_
      iterate 2 refine WS.pure rfl rfl (fun _ => LV.mv rfl) ?_
      obtain ⟨A2, c2, A3, c3, e1, g1, e2, r1⟩ := St.eltE (SH.stN hS1 ha) (SH.stN hS1 hai) default i (by omega) (by omega)
      refine WS.pure rfl rfl (fun _ => LV.idxA Try.underlying24 ti39.sz rfl e1 rfl (by omega) (by omega)) ?_
      refine WS.pure rfl rfl (fun _ => LV.fieldA Try.underlying39 rfl ti37.sz rfl) ?_
      refine WS.look rfl rfl (fun _ hk_ => LV.load1 (v := (.int .i64 ((ra.getD (i).toNat default).1.1))) Try.underlying37 rfl rfl (g1 _ hk_ 0 _ rfl)) ?_
      iterate 2 refine WS.pure rfl rfl (fun _ => LV.mv rfl) ?_
      obtain ⟨A4, c4, A5, c5, e3, g2, e4, r2⟩ := St.eltE (SH.stN hS1 hb) (SH.stN hS1 hbi) default i (by omega) (by omega)
      refine WS.pure rfl rfl (fun _ => LV.idxA Try.underlying24 ti39.sz rfl e3 rfl (by omega) (by omega)) ?_
      refine WS.pure rfl rfl (fun _ => LV.fieldA Try.underlying39 rfl ti37.sz rfl) ?_
      refine WS.look rfl rfl (fun _ hk_ => LV.load1 (v := (.int .i64 ((rb.getD (i).toNat default).1.1))) Try.underlying37 rfl rfl (g2 _ hk_ 0 _ rfl)) ?_
      rcases Decidable.em (((ra.getD (i).toNat default).1.1) ≠ ((rb.getD (i).toNat default).1.1)) with hg1 | hg1
      · refine WS.pure rfl rfl (fun _ => LV.as (LV.neI rfl rfl) (decide_eq_true hg1)) ?_
        refine WS.pure rfl rfl (fun _ => LV.mv rfl) ?_
        iterate 4 refine WS.off rfl rfl ?_
        refine WS.offL rfl rfl ?_
        iterate 4 refine WS.off rfl rfl ?_
        refine WS.offL rfl rfl ?_
        refine WS.offF rfl rfl (fun h_ => (KB.refl _ _)) ?_
        refine WS.off rfl rfl ?_
        refine WS.pure rfl rfl (fun _ => LV.pickT rfl rfl) ?_
        refine WS.nil (thenQ.n ?_)
        refine WC.condT rfl ?_
        refine WC.seq ?_
        refine WC.region ?_
        refine WL.lv rfl (LV.asg rfl) ?_
        refine WL.nil (thenQ.n ?_)
        refine WC.ret (blockQ.r <| thenQ.r <| thenQ.r <| blockQ.r <| thenQ.r <| ?_)
        exact ⟨_, fun a ha => res1 rfl ha rfl, congrArg Value.bool (decide_eq_false (fun h => by have h_ := scr_inj h q0 h14; first | omega | exact absurd h_.2 h41)).symm, hS1.kb⟩
      · refine WS.pure rfl rfl (fun _ => LV.as (LV.neI rfl rfl) (decide_eq_false hg1)) ?_
        iterate 3 refine WS.pure rfl rfl (fun _ => LV.mv rfl) ?_
        obtain ⟨A6, c6, A7, c7, e5, g3, e6, r3⟩ := St.eltE (SH.stN hS1 ha) (SH.stN hS1 hai) default i (by omega) (by omega)
        refine WS.pure rfl rfl (fun _ => LV.idxA Try.underlying24 ti39.sz rfl e5 rfl (by omega) (by omega)) ?_
        refine WS.pure rfl rfl (fun _ => LV.fieldA Try.underlying39 rfl ti22.sz rfl) ?_
        refine WS.look rfl rfl (fun _ hk_ => LV.load1 (v := (.slice A7 ((ra.getD (i).toNat default).2.length) c7)) Try.underlying22 rfl rfl (g3 _ hk_ 1 _ rfl)) ?_
        iterate 2 refine WS.pure rfl rfl (fun _ => LV.mv rfl) ?_
        obtain ⟨A8, c8, A9, c9, e7, g4, e8, r4⟩ := St.eltE (SH.stN hS1 hb) (SH.stN hS1 hbi) default i (by omega) (by omega)
        refine WS.pure rfl rfl (fun _ => LV.idxA Try.underlying24 ti39.sz rfl e7 rfl (by omega) (by omega)) ?_
        refine WS.pure rfl rfl (fun _ => LV.fieldA Try.underlying39 rfl ti22.sz rfl) ?_
        refine WS.look rfl rfl (fun _ hk_ => LV.load1 (v := (.slice A9 ((rb.getD (i).toNat default).2.length) c9)) Try.underlying22 rfl rfl (g4 _ hk_ 1 _ rfl)) ?_
        refine WS.call rfl rfl (XC.fn Try.func20 (by kernel_rfl) rfl rfl rfl) (lines_calls (St.innerQ (SH.stN hS1 hai) (getD_mem (by omega)) e6) (St.innerQ (SH.stN hS1 hbi) (getD_mem (by omega)) e8)) ?_
        rintro v_ w2 ⟨rfl, hk1⟩
        have hS2 := SH.same hS1 hk1
        refine ⟨fun h_ => (KB.transN (KB.refl _ _) hk1), ?_⟩
        refine WS.pure rfl rfl (fun _ => LV.notP rfl) ?_
        refine WS.pure rfl rfl (fun _ => LV.pickF rfl rfl) ?_
        refine WS.nil (thenQ.n ?_)
        refine WC.condP (p := ¬ ((ra.getD (i).toNat default).2 = (rb.getD (i).toNat default).2)) rfl (fun h41 => ?_) (fun h41 => ?_)
        · skip
          refine WC.seq ?_
          refine WC.region ?_
          refine WL.lv rfl (LV.asg rfl) ?_
          refine WL.nil (thenQ.n ?_)
          refine WC.ret (blockQ.r <| thenQ.r <| thenQ.r <| blockQ.r <| thenQ.r <| ?_)
          exact ⟨_, fun a ha => res1 rfl ha rfl, congrArg Value.bool (decide_eq_false (fun h => by have h_ := scr_inj h q0 h14; first | omega | exact absurd h_.2 h41)).symm, hS2.kb⟩
        · skip
          refine WC.skip (blockQ.n <| thenQ.n ?_)
          refine WC.region ?_
          refine WL.lv rfl (LV.mv rfl) ?_
          refine WL.lv rfl (LV.add rfl rfl (wr64 (by omega) (by omega))) ?_
          refine WL.lv rfl (LV.asg rfl) ?_
          refine WL.nil (thenQ.n ?_)
          exact ⟨_, by omega, i + 1, by omega, by omega, (all_step (p := fun t => (ra.getD t.toNat default).1.1 = (rb.getD t.toNat default).1.1 ∧ (ra.getD t.toNat default).2 = (rb.getD t.toNat default).2) q2 ⟨by omega, Decidable.not_not.1 (Decidable.not_not.1 (fun h_ => h41 (Decidable.not_not.1 h_)))⟩), hS2, rfl, Weak.cons rfl <| Weak.cons rfl <| Weak.cons rfl <| Weak.cons rfl <| Weak.nil _⟩
    · skip
      refine WC.exit (thenQ.x <| thenQ.x <| blockQ.hit <| thenQ.n ?_)
      refine WC.seq ?_
      refine WC.region ?_
      refine WL.lv rfl (LV.asg rfl) ?_
      refine WL.nil (thenQ.n ?_)
      refine WC.ret (?_)
      exact ⟨_, fun a ha => res1 rfl ha rfl, congrArg Value.bool (decide_eq_true (ext_scr (by omega) fun t h1 h2 => q2 t h1 (by omega))).symm, hL1.kb⟩

end Go.Proofs.Ytjmfoifohneanaa
