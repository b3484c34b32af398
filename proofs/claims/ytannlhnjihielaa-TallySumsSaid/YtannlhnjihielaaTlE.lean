/- The document's counts. -/
import Derived.Test.YtannlhnjihielaaTlD
namespace Go.Proofs.Ytannlhnjihielaa
open Go Go.Gv Go.RowKit Go.Tly Go.Proofs
set_option linter.unusedVariables false
set_option linter.unusedSimpArgs false

set_option maxHeartbeats 2000000 in
theorem rcounts_calls {w : World} {A_l : Option Addr} {n_l c_l : Nat} {l : List Itm} (h_l : St No w (Rd eIt (.slice A_l n_l c_l) l)) (hn_l : l.length = n_l) (wl : ∀ x ∈ l, WLB x.2.1) (hl : l.length ≤ 100000) :
    Calls Try.prog 8 #[(.slice A_l n_l c_l)] w fun e w' => ∃ v, e = .returned v ∧ (fun v w' => ∃ (A0' : Option Addr) (c0' : Nat), v = .slice A0' (CTS l).length c0' ∧ SH w No w' [rowE eCt 30 (.slice A0' (CTS l).length c0') (CTS l)]) v w' := by
  subst hn_l
  have hS : SH w No w [] := SH.nil _ _
  refine calls (l := litOf [(.slice A_l l.length c_l)] 0) Try.func8 rfl (n := 83) rfl (Nat.le_of_ble_eq_true rfl) (lit_args _) ?_
  refine WC.seq ?_
  refine WC.region ?_
  refine WL.lv rfl (LV.asg rfl) ?_
  refine WL.nil (thenQ.n ?_)
  refine WC.seq ?_
  refine WC.region ?_
  refine WL.xe rfl (XE.buildSlice (E := eCt) [] #[] [] hS Try.underlying27 ti30 rfl (by decide) (by kernel_rfl) (.inr rfl) rfl rfl (by decide)) ?_
  rintro _ w1 ⟨b1, rfl, hS1, hk1⟩
  refine WL.lv rfl (LV.asg rfl) ?_
  refine WL.nil (thenQ.n ?_)
  iterate 2 refine WC.seq ?_
  refine WC.region ?_
  refine WL.lv rfl (LV.asg rfl) ?_
  refine WL.nil (thenQ.n ?_)
  refine WC.block ?_
  refine WC.loop (fun m_ f_ w_ => ∃ (A_out : Option Addr) (c_out : Nat) (out : List (Lb × Int)) (i : Int), (0 ≤ i) ∧ (i ≤ (l.length : Int)) ∧ (out = CTO l (l.take i.toNat)) ∧ ((out.length : Int) ≤ i) ∧ SH w No w_ [rowE eCt 30 (.slice A_out out.length c_out) out] ∧ m_ = (((l.length : Int) - i).toNat) ∧ Weak (lit [(0, (.slice A_l l.length c_l)), (3, (.slice A_out out.length c_out)), (4, (.int .i64 i))]) f_) _ ⟨(some ⟨b1, 0, none⟩), 0, [], 0, by omega, by omega, rfl, (by simp), hS1, rfl, Weak.cons rfl <| Weak.cons rfl <| Weak.cons rfl <| Weak.nil _⟩ ?_
  rintro m1 f1 w2 ⟨A_out, c_out, out, i, ilo, ihi, q1, q2, hL1, rfl, hw1⟩
  refine WC.weak hw1 ?_
  clear hw1
  iterate 2 refine WC.seq ?_
  refine WC.region ?_
  iterate 2 refine WL.lv rfl (LV.mv rfl) ?_
  refine WL.lv rfl (LV.lenL Try.underlying22 rfl) ?_
  refine WL.lv rfl (LV.ltI rfl rfl) ?_
  refine WL.nil (thenQ.n ?_)
  refine WC.condP (p := i < (l.length : Int)) rfl (fun hk => ?_) (fun hk => ?_)
  · have hwi_ := wl (l.getD i.toNat dI) (getD_mem (by omega))
    refine WC.skip (thenQ.n ?_)
    refine WC.seq ?_
    refine WC.block ?_
    iterate 2 refine WC.seq ?_
    refine WC.region ?_
    iterate 2 refine WL.lv rfl (LV.mv rfl) ?_
    obtain ⟨A1, c1, e1, g1⟩ := St.elt (SH.stN hL1 h_l) dI i (by omega) (by omega)
    refine WL.lv rfl (LV.idxA Try.underlying22 ti38.sz rfl e1 rfl (by omega) (by omega)) ?_
    refine WL.lv rfl (LV.fieldA Try.underlying38 rfl ti4.sz rfl) ?_
    refine WL.lv rfl (LV.load1 (v := (.bool ((l.getD (i).toNat dI).2.2.1))) Try.underlying4 rfl rfl (g1 _ (KB.refl No _) 3 _ rfl)) ?_
    refine WL.nil (thenQ.n ?_)
    refine WC.cond (b := (l.getD (i).toNat dI).2.2.1) rfl (fun han => ?_) (fun han => ?_)
    · skip
      refine WC.exit (thenQ.x <| blockQ.hit <| thenQ.n ?_)
      refine WC.region ?_
      refine WL.lv rfl (LV.mv rfl) ?_
      refine WL.lv rfl (LV.add rfl rfl (wr64 (by omega) (by omega))) ?_
      refine WL.lv rfl (LV.asg rfl) ?_
      refine WL.nil (thenQ.n ?_)
      exact ⟨_, by omega, A_out, c_out, out, i + 1, by omega, by omega, (by first | exact cto_skip ilo hk q1 han | exact cto_same ilo hk q1 han klo (by omega) n1 heq | (rw [List.nil_append, List.drop_zero, List.take_length]; exact cto_new ilo hk q1 han klo (by omega) n1 (fun h_ => by first | omega | exact ⟨hlt, heq⟩))), (by first | omega | (simp; omega)), hL1, rfl, Weak.cons rfl <| Weak.cons rfl <| Weak.cons rfl <| Weak.nil _⟩
    · skip
      refine WC.skip (thenQ.n ?_)
      refine WC.seq ?_
      refine WC.region ?_
      refine WL.lv rfl (LV.asg rfl) ?_
      refine WL.nil (thenQ.n ?_)
      refine WC.seq ?_
      refine WC.block ?_
      refine WC.loop (fun m_ f_ w_ => ∃ (k : Int), (0 ≤ k) ∧ (k ≤ (out.length : Int)) ∧ (∀ t : Int, 0 ≤ t → t < k → LO (out.getD t.toNat ((0, 0), 0)).1 (l.getD i.toNat dI).2.1 < 0) ∧ SH w No w_ [rowE eCt 30 (.slice A_out out.length c_out) out] ∧ m_ = (((out.length : Int) - k).toNat) ∧ Weak (lit [(0, (.slice A_l l.length c_l)), (3, (.slice A_out out.length c_out)), (4, (.int .i64 i)), (5, (.int .i64 k))]) f_) _ ⟨0, by omega, by omega, (fun t h1 h2 => by omega), hL1, rfl, Weak.cons rfl <| Weak.cons rfl <| Weak.cons rfl <| Weak.cons rfl <| Weak.nil _⟩ ?_
      rintro m2 f2 w3 ⟨k, klo, khi, n1, hL2, rfl, hw2⟩
      refine WC.weak hw2 ?_
      clear hw2
      iterate 2 refine WC.seq ?_
      have hS2 := SH.drew hL2
      refine WC.regionD [] (fun w_ => KB No w3.drew w_) [(.pure, 0), (.pure, 1), (.pure, 2), (.pure, 3), (.pure, 4), (.pure, 5), (.pure, 6), (.pure, 7), (.pure, 8), (.look, 9), (.pure, 10), (.pure, 11), (.pure, 12), (.pure, 13), (.look, 14), (.forced, 15), (.pure, 16), (.pure, 17)] (by kernel_rfl) (by kernel_rfl) (KB.refl _ _) ?_
      iterate 2 refine WS.pure rfl rfl (fun _ => LV.mv rfl) ?_
      refine WS.pure rfl rfl (fun _ => LV.lenL Try.underlying27 rfl) ?_
      rcases Decidable.em (k < (out.length : Int)) with hg1 | hg1
      · refine WS.pure rfl rfl (fun _ => LV.as (LV.ltI rfl rfl) (decide_eq_true hg1)) ?_
        iterate 3 refine WS.pure rfl rfl (fun _ => LV.mv rfl) ?_
        obtain ⟨A2, c2, e2, g2⟩ := St.elt (SH.rd hS2 (.head _)) ((0, 0), 0) k (by omega) (by omega)
        refine WS.pure rfl rfl (fun _ => LV.idxA Try.underlying27 ti30.sz rfl e2 rfl (by omega) (by omega)) ?_
        refine WS.pure rfl rfl (fun _ => LV.fieldA Try.underlying30 rfl ti25.sz rfl) ?_
        refine WS.look rfl rfl (fun _ hk_ => LV.loadAgg (cs := [(.int .i64 ((out.getD (k).toNat ((0, 0), 0)).1.1)), (.int .u64 ((out.getD (k).toNat ((0, 0), 0)).1.2))]) Try.underlying25 rfl ti25 rfl rfl (elt_part (off := 0) (n := 2) g2 rfl _ hk_)) ?_
        iterate 2 refine WS.pure rfl rfl (fun _ => LV.mv rfl) ?_
        obtain ⟨A3, c3, e3, g3⟩ := St.elt (SH.stN hS2 h_l) dI i (by omega) (by omega)
        refine WS.pure rfl rfl (fun _ => LV.idxA Try.underlying22 ti38.sz rfl e3 rfl (by omega) (by omega)) ?_
        refine WS.pure rfl rfl (fun _ => LV.fieldA Try.underlying38 rfl ti25.sz rfl) ?_
        refine WS.look rfl rfl (fun _ hk_ => LV.loadAgg (cs := [(.int .i64 ((l.getD (i).toNat dI).2.1.1)), (.int .u64 ((l.getD (i).toNat dI).2.1.2))]) Try.underlying25 rfl ti25 rfl rfl (elt_part (off := 1) (n := 2) g3 rfl _ hk_)) ?_
        refine WS.call rfl rfl (XC.fn Try.func13 (by kernel_rfl) rfl rfl rfl) (rorder_calls (a := ((out.getD (k).toNat ((0, 0), 0)).1)) (b := ((l.getD (i).toNat dI).2.1)) ) ?_
        rintro v_ w4 ⟨rfl, hk2⟩
        have hS3 := SH.same hS2 hk2
        refine ⟨fun h_ => (KB.transN (KB.refl _ _) hk2), ?_⟩
        refine WS.pure rfl rfl (fun _ => LV.ltI rfl rfl) ?_
        refine WS.pure rfl rfl (fun _ => LV.pickT rfl rfl) ?_
        refine WS.nil (thenQ.n ?_)
        refine WC.condP (p := (LO ((out.getD (k).toNat ((0, 0), 0)).1) ((l.getD (i).toNat dI).2.1)) < 0) rfl (fun hlt => ?_) (fun hlt => ?_)
        · skip
          refine WC.skip (thenQ.n ?_)
          refine WC.block ?_
          refine WC.region ?_
          refine WL.lv rfl (LV.mv rfl) ?_
          refine WL.lv rfl (LV.add rfl rfl (wr64 (by omega) (by omega))) ?_
          refine WL.lv rfl (LV.asg rfl) ?_
          refine WL.nil (blockQ.n <| thenQ.n ?_)
          exact ⟨_, by omega, k + 1, by omega, by omega, (all_step (p := fun t => LO (out.getD t.toNat ((0, 0), 0)).1 (l.getD i.toNat dI).2.1 < 0) n1 hlt), hS3, rfl, Weak.cons rfl <| Weak.cons rfl <| Weak.cons rfl <| Weak.cons rfl <| Weak.nil _⟩
        · skip
          refine WC.exit (thenQ.x <| thenQ.x <| blockQ.hit <| thenQ.n ?_)
          iterate 2 refine WC.seq ?_
          have hS4 := SH.drew hS3
          refine WC.regionD [] (fun w_ => KB No w4.drew w_) [(.pure, 0), (.pure, 1), (.pure, 2), (.pure, 3), (.pure, 4), (.pure, 5), (.pure, 6), (.pure, 7), (.pure, 8), (.look, 9), (.pure, 10), (.pure, 11), (.pure, 12), (.pure, 13), (.look, 14), (.pure, 15), (.pure, 16)] (by kernel_rfl) (by kernel_rfl) (KB.refl _ _) ?_
          iterate 2 refine WS.pure rfl rfl (fun _ => LV.mv rfl) ?_
          refine WS.pure rfl rfl (fun _ => LV.lenL Try.underlying27 rfl) ?_
          refine WS.pure rfl rfl (fun _ => LV.as (LV.ltI rfl rfl) (decide_eq_true hg1)) ?_
          iterate 3 refine WS.pure rfl rfl (fun _ => LV.mv rfl) ?_
          obtain ⟨A4, c4, e4, g4⟩ := St.elt (SH.rd hS4 (.head _)) ((0, 0), 0) k (by omega) (by omega)
          refine WS.pure rfl rfl (fun _ => LV.idxA Try.underlying27 ti30.sz rfl e4 rfl (by omega) (by omega)) ?_
          refine WS.pure rfl rfl (fun _ => LV.fieldA Try.underlying30 rfl ti25.sz rfl) ?_
          refine WS.look rfl rfl (fun _ hk_ => LV.loadAgg (cs := [(.int .i64 ((out.getD (k).toNat ((0, 0), 0)).1.1)), (.int .u64 ((out.getD (k).toNat ((0, 0), 0)).1.2))]) Try.underlying25 rfl ti25 rfl rfl (elt_part (off := 0) (n := 2) g4 rfl _ hk_)) ?_
          iterate 2 refine WS.pure rfl rfl (fun _ => LV.mv rfl) ?_
          obtain ⟨A5, c5, e5, g5⟩ := St.elt (SH.stN hS4 h_l) dI i (by omega) (by omega)
          refine WS.pure rfl rfl (fun _ => LV.idxA Try.underlying22 ti38.sz rfl e5 rfl (by omega) (by omega)) ?_
          refine WS.pure rfl rfl (fun _ => LV.fieldA Try.underlying38 rfl ti25.sz rfl) ?_
          refine WS.look rfl rfl (fun _ hk_ => LV.loadAgg (cs := [(.int .i64 ((l.getD (i).toNat dI).2.1.1)), (.int .u64 ((l.getD (i).toNat dI).2.1.2))]) Try.underlying25 rfl ti25 rfl rfl (elt_part (off := 1) (n := 2) g5 rfl _ hk_)) ?_
          refine WS.pure rfl rfl (fun _ => LV.eqG (by decide) (ae_s2 Try.underlying25 (by decide) (by kernel_rfl) (pt_int Try.underlying3 rfl) (pt_int Try.underlying3 rfl) (pt_int Try.underlying23 rfl) (pt_int Try.underlying23 rfl) (ae_int Try.underlying3) (ae_int Try.underlying23)) (by kernel_rfl) rfl rfl) ?_
          refine WS.pure rfl rfl (fun _ => LV.pickT rfl rfl) ?_
          refine WS.nil (thenQ.n ?_)
          refine WC.condP (p := (((out.getD (k).toNat ((0, 0), 0)).1.1) = ((l.getD (i).toNat dI).2.1.1)) ∧ (((out.getD (k).toNat ((0, 0), 0)).1.2) = ((l.getD (i).toNat dI).2.1.2))) rfl (fun heq => ?_) (fun heq => ?_)
          · skip
            refine WC.exit (thenQ.x <| blockQ.hit <| thenQ.n ?_)
            refine WC.region ?_
            refine WL.lv rfl (LV.mv rfl) ?_
            refine WL.lv rfl (LV.add rfl rfl (wr64 (by omega) (by omega))) ?_
            refine WL.lv rfl (LV.asg rfl) ?_
            refine WL.nil (thenQ.n ?_)
            exact ⟨_, by omega, A_out, c_out, out, i + 1, by omega, by omega, (by first | exact cto_skip ilo hk q1 han | exact cto_same ilo hk q1 han klo (by omega) n1 heq | (rw [List.nil_append, List.drop_zero, List.take_length]; exact cto_new ilo hk q1 han klo (by omega) n1 (fun h_ => by first | omega | exact ⟨hlt, heq⟩))), (by first | omega | (simp; omega)), hS4, rfl, Weak.cons rfl <| Weak.cons rfl <| Weak.cons rfl <| Weak.nil _⟩
          · skip
            refine WC.skip (thenQ.n ?_)
            refine WC.seq ?_
            refine WC.region ?_
            refine WL.xe rfl (XE.buildSlice (E := eCt) [] #[] [] hS4 Try.underlying27 ti30 rfl (by decide) (by kernel_rfl) (.inr rfl) rfl rfl (by decide)) ?_
            rintro _ w5 ⟨b2, rfl, hS5, hk3⟩
            iterate 2 refine WL.lv rfl (LV.mv rfl) ?_
            have hcap1 : out.length ≤ c_out := (Rd.cap (St.now (SH.rd hS5 (.tail _ (.head _)))))
            refine WL.lv rfl (LV.cut Try.underlying27 ti30.sz rfl rfl rfl rfl ⟨.inl ⟨rfl, rfl⟩, .inr ⟨.i64, by rw [Int.toNat_of_nonneg (a := k) (by omega)] <;> rfl⟩, .inl ⟨rfl, rfl⟩⟩ (by omega) (by omega) (by omega)) ?_
            refine WL.xe rfl (XE.append hS5 Try.underlying27 ti30 rfl (St.now ((SH.rd hS5 (.tail _ (.head _))).imp fun _ h => Rd.cut h (by omega) (by omega) (by omega) (by omega))) rfl rfl (by first | omega | simp only [List.length_append, List.length_cons, List.length_nil, List.length_take, List.length_reverse, List.length_drop] at *; omega) (by first | omega | simp only [List.length_append, List.length_cons, List.length_nil, List.length_take, List.length_reverse, List.length_drop] at *; omega)) ?_
            rintro _ w6 ⟨A6, c6, rfl, hS6, hk4⟩
            refine WL.lv rfl (LV.asg rfl) ?_
            refine WL.nil (thenQ.n ?_)
            refine WC.seq ?_
            have hS7 := SH.drew hS6
            refine WC.regionD [15] (fun w_ => KB No w6.drew w_) [(.pure, 0), (.pure, 1), (.pure, 2), (.pure, 3), (.pure, 4), (.look, 5), (.pure, 6), (.pure, 7), (.pure, 8), (.pure, 9), (.pure, 10), (.look, 11), (.forced, 12), (.pure, 13), (.forced, 14), (.forced, 15), (.pure, 16)] (by kernel_rfl) (by kernel_rfl) (KB.refl _ _) ?_
            iterate 3 refine WS.pure rfl rfl (fun _ => LV.mv rfl) ?_
            obtain ⟨A7, c7, e6, g6⟩ := St.elt (SH.stN hS7 h_l) dI i (by omega) (by omega)
            refine WS.pure rfl rfl (fun _ => LV.idxA Try.underlying22 ti38.sz rfl e6 rfl (by omega) (by omega)) ?_
            refine WS.pure rfl rfl (fun _ => LV.fieldA Try.underlying38 rfl ti25.sz rfl) ?_
            refine WS.look rfl rfl (fun _ hk_ => LV.loadAgg (cs := [(.int .i64 ((l.getD (i).toNat dI).2.1.1)), (.int .u64 ((l.getD (i).toNat dI).2.1.2))]) Try.underlying25 rfl ti25 rfl rfl (elt_part (off := 1) (n := 2) g6 rfl _ hk_)) ?_
            iterate 3 refine WS.pure rfl rfl (fun _ => LV.mv rfl) ?_
            obtain ⟨A8, c8, e7, g7⟩ := St.elt (SH.stN hS7 h_l) dI i (by omega) (by omega)
            refine WS.pure rfl rfl (fun _ => LV.idxA Try.underlying22 ti38.sz rfl e7 rfl (by omega) (by omega)) ?_
            refine WS.pure rfl rfl (fun _ => LV.fieldA Try.underlying38 rfl ti25.sz rfl) ?_
            refine WS.look rfl rfl (fun _ hk_ => LV.loadAgg (cs := [(.int .i64 ((l.getD (i).toNat dI).2.1.1)), (.int .u64 ((l.getD (i).toNat dI).2.1.2))]) Try.underlying25 rfl ti25 rfl rfl (elt_part (off := 1) (n := 2) g7 rfl _ hk_)) ?_
            refine WS.call rfl rfl (XC.fn Try.func11 (by kernel_rfl) rfl rfl rfl) (rlines_calls (a := ((l.getD (i).toNat dI).2.1)) (SH.stN hS7 h_l) rfl ) ?_
            rintro v_ w7 ⟨rfl, hk5⟩
            have hS8 := SH.same hS7 hk5
            refine ⟨fun h_ => (KB.transN (KB.refl _ _) hk5), ?_⟩
            refine WS.pure rfl rfl (fun _ => LV.build (vs := [(0, (.agg #[(.int .i64 ((l.getD (i).toNat dI).2.1.1)), (.int .u64 ((l.getD (i).toNat dI).2.1.2))])), (1, (.int .i64 (LNS l ((l.getD (i).toNat dI).2.1))))]) (places := #[(0, 2), (2, 1)]) (cs := #[(.int .i64 ((l.getD (i).toNat dI).2.1.1)), (.int .u64 ((l.getD (i).toNat dI).2.1.2)), (.int .i64 (LNS l ((l.getD (i).toNat dI).2.1)))]) Try.underlying30 ti30 (fun _ => by kernel_rfl) rfl rfl) ?_
            refine WS.xe rfl rfl (XE.buildSlice (E := eCt) [(0, (.agg #[(.int .i64 ((l.getD (i).toNat dI).2.1.1)), (.int .u64 ((l.getD (i).toNat dI).2.1.2)), (.int .i64 (LNS l ((l.getD (i).toNat dI).2.1)))]))] #[(.int .i64 ((l.getD (i).toNat dI).2.1.1)), (.int .u64 ((l.getD (i).toNat dI).2.1.2)), (.int .i64 (LNS l ((l.getD (i).toNat dI).2.1)))] [((((l.getD (i).toNat dI).2.1.1, (l.getD (i).toNat dI).2.1.2), LNS l ((l.getD (i).toNat dI).2.1)) : Lb × Int)] hS8 Try.underlying27 ti30 rfl (by decide) (by kernel_rfl) (.inr rfl) rfl rfl (by decide)) ?_
            rintro _ w8 ⟨b3, rfl, hS9, hk6⟩
            refine ⟨fun h_ => (KB.transN (KB.transN (KB.refl _ _) hk5) hk6), ?_⟩
            have hS10 : SH w No w8 [rowE eCt 30 (.slice A6 ((([] : List (Lb × Int)) ++ ((out.take ((k).toNat)).drop 0)).length) c6) (([] : List (Lb × Int)) ++ ((out.take ((k).toNat)).drop 0)), rowE eCt 30 (.slice (some ⟨b3, 0, none⟩) 1 1) [((((l.getD (i).toNat dI).2.1.1, (l.getD (i).toNat dI).2.1.2), LNS l ((l.getD (i).toNat dI).2.1)) : Lb × Int)], rowE eCt 30 (.slice A_out out.length c_out) out] := (SH.front [_] hS9)
            refine WS.xe rfl rfl (XE.append hS10 Try.underlying27 ti30 rfl (St.now (SH.rd hS10 (.tail _ (.head _)))) rfl rfl (by first | omega | simp only [List.length_append, List.length_cons, List.length_nil, List.length_take, List.length_reverse, List.length_drop] at *; omega) (by first | omega | simp only [List.length_append, List.length_cons, List.length_nil, List.length_take, List.length_reverse, List.length_drop] at *; omega)) ?_
            rintro _ w9 ⟨A9, c9, rfl, hS11, hk7⟩
            refine ⟨fun h_ => (by cases h_), ?_⟩
            refine WS.pure rfl rfl (fun _ => LV.asg rfl) ?_
            refine WS.nil (thenQ.n ?_)
            refine WC.region ?_
            iterate 3 refine WL.lv rfl (LV.mv rfl) ?_
            have hcap2 : out.length ≤ c_out := (Rd.cap (St.now (SH.rd hS11 (.tail _ (.tail _ (.head _))))))
            refine WL.lv rfl (LV.cut Try.underlying27 ti30.sz rfl rfl rfl rfl ⟨.inr ⟨.i64, by rw [Int.toNat_of_nonneg (a := k) (by omega)] <;> rfl⟩, .inl ⟨rfl, rfl, rfl⟩, .inl ⟨rfl, rfl⟩⟩ (by omega) (by omega) (by omega)) ?_
            refine WL.xe rfl (XE.append hS11 Try.underlying27 ti30 rfl (St.now ((SH.rd hS11 (.tail _ (.tail _ (.head _)))).imp fun _ h => Rd.cut h (by omega) (by omega) (by omega) (by omega))) rfl rfl (by first | omega | simp only [List.length_append, List.length_cons, List.length_nil, List.length_take, List.length_reverse, List.length_drop] at *; omega) (by first | omega | simp only [List.length_append, List.length_cons, List.length_nil, List.length_take, List.length_reverse, List.length_drop] at *; omega)) ?_
            rintro _ w10 ⟨A10, c10, rfl, hS12, hk8⟩
            refine WL.lv rfl (LV.asg rfl) ?_
            refine WL.nil (blockQ.n <| thenQ.n ?_)
            refine WC.region ?_
            refine WL.lv rfl (LV.mv rfl) ?_
            refine WL.lv rfl (LV.add rfl rfl (wr64 (by omega) (by omega))) ?_
            refine WL.lv rfl (LV.asg rfl) ?_
            refine WL.nil (thenQ.n ?_)
            have hS13 : SH w No w10 [rowE eCt 30 (.slice A10 ((((([] : List (Lb × Int)) ++ ((out.take ((k).toNat)).drop 0)) ++ [((((l.getD (i).toNat dI).2.1.1, (l.getD (i).toNat dI).2.1.2), LNS l ((l.getD (i).toNat dI).2.1)) : Lb × Int)]) ++ ((out.take out.length).drop ((k).toNat))).length) c10) (((([] : List (Lb × Int)) ++ ((out.take ((k).toNat)).drop 0)) ++ [((((l.getD (i).toNat dI).2.1.1, (l.getD (i).toNat dI).2.1.2), LNS l ((l.getD (i).toNat dI).2.1)) : Lb × Int)]) ++ ((out.take out.length).drop ((k).toNat)))] := (SH.take 1 rfl hS12)
            exact ⟨_, by omega, A10, c10, (((([] : List (Lb × Int)) ++ ((out.take ((k).toNat)).drop 0)) ++ [((((l.getD (i).toNat dI).2.1.1, (l.getD (i).toNat dI).2.1.2), LNS l ((l.getD (i).toNat dI).2.1)) : Lb × Int)]) ++ ((out.take out.length).drop ((k).toNat))), i + 1, by omega, by omega, (by first | exact cto_skip ilo hk q1 han | exact cto_same ilo hk q1 han klo (by omega) n1 heq | (rw [List.nil_append, List.drop_zero, List.take_length]; exact cto_new ilo hk q1 han klo (by omega) n1 (fun h_ => by first | omega | exact ⟨hlt, heq⟩))), (by first | omega | (simp; omega)), hS13, rfl, Weak.cons rfl <| Weak.cons rfl <| Weak.cons rfl <| Weak.nil _⟩
      · refine WS.pure rfl rfl (fun _ => LV.as (LV.ltI rfl rfl) (decide_eq_false hg1)) ?_
        refine WS.pure rfl rfl (fun _ => LV.mv rfl) ?_
        iterate 4 refine WS.off rfl rfl ?_
        refine WS.offL rfl rfl ?_
        iterate 4 refine WS.off rfl rfl ?_
        refine WS.offL rfl rfl ?_
        refine WS.offF rfl rfl (fun h_ => (KB.refl _ _)) ?_
        refine WS.off rfl rfl ?_
        refine WS.pure rfl rfl (fun _ => LV.pickF rfl rfl) ?_
        refine WS.nil (thenQ.n ?_)
        refine WC.condF rfl ?_
        refine WC.exit (thenQ.x <| thenQ.x <| blockQ.hit <| thenQ.n ?_)
        iterate 2 refine WC.seq ?_
        have hS14 := SH.drew hS2
        refine WC.regionD [] (fun w_ => KB No w3.drew.drew w_) [(.pure, 0), (.pure, 1), (.pure, 2), (.pure, 3), (.pure, 4), (.pure, 5), (.pure, 6), (.pure, 7), (.pure, 8), (.look, 9), (.pure, 10), (.pure, 11), (.pure, 12), (.pure, 13), (.look, 14), (.pure, 15), (.pure, 16)] (by kernel_rfl) (by kernel_rfl) (KB.refl _ _) ?_
        iterate 2 refine WS.pure rfl rfl (fun _ => LV.mv rfl) ?_
        refine WS.pure rfl rfl (fun _ => LV.lenL Try.underlying27 rfl) ?_
        refine WS.pure rfl rfl (fun _ => LV.as (LV.ltI rfl rfl) (decide_eq_false hg1)) ?_
        refine WS.pure rfl rfl (fun _ => LV.mv rfl) ?_
        iterate 4 refine WS.off rfl rfl ?_
        refine WS.offL rfl rfl ?_
        iterate 4 refine WS.off rfl rfl ?_
        refine WS.offL rfl rfl ?_
        refine WS.off rfl rfl ?_
        refine WS.pure rfl rfl (fun _ => LV.pickF rfl rfl) ?_
        refine WS.nil (thenQ.n ?_)
        refine WC.condF rfl ?_
        refine WC.skip (thenQ.n ?_)
        refine WC.seq ?_
        refine WC.region ?_
        refine WL.xe rfl (XE.buildSlice (E := eCt) [] #[] [] hS14 Try.underlying27 ti30 rfl (by decide) (by kernel_rfl) (.inr rfl) rfl rfl (by decide)) ?_
        rintro _ w11 ⟨b4, rfl, hS15, hk9⟩
        iterate 2 refine WL.lv rfl (LV.mv rfl) ?_
        have hcap3 : out.length ≤ c_out := (Rd.cap (St.now (SH.rd hS15 (.tail _ (.head _)))))
        refine WL.lv rfl (LV.cut Try.underlying27 ti30.sz rfl rfl rfl rfl ⟨.inl ⟨rfl, rfl⟩, .inr ⟨.i64, by rw [Int.toNat_of_nonneg (a := k) (by omega)] <;> rfl⟩, .inl ⟨rfl, rfl⟩⟩ (by omega) (by omega) (by omega)) ?_
        refine WL.xe rfl (XE.append hS15 Try.underlying27 ti30 rfl (St.now ((SH.rd hS15 (.tail _ (.head _))).imp fun _ h => Rd.cut h (by omega) (by omega) (by omega) (by omega))) rfl rfl (by first | omega | simp only [List.length_append, List.length_cons, List.length_nil, List.length_take, List.length_reverse, List.length_drop] at *; omega) (by first | omega | simp only [List.length_append, List.length_cons, List.length_nil, List.length_take, List.length_reverse, List.length_drop] at *; omega)) ?_
        rintro _ w12 ⟨A11, c11, rfl, hS16, hk10⟩
        refine WL.lv rfl (LV.asg rfl) ?_
        refine WL.nil (thenQ.n ?_)
        refine WC.seq ?_
        have hS17 := SH.drew hS16
        refine WC.regionD [15] (fun w_ => KB No w12.drew w_) [(.pure, 0), (.pure, 1), (.pure, 2), (.pure, 3), (.pure, 4), (.look, 5), (.pure, 6), (.pure, 7), (.pure, 8), (.pure, 9), (.pure, 10), (.look, 11), (.forced, 12), (.pure, 13), (.forced, 14), (.forced, 15), (.pure, 16)] (by kernel_rfl) (by kernel_rfl) (KB.refl _ _) ?_
        iterate 3 refine WS.pure rfl rfl (fun _ => LV.mv rfl) ?_
        obtain ⟨A12, c12, e8, g8⟩ := St.elt (SH.stN hS17 h_l) dI i (by omega) (by omega)
        refine WS.pure rfl rfl (fun _ => LV.idxA Try.underlying22 ti38.sz rfl e8 rfl (by omega) (by omega)) ?_
        refine WS.pure rfl rfl (fun _ => LV.fieldA Try.underlying38 rfl ti25.sz rfl) ?_
        refine WS.look rfl rfl (fun _ hk_ => LV.loadAgg (cs := [(.int .i64 ((l.getD (i).toNat dI).2.1.1)), (.int .u64 ((l.getD (i).toNat dI).2.1.2))]) Try.underlying25 rfl ti25 rfl rfl (elt_part (off := 1) (n := 2) g8 rfl _ hk_)) ?_
        iterate 3 refine WS.pure rfl rfl (fun _ => LV.mv rfl) ?_
        obtain ⟨A13, c13, e9, g9⟩ := St.elt (SH.stN hS17 h_l) dI i (by omega) (by omega)
        refine WS.pure rfl rfl (fun _ => LV.idxA Try.underlying22 ti38.sz rfl e9 rfl (by omega) (by omega)) ?_
        refine WS.pure rfl rfl (fun _ => LV.fieldA Try.underlying38 rfl ti25.sz rfl) ?_
        refine WS.look rfl rfl (fun _ hk_ => LV.loadAgg (cs := [(.int .i64 ((l.getD (i).toNat dI).2.1.1)), (.int .u64 ((l.getD (i).toNat dI).2.1.2))]) Try.underlying25 rfl ti25 rfl rfl (elt_part (off := 1) (n := 2) g9 rfl _ hk_)) ?_
        refine WS.call rfl rfl (XC.fn Try.func11 (by kernel_rfl) rfl rfl rfl) (rlines_calls (a := ((l.getD (i).toNat dI).2.1)) (SH.stN hS17 h_l) rfl ) ?_
        rintro v_ w13 ⟨rfl, hk11⟩
        have hS18 := SH.same hS17 hk11
        refine ⟨fun h_ => (KB.transN (KB.refl _ _) hk11), ?_⟩
        refine WS.pure rfl rfl (fun _ => LV.build (vs := [(0, (.agg #[(.int .i64 ((l.getD (i).toNat dI).2.1.1)), (.int .u64 ((l.getD (i).toNat dI).2.1.2))])), (1, (.int .i64 (LNS l ((l.getD (i).toNat dI).2.1))))]) (places := #[(0, 2), (2, 1)]) (cs := #[(.int .i64 ((l.getD (i).toNat dI).2.1.1)), (.int .u64 ((l.getD (i).toNat dI).2.1.2)), (.int .i64 (LNS l ((l.getD (i).toNat dI).2.1)))]) Try.underlying30 ti30 (fun _ => by kernel_rfl) rfl rfl) ?_
        refine WS.xe rfl rfl (XE.buildSlice (E := eCt) [(0, (.agg #[(.int .i64 ((l.getD (i).toNat dI).2.1.1)), (.int .u64 ((l.getD (i).toNat dI).2.1.2)), (.int .i64 (LNS l ((l.getD (i).toNat dI).2.1)))]))] #[(.int .i64 ((l.getD (i).toNat dI).2.1.1)), (.int .u64 ((l.getD (i).toNat dI).2.1.2)), (.int .i64 (LNS l ((l.getD (i).toNat dI).2.1)))] [((((l.getD (i).toNat dI).2.1.1, (l.getD (i).toNat dI).2.1.2), LNS l ((l.getD (i).toNat dI).2.1)) : Lb × Int)] hS18 Try.underlying27 ti30 rfl (by decide) (by kernel_rfl) (.inr rfl) rfl rfl (by decide)) ?_
        rintro _ w14 ⟨b5, rfl, hS19, hk12⟩
        refine ⟨fun h_ => (KB.transN (KB.transN (KB.refl _ _) hk11) hk12), ?_⟩
        have hS20 : SH w No w14 [rowE eCt 30 (.slice A11 ((([] : List (Lb × Int)) ++ ((out.take ((k).toNat)).drop 0)).length) c11) (([] : List (Lb × Int)) ++ ((out.take ((k).toNat)).drop 0)), rowE eCt 30 (.slice (some ⟨b5, 0, none⟩) 1 1) [((((l.getD (i).toNat dI).2.1.1, (l.getD (i).toNat dI).2.1.2), LNS l ((l.getD (i).toNat dI).2.1)) : Lb × Int)], rowE eCt 30 (.slice A_out out.length c_out) out] := (SH.front [_] hS19)
        refine WS.xe rfl rfl (XE.append hS20 Try.underlying27 ti30 rfl (St.now (SH.rd hS20 (.tail _ (.head _)))) rfl rfl (by first | omega | simp only [List.length_append, List.length_cons, List.length_nil, List.length_take, List.length_reverse, List.length_drop] at *; omega) (by first | omega | simp only [List.length_append, List.length_cons, List.length_nil, List.length_take, List.length_reverse, List.length_drop] at *; omega)) ?_
        rintro _ w15 ⟨A14, c14, rfl, hS21, hk13⟩
        refine ⟨fun h_ => (by cases h_), ?_⟩
        refine WS.pure rfl rfl (fun _ => LV.asg rfl) ?_
        refine WS.nil (thenQ.n ?_)
        refine WC.region ?_
        iterate 3 refine WL.lv rfl (LV.mv rfl) ?_
        have hcap4 : out.length ≤ c_out := (Rd.cap (St.now (SH.rd hS21 (.tail _ (.tail _ (.head _))))))
        refine WL.lv rfl (LV.cut Try.underlying27 ti30.sz rfl rfl rfl rfl ⟨.inr ⟨.i64, by rw [Int.toNat_of_nonneg (a := k) (by omega)] <;> rfl⟩, .inl ⟨rfl, rfl, rfl⟩, .inl ⟨rfl, rfl⟩⟩ (by omega) (by omega) (by omega)) ?_
        refine WL.xe rfl (XE.append hS21 Try.underlying27 ti30 rfl (St.now ((SH.rd hS21 (.tail _ (.tail _ (.head _)))).imp fun _ h => Rd.cut h (by omega) (by omega) (by omega) (by omega))) rfl rfl (by first | omega | simp only [List.length_append, List.length_cons, List.length_nil, List.length_take, List.length_reverse, List.length_drop] at *; omega) (by first | omega | simp only [List.length_append, List.length_cons, List.length_nil, List.length_take, List.length_reverse, List.length_drop] at *; omega)) ?_
        rintro _ w16 ⟨A15, c15, rfl, hS22, hk14⟩
        refine WL.lv rfl (LV.asg rfl) ?_
        refine WL.nil (blockQ.n <| thenQ.n ?_)
        refine WC.region ?_
        refine WL.lv rfl (LV.mv rfl) ?_
        refine WL.lv rfl (LV.add rfl rfl (wr64 (by omega) (by omega))) ?_
        refine WL.lv rfl (LV.asg rfl) ?_
        refine WL.nil (thenQ.n ?_)
        have hS23 : SH w No w16 [rowE eCt 30 (.slice A15 ((((([] : List (Lb × Int)) ++ ((out.take ((k).toNat)).drop 0)) ++ [((((l.getD (i).toNat dI).2.1.1, (l.getD (i).toNat dI).2.1.2), LNS l ((l.getD (i).toNat dI).2.1)) : Lb × Int)]) ++ ((out.take out.length).drop ((k).toNat))).length) c15) (((([] : List (Lb × Int)) ++ ((out.take ((k).toNat)).drop 0)) ++ [((((l.getD (i).toNat dI).2.1.1, (l.getD (i).toNat dI).2.1.2), LNS l ((l.getD (i).toNat dI).2.1)) : Lb × Int)]) ++ ((out.take out.length).drop ((k).toNat)))] := (SH.take 1 rfl hS22)
        exact ⟨_, by omega, A15, c15, (((([] : List (Lb × Int)) ++ ((out.take ((k).toNat)).drop 0)) ++ [((((l.getD (i).toNat dI).2.1.1, (l.getD (i).toNat dI).2.1.2), LNS l ((l.getD (i).toNat dI).2.1)) : Lb × Int)]) ++ ((out.take out.length).drop ((k).toNat))), i + 1, by omega, by omega, (by first | exact cto_skip ilo hk q1 han | exact cto_same ilo hk q1 han klo (by omega) n1 heq | (rw [List.nil_append, List.drop_zero, List.take_length]; exact cto_new ilo hk q1 han klo (by omega) n1 (fun h_ => by first | omega | exact ⟨hlt, heq⟩))), (by first | omega | (simp; omega)), hS23, rfl, Weak.cons rfl <| Weak.cons rfl <| Weak.cons rfl <| Weak.nil _⟩
  · skip
    refine WC.exit (thenQ.x <| thenQ.x <| blockQ.hit <| thenQ.n ?_)
    refine WC.seq ?_
    refine WC.region ?_
    refine WL.lv rfl (LV.mv rfl) ?_
    refine WL.lv rfl (LV.asg rfl) ?_
    refine WL.nil (thenQ.n ?_)
    refine WC.ret (?_)
    have hres1 : (out : List (Lb × Int)) = CTS l := by rw [q1]; exact cto_all l (by omega)
    exact ⟨_, fun a ha => res1 rfl ha rfl, (by rw [← hres1]; exact ⟨_, _, rfl, hL1⟩)⟩

end Go.Proofs.Ytannlhnjihielaa
