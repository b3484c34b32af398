/- The document's answers. -/
import Derived.Test.YtjjilkibcomfcaaMyD
import Derived.Test.YtjjilkibcomfcaaMyT0
import Derived.Test.YtjjilkibcomfcaaGvI
namespace Go.Proofs.Ytjjilkibcomfcaa
open Go Go.Gv Go.RowKit Go.Mys
set_option linter.unusedVariables false
set_option linter.unusedSimpArgs false
theorem ti47 : TI Try.prog 47 (.int .i64 0) 1 8 := by unfold TI; kernel_rfl

theorem table_calls {w : World} {A0 A1 : Option Addr} {a b : List Int} {c0 c1 : Nat} (ha : St No w (Rd eI (.slice A0 a.length c0) a)) (hb : St No w (Rd eI (.slice A1 b.length c1) b)) (hla : a.length ≤ 400) (hlb : b.length ≤ 400) :
    Calls Try.prog 69 #[(.slice A0 a.length c0), (.slice A1 b.length c1)] w fun e w' => ∃ v, e = .returned v ∧ (fun v w' => ∃ A2 n2 c2 tb, v = .slice A2 n2 c2 ∧ TabOK a b tb (-1) b.length ∧ SH w No w' [rrE eI 54 3 (.slice A2 n2 c2) tb]) v w' := by
  have hS : SH w No w [] := SH.nil _ _
  refine calls (l := litOf [(.slice A0 a.length c0), (.slice A1 b.length c1)] 0) Try.func69 rfl (n := 135) rfl (Nat.le_of_ble_eq_true rfl) (lit_args _) ?_
  refine WC.seq ?_
  refine WC.region ?_
  refine WL.lv rfl (LV.asg rfl) ?_
  refine WL.nil (thenQ.n ?_)
  refine WC.seq ?_
  refine WC.region ?_
  refine WL.xe rfl (XE.buildSlice (E := eV) [] #[] [] hS Try.underlying97 ti54 rfl (by decide) (by kernel_rfl) (.inr rfl) rfl rfl (by decide)) ?_
  rintro _ w1 ⟨b1, rfl, hS1, hk1⟩
  refine WL.lv rfl (LV.asg rfl) ?_
  refine WL.nil (thenQ.n ?_)
  iterate 2 refine WC.seq ?_
  refine WC.region ?_
  have hS2 := SH.rr0 (E := eI) (T1 := 3) hS1
  refine WL.lv rfl (LV.asg rfl) ?_
  refine WL.nil (thenQ.n ?_)
  refine WC.block ?_
  refine WC.loop (fun m_ f_ w_ => ∃ (i : Int) (A : Option Addr) (c : Nat) (rows : List (SV × List Int)), ((rows.length : Int) = i) ∧ (i ≤ (a.length : Int) + 1) ∧ (∀ p ∈ rows, p.2.length = b.length + 1) ∧ SH w No w_ [rrE eI 54 3 (.slice A rows.length c) rows] ∧ m_ = (((a.length : Int) + 1 - i).toNat) ∧ Weak (lit [(0, (.slice A0 a.length c0)), (1, (.slice A1 b.length c1)), (4, (.slice none 0 0)), (5, (.slice A rows.length c)), (6, (.int .i64 i))]) f_) _ ⟨0, (some ⟨b1, 0, none⟩), 0, [], rfl, by omega, (fun p hp => by cases hp), hS2, rfl, Weak.cons rfl <| Weak.cons rfl <| Weak.cons rfl <| Weak.cons rfl <| Weak.cons rfl <| Weak.nil _⟩ ?_
  rintro m1 f1 w2 ⟨i, A, c, rows, q0, q1, q2, hL1, rfl, hw1⟩
  refine WC.weak hw1 ?_
  clear hw1
  iterate 2 refine WC.seq ?_
  refine WC.region ?_
  iterate 2 refine WL.lv rfl (LV.mv rfl) ?_
  refine WL.lv rfl (LV.lenL Try.underlying54 rfl) ?_
  refine WL.lv rfl (LV.leI rfl rfl) ?_
  refine WL.nil (thenQ.n ?_)
  refine WC.condP (p := i ≤ (a.length : Int)) rfl (fun hc1 => ?_) (fun hc1 => ?_)
  · skip
    refine WC.skip (thenQ.n ?_)
    refine WC.seq ?_
    refine WC.block ?_
    refine WC.region ?_
    iterate 2 refine WL.lv rfl (LV.mv rfl) ?_
    refine WL.lv rfl (LV.lenL Try.underlying54 rfl) ?_
    refine WL.lv rfl (LV.add rfl rfl (wr64 (by omega) (by omega))) ?_
    refine WL.xe rfl (XE.make (E := eI) (n := (b.length + 1)) 0 hL1 Try.underlying54 ti3 rfl rfl rfl rfl (by omega) (by omega) (by omega) (by omega)) ?_
    rintro _ w3 ⟨b2, rfl, hS3, hk2⟩
    refine WL.xe rfl (XE.buildSlice (E := eV) [(0, (.slice (some ⟨b2, 0, none⟩) (b.length + 1) (b.length + 1)))] #[(.slice (some ⟨b2, 0, none⟩) (b.length + 1) (b.length + 1))] [(⟨(some ⟨b2, 0, none⟩), (b.length + 1), (b.length + 1)⟩ : SV)] hS3 Try.underlying97 ti54 rfl (by decide) (by kernel_rfl) (.inr rfl) rfl rfl (by decide)) ?_
    rintro _ w4 ⟨b3, rfl, hS4, hk3⟩
    have hS5 : SH w No w4 [rowE eI 3 (.slice (some ⟨b2, 0, none⟩) (b.length + 1) (b.length + 1)) (List.replicate (b.length + 1) 0), rowE eV 54 (.slice (some ⟨b3, 0, none⟩) 1 1) [(⟨(some ⟨b2, 0, none⟩), (b.length + 1), (b.length + 1)⟩ : SV)], rrE eI 54 3 (.slice A rows.length c) rows] := (SH.front [rowE eV 54 (.slice (some ⟨b3, 0, none⟩) 1 1) [(⟨(some ⟨b2, 0, none⟩), (b.length + 1), (b.length + 1)⟩ : SV)]] hS4)
    have hS6 : SH w No w4 [rrE eI 54 3 (.slice A rows.length c) rows, rowE eI 3 (.slice (some ⟨b2, 0, none⟩) (b.length + 1) (b.length + 1)) (List.replicate (b.length + 1) 0), rowE eV 54 (.slice (some ⟨b3, 0, none⟩) 1 1) [(⟨(some ⟨b2, 0, none⟩), (b.length + 1), (b.length + 1)⟩ : SV)]] := (SH.front [rowE eI 3 (.slice (some ⟨b2, 0, none⟩) (b.length + 1) (b.length + 1)) (List.replicate (b.length + 1) 0), rowE eV 54 (.slice (some ⟨b3, 0, none⟩) 1 1) [(⟨(some ⟨b2, 0, none⟩), (b.length + 1), (b.length + 1)⟩ : SV)]] hS5)
    refine WL.xe rfl (XE.appendRR (sv := (⟨(some ⟨b2, 0, none⟩), (b.length + 1), (b.length + 1)⟩ : SV)) hS6 rfl Try.underlying97 ti54 (St.now (SH.rd hS6 (.tail _ (.tail _ (.head _))))) rfl rfl (by omega) (by omega)) ?_
    rintro _ w5 ⟨A2, c2, rfl, hS7, hk4⟩
    refine WL.lv rfl (LV.asg rfl) ?_
    refine WL.nil (blockQ.n <| thenQ.n ?_)
    refine WC.region ?_
    refine WL.lv rfl (LV.mv rfl) ?_
    refine WL.lv rfl (LV.add rfl rfl (wr64 (by omega) (by omega))) ?_
    refine WL.lv rfl (LV.asg rfl) ?_
    refine WL.nil (thenQ.n ?_)
    have hS8 : SH w No w5 [rrE eI 54 3 (.slice A2 ((rows ++ [((⟨(some ⟨b2, 0, none⟩), (b.length + 1), (b.length + 1)⟩ : SV), (List.replicate (b.length + 1) 0))]).length) c2) (rows ++ [((⟨(some ⟨b2, 0, none⟩), (b.length + 1), (b.length + 1)⟩ : SV), (List.replicate (b.length + 1) 0))])] := (SH.take 1 rfl hS7)
    exact ⟨_, by omega, i + 1, A2, c2, (rows ++ [((⟨(some ⟨b2, 0, none⟩), (b.length + 1), (b.length + 1)⟩ : SV), (List.replicate (b.length + 1) 0))]), (by simp; omega), by omega, (fun p hp => by rcases List.mem_append.1 hp with hp | hp; exact q2 p hp; simp at hp; subst hp; simp), hS8, rfl, Weak.cons rfl <| Weak.cons rfl <| Weak.cons rfl <| Weak.cons rfl <| Weak.cons rfl <| Weak.nil _⟩
  · skip
    refine WC.exit (thenQ.x <| thenQ.x <| blockQ.hit <| thenQ.n ?_)
    iterate 2 refine WC.seq ?_
    refine WC.region ?_
    refine WL.lv rfl (LV.mv rfl) ?_
    refine WL.lv rfl (LV.lenL Try.underlying54 rfl) ?_
    refine WL.lv rfl (LV.asg rfl) ?_
    refine WL.nil (thenQ.n ?_)
    refine WC.block ?_
    refine WC.loop (fun m_ f_ w_ => ∃ (i1 : Int) (tb : List (SV × List Int)), (-1 ≤ i1) ∧ (i1 ≤ a.length) ∧ (TabOK a b tb i1 b.length) ∧ SH w No w_ [rrE eI 54 3 (.slice A rows.length c) tb] ∧ m_ = ((i1 + 1).toNat) ∧ Weak (lit [(0, (.slice A0 a.length c0)), (1, (.slice A1 b.length c1)), (4, (.slice none 0 0)), (5, (.slice A rows.length c)), (7, (.int .i64 i1))]) f_) _ ⟨(a.length : Int), rows, by omega, by omega, (TabOK.init (by omega) q2), hL1, rfl, Weak.cons rfl <| Weak.cons rfl <| Weak.cons rfl <| Weak.cons rfl <| Weak.cons rfl <| Weak.nil _⟩ ?_
    rintro m2 f2 w6 ⟨i1, tb, r0, r1, r2, hL2, rfl, hw2⟩
    refine WC.weak hw2 ?_
    clear hw2
    iterate 2 refine WC.seq ?_
    refine WC.region ?_
    refine WL.lv rfl (LV.mv rfl) ?_
    refine WL.lv rfl (LV.geI rfl rfl) ?_
    refine WL.nil (thenQ.n ?_)
    refine WC.condP (p := i1 ≥ 0) rfl (fun hc26 => ?_) (fun hc26 => ?_)
    · skip
      refine WC.skip (thenQ.n ?_)
      refine WC.seq ?_
      refine WC.block ?_
      refine WC.seq ?_
      refine WC.region ?_
      refine WL.lv rfl (LV.mv rfl) ?_
      refine WL.lv rfl (LV.lenL Try.underlying54 rfl) ?_
      refine WL.lv rfl (LV.asg rfl) ?_
      refine WL.nil (thenQ.n ?_)
      refine WC.block ?_
      refine WC.loop (fun m_ f_ w_ => ∃ (j1 : Int) (tb : List (SV × List Int)), (-1 ≤ j1) ∧ (j1 ≤ b.length) ∧ (TabOK a b tb i1 j1) ∧ SH w No w_ [rrE eI 54 3 (.slice A rows.length c) tb] ∧ m_ = ((j1 + 1).toNat) ∧ Weak (lit [(0, (.slice A0 a.length c0)), (1, (.slice A1 b.length c1)), (4, (.slice none 0 0)), (5, (.slice A rows.length c)), (7, (.int .i64 i1)), (8, (.int .i64 j1))]) f_) _ ⟨(b.length : Int), tb, by omega, by omega, r2, hL2, rfl, Weak.cons rfl <| Weak.cons rfl <| Weak.cons rfl <| Weak.cons rfl <| Weak.cons rfl <| Weak.cons rfl <| Weak.nil _⟩ ?_
      rintro m3 f3 w7 ⟨j1, tb, s0, s1, s2, hL3, rfl, hw3⟩
      refine WC.weak hw3 ?_
      clear hw3
      have hsl := s2.len
      have hsr1 := fun h1 h2 => s2.row i1 h1 h2
      have hsr2 := fun h1 h2 => s2.row (i1 + 1) h1 h2
      have hv1 := fun h1 h2 h3 h4 h5 => (show gI (tb.getD i1.toNat default).2 (j1 + 1) = (D a b i1 (j1 + 1) : Int) from s2.val i1 (j1 + 1) h1 h2 h3 h4 h5)
      have hv2 := fun h1 h2 h3 h4 h5 => (show gI (tb.getD (i1 + 1).toNat default).2 j1 = (D a b (i1 + 1) j1 : Int) from s2.val (i1 + 1) j1 h1 h2 h3 h4 h5)
      have hd1 := D_bd a b i1 (j1 + 1)
      have hd2 := D_bd a b (i1 + 1) j1
      iterate 2 refine WC.seq ?_
      refine WC.region ?_
      refine WL.lv rfl (LV.mv rfl) ?_
      refine WL.lv rfl (LV.geI rfl rfl) ?_
      refine WL.nil (thenQ.n ?_)
      refine WC.condP (p := j1 ≥ 0) rfl (fun hc => ?_) (fun hc => ?_)
      · skip
        refine WC.skip (thenQ.n ?_)
        refine WC.seq ?_
        refine WC.block ?_
        refine WC.seq ?_
        refine WC.region ?_
        iterate 2 refine WL.lv rfl (LV.mv rfl) ?_
        refine WL.lv rfl (LV.lenL Try.underlying54 rfl) ?_
        refine WL.lv rfl (LV.eqI rfl rfl) ?_
        refine WL.nil (thenQ.n ?_)
        refine WC.condP (p := i1 = (a.length : Int)) rfl (fun hc2 => ?_) (fun hc2 => ?_)
        · skip
          refine WC.region ?_
          iterate 2 refine WL.lv rfl (LV.mv rfl) ?_
          obtain ⟨A3, c3, A4, c4, e1, g1, e2, r1⟩ := St.eltRR (SH.rdRR hL3 (.head _)) default i1 (by omega) (by omega)
          refine WL.lv rfl (LV.idxA Try.underlying97 ti54.sz rfl e1 rfl (by omega) (by omega)) ?_
          refine WL.lv rfl (LV.load1 Try.underlying54 rfl rfl (g1 _ (KB.refl No _))) ?_
          iterate 2 refine WL.lv rfl (LV.mv rfl) ?_
          refine WL.lv rfl (LV.lenL Try.underlying54 rfl) ?_
          refine WL.lv rfl (LV.mv rfl) ?_
          refine WL.lv rfl (LV.sub rfl rfl (wr64 (by omega) (by omega))) ?_
          obtain ⟨A5, c5, e3, g2⟩ := St.elt (St.inner (SH.rdRR hL3 (.head _)) (getD_mem (by omega)) e2) 0 j1 (by omega) (by omega)
          refine WL.lv rfl (LV.idxA Try.underlying54 ti3.sz rfl e3 rfl (by omega) (by omega)) ?_
          refine WL.xse rfl (XSE.rr1 (i := i1) (j := j1) (o := 0) (k := 0) ((b.length : Int) - j1) hL3 (by omega) (by omega) (e2.trans e3) (by omega) (by omega) (by decide) ti3.sz rfl rfl rfl rfl) ?_
          rintro w8 ⟨hS9, hk5⟩
          refine WL.nil (blockQ.n <| thenQ.n ?_)
          refine WC.region ?_
          refine WL.lv rfl (LV.mv rfl) ?_
          refine WL.lv rfl (LV.sub rfl rfl (wr64 (by omega) (by omega))) ?_
          refine WL.lv rfl (LV.asg rfl) ?_
          refine WL.nil (thenQ.n ?_)
          exact ⟨_, by omega, j1 - 1, (tb.set (i1).toNat ((tb.getD (i1).toNat default).1, (tb.getD (i1).toNat default).2.set (j1).toNat ((b.length : Int) - j1))), by omega, by omega, (TabOK.put s2 (by omega) (by omega) (by omega) s1 (tab1 (by omega) (by omega) (by omega))), hS9, rfl, Weak.cons rfl <| Weak.cons rfl <| Weak.cons rfl <| Weak.cons rfl <| Weak.cons rfl <| Weak.cons rfl <| Weak.nil _⟩
        · skip
          refine WC.seq ?_
          refine WC.region ?_
          iterate 2 refine WL.lv rfl (LV.mv rfl) ?_
          refine WL.lv rfl (LV.lenL Try.underlying54 rfl) ?_
          refine WL.lv rfl (LV.eqI rfl rfl) ?_
          refine WL.nil (thenQ.n ?_)
          refine WC.condP (p := j1 = (b.length : Int)) rfl (fun hc3 => ?_) (fun hc3 => ?_)
          · skip
            refine WC.region ?_
            iterate 2 refine WL.lv rfl (LV.mv rfl) ?_
            obtain ⟨A6, c6, A7, c7, e4, g3, e5, r2⟩ := St.eltRR (SH.rdRR hL3 (.head _)) default i1 (by omega) (by omega)
            refine WL.lv rfl (LV.idxA Try.underlying97 ti54.sz rfl e4 rfl (by omega) (by omega)) ?_
            refine WL.lv rfl (LV.load1 Try.underlying54 rfl rfl (g3 _ (KB.refl No _))) ?_
            iterate 2 refine WL.lv rfl (LV.mv rfl) ?_
            refine WL.lv rfl (LV.lenL Try.underlying54 rfl) ?_
            refine WL.lv rfl (LV.mv rfl) ?_
            refine WL.lv rfl (LV.sub rfl rfl (wr64 (by omega) (by omega))) ?_
            obtain ⟨A8, c8, e6, g4⟩ := St.elt (St.inner (SH.rdRR hL3 (.head _)) (getD_mem (by omega)) e5) 0 j1 (by omega) (by omega)
            refine WL.lv rfl (LV.idxA Try.underlying54 ti3.sz rfl e6 rfl (by omega) (by omega)) ?_
            refine WL.xse rfl (XSE.rr1 (i := i1) (j := j1) (o := 0) (k := 0) ((a.length : Int) - i1) hL3 (by omega) (by omega) (e5.trans e6) (by omega) (by omega) (by decide) ti3.sz rfl rfl rfl rfl) ?_
            rintro w9 ⟨hS10, hk6⟩
            refine WL.nil (blockQ.n <| thenQ.n ?_)
            refine WC.region ?_
            refine WL.lv rfl (LV.mv rfl) ?_
            refine WL.lv rfl (LV.sub rfl rfl (wr64 (by omega) (by omega))) ?_
            refine WL.lv rfl (LV.asg rfl) ?_
            refine WL.nil (thenQ.n ?_)
            exact ⟨_, by omega, j1 - 1, (tb.set (i1).toNat ((tb.getD (i1).toNat default).1, (tb.getD (i1).toNat default).2.set (j1).toNat ((a.length : Int) - i1))), by omega, by omega, (TabOK.put s2 (by omega) (by omega) (by omega) s1 (tab2 (by omega) (by omega) (by omega))), hS10, rfl, Weak.cons rfl <| Weak.cons rfl <| Weak.cons rfl <| Weak.cons rfl <| Weak.cons rfl <| Weak.cons rfl <| Weak.nil _⟩
          · skip
            refine WC.seq ?_
            have hS11 := SH.drew hL3
            refine WC.regionD [] (fun w_ => KB No w7.drew w_) [(.pure, 0), (.pure, 1), (.pure, 2), (.look, 3), (.pure, 4), (.pure, 5), (.pure, 6), (.look, 7), (.pure, 8)] (by kernel_rfl) (by kernel_rfl) (KB.refl _ _) ?_
            iterate 2 refine WS.pure rfl rfl (fun _ => LV.mv rfl) ?_
            obtain ⟨A9, c9, e7, g5⟩ := St.elt (SH.stN hS11 ha) 0 i1 (by omega) (by omega)
            refine WS.pure rfl rfl (fun _ => LV.idxA Try.underlying54 ti3.sz rfl e7 rfl (by omega) (by omega)) ?_
            refine WS.look rfl rfl (fun _ hk_ => LV.load1 (v := (.int .i64 (gI a (i1)))) Try.underlying3 rfl rfl (g5 _ hk_ 0 _ rfl)) ?_
            iterate 2 refine WS.pure rfl rfl (fun _ => LV.mv rfl) ?_
            obtain ⟨A10, c10, e8, g6⟩ := St.elt (SH.stN hS11 hb) 0 j1 (by omega) (by omega)
            refine WS.pure rfl rfl (fun _ => LV.idxA Try.underlying54 ti3.sz rfl e8 rfl (by omega) (by omega)) ?_
            refine WS.look rfl rfl (fun _ hk_ => LV.load1 (v := (.int .i64 (gI b (j1)))) Try.underlying3 rfl rfl (g6 _ hk_ 0 _ rfl)) ?_
            refine WS.pure rfl rfl (fun _ => LV.eqI rfl rfl) ?_
            refine WS.nil (thenQ.n ?_)
            refine WC.condP (p := (gI a (i1)) = (gI b (j1))) rfl (fun hc4 => ?_) (fun hc4 => ?_)
            · skip
              have hS12 := SH.drew hS11
              refine WC.regionD [15] (fun w_ => KB No w7.drew.drew w_) [(.pure, 0), (.pure, 1), (.pure, 2), (.look, 3), (.pure, 4), (.pure, 5), (.pure, 6), (.pure, 7), (.pure, 8), (.look, 9), (.pure, 10), (.pure, 11), (.pure, 12), (.look, 13), (.pure, 14), (.forced, 15)] (by kernel_rfl) (by kernel_rfl) (KB.refl _ _) ?_
              iterate 2 refine WS.pure rfl rfl (fun _ => LV.mv rfl) ?_
              obtain ⟨A11, c11, A12, c12, e9, g7, e10, r3⟩ := St.eltRR (SH.rdRR hS12 (.head _)) default i1 (by omega) (by omega)
              refine WS.pure rfl rfl (fun _ => LV.idxA Try.underlying97 ti54.sz rfl e9 rfl (by omega) (by omega)) ?_
              refine WS.look rfl rfl (fun _ hk_ => LV.load1 Try.underlying54 rfl rfl (g7 _ hk_)) ?_
              iterate 3 refine WS.pure rfl rfl (fun _ => LV.mv rfl) ?_
              refine WS.pure rfl rfl (fun _ => LV.add rfl rfl (wr64 (by omega) (by omega))) ?_
              obtain ⟨A13, c13, A14, c14, e11, g8, e12, r4⟩ := St.eltRR (SH.rdRR hS12 (.head _)) default (i1 + 1) (by omega) (by omega)
              refine WS.pure rfl rfl (fun _ => LV.idxA Try.underlying97 ti54.sz rfl e11 rfl (by omega) (by omega)) ?_
              refine WS.look rfl rfl (fun _ hk_ => LV.load1 Try.underlying54 rfl rfl (g8 _ hk_)) ?_
              refine WS.pure rfl rfl (fun _ => LV.mv rfl) ?_
              refine WS.pure rfl rfl (fun _ => LV.add rfl rfl (wr64 (by omega) (by omega))) ?_
              obtain ⟨A15, c15, e13, g9⟩ := St.elt (St.inner (SH.rdRR hS12 (.head _)) (getD_mem (by omega)) e12) 0 (j1 + 1) (by omega) (by omega)
              refine WS.pure rfl rfl (fun _ => LV.idxA Try.underlying54 ti3.sz rfl e13 rfl (by omega) (by omega)) ?_
              refine WS.look rfl rfl (fun _ hk_ => LV.load1 (v := (.int .i64 (gI ((tb.getD (i1 + 1).toNat default).2) (j1 + 1)))) Try.underlying3 rfl rfl (g9 _ hk_ 0 _ rfl)) ?_
              obtain ⟨A16, c16, e14, g10⟩ := St.elt (St.inner (SH.rdRR hS12 (.head _)) (getD_mem (by omega)) e10) 0 j1 (by omega) (by omega)
              refine WS.pure rfl rfl (fun _ => LV.idxA Try.underlying54 ti3.sz rfl e14 rfl (by omega) (by omega)) ?_
              refine WS.xse rfl rfl (XSE.rr1 (i := i1) (j := j1) (o := 0) (k := 0) (gI ((tb.getD (i1 + 1).toNat default).2) (j1 + 1)) hS12 (by omega) (by omega) (e10.trans e14) (by omega) (by omega) (by decide) ti3.sz rfl rfl rfl rfl) ?_
              rintro w10 ⟨hS13, hk7⟩
              refine ⟨fun h_ => (by cases h_), ?_⟩
              refine WS.nil (blockQ.n <| thenQ.n ?_)
              refine WC.region ?_
              refine WL.lv rfl (LV.mv rfl) ?_
              refine WL.lv rfl (LV.sub rfl rfl (wr64 (by omega) (by omega))) ?_
              refine WL.lv rfl (LV.asg rfl) ?_
              refine WL.nil (thenQ.n ?_)
              exact ⟨_, by omega, j1 - 1, (tb.set (i1).toNat ((tb.getD (i1).toNat default).1, (tb.getD (i1).toNat default).2.set (j1).toNat (gI ((tb.getD (i1 + 1).toNat default).2) (j1 + 1)))), by omega, by omega, (TabOK.put s2 (by omega) (by omega) (by omega) s1 (tab3 s2 (by omega) (by omega) (by omega) (by omega) hc4)), hS13, rfl, Weak.cons rfl <| Weak.cons rfl <| Weak.cons rfl <| Weak.cons rfl <| Weak.cons rfl <| Weak.cons rfl <| Weak.nil _⟩
            · skip
              refine WC.seq ?_
              have hS14 := SH.drew hS11
              refine WC.regionD [] (fun w_ => KB No w7.drew.drew w_) [(.pure, 0), (.pure, 1), (.pure, 2), (.pure, 3), (.look, 4), (.pure, 5), (.pure, 6), (.look, 7), (.pure, 8), (.pure, 9), (.pure, 10), (.look, 11), (.pure, 12), (.pure, 13), (.pure, 14), (.look, 15), (.pure, 16)] (by kernel_rfl) (by kernel_rfl) (KB.refl _ _) ?_
              iterate 2 refine WS.pure rfl rfl (fun _ => LV.mv rfl) ?_
              refine WS.pure rfl rfl (fun _ => LV.add rfl rfl (wr64 (by omega) (by omega))) ?_
              obtain ⟨A17, c17, A18, c18, e15, g11, e16, r5⟩ := St.eltRR (SH.rdRR hS14 (.head _)) default (i1 + 1) (by omega) (by omega)
              refine WS.pure rfl rfl (fun _ => LV.idxA Try.underlying97 ti54.sz rfl e15 rfl (by omega) (by omega)) ?_
              refine WS.look rfl rfl (fun _ hk_ => LV.load1 Try.underlying54 rfl rfl (g11 _ hk_)) ?_
              refine WS.pure rfl rfl (fun _ => LV.mv rfl) ?_
              obtain ⟨A19, c19, e17, g12⟩ := St.elt (St.inner (SH.rdRR hS14 (.head _)) (getD_mem (by omega)) e16) 0 j1 (by omega) (by omega)
              refine WS.pure rfl rfl (fun _ => LV.idxA Try.underlying54 ti3.sz rfl e17 rfl (by omega) (by omega)) ?_
              refine WS.look rfl rfl (fun _ hk_ => LV.load1 (v := (.int .i64 (gI ((tb.getD (i1 + 1).toNat default).2) (j1)))) Try.underlying3 rfl rfl (g12 _ hk_ 0 _ rfl)) ?_
              iterate 2 refine WS.pure rfl rfl (fun _ => LV.mv rfl) ?_
              obtain ⟨A20, c20, A21, c21, e18, g13, e19, r6⟩ := St.eltRR (SH.rdRR hS14 (.head _)) default i1 (by omega) (by omega)
              refine WS.pure rfl rfl (fun _ => LV.idxA Try.underlying97 ti54.sz rfl e18 rfl (by omega) (by omega)) ?_
              refine WS.look rfl rfl (fun _ hk_ => LV.load1 Try.underlying54 rfl rfl (g13 _ hk_)) ?_
              refine WS.pure rfl rfl (fun _ => LV.mv rfl) ?_
              refine WS.pure rfl rfl (fun _ => LV.add rfl rfl (wr64 (by omega) (by omega))) ?_
              obtain ⟨A22, c22, e20, g14⟩ := St.elt (St.inner (SH.rdRR hS14 (.head _)) (getD_mem (by omega)) e19) 0 (j1 + 1) (by omega) (by omega)
              refine WS.pure rfl rfl (fun _ => LV.idxA Try.underlying54 ti3.sz rfl e20 rfl (by omega) (by omega)) ?_
              refine WS.look rfl rfl (fun _ hk_ => LV.load1 (v := (.int .i64 (gI ((tb.getD (i1).toNat default).2) (j1 + 1)))) Try.underlying3 rfl rfl (g14 _ hk_ 0 _ rfl)) ?_
              refine WS.pure rfl rfl (fun _ => LV.ltI rfl rfl) ?_
              refine WS.nil (thenQ.n ?_)
              refine WC.condP (p := (gI ((tb.getD (i1 + 1).toNat default).2) (j1)) < (gI ((tb.getD (i1).toNat default).2) (j1 + 1))) rfl (fun hc5 => ?_) (fun hc5 => ?_)
              · skip
                have hS15 := SH.drew hS14
                refine WC.regionD [15] (fun w_ => KB No w7.drew.drew.drew w_) [(.pure, 0), (.pure, 1), (.pure, 2), (.look, 3), (.pure, 4), (.pure, 5), (.pure, 6), (.pure, 7), (.pure, 8), (.look, 9), (.pure, 10), (.pure, 11), (.look, 12), (.pure, 13), (.pure, 14), (.forced, 15)] (by kernel_rfl) (by kernel_rfl) (KB.refl _ _) ?_
                iterate 2 refine WS.pure rfl rfl (fun _ => LV.mv rfl) ?_
                obtain ⟨A23, c23, A24, c24, e21, g15, e22, r7⟩ := St.eltRR (SH.rdRR hS15 (.head _)) default i1 (by omega) (by omega)
                refine WS.pure rfl rfl (fun _ => LV.idxA Try.underlying97 ti54.sz rfl e21 rfl (by omega) (by omega)) ?_
                refine WS.look rfl rfl (fun _ hk_ => LV.load1 Try.underlying54 rfl rfl (g15 _ hk_)) ?_
                iterate 3 refine WS.pure rfl rfl (fun _ => LV.mv rfl) ?_
                refine WS.pure rfl rfl (fun _ => LV.add rfl rfl (wr64 (by omega) (by omega))) ?_
                obtain ⟨A25, c25, A26, c26, e23, g16, e24, r8⟩ := St.eltRR (SH.rdRR hS15 (.head _)) default (i1 + 1) (by omega) (by omega)
                refine WS.pure rfl rfl (fun _ => LV.idxA Try.underlying97 ti54.sz rfl e23 rfl (by omega) (by omega)) ?_
                refine WS.look rfl rfl (fun _ hk_ => LV.load1 Try.underlying54 rfl rfl (g16 _ hk_)) ?_
                refine WS.pure rfl rfl (fun _ => LV.mv rfl) ?_
                obtain ⟨A27, c27, e25, g17⟩ := St.elt (St.inner (SH.rdRR hS15 (.head _)) (getD_mem (by omega)) e24) 0 j1 (by omega) (by omega)
                refine WS.pure rfl rfl (fun _ => LV.idxA Try.underlying54 ti3.sz rfl e25 rfl (by omega) (by omega)) ?_
                refine WS.look rfl rfl (fun _ hk_ => LV.load1 (v := (.int .i64 (gI ((tb.getD (i1 + 1).toNat default).2) (j1)))) Try.underlying3 rfl rfl (g17 _ hk_ 0 _ rfl)) ?_
                refine WS.pure rfl rfl (fun _ => LV.add rfl rfl (wr64 (by omega) (by omega))) ?_
                obtain ⟨A28, c28, e26, g18⟩ := St.elt (St.inner (SH.rdRR hS15 (.head _)) (getD_mem (by omega)) e22) 0 j1 (by omega) (by omega)
                refine WS.pure rfl rfl (fun _ => LV.idxA Try.underlying54 ti3.sz rfl e26 rfl (by omega) (by omega)) ?_
                refine WS.xse rfl rfl (XSE.rr1 (i := i1) (j := j1) (o := 0) (k := 0) ((gI ((tb.getD (i1 + 1).toNat default).2) (j1)) + 1) hS15 (by omega) (by omega) (e22.trans e26) (by omega) (by omega) (by decide) ti3.sz rfl rfl rfl rfl) ?_
                rintro w11 ⟨hS16, hk8⟩
                refine ⟨fun h_ => (by cases h_), ?_⟩
                refine WS.nil (blockQ.n <| thenQ.n ?_)
                refine WC.region ?_
                refine WL.lv rfl (LV.mv rfl) ?_
                refine WL.lv rfl (LV.sub rfl rfl (wr64 (by omega) (by omega))) ?_
                refine WL.lv rfl (LV.asg rfl) ?_
                refine WL.nil (thenQ.n ?_)
                exact ⟨_, by omega, j1 - 1, (tb.set (i1).toNat ((tb.getD (i1).toNat default).1, (tb.getD (i1).toNat default).2.set (j1).toNat ((gI ((tb.getD (i1 + 1).toNat default).2) (j1)) + 1))), by omega, by omega, (TabOK.put s2 (by omega) (by omega) (by omega) s1 (tab4 s2 (by omega) (by omega) (by omega) (by omega) hc4 hc5)), hS16, rfl, Weak.cons rfl <| Weak.cons rfl <| Weak.cons rfl <| Weak.cons rfl <| Weak.cons rfl <| Weak.cons rfl <| Weak.nil _⟩
              · skip
                have hS17 := SH.drew hS14
                refine WC.regionD [15] (fun w_ => KB No w7.drew.drew.drew w_) [(.pure, 0), (.pure, 1), (.pure, 2), (.look, 3), (.pure, 4), (.pure, 5), (.pure, 6), (.pure, 7), (.look, 8), (.pure, 9), (.pure, 10), (.pure, 11), (.look, 12), (.pure, 13), (.pure, 14), (.forced, 15)] (by kernel_rfl) (by kernel_rfl) (KB.refl _ _) ?_
                iterate 2 refine WS.pure rfl rfl (fun _ => LV.mv rfl) ?_
                obtain ⟨A29, c29, A30, c30, e27, g19, e28, r9⟩ := St.eltRR (SH.rdRR hS17 (.head _)) default i1 (by omega) (by omega)
                refine WS.pure rfl rfl (fun _ => LV.idxA Try.underlying97 ti54.sz rfl e27 rfl (by omega) (by omega)) ?_
                refine WS.look rfl rfl (fun _ hk_ => LV.load1 Try.underlying54 rfl rfl (g19 _ hk_)) ?_
                iterate 3 refine WS.pure rfl rfl (fun _ => LV.mv rfl) ?_
                obtain ⟨A31, c31, A32, c32, e29, g20, e30, r10⟩ := St.eltRR (SH.rdRR hS17 (.head _)) default i1 (by omega) (by omega)
                refine WS.pure rfl rfl (fun _ => LV.idxA Try.underlying97 ti54.sz rfl e29 rfl (by omega) (by omega)) ?_
                refine WS.look rfl rfl (fun _ hk_ => LV.load1 Try.underlying54 rfl rfl (g20 _ hk_)) ?_
                refine WS.pure rfl rfl (fun _ => LV.mv rfl) ?_
                refine WS.pure rfl rfl (fun _ => LV.add rfl rfl (wr64 (by omega) (by omega))) ?_
                obtain ⟨A33, c33, e31, g21⟩ := St.elt (St.inner (SH.rdRR hS17 (.head _)) (getD_mem (by omega)) e30) 0 (j1 + 1) (by omega) (by omega)
                refine WS.pure rfl rfl (fun _ => LV.idxA Try.underlying54 ti3.sz rfl e31 rfl (by omega) (by omega)) ?_
                refine WS.look rfl rfl (fun _ hk_ => LV.load1 (v := (.int .i64 (gI ((tb.getD (i1).toNat default).2) (j1 + 1)))) Try.underlying3 rfl rfl (g21 _ hk_ 0 _ rfl)) ?_
                refine WS.pure rfl rfl (fun _ => LV.add rfl rfl (wr64 (by omega) (by omega))) ?_
                obtain ⟨A34, c34, e32, g22⟩ := St.elt (St.inner (SH.rdRR hS17 (.head _)) (getD_mem (by omega)) e28) 0 j1 (by omega) (by omega)
                refine WS.pure rfl rfl (fun _ => LV.idxA Try.underlying54 ti3.sz rfl e32 rfl (by omega) (by omega)) ?_
                refine WS.xse rfl rfl (XSE.rr1 (i := i1) (j := j1) (o := 0) (k := 0) ((gI ((tb.getD (i1).toNat default).2) (j1 + 1)) + 1) hS17 (by omega) (by omega) (e28.trans e32) (by omega) (by omega) (by decide) ti3.sz rfl rfl rfl rfl) ?_
                rintro w12 ⟨hS18, hk9⟩
                refine ⟨fun h_ => (by cases h_), ?_⟩
                refine WS.nil (blockQ.n <| thenQ.n ?_)
                refine WC.region ?_
                refine WL.lv rfl (LV.mv rfl) ?_
                refine WL.lv rfl (LV.sub rfl rfl (wr64 (by omega) (by omega))) ?_
                refine WL.lv rfl (LV.asg rfl) ?_
                refine WL.nil (thenQ.n ?_)
                exact ⟨_, by omega, j1 - 1, (tb.set (i1).toNat ((tb.getD (i1).toNat default).1, (tb.getD (i1).toNat default).2.set (j1).toNat ((gI ((tb.getD (i1).toNat default).2) (j1 + 1)) + 1))), by omega, by omega, (TabOK.put s2 (by omega) (by omega) (by omega) s1 (tab5 s2 (by omega) (by omega) (by omega) (by omega) hc4 hc5)), hS18, rfl, Weak.cons rfl <| Weak.cons rfl <| Weak.cons rfl <| Weak.cons rfl <| Weak.cons rfl <| Weak.cons rfl <| Weak.nil _⟩
      · skip
        refine WC.exit (thenQ.x <| thenQ.x <| blockQ.hit <| blockQ.n <| thenQ.n ?_)
        refine WC.region ?_
        refine WL.lv rfl (LV.mv rfl) ?_
        refine WL.lv rfl (LV.sub rfl rfl (wr64 (by omega) (by omega))) ?_
        refine WL.lv rfl (LV.asg rfl) ?_
        refine WL.nil (thenQ.n ?_)
        exact ⟨_, by omega, i1 - 1, tb, by omega, by omega, (TabOK.next s2 hc), hL3, rfl, Weak.cons rfl <| Weak.cons rfl <| Weak.cons rfl <| Weak.cons rfl <| Weak.cons rfl <| Weak.nil _⟩
    · skip
      refine WC.exit (thenQ.x <| thenQ.x <| blockQ.hit <| thenQ.n ?_)
      refine WC.seq ?_
      refine WC.region ?_
      refine WL.lv rfl (LV.mv rfl) ?_
      refine WL.lv rfl (LV.asg rfl) ?_
      refine WL.nil (thenQ.n ?_)
      refine WC.ret (?_)
      exact ⟨_, fun a ha => res1 rfl ha rfl, _, _, _, _, rfl, (show i1 = -1 by omega) ▸ r2, hL2⟩

theorem rsteps_calls {w : World} {A0 A1 : Option Addr} {a b : List Int} {c0 c1 : Nat} (ha : St No w (Rd eI (.slice A0 a.length c0) a)) (hb : St No w (Rd eI (.slice A1 b.length c1) b)) :
    Calls Try.prog 61 #[(.slice A0 a.length c0), (.slice A1 b.length c1)] w fun e w' => ∃ v, e = .returned v ∧ (fun v w' => ∃ A' c', v = .slice A' (Stp a b).length c' ∧ SH w No w' [rowE eI 47 (.slice A' (Stp a b).length c') (Stp a b)]) v w' := by
  have hS : SH w No w [] := SH.nil _ _
  refine calls (l := litOf [(.slice A0 a.length c0), (.slice A1 b.length c1)] 0) Try.func61 rfl (n := 94) rfl (Nat.le_of_ble_eq_true rfl) (lit_args _) ?_
  refine WC.seq ?_
  refine WC.region ?_
  refine WL.lv rfl (LV.asg rfl) ?_
  refine WL.nil (thenQ.n ?_)
  refine WC.seq ?_
  refine WC.region ?_
  refine WL.xe rfl (XE.buildSlice (E := eI) [] #[] [] hS Try.underlying52 ti47 rfl (by decide) (by kernel_rfl) (.inr rfl) rfl rfl (by decide)) ?_
  rintro _ w1 ⟨b1, rfl, hS1, hk1⟩
  refine WL.lv rfl (LV.asg rfl) ?_
  refine WL.nil (thenQ.n ?_)
  iterate 2 refine WC.seq ?_
  refine WC.region ?_
  refine WL.lv rfl (LV.mv rfl) ?_
  refine WL.lv rfl (LV.lenL Try.underlying54 rfl) ?_
  rcases Decidable.em ((a.length : Int) > 400) with hg1 | hg1
  · refine WL.lv rfl (LV.as (LV.gtI rfl rfl) (decide_eq_true hg1)) ?_
    refine WL.lv rfl (LV.mv rfl) ?_
    iterate 3 refine WL.off rfl ?_
    refine WL.lv rfl (LV.pickT rfl rfl) ?_
    refine WL.nil (thenQ.n ?_)
    refine WC.condT rfl ?_
    refine WC.seq ?_
    refine WC.region ?_
    refine WL.lv rfl (LV.mv rfl) ?_
    refine WL.lv rfl (LV.asg rfl) ?_
    refine WL.nil (thenQ.n ?_)
    refine WC.ret (thenQ.r <| ?_)
    exact ⟨_, fun a ha => res1 rfl ha rfl, (by rw [show Stp a b = [] from if_pos (by omega)]; exact ⟨_, _, rfl, hS1⟩)⟩
  · refine WL.lv rfl (LV.as (LV.gtI rfl rfl) (decide_eq_false hg1)) ?_
    iterate 2 refine WL.lv rfl (LV.mv rfl) ?_
    refine WL.lv rfl (LV.lenL Try.underlying54 rfl) ?_
    refine WL.lv rfl (LV.gtI rfl rfl) ?_
    refine WL.lv rfl (LV.pickF rfl rfl) ?_
    refine WL.nil (thenQ.n ?_)
    refine WC.condP (p := (b.length : Int) > 400) rfl (fun hc1 => ?_) (fun hc1 => ?_)
    · skip
      refine WC.seq ?_
      refine WC.region ?_
      refine WL.lv rfl (LV.mv rfl) ?_
      refine WL.lv rfl (LV.asg rfl) ?_
      refine WL.nil (thenQ.n ?_)
      refine WC.ret (thenQ.r <| ?_)
      exact ⟨_, fun a ha => res1 rfl ha rfl, (by rw [show Stp a b = [] from if_pos (by omega)]; exact ⟨_, _, rfl, hS1⟩)⟩
    · have hla : a.length ≤ 400 := by omega
      have hlb : b.length ≤ 400 := by omega
      refine WC.skip (thenQ.n ?_)
      refine WC.seq ?_
      refine WC.region ?_
      iterate 2 refine WL.lv rfl (LV.mv rfl) ?_
      refine WL.call rfl (XC.fn Try.func69 (by kernel_rfl) rfl rfl rfl) (table_calls (SH.stN hS1 ha) (SH.stN hS1 hb) hla hlb) ?_
      rintro v_ w2 ⟨A2, n1, c2, tb, rfl, hT, hS2⟩
      have hS3 := SH.joinN hS1 hS2
      have hl_ := hT.len
      have hr0_ := hT.row 0 (by omega) (by omega)
      have hv0_ := hT.val 0 0 (by omega) (by omega) (by omega) (by omega) (by omega)
      refine WL.lv rfl (LV.asg rfl) ?_
      refine WL.nil (thenQ.n ?_)
      refine WC.seq ?_
      refine WC.region ?_
      refine WL.lv rfl (LV.asg rfl) ?_
      refine WL.nil (thenQ.n ?_)
      refine WC.seq ?_
      refine WC.region ?_
      refine WL.lv rfl (LV.asg rfl) ?_
      refine WL.nil (thenQ.n ?_)
      refine WC.seq ?_
      refine WC.block ?_
      refine WC.loop (fun m_ f_ w_ => ∃ (i j : Int) (A : Option Addr) (c : Nat) (out : List Int), (0 ≤ i) ∧ (i ≤ a.length) ∧ (0 ≤ j) ∧ (j ≤ b.length) ∧ (out ++ Wy a b i j = way a b) ∧ ((out.length : Int) ≤ i + j) ∧ SH w No w_ [rrE eI 54 3 (.slice A2 n1 c2) tb, rowE eI 47 (.slice A out.length c) out] ∧ m_ = ((((a.length : Int) - i) + ((b.length : Int) - j)).toNat) ∧ Weak (lit [(0, (.slice A0 a.length c0)), (1, (.slice A1 b.length c1)), (4, (.slice none 0 0)), (5, (.slice A out.length c)), (6, (.slice A2 n1 c2)), (7, (.int .i64 i)), (8, (.int .i64 j))]) f_) _ ⟨0, 0, (some ⟨b1, 0, none⟩), 0, [], by omega, by omega, by omega, by omega, (by rw [Wy_00]; rfl), (by simp), hS3, rfl, Weak.cons rfl <| Weak.cons rfl <| Weak.cons rfl <| Weak.cons rfl <| Weak.cons rfl <| Weak.cons rfl <| Weak.cons rfl <| Weak.nil _⟩ ?_
      rintro m1 f1 w3 ⟨i, j, A, c, out, q0, q1, q2, q3, q5, q6, hL1, rfl, hw1⟩
      refine WC.weak hw1 ?_
      clear hw1
      have hr1 := fun h1 h2 => hT.row i h1 h2
      have hr2 := fun h1 h2 => hT.row (i + 1) h1 h2
      have hv1 := fun h1 h2 h3 h4 h5 => (show gI (tb.getD i.toNat default).2 j = (D a b i j : Int) from hT.val i j h1 h2 h3 h4 h5)
      have hv2 := fun h1 h2 h3 h4 h5 => (show gI (tb.getD (i + 1).toNat default).2 j = (D a b (i + 1) j : Int) from hT.val (i + 1) j h1 h2 h3 h4 h5)
      have hd1 := D_bd a b i j
      have hd2 := D_bd a b (i + 1) j
      iterate 2 refine WC.seq ?_
      refine WC.region ?_
      iterate 2 refine WL.lv rfl (LV.mv rfl) ?_
      refine WL.lv rfl (LV.lenL Try.underlying54 rfl) ?_
      rcases Decidable.em (i < (a.length : Int)) with hg2 | hg2
      · refine WL.lv rfl (LV.as (LV.ltI rfl rfl) (decide_eq_true hg2)) ?_
        refine WL.lv rfl (LV.mv rfl) ?_
        iterate 4 refine WL.off rfl ?_
        refine WL.lv rfl (LV.pickT rfl rfl) ?_
        refine WL.nil (thenQ.n ?_)
        refine WC.condT rfl ?_
        refine WC.skip (thenQ.n ?_)
        refine WC.block ?_
        refine WC.seq ?_
        have hS4 := SH.drew hL1
        refine WC.regionD [] (fun w_ => KB No w3.drew w_) [(.pure, 0), (.pure, 1), (.pure, 2), (.pure, 3), (.pure, 4), (.pure, 5), (.pure, 6), (.pure, 7), (.pure, 8), (.pure, 9), (.pure, 10), (.pure, 11), (.pure, 12), (.pure, 13), (.look, 14), (.pure, 15), (.pure, 16), (.pure, 17), (.look, 18), (.pure, 19), (.pure, 20)] (by kernel_rfl) (by kernel_rfl) (KB.refl _ _) ?_
        iterate 2 refine WS.pure rfl rfl (fun _ => LV.mv rfl) ?_
        refine WS.pure rfl rfl (fun _ => LV.lenL Try.underlying54 rfl) ?_
        refine WS.pure rfl rfl (fun _ => LV.as (LV.ltI rfl rfl) (decide_eq_true hg2)) ?_
        iterate 3 refine WS.pure rfl rfl (fun _ => LV.mv rfl) ?_
        refine WS.pure rfl rfl (fun _ => LV.lenL Try.underlying54 rfl) ?_
        rcases Decidable.em (j < (b.length : Int)) with hg3 | hg3
        · refine WS.pure rfl rfl (fun _ => LV.as (LV.ltI rfl rfl) (decide_eq_true hg3)) ?_
          refine WS.pure rfl rfl (fun _ => LV.pickT rfl rfl) ?_
          iterate 3 refine WS.pure rfl rfl (fun _ => LV.mv rfl) ?_
          obtain ⟨A3, c3, e1, g1⟩ := St.elt (SH.stN hS4 ha) 0 i (by omega) (by omega)
          refine WS.pure rfl rfl (fun _ => LV.idxA Try.underlying54 ti3.sz rfl e1 rfl (by omega) (by omega)) ?_
          refine WS.look rfl rfl (fun _ hk_ => LV.load1 (v := (.int .i64 (gI a (i)))) Try.underlying3 rfl rfl (g1 _ hk_ 0 _ rfl)) ?_
          iterate 2 refine WS.pure rfl rfl (fun _ => LV.mv rfl) ?_
          obtain ⟨A4, c4, e2, g2⟩ := St.elt (SH.stN hS4 hb) 0 j (by omega) (by omega)
          refine WS.pure rfl rfl (fun _ => LV.idxA Try.underlying54 ti3.sz rfl e2 rfl (by omega) (by omega)) ?_
          refine WS.look rfl rfl (fun _ hk_ => LV.load1 (v := (.int .i64 (gI b (j)))) Try.underlying3 rfl rfl (g2 _ hk_ 0 _ rfl)) ?_
          refine WS.pure rfl rfl (fun _ => LV.eqI rfl rfl) ?_
          refine WS.pure rfl rfl (fun _ => LV.pickT rfl rfl) ?_
          refine WS.nil (thenQ.n ?_)
          refine WC.condP (p := (gI a (i)) = (gI b (j))) rfl (fun hc2 => ?_) (fun hc2 => ?_)
          · skip
            refine WC.seq ?_
            refine WC.region ?_
            refine WL.lv rfl (LV.mv rfl) ?_
            refine WL.xe rfl (XE.buildSlice (E := eI) [(0, (.int .i64 1))] #[(.int .i64 1)] [1] hS4 Try.underlying52 ti47 rfl (by decide) (by kernel_rfl) (.inr rfl) rfl rfl (by decide)) ?_
            rintro _ w4 ⟨b2, rfl, hS5, hk2⟩
            have hS6 : SH w No w4 [rowE eI 47 (.slice A out.length c) out, rowE eI 47 (.slice (some ⟨b2, 0, none⟩) 1 1) [1], rrE eI 54 3 (.slice A2 n1 c2) tb] := (SH.front [rowE eI 47 (.slice (some ⟨b2, 0, none⟩) 1 1) [1], rrE eI 54 3 (.slice A2 n1 c2) tb] hS5)
            refine WL.xe rfl (XE.append hS6 Try.underlying52 ti47 rfl (St.now (SH.rd hS6 (.tail _ (.head _)))) rfl rfl (by first | omega | simp only [List.length_append, List.length_cons, List.length_nil, List.length_take, List.length_reverse, List.length_drop] at *; omega) (by first | omega | simp only [List.length_append, List.length_cons, List.length_nil, List.length_take, List.length_reverse, List.length_drop] at *; omega)) ?_
            rintro _ w5 ⟨A5, c5, rfl, hS7, hk3⟩
            refine WL.lv rfl (LV.asg rfl) ?_
            refine WL.nil (thenQ.n ?_)
            refine WC.seq ?_
            refine WC.region ?_
            refine WL.lv rfl (LV.mv rfl) ?_
            refine WL.lv rfl (LV.add rfl rfl (wr64 (by omega) (by omega))) ?_
            refine WL.lv rfl (LV.asg rfl) ?_
            refine WL.nil (thenQ.n ?_)
            refine WC.region ?_
            refine WL.lv rfl (LV.mv rfl) ?_
            refine WL.lv rfl (LV.add rfl rfl (wr64 (by omega) (by omega))) ?_
            refine WL.lv rfl (LV.asg rfl) ?_
            refine WL.nil (blockQ.n <| thenQ.n ?_)
            have hS8 : SH w No w5 [rrE eI 54 3 (.slice A2 n1 c2) tb, rowE eI 47 (.slice A5 ((out ++ ([1] : List Int)).length) c5) (out ++ ([1] : List Int))] := (SH.take 2 rfl (SH.front [rowE eI 47 (.slice A5 ((out ++ ([1] : List Int)).length) c5) (out ++ ([1] : List Int)), rowE eI 47 (.slice (some ⟨b2, 0, none⟩) 1 1) [1]] hS7))
            have hy_ := Wy_keep (a := a) (b := b) q0 (by omega) q2 (by omega) hc2
            exact ⟨_, by omega, i + 1, j + 1, A5, c5, (out ++ ([1] : List Int)), by omega, by omega, by omega, by omega, (by rw [← q5, hy_]; simp), (by simp; omega), hS8, rfl, Weak.cons rfl <| Weak.cons rfl <| Weak.cons rfl <| Weak.cons rfl <| Weak.cons rfl <| Weak.cons rfl <| Weak.cons rfl <| Weak.nil _⟩
          · skip
            refine WC.seq ?_
            have hS9 := SH.drew hS4
            refine WC.regionD [] (fun w_ => KB No w3.drew.drew w_) [(.pure, 0), (.pure, 1), (.pure, 2), (.pure, 3), (.pure, 4), (.pure, 5), (.pure, 6), (.pure, 7), (.pure, 8), (.look, 9), (.pure, 10), (.pure, 11), (.look, 12), (.pure, 13), (.pure, 14), (.pure, 15), (.pure, 16), (.look, 17), (.pure, 18), (.pure, 19), (.look, 20), (.pure, 21), (.pure, 22)] (by kernel_rfl) (by kernel_rfl) (KB.refl _ _) ?_
            iterate 2 refine WS.pure rfl rfl (fun _ => LV.mv rfl) ?_
            refine WS.pure rfl rfl (fun _ => LV.lenL Try.underlying54 rfl) ?_
            refine WS.pure rfl rfl (fun _ => LV.as (LV.ltI rfl rfl) (decide_eq_true hg2)) ?_
            iterate 3 refine WS.pure rfl rfl (fun _ => LV.mv rfl) ?_
            refine WS.pure rfl rfl (fun _ => LV.add rfl rfl (wr64 (by omega) (by omega))) ?_
            obtain ⟨A6, c6, A7, c7, e3, g3, e4, r1⟩ := St.eltRR (SH.rdRR hS9 (.head _)) default (i + 1) (by omega) (by omega)
            refine WS.pure rfl rfl (fun _ => LV.idxA Try.underlying97 ti54.sz rfl e3 rfl (by omega) (by omega)) ?_
            refine WS.look rfl rfl (fun _ hk_ => LV.load1 Try.underlying54 rfl rfl (g3 _ hk_)) ?_
            refine WS.pure rfl rfl (fun _ => LV.mv rfl) ?_
            obtain ⟨A8, c8, e5, g4⟩ := St.elt (St.inner (SH.rdRR hS9 (.head _)) (getD_mem (by omega)) e4) 0 j (by omega) (by omega)
            refine WS.pure rfl rfl (fun _ => LV.idxA Try.underlying54 ti3.sz rfl e5 rfl (by omega) (by omega)) ?_
            refine WS.look rfl rfl (fun _ hk_ => LV.load1 (v := (.int .i64 (gI ((tb.getD (i + 1).toNat default).2) (j)))) Try.underlying3 rfl rfl (g4 _ hk_ 0 _ rfl)) ?_
            refine WS.pure rfl rfl (fun _ => LV.add rfl rfl (wr64 (by omega) (by omega))) ?_
            iterate 2 refine WS.pure rfl rfl (fun _ => LV.mv rfl) ?_
            obtain ⟨A9, c9, A10, c10, e6, g5, e7, r2⟩ := St.eltRR (SH.rdRR hS9 (.head _)) default i (by omega) (by omega)
            refine WS.pure rfl rfl (fun _ => LV.idxA Try.underlying97 ti54.sz rfl e6 rfl (by omega) (by omega)) ?_
            refine WS.look rfl rfl (fun _ hk_ => LV.load1 Try.underlying54 rfl rfl (g5 _ hk_)) ?_
            refine WS.pure rfl rfl (fun _ => LV.mv rfl) ?_
            obtain ⟨A11, c11, e8, g6⟩ := St.elt (St.inner (SH.rdRR hS9 (.head _)) (getD_mem (by omega)) e7) 0 j (by omega) (by omega)
            refine WS.pure rfl rfl (fun _ => LV.idxA Try.underlying54 ti3.sz rfl e8 rfl (by omega) (by omega)) ?_
            refine WS.look rfl rfl (fun _ hk_ => LV.load1 (v := (.int .i64 (gI ((tb.getD (i).toNat default).2) (j)))) Try.underlying3 rfl rfl (g6 _ hk_ 0 _ rfl)) ?_
            refine WS.pure rfl rfl (fun _ => LV.eqI rfl rfl) ?_
            refine WS.pure rfl rfl (fun _ => LV.pickT rfl rfl) ?_
            refine WS.nil (thenQ.n ?_)
            refine WC.condP (p := ((gI ((tb.getD (i + 1).toNat default).2) (j)) + 1) = (gI ((tb.getD (i).toNat default).2) (j))) rfl (fun hc3 => ?_) (fun hc3 => ?_)
            · skip
              refine WC.seq ?_
              refine WC.region ?_
              refine WL.lv rfl (LV.mv rfl) ?_
              refine WL.xe rfl (XE.buildSlice (E := eI) [(0, (.int .i64 2))] #[(.int .i64 2)] [2] hS9 Try.underlying52 ti47 rfl (by decide) (by kernel_rfl) (.inr rfl) rfl rfl (by decide)) ?_
              rintro _ w6 ⟨b3, rfl, hS10, hk4⟩
              have hS11 : SH w No w6 [rowE eI 47 (.slice A out.length c) out, rowE eI 47 (.slice (some ⟨b3, 0, none⟩) 1 1) [2], rrE eI 54 3 (.slice A2 n1 c2) tb] := (SH.front [rowE eI 47 (.slice (some ⟨b3, 0, none⟩) 1 1) [2], rrE eI 54 3 (.slice A2 n1 c2) tb] hS10)
              refine WL.xe rfl (XE.append hS11 Try.underlying52 ti47 rfl (St.now (SH.rd hS11 (.tail _ (.head _)))) rfl rfl (by first | omega | simp only [List.length_append, List.length_cons, List.length_nil, List.length_take, List.length_reverse, List.length_drop] at *; omega) (by first | omega | simp only [List.length_append, List.length_cons, List.length_nil, List.length_take, List.length_reverse, List.length_drop] at *; omega)) ?_
              rintro _ w7 ⟨A12, c12, rfl, hS12, hk5⟩
              refine WL.lv rfl (LV.asg rfl) ?_
              refine WL.nil (thenQ.n ?_)
              refine WC.region ?_
              refine WL.lv rfl (LV.mv rfl) ?_
              refine WL.lv rfl (LV.add rfl rfl (wr64 (by omega) (by omega))) ?_
              refine WL.lv rfl (LV.asg rfl) ?_
              refine WL.nil (blockQ.n <| thenQ.n ?_)
              have hS13 : SH w No w7 [rrE eI 54 3 (.slice A2 n1 c2) tb, rowE eI 47 (.slice A12 ((out ++ ([2] : List Int)).length) c12) (out ++ ([2] : List Int))] := (SH.take 2 rfl (SH.front [rowE eI 47 (.slice A12 ((out ++ ([2] : List Int)).length) c12) (out ++ ([2] : List Int)), rowE eI 47 (.slice (some ⟨b3, 0, none⟩) 1 1) [2]] hS12))
              obtain ⟨hy_, hd_⟩ := Wy_out (a := a) (b := b) q0 (by omega) q2 q3 (fun _ => hc2) (by omega)
              exact ⟨_, by omega, i + 1, j, A12, c12, (out ++ ([2] : List Int)), by omega, by omega, by omega, by omega, (by rw [← q5, hy_]; simp), (by simp; omega), hS13, rfl, Weak.cons rfl <| Weak.cons rfl <| Weak.cons rfl <| Weak.cons rfl <| Weak.cons rfl <| Weak.cons rfl <| Weak.cons rfl <| Weak.nil _⟩
            · skip
              refine WC.seq ?_
              refine WC.region ?_
              refine WL.lv rfl (LV.mv rfl) ?_
              refine WL.xe rfl (XE.buildSlice (E := eI) [(0, (.int .i64 3))] #[(.int .i64 3)] [3] hS9 Try.underlying52 ti47 rfl (by decide) (by kernel_rfl) (.inr rfl) rfl rfl (by decide)) ?_
              rintro _ w8 ⟨b4, rfl, hS14, hk6⟩
              have hS15 : SH w No w8 [rowE eI 47 (.slice A out.length c) out, rowE eI 47 (.slice (some ⟨b4, 0, none⟩) 1 1) [3], rrE eI 54 3 (.slice A2 n1 c2) tb] := (SH.front [rowE eI 47 (.slice (some ⟨b4, 0, none⟩) 1 1) [3], rrE eI 54 3 (.slice A2 n1 c2) tb] hS14)
              refine WL.xe rfl (XE.append hS15 Try.underlying52 ti47 rfl (St.now (SH.rd hS15 (.tail _ (.head _)))) rfl rfl (by first | omega | simp only [List.length_append, List.length_cons, List.length_nil, List.length_take, List.length_reverse, List.length_drop] at *; omega) (by first | omega | simp only [List.length_append, List.length_cons, List.length_nil, List.length_take, List.length_reverse, List.length_drop] at *; omega)) ?_
              rintro _ w9 ⟨A13, c13, rfl, hS16, hk7⟩
              refine WL.lv rfl (LV.asg rfl) ?_
              refine WL.nil (thenQ.n ?_)
              refine WC.region ?_
              refine WL.lv rfl (LV.mv rfl) ?_
              refine WL.lv rfl (LV.add rfl rfl (wr64 (by omega) (by omega))) ?_
              refine WL.lv rfl (LV.asg rfl) ?_
              refine WL.nil (blockQ.n <| thenQ.n ?_)
              have hS17 : SH w No w9 [rrE eI 54 3 (.slice A2 n1 c2) tb, rowE eI 47 (.slice A13 ((out ++ ([3] : List Int)).length) c13) (out ++ ([3] : List Int))] := (SH.take 2 rfl (SH.front [rowE eI 47 (.slice A13 ((out ++ ([3] : List Int)).length) c13) (out ++ ([3] : List Int)), rowE eI 47 (.slice (some ⟨b4, 0, none⟩) 1 1) [3]] hS16))
              obtain ⟨hj_, hy_, hd_⟩ := Wy_in (a := a) (b := b) q0 q1 q2 q3 (by omega) (fun _ _ => hc2) (fun h_ => by have hd1_ := D_1 (a := a) (b := b) (i := i) (j := j) q0 h_; omega)
              exact ⟨_, by omega, i, j + 1, A13, c13, (out ++ ([3] : List Int)), by omega, by omega, by omega, by omega, (by rw [← q5, hy_]; simp), (by simp; omega), hS17, rfl, Weak.cons rfl <| Weak.cons rfl <| Weak.cons rfl <| Weak.cons rfl <| Weak.cons rfl <| Weak.cons rfl <| Weak.cons rfl <| Weak.nil _⟩
        · refine WS.pure rfl rfl (fun _ => LV.as (LV.ltI rfl rfl) (decide_eq_false hg3)) ?_
          refine WS.pure rfl rfl (fun _ => LV.pickT rfl rfl) ?_
          refine WS.pure rfl rfl (fun _ => LV.mv rfl) ?_
          iterate 3 refine WS.off rfl rfl ?_
          refine WS.offL rfl rfl ?_
          iterate 3 refine WS.off rfl rfl ?_
          refine WS.offL rfl rfl ?_
          refine WS.off rfl rfl ?_
          refine WS.pure rfl rfl (fun _ => LV.pickF rfl rfl) ?_
          refine WS.nil (thenQ.n ?_)
          refine WC.condF rfl ?_
          refine WC.seq ?_
          have hS18 := SH.drew hS4
          refine WC.regionD [] (fun w_ => KB No w3.drew.drew w_) [(.pure, 0), (.pure, 1), (.pure, 2), (.pure, 3), (.pure, 4), (.pure, 5), (.pure, 6), (.pure, 7), (.pure, 8), (.look, 9), (.pure, 10), (.pure, 11), (.look, 12), (.pure, 13), (.pure, 14), (.pure, 15), (.pure, 16), (.look, 17), (.pure, 18), (.pure, 19), (.look, 20), (.pure, 21), (.pure, 22)] (by kernel_rfl) (by kernel_rfl) (KB.refl _ _) ?_
          iterate 2 refine WS.pure rfl rfl (fun _ => LV.mv rfl) ?_
          refine WS.pure rfl rfl (fun _ => LV.lenL Try.underlying54 rfl) ?_
          refine WS.pure rfl rfl (fun _ => LV.as (LV.ltI rfl rfl) (decide_eq_true hg2)) ?_
          iterate 3 refine WS.pure rfl rfl (fun _ => LV.mv rfl) ?_
          refine WS.pure rfl rfl (fun _ => LV.add rfl rfl (wr64 (by omega) (by omega))) ?_
          obtain ⟨A14, c14, A15, c15, e9, g7, e10, r3⟩ := St.eltRR (SH.rdRR hS18 (.head _)) default (i + 1) (by omega) (by omega)
          refine WS.pure rfl rfl (fun _ => LV.idxA Try.underlying97 ti54.sz rfl e9 rfl (by omega) (by omega)) ?_
          refine WS.look rfl rfl (fun _ hk_ => LV.load1 Try.underlying54 rfl rfl (g7 _ hk_)) ?_
          refine WS.pure rfl rfl (fun _ => LV.mv rfl) ?_
          obtain ⟨A16, c16, e11, g8⟩ := St.elt (St.inner (SH.rdRR hS18 (.head _)) (getD_mem (by omega)) e10) 0 j (by omega) (by omega)
          refine WS.pure rfl rfl (fun _ => LV.idxA Try.underlying54 ti3.sz rfl e11 rfl (by omega) (by omega)) ?_
          refine WS.look rfl rfl (fun _ hk_ => LV.load1 (v := (.int .i64 (gI ((tb.getD (i + 1).toNat default).2) (j)))) Try.underlying3 rfl rfl (g8 _ hk_ 0 _ rfl)) ?_
          refine WS.pure rfl rfl (fun _ => LV.add rfl rfl (wr64 (by omega) (by omega))) ?_
          iterate 2 refine WS.pure rfl rfl (fun _ => LV.mv rfl) ?_
          obtain ⟨A17, c17, A18, c18, e12, g9, e13, r4⟩ := St.eltRR (SH.rdRR hS18 (.head _)) default i (by omega) (by omega)
          refine WS.pure rfl rfl (fun _ => LV.idxA Try.underlying97 ti54.sz rfl e12 rfl (by omega) (by omega)) ?_
          refine WS.look rfl rfl (fun _ hk_ => LV.load1 Try.underlying54 rfl rfl (g9 _ hk_)) ?_
          refine WS.pure rfl rfl (fun _ => LV.mv rfl) ?_
          obtain ⟨A19, c19, e14, g10⟩ := St.elt (St.inner (SH.rdRR hS18 (.head _)) (getD_mem (by omega)) e13) 0 j (by omega) (by omega)
          refine WS.pure rfl rfl (fun _ => LV.idxA Try.underlying54 ti3.sz rfl e14 rfl (by omega) (by omega)) ?_
          refine WS.look rfl rfl (fun _ hk_ => LV.load1 (v := (.int .i64 (gI ((tb.getD (i).toNat default).2) (j)))) Try.underlying3 rfl rfl (g10 _ hk_ 0 _ rfl)) ?_
          refine WS.pure rfl rfl (fun _ => LV.eqI rfl rfl) ?_
          refine WS.pure rfl rfl (fun _ => LV.pickT rfl rfl) ?_
          refine WS.nil (thenQ.n ?_)
          refine WC.condP (p := ((gI ((tb.getD (i + 1).toNat default).2) (j)) + 1) = (gI ((tb.getD (i).toNat default).2) (j))) rfl (fun hc4 => ?_) (fun hc4 => ?_)
          · skip
            refine WC.seq ?_
            refine WC.region ?_
            refine WL.lv rfl (LV.mv rfl) ?_
            refine WL.xe rfl (XE.buildSlice (E := eI) [(0, (.int .i64 2))] #[(.int .i64 2)] [2] hS18 Try.underlying52 ti47 rfl (by decide) (by kernel_rfl) (.inr rfl) rfl rfl (by decide)) ?_
            rintro _ w10 ⟨b5, rfl, hS19, hk8⟩
            have hS20 : SH w No w10 [rowE eI 47 (.slice A out.length c) out, rowE eI 47 (.slice (some ⟨b5, 0, none⟩) 1 1) [2], rrE eI 54 3 (.slice A2 n1 c2) tb] := (SH.front [rowE eI 47 (.slice (some ⟨b5, 0, none⟩) 1 1) [2], rrE eI 54 3 (.slice A2 n1 c2) tb] hS19)
            refine WL.xe rfl (XE.append hS20 Try.underlying52 ti47 rfl (St.now (SH.rd hS20 (.tail _ (.head _)))) rfl rfl (by first | omega | simp only [List.length_append, List.length_cons, List.length_nil, List.length_take, List.length_reverse, List.length_drop] at *; omega) (by first | omega | simp only [List.length_append, List.length_cons, List.length_nil, List.length_take, List.length_reverse, List.length_drop] at *; omega)) ?_
            rintro _ w11 ⟨A20, c20, rfl, hS21, hk9⟩
            refine WL.lv rfl (LV.asg rfl) ?_
            refine WL.nil (thenQ.n ?_)
            refine WC.region ?_
            refine WL.lv rfl (LV.mv rfl) ?_
            refine WL.lv rfl (LV.add rfl rfl (wr64 (by omega) (by omega))) ?_
            refine WL.lv rfl (LV.asg rfl) ?_
            refine WL.nil (blockQ.n <| thenQ.n ?_)
            have hS22 : SH w No w11 [rrE eI 54 3 (.slice A2 n1 c2) tb, rowE eI 47 (.slice A20 ((out ++ ([2] : List Int)).length) c20) (out ++ ([2] : List Int))] := (SH.take 2 rfl (SH.front [rowE eI 47 (.slice A20 ((out ++ ([2] : List Int)).length) c20) (out ++ ([2] : List Int)), rowE eI 47 (.slice (some ⟨b5, 0, none⟩) 1 1) [2]] hS21))
            obtain ⟨hy_, hd_⟩ := Wy_out (a := a) (b := b) q0 (by omega) q2 q3 (fun h_ => by omega) (by omega)
            exact ⟨_, by omega, i + 1, j, A20, c20, (out ++ ([2] : List Int)), by omega, by omega, by omega, by omega, (by rw [← q5, hy_]; simp), (by simp; omega), hS22, rfl, Weak.cons rfl <| Weak.cons rfl <| Weak.cons rfl <| Weak.cons rfl <| Weak.cons rfl <| Weak.cons rfl <| Weak.cons rfl <| Weak.nil _⟩
          · skip
            refine WC.seq ?_
            refine WC.region ?_
            refine WL.lv rfl (LV.mv rfl) ?_
            refine WL.xe rfl (XE.buildSlice (E := eI) [(0, (.int .i64 3))] #[(.int .i64 3)] [3] hS18 Try.underlying52 ti47 rfl (by decide) (by kernel_rfl) (.inr rfl) rfl rfl (by decide)) ?_
            rintro _ w12 ⟨b6, rfl, hS23, hk10⟩
            have hS24 : SH w No w12 [rowE eI 47 (.slice A out.length c) out, rowE eI 47 (.slice (some ⟨b6, 0, none⟩) 1 1) [3], rrE eI 54 3 (.slice A2 n1 c2) tb] := (SH.front [rowE eI 47 (.slice (some ⟨b6, 0, none⟩) 1 1) [3], rrE eI 54 3 (.slice A2 n1 c2) tb] hS23)
            refine WL.xe rfl (XE.append hS24 Try.underlying52 ti47 rfl (St.now (SH.rd hS24 (.tail _ (.head _)))) rfl rfl (by first | omega | simp only [List.length_append, List.length_cons, List.length_nil, List.length_take, List.length_reverse, List.length_drop] at *; omega) (by first | omega | simp only [List.length_append, List.length_cons, List.length_nil, List.length_take, List.length_reverse, List.length_drop] at *; omega)) ?_
            rintro _ w13 ⟨A21, c21, rfl, hS25, hk11⟩
            refine WL.lv rfl (LV.asg rfl) ?_
            refine WL.nil (thenQ.n ?_)
            refine WC.region ?_
            refine WL.lv rfl (LV.mv rfl) ?_
            refine WL.lv rfl (LV.add rfl rfl (wr64 (by omega) (by omega))) ?_
            refine WL.lv rfl (LV.asg rfl) ?_
            refine WL.nil (blockQ.n <| thenQ.n ?_)
            have hS26 : SH w No w13 [rrE eI 54 3 (.slice A2 n1 c2) tb, rowE eI 47 (.slice A21 ((out ++ ([3] : List Int)).length) c21) (out ++ ([3] : List Int))] := (SH.take 2 rfl (SH.front [rowE eI 47 (.slice A21 ((out ++ ([3] : List Int)).length) c21) (out ++ ([3] : List Int)), rowE eI 47 (.slice (some ⟨b6, 0, none⟩) 1 1) [3]] hS25))
            obtain ⟨hj_, hy_, hd_⟩ := Wy_in (a := a) (b := b) q0 q1 q2 q3 (by omega) (fun h1_ h2_ => by omega) (fun h_ => by have hd1_ := D_1 (a := a) (b := b) (i := i) (j := j) q0 h_; omega)
            exact ⟨_, by omega, i, j + 1, A21, c21, (out ++ ([3] : List Int)), by omega, by omega, by omega, by omega, (by rw [← q5, hy_]; simp), (by simp; omega), hS26, rfl, Weak.cons rfl <| Weak.cons rfl <| Weak.cons rfl <| Weak.cons rfl <| Weak.cons rfl <| Weak.cons rfl <| Weak.cons rfl <| Weak.nil _⟩
      · refine WL.lv rfl (LV.as (LV.ltI rfl rfl) (decide_eq_false hg2)) ?_
        iterate 3 refine WL.lv rfl (LV.mv rfl) ?_
        refine WL.lv rfl (LV.lenL Try.underlying54 rfl) ?_
        refine WL.lv rfl (LV.ltI rfl rfl) ?_
        refine WL.lv rfl (LV.pickF rfl rfl) ?_
        refine WL.nil (thenQ.n ?_)
        refine WC.condP (p := j < (b.length : Int)) rfl (fun hc5 => ?_) (fun hc5 => ?_)
        · skip
          refine WC.skip (thenQ.n ?_)
          refine WC.block ?_
          refine WC.seq ?_
          have hS27 := SH.drew hL1
          refine WC.regionD [] (fun w_ => KB No w3.drew w_) [(.pure, 0), (.pure, 1), (.pure, 2), (.pure, 3), (.pure, 4), (.pure, 5), (.pure, 6), (.pure, 7), (.pure, 8), (.pure, 9), (.pure, 10), (.pure, 11), (.pure, 12), (.pure, 13), (.look, 14), (.pure, 15), (.pure, 16), (.pure, 17), (.look, 18), (.pure, 19), (.pure, 20)] (by kernel_rfl) (by kernel_rfl) (KB.refl _ _) ?_
          iterate 2 refine WS.pure rfl rfl (fun _ => LV.mv rfl) ?_
          refine WS.pure rfl rfl (fun _ => LV.lenL Try.underlying54 rfl) ?_
          refine WS.pure rfl rfl (fun _ => LV.as (LV.ltI rfl rfl) (decide_eq_false hg2)) ?_
          refine WS.pure rfl rfl (fun _ => LV.mv rfl) ?_
          iterate 4 refine WS.off rfl rfl ?_
          refine WS.pure rfl rfl (fun _ => LV.pickF rfl rfl) ?_
          refine WS.pure rfl rfl (fun _ => LV.mv rfl) ?_
          iterate 3 refine WS.off rfl rfl ?_
          refine WS.offL rfl rfl ?_
          iterate 3 refine WS.off rfl rfl ?_
          refine WS.offL rfl rfl ?_
          refine WS.off rfl rfl ?_
          refine WS.pure rfl rfl (fun _ => LV.pickF rfl rfl) ?_
          refine WS.nil (thenQ.n ?_)
          refine WC.condF rfl ?_
          refine WC.seq ?_
          have hS28 := SH.drew hS27
          refine WC.regionD [] (fun w_ => KB No w3.drew.drew w_) [(.pure, 0), (.pure, 1), (.pure, 2), (.pure, 3), (.pure, 4), (.pure, 5), (.pure, 6), (.pure, 7), (.pure, 8), (.look, 9), (.pure, 10), (.pure, 11), (.look, 12), (.pure, 13), (.pure, 14), (.pure, 15), (.pure, 16), (.look, 17), (.pure, 18), (.pure, 19), (.look, 20), (.pure, 21), (.pure, 22)] (by kernel_rfl) (by kernel_rfl) (KB.refl _ _) ?_
          iterate 2 refine WS.pure rfl rfl (fun _ => LV.mv rfl) ?_
          refine WS.pure rfl rfl (fun _ => LV.lenL Try.underlying54 rfl) ?_
          refine WS.pure rfl rfl (fun _ => LV.as (LV.ltI rfl rfl) (decide_eq_false hg2)) ?_
          refine WS.pure rfl rfl (fun _ => LV.mv rfl) ?_
          iterate 4 refine WS.off rfl rfl ?_
          refine WS.offL rfl rfl ?_
          iterate 2 refine WS.off rfl rfl ?_
          refine WS.offL rfl rfl ?_
          iterate 4 refine WS.off rfl rfl ?_
          refine WS.offL rfl rfl ?_
          iterate 2 refine WS.off rfl rfl ?_
          refine WS.offL rfl rfl ?_
          refine WS.off rfl rfl ?_
          refine WS.pure rfl rfl (fun _ => LV.pickF rfl rfl) ?_
          refine WS.nil (thenQ.n ?_)
          refine WC.condF rfl ?_
          refine WC.seq ?_
          refine WC.region ?_
          refine WL.lv rfl (LV.mv rfl) ?_
          refine WL.xe rfl (XE.buildSlice (E := eI) [(0, (.int .i64 3))] #[(.int .i64 3)] [3] hS28 Try.underlying52 ti47 rfl (by decide) (by kernel_rfl) (.inr rfl) rfl rfl (by decide)) ?_
          rintro _ w14 ⟨b7, rfl, hS29, hk12⟩
          have hS30 : SH w No w14 [rowE eI 47 (.slice A out.length c) out, rowE eI 47 (.slice (some ⟨b7, 0, none⟩) 1 1) [3], rrE eI 54 3 (.slice A2 n1 c2) tb] := (SH.front [rowE eI 47 (.slice (some ⟨b7, 0, none⟩) 1 1) [3], rrE eI 54 3 (.slice A2 n1 c2) tb] hS29)
          refine WL.xe rfl (XE.append hS30 Try.underlying52 ti47 rfl (St.now (SH.rd hS30 (.tail _ (.head _)))) rfl rfl (by first | omega | simp only [List.length_append, List.length_cons, List.length_nil, List.length_take, List.length_reverse, List.length_drop] at *; omega) (by first | omega | simp only [List.length_append, List.length_cons, List.length_nil, List.length_take, List.length_reverse, List.length_drop] at *; omega)) ?_
          rintro _ w15 ⟨A22, c22, rfl, hS31, hk13⟩
          refine WL.lv rfl (LV.asg rfl) ?_
          refine WL.nil (thenQ.n ?_)
          refine WC.region ?_
          refine WL.lv rfl (LV.mv rfl) ?_
          refine WL.lv rfl (LV.add rfl rfl (wr64 (by omega) (by omega))) ?_
          refine WL.lv rfl (LV.asg rfl) ?_
          refine WL.nil (blockQ.n <| thenQ.n ?_)
          have hS32 : SH w No w15 [rrE eI 54 3 (.slice A2 n1 c2) tb, rowE eI 47 (.slice A22 ((out ++ ([3] : List Int)).length) c22) (out ++ ([3] : List Int))] := (SH.take 2 rfl (SH.front [rowE eI 47 (.slice A22 ((out ++ ([3] : List Int)).length) c22) (out ++ ([3] : List Int)), rowE eI 47 (.slice (some ⟨b7, 0, none⟩) 1 1) [3]] hS31))
          obtain ⟨hj_, hy_, hd_⟩ := Wy_in (a := a) (b := b) q0 q1 q2 q3 (by omega) (fun h1_ h2_ => by omega) (fun h_ => by have hd1_ := D_1 (a := a) (b := b) (i := i) (j := j) q0 h_; omega)
          exact ⟨_, by omega, i, j + 1, A22, c22, (out ++ ([3] : List Int)), by omega, by omega, by omega, by omega, (by rw [← q5, hy_]; simp), (by simp; omega), hS32, rfl, Weak.cons rfl <| Weak.cons rfl <| Weak.cons rfl <| Weak.cons rfl <| Weak.cons rfl <| Weak.cons rfl <| Weak.cons rfl <| Weak.nil _⟩
        · skip
          refine WC.exit (thenQ.x <| thenQ.x <| blockQ.hit <| thenQ.n ?_)
          refine WC.seq ?_
          refine WC.region ?_
          refine WL.lv rfl (LV.mv rfl) ?_
          refine WL.lv rfl (LV.asg rfl) ?_
          refine WL.nil (thenQ.n ?_)
          refine WC.ret (?_)
          have hS33 : SH w No w3 [rowE eI 47 (.slice A out.length c) out] := (SH.take 1 rfl (SH.front [rrE eI 54 3 (.slice A2 n1 c2) tb] hL1))
          exact ⟨_, fun a ha => res1 rfl ha rfl, (by rw [show Stp a b = way a b from if_neg (by omega)]; rw [Wy_end (by omega) (by omega), List.append_nil] at q5; rw [← q5]; exact ⟨_, _, rfl, hS33⟩)⟩

theorem rpairs_calls {w : World} {A0 A1 : Option Addr} {a b : List Int} {c0 c1 : Nat} (ha : St No w (Rd eI (.slice A0 a.length c0) a)) (hb : St No w (Rd eI (.slice A1 b.length c1) b)) :
    Calls Try.prog 54 #[(.slice A0 a.length c0), (.slice A1 b.length c1)] w fun e w' => ∃ v, e = .returned v ∧ (fun v w' => ∃ A' c', v = .slice A' (Prs a b).length c' ∧ SH w No w' [rowE eP 65 (.slice A' (Prs a b).length c') (Prs a b)]) v w' := by
  have hS : SH w No w [] := SH.nil _ _
  refine calls (l := litOf [(.slice A0 a.length c0), (.slice A1 b.length c1)] 0) Try.func54 rfl (n := 46) rfl (Nat.le_of_ble_eq_true rfl) (lit_args _) ?_
  refine WC.seq ?_
  refine WC.region ?_
  refine WL.lv rfl (LV.asg rfl) ?_
  refine WL.nil (thenQ.n ?_)
  refine WC.seq ?_
  refine WC.region ?_
  refine WL.xe rfl (XE.buildSlice (E := eP) [] #[] [] hS Try.underlying63 ti65 rfl (by decide) (by kernel_rfl) (.inr rfl) rfl rfl (by decide)) ?_
  rintro _ w1 ⟨b1, rfl, hS1, hk1⟩
  refine WL.lv rfl (LV.asg rfl) ?_
  refine WL.nil (thenQ.n ?_)
  refine WC.seq ?_
  refine WC.region ?_
  iterate 2 refine WL.lv rfl (LV.mv rfl) ?_
  refine WL.call rfl (XC.fn Try.func61 (by kernel_rfl) rfl rfl rfl) (rsteps_calls (SH.stN hS1 ha) (SH.stN hS1 hb)) ?_
  rintro v_ w2 ⟨A2, c2, rfl, hS2⟩
  have hS3 := SH.joinN hS1 hS2
  refine WL.lv rfl (LV.asg rfl) ?_
  refine WL.nil (thenQ.n ?_)
  refine WC.seq ?_
  refine WC.region ?_
  refine WL.lv rfl (LV.asg rfl) ?_
  refine WL.nil (thenQ.n ?_)
  refine WC.seq ?_
  refine WC.region ?_
  refine WL.lv rfl (LV.asg rfl) ?_
  refine WL.nil (thenQ.n ?_)
  iterate 2 refine WC.seq ?_
  refine WC.region ?_
  refine WL.lv rfl (LV.asg rfl) ?_
  refine WL.nil (thenQ.n ?_)
  refine WC.block ?_
  refine WC.loop (fun m_ f_ w_ => ∃ (i j k : Int) (A : Option Addr) (c : Nat) (out : List (Int × Int)), (0 ≤ k) ∧ (0 ≤ i ∧ i ≤ k) ∧ (0 ≤ j ∧ j ≤ k) ∧ (out ++ prs ((Stp a b).drop k.toNat) i j = prs (Stp a b) 0 0) ∧ ((out.length : Int) ≤ k) ∧ (k ≤ (Stp a b).length) ∧ SH w No w_ [rowE eI 47 (.slice A2 ((Stp a b).length) c2) (Stp a b), rowE eP 65 (.slice A out.length c) out] ∧ m_ = ((((Stp a b).length : Int) - k).toNat) ∧ Weak (lit [(0, (.slice A0 a.length c0)), (1, (.slice A1 b.length c1)), (4, (.slice none 0 0)), (5, (.slice A out.length c)), (6, (.slice A2 ((Stp a b).length) c2)), (7, (.int .i64 i)), (8, (.int .i64 j)), (9, (.int .i64 k))]) f_) _ ⟨0, 0, 0, (some ⟨b1, 0, none⟩), 0, [], by omega, by omega, by omega, rfl, (by simp), by omega, hS3, rfl, Weak.cons rfl <| Weak.cons rfl <| Weak.cons rfl <| Weak.cons rfl <| Weak.cons rfl <| Weak.cons rfl <| Weak.cons rfl <| Weak.cons rfl <| Weak.nil _⟩ ?_
  rintro m1 f1 w3 ⟨i, j, k, A, c, out, q0, q1, q2, q5, q6, q7, hL1, rfl, hw1⟩
  refine WC.weak hw1 ?_
  clear hw1
  have hsl := Stp_len a b
  iterate 2 refine WC.seq ?_
  refine WC.region ?_
  iterate 2 refine WL.lv rfl (LV.mv rfl) ?_
  refine WL.lv rfl (LV.lenL Try.underlying52 rfl) ?_
  refine WL.lv rfl (LV.ltI rfl rfl) ?_
  refine WL.nil (thenQ.n ?_)
  refine WC.condP (p := k < ((Stp a b).length : Int)) rfl (fun hk => ?_) (fun hk => ?_)
  · have hmem := Stp_mem (a := a) (b := b) q0 hk
    refine WC.skip (thenQ.n ?_)
    refine WC.seq ?_
    refine WC.block ?_
    iterate 2 refine WC.seq ?_
    refine WC.region ?_
    iterate 2 refine WL.lv rfl (LV.mv rfl) ?_
    obtain ⟨A3, c3, e1, g1⟩ := St.elt (SH.rd hL1 (.head _)) 0 k (by omega) (by omega)
    refine WL.lv rfl (LV.idxA Try.underlying52 ti47.sz rfl e1 rfl (by omega) (by omega)) ?_
    refine WL.lv rfl (LV.load1 (v := (.int .i64 (gI (Stp a b) (k)))) Try.underlying47 rfl rfl (g1 _ (KB.refl No _) 0 _ rfl)) ?_
    refine WL.lv rfl (LV.eqI rfl rfl) ?_
    refine WL.nil (thenQ.n ?_)
    refine WC.condP (p := (gI (Stp a b) (k)) = 1) rfl (fun hc1 => ?_) (fun hc1 => ?_)
    · skip
      refine WC.region ?_
      iterate 3 refine WL.lv rfl (LV.mv rfl) ?_
      refine WL.lv rfl (LV.buildA (vs := [(0, (.int .i64 i)), (1, (.int .i64 j))]) (cs := #[(.int .i64 i), (.int .i64 j)]) Try.underlying65 ti65 ti3 rfl rfl) ?_
      refine WL.xe rfl (XE.buildSlice (E := eP) [(0, (.agg #[(.int .i64 i), (.int .i64 j)]))] #[(.int .i64 i), (.int .i64 j)] [(i, j)] hL1 Try.underlying63 ti65 rfl (by decide) (by kernel_rfl) (.inr rfl) rfl rfl (by decide)) ?_
      rintro _ w4 ⟨b2, rfl, hS4, hk2⟩
      have hS5 : SH w No w4 [rowE eP 65 (.slice A out.length c) out, rowE eP 65 (.slice (some ⟨b2, 0, none⟩) 1 1) [(i, j)], rowE eI 47 (.slice A2 ((Stp a b).length) c2) (Stp a b)] := (SH.front [rowE eP 65 (.slice (some ⟨b2, 0, none⟩) 1 1) [(i, j)], rowE eI 47 (.slice A2 ((Stp a b).length) c2) (Stp a b)] hS4)
      refine WL.xe rfl (XE.append hS5 Try.underlying63 ti65 rfl (St.now (SH.rd hS5 (.tail _ (.head _)))) rfl rfl (by first | omega | simp only [List.length_append, List.length_cons, List.length_nil, List.length_take, List.length_reverse, List.length_drop] at *; omega) (by first | omega | simp only [List.length_append, List.length_cons, List.length_nil, List.length_take, List.length_reverse, List.length_drop] at *; omega)) ?_
      rintro _ w5 ⟨A4, c4, rfl, hS6, hk3⟩
      refine WL.lv rfl (LV.asg rfl) ?_
      refine WL.nil (thenQ.n ?_)
      iterate 2 refine WC.seq ?_
      refine WC.region ?_
      iterate 2 refine WL.lv rfl (LV.mv rfl) ?_
      obtain ⟨A5, c5, e2, g2⟩ := St.elt (SH.rd hS6 (.tail _ (.tail _ (.head _)))) 0 k (by omega) (by omega)
      refine WL.lv rfl (LV.idxA Try.underlying52 ti47.sz rfl e2 rfl (by omega) (by omega)) ?_
      refine WL.lv rfl (LV.load1 (v := (.int .i64 (gI (Stp a b) (k)))) Try.underlying47 rfl rfl (g2 _ (KB.refl No _) 0 _ rfl)) ?_
      refine WL.lv rfl (LV.neI rfl rfl) ?_
      refine WL.nil (thenQ.n ?_)
      refine WC.condP (p := (gI (Stp a b) (k)) ≠ 3) rfl (fun hc2 => ?_) (fun hc2 => ?_)
      · skip
        refine WC.region ?_
        refine WL.lv rfl (LV.mv rfl) ?_
        refine WL.lv rfl (LV.add rfl rfl (wr64 (by omega) (by omega))) ?_
        refine WL.lv rfl (LV.asg rfl) ?_
        refine WL.nil (thenQ.n ?_)
        refine WC.seq ?_
        refine WC.region ?_
        iterate 2 refine WL.lv rfl (LV.mv rfl) ?_
        obtain ⟨A6, c6, e3, g3⟩ := St.elt (SH.rd hS6 (.tail _ (.tail _ (.head _)))) 0 k (by omega) (by omega)
        refine WL.lv rfl (LV.idxA Try.underlying52 ti47.sz rfl e3 rfl (by omega) (by omega)) ?_
        refine WL.lv rfl (LV.load1 (v := (.int .i64 (gI (Stp a b) (k)))) Try.underlying47 rfl rfl (g3 _ (KB.refl No _) 0 _ rfl)) ?_
        refine WL.lv rfl (LV.neI rfl rfl) ?_
        refine WL.nil (thenQ.n ?_)
        refine WC.condP (p := (gI (Stp a b) (k)) ≠ 2) rfl (fun hc3 => ?_) (fun hc3 => ?_)
        · skip
          refine WC.region ?_
          refine WL.lv rfl (LV.mv rfl) ?_
          refine WL.lv rfl (LV.add rfl rfl (wr64 (by omega) (by omega))) ?_
          refine WL.lv rfl (LV.asg rfl) ?_
          refine WL.nil (blockQ.n <| thenQ.n ?_)
          refine WC.region ?_
          refine WL.lv rfl (LV.mv rfl) ?_
          refine WL.lv rfl (LV.add rfl rfl (wr64 (by omega) (by omega))) ?_
          refine WL.lv rfl (LV.asg rfl) ?_
          refine WL.nil (thenQ.n ?_)
          have hS7 : SH w No w5 [rowE eI 47 (.slice A2 ((Stp a b).length) c2) (Stp a b), rowE eP 65 (.slice A4 ((out ++ [(i, j)]).length) c4) (out ++ [(i, j)])] := (SH.take 2 rfl (SH.front [rowE eP 65 (.slice A4 ((out ++ [(i, j)]).length) c4) (out ++ [(i, j)]), rowE eP 65 (.slice (some ⟨b2, 0, none⟩) 1 1) [(i, j)]] hS6))
          exact ⟨_, by omega, i + 1, j + 1, k + 1, A4, c4, (out ++ [(i, j)]), by omega, by omega, by omega, (by rw [← q5, prs1 q0 hk hc1]; simp), (by first | omega | (simp; omega)), by omega, hS7, rfl, Weak.cons rfl <| Weak.cons rfl <| Weak.cons rfl <| Weak.cons rfl <| Weak.cons rfl <| Weak.cons rfl <| Weak.cons rfl <| Weak.cons rfl <| Weak.nil _⟩
        · skip
          refine WC.skip (blockQ.n <| thenQ.n ?_)
          refine WC.region ?_
          refine WL.lv rfl (LV.mv rfl) ?_
          refine WL.lv rfl (LV.add rfl rfl (wr64 (by omega) (by omega))) ?_
          refine WL.lv rfl (LV.asg rfl) ?_
          refine WL.nil (thenQ.n ?_)
          have hS8 : SH w No w5 [rowE eI 47 (.slice A2 ((Stp a b).length) c2) (Stp a b), rowE eP 65 (.slice A4 ((out ++ [(i, j)]).length) c4) (out ++ [(i, j)])] := (SH.take 2 rfl (SH.front [rowE eP 65 (.slice A4 ((out ++ [(i, j)]).length) c4) (out ++ [(i, j)]), rowE eP 65 (.slice (some ⟨b2, 0, none⟩) 1 1) [(i, j)]] hS6))
          exact ⟨_, by omega, i + 1, j, k + 1, A4, c4, (out ++ [(i, j)]), by omega, by omega, by omega, (by exfalso; omega), (by first | omega | (simp; omega)), by omega, hS8, rfl, Weak.cons rfl <| Weak.cons rfl <| Weak.cons rfl <| Weak.cons rfl <| Weak.cons rfl <| Weak.cons rfl <| Weak.cons rfl <| Weak.cons rfl <| Weak.nil _⟩
      · skip
        refine WC.skip (thenQ.n ?_)
        refine WC.seq ?_
        refine WC.region ?_
        iterate 2 refine WL.lv rfl (LV.mv rfl) ?_
        obtain ⟨A7, c7, e4, g4⟩ := St.elt (SH.rd hS6 (.tail _ (.tail _ (.head _)))) 0 k (by omega) (by omega)
        refine WL.lv rfl (LV.idxA Try.underlying52 ti47.sz rfl e4 rfl (by omega) (by omega)) ?_
        refine WL.lv rfl (LV.load1 (v := (.int .i64 (gI (Stp a b) (k)))) Try.underlying47 rfl rfl (g4 _ (KB.refl No _) 0 _ rfl)) ?_
        refine WL.lv rfl (LV.neI rfl rfl) ?_
        refine WL.nil (thenQ.n ?_)
        refine WC.condP (p := (gI (Stp a b) (k)) ≠ 2) rfl (fun hc4 => ?_) (fun hc4 => ?_)
        · skip
          refine WC.region ?_
          refine WL.lv rfl (LV.mv rfl) ?_
          refine WL.lv rfl (LV.add rfl rfl (wr64 (by omega) (by omega))) ?_
          refine WL.lv rfl (LV.asg rfl) ?_
          refine WL.nil (blockQ.n <| thenQ.n ?_)
          refine WC.region ?_
          refine WL.lv rfl (LV.mv rfl) ?_
          refine WL.lv rfl (LV.add rfl rfl (wr64 (by omega) (by omega))) ?_
          refine WL.lv rfl (LV.asg rfl) ?_
          refine WL.nil (thenQ.n ?_)
          have hS9 : SH w No w5 [rowE eI 47 (.slice A2 ((Stp a b).length) c2) (Stp a b), rowE eP 65 (.slice A4 ((out ++ [(i, j)]).length) c4) (out ++ [(i, j)])] := (SH.take 2 rfl (SH.front [rowE eP 65 (.slice A4 ((out ++ [(i, j)]).length) c4) (out ++ [(i, j)]), rowE eP 65 (.slice (some ⟨b2, 0, none⟩) 1 1) [(i, j)]] hS6))
          exact ⟨_, by omega, i, j + 1, k + 1, A4, c4, (out ++ [(i, j)]), by omega, by omega, by omega, (by exfalso; omega), (by first | omega | (simp; omega)), by omega, hS9, rfl, Weak.cons rfl <| Weak.cons rfl <| Weak.cons rfl <| Weak.cons rfl <| Weak.cons rfl <| Weak.cons rfl <| Weak.cons rfl <| Weak.cons rfl <| Weak.nil _⟩
        · skip
          refine WC.skip (blockQ.n <| thenQ.n ?_)
          refine WC.region ?_
          refine WL.lv rfl (LV.mv rfl) ?_
          refine WL.lv rfl (LV.add rfl rfl (wr64 (by omega) (by omega))) ?_
          refine WL.lv rfl (LV.asg rfl) ?_
          refine WL.nil (thenQ.n ?_)
          have hS10 : SH w No w5 [rowE eI 47 (.slice A2 ((Stp a b).length) c2) (Stp a b), rowE eP 65 (.slice A4 ((out ++ [(i, j)]).length) c4) (out ++ [(i, j)])] := (SH.take 2 rfl (SH.front [rowE eP 65 (.slice A4 ((out ++ [(i, j)]).length) c4) (out ++ [(i, j)]), rowE eP 65 (.slice (some ⟨b2, 0, none⟩) 1 1) [(i, j)]] hS6))
          exact ⟨_, by omega, i, j, k + 1, A4, c4, (out ++ [(i, j)]), by omega, by omega, by omega, (by exfalso; omega), (by first | omega | (simp; omega)), by omega, hS10, rfl, Weak.cons rfl <| Weak.cons rfl <| Weak.cons rfl <| Weak.cons rfl <| Weak.cons rfl <| Weak.cons rfl <| Weak.cons rfl <| Weak.cons rfl <| Weak.nil _⟩
    · skip
      refine WC.skip (thenQ.n ?_)
      iterate 2 refine WC.seq ?_
      refine WC.region ?_
      iterate 2 refine WL.lv rfl (LV.mv rfl) ?_
      obtain ⟨A8, c8, e5, g5⟩ := St.elt (SH.rd hL1 (.head _)) 0 k (by omega) (by omega)
      refine WL.lv rfl (LV.idxA Try.underlying52 ti47.sz rfl e5 rfl (by omega) (by omega)) ?_
      refine WL.lv rfl (LV.load1 (v := (.int .i64 (gI (Stp a b) (k)))) Try.underlying47 rfl rfl (g5 _ (KB.refl No _) 0 _ rfl)) ?_
      refine WL.lv rfl (LV.neI rfl rfl) ?_
      refine WL.nil (thenQ.n ?_)
      refine WC.condP (p := (gI (Stp a b) (k)) ≠ 3) rfl (fun hc5 => ?_) (fun hc5 => ?_)
      · skip
        refine WC.region ?_
        refine WL.lv rfl (LV.mv rfl) ?_
        refine WL.lv rfl (LV.add rfl rfl (wr64 (by omega) (by omega))) ?_
        refine WL.lv rfl (LV.asg rfl) ?_
        refine WL.nil (thenQ.n ?_)
        refine WC.seq ?_
        refine WC.region ?_
        iterate 2 refine WL.lv rfl (LV.mv rfl) ?_
        obtain ⟨A9, c9, e6, g6⟩ := St.elt (SH.rd hL1 (.head _)) 0 k (by omega) (by omega)
        refine WL.lv rfl (LV.idxA Try.underlying52 ti47.sz rfl e6 rfl (by omega) (by omega)) ?_
        refine WL.lv rfl (LV.load1 (v := (.int .i64 (gI (Stp a b) (k)))) Try.underlying47 rfl rfl (g6 _ (KB.refl No _) 0 _ rfl)) ?_
        refine WL.lv rfl (LV.neI rfl rfl) ?_
        refine WL.nil (thenQ.n ?_)
        refine WC.condP (p := (gI (Stp a b) (k)) ≠ 2) rfl (fun hc6 => ?_) (fun hc6 => ?_)
        · skip
          refine WC.region ?_
          refine WL.lv rfl (LV.mv rfl) ?_
          refine WL.lv rfl (LV.add rfl rfl (wr64 (by omega) (by omega))) ?_
          refine WL.lv rfl (LV.asg rfl) ?_
          refine WL.nil (blockQ.n <| thenQ.n ?_)
          refine WC.region ?_
          refine WL.lv rfl (LV.mv rfl) ?_
          refine WL.lv rfl (LV.add rfl rfl (wr64 (by omega) (by omega))) ?_
          refine WL.lv rfl (LV.asg rfl) ?_
          refine WL.nil (thenQ.n ?_)
          exact ⟨_, by omega, i + 1, j + 1, k + 1, A, c, out, by omega, by omega, by omega, (by exfalso; omega), (by first | omega | (simp; omega)), by omega, hL1, rfl, Weak.cons rfl <| Weak.cons rfl <| Weak.cons rfl <| Weak.cons rfl <| Weak.cons rfl <| Weak.cons rfl <| Weak.cons rfl <| Weak.cons rfl <| Weak.nil _⟩
        · skip
          refine WC.skip (blockQ.n <| thenQ.n ?_)
          refine WC.region ?_
          refine WL.lv rfl (LV.mv rfl) ?_
          refine WL.lv rfl (LV.add rfl rfl (wr64 (by omega) (by omega))) ?_
          refine WL.lv rfl (LV.asg rfl) ?_
          refine WL.nil (thenQ.n ?_)
          exact ⟨_, by omega, i + 1, j, k + 1, A, c, out, by omega, by omega, by omega, (by rw [← q5, prs2 q0 hk (by omega)]), (by first | omega | (simp; omega)), by omega, hL1, rfl, Weak.cons rfl <| Weak.cons rfl <| Weak.cons rfl <| Weak.cons rfl <| Weak.cons rfl <| Weak.cons rfl <| Weak.cons rfl <| Weak.cons rfl <| Weak.nil _⟩
      · skip
        refine WC.skip (thenQ.n ?_)
        refine WC.seq ?_
        refine WC.region ?_
        iterate 2 refine WL.lv rfl (LV.mv rfl) ?_
        obtain ⟨A10, c10, e7, g7⟩ := St.elt (SH.rd hL1 (.head _)) 0 k (by omega) (by omega)
        refine WL.lv rfl (LV.idxA Try.underlying52 ti47.sz rfl e7 rfl (by omega) (by omega)) ?_
        refine WL.lv rfl (LV.load1 (v := (.int .i64 (gI (Stp a b) (k)))) Try.underlying47 rfl rfl (g7 _ (KB.refl No _) 0 _ rfl)) ?_
        refine WL.lv rfl (LV.neI rfl rfl) ?_
        refine WL.nil (thenQ.n ?_)
        refine WC.condP (p := (gI (Stp a b) (k)) ≠ 2) rfl (fun hc7 => ?_) (fun hc7 => ?_)
        · skip
          refine WC.region ?_
          refine WL.lv rfl (LV.mv rfl) ?_
          refine WL.lv rfl (LV.add rfl rfl (wr64 (by omega) (by omega))) ?_
          refine WL.lv rfl (LV.asg rfl) ?_
          refine WL.nil (blockQ.n <| thenQ.n ?_)
          refine WC.region ?_
          refine WL.lv rfl (LV.mv rfl) ?_
          refine WL.lv rfl (LV.add rfl rfl (wr64 (by omega) (by omega))) ?_
          refine WL.lv rfl (LV.asg rfl) ?_
          refine WL.nil (thenQ.n ?_)
          exact ⟨_, by omega, i, j + 1, k + 1, A, c, out, by omega, by omega, by omega, (by rw [← q5, prs3 q0 hk (by omega)]), (by first | omega | (simp; omega)), by omega, hL1, rfl, Weak.cons rfl <| Weak.cons rfl <| Weak.cons rfl <| Weak.cons rfl <| Weak.cons rfl <| Weak.cons rfl <| Weak.cons rfl <| Weak.cons rfl <| Weak.nil _⟩
        · skip
          refine WC.skip (blockQ.n <| thenQ.n ?_)
          refine WC.region ?_
          refine WL.lv rfl (LV.mv rfl) ?_
          refine WL.lv rfl (LV.add rfl rfl (wr64 (by omega) (by omega))) ?_
          refine WL.lv rfl (LV.asg rfl) ?_
          refine WL.nil (thenQ.n ?_)
          exact ⟨_, by omega, i, j, k + 1, A, c, out, by omega, by omega, by omega, (by exfalso; omega), (by first | omega | (simp; omega)), by omega, hL1, rfl, Weak.cons rfl <| Weak.cons rfl <| Weak.cons rfl <| Weak.cons rfl <| Weak.cons rfl <| Weak.cons rfl <| Weak.cons rfl <| Weak.cons rfl <| Weak.nil _⟩
  · skip
    refine WC.exit (thenQ.x <| thenQ.x <| blockQ.hit <| thenQ.n ?_)
    refine WC.seq ?_
    refine WC.region ?_
    refine WL.lv rfl (LV.mv rfl) ?_
    refine WL.lv rfl (LV.asg rfl) ?_
    refine WL.nil (thenQ.n ?_)
    refine WC.ret (?_)
    have hS11 : SH w No w3 [rowE eP 65 (.slice A out.length c) out] := (SH.take 1 rfl (SH.front [rowE eI 47 (.slice A2 ((Stp a b).length) c2) (Stp a b)] hL1))
    exact ⟨_, fun a ha => res1 rfl ha rfl, (by rw [List.drop_of_length_le (by omega)] at q5; rw [Prs_Stp, ← q5]; simp only [prs, List.append_nil]; exact ⟨_, _, rfl, hS11⟩)⟩

end Go.Proofs.Ytjjilkibcomfcaa
