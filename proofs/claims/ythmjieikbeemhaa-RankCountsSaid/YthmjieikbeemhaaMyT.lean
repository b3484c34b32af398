/- The document's answers. -/
import Derived.Test.YthmjieikbeemhaaMyD
import Derived.Test.YthmjieikbeemhaaMyT0
import Derived.Test.YthmjieikbeemhaaGvI
namespace Go.Proofs.Ythmjieikbeemhaa
open Go Go.Gv Go.RowKit Go.Mys
set_option linter.unusedVariables false
set_option linter.unusedSimpArgs false

theorem table_calls {w : World} {A0 A1 : Option Addr} {a b : List Int} {c0 c1 : Nat} (ha : St No w (Rd eI (.slice A0 a.length c0) a)) (hb : St No w (Rd eI (.slice A1 b.length c1) b)) (hla : a.length ≤ 400) (hlb : b.length ≤ 400) :
    Calls Try.prog 28 #[(.slice A0 a.length c0), (.slice A1 b.length c1)] w fun e w' => ∃ v, e = .returned v ∧ (fun v w' => ∃ A2 n2 c2 tb, v = .slice A2 n2 c2 ∧ TabOK a b tb (-1) b.length ∧ SH w No w' [rrE eI 46 3 (.slice A2 n2 c2) tb]) v w' := by
  have hS : SH w No w [] := SH.nil _ _
  refine calls (l := litOf [(.slice A0 a.length c0), (.slice A1 b.length c1)] 0) Try.func28 rfl (n := 135) rfl (Nat.le_of_ble_eq_true rfl) (lit_args _) ?_
  refine WC.seq ?_
  refine WC.region ?_
  refine WL.lv rfl (LV.asg rfl) ?_
  refine WL.nil (thenQ.n ?_)
  refine WC.seq ?_
  refine WC.region ?_
  refine WL.xe rfl (XE.buildSlice (E := eV) [] #[] [] hS Try.underlying48 ti46 rfl (by decide) (by kernel_rfl) (.inr rfl) rfl rfl (by decide)) ?_
  rintro _ w1 ⟨b1, rfl, hS1, hk1⟩
  refine WL.lv rfl (LV.asg rfl) ?_
  refine WL.nil (thenQ.n ?_)
  iterate 2 refine WC.seq ?_
  refine WC.region ?_
  have hS2 := SH.rr0 (E := eI) (T1 := 3) hS1
  refine WL.lv rfl (LV.asg rfl) ?_
  refine WL.nil (thenQ.n ?_)
  refine WC.block ?_
  refine WC.loop (fun m_ f_ w_ => ∃ (i : Int) (A : Option Addr) (c : Nat) (rows : List (SV × List Int)), ((rows.length : Int) = i) ∧ (i ≤ (a.length : Int) + 1) ∧ (∀ p ∈ rows, p.2.length = b.length + 1) ∧ SH w No w_ [rrE eI 46 3 (.slice A rows.length c) rows] ∧ m_ = (((a.length : Int) + 1 - i).toNat) ∧ Weak (lit [(0, (.slice A0 a.length c0)), (1, (.slice A1 b.length c1)), (4, (.slice none 0 0)), (5, (.slice A rows.length c)), (6, (.int .i64 i))]) f_) _ ⟨0, (some ⟨b1, 0, none⟩), 0, [], rfl, by omega, (fun p hp => by cases hp), hS2, rfl, Weak.cons rfl <| Weak.cons rfl <| Weak.cons rfl <| Weak.cons rfl <| Weak.cons rfl <| Weak.nil _⟩ ?_
  rintro m1 f1 w2 ⟨i, A, c, rows, q0, q1, q2, hL1, rfl, hw1⟩
  refine WC.weak hw1 ?_
  clear hw1
  iterate 2 refine WC.seq ?_
  refine WC.region ?_
  iterate 2 refine WL.lv rfl (LV.mv rfl) ?_
  refine WL.lv rfl (LV.lenL Try.underlying46 rfl) ?_
  refine WL.lv rfl (LV.leI rfl rfl) ?_
  refine WL.nil (thenQ.n ?_)
  refine WC.condP (p := i ≤ (a.length : Int)) rfl (fun hc1 => ?_) (fun hc1 => ?_)
  · skip
    refine WC.skip (thenQ.n ?_)
    refine WC.seq ?_
    refine WC.block ?_
    refine WC.region ?_
    iterate 2 refine WL.lv rfl (LV.mv rfl) ?_
    refine WL.lv rfl (LV.lenL Try.underlying46 rfl) ?_
    refine WL.lv rfl (LV.add rfl rfl (wr64 (by omega) (by omega))) ?_
    refine WL.xe rfl (XE.make (E := eI) (n := (b.length + 1)) 0 hL1 Try.underlying46 ti3 rfl rfl rfl rfl (by omega) (by omega) (by omega) (by omega)) ?_
    rintro _ w3 ⟨b2, rfl, hS3, hk2⟩
    refine WL.xe rfl (XE.buildSlice (E := eV) [(0, (.slice (some ⟨b2, 0, none⟩) (b.length + 1) (b.length + 1)))] #[(.slice (some ⟨b2, 0, none⟩) (b.length + 1) (b.length + 1))] [(⟨(some ⟨b2, 0, none⟩), (b.length + 1), (b.length + 1)⟩ : SV)] hS3 Try.underlying48 ti46 rfl (by decide) (by kernel_rfl) (.inr rfl) rfl rfl (by decide)) ?_
    rintro _ w4 ⟨b3, rfl, hS4, hk3⟩
    have hS5 : SH w No w4 [rowE eI 3 (.slice (some ⟨b2, 0, none⟩) (b.length + 1) (b.length + 1)) (List.replicate (b.length + 1) 0), rowE eV 46 (.slice (some ⟨b3, 0, none⟩) 1 1) [(⟨(some ⟨b2, 0, none⟩), (b.length + 1), (b.length + 1)⟩ : SV)], rrE eI 46 3 (.slice A rows.length c) rows] := (SH.front [rowE eV 46 (.slice (some ⟨b3, 0, none⟩) 1 1) [(⟨(some ⟨b2, 0, none⟩), (b.length + 1), (b.length + 1)⟩ : SV)]] hS4)
    have hS6 : SH w No w4 [rrE eI 46 3 (.slice A rows.length c) rows, rowE eI 3 (.slice (some ⟨b2, 0, none⟩) (b.length + 1) (b.length + 1)) (List.replicate (b.length + 1) 0), rowE eV 46 (.slice (some ⟨b3, 0, none⟩) 1 1) [(⟨(some ⟨b2, 0, none⟩), (b.length + 1), (b.length + 1)⟩ : SV)]] := (SH.front [rowE eI 3 (.slice (some ⟨b2, 0, none⟩) (b.length + 1) (b.length + 1)) (List.replicate (b.length + 1) 0), rowE eV 46 (.slice (some ⟨b3, 0, none⟩) 1 1) [(⟨(some ⟨b2, 0, none⟩), (b.length + 1), (b.length + 1)⟩ : SV)]] hS5)
    refine WL.xe rfl (XE.appendRR (sv := (⟨(some ⟨b2, 0, none⟩), (b.length + 1), (b.length + 1)⟩ : SV)) hS6 rfl Try.underlying48 ti46 (St.now (SH.rd hS6 (.tail _ (.tail _ (.head _))))) rfl rfl (by omega) (by omega)) ?_
    rintro _ w5 ⟨A2, c2, rfl, hS7, hk4⟩
    refine WL.lv rfl (LV.asg rfl) ?_
    refine WL.nil (blockQ.n <| thenQ.n ?_)
    refine WC.region ?_
    refine WL.lv rfl (LV.mv rfl) ?_
    refine WL.lv rfl (LV.add rfl rfl (wr64 (by omega) (by omega))) ?_
    refine WL.lv rfl (LV.asg rfl) ?_
    refine WL.nil (thenQ.n ?_)
    have hS8 : SH w No w5 [rrE eI 46 3 (.slice A2 ((rows ++ [((⟨(some ⟨b2, 0, none⟩), (b.length + 1), (b.length + 1)⟩ : SV), (List.replicate (b.length + 1) 0))]).length) c2) (rows ++ [((⟨(some ⟨b2, 0, none⟩), (b.length + 1), (b.length + 1)⟩ : SV), (List.replicate (b.length + 1) 0))])] := (SH.take 1 rfl hS7)
    exact ⟨_, by omega, i + 1, A2, c2, (rows ++ [((⟨(some ⟨b2, 0, none⟩), (b.length + 1), (b.length + 1)⟩ : SV), (List.replicate (b.length + 1) 0))]), (by simp; omega), by omega, (fun p hp => by rcases List.mem_append.1 hp with hp | hp; exact q2 p hp; simp at hp; subst hp; simp), hS8, rfl, Weak.cons rfl <| Weak.cons rfl <| Weak.cons rfl <| Weak.cons rfl <| Weak.cons rfl <| Weak.nil _⟩
  · skip
    refine WC.exit (thenQ.x <| thenQ.x <| blockQ.hit <| thenQ.n ?_)
    iterate 2 refine WC.seq ?_
    refine WC.region ?_
    refine WL.lv rfl (LV.mv rfl) ?_
    refine WL.lv rfl (LV.lenL Try.underlying46 rfl) ?_
    refine WL.lv rfl (LV.asg rfl) ?_
    refine WL.nil (thenQ.n ?_)
    refine WC.block ?_
    refine WC.loop (fun m_ f_ w_ => ∃ (i1 : Int) (tb : List (SV × List Int)), (-1 ≤ i1) ∧ (i1 ≤ a.length) ∧ (TabOK a b tb i1 b.length) ∧ SH w No w_ [rrE eI 46 3 (.slice A rows.length c) tb] ∧ m_ = ((i1 + 1).toNat) ∧ Weak (lit [(0, (.slice A0 a.length c0)), (1, (.slice A1 b.length c1)), (4, (.slice none 0 0)), (5, (.slice A rows.length c)), (7, (.int .i64 i1))]) f_) _ ⟨(a.length : Int), rows, by omega, by omega, (TabOK.init (by omega) q2), hL1, rfl, Weak.cons rfl <| Weak.cons rfl <| Weak.cons rfl <| Weak.cons rfl <| Weak.cons rfl <| Weak.nil _⟩ ?_
    rintro m2 f2 w6 ⟨i1, tb, r0, r1, r2, hL2, rfl, hw2⟩
    refine WC.weak hw2 ?_
    clear hw2
    iterate 2 refine WC.seq ?_
    refine WC.region ?_
    refine WL.lv rfl (LV.mv rfl) ?_
    refine WL.lv rfl (LV.geI rfl rfl) ?_
    refine WL.nil (thenQ.n ?_)
    refine WC.condP (p := i1 ≥ 0) rfl (fun hc26 => ?_) (fun hc26 => ?_)
    · skip
      refine WC.skip (thenQ.n ?_)
      refine WC.seq ?_
      refine WC.block ?_
      refine WC.seq ?_
      refine WC.region ?_
      refine WL.lv rfl (LV.mv rfl) ?_
      refine WL.lv rfl (LV.lenL Try.underlying46 rfl) ?_
      refine WL.lv rfl (LV.asg rfl) ?_
      refine WL.nil (thenQ.n ?_)
      refine WC.block ?_
      refine WC.loop (fun m_ f_ w_ => ∃ (j1 : Int) (tb : List (SV × List Int)), (-1 ≤ j1) ∧ (j1 ≤ b.length) ∧ (TabOK a b tb i1 j1) ∧ SH w No w_ [rrE eI 46 3 (.slice A rows.length c) tb] ∧ m_ = ((j1 + 1).toNat) ∧ Weak (lit [(0, (.slice A0 a.length c0)), (1, (.slice A1 b.length c1)), (4, (.slice none 0 0)), (5, (.slice A rows.length c)), (7, (.int .i64 i1)), (8, (.int .i64 j1))]) f_) _ ⟨(b.length : Int), tb, by omega, by omega, r2, hL2, rfl, Weak.cons rfl <| Weak.cons rfl <| Weak.cons rfl <| Weak.cons rfl <| Weak.cons rfl <| Weak.cons rfl <| Weak.nil _⟩ ?_
      rintro m3 f3 w7 ⟨j1, tb, s0, s1, s2, hL3, rfl, hw3⟩
      refine WC.weak hw3 ?_
      clear hw3
      have hsl := s2.len
      have hsr1 := fun h1 h2 => s2.row i1 h1 h2
      have hsr2 := fun h1 h2 => s2.row (i1 + 1) h1 h2
      have hv1 := fun h1 h2 h3 h4 h5 => (show gI (tb.getD i1.toNat default).2 (j1 + 1) = (D a b i1 (j1 + 1) : Int) from s2.val i1 (j1 + 1) h1 h2 h3 h4 h5)
      have hv2 := fun h1 h2 h3 h4 h5 => (show gI (tb.getD (i1 + 1).toNat default).2 j1 = (D a b (i1 + 1) j1 : Int) from s2.val (i1 + 1) j1 h1 h2 h3 h4 h5)
      have hd1 := D_bd a b i1 (j1 + 1)
      have hd2 := D_bd a b (i1 + 1) j1
      iterate 2 refine WC.seq ?_
      refine WC.region ?_
      refine WL.lv rfl (LV.mv rfl) ?_
      refine WL.lv rfl (LV.geI rfl rfl) ?_
      refine WL.nil (thenQ.n ?_)
      refine WC.condP (p := j1 ≥ 0) rfl (fun hc => ?_) (fun hc => ?_)
      · skip
        refine WC.skip (thenQ.n ?_)
        refine WC.seq ?_
        refine WC.block ?_
        refine WC.seq ?_
        refine WC.region ?_
        iterate 2 refine WL.lv rfl (LV.mv rfl) ?_
        refine WL.lv rfl (LV.lenL Try.underlying46 rfl) ?_
        refine WL.lv rfl (LV.eqI rfl rfl) ?_
        refine WL.nil (thenQ.n ?_)
        refine WC.condP (p := i1 = (a.length : Int)) rfl (fun hc2 => ?_) (fun hc2 => ?_)
        · skip
          refine WC.region ?_
          iterate 2 refine WL.lv rfl (LV.mv rfl) ?_
          obtain ⟨A3, c3, A4, c4, e1, g1, e2, r1⟩ := St.eltRR (SH.rdRR hL3 (.head _)) default i1 (by omega) (by omega)
          refine WL.lv rfl (LV.idxA Try.underlying48 ti46.sz rfl e1 rfl (by omega) (by omega)) ?_
          refine WL.lv rfl (LV.load1 Try.underlying46 rfl rfl (g1 _ (KB.refl No _))) ?_
          iterate 2 refine WL.lv rfl (LV.mv rfl) ?_
          refine WL.lv rfl (LV.lenL Try.underlying46 rfl) ?_
          refine WL.lv rfl (LV.mv rfl) ?_
          refine WL.lv rfl (LV.sub rfl rfl (wr64 (by omega) (by omega))) ?_
          obtain ⟨A5, c5, e3, g2⟩ := St.elt (St.inner (SH.rdRR hL3 (.head _)) (getD_mem (by omega)) e2) 0 j1 (by omega) (by omega)
          refine WL.lv rfl (LV.idxA Try.underlying46 ti3.sz rfl e3 rfl (by omega) (by omega)) ?_
          refine WL.xse rfl (XSE.rr1 (i := i1) (j := j1) (o := 0) (k := 0) ((b.length : Int) - j1) hL3 (by omega) (by omega) (e2.trans e3) (by omega) (by omega) (by decide) ti3.sz rfl rfl rfl rfl) ?_
          rintro w8 ⟨hS9, hk5⟩
          refine WL.nil (blockQ.n <| thenQ.n ?_)
          refine WC.region ?_
          refine WL.lv rfl (LV.mv rfl) ?_
          refine WL.lv rfl (LV.sub rfl rfl (wr64 (by omega) (by omega))) ?_
          refine WL.lv rfl (LV.asg rfl) ?_
          refine WL.nil (thenQ.n ?_)
          exact ⟨_, by omega, j1 - 1, (tb.set (i1).toNat ((tb.getD (i1).toNat default).1, (tb.getD (i1).toNat default).2.set (j1).toNat ((b.length : Int) - j1))), by omega, by omega, (TabOK.put s2 (by omega) (by omega) (by omega) s1 (tab1 (by omega) (by omega) (by omega))), hS9, rfl, Weak.cons rfl <| Weak.cons rfl <| Weak.cons rfl <| Weak.cons rfl <| Weak.cons rfl <| Weak.cons rfl <| Weak.nil _⟩
        · skip
          refine WC.seq ?_
          refine WC.region ?_
          iterate 2 refine WL.lv rfl (LV.mv rfl) ?_
          refine WL.lv rfl (LV.lenL Try.underlying46 rfl) ?_
          refine WL.lv rfl (LV.eqI rfl rfl) ?_
          refine WL.nil (thenQ.n ?_)
          refine WC.condP (p := j1 = (b.length : Int)) rfl (fun hc3 => ?_) (fun hc3 => ?_)
          · skip
            refine WC.region ?_
            iterate 2 refine WL.lv rfl (LV.mv rfl) ?_
            obtain ⟨A6, c6, A7, c7, e4, g3, e5, r2⟩ := St.eltRR (SH.rdRR hL3 (.head _)) default i1 (by omega) (by omega)
            refine WL.lv rfl (LV.idxA Try.underlying48 ti46.sz rfl e4 rfl (by omega) (by omega)) ?_
            refine WL.lv rfl (LV.load1 Try.underlying46 rfl rfl (g3 _ (KB.refl No _))) ?_
            iterate 2 refine WL.lv rfl (LV.mv rfl) ?_
            refine WL.lv rfl (LV.lenL Try.underlying46 rfl) ?_
            refine WL.lv rfl (LV.mv rfl) ?_
            refine WL.lv rfl (LV.sub rfl rfl (wr64 (by omega) (by omega))) ?_
            obtain ⟨A8, c8, e6, g4⟩ := St.elt (St.inner (SH.rdRR hL3 (.head _)) (getD_mem (by omega)) e5) 0 j1 (by omega) (by omega)
            refine WL.lv rfl (LV.idxA Try.underlying46 ti3.sz rfl e6 rfl (by omega) (by omega)) ?_
            refine WL.xse rfl (XSE.rr1 (i := i1) (j := j1) (o := 0) (k := 0) ((a.length : Int) - i1) hL3 (by omega) (by omega) (e5.trans e6) (by omega) (by omega) (by decide) ti3.sz rfl rfl rfl rfl) ?_
            rintro w9 ⟨hS10, hk6⟩
            refine WL.nil (blockQ.n <| thenQ.n ?_)
            refine WC.region ?_
            refine WL.lv rfl (LV.mv rfl) ?_
            refine WL.lv rfl (LV.sub rfl rfl (wr64 (by omega) (by omega))) ?_
            refine WL.lv rfl (LV.asg rfl) ?_
            refine WL.nil (thenQ.n ?_)
            exact ⟨_, by omega, j1 - 1, (tb.set (i1).toNat ((tb.getD (i1).toNat default).1, (tb.getD (i1).toNat default).2.set (j1).toNat ((a.length : Int) - i1))), by omega, by omega, (TabOK.put s2 (by omega) (by omega) (by omega) s1 (tab2 (by omega) (by omega) (by omega))), hS10, rfl, Weak.cons rfl <| Weak.cons rfl <| Weak.cons rfl <| Weak.cons rfl <| Weak.cons rfl <| Weak.cons rfl <| Weak.nil _⟩
          · skip
            refine WC.seq ?_
            have hS11 := SH.drew hL3
            refine WC.regionD [] (fun w_ => KB No w7.drew w_) [(.pure, 0), (.pure, 1), (.pure, 2), (.look, 3), (.pure, 4), (.pure, 5), (.pure, 6), (.look, 7), (.pure, 8)] (by kernel_rfl) (by kernel_rfl) (KB.refl _ _) ?_
            iterate 2 refine WS.pure rfl rfl (fun _ => LV.mv rfl) ?_
            obtain ⟨A9, c9, e7, g5⟩ := St.elt (SH.stN hS11 ha) 0 i1 (by omega) (by omega)
            refine WS.pure rfl rfl (fun _ => LV.idxA Try.underlying46 ti3.sz rfl e7 rfl (by omega) (by omega)) ?_
            refine WS.look rfl rfl (fun _ hk_ => LV.load1 (v := (.int .i64 (gI a (i1)))) Try.underlying3 rfl rfl (g5 _ hk_ 0 _ rfl)) ?_
            iterate 2 refine WS.pure rfl rfl (fun _ => LV.mv rfl) ?_
            obtain ⟨A10, c10, e8, g6⟩ := St.elt (SH.stN hS11 hb) 0 j1 (by omega) (by omega)
            refine WS.pure rfl rfl (fun _ => LV.idxA Try.underlying46 ti3.sz rfl e8 rfl (by omega) (by omega)) ?_
            refine WS.look rfl rfl (fun _ hk_ => LV.load1 (v := (.int .i64 (gI b (j1)))) Try.underlying3 rfl rfl (g6 _ hk_ 0 _ rfl)) ?_
            refine WS.pure rfl rfl (fun _ => LV.eqI rfl rfl) ?_
            refine WS.nil (thenQ.n ?_)
            refine WC.condP (p := (gI a (i1)) = (gI b (j1))) rfl (fun hc4 => ?_) (fun hc4 => ?_)
            · skip
              have hS12 := SH.drew hS11
              refine WC.regionD [15] (fun w_ => KB No w7.drew.drew w_) [(.pure, 0), (.pure, 1), (.pure, 2), (.look, 3), (.pure, 4), (.pure, 5), (.pure, 6), (.pure, 7), (.pure, 8), (.look, 9), (.pure, 10), (.pure, 11), (.pure, 12), (.look, 13), (.pure, 14), (.forced, 15)] (by kernel_rfl) (by kernel_rfl) (KB.refl _ _) ?_
              iterate 2 refine WS.pure rfl rfl (fun _ => LV.mv rfl) ?_
              obtain ⟨A11, c11, A12, c12, e9, g7, e10, r3⟩ := St.eltRR (SH.rdRR hS12 (.head _)) default i1 (by omega) (by omega)
              refine WS.pure rfl rfl (fun _ => LV.idxA Try.underlying48 ti46.sz rfl e9 rfl (by omega) (by omega)) ?_
              refine WS.look rfl rfl (fun _ hk_ => LV.load1 Try.underlying46 rfl rfl (g7 _ hk_)) ?_
              iterate 3 refine WS.pure rfl rfl (fun _ => LV.mv rfl) ?_
              refine WS.pure rfl rfl (fun _ => LV.add rfl rfl (wr64 (by omega) (by omega))) ?_
              obtain ⟨A13, c13, A14, c14, e11, g8, e12, r4⟩ := St.eltRR (SH.rdRR hS12 (.head _)) default (i1 + 1) (by omega) (by omega)
              refine WS.pure rfl rfl (fun _ => LV.idxA Try.underlying48 ti46.sz rfl e11 rfl (by omega) (by omega)) ?_
              refine WS.look rfl rfl (fun _ hk_ => LV.load1 Try.underlying46 rfl rfl (g8 _ hk_)) ?_
              refine WS.pure rfl rfl (fun _ => LV.mv rfl) ?_
              refine WS.pure rfl rfl (fun _ => LV.add rfl rfl (wr64 (by omega) (by omega))) ?_
              obtain ⟨A15, c15, e13, g9⟩ := St.elt (St.inner (SH.rdRR hS12 (.head _)) (getD_mem (by omega)) e12) 0 (j1 + 1) (by omega) (by omega)
              refine WS.pure rfl rfl (fun _ => LV.idxA Try.underlying46 ti3.sz rfl e13 rfl (by omega) (by omega)) ?_
              refine WS.look rfl rfl (fun _ hk_ => LV.load1 (v := (.int .i64 (gI ((tb.getD (i1 + 1).toNat default).2) (j1 + 1)))) Try.underlying3 rfl rfl (g9 _ hk_ 0 _ rfl)) ?_
              obtain ⟨A16, c16, e14, g10⟩ := St.elt (St.inner (SH.rdRR hS12 (.head _)) (getD_mem (by omega)) e10) 0 j1 (by omega) (by omega)
              refine WS.pure rfl rfl (fun _ => LV.idxA Try.underlying46 ti3.sz rfl e14 rfl (by omega) (by omega)) ?_
              refine WS.xse rfl rfl (XSE.rr1 (i := i1) (j := j1) (o := 0) (k := 0) (gI ((tb.getD (i1 + 1).toNat default).2) (j1 + 1)) hS12 (by omega) (by omega) (e10.trans e14) (by omega) (by omega) (by decide) ti3.sz rfl rfl rfl rfl) ?_
              rintro w10 ⟨hS13, hk7⟩
              refine ⟨fun h_ => (by cases h_), ?_⟩
              refine WS.nil (blockQ.n <| thenQ.n ?_)
              refine WC.region ?_
              refine WL.lv rfl (LV.mv rfl) ?_
              refine WL.lv rfl (LV.sub rfl rfl (wr64 (by omega) (by omega))) ?_
              refine WL.lv rfl (LV.asg rfl) ?_
              refine WL.nil (thenQ.n ?_)
              exact ⟨_, by omega, j1 - 1, (tb.set (i1).toNat ((tb.getD (i1).toNat default).1, (tb.getD (i1).toNat default).2.set (j1).toNat (gI ((tb.getD (i1 + 1).toNat default).2) (j1 + 1)))), by omega, by omega, (TabOK.put s2 (by omega) (by omega) (by omega) s1 (tab3 s2 (by omega) (by omega) (by omega) (by omega) hc4)), hS13, rfl, Weak.cons rfl <| Weak.cons rfl <| Weak.cons rfl <| Weak.cons rfl <| Weak.cons rfl <| Weak.cons rfl <| Weak.nil _⟩
            · skip
              refine WC.seq ?_
              have hS14 := SH.drew hS11
              refine WC.regionD [] (fun w_ => KB No w7.drew.drew w_) [(.pure, 0), (.pure, 1), (.pure, 2), (.pure, 3), (.look, 4), (.pure, 5), (.pure, 6), (.look, 7), (.pure, 8), (.pure, 9), (.pure, 10), (.look, 11), (.pure, 12), (.pure, 13), (.pure, 14), (.look, 15), (.pure, 16)] (by kernel_rfl) (by kernel_rfl) (KB.refl _ _) ?_
              iterate 2 refine WS.pure rfl rfl (fun _ => LV.mv rfl) ?_
              refine WS.pure rfl rfl (fun _ => LV.add rfl rfl (wr64 (by omega) (by omega))) ?_
              obtain ⟨A17, c17, A18, c18, e15, g11, e16, r5⟩ := St.eltRR (SH.rdRR hS14 (.head _)) default (i1 + 1) (by omega) (by omega)
              refine WS.pure rfl rfl (fun _ => LV.idxA Try.underlying48 ti46.sz rfl e15 rfl (by omega) (by omega)) ?_
              refine WS.look rfl rfl (fun _ hk_ => LV.load1 Try.underlying46 rfl rfl (g11 _ hk_)) ?_
              refine WS.pure rfl rfl (fun _ => LV.mv rfl) ?_
              obtain ⟨A19, c19, e17, g12⟩ := St.elt (St.inner (SH.rdRR hS14 (.head _)) (getD_mem (by omega)) e16) 0 j1 (by omega) (by omega)
              refine WS.pure rfl rfl (fun _ => LV.idxA Try.underlying46 ti3.sz rfl e17 rfl (by omega) (by omega)) ?_
              refine WS.look rfl rfl (fun _ hk_ => LV.load1 (v := (.int .i64 (gI ((tb.getD (i1 + 1).toNat default).2) (j1)))) Try.underlying3 rfl rfl (g12 _ hk_ 0 _ rfl)) ?_
              iterate 2 refine WS.pure rfl rfl (fun _ => LV.mv rfl) ?_
              obtain ⟨A20, c20, A21, c21, e18, g13, e19, r6⟩ := St.eltRR (SH.rdRR hS14 (.head _)) default i1 (by omega) (by omega)
              refine WS.pure rfl rfl (fun _ => LV.idxA Try.underlying48 ti46.sz rfl e18 rfl (by omega) (by omega)) ?_
              refine WS.look rfl rfl (fun _ hk_ => LV.load1 Try.underlying46 rfl rfl (g13 _ hk_)) ?_
              refine WS.pure rfl rfl (fun _ => LV.mv rfl) ?_
              refine WS.pure rfl rfl (fun _ => LV.add rfl rfl (wr64 (by omega) (by omega))) ?_
              obtain ⟨A22, c22, e20, g14⟩ := St.elt (St.inner (SH.rdRR hS14 (.head _)) (getD_mem (by omega)) e19) 0 (j1 + 1) (by omega) (by omega)
              refine WS.pure rfl rfl (fun _ => LV.idxA Try.underlying46 ti3.sz rfl e20 rfl (by omega) (by omega)) ?_
              refine WS.look rfl rfl (fun _ hk_ => LV.load1 (v := (.int .i64 (gI ((tb.getD (i1).toNat default).2) (j1 + 1)))) Try.underlying3 rfl rfl (g14 _ hk_ 0 _ rfl)) ?_
              refine WS.pure rfl rfl (fun _ => LV.ltI rfl rfl) ?_
              refine WS.nil (thenQ.n ?_)
              refine WC.condP (p := (gI ((tb.getD (i1 + 1).toNat default).2) (j1)) < (gI ((tb.getD (i1).toNat default).2) (j1 + 1))) rfl (fun hc5 => ?_) (fun hc5 => ?_)
              · skip
                have hS15 := SH.drew hS14
                refine WC.regionD [15] (fun w_ => KB No w7.drew.drew.drew w_) [(.pure, 0), (.pure, 1), (.pure, 2), (.look, 3), (.pure, 4), (.pure, 5), (.pure, 6), (.pure, 7), (.pure, 8), (.look, 9), (.pure, 10), (.pure, 11), (.look, 12), (.pure, 13), (.pure, 14), (.forced, 15)] (by kernel_rfl) (by kernel_rfl) (KB.refl _ _) ?_
                iterate 2 refine WS.pure rfl rfl (fun _ => LV.mv rfl) ?_
                obtain ⟨A23, c23, A24, c24, e21, g15, e22, r7⟩ := St.eltRR (SH.rdRR hS15 (.head _)) default i1 (by omega) (by omega)
                refine WS.pure rfl rfl (fun _ => LV.idxA Try.underlying48 ti46.sz rfl e21 rfl (by omega) (by omega)) ?_
                refine WS.look rfl rfl (fun _ hk_ => LV.load1 Try.underlying46 rfl rfl (g15 _ hk_)) ?_
                iterate 3 refine WS.pure rfl rfl (fun _ => LV.mv rfl) ?_
                refine WS.pure rfl rfl (fun _ => LV.add rfl rfl (wr64 (by omega) (by omega))) ?_
                obtain ⟨A25, c25, A26, c26, e23, g16, e24, r8⟩ := St.eltRR (SH.rdRR hS15 (.head _)) default (i1 + 1) (by omega) (by omega)
                refine WS.pure rfl rfl (fun _ => LV.idxA Try.underlying48 ti46.sz rfl e23 rfl (by omega) (by omega)) ?_
                refine WS.look rfl rfl (fun _ hk_ => LV.load1 Try.underlying46 rfl rfl (g16 _ hk_)) ?_
                refine WS.pure rfl rfl (fun _ => LV.mv rfl) ?_
                obtain ⟨A27, c27, e25, g17⟩ := St.elt (St.inner (SH.rdRR hS15 (.head _)) (getD_mem (by omega)) e24) 0 j1 (by omega) (by omega)
                refine WS.pure rfl rfl (fun _ => LV.idxA Try.underlying46 ti3.sz rfl e25 rfl (by omega) (by omega)) ?_
                refine WS.look rfl rfl (fun _ hk_ => LV.load1 (v := (.int .i64 (gI ((tb.getD (i1 + 1).toNat default).2) (j1)))) Try.underlying3 rfl rfl (g17 _ hk_ 0 _ rfl)) ?_
                refine WS.pure rfl rfl (fun _ => LV.add rfl rfl (wr64 (by omega) (by omega))) ?_
                obtain ⟨A28, c28, e26, g18⟩ := St.elt (St.inner (SH.rdRR hS15 (.head _)) (getD_mem (by omega)) e22) 0 j1 (by omega) (by omega)
                refine WS.pure rfl rfl (fun _ => LV.idxA Try.underlying46 ti3.sz rfl e26 rfl (by omega) (by omega)) ?_
                refine WS.xse rfl rfl (XSE.rr1 (i := i1) (j := j1) (o := 0) (k := 0) ((gI ((tb.getD (i1 + 1).toNat default).2) (j1)) + 1) hS15 (by omega) (by omega) (e22.trans e26) (by omega) (by omega) (by decide) ti3.sz rfl rfl rfl rfl) ?_
                rintro w11 ⟨hS16, hk8⟩
                refine ⟨fun h_ => (by cases h_), ?_⟩
                refine WS.nil (blockQ.n <| thenQ.n ?_)
                refine WC.region ?_
                refine WL.lv rfl (LV.mv rfl) ?_
                refine WL.lv rfl (LV.sub rfl rfl (wr64 (by omega) (by omega))) ?_
                refine WL.lv rfl (LV.asg rfl) ?_
                refine WL.nil (thenQ.n ?_)
                exact ⟨_, by omega, j1 - 1, (tb.set (i1).toNat ((tb.getD (i1).toNat default).1, (tb.getD (i1).toNat default).2.set (j1).toNat ((gI ((tb.getD (i1 + 1).toNat default).2) (j1)) + 1))), by omega, by omega, (TabOK.put s2 (by omega) (by omega) (by omega) s1 (tab4 s2 (by omega) (by omega) (by omega) (by omega) hc4 hc5)), hS16, rfl, Weak.cons rfl <| Weak.cons rfl <| Weak.cons rfl <| Weak.cons rfl <| Weak.cons rfl <| Weak.cons rfl <| Weak.nil _⟩
              · skip
                have hS17 := SH.drew hS14
                refine WC.regionD [15] (fun w_ => KB No w7.drew.drew.drew w_) [(.pure, 0), (.pure, 1), (.pure, 2), (.look, 3), (.pure, 4), (.pure, 5), (.pure, 6), (.pure, 7), (.look, 8), (.pure, 9), (.pure, 10), (.pure, 11), (.look, 12), (.pure, 13), (.pure, 14), (.forced, 15)] (by kernel_rfl) (by kernel_rfl) (KB.refl _ _) ?_
                iterate 2 refine WS.pure rfl rfl (fun _ => LV.mv rfl) ?_
                obtain ⟨A29, c29, A30, c30, e27, g19, e28, r9⟩ := St.eltRR (SH.rdRR hS17 (.head _)) default i1 (by omega) (by omega)
                refine WS.pure rfl rfl (fun _ => LV.idxA Try.underlying48 ti46.sz rfl e27 rfl (by omega) (by omega)) ?_
                refine WS.look rfl rfl (fun _ hk_ => LV.load1 Try.underlying46 rfl rfl (g19 _ hk_)) ?_
                iterate 3 refine WS.pure rfl rfl (fun _ => LV.mv rfl) ?_
                obtain ⟨A31, c31, A32, c32, e29, g20, e30, r10⟩ := St.eltRR (SH.rdRR hS17 (.head _)) default i1 (by omega) (by omega)
                refine WS.pure rfl rfl (fun _ => LV.idxA Try.underlying48 ti46.sz rfl e29 rfl (by omega) (by omega)) ?_
                refine WS.look rfl rfl (fun _ hk_ => LV.load1 Try.underlying46 rfl rfl (g20 _ hk_)) ?_
                refine WS.pure rfl rfl (fun _ => LV.mv rfl) ?_
                refine WS.pure rfl rfl (fun _ => LV.add rfl rfl (wr64 (by omega) (by omega))) ?_
                obtain ⟨A33, c33, e31, g21⟩ := St.elt (St.inner (SH.rdRR hS17 (.head _)) (getD_mem (by omega)) e30) 0 (j1 + 1) (by omega) (by omega)
                refine WS.pure rfl rfl (fun _ => LV.idxA Try.underlying46 ti3.sz rfl e31 rfl (by omega) (by omega)) ?_
                refine WS.look rfl rfl (fun _ hk_ => LV.load1 (v := (.int .i64 (gI ((tb.getD (i1).toNat default).2) (j1 + 1)))) Try.underlying3 rfl rfl (g21 _ hk_ 0 _ rfl)) ?_
                refine WS.pure rfl rfl (fun _ => LV.add rfl rfl (wr64 (by omega) (by omega))) ?_
                obtain ⟨A34, c34, e32, g22⟩ := St.elt (St.inner (SH.rdRR hS17 (.head _)) (getD_mem (by omega)) e28) 0 j1 (by omega) (by omega)
                refine WS.pure rfl rfl (fun _ => LV.idxA Try.underlying46 ti3.sz rfl e32 rfl (by omega) (by omega)) ?_
                refine WS.xse rfl rfl (XSE.rr1 (i := i1) (j := j1) (o := 0) (k := 0) ((gI ((tb.getD (i1).toNat default).2) (j1 + 1)) + 1) hS17 (by omega) (by omega) (e28.trans e32) (by omega) (by omega) (by decide) ti3.sz rfl rfl rfl rfl) ?_
                rintro w12 ⟨hS18, hk9⟩
                refine ⟨fun h_ => (by cases h_), ?_⟩
                refine WS.nil (blockQ.n <| thenQ.n ?_)
                refine WC.region ?_
                refine WL.lv rfl (LV.mv rfl) ?_
                refine WL.lv rfl (LV.sub rfl rfl (wr64 (by omega) (by omega))) ?_
                refine WL.lv rfl (LV.asg rfl) ?_
                refine WL.nil (thenQ.n ?_)
                exact ⟨_, by omega, j1 - 1, (tb.set (i1).toNat ((tb.getD (i1).toNat default).1, (tb.getD (i1).toNat default).2.set (j1).toNat ((gI ((tb.getD (i1).toNat default).2) (j1 + 1)) + 1))), by omega, by omega, (TabOK.put s2 (by omega) (by omega) (by omega) s1 (tab5 s2 (by omega) (by omega) (by omega) (by omega) hc4 hc5)), hS18, rfl, Weak.cons rfl <| Weak.cons rfl <| Weak.cons rfl <| Weak.cons rfl <| Weak.cons rfl <| Weak.cons rfl <| Weak.nil _⟩
      · skip
        refine WC.exit (thenQ.x <| thenQ.x <| blockQ.hit <| blockQ.n <| thenQ.n ?_)
        refine WC.region ?_
        refine WL.lv rfl (LV.mv rfl) ?_
        refine WL.lv rfl (LV.sub rfl rfl (wr64 (by omega) (by omega))) ?_
        refine WL.lv rfl (LV.asg rfl) ?_
        refine WL.nil (thenQ.n ?_)
        exact ⟨_, by omega, i1 - 1, tb, by omega, by omega, (TabOK.next s2 hc), hL3, rfl, Weak.cons rfl <| Weak.cons rfl <| Weak.cons rfl <| Weak.cons rfl <| Weak.cons rfl <| Weak.nil _⟩
    · skip
      refine WC.exit (thenQ.x <| thenQ.x <| blockQ.hit <| thenQ.n ?_)
      refine WC.seq ?_
      refine WC.region ?_
      refine WL.lv rfl (LV.mv rfl) ?_
      refine WL.lv rfl (LV.asg rfl) ?_
      refine WL.nil (thenQ.n ?_)
      refine WC.ret (?_)
      exact ⟨_, fun a ha => res1 rfl ha rfl, _, _, _, _, rfl, (show i1 = -1 by omega) ▸ r2, hL2⟩

end Go.Proofs.Ythmjieikbeemhaa
