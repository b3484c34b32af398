/- A longest row that rises. -/
import Derived.Test.YtjjilkibcomfcaaIn
import Derived.Test.YtjjilkibcomfcaaPaB
import Derived.Test.YtjjilkibcomfcaaGvY
import Derived.Test.YtjjilkibcomfcaaGvT
namespace Go.Proofs.Ytjjilkibcomfcaa
open Go Go.Gv Go.RowKit Go.Mys Go.Itn Go.Pat
set_option linter.unusedVariables false
set_option linter.unusedSimpArgs false
theorem ti103 : TI Try.prog 103 (.agg #[(.int .i64 0), (.int .i64 0)]) 2 16 := by unfold TI; kernel_rfl

theorem reverse_calls {w : World} {S : Nat → Prop} {A : Option Addr} {c : Nat} {xs : List Int} (hS0 : SH w S w [rowE eI 3 (.slice A xs.length c) xs]) (hl : xs.length ≤ 1000000) :
    Calls Try.prog 72 #[(.slice A xs.length c)] w fun e w' => ∃ v, e = .returned v ∧ (fun v w' => v = .tuple #[] ∧ SH w S w' [rowE eI 3 (.slice A xs.length c) xs.reverse]) v w' := by
  have hS : SH w S w [rowE eI 3 (.slice A xs.length c) xs] := hS0
  refine calls (l := litOf [(.slice A xs.length c)] 0) Try.func72 rfl (n := 28) rfl (Nat.le_of_ble_eq_true rfl) (lit_args _) ?_
  refine WC.seq ?_
  refine WC.region ?_
  refine WL.lv rfl (LV.mv rfl) ?_
  refine WL.lv rfl (LV.lenL Try.underlying54 rfl) ?_
  refine WL.lv rfl (LV.sub rfl rfl (wr64 (by omega) (by omega))) ?_
  iterate 2 refine WL.lv rfl (LV.asg rfl) ?_
  refine WL.nil (thenQ.n ?_)
  refine WC.block ?_
  refine WC.loop (fun m_ f_ w_ => ∃ (i j : Int) (ys : List Int), (0 ≤ i) ∧ (j = (xs.length : Int) - 1 - i) ∧ (Rvd xs ys i) ∧ (ys.length = xs.length) ∧ SH w S w_ [rowE eI 3 (.slice A xs.length c) ys] ∧ m_ = ((j - i).toNat) ∧ Weak (lit [(0, (.slice A xs.length c)), (2, (.int .i64 i)), (3, (.int .i64 j))]) f_) _ ⟨0, (xs.length : Int) - 1, xs, by omega, by omega, (Rvd.z xs), rfl, hS, rfl, Weak.cons rfl <| Weak.cons rfl <| Weak.cons rfl <| Weak.nil _⟩ ?_
  rintro m1 f1 w1 ⟨i, j, ys, q0, q1, q2, q3, hL1, rfl, hw1⟩
  refine WC.weak hw1 ?_
  clear hw1
  iterate 2 refine WC.seq ?_
  refine WC.region ?_
  iterate 2 refine WL.lv rfl (LV.mv rfl) ?_
  refine WL.lv rfl (LV.ltI rfl rfl) ?_
  refine WL.nil (thenQ.n ?_)
  refine WC.condP (p := i < j) rfl (fun hc9 => ?_) (fun hc9 => ?_)
  · skip
    refine WC.skip (thenQ.n ?_)
    refine WC.seq ?_
    refine WC.block ?_
    have hS1 := SH.drew hL1
    refine WC.regionD [13, 15] (fun w_ => KB No w1.drew w_) [(.pure, 0), (.pure, 1), (.pure, 2), (.pure, 3), (.pure, 4), (.pure, 5), (.pure, 6), (.look, 7), (.pure, 8), (.pure, 9), (.pure, 10), (.look, 11), (.pure, 12), (.forced, 13), (.pure, 14), (.forced, 15)] (by kernel_rfl) (by kernel_rfl) (KB.refl _ _) ?_
    iterate 6 refine WS.pure rfl rfl (fun _ => LV.mv rfl) ?_
    obtain ⟨A1, c1, e1, g1⟩ := St.elt (SH.rd hS1 (.head _)) 0 j (by omega) (by omega)
    refine WS.pure rfl rfl (fun _ => LV.idxA Try.underlying54 ti3.sz rfl e1 rfl (by omega) (by omega)) ?_
    refine WS.look rfl rfl (fun _ hk_ => LV.load1 (v := (.int .i64 (gI ys (j)))) Try.underlying3 rfl rfl (g1 _ hk_ 0 _ rfl)) ?_
    iterate 2 refine WS.pure rfl rfl (fun _ => LV.mv rfl) ?_
    obtain ⟨A2, c2, e2, g2⟩ := St.elt (SH.rd hS1 (.head _)) 0 i (by omega) (by omega)
    refine WS.pure rfl rfl (fun _ => LV.idxA Try.underlying54 ti3.sz rfl e2 rfl (by omega) (by omega)) ?_
    refine WS.look rfl rfl (fun _ hk_ => LV.load1 (v := (.int .i64 (gI ys (i)))) Try.underlying3 rfl rfl (g2 _ hk_ 0 _ rfl)) ?_
    obtain ⟨A3, c3, e3, g3⟩ := St.elt (SH.rd hS1 (.head _)) 0 i (by omega) (by omega)
    refine WS.pure rfl rfl (fun _ => LV.idxA Try.underlying54 ti3.sz rfl e3 rfl (by omega) (by omega)) ?_
    refine WS.xse rfl rfl (XSE.row1 (i := i) (o := 0) (k := 0) (gI ys (j)) hS1 e3 (by omega) (by omega) (by decide) ti3.sz rfl rfl rfl rfl) ?_
    rintro w2 ⟨hS2, hk1⟩
    refine ⟨fun h_ => (by cases h_), ?_⟩
    obtain ⟨A4, c4, e4, g4⟩ := St.elt (SH.rd hS1 (.head _)) 0 j (by omega) (by first | omega | (rw [List.length_set]; omega))
    refine WS.pure rfl rfl (fun _ => LV.idxA Try.underlying54 ti3.sz rfl e4 rfl (by omega) (by first | omega | (rw [List.length_set]; omega))) ?_
    refine WS.xse rfl rfl (XSE.row1 (i := j) (o := 0) (k := 0) (gI ys (i)) hS2 e4 (by omega) (by first | omega | (rw [List.length_set]; omega)) (by decide) ti3.sz rfl rfl rfl rfl) ?_
    rintro w3 ⟨hS3, hk2⟩
    refine ⟨fun h_ => (by cases h_), ?_⟩
    refine WS.nil (blockQ.n <| thenQ.n ?_)
    refine WC.region ?_
    refine WL.lv rfl (LV.mv rfl) ?_
    refine WL.lv rfl (LV.add rfl rfl (wr64 (by omega) (by omega))) ?_
    refine WL.lv rfl (LV.mv rfl) ?_
    refine WL.lv rfl (LV.sub rfl rfl (wr64 (by omega) (by omega))) ?_
    iterate 2 refine WL.lv rfl (LV.asg rfl) ?_
    refine WL.nil (thenQ.n ?_)
    exact ⟨_, by omega, i + 1, j - 1, ((ys.set (i).toNat (gI ys (j))).set (j).toNat (gI ys (i))), by omega, by omega, (Rvd.step q2 q0 q1 hc9), (by simp; exact q3), hS3, rfl, Weak.cons rfl <| Weak.cons rfl <| Weak.cons rfl <| Weak.nil _⟩
  · skip
    refine WC.exit (thenQ.x <| thenQ.x <| blockQ.hit <| ?_)
    exact ⟨_, fun a ha => res0 rfl, rfl, (Rvd.fin q2 q0 q1 hc9) ▸ hL1⟩

set_option maxHeartbeats 1000000 in
theorem longest_calls {w : World} {A_l : Option Addr} {n_l c_l : Nat} {l : List Int} (h_l : St No w (Rd eI (.slice A_l n_l c_l) l)) (hn_l : l.length = n_l) (hl : l.length ≤ 1000000) :
    Calls Try.prog 63 #[(.slice A_l n_l c_l)] w fun e w' => ∃ v, e = .returned v ∧ (fun v w' => ∃ (A0' : Option Addr) (c0' : Nat), v = .slice A0' (LNG l).length c0' ∧ SH w No w' [rowE eI 3 (.slice A0' (LNG l).length c0') (LNG l)]) v w' := by
  subst hn_l
  have hS : SH w No w [] := SH.nil _ _
  refine calls (l := litOf [(.slice A_l l.length c_l)] 0) Try.func63 rfl (n := 90) rfl (Nat.le_of_ble_eq_true rfl) (lit_args _) ?_
  refine WC.seq ?_
  refine WC.region ?_
  refine WL.lv rfl (LV.asg rfl) ?_
  refine WL.nil (thenQ.n ?_)
  refine WC.seq ?_
  refine WC.region ?_
  refine WL.lv rfl (LV.mv rfl) ?_
  refine WL.lv rfl (LV.lenL Try.underlying54 rfl) ?_
  refine WL.xe rfl (XE.makeN (E := eP) (n := l.length) (0, 0) hS Try.underlying101 ti103 rfl (by decide) rfl rfl rfl rfl (by omega) (by omega)) ?_
  rintro _ w1 ⟨b1, rfl, hS1, hk1⟩
  refine WL.lv rfl (LV.asg rfl) ?_
  refine WL.nil (thenQ.n ?_)
  refine WC.seq ?_
  refine WC.region ?_
  refine WL.lv rfl (LV.asg rfl) ?_
  refine WL.nil (thenQ.n ?_)
  iterate 2 refine WC.seq ?_
  refine WC.region ?_
  refine WL.lv rfl (LV.mv rfl) ?_
  refine WL.lv rfl (LV.lenL Try.underlying54 rfl) ?_
  refine WL.lv rfl (LV.mv rfl) ?_
  refine WL.nil (thenQ.n ?_)
  refine WC.block ?_
  refine WC.loop (fun m_ f_ w_ => ∃ (rows : List (Int × Int)) (last_ : Int) (ix : Int), (0 ≤ ix) ∧ (ix ≤ (l.length : Int)) ∧ (∀ t : Int, 0 ≤ t → t < ix → rows.getD t.toNat (0, 0) = BS l t) ∧ (rows.length = l.length) ∧ (last_ = stT l ix.toNat) ∧ SH w No w_ [rowE eP 103 (.slice (some ⟨b1, 0, none⟩) l.length l.length) rows] ∧ m_ = (((l.length : Int) - ix).toNat) ∧ Weak (lit [(0, (.slice A_l l.length c_l)), (3, (.slice (some ⟨b1, 0, none⟩) l.length l.length)), (4, (.int .i64 last_)), (12, (.slice A_l l.length c_l)), (13, (.int .i64 (l.length : Int))), (14, (.int .i64 ix))]) f_) _ ⟨(List.replicate l.length ((0, 0) : (Int × Int))), (-1), 0, by omega, by omega, (fun t h1 h2 => by omega), (by simp), rfl, hS1, rfl, Weak.cons rfl <| Weak.cons rfl <| Weak.cons rfl <| Weak.cons rfl <| Weak.cons rfl <| Weak.cons rfl <| Weak.nil _⟩ ?_
  rintro m1 f1 w2 ⟨rows, last_, ix, ixlo, ixhi, q1, q2, q3, hL1, rfl, hw1⟩
  refine WC.weak hw1 ?_
  clear hw1
  refine WC.seq ?_
  refine WC.region ?_
  refine WL.lv rfl (LV.ltI rfl rfl) ?_
  refine WL.nil (thenQ.n ?_)
  refine WC.seq ?_
  refine WC.condP (p := ix < (l.length : Int)) rfl (fun hk => ?_) (fun hk => ?_)
  · skip
    refine WC.skip (thenQ.n ?_)
    refine WC.seq ?_
    refine WC.block ?_
    refine WC.seq ?_
    refine WC.region ?_
    refine WL.lv rfl (LV.mv rfl) ?_
    obtain ⟨A1, c1, e1, g1⟩ := St.elt (SH.stN hL1 h_l) 0 ix (by omega) (by omega)
    refine WL.lv rfl (LV.idxA Try.underlying54 ti3.sz rfl e1 rfl (by omega) (by omega)) ?_
    refine WL.lv rfl (LV.load1 (v := (.int .i64 (gI l (ix)))) Try.underlying3 rfl rfl (g1 _ (KB.refl No _) 0 _ rfl)) ?_
    iterate 2 refine WL.lv rfl (LV.asg rfl) ?_
    refine WL.nil (thenQ.n ?_)
    refine WC.seq ?_
    refine WC.region ?_
    iterate 2 refine WL.lv rfl (LV.mv rfl) ?_
    refine WL.lv rfl (LV.build (vs := [(0, (.int .i64 1)), (1, (.int .i64 (-1)))]) (places := #[(0, 1), (1, 1)]) (cs := #[(.int .i64 1), (.int .i64 (-1))]) Try.underlying103 ti103 (fun _ => by kernel_rfl) rfl rfl) ?_
    obtain ⟨A2, c2, e2, g2⟩ := St.elt (SH.rd hL1 (.head _)) (0, 0) ix (by omega) (by omega)
    refine WL.lv rfl (LV.idxA Try.underlying101 ti103.sz rfl e2 rfl (by omega) (by omega)) ?_
    refine WL.xse rfl (XSE.rowN (i := ix) (cs := #[(.int .i64 1), (.int .i64 (-1))]) ((1 : Int), ((-1) : Int)) hL1 e2 (by omega) (by omega) ti103.sz rfl rfl rfl) ?_
    rintro w3 ⟨hS2, hk2⟩
    refine WL.nil (thenQ.n ?_)
    iterate 2 refine WC.seq ?_
    refine WC.region ?_
    iterate 2 refine WL.lv rfl (LV.mv rfl) ?_
    refine WL.nil (thenQ.n ?_)
    refine WC.block ?_
    refine WC.loop (fun m_ f_ w_ => ∃ (rows2 : List (Int × Int)) (ix2 : Int), (0 ≤ ix2) ∧ (ix2 ≤ ix) ∧ (∀ t : Int, 0 ≤ t → t < ix → rows2.getD t.toNat (0, 0) = BS l t) ∧ (rows2.getD ix.toNat (0, 0) = bsT l (KN l) ix ix2.toNat) ∧ (rows2.length = l.length) ∧ SH w No w_ [rowE eP 103 (.slice (some ⟨b1, 0, none⟩) l.length l.length) rows2] ∧ m_ = ((ix - ix2).toNat) ∧ Weak (lit [(0, (.slice A_l l.length c_l)), (3, (.slice (some ⟨b1, 0, none⟩) l.length l.length)), (4, (.int .i64 last_)), (5, (.int .i64 ix)), (6, (.int .i64 (gI l (ix)))), (12, (.slice A_l l.length c_l)), (13, (.int .i64 (l.length : Int))), (14, (.int .i64 ix)), (23, (.int .i64 ix)), (24, (.int .i64 ix2))]) f_) _ ⟨(rows.set (ix).toNat ((1 : Int), ((-1) : Int))), 0, by omega, by omega, (r1_set ixlo q1), (gD_eq ixlo (by omega)), (by simp; exact q2), hS2, rfl, Weak.cons rfl <| Weak.cons rfl <| Weak.cons rfl <| Weak.cons rfl <| Weak.cons rfl <| Weak.cons rfl <| Weak.cons rfl <| Weak.cons rfl <| Weak.cons rfl <| Weak.cons rfl <| Weak.nil _⟩ ?_
    rintro m2 f2 w4 ⟨rows2, ix2, ix2lo, ix2hi, r1, r2, r3, hL2, rfl, hw2⟩
    refine WC.weak hw2 ?_
    clear hw2
    refine WC.seq ?_
    refine WC.region ?_
    refine WL.lv rfl (LV.ltI rfl rfl) ?_
    refine WL.nil (thenQ.n ?_)
    refine WC.seq ?_
    refine WC.condP (p := ix2 < ix) rfl (fun hk2 => ?_) (fun hk2 => ?_)
    · have hbj := BS_ok (l := l) (i := ix2) ix2lo (by omega)
      have hbl := hbj.le
      have hb1 := hbj.one
      rw [← r1 ix2 ix2lo hk2] at hbl hb1
      refine WC.skip (thenQ.n ?_)
      refine WC.seq ?_
      refine WC.block ?_
      refine WC.seq ?_
      refine WC.region ?_
      refine WL.lv rfl (LV.mv rfl) ?_
      refine WL.lv rfl (LV.asg rfl) ?_
      refine WL.nil (thenQ.n ?_)
      refine WC.seq ?_
      have hS3 := SH.drew hL2
      refine WC.regionD [] (fun w_ => KB No w4.drew w_) [(.pure, 0), (.pure, 1), (.pure, 2), (.look, 3), (.pure, 4), (.pure, 5), (.pure, 6), (.pure, 7), (.pure, 8), (.pure, 9), (.pure, 10), (.look, 11), (.pure, 12), (.pure, 13), (.pure, 14), (.pure, 15), (.pure, 16), (.look, 17), (.pure, 18), (.pure, 19)] (by kernel_rfl) (by kernel_rfl) (KB.refl _ _) ?_
      iterate 2 refine WS.pure rfl rfl (fun _ => LV.mv rfl) ?_
      obtain ⟨A3, c3, e3, g3⟩ := St.elt (SH.stN hS3 h_l) 0 ix2 (by omega) (by omega)
      refine WS.pure rfl rfl (fun _ => LV.idxA Try.underlying54 ti3.sz rfl e3 rfl (by omega) (by omega)) ?_
      refine WS.look rfl rfl (fun _ hk_ => LV.load1 (v := (.int .i64 (gI l (ix2)))) Try.underlying3 rfl rfl (g3 _ hk_ 0 _ rfl)) ?_
      refine WS.pure rfl rfl (fun _ => LV.mv rfl) ?_
      rcases Decidable.em ((gI l (ix2)) < (gI l (ix))) with hg5 | hg5
      · refine WS.pure rfl rfl (fun _ => LV.as (LV.ltI rfl rfl) (decide_eq_true hg5)) ?_
        iterate 3 refine WS.pure rfl rfl (fun _ => LV.mv rfl) ?_
        obtain ⟨A4, c4, e4, g4⟩ := St.elt (SH.rd hS3 (.head _)) (0, 0) ix2 (by omega) (by omega)
        refine WS.pure rfl rfl (fun _ => LV.idxA Try.underlying101 ti103.sz rfl e4 rfl (by omega) (by omega)) ?_
        refine WS.pure rfl rfl (fun _ => LV.fieldA Try.underlying103 rfl ti3.sz rfl) ?_
        refine WS.look rfl rfl (fun _ hk_ => LV.load1 (v := (.int .i64 ((rows2.getD (ix2).toNat (0, 0)).1))) Try.underlying3 rfl rfl (g4 _ hk_ 0 _ rfl)) ?_
        refine WS.pure rfl rfl (fun _ => LV.add rfl rfl (wr64 (by omega) (by omega))) ?_
        iterate 2 refine WS.pure rfl rfl (fun _ => LV.mv rfl) ?_
        obtain ⟨A5, c5, e5, g5⟩ := St.elt (SH.rd hS3 (.head _)) (0, 0) ix (by omega) (by omega)
        refine WS.pure rfl rfl (fun _ => LV.idxA Try.underlying101 ti103.sz rfl e5 rfl (by omega) (by omega)) ?_
        refine WS.pure rfl rfl (fun _ => LV.fieldA Try.underlying103 rfl ti3.sz rfl) ?_
        refine WS.look rfl rfl (fun _ hk_ => LV.load1 (v := (.int .i64 ((rows2.getD (ix).toNat (0, 0)).1))) Try.underlying3 rfl rfl (g5 _ hk_ 0 _ rfl)) ?_
        refine WS.pure rfl rfl (fun _ => LV.gtI rfl rfl) ?_
        refine WS.pure rfl rfl (fun _ => LV.pickT rfl rfl) ?_
        refine WS.nil (thenQ.n ?_)
        refine WC.condP (p := (((rows2.getD (ix2).toNat (0, 0)).1) + 1) > ((rows2.getD (ix).toNat (0, 0)).1)) rfl (fun hc46 => ?_) (fun hc46 => ?_)
        · skip
          refine WC.region ?_
          iterate 4 refine WL.lv rfl (LV.mv rfl) ?_
          obtain ⟨A6, c6, e6, g6⟩ := St.elt (SH.rd hS3 (.head _)) (0, 0) ix2 (by omega) (by omega)
          refine WL.lv rfl (LV.idxA Try.underlying101 ti103.sz rfl e6 rfl (by omega) (by omega)) ?_
          refine WL.lv rfl (LV.fieldA Try.underlying103 rfl ti3.sz rfl) ?_
          refine WL.lv rfl (LV.load1 (v := (.int .i64 ((rows2.getD (ix2).toNat (0, 0)).1))) Try.underlying3 rfl rfl (g6 _ (KB.refl No _) 0 _ rfl)) ?_
          refine WL.lv rfl (LV.add rfl rfl (wr64 (by omega) (by omega))) ?_
          refine WL.lv rfl (LV.mv rfl) ?_
          refine WL.lv rfl (LV.build (vs := [(0, (.int .i64 (((rows2.getD (ix2).toNat (0, 0)).1) + 1))), (1, (.int .i64 ix2))]) (places := #[(0, 1), (1, 1)]) (cs := #[(.int .i64 (((rows2.getD (ix2).toNat (0, 0)).1) + 1)), (.int .i64 ix2)]) Try.underlying103 ti103 (fun _ => by kernel_rfl) rfl rfl) ?_
          obtain ⟨A7, c7, e7, g7⟩ := St.elt (SH.rd hS3 (.head _)) (0, 0) ix (by omega) (by omega)
          refine WL.lv rfl (LV.idxA Try.underlying101 ti103.sz rfl e7 rfl (by omega) (by omega)) ?_
          refine WL.xse rfl (XSE.rowN (i := ix) (cs := #[(.int .i64 (((rows2.getD (ix2).toNat (0, 0)).1) + 1)), (.int .i64 ix2)]) (((rows2.getD (ix2).toNat (0, 0)).1) + 1, ix2) hS3 e7 (by omega) (by omega) ti103.sz rfl rfl rfl) ?_
          rintro w5 ⟨hS4, hk3⟩
          refine WL.nil (blockQ.n <| thenQ.n ?_)
          refine WC.region ?_
          refine WL.lv rfl (LV.add rfl rfl (wr64 (by omega) (by omega))) ?_
          refine WL.lv rfl (LV.mv rfl) ?_
          refine WL.nil (thenQ.n ?_)
          exact ⟨_, by omega, (rows2.set (ix).toNat (((rows2.getD (ix2).toNat (0, 0)).1) + 1, ix2)), ix2 + 1, by omega, by omega, (r1_set ixlo r1), (bs_yes ix2lo hk2 (by omega) r3 r1 r2 (by omega) (by omega)), (by simp; exact r3), hS4, rfl, Weak.cons rfl <| Weak.cons rfl <| Weak.cons rfl <| Weak.cons rfl <| Weak.cons rfl <| Weak.cons rfl <| Weak.cons rfl <| Weak.cons rfl <| Weak.cons rfl <| Weak.cons rfl <| Weak.nil _⟩
        · skip
          refine WC.skip (blockQ.n <| thenQ.n ?_)
          refine WC.region ?_
          refine WL.lv rfl (LV.add rfl rfl (wr64 (by omega) (by omega))) ?_
          refine WL.lv rfl (LV.mv rfl) ?_
          refine WL.nil (thenQ.n ?_)
          exact ⟨_, by omega, rows2, ix2 + 1, by omega, by omega, r1, (bs_no ix2lo hk2 (by omega) r1 r2 (fun h_ => by omega)), r3, hS3, rfl, Weak.cons rfl <| Weak.cons rfl <| Weak.cons rfl <| Weak.cons rfl <| Weak.cons rfl <| Weak.cons rfl <| Weak.cons rfl <| Weak.cons rfl <| Weak.cons rfl <| Weak.cons rfl <| Weak.nil _⟩
      · refine WS.pure rfl rfl (fun _ => LV.as (LV.ltI rfl rfl) (decide_eq_false hg5)) ?_
        refine WS.pure rfl rfl (fun _ => LV.mv rfl) ?_
        iterate 4 refine WS.off rfl rfl ?_
        refine WS.offL rfl rfl ?_
        iterate 5 refine WS.off rfl rfl ?_
        refine WS.offL rfl rfl ?_
        refine WS.off rfl rfl ?_
        refine WS.pure rfl rfl (fun _ => LV.pickF rfl rfl) ?_
        refine WS.nil (thenQ.n ?_)
        refine WC.condF rfl ?_
        refine WC.skip (blockQ.n <| thenQ.n ?_)
        refine WC.region ?_
        refine WL.lv rfl (LV.add rfl rfl (wr64 (by omega) (by omega))) ?_
        refine WL.lv rfl (LV.mv rfl) ?_
        refine WL.nil (thenQ.n ?_)
        exact ⟨_, by omega, rows2, ix2 + 1, by omega, by omega, r1, (bs_no ix2lo hk2 (by omega) r1 r2 (fun h_ => by omega)), r3, hS3, rfl, Weak.cons rfl <| Weak.cons rfl <| Weak.cons rfl <| Weak.cons rfl <| Weak.cons rfl <| Weak.cons rfl <| Weak.cons rfl <| Weak.cons rfl <| Weak.cons rfl <| Weak.cons rfl <| Weak.nil _⟩
    · skip
      refine WC.exit (thenQ.x <| thenQ.x <| blockQ.hit <| thenQ.n ?_)
      refine WC.seq ?_
      have hS5 := SH.drew hL2
      refine WC.regionD [] (fun w_ => KB No w4.drew w_) [(.pure, 0), (.pure, 1), (.pure, 2), (.pure, 3), (.pure, 4), (.pure, 5), (.pure, 6), (.look, 7), (.pure, 8), (.pure, 9), (.pure, 10), (.pure, 11), (.look, 12), (.pure, 13), (.pure, 14)] (by kernel_rfl) (by kernel_rfl) (KB.refl _ _) ?_
      refine WS.pure rfl rfl (fun _ => LV.mv rfl) ?_
      have hn_ := r1_next r1 r2 (show ix2 = ix by omega)
      have hst_ := stT_spec l ix.toNat
      have hst1_ := hst_.1
      have hst2_ := hst_.2.1
      rw [← q3] at hst1_ hst2_
      rcases Decidable.em (last_ < 0) with hg1 | hg1
      · refine WS.pure rfl rfl (fun _ => LV.as (LV.ltI rfl rfl) (decide_eq_true hg1)) ?_
        refine WS.pure rfl rfl (fun _ => LV.mv rfl) ?_
        iterate 4 refine WS.off rfl rfl ?_
        refine WS.offL rfl rfl ?_
        iterate 4 refine WS.off rfl rfl ?_
        refine WS.offL rfl rfl ?_
        refine WS.off rfl rfl ?_
        refine WS.pure rfl rfl (fun _ => LV.pickT rfl rfl) ?_
        refine WS.nil (thenQ.n ?_)
        refine WC.condT rfl ?_
        refine WC.region ?_
        refine WL.lv rfl (LV.mv rfl) ?_
        refine WL.lv rfl (LV.asg rfl) ?_
        refine WL.nil (blockQ.n <| thenQ.n ?_)
        refine WC.region ?_
        refine WL.lv rfl (LV.add rfl rfl (wr64 (by omega) (by omega))) ?_
        refine WL.lv rfl (LV.mv rfl) ?_
        refine WL.nil (thenQ.n ?_)
        exact ⟨_, by omega, rows2, ix, ix + 1, by omega, by omega, hn_, r3, (st_yes ixlo (by omega) q3 hn_ (.inl (by omega))), hS5, rfl, Weak.cons rfl <| Weak.cons rfl <| Weak.cons rfl <| Weak.cons rfl <| Weak.cons rfl <| Weak.cons rfl <| Weak.nil _⟩
      · refine WS.pure rfl rfl (fun _ => LV.as (LV.ltI rfl rfl) (decide_eq_false hg1)) ?_
        iterate 3 refine WS.pure rfl rfl (fun _ => LV.mv rfl) ?_
        obtain ⟨A8, c8, e8, g8⟩ := St.elt (SH.rd hS5 (.head _)) (0, 0) ix (by omega) (by omega)
        refine WS.pure rfl rfl (fun _ => LV.idxA Try.underlying101 ti103.sz rfl e8 rfl (by omega) (by omega)) ?_
        refine WS.pure rfl rfl (fun _ => LV.fieldA Try.underlying103 rfl ti3.sz rfl) ?_
        refine WS.look rfl rfl (fun _ hk_ => LV.load1 (v := (.int .i64 ((rows2.getD (ix).toNat (0, 0)).1))) Try.underlying3 rfl rfl (g8 _ hk_ 0 _ rfl)) ?_
        iterate 2 refine WS.pure rfl rfl (fun _ => LV.mv rfl) ?_
        obtain ⟨A9, c9, e9, g9⟩ := St.elt (SH.rd hS5 (.head _)) (0, 0) last_ (by omega) (by omega)
        refine WS.pure rfl rfl (fun _ => LV.idxA Try.underlying101 ti103.sz rfl e9 rfl (by omega) (by omega)) ?_
        refine WS.pure rfl rfl (fun _ => LV.fieldA Try.underlying103 rfl ti3.sz rfl) ?_
        refine WS.look rfl rfl (fun _ hk_ => LV.load1 (v := (.int .i64 ((rows2.getD (last_).toNat (0, 0)).1))) Try.underlying3 rfl rfl (g9 _ hk_ 0 _ rfl)) ?_
        refine WS.pure rfl rfl (fun _ => LV.gtI rfl rfl) ?_
        refine WS.pure rfl rfl (fun _ => LV.pickF rfl rfl) ?_
        refine WS.nil (thenQ.n ?_)
        refine WC.condP (p := ((rows2.getD (ix).toNat (0, 0)).1) > ((rows2.getD (last_).toNat (0, 0)).1)) rfl (fun hc73 => ?_) (fun hc73 => ?_)
        · skip
          refine WC.region ?_
          refine WL.lv rfl (LV.mv rfl) ?_
          refine WL.lv rfl (LV.asg rfl) ?_
          refine WL.nil (blockQ.n <| thenQ.n ?_)
          refine WC.region ?_
          refine WL.lv rfl (LV.add rfl rfl (wr64 (by omega) (by omega))) ?_
          refine WL.lv rfl (LV.mv rfl) ?_
          refine WL.nil (thenQ.n ?_)
          exact ⟨_, by omega, rows2, ix, ix + 1, by omega, by omega, hn_, r3, (st_yes ixlo (by omega) q3 hn_ (.inr (by omega))), hS5, rfl, Weak.cons rfl <| Weak.cons rfl <| Weak.cons rfl <| Weak.cons rfl <| Weak.cons rfl <| Weak.cons rfl <| Weak.nil _⟩
        · skip
          refine WC.skip (blockQ.n <| thenQ.n ?_)
          refine WC.region ?_
          refine WL.lv rfl (LV.add rfl rfl (wr64 (by omega) (by omega))) ?_
          refine WL.lv rfl (LV.mv rfl) ?_
          refine WL.nil (thenQ.n ?_)
          exact ⟨_, by omega, rows2, last_, ix + 1, by omega, by omega, hn_, r3, (st_no ixlo (by omega) q3 hn_ (by omega) (by omega)), hS5, rfl, Weak.cons rfl <| Weak.cons rfl <| Weak.cons rfl <| Weak.cons rfl <| Weak.cons rfl <| Weak.cons rfl <| Weak.nil _⟩
  · skip
    refine WC.exit (thenQ.x <| thenQ.x <| blockQ.hit <| thenQ.n ?_)
    refine WC.seq ?_
    refine WC.region ?_
    have hS6 := SH.nilRow (E := eI) (T := 3) hL1
    refine WL.lv rfl (LV.asg rfl) ?_
    refine WL.nil (thenQ.n ?_)
    refine WC.seq ?_
    refine WC.block ?_
    refine WC.loop (fun m_ f_ w_ => ∃ (last_2 : Int) (A_out : Option Addr) (c_out : Nat) (out : List Int), (bk l last_2 out.reverse = LNG l) ∧ (-1 ≤ last_2) ∧ (last_2 < l.length) ∧ ((out.length : Int) + last_2 + 1 ≤ l.length) ∧ SH w No w_ [rowE eI 3 (.slice A_out out.length c_out) out, rowE eP 103 (.slice (some ⟨b1, 0, none⟩) l.length l.length) rows] ∧ m_ = ((last_2 + 1).toNat) ∧ Weak (lit [(3, (.slice (some ⟨b1, 0, none⟩) l.length l.length)), (4, (.int .i64 last_2)), (8, (.slice A_out out.length c_out))]) f_) _ ⟨last_, none, 0, [], (by rw [q3, show ix.toNat = l.length by omega]; rfl), (by have h_ := stT_spec l ix.toNat; omega), (by have h_ := stT_spec l ix.toNat; omega), (by have h_ := stT_spec l ix.toNat; simp only [List.length_nil]; omega), hS6, rfl, Weak.cons rfl <| Weak.cons rfl <| Weak.cons rfl <| Weak.nil _⟩ ?_
    rintro m3 f3 w6 ⟨last_2, A_out, c_out, out, s1, s2, s3, s4, hL3, rfl, hw3⟩
    refine WC.weak hw3 ?_
    clear hw3
    iterate 2 refine WC.seq ?_
    refine WC.region ?_
    refine WL.lv rfl (LV.mv rfl) ?_
    refine WL.lv rfl (LV.geI rfl rfl) ?_
    refine WL.nil (thenQ.n ?_)
    refine WC.condP (p := last_2 ≥ 0) rfl (fun hk3 => ?_) (fun hk3 => ?_)
    · have hb := BS_ok (l := l) (i := last_2) (by omega) (by omega)
      have hbh := hb.hi
      have hbl := hb.lo
      have hbe := q1 last_2 (by omega) (by omega)
      rw [← hbe] at hbh hbl
      refine WC.skip (thenQ.n ?_)
      refine WC.block ?_
      refine WC.seq ?_
      refine WC.region ?_
      iterate 2 refine WL.lv rfl (LV.mv rfl) ?_
      refine WL.xe rfl (XE.buildSlice (E := eI) [(0, (.int .i64 last_2))] #[(.int .i64 last_2)] [last_2] hL3 Try.underlying54 ti3 rfl (by decide) (by kernel_rfl) (.inr rfl) rfl rfl (by decide)) ?_
      rintro _ w7 ⟨b2, rfl, hS7, hk4⟩
      have hS8 : SH w No w7 [rowE eI 3 (.slice A_out out.length c_out) out, rowE eI 3 (.slice (some ⟨b2, 0, none⟩) 1 1) [last_2], rowE eP 103 (.slice (some ⟨b1, 0, none⟩) l.length l.length) rows] := (SH.front [rowE eI 3 (.slice (some ⟨b2, 0, none⟩) 1 1) [last_2]] hS7)
      refine WL.xe rfl (XE.append hS8 Try.underlying54 ti3 rfl (St.now (SH.rd hS8 (.tail _ (.head _)))) rfl rfl (by first | omega | simp only [List.length_append, List.length_cons, List.length_nil, List.length_take, List.length_reverse, List.length_drop] at *; omega) (by first | omega | simp only [List.length_append, List.length_cons, List.length_nil, List.length_take, List.length_reverse, List.length_drop] at *; omega)) ?_
      rintro _ w8 ⟨A10, c10, rfl, hS9, hk5⟩
      refine WL.lv rfl (LV.asg rfl) ?_
      refine WL.nil (thenQ.n ?_)
      refine WC.region ?_
      iterate 2 refine WL.lv rfl (LV.mv rfl) ?_
      obtain ⟨A11, c11, e10, g10⟩ := St.elt (SH.rd hS9 (.tail _ (.tail _ (.head _)))) (0, 0) last_2 (by omega) (by omega)
      refine WL.lv rfl (LV.idxA Try.underlying101 ti103.sz rfl e10 rfl (by omega) (by omega)) ?_
      refine WL.lv rfl (LV.fieldA Try.underlying103 rfl ti3.sz rfl) ?_
      refine WL.lv rfl (LV.load1 (v := (.int .i64 ((rows.getD (last_2).toNat (0, 0)).2))) Try.underlying3 rfl rfl (g10 _ (KB.refl No _) 1 _ rfl)) ?_
      refine WL.lv rfl (LV.asg rfl) ?_
      refine WL.nil (blockQ.n <| thenQ.n ?_)
      have hS10 : SH w No w8 [rowE eI 3 (.slice A10 ((out ++ [last_2]).length) c10) (out ++ [last_2]), rowE eP 103 (.slice (some ⟨b1, 0, none⟩) l.length l.length) rows] := (SH.take 2 rfl (SH.front [rowE eP 103 (.slice (some ⟨b1, 0, none⟩) l.length l.length) rows] (SH.front [rowE eI 3 (.slice A10 ((out ++ [last_2]).length) c10) (out ++ [last_2]), rowE eI 3 (.slice (some ⟨b2, 0, none⟩) 1 1) [last_2]] hS9)))
      exact ⟨_, by omega, (rows.getD (last_2).toNat (0, 0)).2, A10, c10, (out ++ [last_2]), (by rw [List.reverse_append, ← s1, bk_step (c := last_2) (by omega) (by omega), ← hbe]; rfl), by omega, by omega, (by rw [List.length_append]; simp only [List.length_cons, List.length_nil]; omega), hS10, rfl, Weak.cons rfl <| Weak.cons rfl <| Weak.cons rfl <| Weak.nil _⟩
    · skip
      refine WC.exit (thenQ.x <| thenQ.x <| blockQ.hit <| thenQ.n ?_)
      refine WC.seq ?_
      refine WC.region ?_
      refine WL.lv rfl (LV.mv rfl) ?_
      have hT1 := SH.sub (Es := [rowE eI 3 (.slice A_out out.length c_out) out]) hL3
      refine WL.call rfl (XC.fn Try.func72 (by kernel_rfl) rfl rfl rfl) (reverse_calls hT1 (by omega)) ?_
      rintro v_ w9 ⟨rfl, hU1⟩
      have hS11 := SH.back (Es := [rowE eI 3 (.slice A_out out.length c_out) out]) hL3 hU1
      refine WL.nil (thenQ.n ?_)
      refine WC.seq ?_
      refine WC.region ?_
      refine WL.lv rfl (LV.mv rfl) ?_
      have hS12 : SH w No w9 [rowE eI 3 (.slice A_out ((out.reverse).length) c_out) (out.reverse), rowE eP 103 (.slice (some ⟨b1, 0, none⟩) l.length l.length) rows] := by rw [(show (out.reverse).length = out.length from List.length_reverse)]; exact hS11
      refine WL.lv rfl (LV.asg (v := (.slice A_out ((out.reverse).length) c_out)) (by rw [(show (out.reverse).length = out.length from List.length_reverse)]; rfl)) ?_
      refine WL.nil (thenQ.n ?_)
      refine WC.ret (?_)
      have hS13 : SH w No w9 [rowE eI 3 (.slice A_out ((out.reverse).length) c_out) (out.reverse)] := (SH.take 1 rfl hS12)
      have hres1 : ((out.reverse) : List Int) = LNG l := by rw [← s1]; exact (bk_neg (by omega)).symm
      exact ⟨_, fun a ha => res1 rfl ha rfl, (by rw [← hres1]; exact ⟨_, _, rfl, hS13⟩)⟩

theorem rlong_calls {w : World} {A_l : Option Addr} {n_l c_l : Nat} {l : List Int} {i : Int} {A_known : Option Addr} {n_known c_known : Nat} {known : List Int} (h_l : St No w (Rd eI (.slice A_l n_l c_l) l)) (hn_l : l.length = n_l) (h_known : St No w (Rd eI (.slice A_known n_known c_known) known)) (hn_known : known.length = n_known) (hl : l.length ≤ 1000000) (h0 : 0 ≤ i) (h1 : i < l.length) (hk : known = kns l i.toNat) :
    Calls Try.prog 68 #[(.slice A_l n_l c_l), (.int .i64 i), (.slice A_known n_known c_known)] w fun e w' => ∃ v, e = .returned v ∧ (fun v w' => v = .int .i64 ((BS l i).1) ∧ KB No w w') v w' := by
  subst hn_l hn_known
  have hkl := kns_len l i.toNat
  rw [← hk] at hkl
  have hkg : ∀ t : Int, 0 ≤ t → t < i → gI known t = (BS l t).1 := fun t h2 h3 => by rw [hk, KN_pre (m := i.toNat) (by omega) h2 (by omega), KN_at h2 (by omega)]
  have hS : SH w No w [] := SH.nil _ _
  refine calls (l := litOf [(.slice A_l l.length c_l), (.int .i64 i), (.slice A_known known.length c_known)] 0) Try.func68 rfl (n := 38) rfl (Nat.le_of_ble_eq_true rfl) (lit_args _) ?_
  refine WC.seq ?_
  refine WC.region ?_
  refine WL.lv rfl (LV.asg rfl) ?_
  refine WL.nil (thenQ.n ?_)
  refine WC.seq ?_
  refine WC.region ?_
  refine WL.lv rfl (LV.asg rfl) ?_
  refine WL.nil (thenQ.n ?_)
  iterate 2 refine WC.seq ?_
  refine WC.region ?_
  refine WL.lv rfl (LV.asg rfl) ?_
  refine WL.nil (thenQ.n ?_)
  refine WC.block ?_
  refine WC.loop (fun m_ f_ w_ => ∃ (n : Int) (j : Int), (0 ≤ j) ∧ (j ≤ i) ∧ (n = (bsT l known i j.toNat).1) ∧ SH w No w_ [] ∧ m_ = ((i - j).toNat) ∧ Weak (lit [(0, (.slice A_l l.length c_l)), (1, (.int .i64 i)), (2, (.slice A_known known.length c_known)), (7, (.int .i64 n)), (8, (.int .i64 j))]) f_) _ ⟨1, 0, by omega, by omega, rfl, hS, rfl, Weak.cons rfl <| Weak.cons rfl <| Weak.cons rfl <| Weak.cons rfl <| Weak.cons rfl <| Weak.nil _⟩ ?_
  rintro m1 f1 w1 ⟨n, j, jlo, jhi, q1, hL1, rfl, hw1⟩
  refine WC.weak hw1 ?_
  clear hw1
  iterate 2 refine WC.seq ?_
  refine WC.region ?_
  iterate 2 refine WL.lv rfl (LV.mv rfl) ?_
  refine WL.lv rfl (LV.ltI rfl rfl) ?_
  refine WL.nil (thenQ.n ?_)
  refine WC.condP (p := j < i) rfl (fun hk2 => ?_) (fun hk2 => ?_)
  · have hbj := BS_ok (l := l) (i := j) jlo (by omega)
    have hbl := hbj.le
    have hb1 := hbj.one
    rw [← hkg j jlo hk2] at hbl hb1
    refine WC.skip (thenQ.n ?_)
    refine WC.seq ?_
    refine WC.block ?_
    refine WC.seq ?_
    have hS1 := SH.drew hL1
    refine WC.regionD [] (fun w_ => KB No w1.drew w_) [(.pure, 0), (.pure, 1), (.pure, 2), (.look, 3), (.pure, 4), (.pure, 5), (.pure, 6), (.look, 7), (.pure, 8), (.pure, 9), (.pure, 10), (.pure, 11), (.pure, 12), (.look, 13), (.pure, 14), (.pure, 15), (.pure, 16), (.pure, 17)] (by kernel_rfl) (by kernel_rfl) (KB.refl _ _) ?_
    iterate 2 refine WS.pure rfl rfl (fun _ => LV.mv rfl) ?_
    obtain ⟨A1, c1, e1, g1⟩ := St.elt (SH.stN hS1 h_l) 0 j (by omega) (by omega)
    refine WS.pure rfl rfl (fun _ => LV.idxA Try.underlying54 ti3.sz rfl e1 rfl (by omega) (by omega)) ?_
    refine WS.look rfl rfl (fun _ hk_ => LV.load1 (v := (.int .i64 (gI l (j)))) Try.underlying3 rfl rfl (g1 _ hk_ 0 _ rfl)) ?_
    iterate 2 refine WS.pure rfl rfl (fun _ => LV.mv rfl) ?_
    obtain ⟨A2, c2, e2, g2⟩ := St.elt (SH.stN hS1 h_l) 0 i (by omega) (by omega)
    refine WS.pure rfl rfl (fun _ => LV.idxA Try.underlying54 ti3.sz rfl e2 rfl (by omega) (by omega)) ?_
    refine WS.look rfl rfl (fun _ hk_ => LV.load1 (v := (.int .i64 (gI l (i)))) Try.underlying3 rfl rfl (g2 _ hk_ 0 _ rfl)) ?_
    rcases Decidable.em ((gI l (j)) < (gI l (i))) with hg1 | hg1
    · refine WS.pure rfl rfl (fun _ => LV.as (LV.ltI rfl rfl) (decide_eq_true hg1)) ?_
      iterate 3 refine WS.pure rfl rfl (fun _ => LV.mv rfl) ?_
      obtain ⟨A3, c3, e3, g3⟩ := St.elt (SH.stN hS1 h_known) 0 j (by omega) (by omega)
      refine WS.pure rfl rfl (fun _ => LV.idxA Try.underlying54 ti3.sz rfl e3 rfl (by omega) (by omega)) ?_
      refine WS.look rfl rfl (fun _ hk_ => LV.load1 (v := (.int .i64 (gI known (j)))) Try.underlying3 rfl rfl (g3 _ hk_ 0 _ rfl)) ?_
      refine WS.pure rfl rfl (fun _ => LV.add rfl rfl (wr64 (by omega) (by omega))) ?_
      refine WS.pure rfl rfl (fun _ => LV.mv rfl) ?_
      refine WS.pure rfl rfl (fun _ => LV.gtI rfl rfl) ?_
      refine WS.pure rfl rfl (fun _ => LV.pickT rfl rfl) ?_
      refine WS.nil (thenQ.n ?_)
      refine WC.condP (p := ((gI known (j)) + 1) > n) rfl (fun hc31 => ?_) (fun hc31 => ?_)
      · skip
        refine WC.region ?_
        iterate 2 refine WL.lv rfl (LV.mv rfl) ?_
        obtain ⟨A4, c4, e4, g4⟩ := St.elt (SH.stN hS1 h_known) 0 j (by omega) (by omega)
        refine WL.lv rfl (LV.idxA Try.underlying54 ti3.sz rfl e4 rfl (by omega) (by omega)) ?_
        refine WL.lv rfl (LV.load1 (v := (.int .i64 (gI known (j)))) Try.underlying3 rfl rfl (g4 _ (KB.refl No _) 0 _ rfl)) ?_
        refine WL.lv rfl (LV.add rfl rfl (wr64 (by omega) (by omega))) ?_
        refine WL.lv rfl (LV.asg rfl) ?_
        refine WL.nil (blockQ.n <| thenQ.n ?_)
        refine WC.region ?_
        refine WL.lv rfl (LV.mv rfl) ?_
        refine WL.lv rfl (LV.add rfl rfl (wr64 (by omega) (by omega))) ?_
        refine WL.lv rfl (LV.asg rfl) ?_
        refine WL.nil (thenQ.n ?_)
        exact ⟨_, by omega, (gI known (j)) + 1, j + 1, by omega, by omega, (by rw [bsT_snoc jlo, if_pos ⟨by omega, by omega⟩]), hS1, rfl, Weak.cons rfl <| Weak.cons rfl <| Weak.cons rfl <| Weak.cons rfl <| Weak.cons rfl <| Weak.nil _⟩
      · skip
        refine WC.skip (blockQ.n <| thenQ.n ?_)
        refine WC.region ?_
        refine WL.lv rfl (LV.mv rfl) ?_
        refine WL.lv rfl (LV.add rfl rfl (wr64 (by omega) (by omega))) ?_
        refine WL.lv rfl (LV.asg rfl) ?_
        refine WL.nil (thenQ.n ?_)
        exact ⟨_, by omega, n, j + 1, by omega, by omega, (by rw [bsT_snoc jlo, if_neg (fun h_ => by omega)]; exact q1), hS1, rfl, Weak.cons rfl <| Weak.cons rfl <| Weak.cons rfl <| Weak.cons rfl <| Weak.cons rfl <| Weak.nil _⟩
    · refine WS.pure rfl rfl (fun _ => LV.as (LV.ltI rfl rfl) (decide_eq_false hg1)) ?_
      refine WS.pure rfl rfl (fun _ => LV.mv rfl) ?_
      iterate 3 refine WS.off rfl rfl ?_
      refine WS.offL rfl rfl ?_
      iterate 3 refine WS.off rfl rfl ?_
      refine WS.pure rfl rfl (fun _ => LV.pickF rfl rfl) ?_
      refine WS.nil (thenQ.n ?_)
      refine WC.condF rfl ?_
      refine WC.skip (blockQ.n <| thenQ.n ?_)
      refine WC.region ?_
      refine WL.lv rfl (LV.mv rfl) ?_
      refine WL.lv rfl (LV.add rfl rfl (wr64 (by omega) (by omega))) ?_
      refine WL.lv rfl (LV.asg rfl) ?_
      refine WL.nil (thenQ.n ?_)
      exact ⟨_, by omega, n, j + 1, by omega, by omega, (by rw [bsT_snoc jlo, if_neg (fun h_ => by omega)]; exact q1), hS1, rfl, Weak.cons rfl <| Weak.cons rfl <| Weak.cons rfl <| Weak.cons rfl <| Weak.cons rfl <| Weak.nil _⟩
  · skip
    refine WC.exit (thenQ.x <| thenQ.x <| blockQ.hit <| thenQ.n ?_)
    refine WC.seq ?_
    refine WC.region ?_
    refine WL.lv rfl (LV.mv rfl) ?_
    refine WL.lv rfl (LV.asg rfl) ?_
    refine WL.nil (thenQ.n ?_)
    refine WC.ret (?_)
    exact ⟨_, fun a ha => res1 rfl ha rfl, congrArg (Value.int .i64) (by rw [q1, show j = i by omega]; unfold BS; rw [hk]; exact congrArg Prod.fst (bsT_congr fun t h1 h2 => KN_pre (m := i.toNat) (by omega) h1 (by omega))), hL1.kb⟩

set_option maxHeartbeats 1000000 in
theorem rlongest_calls {w : World} {A_l : Option Addr} {n_l c_l : Nat} {l : List Int} (h_l : St No w (Rd eI (.slice A_l n_l c_l) l)) (hn_l : l.length = n_l) (hl : l.length ≤ 1000000) :
    Calls Try.prog 60 #[(.slice A_l n_l c_l)] w fun e w' => ∃ v, e = .returned v ∧ (fun v w' => ∃ (A0' : Option Addr) (c0' : Nat), v = .slice A0' (LNG l).length c0' ∧ SH w No w' [rowE eI 3 (.slice A0' (LNG l).length c0') (LNG l)]) v w' := by
  subst hn_l
  have hS : SH w No w [] := SH.nil _ _
  refine calls (l := litOf [(.slice A_l l.length c_l)] 0) Try.func60 rfl (n := 81) rfl (Nat.le_of_ble_eq_true rfl) (lit_args _) ?_
  refine WC.seq ?_
  refine WC.region ?_
  refine WL.lv rfl (LV.asg rfl) ?_
  refine WL.nil (thenQ.n ?_)
  refine WC.seq ?_
  refine WC.region ?_
  refine WL.xe rfl (XE.buildSlice (E := eI) [] #[] [] hS Try.underlying54 ti3 rfl (by decide) (by kernel_rfl) (.inr rfl) rfl rfl (by decide)) ?_
  rintro _ w1 ⟨b2, rfl, hS1, hk1⟩
  refine WL.lv rfl (LV.asg rfl) ?_
  refine WL.nil (thenQ.n ?_)
  refine WC.seq ?_
  refine WC.region ?_
  refine WL.lv rfl (LV.asg rfl) ?_
  refine WL.nil (thenQ.n ?_)
  iterate 2 refine WC.seq ?_
  refine WC.region ?_
  refine WL.lv rfl (LV.asg rfl) ?_
  refine WL.nil (thenQ.n ?_)
  refine WC.block ?_
  refine WC.loop (fun m_ f_ w_ => ∃ (A_known : Option Addr) (c_known : Nat) (known : List Int) (top : Int) (i : Int), (0 ≤ i) ∧ (i ≤ (l.length : Int)) ∧ (known = kns l i.toNat) ∧ (top = topT l i.toNat) ∧ ((known.length : Int) = i) ∧ (0 ≤ top ∧ top ≤ i) ∧ SH w No w_ [rowE eI 3 (.slice A_known known.length c_known) known] ∧ m_ = (((l.length : Int) - i).toNat) ∧ Weak (lit [(0, (.slice A_l l.length c_l)), (3, (.slice A_known known.length c_known)), (4, (.int .i64 top)), (5, (.int .i64 i))]) f_) _ ⟨(some ⟨b2, 0, none⟩), 0, [], 0, 0, by omega, by omega, rfl, rfl, rfl, by omega, hS1, rfl, Weak.cons rfl <| Weak.cons rfl <| Weak.cons rfl <| Weak.cons rfl <| Weak.nil _⟩ ?_
  rintro m1 f1 w2 ⟨A_known, c_known, known, top, i, ilo, ihi, q1, q2, q3, q4, hL1, rfl, hw1⟩
  refine WC.weak hw1 ?_
  clear hw1
  iterate 2 refine WC.seq ?_
  refine WC.region ?_
  iterate 2 refine WL.lv rfl (LV.mv rfl) ?_
  refine WL.lv rfl (LV.lenL Try.underlying54 rfl) ?_
  refine WL.lv rfl (LV.ltI rfl rfl) ?_
  refine WL.nil (thenQ.n ?_)
  refine WC.condP (p := i < (l.length : Int)) rfl (fun hk => ?_) (fun hk => ?_)
  · skip
    refine WC.skip (thenQ.n ?_)
    refine WC.seq ?_
    refine WC.block ?_
    refine WC.seq ?_
    refine WC.region ?_
    iterate 4 refine WL.lv rfl (LV.mv rfl) ?_
    refine WL.call rfl (XC.fn Try.func68 (by kernel_rfl) rfl rfl rfl) (rlong_calls (i := i) (SH.stN hL1 h_l) rfl (SH.rd hL1 (.head _)) rfl (by omega) (by omega) (by omega) (by assumption)) ?_
    rintro v_ w3 ⟨rfl, hk2⟩
    have hS2 := SH.same hL1 hk2
    refine WL.xe rfl (XE.buildSlice (E := eI) [(0, (.int .i64 ((BS l i).1)))] #[(.int .i64 ((BS l i).1))] [(BS l i).1] hS2 Try.underlying54 ti3 rfl (by decide) (by kernel_rfl) (.inr rfl) rfl rfl (by decide)) ?_
    rintro _ w4 ⟨b3, rfl, hS3, hk3⟩
    have hS4 : SH w No w4 [rowE eI 3 (.slice A_known known.length c_known) known, rowE eI 3 (.slice (some ⟨b3, 0, none⟩) 1 1) [(BS l i).1]] := (SH.front [rowE eI 3 (.slice (some ⟨b3, 0, none⟩) 1 1) [(BS l i).1]] hS3)
    refine WL.xe rfl (XE.append hS4 Try.underlying54 ti3 rfl (St.now (SH.rd hS4 (.tail _ (.head _)))) rfl rfl (by first | omega | simp only [List.length_append, List.length_cons, List.length_nil, List.length_take, List.length_reverse, List.length_drop] at *; omega) (by first | omega | simp only [List.length_append, List.length_cons, List.length_nil, List.length_take, List.length_reverse, List.length_drop] at *; omega)) ?_
    rintro _ w5 ⟨A1, c1, rfl, hS5, hk4⟩
    refine WL.lv rfl (LV.asg rfl) ?_
    refine WL.nil (thenQ.n ?_)
    refine WC.seq ?_
    refine WC.region ?_
    iterate 2 refine WL.lv rfl (LV.mv rfl) ?_
    obtain ⟨A2, c2, e1, g1⟩ := St.elt (SH.rd hS5 (.head _)) 0 i (by omega) (by simp; omega)
    refine WL.lv rfl (LV.idxA Try.underlying54 ti3.sz rfl e1 rfl (by omega) (by simp; omega)) ?_
    refine WL.lv rfl (LV.load1 (v := (.int .i64 (gI (known ++ [(BS l i).1]) (i)))) Try.underlying3 rfl rfl (g1 _ (KB.refl No _) 0 _ rfl)) ?_
    refine WL.lv rfl (LV.mv rfl) ?_
    refine WL.lv rfl (LV.gtI rfl rfl) ?_
    refine WL.nil (thenQ.n ?_)
    refine WC.condP (p := (gI (known ++ [(BS l i).1]) (i)) > top) rfl (fun hc28 => ?_) (fun hc28 => ?_)
    · skip
      refine WC.region ?_
      iterate 2 refine WL.lv rfl (LV.mv rfl) ?_
      obtain ⟨A3, c3, e2, g2⟩ := St.elt (SH.rd hS5 (.head _)) 0 i (by omega) (by simp; omega)
      refine WL.lv rfl (LV.idxA Try.underlying54 ti3.sz rfl e2 rfl (by omega) (by simp; omega)) ?_
      refine WL.lv rfl (LV.load1 (v := (.int .i64 (gI (known ++ [(BS l i).1]) (i)))) Try.underlying3 rfl rfl (g2 _ (KB.refl No _) 0 _ rfl)) ?_
      refine WL.lv rfl (LV.asg rfl) ?_
      refine WL.nil (blockQ.n <| thenQ.n ?_)
      refine WC.region ?_
      refine WL.lv rfl (LV.mv rfl) ?_
      refine WL.lv rfl (LV.add rfl rfl (wr64 (by omega) (by omega))) ?_
      refine WL.lv rfl (LV.asg rfl) ?_
      refine WL.nil (thenQ.n ?_)
      have hS6 : SH w No w5 [rowE eI 3 (.slice A1 ((known ++ [(BS l i).1]).length) c1) (known ++ [(BS l i).1])] := (SH.take 1 rfl hS5)
      exact ⟨_, by omega, A1, c1, (known ++ [(BS l i).1]), gI (known ++ [(BS l i).1]) (i), i + 1, by omega, by omega, (kns_snoc ilo (by omega) q1), (Eq.trans (if_pos (by omega)).symm (top_step ilo (by omega) (kns_snoc ilo (by omega) q1) q2)), (by simp; omega), (by have h_ := top_bd (l := l) (i := i + 1) (by omega) (by omega); have h2_ := top_step ilo (by omega) (kns_snoc ilo (by omega) q1) q2; omega), hS6, rfl, Weak.cons rfl <| Weak.cons rfl <| Weak.cons rfl <| Weak.cons rfl <| Weak.nil _⟩
    · skip
      refine WC.skip (blockQ.n <| thenQ.n ?_)
      refine WC.region ?_
      refine WL.lv rfl (LV.mv rfl) ?_
      refine WL.lv rfl (LV.add rfl rfl (wr64 (by omega) (by omega))) ?_
      refine WL.lv rfl (LV.asg rfl) ?_
      refine WL.nil (thenQ.n ?_)
      have hS7 : SH w No w5 [rowE eI 3 (.slice A1 ((known ++ [(BS l i).1]).length) c1) (known ++ [(BS l i).1])] := (SH.take 1 rfl hS5)
      exact ⟨_, by omega, A1, c1, (known ++ [(BS l i).1]), top, i + 1, by omega, by omega, (kns_snoc ilo (by omega) q1), (Eq.trans (if_neg (by omega)).symm (top_step ilo (by omega) (kns_snoc ilo (by omega) q1) q2)), (by simp; omega), (by have h_ := top_bd (l := l) (i := i + 1) (by omega) (by omega); have h2_ := top_step ilo (by omega) (kns_snoc ilo (by omega) q1) q2; omega), hS7, rfl, Weak.cons rfl <| Weak.cons rfl <| Weak.cons rfl <| Weak.cons rfl <| Weak.nil _⟩
  · skip
    refine WC.exit (thenQ.x <| thenQ.x <| blockQ.hit <| thenQ.n ?_)
    refine WC.seq ?_
    refine WC.region ?_
    refine WL.xe rfl (XE.buildSlice (E := eI) [] #[] [] hL1 Try.underlying54 ti3 rfl (by decide) (by kernel_rfl) (.inr rfl) rfl rfl (by decide)) ?_
    rintro _ w6 ⟨b4, rfl, hS8, hk5⟩
    refine WL.lv rfl (LV.asg rfl) ?_
    refine WL.nil (thenQ.n ?_)
    iterate 2 refine WC.seq ?_
    refine WC.region ?_
    refine WL.lv rfl (LV.mv rfl) ?_
    refine WL.lv rfl (LV.asg rfl) ?_
    refine WL.nil (thenQ.n ?_)
    refine WC.block ?_
    refine WC.loop (fun m_ f_ w_ => ∃ (A_out : Option Addr) (c_out : Nat) (out : List Int) (n : Int), (Bck l out n) ∧ (0 ≤ n) ∧ (n ≤ l.length) ∧ SH w No w_ [rowE eI 3 (.slice A_out out.length c_out) out, rowE eI 3 (.slice A_known known.length c_known) known] ∧ m_ = n.toNat ∧ Weak (lit [(0, (.slice A_l l.length c_l)), (3, (.slice A_known known.length c_known)), (6, (.slice A_out out.length c_out)), (7, (.int .i64 n))]) f_) _ ⟨(some ⟨b4, 0, none⟩), 0, [], top, (by rw [q2, show i.toNat = l.length by omega]; exact Bck.z), by omega, by omega, hS8, rfl, Weak.cons rfl <| Weak.cons rfl <| Weak.cons rfl <| Weak.cons rfl <| Weak.nil _⟩ ?_
    rintro m2 f2 w7 ⟨A_out, c_out, out, n, b1, n0, n1, hL2, rfl, hw2⟩
    refine WC.weak hw2 ?_
    clear hw2
    iterate 2 refine WC.seq ?_
    refine WC.region ?_
    refine WL.lv rfl (LV.mv rfl) ?_
    refine WL.lv rfl (LV.gtI rfl rfl) ?_
    refine WL.nil (thenQ.n ?_)
    refine WC.condP (p := n > 0) rfl (fun hn => ?_) (fun hn => ?_)
    · have hkn : known = KN l := by rw [q1, show i.toNat = l.length by omega]; rfl
      have hne_ := b1.ne'
      have hol_ := b1.len
      refine WC.skip (thenQ.n ?_)
      refine WC.seq ?_
      refine WC.block ?_
      refine WC.seq ?_
      refine WC.region ?_
      refine WL.lv rfl (LV.asg rfl) ?_
      refine WL.nil (thenQ.n ?_)
      refine WC.block ?_
      refine WC.loop (fun m_ f_ w_ => ∃ (i2 : Int), (0 ≤ i2) ∧ (i2 ≤ (l.length : Int)) ∧ (∀ t : Int, 0 ≤ t → t < i2 → ¬ (gI known t = n ∧ ((out.length : Int) = 0 ∨ t < gI out 0 ∧ gI l t < gI l (gI out 0)))) ∧ SH w No w_ [rowE eI 3 (.slice A_out out.length c_out) out, rowE eI 3 (.slice A_known known.length c_known) known] ∧ m_ = (((l.length : Int) - i2).toNat) ∧ Weak (lit [(0, (.slice A_l l.length c_l)), (3, (.slice A_known known.length c_known)), (6, (.slice A_out out.length c_out)), (7, (.int .i64 n)), (8, (.int .i64 i2))]) f_) _ ⟨0, by omega, by omega, (fun t h1 h2 => by omega), hL2, rfl, Weak.cons rfl <| Weak.cons rfl <| Weak.cons rfl <| Weak.cons rfl <| Weak.cons rfl <| Weak.nil _⟩ ?_
      rintro m3 f3 w8 ⟨i2, i2lo, i2hi, s1, hL3, rfl, hw3⟩
      refine WC.weak hw3 ?_
      clear hw3
      iterate 2 refine WC.seq ?_
      refine WC.region ?_
      iterate 2 refine WL.lv rfl (LV.mv rfl) ?_
      refine WL.lv rfl (LV.lenL Try.underlying54 rfl) ?_
      refine WL.lv rfl (LV.ltI rfl rfl) ?_
      refine WL.nil (thenQ.n ?_)
      refine WC.condP (p := i2 < (l.length : Int)) rfl (fun hk2 => ?_) (fun hk2 => ?_)
      · skip
        refine WC.skip (thenQ.n ?_)
        refine WC.seq ?_
        refine WC.block ?_
        refine WC.seq ?_
        have hS9 := SH.drew hL3
        refine WC.regionD [] (fun w_ => KB No w8.drew w_) [(.pure, 0), (.pure, 1), (.pure, 2), (.look, 3), (.pure, 4), (.pure, 5), (.pure, 6), (.pure, 7), (.pure, 8), (.pure, 9), (.pure, 10), (.pure, 11), (.pure, 12), (.pure, 13), (.look, 14), (.pure, 15), (.pure, 16), (.pure, 17), (.pure, 18), (.pure, 19), (.look, 20), (.pure, 21), (.pure, 22), (.pure, 23), (.look, 24), (.pure, 25), (.look, 26), (.pure, 27), (.pure, 28), (.pure, 29), (.pure, 30)] (by kernel_rfl) (by kernel_rfl) (KB.refl _ _) ?_
        iterate 2 refine WS.pure rfl rfl (fun _ => LV.mv rfl) ?_
        obtain ⟨A4, c4, e3, g3⟩ := St.elt (SH.rd hS9 (.tail _ (.head _))) 0 i2 (by omega) (by omega)
        refine WS.pure rfl rfl (fun _ => LV.idxA Try.underlying54 ti3.sz rfl e3 rfl (by omega) (by omega)) ?_
        refine WS.look rfl rfl (fun _ hk_ => LV.load1 (v := (.int .i64 (gI known (i2)))) Try.underlying3 rfl rfl (g3 _ hk_ 0 _ rfl)) ?_
        refine WS.pure rfl rfl (fun _ => LV.mv rfl) ?_
        rcases Decidable.em ((gI known (i2)) = n) with hg1 | hg1
        · refine WS.pure rfl rfl (fun _ => LV.as (LV.eqI rfl rfl) (decide_eq_true hg1)) ?_
          iterate 2 refine WS.pure rfl rfl (fun _ => LV.mv rfl) ?_
          refine WS.pure rfl rfl (fun _ => LV.lenL Try.underlying54 rfl) ?_
          rcases Decidable.em ((out.length : Int) = 0) with hg2 | hg2
          · refine WS.pure rfl rfl (fun _ => LV.as (LV.eqI rfl rfl) (decide_eq_true hg2)) ?_
            refine WS.pure rfl rfl (fun _ => LV.mv rfl) ?_
            iterate 3 refine WS.off rfl rfl ?_
            refine WS.offL rfl rfl ?_
            iterate 5 refine WS.off rfl rfl ?_
            refine WS.offL rfl rfl ?_
            iterate 3 refine WS.off rfl rfl ?_
            refine WS.offL rfl rfl ?_
            refine WS.off rfl rfl ?_
            refine WS.offL rfl rfl ?_
            iterate 2 refine WS.off rfl rfl ?_
            iterate 2 refine WS.pure rfl rfl (fun _ => LV.pickT rfl rfl) ?_
            refine WS.nil (thenQ.n ?_)
            refine WC.condT rfl ?_
            refine WC.seq ?_
            refine WC.region ?_
            refine WL.lv rfl (LV.mv rfl) ?_
            refine WL.xe rfl (XE.buildSlice (E := eI) [(0, (.int .i64 i2))] #[(.int .i64 i2)] [i2] hS9 Try.underlying54 ti3 rfl (by decide) (by kernel_rfl) (.inr rfl) rfl rfl (by decide)) ?_
            rintro _ w9 ⟨b5, rfl, hS10, hk6⟩
            refine WL.lv rfl (LV.mv rfl) ?_
            refine WL.xe rfl (XE.append hS10 Try.underlying54 ti3 rfl (St.now (SH.rd hS10 (.tail _ (.head _)))) rfl rfl (by first | omega | simp only [List.length_append, List.length_cons, List.length_nil, List.length_take, List.length_reverse, List.length_drop] at *; omega) (by first | omega | simp only [List.length_append, List.length_cons, List.length_nil, List.length_take, List.length_reverse, List.length_drop] at *; omega)) ?_
            rintro _ w10 ⟨A5, c5, rfl, hS11, hk7⟩
            refine WL.lv rfl (LV.asg rfl) ?_
            refine WL.nil (thenQ.n ?_)
            refine WC.exit (blockQ.miss rfl <| thenQ.x <| thenQ.x <| blockQ.hit <| blockQ.n <| thenQ.n ?_)
            refine WC.region ?_
            refine WL.lv rfl (LV.mv rfl) ?_
            refine WL.lv rfl (LV.sub rfl rfl (wr64 (by omega) (by omega))) ?_
            refine WL.lv rfl (LV.asg rfl) ?_
            refine WL.nil (thenQ.n ?_)
            have hS12 : SH w No w10 [rowE eI 3 (.slice A5 (([i2] ++ out).length) c5) ([i2] ++ out), rowE eI 3 (.slice A_known known.length c_known) known] := (SH.take 2 rfl (SH.front [rowE eI 3 (.slice A_known known.length c_known) known] (SH.front [rowE eI 3 (.slice A5 (([i2] ++ out).length) c5) ([i2] ++ out), rowE eI 3 (.slice A_out out.length c_out) out] hS11)))
            exact ⟨_, by omega, A5, c5, ([i2] ++ out), n - 1, (Bck.step b1 (by omega) (Bck.found b1 (by omega) hkn i2lo (by omega) s1 (by omega))), by omega, by omega, hS12, rfl, Weak.cons rfl <| Weak.cons rfl <| Weak.cons rfl <| Weak.cons rfl <| Weak.nil _⟩
          · refine WS.pure rfl rfl (fun _ => LV.as (LV.eqI rfl rfl) (decide_eq_false hg2)) ?_
            iterate 3 refine WS.pure rfl rfl (fun _ => LV.mv rfl) ?_
            obtain ⟨A6, c6, e4, g4⟩ := St.elt (SH.rd hS9 (.head _)) 0 (0 : Int) (by omega) (by omega)
            refine WS.pure rfl rfl (fun _ => LV.idxA Try.underlying54 ti3.sz rfl e4 rfl (by omega) (by omega)) ?_
            refine WS.look rfl rfl (fun _ hk_ => LV.load1 (v := (.int .i64 (gI out ((0 : Int))))) Try.underlying3 rfl rfl (g4 _ hk_ 0 _ rfl)) ?_
            rcases Decidable.em (i2 < (gI out ((0 : Int)))) with hg3 | hg3
            · refine WS.pure rfl rfl (fun _ => LV.as (LV.ltI rfl rfl) (decide_eq_true hg3)) ?_
              iterate 3 refine WS.pure rfl rfl (fun _ => LV.mv rfl) ?_
              obtain ⟨A7, c7, e5, g5⟩ := St.elt (SH.stN hS9 h_l) 0 i2 (by omega) (by omega)
              refine WS.pure rfl rfl (fun _ => LV.idxA Try.underlying54 ti3.sz rfl e5 rfl (by omega) (by omega)) ?_
              refine WS.look rfl rfl (fun _ hk_ => LV.load1 (v := (.int .i64 (gI l (i2)))) Try.underlying3 rfl rfl (g5 _ hk_ 0 _ rfl)) ?_
              iterate 2 refine WS.pure rfl rfl (fun _ => LV.mv rfl) ?_
              obtain ⟨A8, c8, e6, g6⟩ := St.elt (SH.rd hS9 (.head _)) 0 (0 : Int) (by omega) (by omega)
              refine WS.pure rfl rfl (fun _ => LV.idxA Try.underlying54 ti3.sz rfl e6 rfl (by omega) (by omega)) ?_
              refine WS.look rfl rfl (fun _ hk_ => LV.load1 (v := (.int .i64 (gI out ((0 : Int))))) Try.underlying3 rfl rfl (g6 _ hk_ 0 _ rfl)) ?_
              obtain ⟨A9, c9, e7, g7⟩ := St.elt (SH.stN hS9 h_l) 0 (gI out ((0 : Int))) (by omega) (by omega)
              refine WS.pure rfl rfl (fun _ => LV.idxA Try.underlying54 ti3.sz rfl e7 rfl (by omega) (by omega)) ?_
              refine WS.look rfl rfl (fun _ hk_ => LV.load1 (v := (.int .i64 (gI l (gI out ((0 : Int)))))) Try.underlying3 rfl rfl (g7 _ hk_ 0 _ rfl)) ?_
              refine WS.pure rfl rfl (fun _ => LV.ltI rfl rfl) ?_
              refine WS.pure rfl rfl (fun _ => LV.pickT rfl rfl) ?_
              refine WS.pure rfl rfl (fun _ => LV.pickF rfl rfl) ?_
              refine WS.pure rfl rfl (fun _ => LV.pickT rfl rfl) ?_
              refine WS.nil (thenQ.n ?_)
              refine WC.condP (p := (gI l (i2)) < (gI l (gI out ((0 : Int))))) rfl (fun hc75 => ?_) (fun hc75 => ?_)
              · skip
                refine WC.seq ?_
                refine WC.region ?_
                refine WL.lv rfl (LV.mv rfl) ?_
                refine WL.xe rfl (XE.buildSlice (E := eI) [(0, (.int .i64 i2))] #[(.int .i64 i2)] [i2] hS9 Try.underlying54 ti3 rfl (by decide) (by kernel_rfl) (.inr rfl) rfl rfl (by decide)) ?_
                rintro _ w11 ⟨b6, rfl, hS13, hk8⟩
                refine WL.lv rfl (LV.mv rfl) ?_
                refine WL.xe rfl (XE.append hS13 Try.underlying54 ti3 rfl (St.now (SH.rd hS13 (.tail _ (.head _)))) rfl rfl (by first | omega | simp only [List.length_append, List.length_cons, List.length_nil, List.length_take, List.length_reverse, List.length_drop] at *; omega) (by first | omega | simp only [List.length_append, List.length_cons, List.length_nil, List.length_take, List.length_reverse, List.length_drop] at *; omega)) ?_
                rintro _ w12 ⟨A10, c10, rfl, hS14, hk9⟩
                refine WL.lv rfl (LV.asg rfl) ?_
                refine WL.nil (thenQ.n ?_)
                refine WC.exit (blockQ.miss rfl <| thenQ.x <| thenQ.x <| blockQ.hit <| blockQ.n <| thenQ.n ?_)
                refine WC.region ?_
                refine WL.lv rfl (LV.mv rfl) ?_
                refine WL.lv rfl (LV.sub rfl rfl (wr64 (by omega) (by omega))) ?_
                refine WL.lv rfl (LV.asg rfl) ?_
                refine WL.nil (thenQ.n ?_)
                have hS15 : SH w No w12 [rowE eI 3 (.slice A10 (([i2] ++ out).length) c10) ([i2] ++ out), rowE eI 3 (.slice A_known known.length c_known) known] := (SH.take 2 rfl (SH.front [rowE eI 3 (.slice A_known known.length c_known) known] (SH.front [rowE eI 3 (.slice A10 (([i2] ++ out).length) c10) ([i2] ++ out), rowE eI 3 (.slice A_out out.length c_out) out] hS14)))
                exact ⟨_, by omega, A10, c10, ([i2] ++ out), n - 1, (Bck.step b1 (by omega) (Bck.found b1 (by omega) hkn i2lo (by omega) s1 (by omega))), by omega, by omega, hS15, rfl, Weak.cons rfl <| Weak.cons rfl <| Weak.cons rfl <| Weak.cons rfl <| Weak.nil _⟩
              · skip
                refine WC.skip (blockQ.n <| thenQ.n ?_)
                refine WC.region ?_
                refine WL.lv rfl (LV.mv rfl) ?_
                refine WL.lv rfl (LV.add rfl rfl (wr64 (by omega) (by omega))) ?_
                refine WL.lv rfl (LV.asg rfl) ?_
                refine WL.nil (thenQ.n ?_)
                exact ⟨_, by omega, i2 + 1, by omega, by omega, (all_step (p := fun t => ¬ (gI known t = n ∧ ((out.length : Int) = 0 ∨ t < gI out 0 ∧ gI l t < gI l (gI out 0)))) s1 (fun h_ => by omega)), hS9, rfl, Weak.cons rfl <| Weak.cons rfl <| Weak.cons rfl <| Weak.cons rfl <| Weak.cons rfl <| Weak.nil _⟩
            · refine WS.pure rfl rfl (fun _ => LV.as (LV.ltI rfl rfl) (decide_eq_false hg3)) ?_
              refine WS.pure rfl rfl (fun _ => LV.mv rfl) ?_
              iterate 3 refine WS.off rfl rfl ?_
              refine WS.offL rfl rfl ?_
              iterate 3 refine WS.off rfl rfl ?_
              refine WS.offL rfl rfl ?_
              refine WS.off rfl rfl ?_
              refine WS.offL rfl rfl ?_
              refine WS.off rfl rfl ?_
              iterate 2 refine WS.pure rfl rfl (fun _ => LV.pickF rfl rfl) ?_
              refine WS.pure rfl rfl (fun _ => LV.pickT rfl rfl) ?_
              refine WS.nil (thenQ.n ?_)
              refine WC.condF rfl ?_
              refine WC.skip (blockQ.n <| thenQ.n ?_)
              refine WC.region ?_
              refine WL.lv rfl (LV.mv rfl) ?_
              refine WL.lv rfl (LV.add rfl rfl (wr64 (by omega) (by omega))) ?_
              refine WL.lv rfl (LV.asg rfl) ?_
              refine WL.nil (thenQ.n ?_)
              exact ⟨_, by omega, i2 + 1, by omega, by omega, (all_step (p := fun t => ¬ (gI known t = n ∧ ((out.length : Int) = 0 ∨ t < gI out 0 ∧ gI l t < gI l (gI out 0)))) s1 (fun h_ => by omega)), hS9, rfl, Weak.cons rfl <| Weak.cons rfl <| Weak.cons rfl <| Weak.cons rfl <| Weak.cons rfl <| Weak.nil _⟩
        · refine WS.pure rfl rfl (fun _ => LV.as (LV.eqI rfl rfl) (decide_eq_false hg1)) ?_
          refine WS.pure rfl rfl (fun _ => LV.mv rfl) ?_
          iterate 7 refine WS.off rfl rfl ?_
          refine WS.offL rfl rfl ?_
          iterate 5 refine WS.off rfl rfl ?_
          refine WS.offL rfl rfl ?_
          iterate 3 refine WS.off rfl rfl ?_
          refine WS.offL rfl rfl ?_
          refine WS.off rfl rfl ?_
          refine WS.offL rfl rfl ?_
          iterate 3 refine WS.off rfl rfl ?_
          refine WS.pure rfl rfl (fun _ => LV.pickF rfl rfl) ?_
          refine WS.nil (thenQ.n ?_)
          refine WC.condF rfl ?_
          refine WC.skip (blockQ.n <| thenQ.n ?_)
          refine WC.region ?_
          refine WL.lv rfl (LV.mv rfl) ?_
          refine WL.lv rfl (LV.add rfl rfl (wr64 (by omega) (by omega))) ?_
          refine WL.lv rfl (LV.asg rfl) ?_
          refine WL.nil (thenQ.n ?_)
          exact ⟨_, by omega, i2 + 1, by omega, by omega, (all_step (p := fun t => ¬ (gI known t = n ∧ ((out.length : Int) = 0 ∨ t < gI out 0 ∧ gI l t < gI l (gI out 0)))) s1 (fun h_ => by omega)), hS9, rfl, Weak.cons rfl <| Weak.cons rfl <| Weak.cons rfl <| Weak.cons rfl <| Weak.cons rfl <| Weak.nil _⟩
      · skip
        refine WC.exit (thenQ.x <| thenQ.x <| blockQ.hit <| blockQ.n <| thenQ.n ?_)
        refine WC.region ?_
        refine WL.lv rfl (LV.mv rfl) ?_
        refine WL.lv rfl (LV.sub rfl rfl (wr64 (by omega) (by omega))) ?_
        refine WL.lv rfl (LV.asg rfl) ?_
        refine WL.nil (thenQ.n ?_)
        exact ⟨_, by omega, A_out, c_out, out, n - 1, ((Bck.none b1 (by omega) hkn (fun t h1 h2 => s1 t h1 (by omega))).elim), by omega, by omega, hL3, rfl, Weak.cons rfl <| Weak.cons rfl <| Weak.cons rfl <| Weak.cons rfl <| Weak.nil _⟩
    · skip
      refine WC.exit (thenQ.x <| thenQ.x <| blockQ.hit <| thenQ.n ?_)
      refine WC.seq ?_
      refine WC.region ?_
      refine WL.lv rfl (LV.mv rfl) ?_
      refine WL.lv rfl (LV.asg rfl) ?_
      refine WL.nil (thenQ.n ?_)
      refine WC.ret (?_)
      have hS16 : SH w No w7 [rowE eI 3 (.slice A_out out.length c_out) out] := (SH.take 1 rfl hL2)
      have hres1 : (out : List Int) = LNG l := Bck.fin b1 (by omega)
      exact ⟨_, fun a ha => res1 rfl ha rfl, (by rw [← hres1]; exact ⟨_, _, rfl, hS16⟩)⟩

end Go.Proofs.Ytjjilkibcomfcaa
