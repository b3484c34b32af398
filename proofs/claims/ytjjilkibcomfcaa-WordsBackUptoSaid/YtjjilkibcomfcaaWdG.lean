/- The document's edits. -/
import Derived.Test.YtjjilkibcomfcaaWdF
namespace Go.Proofs.Ytjjilkibcomfcaa
open Go Go.Gv Go.RowKit Go.Mys Go.Pat Go.Wds
set_option linter.unusedVariables false
set_option linter.unusedSimpArgs false

theorem rnumbers_calls {w : World} {S : Nat → Prop} {A : Option Addr} {c : Nat} {kn : List ByteArray} {A_l : Option Addr} {n_l c_l : Nat} {l : List ByteArray} (h_l : St S w (Rd eS (.slice A_l n_l c_l) l)) (hn_l : l.length = n_l) (hS0 : SH w S w [rowE eS 9 (.slice A kn.length c) kn]) (hl : l.length ≤ 100000) (hk0 : kn.length ≤ 100000) :
    Calls Try.prog 31 #[(.slice A kn.length c), (.slice A_l n_l c_l)] w fun e w' => ∃ v, e = .returned v ∧ (fun v w' => ∃ (A' : Option Addr) (c' : Nat) (A'' : Option Addr) (c'' : Nat), v = .tuple #[.slice A' (nnumL kn l).length c', .slice A'' (nkvL kn l).length c''] ∧ SH w S w' [rowE eI 3 (.slice A' (nnumL kn l).length c') (nnumL kn l), rowE eS 9 (.slice A'' (nkvL kn l).length c'') (nkvL kn l)]) v w' := by
  subst hn_l
  have hS : SH w S w [rowE eS 9 (.slice A kn.length c) kn] := hS0
  refine calls (l := litOf [(.slice A kn.length c), (.slice A_l l.length c_l)] 0) Try.func31 rfl (n := 50) rfl (Nat.le_of_ble_eq_true rfl) (lit_args _) ?_
  refine WC.seq ?_
  refine WC.region ?_
  iterate 2 refine WL.lv rfl (LV.asg rfl) ?_
  refine WL.nil (thenQ.n ?_)
  refine WC.seq ?_
  refine WC.region ?_
  refine WL.xe rfl (XE.buildSlice (E := eI) [] #[] [] hS Try.underlying54 ti3 rfl (by decide) (by kernel_rfl) (.inr rfl) rfl rfl (by decide)) ?_
  rintro _ w1 ⟨b1, rfl, hS1, hk1⟩
  refine WL.lv rfl (LV.asg rfl) ?_
  refine WL.nil (thenQ.n ?_)
  iterate 2 refine WC.seq ?_
  refine WC.region ?_
  refine WL.lv rfl (LV.asg rfl) ?_
  refine WL.nil (thenQ.n ?_)
  refine WC.block ?_
  refine WC.loop (fun m_ f_ w_ => ∃ (A_known : Option Addr) (c_known : Nat) (known : List ByteArray) (A_out : Option Addr) (c_out : Nat) (out : List Int) (i : Int), (0 ≤ i) ∧ (i ≤ (l.length : Int)) ∧ (known = nkvL kn (l.take i.toNat)) ∧ (out = nnumL kn (l.take i.toNat)) ∧ ((out.length : Int) = i) ∧ ((known.length : Int) ≤ kn.length + i) ∧ SH w S w_ [rowE eI 3 (.slice A_out out.length c_out) out, rowE eS 9 (.slice A_known known.length c_known) known] ∧ m_ = (((l.length : Int) - i).toNat) ∧ Weak (lit [(0, (.slice A_known known.length c_known)), (1, (.slice A_l l.length c_l)), (6, (.slice A_out out.length c_out)), (7, (.int .i64 i))]) f_) _ ⟨A, c, kn, (some ⟨b1, 0, none⟩), 0, [], 0, by omega, by omega, rfl, rfl, rfl, by omega, hS1, rfl, Weak.cons rfl <| Weak.cons rfl <| Weak.cons rfl <| Weak.cons rfl <| Weak.nil _⟩ ?_
  rintro m1 f1 w2 ⟨A_known, c_known, known, A_out, c_out, out, i, ilo, ihi, q1, q2, q3, q4, hL1, rfl, hw1⟩
  refine WC.weak hw1 ?_
  clear hw1
  iterate 2 refine WC.seq ?_
  refine WC.region ?_
  iterate 2 refine WL.lv rfl (LV.mv rfl) ?_
  refine WL.lv rfl (LV.lenL Try.underlying22 rfl) ?_
  refine WL.lv rfl (LV.ltI rfl rfl) ?_
  refine WL.nil (thenQ.n ?_)
  refine WC.condP (p := i < (l.length : Int)) rfl (fun hk => ?_) (fun hk => ?_)
  · skip
    refine WC.skip (thenQ.n ?_)
    refine WC.seq ?_
    refine WC.block ?_
    refine WC.seq ?_
    refine WC.region ?_
    refine WL.lv rfl (LV.asg rfl) ?_
    refine WL.nil (thenQ.n ?_)
    refine WC.seq ?_
    refine WC.block ?_
    refine WC.loop (fun m_ f_ w_ => ∃ (n : Int), (0 ≤ n) ∧ (n ≤ (known.length : Int)) ∧ (∀ t : Int, 0 ≤ t → t < n → ¬ known.getD t.toNat ByteArray.empty = l.getD i.toNat ByteArray.empty) ∧ SH w S w_ [rowE eI 3 (.slice A_out out.length c_out) out, rowE eS 9 (.slice A_known known.length c_known) known] ∧ m_ = (((known.length : Int) - n).toNat) ∧ Weak (lit [(0, (.slice A_known known.length c_known)), (1, (.slice A_l l.length c_l)), (6, (.slice A_out out.length c_out)), (7, (.int .i64 i)), (8, (.int .i64 n))]) f_) _ ⟨0, by omega, by omega, (fun t h1 h2 => by omega), hL1, rfl, Weak.cons rfl <| Weak.cons rfl <| Weak.cons rfl <| Weak.cons rfl <| Weak.cons rfl <| Weak.nil _⟩ ?_
    rintro m2 f2 w3 ⟨n, nlo, nhi, n1, hL2, rfl, hw2⟩
    refine WC.weak hw2 ?_
    clear hw2
    iterate 2 refine WC.seq ?_
    have hS2 := SH.drew hL2
    refine WC.regionD [] (fun w_ => KB No w3.drew w_) [(.pure, 0), (.pure, 1), (.pure, 2), (.pure, 3), (.pure, 4), (.pure, 5), (.pure, 6), (.pure, 7), (.look, 8), (.pure, 9), (.pure, 10), (.pure, 11), (.look, 12), (.pure, 13), (.pure, 14)] (by kernel_rfl) (by kernel_rfl) (KB.refl _ _) ?_
    iterate 2 refine WS.pure rfl rfl (fun _ => LV.mv rfl) ?_
    refine WS.pure rfl rfl (fun _ => LV.lenL Try.underlying22 rfl) ?_
    rcases Decidable.em (n < (known.length : Int)) with hg1 | hg1
    · refine WS.pure rfl rfl (fun _ => LV.as (LV.ltI rfl rfl) (decide_eq_true hg1)) ?_
      iterate 3 refine WS.pure rfl rfl (fun _ => LV.mv rfl) ?_
      obtain ⟨A1, c1, e1, g1⟩ := St.elt (SH.rd hS2 (.tail _ (.head _))) ByteArray.empty n (by omega) (by omega)
      refine WS.pure rfl rfl (fun _ => LV.idxA Try.underlying22 ti9.sz rfl e1 rfl (by omega) (by omega)) ?_
      refine WS.look rfl rfl (fun _ hk_ => LV.load1 (v := (.string (known.getD (n).toNat ByteArray.empty))) Try.underlying9 rfl rfl (g1 _ hk_ 0 _ rfl)) ?_
      iterate 2 refine WS.pure rfl rfl (fun _ => LV.mv rfl) ?_
      obtain ⟨A2, c2, e2, g2⟩ := St.elt (SH.stN hS2 h_l) ByteArray.empty i (by omega) (by omega)
      refine WS.pure rfl rfl (fun _ => LV.idxA Try.underlying22 ti9.sz rfl e2 rfl (by omega) (by omega)) ?_
      refine WS.look rfl rfl (fun _ hk_ => LV.load1 (v := (.string (l.getD (i).toNat ByteArray.empty))) Try.underlying9 rfl rfl (g2 _ hk_ 0 _ rfl)) ?_
      refine WS.pure rfl rfl (fun _ => LV.neSP (a := (known.getD (n).toNat ByteArray.empty)) (b := (l.getD (i).toNat ByteArray.empty)) rfl rfl) ?_
      refine WS.pure rfl rfl (fun _ => LV.pickT rfl rfl) ?_
      refine WS.nil (thenQ.n ?_)
      refine WC.condP (p := ¬ ((known.getD (n).toNat ByteArray.empty) = (l.getD (i).toNat ByteArray.empty))) rfl (fun hc1 => ?_) (fun hc1 => ?_)
      · skip
        refine WC.skip (thenQ.n ?_)
        refine WC.block ?_
        refine WC.region ?_
        refine WL.lv rfl (LV.mv rfl) ?_
        refine WL.lv rfl (LV.add rfl rfl (wr64 (by omega) (by omega))) ?_
        refine WL.lv rfl (LV.asg rfl) ?_
        refine WL.nil (blockQ.n <| thenQ.n ?_)
        exact ⟨_, by omega, n + 1, by omega, by omega, (all_step n1 (by assumption)), hS2, rfl, Weak.cons rfl <| Weak.cons rfl <| Weak.cons rfl <| Weak.cons rfl <| Weak.cons rfl <| Weak.nil _⟩
      · skip
        refine WC.exit (thenQ.x <| thenQ.x <| blockQ.hit <| thenQ.n ?_)
        iterate 2 refine WC.seq ?_
        refine WC.region ?_
        iterate 2 refine WL.lv rfl (LV.mv rfl) ?_
        have hnd_ := nw_doc (kn := kn) ilo hk q1 nlo nhi n1 (fun h_ => by first | omega | exact Decidable.not_not.1 (by assumption))
        refine WL.lv rfl (LV.lenL Try.underlying22 rfl) ?_
        refine WL.lv rfl (LV.eqI rfl rfl) ?_
        refine WL.nil (thenQ.n ?_)
        refine WC.condP (p := n = (known.length : Int)) rfl (fun hc2 => ?_) (fun hc2 => ?_)
        · skip
          refine WC.region ?_
          iterate 3 refine WL.lv rfl (LV.mv rfl) ?_
          obtain ⟨A3, c3, e3, g3⟩ := St.elt (SH.stN hS2 h_l) ByteArray.empty i (by omega) (by omega)
          refine WL.lv rfl (LV.idxA Try.underlying22 ti9.sz rfl e3 rfl (by omega) (by omega)) ?_
          refine WL.lv rfl (LV.load1 (v := (.string (l.getD (i).toNat ByteArray.empty))) Try.underlying9 rfl rfl (g3 _ (KB.refl No _) 0 _ rfl)) ?_
          refine WL.xe rfl (XE.buildSlice (E := eS) [(0, (.string (l.getD (i).toNat ByteArray.empty)))] #[(.string (l.getD (i).toNat ByteArray.empty))] [l.getD (i).toNat ByteArray.empty] hS2 Try.underlying22 ti9 rfl (by decide) (by kernel_rfl) (.inr rfl) rfl rfl (by decide)) ?_
          rintro _ w4 ⟨b2, rfl, hS3, hk2⟩
          have hS4 : SH w S w4 [rowE eS 9 (.slice A_known known.length c_known) known, rowE eS 9 (.slice (some ⟨b2, 0, none⟩) 1 1) [l.getD (i).toNat ByteArray.empty], rowE eI 3 (.slice A_out out.length c_out) out] := (SH.front [_, _] hS3)
          refine WL.xe rfl (XE.append hS4 Try.underlying22 ti9 rfl (St.now (SH.rd hS4 (.tail _ (.head _)))) rfl rfl (by first | omega | simp only [List.length_append, List.length_cons, List.length_nil, List.length_take, List.length_reverse, List.length_drop] at *; omega) (by first | omega | simp only [List.length_append, List.length_cons, List.length_nil, List.length_take, List.length_reverse, List.length_drop] at *; omega)) ?_
          rintro _ w5 ⟨A4, c4, rfl, hS5, hk3⟩
          refine WL.lv rfl (LV.asg rfl) ?_
          refine WL.nil (thenQ.n ?_)
          refine WC.region ?_
          iterate 2 refine WL.lv rfl (LV.mv rfl) ?_
          refine WL.xe rfl (XE.buildSlice (E := eI) [(0, (.int .i64 n))] #[(.int .i64 n)] [n] hS5 Try.underlying54 ti3 rfl (by decide) (by kernel_rfl) (.inr rfl) rfl rfl (by decide)) ?_
          rintro _ w6 ⟨b3, rfl, hS6, hk4⟩
          have hS7 : SH w S w6 [rowE eI 3 (.slice A_out out.length c_out) out, rowE eI 3 (.slice (some ⟨b3, 0, none⟩) 1 1) [n], rowE eS 9 (.slice A4 ((known ++ [l.getD (i).toNat ByteArray.empty]).length) c4) (known ++ [l.getD (i).toNat ByteArray.empty]), rowE eS 9 (.slice (some ⟨b2, 0, none⟩) 1 1) [l.getD (i).toNat ByteArray.empty]] := (SH.front [_, _, _] hS6)
          refine WL.xe rfl (XE.append hS7 Try.underlying54 ti3 rfl (St.now (SH.rd hS7 (.tail _ (.head _)))) rfl rfl (by first | omega | simp only [List.length_append, List.length_cons, List.length_nil, List.length_take, List.length_reverse, List.length_drop] at *; omega) (by first | omega | simp only [List.length_append, List.length_cons, List.length_nil, List.length_take, List.length_reverse, List.length_drop] at *; omega)) ?_
          rintro _ w7 ⟨A5, c5, rfl, hS8, hk5⟩
          refine WL.lv rfl (LV.asg rfl) ?_
          refine WL.nil (blockQ.n <| thenQ.n ?_)
          refine WC.region ?_
          refine WL.lv rfl (LV.mv rfl) ?_
          refine WL.lv rfl (LV.add rfl rfl (wr64 (by omega) (by omega))) ?_
          refine WL.lv rfl (LV.asg rfl) ?_
          refine WL.nil (thenQ.n ?_)
          have hS9 : SH w S w7 [rowE eI 3 (.slice A5 ((out ++ [n]).length) c5) (out ++ [n]), rowE eS 9 (.slice A4 ((known ++ [l.getD (i).toNat ByteArray.empty]).length) c4) (known ++ [l.getD (i).toNat ByteArray.empty])] := (SH.take 2 rfl (SH.front [_] (SH.front [_, _] hS8)))
          exact ⟨_, by omega, A4, c4, (known ++ [l.getD (i).toNat ByteArray.empty]), A5, c5, (out ++ [n]), i + 1, by omega, by omega, (hnd_.2.1 (by omega)), (nn_step ilo hk q2 hnd_.1), (by simp; omega), (by first | omega | (simp; omega)), hS9, rfl, Weak.cons rfl <| Weak.cons rfl <| Weak.cons rfl <| Weak.cons rfl <| Weak.nil _⟩
        · skip
          refine WC.skip (thenQ.n ?_)
          refine WC.region ?_
          iterate 2 refine WL.lv rfl (LV.mv rfl) ?_
          refine WL.xe rfl (XE.buildSlice (E := eI) [(0, (.int .i64 n))] #[(.int .i64 n)] [n] hS2 Try.underlying54 ti3 rfl (by decide) (by kernel_rfl) (.inr rfl) rfl rfl (by decide)) ?_
          rintro _ w8 ⟨b4, rfl, hS10, hk6⟩
          have hS11 : SH w S w8 [rowE eI 3 (.slice A_out out.length c_out) out, rowE eI 3 (.slice (some ⟨b4, 0, none⟩) 1 1) [n], rowE eS 9 (.slice A_known known.length c_known) known] := (SH.front [_] hS10)
          refine WL.xe rfl (XE.append hS11 Try.underlying54 ti3 rfl (St.now (SH.rd hS11 (.tail _ (.head _)))) rfl rfl (by first | omega | simp only [List.length_append, List.length_cons, List.length_nil, List.length_take, List.length_reverse, List.length_drop] at *; omega) (by first | omega | simp only [List.length_append, List.length_cons, List.length_nil, List.length_take, List.length_reverse, List.length_drop] at *; omega)) ?_
          rintro _ w9 ⟨A6, c6, rfl, hS12, hk7⟩
          refine WL.lv rfl (LV.asg rfl) ?_
          refine WL.nil (blockQ.n <| thenQ.n ?_)
          refine WC.region ?_
          refine WL.lv rfl (LV.mv rfl) ?_
          refine WL.lv rfl (LV.add rfl rfl (wr64 (by omega) (by omega))) ?_
          refine WL.lv rfl (LV.asg rfl) ?_
          refine WL.nil (thenQ.n ?_)
          have hS13 : SH w S w9 [rowE eI 3 (.slice A6 ((out ++ [n]).length) c6) (out ++ [n]), rowE eS 9 (.slice A_known known.length c_known) known] := (SH.take 2 rfl (SH.front [_] (SH.front [_, _] hS12)))
          exact ⟨_, by omega, A_known, c_known, known, A6, c6, (out ++ [n]), i + 1, by omega, by omega, (hnd_.2.2 (by omega)), (nn_step ilo hk q2 hnd_.1), (by simp; omega), (by first | omega | (simp; omega)), hS13, rfl, Weak.cons rfl <| Weak.cons rfl <| Weak.cons rfl <| Weak.cons rfl <| Weak.nil _⟩
    · refine WS.pure rfl rfl (fun _ => LV.as (LV.ltI rfl rfl) (decide_eq_false hg1)) ?_
      refine WS.pure rfl rfl (fun _ => LV.mv rfl) ?_
      iterate 3 refine WS.off rfl rfl ?_
      refine WS.offL rfl rfl ?_
      iterate 3 refine WS.off rfl rfl ?_
      refine WS.offL rfl rfl ?_
      refine WS.off rfl rfl ?_
      refine WS.pure rfl rfl (fun _ => LV.pickF rfl rfl) ?_
      refine WS.nil (thenQ.n ?_)
      refine WC.condF rfl ?_
      refine WC.exit (thenQ.x <| thenQ.x <| blockQ.hit <| thenQ.n ?_)
      iterate 2 refine WC.seq ?_
      refine WC.region ?_
      iterate 2 refine WL.lv rfl (LV.mv rfl) ?_
      have hnd_ := nw_doc (kn := kn) ilo hk q1 nlo nhi n1 (fun h_ => by first | omega | exact Decidable.not_not.1 (by assumption))
      refine WL.lv rfl (LV.lenL Try.underlying22 rfl) ?_
      refine WL.lv rfl (LV.eqI rfl rfl) ?_
      refine WL.nil (thenQ.n ?_)
      refine WC.condP (p := n = (known.length : Int)) rfl (fun hc3 => ?_) (fun hc3 => ?_)
      · skip
        refine WC.region ?_
        iterate 3 refine WL.lv rfl (LV.mv rfl) ?_
        obtain ⟨A7, c7, e4, g4⟩ := St.elt (SH.stN hS2 h_l) ByteArray.empty i (by omega) (by omega)
        refine WL.lv rfl (LV.idxA Try.underlying22 ti9.sz rfl e4 rfl (by omega) (by omega)) ?_
        refine WL.lv rfl (LV.load1 (v := (.string (l.getD (i).toNat ByteArray.empty))) Try.underlying9 rfl rfl (g4 _ (KB.refl No _) 0 _ rfl)) ?_
        refine WL.xe rfl (XE.buildSlice (E := eS) [(0, (.string (l.getD (i).toNat ByteArray.empty)))] #[(.string (l.getD (i).toNat ByteArray.empty))] [l.getD (i).toNat ByteArray.empty] hS2 Try.underlying22 ti9 rfl (by decide) (by kernel_rfl) (.inr rfl) rfl rfl (by decide)) ?_
        rintro _ w10 ⟨b5, rfl, hS14, hk8⟩
        have hS15 : SH w S w10 [rowE eS 9 (.slice A_known known.length c_known) known, rowE eS 9 (.slice (some ⟨b5, 0, none⟩) 1 1) [l.getD (i).toNat ByteArray.empty], rowE eI 3 (.slice A_out out.length c_out) out] := (SH.front [_, _] hS14)
        refine WL.xe rfl (XE.append hS15 Try.underlying22 ti9 rfl (St.now (SH.rd hS15 (.tail _ (.head _)))) rfl rfl (by first | omega | simp only [List.length_append, List.length_cons, List.length_nil, List.length_take, List.length_reverse, List.length_drop] at *; omega) (by first | omega | simp only [List.length_append, List.length_cons, List.length_nil, List.length_take, List.length_reverse, List.length_drop] at *; omega)) ?_
        rintro _ w11 ⟨A8, c8, rfl, hS16, hk9⟩
        refine WL.lv rfl (LV.asg rfl) ?_
        refine WL.nil (thenQ.n ?_)
        refine WC.region ?_
        iterate 2 refine WL.lv rfl (LV.mv rfl) ?_
        refine WL.xe rfl (XE.buildSlice (E := eI) [(0, (.int .i64 n))] #[(.int .i64 n)] [n] hS16 Try.underlying54 ti3 rfl (by decide) (by kernel_rfl) (.inr rfl) rfl rfl (by decide)) ?_
        rintro _ w12 ⟨b6, rfl, hS17, hk10⟩
        have hS18 : SH w S w12 [rowE eI 3 (.slice A_out out.length c_out) out, rowE eI 3 (.slice (some ⟨b6, 0, none⟩) 1 1) [n], rowE eS 9 (.slice A8 ((known ++ [l.getD (i).toNat ByteArray.empty]).length) c8) (known ++ [l.getD (i).toNat ByteArray.empty]), rowE eS 9 (.slice (some ⟨b5, 0, none⟩) 1 1) [l.getD (i).toNat ByteArray.empty]] := (SH.front [_, _, _] hS17)
        refine WL.xe rfl (XE.append hS18 Try.underlying54 ti3 rfl (St.now (SH.rd hS18 (.tail _ (.head _)))) rfl rfl (by first | omega | simp only [List.length_append, List.length_cons, List.length_nil, List.length_take, List.length_reverse, List.length_drop] at *; omega) (by first | omega | simp only [List.length_append, List.length_cons, List.length_nil, List.length_take, List.length_reverse, List.length_drop] at *; omega)) ?_
        rintro _ w13 ⟨A9, c9, rfl, hS19, hk11⟩
        refine WL.lv rfl (LV.asg rfl) ?_
        refine WL.nil (blockQ.n <| thenQ.n ?_)
        refine WC.region ?_
        refine WL.lv rfl (LV.mv rfl) ?_
        refine WL.lv rfl (LV.add rfl rfl (wr64 (by omega) (by omega))) ?_
        refine WL.lv rfl (LV.asg rfl) ?_
        refine WL.nil (thenQ.n ?_)
        have hS20 : SH w S w13 [rowE eI 3 (.slice A9 ((out ++ [n]).length) c9) (out ++ [n]), rowE eS 9 (.slice A8 ((known ++ [l.getD (i).toNat ByteArray.empty]).length) c8) (known ++ [l.getD (i).toNat ByteArray.empty])] := (SH.take 2 rfl (SH.front [_] (SH.front [_, _] hS19)))
        exact ⟨_, by omega, A8, c8, (known ++ [l.getD (i).toNat ByteArray.empty]), A9, c9, (out ++ [n]), i + 1, by omega, by omega, (hnd_.2.1 (by omega)), (nn_step ilo hk q2 hnd_.1), (by simp; omega), (by first | omega | (simp; omega)), hS20, rfl, Weak.cons rfl <| Weak.cons rfl <| Weak.cons rfl <| Weak.cons rfl <| Weak.nil _⟩
      · skip
        refine WC.skip (thenQ.n ?_)
        refine WC.region ?_
        iterate 2 refine WL.lv rfl (LV.mv rfl) ?_
        refine WL.xe rfl (XE.buildSlice (E := eI) [(0, (.int .i64 n))] #[(.int .i64 n)] [n] hS2 Try.underlying54 ti3 rfl (by decide) (by kernel_rfl) (.inr rfl) rfl rfl (by decide)) ?_
        rintro _ w14 ⟨b7, rfl, hS21, hk12⟩
        have hS22 : SH w S w14 [rowE eI 3 (.slice A_out out.length c_out) out, rowE eI 3 (.slice (some ⟨b7, 0, none⟩) 1 1) [n], rowE eS 9 (.slice A_known known.length c_known) known] := (SH.front [_] hS21)
        refine WL.xe rfl (XE.append hS22 Try.underlying54 ti3 rfl (St.now (SH.rd hS22 (.tail _ (.head _)))) rfl rfl (by first | omega | simp only [List.length_append, List.length_cons, List.length_nil, List.length_take, List.length_reverse, List.length_drop] at *; omega) (by first | omega | simp only [List.length_append, List.length_cons, List.length_nil, List.length_take, List.length_reverse, List.length_drop] at *; omega)) ?_
        rintro _ w15 ⟨A10, c10, rfl, hS23, hk13⟩
        refine WL.lv rfl (LV.asg rfl) ?_
        refine WL.nil (blockQ.n <| thenQ.n ?_)
        refine WC.region ?_
        refine WL.lv rfl (LV.mv rfl) ?_
        refine WL.lv rfl (LV.add rfl rfl (wr64 (by omega) (by omega))) ?_
        refine WL.lv rfl (LV.asg rfl) ?_
        refine WL.nil (thenQ.n ?_)
        have hS24 : SH w S w15 [rowE eI 3 (.slice A10 ((out ++ [n]).length) c10) (out ++ [n]), rowE eS 9 (.slice A_known known.length c_known) known] := (SH.take 2 rfl (SH.front [_] (SH.front [_, _] hS23)))
        exact ⟨_, by omega, A_known, c_known, known, A10, c10, (out ++ [n]), i + 1, by omega, by omega, (hnd_.2.2 (by omega)), (nn_step ilo hk q2 hnd_.1), (by simp; omega), (by first | omega | (simp; omega)), hS24, rfl, Weak.cons rfl <| Weak.cons rfl <| Weak.cons rfl <| Weak.cons rfl <| Weak.nil _⟩
  · skip
    refine WC.exit (thenQ.x <| thenQ.x <| blockQ.hit <| thenQ.n ?_)
    refine WC.seq ?_
    refine WC.region ?_
    iterate 2 refine WL.lv rfl (LV.mv rfl) ?_
    iterate 2 refine WL.lv rfl (LV.asg rfl) ?_
    refine WL.nil (thenQ.n ?_)
    refine WC.ret (?_)
    exact ⟨_, fun a ha => res2 rfl ha rfl rfl, (by rw [← show out = (nnumL kn l) from by rw [q2, List.take_of_length_le (by omega)], ← show known = (nkvL kn l) from by rw [q1, List.take_of_length_le (by omega)]]; exact ⟨_, _, _, _, rfl, hL1⟩)⟩

set_option maxHeartbeats 2000000 in
theorem redits_calls {w : World} {a : ByteArray} {b : ByteArray} (ha : a.size ≤ 100000) (hb : b.size ≤ 100000) :
    Calls Try.prog 16 #[(.string a), (.string b)] w fun e w' => ∃ v, e = .returned v ∧ (fun v w' => ∃ (A0' : Option Addr) (c0' : Nat), v = .slice A0' (EDT a b).length c0' ∧ SH w No w' [rowE eBt 49 (.slice A0' (EDT a b).length c0') (EDT a b)]) v w' := by
  have hta_ := TOK_len a
  have htb_ := TOK_len b
  have hS : SH w No w [] := SH.nil _ _
  refine calls (l := litOf [(.string a), (.string b)] 0) Try.func16 rfl (n := 121) rfl (Nat.le_of_ble_eq_true rfl) (lit_args _) ?_
  refine WC.seq ?_
  refine WC.region ?_
  refine WL.lv rfl (LV.asg rfl) ?_
  refine WL.nil (thenQ.n ?_)
  refine WC.seq ?_
  refine WC.region ?_
  refine WL.xe rfl (XE.buildSlice (E := eBt) [] #[] [] hS Try.underlying29 ti49 rfl (by decide) (by kernel_rfl) (.inr rfl) rfl rfl (by decide)) ?_
  rintro _ w1 ⟨b1, rfl, hS1, hk1⟩
  refine WL.lv rfl (LV.asg rfl) ?_
  refine WL.nil (thenQ.n ?_)
  refine WC.seq ?_
  refine WC.region ?_
  refine WL.lv rfl (LV.mv rfl) ?_
  refine WL.call rfl (XC.fn Try.func10 (by kernel_rfl) rfl rfl rfl) (rtokens_calls (s := a) (by first | omega | (simp only [ByteArray.size_append, lit1]; omega))) ?_
  rintro v_ w2 ⟨A1, c1, rfl, hS2⟩
  have hS3 := SH.joinN hS1 hS2
  refine WL.lv rfl (LV.mv rfl) ?_
  refine WL.call rfl (XC.fn Try.func10 (by kernel_rfl) rfl rfl rfl) (rtokens_calls (s := b) (by first | omega | (simp only [ByteArray.size_append, lit1]; omega))) ?_
  rintro v_ w3 ⟨A2, c2, rfl, hS4⟩
  have hS5 := SH.joinN hS3 hS4
  iterate 2 refine WL.lv rfl (LV.asg rfl) ?_
  refine WL.nil (thenQ.n ?_)
  iterate 2 refine WC.seq ?_
  refine WC.region ?_
  refine WL.lv rfl (LV.mv rfl) ?_
  refine WL.lv rfl (LV.lenL Try.underlying22 rfl) ?_
  rcases Decidable.em (((TOK a).length : Int) > 400) with hg1 | hg1
  · refine WL.lv rfl (LV.as (LV.gtI rfl rfl) (decide_eq_true hg1)) ?_
    refine WL.lv rfl (LV.mv rfl) ?_
    iterate 3 refine WL.off rfl ?_
    refine WL.lv rfl (LV.pickT rfl rfl) ?_
    refine WL.nil (thenQ.n ?_)
    refine WC.condT rfl ?_
    refine WC.seq ?_
    refine WC.region ?_
    refine WL.lv rfl (LV.mv rfl) ?_
    refine WL.lv rfl (LV.asg rfl) ?_
    refine WL.nil (thenQ.n ?_)
    refine WC.ret (thenQ.r <| ?_)
    have hS6 : SH w No w3 [rowE eBt 49 (.slice (some ⟨b1, 0, none⟩) 0 0) []] := (SH.take 1 rfl (SH.front [_, _] hS5))
    have hres1 : ([] : List (Int × ByteArray)) = EDT a b := (if_pos (by omega)).symm
    exact ⟨_, fun a ha => res1 rfl ha rfl, (by rw [← hres1]; exact ⟨_, _, rfl, hS6⟩)⟩
  · refine WL.lv rfl (LV.as (LV.gtI rfl rfl) (decide_eq_false hg1)) ?_
    iterate 2 refine WL.lv rfl (LV.mv rfl) ?_
    refine WL.lv rfl (LV.lenL Try.underlying22 rfl) ?_
    refine WL.lv rfl (LV.gtI rfl rfl) ?_
    refine WL.lv rfl (LV.pickF rfl rfl) ?_
    refine WL.nil (thenQ.n ?_)
    refine WC.condP (p := ((TOK b).length : Int) > 400) rfl (fun hc1 => ?_) (fun hc1 => ?_)
    · skip
      refine WC.seq ?_
      refine WC.region ?_
      refine WL.lv rfl (LV.mv rfl) ?_
      refine WL.lv rfl (LV.asg rfl) ?_
      refine WL.nil (thenQ.n ?_)
      refine WC.ret (thenQ.r <| ?_)
      have hS7 : SH w No w3 [rowE eBt 49 (.slice (some ⟨b1, 0, none⟩) 0 0) []] := (SH.take 1 rfl (SH.front [_, _] hS5))
      have hres2 : ([] : List (Int × ByteArray)) = EDT a b := (if_pos (by omega)).symm
      exact ⟨_, fun a ha => res1 rfl ha rfl, (by rw [← hres2]; exact ⟨_, _, rfl, hS7⟩)⟩
    · skip
      refine WC.skip (thenQ.n ?_)
      refine WC.seq ?_
      refine WC.region ?_
      have hlg_ : ¬ ((TOK a).length > 400 ∨ (TOK b).length > 400) := by omega
      have hpl_ := nnumL_len [] (TOK a)
      have hql_ := nnumL_len (nkvL [] (TOK a)) (TOK b)
      have hsl_ := al_len _ _ _ (EDT_al hlg_)
      refine WL.lv rfl (LV.mv rfl) ?_
      have hS8 := SH.nilRow (E := eS) (T := 9) hS5
      have hT1 := SH.sub (Es := [_]) hS8
      refine WL.call rfl (XC.fn Try.func31 (by kernel_rfl) rfl rfl rfl) (rnumbers_calls (kn := ([] : List ByteArray)) (l := (TOK a)) ((SH.stE (Es := [rowE eS 9 (.slice none 0 0) []]) hS8 (.tail _ (.head _))).imp fun _ h => Row.rd h) rfl hT1 (by omega) (by first | omega | (simp; done) | (have h_ := nkvL_len [] (TOK a); simp only [List.length_nil] at h_; omega))) ?_
      rintro v_ w4 ⟨A3, c3, A4, c4, rfl, hU1⟩
      have hS9 := SH.back (Es := [_]) hS8 hU1
      refine WL.lv rfl (LV.mv rfl) ?_
      iterate 2 refine WL.lv rfl (LV.extract rfl rfl) ?_
      iterate 2 refine WL.lv rfl (LV.asg rfl) ?_
      refine WL.nil (thenQ.n ?_)
      refine WC.seq ?_
      refine WC.region ?_
      iterate 2 refine WL.lv rfl (LV.mv rfl) ?_
      have hS10 : SH w No w4 [rowE eS 9 (.slice A4 ((nkvL ([] : List ByteArray) (TOK a)).length) c4) (nkvL ([] : List ByteArray) (TOK a)), rowE eI 3 (.slice A3 ((nnumL ([] : List ByteArray) (TOK a)).length) c3) (nnumL ([] : List ByteArray) (TOK a)), rowE eS 9 (.slice A2 ((TOK b).length) c2) (TOK b), rowE eS 9 (.slice A1 ((TOK a).length) c1) (TOK a), rowE eBt 49 (.slice (some ⟨b1, 0, none⟩) 0 0) []] := (SH.front [_] hS9)
      have hT2 := SH.sub (Es := [_]) hS10
      refine WL.call rfl (XC.fn Try.func31 (by kernel_rfl) rfl rfl rfl) (rnumbers_calls (kn := (nkvL ([] : List ByteArray) (TOK a))) (l := (TOK b)) ((SH.stE (Es := [rowE eS 9 (.slice A4 ((nkvL ([] : List ByteArray) (TOK a)).length) c4) (nkvL ([] : List ByteArray) (TOK a))]) hS10 (.tail _ (.head _))).imp fun _ h => Row.rd h) rfl hT2 (by omega) (by first | omega | (simp; done) | (have h_ := nkvL_len [] (TOK a); simp only [List.length_nil] at h_; omega))) ?_
      rintro v_ w5 ⟨A5, c5, A6, c6, rfl, hU2⟩
      have hS11 := SH.back (Es := [_]) hS10 hU2
      refine WL.lv rfl (LV.mv rfl) ?_
      iterate 2 refine WL.lv rfl (LV.extract rfl rfl) ?_
      iterate 2 refine WL.lv rfl (LV.asg rfl) ?_
      refine WL.nil (thenQ.n ?_)
      refine WC.seq ?_
      refine WC.region ?_
      iterate 2 refine WL.lv rfl (LV.mv rfl) ?_
      refine WL.call rfl (XC.fn Try.func32 (by kernel_rfl) rfl rfl rfl) (rsteps27_calls  (SH.rd hS11 (.tail _ (.tail _ (.head _)))) rfl (SH.rd hS11 (.head _)) rfl ) ?_
      rintro v_ w6 ⟨A7, c7, rfl, hS12⟩
      have hS13 := SH.joinN hS11 hS12
      refine WL.lv rfl (LV.asg rfl) ?_
      refine WL.nil (thenQ.n ?_)
      refine WC.seq ?_
      refine WC.region ?_
      refine WL.lv rfl (LV.asg rfl) ?_
      refine WL.nil (thenQ.n ?_)
      refine WC.seq ?_
      refine WC.region ?_
      refine WL.lv rfl (LV.asg rfl) ?_
      refine WL.nil (thenQ.n ?_)
      iterate 2 refine WC.seq ?_
      refine WC.region ?_
      refine WL.lv rfl (LV.asg rfl) ?_
      refine WL.nil (thenQ.n ?_)
      refine WC.block ?_
      refine WC.loop (fun m_ f_ w_ => ∃ (A_out : Option Addr) (c_out : Nat) (out : List (Int × ByteArray)) (i : Int) (j : Int) (k : Int), (0 ≤ k) ∧ (k ≤ ((STP (nnumL ([] : List ByteArray) (TOK a)) (nnumL (nkvL ([] : List ByteArray) (TOK a)) (TOK b))).length : Int)) ∧ (EDF (TOK a) (TOK b) ((STP (nnumL [] (TOK a)) (nnumL (nkvL [] (TOK a)) (TOK b))).drop k.toNat) i j out = EDF (TOK a) (TOK b) (STP (nnumL [] (TOK a)) (nnumL (nkvL [] (TOK a)) (TOK b))) 0 0 []) ∧ (AL (nnumL [] (TOK a)) (nnumL (nkvL [] (TOK a)) (TOK b)) ((STP (nnumL [] (TOK a)) (nnumL (nkvL [] (TOK a)) (TOK b))).drop k.toNat) i j) ∧ (0 ≤ i ∧ 0 ≤ j) ∧ ((szB out : Int) ≤ 100000 * k) ∧ ((out.length : Int) ≤ k) ∧ (LST (STP (nnumL [] (TOK a)) (nnumL (nkvL [] (TOK a)) (TOK b))) out k) ∧ SH w No w_ [rowE eI 47 (.slice A7 ((STP (nnumL ([] : List ByteArray) (TOK a)) (nnumL (nkvL ([] : List ByteArray) (TOK a)) (TOK b))).length) c7) (STP (nnumL ([] : List ByteArray) (TOK a)) (nnumL (nkvL ([] : List ByteArray) (TOK a)) (TOK b))), rowE eI 3 (.slice A5 ((nnumL (nkvL ([] : List ByteArray) (TOK a)) (TOK b)).length) c5) (nnumL (nkvL ([] : List ByteArray) (TOK a)) (TOK b)), rowE eS 9 (.slice A6 ((nkvL (nkvL ([] : List ByteArray) (TOK a)) (TOK b)).length) c6) (nkvL (nkvL ([] : List ByteArray) (TOK a)) (TOK b)), rowE eI 3 (.slice A3 ((nnumL ([] : List ByteArray) (TOK a)).length) c3) (nnumL ([] : List ByteArray) (TOK a)), rowE eS 9 (.slice A2 ((TOK b).length) c2) (TOK b), rowE eS 9 (.slice A1 ((TOK a).length) c1) (TOK a), rowE eBt 49 (.slice A_out out.length c_out) out] ∧ m_ = ((((STP (nnumL ([] : List ByteArray) (TOK a)) (nnumL (nkvL ([] : List ByteArray) (TOK a)) (TOK b))).length : Int) - k).toNat) ∧ Weak (lit [(5, (.slice A_out out.length c_out)), (6, (.slice A1 ((TOK a).length) c1)), (7, (.slice A2 ((TOK b).length) c2)), (12, (.slice A7 ((STP (nnumL ([] : List ByteArray) (TOK a)) (nnumL (nkvL ([] : List ByteArray) (TOK a)) (TOK b))).length) c7)), (13, (.int .i64 i)), (14, (.int .i64 j)), (15, (.int .i64 k))]) f_) _ ⟨(some ⟨b1, 0, none⟩), 0, [], 0, 0, 0, by omega, by omega, rfl, (EDT_al hlg_), by omega, (by show (0 : Int) ≤ _; omega), (by simp), (LST.z _), hS13, rfl, Weak.cons rfl <| Weak.cons rfl <| Weak.cons rfl <| Weak.cons rfl <| Weak.cons rfl <| Weak.cons rfl <| Weak.cons rfl <| Weak.nil _⟩ ?_
      rintro m1 f1 w7 ⟨A_out, c_out, out, i, j, k, klo, khi, q1, q2, q3, q4, q5, q6, hL1, rfl, hw1⟩
      refine WC.weak hw1 ?_
      clear hw1
      iterate 2 refine WC.seq ?_
      refine WC.region ?_
      iterate 2 refine WL.lv rfl (LV.mv rfl) ?_
      refine WL.lv rfl (LV.lenL Try.underlying52 rfl) ?_
      refine WL.lv rfl (LV.ltI rfl rfl) ?_
      refine WL.nil (thenQ.n ?_)
      refine WC.condP (p := k < ((STP (nnumL ([] : List ByteArray) (TOK a)) (nnumL (nkvL ([] : List ByteArray) (TOK a)) (TOK b))).length : Int)) rfl (fun hk => ?_) (fun hk => ?_)
      · have hal_ := al_step q2 klo hk
        have hti_ : i < (TOK a).length → ((TOK a).getD i.toNat ByteArray.empty).size ≤ a.size := fun h_ => (TOK_pos (getD_mem (by omega))).2
        have htj_ : j < (TOK b).length → ((TOK b).getD j.toNat ByteArray.empty).size ≤ b.size := fun h_ => (TOK_pos (getD_mem (by omega))).2
        rw [hpl_, hql_] at hal_
        have hbt_ := fun t_ => szB_lay out (gI (STP (nnumL [] (TOK a)) (nnumL (nkvL [] (TOK a)) (TOK b))) k) t_
        have hbl_ := fun t_ => LAYB_len out (gI (STP (nnumL [] (TOK a)) (nnumL (nkvL [] (TOK a)) (TOK b))) k) t_
        refine WC.skip (thenQ.n ?_)
        refine WC.seq ?_
        refine WC.block ?_
        refine WC.seq ?_
        refine WC.region ?_
        refine WL.lv rfl (LV.asg rfl) ?_
        refine WL.nil (thenQ.n ?_)
        iterate 2 refine WC.seq ?_
        refine WC.region ?_
        iterate 2 refine WL.lv rfl (LV.mv rfl) ?_
        obtain ⟨A8, c8, e1, g1⟩ := St.elt (SH.rd hL1 (.head _)) 0 k (by omega) (by omega)
        refine WL.lv rfl (LV.idxA Try.underlying52 ti47.sz rfl e1 rfl (by omega) (by omega)) ?_
        refine WL.lv rfl (LV.load1 (v := (.int .i64 (gI (STP (nnumL ([] : List ByteArray) (TOK a)) (nnumL (nkvL ([] : List ByteArray) (TOK a)) (TOK b))) (k)))) Try.underlying47 rfl rfl (g1 _ (KB.refl No _) 0 _ rfl)) ?_
        refine WL.lv rfl (LV.eqI rfl rfl) ?_
        refine WL.nil (thenQ.n ?_)
        refine WC.condP (p := (gI (STP (nnumL ([] : List ByteArray) (TOK a)) (nnumL (nkvL ([] : List ByteArray) (TOK a)) (TOK b))) (k)) = 3) rfl (fun hc2 => ?_) (fun hc2 => ?_)
        · skip
          refine WC.region ?_
          iterate 2 refine WL.lv rfl (LV.mv rfl) ?_
          obtain ⟨A9, c9, e2, g2⟩ := St.elt (SH.rd hL1 (.tail _ (.tail _ (.tail _ (.tail _ (.head _)))))) ByteArray.empty j (by omega) (by omega)
          refine WL.lv rfl (LV.idxA Try.underlying22 ti9.sz rfl e2 rfl (by omega) (by omega)) ?_
          refine WL.lv rfl (LV.load1 (v := (.string ((TOK b).getD (j).toNat ByteArray.empty))) Try.underlying9 rfl rfl (g2 _ (KB.refl No _) 0 _ rfl)) ?_
          refine WL.lv rfl (LV.asg rfl) ?_
          refine WL.nil (thenQ.n ?_)
          iterate 2 refine WC.seq ?_
          refine WC.region ?_
          iterate 2 refine WL.lv rfl (LV.mv rfl) ?_
          obtain ⟨A10, c10, e3, g3⟩ := St.elt (SH.rd hL1 (.head _)) 0 k (by omega) (by omega)
          refine WL.lv rfl (LV.idxA Try.underlying52 ti47.sz rfl e3 rfl (by omega) (by omega)) ?_
          refine WL.lv rfl (LV.load1 (v := (.int .i64 (gI (STP (nnumL ([] : List ByteArray) (TOK a)) (nnumL (nkvL ([] : List ByteArray) (TOK a)) (TOK b))) (k)))) Try.underlying47 rfl rfl (g3 _ (KB.refl No _) 0 _ rfl)) ?_
          refine WL.lv rfl (LV.as (LV.neI rfl rfl) (decide_eq_false (by omega))) ?_
          refine WL.nil (thenQ.n ?_)
          refine WC.condF rfl ?_
          refine WC.skip (thenQ.n ?_)
          iterate 2 refine WC.seq ?_
          refine WC.region ?_
          iterate 2 refine WL.lv rfl (LV.mv rfl) ?_
          obtain ⟨A11, c11, e4, g4⟩ := St.elt (SH.rd hL1 (.head _)) 0 k (by omega) (by omega)
          refine WL.lv rfl (LV.idxA Try.underlying52 ti47.sz rfl e4 rfl (by omega) (by omega)) ?_
          refine WL.lv rfl (LV.load1 (v := (.int .i64 (gI (STP (nnumL ([] : List ByteArray) (TOK a)) (nnumL (nkvL ([] : List ByteArray) (TOK a)) (TOK b))) (k)))) Try.underlying47 rfl rfl (g4 _ (KB.refl No _) 0 _ rfl)) ?_
          refine WL.lv rfl (LV.as (LV.neI rfl rfl) (decide_eq_true (by omega))) ?_
          refine WL.nil (thenQ.n ?_)
          refine WC.condT rfl ?_
          refine WC.region ?_
          refine WL.lv rfl (LV.mv rfl) ?_
          refine WL.lv rfl (LV.add rfl rfl (wr64 (by omega) (by omega))) ?_
          refine WL.lv rfl (LV.asg rfl) ?_
          refine WL.nil (thenQ.n ?_)
          refine WC.seq ?_
          have hS14 := SH.drew hL1
          refine WC.regionD [] (fun w_ => KB No w7.drew w_) [(.pure, 0), (.pure, 1), (.pure, 2), (.pure, 3), (.pure, 4), (.pure, 5), (.pure, 6), (.look, 7), (.pure, 8), (.pure, 9), (.pure, 10), (.look, 11), (.pure, 12), (.pure, 13)] (by kernel_rfl) (by kernel_rfl) (KB.refl _ _) ?_
          refine WS.pure rfl rfl (fun _ => LV.mv rfl) ?_
          rcases Decidable.em (k > 0) with hg2 | hg2
          · refine WS.pure rfl rfl (fun _ => LV.as (LV.gtI rfl rfl) (decide_eq_true hg2)) ?_
            iterate 3 refine WS.pure rfl rfl (fun _ => LV.mv rfl) ?_
            refine WS.pure rfl rfl (fun _ => LV.sub rfl rfl (wr64 (by omega) (by omega))) ?_
            obtain ⟨A12, c12, e5, g5⟩ := St.elt (SH.rd hS14 (.head _)) 0 (k - 1) (by omega) (by omega)
            refine WS.pure rfl rfl (fun _ => LV.idxA Try.underlying52 ti47.sz rfl e5 rfl (by omega) (by omega)) ?_
            refine WS.look rfl rfl (fun _ hk_ => LV.load1 (v := (.int .i64 (gI (STP (nnumL ([] : List ByteArray) (TOK a)) (nnumL (nkvL ([] : List ByteArray) (TOK a)) (TOK b))) (k - 1)))) Try.underlying47 rfl rfl (g5 _ hk_ 0 _ rfl)) ?_
            iterate 2 refine WS.pure rfl rfl (fun _ => LV.mv rfl) ?_
            obtain ⟨A13, c13, e6, g6⟩ := St.elt (SH.rd hS14 (.head _)) 0 k (by omega) (by omega)
            refine WS.pure rfl rfl (fun _ => LV.idxA Try.underlying52 ti47.sz rfl e6 rfl (by omega) (by omega)) ?_
            refine WS.look rfl rfl (fun _ hk_ => LV.load1 (v := (.int .i64 (gI (STP (nnumL ([] : List ByteArray) (TOK a)) (nnumL (nkvL ([] : List ByteArray) (TOK a)) (TOK b))) (k)))) Try.underlying47 rfl rfl (g6 _ hk_ 0 _ rfl)) ?_
            refine WS.pure rfl rfl (fun _ => LV.eqI rfl rfl) ?_
            refine WS.pure rfl rfl (fun _ => LV.pickT rfl rfl) ?_
            refine WS.nil (thenQ.n ?_)
            refine WC.condP (p := (gI (STP (nnumL ([] : List ByteArray) (TOK a)) (nnumL (nkvL ([] : List ByteArray) (TOK a)) (TOK b))) (k - 1)) = (gI (STP (nnumL ([] : List ByteArray) (TOK a)) (nnumL (nkvL ([] : List ByteArray) (TOK a)) (TOK b))) (k))) rfl (fun hc3 => ?_) (fun hc3 => ?_)
            · skip
              refine WC.seq ?_
              refine WC.region ?_
              iterate 2 refine WL.lv rfl (LV.mv rfl) ?_
              refine WL.lv rfl (LV.lenL Try.underlying29 rfl) ?_
              refine WL.lv rfl (LV.sub rfl rfl (wr64 (by omega) (by omega))) ?_
              have hq6_ := q6.2 (by omega)
              obtain ⟨A14, c14, e7, g7⟩ := St.elt (SH.rd hS14 (.tail _ (.tail _ (.tail _ (.tail _ (.tail _ (.tail _ (.head _)))))))) (0, ByteArray.empty) ((out.length : Int) - 1) (by omega) (by omega)
              refine WL.lv rfl (LV.idxA Try.underlying29 ti49.sz rfl e7 rfl (by omega) (by omega)) ?_
              refine WL.lv rfl (LV.loadAgg (cs := [(.int .i64 ((out.getD ((out.length : Int) - 1).toNat (0, ByteArray.empty)).1)), (.string ((out.getD ((out.length : Int) - 1).toNat (0, ByteArray.empty)).2))]) Try.underlying49 rfl ti49 rfl rfl (fun j u hu => g7 _ (KB.refl No _) j u hu)) ?_
              refine WL.xe rfl (XE.alloc #[(.int .i64 0), (.string ⟨#[]⟩)] hS14 ti49 rfl) ?_
              rintro _ w8 ⟨b2, rfl, hS15, hk2⟩
              refine WL.xse rfl (XSE.blkAgg #[(.int .i64 ((out.getD ((out.length : Int) - 1).toNat (0, ByteArray.empty)).1)), (.string ((out.getD ((out.length : Int) - 1).toNat (0, ByteArray.empty)).2))] hS15 (by kernel_rfl) rfl (by kernel_rfl) rfl rfl) ?_
              rintro w9 ⟨hS16, hk3⟩
              refine WL.nil (thenQ.n ?_)
              refine WC.region ?_
              iterate 2 refine WL.lv rfl (LV.mv rfl) ?_
              refine WL.lv rfl (LV.lenL Try.underlying29 rfl) ?_
              refine WL.lv rfl (LV.sub rfl rfl (wr64 (by omega) (by omega))) ?_
              refine WL.lv rfl (LV.fieldA Try.underlying49 rfl ti47.sz rfl) ?_
              refine WL.lv rfl (LV.load1 Try.underlying47 rfl rfl (Blk.cellN (SH.at hS16 (.head _)) 0 rfl _ (KB.refl No _))) ?_
              refine WL.lv rfl (LV.fieldA Try.underlying49 rfl ti9.sz rfl) ?_
              refine WL.lv rfl (LV.load1 Try.underlying9 rfl rfl (Blk.cellN (SH.at hS16 (.head _)) 1 rfl _ (KB.refl No _))) ?_
              refine WL.lv rfl (LV.mv rfl) ?_
              have hsm_ := szB_mem (l := out) (p := out.getD ((out.length : Int) - 1).toNat (0, ByteArray.empty)) (getD_mem (by omega))
              refine WL.lv rfl (LV.addS rfl rfl (by first | omega | (simp only [ByteArray.size_append, ByteArray.size_extract, lit1]; omega))) ?_
              refine WL.lv rfl (LV.build (vs := [(0, (.int .i64 ((out.getD ((out.length : Int) - 1).toNat (0, ByteArray.empty)).1))), (1, (.string (((out.getD ((out.length : Int) - 1).toNat (0, ByteArray.empty)).2) ++ ((TOK b).getD (j).toNat ByteArray.empty))))]) (places := #[(0, 1), (1, 1)]) (cs := #[(.int .i64 ((out.getD ((out.length : Int) - 1).toNat (0, ByteArray.empty)).1)), (.string (((out.getD ((out.length : Int) - 1).toNat (0, ByteArray.empty)).2) ++ ((TOK b).getD (j).toNat ByteArray.empty)))]) Try.underlying49 ti49 (fun _ => by kernel_rfl) rfl rfl) ?_
              obtain ⟨A15, c15, e8, g8⟩ := St.elt (SH.rd hS16 (.tail _ (.tail _ (.tail _ (.tail _ (.tail _ (.tail _ (.tail _ (.head _))))))))) (0, ByteArray.empty) ((out.length : Int) - 1) (by omega) (by omega)
              refine WL.lv rfl (LV.idxA Try.underlying29 ti49.sz rfl e8 rfl (by omega) (by omega)) ?_
              have hS18 : SH w No w9 [rowE eBt 49 (.slice A_out out.length c_out) out, blkE b2 49 #[(.int .i64 ((out.getD ((out.length : Int) - 1).toNat (0, ByteArray.empty)).1)), (.string ((out.getD ((out.length : Int) - 1).toNat (0, ByteArray.empty)).2))], rowE eI 47 (.slice A7 ((STP (nnumL ([] : List ByteArray) (TOK a)) (nnumL (nkvL ([] : List ByteArray) (TOK a)) (TOK b))).length) c7) (STP (nnumL ([] : List ByteArray) (TOK a)) (nnumL (nkvL ([] : List ByteArray) (TOK a)) (TOK b))), rowE eI 3 (.slice A5 ((nnumL (nkvL ([] : List ByteArray) (TOK a)) (TOK b)).length) c5) (nnumL (nkvL ([] : List ByteArray) (TOK a)) (TOK b)), rowE eS 9 (.slice A6 ((nkvL (nkvL ([] : List ByteArray) (TOK a)) (TOK b)).length) c6) (nkvL (nkvL ([] : List ByteArray) (TOK a)) (TOK b)), rowE eI 3 (.slice A3 ((nnumL ([] : List ByteArray) (TOK a)).length) c3) (nnumL ([] : List ByteArray) (TOK a)), rowE eS 9 (.slice A2 ((TOK b).length) c2) (TOK b), rowE eS 9 (.slice A1 ((TOK a).length) c1) (TOK a)] := (SH.front [_, _, _, _, _, _, _] hS16)
              refine WL.xse rfl (XSE.rowN (i := (out.length : Int) - 1) (cs := #[(.int .i64 ((out.getD ((out.length : Int) - 1).toNat (0, ByteArray.empty)).1)), (.string (((out.getD ((out.length : Int) - 1).toNat (0, ByteArray.empty)).2) ++ ((TOK b).getD (j).toNat ByteArray.empty)))]) ((out.getD ((out.length : Int) - 1).toNat (0, ByteArray.empty)).1, ((out.getD ((out.length : Int) - 1).toNat (0, ByteArray.empty)).2) ++ ((TOK b).getD (j).toNat ByteArray.empty)) hS18 e8 (by omega) (by omega) ti49.sz rfl rfl rfl) ?_
              rintro w10 ⟨hS17, hk4⟩
              refine WL.nil (blockQ.n <| thenQ.n ?_)
              refine WC.region ?_
              refine WL.lv rfl (LV.mv rfl) ?_
              refine WL.lv rfl (LV.add rfl rfl (wr64 (by omega) (by omega))) ?_
              refine WL.lv rfl (LV.asg rfl) ?_
              refine WL.nil (thenQ.n ?_)
              have hS19 : SH w No w10 [rowE eBt 49 (.slice A_out ((out.set ((out.length : Int) - 1).toNat ((out.getD ((out.length : Int) - 1).toNat (0, ByteArray.empty)).1, ((out.getD ((out.length : Int) - 1).toNat (0, ByteArray.empty)).2) ++ ((TOK b).getD (j).toNat ByteArray.empty))).length) c_out) (out.set ((out.length : Int) - 1).toNat ((out.getD ((out.length : Int) - 1).toNat (0, ByteArray.empty)).1, ((out.getD ((out.length : Int) - 1).toNat (0, ByteArray.empty)).2) ++ ((TOK b).getD (j).toNat ByteArray.empty))), blkE b2 49 #[(.int .i64 ((out.getD ((out.length : Int) - 1).toNat (0, ByteArray.empty)).1)), (.string ((out.getD ((out.length : Int) - 1).toNat (0, ByteArray.empty)).2))], rowE eI 47 (.slice A7 ((STP (nnumL ([] : List ByteArray) (TOK a)) (nnumL (nkvL ([] : List ByteArray) (TOK a)) (TOK b))).length) c7) (STP (nnumL ([] : List ByteArray) (TOK a)) (nnumL (nkvL ([] : List ByteArray) (TOK a)) (TOK b))), rowE eI 3 (.slice A5 ((nnumL (nkvL ([] : List ByteArray) (TOK a)) (TOK b)).length) c5) (nnumL (nkvL ([] : List ByteArray) (TOK a)) (TOK b)), rowE eS 9 (.slice A6 ((nkvL (nkvL ([] : List ByteArray) (TOK a)) (TOK b)).length) c6) (nkvL (nkvL ([] : List ByteArray) (TOK a)) (TOK b)), rowE eI 3 (.slice A3 ((nnumL ([] : List ByteArray) (TOK a)).length) c3) (nnumL ([] : List ByteArray) (TOK a)), rowE eS 9 (.slice A2 ((TOK b).length) c2) (TOK b), rowE eS 9 (.slice A1 ((TOK a).length) c1) (TOK a)] := by simpa only [List.length_set] using hS17
              have hS20 : SH w No w10 [rowE eI 47 (.slice A7 ((STP (nnumL ([] : List ByteArray) (TOK a)) (nnumL (nkvL ([] : List ByteArray) (TOK a)) (TOK b))).length) c7) (STP (nnumL ([] : List ByteArray) (TOK a)) (nnumL (nkvL ([] : List ByteArray) (TOK a)) (TOK b))), rowE eI 3 (.slice A5 ((nnumL (nkvL ([] : List ByteArray) (TOK a)) (TOK b)).length) c5) (nnumL (nkvL ([] : List ByteArray) (TOK a)) (TOK b)), rowE eS 9 (.slice A6 ((nkvL (nkvL ([] : List ByteArray) (TOK a)) (TOK b)).length) c6) (nkvL (nkvL ([] : List ByteArray) (TOK a)) (TOK b)), rowE eI 3 (.slice A3 ((nnumL ([] : List ByteArray) (TOK a)).length) c3) (nnumL ([] : List ByteArray) (TOK a)), rowE eS 9 (.slice A2 ((TOK b).length) c2) (TOK b), rowE eS 9 (.slice A1 ((TOK a).length) c1) (TOK a), rowE eBt 49 (.slice A_out ((out.set ((out.length : Int) - 1).toNat ((out.getD ((out.length : Int) - 1).toNat (0, ByteArray.empty)).1, ((out.getD ((out.length : Int) - 1).toNat (0, ByteArray.empty)).2) ++ ((TOK b).getD (j).toNat ByteArray.empty))).length) c_out) (out.set ((out.length : Int) - 1).toNat ((out.getD ((out.length : Int) - 1).toNat (0, ByteArray.empty)).1, ((out.getD ((out.length : Int) - 1).toNat (0, ByteArray.empty)).2) ++ ((TOK b).getD (j).toNat ByteArray.empty)))] := (SH.take 7 rfl (SH.front [_, _, _, _, _, _, _] (SH.front [_, _, _, _, _, _, _] (SH.front [_, _, _, _, _, _, _] (SH.front [_, _, _, _, _, _, _] (SH.front [_, _, _, _, _, _, _] (SH.front [_, _, _, _, _, _, _] hS19)))))))
              have hnew_ : ((out.set ((out.length : Int) - 1).toNat ((out.getD ((out.length : Int) - 1).toNat (0, ByteArray.empty)).1, ((out.getD ((out.length : Int) - 1).toNat (0, ByteArray.empty)).2) ++ ((TOK b).getD (j).toNat ByteArray.empty))) : List (Int × ByteArray)) = LAYB out (gI (STP (nnumL [] (TOK a)) (nnumL (nkvL [] (TOK a)) (TOK b))) k) ((TOK b).getD j.toNat ByteArray.empty) := q6.set (by omega) (by omega)
              exact ⟨_, by omega, A_out, c_out, (out.set ((out.length : Int) - 1).toNat ((out.getD ((out.length : Int) - 1).toNat (0, ByteArray.empty)).1, ((out.getD ((out.length : Int) - 1).toNat (0, ByteArray.empty)).2) ++ ((TOK b).getD (j).toNat ByteArray.empty))), i, j + 1, k + 1, by omega, by omega, (by rw [hnew_, ← edf_in klo hk (by omega)]; exact q1), (al_in q2 klo hk (by omega)), by omega, ((by have h_ := hbt_ ((TOK b).getD j.toNat ByteArray.empty); rw [hnew_]; omega)), ((by have h_ := hbl_ ((TOK b).getD j.toNat ByteArray.empty); rw [hnew_]; omega)), (LST.step klo hnew_), hS20, rfl, Weak.cons (congrArg (fun n_ => some (Value.slice _ n_ _)) (by simp only [List.length_set])) <| Weak.cons rfl <| Weak.cons rfl <| Weak.cons rfl <| Weak.cons rfl <| Weak.cons rfl <| Weak.cons rfl <| Weak.nil _⟩
            · skip
              refine WC.region ?_
              iterate 3 refine WL.lv rfl (LV.mv rfl) ?_
              obtain ⟨A16, c16, e9, g9⟩ := St.elt (SH.rd hS14 (.head _)) 0 k (by omega) (by omega)
              refine WL.lv rfl (LV.idxA Try.underlying52 ti47.sz rfl e9 rfl (by omega) (by omega)) ?_
              refine WL.lv rfl (LV.load1 (v := (.int .i64 (gI (STP (nnumL ([] : List ByteArray) (TOK a)) (nnumL (nkvL ([] : List ByteArray) (TOK a)) (TOK b))) (k)))) Try.underlying47 rfl rfl (g9 _ (KB.refl No _) 0 _ rfl)) ?_
              refine WL.lv rfl (LV.mv rfl) ?_
              refine WL.lv rfl (LV.build (vs := [(0, (.int .i64 (gI (STP (nnumL ([] : List ByteArray) (TOK a)) (nnumL (nkvL ([] : List ByteArray) (TOK a)) (TOK b))) (k)))), (1, (.string ((TOK b).getD (j).toNat ByteArray.empty)))]) (places := #[(0, 1), (1, 1)]) (cs := #[(.int .i64 (gI (STP (nnumL ([] : List ByteArray) (TOK a)) (nnumL (nkvL ([] : List ByteArray) (TOK a)) (TOK b))) (k))), (.string ((TOK b).getD (j).toNat ByteArray.empty))]) Try.underlying49 ti49 (fun _ => by kernel_rfl) rfl rfl) ?_
              refine WL.xe rfl (XE.buildSlice (E := eBt) [(0, (.agg #[(.int .i64 (gI (STP (nnumL ([] : List ByteArray) (TOK a)) (nnumL (nkvL ([] : List ByteArray) (TOK a)) (TOK b))) (k))), (.string ((TOK b).getD (j).toNat ByteArray.empty))]))] #[(.int .i64 (gI (STP (nnumL ([] : List ByteArray) (TOK a)) (nnumL (nkvL ([] : List ByteArray) (TOK a)) (TOK b))) (k))), (.string ((TOK b).getD (j).toNat ByteArray.empty))] [((gI (STP (nnumL ([] : List ByteArray) (TOK a)) (nnumL (nkvL ([] : List ByteArray) (TOK a)) (TOK b))) (k) : Int), ((TOK b).getD (j).toNat ByteArray.empty : ByteArray))] hS14 Try.underlying29 ti49 rfl (by decide) (by kernel_rfl) (.inr rfl) rfl rfl (by decide)) ?_
              rintro _ w11 ⟨b3, rfl, hS21, hk5⟩
              have hS22 : SH w No w11 [rowE eBt 49 (.slice A_out out.length c_out) out, rowE eBt 49 (.slice (some ⟨b3, 0, none⟩) 1 1) [((gI (STP (nnumL ([] : List ByteArray) (TOK a)) (nnumL (nkvL ([] : List ByteArray) (TOK a)) (TOK b))) (k) : Int), ((TOK b).getD (j).toNat ByteArray.empty : ByteArray))], rowE eI 47 (.slice A7 ((STP (nnumL ([] : List ByteArray) (TOK a)) (nnumL (nkvL ([] : List ByteArray) (TOK a)) (TOK b))).length) c7) (STP (nnumL ([] : List ByteArray) (TOK a)) (nnumL (nkvL ([] : List ByteArray) (TOK a)) (TOK b))), rowE eI 3 (.slice A5 ((nnumL (nkvL ([] : List ByteArray) (TOK a)) (TOK b)).length) c5) (nnumL (nkvL ([] : List ByteArray) (TOK a)) (TOK b)), rowE eS 9 (.slice A6 ((nkvL (nkvL ([] : List ByteArray) (TOK a)) (TOK b)).length) c6) (nkvL (nkvL ([] : List ByteArray) (TOK a)) (TOK b)), rowE eI 3 (.slice A3 ((nnumL ([] : List ByteArray) (TOK a)).length) c3) (nnumL ([] : List ByteArray) (TOK a)), rowE eS 9 (.slice A2 ((TOK b).length) c2) (TOK b), rowE eS 9 (.slice A1 ((TOK a).length) c1) (TOK a)] := (SH.front [_, _, _, _, _, _, _] hS21)
              refine WL.xe rfl (XE.append hS22 Try.underlying29 ti49 rfl (St.now (SH.rd hS22 (.tail _ (.head _)))) rfl rfl (by first | omega | simp only [List.length_append, List.length_cons, List.length_nil, List.length_take, List.length_reverse, List.length_drop] at *; omega) (by first | omega | simp only [List.length_append, List.length_cons, List.length_nil, List.length_take, List.length_reverse, List.length_drop] at *; omega)) ?_
              rintro _ w12 ⟨A17, c17, rfl, hS23, hk6⟩
              refine WL.lv rfl (LV.asg rfl) ?_
              refine WL.nil (blockQ.n <| thenQ.n ?_)
              refine WC.region ?_
              refine WL.lv rfl (LV.mv rfl) ?_
              refine WL.lv rfl (LV.add rfl rfl (wr64 (by omega) (by omega))) ?_
              refine WL.lv rfl (LV.asg rfl) ?_
              refine WL.nil (thenQ.n ?_)
              have hS24 : SH w No w12 [rowE eI 47 (.slice A7 ((STP (nnumL ([] : List ByteArray) (TOK a)) (nnumL (nkvL ([] : List ByteArray) (TOK a)) (TOK b))).length) c7) (STP (nnumL ([] : List ByteArray) (TOK a)) (nnumL (nkvL ([] : List ByteArray) (TOK a)) (TOK b))), rowE eI 3 (.slice A5 ((nnumL (nkvL ([] : List ByteArray) (TOK a)) (TOK b)).length) c5) (nnumL (nkvL ([] : List ByteArray) (TOK a)) (TOK b)), rowE eS 9 (.slice A6 ((nkvL (nkvL ([] : List ByteArray) (TOK a)) (TOK b)).length) c6) (nkvL (nkvL ([] : List ByteArray) (TOK a)) (TOK b)), rowE eI 3 (.slice A3 ((nnumL ([] : List ByteArray) (TOK a)).length) c3) (nnumL ([] : List ByteArray) (TOK a)), rowE eS 9 (.slice A2 ((TOK b).length) c2) (TOK b), rowE eS 9 (.slice A1 ((TOK a).length) c1) (TOK a), rowE eBt 49 (.slice A17 ((out ++ [((gI (STP (nnumL ([] : List ByteArray) (TOK a)) (nnumL (nkvL ([] : List ByteArray) (TOK a)) (TOK b))) (k) : Int), ((TOK b).getD (j).toNat ByteArray.empty : ByteArray))]).length) c17) (out ++ [((gI (STP (nnumL ([] : List ByteArray) (TOK a)) (nnumL (nkvL ([] : List ByteArray) (TOK a)) (TOK b))) (k) : Int), ((TOK b).getD (j).toNat ByteArray.empty : ByteArray))])] := (SH.take 7 rfl (SH.front [_, _, _, _, _, _, _] (SH.front [_, _, _, _, _, _, _] (SH.front [_, _, _, _, _, _, _] (SH.front [_, _, _, _, _, _, _] (SH.front [_, _, _, _, _, _, _] (SH.front [_, _, _, _, _, _, _] hS23)))))))
              have hnew_ : ((out ++ [((gI (STP (nnumL ([] : List ByteArray) (TOK a)) (nnumL (nkvL ([] : List ByteArray) (TOK a)) (TOK b))) (k) : Int), ((TOK b).getD (j).toNat ByteArray.empty : ByteArray))]) : List (Int × ByteArray)) = LAYB out (gI (STP (nnumL [] (TOK a)) (nnumL (nkvL [] (TOK a)) (TOK b))) k) ((TOK b).getD j.toNat ByteArray.empty) := q6.add klo (fun h_ => by omega)
              exact ⟨_, by omega, A17, c17, (out ++ [((gI (STP (nnumL ([] : List ByteArray) (TOK a)) (nnumL (nkvL ([] : List ByteArray) (TOK a)) (TOK b))) (k) : Int), ((TOK b).getD (j).toNat ByteArray.empty : ByteArray))]), i, j + 1, k + 1, by omega, by omega, (by rw [hnew_, ← edf_in klo hk (by omega)]; exact q1), (al_in q2 klo hk (by omega)), by omega, ((by have h_ := hbt_ ((TOK b).getD j.toNat ByteArray.empty); rw [hnew_]; omega)), ((by have h_ := hbl_ ((TOK b).getD j.toNat ByteArray.empty); rw [hnew_]; omega)), (LST.step klo hnew_), hS24, rfl, Weak.cons rfl <| Weak.cons rfl <| Weak.cons rfl <| Weak.cons rfl <| Weak.cons rfl <| Weak.cons rfl <| Weak.cons rfl <| Weak.nil _⟩
          · refine WS.pure rfl rfl (fun _ => LV.as (LV.gtI rfl rfl) (decide_eq_false hg2)) ?_
            refine WS.pure rfl rfl (fun _ => LV.mv rfl) ?_
            iterate 4 refine WS.off rfl rfl ?_
            refine WS.offL rfl rfl ?_
            iterate 3 refine WS.off rfl rfl ?_
            refine WS.offL rfl rfl ?_
            refine WS.off rfl rfl ?_
            refine WS.pure rfl rfl (fun _ => LV.pickF rfl rfl) ?_
            refine WS.nil (thenQ.n ?_)
            refine WC.condF rfl ?_
            refine WC.region ?_
            iterate 3 refine WL.lv rfl (LV.mv rfl) ?_
            obtain ⟨A18, c18, e10, g10⟩ := St.elt (SH.rd hS14 (.head _)) 0 k (by omega) (by omega)
            refine WL.lv rfl (LV.idxA Try.underlying52 ti47.sz rfl e10 rfl (by omega) (by omega)) ?_
            refine WL.lv rfl (LV.load1 (v := (.int .i64 (gI (STP (nnumL ([] : List ByteArray) (TOK a)) (nnumL (nkvL ([] : List ByteArray) (TOK a)) (TOK b))) (k)))) Try.underlying47 rfl rfl (g10 _ (KB.refl No _) 0 _ rfl)) ?_
            refine WL.lv rfl (LV.mv rfl) ?_
            refine WL.lv rfl (LV.build (vs := [(0, (.int .i64 (gI (STP (nnumL ([] : List ByteArray) (TOK a)) (nnumL (nkvL ([] : List ByteArray) (TOK a)) (TOK b))) (k)))), (1, (.string ((TOK b).getD (j).toNat ByteArray.empty)))]) (places := #[(0, 1), (1, 1)]) (cs := #[(.int .i64 (gI (STP (nnumL ([] : List ByteArray) (TOK a)) (nnumL (nkvL ([] : List ByteArray) (TOK a)) (TOK b))) (k))), (.string ((TOK b).getD (j).toNat ByteArray.empty))]) Try.underlying49 ti49 (fun _ => by kernel_rfl) rfl rfl) ?_
            refine WL.xe rfl (XE.buildSlice (E := eBt) [(0, (.agg #[(.int .i64 (gI (STP (nnumL ([] : List ByteArray) (TOK a)) (nnumL (nkvL ([] : List ByteArray) (TOK a)) (TOK b))) (k))), (.string ((TOK b).getD (j).toNat ByteArray.empty))]))] #[(.int .i64 (gI (STP (nnumL ([] : List ByteArray) (TOK a)) (nnumL (nkvL ([] : List ByteArray) (TOK a)) (TOK b))) (k))), (.string ((TOK b).getD (j).toNat ByteArray.empty))] [((gI (STP (nnumL ([] : List ByteArray) (TOK a)) (nnumL (nkvL ([] : List ByteArray) (TOK a)) (TOK b))) (k) : Int), ((TOK b).getD (j).toNat ByteArray.empty : ByteArray))] hS14 Try.underlying29 ti49 rfl (by decide) (by kernel_rfl) (.inr rfl) rfl rfl (by decide)) ?_
            rintro _ w13 ⟨b4, rfl, hS25, hk7⟩
            have hS26 : SH w No w13 [rowE eBt 49 (.slice A_out out.length c_out) out, rowE eBt 49 (.slice (some ⟨b4, 0, none⟩) 1 1) [((gI (STP (nnumL ([] : List ByteArray) (TOK a)) (nnumL (nkvL ([] : List ByteArray) (TOK a)) (TOK b))) (k) : Int), ((TOK b).getD (j).toNat ByteArray.empty : ByteArray))], rowE eI 47 (.slice A7 ((STP (nnumL ([] : List ByteArray) (TOK a)) (nnumL (nkvL ([] : List ByteArray) (TOK a)) (TOK b))).length) c7) (STP (nnumL ([] : List ByteArray) (TOK a)) (nnumL (nkvL ([] : List ByteArray) (TOK a)) (TOK b))), rowE eI 3 (.slice A5 ((nnumL (nkvL ([] : List ByteArray) (TOK a)) (TOK b)).length) c5) (nnumL (nkvL ([] : List ByteArray) (TOK a)) (TOK b)), rowE eS 9 (.slice A6 ((nkvL (nkvL ([] : List ByteArray) (TOK a)) (TOK b)).length) c6) (nkvL (nkvL ([] : List ByteArray) (TOK a)) (TOK b)), rowE eI 3 (.slice A3 ((nnumL ([] : List ByteArray) (TOK a)).length) c3) (nnumL ([] : List ByteArray) (TOK a)), rowE eS 9 (.slice A2 ((TOK b).length) c2) (TOK b), rowE eS 9 (.slice A1 ((TOK a).length) c1) (TOK a)] := (SH.front [_, _, _, _, _, _, _] hS25)
            refine WL.xe rfl (XE.append hS26 Try.underlying29 ti49 rfl (St.now (SH.rd hS26 (.tail _ (.head _)))) rfl rfl (by first | omega | simp only [List.length_append, List.length_cons, List.length_nil, List.length_take, List.length_reverse, List.length_drop] at *; omega) (by first | omega | simp only [List.length_append, List.length_cons, List.length_nil, List.length_take, List.length_reverse, List.length_drop] at *; omega)) ?_
            rintro _ w14 ⟨A19, c19, rfl, hS27, hk8⟩
            refine WL.lv rfl (LV.asg rfl) ?_
            refine WL.nil (blockQ.n <| thenQ.n ?_)
            refine WC.region ?_
            refine WL.lv rfl (LV.mv rfl) ?_
            refine WL.lv rfl (LV.add rfl rfl (wr64 (by omega) (by omega))) ?_
            refine WL.lv rfl (LV.asg rfl) ?_
            refine WL.nil (thenQ.n ?_)
            have hS28 : SH w No w14 [rowE eI 47 (.slice A7 ((STP (nnumL ([] : List ByteArray) (TOK a)) (nnumL (nkvL ([] : List ByteArray) (TOK a)) (TOK b))).length) c7) (STP (nnumL ([] : List ByteArray) (TOK a)) (nnumL (nkvL ([] : List ByteArray) (TOK a)) (TOK b))), rowE eI 3 (.slice A5 ((nnumL (nkvL ([] : List ByteArray) (TOK a)) (TOK b)).length) c5) (nnumL (nkvL ([] : List ByteArray) (TOK a)) (TOK b)), rowE eS 9 (.slice A6 ((nkvL (nkvL ([] : List ByteArray) (TOK a)) (TOK b)).length) c6) (nkvL (nkvL ([] : List ByteArray) (TOK a)) (TOK b)), rowE eI 3 (.slice A3 ((nnumL ([] : List ByteArray) (TOK a)).length) c3) (nnumL ([] : List ByteArray) (TOK a)), rowE eS 9 (.slice A2 ((TOK b).length) c2) (TOK b), rowE eS 9 (.slice A1 ((TOK a).length) c1) (TOK a), rowE eBt 49 (.slice A19 ((out ++ [((gI (STP (nnumL ([] : List ByteArray) (TOK a)) (nnumL (nkvL ([] : List ByteArray) (TOK a)) (TOK b))) (k) : Int), ((TOK b).getD (j).toNat ByteArray.empty : ByteArray))]).length) c19) (out ++ [((gI (STP (nnumL ([] : List ByteArray) (TOK a)) (nnumL (nkvL ([] : List ByteArray) (TOK a)) (TOK b))) (k) : Int), ((TOK b).getD (j).toNat ByteArray.empty : ByteArray))])] := (SH.take 7 rfl (SH.front [_, _, _, _, _, _, _] (SH.front [_, _, _, _, _, _, _] (SH.front [_, _, _, _, _, _, _] (SH.front [_, _, _, _, _, _, _] (SH.front [_, _, _, _, _, _, _] (SH.front [_, _, _, _, _, _, _] hS27)))))))
            have hnew_ : ((out ++ [((gI (STP (nnumL ([] : List ByteArray) (TOK a)) (nnumL (nkvL ([] : List ByteArray) (TOK a)) (TOK b))) (k) : Int), ((TOK b).getD (j).toNat ByteArray.empty : ByteArray))]) : List (Int × ByteArray)) = LAYB out (gI (STP (nnumL [] (TOK a)) (nnumL (nkvL [] (TOK a)) (TOK b))) k) ((TOK b).getD j.toNat ByteArray.empty) := q6.add klo (fun h_ => by omega)
            exact ⟨_, by omega, A19, c19, (out ++ [((gI (STP (nnumL ([] : List ByteArray) (TOK a)) (nnumL (nkvL ([] : List ByteArray) (TOK a)) (TOK b))) (k) : Int), ((TOK b).getD (j).toNat ByteArray.empty : ByteArray))]), i, j + 1, k + 1, by omega, by omega, (by rw [hnew_, ← edf_in klo hk (by omega)]; exact q1), (al_in q2 klo hk (by omega)), by omega, ((by have h_ := hbt_ ((TOK b).getD j.toNat ByteArray.empty); rw [hnew_]; omega)), ((by have h_ := hbl_ ((TOK b).getD j.toNat ByteArray.empty); rw [hnew_]; omega)), (LST.step klo hnew_), hS28, rfl, Weak.cons rfl <| Weak.cons rfl <| Weak.cons rfl <| Weak.cons rfl <| Weak.cons rfl <| Weak.cons rfl <| Weak.cons rfl <| Weak.nil _⟩
        · skip
          refine WC.region ?_
          iterate 2 refine WL.lv rfl (LV.mv rfl) ?_
          obtain ⟨A20, c20, e11, g11⟩ := St.elt (SH.rd hL1 (.tail _ (.tail _ (.tail _ (.tail _ (.tail _ (.head _))))))) ByteArray.empty i (by omega) (by omega)
          refine WL.lv rfl (LV.idxA Try.underlying22 ti9.sz rfl e11 rfl (by omega) (by omega)) ?_
          refine WL.lv rfl (LV.load1 (v := (.string ((TOK a).getD (i).toNat ByteArray.empty))) Try.underlying9 rfl rfl (g11 _ (KB.refl No _) 0 _ rfl)) ?_
          refine WL.lv rfl (LV.asg rfl) ?_
          refine WL.nil (thenQ.n ?_)
          iterate 2 refine WC.seq ?_
          refine WC.region ?_
          iterate 2 refine WL.lv rfl (LV.mv rfl) ?_
          obtain ⟨A21, c21, e12, g12⟩ := St.elt (SH.rd hL1 (.head _)) 0 k (by omega) (by omega)
          refine WL.lv rfl (LV.idxA Try.underlying52 ti47.sz rfl e12 rfl (by omega) (by omega)) ?_
          refine WL.lv rfl (LV.load1 (v := (.int .i64 (gI (STP (nnumL ([] : List ByteArray) (TOK a)) (nnumL (nkvL ([] : List ByteArray) (TOK a)) (TOK b))) (k)))) Try.underlying47 rfl rfl (g12 _ (KB.refl No _) 0 _ rfl)) ?_
          refine WL.lv rfl (LV.as (LV.neI rfl rfl) (decide_eq_true (by omega))) ?_
          refine WL.nil (thenQ.n ?_)
          refine WC.condT rfl ?_
          refine WC.region ?_
          refine WL.lv rfl (LV.mv rfl) ?_
          refine WL.lv rfl (LV.add rfl rfl (wr64 (by omega) (by omega))) ?_
          refine WL.lv rfl (LV.asg rfl) ?_
          refine WL.nil (thenQ.n ?_)
          iterate 2 refine WC.seq ?_
          refine WC.region ?_
          iterate 2 refine WL.lv rfl (LV.mv rfl) ?_
          obtain ⟨A22, c22, e13, g13⟩ := St.elt (SH.rd hL1 (.head _)) 0 k (by omega) (by omega)
          refine WL.lv rfl (LV.idxA Try.underlying52 ti47.sz rfl e13 rfl (by omega) (by omega)) ?_
          refine WL.lv rfl (LV.load1 (v := (.int .i64 (gI (STP (nnumL ([] : List ByteArray) (TOK a)) (nnumL (nkvL ([] : List ByteArray) (TOK a)) (TOK b))) (k)))) Try.underlying47 rfl rfl (g13 _ (KB.refl No _) 0 _ rfl)) ?_
          refine WL.lv rfl (LV.neI rfl rfl) ?_
          refine WL.nil (thenQ.n ?_)
          refine WC.condP (p := (gI (STP (nnumL ([] : List ByteArray) (TOK a)) (nnumL (nkvL ([] : List ByteArray) (TOK a)) (TOK b))) (k)) ≠ 2) rfl (fun hc4 => ?_) (fun hc4 => ?_)
          · skip
            refine WC.region ?_
            refine WL.lv rfl (LV.mv rfl) ?_
            refine WL.lv rfl (LV.add rfl rfl (wr64 (by omega) (by omega))) ?_
            refine WL.lv rfl (LV.asg rfl) ?_
            refine WL.nil (thenQ.n ?_)
            refine WC.seq ?_
            have hS29 := SH.drew hL1
            refine WC.regionD [] (fun w_ => KB No w7.drew w_) [(.pure, 0), (.pure, 1), (.pure, 2), (.pure, 3), (.pure, 4), (.pure, 5), (.pure, 6), (.look, 7), (.pure, 8), (.pure, 9), (.pure, 10), (.look, 11), (.pure, 12), (.pure, 13)] (by kernel_rfl) (by kernel_rfl) (KB.refl _ _) ?_
            refine WS.pure rfl rfl (fun _ => LV.mv rfl) ?_
            rcases Decidable.em (k > 0) with hg3 | hg3
            · refine WS.pure rfl rfl (fun _ => LV.as (LV.gtI rfl rfl) (decide_eq_true hg3)) ?_
              iterate 3 refine WS.pure rfl rfl (fun _ => LV.mv rfl) ?_
              refine WS.pure rfl rfl (fun _ => LV.sub rfl rfl (wr64 (by omega) (by omega))) ?_
              obtain ⟨A23, c23, e14, g14⟩ := St.elt (SH.rd hS29 (.head _)) 0 (k - 1) (by omega) (by omega)
              refine WS.pure rfl rfl (fun _ => LV.idxA Try.underlying52 ti47.sz rfl e14 rfl (by omega) (by omega)) ?_
              refine WS.look rfl rfl (fun _ hk_ => LV.load1 (v := (.int .i64 (gI (STP (nnumL ([] : List ByteArray) (TOK a)) (nnumL (nkvL ([] : List ByteArray) (TOK a)) (TOK b))) (k - 1)))) Try.underlying47 rfl rfl (g14 _ hk_ 0 _ rfl)) ?_
              iterate 2 refine WS.pure rfl rfl (fun _ => LV.mv rfl) ?_
              obtain ⟨A24, c24, e15, g15⟩ := St.elt (SH.rd hS29 (.head _)) 0 k (by omega) (by omega)
              refine WS.pure rfl rfl (fun _ => LV.idxA Try.underlying52 ti47.sz rfl e15 rfl (by omega) (by omega)) ?_
              refine WS.look rfl rfl (fun _ hk_ => LV.load1 (v := (.int .i64 (gI (STP (nnumL ([] : List ByteArray) (TOK a)) (nnumL (nkvL ([] : List ByteArray) (TOK a)) (TOK b))) (k)))) Try.underlying47 rfl rfl (g15 _ hk_ 0 _ rfl)) ?_
              refine WS.pure rfl rfl (fun _ => LV.eqI rfl rfl) ?_
              refine WS.pure rfl rfl (fun _ => LV.pickT rfl rfl) ?_
              refine WS.nil (thenQ.n ?_)
              refine WC.condP (p := (gI (STP (nnumL ([] : List ByteArray) (TOK a)) (nnumL (nkvL ([] : List ByteArray) (TOK a)) (TOK b))) (k - 1)) = (gI (STP (nnumL ([] : List ByteArray) (TOK a)) (nnumL (nkvL ([] : List ByteArray) (TOK a)) (TOK b))) (k))) rfl (fun hc5 => ?_) (fun hc5 => ?_)
              · skip
                refine WC.seq ?_
                refine WC.region ?_
                iterate 2 refine WL.lv rfl (LV.mv rfl) ?_
                refine WL.lv rfl (LV.lenL Try.underlying29 rfl) ?_
                refine WL.lv rfl (LV.sub rfl rfl (wr64 (by omega) (by omega))) ?_
                have hq6_ := q6.2 (by omega)
                obtain ⟨A25, c25, e16, g16⟩ := St.elt (SH.rd hS29 (.tail _ (.tail _ (.tail _ (.tail _ (.tail _ (.tail _ (.head _)))))))) (0, ByteArray.empty) ((out.length : Int) - 1) (by omega) (by omega)
                refine WL.lv rfl (LV.idxA Try.underlying29 ti49.sz rfl e16 rfl (by omega) (by omega)) ?_
                refine WL.lv rfl (LV.loadAgg (cs := [(.int .i64 ((out.getD ((out.length : Int) - 1).toNat (0, ByteArray.empty)).1)), (.string ((out.getD ((out.length : Int) - 1).toNat (0, ByteArray.empty)).2))]) Try.underlying49 rfl ti49 rfl rfl (fun j u hu => g16 _ (KB.refl No _) j u hu)) ?_
                refine WL.xe rfl (XE.alloc #[(.int .i64 0), (.string ⟨#[]⟩)] hS29 ti49 rfl) ?_
                rintro _ w15 ⟨b5, rfl, hS30, hk9⟩
                refine WL.xse rfl (XSE.blkAgg #[(.int .i64 ((out.getD ((out.length : Int) - 1).toNat (0, ByteArray.empty)).1)), (.string ((out.getD ((out.length : Int) - 1).toNat (0, ByteArray.empty)).2))] hS30 (by kernel_rfl) rfl (by kernel_rfl) rfl rfl) ?_
                rintro w16 ⟨hS31, hk10⟩
                refine WL.nil (thenQ.n ?_)
                refine WC.region ?_
                iterate 2 refine WL.lv rfl (LV.mv rfl) ?_
                refine WL.lv rfl (LV.lenL Try.underlying29 rfl) ?_
                refine WL.lv rfl (LV.sub rfl rfl (wr64 (by omega) (by omega))) ?_
                refine WL.lv rfl (LV.fieldA Try.underlying49 rfl ti47.sz rfl) ?_
                refine WL.lv rfl (LV.load1 Try.underlying47 rfl rfl (Blk.cellN (SH.at hS31 (.head _)) 0 rfl _ (KB.refl No _))) ?_
                refine WL.lv rfl (LV.fieldA Try.underlying49 rfl ti9.sz rfl) ?_
                refine WL.lv rfl (LV.load1 Try.underlying9 rfl rfl (Blk.cellN (SH.at hS31 (.head _)) 1 rfl _ (KB.refl No _))) ?_
                refine WL.lv rfl (LV.mv rfl) ?_
                have hsm_ := szB_mem (l := out) (p := out.getD ((out.length : Int) - 1).toNat (0, ByteArray.empty)) (getD_mem (by omega))
                refine WL.lv rfl (LV.addS rfl rfl (by first | omega | (simp only [ByteArray.size_append, ByteArray.size_extract, lit1]; omega))) ?_
                refine WL.lv rfl (LV.build (vs := [(0, (.int .i64 ((out.getD ((out.length : Int) - 1).toNat (0, ByteArray.empty)).1))), (1, (.string (((out.getD ((out.length : Int) - 1).toNat (0, ByteArray.empty)).2) ++ ((TOK a).getD (i).toNat ByteArray.empty))))]) (places := #[(0, 1), (1, 1)]) (cs := #[(.int .i64 ((out.getD ((out.length : Int) - 1).toNat (0, ByteArray.empty)).1)), (.string (((out.getD ((out.length : Int) - 1).toNat (0, ByteArray.empty)).2) ++ ((TOK a).getD (i).toNat ByteArray.empty)))]) Try.underlying49 ti49 (fun _ => by kernel_rfl) rfl rfl) ?_
                obtain ⟨A26, c26, e17, g17⟩ := St.elt (SH.rd hS31 (.tail _ (.tail _ (.tail _ (.tail _ (.tail _ (.tail _ (.tail _ (.head _))))))))) (0, ByteArray.empty) ((out.length : Int) - 1) (by omega) (by omega)
                refine WL.lv rfl (LV.idxA Try.underlying29 ti49.sz rfl e17 rfl (by omega) (by omega)) ?_
                have hS33 : SH w No w16 [rowE eBt 49 (.slice A_out out.length c_out) out, blkE b5 49 #[(.int .i64 ((out.getD ((out.length : Int) - 1).toNat (0, ByteArray.empty)).1)), (.string ((out.getD ((out.length : Int) - 1).toNat (0, ByteArray.empty)).2))], rowE eI 47 (.slice A7 ((STP (nnumL ([] : List ByteArray) (TOK a)) (nnumL (nkvL ([] : List ByteArray) (TOK a)) (TOK b))).length) c7) (STP (nnumL ([] : List ByteArray) (TOK a)) (nnumL (nkvL ([] : List ByteArray) (TOK a)) (TOK b))), rowE eI 3 (.slice A5 ((nnumL (nkvL ([] : List ByteArray) (TOK a)) (TOK b)).length) c5) (nnumL (nkvL ([] : List ByteArray) (TOK a)) (TOK b)), rowE eS 9 (.slice A6 ((nkvL (nkvL ([] : List ByteArray) (TOK a)) (TOK b)).length) c6) (nkvL (nkvL ([] : List ByteArray) (TOK a)) (TOK b)), rowE eI 3 (.slice A3 ((nnumL ([] : List ByteArray) (TOK a)).length) c3) (nnumL ([] : List ByteArray) (TOK a)), rowE eS 9 (.slice A2 ((TOK b).length) c2) (TOK b), rowE eS 9 (.slice A1 ((TOK a).length) c1) (TOK a)] := (SH.front [_, _, _, _, _, _, _] hS31)
                refine WL.xse rfl (XSE.rowN (i := (out.length : Int) - 1) (cs := #[(.int .i64 ((out.getD ((out.length : Int) - 1).toNat (0, ByteArray.empty)).1)), (.string (((out.getD ((out.length : Int) - 1).toNat (0, ByteArray.empty)).2) ++ ((TOK a).getD (i).toNat ByteArray.empty)))]) ((out.getD ((out.length : Int) - 1).toNat (0, ByteArray.empty)).1, ((out.getD ((out.length : Int) - 1).toNat (0, ByteArray.empty)).2) ++ ((TOK a).getD (i).toNat ByteArray.empty)) hS33 e17 (by omega) (by omega) ti49.sz rfl rfl rfl) ?_
                rintro w17 ⟨hS32, hk11⟩
                refine WL.nil (blockQ.n <| thenQ.n ?_)
                refine WC.region ?_
                refine WL.lv rfl (LV.mv rfl) ?_
                refine WL.lv rfl (LV.add rfl rfl (wr64 (by omega) (by omega))) ?_
                refine WL.lv rfl (LV.asg rfl) ?_
                refine WL.nil (thenQ.n ?_)
                have hS34 : SH w No w17 [rowE eBt 49 (.slice A_out ((out.set ((out.length : Int) - 1).toNat ((out.getD ((out.length : Int) - 1).toNat (0, ByteArray.empty)).1, ((out.getD ((out.length : Int) - 1).toNat (0, ByteArray.empty)).2) ++ ((TOK a).getD (i).toNat ByteArray.empty))).length) c_out) (out.set ((out.length : Int) - 1).toNat ((out.getD ((out.length : Int) - 1).toNat (0, ByteArray.empty)).1, ((out.getD ((out.length : Int) - 1).toNat (0, ByteArray.empty)).2) ++ ((TOK a).getD (i).toNat ByteArray.empty))), blkE b5 49 #[(.int .i64 ((out.getD ((out.length : Int) - 1).toNat (0, ByteArray.empty)).1)), (.string ((out.getD ((out.length : Int) - 1).toNat (0, ByteArray.empty)).2))], rowE eI 47 (.slice A7 ((STP (nnumL ([] : List ByteArray) (TOK a)) (nnumL (nkvL ([] : List ByteArray) (TOK a)) (TOK b))).length) c7) (STP (nnumL ([] : List ByteArray) (TOK a)) (nnumL (nkvL ([] : List ByteArray) (TOK a)) (TOK b))), rowE eI 3 (.slice A5 ((nnumL (nkvL ([] : List ByteArray) (TOK a)) (TOK b)).length) c5) (nnumL (nkvL ([] : List ByteArray) (TOK a)) (TOK b)), rowE eS 9 (.slice A6 ((nkvL (nkvL ([] : List ByteArray) (TOK a)) (TOK b)).length) c6) (nkvL (nkvL ([] : List ByteArray) (TOK a)) (TOK b)), rowE eI 3 (.slice A3 ((nnumL ([] : List ByteArray) (TOK a)).length) c3) (nnumL ([] : List ByteArray) (TOK a)), rowE eS 9 (.slice A2 ((TOK b).length) c2) (TOK b), rowE eS 9 (.slice A1 ((TOK a).length) c1) (TOK a)] := by simpa only [List.length_set] using hS32
                have hS35 : SH w No w17 [rowE eI 47 (.slice A7 ((STP (nnumL ([] : List ByteArray) (TOK a)) (nnumL (nkvL ([] : List ByteArray) (TOK a)) (TOK b))).length) c7) (STP (nnumL ([] : List ByteArray) (TOK a)) (nnumL (nkvL ([] : List ByteArray) (TOK a)) (TOK b))), rowE eI 3 (.slice A5 ((nnumL (nkvL ([] : List ByteArray) (TOK a)) (TOK b)).length) c5) (nnumL (nkvL ([] : List ByteArray) (TOK a)) (TOK b)), rowE eS 9 (.slice A6 ((nkvL (nkvL ([] : List ByteArray) (TOK a)) (TOK b)).length) c6) (nkvL (nkvL ([] : List ByteArray) (TOK a)) (TOK b)), rowE eI 3 (.slice A3 ((nnumL ([] : List ByteArray) (TOK a)).length) c3) (nnumL ([] : List ByteArray) (TOK a)), rowE eS 9 (.slice A2 ((TOK b).length) c2) (TOK b), rowE eS 9 (.slice A1 ((TOK a).length) c1) (TOK a), rowE eBt 49 (.slice A_out ((out.set ((out.length : Int) - 1).toNat ((out.getD ((out.length : Int) - 1).toNat (0, ByteArray.empty)).1, ((out.getD ((out.length : Int) - 1).toNat (0, ByteArray.empty)).2) ++ ((TOK a).getD (i).toNat ByteArray.empty))).length) c_out) (out.set ((out.length : Int) - 1).toNat ((out.getD ((out.length : Int) - 1).toNat (0, ByteArray.empty)).1, ((out.getD ((out.length : Int) - 1).toNat (0, ByteArray.empty)).2) ++ ((TOK a).getD (i).toNat ByteArray.empty)))] := (SH.take 7 rfl (SH.front [_, _, _, _, _, _, _] (SH.front [_, _, _, _, _, _, _] (SH.front [_, _, _, _, _, _, _] (SH.front [_, _, _, _, _, _, _] (SH.front [_, _, _, _, _, _, _] (SH.front [_, _, _, _, _, _, _] hS34)))))))
                have hnew_ : ((out.set ((out.length : Int) - 1).toNat ((out.getD ((out.length : Int) - 1).toNat (0, ByteArray.empty)).1, ((out.getD ((out.length : Int) - 1).toNat (0, ByteArray.empty)).2) ++ ((TOK a).getD (i).toNat ByteArray.empty))) : List (Int × ByteArray)) = LAYB out (gI (STP (nnumL [] (TOK a)) (nnumL (nkvL [] (TOK a)) (TOK b))) k) ((TOK a).getD i.toNat ByteArray.empty) := q6.set (by omega) (by omega)
                exact ⟨_, by omega, A_out, c_out, (out.set ((out.length : Int) - 1).toNat ((out.getD ((out.length : Int) - 1).toNat (0, ByteArray.empty)).1, ((out.getD ((out.length : Int) - 1).toNat (0, ByteArray.empty)).2) ++ ((TOK a).getD (i).toNat ByteArray.empty))), i + 1, j + 1, k + 1, by omega, by omega, (by rw [hnew_, ← edf_keep klo hk (by omega)]; exact q1), (al_keep q2 klo hk (by omega)), by omega, ((by have h_ := hbt_ ((TOK a).getD i.toNat ByteArray.empty); rw [hnew_]; omega)), ((by have h_ := hbl_ ((TOK a).getD i.toNat ByteArray.empty); rw [hnew_]; omega)), (LST.step klo hnew_), hS35, rfl, Weak.cons (congrArg (fun n_ => some (Value.slice _ n_ _)) (by simp only [List.length_set])) <| Weak.cons rfl <| Weak.cons rfl <| Weak.cons rfl <| Weak.cons rfl <| Weak.cons rfl <| Weak.cons rfl <| Weak.nil _⟩
              · skip
                refine WC.region ?_
                iterate 3 refine WL.lv rfl (LV.mv rfl) ?_
                obtain ⟨A27, c27, e18, g18⟩ := St.elt (SH.rd hS29 (.head _)) 0 k (by omega) (by omega)
                refine WL.lv rfl (LV.idxA Try.underlying52 ti47.sz rfl e18 rfl (by omega) (by omega)) ?_
                refine WL.lv rfl (LV.load1 (v := (.int .i64 (gI (STP (nnumL ([] : List ByteArray) (TOK a)) (nnumL (nkvL ([] : List ByteArray) (TOK a)) (TOK b))) (k)))) Try.underlying47 rfl rfl (g18 _ (KB.refl No _) 0 _ rfl)) ?_
                refine WL.lv rfl (LV.mv rfl) ?_
                refine WL.lv rfl (LV.build (vs := [(0, (.int .i64 (gI (STP (nnumL ([] : List ByteArray) (TOK a)) (nnumL (nkvL ([] : List ByteArray) (TOK a)) (TOK b))) (k)))), (1, (.string ((TOK a).getD (i).toNat ByteArray.empty)))]) (places := #[(0, 1), (1, 1)]) (cs := #[(.int .i64 (gI (STP (nnumL ([] : List ByteArray) (TOK a)) (nnumL (nkvL ([] : List ByteArray) (TOK a)) (TOK b))) (k))), (.string ((TOK a).getD (i).toNat ByteArray.empty))]) Try.underlying49 ti49 (fun _ => by kernel_rfl) rfl rfl) ?_
                refine WL.xe rfl (XE.buildSlice (E := eBt) [(0, (.agg #[(.int .i64 (gI (STP (nnumL ([] : List ByteArray) (TOK a)) (nnumL (nkvL ([] : List ByteArray) (TOK a)) (TOK b))) (k))), (.string ((TOK a).getD (i).toNat ByteArray.empty))]))] #[(.int .i64 (gI (STP (nnumL ([] : List ByteArray) (TOK a)) (nnumL (nkvL ([] : List ByteArray) (TOK a)) (TOK b))) (k))), (.string ((TOK a).getD (i).toNat ByteArray.empty))] [((gI (STP (nnumL ([] : List ByteArray) (TOK a)) (nnumL (nkvL ([] : List ByteArray) (TOK a)) (TOK b))) (k) : Int), ((TOK a).getD (i).toNat ByteArray.empty : ByteArray))] hS29 Try.underlying29 ti49 rfl (by decide) (by kernel_rfl) (.inr rfl) rfl rfl (by decide)) ?_
                rintro _ w18 ⟨b6, rfl, hS36, hk12⟩
                have hS37 : SH w No w18 [rowE eBt 49 (.slice A_out out.length c_out) out, rowE eBt 49 (.slice (some ⟨b6, 0, none⟩) 1 1) [((gI (STP (nnumL ([] : List ByteArray) (TOK a)) (nnumL (nkvL ([] : List ByteArray) (TOK a)) (TOK b))) (k) : Int), ((TOK a).getD (i).toNat ByteArray.empty : ByteArray))], rowE eI 47 (.slice A7 ((STP (nnumL ([] : List ByteArray) (TOK a)) (nnumL (nkvL ([] : List ByteArray) (TOK a)) (TOK b))).length) c7) (STP (nnumL ([] : List ByteArray) (TOK a)) (nnumL (nkvL ([] : List ByteArray) (TOK a)) (TOK b))), rowE eI 3 (.slice A5 ((nnumL (nkvL ([] : List ByteArray) (TOK a)) (TOK b)).length) c5) (nnumL (nkvL ([] : List ByteArray) (TOK a)) (TOK b)), rowE eS 9 (.slice A6 ((nkvL (nkvL ([] : List ByteArray) (TOK a)) (TOK b)).length) c6) (nkvL (nkvL ([] : List ByteArray) (TOK a)) (TOK b)), rowE eI 3 (.slice A3 ((nnumL ([] : List ByteArray) (TOK a)).length) c3) (nnumL ([] : List ByteArray) (TOK a)), rowE eS 9 (.slice A2 ((TOK b).length) c2) (TOK b), rowE eS 9 (.slice A1 ((TOK a).length) c1) (TOK a)] := (SH.front [_, _, _, _, _, _, _] hS36)
                refine WL.xe rfl (XE.append hS37 Try.underlying29 ti49 rfl (St.now (SH.rd hS37 (.tail _ (.head _)))) rfl rfl (by first | omega | simp only [List.length_append, List.length_cons, List.length_nil, List.length_take, List.length_reverse, List.length_drop] at *; omega) (by first | omega | simp only [List.length_append, List.length_cons, List.length_nil, List.length_take, List.length_reverse, List.length_drop] at *; omega)) ?_
                rintro _ w19 ⟨A28, c28, rfl, hS38, hk13⟩
                refine WL.lv rfl (LV.asg rfl) ?_
                refine WL.nil (blockQ.n <| thenQ.n ?_)
                refine WC.region ?_
                refine WL.lv rfl (LV.mv rfl) ?_
                refine WL.lv rfl (LV.add rfl rfl (wr64 (by omega) (by omega))) ?_
                refine WL.lv rfl (LV.asg rfl) ?_
                refine WL.nil (thenQ.n ?_)
                have hS39 : SH w No w19 [rowE eI 47 (.slice A7 ((STP (nnumL ([] : List ByteArray) (TOK a)) (nnumL (nkvL ([] : List ByteArray) (TOK a)) (TOK b))).length) c7) (STP (nnumL ([] : List ByteArray) (TOK a)) (nnumL (nkvL ([] : List ByteArray) (TOK a)) (TOK b))), rowE eI 3 (.slice A5 ((nnumL (nkvL ([] : List ByteArray) (TOK a)) (TOK b)).length) c5) (nnumL (nkvL ([] : List ByteArray) (TOK a)) (TOK b)), rowE eS 9 (.slice A6 ((nkvL (nkvL ([] : List ByteArray) (TOK a)) (TOK b)).length) c6) (nkvL (nkvL ([] : List ByteArray) (TOK a)) (TOK b)), rowE eI 3 (.slice A3 ((nnumL ([] : List ByteArray) (TOK a)).length) c3) (nnumL ([] : List ByteArray) (TOK a)), rowE eS 9 (.slice A2 ((TOK b).length) c2) (TOK b), rowE eS 9 (.slice A1 ((TOK a).length) c1) (TOK a), rowE eBt 49 (.slice A28 ((out ++ [((gI (STP (nnumL ([] : List ByteArray) (TOK a)) (nnumL (nkvL ([] : List ByteArray) (TOK a)) (TOK b))) (k) : Int), ((TOK a).getD (i).toNat ByteArray.empty : ByteArray))]).length) c28) (out ++ [((gI (STP (nnumL ([] : List ByteArray) (TOK a)) (nnumL (nkvL ([] : List ByteArray) (TOK a)) (TOK b))) (k) : Int), ((TOK a).getD (i).toNat ByteArray.empty : ByteArray))])] := (SH.take 7 rfl (SH.front [_, _, _, _, _, _, _] (SH.front [_, _, _, _, _, _, _] (SH.front [_, _, _, _, _, _, _] (SH.front [_, _, _, _, _, _, _] (SH.front [_, _, _, _, _, _, _] (SH.front [_, _, _, _, _, _, _] hS38)))))))
                have hnew_ : ((out ++ [((gI (STP (nnumL ([] : List ByteArray) (TOK a)) (nnumL (nkvL ([] : List ByteArray) (TOK a)) (TOK b))) (k) : Int), ((TOK a).getD (i).toNat ByteArray.empty : ByteArray))]) : List (Int × ByteArray)) = LAYB out (gI (STP (nnumL [] (TOK a)) (nnumL (nkvL [] (TOK a)) (TOK b))) k) ((TOK a).getD i.toNat ByteArray.empty) := q6.add klo (fun h_ => by omega)
                exact ⟨_, by omega, A28, c28, (out ++ [((gI (STP (nnumL ([] : List ByteArray) (TOK a)) (nnumL (nkvL ([] : List ByteArray) (TOK a)) (TOK b))) (k) : Int), ((TOK a).getD (i).toNat ByteArray.empty : ByteArray))]), i + 1, j + 1, k + 1, by omega, by omega, (by rw [hnew_, ← edf_keep klo hk (by omega)]; exact q1), (al_keep q2 klo hk (by omega)), by omega, ((by have h_ := hbt_ ((TOK a).getD i.toNat ByteArray.empty); rw [hnew_]; omega)), ((by have h_ := hbl_ ((TOK a).getD i.toNat ByteArray.empty); rw [hnew_]; omega)), (LST.step klo hnew_), hS39, rfl, Weak.cons rfl <| Weak.cons rfl <| Weak.cons rfl <| Weak.cons rfl <| Weak.cons rfl <| Weak.cons rfl <| Weak.cons rfl <| Weak.nil _⟩
            · refine WS.pure rfl rfl (fun _ => LV.as (LV.gtI rfl rfl) (decide_eq_false hg3)) ?_
              refine WS.pure rfl rfl (fun _ => LV.mv rfl) ?_
              iterate 4 refine WS.off rfl rfl ?_
              refine WS.offL rfl rfl ?_
              iterate 3 refine WS.off rfl rfl ?_
              refine WS.offL rfl rfl ?_
              refine WS.off rfl rfl ?_
              refine WS.pure rfl rfl (fun _ => LV.pickF rfl rfl) ?_
              refine WS.nil (thenQ.n ?_)
              refine WC.condF rfl ?_
              refine WC.region ?_
              iterate 3 refine WL.lv rfl (LV.mv rfl) ?_
              obtain ⟨A29, c29, e19, g19⟩ := St.elt (SH.rd hS29 (.head _)) 0 k (by omega) (by omega)
              refine WL.lv rfl (LV.idxA Try.underlying52 ti47.sz rfl e19 rfl (by omega) (by omega)) ?_
              refine WL.lv rfl (LV.load1 (v := (.int .i64 (gI (STP (nnumL ([] : List ByteArray) (TOK a)) (nnumL (nkvL ([] : List ByteArray) (TOK a)) (TOK b))) (k)))) Try.underlying47 rfl rfl (g19 _ (KB.refl No _) 0 _ rfl)) ?_
              refine WL.lv rfl (LV.mv rfl) ?_
              refine WL.lv rfl (LV.build (vs := [(0, (.int .i64 (gI (STP (nnumL ([] : List ByteArray) (TOK a)) (nnumL (nkvL ([] : List ByteArray) (TOK a)) (TOK b))) (k)))), (1, (.string ((TOK a).getD (i).toNat ByteArray.empty)))]) (places := #[(0, 1), (1, 1)]) (cs := #[(.int .i64 (gI (STP (nnumL ([] : List ByteArray) (TOK a)) (nnumL (nkvL ([] : List ByteArray) (TOK a)) (TOK b))) (k))), (.string ((TOK a).getD (i).toNat ByteArray.empty))]) Try.underlying49 ti49 (fun _ => by kernel_rfl) rfl rfl) ?_
              refine WL.xe rfl (XE.buildSlice (E := eBt) [(0, (.agg #[(.int .i64 (gI (STP (nnumL ([] : List ByteArray) (TOK a)) (nnumL (nkvL ([] : List ByteArray) (TOK a)) (TOK b))) (k))), (.string ((TOK a).getD (i).toNat ByteArray.empty))]))] #[(.int .i64 (gI (STP (nnumL ([] : List ByteArray) (TOK a)) (nnumL (nkvL ([] : List ByteArray) (TOK a)) (TOK b))) (k))), (.string ((TOK a).getD (i).toNat ByteArray.empty))] [((gI (STP (nnumL ([] : List ByteArray) (TOK a)) (nnumL (nkvL ([] : List ByteArray) (TOK a)) (TOK b))) (k) : Int), ((TOK a).getD (i).toNat ByteArray.empty : ByteArray))] hS29 Try.underlying29 ti49 rfl (by decide) (by kernel_rfl) (.inr rfl) rfl rfl (by decide)) ?_
              rintro _ w20 ⟨b7, rfl, hS40, hk14⟩
              have hS41 : SH w No w20 [rowE eBt 49 (.slice A_out out.length c_out) out, rowE eBt 49 (.slice (some ⟨b7, 0, none⟩) 1 1) [((gI (STP (nnumL ([] : List ByteArray) (TOK a)) (nnumL (nkvL ([] : List ByteArray) (TOK a)) (TOK b))) (k) : Int), ((TOK a).getD (i).toNat ByteArray.empty : ByteArray))], rowE eI 47 (.slice A7 ((STP (nnumL ([] : List ByteArray) (TOK a)) (nnumL (nkvL ([] : List ByteArray) (TOK a)) (TOK b))).length) c7) (STP (nnumL ([] : List ByteArray) (TOK a)) (nnumL (nkvL ([] : List ByteArray) (TOK a)) (TOK b))), rowE eI 3 (.slice A5 ((nnumL (nkvL ([] : List ByteArray) (TOK a)) (TOK b)).length) c5) (nnumL (nkvL ([] : List ByteArray) (TOK a)) (TOK b)), rowE eS 9 (.slice A6 ((nkvL (nkvL ([] : List ByteArray) (TOK a)) (TOK b)).length) c6) (nkvL (nkvL ([] : List ByteArray) (TOK a)) (TOK b)), rowE eI 3 (.slice A3 ((nnumL ([] : List ByteArray) (TOK a)).length) c3) (nnumL ([] : List ByteArray) (TOK a)), rowE eS 9 (.slice A2 ((TOK b).length) c2) (TOK b), rowE eS 9 (.slice A1 ((TOK a).length) c1) (TOK a)] := (SH.front [_, _, _, _, _, _, _] hS40)
              refine WL.xe rfl (XE.append hS41 Try.underlying29 ti49 rfl (St.now (SH.rd hS41 (.tail _ (.head _)))) rfl rfl (by first | omega | simp only [List.length_append, List.length_cons, List.length_nil, List.length_take, List.length_reverse, List.length_drop] at *; omega) (by first | omega | simp only [List.length_append, List.length_cons, List.length_nil, List.length_take, List.length_reverse, List.length_drop] at *; omega)) ?_
              rintro _ w21 ⟨A30, c30, rfl, hS42, hk15⟩
              refine WL.lv rfl (LV.asg rfl) ?_
              refine WL.nil (blockQ.n <| thenQ.n ?_)
              refine WC.region ?_
              refine WL.lv rfl (LV.mv rfl) ?_
              refine WL.lv rfl (LV.add rfl rfl (wr64 (by omega) (by omega))) ?_
              refine WL.lv rfl (LV.asg rfl) ?_
              refine WL.nil (thenQ.n ?_)
              have hS43 : SH w No w21 [rowE eI 47 (.slice A7 ((STP (nnumL ([] : List ByteArray) (TOK a)) (nnumL (nkvL ([] : List ByteArray) (TOK a)) (TOK b))).length) c7) (STP (nnumL ([] : List ByteArray) (TOK a)) (nnumL (nkvL ([] : List ByteArray) (TOK a)) (TOK b))), rowE eI 3 (.slice A5 ((nnumL (nkvL ([] : List ByteArray) (TOK a)) (TOK b)).length) c5) (nnumL (nkvL ([] : List ByteArray) (TOK a)) (TOK b)), rowE eS 9 (.slice A6 ((nkvL (nkvL ([] : List ByteArray) (TOK a)) (TOK b)).length) c6) (nkvL (nkvL ([] : List ByteArray) (TOK a)) (TOK b)), rowE eI 3 (.slice A3 ((nnumL ([] : List ByteArray) (TOK a)).length) c3) (nnumL ([] : List ByteArray) (TOK a)), rowE eS 9 (.slice A2 ((TOK b).length) c2) (TOK b), rowE eS 9 (.slice A1 ((TOK a).length) c1) (TOK a), rowE eBt 49 (.slice A30 ((out ++ [((gI (STP (nnumL ([] : List ByteArray) (TOK a)) (nnumL (nkvL ([] : List ByteArray) (TOK a)) (TOK b))) (k) : Int), ((TOK a).getD (i).toNat ByteArray.empty : ByteArray))]).length) c30) (out ++ [((gI (STP (nnumL ([] : List ByteArray) (TOK a)) (nnumL (nkvL ([] : List ByteArray) (TOK a)) (TOK b))) (k) : Int), ((TOK a).getD (i).toNat ByteArray.empty : ByteArray))])] := (SH.take 7 rfl (SH.front [_, _, _, _, _, _, _] (SH.front [_, _, _, _, _, _, _] (SH.front [_, _, _, _, _, _, _] (SH.front [_, _, _, _, _, _, _] (SH.front [_, _, _, _, _, _, _] (SH.front [_, _, _, _, _, _, _] hS42)))))))
              have hnew_ : ((out ++ [((gI (STP (nnumL ([] : List ByteArray) (TOK a)) (nnumL (nkvL ([] : List ByteArray) (TOK a)) (TOK b))) (k) : Int), ((TOK a).getD (i).toNat ByteArray.empty : ByteArray))]) : List (Int × ByteArray)) = LAYB out (gI (STP (nnumL [] (TOK a)) (nnumL (nkvL [] (TOK a)) (TOK b))) k) ((TOK a).getD i.toNat ByteArray.empty) := q6.add klo (fun h_ => by omega)
              exact ⟨_, by omega, A30, c30, (out ++ [((gI (STP (nnumL ([] : List ByteArray) (TOK a)) (nnumL (nkvL ([] : List ByteArray) (TOK a)) (TOK b))) (k) : Int), ((TOK a).getD (i).toNat ByteArray.empty : ByteArray))]), i + 1, j + 1, k + 1, by omega, by omega, (by rw [hnew_, ← edf_keep klo hk (by omega)]; exact q1), (al_keep q2 klo hk (by omega)), by omega, ((by have h_ := hbt_ ((TOK a).getD i.toNat ByteArray.empty); rw [hnew_]; omega)), ((by have h_ := hbl_ ((TOK a).getD i.toNat ByteArray.empty); rw [hnew_]; omega)), (LST.step klo hnew_), hS43, rfl, Weak.cons rfl <| Weak.cons rfl <| Weak.cons rfl <| Weak.cons rfl <| Weak.cons rfl <| Weak.cons rfl <| Weak.cons rfl <| Weak.nil _⟩
          · skip
            refine WC.skip (thenQ.n ?_)
            refine WC.seq ?_
            have hS44 := SH.drew hL1
            refine WC.regionD [] (fun w_ => KB No w7.drew w_) [(.pure, 0), (.pure, 1), (.pure, 2), (.pure, 3), (.pure, 4), (.pure, 5), (.pure, 6), (.look, 7), (.pure, 8), (.pure, 9), (.pure, 10), (.look, 11), (.pure, 12), (.pure, 13)] (by kernel_rfl) (by kernel_rfl) (KB.refl _ _) ?_
            refine WS.pure rfl rfl (fun _ => LV.mv rfl) ?_
            rcases Decidable.em (k > 0) with hg4 | hg4
            · refine WS.pure rfl rfl (fun _ => LV.as (LV.gtI rfl rfl) (decide_eq_true hg4)) ?_
              iterate 3 refine WS.pure rfl rfl (fun _ => LV.mv rfl) ?_
              refine WS.pure rfl rfl (fun _ => LV.sub rfl rfl (wr64 (by omega) (by omega))) ?_
              obtain ⟨A31, c31, e20, g20⟩ := St.elt (SH.rd hS44 (.head _)) 0 (k - 1) (by omega) (by omega)
              refine WS.pure rfl rfl (fun _ => LV.idxA Try.underlying52 ti47.sz rfl e20 rfl (by omega) (by omega)) ?_
              refine WS.look rfl rfl (fun _ hk_ => LV.load1 (v := (.int .i64 (gI (STP (nnumL ([] : List ByteArray) (TOK a)) (nnumL (nkvL ([] : List ByteArray) (TOK a)) (TOK b))) (k - 1)))) Try.underlying47 rfl rfl (g20 _ hk_ 0 _ rfl)) ?_
              iterate 2 refine WS.pure rfl rfl (fun _ => LV.mv rfl) ?_
              obtain ⟨A32, c32, e21, g21⟩ := St.elt (SH.rd hS44 (.head _)) 0 k (by omega) (by omega)
              refine WS.pure rfl rfl (fun _ => LV.idxA Try.underlying52 ti47.sz rfl e21 rfl (by omega) (by omega)) ?_
              refine WS.look rfl rfl (fun _ hk_ => LV.load1 (v := (.int .i64 (gI (STP (nnumL ([] : List ByteArray) (TOK a)) (nnumL (nkvL ([] : List ByteArray) (TOK a)) (TOK b))) (k)))) Try.underlying47 rfl rfl (g21 _ hk_ 0 _ rfl)) ?_
              refine WS.pure rfl rfl (fun _ => LV.eqI rfl rfl) ?_
              refine WS.pure rfl rfl (fun _ => LV.pickT rfl rfl) ?_
              refine WS.nil (thenQ.n ?_)
              refine WC.condP (p := (gI (STP (nnumL ([] : List ByteArray) (TOK a)) (nnumL (nkvL ([] : List ByteArray) (TOK a)) (TOK b))) (k - 1)) = (gI (STP (nnumL ([] : List ByteArray) (TOK a)) (nnumL (nkvL ([] : List ByteArray) (TOK a)) (TOK b))) (k))) rfl (fun hc6 => ?_) (fun hc6 => ?_)
              · skip
                refine WC.seq ?_
                refine WC.region ?_
                iterate 2 refine WL.lv rfl (LV.mv rfl) ?_
                refine WL.lv rfl (LV.lenL Try.underlying29 rfl) ?_
                refine WL.lv rfl (LV.sub rfl rfl (wr64 (by omega) (by omega))) ?_
                have hq6_ := q6.2 (by omega)
                obtain ⟨A33, c33, e22, g22⟩ := St.elt (SH.rd hS44 (.tail _ (.tail _ (.tail _ (.tail _ (.tail _ (.tail _ (.head _)))))))) (0, ByteArray.empty) ((out.length : Int) - 1) (by omega) (by omega)
                refine WL.lv rfl (LV.idxA Try.underlying29 ti49.sz rfl e22 rfl (by omega) (by omega)) ?_
                refine WL.lv rfl (LV.loadAgg (cs := [(.int .i64 ((out.getD ((out.length : Int) - 1).toNat (0, ByteArray.empty)).1)), (.string ((out.getD ((out.length : Int) - 1).toNat (0, ByteArray.empty)).2))]) Try.underlying49 rfl ti49 rfl rfl (fun j u hu => g22 _ (KB.refl No _) j u hu)) ?_
                refine WL.xe rfl (XE.alloc #[(.int .i64 0), (.string ⟨#[]⟩)] hS44 ti49 rfl) ?_
                rintro _ w22 ⟨b8, rfl, hS45, hk16⟩
                refine WL.xse rfl (XSE.blkAgg #[(.int .i64 ((out.getD ((out.length : Int) - 1).toNat (0, ByteArray.empty)).1)), (.string ((out.getD ((out.length : Int) - 1).toNat (0, ByteArray.empty)).2))] hS45 (by kernel_rfl) rfl (by kernel_rfl) rfl rfl) ?_
                rintro w23 ⟨hS46, hk17⟩
                refine WL.nil (thenQ.n ?_)
                refine WC.region ?_
                iterate 2 refine WL.lv rfl (LV.mv rfl) ?_
                refine WL.lv rfl (LV.lenL Try.underlying29 rfl) ?_
                refine WL.lv rfl (LV.sub rfl rfl (wr64 (by omega) (by omega))) ?_
                refine WL.lv rfl (LV.fieldA Try.underlying49 rfl ti47.sz rfl) ?_
                refine WL.lv rfl (LV.load1 Try.underlying47 rfl rfl (Blk.cellN (SH.at hS46 (.head _)) 0 rfl _ (KB.refl No _))) ?_
                refine WL.lv rfl (LV.fieldA Try.underlying49 rfl ti9.sz rfl) ?_
                refine WL.lv rfl (LV.load1 Try.underlying9 rfl rfl (Blk.cellN (SH.at hS46 (.head _)) 1 rfl _ (KB.refl No _))) ?_
                refine WL.lv rfl (LV.mv rfl) ?_
                have hsm_ := szB_mem (l := out) (p := out.getD ((out.length : Int) - 1).toNat (0, ByteArray.empty)) (getD_mem (by omega))
                refine WL.lv rfl (LV.addS rfl rfl (by first | omega | (simp only [ByteArray.size_append, ByteArray.size_extract, lit1]; omega))) ?_
                refine WL.lv rfl (LV.build (vs := [(0, (.int .i64 ((out.getD ((out.length : Int) - 1).toNat (0, ByteArray.empty)).1))), (1, (.string (((out.getD ((out.length : Int) - 1).toNat (0, ByteArray.empty)).2) ++ ((TOK a).getD (i).toNat ByteArray.empty))))]) (places := #[(0, 1), (1, 1)]) (cs := #[(.int .i64 ((out.getD ((out.length : Int) - 1).toNat (0, ByteArray.empty)).1)), (.string (((out.getD ((out.length : Int) - 1).toNat (0, ByteArray.empty)).2) ++ ((TOK a).getD (i).toNat ByteArray.empty)))]) Try.underlying49 ti49 (fun _ => by kernel_rfl) rfl rfl) ?_
                obtain ⟨A34, c34, e23, g23⟩ := St.elt (SH.rd hS46 (.tail _ (.tail _ (.tail _ (.tail _ (.tail _ (.tail _ (.tail _ (.head _))))))))) (0, ByteArray.empty) ((out.length : Int) - 1) (by omega) (by omega)
                refine WL.lv rfl (LV.idxA Try.underlying29 ti49.sz rfl e23 rfl (by omega) (by omega)) ?_
                have hS48 : SH w No w23 [rowE eBt 49 (.slice A_out out.length c_out) out, blkE b8 49 #[(.int .i64 ((out.getD ((out.length : Int) - 1).toNat (0, ByteArray.empty)).1)), (.string ((out.getD ((out.length : Int) - 1).toNat (0, ByteArray.empty)).2))], rowE eI 47 (.slice A7 ((STP (nnumL ([] : List ByteArray) (TOK a)) (nnumL (nkvL ([] : List ByteArray) (TOK a)) (TOK b))).length) c7) (STP (nnumL ([] : List ByteArray) (TOK a)) (nnumL (nkvL ([] : List ByteArray) (TOK a)) (TOK b))), rowE eI 3 (.slice A5 ((nnumL (nkvL ([] : List ByteArray) (TOK a)) (TOK b)).length) c5) (nnumL (nkvL ([] : List ByteArray) (TOK a)) (TOK b)), rowE eS 9 (.slice A6 ((nkvL (nkvL ([] : List ByteArray) (TOK a)) (TOK b)).length) c6) (nkvL (nkvL ([] : List ByteArray) (TOK a)) (TOK b)), rowE eI 3 (.slice A3 ((nnumL ([] : List ByteArray) (TOK a)).length) c3) (nnumL ([] : List ByteArray) (TOK a)), rowE eS 9 (.slice A2 ((TOK b).length) c2) (TOK b), rowE eS 9 (.slice A1 ((TOK a).length) c1) (TOK a)] := (SH.front [_, _, _, _, _, _, _] hS46)
                refine WL.xse rfl (XSE.rowN (i := (out.length : Int) - 1) (cs := #[(.int .i64 ((out.getD ((out.length : Int) - 1).toNat (0, ByteArray.empty)).1)), (.string (((out.getD ((out.length : Int) - 1).toNat (0, ByteArray.empty)).2) ++ ((TOK a).getD (i).toNat ByteArray.empty)))]) ((out.getD ((out.length : Int) - 1).toNat (0, ByteArray.empty)).1, ((out.getD ((out.length : Int) - 1).toNat (0, ByteArray.empty)).2) ++ ((TOK a).getD (i).toNat ByteArray.empty)) hS48 e23 (by omega) (by omega) ti49.sz rfl rfl rfl) ?_
                rintro w24 ⟨hS47, hk18⟩
                refine WL.nil (blockQ.n <| thenQ.n ?_)
                refine WC.region ?_
                refine WL.lv rfl (LV.mv rfl) ?_
                refine WL.lv rfl (LV.add rfl rfl (wr64 (by omega) (by omega))) ?_
                refine WL.lv rfl (LV.asg rfl) ?_
                refine WL.nil (thenQ.n ?_)
                have hS49 : SH w No w24 [rowE eBt 49 (.slice A_out ((out.set ((out.length : Int) - 1).toNat ((out.getD ((out.length : Int) - 1).toNat (0, ByteArray.empty)).1, ((out.getD ((out.length : Int) - 1).toNat (0, ByteArray.empty)).2) ++ ((TOK a).getD (i).toNat ByteArray.empty))).length) c_out) (out.set ((out.length : Int) - 1).toNat ((out.getD ((out.length : Int) - 1).toNat (0, ByteArray.empty)).1, ((out.getD ((out.length : Int) - 1).toNat (0, ByteArray.empty)).2) ++ ((TOK a).getD (i).toNat ByteArray.empty))), blkE b8 49 #[(.int .i64 ((out.getD ((out.length : Int) - 1).toNat (0, ByteArray.empty)).1)), (.string ((out.getD ((out.length : Int) - 1).toNat (0, ByteArray.empty)).2))], rowE eI 47 (.slice A7 ((STP (nnumL ([] : List ByteArray) (TOK a)) (nnumL (nkvL ([] : List ByteArray) (TOK a)) (TOK b))).length) c7) (STP (nnumL ([] : List ByteArray) (TOK a)) (nnumL (nkvL ([] : List ByteArray) (TOK a)) (TOK b))), rowE eI 3 (.slice A5 ((nnumL (nkvL ([] : List ByteArray) (TOK a)) (TOK b)).length) c5) (nnumL (nkvL ([] : List ByteArray) (TOK a)) (TOK b)), rowE eS 9 (.slice A6 ((nkvL (nkvL ([] : List ByteArray) (TOK a)) (TOK b)).length) c6) (nkvL (nkvL ([] : List ByteArray) (TOK a)) (TOK b)), rowE eI 3 (.slice A3 ((nnumL ([] : List ByteArray) (TOK a)).length) c3) (nnumL ([] : List ByteArray) (TOK a)), rowE eS 9 (.slice A2 ((TOK b).length) c2) (TOK b), rowE eS 9 (.slice A1 ((TOK a).length) c1) (TOK a)] := by simpa only [List.length_set] using hS47
                have hS50 : SH w No w24 [rowE eI 47 (.slice A7 ((STP (nnumL ([] : List ByteArray) (TOK a)) (nnumL (nkvL ([] : List ByteArray) (TOK a)) (TOK b))).length) c7) (STP (nnumL ([] : List ByteArray) (TOK a)) (nnumL (nkvL ([] : List ByteArray) (TOK a)) (TOK b))), rowE eI 3 (.slice A5 ((nnumL (nkvL ([] : List ByteArray) (TOK a)) (TOK b)).length) c5) (nnumL (nkvL ([] : List ByteArray) (TOK a)) (TOK b)), rowE eS 9 (.slice A6 ((nkvL (nkvL ([] : List ByteArray) (TOK a)) (TOK b)).length) c6) (nkvL (nkvL ([] : List ByteArray) (TOK a)) (TOK b)), rowE eI 3 (.slice A3 ((nnumL ([] : List ByteArray) (TOK a)).length) c3) (nnumL ([] : List ByteArray) (TOK a)), rowE eS 9 (.slice A2 ((TOK b).length) c2) (TOK b), rowE eS 9 (.slice A1 ((TOK a).length) c1) (TOK a), rowE eBt 49 (.slice A_out ((out.set ((out.length : Int) - 1).toNat ((out.getD ((out.length : Int) - 1).toNat (0, ByteArray.empty)).1, ((out.getD ((out.length : Int) - 1).toNat (0, ByteArray.empty)).2) ++ ((TOK a).getD (i).toNat ByteArray.empty))).length) c_out) (out.set ((out.length : Int) - 1).toNat ((out.getD ((out.length : Int) - 1).toNat (0, ByteArray.empty)).1, ((out.getD ((out.length : Int) - 1).toNat (0, ByteArray.empty)).2) ++ ((TOK a).getD (i).toNat ByteArray.empty)))] := (SH.take 7 rfl (SH.front [_, _, _, _, _, _, _] (SH.front [_, _, _, _, _, _, _] (SH.front [_, _, _, _, _, _, _] (SH.front [_, _, _, _, _, _, _] (SH.front [_, _, _, _, _, _, _] (SH.front [_, _, _, _, _, _, _] hS49)))))))
                have hnew_ : ((out.set ((out.length : Int) - 1).toNat ((out.getD ((out.length : Int) - 1).toNat (0, ByteArray.empty)).1, ((out.getD ((out.length : Int) - 1).toNat (0, ByteArray.empty)).2) ++ ((TOK a).getD (i).toNat ByteArray.empty))) : List (Int × ByteArray)) = LAYB out (gI (STP (nnumL [] (TOK a)) (nnumL (nkvL [] (TOK a)) (TOK b))) k) ((TOK a).getD i.toNat ByteArray.empty) := q6.set (by omega) (by omega)
                exact ⟨_, by omega, A_out, c_out, (out.set ((out.length : Int) - 1).toNat ((out.getD ((out.length : Int) - 1).toNat (0, ByteArray.empty)).1, ((out.getD ((out.length : Int) - 1).toNat (0, ByteArray.empty)).2) ++ ((TOK a).getD (i).toNat ByteArray.empty))), i + 1, j, k + 1, by omega, by omega, (by rw [hnew_, ← edf_out klo hk (by omega) (by omega)]; exact q1), (al_out q2 klo hk (by omega) (by omega)), by omega, ((by have h_ := hbt_ ((TOK a).getD i.toNat ByteArray.empty); rw [hnew_]; omega)), ((by have h_ := hbl_ ((TOK a).getD i.toNat ByteArray.empty); rw [hnew_]; omega)), (LST.step klo hnew_), hS50, rfl, Weak.cons (congrArg (fun n_ => some (Value.slice _ n_ _)) (by simp only [List.length_set])) <| Weak.cons rfl <| Weak.cons rfl <| Weak.cons rfl <| Weak.cons rfl <| Weak.cons rfl <| Weak.cons rfl <| Weak.nil _⟩
              · skip
                refine WC.region ?_
                iterate 3 refine WL.lv rfl (LV.mv rfl) ?_
                obtain ⟨A35, c35, e24, g24⟩ := St.elt (SH.rd hS44 (.head _)) 0 k (by omega) (by omega)
                refine WL.lv rfl (LV.idxA Try.underlying52 ti47.sz rfl e24 rfl (by omega) (by omega)) ?_
                refine WL.lv rfl (LV.load1 (v := (.int .i64 (gI (STP (nnumL ([] : List ByteArray) (TOK a)) (nnumL (nkvL ([] : List ByteArray) (TOK a)) (TOK b))) (k)))) Try.underlying47 rfl rfl (g24 _ (KB.refl No _) 0 _ rfl)) ?_
                refine WL.lv rfl (LV.mv rfl) ?_
                refine WL.lv rfl (LV.build (vs := [(0, (.int .i64 (gI (STP (nnumL ([] : List ByteArray) (TOK a)) (nnumL (nkvL ([] : List ByteArray) (TOK a)) (TOK b))) (k)))), (1, (.string ((TOK a).getD (i).toNat ByteArray.empty)))]) (places := #[(0, 1), (1, 1)]) (cs := #[(.int .i64 (gI (STP (nnumL ([] : List ByteArray) (TOK a)) (nnumL (nkvL ([] : List ByteArray) (TOK a)) (TOK b))) (k))), (.string ((TOK a).getD (i).toNat ByteArray.empty))]) Try.underlying49 ti49 (fun _ => by kernel_rfl) rfl rfl) ?_
                refine WL.xe rfl (XE.buildSlice (E := eBt) [(0, (.agg #[(.int .i64 (gI (STP (nnumL ([] : List ByteArray) (TOK a)) (nnumL (nkvL ([] : List ByteArray) (TOK a)) (TOK b))) (k))), (.string ((TOK a).getD (i).toNat ByteArray.empty))]))] #[(.int .i64 (gI (STP (nnumL ([] : List ByteArray) (TOK a)) (nnumL (nkvL ([] : List ByteArray) (TOK a)) (TOK b))) (k))), (.string ((TOK a).getD (i).toNat ByteArray.empty))] [((gI (STP (nnumL ([] : List ByteArray) (TOK a)) (nnumL (nkvL ([] : List ByteArray) (TOK a)) (TOK b))) (k) : Int), ((TOK a).getD (i).toNat ByteArray.empty : ByteArray))] hS44 Try.underlying29 ti49 rfl (by decide) (by kernel_rfl) (.inr rfl) rfl rfl (by decide)) ?_
                rintro _ w25 ⟨b9, rfl, hS51, hk19⟩
                have hS52 : SH w No w25 [rowE eBt 49 (.slice A_out out.length c_out) out, rowE eBt 49 (.slice (some ⟨b9, 0, none⟩) 1 1) [((gI (STP (nnumL ([] : List ByteArray) (TOK a)) (nnumL (nkvL ([] : List ByteArray) (TOK a)) (TOK b))) (k) : Int), ((TOK a).getD (i).toNat ByteArray.empty : ByteArray))], rowE eI 47 (.slice A7 ((STP (nnumL ([] : List ByteArray) (TOK a)) (nnumL (nkvL ([] : List ByteArray) (TOK a)) (TOK b))).length) c7) (STP (nnumL ([] : List ByteArray) (TOK a)) (nnumL (nkvL ([] : List ByteArray) (TOK a)) (TOK b))), rowE eI 3 (.slice A5 ((nnumL (nkvL ([] : List ByteArray) (TOK a)) (TOK b)).length) c5) (nnumL (nkvL ([] : List ByteArray) (TOK a)) (TOK b)), rowE eS 9 (.slice A6 ((nkvL (nkvL ([] : List ByteArray) (TOK a)) (TOK b)).length) c6) (nkvL (nkvL ([] : List ByteArray) (TOK a)) (TOK b)), rowE eI 3 (.slice A3 ((nnumL ([] : List ByteArray) (TOK a)).length) c3) (nnumL ([] : List ByteArray) (TOK a)), rowE eS 9 (.slice A2 ((TOK b).length) c2) (TOK b), rowE eS 9 (.slice A1 ((TOK a).length) c1) (TOK a)] := (SH.front [_, _, _, _, _, _, _] hS51)
                refine WL.xe rfl (XE.append hS52 Try.underlying29 ti49 rfl (St.now (SH.rd hS52 (.tail _ (.head _)))) rfl rfl (by first | omega | simp only [List.length_append, List.length_cons, List.length_nil, List.length_take, List.length_reverse, List.length_drop] at *; omega) (by first | omega | simp only [List.length_append, List.length_cons, List.length_nil, List.length_take, List.length_reverse, List.length_drop] at *; omega)) ?_
                rintro _ w26 ⟨A36, c36, rfl, hS53, hk20⟩
                refine WL.lv rfl (LV.asg rfl) ?_
                refine WL.nil (blockQ.n <| thenQ.n ?_)
                refine WC.region ?_
                refine WL.lv rfl (LV.mv rfl) ?_
                refine WL.lv rfl (LV.add rfl rfl (wr64 (by omega) (by omega))) ?_
                refine WL.lv rfl (LV.asg rfl) ?_
                refine WL.nil (thenQ.n ?_)
                have hS54 : SH w No w26 [rowE eI 47 (.slice A7 ((STP (nnumL ([] : List ByteArray) (TOK a)) (nnumL (nkvL ([] : List ByteArray) (TOK a)) (TOK b))).length) c7) (STP (nnumL ([] : List ByteArray) (TOK a)) (nnumL (nkvL ([] : List ByteArray) (TOK a)) (TOK b))), rowE eI 3 (.slice A5 ((nnumL (nkvL ([] : List ByteArray) (TOK a)) (TOK b)).length) c5) (nnumL (nkvL ([] : List ByteArray) (TOK a)) (TOK b)), rowE eS 9 (.slice A6 ((nkvL (nkvL ([] : List ByteArray) (TOK a)) (TOK b)).length) c6) (nkvL (nkvL ([] : List ByteArray) (TOK a)) (TOK b)), rowE eI 3 (.slice A3 ((nnumL ([] : List ByteArray) (TOK a)).length) c3) (nnumL ([] : List ByteArray) (TOK a)), rowE eS 9 (.slice A2 ((TOK b).length) c2) (TOK b), rowE eS 9 (.slice A1 ((TOK a).length) c1) (TOK a), rowE eBt 49 (.slice A36 ((out ++ [((gI (STP (nnumL ([] : List ByteArray) (TOK a)) (nnumL (nkvL ([] : List ByteArray) (TOK a)) (TOK b))) (k) : Int), ((TOK a).getD (i).toNat ByteArray.empty : ByteArray))]).length) c36) (out ++ [((gI (STP (nnumL ([] : List ByteArray) (TOK a)) (nnumL (nkvL ([] : List ByteArray) (TOK a)) (TOK b))) (k) : Int), ((TOK a).getD (i).toNat ByteArray.empty : ByteArray))])] := (SH.take 7 rfl (SH.front [_, _, _, _, _, _, _] (SH.front [_, _, _, _, _, _, _] (SH.front [_, _, _, _, _, _, _] (SH.front [_, _, _, _, _, _, _] (SH.front [_, _, _, _, _, _, _] (SH.front [_, _, _, _, _, _, _] hS53)))))))
                have hnew_ : ((out ++ [((gI (STP (nnumL ([] : List ByteArray) (TOK a)) (nnumL (nkvL ([] : List ByteArray) (TOK a)) (TOK b))) (k) : Int), ((TOK a).getD (i).toNat ByteArray.empty : ByteArray))]) : List (Int × ByteArray)) = LAYB out (gI (STP (nnumL [] (TOK a)) (nnumL (nkvL [] (TOK a)) (TOK b))) k) ((TOK a).getD i.toNat ByteArray.empty) := q6.add klo (fun h_ => by omega)
                exact ⟨_, by omega, A36, c36, (out ++ [((gI (STP (nnumL ([] : List ByteArray) (TOK a)) (nnumL (nkvL ([] : List ByteArray) (TOK a)) (TOK b))) (k) : Int), ((TOK a).getD (i).toNat ByteArray.empty : ByteArray))]), i + 1, j, k + 1, by omega, by omega, (by rw [hnew_, ← edf_out klo hk (by omega) (by omega)]; exact q1), (al_out q2 klo hk (by omega) (by omega)), by omega, ((by have h_ := hbt_ ((TOK a).getD i.toNat ByteArray.empty); rw [hnew_]; omega)), ((by have h_ := hbl_ ((TOK a).getD i.toNat ByteArray.empty); rw [hnew_]; omega)), (LST.step klo hnew_), hS54, rfl, Weak.cons rfl <| Weak.cons rfl <| Weak.cons rfl <| Weak.cons rfl <| Weak.cons rfl <| Weak.cons rfl <| Weak.cons rfl <| Weak.nil _⟩
            · refine WS.pure rfl rfl (fun _ => LV.as (LV.gtI rfl rfl) (decide_eq_false hg4)) ?_
              refine WS.pure rfl rfl (fun _ => LV.mv rfl) ?_
              iterate 4 refine WS.off rfl rfl ?_
              refine WS.offL rfl rfl ?_
              iterate 3 refine WS.off rfl rfl ?_
              refine WS.offL rfl rfl ?_
              refine WS.off rfl rfl ?_
              refine WS.pure rfl rfl (fun _ => LV.pickF rfl rfl) ?_
              refine WS.nil (thenQ.n ?_)
              refine WC.condF rfl ?_
              refine WC.region ?_
              iterate 3 refine WL.lv rfl (LV.mv rfl) ?_
              obtain ⟨A37, c37, e25, g25⟩ := St.elt (SH.rd hS44 (.head _)) 0 k (by omega) (by omega)
              refine WL.lv rfl (LV.idxA Try.underlying52 ti47.sz rfl e25 rfl (by omega) (by omega)) ?_
              refine WL.lv rfl (LV.load1 (v := (.int .i64 (gI (STP (nnumL ([] : List ByteArray) (TOK a)) (nnumL (nkvL ([] : List ByteArray) (TOK a)) (TOK b))) (k)))) Try.underlying47 rfl rfl (g25 _ (KB.refl No _) 0 _ rfl)) ?_
              refine WL.lv rfl (LV.mv rfl) ?_
              refine WL.lv rfl (LV.build (vs := [(0, (.int .i64 (gI (STP (nnumL ([] : List ByteArray) (TOK a)) (nnumL (nkvL ([] : List ByteArray) (TOK a)) (TOK b))) (k)))), (1, (.string ((TOK a).getD (i).toNat ByteArray.empty)))]) (places := #[(0, 1), (1, 1)]) (cs := #[(.int .i64 (gI (STP (nnumL ([] : List ByteArray) (TOK a)) (nnumL (nkvL ([] : List ByteArray) (TOK a)) (TOK b))) (k))), (.string ((TOK a).getD (i).toNat ByteArray.empty))]) Try.underlying49 ti49 (fun _ => by kernel_rfl) rfl rfl) ?_
              refine WL.xe rfl (XE.buildSlice (E := eBt) [(0, (.agg #[(.int .i64 (gI (STP (nnumL ([] : List ByteArray) (TOK a)) (nnumL (nkvL ([] : List ByteArray) (TOK a)) (TOK b))) (k))), (.string ((TOK a).getD (i).toNat ByteArray.empty))]))] #[(.int .i64 (gI (STP (nnumL ([] : List ByteArray) (TOK a)) (nnumL (nkvL ([] : List ByteArray) (TOK a)) (TOK b))) (k))), (.string ((TOK a).getD (i).toNat ByteArray.empty))] [((gI (STP (nnumL ([] : List ByteArray) (TOK a)) (nnumL (nkvL ([] : List ByteArray) (TOK a)) (TOK b))) (k) : Int), ((TOK a).getD (i).toNat ByteArray.empty : ByteArray))] hS44 Try.underlying29 ti49 rfl (by decide) (by kernel_rfl) (.inr rfl) rfl rfl (by decide)) ?_
              rintro _ w27 ⟨b10, rfl, hS55, hk21⟩
              have hS56 : SH w No w27 [rowE eBt 49 (.slice A_out out.length c_out) out, rowE eBt 49 (.slice (some ⟨b10, 0, none⟩) 1 1) [((gI (STP (nnumL ([] : List ByteArray) (TOK a)) (nnumL (nkvL ([] : List ByteArray) (TOK a)) (TOK b))) (k) : Int), ((TOK a).getD (i).toNat ByteArray.empty : ByteArray))], rowE eI 47 (.slice A7 ((STP (nnumL ([] : List ByteArray) (TOK a)) (nnumL (nkvL ([] : List ByteArray) (TOK a)) (TOK b))).length) c7) (STP (nnumL ([] : List ByteArray) (TOK a)) (nnumL (nkvL ([] : List ByteArray) (TOK a)) (TOK b))), rowE eI 3 (.slice A5 ((nnumL (nkvL ([] : List ByteArray) (TOK a)) (TOK b)).length) c5) (nnumL (nkvL ([] : List ByteArray) (TOK a)) (TOK b)), rowE eS 9 (.slice A6 ((nkvL (nkvL ([] : List ByteArray) (TOK a)) (TOK b)).length) c6) (nkvL (nkvL ([] : List ByteArray) (TOK a)) (TOK b)), rowE eI 3 (.slice A3 ((nnumL ([] : List ByteArray) (TOK a)).length) c3) (nnumL ([] : List ByteArray) (TOK a)), rowE eS 9 (.slice A2 ((TOK b).length) c2) (TOK b), rowE eS 9 (.slice A1 ((TOK a).length) c1) (TOK a)] := (SH.front [_, _, _, _, _, _, _] hS55)
              refine WL.xe rfl (XE.append hS56 Try.underlying29 ti49 rfl (St.now (SH.rd hS56 (.tail _ (.head _)))) rfl rfl (by first | omega | simp only [List.length_append, List.length_cons, List.length_nil, List.length_take, List.length_reverse, List.length_drop] at *; omega) (by first | omega | simp only [List.length_append, List.length_cons, List.length_nil, List.length_take, List.length_reverse, List.length_drop] at *; omega)) ?_
              rintro _ w28 ⟨A38, c38, rfl, hS57, hk22⟩
              refine WL.lv rfl (LV.asg rfl) ?_
              refine WL.nil (blockQ.n <| thenQ.n ?_)
              refine WC.region ?_
              refine WL.lv rfl (LV.mv rfl) ?_
              refine WL.lv rfl (LV.add rfl rfl (wr64 (by omega) (by omega))) ?_
              refine WL.lv rfl (LV.asg rfl) ?_
              refine WL.nil (thenQ.n ?_)
              have hS58 : SH w No w28 [rowE eI 47 (.slice A7 ((STP (nnumL ([] : List ByteArray) (TOK a)) (nnumL (nkvL ([] : List ByteArray) (TOK a)) (TOK b))).length) c7) (STP (nnumL ([] : List ByteArray) (TOK a)) (nnumL (nkvL ([] : List ByteArray) (TOK a)) (TOK b))), rowE eI 3 (.slice A5 ((nnumL (nkvL ([] : List ByteArray) (TOK a)) (TOK b)).length) c5) (nnumL (nkvL ([] : List ByteArray) (TOK a)) (TOK b)), rowE eS 9 (.slice A6 ((nkvL (nkvL ([] : List ByteArray) (TOK a)) (TOK b)).length) c6) (nkvL (nkvL ([] : List ByteArray) (TOK a)) (TOK b)), rowE eI 3 (.slice A3 ((nnumL ([] : List ByteArray) (TOK a)).length) c3) (nnumL ([] : List ByteArray) (TOK a)), rowE eS 9 (.slice A2 ((TOK b).length) c2) (TOK b), rowE eS 9 (.slice A1 ((TOK a).length) c1) (TOK a), rowE eBt 49 (.slice A38 ((out ++ [((gI (STP (nnumL ([] : List ByteArray) (TOK a)) (nnumL (nkvL ([] : List ByteArray) (TOK a)) (TOK b))) (k) : Int), ((TOK a).getD (i).toNat ByteArray.empty : ByteArray))]).length) c38) (out ++ [((gI (STP (nnumL ([] : List ByteArray) (TOK a)) (nnumL (nkvL ([] : List ByteArray) (TOK a)) (TOK b))) (k) : Int), ((TOK a).getD (i).toNat ByteArray.empty : ByteArray))])] := (SH.take 7 rfl (SH.front [_, _, _, _, _, _, _] (SH.front [_, _, _, _, _, _, _] (SH.front [_, _, _, _, _, _, _] (SH.front [_, _, _, _, _, _, _] (SH.front [_, _, _, _, _, _, _] (SH.front [_, _, _, _, _, _, _] hS57)))))))
              have hnew_ : ((out ++ [((gI (STP (nnumL ([] : List ByteArray) (TOK a)) (nnumL (nkvL ([] : List ByteArray) (TOK a)) (TOK b))) (k) : Int), ((TOK a).getD (i).toNat ByteArray.empty : ByteArray))]) : List (Int × ByteArray)) = LAYB out (gI (STP (nnumL [] (TOK a)) (nnumL (nkvL [] (TOK a)) (TOK b))) k) ((TOK a).getD i.toNat ByteArray.empty) := q6.add klo (fun h_ => by omega)
              exact ⟨_, by omega, A38, c38, (out ++ [((gI (STP (nnumL ([] : List ByteArray) (TOK a)) (nnumL (nkvL ([] : List ByteArray) (TOK a)) (TOK b))) (k) : Int), ((TOK a).getD (i).toNat ByteArray.empty : ByteArray))]), i + 1, j, k + 1, by omega, by omega, (by rw [hnew_, ← edf_out klo hk (by omega) (by omega)]; exact q1), (al_out q2 klo hk (by omega) (by omega)), by omega, ((by have h_ := hbt_ ((TOK a).getD i.toNat ByteArray.empty); rw [hnew_]; omega)), ((by have h_ := hbl_ ((TOK a).getD i.toNat ByteArray.empty); rw [hnew_]; omega)), (LST.step klo hnew_), hS58, rfl, Weak.cons rfl <| Weak.cons rfl <| Weak.cons rfl <| Weak.cons rfl <| Weak.cons rfl <| Weak.cons rfl <| Weak.cons rfl <| Weak.nil _⟩
      · skip
        refine WC.exit (thenQ.x <| thenQ.x <| blockQ.hit <| thenQ.n ?_)
        refine WC.seq ?_
        refine WC.region ?_
        refine WL.lv rfl (LV.mv rfl) ?_
        refine WL.lv rfl (LV.asg rfl) ?_
        refine WL.nil (thenQ.n ?_)
        refine WC.ret (?_)
        have hS59 : SH w No w7 [rowE eBt 49 (.slice A_out out.length c_out) out] := (SH.take 1 rfl (SH.front [_, _, _, _, _, _] hL1))
        have hres3 : (out : List (Int × ByteArray)) = EDT a b := edt_fin hlg_ (by omega) q1
        exact ⟨_, fun a ha => res1 rfl ha rfl, (by rw [← hres3]; exact ⟨_, _, rfl, hS59⟩)⟩

theorem bsame_calls {w : World} {A_a : Option Addr} {n_a c_a : Nat} {a : List (Int × ByteArray)} {A_b : Option Addr} {n_b c_b : Nat} {b : List (Int × ByteArray)} (h_a : St No w (Rd eBt (.slice A_a n_a c_a) a)) (hn_a : a.length = n_a) (h_b : St No w (Rd eBt (.slice A_b n_b c_b) b)) (hn_b : b.length = n_b)  :
    Calls Try.prog 14 #[(.slice A_a n_a c_a), (.slice A_b n_b c_b)] w fun e w' => ∃ v, e = .returned v ∧ (fun v w' => v = .bool (decide (a = b)) ∧ KB No w w') v w' := by
  subst hn_a hn_b
  have hma := Rd.max h_a.now
  have hS : SH w No w [] := SH.nil _ _
  refine calls (l := litOf [(.slice A_a a.length c_a), (.slice A_b b.length c_b)] 0) Try.func14 rfl (n := 26) rfl (Nat.le_of_ble_eq_true rfl) (lit_args _) ?_
  refine WC.seq ?_
  refine WC.region ?_
  refine WL.lv rfl (LV.asg rfl) ?_
  refine WL.nil (thenQ.n ?_)
  iterate 2 refine WC.seq ?_
  refine WC.region ?_
  refine WL.lv rfl (LV.mv rfl) ?_
  refine WL.lv rfl (LV.lenL Try.underlying29 rfl) ?_
  refine WL.lv rfl (LV.mv rfl) ?_
  refine WL.lv rfl (LV.lenL Try.underlying29 rfl) ?_
  refine WL.lv rfl (LV.neI rfl rfl) ?_
  refine WL.nil (thenQ.n ?_)
  refine WC.condP (p := (a.length : Int) ≠ (b.length : Int)) rfl (fun hc1 => ?_) (fun hc1 => ?_)
  · skip
    refine WC.seq ?_
    refine WC.region ?_
    refine WL.lv rfl (LV.asg rfl) ?_
    refine WL.nil (thenQ.n ?_)
    refine WC.ret (thenQ.r <| ?_)
    exact ⟨_, fun a ha => res1 rfl ha rfl, congrArg Value.bool ((decide_eq_false (fun h_ => by subst h_; first | omega | exact h25 ⟨rfl, rfl⟩)).symm), hS.kb⟩
  · skip
    refine WC.skip (thenQ.n ?_)
    iterate 2 refine WC.seq ?_
    refine WC.region ?_
    refine WL.lv rfl (LV.asg rfl) ?_
    refine WL.nil (thenQ.n ?_)
    refine WC.block ?_
    refine WC.loop (fun m_ f_ w_ => ∃ (i : Int), (0 ≤ i) ∧ (i ≤ (a.length : Int)) ∧ (∀ t : Int, 0 ≤ t → t < i → (a.getD t.toNat (0, ByteArray.empty)).1 = (b.getD t.toNat (0, ByteArray.empty)).1 ∧ (a.getD t.toNat (0, ByteArray.empty)).2 = (b.getD t.toNat (0, ByteArray.empty)).2) ∧ SH w No w_ [] ∧ m_ = (((a.length : Int) - i).toNat) ∧ Weak (lit [(0, (.slice A_a a.length c_a)), (1, (.slice A_b b.length c_b)), (5, (.int .i64 i))]) f_) _ ⟨0, by omega, by omega, (fun t h1 h2 => by omega), hS, rfl, Weak.cons rfl <| Weak.cons rfl <| Weak.cons rfl <| Weak.nil _⟩ ?_
    rintro m1 f1 w1 ⟨i, ilo, ihi, q1, hL1, rfl, hw1⟩
    refine WC.weak hw1 ?_
    clear hw1
    iterate 2 refine WC.seq ?_
    refine WC.region ?_
    iterate 2 refine WL.lv rfl (LV.mv rfl) ?_
    refine WL.lv rfl (LV.lenL Try.underlying29 rfl) ?_
    refine WL.lv rfl (LV.ltI rfl rfl) ?_
    refine WL.nil (thenQ.n ?_)
    refine WC.condP (p := i < (a.length : Int)) rfl (fun hc2 => ?_) (fun hc2 => ?_)
    · skip
      refine WC.skip (thenQ.n ?_)
      refine WC.seq ?_
      refine WC.block ?_
      refine WC.seq ?_
      have hS1 := SH.drew hL1
      refine WC.regionD [] (fun w_ => KB No w1.drew w_) [(.pure, 0), (.pure, 1), (.pure, 2), (.look, 3), (.pure, 4), (.pure, 5), (.pure, 6), (.look, 7), (.pure, 8)] (by kernel_rfl) (by kernel_rfl) (KB.refl _ _) ?_
      iterate 2 refine WS.pure rfl rfl (fun _ => LV.mv rfl) ?_
      obtain ⟨A1, c1, e1, g1⟩ := St.elt (SH.stN hS1 h_a) (0, ByteArray.empty) i (by omega) (by omega)
      refine WS.pure rfl rfl (fun _ => LV.idxA Try.underlying29 ti49.sz rfl e1 rfl (by omega) (by omega)) ?_
      refine WS.look rfl rfl (fun _ hk_ => LV.loadAgg (cs := [(.int .i64 ((a.getD (i).toNat (0, ByteArray.empty)).1)), (.string ((a.getD (i).toNat (0, ByteArray.empty)).2))]) Try.underlying49 rfl ti49 rfl rfl (fun j u hu => g1 _ hk_ j u hu)) ?_
      iterate 2 refine WS.pure rfl rfl (fun _ => LV.mv rfl) ?_
      obtain ⟨A2, c2, e2, g2⟩ := St.elt (SH.stN hS1 h_b) (0, ByteArray.empty) i (by omega) (by omega)
      refine WS.pure rfl rfl (fun _ => LV.idxA Try.underlying29 ti49.sz rfl e2 rfl (by omega) (by omega)) ?_
      refine WS.look rfl rfl (fun _ hk_ => LV.loadAgg (cs := [(.int .i64 ((b.getD (i).toNat (0, ByteArray.empty)).1)), (.string ((b.getD (i).toNat (0, ByteArray.empty)).2))]) Try.underlying49 rfl ti49 rfl rfl (fun j u hu => g2 _ hk_ j u hu)) ?_
      refine WS.pure rfl rfl (fun _ => LV.neG (by decide) (ae_s2 Try.underlying49 (by decide) (by kernel_rfl) (pt_int Try.underlying47 rfl) (pt_int Try.underlying47 rfl) (pt_str Try.underlying9 rfl) (pt_str Try.underlying9 rfl) (ae_int Try.underlying47) (ae_str Try.underlying9)) (by kernel_rfl) rfl rfl) ?_
      refine WS.nil (thenQ.n ?_)
      refine WC.condP (p := ¬ ((((a.getD (i).toNat (0, ByteArray.empty)).1) = ((b.getD (i).toNat (0, ByteArray.empty)).1)) ∧ (((a.getD (i).toNat (0, ByteArray.empty)).2) = ((b.getD (i).toNat (0, ByteArray.empty)).2)))) rfl (fun h25 => ?_) (fun h25 => ?_)
      · skip
        refine WC.seq ?_
        refine WC.region ?_
        refine WL.lv rfl (LV.asg rfl) ?_
        refine WL.nil (thenQ.n ?_)
        refine WC.ret (blockQ.r <| thenQ.r <| thenQ.r <| blockQ.r <| thenQ.r <| ?_)
        exact ⟨_, fun a ha => res1 rfl ha rfl, congrArg Value.bool ((decide_eq_false (fun h_ => by subst h_; first | omega | exact h25 ⟨rfl, rfl⟩)).symm), hS1.kb⟩
      · skip
        refine WC.skip (blockQ.n <| thenQ.n ?_)
        refine WC.region ?_
        refine WL.lv rfl (LV.mv rfl) ?_
        refine WL.lv rfl (LV.add rfl rfl (wr64 (by omega) (by omega))) ?_
        refine WL.lv rfl (LV.asg rfl) ?_
        refine WL.nil (thenQ.n ?_)
        exact ⟨_, by omega, i + 1, by omega, by omega, (all_step (p := fun t => (a.getD t.toNat (0, ByteArray.empty)).1 = (b.getD t.toNat (0, ByteArray.empty)).1 ∧ (a.getD t.toNat (0, ByteArray.empty)).2 = (b.getD t.toNat (0, ByteArray.empty)).2) q1 (Decidable.not_not.1 h25)), hS1, rfl, Weak.cons rfl <| Weak.cons rfl <| Weak.cons rfl <| Weak.nil _⟩
    · skip
      refine WC.exit (thenQ.x <| thenQ.x <| blockQ.hit <| thenQ.n ?_)
      refine WC.seq ?_
      refine WC.region ?_
      refine WL.lv rfl (LV.asg rfl) ?_
      refine WL.nil (thenQ.n ?_)
      refine WC.ret (?_)
      exact ⟨_, fun a ha => res1 rfl ha rfl, congrArg Value.bool ((decide_eq_true (ext_gB (by omega) (fun t h0_ h1_ => q1 t h0_ (by omega)))).symm), hL1.kb⟩

end Go.Proofs.Ytjjilkibcomfcaa
