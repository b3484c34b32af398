/- Lines' numbers, and the document's. -/
import Derived.Test.YthmjieikbeemhaaNu
import Derived.Test.YthmjieikbeemhaaScN2
namespace Go.Proofs.Ythmjieikbeemhaa
open Go Go.Gv Go.RowKit Go.Mys Go.Num Go.Scr
set_option linter.unusedVariables false
set_option linter.unusedSimpArgs false

theorem numbers_eq {w : World} {A_inp : Option Addr} {n_inp c_inp : Nat} {inp : List (SV × List Ln)} (h_inp : St No w (RdRR eL (.slice A_inp n_inp c_inp) inp)) (hn_inp : inp.length = n_inp) (h1 : inp.length ≤ 1000) (h2 : ∀ p ∈ inp, p.2.length ≤ 1000) : Calls Try.prog 25 #[(.slice A_inp n_inp c_inp)] w fun e w' => ∃ v, e = .returned v ∧
    (fun v w' => ∃ A' c' rows, v = .slice A' rows.length c' ∧ rows.map (·.2) = nnums [] (inp.map (·.2)) ∧ SH w No w' [rrE eI 46 3 (.slice A' rows.length c') rows]) v w' := by
  subst hn_inp; exact numbers_calls h_inp h1 h2

theorem rnumbers_calls {w : World} {A_inp : Option Addr} {n_inp c_inp : Nat} {inp : List (SV × List Ln)} (h_inp : St No w (RdRR eL (.slice A_inp n_inp c_inp) inp)) (hn_inp : inp.length = n_inp) (h1 : inp.length ≤ 1000) (h2 : ∀ p ∈ inp, p.2.length ≤ 1000) :
    Calls Try.prog 27 #[(.slice A_inp n_inp c_inp)] w fun e w' => ∃ v, e = .returned v ∧ (fun v w' => ∃ (A0' : Option Addr) (c0' : Nat) (rows0' : List (SV × List Int)), v = .slice A0' rows0'.length c0' ∧ rows0'.map (·.2) = nnums [] (inp.map (·.2)) ∧ SH w No w' [rrE eI 46 3 (.slice A0' rows0'.length c0') rows0']) v w' := by
  subst hn_inp
  have hS : SH w No w [] := SH.nil _ _
  refine calls (l := litOf [(.slice A_inp inp.length c_inp)] 0) Try.func27 rfl (n := 70) rfl (Nat.le_of_ble_eq_true rfl) (lit_args _) ?_
  refine WC.seq ?_
  refine WC.region ?_
  refine WL.lv rfl (LV.asg rfl) ?_
  refine WL.nil (thenQ.n ?_)
  refine WC.seq ?_
  refine WC.region ?_
  refine WL.xe rfl (XE.buildSlice (E := eL) [] #[] [] hS Try.underlying22 ti44 rfl (by decide) (by kernel_rfl) (.inr rfl) rfl rfl (by decide)) ?_
  rintro _ w1 ⟨b1, rfl, hS1, hk1⟩
  refine WL.lv rfl (LV.asg rfl) ?_
  refine WL.nil (thenQ.n ?_)
  refine WC.seq ?_
  refine WC.region ?_
  refine WL.xe rfl (XE.buildSlice (E := eV) [] #[] [] hS1 Try.underlying48 ti46 rfl (by decide) (by kernel_rfl) (.inr rfl) rfl rfl (by decide)) ?_
  rintro _ w2 ⟨b2, rfl, hS2, hk2⟩
  have hS3 := SH.rr0 (E := eI) (T1 := 3) hS2
  refine WL.lv rfl (LV.asg rfl) ?_
  refine WL.nil (thenQ.n ?_)
  iterate 2 refine WC.seq ?_
  refine WC.region ?_
  refine WL.lv rfl (LV.asg rfl) ?_
  refine WL.nil (thenQ.n ?_)
  refine WC.block ?_
  refine WC.loop (fun m_ f_ w_ => ∃ (A_known : Option Addr) (c_known : Nat) (known : List Ln) (A_out : Option Addr) (c_out : Nat) (out : List (SV × List Int)) (i : Int), (0 ≤ i) ∧ (i ≤ (inp.length : Int)) ∧ (zipO 0 known = nkvs [] ((inp.map (·.2)).take i.toNat)) ∧ (out.map (·.2) = nnums [] ((inp.map (·.2)).take i.toNat)) ∧ ((out.length : Int) = i) ∧ ((known.length : Int) ≤ 1000 * i) ∧ SH w No w_ [rrE eI 46 3 (.slice A_out out.length c_out) out, rowE eL 44 (.slice A_known known.length c_known) known] ∧ m_ = (((inp.length : Int) - i).toNat) ∧ Weak (lit [(0, (.slice A_inp inp.length c_inp)), (3, (.slice A_known known.length c_known)), (4, (.slice A_out out.length c_out)), (5, (.int .i64 i))]) f_) _ ⟨(some ⟨b1, 0, none⟩), 0, [], (some ⟨b2, 0, none⟩), 0, [], 0, by omega, by omega, rfl, rfl, rfl, (by simp), hS3, rfl, Weak.cons rfl <| Weak.cons rfl <| Weak.cons rfl <| Weak.cons rfl <| Weak.nil _⟩ ?_
  rintro m1 f1 w3 ⟨A_known, c_known, known, A_out, c_out, out, i, ilo, ihi, q1, q2, q3, q4, hL1, rfl, hw1⟩
  refine WC.weak hw1 ?_
  clear hw1
  iterate 2 refine WC.seq ?_
  refine WC.region ?_
  iterate 2 refine WL.lv rfl (LV.mv rfl) ?_
  refine WL.lv rfl (LV.lenL Try.underlying30 rfl) ?_
  refine WL.lv rfl (LV.ltI rfl rfl) ?_
  refine WL.nil (thenQ.n ?_)
  refine WC.condP (p := i < (inp.length : Int)) rfl (fun hi_ => ?_) (fun hi_ => ?_)
  · have hln := h2 (inp.getD (i).toNat default) (getD_mem (by omega))
    refine WC.skip (thenQ.n ?_)
    refine WC.seq ?_
    refine WC.block ?_
    refine WC.seq ?_
    refine WC.region ?_
    refine WL.xe rfl (XE.buildSlice (E := eI) [] #[] [] hL1 Try.underlying46 ti3 rfl (by decide) (by kernel_rfl) (.inr rfl) rfl rfl (by decide)) ?_
    rintro _ w4 ⟨b3, rfl, hS4, hk3⟩
    refine WL.lv rfl (LV.asg rfl) ?_
    refine WL.nil (thenQ.n ?_)
    iterate 2 refine WC.seq ?_
    refine WC.region ?_
    refine WL.lv rfl (LV.asg rfl) ?_
    refine WL.nil (thenQ.n ?_)
    refine WC.block ?_
    refine WC.loop (fun m_ f_ w_ => ∃ (A_known2 : Option Addr) (c_known2 : Nat) (known2 : List Ln) (A_row : Option Addr) (c_row : Nat) (row : List Int) (k : Int), (zipO 0 known2 = nkv (zipO 0 known) ((inp.getD (i).toNat default).2.take k.toNat)) ∧ (row = nnum (zipO 0 known) ((inp.getD (i).toNat default).2.take k.toNat)) ∧ ((row.length : Int) = k) ∧ ((known2.length : Int) ≤ 1000 * i + k) ∧ (0 ≤ k) ∧ (k ≤ ((inp.getD (i).toNat default).2.length : Int)) ∧ SH w No w_ [rowE eI 3 (.slice A_row row.length c_row) row, rrE eI 46 3 (.slice A_out out.length c_out) out, rowE eL 44 (.slice A_known2 known2.length c_known2) known2] ∧ m_ = ((((inp.getD (i).toNat default).2.length : Int) - k).toNat) ∧ Weak (lit [(0, (.slice A_inp inp.length c_inp)), (3, (.slice A_known2 known2.length c_known2)), (4, (.slice A_out out.length c_out)), (5, (.int .i64 i)), (6, (.slice A_row row.length c_row)), (7, (.int .i64 k))]) f_) _ ⟨A_known, c_known, known, (some ⟨b3, 0, none⟩), 0, [], 0, rfl, rfl, rfl, by omega, by omega, by omega, hS4, rfl, Weak.cons rfl <| Weak.cons rfl <| Weak.cons rfl <| Weak.cons rfl <| Weak.cons rfl <| Weak.cons rfl <| Weak.nil _⟩ ?_
    rintro m2 f2 w5 ⟨A_known2, c_known2, known2, A_row, c_row, row, k, r1, r2, r3, r4, klo, khi, hL2, rfl, hw2⟩
    refine WC.weak hw2 ?_
    clear hw2
    iterate 2 refine WC.seq ?_
    refine WC.region ?_
    iterate 3 refine WL.lv rfl (LV.mv rfl) ?_
    obtain ⟨A1, c1, A2, c2, e1, g1, e2, r5⟩ := St.eltRR (SH.stN hL2 h_inp) default i (by omega) (by omega)
    refine WL.lv rfl (LV.idxA Try.underlying30 ti22.sz rfl e1 rfl (by omega) (by omega)) ?_
    refine WL.lv rfl (LV.load1 Try.underlying22 rfl rfl (g1 _ (KB.refl No _))) ?_
    refine WL.lv rfl (LV.lenL Try.underlying22 rfl) ?_
    refine WL.lv rfl (LV.ltI rfl rfl) ?_
    refine WL.nil (thenQ.n ?_)
    refine WC.condP (p := k < ((inp.getD (i).toNat default).2.length : Int)) rfl (fun hk => ?_) (fun hk => ?_)
    · skip
      refine WC.skip (thenQ.n ?_)
      refine WC.seq ?_
      refine WC.block ?_
      refine WC.seq ?_
      refine WC.region ?_
      refine WL.lv rfl (LV.asg rfl) ?_
      refine WL.nil (thenQ.n ?_)
      refine WC.seq ?_
      refine WC.block ?_
      refine WC.loop (fun m_ f_ w_ => ∃ (n : Int), (0 ≤ n) ∧ (n ≤ (known2.length : Int)) ∧ (∀ t : Int, 0 ≤ t → t < n → ¬ (known2.getD t.toNat lnD = (inp.getD (i).toNat default).2.getD k.toNat lnD)) ∧ SH w No w_ [rowE eI 3 (.slice A_row row.length c_row) row, rrE eI 46 3 (.slice A_out out.length c_out) out, rowE eL 44 (.slice A_known2 known2.length c_known2) known2] ∧ m_ = (((known2.length : Int) - n).toNat) ∧ Weak (lit [(0, (.slice A_inp inp.length c_inp)), (3, (.slice A_known2 known2.length c_known2)), (4, (.slice A_out out.length c_out)), (5, (.int .i64 i)), (6, (.slice A_row row.length c_row)), (7, (.int .i64 k)), (8, (.int .i64 n))]) f_) _ ⟨0, by omega, by omega, (fun t h1_ h2_ => by omega), hL2, rfl, Weak.cons rfl <| Weak.cons rfl <| Weak.cons rfl <| Weak.cons rfl <| Weak.cons rfl <| Weak.cons rfl <| Weak.cons rfl <| Weak.nil _⟩ ?_
      rintro m3 f3 w6 ⟨n, nlo, nhi, s1, hL3, rfl, hw3⟩
      refine WC.weak hw3 ?_
      clear hw3
      iterate 2 refine WC.seq ?_
      have hS5 := SH.drew hL3
      refine WC.regionD [] (fun w_ => KB No w6.drew w_) [(.pure, 0), (.pure, 1), (.pure, 2), (.pure, 3), (.pure, 4), (.pure, 5), (.pure, 6), (.pure, 7), (.look, 8), (.pure, 9), (.pure, 10), (.pure, 11), (.look, 12), (.pure, 13), (.pure, 14), (.look, 15), (.pure, 16), (.pure, 17)] (by kernel_rfl) (by kernel_rfl) (KB.refl _ _) ?_
      iterate 2 refine WS.pure rfl rfl (fun _ => LV.mv rfl) ?_
      refine WS.pure rfl rfl (fun _ => LV.lenL Try.underlying22 rfl) ?_
      rcases Decidable.em (n < (known2.length : Int)) with hg1 | hg1
      · refine WS.pure rfl rfl (fun _ => LV.as (LV.ltI rfl rfl) (decide_eq_true hg1)) ?_
        iterate 3 refine WS.pure rfl rfl (fun _ => LV.mv rfl) ?_
        obtain ⟨A3, c3, e3, g2⟩ := St.elt (SH.rd hS5 (.tail _ (.tail _ (.head _)))) lnD n (by omega) (by omega)
        refine WS.pure rfl rfl (fun _ => LV.idxA Try.underlying22 ti44.sz rfl e3 rfl (by omega) (by omega)) ?_
        refine WS.look rfl rfl (fun _ hk_ => LV.loadAgg (cs := [(.string ((known2.getD (n).toNat lnD).1)), (.bool ((known2.getD (n).toNat lnD).2))]) Try.underlying44 rfl ti44 rfl rfl (fun j u hu => g2 _ hk_ j u hu)) ?_
        iterate 2 refine WS.pure rfl rfl (fun _ => LV.mv rfl) ?_
        obtain ⟨A4, c4, A5, c5, e4, g3, e5, r6⟩ := St.eltRR (SH.stN hS5 h_inp) default i (by omega) (by omega)
        refine WS.pure rfl rfl (fun _ => LV.idxA Try.underlying30 ti22.sz rfl e4 rfl (by omega) (by omega)) ?_
        refine WS.look rfl rfl (fun _ hk_ => LV.load1 Try.underlying22 rfl rfl (g3 _ hk_)) ?_
        refine WS.pure rfl rfl (fun _ => LV.mv rfl) ?_
        obtain ⟨A6, c6, e6, g4⟩ := St.elt (St.inner (SH.stN hS5 h_inp) (getD_mem (by omega)) e5) lnD k (by omega) (by omega)
        refine WS.pure rfl rfl (fun _ => LV.idxA Try.underlying22 ti44.sz rfl e6 rfl (by omega) (by omega)) ?_
        refine WS.look rfl rfl (fun _ hk_ => LV.loadAgg (cs := [(.string ((((inp.getD (i).toNat default).2).getD (k).toNat lnD).1)), (.bool ((((inp.getD (i).toNat default).2).getD (k).toNat lnD).2))]) Try.underlying44 rfl ti44 rfl rfl (fun j u hu => g4 _ hk_ j u hu)) ?_
        refine WS.pure rfl rfl (fun _ => LV.neLn Try.underlying44 Try.underlying9 Try.underlying4 (by decide) (by kernel_rfl) (by kernel_rfl) rfl rfl) ?_
        refine WS.pure rfl rfl (fun _ => LV.pickT rfl rfl) ?_
        refine WS.nil (thenQ.n ?_)
        refine WC.condP (p := ¬ (((known2.getD (n).toNat lnD).1) = ((((inp.getD (i).toNat default).2).getD (k).toNat lnD).1) ∧ ((known2.getD (n).toNat lnD).2) = ((((inp.getD (i).toNat default).2).getD (k).toNat lnD).2))) rfl (fun hc44 => ?_) (fun hc44 => ?_)
        · skip
          refine WC.skip (thenQ.n ?_)
          refine WC.block ?_
          refine WC.region ?_
          refine WL.lv rfl (LV.mv rfl) ?_
          refine WL.lv rfl (LV.add rfl rfl (wr64 (by omega) (by omega))) ?_
          refine WL.lv rfl (LV.asg rfl) ?_
          refine WL.nil (blockQ.n <| thenQ.n ?_)
          exact ⟨_, by omega, n + 1, by omega, by omega, (all_step (p := fun t => ¬ (known2.getD t.toNat lnD = (inp.getD (i).toNat default).2.getD k.toNat lnD)) s1 (fun h_ => hc44 ⟨by rw [h_], by rw [h_]⟩)), hS5, rfl, Weak.cons rfl <| Weak.cons rfl <| Weak.cons rfl <| Weak.cons rfl <| Weak.cons rfl <| Weak.cons rfl <| Weak.cons rfl <| Weak.nil _⟩
        · skip
          refine WC.exit (thenQ.x <| thenQ.x <| blockQ.hit <| thenQ.n ?_)
          iterate 2 refine WC.seq ?_
          refine WC.region ?_
          iterate 2 refine WL.lv rfl (LV.mv rfl) ?_
          refine WL.lv rfl (LV.lenL Try.underlying22 rfl) ?_
          refine WL.lv rfl (LV.eqI rfl rfl) ?_
          refine WL.nil (thenQ.n ?_)
          refine WC.condP (p := n = (known2.length : Int)) rfl (fun hc50 => ?_) (fun hc50 => ?_)
          · skip
            refine WC.region ?_
            iterate 3 refine WL.lv rfl (LV.mv rfl) ?_
            obtain ⟨A7, c7, A8, c8, e7, g5, e8, r7⟩ := St.eltRR (SH.stN hS5 h_inp) default i (by omega) (by omega)
            refine WL.lv rfl (LV.idxA Try.underlying30 ti22.sz rfl e7 rfl (by omega) (by omega)) ?_
            refine WL.lv rfl (LV.load1 Try.underlying22 rfl rfl (g5 _ (KB.refl No _))) ?_
            refine WL.lv rfl (LV.mv rfl) ?_
            obtain ⟨A9, c9, e9, g6⟩ := St.elt (St.inner (SH.stN hS5 h_inp) (getD_mem (by omega)) e8) lnD k (by omega) (by omega)
            refine WL.lv rfl (LV.idxA Try.underlying22 ti44.sz rfl e9 rfl (by omega) (by omega)) ?_
            refine WL.lv rfl (LV.loadAgg (cs := [(.string ((((inp.getD (i).toNat default).2).getD (k).toNat lnD).1)), (.bool ((((inp.getD (i).toNat default).2).getD (k).toNat lnD).2))]) Try.underlying44 rfl ti44 rfl rfl (fun j u hu => g6 _ (KB.refl No _) j u hu)) ?_
            refine WL.xe rfl (XE.buildSlice (E := eL) [(0, (.agg #[(.string ((((inp.getD (i).toNat default).2).getD (k).toNat lnD).1)), (.bool ((((inp.getD (i).toNat default).2).getD (k).toNat lnD).2))]))] #[(.string ((((inp.getD (i).toNat default).2).getD (k).toNat lnD).1)), (.bool ((((inp.getD (i).toNat default).2).getD (k).toNat lnD).2))] [((inp.getD (i).toNat default).2).getD (k).toNat lnD] hS5 Try.underlying22 ti44 rfl (by decide) (by kernel_rfl) (.inr rfl) rfl rfl (by decide)) ?_
            rintro _ w7 ⟨b4, rfl, hS6, hk4⟩
            have hS7 : SH w No w7 [rowE eL 44 (.slice A_known2 known2.length c_known2) known2, rowE eL 44 (.slice (some ⟨b4, 0, none⟩) 1 1) [((inp.getD (i).toNat default).2).getD (k).toNat lnD], rowE eI 3 (.slice A_row row.length c_row) row, rrE eI 46 3 (.slice A_out out.length c_out) out] := (SH.front [rowE eL 44 (.slice (some ⟨b4, 0, none⟩) 1 1) [((inp.getD (i).toNat default).2).getD (k).toNat lnD], rowE eI 3 (.slice A_row row.length c_row) row, rrE eI 46 3 (.slice A_out out.length c_out) out] hS6)
            refine WL.xe rfl (XE.append hS7 Try.underlying22 ti44 rfl (St.now (SH.rd hS7 (.tail _ (.head _)))) rfl rfl (by first | omega | simp only [List.length_append, List.length_cons, List.length_nil, List.length_take, List.length_reverse, List.length_drop] at *; omega) (by first | omega | simp only [List.length_append, List.length_cons, List.length_nil, List.length_take, List.length_reverse, List.length_drop] at *; omega)) ?_
            rintro _ w8 ⟨A10, c10, rfl, hS8, hk5⟩
            refine WL.lv rfl (LV.asg rfl) ?_
            refine WL.nil (thenQ.n ?_)
            refine WC.region ?_
            iterate 2 refine WL.lv rfl (LV.mv rfl) ?_
            refine WL.xe rfl (XE.buildSlice (E := eI) [(0, (.int .i64 n))] #[(.int .i64 n)] [n] hS8 Try.underlying46 ti3 rfl (by decide) (by kernel_rfl) (.inr rfl) rfl rfl (by decide)) ?_
            rintro _ w9 ⟨b5, rfl, hS9, hk6⟩
            have hS10 : SH w No w9 [rowE eI 3 (.slice A_row row.length c_row) row, rowE eI 3 (.slice (some ⟨b5, 0, none⟩) 1 1) [n], rowE eL 44 (.slice A10 ((known2 ++ [((inp.getD (i).toNat default).2).getD (k).toNat lnD]).length) c10) (known2 ++ [((inp.getD (i).toNat default).2).getD (k).toNat lnD]), rowE eL 44 (.slice (some ⟨b4, 0, none⟩) 1 1) [((inp.getD (i).toNat default).2).getD (k).toNat lnD], rrE eI 46 3 (.slice A_out out.length c_out) out] := (SH.front [rowE eI 3 (.slice (some ⟨b5, 0, none⟩) 1 1) [n], rowE eL 44 (.slice A10 ((known2 ++ [((inp.getD (i).toNat default).2).getD (k).toNat lnD]).length) c10) (known2 ++ [((inp.getD (i).toNat default).2).getD (k).toNat lnD]), rowE eL 44 (.slice (some ⟨b4, 0, none⟩) 1 1) [((inp.getD (i).toNat default).2).getD (k).toNat lnD]] hS9)
            refine WL.xe rfl (XE.append hS10 Try.underlying46 ti3 rfl (St.now (SH.rd hS10 (.tail _ (.head _)))) rfl rfl (by first | omega | simp only [List.length_append, List.length_cons, List.length_nil, List.length_take, List.length_reverse, List.length_drop] at *; omega) (by first | omega | simp only [List.length_append, List.length_cons, List.length_nil, List.length_take, List.length_reverse, List.length_drop] at *; omega)) ?_
            rintro _ w10 ⟨A11, c11, rfl, hS11, hk7⟩
            refine WL.lv rfl (LV.asg rfl) ?_
            refine WL.nil (blockQ.n <| thenQ.n ?_)
            refine WC.region ?_
            refine WL.lv rfl (LV.mv rfl) ?_
            refine WL.lv rfl (LV.add rfl rfl (wr64 (by omega) (by omega))) ?_
            refine WL.lv rfl (LV.asg rfl) ?_
            refine WL.nil (thenQ.n ?_)
            have hS12 : SH w No w10 [rowE eI 3 (.slice A11 ((row ++ [n]).length) c11) (row ++ [n]), rrE eI 46 3 (.slice A_out out.length c_out) out, rowE eL 44 (.slice A10 ((known2 ++ [((inp.getD (i).toNat default).2).getD (k).toNat lnD]).length) c10) (known2 ++ [((inp.getD (i).toNat default).2).getD (k).toNat lnD])] := (SH.take 3 rfl (SH.front [rrE eI 46 3 (.slice A_out out.length c_out) out, rowE eL 44 (.slice A10 ((known2 ++ [((inp.getD (i).toNat default).2).getD (k).toNat lnD]).length) c10) (known2 ++ [((inp.getD (i).toNat default).2).getD (k).toNat lnD])] (SH.front [rowE eL 44 (.slice A10 ((known2 ++ [((inp.getD (i).toNat default).2).getD (k).toNat lnD]).length) c10) (known2 ++ [((inp.getD (i).toNat default).2).getD (k).toNat lnD]), rowE eI 3 (.slice A11 ((row ++ [n]).length) c11) (row ++ [n]), rowE eI 3 (.slice (some ⟨b5, 0, none⟩) 1 1) [n], rowE eL 44 (.slice (some ⟨b4, 0, none⟩) 1 1) [((inp.getD (i).toNat default).2).getD (k).toNat lnD]] (SH.front [rowE eI 3 (.slice A11 ((row ++ [n]).length) c11) (row ++ [n]), rowE eI 3 (.slice (some ⟨b5, 0, none⟩) 1 1) [n]] hS11))))
            have hst_ := rn_step klo hk r1 r2 s1 nlo nhi (fun _ => Prod.ext (Decidable.not_not.1 hc44).1 (Decidable.not_not.1 hc44).2)
            rw [if_pos hc50] at hst_
            exact ⟨_, by omega, A10, c10, (known2 ++ [((inp.getD (i).toNat default).2).getD (k).toNat lnD]), A11, c11, (row ++ [n]), k + 1, hst_.1, hst_.2, (by simp; omega), (by first | omega | (simp; omega)), by omega, by omega, hS12, rfl, Weak.cons rfl <| Weak.cons rfl <| Weak.cons rfl <| Weak.cons rfl <| Weak.cons rfl <| Weak.cons rfl <| Weak.nil _⟩
          · skip
            refine WC.skip (thenQ.n ?_)
            refine WC.region ?_
            iterate 2 refine WL.lv rfl (LV.mv rfl) ?_
            refine WL.xe rfl (XE.buildSlice (E := eI) [(0, (.int .i64 n))] #[(.int .i64 n)] [n] hS5 Try.underlying46 ti3 rfl (by decide) (by kernel_rfl) (.inr rfl) rfl rfl (by decide)) ?_
            rintro _ w11 ⟨b6, rfl, hS13, hk8⟩
            have hS14 : SH w No w11 [rowE eI 3 (.slice A_row row.length c_row) row, rowE eI 3 (.slice (some ⟨b6, 0, none⟩) 1 1) [n], rrE eI 46 3 (.slice A_out out.length c_out) out, rowE eL 44 (.slice A_known2 known2.length c_known2) known2] := (SH.front [rowE eI 3 (.slice (some ⟨b6, 0, none⟩) 1 1) [n]] hS13)
            refine WL.xe rfl (XE.append hS14 Try.underlying46 ti3 rfl (St.now (SH.rd hS14 (.tail _ (.head _)))) rfl rfl (by first | omega | simp only [List.length_append, List.length_cons, List.length_nil, List.length_take, List.length_reverse, List.length_drop] at *; omega) (by first | omega | simp only [List.length_append, List.length_cons, List.length_nil, List.length_take, List.length_reverse, List.length_drop] at *; omega)) ?_
            rintro _ w12 ⟨A12, c12, rfl, hS15, hk9⟩
            refine WL.lv rfl (LV.asg rfl) ?_
            refine WL.nil (blockQ.n <| thenQ.n ?_)
            refine WC.region ?_
            refine WL.lv rfl (LV.mv rfl) ?_
            refine WL.lv rfl (LV.add rfl rfl (wr64 (by omega) (by omega))) ?_
            refine WL.lv rfl (LV.asg rfl) ?_
            refine WL.nil (thenQ.n ?_)
            have hS16 : SH w No w12 [rowE eI 3 (.slice A12 ((row ++ [n]).length) c12) (row ++ [n]), rrE eI 46 3 (.slice A_out out.length c_out) out, rowE eL 44 (.slice A_known2 known2.length c_known2) known2] := (SH.take 3 rfl (SH.front [rrE eI 46 3 (.slice A_out out.length c_out) out, rowE eL 44 (.slice A_known2 known2.length c_known2) known2] (SH.front [rowE eL 44 (.slice A_known2 known2.length c_known2) known2, rowE eI 3 (.slice A12 ((row ++ [n]).length) c12) (row ++ [n]), rowE eI 3 (.slice (some ⟨b6, 0, none⟩) 1 1) [n]] (SH.front [rowE eI 3 (.slice A12 ((row ++ [n]).length) c12) (row ++ [n]), rowE eI 3 (.slice (some ⟨b6, 0, none⟩) 1 1) [n], rrE eI 46 3 (.slice A_out out.length c_out) out] hS15))))
            have hst_ := rn_step klo hk r1 r2 s1 nlo nhi (fun _ => Prod.ext (Decidable.not_not.1 hc44).1 (Decidable.not_not.1 hc44).2)
            rw [if_neg hc50] at hst_
            exact ⟨_, by omega, A_known2, c_known2, known2, A12, c12, (row ++ [n]), k + 1, hst_.1, hst_.2, (by simp; omega), (by first | omega | (simp; omega)), by omega, by omega, hS16, rfl, Weak.cons rfl <| Weak.cons rfl <| Weak.cons rfl <| Weak.cons rfl <| Weak.cons rfl <| Weak.cons rfl <| Weak.nil _⟩
      · refine WS.pure rfl rfl (fun _ => LV.as (LV.ltI rfl rfl) (decide_eq_false hg1)) ?_
        refine WS.pure rfl rfl (fun _ => LV.mv rfl) ?_
        iterate 3 refine WS.off rfl rfl ?_
        refine WS.offL rfl rfl ?_
        iterate 3 refine WS.off rfl rfl ?_
        refine WS.offL rfl rfl ?_
        iterate 2 refine WS.off rfl rfl ?_
        refine WS.offL rfl rfl ?_
        refine WS.off rfl rfl ?_
        refine WS.pure rfl rfl (fun _ => LV.pickF rfl rfl) ?_
        refine WS.nil (thenQ.n ?_)
        refine WC.condF rfl ?_
        refine WC.exit (thenQ.x <| thenQ.x <| blockQ.hit <| thenQ.n ?_)
        iterate 2 refine WC.seq ?_
        refine WC.region ?_
        iterate 2 refine WL.lv rfl (LV.mv rfl) ?_
        refine WL.lv rfl (LV.lenL Try.underlying22 rfl) ?_
        refine WL.lv rfl (LV.eqI rfl rfl) ?_
        refine WL.nil (thenQ.n ?_)
        refine WC.condP (p := n = (known2.length : Int)) rfl (fun hc50 => ?_) (fun hc50 => ?_)
        · skip
          refine WC.region ?_
          iterate 3 refine WL.lv rfl (LV.mv rfl) ?_
          obtain ⟨A13, c13, A14, c14, e10, g7, e11, r8⟩ := St.eltRR (SH.stN hS5 h_inp) default i (by omega) (by omega)
          refine WL.lv rfl (LV.idxA Try.underlying30 ti22.sz rfl e10 rfl (by omega) (by omega)) ?_
          refine WL.lv rfl (LV.load1 Try.underlying22 rfl rfl (g7 _ (KB.refl No _))) ?_
          refine WL.lv rfl (LV.mv rfl) ?_
          obtain ⟨A15, c15, e12, g8⟩ := St.elt (St.inner (SH.stN hS5 h_inp) (getD_mem (by omega)) e11) lnD k (by omega) (by omega)
          refine WL.lv rfl (LV.idxA Try.underlying22 ti44.sz rfl e12 rfl (by omega) (by omega)) ?_
          refine WL.lv rfl (LV.loadAgg (cs := [(.string ((((inp.getD (i).toNat default).2).getD (k).toNat lnD).1)), (.bool ((((inp.getD (i).toNat default).2).getD (k).toNat lnD).2))]) Try.underlying44 rfl ti44 rfl rfl (fun j u hu => g8 _ (KB.refl No _) j u hu)) ?_
          refine WL.xe rfl (XE.buildSlice (E := eL) [(0, (.agg #[(.string ((((inp.getD (i).toNat default).2).getD (k).toNat lnD).1)), (.bool ((((inp.getD (i).toNat default).2).getD (k).toNat lnD).2))]))] #[(.string ((((inp.getD (i).toNat default).2).getD (k).toNat lnD).1)), (.bool ((((inp.getD (i).toNat default).2).getD (k).toNat lnD).2))] [((inp.getD (i).toNat default).2).getD (k).toNat lnD] hS5 Try.underlying22 ti44 rfl (by decide) (by kernel_rfl) (.inr rfl) rfl rfl (by decide)) ?_
          rintro _ w13 ⟨b7, rfl, hS17, hk10⟩
          have hS18 : SH w No w13 [rowE eL 44 (.slice A_known2 known2.length c_known2) known2, rowE eL 44 (.slice (some ⟨b7, 0, none⟩) 1 1) [((inp.getD (i).toNat default).2).getD (k).toNat lnD], rowE eI 3 (.slice A_row row.length c_row) row, rrE eI 46 3 (.slice A_out out.length c_out) out] := (SH.front [rowE eL 44 (.slice (some ⟨b7, 0, none⟩) 1 1) [((inp.getD (i).toNat default).2).getD (k).toNat lnD], rowE eI 3 (.slice A_row row.length c_row) row, rrE eI 46 3 (.slice A_out out.length c_out) out] hS17)
          refine WL.xe rfl (XE.append hS18 Try.underlying22 ti44 rfl (St.now (SH.rd hS18 (.tail _ (.head _)))) rfl rfl (by first | omega | simp only [List.length_append, List.length_cons, List.length_nil, List.length_take, List.length_reverse, List.length_drop] at *; omega) (by first | omega | simp only [List.length_append, List.length_cons, List.length_nil, List.length_take, List.length_reverse, List.length_drop] at *; omega)) ?_
          rintro _ w14 ⟨A16, c16, rfl, hS19, hk11⟩
          refine WL.lv rfl (LV.asg rfl) ?_
          refine WL.nil (thenQ.n ?_)
          refine WC.region ?_
          iterate 2 refine WL.lv rfl (LV.mv rfl) ?_
          refine WL.xe rfl (XE.buildSlice (E := eI) [(0, (.int .i64 n))] #[(.int .i64 n)] [n] hS19 Try.underlying46 ti3 rfl (by decide) (by kernel_rfl) (.inr rfl) rfl rfl (by decide)) ?_
          rintro _ w15 ⟨b8, rfl, hS20, hk12⟩
          have hS21 : SH w No w15 [rowE eI 3 (.slice A_row row.length c_row) row, rowE eI 3 (.slice (some ⟨b8, 0, none⟩) 1 1) [n], rowE eL 44 (.slice A16 ((known2 ++ [((inp.getD (i).toNat default).2).getD (k).toNat lnD]).length) c16) (known2 ++ [((inp.getD (i).toNat default).2).getD (k).toNat lnD]), rowE eL 44 (.slice (some ⟨b7, 0, none⟩) 1 1) [((inp.getD (i).toNat default).2).getD (k).toNat lnD], rrE eI 46 3 (.slice A_out out.length c_out) out] := (SH.front [rowE eI 3 (.slice (some ⟨b8, 0, none⟩) 1 1) [n], rowE eL 44 (.slice A16 ((known2 ++ [((inp.getD (i).toNat default).2).getD (k).toNat lnD]).length) c16) (known2 ++ [((inp.getD (i).toNat default).2).getD (k).toNat lnD]), rowE eL 44 (.slice (some ⟨b7, 0, none⟩) 1 1) [((inp.getD (i).toNat default).2).getD (k).toNat lnD]] hS20)
          refine WL.xe rfl (XE.append hS21 Try.underlying46 ti3 rfl (St.now (SH.rd hS21 (.tail _ (.head _)))) rfl rfl (by first | omega | simp only [List.length_append, List.length_cons, List.length_nil, List.length_take, List.length_reverse, List.length_drop] at *; omega) (by first | omega | simp only [List.length_append, List.length_cons, List.length_nil, List.length_take, List.length_reverse, List.length_drop] at *; omega)) ?_
          rintro _ w16 ⟨A17, c17, rfl, hS22, hk13⟩
          refine WL.lv rfl (LV.asg rfl) ?_
          refine WL.nil (blockQ.n <| thenQ.n ?_)
          refine WC.region ?_
          refine WL.lv rfl (LV.mv rfl) ?_
          refine WL.lv rfl (LV.add rfl rfl (wr64 (by omega) (by omega))) ?_
          refine WL.lv rfl (LV.asg rfl) ?_
          refine WL.nil (thenQ.n ?_)
          have hS23 : SH w No w16 [rowE eI 3 (.slice A17 ((row ++ [n]).length) c17) (row ++ [n]), rrE eI 46 3 (.slice A_out out.length c_out) out, rowE eL 44 (.slice A16 ((known2 ++ [((inp.getD (i).toNat default).2).getD (k).toNat lnD]).length) c16) (known2 ++ [((inp.getD (i).toNat default).2).getD (k).toNat lnD])] := (SH.take 3 rfl (SH.front [rrE eI 46 3 (.slice A_out out.length c_out) out, rowE eL 44 (.slice A16 ((known2 ++ [((inp.getD (i).toNat default).2).getD (k).toNat lnD]).length) c16) (known2 ++ [((inp.getD (i).toNat default).2).getD (k).toNat lnD])] (SH.front [rowE eL 44 (.slice A16 ((known2 ++ [((inp.getD (i).toNat default).2).getD (k).toNat lnD]).length) c16) (known2 ++ [((inp.getD (i).toNat default).2).getD (k).toNat lnD]), rowE eI 3 (.slice A17 ((row ++ [n]).length) c17) (row ++ [n]), rowE eI 3 (.slice (some ⟨b8, 0, none⟩) 1 1) [n], rowE eL 44 (.slice (some ⟨b7, 0, none⟩) 1 1) [((inp.getD (i).toNat default).2).getD (k).toNat lnD]] (SH.front [rowE eI 3 (.slice A17 ((row ++ [n]).length) c17) (row ++ [n]), rowE eI 3 (.slice (some ⟨b8, 0, none⟩) 1 1) [n]] hS22))))
          have hst_ := rn_step klo hk r1 r2 s1 nlo nhi (fun h_ => by omega)
          rw [if_pos hc50] at hst_
          exact ⟨_, by omega, A16, c16, (known2 ++ [((inp.getD (i).toNat default).2).getD (k).toNat lnD]), A17, c17, (row ++ [n]), k + 1, hst_.1, hst_.2, (by simp; omega), (by first | omega | (simp; omega)), by omega, by omega, hS23, rfl, Weak.cons rfl <| Weak.cons rfl <| Weak.cons rfl <| Weak.cons rfl <| Weak.cons rfl <| Weak.cons rfl <| Weak.nil _⟩
        · skip
          refine WC.skip (thenQ.n ?_)
          refine WC.region ?_
          iterate 2 refine WL.lv rfl (LV.mv rfl) ?_
          refine WL.xe rfl (XE.buildSlice (E := eI) [(0, (.int .i64 n))] #[(.int .i64 n)] [n] hS5 Try.underlying46 ti3 rfl (by decide) (by kernel_rfl) (.inr rfl) rfl rfl (by decide)) ?_
          rintro _ w17 ⟨b9, rfl, hS24, hk14⟩
          have hS25 : SH w No w17 [rowE eI 3 (.slice A_row row.length c_row) row, rowE eI 3 (.slice (some ⟨b9, 0, none⟩) 1 1) [n], rrE eI 46 3 (.slice A_out out.length c_out) out, rowE eL 44 (.slice A_known2 known2.length c_known2) known2] := (SH.front [rowE eI 3 (.slice (some ⟨b9, 0, none⟩) 1 1) [n]] hS24)
          refine WL.xe rfl (XE.append hS25 Try.underlying46 ti3 rfl (St.now (SH.rd hS25 (.tail _ (.head _)))) rfl rfl (by first | omega | simp only [List.length_append, List.length_cons, List.length_nil, List.length_take, List.length_reverse, List.length_drop] at *; omega) (by first | omega | simp only [List.length_append, List.length_cons, List.length_nil, List.length_take, List.length_reverse, List.length_drop] at *; omega)) ?_
          rintro _ w18 ⟨A18, c18, rfl, hS26, hk15⟩
          refine WL.lv rfl (LV.asg rfl) ?_
          refine WL.nil (blockQ.n <| thenQ.n ?_)
          refine WC.region ?_
          refine WL.lv rfl (LV.mv rfl) ?_
          refine WL.lv rfl (LV.add rfl rfl (wr64 (by omega) (by omega))) ?_
          refine WL.lv rfl (LV.asg rfl) ?_
          refine WL.nil (thenQ.n ?_)
          have hS27 : SH w No w18 [rowE eI 3 (.slice A18 ((row ++ [n]).length) c18) (row ++ [n]), rrE eI 46 3 (.slice A_out out.length c_out) out, rowE eL 44 (.slice A_known2 known2.length c_known2) known2] := (SH.take 3 rfl (SH.front [rrE eI 46 3 (.slice A_out out.length c_out) out, rowE eL 44 (.slice A_known2 known2.length c_known2) known2] (SH.front [rowE eL 44 (.slice A_known2 known2.length c_known2) known2, rowE eI 3 (.slice A18 ((row ++ [n]).length) c18) (row ++ [n]), rowE eI 3 (.slice (some ⟨b9, 0, none⟩) 1 1) [n]] (SH.front [rowE eI 3 (.slice A18 ((row ++ [n]).length) c18) (row ++ [n]), rowE eI 3 (.slice (some ⟨b9, 0, none⟩) 1 1) [n], rrE eI 46 3 (.slice A_out out.length c_out) out] hS26))))
          have hst_ := rn_step klo hk r1 r2 s1 nlo nhi (fun h_ => by omega)
          rw [if_neg hc50] at hst_
          exact ⟨_, by omega, A_known2, c_known2, known2, A18, c18, (row ++ [n]), k + 1, hst_.1, hst_.2, (by simp; omega), (by first | omega | (simp; omega)), by omega, by omega, hS27, rfl, Weak.cons rfl <| Weak.cons rfl <| Weak.cons rfl <| Weak.cons rfl <| Weak.cons rfl <| Weak.cons rfl <| Weak.nil _⟩
    · skip
      refine WC.exit (thenQ.x <| thenQ.x <| blockQ.hit <| thenQ.n ?_)
      refine WC.region ?_
      iterate 2 refine WL.lv rfl (LV.mv rfl) ?_
      refine WL.xe rfl (XE.buildSlice (E := eV) [(0, (.slice A_row row.length c_row))] #[(.slice A_row row.length c_row)] [(⟨A_row, row.length, c_row⟩ : SV)] hL2 Try.underlying48 ti46 rfl (by decide) (by kernel_rfl) (.inr rfl) rfl rfl (by decide)) ?_
      rintro _ w19 ⟨b10, rfl, hS28, hk16⟩
      have hS29 : SH w No w19 [rowE eI 3 (.slice A_row row.length c_row) row, rowE eV 46 (.slice (some ⟨b10, 0, none⟩) 1 1) [(⟨A_row, row.length, c_row⟩ : SV)], rrE eI 46 3 (.slice A_out out.length c_out) out, rowE eL 44 (.slice A_known2 known2.length c_known2) known2] := (SH.front [rowE eV 46 (.slice (some ⟨b10, 0, none⟩) 1 1) [(⟨A_row, row.length, c_row⟩ : SV)]] hS28)
      have hS30 : SH w No w19 [rrE eI 46 3 (.slice A_out out.length c_out) out, rowE eI 3 (.slice A_row row.length c_row) row, rowE eV 46 (.slice (some ⟨b10, 0, none⟩) 1 1) [(⟨A_row, row.length, c_row⟩ : SV)], rowE eL 44 (.slice A_known2 known2.length c_known2) known2] := (SH.front [rowE eI 3 (.slice A_row row.length c_row) row, rowE eV 46 (.slice (some ⟨b10, 0, none⟩) 1 1) [(⟨A_row, row.length, c_row⟩ : SV)]] hS29)
      refine WL.xe rfl (XE.appendRR (sv := (⟨A_row, row.length, c_row⟩ : SV)) hS30 rfl Try.underlying48 ti46 (St.now (SH.rd hS30 (.tail _ (.tail _ (.head _))))) rfl rfl (by omega) (by omega)) ?_
      rintro _ w20 ⟨A19, c19, rfl, hS31, hk17⟩
      refine WL.lv rfl (LV.asg rfl) ?_
      refine WL.nil (blockQ.n <| thenQ.n ?_)
      refine WC.region ?_
      refine WL.lv rfl (LV.mv rfl) ?_
      refine WL.lv rfl (LV.add rfl rfl (wr64 (by omega) (by omega))) ?_
      refine WL.lv rfl (LV.asg rfl) ?_
      refine WL.nil (thenQ.n ?_)
      have hS32 : SH w No w20 [rrE eI 46 3 (.slice A19 ((out ++ [((⟨A_row, row.length, c_row⟩ : SV), row)]).length) c19) (out ++ [((⟨A_row, row.length, c_row⟩ : SV), row)]), rowE eL 44 (.slice A_known2 known2.length c_known2) known2] := (SH.take 2 rfl (SH.front [rowE eL 44 (.slice A_known2 known2.length c_known2) known2] (SH.front [rrE eI 46 3 (.slice A19 ((out ++ [((⟨A_row, row.length, c_row⟩ : SV), row)]).length) c19) (out ++ [((⟨A_row, row.length, c_row⟩ : SV), row)]), rowE eV 46 (.slice (some ⟨b10, 0, none⟩) 1 1) [(⟨A_row, row.length, c_row⟩ : SV)]] hS31)))
      exact ⟨_, by omega, A_known2, c_known2, known2, A19, c19, (out ++ [((⟨A_row, row.length, c_row⟩ : SV), row)]), i + 1, by omega, by omega, ((num_fin1 r1 (by omega)).trans (nums_step1 ilo hi_ q1)), (num_fin2 r2 (by omega) ▸ nums_step2 ilo hi_ q1 q2), (by simp; omega), by omega, hS32, rfl, Weak.cons rfl <| Weak.cons rfl <| Weak.cons rfl <| Weak.cons rfl <| Weak.nil _⟩
  · skip
    refine WC.exit (thenQ.x <| thenQ.x <| blockQ.hit <| thenQ.n ?_)
    refine WC.seq ?_
    refine WC.region ?_
    refine WL.lv rfl (LV.mv rfl) ?_
    refine WL.lv rfl (LV.asg rfl) ?_
    refine WL.nil (thenQ.n ?_)
    refine WC.ret (?_)
    have hS33 : SH w No w3 [rrE eI 46 3 (.slice A_out out.length c_out) out] := (SH.take 1 rfl hL1)
    exact ⟨_, fun a ha => res1 rfl ha rfl, _, _, _, rfl, (by rw [q2, List.take_of_length_le (by simp; omega)]), hS33⟩

end Go.Proofs.Ythmjieikbeemhaa
