/- The script of two texts. -/
import Derived.Test.YtomeffnlmefnlaaMyT
import Derived.Test.YtomeffnlmefnlaaMyL
import Derived.Test.YtomeffnlmefnlaaNuA
import Derived.Test.YtomeffnlmefnlaaScA
import Derived.Test.YtomeffnlmefnlaaScP
import Derived.Test.YtomeffnlmefnlaaScN2
namespace Go.Proofs.Ytomeffnlmefnlaa
open Go Go.Gv Go.RowKit Go.Mys Go.Num Go.Scr
set_option linter.unusedVariables false
set_option linter.unusedSimpArgs false
theorem ti24 : TI Try.prog 24 (.slice none 0 0) 1 24 := by unfold TI; kernel_rfl
theorem ti41 : TI Try.prog 41 (.slice none 0 0) 1 24 := by unfold TI; kernel_rfl
theorem ti52 : TI Try.prog 52 (.agg #[(.string ⟨#[]⟩), (.bool false)]) 2 24 := by unfold TI; kernel_rfl
theorem ti64 : TI Try.prog 64 (.agg #[(.int .i64 0), (.slice none 0 0)]) 2 32 := by unfold TI; kernel_rfl
theorem ti82 : TI Try.prog 82 (.agg #[(.slice none 0 0), (.slice none 0 0)]) 2 48 := by unfold TI; kernel_rfl

theorem numbers_calls {w : World} {A0 : Option Addr} {c0 : Nat} {inp : List (SV × List Ln)} (hi : St No w (RdRR eL (.slice A0 inp.length c0) inp)) (h1 : inp.length ≤ 1000) (h2 : ∀ p ∈ inp, p.2.length ≤ 1000) :
    Calls Try.prog 30 #[(.slice A0 inp.length c0)] w fun e w' => ∃ v, e = .returned v ∧ (fun v w' => ∃ A' c' rows, v = .slice A' rows.length c' ∧ rows.map (·.2) = nnums [] (inp.map (·.2)) ∧ SH w No w' [rrE eI 49 3 (.slice A' rows.length c') rows]) v w' := by
  have hS : SH w No w [] := SH.nil _ _
  refine calls (l := litOf [(.slice A0 inp.length c0)] 0) Try.func30 rfl (n := 49) rfl (Nat.le_of_ble_eq_true rfl) (lit_args _) ?_
  refine WC.seq ?_
  refine WC.region ?_
  refine WL.lv rfl (LV.asg rfl) ?_
  refine WL.nil (thenQ.n ?_)
  refine WC.seq ?_
  refine WC.region ?_
  refine WL.xe rfl (XE.makeMap kL kI hS) ?_
  rintro _ w1 ⟨b1, rfl, hS1, hk1⟩
  refine WL.lv rfl (LV.asg rfl) ?_
  refine WL.nil (thenQ.n ?_)
  refine WC.seq ?_
  refine WC.region ?_
  refine WL.lv rfl (LV.asg rfl) ?_
  refine WL.nil (thenQ.n ?_)
  iterate 2 refine WC.seq ?_
  refine WC.region ?_
  have hS2 := SH.nilRow (E := eV) (T := 49) hS1
  have hS3 := SH.rr0 (E := eI) (T1 := 3) hS2
  refine WL.lv rfl (LV.mv rfl) ?_
  refine WL.lv rfl (LV.lenL Try.underlying22 rfl) ?_
  refine WL.lv rfl (LV.mv rfl) ?_
  refine WL.nil (thenQ.n ?_)
  refine WC.block ?_
  have hS4 : SH w No w1 [mapE kL kI b1 [], rrE eI 49 3 (.slice none 0 0) []] := (SH.front [_] hS3)
  refine WC.loop (fun m_ f_ w_ => ∃ (i : Int) (kv : KV) (A : Option Addr) (c : Nat) (rows : List (SV × List Int)), (0 ≤ i) ∧ (i ≤ inp.length) ∧ (kv = nkvs [] ((inp.map (·.2)).take i.toNat)) ∧ (rows.map (·.2) = nnums [] ((inp.map (·.2)).take i.toNat)) ∧ ((rows.length : Int) = i) ∧ SH w No w_ [mapE kL kI b1 kv, rrE eI 49 3 (.slice A rows.length c) rows] ∧ m_ = (((inp.length : Int) - i).toNat) ∧ Weak (lit [(0, (.slice A0 inp.length c0)), (2, (.slice none 0 0)), (3, (.map (some b1))), (4, (.slice A rows.length c)), (13, (.slice A0 inp.length c0)), (14, (.int .i64 (inp.length : Int))), (15, (.int .i64 i))]) f_) _ ⟨0, [], none, 0, [], by omega, by omega, rfl, rfl, rfl, hS4, rfl, Weak.cons rfl <| Weak.cons rfl <| Weak.cons rfl <| Weak.cons rfl <| Weak.cons rfl <| Weak.cons rfl <| Weak.cons rfl <| Weak.nil _⟩ ?_
  rintro m1 f1 w2 ⟨i, kv, A, c, rows, q0, q1, q2, q3, q4, hL1, rfl, hw1⟩
  refine WC.weak hw1 ?_
  clear hw1
  refine WC.seq ?_
  refine WC.region ?_
  refine WL.lv rfl (LV.ltI rfl rfl) ?_
  refine WL.nil (thenQ.n ?_)
  refine WC.seq ?_
  refine WC.condP (p := i < (inp.length : Int)) rfl (fun hc16 => ?_) (fun hc16 => ?_)
  · have hln := h2 (inp.getD (i).toNat default) (getD_mem (by omega))
    refine WC.skip (thenQ.n ?_)
    refine WC.seq ?_
    refine WC.block ?_
    refine WC.seq ?_
    refine WC.region ?_
    obtain ⟨A1, c1, A2, c2, e1, g1, e2, r1⟩ := St.eltRR (SH.stN hL1 hi) default i (by omega) (by omega)
    refine WL.lv rfl (LV.idxA Try.underlying22 ti24.sz rfl e1 rfl (by omega) (by omega)) ?_
    refine WL.lv rfl (LV.load1 Try.underlying24 rfl rfl (g1 _ (KB.refl No _))) ?_
    refine WL.lv rfl (LV.asg rfl) ?_
    refine WL.nil (thenQ.n ?_)
    refine WC.seq ?_
    refine WC.region ?_
    refine WL.lv rfl (LV.asg rfl) ?_
    refine WL.nil (thenQ.n ?_)
    iterate 2 refine WC.seq ?_
    refine WC.region ?_
    have hS5 := SH.nilRow (E := eI) (T := 3) hL1
    refine WL.lv rfl (LV.mv rfl) ?_
    refine WL.lv rfl (LV.lenL Try.underlying24 rfl) ?_
    refine WL.lv rfl (LV.mv rfl) ?_
    refine WL.nil (thenQ.n ?_)
    refine WC.block ?_
    have hS6 : SH w No w2 [mapE kL kI b1 kv, rowE eI 3 (.slice none 0 0) [], rrE eI 49 3 (.slice A rows.length c) rows] := (SH.front [_, _] (SH.front [_] (SH.front [_, _] hS5)))
    refine WC.loop (fun m_ f_ w_ => ∃ (j : Int) (kv1 : KV) (A1 : Option Addr) (c1 : Nat) (row : List Int), (0 ≤ j) ∧ (j ≤ (inp.getD (i).toNat default).2.length) ∧ (kv1 = nkv kv ((inp.getD (i).toNat default).2.take j.toNat)) ∧ (row = nnum kv ((inp.getD (i).toNat default).2.take j.toNat)) ∧ ((row.length : Int) = j) ∧ SH w No w_ [mapE kL kI b1 kv1, rowE eI 3 (.slice A1 row.length c1) row, rrE eI 49 3 (.slice A rows.length c) rows] ∧ m_ = ((((inp.getD (i).toNat default).2.length : Int) - j).toNat) ∧ Weak (lit [(0, (.slice A0 inp.length c0)), (2, (.slice none 0 0)), (3, (.map (some b1))), (4, (.slice A rows.length c)), (6, (.slice A2 ((inp.getD (i).toNat default).2.length) c2)), (7, (.slice A1 row.length c1)), (13, (.slice A0 inp.length c0)), (14, (.int .i64 (inp.length : Int))), (15, (.int .i64 i)), (19, (.slice A2 ((inp.getD (i).toNat default).2.length) c2)), (20, (.int .i64 ((inp.getD (i).toNat default).2.length : Int))), (21, (.int .i64 j))]) f_) _ ⟨0, kv, none, 0, [], by omega, by omega, rfl, rfl, rfl, hS6, rfl, Weak.cons rfl <| Weak.cons rfl <| Weak.cons rfl <| Weak.cons rfl <| Weak.cons rfl <| Weak.cons rfl <| Weak.cons rfl <| Weak.cons rfl <| Weak.cons rfl <| Weak.cons rfl <| Weak.cons rfl <| Weak.cons rfl <| Weak.nil _⟩ ?_
    rintro m2 f2 w3 ⟨j, kv1, A1, c1, row, s0, s3, s1, s2, s4, hL2, rfl, hw2⟩
    refine WC.weak hw2 ?_
    clear hw2
    refine WC.seq ?_
    refine WC.region ?_
    refine WL.lv rfl (LV.ltI rfl rfl) ?_
    refine WL.nil (thenQ.n ?_)
    refine WC.seq ?_
    refine WC.condP (p := j < ((inp.getD (i).toNat default).2.length : Int)) rfl (fun hc22 => ?_) (fun hc22 => ?_)
    · skip
      refine WC.skip (thenQ.n ?_)
      refine WC.seq ?_
      refine WC.block ?_
      refine WC.seq ?_
      refine WC.region ?_
      obtain ⟨A3, c3, e3, g2⟩ := St.elt (St.inner (SH.stN hL2 hi) (getD_mem (by omega)) e2) lnD j (by omega) (by omega)
      refine WL.lv rfl (LV.idxA Try.underlying24 ti52.sz rfl e3 rfl (by omega) (by omega)) ?_
      refine WL.lv rfl (LV.loadAgg (cs := [(.string ((((inp.getD (i).toNat default).2).getD (j).toNat lnD).1)), (.bool ((((inp.getD (i).toNat default).2).getD (j).toNat lnD).2))]) Try.underlying52 rfl ti52 rfl rfl (fun j u hu => g2 _ (KB.refl No _) j u hu)) ?_
      refine WL.xe rfl (XE.alloc #[(.string ⟨#[]⟩), (.bool false)] hL2 ti52 rfl) ?_
      rintro _ w4 ⟨b2, rfl, hS7, hk2⟩
      refine WL.xse rfl (XSE.blkAgg #[(.string ((((inp.getD (i).toNat default).2).getD (j).toNat lnD).1)), (.bool ((((inp.getD (i).toNat default).2).getD (j).toNat lnD).2))] hS7 (by kernel_rfl) rfl (by kernel_rfl) rfl rfl) ?_
      rintro w5 ⟨hS8, hk3⟩
      refine WL.nil (thenQ.n ?_)
      refine WC.seq ?_
      refine WC.region ?_
      refine WL.lv rfl (LV.mv rfl) ?_
      refine WL.lv rfl (LV.loadAgg (cs := [(.string ((((inp.getD (i).toNat default).2).getD (j).toNat lnD).1)), (.bool ((((inp.getD (i).toNat default).2).getD (j).toNat lnD).2))]) Try.underlying52 rfl ti52 rfl rfl (Blk.agg (SH.at hS8 (.head _)) _ (KB.refl No _))) ?_
      refine WL.lv rfl (LV.lookOk (q := (((inp.getD (i).toNat default).2).getD (j).toNat lnD)) (z := 0) (key_ln Try.underlying52 Try.underlying9 Try.underlying4 (by decide) (by kernel_rfl)) Try.underlying73 ti3 (SH.at hS8 (.tail _ (.head _))) rfl rfl) ?_
      refine WL.lv rfl (LV.mv rfl) ?_
      iterate 2 refine WL.lv rfl (LV.extract rfl rfl) ?_
      iterate 2 refine WL.lv rfl (LV.asg rfl) ?_
      refine WL.nil (thenQ.n ?_)
      iterate 2 refine WC.seq ?_
      refine WC.region ?_
      refine WL.lv rfl (LV.mv rfl) ?_
      refine WL.lv rfl (LV.notB rfl) ?_
      refine WL.nil (thenQ.n ?_)
      refine WC.cond (b := !((lookL kv1 (((inp.getD (i).toNat default).2).getD (j).toNat lnD)).isSome)) rfl (fun hc1 => ?_) (fun hc1 => ?_)
      · skip
        refine WC.seq ?_
        refine WC.region ?_
        refine WL.lv rfl (LV.mv rfl) ?_
        refine WL.lv rfl (LV.lenM Try.underlying73 (SH.at hS8 (.tail _ (.head _))) rfl) ?_
        refine WL.lv rfl (LV.asg rfl) ?_
        refine WL.nil (thenQ.n ?_)
        refine WC.region ?_
        refine WL.lv rfl (LV.mv rfl) ?_
        refine WL.lv rfl (LV.loadAgg (cs := [(.string ((((inp.getD (i).toNat default).2).getD (j).toNat lnD).1)), (.bool ((((inp.getD (i).toNat default).2).getD (j).toNat lnD).2))]) Try.underlying52 rfl ti52 rfl rfl (Blk.agg (SH.at hS8 (.head _)) _ (KB.refl No _))) ?_
        refine WL.lv rfl (LV.mv rfl) ?_
        have hS9 : SH w No w5 [mapE kL kI b1 kv1, blkE b2 52 #[(.string ((((inp.getD (i).toNat default).2).getD (j).toNat lnD).1)), (.bool ((((inp.getD (i).toNat default).2).getD (j).toNat lnD).2))], rowE eI 3 (.slice A1 row.length c1) row, rrE eI 49 3 (.slice A rows.length c) rows] := (SH.front [_] hS8)
        refine WL.xse rfl (XSE.mapUpd (q := (((inp.getD (i).toNat default).2).getD (j).toNat lnD)) (v := (kv1.length : Int)) (key_ln Try.underlying52 Try.underlying9 Try.underlying4 (by decide) (by kernel_rfl)) hS9 Try.underlying73 rfl rfl rfl) ?_
        rintro w6 ⟨hS10, hk4⟩
        refine WL.nil (thenQ.n ?_)
        refine WC.region ?_
        iterate 2 refine WL.lv rfl (LV.mv rfl) ?_
        refine WL.xe rfl (XE.buildSlice (E := eI) [(0, (.int .i64 (kv1.length : Int)))] #[(.int .i64 (kv1.length : Int))] [(kv1.length : Int)] hS10 Try.underlying49 ti3 rfl (by decide) (by kernel_rfl) (.inr rfl) rfl rfl (by decide)) ?_
        rintro _ w7 ⟨b3, rfl, hS11, hk5⟩
        have hS12 : SH w No w7 [rowE eI 3 (.slice A1 row.length c1) row, rowE eI 3 (.slice (some ⟨b3, 0, none⟩) 1 1) [(kv1.length : Int)], mapE kL kI b1 (updL kv1 (((inp.getD (i).toNat default).2).getD (j).toNat lnD) (kv1.length : Int)), blkE b2 52 #[(.string ((((inp.getD (i).toNat default).2).getD (j).toNat lnD).1)), (.bool ((((inp.getD (i).toNat default).2).getD (j).toNat lnD).2))], rrE eI 49 3 (.slice A rows.length c) rows] := (SH.front [_, _, _] hS11)
        refine WL.xe rfl (XE.append hS12 Try.underlying49 ti3 rfl (St.now (SH.rd hS12 (.tail _ (.head _)))) rfl rfl (by first | omega | simp only [List.length_append, List.length_cons, List.length_nil, List.length_take, List.length_reverse, List.length_drop] at *; omega) (by first | omega | simp only [List.length_append, List.length_cons, List.length_nil, List.length_take, List.length_reverse, List.length_drop] at *; omega)) ?_
        rintro _ w8 ⟨A4, c4, rfl, hS13, hk6⟩
        refine WL.lv rfl (LV.asg rfl) ?_
        refine WL.nil (blockQ.n <| thenQ.n ?_)
        refine WC.region ?_
        refine WL.lv rfl (LV.add rfl rfl (wr64 (by omega) (by omega))) ?_
        refine WL.lv rfl (LV.mv rfl) ?_
        refine WL.nil (thenQ.n ?_)
        have hS14 : SH w No w8 [mapE kL kI b1 (updL kv1 (((inp.getD (i).toNat default).2).getD (j).toNat lnD) (kv1.length : Int)), rowE eI 3 (.slice A4 ((row ++ [(kv1.length : Int)]).length) c4) (row ++ [(kv1.length : Int)]), rrE eI 49 3 (.slice A rows.length c) rows] := (SH.take 3 rfl (SH.front [_, _, _] (SH.front [_] (SH.front [_, _, _, _] hS13))))
        exact ⟨_, by omega, j + 1, (updL kv1 (((inp.getD (i).toNat default).2).getD (j).toNat lnD) (kv1.length : Int)), A4, c4, (row ++ [(kv1.length : Int)]), by omega, by omega, (num_new1 s0 hc22 s1 hc1), (num_new2 s0 hc22 s1 s2 hc1), (by simp; omega), hS14, rfl, Weak.cons rfl <| Weak.cons rfl <| Weak.cons rfl <| Weak.cons rfl <| Weak.cons rfl <| Weak.cons rfl <| Weak.cons rfl <| Weak.cons rfl <| Weak.cons rfl <| Weak.cons rfl <| Weak.cons rfl <| Weak.cons rfl <| Weak.nil _⟩
      · skip
        refine WC.skip (thenQ.n ?_)
        refine WC.region ?_
        iterate 2 refine WL.lv rfl (LV.mv rfl) ?_
        refine WL.xe rfl (XE.buildSlice (E := eI) [(0, (.int .i64 ((lookL kv1 (((inp.getD (i).toNat default).2).getD (j).toNat lnD)).getD 0)))] #[(.int .i64 ((lookL kv1 (((inp.getD (i).toNat default).2).getD (j).toNat lnD)).getD 0))] [(lookL kv1 (((inp.getD (i).toNat default).2).getD (j).toNat lnD)).getD 0] hS8 Try.underlying49 ti3 rfl (by decide) (by kernel_rfl) (.inr rfl) rfl rfl (by decide)) ?_
        rintro _ w9 ⟨b4, rfl, hS15, hk7⟩
        have hS16 : SH w No w9 [rowE eI 3 (.slice A1 row.length c1) row, rowE eI 3 (.slice (some ⟨b4, 0, none⟩) 1 1) [(lookL kv1 (((inp.getD (i).toNat default).2).getD (j).toNat lnD)).getD 0], blkE b2 52 #[(.string ((((inp.getD (i).toNat default).2).getD (j).toNat lnD).1)), (.bool ((((inp.getD (i).toNat default).2).getD (j).toNat lnD).2))], mapE kL kI b1 kv1, rrE eI 49 3 (.slice A rows.length c) rows] := (SH.front [_, _, _] hS15)
        refine WL.xe rfl (XE.append hS16 Try.underlying49 ti3 rfl (St.now (SH.rd hS16 (.tail _ (.head _)))) rfl rfl (by first | omega | simp only [List.length_append, List.length_cons, List.length_nil, List.length_take, List.length_reverse, List.length_drop] at *; omega) (by first | omega | simp only [List.length_append, List.length_cons, List.length_nil, List.length_take, List.length_reverse, List.length_drop] at *; omega)) ?_
        rintro _ w10 ⟨A5, c5, rfl, hS17, hk8⟩
        refine WL.lv rfl (LV.asg rfl) ?_
        refine WL.nil (blockQ.n <| thenQ.n ?_)
        refine WC.region ?_
        refine WL.lv rfl (LV.add rfl rfl (wr64 (by omega) (by omega))) ?_
        refine WL.lv rfl (LV.mv rfl) ?_
        refine WL.nil (thenQ.n ?_)
        have hS18 : SH w No w10 [mapE kL kI b1 kv1, rowE eI 3 (.slice A5 ((row ++ [(lookL kv1 (((inp.getD (i).toNat default).2).getD (j).toNat lnD)).getD 0]).length) c5) (row ++ [(lookL kv1 (((inp.getD (i).toNat default).2).getD (j).toNat lnD)).getD 0]), rrE eI 49 3 (.slice A rows.length c) rows] := (SH.take 3 rfl (SH.front [_, _, _, _] (SH.front [_] (SH.front [_, _, _, _] hS17))))
        exact ⟨_, by omega, j + 1, kv1, A5, c5, (row ++ [(lookL kv1 (((inp.getD (i).toNat default).2).getD (j).toNat lnD)).getD 0]), by omega, by omega, (num_old1 s0 hc22 s1 hc1), (num_old2 s0 hc22 s1 s2 hc1), (by simp; omega), hS18, rfl, Weak.cons rfl <| Weak.cons rfl <| Weak.cons rfl <| Weak.cons rfl <| Weak.cons rfl <| Weak.cons rfl <| Weak.cons rfl <| Weak.cons rfl <| Weak.cons rfl <| Weak.cons rfl <| Weak.cons rfl <| Weak.cons rfl <| Weak.nil _⟩
    · skip
      refine WC.exit (thenQ.x <| thenQ.x <| blockQ.hit <| thenQ.n ?_)
      refine WC.region ?_
      iterate 2 refine WL.lv rfl (LV.mv rfl) ?_
      refine WL.xe rfl (XE.buildSlice (E := eV) [(0, (.slice A1 row.length c1))] #[(.slice A1 row.length c1)] [(⟨A1, row.length, c1⟩ : SV)] hL2 Try.underlying45 ti49 rfl (by decide) (by kernel_rfl) (.inr rfl) rfl rfl (by decide)) ?_
      rintro _ w11 ⟨b5, rfl, hS19, hk9⟩
      have hS20 : SH w No w11 [rowE eI 3 (.slice A1 row.length c1) row, rowE eV 49 (.slice (some ⟨b5, 0, none⟩) 1 1) [(⟨A1, row.length, c1⟩ : SV)], mapE kL kI b1 kv1, rrE eI 49 3 (.slice A rows.length c) rows] := (SH.front [_, _] hS19)
      have hS21 : SH w No w11 [rrE eI 49 3 (.slice A rows.length c) rows, rowE eI 3 (.slice A1 row.length c1) row, rowE eV 49 (.slice (some ⟨b5, 0, none⟩) 1 1) [(⟨A1, row.length, c1⟩ : SV)], mapE kL kI b1 kv1] := (SH.front [_, _, _] hS20)
      refine WL.xe rfl (XE.appendRR (sv := (⟨A1, row.length, c1⟩ : SV)) hS21 rfl Try.underlying45 ti49 (St.now (SH.rd hS21 (.tail _ (.tail _ (.head _))))) rfl rfl (by omega) (by omega)) ?_
      rintro _ w12 ⟨A6, c6, rfl, hS22, hk10⟩
      refine WL.lv rfl (LV.asg rfl) ?_
      refine WL.nil (blockQ.n <| thenQ.n ?_)
      refine WC.region ?_
      refine WL.lv rfl (LV.add rfl rfl (wr64 (by omega) (by omega))) ?_
      refine WL.lv rfl (LV.mv rfl) ?_
      refine WL.nil (thenQ.n ?_)
      have hS23 : SH w No w12 [mapE kL kI b1 kv1, rrE eI 49 3 (.slice A6 ((rows ++ [((⟨A1, row.length, c1⟩ : SV), row)]).length) c6) (rows ++ [((⟨A1, row.length, c1⟩ : SV), row)])] := (SH.take 2 rfl (SH.front [_, _] hS22))
      exact ⟨_, by omega, i + 1, kv1, A6, c6, (rows ++ [((⟨A1, row.length, c1⟩ : SV), row)]), by omega, by omega, (nums_step1 q0 hc16 q2 ▸ num_fin1 s1 (by omega)), (num_fin2 s2 (by omega) ▸ nums_step2 q0 hc16 q2 q3), (by simp; omega), hS23, rfl, Weak.cons rfl <| Weak.cons rfl <| Weak.cons rfl <| Weak.cons rfl <| Weak.cons rfl <| Weak.cons rfl <| Weak.cons rfl <| Weak.nil _⟩
  · skip
    refine WC.exit (thenQ.x <| thenQ.x <| blockQ.hit <| thenQ.n ?_)
    refine WC.seq ?_
    refine WC.region ?_
    refine WL.lv rfl (LV.mv rfl) ?_
    refine WL.lv rfl (LV.asg rfl) ?_
    refine WL.nil (thenQ.n ?_)
    refine WC.ret (?_)
    have hS24 : SH w No w2 [rrE eI 49 3 (.slice A rows.length c) rows] := (SH.take 1 rfl (SH.front [_] hL1))
    exact ⟨_, fun a ha => res1 rfl ha rfl, _, _, _, rfl, (by rw [q3, List.take_of_length_le (by simp; omega)]), hS24⟩

theorem clone_calls {w : World} {A0 : Option Addr} {c0 : Nat} {l : List Ln} (hl : St No w (Rd eL (.slice A0 l.length c0) l)) (hm : l.length ≤ 100000) :
    Calls Try.prog 76 #[(.slice A0 l.length c0)] w fun e w' => ∃ v, e = .returned v ∧ (fun v w' => ∃ A1 c1, v = .slice A1 l.length c1 ∧ SH w No w' [rowE eL 52 (.slice A1 l.length c1) l]) v w' := by
  have hS : SH w No w [] := SH.nil _ _
  refine calls (l := litOf [(.slice A0 l.length c0)] 0) Try.func76 rfl (n := 8) rfl (Nat.le_of_ble_eq_true rfl) (lit_args _) ?_
  refine WC.seq ?_
  refine WC.region ?_
  refine WL.lv rfl (LV.asg rfl) ?_
  refine WL.nil (thenQ.n ?_)
  iterate 2 refine WC.seq ?_
  refine WC.region ?_
  refine WL.lv rfl (LV.mv rfl) ?_
  refine WL.lv rfl (LV.eqNil Try.underlying24 rfl rfl) ?_
  refine WL.nil (thenQ.n ?_)
  refine WC.cond (b := (A0).isNone) rfl (fun hc1 => ?_) (fun hc1 => ?_)
  · skip
    refine WC.seq ?_
    refine WC.region ?_
    refine WL.lv rfl (LV.asg rfl) ?_
    refine WL.nil (thenQ.n ?_)
    refine WC.ret (thenQ.r <| ?_)
    have hS1 := SH.nilRow (E := eL) (T := 52) hS
    exact ⟨_, fun a ha => res1 rfl ha rfl, (by have hl_ := Rd.isNone hl.now hc1; subst hl_; exact ⟨_, _, rfl, hS1⟩)⟩
  · skip
    refine WC.skip (thenQ.n ?_)
    refine WC.seq ?_
    refine WC.region ?_
    refine WL.xe rfl (XE.buildSlice (E := eL) [] #[] [] hS Try.underlying24 ti52 rfl (by decide) (by kernel_rfl) (.inr rfl) rfl rfl (by decide)) ?_
    rintro _ w1 ⟨b1, rfl, hS2, hk1⟩
    refine WL.lv rfl (LV.mv rfl) ?_
    refine WL.xe rfl (XE.append hS2 Try.underlying24 ti52 rfl (St.now (SH.stN hS2 hl)) rfl rfl (by first | omega | simp only [List.length_append, List.length_cons, List.length_nil, List.length_take, List.length_reverse, List.length_drop] at *; omega) (by first | omega | simp only [List.length_append, List.length_cons, List.length_nil, List.length_take, List.length_reverse, List.length_drop] at *; omega)) ?_
    rintro _ w2 ⟨A1, c1, rfl, hS3, hk2⟩
    refine WL.lv rfl (LV.asg rfl) ?_
    refine WL.nil (thenQ.n ?_)
    refine WC.ret (?_)
    exact ⟨_, fun a ha => res1 rfl ha rfl, _, _, rfl, hS3⟩

theorem add_calls {w : World} {S : Nat → Prop} {rb : Nat} {A A0 : Option Addr} {c c0 : Nat} {wv : Value} {rows : List (ED × List Ln)} {l : List Ln} {do_ : Int} (hS0 : SH w S w [blkE rb 82 #[(.slice A rows.length c), wv], rowE eE 64 (.slice A rows.length c) (rows.map (fun p : ED × List Ln => p.1)), insE (fun p : ED => p.2) eL 52 rows]) (hl : St S w (Rd eL (.slice A0 l.length c0) l)) (hm : l.length ≤ 10000) (h1 : rows.length ≤ 10000) (h2 : ∀ p ∈ rows, p.2.length ≤ 10000) :
    Calls Try.prog 65 #[(.pointer (some ⟨rb, 0, none⟩)), (.int .i64 do_), (.slice A0 l.length c0)] w fun e w' => ∃ v, e = .returned v ∧ (fun v w' => ∃ A' c' rows', v = .tuple #[] ∧ scr rows' = addS (scr rows) do_ l ∧ rows'.length ≤ rows.length + 1 ∧ SH w S w' [blkE rb 82 #[(.slice A' rows'.length c'), wv], rowE eE 64 (.slice A' rows'.length c') (rows'.map (fun p : ED × List Ln => p.1)), insE (fun p : ED => p.2) eL 52 rows']) v w' := by
  have hS : SH w S w [blkE rb 82 #[(.slice A rows.length c), wv], rowE eE 64 (.slice A rows.length c) (rows.map (fun p : ED × List Ln => p.1)), insE (fun p : ED => p.2) eL 52 rows] := hS0
  refine calls (l := litOf [(.pointer (some ⟨rb, 0, none⟩)), (.int .i64 do_), (.slice A0 l.length c0)] 0) Try.func65 rfl (n := 64) rfl (Nat.le_of_ble_eq_true rfl) (lit_args _) ?_
  refine WC.seq ?_
  refine WC.region ?_
  refine WL.lv rfl (LV.mv rfl) ?_
  refine WL.lv rfl (LV.nilCheck rfl) ?_
  refine WL.lv rfl (LV.fieldA Try.underlying82 rfl ti41.sz rfl) ?_
  refine WL.lv rfl (LV.load1 Try.underlying41 rfl rfl (Blk.cellN (SH.at hS (.head _)) 0 rfl _ (KB.refl No _))) ?_
  refine WL.lv rfl (LV.lenL Try.underlying41 rfl) ?_
  refine WL.lv rfl (LV.asg rfl) ?_
  refine WL.nil (thenQ.n ?_)
  refine WC.block ?_
  refine WC.seq ?_
  refine WC.region ?_
  refine WL.lv rfl (LV.mv rfl) ?_
  refine WL.lv rfl (LV.lenL Try.underlying24 rfl) ?_
  refine WL.lv rfl (LV.eqI rfl rfl) ?_
  refine WL.lv rfl (LV.asg rfl) ?_
  refine WL.nil (thenQ.n ?_)
  refine WC.condP (p := (l.length : Int) = 0) rfl (fun hc1 => ?_) (fun hc1 => ?_)
  · skip
    refine WC.skip (blockQ.n <| ?_)
    exact ⟨_, fun a ha => res0 rfl, _, _, _, rfl, (addS_nil _ _ (List.eq_nil_of_length_eq_zero (by omega))).symm, (by omega), hS⟩
  · skip
    refine WC.seq ?_
    refine WC.region ?_
    refine WL.lv rfl (LV.mv rfl) ?_
    rcases Decidable.em ((rows.length : Int) > 0) with hg1 | hg1
    · refine WL.lv rfl (LV.as (LV.gtI rfl rfl) (decide_eq_true hg1)) ?_
      iterate 2 refine WL.lv rfl (LV.mv rfl) ?_
      refine WL.lv rfl (LV.nilCheck rfl) ?_
      refine WL.lv rfl (LV.fieldA Try.underlying82 rfl ti41.sz rfl) ?_
      refine WL.lv rfl (LV.load1 Try.underlying41 rfl rfl (Blk.cellN (SH.at hS (.head _)) 0 rfl _ (KB.refl No _))) ?_
      refine WL.lv rfl (LV.mv rfl) ?_
      refine WL.lv rfl (LV.sub rfl rfl (wr64 (by omega) (by omega))) ?_
      obtain ⟨A1, c1, A2, c2, e1, g1, e2, r1⟩ := St.eltE (SH.rd hS (.tail _ (.head _))) (SH.rdIn hS (.tail _ (.tail _ (.head _)))) default ((rows.length : Int) - 1) (by omega) (by omega)
      refine WL.lv rfl (LV.idxA Try.underlying41 ti64.sz rfl e1 rfl (by omega) (by omega)) ?_
      refine WL.lv rfl (LV.fieldA Try.underlying64 rfl ti50.sz rfl) ?_
      refine WL.lv rfl (LV.load1 (v := (.int .i64 ((rows.getD ((rows.length : Int) - 1).toNat default).1.1))) Try.underlying50 rfl rfl (g1 _ (KB.refl No _) 0 _ rfl)) ?_
      refine WL.lv rfl (LV.mv rfl) ?_
      refine WL.lv rfl (LV.eqI rfl rfl) ?_
      refine WL.lv rfl (LV.pickT rfl rfl) ?_
      refine WL.lv rfl (LV.asg rfl) ?_
      refine WL.nil (thenQ.n ?_)
      refine WC.condP (p := ((rows.getD ((rows.length : Int) - 1).toNat default).1.1) = do_) rfl (fun hc2 => ?_) (fun hc2 => ?_)
      · have hll_ := h2 (rows.getD ((rows.length : Int) - 1).toNat default) (getD_mem (by omega))
        have hS1 := SH.drew hS
        have hS2 : SH w S w.drew [insE (fun p : ED => p.2) eL 52 rows, blkE rb 82 #[(.slice A rows.length c), wv], rowE eE 64 (.slice A rows.length c) (rows.map (fun p : ED × List Ln => p.1))] := (SH.front [_, _] hS1)
        have hS3 : SH w S w.drew [rowE eL 52 (.slice (((rows.map (·.1)).getD ((rows.length : Int) - 1).toNat default).2.A) (((rows.map (·.1)).getD ((rows.length : Int) - 1).toNat default).2.n) (((rows.map (·.1)).getD ((rows.length : Int) - 1).toNat default).2.c)) ((rows.getD ((rows.length : Int) - 1).toNat default).2), insE (fun p : ED => p.2) eL 52 (rows.take ((rows.length : Int) - 1).toNat ++ rows.drop (((rows.length : Int) - 1).toNat + 1)), blkE rb 82 #[(.slice A rows.length c), wv], rowE eE 64 (.slice A rows.length c) (rows.map (fun p : ED × List Ln => p.1))] := SH.insAtM (k := ((rows.length : Int) - 1).toNat) hS2 (by omega)
        refine WC.regionD [19] (fun w_ => KB (· ∈ Value.keys (.slice (((rows.map (·.1)).getD ((rows.length : Int) - 1).toNat default).2.A) (((rows.map (·.1)).getD ((rows.length : Int) - 1).toNat default).2.n) (((rows.map (·.1)).getD ((rows.length : Int) - 1).toNat default).2.c))) w.drew w_) [(.pure, 0), (.pure, 1), (.pure, 2), (.look, 3), (.pure, 4), (.pure, 5), (.pure, 6), (.pure, 7), (.pure, 8), (.look, 9), (.pure, 10), (.pure, 11), (.pure, 12), (.pure, 13), (.look, 14), (.pure, 15), (.forced, 16), (.pure, 17), (.pure, 18), (.forced, 19)] (by kernel_rfl) (by kernel_rfl) (KB.refl _ _) ?_
        refine WS.pure rfl rfl (fun _ => LV.mv rfl) ?_
        refine WS.pure rfl rfl (fun _ => LV.nilCheck rfl) ?_
        refine WS.pure rfl rfl (fun _ => LV.fieldA Try.underlying82 rfl ti41.sz rfl) ?_
        refine WS.look rfl rfl (fun _ hk_ => LV.load1 Try.underlying41 rfl rfl (Blk.cellS (SH.stF hS3 (.tail _ (.head _))) 0 rfl _ hk_)) ?_
        refine WS.pure rfl rfl (fun _ => LV.mv rfl) ?_
        refine WS.pure rfl rfl (fun _ => LV.sub rfl rfl (wr64 (by omega) (by omega))) ?_
        refine WS.pure rfl rfl (fun _ => LV.mv rfl) ?_
        refine WS.pure rfl rfl (fun _ => LV.nilCheck rfl) ?_
        refine WS.pure rfl rfl (fun _ => LV.fieldA Try.underlying82 rfl ti41.sz rfl) ?_
        refine WS.look rfl rfl (fun _ hk_ => LV.load1 Try.underlying41 rfl rfl (Blk.cellS (SH.stF hS3 (.tail _ (.head _))) 0 rfl _ hk_)) ?_
        refine WS.pure rfl rfl (fun _ => LV.mv rfl) ?_
        refine WS.pure rfl rfl (fun _ => LV.sub rfl rfl (wr64 (by omega) (by omega))) ?_
        obtain ⟨A3, c3, e3, g2⟩ := St.eltS ((SH.stF hS3 (.tail _ (.tail _ (.head _)))).imp fun _ h => Row.rd h) default ((rows.length : Int) - 1) (by omega) (by rw [List.length_map]; omega)
        refine WS.pure rfl rfl (fun _ => LV.idxA Try.underlying41 ti64.sz rfl e3 rfl (by omega) (by rw [List.length_map]; omega)) ?_
        refine WS.pure rfl rfl (fun _ => LV.fieldA Try.underlying64 rfl ti24.sz rfl) ?_
        refine WS.look rfl rfl (fun _ hk_ => LV.load1 (v := (.slice (((rows.map (·.1)).getD ((rows.length : Int) - 1).toNat default).2.A) (((rows.map (·.1)).getD ((rows.length : Int) - 1).toNat default).2.n) (((rows.map (·.1)).getD ((rows.length : Int) - 1).toNat default).2.c))) Try.underlying24 rfl rfl (g2 _ hk_ 1 _ rfl)) ?_
        refine WS.pure rfl rfl (fun _ => LV.mv rfl) ?_
        refine WS.xe rfl rfl (XE.append hS3 Try.underlying24 ti52 rfl (St.now (SH.stN hS3 hl)) rfl rfl (by first | omega | simp only [List.length_append, List.length_cons, List.length_nil, List.length_take, List.length_reverse, List.length_drop] at *; omega) (by first | omega | simp only [List.length_append, List.length_cons, List.length_nil, List.length_take, List.length_reverse, List.length_drop] at *; omega)) ?_
        rintro _ w1 ⟨A4, c4, rfl, hS4, hk1⟩
        refine ⟨fun h_ => (KB.trans (KB.refl _ _) hk1 fun _ _ h_ => h_), ?_⟩
        obtain ⟨A5, c5, e4, g3⟩ := St.eltS ((SH.stF hS3 (.tail _ (.tail _ (.head _)))).imp fun _ h => Row.rd h) default ((rows.length : Int) - 1) (by omega) (by rw [List.length_map]; omega)
        refine WS.pure rfl rfl (fun _ => LV.idxA Try.underlying41 ti64.sz rfl e4 rfl (by omega) (by rw [List.length_map]; omega)) ?_
        refine WS.pure rfl rfl (fun _ => LV.fieldA Try.underlying64 rfl ti24.sz rfl) ?_
        have hS6 : SH w S w1 [rowE eE 64 (.slice A rows.length c) (rows.map (fun p : ED × List Ln => p.1)), rowE eL 52 (.slice A4 ((((rows.getD ((rows.length : Int) - 1).toNat default).2) ++ l).length) c4) (((rows.getD ((rows.length : Int) - 1).toNat default).2) ++ l), insE (fun p : ED => p.2) eL 52 (rows.take ((rows.length : Int) - 1).toNat ++ rows.drop (((rows.length : Int) - 1).toNat + 1)), blkE rb 82 #[(.slice A rows.length c), wv]] := (SH.front [_, _, _] hS4)
        refine WS.xse rfl rfl (XSE.row1 (i := (rows.length : Int) - 1) (o := 1) (k := default) (((rows.map (·.1)).getD ((rows.length : Int) - 1).toNat default).1, (⟨A4, (((rows.getD ((rows.length : Int) - 1).toNat default).2) ++ l).length, c4⟩ : SV)) hS6 e4 (by omega) (by rw [List.length_map]; omega) (by decide) ti24.sz rfl rfl rfl rfl) ?_
        rintro w2 ⟨hS5, hk2⟩
        refine ⟨fun h_ => (by cases h_), ?_⟩
        refine WS.nil (blockQ.n <| ?_)
        have hS7 := SH.nestSet (rows := rows) (k := ((rows.length : Int) - 1).toNat) (sv := fun p : ED => p.2) (r := (((rows.map (·.1)).getD ((rows.length : Int) - 1).toNat default).1, (⟨A4, (((rows.getD ((rows.length : Int) - 1).toNat default).2) ++ l).length, c4⟩ : SV))) (xs := (((rows.getD ((rows.length : Int) - 1).toNat default).2) ++ l)) (by omega) rfl hS5
        have hS8 := SH.front [_, _] hS7
        exact ⟨_, fun a ha => res0 rfl, A, c, _, rfl, addS_more (sv := (⟨A4, (((rows.getD ((rows.length : Int) - 1).toNat default).2) ++ l).length, c4⟩ : SV)) (fun h_ => by subst h_; simp at *) (by omega) (by omega), (by simp), (by rw [List.length_set]; exact hS8)⟩
      · skip
        have hS9 := SH.drew hS
        refine WC.regionD [10, 13] (fun w_ => KB No w.drew w_) [(.pure, 0), (.pure, 1), (.pure, 2), (.pure, 3), (.look, 4), (.pure, 5), (.pure, 6), (.forced, 7), (.pure, 8), (.forced, 9), (.forced, 10), (.pure, 11), (.pure, 12), (.forced, 13)] (by kernel_rfl) (by kernel_rfl) (KB.refl _ _) ?_
        iterate 2 refine WS.pure rfl rfl (fun _ => LV.mv rfl) ?_
        refine WS.pure rfl rfl (fun _ => LV.nilCheck rfl) ?_
        refine WS.pure rfl rfl (fun _ => LV.fieldA Try.underlying82 rfl ti41.sz rfl) ?_
        refine WS.look rfl rfl (fun _ hk_ => LV.load1 Try.underlying41 rfl rfl (Blk.cellN (SH.at hS9 (.head _)) 0 rfl _ hk_)) ?_
        iterate 2 refine WS.pure rfl rfl (fun _ => LV.mv rfl) ?_
        refine WS.call rfl rfl (XC.fn Try.func76 (by kernel_rfl) rfl rfl rfl) (clone_calls (SH.stN hS9 hl) (by omega)) ?_
        rintro v_ w3 ⟨A6, c6, rfl, hS10⟩
        have hS11 := SH.joinN hS9 hS10
        refine ⟨fun h_ => (KB.transN (KB.refl _ _) hS10.kb), ?_⟩
        refine WS.pure rfl rfl (fun _ => LV.build (vs := [(0, (.int .i64 do_)), (1, (.slice A6 l.length c6))]) (places := #[(0, 1), (1, 1)]) (cs := #[(.int .i64 do_), (.slice A6 l.length c6)]) Try.underlying64 ti64 (fun _ => by kernel_rfl) rfl rfl) ?_
        refine WS.xe rfl rfl (XE.buildSlice (E := eE) [(0, (.agg #[(.int .i64 do_), (.slice A6 l.length c6)]))] #[(.int .i64 do_), (.slice A6 l.length c6)] [(do_, (⟨A6, l.length, c6⟩ : SV))] hS11 Try.underlying41 ti64 rfl (by decide) (by kernel_rfl) (.inr rfl) rfl rfl (by decide)) ?_
        rintro _ w4 ⟨b1, rfl, hS12, hk3⟩
        refine ⟨fun h_ => (KB.transN (KB.transN (KB.refl _ _) hS10.kb) hk3), ?_⟩
        have hS13 : SH w S w4 [rowE eE 64 (.slice A rows.length c) (rows.map (fun p : ED × List Ln => p.1)), rowE eE 64 (.slice (some ⟨b1, 0, none⟩) 1 1) [(do_, (⟨A6, l.length, c6⟩ : SV))], rowE eL 52 (.slice A6 l.length c6) l, blkE rb 82 #[(.slice A rows.length c), wv], insE (fun p : ED => p.2) eL 52 rows] := (SH.front [_, _, _] hS12)
        refine WS.xe rfl rfl (XE.appendQ (rows := rows) (r := (do_, (⟨A6, l.length, c6⟩ : SV))) l hS13 Try.underlying41 ti64 rfl (St.now (SH.rd hS13 (.tail _ (.head _)))) rfl rfl (by first | omega | (simp; omega)) (by first | omega | (simp; omega))) ?_
        rintro _ w5 ⟨A7, c7, rfl, hS14, hk4⟩
        refine ⟨fun h_ => (by cases h_), ?_⟩
        refine WS.pure rfl rfl (fun _ => LV.nilCheck rfl) ?_
        refine WS.pure rfl rfl (fun _ => LV.fieldA Try.underlying82 rfl ti41.sz rfl) ?_
        have hS16 : SH w S w5 [blkE rb 82 #[(.slice A rows.length c), wv], rowE eE 64 (.slice A7 ((rows ++ [((do_, (⟨A6, l.length, c6⟩ : SV)), l)]).length) c7) ((rows ++ [((do_, (⟨A6, l.length, c6⟩ : SV)), l)]).map (fun p : ED × List Ln => p.1)), rowE eE 64 (.slice (some ⟨b1, 0, none⟩) 1 1) [(do_, (⟨A6, l.length, c6⟩ : SV))], rowE eL 52 (.slice A6 l.length c6) l, insE (fun p : ED => p.2) eL 52 rows] := (SH.front [_, _, _] hS14)
        refine WS.xse rfl rfl (XSE.blk #[(.slice A7 ((rows ++ [((do_, (⟨A6, l.length, c6⟩ : SV)), l)]).length) c7), wv] hS16 (Nat.le_of_ble_eq_true rfl) ti41.sz rfl rfl rfl rfl) ?_
        rintro w6 ⟨hS15, hk5⟩
        refine ⟨fun h_ => (by cases h_), ?_⟩
        refine WS.nil (blockQ.n <| ?_)
        have hS17 : SH w S w6 [rowE eL 52 (.slice A6 l.length c6) l, insE (fun p : ED => p.2) eL 52 rows, blkE rb 82 #[(.slice A7 ((rows ++ [((do_, (⟨A6, l.length, c6⟩ : SV)), l)]).length) c7), wv], rowE eE 64 (.slice A7 ((rows ++ [((do_, (⟨A6, l.length, c6⟩ : SV)), l)]).length) c7) ((rows ++ [((do_, (⟨A6, l.length, c6⟩ : SV)), l)]).map (fun p : ED × List Ln => p.1))] := (SH.take 4 rfl (SH.front [_, _, _, _] (SH.front [_, _, _, _] (SH.front [_] (SH.front [_] hS15)))))
        have hS18 := SH.insMore (sv := fun p : ED => p.2) (r := (do_, (⟨A6, l.length, c6⟩ : SV))) rfl hS17
        have hS19 := SH.perm hS18 ((List.Perm.swap _ _ _).trans ((List.Perm.swap _ _ _).cons _))
        exact ⟨_, fun a ha => res0 rfl, _, _, _, rfl, addS_new (fun h_ => by subst h_; simp at *) (by omega), (by simp), hS19⟩
    · refine WL.lv rfl (LV.as (LV.gtI rfl rfl) (decide_eq_false hg1)) ?_
      refine WL.lv rfl (LV.mv rfl) ?_
      iterate 11 refine WL.off rfl ?_
      refine WL.lv rfl (LV.pickF rfl rfl) ?_
      refine WL.lv rfl (LV.asg rfl) ?_
      refine WL.nil (thenQ.n ?_)
      refine WC.condF rfl ?_
      have hS20 := SH.drew hS
      refine WC.regionD [10, 13] (fun w_ => KB No w.drew w_) [(.pure, 0), (.pure, 1), (.pure, 2), (.pure, 3), (.look, 4), (.pure, 5), (.pure, 6), (.forced, 7), (.pure, 8), (.forced, 9), (.forced, 10), (.pure, 11), (.pure, 12), (.forced, 13)] (by kernel_rfl) (by kernel_rfl) (KB.refl _ _) ?_
      iterate 2 refine WS.pure rfl rfl (fun _ => LV.mv rfl) ?_
      refine WS.pure rfl rfl (fun _ => LV.nilCheck rfl) ?_
      refine WS.pure rfl rfl (fun _ => LV.fieldA Try.underlying82 rfl ti41.sz rfl) ?_
      refine WS.look rfl rfl (fun _ hk_ => LV.load1 Try.underlying41 rfl rfl (Blk.cellN (SH.at hS20 (.head _)) 0 rfl _ hk_)) ?_
      iterate 2 refine WS.pure rfl rfl (fun _ => LV.mv rfl) ?_
      refine WS.call rfl rfl (XC.fn Try.func76 (by kernel_rfl) rfl rfl rfl) (clone_calls (SH.stN hS20 hl) (by omega)) ?_
      rintro v_ w7 ⟨A8, c8, rfl, hS21⟩
      have hS22 := SH.joinN hS20 hS21
      refine ⟨fun h_ => (KB.transN (KB.refl _ _) hS21.kb), ?_⟩
      refine WS.pure rfl rfl (fun _ => LV.build (vs := [(0, (.int .i64 do_)), (1, (.slice A8 l.length c8))]) (places := #[(0, 1), (1, 1)]) (cs := #[(.int .i64 do_), (.slice A8 l.length c8)]) Try.underlying64 ti64 (fun _ => by kernel_rfl) rfl rfl) ?_
      refine WS.xe rfl rfl (XE.buildSlice (E := eE) [(0, (.agg #[(.int .i64 do_), (.slice A8 l.length c8)]))] #[(.int .i64 do_), (.slice A8 l.length c8)] [(do_, (⟨A8, l.length, c8⟩ : SV))] hS22 Try.underlying41 ti64 rfl (by decide) (by kernel_rfl) (.inr rfl) rfl rfl (by decide)) ?_
      rintro _ w8 ⟨b2, rfl, hS23, hk6⟩
      refine ⟨fun h_ => (KB.transN (KB.transN (KB.refl _ _) hS21.kb) hk6), ?_⟩
      have hS24 : SH w S w8 [rowE eE 64 (.slice A rows.length c) (rows.map (fun p : ED × List Ln => p.1)), rowE eE 64 (.slice (some ⟨b2, 0, none⟩) 1 1) [(do_, (⟨A8, l.length, c8⟩ : SV))], rowE eL 52 (.slice A8 l.length c8) l, blkE rb 82 #[(.slice A rows.length c), wv], insE (fun p : ED => p.2) eL 52 rows] := (SH.front [_, _, _] hS23)
      refine WS.xe rfl rfl (XE.appendQ (rows := rows) (r := (do_, (⟨A8, l.length, c8⟩ : SV))) l hS24 Try.underlying41 ti64 rfl (St.now (SH.rd hS24 (.tail _ (.head _)))) rfl rfl (by first | omega | (simp; omega)) (by first | omega | (simp; omega))) ?_
      rintro _ w9 ⟨A9, c9, rfl, hS25, hk7⟩
      refine ⟨fun h_ => (by cases h_), ?_⟩
      refine WS.pure rfl rfl (fun _ => LV.nilCheck rfl) ?_
      refine WS.pure rfl rfl (fun _ => LV.fieldA Try.underlying82 rfl ti41.sz rfl) ?_
      have hS27 : SH w S w9 [blkE rb 82 #[(.slice A rows.length c), wv], rowE eE 64 (.slice A9 ((rows ++ [((do_, (⟨A8, l.length, c8⟩ : SV)), l)]).length) c9) ((rows ++ [((do_, (⟨A8, l.length, c8⟩ : SV)), l)]).map (fun p : ED × List Ln => p.1)), rowE eE 64 (.slice (some ⟨b2, 0, none⟩) 1 1) [(do_, (⟨A8, l.length, c8⟩ : SV))], rowE eL 52 (.slice A8 l.length c8) l, insE (fun p : ED => p.2) eL 52 rows] := (SH.front [_, _, _] hS25)
      refine WS.xse rfl rfl (XSE.blk #[(.slice A9 ((rows ++ [((do_, (⟨A8, l.length, c8⟩ : SV)), l)]).length) c9), wv] hS27 (Nat.le_of_ble_eq_true rfl) ti41.sz rfl rfl rfl rfl) ?_
      rintro w10 ⟨hS26, hk8⟩
      refine ⟨fun h_ => (by cases h_), ?_⟩
      refine WS.nil (blockQ.n <| ?_)
      have hS28 : SH w S w10 [rowE eL 52 (.slice A8 l.length c8) l, insE (fun p : ED => p.2) eL 52 rows, blkE rb 82 #[(.slice A9 ((rows ++ [((do_, (⟨A8, l.length, c8⟩ : SV)), l)]).length) c9), wv], rowE eE 64 (.slice A9 ((rows ++ [((do_, (⟨A8, l.length, c8⟩ : SV)), l)]).length) c9) ((rows ++ [((do_, (⟨A8, l.length, c8⟩ : SV)), l)]).map (fun p : ED × List Ln => p.1))] := (SH.take 4 rfl (SH.front [_, _, _, _] (SH.front [_, _, _, _] (SH.front [_] (SH.front [_] hS26)))))
      have hS29 := SH.insMore (sv := fun p : ED => p.2) (r := (do_, (⟨A8, l.length, c8⟩ : SV))) rfl hS28
      have hS30 := SH.perm hS29 ((List.Perm.swap _ _ _).trans ((List.Perm.swap _ _ _).cons _))
      exact ⟨_, fun a ha => res0 rfl, _, _, _, rfl, addS_new (fun h_ => by subst h_; simp at *) (by omega), (by simp), hS30⟩

theorem flush_calls {w : World} {S : Nat → Prop} {rb : Nat} {A Aw : Option Addr} {c cw : Nat} {rows : List (ED × List Ln)} {wait : List Ln} (hS0 : SH w S w [blkE rb 82 #[(.slice A rows.length c), (.slice Aw wait.length cw)], rowE eE 64 (.slice A rows.length c) (rows.map (fun p : ED × List Ln => p.1)), insE (fun p : ED => p.2) eL 52 rows, rowE eL 52 (.slice Aw wait.length cw) wait]) (h1 : rows.length ≤ 5000) (ht : tot (scr rows) + wait.length ≤ 1000) :
    Calls Try.prog 47 #[(.pointer (some ⟨rb, 0, none⟩))] w fun e w' => ∃ v, e = .returned v ∧ (fun v w' => ∃ A' c' rows', v = .tuple #[] ∧ scr rows' = addS (scr rows) 3 wait ∧ rows'.length ≤ rows.length + 1 ∧ SH w S w' [blkE rb 82 #[(.slice A' rows'.length c'), (.slice none 0 0)], rowE eE 64 (.slice A' rows'.length c') (rows'.map (fun p : ED × List Ln => p.1)), insE (fun p : ED => p.2) eL 52 rows', rowE eL 52 (.slice none 0 0) []]) v w' := by
  have hS : SH w S w [blkE rb 82 #[(.slice A rows.length c), (.slice Aw wait.length cw)], rowE eE 64 (.slice A rows.length c) (rows.map (fun p : ED × List Ln => p.1)), insE (fun p : ED => p.2) eL 52 rows, rowE eL 52 (.slice Aw wait.length cw) wait] := hS0
  refine calls (l := litOf [(.pointer (some ⟨rb, 0, none⟩))] 0) Try.func47 rfl (n := 11) rfl (Nat.le_of_ble_eq_true rfl) (lit_args _) ?_
  refine WC.seq ?_
  refine WC.region ?_
  iterate 2 refine WL.lv rfl (LV.mv rfl) ?_
  refine WL.lv rfl (LV.nilCheck rfl) ?_
  refine WL.lv rfl (LV.fieldA Try.underlying82 rfl ti24.sz rfl) ?_
  refine WL.lv rfl (LV.load1 Try.underlying24 rfl rfl (Blk.cellN (SH.at hS (.head _)) 1 rfl _ (KB.refl No _))) ?_
  have hS1 : SH w S w [insE (fun p : ED => p.2) eL 52 rows, blkE rb 82 #[(.slice A rows.length c), (.slice Aw wait.length cw)], rowE eE 64 (.slice A rows.length c) (rows.map (fun p : ED × List Ln => p.1)), rowE eL 52 (.slice Aw wait.length cw) wait] := (SH.front [_, _] hS)
  have hS2 : SH w S w [rowE eE 64 (.slice A rows.length c) (rows.map (fun p : ED × List Ln => p.1)), insE (fun p : ED => p.2) eL 52 rows, blkE rb 82 #[(.slice A rows.length c), (.slice Aw wait.length cw)], rowE eL 52 (.slice Aw wait.length cw) wait] := (SH.front [_, _] hS1)
  have hS3 : SH w S w [blkE rb 82 #[(.slice A rows.length c), (.slice Aw wait.length cw)], rowE eE 64 (.slice A rows.length c) (rows.map (fun p : ED × List Ln => p.1)), insE (fun p : ED => p.2) eL 52 rows, rowE eL 52 (.slice Aw wait.length cw) wait] := (SH.front [_, _] hS2)
  have hT1 := SH.sub (Es := [_, _, _]) hS3
  refine WL.call rfl (XC.fn Try.func65 (by kernel_rfl) rfl rfl rfl) (add_calls (do_ := 3) hT1 ((SH.stE (Es := [blkE rb 82 #[(.slice A rows.length c), (.slice Aw wait.length cw)], rowE eE 64 (.slice A rows.length c) (rows.map (fun p : ED × List Ln => p.1)), insE (fun p : ED => p.2) eL 52 rows]) hS3 (.head _)).imp fun _ h => Row.rd h) (by omega) (by omega) (fun p hp => Nat.le_trans (tot_mem hp) (by omega))) ?_
  rintro v_ w1 ⟨A1, c1, rows1, rfl, hadd11, hadd12, hU1⟩
  have hadd1 := And.intro hadd11 hadd12
  have htothadd1 := tot_addS (scr rows) 3 wait
  rw [← hadd1.1] at htothadd1
  have hS4 := SH.back (Es := [_, _, _]) hS3 hU1
  refine WL.nil (thenQ.n ?_)
  refine WC.region ?_
  refine WL.lv rfl (LV.mv rfl) ?_
  refine WL.lv rfl (LV.nilCheck rfl) ?_
  refine WL.lv rfl (LV.fieldA Try.underlying82 rfl ti24.sz rfl) ?_
  refine WL.xse rfl (XSE.blk #[(.slice A1 rows1.length c1), (.slice none 0 0)] hS4 (Nat.le_of_ble_eq_true rfl) ti24.sz rfl rfl rfl rfl) ?_
  rintro w2 ⟨hS5, hk1⟩
  refine WL.nil (?_)
  have hS6 := SH.nilRow (E := eL) (T := 52) hS5
  have hS7 : SH w S w2 [blkE rb 82 #[(.slice A1 rows1.length c1), (.slice none 0 0)], rowE eE 64 (.slice A1 rows1.length c1) (rows1.map (fun p : ED × List Ln => p.1)), insE (fun p : ED => p.2) eL 52 rows1, rowE eL 52 (.slice none 0 0) []] := (SH.take 4 rfl (SH.front [_, _, _] (SH.front [_, _, _] (SH.front [_, _, _] hS6))))
  exact ⟨_, fun a ha => res0 rfl, _, _, _, rfl, hadd1.1, hadd1.2, hS7⟩

set_option maxHeartbeats 1000000 in
theorem take_calls {w : World} {S : Nat → Prop} {rb : Nat} {A Aw A0 : Option Addr} {c cw c0 : Nat} {do_ : Int} {l : List Ln} {rows : List (ED × List Ln)} {wait : List Ln} (hS0 : SH w S w [blkE rb 82 #[(.slice A rows.length c), (.slice Aw wait.length cw)], rowE eE 64 (.slice A rows.length c) (rows.map (fun p : ED × List Ln => p.1)), insE (fun p : ED => p.2) eL 52 rows, rowE eL 52 (.slice Aw wait.length cw) wait]) (h1 : rows.length ≤ 5000) (ht : tot (scr rows) + wait.length ≤ 900) (hl : St S w (Rd eL (.slice A0 l.length c0) l)) (hll : tot (scr rows) + wait.length + l.length ≤ 900) :
    Calls Try.prog 46 #[(.pointer (some ⟨rb, 0, none⟩)), (.agg #[(.int .i64 do_), (.slice A0 l.length c0)])] w fun e w' => ∃ v, e = .returned v ∧ (fun v w' => ∃ A' c' rows' Aw' cw' wait', v = .tuple #[] ∧ (scr rows', wait') = takeS (scr rows, wait) (do_, l) ∧ rows'.length ≤ rows.length + 2 ∧ SH w S w' [blkE rb 82 #[(.slice A' rows'.length c'), (.slice Aw' wait'.length cw')], rowE eE 64 (.slice A' rows'.length c') (rows'.map (fun p : ED × List Ln => p.1)), insE (fun p : ED => p.2) eL 52 rows', rowE eL 52 (.slice Aw' wait'.length cw') wait']) v w' := by
  have hS : SH w S w [blkE rb 82 #[(.slice A rows.length c), (.slice Aw wait.length cw)], rowE eE 64 (.slice A rows.length c) (rows.map (fun p : ED × List Ln => p.1)), insE (fun p : ED => p.2) eL 52 rows, rowE eL 52 (.slice Aw wait.length cw) wait] := hS0
  refine calls (l := litOf [(.pointer (some ⟨rb, 0, none⟩)), (.agg #[(.int .i64 do_), (.slice A0 l.length c0)])] 0) Try.func46 rfl (n := 32) rfl (Nat.le_of_ble_eq_true rfl) (lit_args _) ?_
  refine WC.seq ?_
  refine WC.region ?_
  refine WL.xe rfl (XE.box #[(.int .i64 do_), (.slice A0 l.length c0)] hS rfl rfl) ?_
  rintro _ w1 ⟨b1, rfl, hS1, hk1⟩
  refine WL.nil (thenQ.n ?_)
  refine WC.seq ?_
  refine WC.region ?_
  refine WL.lv rfl (LV.fieldA Try.underlying64 rfl ti50.sz rfl) ?_
  refine WL.lv rfl (LV.load1 Try.underlying50 rfl rfl (Blk.cellN (SH.at hS1 (.head _)) 0 rfl _ (KB.refl No _))) ?_
  refine WL.nil (thenQ.n ?_)
  refine WC.block ?_
  refine WC.seq ?_
  refine WC.block ?_
  refine WC.seq ?_
  refine WC.block ?_
  refine WC.seq ?_
  refine WC.block ?_
  iterate 3 refine WC.seq ?_
  refine WC.region ?_
  refine WL.lv rfl (LV.eqI rfl rfl) ?_
  refine WL.lv rfl (LV.asg rfl) ?_
  refine WL.nil (thenQ.n ?_)
  refine WC.condP (p := do_ = 3) rfl (fun hc1 => ?_) (fun hc1 => ?_)
  · skip
    refine WC.exit (thenQ.x <| thenQ.x <| blockQ.hit <| thenQ.n ?_)
    refine WC.seq ?_
    have hS2 := SH.drew hS1
    refine WC.regionD [7, 10] (fun w_ => KB No w1.drew w_) [(.pure, 0), (.pure, 1), (.pure, 2), (.pure, 3), (.look, 4), (.pure, 5), (.look, 6), (.forced, 7), (.pure, 8), (.pure, 9), (.forced, 10)] (by kernel_rfl) (by kernel_rfl) (KB.refl _ _) ?_
    iterate 2 refine WS.pure rfl rfl (fun _ => LV.mv rfl) ?_
    refine WS.pure rfl rfl (fun _ => LV.nilCheck rfl) ?_
    refine WS.pure rfl rfl (fun _ => LV.fieldA Try.underlying82 rfl ti24.sz rfl) ?_
    refine WS.look rfl rfl (fun _ hk_ => LV.load1 Try.underlying24 rfl rfl (Blk.cellN (SH.at hS2 (.tail _ (.head _))) 1 rfl _ hk_)) ?_
    refine WS.pure rfl rfl (fun _ => LV.fieldA Try.underlying64 rfl ti24.sz rfl) ?_
    refine WS.look rfl rfl (fun _ hk_ => LV.load1 Try.underlying24 rfl rfl (Blk.cellN (SH.at hS2 (.head _)) 1 rfl _ hk_)) ?_
    have hS3 : SH w S w1.drew [rowE eL 52 (.slice Aw wait.length cw) wait, blkE b1 64 #[(.int .i64 do_), (.slice A0 l.length c0)], blkE rb 82 #[(.slice A rows.length c), (.slice Aw wait.length cw)], rowE eE 64 (.slice A rows.length c) (rows.map (fun p : ED × List Ln => p.1)), insE (fun p : ED => p.2) eL 52 rows] := (SH.front [_, _, _, _] hS2)
    refine WS.xe rfl rfl (XE.append hS3 Try.underlying24 ti52 rfl (St.now (SH.stN hS3 hl)) rfl rfl (by first | omega | simp only [List.length_append, List.length_cons, List.length_nil, List.length_take, List.length_reverse, List.length_drop] at *; omega) (by first | omega | simp only [List.length_append, List.length_cons, List.length_nil, List.length_take, List.length_reverse, List.length_drop] at *; omega)) ?_
    rintro _ w2 ⟨A1, c1, rfl, hS4, hk2⟩
    refine ⟨fun h_ => (by cases h_), ?_⟩
    refine WS.pure rfl rfl (fun _ => LV.nilCheck rfl) ?_
    refine WS.pure rfl rfl (fun _ => LV.fieldA Try.underlying82 rfl ti24.sz rfl) ?_
    have hS6 : SH w S w2 [blkE rb 82 #[(.slice A rows.length c), (.slice Aw wait.length cw)], rowE eL 52 (.slice A1 ((wait ++ l).length) c1) (wait ++ l), blkE b1 64 #[(.int .i64 do_), (.slice A0 l.length c0)], rowE eE 64 (.slice A rows.length c) (rows.map (fun p : ED × List Ln => p.1)), insE (fun p : ED => p.2) eL 52 rows] := (SH.front [_, _] hS4)
    refine WS.xse rfl rfl (XSE.blk #[(.slice A rows.length c), (.slice A1 ((wait ++ l).length) c1)] hS6 (Nat.le_of_ble_eq_true rfl) ti24.sz rfl rfl rfl rfl) ?_
    rintro w3 ⟨hS5, hk3⟩
    refine ⟨fun h_ => (by cases h_), ?_⟩
    refine WS.nil (thenQ.n ?_)
    refine WC.exit (blockQ.miss rfl <| thenQ.x <| blockQ.miss rfl <| thenQ.x <| blockQ.hit <| ?_)
    have hS7 : SH w S w3 [blkE rb 82 #[(.slice A rows.length c), (.slice A1 ((wait ++ l).length) c1)], rowE eE 64 (.slice A rows.length c) (rows.map (fun p : ED × List Ln => p.1)), insE (fun p : ED => p.2) eL 52 rows, rowE eL 52 (.slice A1 ((wait ++ l).length) c1) (wait ++ l)] := (SH.take 4 rfl (SH.front [_, _, _] (SH.front [_, _, _, _] (SH.front [_, _, _, _] (SH.front [_] hS5)))))
    exact ⟨_, fun a ha => res0 rfl, _, _, _, _, _, _, rfl, takeS_in hc1, (by omega), hS7⟩
  · skip
    refine WC.skip (thenQ.n ?_)
    refine WC.seq ?_
    refine WC.region ?_
    refine WL.lv rfl (LV.eqI rfl rfl) ?_
    refine WL.lv rfl (LV.asg rfl) ?_
    refine WL.nil (thenQ.n ?_)
    refine WC.condP (p := do_ = 1) rfl (fun hc2 => ?_) (fun hc2 => ?_)
    · skip
      refine WC.exit (thenQ.x <| blockQ.miss rfl <| thenQ.x <| blockQ.hit <| thenQ.n ?_)
      refine WC.seq ?_
      refine WC.region ?_
      refine WL.lv rfl (LV.fieldA Try.underlying64 rfl ti24.sz rfl) ?_
      refine WL.lv rfl (LV.load1 Try.underlying24 rfl rfl (Blk.cellN (SH.at hS1 (.head _)) 1 rfl _ (KB.refl No _))) ?_
      refine WL.lv rfl (LV.lenL Try.underlying24 rfl) ?_
      refine WL.lv rfl (LV.gtI rfl rfl) ?_
      refine WL.nil (thenQ.n ?_)
      refine WC.condP (p := (l.length : Int) > 0) rfl (fun hc3 => ?_) (fun hc3 => ?_)
      · skip
        refine WC.region ?_
        refine WL.lv rfl (LV.mv rfl) ?_
        have hS8 : SH w S w1 [rowE eL 52 (.slice Aw wait.length cw) wait, blkE b1 64 #[(.int .i64 do_), (.slice A0 l.length c0)], blkE rb 82 #[(.slice A rows.length c), (.slice Aw wait.length cw)], rowE eE 64 (.slice A rows.length c) (rows.map (fun p : ED × List Ln => p.1)), insE (fun p : ED => p.2) eL 52 rows] := (SH.front [_, _, _, _] hS1)
        have hS9 : SH w S w1 [insE (fun p : ED => p.2) eL 52 rows, rowE eL 52 (.slice Aw wait.length cw) wait, blkE b1 64 #[(.int .i64 do_), (.slice A0 l.length c0)], blkE rb 82 #[(.slice A rows.length c), (.slice Aw wait.length cw)], rowE eE 64 (.slice A rows.length c) (rows.map (fun p : ED × List Ln => p.1))] := (SH.front [_, _, _, _] hS8)
        have hS10 : SH w S w1 [rowE eE 64 (.slice A rows.length c) (rows.map (fun p : ED × List Ln => p.1)), insE (fun p : ED => p.2) eL 52 rows, rowE eL 52 (.slice Aw wait.length cw) wait, blkE b1 64 #[(.int .i64 do_), (.slice A0 l.length c0)], blkE rb 82 #[(.slice A rows.length c), (.slice Aw wait.length cw)]] := (SH.front [_, _, _, _] hS9)
        have hS11 : SH w S w1 [blkE rb 82 #[(.slice A rows.length c), (.slice Aw wait.length cw)], rowE eE 64 (.slice A rows.length c) (rows.map (fun p : ED × List Ln => p.1)), insE (fun p : ED => p.2) eL 52 rows, rowE eL 52 (.slice Aw wait.length cw) wait, blkE b1 64 #[(.int .i64 do_), (.slice A0 l.length c0)]] := (SH.front [_, _, _, _] hS10)
        have hT1 := SH.sub (Es := [_, _, _, _]) hS11
        refine WL.call rfl (XC.fn Try.func47 (by kernel_rfl) rfl rfl rfl) (flush_calls hT1 (by omega) (by omega)) ?_
        rintro v_ w4 ⟨A2, c2, rows1, rfl, hadd11, hadd12, hU1⟩
        have hadd1 := And.intro hadd11 hadd12
        have htothadd1 := tot_addS (scr rows) 3 wait
        rw [← hadd1.1] at htothadd1
        have hS12 := SH.back (Es := [_, _, _, _]) hS11 hU1
        refine WL.nil (blockQ.n <| thenQ.n ?_)
        refine WC.seq ?_
        refine WC.region ?_
        refine WL.lv rfl (LV.mv rfl) ?_
        refine WL.lv rfl (LV.fieldA Try.underlying64 rfl ti50.sz rfl) ?_
        refine WL.lv rfl (LV.load1 Try.underlying50 rfl rfl (Blk.cellN (SH.at hS12 (.tail _ (.tail _ (.tail _ (.tail _ (.head _)))))) 0 rfl _ (KB.refl No _))) ?_
        refine WL.lv rfl (LV.fieldA Try.underlying64 rfl ti24.sz rfl) ?_
        refine WL.lv rfl (LV.load1 Try.underlying24 rfl rfl (Blk.cellN (SH.at hS12 (.tail _ (.tail _ (.tail _ (.tail _ (.head _)))))) 1 rfl _ (KB.refl No _))) ?_
        have hS13 : SH w S w4 [insE (fun p : ED => p.2) eL 52 rows1, blkE rb 82 #[(.slice A2 rows1.length c2), (.slice none 0 0)], rowE eE 64 (.slice A2 rows1.length c2) (rows1.map (fun p : ED × List Ln => p.1)), rowE eL 52 (.slice none 0 0) [], blkE b1 64 #[(.int .i64 do_), (.slice A0 l.length c0)]] := (SH.front [_, _] hS12)
        have hS14 : SH w S w4 [rowE eE 64 (.slice A2 rows1.length c2) (rows1.map (fun p : ED × List Ln => p.1)), insE (fun p : ED => p.2) eL 52 rows1, blkE rb 82 #[(.slice A2 rows1.length c2), (.slice none 0 0)], rowE eL 52 (.slice none 0 0) [], blkE b1 64 #[(.int .i64 do_), (.slice A0 l.length c0)]] := (SH.front [_, _] hS13)
        have hS15 : SH w S w4 [blkE rb 82 #[(.slice A2 rows1.length c2), (.slice none 0 0)], rowE eE 64 (.slice A2 rows1.length c2) (rows1.map (fun p : ED × List Ln => p.1)), insE (fun p : ED => p.2) eL 52 rows1, rowE eL 52 (.slice none 0 0) [], blkE b1 64 #[(.int .i64 do_), (.slice A0 l.length c0)]] := (SH.front [_, _] hS14)
        have hT2 := SH.sub (Es := [_, _, _]) hS15
        refine WL.call rfl (XC.fn Try.func65 (by kernel_rfl) rfl rfl rfl) (add_calls (do_ := do_) hT2 (SH.stA (Es := [blkE rb 82 #[(.slice A2 rows1.length c2), (.slice none 0 0)], rowE eE 64 (.slice A2 rows1.length c2) (rows1.map (fun p : ED × List Ln => p.1)), insE (fun p : ED => p.2) eL 52 rows1]) hS15 hl) (by omega) (by omega) (fun p hp => Nat.le_trans (tot_mem hp) (by omega))) ?_
        rintro v_ w5 ⟨A3, c3, rows2, rfl, hadd21, hadd22, hU2⟩
        have hadd2 := And.intro hadd21 hadd22
        have htothadd2 := tot_addS (scr rows1) do_ l
        rw [← hadd2.1] at htothadd2
        have hS16 := SH.back (Es := [_, _, _]) hS15 hU2
        refine WL.nil (thenQ.n ?_)
        refine WC.exit (blockQ.hit <| ?_)
        have hS17 : SH w S w5 [blkE rb 82 #[(.slice A3 rows2.length c3), (.slice none 0 0)], rowE eE 64 (.slice A3 rows2.length c3) (rows2.map (fun p : ED × List Ln => p.1)), insE (fun p : ED => p.2) eL 52 rows2, rowE eL 52 (.slice none 0 0) []] := (SH.take 4 rfl (SH.front [_, _, _] (SH.front [_, _, _] (SH.front [_, _, _] (SH.front [_, _, _] hS16)))))
        exact ⟨_, fun a ha => res0 rfl, _, _, _, _, _, _, rfl, (by rw [hadd2.1, hadd1.1]; exact takeS_keep hc2 (by omega)), (by omega), hS17⟩
      · skip
        refine WC.skip (blockQ.n <| thenQ.n ?_)
        refine WC.seq ?_
        refine WC.region ?_
        refine WL.lv rfl (LV.mv rfl) ?_
        refine WL.lv rfl (LV.fieldA Try.underlying64 rfl ti50.sz rfl) ?_
        refine WL.lv rfl (LV.load1 Try.underlying50 rfl rfl (Blk.cellN (SH.at hS1 (.head _)) 0 rfl _ (KB.refl No _))) ?_
        refine WL.lv rfl (LV.fieldA Try.underlying64 rfl ti24.sz rfl) ?_
        refine WL.lv rfl (LV.load1 Try.underlying24 rfl rfl (Blk.cellN (SH.at hS1 (.head _)) 1 rfl _ (KB.refl No _))) ?_
        have hS18 : SH w S w1 [insE (fun p : ED => p.2) eL 52 rows, blkE b1 64 #[(.int .i64 do_), (.slice A0 l.length c0)], blkE rb 82 #[(.slice A rows.length c), (.slice Aw wait.length cw)], rowE eE 64 (.slice A rows.length c) (rows.map (fun p : ED × List Ln => p.1)), rowE eL 52 (.slice Aw wait.length cw) wait] := (SH.front [_, _, _] hS1)
        have hS19 : SH w S w1 [rowE eE 64 (.slice A rows.length c) (rows.map (fun p : ED × List Ln => p.1)), insE (fun p : ED => p.2) eL 52 rows, blkE b1 64 #[(.int .i64 do_), (.slice A0 l.length c0)], blkE rb 82 #[(.slice A rows.length c), (.slice Aw wait.length cw)], rowE eL 52 (.slice Aw wait.length cw) wait] := (SH.front [_, _, _] hS18)
        have hS20 : SH w S w1 [blkE rb 82 #[(.slice A rows.length c), (.slice Aw wait.length cw)], rowE eE 64 (.slice A rows.length c) (rows.map (fun p : ED × List Ln => p.1)), insE (fun p : ED => p.2) eL 52 rows, blkE b1 64 #[(.int .i64 do_), (.slice A0 l.length c0)], rowE eL 52 (.slice Aw wait.length cw) wait] := (SH.front [_, _, _] hS19)
        have hT3 := SH.sub (Es := [_, _, _]) hS20
        refine WL.call rfl (XC.fn Try.func65 (by kernel_rfl) rfl rfl rfl) (add_calls (do_ := do_) hT3 (SH.stA (Es := [blkE rb 82 #[(.slice A rows.length c), (.slice Aw wait.length cw)], rowE eE 64 (.slice A rows.length c) (rows.map (fun p : ED × List Ln => p.1)), insE (fun p : ED => p.2) eL 52 rows]) hS20 hl) (by omega) (by omega) (fun p hp => Nat.le_trans (tot_mem hp) (by omega))) ?_
        rintro v_ w6 ⟨A4, c4, rows3, rfl, hadd31, hadd32, hU3⟩
        have hadd3 := And.intro hadd31 hadd32
        have htothadd3 := tot_addS (scr rows) do_ l
        rw [← hadd3.1] at htothadd3
        have hS21 := SH.back (Es := [_, _, _]) hS20 hU3
        refine WL.nil (thenQ.n ?_)
        refine WC.exit (blockQ.hit <| ?_)
        have hS22 : SH w S w6 [blkE rb 82 #[(.slice A4 rows3.length c4), (.slice Aw wait.length cw)], rowE eE 64 (.slice A4 rows3.length c4) (rows3.map (fun p : ED × List Ln => p.1)), insE (fun p : ED => p.2) eL 52 rows3, rowE eL 52 (.slice Aw wait.length cw) wait] := (SH.take 4 rfl (SH.front [_, _, _] (SH.front [_, _, _] (SH.front [_, _, _] (SH.front [_, _, _, _] hS21)))))
        exact ⟨_, fun a ha => res0 rfl, _, _, _, _, _, _, rfl, (by rw [hadd3.1]; exact takeS_out (by omega) (by omega)), (by omega), hS22⟩
    · skip
      refine WC.skip (thenQ.n ?_)
      refine WC.exit (blockQ.miss rfl <| thenQ.x <| blockQ.miss rfl <| thenQ.x <| blockQ.hit <| thenQ.n ?_)
      refine WC.seq ?_
      refine WC.region ?_
      refine WL.lv rfl (LV.mv rfl) ?_
      refine WL.lv rfl (LV.fieldA Try.underlying64 rfl ti50.sz rfl) ?_
      refine WL.lv rfl (LV.load1 Try.underlying50 rfl rfl (Blk.cellN (SH.at hS1 (.head _)) 0 rfl _ (KB.refl No _))) ?_
      refine WL.lv rfl (LV.fieldA Try.underlying64 rfl ti24.sz rfl) ?_
      refine WL.lv rfl (LV.load1 Try.underlying24 rfl rfl (Blk.cellN (SH.at hS1 (.head _)) 1 rfl _ (KB.refl No _))) ?_
      have hS23 : SH w S w1 [insE (fun p : ED => p.2) eL 52 rows, blkE b1 64 #[(.int .i64 do_), (.slice A0 l.length c0)], blkE rb 82 #[(.slice A rows.length c), (.slice Aw wait.length cw)], rowE eE 64 (.slice A rows.length c) (rows.map (fun p : ED × List Ln => p.1)), rowE eL 52 (.slice Aw wait.length cw) wait] := (SH.front [_, _, _] hS1)
      have hS24 : SH w S w1 [rowE eE 64 (.slice A rows.length c) (rows.map (fun p : ED × List Ln => p.1)), insE (fun p : ED => p.2) eL 52 rows, blkE b1 64 #[(.int .i64 do_), (.slice A0 l.length c0)], blkE rb 82 #[(.slice A rows.length c), (.slice Aw wait.length cw)], rowE eL 52 (.slice Aw wait.length cw) wait] := (SH.front [_, _, _] hS23)
      have hS25 : SH w S w1 [blkE rb 82 #[(.slice A rows.length c), (.slice Aw wait.length cw)], rowE eE 64 (.slice A rows.length c) (rows.map (fun p : ED × List Ln => p.1)), insE (fun p : ED => p.2) eL 52 rows, blkE b1 64 #[(.int .i64 do_), (.slice A0 l.length c0)], rowE eL 52 (.slice Aw wait.length cw) wait] := (SH.front [_, _, _] hS24)
      have hT4 := SH.sub (Es := [_, _, _]) hS25
      refine WL.call rfl (XC.fn Try.func65 (by kernel_rfl) rfl rfl rfl) (add_calls (do_ := do_) hT4 (SH.stA (Es := [blkE rb 82 #[(.slice A rows.length c), (.slice Aw wait.length cw)], rowE eE 64 (.slice A rows.length c) (rows.map (fun p : ED × List Ln => p.1)), insE (fun p : ED => p.2) eL 52 rows]) hS25 hl) (by omega) (by omega) (fun p hp => Nat.le_trans (tot_mem hp) (by omega))) ?_
      rintro v_ w7 ⟨A5, c5, rows4, rfl, hadd41, hadd42, hU4⟩
      have hadd4 := And.intro hadd41 hadd42
      have htothadd4 := tot_addS (scr rows) do_ l
      rw [← hadd4.1] at htothadd4
      have hS26 := SH.back (Es := [_, _, _]) hS25 hU4
      refine WL.nil (thenQ.n ?_)
      refine WC.exit (blockQ.hit <| ?_)
      have hS27 : SH w S w7 [blkE rb 82 #[(.slice A5 rows4.length c5), (.slice Aw wait.length cw)], rowE eE 64 (.slice A5 rows4.length c5) (rows4.map (fun p : ED × List Ln => p.1)), insE (fun p : ED => p.2) eL 52 rows4, rowE eL 52 (.slice Aw wait.length cw) wait] := (SH.take 4 rfl (SH.front [_, _, _] (SH.front [_, _, _] (SH.front [_, _, _] (SH.front [_, _, _, _] hS26)))))
      exact ⟨_, fun a ha => res0 rfl, _, _, _, _, _, _, rfl, (by rw [hadd4.1]; exact takeS_out (by omega) (by omega)), (by omega), hS27⟩

set_option maxHeartbeats 1000000 in
theorem normal_calls {w : World} {A0 : Option Addr} {c0 : Nat} {inp : List (ED × List Ln)} (hi : St No w (Rd eE (.slice A0 inp.length c0) (inp.map (·.1)))) (hin : St No w (RdIn (·.2) eL inp)) (ht : tot (scr inp) ≤ 800) (hn : inp.length ≤ 900) :
    Calls Try.prog 32 #[(.slice A0 inp.length c0)] w fun e w' => ∃ v, e = .returned v ∧ (fun v w' => ∃ A' c' rows', v = .slice A' rows'.length c' ∧ scr rows' = normP (scr inp) ∧ SH w No w' [rowE eE 64 (.slice A' rows'.length c') (rows'.map (fun p : ED × List Ln => p.1)), insE (fun p : ED => p.2) eL 52 rows']) v w' := by
  have hS : SH w No w [] := SH.nil _ _
  refine calls (l := litOf [(.slice A0 inp.length c0)] 0) Try.func32 rfl (n := 24) rfl (Nat.le_of_ble_eq_true rfl) (lit_args _) ?_
  refine WC.seq ?_
  refine WC.region ?_
  refine WL.lv rfl (LV.asg rfl) ?_
  refine WL.nil (thenQ.n ?_)
  refine WC.seq ?_
  refine WC.region ?_
  refine WL.lv rfl (LV.build (vs := []) (places := #[(0, 1), (1, 1)]) (cs := #[(.slice none 0 0), (.slice none 0 0)]) Try.underlying82 ti82 (fun _ => by kernel_rfl) rfl rfl) ?_
  refine WL.xe rfl (XE.box #[(.slice none 0 0), (.slice none 0 0)] hS rfl rfl) ?_
  rintro _ w1 ⟨b1, rfl, hS1, hk1⟩
  refine WL.lv rfl (LV.asg rfl) ?_
  refine WL.nil (thenQ.n ?_)
  iterate 2 refine WC.seq ?_
  refine WC.region ?_
  have hS2 := SH.nilRow (E := eE) (T := 64) hS1
  have hS3 := SH.ins0 (sv := fun p : ED => p.2) (E := eL) (T1 := 52) hS2
  have hS4 := SH.nilRow (E := eL) (T := 52) hS3
  refine WL.lv rfl (LV.mv rfl) ?_
  refine WL.lv rfl (LV.lenL Try.underlying41 rfl) ?_
  refine WL.lv rfl (LV.mv rfl) ?_
  refine WL.nil (thenQ.n ?_)
  refine WC.block ?_
  have hS5 : SH w No w1 [blkE b1 82 #[(.slice none 0 0), (.slice none 0 0)], rowE eE 64 (.slice none 0 0) (([] : List (ED × List Ln)).map (fun p : ED × List Ln => p.1)), insE (fun p : ED => p.2) eL 52 [], rowE eL 52 (.slice none 0 0) []] := (SH.front [_, _, _] (SH.front [_, _] (SH.front [_] hS4)))
  refine WC.loop (fun m_ f_ w_ => ∃ (i : Int) (Ao Aw : Option Addr) (co cw : Nat) (rows : List (ED × List Ln)) (wait : List Ln), (0 ≤ i) ∧ (i ≤ inp.length) ∧ ((scr rows, wait) = ((scr inp).take i.toNat).foldl takeS ([], [])) ∧ ((rows.length : Int) ≤ 2 * i) ∧ SH w No w_ [blkE b1 82 #[(.slice Ao rows.length co), (.slice Aw wait.length cw)], rowE eE 64 (.slice Ao rows.length co) (rows.map (fun p : ED × List Ln => p.1)), insE (fun p : ED => p.2) eL 52 rows, rowE eL 52 (.slice Aw wait.length cw) wait] ∧ m_ = (((inp.length : Int) - i).toNat) ∧ Weak (lit [(0, (.slice A0 inp.length c0)), (2, (.slice none 0 0)), (3, (.pointer (some ⟨b1, 0, none⟩))), (8, (.slice A0 inp.length c0)), (9, (.int .i64 (inp.length : Int))), (10, (.int .i64 i))]) f_) _ ⟨0, none, none, 0, 0, [], [], by omega, by omega, rfl, (by simp), hS5, rfl, Weak.cons rfl <| Weak.cons rfl <| Weak.cons rfl <| Weak.cons rfl <| Weak.cons rfl <| Weak.cons rfl <| Weak.nil _⟩ ?_
  rintro m1 f1 w2 ⟨i, Ao, Aw, co, cw, rows, wait, q0, q1, q2, q3, hL1, rfl, hw1⟩
  refine WC.weak hw1 ?_
  clear hw1
  have htf : tot (scr rows) + wait.length = tot ((scr inp).take i.toNat) := by have h_ := tot_fold ((scr inp).take i.toNat) ([], []); rw [← q2] at h_; exact h_.trans (Nat.zero_add _)
  have htn := tot_take (scr inp) i.toNat
  refine WC.seq ?_
  refine WC.region ?_
  refine WL.lv rfl (LV.ltI rfl rfl) ?_
  refine WL.nil (thenQ.n ?_)
  refine WC.seq ?_
  refine WC.condP (p := i < (inp.length : Int)) rfl (fun h11 => ?_) (fun h11 => ?_)
  · have htm := tot_more q0 h11
    have htn2 := tot_take (scr inp) (i + 1).toNat
    refine WC.skip (thenQ.n ?_)
    refine WC.seq ?_
    refine WC.block ?_
    refine WC.seq ?_
    refine WC.region ?_
    obtain ⟨A1, c1, A2, c2, e1, g1, e2, r1⟩ := St.eltE (SH.stN hL1 hi) (SH.stN hL1 hin) default i (by omega) (by omega)
    refine WL.lv rfl (LV.idxA Try.underlying41 ti64.sz rfl e1 rfl (by omega) (by omega)) ?_
    refine WL.lv rfl (LV.loadAgg (cs := [(.int .i64 ((inp.getD (i).toNat default).1.1)), (.slice A2 ((inp.getD (i).toNat default).2.length) c2)]) Try.underlying64 rfl ti64 rfl rfl (fun j u hu => g1 _ (KB.refl No _) j u hu)) ?_
    refine WL.xe rfl (XE.alloc #[(.int .i64 0), (.slice none 0 0)] hL1 ti64 rfl) ?_
    rintro _ w3 ⟨b2, rfl, hS6, hk2⟩
    refine WL.xse rfl (XSE.blkAgg #[(.int .i64 ((inp.getD (i).toNat default).1.1)), (.slice A2 ((inp.getD (i).toNat default).2.length) c2)] hS6 (by kernel_rfl) rfl (by kernel_rfl) rfl rfl) ?_
    rintro w4 ⟨hS7, hk3⟩
    refine WL.nil (thenQ.n ?_)
    refine WC.region ?_
    refine WL.lv rfl (LV.mv rfl) ?_
    refine WL.lv rfl (LV.loadAgg (cs := [(.int .i64 ((inp.getD (i).toNat default).1.1)), (.slice A2 ((inp.getD (i).toNat default).2.length) c2)]) Try.underlying64 rfl ti64 rfl rfl (Blk.agg (SH.at hS7 (.head _)) _ (KB.refl No _))) ?_
    have hS8 : SH w No w4 [rowE eL 52 (.slice Aw wait.length cw) wait, blkE b2 64 #[(.int .i64 ((inp.getD (i).toNat default).1.1)), (.slice A2 ((inp.getD (i).toNat default).2.length) c2)], blkE b1 82 #[(.slice Ao rows.length co), (.slice Aw wait.length cw)], rowE eE 64 (.slice Ao rows.length co) (rows.map (fun p : ED × List Ln => p.1)), insE (fun p : ED => p.2) eL 52 rows] := (SH.front [_, _, _, _] hS7)
    have hS9 : SH w No w4 [insE (fun p : ED => p.2) eL 52 rows, rowE eL 52 (.slice Aw wait.length cw) wait, blkE b2 64 #[(.int .i64 ((inp.getD (i).toNat default).1.1)), (.slice A2 ((inp.getD (i).toNat default).2.length) c2)], blkE b1 82 #[(.slice Ao rows.length co), (.slice Aw wait.length cw)], rowE eE 64 (.slice Ao rows.length co) (rows.map (fun p : ED × List Ln => p.1))] := (SH.front [_, _, _, _] hS8)
    have hS10 : SH w No w4 [rowE eE 64 (.slice Ao rows.length co) (rows.map (fun p : ED × List Ln => p.1)), insE (fun p : ED => p.2) eL 52 rows, rowE eL 52 (.slice Aw wait.length cw) wait, blkE b2 64 #[(.int .i64 ((inp.getD (i).toNat default).1.1)), (.slice A2 ((inp.getD (i).toNat default).2.length) c2)], blkE b1 82 #[(.slice Ao rows.length co), (.slice Aw wait.length cw)]] := (SH.front [_, _, _, _] hS9)
    have hS11 : SH w No w4 [blkE b1 82 #[(.slice Ao rows.length co), (.slice Aw wait.length cw)], rowE eE 64 (.slice Ao rows.length co) (rows.map (fun p : ED × List Ln => p.1)), insE (fun p : ED => p.2) eL 52 rows, rowE eL 52 (.slice Aw wait.length cw) wait, blkE b2 64 #[(.int .i64 ((inp.getD (i).toNat default).1.1)), (.slice A2 ((inp.getD (i).toNat default).2.length) c2)]] := (SH.front [_, _, _, _] hS10)
    have hT1 := SH.sub (Es := [_, _, _, _]) hS11
    refine WL.call rfl (XC.fn Try.func46 (by kernel_rfl) rfl rfl rfl) (take_calls (do_ := (inp.getD (i).toNat default).1.1) (l := (inp.getD (i).toNat default).2) hT1 (by omega) (by omega) (St.innerQ (SH.stA (Es := [blkE b1 82 #[(.slice Ao rows.length co), (.slice Aw wait.length cw)], rowE eE 64 (.slice Ao rows.length co) (rows.map (fun p : ED × List Ln => p.1)), insE (fun p : ED => p.2) eL 52 rows, rowE eL 52 (.slice Aw wait.length cw) wait]) hS11 hin) (getD_mem (by omega)) e2) (by omega)) ?_
    rintro v_ w5 ⟨A3, c3, rows1, A4, c4, wait1, rfl, hq1, hq2, hU1⟩
    have htk_ := hq1
    have hrl_ := hq2
    have hS12 := SH.back (Es := [_, _, _, _]) hS11 hU1
    refine WL.nil (blockQ.n <| thenQ.n ?_)
    refine WC.region ?_
    refine WL.lv rfl (LV.add rfl rfl (wr64 (by omega) (by omega))) ?_
    refine WL.lv rfl (LV.mv rfl) ?_
    refine WL.nil (thenQ.n ?_)
    have hS13 : SH w No w5 [blkE b1 82 #[(.slice A3 rows1.length c3), (.slice A4 wait1.length c4)], rowE eE 64 (.slice A3 rows1.length c3) (rows1.map (fun p : ED × List Ln => p.1)), insE (fun p : ED => p.2) eL 52 rows1, rowE eL 52 (.slice A4 wait1.length c4) wait1] := (SH.take 4 rfl (SH.front [_, _, _] (SH.front [_, _, _] (SH.front [_, _, _] (SH.front [_, _, _] hS12)))))
    exact ⟨_, by omega, i + 1, A3, A4, c3, c4, rows1, wait1, by omega, by omega, (by rw [fold_more q0 h11, ← q2]; exact htk_), by omega, hS13, rfl, Weak.cons rfl <| Weak.cons rfl <| Weak.cons rfl <| Weak.cons rfl <| Weak.cons rfl <| Weak.cons rfl <| Weak.nil _⟩
  · skip
    refine WC.exit (thenQ.x <| thenQ.x <| blockQ.hit <| thenQ.n ?_)
    refine WC.seq ?_
    refine WC.region ?_
    refine WL.lv rfl (LV.mv rfl) ?_
    have hS14 : SH w No w2 [rowE eL 52 (.slice Aw wait.length cw) wait, blkE b1 82 #[(.slice Ao rows.length co), (.slice Aw wait.length cw)], rowE eE 64 (.slice Ao rows.length co) (rows.map (fun p : ED × List Ln => p.1)), insE (fun p : ED => p.2) eL 52 rows] := (SH.front [_, _, _] hL1)
    have hS15 : SH w No w2 [insE (fun p : ED => p.2) eL 52 rows, rowE eL 52 (.slice Aw wait.length cw) wait, blkE b1 82 #[(.slice Ao rows.length co), (.slice Aw wait.length cw)], rowE eE 64 (.slice Ao rows.length co) (rows.map (fun p : ED × List Ln => p.1))] := (SH.front [_, _, _] hS14)
    have hS16 : SH w No w2 [rowE eE 64 (.slice Ao rows.length co) (rows.map (fun p : ED × List Ln => p.1)), insE (fun p : ED => p.2) eL 52 rows, rowE eL 52 (.slice Aw wait.length cw) wait, blkE b1 82 #[(.slice Ao rows.length co), (.slice Aw wait.length cw)]] := (SH.front [_, _, _] hS15)
    have hS17 : SH w No w2 [blkE b1 82 #[(.slice Ao rows.length co), (.slice Aw wait.length cw)], rowE eE 64 (.slice Ao rows.length co) (rows.map (fun p : ED × List Ln => p.1)), insE (fun p : ED => p.2) eL 52 rows, rowE eL 52 (.slice Aw wait.length cw) wait] := (SH.front [_, _, _] hS16)
    have hT2 := SH.sub (Es := [_, _, _, _]) hS17
    refine WL.call rfl (XC.fn Try.func47 (by kernel_rfl) rfl rfl rfl) (flush_calls hT2 (by omega) (by omega)) ?_
    rintro v_ w6 ⟨A5, c5, rows2, rfl, hadd11, hadd12, hU2⟩
    have hadd1 := And.intro hadd11 hadd12
    have htothadd1 := tot_addS (scr rows) 3 wait
    rw [← hadd1.1] at htothadd1
    have hS18 := SH.back (Es := [_, _, _, _]) hS17 hU2
    refine WL.nil (thenQ.n ?_)
    refine WC.seq ?_
    refine WC.region ?_
    refine WL.lv rfl (LV.mv rfl) ?_
    refine WL.lv rfl (LV.nilCheck rfl) ?_
    refine WL.lv rfl (LV.fieldA Try.underlying82 rfl ti41.sz rfl) ?_
    refine WL.lv rfl (LV.load1 Try.underlying41 rfl rfl (Blk.cellN (SH.at hS18 (.head _)) 0 rfl _ (KB.refl No _))) ?_
    refine WL.lv rfl (LV.asg rfl) ?_
    refine WL.nil (thenQ.n ?_)
    refine WC.ret (?_)
    have hS19 : SH w No w6 [rowE eE 64 (.slice A5 rows2.length c5) (rows2.map (fun p : ED × List Ln => p.1)), insE (fun p : ED => p.2) eL 52 rows2] := (SH.take 2 rfl (SH.front [_, _] (SH.front [_, _] hS18)))
    exact ⟨_, fun a ha => res1 rfl ha rfl, _, _, _, rfl, (by rw [hadd1.1]; unfold normP; rw [scr_all (by omega)] at q2; rw [← q2]), hS19⟩

theorem numbers_eq {w : World} {A_inp : Option Addr} {n_inp c_inp : Nat} {inp : List (SV × List Ln)} (h_inp : St No w (RdRR eL (.slice A_inp n_inp c_inp) inp)) (hn_inp : inp.length = n_inp) (h1 : inp.length ≤ 1000) (h2 : ∀ p ∈ inp, p.2.length ≤ 1000) : Calls Try.prog 30 #[(.slice A_inp n_inp c_inp)] w fun e w' => ∃ v, e = .returned v ∧
    (fun v w' => ∃ A' c' rows, v = .slice A' rows.length c' ∧ rows.map (·.2) = nnums [] (inp.map (·.2)) ∧ SH w No w' [rrE eI 49 3 (.slice A' rows.length c') rows]) v w' := by
  subst hn_inp; exact numbers_calls h_inp h1 h2

theorem rnumbers_calls {w : World} {A_inp : Option Addr} {n_inp c_inp : Nat} {inp : List (SV × List Ln)} (h_inp : St No w (RdRR eL (.slice A_inp n_inp c_inp) inp)) (hn_inp : inp.length = n_inp) (h1 : inp.length ≤ 1000) (h2 : ∀ p ∈ inp, p.2.length ≤ 1000) :
    Calls Try.prog 18 #[(.slice A_inp n_inp c_inp)] w fun e w' => ∃ v, e = .returned v ∧ (fun v w' => ∃ (A0' : Option Addr) (c0' : Nat) (rows0' : List (SV × List Int)), v = .slice A0' rows0'.length c0' ∧ rows0'.map (·.2) = nnums [] (inp.map (·.2)) ∧ SH w No w' [rrE eI 49 3 (.slice A0' rows0'.length c0') rows0']) v w' := by
  subst hn_inp
  have hS : SH w No w [] := SH.nil _ _
  refine calls (l := litOf [(.slice A_inp inp.length c_inp)] 0) Try.func18 rfl (n := 70) rfl (Nat.le_of_ble_eq_true rfl) (lit_args _) ?_
  refine WC.seq ?_
  refine WC.region ?_
  refine WL.lv rfl (LV.asg rfl) ?_
  refine WL.nil (thenQ.n ?_)
  refine WC.seq ?_
  refine WC.region ?_
  refine WL.xe rfl (XE.buildSlice (E := eL) [] #[] [] hS Try.underlying24 ti52 rfl (by decide) (by kernel_rfl) (.inr rfl) rfl rfl (by decide)) ?_
  rintro _ w1 ⟨b1, rfl, hS1, hk1⟩
  refine WL.lv rfl (LV.asg rfl) ?_
  refine WL.nil (thenQ.n ?_)
  refine WC.seq ?_
  refine WC.region ?_
  refine WL.xe rfl (XE.buildSlice (E := eV) [] #[] [] hS1 Try.underlying45 ti49 rfl (by decide) (by kernel_rfl) (.inr rfl) rfl rfl (by decide)) ?_
  rintro _ w2 ⟨b2, rfl, hS2, hk2⟩
  have hS3 := SH.rr0 (E := eI) (T1 := 3) hS2
  refine WL.lv rfl (LV.asg rfl) ?_
  refine WL.nil (thenQ.n ?_)
  iterate 2 refine WC.seq ?_
  refine WC.region ?_
  refine WL.lv rfl (LV.asg rfl) ?_
  refine WL.nil (thenQ.n ?_)
  refine WC.block ?_
  refine WC.loop (fun m_ f_ w_ => ∃ (A_known : Option Addr) (c_known : Nat) (known : List Ln) (A_out : Option Addr) (c_out : Nat) (out : List (SV × List Int)) (i : Int), (0 ≤ i) ∧ (i ≤ (inp.length : Int)) ∧ (zipO 0 known = nkvs [] ((inp.map (·.2)).take i.toNat)) ∧ (out.map (·.2) = nnums [] ((inp.map (·.2)).take i.toNat)) ∧ ((out.length : Int) = i) ∧ ((known.length : Int) ≤ 1000 * i) ∧ SH w No w_ [rrE eI 49 3 (.slice A_out out.length c_out) out, rowE eL 52 (.slice A_known known.length c_known) known] ∧ m_ = (((inp.length : Int) - i).toNat) ∧ Weak (lit [(0, (.slice A_inp inp.length c_inp)), (3, (.slice A_known known.length c_known)), (4, (.slice A_out out.length c_out)), (5, (.int .i64 i))]) f_) _ ⟨(some ⟨b1, 0, none⟩), 0, [], (some ⟨b2, 0, none⟩), 0, [], 0, by omega, by omega, rfl, rfl, rfl, (by simp), hS3, rfl, Weak.cons rfl <| Weak.cons rfl <| Weak.cons rfl <| Weak.cons rfl <| Weak.nil _⟩ ?_
  rintro m1 f1 w3 ⟨A_known, c_known, known, A_out, c_out, out, i, ilo, ihi, q1, q2, q3, q4, hL1, rfl, hw1⟩
  refine WC.weak hw1 ?_
  clear hw1
  iterate 2 refine WC.seq ?_
  refine WC.region ?_
  iterate 2 refine WL.lv rfl (LV.mv rfl) ?_
  refine WL.lv rfl (LV.lenL Try.underlying22 rfl) ?_
  refine WL.lv rfl (LV.ltI rfl rfl) ?_
  refine WL.nil (thenQ.n ?_)
  refine WC.condP (p := i < (inp.length : Int)) rfl (fun hi_ => ?_) (fun hi_ => ?_)
  · have hln := h2 (inp.getD (i).toNat default) (getD_mem (by omega))
    refine WC.skip (thenQ.n ?_)
    refine WC.seq ?_
    refine WC.block ?_
    refine WC.seq ?_
    refine WC.region ?_
    refine WL.xe rfl (XE.buildSlice (E := eI) [] #[] [] hL1 Try.underlying49 ti3 rfl (by decide) (by kernel_rfl) (.inr rfl) rfl rfl (by decide)) ?_
    rintro _ w4 ⟨b3, rfl, hS4, hk3⟩
    refine WL.lv rfl (LV.asg rfl) ?_
    refine WL.nil (thenQ.n ?_)
    iterate 2 refine WC.seq ?_
    refine WC.region ?_
    refine WL.lv rfl (LV.asg rfl) ?_
    refine WL.nil (thenQ.n ?_)
    refine WC.block ?_
    refine WC.loop (fun m_ f_ w_ => ∃ (A_known2 : Option Addr) (c_known2 : Nat) (known2 : List Ln) (A_row : Option Addr) (c_row : Nat) (row : List Int) (k : Int), (zipO 0 known2 = nkv (zipO 0 known) ((inp.getD (i).toNat default).2.take k.toNat)) ∧ (row = nnum (zipO 0 known) ((inp.getD (i).toNat default).2.take k.toNat)) ∧ ((row.length : Int) = k) ∧ ((known2.length : Int) ≤ 1000 * i + k) ∧ (0 ≤ k) ∧ (k ≤ ((inp.getD (i).toNat default).2.length : Int)) ∧ SH w No w_ [rowE eI 3 (.slice A_row row.length c_row) row, rrE eI 49 3 (.slice A_out out.length c_out) out, rowE eL 52 (.slice A_known2 known2.length c_known2) known2] ∧ m_ = ((((inp.getD (i).toNat default).2.length : Int) - k).toNat) ∧ Weak (lit [(0, (.slice A_inp inp.length c_inp)), (3, (.slice A_known2 known2.length c_known2)), (4, (.slice A_out out.length c_out)), (5, (.int .i64 i)), (6, (.slice A_row row.length c_row)), (7, (.int .i64 k))]) f_) _ ⟨A_known, c_known, known, (some ⟨b3, 0, none⟩), 0, [], 0, rfl, rfl, rfl, by omega, by omega, by omega, hS4, rfl, Weak.cons rfl <| Weak.cons rfl <| Weak.cons rfl <| Weak.cons rfl <| Weak.cons rfl <| Weak.cons rfl <| Weak.nil _⟩ ?_
    rintro m2 f2 w5 ⟨A_known2, c_known2, known2, A_row, c_row, row, k, r1, r2, r3, r4, klo, khi, hL2, rfl, hw2⟩
    refine WC.weak hw2 ?_
    clear hw2
    iterate 2 refine WC.seq ?_
    refine WC.region ?_
    iterate 3 refine WL.lv rfl (LV.mv rfl) ?_
    obtain ⟨A1, c1, A2, c2, e1, g1, e2, r5⟩ := St.eltRR (SH.stN hL2 h_inp) default i (by omega) (by omega)
    refine WL.lv rfl (LV.idxA Try.underlying22 ti24.sz rfl e1 rfl (by omega) (by omega)) ?_
    refine WL.lv rfl (LV.load1 Try.underlying24 rfl rfl (g1 _ (KB.refl No _))) ?_
    refine WL.lv rfl (LV.lenL Try.underlying24 rfl) ?_
    refine WL.lv rfl (LV.ltI rfl rfl) ?_
    refine WL.nil (thenQ.n ?_)
    refine WC.condP (p := k < ((inp.getD (i).toNat default).2.length : Int)) rfl (fun hk => ?_) (fun hk => ?_)
    · skip
      refine WC.skip (thenQ.n ?_)
      refine WC.seq ?_
      refine WC.block ?_
      refine WC.seq ?_
      refine WC.region ?_
      refine WL.lv rfl (LV.asg rfl) ?_
      refine WL.nil (thenQ.n ?_)
      refine WC.seq ?_
      refine WC.block ?_
      refine WC.loop (fun m_ f_ w_ => ∃ (n : Int), (0 ≤ n) ∧ (n ≤ (known2.length : Int)) ∧ (∀ t : Int, 0 ≤ t → t < n → ¬ (known2.getD t.toNat lnD = (inp.getD (i).toNat default).2.getD k.toNat lnD)) ∧ SH w No w_ [rowE eI 3 (.slice A_row row.length c_row) row, rrE eI 49 3 (.slice A_out out.length c_out) out, rowE eL 52 (.slice A_known2 known2.length c_known2) known2] ∧ m_ = (((known2.length : Int) - n).toNat) ∧ Weak (lit [(0, (.slice A_inp inp.length c_inp)), (3, (.slice A_known2 known2.length c_known2)), (4, (.slice A_out out.length c_out)), (5, (.int .i64 i)), (6, (.slice A_row row.length c_row)), (7, (.int .i64 k)), (8, (.int .i64 n))]) f_) _ ⟨0, by omega, by omega, (fun t h1_ h2_ => by omega), hL2, rfl, Weak.cons rfl <| Weak.cons rfl <| Weak.cons rfl <| Weak.cons rfl <| Weak.cons rfl <| Weak.cons rfl <| Weak.cons rfl <| Weak.nil _⟩ ?_
      rintro m3 f3 w6 ⟨n, nlo, nhi, s1, hL3, rfl, hw3⟩
      refine WC.weak hw3 ?_
      clear hw3
      iterate 2 refine WC.seq ?_
      have hS5 := SH.drew hL3
      refine WC.regionD [] (fun w_ => KB No w6.drew w_) [(.pure, 0), (.pure, 1), (.pure, 2), (.pure, 3), (.pure, 4), (.pure, 5), (.pure, 6), (.pure, 7), (.look, 8), (.pure, 9), (.pure, 10), (.pure, 11), (.look, 12), (.pure, 13), (.pure, 14), (.look, 15), (.pure, 16), (.pure, 17)] (by kernel_rfl) (by kernel_rfl) (KB.refl _ _) ?_
      iterate 2 refine WS.pure rfl rfl (fun _ => LV.mv rfl) ?_
      refine WS.pure rfl rfl (fun _ => LV.lenL Try.underlying24 rfl) ?_
      rcases Decidable.em (n < (known2.length : Int)) with hg1 | hg1
      · refine WS.pure rfl rfl (fun _ => LV.as (LV.ltI rfl rfl) (decide_eq_true hg1)) ?_
        iterate 3 refine WS.pure rfl rfl (fun _ => LV.mv rfl) ?_
        obtain ⟨A3, c3, e3, g2⟩ := St.elt (SH.rd hS5 (.tail _ (.tail _ (.head _)))) lnD n (by omega) (by omega)
        refine WS.pure rfl rfl (fun _ => LV.idxA Try.underlying24 ti52.sz rfl e3 rfl (by omega) (by omega)) ?_
        refine WS.look rfl rfl (fun _ hk_ => LV.loadAgg (cs := [(.string ((known2.getD (n).toNat lnD).1)), (.bool ((known2.getD (n).toNat lnD).2))]) Try.underlying52 rfl ti52 rfl rfl (fun j u hu => g2 _ hk_ j u hu)) ?_
        iterate 2 refine WS.pure rfl rfl (fun _ => LV.mv rfl) ?_
        obtain ⟨A4, c4, A5, c5, e4, g3, e5, r6⟩ := St.eltRR (SH.stN hS5 h_inp) default i (by omega) (by omega)
        refine WS.pure rfl rfl (fun _ => LV.idxA Try.underlying22 ti24.sz rfl e4 rfl (by omega) (by omega)) ?_
        refine WS.look rfl rfl (fun _ hk_ => LV.load1 Try.underlying24 rfl rfl (g3 _ hk_)) ?_
        refine WS.pure rfl rfl (fun _ => LV.mv rfl) ?_
        obtain ⟨A6, c6, e6, g4⟩ := St.elt (St.inner (SH.stN hS5 h_inp) (getD_mem (by omega)) e5) lnD k (by omega) (by omega)
        refine WS.pure rfl rfl (fun _ => LV.idxA Try.underlying24 ti52.sz rfl e6 rfl (by omega) (by omega)) ?_
        refine WS.look rfl rfl (fun _ hk_ => LV.loadAgg (cs := [(.string ((((inp.getD (i).toNat default).2).getD (k).toNat lnD).1)), (.bool ((((inp.getD (i).toNat default).2).getD (k).toNat lnD).2))]) Try.underlying52 rfl ti52 rfl rfl (fun j u hu => g4 _ hk_ j u hu)) ?_
        refine WS.pure rfl rfl (fun _ => LV.neLn Try.underlying52 Try.underlying9 Try.underlying4 (by decide) (by kernel_rfl) (by kernel_rfl) rfl rfl) ?_
        refine WS.pure rfl rfl (fun _ => LV.pickT rfl rfl) ?_
        refine WS.nil (thenQ.n ?_)
        refine WC.condP (p := ¬ (((known2.getD (n).toNat lnD).1) = ((((inp.getD (i).toNat default).2).getD (k).toNat lnD).1) ∧ ((known2.getD (n).toNat lnD).2) = ((((inp.getD (i).toNat default).2).getD (k).toNat lnD).2))) rfl (fun hc44 => ?_) (fun hc44 => ?_)
        · skip
          refine WC.skip (thenQ.n ?_)
          refine WC.block ?_
          refine WC.region ?_
          refine WL.lv rfl (LV.mv rfl) ?_
          refine WL.lv rfl (LV.add rfl rfl (wr64 (by omega) (by omega))) ?_
          refine WL.lv rfl (LV.asg rfl) ?_
          refine WL.nil (blockQ.n <| thenQ.n ?_)
          exact ⟨_, by omega, n + 1, by omega, by omega, (all_step (p := fun t => ¬ (known2.getD t.toNat lnD = (inp.getD (i).toNat default).2.getD k.toNat lnD)) s1 (fun h_ => hc44 ⟨by rw [h_], by rw [h_]⟩)), hS5, rfl, Weak.cons rfl <| Weak.cons rfl <| Weak.cons rfl <| Weak.cons rfl <| Weak.cons rfl <| Weak.cons rfl <| Weak.cons rfl <| Weak.nil _⟩
        · skip
          refine WC.exit (thenQ.x <| thenQ.x <| blockQ.hit <| thenQ.n ?_)
          iterate 2 refine WC.seq ?_
          refine WC.region ?_
          iterate 2 refine WL.lv rfl (LV.mv rfl) ?_
          refine WL.lv rfl (LV.lenL Try.underlying24 rfl) ?_
          refine WL.lv rfl (LV.eqI rfl rfl) ?_
          refine WL.nil (thenQ.n ?_)
          refine WC.condP (p := n = (known2.length : Int)) rfl (fun hc50 => ?_) (fun hc50 => ?_)
          · skip
            refine WC.region ?_
            iterate 3 refine WL.lv rfl (LV.mv rfl) ?_
            obtain ⟨A7, c7, A8, c8, e7, g5, e8, r7⟩ := St.eltRR (SH.stN hS5 h_inp) default i (by omega) (by omega)
            refine WL.lv rfl (LV.idxA Try.underlying22 ti24.sz rfl e7 rfl (by omega) (by omega)) ?_
            refine WL.lv rfl (LV.load1 Try.underlying24 rfl rfl (g5 _ (KB.refl No _))) ?_
            refine WL.lv rfl (LV.mv rfl) ?_
            obtain ⟨A9, c9, e9, g6⟩ := St.elt (St.inner (SH.stN hS5 h_inp) (getD_mem (by omega)) e8) lnD k (by omega) (by omega)
            refine WL.lv rfl (LV.idxA Try.underlying24 ti52.sz rfl e9 rfl (by omega) (by omega)) ?_
            refine WL.lv rfl (LV.loadAgg (cs := [(.string ((((inp.getD (i).toNat default).2).getD (k).toNat lnD).1)), (.bool ((((inp.getD (i).toNat default).2).getD (k).toNat lnD).2))]) Try.underlying52 rfl ti52 rfl rfl (fun j u hu => g6 _ (KB.refl No _) j u hu)) ?_
            refine WL.xe rfl (XE.buildSlice (E := eL) [(0, (.agg #[(.string ((((inp.getD (i).toNat default).2).getD (k).toNat lnD).1)), (.bool ((((inp.getD (i).toNat default).2).getD (k).toNat lnD).2))]))] #[(.string ((((inp.getD (i).toNat default).2).getD (k).toNat lnD).1)), (.bool ((((inp.getD (i).toNat default).2).getD (k).toNat lnD).2))] [((inp.getD (i).toNat default).2).getD (k).toNat lnD] hS5 Try.underlying24 ti52 rfl (by decide) (by kernel_rfl) (.inr rfl) rfl rfl (by decide)) ?_
            rintro _ w7 ⟨b4, rfl, hS6, hk4⟩
            have hS7 : SH w No w7 [rowE eL 52 (.slice A_known2 known2.length c_known2) known2, rowE eL 52 (.slice (some ⟨b4, 0, none⟩) 1 1) [((inp.getD (i).toNat default).2).getD (k).toNat lnD], rowE eI 3 (.slice A_row row.length c_row) row, rrE eI 49 3 (.slice A_out out.length c_out) out] := (SH.front [_, _, _] hS6)
            refine WL.xe rfl (XE.append hS7 Try.underlying24 ti52 rfl (St.now (SH.rd hS7 (.tail _ (.head _)))) rfl rfl (by first | omega | simp only [List.length_append, List.length_cons, List.length_nil, List.length_take, List.length_reverse, List.length_drop] at *; omega) (by first | omega | simp only [List.length_append, List.length_cons, List.length_nil, List.length_take, List.length_reverse, List.length_drop] at *; omega)) ?_
            rintro _ w8 ⟨A10, c10, rfl, hS8, hk5⟩
            refine WL.lv rfl (LV.asg rfl) ?_
            refine WL.nil (thenQ.n ?_)
            refine WC.region ?_
            iterate 2 refine WL.lv rfl (LV.mv rfl) ?_
            refine WL.xe rfl (XE.buildSlice (E := eI) [(0, (.int .i64 n))] #[(.int .i64 n)] [n] hS8 Try.underlying49 ti3 rfl (by decide) (by kernel_rfl) (.inr rfl) rfl rfl (by decide)) ?_
            rintro _ w9 ⟨b5, rfl, hS9, hk6⟩
            have hS10 : SH w No w9 [rowE eI 3 (.slice A_row row.length c_row) row, rowE eI 3 (.slice (some ⟨b5, 0, none⟩) 1 1) [n], rowE eL 52 (.slice A10 ((known2 ++ [((inp.getD (i).toNat default).2).getD (k).toNat lnD]).length) c10) (known2 ++ [((inp.getD (i).toNat default).2).getD (k).toNat lnD]), rowE eL 52 (.slice (some ⟨b4, 0, none⟩) 1 1) [((inp.getD (i).toNat default).2).getD (k).toNat lnD], rrE eI 49 3 (.slice A_out out.length c_out) out] := (SH.front [_, _, _] hS9)
            refine WL.xe rfl (XE.append hS10 Try.underlying49 ti3 rfl (St.now (SH.rd hS10 (.tail _ (.head _)))) rfl rfl (by first | omega | simp only [List.length_append, List.length_cons, List.length_nil, List.length_take, List.length_reverse, List.length_drop] at *; omega) (by first | omega | simp only [List.length_append, List.length_cons, List.length_nil, List.length_take, List.length_reverse, List.length_drop] at *; omega)) ?_
            rintro _ w10 ⟨A11, c11, rfl, hS11, hk7⟩
            refine WL.lv rfl (LV.asg rfl) ?_
            refine WL.nil (blockQ.n <| thenQ.n ?_)
            refine WC.region ?_
            refine WL.lv rfl (LV.mv rfl) ?_
            refine WL.lv rfl (LV.add rfl rfl (wr64 (by omega) (by omega))) ?_
            refine WL.lv rfl (LV.asg rfl) ?_
            refine WL.nil (thenQ.n ?_)
            have hS12 : SH w No w10 [rowE eI 3 (.slice A11 ((row ++ [n]).length) c11) (row ++ [n]), rrE eI 49 3 (.slice A_out out.length c_out) out, rowE eL 52 (.slice A10 ((known2 ++ [((inp.getD (i).toNat default).2).getD (k).toNat lnD]).length) c10) (known2 ++ [((inp.getD (i).toNat default).2).getD (k).toNat lnD])] := (SH.take 3 rfl (SH.front [_, _] (SH.front [_, _, _, _] (SH.front [_, _] hS11))))
            have hst_ := rn_step klo hk r1 r2 s1 nlo nhi (fun _ => Prod.ext (Decidable.not_not.1 hc44).1 (Decidable.not_not.1 hc44).2)
            rw [if_pos hc50] at hst_
            exact ⟨_, by omega, A10, c10, (known2 ++ [((inp.getD (i).toNat default).2).getD (k).toNat lnD]), A11, c11, (row ++ [n]), k + 1, hst_.1, hst_.2, (by simp; omega), (by first | omega | (simp; omega)), by omega, by omega, hS12, rfl, Weak.cons rfl <| Weak.cons rfl <| Weak.cons rfl <| Weak.cons rfl <| Weak.cons rfl <| Weak.cons rfl <| Weak.nil _⟩
          · skip
            refine WC.skip (thenQ.n ?_)
            refine WC.region ?_
            iterate 2 refine WL.lv rfl (LV.mv rfl) ?_
            refine WL.xe rfl (XE.buildSlice (E := eI) [(0, (.int .i64 n))] #[(.int .i64 n)] [n] hS5 Try.underlying49 ti3 rfl (by decide) (by kernel_rfl) (.inr rfl) rfl rfl (by decide)) ?_
            rintro _ w11 ⟨b6, rfl, hS13, hk8⟩
            have hS14 : SH w No w11 [rowE eI 3 (.slice A_row row.length c_row) row, rowE eI 3 (.slice (some ⟨b6, 0, none⟩) 1 1) [n], rrE eI 49 3 (.slice A_out out.length c_out) out, rowE eL 52 (.slice A_known2 known2.length c_known2) known2] := (SH.front [_] hS13)
            refine WL.xe rfl (XE.append hS14 Try.underlying49 ti3 rfl (St.now (SH.rd hS14 (.tail _ (.head _)))) rfl rfl (by first | omega | simp only [List.length_append, List.length_cons, List.length_nil, List.length_take, List.length_reverse, List.length_drop] at *; omega) (by first | omega | simp only [List.length_append, List.length_cons, List.length_nil, List.length_take, List.length_reverse, List.length_drop] at *; omega)) ?_
            rintro _ w12 ⟨A12, c12, rfl, hS15, hk9⟩
            refine WL.lv rfl (LV.asg rfl) ?_
            refine WL.nil (blockQ.n <| thenQ.n ?_)
            refine WC.region ?_
            refine WL.lv rfl (LV.mv rfl) ?_
            refine WL.lv rfl (LV.add rfl rfl (wr64 (by omega) (by omega))) ?_
            refine WL.lv rfl (LV.asg rfl) ?_
            refine WL.nil (thenQ.n ?_)
            have hS16 : SH w No w12 [rowE eI 3 (.slice A12 ((row ++ [n]).length) c12) (row ++ [n]), rrE eI 49 3 (.slice A_out out.length c_out) out, rowE eL 52 (.slice A_known2 known2.length c_known2) known2] := (SH.take 3 rfl (SH.front [_, _] (SH.front [_, _, _] (SH.front [_, _, _] hS15))))
            have hst_ := rn_step klo hk r1 r2 s1 nlo nhi (fun _ => Prod.ext (Decidable.not_not.1 hc44).1 (Decidable.not_not.1 hc44).2)
            rw [if_neg hc50] at hst_
            exact ⟨_, by omega, A_known2, c_known2, known2, A12, c12, (row ++ [n]), k + 1, hst_.1, hst_.2, (by simp; omega), (by first | omega | (simp; omega)), by omega, by omega, hS16, rfl, Weak.cons rfl <| Weak.cons rfl <| Weak.cons rfl <| Weak.cons rfl <| Weak.cons rfl <| Weak.cons rfl <| Weak.nil _⟩
      · refine WS.pure rfl rfl (fun _ => LV.as (LV.ltI rfl rfl) (decide_eq_false hg1)) ?_
        refine WS.pure rfl rfl (fun _ => LV.mv rfl) ?_
        iterate 3 refine WS.off rfl rfl ?_
        refine WS.offL rfl rfl ?_
        iterate 3 refine WS.off rfl rfl ?_
        refine WS.offL rfl rfl ?_
        iterate 2 refine WS.off rfl rfl ?_
        refine WS.offL rfl rfl ?_
        refine WS.off rfl rfl ?_
        refine WS.pure rfl rfl (fun _ => LV.pickF rfl rfl) ?_
        refine WS.nil (thenQ.n ?_)
        refine WC.condF rfl ?_
        refine WC.exit (thenQ.x <| thenQ.x <| blockQ.hit <| thenQ.n ?_)
        iterate 2 refine WC.seq ?_
        refine WC.region ?_
        iterate 2 refine WL.lv rfl (LV.mv rfl) ?_
        refine WL.lv rfl (LV.lenL Try.underlying24 rfl) ?_
        refine WL.lv rfl (LV.eqI rfl rfl) ?_
        refine WL.nil (thenQ.n ?_)
        refine WC.condP (p := n = (known2.length : Int)) rfl (fun hc50 => ?_) (fun hc50 => ?_)
        · skip
          refine WC.region ?_
          iterate 3 refine WL.lv rfl (LV.mv rfl) ?_
          obtain ⟨A13, c13, A14, c14, e10, g7, e11, r8⟩ := St.eltRR (SH.stN hS5 h_inp) default i (by omega) (by omega)
          refine WL.lv rfl (LV.idxA Try.underlying22 ti24.sz rfl e10 rfl (by omega) (by omega)) ?_
          refine WL.lv rfl (LV.load1 Try.underlying24 rfl rfl (g7 _ (KB.refl No _))) ?_
          refine WL.lv rfl (LV.mv rfl) ?_
          obtain ⟨A15, c15, e12, g8⟩ := St.elt (St.inner (SH.stN hS5 h_inp) (getD_mem (by omega)) e11) lnD k (by omega) (by omega)
          refine WL.lv rfl (LV.idxA Try.underlying24 ti52.sz rfl e12 rfl (by omega) (by omega)) ?_
          refine WL.lv rfl (LV.loadAgg (cs := [(.string ((((inp.getD (i).toNat default).2).getD (k).toNat lnD).1)), (.bool ((((inp.getD (i).toNat default).2).getD (k).toNat lnD).2))]) Try.underlying52 rfl ti52 rfl rfl (fun j u hu => g8 _ (KB.refl No _) j u hu)) ?_
          refine WL.xe rfl (XE.buildSlice (E := eL) [(0, (.agg #[(.string ((((inp.getD (i).toNat default).2).getD (k).toNat lnD).1)), (.bool ((((inp.getD (i).toNat default).2).getD (k).toNat lnD).2))]))] #[(.string ((((inp.getD (i).toNat default).2).getD (k).toNat lnD).1)), (.bool ((((inp.getD (i).toNat default).2).getD (k).toNat lnD).2))] [((inp.getD (i).toNat default).2).getD (k).toNat lnD] hS5 Try.underlying24 ti52 rfl (by decide) (by kernel_rfl) (.inr rfl) rfl rfl (by decide)) ?_
          rintro _ w13 ⟨b7, rfl, hS17, hk10⟩
          have hS18 : SH w No w13 [rowE eL 52 (.slice A_known2 known2.length c_known2) known2, rowE eL 52 (.slice (some ⟨b7, 0, none⟩) 1 1) [((inp.getD (i).toNat default).2).getD (k).toNat lnD], rowE eI 3 (.slice A_row row.length c_row) row, rrE eI 49 3 (.slice A_out out.length c_out) out] := (SH.front [_, _, _] hS17)
          refine WL.xe rfl (XE.append hS18 Try.underlying24 ti52 rfl (St.now (SH.rd hS18 (.tail _ (.head _)))) rfl rfl (by first | omega | simp only [List.length_append, List.length_cons, List.length_nil, List.length_take, List.length_reverse, List.length_drop] at *; omega) (by first | omega | simp only [List.length_append, List.length_cons, List.length_nil, List.length_take, List.length_reverse, List.length_drop] at *; omega)) ?_
          rintro _ w14 ⟨A16, c16, rfl, hS19, hk11⟩
          refine WL.lv rfl (LV.asg rfl) ?_
          refine WL.nil (thenQ.n ?_)
          refine WC.region ?_
          iterate 2 refine WL.lv rfl (LV.mv rfl) ?_
          refine WL.xe rfl (XE.buildSlice (E := eI) [(0, (.int .i64 n))] #[(.int .i64 n)] [n] hS19 Try.underlying49 ti3 rfl (by decide) (by kernel_rfl) (.inr rfl) rfl rfl (by decide)) ?_
          rintro _ w15 ⟨b8, rfl, hS20, hk12⟩
          have hS21 : SH w No w15 [rowE eI 3 (.slice A_row row.length c_row) row, rowE eI 3 (.slice (some ⟨b8, 0, none⟩) 1 1) [n], rowE eL 52 (.slice A16 ((known2 ++ [((inp.getD (i).toNat default).2).getD (k).toNat lnD]).length) c16) (known2 ++ [((inp.getD (i).toNat default).2).getD (k).toNat lnD]), rowE eL 52 (.slice (some ⟨b7, 0, none⟩) 1 1) [((inp.getD (i).toNat default).2).getD (k).toNat lnD], rrE eI 49 3 (.slice A_out out.length c_out) out] := (SH.front [_, _, _] hS20)
          refine WL.xe rfl (XE.append hS21 Try.underlying49 ti3 rfl (St.now (SH.rd hS21 (.tail _ (.head _)))) rfl rfl (by first | omega | simp only [List.length_append, List.length_cons, List.length_nil, List.length_take, List.length_reverse, List.length_drop] at *; omega) (by first | omega | simp only [List.length_append, List.length_cons, List.length_nil, List.length_take, List.length_reverse, List.length_drop] at *; omega)) ?_
          rintro _ w16 ⟨A17, c17, rfl, hS22, hk13⟩
          refine WL.lv rfl (LV.asg rfl) ?_
          refine WL.nil (blockQ.n <| thenQ.n ?_)
          refine WC.region ?_
          refine WL.lv rfl (LV.mv rfl) ?_
          refine WL.lv rfl (LV.add rfl rfl (wr64 (by omega) (by omega))) ?_
          refine WL.lv rfl (LV.asg rfl) ?_
          refine WL.nil (thenQ.n ?_)
          have hS23 : SH w No w16 [rowE eI 3 (.slice A17 ((row ++ [n]).length) c17) (row ++ [n]), rrE eI 49 3 (.slice A_out out.length c_out) out, rowE eL 52 (.slice A16 ((known2 ++ [((inp.getD (i).toNat default).2).getD (k).toNat lnD]).length) c16) (known2 ++ [((inp.getD (i).toNat default).2).getD (k).toNat lnD])] := (SH.take 3 rfl (SH.front [_, _] (SH.front [_, _, _, _] (SH.front [_, _] hS22))))
          have hst_ := rn_step klo hk r1 r2 s1 nlo nhi (fun h_ => by omega)
          rw [if_pos hc50] at hst_
          exact ⟨_, by omega, A16, c16, (known2 ++ [((inp.getD (i).toNat default).2).getD (k).toNat lnD]), A17, c17, (row ++ [n]), k + 1, hst_.1, hst_.2, (by simp; omega), (by first | omega | (simp; omega)), by omega, by omega, hS23, rfl, Weak.cons rfl <| Weak.cons rfl <| Weak.cons rfl <| Weak.cons rfl <| Weak.cons rfl <| Weak.cons rfl <| Weak.nil _⟩
        · skip
          refine WC.skip (thenQ.n ?_)
          refine WC.region ?_
          iterate 2 refine WL.lv rfl (LV.mv rfl) ?_
          refine WL.xe rfl (XE.buildSlice (E := eI) [(0, (.int .i64 n))] #[(.int .i64 n)] [n] hS5 Try.underlying49 ti3 rfl (by decide) (by kernel_rfl) (.inr rfl) rfl rfl (by decide)) ?_
          rintro _ w17 ⟨b9, rfl, hS24, hk14⟩
          have hS25 : SH w No w17 [rowE eI 3 (.slice A_row row.length c_row) row, rowE eI 3 (.slice (some ⟨b9, 0, none⟩) 1 1) [n], rrE eI 49 3 (.slice A_out out.length c_out) out, rowE eL 52 (.slice A_known2 known2.length c_known2) known2] := (SH.front [_] hS24)
          refine WL.xe rfl (XE.append hS25 Try.underlying49 ti3 rfl (St.now (SH.rd hS25 (.tail _ (.head _)))) rfl rfl (by first | omega | simp only [List.length_append, List.length_cons, List.length_nil, List.length_take, List.length_reverse, List.length_drop] at *; omega) (by first | omega | simp only [List.length_append, List.length_cons, List.length_nil, List.length_take, List.length_reverse, List.length_drop] at *; omega)) ?_
          rintro _ w18 ⟨A18, c18, rfl, hS26, hk15⟩
          refine WL.lv rfl (LV.asg rfl) ?_
          refine WL.nil (blockQ.n <| thenQ.n ?_)
          refine WC.region ?_
          refine WL.lv rfl (LV.mv rfl) ?_
          refine WL.lv rfl (LV.add rfl rfl (wr64 (by omega) (by omega))) ?_
          refine WL.lv rfl (LV.asg rfl) ?_
          refine WL.nil (thenQ.n ?_)
          have hS27 : SH w No w18 [rowE eI 3 (.slice A18 ((row ++ [n]).length) c18) (row ++ [n]), rrE eI 49 3 (.slice A_out out.length c_out) out, rowE eL 52 (.slice A_known2 known2.length c_known2) known2] := (SH.take 3 rfl (SH.front [_, _] (SH.front [_, _, _] (SH.front [_, _, _] hS26))))
          have hst_ := rn_step klo hk r1 r2 s1 nlo nhi (fun h_ => by omega)
          rw [if_neg hc50] at hst_
          exact ⟨_, by omega, A_known2, c_known2, known2, A18, c18, (row ++ [n]), k + 1, hst_.1, hst_.2, (by simp; omega), (by first | omega | (simp; omega)), by omega, by omega, hS27, rfl, Weak.cons rfl <| Weak.cons rfl <| Weak.cons rfl <| Weak.cons rfl <| Weak.cons rfl <| Weak.cons rfl <| Weak.nil _⟩
    · skip
      refine WC.exit (thenQ.x <| thenQ.x <| blockQ.hit <| thenQ.n ?_)
      refine WC.region ?_
      iterate 2 refine WL.lv rfl (LV.mv rfl) ?_
      refine WL.xe rfl (XE.buildSlice (E := eV) [(0, (.slice A_row row.length c_row))] #[(.slice A_row row.length c_row)] [(⟨A_row, row.length, c_row⟩ : SV)] hL2 Try.underlying45 ti49 rfl (by decide) (by kernel_rfl) (.inr rfl) rfl rfl (by decide)) ?_
      rintro _ w19 ⟨b10, rfl, hS28, hk16⟩
      have hS29 : SH w No w19 [rowE eI 3 (.slice A_row row.length c_row) row, rowE eV 49 (.slice (some ⟨b10, 0, none⟩) 1 1) [(⟨A_row, row.length, c_row⟩ : SV)], rrE eI 49 3 (.slice A_out out.length c_out) out, rowE eL 52 (.slice A_known2 known2.length c_known2) known2] := (SH.front [_] hS28)
      have hS30 : SH w No w19 [rrE eI 49 3 (.slice A_out out.length c_out) out, rowE eI 3 (.slice A_row row.length c_row) row, rowE eV 49 (.slice (some ⟨b10, 0, none⟩) 1 1) [(⟨A_row, row.length, c_row⟩ : SV)], rowE eL 52 (.slice A_known2 known2.length c_known2) known2] := (SH.front [_, _] hS29)
      refine WL.xe rfl (XE.appendRR (sv := (⟨A_row, row.length, c_row⟩ : SV)) hS30 rfl Try.underlying45 ti49 (St.now (SH.rd hS30 (.tail _ (.tail _ (.head _))))) rfl rfl (by omega) (by omega)) ?_
      rintro _ w20 ⟨A19, c19, rfl, hS31, hk17⟩
      refine WL.lv rfl (LV.asg rfl) ?_
      refine WL.nil (blockQ.n <| thenQ.n ?_)
      refine WC.region ?_
      refine WL.lv rfl (LV.mv rfl) ?_
      refine WL.lv rfl (LV.add rfl rfl (wr64 (by omega) (by omega))) ?_
      refine WL.lv rfl (LV.asg rfl) ?_
      refine WL.nil (thenQ.n ?_)
      have hS32 : SH w No w20 [rrE eI 49 3 (.slice A19 ((out ++ [((⟨A_row, row.length, c_row⟩ : SV), row)]).length) c19) (out ++ [((⟨A_row, row.length, c_row⟩ : SV), row)]), rowE eL 52 (.slice A_known2 known2.length c_known2) known2] := (SH.take 2 rfl (SH.front [_] (SH.front [_, _] hS31)))
      exact ⟨_, by omega, A_known2, c_known2, known2, A19, c19, (out ++ [((⟨A_row, row.length, c_row⟩ : SV), row)]), i + 1, by omega, by omega, ((num_fin1 r1 (by omega)).trans (nums_step1 ilo hi_ q1)), (num_fin2 r2 (by omega) ▸ nums_step2 ilo hi_ q1 q2), (by simp; omega), by omega, hS32, rfl, Weak.cons rfl <| Weak.cons rfl <| Weak.cons rfl <| Weak.cons rfl <| Weak.nil _⟩
  · skip
    refine WC.exit (thenQ.x <| thenQ.x <| blockQ.hit <| thenQ.n ?_)
    refine WC.seq ?_
    refine WC.region ?_
    refine WL.lv rfl (LV.mv rfl) ?_
    refine WL.lv rfl (LV.asg rfl) ?_
    refine WL.nil (thenQ.n ?_)
    refine WC.ret (?_)
    have hS33 : SH w No w3 [rrE eI 49 3 (.slice A_out out.length c_out) out] := (SH.take 1 rfl hL1)
    exact ⟨_, fun a ha => res1 rfl ha rfl, _, _, _, rfl, (by rw [q2, List.take_of_length_le (by simp; omega)]), hS33⟩

theorem make8_calls {w : World} {A_a : Option Addr} {n_a c_a : Nat} {a : List Ln} {A_b : Option Addr} {n_b c_b : Nat} {b : List Ln} (h_a : St No w (Rd eL (.slice A_a n_a c_a) a)) (hn_a : a.length = n_a) (h_b : St No w (Rd eL (.slice A_b n_b c_b) b)) (hn_b : b.length = n_b)  :
    Calls Try.prog 16 #[(.slice A_a n_a c_a), (.slice A_b n_b c_b)] w fun e w' => ∃ v, e = .returned v ∧ (fun v w' => ∃ (A0' : Option Addr) (c0' : Nat) (rows0' : List (ED × List Ln)), v = .tuple #[.slice A0' rows0'.length c0', .int .i64 (MKE a b)] ∧ scr rows0' = MKS a b ∧ SH w No w' [rowE eE 64 (.slice A0' rows0'.length c0') (rows0'.map (fun p : ED × List Ln => p.1)), insE (fun p : ED => p.2) eL 52 rows0']) v w' := by
  subst hn_a hn_b
  have hS : SH w No w [] := SH.nil _ _
  refine calls (l := litOf [(.slice A_a a.length c_a), (.slice A_b b.length c_b)] 0) Try.func16 rfl (n := 74) rfl (Nat.le_of_ble_eq_true rfl) (lit_args _) ?_
  refine WC.seq ?_
  refine WC.region ?_
  iterate 2 refine WL.lv rfl (LV.asg rfl) ?_
  refine WL.nil (thenQ.n ?_)
  iterate 2 refine WC.seq ?_
  refine WC.region ?_
  refine WL.lv rfl (LV.mv rfl) ?_
  refine WL.lv rfl (LV.lenL Try.underlying24 rfl) ?_
  rcases Decidable.em ((a.length : Int) > 400) with hg1 | hg1
  · refine WL.lv rfl (LV.as (LV.gtI rfl rfl) (decide_eq_true hg1)) ?_
    refine WL.lv rfl (LV.mv rfl) ?_
    iterate 3 refine WL.off rfl ?_
    refine WL.lv rfl (LV.pickT rfl rfl) ?_
    refine WL.nil (thenQ.n ?_)
    refine WC.condT rfl ?_
    refine WC.seq ?_
    refine WC.region ?_
    iterate 2 refine WL.lv rfl (LV.asg rfl) ?_
    refine WL.nil (thenQ.n ?_)
    refine WC.ret (thenQ.r <| ?_)
    have hS1 := SH.nilRow (E := eE) (T := 64) hS
    have hS2 := SH.ins0 (sv := fun p : ED => p.2) (E := eL) (T1 := 52) hS1
    have hS3 : SH w No w [rowE eE 64 (.slice none 0 0) (([] : List (ED × List Ln)).map (fun p : ED × List Ln => p.1)), insE (fun p : ED => p.2) eL 52 []] := (SH.front [_] hS2)
    exact ⟨_, fun a ha => res2 rfl ha rfl rfl, _, _, [], tup2 rfl (congrArg (Value.int .i64) ((if_pos (by omega)).symm)), (by unfold MKS; rw [if_pos (by omega)]; rfl), hS3⟩
  · refine WL.lv rfl (LV.as (LV.gtI rfl rfl) (decide_eq_false hg1)) ?_
    iterate 2 refine WL.lv rfl (LV.mv rfl) ?_
    refine WL.lv rfl (LV.lenL Try.underlying24 rfl) ?_
    refine WL.lv rfl (LV.gtI rfl rfl) ?_
    refine WL.lv rfl (LV.pickF rfl rfl) ?_
    refine WL.nil (thenQ.n ?_)
    refine WC.condP (p := (b.length : Int) > 400) rfl (fun hc1 => ?_) (fun hc1 => ?_)
    · skip
      refine WC.seq ?_
      refine WC.region ?_
      iterate 2 refine WL.lv rfl (LV.asg rfl) ?_
      refine WL.nil (thenQ.n ?_)
      refine WC.ret (thenQ.r <| ?_)
      have hS4 := SH.nilRow (E := eE) (T := 64) hS
      have hS5 := SH.ins0 (sv := fun p : ED => p.2) (E := eL) (T1 := 52) hS4
      have hS6 : SH w No w [rowE eE 64 (.slice none 0 0) (([] : List (ED × List Ln)).map (fun p : ED × List Ln => p.1)), insE (fun p : ED => p.2) eL 52 []] := (SH.front [_] hS5)
      exact ⟨_, fun a ha => res2 rfl ha rfl rfl, _, _, [], tup2 rfl (congrArg (Value.int .i64) ((if_pos (by omega)).symm)), (by unfold MKS; rw [if_pos (by omega)]; rfl), hS6⟩
    · skip
      refine WC.skip (thenQ.n ?_)
      refine WC.seq ?_
      refine WC.region ?_
      iterate 2 refine WL.lv rfl (LV.mv rfl) ?_
      refine WL.xe rfl (XE.buildSlice (E := eV) [(0, (.slice A_a a.length c_a)), (1, (.slice A_b b.length c_b))] #[(.slice A_a a.length c_a), (.slice A_b b.length c_b)] [(⟨A_a, a.length, c_a⟩ : SV), (⟨A_b, b.length, c_b⟩ : SV)] hS Try.underlying22 ti24 rfl (by decide) (by kernel_rfl) (.inr rfl) rfl rfl (by decide)) ?_
      rintro _ w1 ⟨b1, rfl, hS7, hk1⟩
      refine WL.call rfl (XC.fn Try.func30 (by kernel_rfl) rfl rfl rfl) (numbers_eq  (St.rrOf (rows := [((⟨A_a, a.length, c_a⟩ : SV), a), ((⟨A_b, b.length, c_b⟩ : SV), b)]) (SH.rd hS7 (.head _)) (St.inCons (r := (⟨A_a, a.length, c_a⟩ : SV)) rfl (SH.stN hS7 h_a) (St.inCons (r := (⟨A_b, b.length, c_b⟩ : SV)) rfl (SH.stN hS7 h_b) St.in0))) rfl (by simp) (by intro p hp; simp at hp; rcases hp with rfl | rfl <;> simp only [] <;> omega)) ?_
      rintro v_ w2 ⟨A1, c1, rows1, rfl, hq1, hS8⟩
      have hS9 := SH.joinN hS7 hS8
      have hmt := map_two (x := NA a) (y := NB a b) hq1
      have hra : (rows1.getD (0 : Int).toNat default).2 = NA a := hmt.2.1
      have hrb : (rows1.getD (1 : Int).toNat default).2 = NB a b := hmt.2.2
      have hla := NA_len a
      have hlb := NB_len a b
      have hl1 := hmt.1
      have hlra : (rows1.getD (0 : Int).toNat default).2.length = a.length := by rw [hra]; exact hla
      have hlrb : (rows1.getD (1 : Int).toNat default).2.length = b.length := by rw [hrb]; exact hlb
      refine WL.lv rfl (LV.asg rfl) ?_
      refine WL.nil (thenQ.n ?_)
      refine WC.seq ?_
      refine WC.region ?_
      refine WL.lv rfl (LV.asg rfl) ?_
      refine WL.nil (thenQ.n ?_)
      refine WC.seq ?_
      refine WC.region ?_
      have hS10 := SH.nilRow (E := eE) (T := 64) hS9
      iterate 2 refine WL.lv rfl (LV.asg rfl) ?_
      refine WL.nil (thenQ.n ?_)
      iterate 2 refine WC.seq ?_
      have hS11 := SH.drew hS10
      refine WC.regionD [] (fun w_ => KB No w2.drew w_) [(.pure, 0), (.pure, 1), (.look, 2), (.pure, 3), (.pure, 4), (.look, 5), (.pure, 8), (.forced, 6), (.pure, 7)] (by kernel_rfl) (by kernel_rfl) (KB.refl _ _) ?_
      refine WS.pure rfl rfl (fun _ => LV.mv rfl) ?_
      obtain ⟨A2, c2, A3, c3, e1, g1, e2, r1⟩ := St.eltRR (SH.rdRR hS11 (.tail _ (.head _))) default (0 : Int) (by omega) (by omega)
      refine WS.pure rfl rfl (fun _ => LV.idxA Try.underlying45 ti49.sz rfl e1 rfl (by omega) (by omega)) ?_
      refine WS.look rfl rfl (fun _ hk_ => LV.load1 Try.underlying49 rfl rfl (g1 _ hk_)) ?_
      refine WS.pure rfl rfl (fun _ => LV.mv rfl) ?_
      obtain ⟨A4, c4, A5, c5, e3, g2, e4, r2⟩ := St.eltRR (SH.rdRR hS11 (.tail _ (.head _))) default (1 : Int) (by omega) (by omega)
      refine WS.pure rfl rfl (fun _ => LV.idxA Try.underlying45 ti49.sz rfl e3 rfl (by omega) (by omega)) ?_
      refine WS.look rfl rfl (fun _ hk_ => LV.load1 Try.underlying49 rfl rfl (g2 _ hk_)) ?_
      refine WS.pure rfl rfl (fun _ => LV.mv rfl) ?_
      refine WS.call rfl rfl (XC.fn Try.func31 (by kernel_rfl) rfl rfl rfl) (steps7_eq rfl rfl (St.inner (SH.rdRR hS11 (.tail _ (.head _))) (getD_mem (by omega)) e2) (St.inner (SH.rdRR hS11 (.tail _ (.head _))) (getD_mem (by omega)) e4) rfl rfl) ?_
      rintro v_ w3 ⟨A6, c6, rfl, hS12⟩
      have hS13 := SH.joinN hS11 hS12
      refine ⟨fun h_ => (KB.transN (KB.refl _ _) hS12.kb), ?_⟩
      have hst : (Stp (rows1.getD (0 : Int).toNat default).2 (rows1.getD (1 : Int).toNat default).2) = Stp (NA a) (NB a b) := by rw [hra, hrb]
      have hsl := Stp_len (NA a) (NB a b)
      rw [← hst] at hsl
      refine WS.pure rfl rfl (fun _ => LV.lenL Try.underlying47 rfl) ?_
      refine WS.nil (thenQ.n ?_)
      refine WC.block ?_
      refine WC.loop (fun m_ f_ w_ => ∃ (A_out : Option Addr) (c_out : Nat) (out : List (ED × List Ln)) (i : Int) (j : Int) (ix : Int), (0 ≤ ix) ∧ (ix ≤ ((Stp ((rows1.getD ((0 : Int)).toNat default).2) ((rows1.getD ((1 : Int)).toNat default).2)).length : Int)) ∧ (0 ≤ i) ∧ (i ≤ a.length) ∧ (0 ≤ j) ∧ (j ≤ b.length) ∧ ((Stp (rows1.getD (0 : Int).toNat default).2 (rows1.getD (1 : Int).toNat default).2).drop ix.toNat = Wy (NA a) (NB a b) i j) ∧ (scr out ++ mkE a b ((Stp (rows1.getD (0 : Int).toNat default).2 (rows1.getD (1 : Int).toNat default).2).drop ix.toNat) i j = mkE a b (Stp (rows1.getD (0 : Int).toNat default).2 (rows1.getD (1 : Int).toNat default).2) 0 0) ∧ ((out.length : Int) = ix) ∧ (St No w (RdIn (·.2) eL out)) ∧ SH w No w_ [rowE eI 50 (.slice A6 ((Stp ((rows1.getD ((0 : Int)).toNat default).2) ((rows1.getD ((1 : Int)).toNat default).2)).length) c6) (Stp ((rows1.getD ((0 : Int)).toNat default).2) ((rows1.getD ((1 : Int)).toNat default).2)), rowE eE 64 (.slice A_out out.length c_out) (out.map (fun p : ED × List Ln => p.1)), rrE eI 49 3 (.slice A1 rows1.length c1) rows1, rowE eV 24 (.slice (some ⟨b1, 0, none⟩) 2 2) [(⟨A_a, a.length, c_a⟩ : SV), (⟨A_b, b.length, c_b⟩ : SV)]] ∧ m_ = ((((Stp ((rows1.getD ((0 : Int)).toNat default).2) ((rows1.getD ((1 : Int)).toNat default).2)).length : Int) - ix).toNat) ∧ Weak (lit [(0, (.slice A_a a.length c_a)), (1, (.slice A_b b.length c_b)), (7, (.slice A_out out.length c_out)), (8, (.int .i64 i)), (9, (.int .i64 j)), (30, (.slice A6 ((Stp ((rows1.getD ((0 : Int)).toNat default).2) ((rows1.getD ((1 : Int)).toNat default).2)).length) c6)), (31, (.int .i64 ((Stp ((rows1.getD ((0 : Int)).toNat default).2) ((rows1.getD ((1 : Int)).toNat default).2)).length : Int))), (32, (.int .i64 ix))]) f_) _ ⟨none, 0, [], 0, 0, 0, by omega, by omega, by omega, by omega, by omega, by omega, (hst.trans ((Stp_small (by omega) (by omega)).trans (Wy_00 _ _).symm)), rfl, rfl, St.in0, hS13, rfl, Weak.cons rfl <| Weak.cons rfl <| Weak.cons rfl <| Weak.cons rfl <| Weak.cons rfl <| Weak.cons rfl <| Weak.cons rfl <| Weak.cons rfl <| Weak.nil _⟩ ?_
      rintro m1 f1 w4 ⟨A_out, c_out, out, i, j, ix, ixlo, ixhi, q0, q1, q2, q3, q4, q5, q6, q7, hL1, rfl, hw1⟩
      refine WC.weak hw1 ?_
      clear hw1
      refine WC.seq ?_
      refine WC.region ?_
      refine WL.lv rfl (LV.ltI rfl rfl) ?_
      refine WL.nil (thenQ.n ?_)
      refine WC.seq ?_
      refine WC.condP (p := ix < ((Stp ((rows1.getD ((0 : Int)).toNat default).2) ((rows1.getD ((1 : Int)).toNat default).2)).length : Int)) rfl (fun hk => ?_) (fun hk => ?_)
      · have hcs := makes_case q0 (by omega) q2 (by omega) ixlo hk q4
        refine WC.skip (thenQ.n ?_)
        refine WC.seq ?_
        refine WC.block ?_
        refine WC.seq ?_
        refine WC.region ?_
        obtain ⟨A7, c7, e5, g3⟩ := St.elt (SH.rd hL1 (.head _)) 0 ix (by omega) (by omega)
        refine WL.lv rfl (LV.idxA Try.underlying47 ti50.sz rfl e5 rfl (by omega) (by omega)) ?_
        refine WL.lv rfl (LV.load1 (v := (.int .i64 (gI (Stp ((rows1.getD ((0 : Int)).toNat default).2) ((rows1.getD ((1 : Int)).toNat default).2)) (ix)))) Try.underlying50 rfl rfl (g3 _ (KB.refl No _) 0 _ rfl)) ?_
        refine WL.lv rfl (LV.asg rfl) ?_
        refine WL.nil (thenQ.n ?_)
        refine WC.seq ?_
        refine WC.region ?_
        refine WL.lv rfl (LV.mv rfl) ?_
        refine WL.nil (thenQ.n ?_)
        refine WC.block ?_
        refine WC.seq ?_
        refine WC.block ?_
        refine WC.seq ?_
        refine WC.block ?_
        refine WC.seq ?_
        refine WC.block ?_
        iterate 3 refine WC.seq ?_
        refine WC.region ?_
        refine WL.lv rfl (LV.eqI rfl rfl) ?_
        refine WL.lv rfl (LV.asg rfl) ?_
        refine WL.nil (thenQ.n ?_)
        refine WC.condP (p := (gI (Stp ((rows1.getD ((0 : Int)).toNat default).2) ((rows1.getD ((1 : Int)).toNat default).2)) (ix)) = 3) rfl (fun hc37 => ?_) (fun hc37 => ?_)
        · skip
          refine WC.exit (thenQ.x <| thenQ.x <| blockQ.hit <| thenQ.n ?_)
          iterate 2 refine WC.seq ?_
          refine WC.region ?_
          iterate 5 refine WL.lv rfl (LV.mv rfl) ?_
          refine WL.lv rfl (LV.add rfl rfl (wr64 (by omega) (by omega))) ?_
          refine WL.lv rfl (LV.mv rfl) ?_
          refine WL.lv rfl (LV.add rfl rfl (wr64 (by omega) (by omega))) ?_
          have hcap1 : b.length ≤ c_b := (Rd.cap (St.now (SH.stN hL1 h_b)))
          refine WL.lv rfl (LV.cut Try.underlying24 ti52.sz rfl rfl rfl rfl ⟨.inr ⟨.i64, by rw [Int.toNat_of_nonneg (a := j) (by omega)] <;> rfl⟩, .inr ⟨.i64, by rw [Int.toNat_of_nonneg (a := j + 1) (by omega)] <;> rfl⟩, .inr ⟨.i64, by rw [Int.toNat_of_nonneg (a := j + 1) (by omega)] <;> rfl⟩⟩ (by omega) (by omega) (by omega)) ?_
          refine WL.lv rfl (LV.build (vs := [(0, (.int .i64 (gI (Stp ((rows1.getD ((0 : Int)).toNat default).2) ((rows1.getD ((1 : Int)).toNat default).2)) (ix)))), (1, (.slice (if (j + 1).toNat = (j).toNat then A_b else A_b.map (·.add ((j).toNat * 2))) ((j + 1).toNat - (j).toNat) ((j + 1).toNat - (j).toNat)))]) (places := #[(0, 1), (1, 1)]) (cs := #[(.int .i64 (gI (Stp ((rows1.getD ((0 : Int)).toNat default).2) ((rows1.getD ((1 : Int)).toNat default).2)) (ix))), (.slice (if (j + 1).toNat = (j).toNat then A_b else A_b.map (·.add ((j).toNat * 2))) ((j + 1).toNat - (j).toNat) ((j + 1).toNat - (j).toNat))]) Try.underlying64 ti64 (fun _ => by kernel_rfl) rfl rfl) ?_
          refine WL.xe rfl (XE.buildSlice (E := eE) [(0, (.agg #[(.int .i64 (gI (Stp ((rows1.getD ((0 : Int)).toNat default).2) ((rows1.getD ((1 : Int)).toNat default).2)) (ix))), (.slice (if (j + 1).toNat = (j).toNat then A_b else A_b.map (·.add ((j).toNat * 2))) ((j + 1).toNat - (j).toNat) ((j + 1).toNat - (j).toNat))]))] #[(.int .i64 (gI (Stp ((rows1.getD ((0 : Int)).toNat default).2) ((rows1.getD ((1 : Int)).toNat default).2)) (ix))), (.slice (if (j + 1).toNat = (j).toNat then A_b else A_b.map (·.add ((j).toNat * 2))) ((j + 1).toNat - (j).toNat) ((j + 1).toNat - (j).toNat))] [(gI (Stp ((rows1.getD ((0 : Int)).toNat default).2) ((rows1.getD ((1 : Int)).toNat default).2)) (ix), (⟨(if (j + 1).toNat = (j).toNat then A_b else A_b.map (·.add ((j).toNat * 2))), ((j + 1).toNat - (j).toNat), ((j + 1).toNat - (j).toNat)⟩ : SV))] hL1 Try.underlying41 ti64 rfl (by decide) (by kernel_rfl) (.inr rfl) rfl rfl (by decide)) ?_
          rintro _ w5 ⟨b2, rfl, hS14, hk2⟩
          have hS15 : SH w No w5 [rowE eE 64 (.slice A_out out.length c_out) (out.map (fun p : ED × List Ln => p.1)), rowE eE 64 (.slice (some ⟨b2, 0, none⟩) 1 1) [(gI (Stp ((rows1.getD ((0 : Int)).toNat default).2) ((rows1.getD ((1 : Int)).toNat default).2)) (ix), (⟨(if (j + 1).toNat = (j).toNat then A_b else A_b.map (·.add ((j).toNat * 2))), ((j + 1).toNat - (j).toNat), ((j + 1).toNat - (j).toNat)⟩ : SV))], rowE eI 50 (.slice A6 ((Stp ((rows1.getD ((0 : Int)).toNat default).2) ((rows1.getD ((1 : Int)).toNat default).2)).length) c6) (Stp ((rows1.getD ((0 : Int)).toNat default).2) ((rows1.getD ((1 : Int)).toNat default).2)), rrE eI 49 3 (.slice A1 rows1.length c1) rows1, rowE eV 24 (.slice (some ⟨b1, 0, none⟩) 2 2) [(⟨A_a, a.length, c_a⟩ : SV), (⟨A_b, b.length, c_b⟩ : SV)]] := (SH.front [_, _] hS14)
          refine WL.xe rfl (XE.appendQ (rows := out) (r := (gI (Stp ((rows1.getD ((0 : Int)).toNat default).2) ((rows1.getD ((1 : Int)).toNat default).2)) (ix), (⟨(if (j + 1).toNat = (j).toNat then A_b else A_b.map (·.add ((j).toNat * 2))), ((j + 1).toNat - (j).toNat), ((j + 1).toNat - (j).toNat)⟩ : SV))) ((b.take ((j + 1).toNat)).drop ((j).toNat)) hS15 Try.underlying41 ti64 rfl (St.now (SH.rd hS15 (.tail _ (.head _)))) rfl rfl (by first | omega | (simp; omega)) (by first | omega | (simp; omega))) ?_
          rintro _ w6 ⟨A8, c8, rfl, hS16, hk3⟩
          refine WL.lv rfl (LV.asg rfl) ?_
          refine WL.nil (thenQ.n ?_)
          refine WC.region ?_
          refine WL.lv rfl (LV.mv rfl) ?_
          refine WL.lv rfl (LV.add rfl rfl (wr64 (by omega) (by omega))) ?_
          refine WL.lv rfl (LV.asg rfl) ?_
          refine WL.nil (thenQ.n ?_)
          refine WC.exit (blockQ.miss rfl <| thenQ.x <| blockQ.miss rfl <| thenQ.x <| blockQ.hit <| blockQ.n <| thenQ.n ?_)
          refine WC.region ?_
          refine WL.lv rfl (LV.add rfl rfl (wr64 (by omega) (by omega))) ?_
          refine WL.lv rfl (LV.mv rfl) ?_
          refine WL.nil (thenQ.n ?_)
          have hS17 : SH w No w6 [rowE eI 50 (.slice A6 ((Stp ((rows1.getD ((0 : Int)).toNat default).2) ((rows1.getD ((1 : Int)).toNat default).2)).length) c6) (Stp ((rows1.getD ((0 : Int)).toNat default).2) ((rows1.getD ((1 : Int)).toNat default).2)), rowE eE 64 (.slice A8 ((out ++ [((gI (Stp ((rows1.getD ((0 : Int)).toNat default).2) ((rows1.getD ((1 : Int)).toNat default).2)) (ix), (⟨(if (j + 1).toNat = (j).toNat then A_b else A_b.map (·.add ((j).toNat * 2))), ((j + 1).toNat - (j).toNat), ((j + 1).toNat - (j).toNat)⟩ : SV)), ((b.take ((j + 1).toNat)).drop ((j).toNat)))]).length) c8) ((out ++ [((gI (Stp ((rows1.getD ((0 : Int)).toNat default).2) ((rows1.getD ((1 : Int)).toNat default).2)) (ix), (⟨(if (j + 1).toNat = (j).toNat then A_b else A_b.map (·.add ((j).toNat * 2))), ((j + 1).toNat - (j).toNat), ((j + 1).toNat - (j).toNat)⟩ : SV)), ((b.take ((j + 1).toNat)).drop ((j).toNat)))]).map (fun p : ED × List Ln => p.1)), rrE eI 49 3 (.slice A1 rows1.length c1) rows1, rowE eV 24 (.slice (some ⟨b1, 0, none⟩) 2 2) [(⟨A_a, a.length, c_a⟩ : SV), (⟨A_b, b.length, c_b⟩ : SV)]] := (SH.take 4 rfl (SH.front [_, _, _, _] (SH.front [_, _] (SH.front [_, _, _, _] (SH.front [_, _, _, _] hS16)))))
          have hk_ := (hcs.resolve_left (fun h_ => by omega)).resolve_left (fun h_ => by omega)
          exact ⟨_, by omega, A8, c8, (out ++ [((gI (Stp ((rows1.getD ((0 : Int)).toNat default).2) ((rows1.getD ((1 : Int)).toNat default).2)) (ix), (⟨(if (j + 1).toNat = (j).toNat then A_b else A_b.map (·.add ((j).toNat * 2))), ((j + 1).toNat - (j).toNat), ((j + 1).toNat - (j).toNat)⟩ : SV)), ((b.take ((j + 1).toNat)).drop ((j).toNat)))]), i, j + 1, ix + 1, by omega, by omega, by omega, by omega, by omega, by omega, (by first | exact hk_.2.2.2.2 | exact hk_.2.2), (by rw [one_cut q2 (by omega)]; exact mk_in ixlo hk rfl hc37 q2 (by omega) q5), (by simp; omega), (St.inSnoc rfl (h_b.imp fun _ h => Rd.cut h (by omega) (by omega) (by omega) (by omega)) q7), hS17, rfl, Weak.cons rfl <| Weak.cons rfl <| Weak.cons rfl <| Weak.cons rfl <| Weak.cons rfl <| Weak.cons rfl <| Weak.cons rfl <| Weak.cons rfl <| Weak.nil _⟩
        · skip
          refine WC.skip (thenQ.n ?_)
          refine WC.seq ?_
          refine WC.region ?_
          refine WL.lv rfl (LV.eqI rfl rfl) ?_
          refine WL.lv rfl (LV.asg rfl) ?_
          refine WL.nil (thenQ.n ?_)
          refine WC.condP (p := (gI (Stp ((rows1.getD ((0 : Int)).toNat default).2) ((rows1.getD ((1 : Int)).toNat default).2)) (ix)) = 1) rfl (fun hc39 => ?_) (fun hc39 => ?_)
          · skip
            refine WC.exit (thenQ.x <| blockQ.miss rfl <| thenQ.x <| blockQ.hit <| thenQ.n ?_)
            refine WC.region ?_
            refine WL.lv rfl (LV.mv rfl) ?_
            refine WL.lv rfl (LV.add rfl rfl (wr64 (by omega) (by omega))) ?_
            refine WL.lv rfl (LV.asg rfl) ?_
            refine WL.nil (blockQ.n <| thenQ.n ?_)
            iterate 2 refine WC.seq ?_
            refine WC.region ?_
            iterate 5 refine WL.lv rfl (LV.mv rfl) ?_
            refine WL.lv rfl (LV.add rfl rfl (wr64 (by omega) (by omega))) ?_
            refine WL.lv rfl (LV.mv rfl) ?_
            refine WL.lv rfl (LV.add rfl rfl (wr64 (by omega) (by omega))) ?_
            have hcap2 : a.length ≤ c_a := (Rd.cap (St.now (SH.stN hL1 h_a)))
            refine WL.lv rfl (LV.cut Try.underlying24 ti52.sz rfl rfl rfl rfl ⟨.inr ⟨.i64, by rw [Int.toNat_of_nonneg (a := i) (by omega)] <;> rfl⟩, .inr ⟨.i64, by rw [Int.toNat_of_nonneg (a := i + 1) (by omega)] <;> rfl⟩, .inr ⟨.i64, by rw [Int.toNat_of_nonneg (a := i + 1) (by omega)] <;> rfl⟩⟩ (by omega) (by omega) (by omega)) ?_
            refine WL.lv rfl (LV.build (vs := [(0, (.int .i64 (gI (Stp ((rows1.getD ((0 : Int)).toNat default).2) ((rows1.getD ((1 : Int)).toNat default).2)) (ix)))), (1, (.slice (if (i + 1).toNat = (i).toNat then A_a else A_a.map (·.add ((i).toNat * 2))) ((i + 1).toNat - (i).toNat) ((i + 1).toNat - (i).toNat)))]) (places := #[(0, 1), (1, 1)]) (cs := #[(.int .i64 (gI (Stp ((rows1.getD ((0 : Int)).toNat default).2) ((rows1.getD ((1 : Int)).toNat default).2)) (ix))), (.slice (if (i + 1).toNat = (i).toNat then A_a else A_a.map (·.add ((i).toNat * 2))) ((i + 1).toNat - (i).toNat) ((i + 1).toNat - (i).toNat))]) Try.underlying64 ti64 (fun _ => by kernel_rfl) rfl rfl) ?_
            refine WL.xe rfl (XE.buildSlice (E := eE) [(0, (.agg #[(.int .i64 (gI (Stp ((rows1.getD ((0 : Int)).toNat default).2) ((rows1.getD ((1 : Int)).toNat default).2)) (ix))), (.slice (if (i + 1).toNat = (i).toNat then A_a else A_a.map (·.add ((i).toNat * 2))) ((i + 1).toNat - (i).toNat) ((i + 1).toNat - (i).toNat))]))] #[(.int .i64 (gI (Stp ((rows1.getD ((0 : Int)).toNat default).2) ((rows1.getD ((1 : Int)).toNat default).2)) (ix))), (.slice (if (i + 1).toNat = (i).toNat then A_a else A_a.map (·.add ((i).toNat * 2))) ((i + 1).toNat - (i).toNat) ((i + 1).toNat - (i).toNat))] [(gI (Stp ((rows1.getD ((0 : Int)).toNat default).2) ((rows1.getD ((1 : Int)).toNat default).2)) (ix), (⟨(if (i + 1).toNat = (i).toNat then A_a else A_a.map (·.add ((i).toNat * 2))), ((i + 1).toNat - (i).toNat), ((i + 1).toNat - (i).toNat)⟩ : SV))] hL1 Try.underlying41 ti64 rfl (by decide) (by kernel_rfl) (.inr rfl) rfl rfl (by decide)) ?_
            rintro _ w7 ⟨b3, rfl, hS18, hk4⟩
            have hS19 : SH w No w7 [rowE eE 64 (.slice A_out out.length c_out) (out.map (fun p : ED × List Ln => p.1)), rowE eE 64 (.slice (some ⟨b3, 0, none⟩) 1 1) [(gI (Stp ((rows1.getD ((0 : Int)).toNat default).2) ((rows1.getD ((1 : Int)).toNat default).2)) (ix), (⟨(if (i + 1).toNat = (i).toNat then A_a else A_a.map (·.add ((i).toNat * 2))), ((i + 1).toNat - (i).toNat), ((i + 1).toNat - (i).toNat)⟩ : SV))], rowE eI 50 (.slice A6 ((Stp ((rows1.getD ((0 : Int)).toNat default).2) ((rows1.getD ((1 : Int)).toNat default).2)).length) c6) (Stp ((rows1.getD ((0 : Int)).toNat default).2) ((rows1.getD ((1 : Int)).toNat default).2)), rrE eI 49 3 (.slice A1 rows1.length c1) rows1, rowE eV 24 (.slice (some ⟨b1, 0, none⟩) 2 2) [(⟨A_a, a.length, c_a⟩ : SV), (⟨A_b, b.length, c_b⟩ : SV)]] := (SH.front [_, _] hS18)
            refine WL.xe rfl (XE.appendQ (rows := out) (r := (gI (Stp ((rows1.getD ((0 : Int)).toNat default).2) ((rows1.getD ((1 : Int)).toNat default).2)) (ix), (⟨(if (i + 1).toNat = (i).toNat then A_a else A_a.map (·.add ((i).toNat * 2))), ((i + 1).toNat - (i).toNat), ((i + 1).toNat - (i).toNat)⟩ : SV))) ((a.take ((i + 1).toNat)).drop ((i).toNat)) hS19 Try.underlying41 ti64 rfl (St.now (SH.rd hS19 (.tail _ (.head _)))) rfl rfl (by first | omega | (simp; omega)) (by first | omega | (simp; omega))) ?_
            rintro _ w8 ⟨A9, c9, rfl, hS20, hk5⟩
            refine WL.lv rfl (LV.asg rfl) ?_
            refine WL.nil (thenQ.n ?_)
            refine WC.region ?_
            refine WL.lv rfl (LV.mv rfl) ?_
            refine WL.lv rfl (LV.add rfl rfl (wr64 (by omega) (by omega))) ?_
            refine WL.lv rfl (LV.asg rfl) ?_
            refine WL.nil (thenQ.n ?_)
            refine WC.exit (blockQ.hit <| blockQ.n <| thenQ.n ?_)
            refine WC.region ?_
            refine WL.lv rfl (LV.add rfl rfl (wr64 (by omega) (by omega))) ?_
            refine WL.lv rfl (LV.mv rfl) ?_
            refine WL.nil (thenQ.n ?_)
            have hS21 : SH w No w8 [rowE eI 50 (.slice A6 ((Stp ((rows1.getD ((0 : Int)).toNat default).2) ((rows1.getD ((1 : Int)).toNat default).2)).length) c6) (Stp ((rows1.getD ((0 : Int)).toNat default).2) ((rows1.getD ((1 : Int)).toNat default).2)), rowE eE 64 (.slice A9 ((out ++ [((gI (Stp ((rows1.getD ((0 : Int)).toNat default).2) ((rows1.getD ((1 : Int)).toNat default).2)) (ix), (⟨(if (i + 1).toNat = (i).toNat then A_a else A_a.map (·.add ((i).toNat * 2))), ((i + 1).toNat - (i).toNat), ((i + 1).toNat - (i).toNat)⟩ : SV)), ((a.take ((i + 1).toNat)).drop ((i).toNat)))]).length) c9) ((out ++ [((gI (Stp ((rows1.getD ((0 : Int)).toNat default).2) ((rows1.getD ((1 : Int)).toNat default).2)) (ix), (⟨(if (i + 1).toNat = (i).toNat then A_a else A_a.map (·.add ((i).toNat * 2))), ((i + 1).toNat - (i).toNat), ((i + 1).toNat - (i).toNat)⟩ : SV)), ((a.take ((i + 1).toNat)).drop ((i).toNat)))]).map (fun p : ED × List Ln => p.1)), rrE eI 49 3 (.slice A1 rows1.length c1) rows1, rowE eV 24 (.slice (some ⟨b1, 0, none⟩) 2 2) [(⟨A_a, a.length, c_a⟩ : SV), (⟨A_b, b.length, c_b⟩ : SV)]] := (SH.take 4 rfl (SH.front [_, _, _, _] (SH.front [_, _] (SH.front [_, _, _, _] (SH.front [_, _, _, _] hS20)))))
            have hk_ := hcs.resolve_right (fun h_ => by omega)
            exact ⟨_, by omega, A9, c9, (out ++ [((gI (Stp ((rows1.getD ((0 : Int)).toNat default).2) ((rows1.getD ((1 : Int)).toNat default).2)) (ix), (⟨(if (i + 1).toNat = (i).toNat then A_a else A_a.map (·.add ((i).toNat * 2))), ((i + 1).toNat - (i).toNat), ((i + 1).toNat - (i).toNat)⟩ : SV)), ((a.take ((i + 1).toNat)).drop ((i).toNat)))]), i + 1, j + 1, ix + 1, by omega, by omega, by omega, by omega, by omega, by omega, (by first | exact hk_.2.2.2.2 | exact hk_.2.2), (by rw [one_cut q0 (by omega)]; exact mk_keep ixlo hk rfl (by omega) q0 (by omega) q5), (by simp; omega), (St.inSnoc rfl (h_a.imp fun _ h => Rd.cut h (by omega) (by omega) (by omega) (by omega)) q7), hS21, rfl, Weak.cons rfl <| Weak.cons rfl <| Weak.cons rfl <| Weak.cons rfl <| Weak.cons rfl <| Weak.cons rfl <| Weak.cons rfl <| Weak.cons rfl <| Weak.nil _⟩
          · skip
            refine WC.skip (thenQ.n ?_)
            refine WC.exit (blockQ.miss rfl <| thenQ.x <| blockQ.miss rfl <| thenQ.x <| blockQ.hit <| thenQ.n ?_)
            iterate 2 refine WC.seq ?_
            refine WC.region ?_
            iterate 5 refine WL.lv rfl (LV.mv rfl) ?_
            refine WL.lv rfl (LV.add rfl rfl (wr64 (by omega) (by omega))) ?_
            refine WL.lv rfl (LV.mv rfl) ?_
            refine WL.lv rfl (LV.add rfl rfl (wr64 (by omega) (by omega))) ?_
            have hcap3 : a.length ≤ c_a := (Rd.cap (St.now (SH.stN hL1 h_a)))
            refine WL.lv rfl (LV.cut Try.underlying24 ti52.sz rfl rfl rfl rfl ⟨.inr ⟨.i64, by rw [Int.toNat_of_nonneg (a := i) (by omega)] <;> rfl⟩, .inr ⟨.i64, by rw [Int.toNat_of_nonneg (a := i + 1) (by omega)] <;> rfl⟩, .inr ⟨.i64, by rw [Int.toNat_of_nonneg (a := i + 1) (by omega)] <;> rfl⟩⟩ (by omega) (by omega) (by omega)) ?_
            refine WL.lv rfl (LV.build (vs := [(0, (.int .i64 (gI (Stp ((rows1.getD ((0 : Int)).toNat default).2) ((rows1.getD ((1 : Int)).toNat default).2)) (ix)))), (1, (.slice (if (i + 1).toNat = (i).toNat then A_a else A_a.map (·.add ((i).toNat * 2))) ((i + 1).toNat - (i).toNat) ((i + 1).toNat - (i).toNat)))]) (places := #[(0, 1), (1, 1)]) (cs := #[(.int .i64 (gI (Stp ((rows1.getD ((0 : Int)).toNat default).2) ((rows1.getD ((1 : Int)).toNat default).2)) (ix))), (.slice (if (i + 1).toNat = (i).toNat then A_a else A_a.map (·.add ((i).toNat * 2))) ((i + 1).toNat - (i).toNat) ((i + 1).toNat - (i).toNat))]) Try.underlying64 ti64 (fun _ => by kernel_rfl) rfl rfl) ?_
            refine WL.xe rfl (XE.buildSlice (E := eE) [(0, (.agg #[(.int .i64 (gI (Stp ((rows1.getD ((0 : Int)).toNat default).2) ((rows1.getD ((1 : Int)).toNat default).2)) (ix))), (.slice (if (i + 1).toNat = (i).toNat then A_a else A_a.map (·.add ((i).toNat * 2))) ((i + 1).toNat - (i).toNat) ((i + 1).toNat - (i).toNat))]))] #[(.int .i64 (gI (Stp ((rows1.getD ((0 : Int)).toNat default).2) ((rows1.getD ((1 : Int)).toNat default).2)) (ix))), (.slice (if (i + 1).toNat = (i).toNat then A_a else A_a.map (·.add ((i).toNat * 2))) ((i + 1).toNat - (i).toNat) ((i + 1).toNat - (i).toNat))] [(gI (Stp ((rows1.getD ((0 : Int)).toNat default).2) ((rows1.getD ((1 : Int)).toNat default).2)) (ix), (⟨(if (i + 1).toNat = (i).toNat then A_a else A_a.map (·.add ((i).toNat * 2))), ((i + 1).toNat - (i).toNat), ((i + 1).toNat - (i).toNat)⟩ : SV))] hL1 Try.underlying41 ti64 rfl (by decide) (by kernel_rfl) (.inr rfl) rfl rfl (by decide)) ?_
            rintro _ w9 ⟨b4, rfl, hS22, hk6⟩
            have hS23 : SH w No w9 [rowE eE 64 (.slice A_out out.length c_out) (out.map (fun p : ED × List Ln => p.1)), rowE eE 64 (.slice (some ⟨b4, 0, none⟩) 1 1) [(gI (Stp ((rows1.getD ((0 : Int)).toNat default).2) ((rows1.getD ((1 : Int)).toNat default).2)) (ix), (⟨(if (i + 1).toNat = (i).toNat then A_a else A_a.map (·.add ((i).toNat * 2))), ((i + 1).toNat - (i).toNat), ((i + 1).toNat - (i).toNat)⟩ : SV))], rowE eI 50 (.slice A6 ((Stp ((rows1.getD ((0 : Int)).toNat default).2) ((rows1.getD ((1 : Int)).toNat default).2)).length) c6) (Stp ((rows1.getD ((0 : Int)).toNat default).2) ((rows1.getD ((1 : Int)).toNat default).2)), rrE eI 49 3 (.slice A1 rows1.length c1) rows1, rowE eV 24 (.slice (some ⟨b1, 0, none⟩) 2 2) [(⟨A_a, a.length, c_a⟩ : SV), (⟨A_b, b.length, c_b⟩ : SV)]] := (SH.front [_, _] hS22)
            refine WL.xe rfl (XE.appendQ (rows := out) (r := (gI (Stp ((rows1.getD ((0 : Int)).toNat default).2) ((rows1.getD ((1 : Int)).toNat default).2)) (ix), (⟨(if (i + 1).toNat = (i).toNat then A_a else A_a.map (·.add ((i).toNat * 2))), ((i + 1).toNat - (i).toNat), ((i + 1).toNat - (i).toNat)⟩ : SV))) ((a.take ((i + 1).toNat)).drop ((i).toNat)) hS23 Try.underlying41 ti64 rfl (St.now (SH.rd hS23 (.tail _ (.head _)))) rfl rfl (by first | omega | (simp; omega)) (by first | omega | (simp; omega))) ?_
            rintro _ w10 ⟨A10, c10, rfl, hS24, hk7⟩
            refine WL.lv rfl (LV.asg rfl) ?_
            refine WL.nil (thenQ.n ?_)
            refine WC.region ?_
            refine WL.lv rfl (LV.mv rfl) ?_
            refine WL.lv rfl (LV.add rfl rfl (wr64 (by omega) (by omega))) ?_
            refine WL.lv rfl (LV.asg rfl) ?_
            refine WL.nil (thenQ.n ?_)
            refine WC.exit (blockQ.hit <| blockQ.n <| thenQ.n ?_)
            refine WC.region ?_
            refine WL.lv rfl (LV.add rfl rfl (wr64 (by omega) (by omega))) ?_
            refine WL.lv rfl (LV.mv rfl) ?_
            refine WL.nil (thenQ.n ?_)
            have hS25 : SH w No w10 [rowE eI 50 (.slice A6 ((Stp ((rows1.getD ((0 : Int)).toNat default).2) ((rows1.getD ((1 : Int)).toNat default).2)).length) c6) (Stp ((rows1.getD ((0 : Int)).toNat default).2) ((rows1.getD ((1 : Int)).toNat default).2)), rowE eE 64 (.slice A10 ((out ++ [((gI (Stp ((rows1.getD ((0 : Int)).toNat default).2) ((rows1.getD ((1 : Int)).toNat default).2)) (ix), (⟨(if (i + 1).toNat = (i).toNat then A_a else A_a.map (·.add ((i).toNat * 2))), ((i + 1).toNat - (i).toNat), ((i + 1).toNat - (i).toNat)⟩ : SV)), ((a.take ((i + 1).toNat)).drop ((i).toNat)))]).length) c10) ((out ++ [((gI (Stp ((rows1.getD ((0 : Int)).toNat default).2) ((rows1.getD ((1 : Int)).toNat default).2)) (ix), (⟨(if (i + 1).toNat = (i).toNat then A_a else A_a.map (·.add ((i).toNat * 2))), ((i + 1).toNat - (i).toNat), ((i + 1).toNat - (i).toNat)⟩ : SV)), ((a.take ((i + 1).toNat)).drop ((i).toNat)))]).map (fun p : ED × List Ln => p.1)), rrE eI 49 3 (.slice A1 rows1.length c1) rows1, rowE eV 24 (.slice (some ⟨b1, 0, none⟩) 2 2) [(⟨A_a, a.length, c_a⟩ : SV), (⟨A_b, b.length, c_b⟩ : SV)]] := (SH.take 4 rfl (SH.front [_, _, _, _] (SH.front [_, _] (SH.front [_, _, _, _] (SH.front [_, _, _, _] hS24)))))
            have hk_ := (hcs.resolve_left (fun h_ => by omega)).resolve_right (fun h_ => by omega)
            exact ⟨_, by omega, A10, c10, (out ++ [((gI (Stp ((rows1.getD ((0 : Int)).toNat default).2) ((rows1.getD ((1 : Int)).toNat default).2)) (ix), (⟨(if (i + 1).toNat = (i).toNat then A_a else A_a.map (·.add ((i).toNat * 2))), ((i + 1).toNat - (i).toNat), ((i + 1).toNat - (i).toNat)⟩ : SV)), ((a.take ((i + 1).toNat)).drop ((i).toNat)))]), i + 1, j, ix + 1, by omega, by omega, by omega, by omega, by omega, by omega, (by first | exact hk_.2.2.2.2 | exact hk_.2.2), (by rw [one_cut q0 (by omega)]; exact mk_out ixlo hk rfl (by omega) (by omega) q0 (by omega) q5), (by simp; omega), (St.inSnoc rfl (h_a.imp fun _ h => Rd.cut h (by omega) (by omega) (by omega) (by omega)) q7), hS25, rfl, Weak.cons rfl <| Weak.cons rfl <| Weak.cons rfl <| Weak.cons rfl <| Weak.cons rfl <| Weak.cons rfl <| Weak.cons rfl <| Weak.cons rfl <| Weak.nil _⟩
      · have hfin := mk_fin (by omega) q5
        refine WC.exit (thenQ.x <| thenQ.x <| blockQ.hit <| thenQ.n ?_)
        refine WC.seq ?_
        refine WC.region ?_
        refine WL.lv rfl (LV.mv rfl) ?_
        refine WL.call rfl (XC.fn Try.func32 (by kernel_rfl) rfl rfl rfl) (normal_calls (SH.rd hL1 (.tail _ (.head _))) (SH.stN hL1 q7) (by rw [hfin, mkE_tot]; exact hsl) (by omega)) ?_
        rintro v_ w11 ⟨A11, c11, rows2, rfl, hnf1, hS26⟩
        have hS27 := SH.joinN hL1 hS26
        iterate 2 refine WL.lv rfl (LV.asg rfl) ?_
        refine WL.nil (thenQ.n ?_)
        refine WC.ret (?_)
        have hS28 : SH w No w11 [rowE eE 64 (.slice A11 rows2.length c11) (rows2.map (fun p : ED × List Ln => p.1)), insE (fun p : ED => p.2) eL 52 rows2] := (SH.take 2 rfl (SH.front [_] (SH.front [_] hS27)))
        exact ⟨_, fun a ha => res2 rfl ha rfl rfl, _, _, _, tup2 rfl (congrArg (Value.int .i64) ((if_neg (by omega)).symm)), (by rw [hnf1]; unfold MKS rawM; rw [if_neg (by omega), ← hst, mk_fin (by omega) q5]), hS28⟩

end Go.Proofs.Ytomeffnlmefnlaa
