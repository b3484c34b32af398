/- Lines' numbers. -/
import Derived.Test.YthmjieikbeemhaaMyT
import Derived.Test.YthmjieikbeemhaaMyL
import Derived.Test.YthmjieikbeemhaaNuA
namespace Go.Proofs.Ythmjieikbeemhaa
open Go Go.Gv Go.RowKit Go.Num
set_option linter.unusedVariables false
set_option linter.unusedSimpArgs false
theorem ti22 : TI Try.prog 22 (.slice none 0 0) 1 24 := by unfold TI; kernel_rfl
theorem ti44 : TI Try.prog 44 (.agg #[(.string ⟨#[]⟩), (.bool false)]) 2 24 := by unfold TI; kernel_rfl

theorem numbers_calls {w : World} {A0 : Option Addr} {c0 : Nat} {inp : List (SV × List Ln)} (hi : St No w (RdRR eL (.slice A0 inp.length c0) inp)) (h1 : inp.length ≤ 1000) (h2 : ∀ p ∈ inp, p.2.length ≤ 1000) :
    Calls Try.prog 25 #[(.slice A0 inp.length c0)] w fun e w' => ∃ v, e = .returned v ∧ (fun v w' => ∃ A' c' rows, v = .slice A' rows.length c' ∧ rows.map (·.2) = nnums [] (inp.map (·.2)) ∧ SH w No w' [rrE eI 46 3 (.slice A' rows.length c') rows]) v w' := by
  have hS : SH w No w [] := SH.nil _ _
  refine calls (l := litOf [(.slice A0 inp.length c0)] 0) Try.func25 rfl (n := 49) rfl (Nat.le_of_ble_eq_true rfl) (lit_args _) ?_
  refine WC.seq ?_
  refine WC.region ?_
  refine WL.lv rfl (LV.asg rfl) ?_
  refine WL.nil (thenQ.n ?_)
  refine WC.seq ?_
  refine WC.region ?_
  refine WL.xe rfl (XE.makeMap kL kI hS) ?_
  rintro _ w1 ⟨b1, rfl, hS1, hk1⟩
  refine WL.lv rfl (LV.asg rfl) ?_
  refine WL.nil (thenQ.n ?_)
  refine WC.seq ?_
  refine WC.region ?_
  refine WL.lv rfl (LV.asg rfl) ?_
  refine WL.nil (thenQ.n ?_)
  iterate 2 refine WC.seq ?_
  refine WC.region ?_
  have hS2 := SH.nilRow (E := eV) (T := 46) hS1
  have hS3 := SH.rr0 (E := eI) (T1 := 3) hS2
  refine WL.lv rfl (LV.mv rfl) ?_
  refine WL.lv rfl (LV.lenL Try.underlying30 rfl) ?_
  refine WL.lv rfl (LV.mv rfl) ?_
  refine WL.nil (thenQ.n ?_)
  refine WC.block ?_
  have hS4 : SH w No w1 [mapE kL kI b1 [], rrE eI 46 3 (.slice none 0 0) []] := (SH.front [rrE eI 46 3 (.slice none 0 0) []] hS3)
  refine WC.loop (fun m_ f_ w_ => ∃ (i : Int) (kv : KV) (A : Option Addr) (c : Nat) (rows : List (SV × List Int)), (0 ≤ i) ∧ (i ≤ inp.length) ∧ (kv = nkvs [] ((inp.map (·.2)).take i.toNat)) ∧ (rows.map (·.2) = nnums [] ((inp.map (·.2)).take i.toNat)) ∧ ((rows.length : Int) = i) ∧ SH w No w_ [mapE kL kI b1 kv, rrE eI 46 3 (.slice A rows.length c) rows] ∧ m_ = (((inp.length : Int) - i).toNat) ∧ Weak (lit [(0, (.slice A0 inp.length c0)), (2, (.slice none 0 0)), (3, (.map (some b1))), (4, (.slice A rows.length c)), (13, (.slice A0 inp.length c0)), (14, (.int .i64 (inp.length : Int))), (15, (.int .i64 i))]) f_) _ ⟨0, [], none, 0, [], by omega, by omega, rfl, rfl, rfl, hS4, rfl, Weak.cons rfl <| Weak.cons rfl <| Weak.cons rfl <| Weak.cons rfl <| Weak.cons rfl <| Weak.cons rfl <| Weak.cons rfl <| Weak.nil _⟩ ?_
  rintro m1 f1 w2 ⟨i, kv, A, c, rows, q0, q1, q2, q3, q4, hL1, rfl, hw1⟩
  refine WC.weak hw1 ?_
  clear hw1
  refine WC.seq ?_
  refine WC.region ?_
  refine WL.lv rfl (LV.ltI rfl rfl) ?_
  refine WL.nil (thenQ.n ?_)
  refine WC.seq ?_
  refine WC.condP (p := i < (inp.length : Int)) rfl (fun hc16 => ?_) (fun hc16 => ?_)
  · have hln := h2 (inp.getD (i).toNat default) (getD_mem (by omega))
    refine WC.skip (thenQ.n ?_)
    refine WC.seq ?_
    refine WC.block ?_
    refine WC.seq ?_
    refine WC.region ?_
    obtain ⟨A1, c1, A2, c2, e1, g1, e2, r1⟩ := St.eltRR (SH.stN hL1 hi) default i (by omega) (by omega)
    refine WL.lv rfl (LV.idxA Try.underlying30 ti22.sz rfl e1 rfl (by omega) (by omega)) ?_
    refine WL.lv rfl (LV.load1 Try.underlying22 rfl rfl (g1 _ (KB.refl No _))) ?_
    refine WL.lv rfl (LV.asg rfl) ?_
    refine WL.nil (thenQ.n ?_)
    refine WC.seq ?_
    refine WC.region ?_
    refine WL.lv rfl (LV.asg rfl) ?_
    refine WL.nil (thenQ.n ?_)
    iterate 2 refine WC.seq ?_
    refine WC.region ?_
    have hS5 := SH.nilRow (E := eI) (T := 3) hL1
    refine WL.lv rfl (LV.mv rfl) ?_
    refine WL.lv rfl (LV.lenL Try.underlying22 rfl) ?_
    refine WL.lv rfl (LV.mv rfl) ?_
    refine WL.nil (thenQ.n ?_)
    refine WC.block ?_
    have hS6 : SH w No w2 [mapE kL kI b1 kv, rowE eI 3 (.slice none 0 0) [], rrE eI 46 3 (.slice A rows.length c) rows] := (SH.front [rowE eI 3 (.slice none 0 0) [], rrE eI 46 3 (.slice A rows.length c) rows] (SH.front [rrE eI 46 3 (.slice A rows.length c) rows] (SH.front [rowE eI 3 (.slice none 0 0) [], mapE kL kI b1 kv] hS5)))
    refine WC.loop (fun m_ f_ w_ => ∃ (j : Int) (kv1 : KV) (A1 : Option Addr) (c1 : Nat) (row : List Int), (0 ≤ j) ∧ (j ≤ (inp.getD (i).toNat default).2.length) ∧ (kv1 = nkv kv ((inp.getD (i).toNat default).2.take j.toNat)) ∧ (row = nnum kv ((inp.getD (i).toNat default).2.take j.toNat)) ∧ ((row.length : Int) = j) ∧ SH w No w_ [mapE kL kI b1 kv1, rowE eI 3 (.slice A1 row.length c1) row, rrE eI 46 3 (.slice A rows.length c) rows] ∧ m_ = ((((inp.getD (i).toNat default).2.length : Int) - j).toNat) ∧ Weak (lit [(0, (.slice A0 inp.length c0)), (2, (.slice none 0 0)), (3, (.map (some b1))), (4, (.slice A rows.length c)), (6, (.slice A2 ((inp.getD (i).toNat default).2.length) c2)), (7, (.slice A1 row.length c1)), (13, (.slice A0 inp.length c0)), (14, (.int .i64 (inp.length : Int))), (15, (.int .i64 i)), (19, (.slice A2 ((inp.getD (i).toNat default).2.length) c2)), (20, (.int .i64 ((inp.getD (i).toNat default).2.length : Int))), (21, (.int .i64 j))]) f_) _ ⟨0, kv, none, 0, [], by omega, by omega, rfl, rfl, rfl, hS6, rfl, Weak.cons rfl <| Weak.cons rfl <| Weak.cons rfl <| Weak.cons rfl <| Weak.cons rfl <| Weak.cons rfl <| Weak.cons rfl <| Weak.cons rfl <| Weak.cons rfl <| Weak.cons rfl <| Weak.cons rfl <| Weak.cons rfl <| Weak.nil _⟩ ?_
    rintro m2 f2 w3 ⟨j, kv1, A1, c1, row, s0, s3, s1, s2, s4, hL2, rfl, hw2⟩
    refine WC.weak hw2 ?_
    clear hw2
    refine WC.seq ?_
    refine WC.region ?_
    refine WL.lv rfl (LV.ltI rfl rfl) ?_
    refine WL.nil (thenQ.n ?_)
    refine WC.seq ?_
    refine WC.condP (p := j < ((inp.getD (i).toNat default).2.length : Int)) rfl (fun hc22 => ?_) (fun hc22 => ?_)
    · skip
      refine WC.skip (thenQ.n ?_)
      refine WC.seq ?_
      refine WC.block ?_
      refine WC.seq ?_
      refine WC.region ?_
      obtain ⟨A3, c3, e3, g2⟩ := St.elt (St.inner (SH.stN hL2 hi) (getD_mem (by omega)) e2) lnD j (by omega) (by omega)
      refine WL.lv rfl (LV.idxA Try.underlying22 ti44.sz rfl e3 rfl (by omega) (by omega)) ?_
      refine WL.lv rfl (LV.loadAgg (cs := [(.string ((((inp.getD (i).toNat default).2).getD (j).toNat lnD).1)), (.bool ((((inp.getD (i).toNat default).2).getD (j).toNat lnD).2))]) Try.underlying44 rfl ti44 rfl rfl (fun j u hu => g2 _ (KB.refl No _) j u hu)) ?_
      refine WL.xe rfl (XE.alloc #[(.string ⟨#[]⟩), (.bool false)] hL2 ti44 rfl) ?_
      rintro _ w4 ⟨b2, rfl, hS7, hk2⟩
      refine WL.xse rfl (XSE.blkAgg #[(.string ((((inp.getD (i).toNat default).2).getD (j).toNat lnD).1)), (.bool ((((inp.getD (i).toNat default).2).getD (j).toNat lnD).2))] hS7 (by kernel_rfl) rfl (by kernel_rfl) rfl rfl) ?_
      rintro w5 ⟨hS8, hk3⟩
      refine WL.nil (thenQ.n ?_)
      refine WC.seq ?_
      refine WC.region ?_
      refine WL.lv rfl (LV.mv rfl) ?_
      refine WL.lv rfl (LV.loadAgg (cs := [(.string ((((inp.getD (i).toNat default).2).getD (j).toNat lnD).1)), (.bool ((((inp.getD (i).toNat default).2).getD (j).toNat lnD).2))]) Try.underlying44 rfl ti44 rfl rfl (Blk.agg (SH.at hS8 (.head _)) _ (KB.refl No _))) ?_
      refine WL.lv rfl (LV.lookOk (q := (((inp.getD (i).toNat default).2).getD (j).toNat lnD)) (z := 0) (key_ln Try.underlying44 Try.underlying9 Try.underlying4 (by decide) (by kernel_rfl)) Try.underlying62 ti3 (SH.at hS8 (.tail _ (.head _))) rfl rfl) ?_
      refine WL.lv rfl (LV.mv rfl) ?_
      iterate 2 refine WL.lv rfl (LV.extract rfl rfl) ?_
      iterate 2 refine WL.lv rfl (LV.asg rfl) ?_
      refine WL.nil (thenQ.n ?_)
      iterate 2 refine WC.seq ?_
      refine WC.region ?_
      refine WL.lv rfl (LV.mv rfl) ?_
      refine WL.lv rfl (LV.notB rfl) ?_
      refine WL.nil (thenQ.n ?_)
      refine WC.cond (b := !((lookL kv1 (((inp.getD (i).toNat default).2).getD (j).toNat lnD)).isSome)) rfl (fun hc1 => ?_) (fun hc1 => ?_)
      · skip
        refine WC.seq ?_
        refine WC.region ?_
        refine WL.lv rfl (LV.mv rfl) ?_
        refine WL.lv rfl (LV.lenM Try.underlying62 (SH.at hS8 (.tail _ (.head _))) rfl) ?_
        refine WL.lv rfl (LV.asg rfl) ?_
        refine WL.nil (thenQ.n ?_)
        refine WC.region ?_
        refine WL.lv rfl (LV.mv rfl) ?_
        refine WL.lv rfl (LV.loadAgg (cs := [(.string ((((inp.getD (i).toNat default).2).getD (j).toNat lnD).1)), (.bool ((((inp.getD (i).toNat default).2).getD (j).toNat lnD).2))]) Try.underlying44 rfl ti44 rfl rfl (Blk.agg (SH.at hS8 (.head _)) _ (KB.refl No _))) ?_
        refine WL.lv rfl (LV.mv rfl) ?_
        have hS9 : SH w No w5 [mapE kL kI b1 kv1, blkE b2 44 #[(.string ((((inp.getD (i).toNat default).2).getD (j).toNat lnD).1)), (.bool ((((inp.getD (i).toNat default).2).getD (j).toNat lnD).2))], rowE eI 3 (.slice A1 row.length c1) row, rrE eI 46 3 (.slice A rows.length c) rows] := (SH.front [blkE b2 44 #[(.string ((((inp.getD (i).toNat default).2).getD (j).toNat lnD).1)), (.bool ((((inp.getD (i).toNat default).2).getD (j).toNat lnD).2))]] hS8)
        refine WL.xse rfl (XSE.mapUpd (q := (((inp.getD (i).toNat default).2).getD (j).toNat lnD)) (v := (kv1.length : Int)) (key_ln Try.underlying44 Try.underlying9 Try.underlying4 (by decide) (by kernel_rfl)) hS9 Try.underlying62 rfl rfl rfl) ?_
        rintro w6 ⟨hS10, hk4⟩
        refine WL.nil (thenQ.n ?_)
        refine WC.region ?_
        iterate 2 refine WL.lv rfl (LV.mv rfl) ?_
        refine WL.xe rfl (XE.buildSlice (E := eI) [(0, (.int .i64 (kv1.length : Int)))] #[(.int .i64 (kv1.length : Int))] [(kv1.length : Int)] hS10 Try.underlying46 ti3 rfl (by decide) (by kernel_rfl) (.inr rfl) rfl rfl (by decide)) ?_
        rintro _ w7 ⟨b3, rfl, hS11, hk5⟩
        have hS12 : SH w No w7 [rowE eI 3 (.slice A1 row.length c1) row, rowE eI 3 (.slice (some ⟨b3, 0, none⟩) 1 1) [(kv1.length : Int)], mapE kL kI b1 (updL kv1 (((inp.getD (i).toNat default).2).getD (j).toNat lnD) (kv1.length : Int)), blkE b2 44 #[(.string ((((inp.getD (i).toNat default).2).getD (j).toNat lnD).1)), (.bool ((((inp.getD (i).toNat default).2).getD (j).toNat lnD).2))], rrE eI 46 3 (.slice A rows.length c) rows] := (SH.front [rowE eI 3 (.slice (some ⟨b3, 0, none⟩) 1 1) [(kv1.length : Int)], mapE kL kI b1 (updL kv1 (((inp.getD (i).toNat default).2).getD (j).toNat lnD) (kv1.length : Int)), blkE b2 44 #[(.string ((((inp.getD (i).toNat default).2).getD (j).toNat lnD).1)), (.bool ((((inp.getD (i).toNat default).2).getD (j).toNat lnD).2))]] hS11)
        refine WL.xe rfl (XE.append hS12 Try.underlying46 ti3 rfl (St.now (SH.rd hS12 (.tail _ (.head _)))) rfl rfl (by first | omega | simp only [List.length_append, List.length_cons, List.length_nil, List.length_take, List.length_reverse, List.length_drop] at *; omega) (by first | omega | simp only [List.length_append, List.length_cons, List.length_nil, List.length_take, List.length_reverse, List.length_drop] at *; omega)) ?_
        rintro _ w8 ⟨A4, c4, rfl, hS13, hk6⟩
        refine WL.lv rfl (LV.asg rfl) ?_
        refine WL.nil (blockQ.n <| thenQ.n ?_)
        refine WC.region ?_
        refine WL.lv rfl (LV.add rfl rfl (wr64 (by omega) (by omega))) ?_
        refine WL.lv rfl (LV.mv rfl) ?_
        refine WL.nil (thenQ.n ?_)
        have hS14 : SH w No w8 [mapE kL kI b1 (updL kv1 (((inp.getD (i).toNat default).2).getD (j).toNat lnD) (kv1.length : Int)), rowE eI 3 (.slice A4 ((row ++ [(kv1.length : Int)]).length) c4) (row ++ [(kv1.length : Int)]), rrE eI 46 3 (.slice A rows.length c) rows] := (SH.take 3 rfl (SH.front [rowE eI 3 (.slice A4 ((row ++ [(kv1.length : Int)]).length) c4) (row ++ [(kv1.length : Int)]), rrE eI 46 3 (.slice A rows.length c) rows, rowE eI 3 (.slice (some ⟨b3, 0, none⟩) 1 1) [(kv1.length : Int)]] (SH.front [rrE eI 46 3 (.slice A rows.length c) rows] (SH.front [rowE eI 3 (.slice A4 ((row ++ [(kv1.length : Int)]).length) c4) (row ++ [(kv1.length : Int)]), rowE eI 3 (.slice (some ⟨b3, 0, none⟩) 1 1) [(kv1.length : Int)], mapE kL kI b1 (updL kv1 (((inp.getD (i).toNat default).2).getD (j).toNat lnD) (kv1.length : Int)), blkE b2 44 #[(.string ((((inp.getD (i).toNat default).2).getD (j).toNat lnD).1)), (.bool ((((inp.getD (i).toNat default).2).getD (j).toNat lnD).2))]] hS13))))
        exact ⟨_, by omega, j + 1, (updL kv1 (((inp.getD (i).toNat default).2).getD (j).toNat lnD) (kv1.length : Int)), A4, c4, (row ++ [(kv1.length : Int)]), by omega, by omega, (num_new1 s0 hc22 s1 hc1), (num_new2 s0 hc22 s1 s2 hc1), (by simp; omega), hS14, rfl, Weak.cons rfl <| Weak.cons rfl <| Weak.cons rfl <| Weak.cons rfl <| Weak.cons rfl <| Weak.cons rfl <| Weak.cons rfl <| Weak.cons rfl <| Weak.cons rfl <| Weak.cons rfl <| Weak.cons rfl <| Weak.cons rfl <| Weak.nil _⟩
      · skip
        refine WC.skip (thenQ.n ?_)
        refine WC.region ?_
        iterate 2 refine WL.lv rfl (LV.mv rfl) ?_
        refine WL.xe rfl (XE.buildSlice (E := eI) [(0, (.int .i64 ((lookL kv1 (((inp.getD (i).toNat default).2).getD (j).toNat lnD)).getD 0)))] #[(.int .i64 ((lookL kv1 (((inp.getD (i).toNat default).2).getD (j).toNat lnD)).getD 0))] [(lookL kv1 (((inp.getD (i).toNat default).2).getD (j).toNat lnD)).getD 0] hS8 Try.underlying46 ti3 rfl (by decide) (by kernel_rfl) (.inr rfl) rfl rfl (by decide)) ?_
        rintro _ w9 ⟨b4, rfl, hS15, hk7⟩
        have hS16 : SH w No w9 [rowE eI 3 (.slice A1 row.length c1) row, rowE eI 3 (.slice (some ⟨b4, 0, none⟩) 1 1) [(lookL kv1 (((inp.getD (i).toNat default).2).getD (j).toNat lnD)).getD 0], blkE b2 44 #[(.string ((((inp.getD (i).toNat default).2).getD (j).toNat lnD).1)), (.bool ((((inp.getD (i).toNat default).2).getD (j).toNat lnD).2))], mapE kL kI b1 kv1, rrE eI 46 3 (.slice A rows.length c) rows] := (SH.front [rowE eI 3 (.slice (some ⟨b4, 0, none⟩) 1 1) [(lookL kv1 (((inp.getD (i).toNat default).2).getD (j).toNat lnD)).getD 0], blkE b2 44 #[(.string ((((inp.getD (i).toNat default).2).getD (j).toNat lnD).1)), (.bool ((((inp.getD (i).toNat default).2).getD (j).toNat lnD).2))], mapE kL kI b1 kv1] hS15)
        refine WL.xe rfl (XE.append hS16 Try.underlying46 ti3 rfl (St.now (SH.rd hS16 (.tail _ (.head _)))) rfl rfl (by first | omega | simp only [List.length_append, List.length_cons, List.length_nil, List.length_take, List.length_reverse, List.length_drop] at *; omega) (by first | omega | simp only [List.length_append, List.length_cons, List.length_nil, List.length_take, List.length_reverse, List.length_drop] at *; omega)) ?_
        rintro _ w10 ⟨A5, c5, rfl, hS17, hk8⟩
        refine WL.lv rfl (LV.asg rfl) ?_
        refine WL.nil (blockQ.n <| thenQ.n ?_)
        refine WC.region ?_
        refine WL.lv rfl (LV.add rfl rfl (wr64 (by omega) (by omega))) ?_
        refine WL.lv rfl (LV.mv rfl) ?_
        refine WL.nil (thenQ.n ?_)
        have hS18 : SH w No w10 [mapE kL kI b1 kv1, rowE eI 3 (.slice A5 ((row ++ [(lookL kv1 (((inp.getD (i).toNat default).2).getD (j).toNat lnD)).getD 0]).length) c5) (row ++ [(lookL kv1 (((inp.getD (i).toNat default).2).getD (j).toNat lnD)).getD 0]), rrE eI 46 3 (.slice A rows.length c) rows] := (SH.take 3 rfl (SH.front [rowE eI 3 (.slice A5 ((row ++ [(lookL kv1 (((inp.getD (i).toNat default).2).getD (j).toNat lnD)).getD 0]).length) c5) (row ++ [(lookL kv1 (((inp.getD (i).toNat default).2).getD (j).toNat lnD)).getD 0]), rrE eI 46 3 (.slice A rows.length c) rows, rowE eI 3 (.slice (some ⟨b4, 0, none⟩) 1 1) [(lookL kv1 (((inp.getD (i).toNat default).2).getD (j).toNat lnD)).getD 0], blkE b2 44 #[(.string ((((inp.getD (i).toNat default).2).getD (j).toNat lnD).1)), (.bool ((((inp.getD (i).toNat default).2).getD (j).toNat lnD).2))]] (SH.front [rrE eI 46 3 (.slice A rows.length c) rows] (SH.front [rowE eI 3 (.slice A5 ((row ++ [(lookL kv1 (((inp.getD (i).toNat default).2).getD (j).toNat lnD)).getD 0]).length) c5) (row ++ [(lookL kv1 (((inp.getD (i).toNat default).2).getD (j).toNat lnD)).getD 0]), rowE eI 3 (.slice (some ⟨b4, 0, none⟩) 1 1) [(lookL kv1 (((inp.getD (i).toNat default).2).getD (j).toNat lnD)).getD 0], blkE b2 44 #[(.string ((((inp.getD (i).toNat default).2).getD (j).toNat lnD).1)), (.bool ((((inp.getD (i).toNat default).2).getD (j).toNat lnD).2))], mapE kL kI b1 kv1] hS17))))
        exact ⟨_, by omega, j + 1, kv1, A5, c5, (row ++ [(lookL kv1 (((inp.getD (i).toNat default).2).getD (j).toNat lnD)).getD 0]), by omega, by omega, (num_old1 s0 hc22 s1 hc1), (num_old2 s0 hc22 s1 s2 hc1), (by simp; omega), hS18, rfl, Weak.cons rfl <| Weak.cons rfl <| Weak.cons rfl <| Weak.cons rfl <| Weak.cons rfl <| Weak.cons rfl <| Weak.cons rfl <| Weak.cons rfl <| Weak.cons rfl <| Weak.cons rfl <| Weak.cons rfl <| Weak.cons rfl <| Weak.nil _⟩
    · skip
      refine WC.exit (thenQ.x <| thenQ.x <| blockQ.hit <| thenQ.n ?_)
      refine WC.region ?_
      iterate 2 refine WL.lv rfl (LV.mv rfl) ?_
      refine WL.xe rfl (XE.buildSlice (E := eV) [(0, (.slice A1 row.length c1))] #[(.slice A1 row.length c1)] [(⟨A1, row.length, c1⟩ : SV)] hL2 Try.underlying48 ti46 rfl (by decide) (by kernel_rfl) (.inr rfl) rfl rfl (by decide)) ?_
      rintro _ w11 ⟨b5, rfl, hS19, hk9⟩
      have hS20 : SH w No w11 [rowE eI 3 (.slice A1 row.length c1) row, rowE eV 46 (.slice (some ⟨b5, 0, none⟩) 1 1) [(⟨A1, row.length, c1⟩ : SV)], mapE kL kI b1 kv1, rrE eI 46 3 (.slice A rows.length c) rows] := (SH.front [rowE eV 46 (.slice (some ⟨b5, 0, none⟩) 1 1) [(⟨A1, row.length, c1⟩ : SV)], mapE kL kI b1 kv1] hS19)
      have hS21 : SH w No w11 [rrE eI 46 3 (.slice A rows.length c) rows, rowE eI 3 (.slice A1 row.length c1) row, rowE eV 46 (.slice (some ⟨b5, 0, none⟩) 1 1) [(⟨A1, row.length, c1⟩ : SV)], mapE kL kI b1 kv1] := (SH.front [rowE eI 3 (.slice A1 row.length c1) row, rowE eV 46 (.slice (some ⟨b5, 0, none⟩) 1 1) [(⟨A1, row.length, c1⟩ : SV)], mapE kL kI b1 kv1] hS20)
      refine WL.xe rfl (XE.appendRR (sv := (⟨A1, row.length, c1⟩ : SV)) hS21 rfl Try.underlying48 ti46 (St.now (SH.rd hS21 (.tail _ (.tail _ (.head _))))) rfl rfl (by omega) (by omega)) ?_
      rintro _ w12 ⟨A6, c6, rfl, hS22, hk10⟩
      refine WL.lv rfl (LV.asg rfl) ?_
      refine WL.nil (blockQ.n <| thenQ.n ?_)
      refine WC.region ?_
      refine WL.lv rfl (LV.add rfl rfl (wr64 (by omega) (by omega))) ?_
      refine WL.lv rfl (LV.mv rfl) ?_
      refine WL.nil (thenQ.n ?_)
      have hS23 : SH w No w12 [mapE kL kI b1 kv1, rrE eI 46 3 (.slice A6 ((rows ++ [((⟨A1, row.length, c1⟩ : SV), row)]).length) c6) (rows ++ [((⟨A1, row.length, c1⟩ : SV), row)])] := (SH.take 2 rfl (SH.front [rrE eI 46 3 (.slice A6 ((rows ++ [((⟨A1, row.length, c1⟩ : SV), row)]).length) c6) (rows ++ [((⟨A1, row.length, c1⟩ : SV), row)]), rowE eV 46 (.slice (some ⟨b5, 0, none⟩) 1 1) [(⟨A1, row.length, c1⟩ : SV)]] hS22))
      exact ⟨_, by omega, i + 1, kv1, A6, c6, (rows ++ [((⟨A1, row.length, c1⟩ : SV), row)]), by omega, by omega, (nums_step1 q0 hc16 q2 ▸ num_fin1 s1 (by omega)), (num_fin2 s2 (by omega) ▸ nums_step2 q0 hc16 q2 q3), (by simp; omega), hS23, rfl, Weak.cons rfl <| Weak.cons rfl <| Weak.cons rfl <| Weak.cons rfl <| Weak.cons rfl <| Weak.cons rfl <| Weak.cons rfl <| Weak.nil _⟩
  · skip
    refine WC.exit (thenQ.x <| thenQ.x <| blockQ.hit <| thenQ.n ?_)
    refine WC.seq ?_
    refine WC.region ?_
    refine WL.lv rfl (LV.mv rfl) ?_
    refine WL.lv rfl (LV.asg rfl) ?_
    refine WL.nil (thenQ.n ?_)
    refine WC.ret (?_)
    have hS24 : SH w No w2 [rrE eI 46 3 (.slice A rows.length c) rows] := (SH.take 1 rfl (SH.front [mapE kL kI b1 kv] hL1))
    exact ⟨_, fun a ha => res1 rfl ha rfl, _, _, _, rfl, (by rw [q3, List.take_of_length_le (by simp; omega)]), hS24⟩

end Go.Proofs.Ythmjieikbeemhaa
