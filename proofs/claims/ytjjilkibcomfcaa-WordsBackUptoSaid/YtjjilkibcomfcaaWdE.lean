/- Tokens' numbers. -/
import Derived.Test.YtjjilkibcomfcaaWdD
import Derived.Test.YtjjilkibcomfcaaPaH
import Derived.Test.YtjjilkibcomfcaaWdC
namespace Go.Proofs.Ytjjilkibcomfcaa
open Go Go.Gv Go.RowKit Go.Mys Go.Pat Go.Wds
set_option linter.unusedVariables false
set_option linter.unusedSimpArgs false
theorem ti49 : TI Try.prog 49 (.agg #[(.int .i64 0), (.string ⟨#[]⟩)]) 2 24 := by unfold TI; kernel_rfl

theorem numbers_calls {w : World} {S : Nat → Prop} {bm : Nat} {kn : List ByteArray} {A_l : Option Addr} {n_l c_l : Nat} {l : List ByteArray} (h_l : St S w (Rd eS (.slice A_l n_l c_l) l)) (hn_l : l.length = n_l) (hS0 : SH w S w [mapE kS kI bm (kvOf kn)]) (hl : l.length ≤ 100000) (hk0 : kn.length ≤ 100000) :
    Calls Try.prog 29 #[(.map (some bm)), (.slice A_l n_l c_l)] w fun e w' => ∃ v, e = .returned v ∧ (fun v w' => ∃ (A' : Option Addr) (c' : Nat), v = .slice A' (nnumL kn l).length c' ∧ SH w S w' [rowE eI 3 (.slice A' (nnumL kn l).length c') (nnumL kn l), mapE kS kI bm (kvOf (nkvL kn l))]) v w' := by
  subst hn_l
  have hS : SH w S w [mapE kS kI bm (kvOf kn)] := hS0
  refine calls (l := litOf [(.map (some bm)), (.slice A_l l.length c_l)] 0) Try.func29 rfl (n := 36) rfl (Nat.le_of_ble_eq_true rfl) (lit_args _) ?_
  refine WC.seq ?_
  refine WC.region ?_
  refine WL.lv rfl (LV.asg rfl) ?_
  refine WL.nil (thenQ.n ?_)
  refine WC.seq ?_
  refine WC.region ?_
  have hS1 := SH.nilRow (E := eI) (T := 3) hS
  refine WL.lv rfl (LV.asg rfl) ?_
  refine WL.nil (thenQ.n ?_)
  iterate 2 refine WC.seq ?_
  refine WC.region ?_
  refine WL.lv rfl (LV.mv rfl) ?_
  refine WL.lv rfl (LV.lenL Try.underlying22 rfl) ?_
  refine WL.lv rfl (LV.mv rfl) ?_
  refine WL.nil (thenQ.n ?_)
  refine WC.block ?_
  refine WC.loop (fun m_ f_ w_ => ∃ (known : List (ByteArray × Int)) (A_out : Option Addr) (c_out : Nat) (out : List Int) (ix : Int), (0 ≤ ix) ∧ (ix ≤ (l.length : Int)) ∧ (known = kvOf (nkvL kn (l.take ix.toNat))) ∧ (out = nnumL kn (l.take ix.toNat)) ∧ ((out.length : Int) = ix) ∧ SH w S w_ [rowE eI 3 (.slice A_out out.length c_out) out, mapE kS kI bm known] ∧ m_ = (((l.length : Int) - ix).toNat) ∧ Weak (lit [(0, (.map (some bm))), (5, (.slice A_out out.length c_out)), (10, (.slice A_l l.length c_l)), (11, (.int .i64 (l.length : Int))), (12, (.int .i64 ix))]) f_) _ ⟨(kvOf kn), none, 0, [], 0, by omega, by omega, rfl, rfl, rfl, hS1, rfl, Weak.cons rfl <| Weak.cons rfl <| Weak.cons rfl <| Weak.cons rfl <| Weak.cons rfl <| Weak.nil _⟩ ?_
  rintro m1 f1 w1 ⟨known, A_out, c_out, out, ix, ixlo, ixhi, q1, q2, q3, hL1, rfl, hw1⟩
  refine WC.weak hw1 ?_
  clear hw1
  have hkl_ : known.length ≤ 200000 := by rw [q1]; unfold kvOf; rw [kvF_len]; have h_ := nkvL_len kn (l.take ix.toNat); rw [List.length_take] at h_; omega
  refine WC.seq ?_
  refine WC.region ?_
  refine WL.lv rfl (LV.ltI rfl rfl) ?_
  refine WL.nil (thenQ.n ?_)
  refine WC.seq ?_
  refine WC.condP (p := ix < (l.length : Int)) rfl (fun hk => ?_) (fun hk => ?_)
  · skip
    refine WC.skip (thenQ.n ?_)
    refine WC.seq ?_
    refine WC.block ?_
    refine WC.seq ?_
    refine WC.region ?_
    obtain ⟨A1, c1, e1, g1⟩ := St.elt (SH.stN hL1 h_l) ByteArray.empty ix (by omega) (by omega)
    refine WL.lv rfl (LV.idxA Try.underlying22 ti9.sz rfl e1 rfl (by omega) (by omega)) ?_
    refine WL.lv rfl (LV.load1 (v := (.string (l.getD (ix).toNat ByteArray.empty))) Try.underlying9 rfl rfl (g1 _ (KB.refl No _) 0 _ rfl)) ?_
    refine WL.lv rfl (LV.asg rfl) ?_
    refine WL.nil (thenQ.n ?_)
    iterate 2 refine WC.seq ?_
    refine WC.region ?_
    iterate 2 refine WL.lv rfl (LV.mv rfl) ?_
    refine WL.lv rfl (LV.lookOk (q := (l.getD (ix).toNat ByteArray.empty)) (z := 0) (key_str Try.underlying9) Try.underlying51 ti3 (SH.at hL1 (.tail _ (.head _))) rfl rfl) ?_
    refine WL.lv rfl (LV.mv rfl) ?_
    iterate 2 refine WL.lv rfl (LV.extract rfl rfl) ?_
    iterate 2 refine WL.lv rfl (LV.asg rfl) ?_
    refine WL.nil (thenQ.n ?_)
    refine WC.seq ?_
    refine WC.region ?_
    refine WL.lv rfl (LV.mv rfl) ?_
    refine WL.lv rfl (LV.notB rfl) ?_
    refine WL.nil (thenQ.n ?_)
    refine WC.cond (b := !((lookL known (l.getD (ix).toNat ByteArray.empty)).isSome)) rfl (fun hnw => ?_) (fun hnw => ?_)
    · skip
      refine WC.region ?_
      iterate 3 refine WL.lv rfl (LV.mv rfl) ?_
      refine WL.lv rfl (LV.lenM Try.underlying51 (SH.at hL1 (.tail _ (.head _))) rfl) ?_
      have hS2 : SH w S w1 [mapE kS kI bm known, rowE eI 3 (.slice A_out out.length c_out) out] := (SH.front [_] hL1)
      refine WL.xse rfl (XSE.mapUpd (q := (l.getD (ix).toNat ByteArray.empty)) (v := (known.length : Int)) (key_str Try.underlying9) hS2 Try.underlying51 rfl rfl rfl) ?_
      rintro w2 ⟨hS3, hk1⟩
      refine WL.nil (thenQ.n ?_)
      refine WC.region ?_
      iterate 3 refine WL.lv rfl (LV.mv rfl) ?_
      refine WL.lv rfl (LV.look (q := (l.getD (ix).toNat ByteArray.empty)) (z := 0) (key_str Try.underlying9) Try.underlying51 ti3 (SH.at hS3 (.head _)) rfl rfl) ?_
      refine WL.xe rfl (XE.buildSlice (E := eI) [(0, (.int .i64 ((lookL (updL known (l.getD (ix).toNat ByteArray.empty) (known.length : Int)) (l.getD (ix).toNat ByteArray.empty)).getD 0)))] #[(.int .i64 ((lookL (updL known (l.getD (ix).toNat ByteArray.empty) (known.length : Int)) (l.getD (ix).toNat ByteArray.empty)).getD 0))] [(lookL (updL known (l.getD (ix).toNat ByteArray.empty) (known.length : Int)) (l.getD (ix).toNat ByteArray.empty)).getD 0] hS3 Try.underlying54 ti3 rfl (by decide) (by kernel_rfl) (.inr rfl) rfl rfl (by decide)) ?_
      rintro _ w3 ⟨b1, rfl, hS4, hk2⟩
      have hS5 : SH w S w3 [rowE eI 3 (.slice A_out out.length c_out) out, rowE eI 3 (.slice (some ⟨b1, 0, none⟩) 1 1) [(lookL (updL known (l.getD (ix).toNat ByteArray.empty) (known.length : Int)) (l.getD (ix).toNat ByteArray.empty)).getD 0], mapE kS kI bm (updL known (l.getD (ix).toNat ByteArray.empty) (known.length : Int))] := (SH.front [_, _] hS4)
      refine WL.xe rfl (XE.append hS5 Try.underlying54 ti3 rfl (St.now (SH.rd hS5 (.tail _ (.head _)))) rfl rfl (by first | omega | simp only [List.length_append, List.length_cons, List.length_nil, List.length_take, List.length_reverse, List.length_drop] at *; omega) (by first | omega | simp only [List.length_append, List.length_cons, List.length_nil, List.length_take, List.length_reverse, List.length_drop] at *; omega)) ?_
      rintro _ w4 ⟨A2, c2, rfl, hS6, hk3⟩
      refine WL.lv rfl (LV.asg rfl) ?_
      refine WL.nil (blockQ.n <| thenQ.n ?_)
      refine WC.region ?_
      refine WL.lv rfl (LV.add rfl rfl (wr64 (by omega) (by omega))) ?_
      refine WL.lv rfl (LV.mv rfl) ?_
      refine WL.nil (thenQ.n ?_)
      have hS7 : SH w S w4 [rowE eI 3 (.slice A2 ((out ++ [(lookL (updL known (l.getD (ix).toNat ByteArray.empty) (known.length : Int)) (l.getD (ix).toNat ByteArray.empty)).getD 0]).length) c2) (out ++ [(lookL (updL known (l.getD (ix).toNat ByteArray.empty) (known.length : Int)) (l.getD (ix).toNat ByteArray.empty)).getD 0]), mapE kS kI bm (updL known (l.getD (ix).toNat ByteArray.empty) (known.length : Int))] := (SH.take 2 rfl (SH.front [_] (SH.front [_, _] hS6)))
      exact ⟨_, by omega, (updL known (l.getD (ix).toNat ByteArray.empty) (known.length : Int)), A2, c2, (out ++ [(lookL (updL known (l.getD (ix).toNat ByteArray.empty) (known.length : Int)) (l.getD (ix).toNat ByteArray.empty)).getD 0]), ix + 1, by omega, by omega, ((nw_new ixlo hk q1 rfl hnw).1), (nn_step ixlo hk q2 (nw_new ixlo hk q1 rfl hnw).2), (by simp; omega), hS7, rfl, Weak.cons rfl <| Weak.cons rfl <| Weak.cons rfl <| Weak.cons rfl <| Weak.cons rfl <| Weak.nil _⟩
    · skip
      refine WC.skip (thenQ.n ?_)
      refine WC.region ?_
      iterate 3 refine WL.lv rfl (LV.mv rfl) ?_
      refine WL.lv rfl (LV.look (q := (l.getD (ix).toNat ByteArray.empty)) (z := 0) (key_str Try.underlying9) Try.underlying51 ti3 (SH.at hL1 (.tail _ (.head _))) rfl rfl) ?_
      refine WL.xe rfl (XE.buildSlice (E := eI) [(0, (.int .i64 ((lookL known (l.getD (ix).toNat ByteArray.empty)).getD 0)))] #[(.int .i64 ((lookL known (l.getD (ix).toNat ByteArray.empty)).getD 0))] [(lookL known (l.getD (ix).toNat ByteArray.empty)).getD 0] hL1 Try.underlying54 ti3 rfl (by decide) (by kernel_rfl) (.inr rfl) rfl rfl (by decide)) ?_
      rintro _ w5 ⟨b2, rfl, hS8, hk4⟩
      have hS9 : SH w S w5 [rowE eI 3 (.slice A_out out.length c_out) out, rowE eI 3 (.slice (some ⟨b2, 0, none⟩) 1 1) [(lookL known (l.getD (ix).toNat ByteArray.empty)).getD 0], mapE kS kI bm known] := (SH.front [_] hS8)
      refine WL.xe rfl (XE.append hS9 Try.underlying54 ti3 rfl (St.now (SH.rd hS9 (.tail _ (.head _)))) rfl rfl (by first | omega | simp only [List.length_append, List.length_cons, List.length_nil, List.length_take, List.length_reverse, List.length_drop] at *; omega) (by first | omega | simp only [List.length_append, List.length_cons, List.length_nil, List.length_take, List.length_reverse, List.length_drop] at *; omega)) ?_
      rintro _ w6 ⟨A3, c3, rfl, hS10, hk5⟩
      refine WL.lv rfl (LV.asg rfl) ?_
      refine WL.nil (blockQ.n <| thenQ.n ?_)
      refine WC.region ?_
      refine WL.lv rfl (LV.add rfl rfl (wr64 (by omega) (by omega))) ?_
      refine WL.lv rfl (LV.mv rfl) ?_
      refine WL.nil (thenQ.n ?_)
      have hS11 : SH w S w6 [rowE eI 3 (.slice A3 ((out ++ [(lookL known (l.getD (ix).toNat ByteArray.empty)).getD 0]).length) c3) (out ++ [(lookL known (l.getD (ix).toNat ByteArray.empty)).getD 0]), mapE kS kI bm known] := (SH.take 2 rfl (SH.front [_] (SH.front [_, _] hS10)))
      exact ⟨_, by omega, known, A3, c3, (out ++ [(lookL known (l.getD (ix).toNat ByteArray.empty)).getD 0]), ix + 1, by omega, by omega, ((nw_old ixlo hk q1 rfl hnw).1), (nn_step ixlo hk q2 (nw_old ixlo hk q1 rfl hnw).2), (by simp; omega), hS11, rfl, Weak.cons rfl <| Weak.cons rfl <| Weak.cons rfl <| Weak.cons rfl <| Weak.cons rfl <| Weak.nil _⟩
  · skip
    refine WC.exit (thenQ.x <| thenQ.x <| blockQ.hit <| thenQ.n ?_)
    refine WC.seq ?_
    refine WC.region ?_
    refine WL.lv rfl (LV.mv rfl) ?_
    refine WL.lv rfl (LV.asg rfl) ?_
    refine WL.nil (thenQ.n ?_)
    refine WC.ret (?_)
    exact ⟨_, fun a ha => res1 rfl ha rfl, (by rw [← show out = (nnumL kn l) from by rw [q2, List.take_of_length_le (by omega)], ← show known = kvOf (nkvL kn l) from by rw [q1, List.take_of_length_le (by omega)]]; exact ⟨_, _, rfl, hL1⟩)⟩

theorem lay_calls {w : World} {S : Nat → Prop} {A : Option Addr} {c : Nat} {l : List (Int × ByteArray)} {dd : Int} {t : ByteArray} (hS0 : SH w S w [rowE eBt 49 (.slice A l.length c) l]) (hl : l.length ≤ 1000000) (ht : szB l + t.size ≤ 1000000000) :
    Calls Try.prog 30 #[(.slice A l.length c), (.int .i64 dd), (.string t)] w fun e w' => ∃ v, e = .returned v ∧ (fun v w' => ∃ (A' : Option Addr) (c' : Nat), v = .slice A' (LAYB l dd t).length c' ∧ SH w S w' [rowE eBt 49 (.slice A' (LAYB l dd t).length c') (LAYB l dd t)]) v w' := by
  have hS : SH w S w [rowE eBt 49 (.slice A l.length c) l] := hS0
  refine calls (l := litOf [(.slice A l.length c), (.int .i64 dd), (.string t)] 0) Try.func30 rfl (n := 39) rfl (Nat.le_of_ble_eq_true rfl) (lit_args _) ?_
  refine WC.seq ?_
  refine WC.region ?_
  refine WL.lv rfl (LV.asg rfl) ?_
  refine WL.nil (thenQ.n ?_)
  iterate 2 refine WC.seq ?_
  refine WC.region ?_
  refine WL.lv rfl (LV.mv rfl) ?_
  refine WL.lv rfl (LV.lenL Try.underlying29 rfl) ?_
  refine WL.lv rfl (LV.asg rfl) ?_
  refine WL.nil (thenQ.n ?_)
  refine WC.seq ?_
  refine WC.region ?_
  refine WL.lv rfl (LV.mv rfl) ?_
  rcases Decidable.em ((l.length : Int) > 0) with hg1 | hg1
  · refine WL.lv rfl (LV.as (LV.gtI rfl rfl) (decide_eq_true hg1)) ?_
    iterate 3 refine WL.lv rfl (LV.mv rfl) ?_
    refine WL.lv rfl (LV.sub rfl rfl (wr64 (by omega) (by omega))) ?_
    obtain ⟨A1, c1, e1, g1⟩ := St.elt (SH.rd hS (.head _)) (0, ByteArray.empty) ((l.length : Int) - 1) (by omega) (by omega)
    refine WL.lv rfl (LV.idxA Try.underlying29 ti49.sz rfl e1 rfl (by omega) (by omega)) ?_
    refine WL.lv rfl (LV.fieldA Try.underlying49 rfl ti47.sz rfl) ?_
    refine WL.lv rfl (LV.load1 (v := (.int .i64 ((l.getD ((l.length : Int) - 1).toNat (0, ByteArray.empty)).1))) Try.underlying47 rfl rfl (g1 _ (KB.refl No _) 0 _ rfl)) ?_
    refine WL.lv rfl (LV.mv rfl) ?_
    refine WL.lv rfl (LV.eqI rfl rfl) ?_
    refine WL.lv rfl (LV.pickT rfl rfl) ?_
    refine WL.nil (thenQ.n ?_)
    refine WC.condP (p := ((l.getD ((l.length : Int) - 1).toNat (0, ByteArray.empty)).1) = dd) rfl (fun hc1 => ?_) (fun hc1 => ?_)
    · skip
      refine WC.seq ?_
      refine WC.region ?_
      iterate 2 refine WL.lv rfl (LV.mv rfl) ?_
      refine WL.lv rfl (LV.sub rfl rfl (wr64 (by omega) (by omega))) ?_
      obtain ⟨A2, c2, e2, g2⟩ := St.elt (SH.rd hS (.head _)) (0, ByteArray.empty) ((l.length : Int) - 1) (by omega) (by omega)
      refine WL.lv rfl (LV.idxA Try.underlying29 ti49.sz rfl e2 rfl (by omega) (by omega)) ?_
      refine WL.lv rfl (LV.fieldA Try.underlying49 rfl ti9.sz rfl) ?_
      refine WL.lv rfl (LV.load1 (v := (.string ((l.getD ((l.length : Int) - 1).toNat (0, ByteArray.empty)).2))) Try.underlying9 rfl rfl (g2 _ (KB.refl No _) 1 _ rfl)) ?_
      refine WL.lv rfl (LV.mv rfl) ?_
      have hsm_ := szB_mem (l := l) (p := l.getD ((l.length : Int) - 1).toNat (0, ByteArray.empty)) (getD_mem (by omega))
      refine WL.lv rfl (LV.addS rfl rfl (by first | omega | (simp only [ByteArray.size_append, ByteArray.size_extract, lit1]; omega))) ?_
      obtain ⟨A3, c3, e3, g3⟩ := St.elt (SH.rd hS (.head _)) (0, ByteArray.empty) ((l.length : Int) - 1) (by omega) (by omega)
      refine WL.lv rfl (LV.idxA Try.underlying29 ti49.sz rfl e3 rfl (by omega) (by omega)) ?_
      refine WL.lv rfl (LV.fieldA Try.underlying49 rfl ti9.sz rfl) ?_
      refine WL.xse rfl (XSE.row1 (i := (l.length : Int) - 1) (o := 1) (k := (0, ByteArray.empty)) ((l.getD ((l.length : Int) - 1).toNat (0, ByteArray.empty)).1, ((l.getD ((l.length : Int) - 1).toNat (0, ByteArray.empty)).2) ++ t) hS e3 (by omega) (by omega) (by decide) ti9.sz rfl rfl rfl rfl) ?_
      rintro w1 ⟨hS1, hk1⟩
      refine WL.nil (thenQ.n ?_)
      refine WC.seq ?_
      refine WC.region ?_
      refine WL.lv rfl (LV.mv rfl) ?_
      refine WL.lv rfl (LV.asg rfl) ?_
      refine WL.nil (thenQ.n ?_)
      refine WC.ret (thenQ.r <| ?_)
      exact ⟨_, fun a ha => res1 rfl ha rfl, (by rw [show LAYB l dd t = (l.set ((l.length : Int) - 1).toNat ((l.getD ((l.length : Int) - 1).toNat (0, ByteArray.empty)).1, ((l.getD ((l.length : Int) - 1).toNat (0, ByteArray.empty)).2) ++ t)) from (lay_set (by omega) (by assumption)).symm, List.length_set]; exact ⟨_, _, rfl, hS1⟩)⟩
    · skip
      refine WC.skip (thenQ.n ?_)
      refine WC.seq ?_
      refine WC.region ?_
      iterate 3 refine WL.lv rfl (LV.mv rfl) ?_
      refine WL.lv rfl (LV.build (vs := [(0, (.int .i64 dd)), (1, (.string t))]) (places := #[(0, 1), (1, 1)]) (cs := #[(.int .i64 dd), (.string t)]) Try.underlying49 ti49 (fun _ => by kernel_rfl) rfl rfl) ?_
      refine WL.xe rfl (XE.buildSlice (E := eBt) [(0, (.agg #[(.int .i64 dd), (.string t)]))] #[(.int .i64 dd), (.string t)] [((dd : Int), (t : ByteArray))] hS Try.underlying29 ti49 rfl (by decide) (by kernel_rfl) (.inr rfl) rfl rfl (by decide)) ?_
      rintro _ w2 ⟨b1, rfl, hS2, hk2⟩
      have hS3 : SH w S w2 [rowE eBt 49 (.slice A l.length c) l, rowE eBt 49 (.slice (some ⟨b1, 0, none⟩) 1 1) [((dd : Int), (t : ByteArray))]] := (SH.front [_] hS2)
      refine WL.xe rfl (XE.append hS3 Try.underlying29 ti49 rfl (St.now (SH.rd hS3 (.tail _ (.head _)))) rfl rfl (by first | omega | simp only [List.length_append, List.length_cons, List.length_nil, List.length_take, List.length_reverse, List.length_drop] at *; omega) (by first | omega | simp only [List.length_append, List.length_cons, List.length_nil, List.length_take, List.length_reverse, List.length_drop] at *; omega)) ?_
      rintro _ w3 ⟨A4, c4, rfl, hS4, hk3⟩
      refine WL.lv rfl (LV.asg rfl) ?_
      refine WL.nil (thenQ.n ?_)
      refine WC.ret (?_)
      have hS5 : SH w S w3 [rowE eBt 49 (.slice A4 ((l ++ [((dd : Int), (t : ByteArray))]).length) c4) (l ++ [((dd : Int), (t : ByteArray))])] := (SH.take 1 rfl hS4)
      exact ⟨_, fun a ha => res1 rfl ha rfl, (by rw [show LAYB l dd t = l ++ [(dd, t)] from (lay_add (fun h1_ h2_ => by first | omega | contradiction)).symm]; exact ⟨_, _, rfl, hS5⟩)⟩
  · refine WL.lv rfl (LV.as (LV.gtI rfl rfl) (decide_eq_false hg1)) ?_
    refine WL.lv rfl (LV.mv rfl) ?_
    iterate 8 refine WL.off rfl ?_
    refine WL.lv rfl (LV.pickF rfl rfl) ?_
    refine WL.nil (thenQ.n ?_)
    refine WC.condF rfl ?_
    refine WC.skip (thenQ.n ?_)
    refine WC.seq ?_
    refine WC.region ?_
    iterate 3 refine WL.lv rfl (LV.mv rfl) ?_
    refine WL.lv rfl (LV.build (vs := [(0, (.int .i64 dd)), (1, (.string t))]) (places := #[(0, 1), (1, 1)]) (cs := #[(.int .i64 dd), (.string t)]) Try.underlying49 ti49 (fun _ => by kernel_rfl) rfl rfl) ?_
    refine WL.xe rfl (XE.buildSlice (E := eBt) [(0, (.agg #[(.int .i64 dd), (.string t)]))] #[(.int .i64 dd), (.string t)] [((dd : Int), (t : ByteArray))] hS Try.underlying29 ti49 rfl (by decide) (by kernel_rfl) (.inr rfl) rfl rfl (by decide)) ?_
    rintro _ w4 ⟨b2, rfl, hS6, hk4⟩
    have hS7 : SH w S w4 [rowE eBt 49 (.slice A l.length c) l, rowE eBt 49 (.slice (some ⟨b2, 0, none⟩) 1 1) [((dd : Int), (t : ByteArray))]] := (SH.front [_] hS6)
    refine WL.xe rfl (XE.append hS7 Try.underlying29 ti49 rfl (St.now (SH.rd hS7 (.tail _ (.head _)))) rfl rfl (by first | omega | simp only [List.length_append, List.length_cons, List.length_nil, List.length_take, List.length_reverse, List.length_drop] at *; omega) (by first | omega | simp only [List.length_append, List.length_cons, List.length_nil, List.length_take, List.length_reverse, List.length_drop] at *; omega)) ?_
    rintro _ w5 ⟨A5, c5, rfl, hS8, hk5⟩
    refine WL.lv rfl (LV.asg rfl) ?_
    refine WL.nil (thenQ.n ?_)
    refine WC.ret (?_)
    have hS9 : SH w S w5 [rowE eBt 49 (.slice A5 ((l ++ [((dd : Int), (t : ByteArray))]).length) c5) (l ++ [((dd : Int), (t : ByteArray))])] := (SH.take 1 rfl hS8)
    exact ⟨_, fun a ha => res1 rfl ha rfl, (by rw [show LAYB l dd t = l ++ [(dd, t)] from (lay_add (fun h1_ h2_ => by first | omega | contradiction)).symm]; exact ⟨_, _, rfl, hS9⟩)⟩

theorem wlong_calls {w : World} {A_l : Option Addr} {n_l c_l : Nat} {l : List ByteArray} (h_l : St No w (Rd eS (.slice A_l n_l c_l) l)) (hn_l : l.length = n_l)  :
    Calls Try.prog 27 #[(.slice A_l n_l c_l)] w fun e w' => ∃ v, e = .returned v ∧ (fun v w' => v = .bool (decide (l.length > 400)) ∧ KB No w w') v w' := by
  subst hn_l
  have hS : SH w No w [] := SH.nil _ _
  refine calls (l := litOf [(.slice A_l l.length c_l)] 0) Try.func27 rfl (n := 6) rfl (Nat.le_of_ble_eq_true rfl) (lit_args _) ?_
  refine WC.seq ?_
  refine WC.region ?_
  refine WL.lv rfl (LV.asg rfl) ?_
  refine WL.nil (thenQ.n ?_)
  refine WC.seq ?_
  refine WC.region ?_
  refine WL.lv rfl (LV.mv rfl) ?_
  refine WL.lv rfl (LV.lenL Try.underlying22 rfl) ?_
  refine WL.lv rfl (LV.gtI rfl rfl) ?_
  refine WL.lv rfl (LV.asg rfl) ?_
  refine WL.nil (thenQ.n ?_)
  refine WC.ret (?_)
  exact ⟨_, fun a ha => res1 rfl ha rfl, congrArg Value.bool (decide_eq_decide.2 (by omega)), hS.kb⟩

end Go.Proofs.Ytjjilkibcomfcaa
