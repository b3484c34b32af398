/- Rows of numbers. -/
import Derived.Test.YtjjilkibcomfcaaMyT
import Derived.Test.YtjjilkibcomfcaaMyL
import Derived.Test.YtjjilkibcomfcaaInA
import Derived.Test.YtjjilkibcomfcaaGvX
namespace Go.Proofs.Ytjjilkibcomfcaa
open Go Go.Gv Go.RowKit Go.Mys Go.Itn
set_option linter.unusedVariables false
set_option linter.unusedSimpArgs false

theorem index_calls {w : World} {A_s : Option Addr} {n_s c_s : Nat} {s : List Int} {n : Int} (h_s : St No w (Rd eI (.slice A_s n_s c_s) s)) (hn_s : s.length = n_s)  :
    Calls Try.prog 71 #[(.slice A_s n_s c_s), (.int .i64 n)] w fun e w' => ∃ v, e = .returned v ∧ (fun v w' => v = .int .i64 (idx s n) ∧ KB No w w') v w' := by
  subst hn_s
  have hma := Rd.max h_s.now
  have hS : SH w No w [] := SH.nil _ _
  refine calls (l := litOf [(.slice A_s s.length c_s), (.int .i64 n)] 0) Try.func71 rfl (n := 19) rfl (Nat.le_of_ble_eq_true rfl) (lit_args _) ?_
  refine WC.seq ?_
  refine WC.region ?_
  refine WL.lv rfl (LV.asg rfl) ?_
  refine WL.nil (thenQ.n ?_)
  iterate 2 refine WC.seq ?_
  refine WC.region ?_
  refine WL.lv rfl (LV.mv rfl) ?_
  refine WL.lv rfl (LV.lenL Try.underlying54 rfl) ?_
  refine WL.lv rfl (LV.mv rfl) ?_
  refine WL.nil (thenQ.n ?_)
  refine WC.block ?_
  refine WC.loop (fun m_ f_ w_ => ∃ (ix : Int), (0 ≤ ix) ∧ (ix ≤ (s.length : Int)) ∧ (∀ t, 0 ≤ t → t < ix → ¬ n = gI s t) ∧ SH w No w_ [] ∧ m_ = (((s.length : Int) - ix).toNat) ∧ Weak (lit [(0, (.slice A_s s.length c_s)), (1, (.int .i64 n)), (7, (.int .i64 (s.length : Int))), (8, (.int .i64 ix))]) f_) _ ⟨0, by omega, by omega, (fun t h1 h2 => by omega), hS, rfl, Weak.cons rfl <| Weak.cons rfl <| Weak.cons rfl <| Weak.cons rfl <| Weak.nil _⟩ ?_
  rintro m1 f1 w1 ⟨ix, ixlo, ixhi, q1, hL1, rfl, hw1⟩
  refine WC.weak hw1 ?_
  clear hw1
  refine WC.seq ?_
  refine WC.region ?_
  refine WL.lv rfl (LV.ltI rfl rfl) ?_
  refine WL.nil (thenQ.n ?_)
  refine WC.seq ?_
  refine WC.condP (p := ix < (s.length : Int)) rfl (fun hk => ?_) (fun hk => ?_)
  · skip
    refine WC.skip (thenQ.n ?_)
    refine WC.seq ?_
    refine WC.block ?_
    refine WC.seq ?_
    refine WC.region ?_
    refine WL.lv rfl (LV.mv rfl) ?_
    refine WL.lv rfl (LV.asg rfl) ?_
    refine WL.nil (thenQ.n ?_)
    refine WC.seq ?_
    refine WC.region ?_
    iterate 3 refine WL.lv rfl (LV.mv rfl) ?_
    obtain ⟨A1, c1, e1, g1⟩ := St.elt (SH.stN hL1 h_s) 0 ix (by omega) (by omega)
    refine WL.lv rfl (LV.idxA Try.underlying54 ti3.sz rfl e1 rfl (by omega) (by omega)) ?_
    refine WL.lv rfl (LV.load1 (v := (.int .i64 (gI s (ix)))) Try.underlying3 rfl rfl (g1 _ (KB.refl No _) 0 _ rfl)) ?_
    refine WL.lv rfl (LV.eqI rfl rfl) ?_
    refine WL.nil (thenQ.n ?_)
    refine WC.condP (p := n = (gI s (ix))) rfl (fun hc16 => ?_) (fun hc16 => ?_)
    · skip
      refine WC.seq ?_
      refine WC.region ?_
      refine WL.lv rfl (LV.mv rfl) ?_
      refine WL.lv rfl (LV.asg rfl) ?_
      refine WL.nil (thenQ.n ?_)
      refine WC.ret (blockQ.r <| thenQ.r <| thenQ.r <| blockQ.r <| thenQ.r <| ?_)
      exact ⟨_, fun a ha => res1 rfl ha rfl, congrArg (Value.int .i64) (idx_of ixlo hk hc16 q1), hL1.kb⟩
    · skip
      refine WC.skip (blockQ.n <| thenQ.n ?_)
      refine WC.region ?_
      refine WL.lv rfl (LV.add rfl rfl (wr64 (by omega) (by omega))) ?_
      refine WL.lv rfl (LV.mv rfl) ?_
      refine WL.nil (thenQ.n ?_)
      exact ⟨_, by omega, ix + 1, by omega, by omega, (all_step (p := fun t => ¬ n = gI s t) q1 hc16), hL1, rfl, Weak.cons rfl <| Weak.cons rfl <| Weak.cons rfl <| Weak.cons rfl <| Weak.nil _⟩
  · skip
    refine WC.exit (thenQ.x <| thenQ.x <| blockQ.hit <| thenQ.n ?_)
    refine WC.seq ?_
    refine WC.region ?_
    refine WL.lv rfl (LV.asg rfl) ?_
    refine WL.nil (thenQ.n ?_)
    refine WC.ret (?_)
    exact ⟨_, fun a ha => res1 rfl ha rfl, congrArg (Value.int .i64) ((idx_no (fun t h1 h2 => q1 t h1 (by omega))).symm), hL1.kb⟩

theorem often_calls {w : World} {A_l : Option Addr} {n_l c_l : Nat} {l : List Int} (h_l : St No w (Rd eI (.slice A_l n_l c_l) l)) (hn_l : l.length = n_l) (hl : l.length ≤ 1000000) :
    Calls Try.prog 70 #[(.slice A_l n_l c_l)] w fun e w' => ∃ v, e = .returned v ∧ (fun v w' => ∃ (b0' : Nat), v = .map (some b0') ∧ SH w No w' [mapE kI kI b0' (oft l)]) v w' := by
  subst hn_l
  have hS : SH w No w [] := SH.nil _ _
  refine calls (l := litOf [(.slice A_l l.length c_l)] 0) Try.func70 rfl (n := 19) rfl (Nat.le_of_ble_eq_true rfl) (lit_args _) ?_
  refine WC.seq ?_
  refine WC.region ?_
  refine WL.lv rfl (LV.asg rfl) ?_
  refine WL.nil (thenQ.n ?_)
  refine WC.seq ?_
  refine WC.region ?_
  refine WL.xe rfl (XE.makeMap kI kI hS) ?_
  rintro _ w1 ⟨b1, rfl, hS1, hk1⟩
  refine WL.lv rfl (LV.asg rfl) ?_
  refine WL.nil (thenQ.n ?_)
  iterate 2 refine WC.seq ?_
  refine WC.region ?_
  refine WL.lv rfl (LV.mv rfl) ?_
  refine WL.lv rfl (LV.lenL Try.underlying54 rfl) ?_
  refine WL.lv rfl (LV.mv rfl) ?_
  refine WL.nil (thenQ.n ?_)
  refine WC.block ?_
  refine WC.loop (fun m_ f_ w_ => ∃ (out : List (Int × Int)) (ix : Int), (0 ≤ ix) ∧ (ix ≤ (l.length : Int)) ∧ (out = oft (l.take ix.toNat)) ∧ SH w No w_ [mapE kI kI b1 out] ∧ m_ = (((l.length : Int) - ix).toNat) ∧ Weak (lit [(3, (.map (some b1))), (7, (.slice A_l l.length c_l)), (8, (.int .i64 (l.length : Int))), (9, (.int .i64 ix))]) f_) _ ⟨[], 0, by omega, by omega, rfl, hS1, rfl, Weak.cons rfl <| Weak.cons rfl <| Weak.cons rfl <| Weak.cons rfl <| Weak.nil _⟩ ?_
  rintro m1 f1 w2 ⟨out, ix, ixlo, ixhi, q1, hL1, rfl, hw1⟩
  refine WC.weak hw1 ?_
  clear hw1
  refine WC.seq ?_
  refine WC.region ?_
  refine WL.lv rfl (LV.ltI rfl rfl) ?_
  refine WL.nil (thenQ.n ?_)
  refine WC.seq ?_
  refine WC.condP (p := ix < (l.length : Int)) rfl (fun hk => ?_) (fun hk => ?_)
  · have hoc := oft_le (l.take ix.toNat) (gI l ix)
    rw [← q1, List.length_take] at hoc
    refine WC.skip (thenQ.n ?_)
    refine WC.seq ?_
    refine WC.block ?_
    refine WC.seq ?_
    refine WC.region ?_
    obtain ⟨A1, c1, e1, g1⟩ := St.elt (SH.stN hL1 h_l) 0 ix (by omega) (by omega)
    refine WL.lv rfl (LV.idxA Try.underlying54 ti3.sz rfl e1 rfl (by omega) (by omega)) ?_
    refine WL.lv rfl (LV.load1 (v := (.int .i64 (gI l (ix)))) Try.underlying3 rfl rfl (g1 _ (KB.refl No _) 0 _ rfl)) ?_
    refine WL.lv rfl (LV.asg rfl) ?_
    refine WL.nil (thenQ.n ?_)
    refine WC.region ?_
    iterate 2 refine WL.lv rfl (LV.mv rfl) ?_
    refine WL.lv rfl (LV.look (q := (gI l (ix))) (z := 0) (key_int Try.underlying3) Try.underlying99 ti3 (SH.at hL1 (.head _)) rfl rfl) ?_
    refine WL.lv rfl (LV.add rfl rfl (wr64 (by omega) (by omega))) ?_
    refine WL.xse rfl (XSE.mapUpd (q := (gI l (ix))) (v := (((lookL out (gI l (ix))).getD 0) + 1)) (key_int Try.underlying3) hL1 Try.underlying99 rfl rfl rfl) ?_
    rintro w3 ⟨hS2, hk2⟩
    refine WL.nil (blockQ.n <| thenQ.n ?_)
    refine WC.region ?_
    refine WL.lv rfl (LV.add rfl rfl (wr64 (by omega) (by omega))) ?_
    refine WL.lv rfl (LV.mv rfl) ?_
    refine WL.nil (thenQ.n ?_)
    exact ⟨_, by omega, (updL out (gI l (ix)) (((lookL out (gI l (ix))).getD 0) + 1)), ix + 1, by omega, by omega, (oft_step ixlo hk q1), hS2, rfl, Weak.cons rfl <| Weak.cons rfl <| Weak.cons rfl <| Weak.cons rfl <| Weak.nil _⟩
  · skip
    refine WC.exit (thenQ.x <| thenQ.x <| blockQ.hit <| thenQ.n ?_)
    refine WC.seq ?_
    refine WC.region ?_
    refine WL.lv rfl (LV.mv rfl) ?_
    refine WL.lv rfl (LV.asg rfl) ?_
    refine WL.nil (thenQ.n ?_)
    refine WC.ret (?_)
    have hres1 : out = oft l := by rw [q1, take_all (by omega)]
    exact ⟨_, fun a ha => res1 rfl ha rfl, (by rw [← hres1]; exact ⟨_, rfl, hL1⟩)⟩

theorem count_calls {w : World} {A_l : Option Addr} {n_l c_l : Nat} {l : List Int} {n : Int} (h_l : St No w (Rd eI (.slice A_l n_l c_l) l)) (hn_l : l.length = n_l)  :
    Calls Try.prog 67 #[(.slice A_l n_l c_l), (.int .i64 n)] w fun e w' => ∃ v, e = .returned v ∧ (fun v w' => v = .int .i64 (l.count n : Int) ∧ KB No w w') v w' := by
  subst hn_l
  have hma := Rd.max h_l.now
  have hS : SH w No w [] := SH.nil _ _
  refine calls (l := litOf [(.slice A_l l.length c_l), (.int .i64 n)] 0) Try.func67 rfl (n := 22) rfl (Nat.le_of_ble_eq_true rfl) (lit_args _) ?_
  refine WC.seq ?_
  refine WC.region ?_
  refine WL.lv rfl (LV.asg rfl) ?_
  refine WL.nil (thenQ.n ?_)
  refine WC.seq ?_
  refine WC.region ?_
  refine WL.lv rfl (LV.asg rfl) ?_
  refine WL.nil (thenQ.n ?_)
  iterate 2 refine WC.seq ?_
  refine WC.region ?_
  refine WL.lv rfl (LV.asg rfl) ?_
  refine WL.nil (thenQ.n ?_)
  refine WC.block ?_
  refine WC.loop (fun m_ f_ w_ => ∃ (out : Int) (i : Int), (0 ≤ i) ∧ (i ≤ (l.length : Int)) ∧ (out = ((l.take i.toNat).count n : Int)) ∧ (0 ≤ out ∧ out ≤ i) ∧ SH w No w_ [] ∧ m_ = (((l.length : Int) - i).toNat) ∧ Weak (lit [(0, (.slice A_l l.length c_l)), (1, (.int .i64 n)), (5, (.int .i64 out)), (6, (.int .i64 i))]) f_) _ ⟨0, 0, by omega, by omega, rfl, by omega, hS, rfl, Weak.cons rfl <| Weak.cons rfl <| Weak.cons rfl <| Weak.cons rfl <| Weak.nil _⟩ ?_
  rintro m1 f1 w1 ⟨out, i, ilo, ihi, q1, q2, hL1, rfl, hw1⟩
  refine WC.weak hw1 ?_
  clear hw1
  iterate 2 refine WC.seq ?_
  refine WC.region ?_
  iterate 2 refine WL.lv rfl (LV.mv rfl) ?_
  refine WL.lv rfl (LV.lenL Try.underlying54 rfl) ?_
  refine WL.lv rfl (LV.ltI rfl rfl) ?_
  refine WL.nil (thenQ.n ?_)
  refine WC.condP (p := i < (l.length : Int)) rfl (fun hk => ?_) (fun hk => ?_)
  · skip
    refine WC.skip (thenQ.n ?_)
    refine WC.seq ?_
    refine WC.block ?_
    refine WC.seq ?_
    refine WC.region ?_
    iterate 2 refine WL.lv rfl (LV.mv rfl) ?_
    obtain ⟨A1, c1, e1, g1⟩ := St.elt (SH.stN hL1 h_l) 0 i (by omega) (by omega)
    refine WL.lv rfl (LV.idxA Try.underlying54 ti3.sz rfl e1 rfl (by omega) (by omega)) ?_
    refine WL.lv rfl (LV.load1 (v := (.int .i64 (gI l (i)))) Try.underlying3 rfl rfl (g1 _ (KB.refl No _) 0 _ rfl)) ?_
    refine WL.lv rfl (LV.mv rfl) ?_
    refine WL.lv rfl (LV.eqI rfl rfl) ?_
    refine WL.nil (thenQ.n ?_)
    refine WC.condP (p := (gI l (i)) = n) rfl (fun hc18 => ?_) (fun hc18 => ?_)
    · skip
      refine WC.region ?_
      refine WL.lv rfl (LV.mv rfl) ?_
      refine WL.lv rfl (LV.add rfl rfl (wr64 (by omega) (by omega))) ?_
      refine WL.lv rfl (LV.asg rfl) ?_
      refine WL.nil (blockQ.n <| thenQ.n ?_)
      refine WC.region ?_
      refine WL.lv rfl (LV.mv rfl) ?_
      refine WL.lv rfl (LV.add rfl rfl (wr64 (by omega) (by omega))) ?_
      refine WL.lv rfl (LV.asg rfl) ?_
      refine WL.nil (thenQ.n ?_)
      exact ⟨_, by omega, out + 1, i + 1, by omega, by omega, ((count_step ilo hk q1).1 hc18), by omega, hL1, rfl, Weak.cons rfl <| Weak.cons rfl <| Weak.cons rfl <| Weak.cons rfl <| Weak.nil _⟩
    · skip
      refine WC.skip (blockQ.n <| thenQ.n ?_)
      refine WC.region ?_
      refine WL.lv rfl (LV.mv rfl) ?_
      refine WL.lv rfl (LV.add rfl rfl (wr64 (by omega) (by omega))) ?_
      refine WL.lv rfl (LV.asg rfl) ?_
      refine WL.nil (thenQ.n ?_)
      exact ⟨_, by omega, out, i + 1, by omega, by omega, ((count_step ilo hk q1).2 hc18), by omega, hL1, rfl, Weak.cons rfl <| Weak.cons rfl <| Weak.cons rfl <| Weak.cons rfl <| Weak.nil _⟩
  · skip
    refine WC.exit (thenQ.x <| thenQ.x <| blockQ.hit <| thenQ.n ?_)
    refine WC.seq ?_
    refine WC.region ?_
    refine WL.lv rfl (LV.mv rfl) ?_
    refine WL.lv rfl (LV.asg rfl) ?_
    refine WL.nil (thenQ.n ?_)
    refine WC.ret (?_)
    exact ⟨_, fun a ha => res1 rfl ha rfl, congrArg (Value.int .i64) (by rw [q1, take_all (by omega)]), hL1.kb⟩

theorem once_calls {w : World} {A_a : Option Addr} {n_a c_a : Nat} {a : List Int} {A_b : Option Addr} {n_b c_b : Nat} {b : List Int} (h_a : St No w (Rd eI (.slice A_a n_a c_a) a)) (hn_a : a.length = n_a) (h_b : St No w (Rd eI (.slice A_b n_b c_b) b)) (hn_b : b.length = n_b) (hl : a.length ≤ 1000000) (hl2 : b.length ≤ 1000000) :
    Calls Try.prog 62 #[(.slice A_a n_a c_a), (.slice A_b n_b c_b)] w fun e w' => ∃ v, e = .returned v ∧ (fun v w' => ∃ (A0' : Option Addr) (c0' : Nat), v = .slice A0' (onc a b).length c0' ∧ SH w No w' [rowE eP 65 (.slice A0' (onc a b).length c0') (onc a b)]) v w' := by
  subst hn_a hn_b
  have hS : SH w No w [] := SH.nil _ _
  refine calls (l := litOf [(.slice A_a a.length c_a), (.slice A_b b.length c_b)] 0) Try.func62 rfl (n := 41) rfl (Nat.le_of_ble_eq_true rfl) (lit_args _) ?_
  refine WC.seq ?_
  refine WC.region ?_
  refine WL.lv rfl (LV.asg rfl) ?_
  refine WL.nil (thenQ.n ?_)
  refine WC.seq ?_
  refine WC.region ?_
  refine WL.lv rfl (LV.mv rfl) ?_
  refine WL.call rfl (XC.fn Try.func70 (by kernel_rfl) rfl rfl rfl) (often_calls  (SH.stN hS h_a) rfl (by omega)) ?_
  rintro v_ w1 ⟨b1, rfl, hS1⟩
  have hS2 := SH.joinN hS hS1
  refine WL.lv rfl (LV.mv rfl) ?_
  refine WL.call rfl (XC.fn Try.func70 (by kernel_rfl) rfl rfl rfl) (often_calls  (SH.stN hS2 h_b) rfl (by omega)) ?_
  rintro v_ w2 ⟨b2, rfl, hS3⟩
  have hS4 := SH.joinN hS2 hS3
  iterate 2 refine WL.lv rfl (LV.asg rfl) ?_
  refine WL.nil (thenQ.n ?_)
  refine WC.seq ?_
  refine WC.region ?_
  refine WL.lv rfl (LV.asg rfl) ?_
  refine WL.nil (thenQ.n ?_)
  iterate 2 refine WC.seq ?_
  refine WC.region ?_
  refine WL.lv rfl (LV.mv rfl) ?_
  have hS5 := SH.nilRow (E := eP) (T := 65) hS4
  refine WL.lv rfl (LV.lenL Try.underlying54 rfl) ?_
  refine WL.lv rfl (LV.mv rfl) ?_
  refine WL.nil (thenQ.n ?_)
  refine WC.block ?_
  refine WC.loop (fun m_ f_ w_ => ∃ (A_out : Option Addr) (c_out : Nat) (out : List (Int × Int)) (ix : Int), (0 ≤ ix) ∧ (ix ≤ (a.length : Int)) ∧ (out = oncT a b ix.toNat) ∧ SH w No w_ [rowE eP 65 (.slice A_out out.length c_out) out, mapE kI kI b2 (oft b), mapE kI kI b1 (oft a)] ∧ m_ = (((a.length : Int) - ix).toNat) ∧ Weak (lit [(1, (.slice A_b b.length c_b)), (5, (.map (some b1))), (6, (.map (some b2))), (7, (.slice A_out out.length c_out)), (14, (.slice A_a a.length c_a)), (15, (.int .i64 (a.length : Int))), (16, (.int .i64 ix))]) f_) _ ⟨none, 0, [], 0, by omega, by omega, rfl, hS5, rfl, Weak.cons rfl <| Weak.cons rfl <| Weak.cons rfl <| Weak.cons rfl <| Weak.cons rfl <| Weak.cons rfl <| Weak.cons rfl <| Weak.nil _⟩ ?_
  rintro m1 f1 w3 ⟨A_out, c_out, out, ix, ixlo, ixhi, q1, hL1, rfl, hw1⟩
  refine WC.weak hw1 ?_
  clear hw1
  have hol := oncT_len a b ix.toNat
  rw [← q1] at hol
  refine WC.seq ?_
  refine WC.region ?_
  refine WL.lv rfl (LV.ltI rfl rfl) ?_
  refine WL.nil (thenQ.n ?_)
  refine WC.seq ?_
  refine WC.condP (p := ix < (a.length : Int)) rfl (fun hk => ?_) (fun hk => ?_)
  · skip
    refine WC.skip (thenQ.n ?_)
    refine WC.seq ?_
    refine WC.block ?_
    refine WC.seq ?_
    refine WC.region ?_
    refine WL.lv rfl (LV.mv rfl) ?_
    obtain ⟨A1, c1, e1, g1⟩ := St.elt (SH.stN hL1 h_a) 0 ix (by omega) (by omega)
    refine WL.lv rfl (LV.idxA Try.underlying54 ti3.sz rfl e1 rfl (by omega) (by omega)) ?_
    refine WL.lv rfl (LV.load1 (v := (.int .i64 (gI a (ix)))) Try.underlying3 rfl rfl (g1 _ (KB.refl No _) 0 _ rfl)) ?_
    iterate 2 refine WL.lv rfl (LV.asg rfl) ?_
    refine WL.nil (thenQ.n ?_)
    refine WC.seq ?_
    refine WC.region ?_
    iterate 2 refine WL.lv rfl (LV.mv rfl) ?_
    refine WL.lv rfl (LV.look (q := (gI a (ix))) (z := 0) (key_int Try.underlying3) Try.underlying99 ti3 (SH.at hL1 (.tail _ (.tail _ (.head _)))) rfl rfl) ?_
    rcases Decidable.em (((lookL (oft a) (gI a (ix))).getD 0) = 1) with hg1 | hg1
    · refine WL.lv rfl (LV.as (LV.eqI rfl rfl) (decide_eq_true hg1)) ?_
      iterate 3 refine WL.lv rfl (LV.mv rfl) ?_
      refine WL.lv rfl (LV.look (q := (gI a (ix))) (z := 0) (key_int Try.underlying3) Try.underlying99 ti3 (SH.at hL1 (.tail _ (.head _))) rfl rfl) ?_
      refine WL.lv rfl (LV.eqI rfl rfl) ?_
      refine WL.lv rfl (LV.pickT rfl rfl) ?_
      refine WL.nil (thenQ.n ?_)
      refine WC.condP (p := ((lookL (oft b) (gI a (ix))).getD 0) = 1) rfl (fun hc1 => ?_) (fun hc1 => ?_)
      · skip
        refine WC.region ?_
        iterate 4 refine WL.lv rfl (LV.mv rfl) ?_
        refine WL.call rfl (XC.fn Try.func71 (by kernel_rfl) rfl rfl rfl) (index_calls (n := (gI a (ix))) (SH.stN hL1 h_b) rfl ) ?_
        rintro v_ w4 ⟨rfl, hk1⟩
        have hS6 := SH.same hL1 hk1
        refine WL.lv rfl (LV.buildA (vs := [(0, (.int .i64 ix)), (1, (.int .i64 (idx b (gI a (ix)))))]) (cs := #[(.int .i64 ix), (.int .i64 (idx b (gI a (ix))))]) Try.underlying65 ti65 ti3 rfl rfl) ?_
        refine WL.xe rfl (XE.buildSlice (E := eP) [(0, (.agg #[(.int .i64 ix), (.int .i64 (idx b (gI a (ix))))]))] #[(.int .i64 ix), (.int .i64 (idx b (gI a (ix))))] [(ix, idx b (gI a (ix)))] hS6 Try.underlying63 ti65 rfl (by decide) (by kernel_rfl) (.inr rfl) rfl rfl (by decide)) ?_
        rintro _ w5 ⟨b3, rfl, hS7, hk2⟩
        have hS8 : SH w No w5 [rowE eP 65 (.slice A_out out.length c_out) out, rowE eP 65 (.slice (some ⟨b3, 0, none⟩) 1 1) [(ix, idx b (gI a (ix)))], mapE kI kI b2 (oft b), mapE kI kI b1 (oft a)] := (SH.front [rowE eP 65 (.slice (some ⟨b3, 0, none⟩) 1 1) [(ix, idx b (gI a (ix)))]] hS7)
        refine WL.xe rfl (XE.append hS8 Try.underlying63 ti65 rfl (St.now (SH.rd hS8 (.tail _ (.head _)))) rfl rfl (by first | omega | simp only [List.length_append, List.length_cons, List.length_nil, List.length_take, List.length_reverse, List.length_drop] at *; omega) (by first | omega | simp only [List.length_append, List.length_cons, List.length_nil, List.length_take, List.length_reverse, List.length_drop] at *; omega)) ?_
        rintro _ w6 ⟨A2, c2, rfl, hS9, hk3⟩
        refine WL.lv rfl (LV.asg rfl) ?_
        refine WL.nil (blockQ.n <| thenQ.n ?_)
        refine WC.region ?_
        refine WL.lv rfl (LV.add rfl rfl (wr64 (by omega) (by omega))) ?_
        refine WL.lv rfl (LV.mv rfl) ?_
        refine WL.nil (thenQ.n ?_)
        have hS10 : SH w No w6 [rowE eP 65 (.slice A2 ((out ++ [(ix, idx b (gI a (ix)))]).length) c2) (out ++ [(ix, idx b (gI a (ix)))]), mapE kI kI b2 (oft b), mapE kI kI b1 (oft a)] := (SH.take 3 rfl (SH.front [mapE kI kI b2 (oft b), mapE kI kI b1 (oft a)] (SH.front [mapE kI kI b1 (oft a), rowE eP 65 (.slice A2 ((out ++ [(ix, idx b (gI a (ix)))]).length) c2) (out ++ [(ix, idx b (gI a (ix)))]), rowE eP 65 (.slice (some ⟨b3, 0, none⟩) 1 1) [(ix, idx b (gI a (ix)))]] (SH.front [rowE eP 65 (.slice A2 ((out ++ [(ix, idx b (gI a (ix)))]).length) c2) (out ++ [(ix, idx b (gI a (ix)))]), rowE eP 65 (.slice (some ⟨b3, 0, none⟩) 1 1) [(ix, idx b (gI a (ix)))], mapE kI kI b2 (oft b)] hS9))))
        exact ⟨_, by omega, A2, c2, (out ++ [(ix, idx b (gI a (ix)))]), ix + 1, by omega, by omega, (onc_yes ixlo q1 (by have h_ := oft_count a (gI a ix); omega) (by have h_ := oft_count b (gI a ix); omega)), hS10, rfl, Weak.cons rfl <| Weak.cons rfl <| Weak.cons rfl <| Weak.cons rfl <| Weak.cons rfl <| Weak.cons rfl <| Weak.cons rfl <| Weak.nil _⟩
      · skip
        refine WC.skip (blockQ.n <| thenQ.n ?_)
        refine WC.region ?_
        refine WL.lv rfl (LV.add rfl rfl (wr64 (by omega) (by omega))) ?_
        refine WL.lv rfl (LV.mv rfl) ?_
        refine WL.nil (thenQ.n ?_)
        exact ⟨_, by omega, A_out, c_out, out, ix + 1, by omega, by omega, (onc_no ixlo q1 (fun h_ => by have h1_ := oft_count a (gI a ix); have h2_ := oft_count b (gI a ix); omega)), hL1, rfl, Weak.cons rfl <| Weak.cons rfl <| Weak.cons rfl <| Weak.cons rfl <| Weak.cons rfl <| Weak.cons rfl <| Weak.cons rfl <| Weak.nil _⟩
    · refine WL.lv rfl (LV.as (LV.eqI rfl rfl) (decide_eq_false hg1)) ?_
      refine WL.lv rfl (LV.mv rfl) ?_
      iterate 4 refine WL.off rfl ?_
      refine WL.lv rfl (LV.pickF rfl rfl) ?_
      refine WL.nil (thenQ.n ?_)
      refine WC.condF rfl ?_
      refine WC.skip (blockQ.n <| thenQ.n ?_)
      refine WC.region ?_
      refine WL.lv rfl (LV.add rfl rfl (wr64 (by omega) (by omega))) ?_
      refine WL.lv rfl (LV.mv rfl) ?_
      refine WL.nil (thenQ.n ?_)
      exact ⟨_, by omega, A_out, c_out, out, ix + 1, by omega, by omega, (onc_no ixlo q1 (fun h_ => by have h1_ := oft_count a (gI a ix); have h2_ := oft_count b (gI a ix); omega)), hL1, rfl, Weak.cons rfl <| Weak.cons rfl <| Weak.cons rfl <| Weak.cons rfl <| Weak.cons rfl <| Weak.cons rfl <| Weak.cons rfl <| Weak.nil _⟩
  · skip
    refine WC.exit (thenQ.x <| thenQ.x <| blockQ.hit <| thenQ.n ?_)
    refine WC.seq ?_
    refine WC.region ?_
    refine WL.lv rfl (LV.mv rfl) ?_
    refine WL.lv rfl (LV.asg rfl) ?_
    refine WL.nil (thenQ.n ?_)
    refine WC.ret (?_)
    have hS11 : SH w No w3 [rowE eP 65 (.slice A_out out.length c_out) out] := (SH.take 1 rfl hL1)
    have hres1 : (out : List (Int × Int)) = onc a b := by rw [q1]; unfold onc; congr 1; omega
    exact ⟨_, fun a ha => res1 rfl ha rfl, (by rw [← hres1]; exact ⟨_, _, rfl, hS11⟩)⟩

theorem ronce_calls {w : World} {A_a : Option Addr} {n_a c_a : Nat} {a : List Int} {A_b : Option Addr} {n_b c_b : Nat} {b : List Int} (h_a : St No w (Rd eI (.slice A_a n_a c_a) a)) (hn_a : a.length = n_a) (h_b : St No w (Rd eI (.slice A_b n_b c_b) b)) (hn_b : b.length = n_b) (hl : a.length ≤ 1000000) (hl2 : b.length ≤ 1000000) :
    Calls Try.prog 59 #[(.slice A_a n_a c_a), (.slice A_b n_b c_b)] w fun e w' => ∃ v, e = .returned v ∧ (fun v w' => ∃ (A0' : Option Addr) (c0' : Nat), v = .slice A0' (onc a b).length c0' ∧ SH w No w' [rowE eP 65 (.slice A0' (onc a b).length c0') (onc a b)]) v w' := by
  subst hn_a hn_b
  have hS : SH w No w [] := SH.nil _ _
  refine calls (l := litOf [(.slice A_a a.length c_a), (.slice A_b b.length c_b)] 0) Try.func59 rfl (n := 55) rfl (Nat.le_of_ble_eq_true rfl) (lit_args _) ?_
  refine WC.seq ?_
  refine WC.region ?_
  refine WL.lv rfl (LV.asg rfl) ?_
  refine WL.nil (thenQ.n ?_)
  refine WC.seq ?_
  refine WC.region ?_
  refine WL.xe rfl (XE.buildSlice (E := eP) [] #[] [] hS Try.underlying63 ti65 rfl (by decide) (by kernel_rfl) (.inr rfl) rfl rfl (by decide)) ?_
  rintro _ w1 ⟨b1, rfl, hS1, hk1⟩
  refine WL.lv rfl (LV.asg rfl) ?_
  refine WL.nil (thenQ.n ?_)
  iterate 2 refine WC.seq ?_
  refine WC.region ?_
  refine WL.lv rfl (LV.asg rfl) ?_
  refine WL.nil (thenQ.n ?_)
  refine WC.block ?_
  refine WC.loop (fun m_ f_ w_ => ∃ (A_out : Option Addr) (c_out : Nat) (out : List (Int × Int)) (i : Int), (0 ≤ i) ∧ (i ≤ (a.length : Int)) ∧ (out = oncT a b i.toNat) ∧ SH w No w_ [rowE eP 65 (.slice A_out out.length c_out) out] ∧ m_ = (((a.length : Int) - i).toNat) ∧ Weak (lit [(0, (.slice A_a a.length c_a)), (1, (.slice A_b b.length c_b)), (5, (.slice A_out out.length c_out)), (6, (.int .i64 i))]) f_) _ ⟨(some ⟨b1, 0, none⟩), 0, [], 0, by omega, by omega, rfl, hS1, rfl, Weak.cons rfl <| Weak.cons rfl <| Weak.cons rfl <| Weak.cons rfl <| Weak.nil _⟩ ?_
  rintro m1 f1 w2 ⟨A_out, c_out, out, i, ilo, ihi, q1, hL1, rfl, hw1⟩
  refine WC.weak hw1 ?_
  clear hw1
  have hol := oncT_len a b i.toNat
  iterate 2 refine WC.seq ?_
  refine WC.region ?_
  iterate 2 refine WL.lv rfl (LV.mv rfl) ?_
  refine WL.lv rfl (LV.lenL Try.underlying54 rfl) ?_
  refine WL.lv rfl (LV.ltI rfl rfl) ?_
  refine WL.nil (thenQ.n ?_)
  refine WC.condP (p := i < (a.length : Int)) rfl (fun hc1 => ?_) (fun hc1 => ?_)
  · skip
    refine WC.skip (thenQ.n ?_)
    refine WC.seq ?_
    refine WC.block ?_
    refine WC.seq ?_
    refine WC.region ?_
    refine WL.lv rfl (LV.asg rfl) ?_
    refine WL.nil (thenQ.n ?_)
    refine WC.block ?_
    refine WC.loop (fun m_ f_ w_ => ∃ (A_out2 : Option Addr) (c_out2 : Nat) (out2 : List (Int × Int)) (k : Int), (0 ≤ k) ∧ (k ≤ (b.length : Int)) ∧ (out2 = oncT a b i.toNat ++ onc2 a b i k) ∧ SH w No w_ [rowE eP 65 (.slice A_out2 out2.length c_out2) out2] ∧ m_ = (((b.length : Int) - k).toNat) ∧ Weak (lit [(0, (.slice A_a a.length c_a)), (1, (.slice A_b b.length c_b)), (5, (.slice A_out2 out2.length c_out2)), (6, (.int .i64 i)), (7, (.int .i64 k))]) f_) _ ⟨A_out, c_out, out, 0, by omega, by omega, (by rw [onc2_0, List.append_nil]; exact q1), hL1, rfl, Weak.cons rfl <| Weak.cons rfl <| Weak.cons rfl <| Weak.cons rfl <| Weak.cons rfl <| Weak.nil _⟩ ?_
    rintro m2 f2 w3 ⟨A_out2, c_out2, out2, k, klo, khi, r1, hL2, rfl, hw2⟩
    refine WC.weak hw2 ?_
    clear hw2
    have ho2 := onc2_len a b i k
    have ho3 : out2.length = (oncT a b i.toNat).length + (onc2 a b i k).length := by rw [r1, List.length_append]
    iterate 2 refine WC.seq ?_
    refine WC.region ?_
    iterate 2 refine WL.lv rfl (LV.mv rfl) ?_
    refine WL.lv rfl (LV.lenL Try.underlying54 rfl) ?_
    refine WL.lv rfl (LV.ltI rfl rfl) ?_
    refine WL.nil (thenQ.n ?_)
    refine WC.condP (p := k < (b.length : Int)) rfl (fun hk => ?_) (fun hk => ?_)
    · skip
      refine WC.skip (thenQ.n ?_)
      refine WC.seq ?_
      refine WC.block ?_
      refine WC.seq ?_
      have hS2 := SH.drew hL2
      refine WC.regionD [] (fun w_ => KB No w3.drew w_) [(.pure, 0), (.pure, 1), (.pure, 2), (.look, 3), (.pure, 4), (.pure, 5), (.pure, 6), (.look, 7), (.pure, 8), (.pure, 9), (.pure, 10), (.pure, 11), (.pure, 12), (.pure, 13), (.look, 14), (.forced, 15), (.pure, 16), (.pure, 17), (.pure, 18), (.pure, 19), (.pure, 20), (.pure, 21), (.pure, 22), (.look, 23), (.forced, 24), (.pure, 25), (.pure, 26)] (by kernel_rfl) (by kernel_rfl) (KB.refl _ _) ?_
      iterate 2 refine WS.pure rfl rfl (fun _ => LV.mv rfl) ?_
      obtain ⟨A1, c1, e1, g1⟩ := St.elt (SH.stN hS2 h_a) 0 i (by omega) (by omega)
      refine WS.pure rfl rfl (fun _ => LV.idxA Try.underlying54 ti3.sz rfl e1 rfl (by omega) (by omega)) ?_
      refine WS.look rfl rfl (fun _ hk_ => LV.load1 (v := (.int .i64 (gI a (i)))) Try.underlying3 rfl rfl (g1 _ hk_ 0 _ rfl)) ?_
      iterate 2 refine WS.pure rfl rfl (fun _ => LV.mv rfl) ?_
      obtain ⟨A2, c2, e2, g2⟩ := St.elt (SH.stN hS2 h_b) 0 k (by omega) (by omega)
      refine WS.pure rfl rfl (fun _ => LV.idxA Try.underlying54 ti3.sz rfl e2 rfl (by omega) (by omega)) ?_
      refine WS.look rfl rfl (fun _ hk_ => LV.load1 (v := (.int .i64 (gI b (k)))) Try.underlying3 rfl rfl (g2 _ hk_ 0 _ rfl)) ?_
      rcases Decidable.em ((gI a (i)) = (gI b (k))) with hge | hge
      · refine WS.pure rfl rfl (fun _ => LV.as (LV.eqI rfl rfl) (decide_eq_true hge)) ?_
        iterate 4 refine WS.pure rfl rfl (fun _ => LV.mv rfl) ?_
        obtain ⟨A3, c3, e3, g3⟩ := St.elt (SH.stN hS2 h_a) 0 i (by omega) (by omega)
        refine WS.pure rfl rfl (fun _ => LV.idxA Try.underlying54 ti3.sz rfl e3 rfl (by omega) (by omega)) ?_
        refine WS.look rfl rfl (fun _ hk_ => LV.load1 (v := (.int .i64 (gI a (i)))) Try.underlying3 rfl rfl (g3 _ hk_ 0 _ rfl)) ?_
        refine WS.call rfl rfl (XC.fn Try.func67 (by kernel_rfl) rfl rfl rfl) (count_calls (n := (gI a (i))) (SH.stN hS2 h_a) rfl ) ?_
        rintro v_ w4 ⟨rfl, hk2⟩
        have hS3 := SH.same hS2 hk2
        refine ⟨fun h_ => (KB.transN (KB.refl _ _) hk2), ?_⟩
        rcases Decidable.em ((a.count (gI a (i)) : Int) = 1) with hg1 | hg1
        · refine WS.pure rfl rfl (fun _ => LV.as (LV.eqI rfl rfl) (decide_eq_true hg1)) ?_
          refine WS.pure rfl rfl (fun _ => LV.pickT rfl rfl) ?_
          iterate 4 refine WS.pure rfl rfl (fun _ => LV.mv rfl) ?_
          obtain ⟨A4, c4, e4, g4⟩ := St.elt (SH.stN hS2 h_a) 0 i (by omega) (by omega)
          refine WS.pure rfl rfl (fun _ => LV.idxA Try.underlying54 ti3.sz rfl e4 rfl (by omega) (by omega)) ?_
          refine WS.look rfl rfl (fun _ hk_ => LV.load1 (v := (.int .i64 (gI a (i)))) Try.underlying3 rfl rfl (g4 _ hk_ 0 _ rfl)) ?_
          refine WS.call rfl rfl (XC.fn Try.func67 (by kernel_rfl) rfl rfl rfl) (count_calls (n := (gI a (i))) (SH.stN hS3 h_b) rfl ) ?_
          rintro v_ w5 ⟨rfl, hk3⟩
          have hS4 := SH.same hS3 hk3
          refine ⟨fun h_ => (KB.transN (KB.transN (KB.refl _ _) hk2) hk3), ?_⟩
          refine WS.pure rfl rfl (fun _ => LV.eqI rfl rfl) ?_
          refine WS.pure rfl rfl (fun _ => LV.pickT rfl rfl) ?_
          refine WS.nil (thenQ.n ?_)
          refine WC.condP (p := (b.count (gI a (i)) : Int) = 1) rfl (fun hc2 => ?_) (fun hc2 => ?_)
          · skip
            refine WC.region ?_
            iterate 3 refine WL.lv rfl (LV.mv rfl) ?_
            refine WL.lv rfl (LV.buildA (vs := [(0, (.int .i64 i)), (1, (.int .i64 k))]) (cs := #[(.int .i64 i), (.int .i64 k)]) Try.underlying65 ti65 ti3 rfl rfl) ?_
            refine WL.xe rfl (XE.buildSlice (E := eP) [(0, (.agg #[(.int .i64 i), (.int .i64 k)]))] #[(.int .i64 i), (.int .i64 k)] [(i, k)] hS4 Try.underlying63 ti65 rfl (by decide) (by kernel_rfl) (.inr rfl) rfl rfl (by decide)) ?_
            rintro _ w6 ⟨b2, rfl, hS5, hk4⟩
            have hS6 : SH w No w6 [rowE eP 65 (.slice A_out2 out2.length c_out2) out2, rowE eP 65 (.slice (some ⟨b2, 0, none⟩) 1 1) [(i, k)]] := (SH.front [rowE eP 65 (.slice (some ⟨b2, 0, none⟩) 1 1) [(i, k)]] hS5)
            refine WL.xe rfl (XE.append hS6 Try.underlying63 ti65 rfl (St.now (SH.rd hS6 (.tail _ (.head _)))) rfl rfl (by first | omega | simp only [List.length_append, List.length_cons, List.length_nil, List.length_take, List.length_reverse, List.length_drop] at *; omega) (by first | omega | simp only [List.length_append, List.length_cons, List.length_nil, List.length_take, List.length_reverse, List.length_drop] at *; omega)) ?_
            rintro _ w7 ⟨A5, c5, rfl, hS7, hk5⟩
            refine WL.lv rfl (LV.asg rfl) ?_
            refine WL.nil (blockQ.n <| thenQ.n ?_)
            refine WC.region ?_
            refine WL.lv rfl (LV.mv rfl) ?_
            refine WL.lv rfl (LV.add rfl rfl (wr64 (by omega) (by omega))) ?_
            refine WL.lv rfl (LV.asg rfl) ?_
            refine WL.nil (thenQ.n ?_)
            have hS8 : SH w No w7 [rowE eP 65 (.slice A5 ((out2 ++ [(i, k)]).length) c5) (out2 ++ [(i, k)])] := (SH.take 1 rfl hS7)
            exact ⟨_, by omega, A5, c5, (out2 ++ [(i, k)]), k + 1, by omega, by omega, (by rw [r1, List.append_assoc, onc2_yes klo hk hge (by omega) (by omega)]), hS8, rfl, Weak.cons rfl <| Weak.cons rfl <| Weak.cons rfl <| Weak.cons rfl <| Weak.cons rfl <| Weak.nil _⟩
          · skip
            refine WC.skip (blockQ.n <| thenQ.n ?_)
            refine WC.region ?_
            refine WL.lv rfl (LV.mv rfl) ?_
            refine WL.lv rfl (LV.add rfl rfl (wr64 (by omega) (by omega))) ?_
            refine WL.lv rfl (LV.asg rfl) ?_
            refine WL.nil (thenQ.n ?_)
            exact ⟨_, by omega, A_out2, c_out2, out2, k + 1, by omega, by omega, (by rw [r1]; congr 1; exact onc2_no klo hk (fun h_ => by omega)), hS4, rfl, Weak.cons rfl <| Weak.cons rfl <| Weak.cons rfl <| Weak.cons rfl <| Weak.cons rfl <| Weak.nil _⟩
        · refine WS.pure rfl rfl (fun _ => LV.as (LV.eqI rfl rfl) (decide_eq_false hg1)) ?_
          refine WS.pure rfl rfl (fun _ => LV.pickT rfl rfl) ?_
          refine WS.pure rfl rfl (fun _ => LV.mv rfl) ?_
          iterate 4 refine WS.off rfl rfl ?_
          refine WS.offL rfl rfl ?_
          refine WS.offF rfl rfl (fun h_ => (KB.transN (KB.refl _ _) hk2)) ?_
          refine WS.off rfl rfl ?_
          refine WS.pure rfl rfl (fun _ => LV.pickF rfl rfl) ?_
          refine WS.nil (thenQ.n ?_)
          refine WC.condF rfl ?_
          refine WC.skip (blockQ.n <| thenQ.n ?_)
          refine WC.region ?_
          refine WL.lv rfl (LV.mv rfl) ?_
          refine WL.lv rfl (LV.add rfl rfl (wr64 (by omega) (by omega))) ?_
          refine WL.lv rfl (LV.asg rfl) ?_
          refine WL.nil (thenQ.n ?_)
          exact ⟨_, by omega, A_out2, c_out2, out2, k + 1, by omega, by omega, (by rw [r1]; congr 1; exact onc2_no klo hk (fun h_ => by omega)), hS3, rfl, Weak.cons rfl <| Weak.cons rfl <| Weak.cons rfl <| Weak.cons rfl <| Weak.cons rfl <| Weak.nil _⟩
      · refine WS.pure rfl rfl (fun _ => LV.as (LV.eqI rfl rfl) (decide_eq_false hge)) ?_
        refine WS.pure rfl rfl (fun _ => LV.mv rfl) ?_
        iterate 4 refine WS.off rfl rfl ?_
        refine WS.offL rfl rfl ?_
        refine WS.offF rfl rfl (fun h_ => (KB.refl _ _)) ?_
        refine WS.off rfl rfl ?_
        refine WS.pure rfl rfl (fun _ => LV.pickF rfl rfl) ?_
        refine WS.pure rfl rfl (fun _ => LV.mv rfl) ?_
        iterate 4 refine WS.off rfl rfl ?_
        refine WS.offL rfl rfl ?_
        refine WS.offF rfl rfl (fun h_ => (KB.refl _ _)) ?_
        refine WS.off rfl rfl ?_
        refine WS.pure rfl rfl (fun _ => LV.pickF rfl rfl) ?_
        refine WS.nil (thenQ.n ?_)
        refine WC.condF rfl ?_
        refine WC.skip (blockQ.n <| thenQ.n ?_)
        refine WC.region ?_
        refine WL.lv rfl (LV.mv rfl) ?_
        refine WL.lv rfl (LV.add rfl rfl (wr64 (by omega) (by omega))) ?_
        refine WL.lv rfl (LV.asg rfl) ?_
        refine WL.nil (thenQ.n ?_)
        exact ⟨_, by omega, A_out2, c_out2, out2, k + 1, by omega, by omega, (by rw [r1]; congr 1; exact onc2_no klo hk (fun h_ => by omega)), hS2, rfl, Weak.cons rfl <| Weak.cons rfl <| Weak.cons rfl <| Weak.cons rfl <| Weak.cons rfl <| Weak.nil _⟩
    · skip
      refine WC.exit (thenQ.x <| thenQ.x <| blockQ.hit <| blockQ.n <| thenQ.n ?_)
      refine WC.region ?_
      refine WL.lv rfl (LV.mv rfl) ?_
      refine WL.lv rfl (LV.add rfl rfl (wr64 (by omega) (by omega))) ?_
      refine WL.lv rfl (LV.asg rfl) ?_
      refine WL.nil (thenQ.n ?_)
      exact ⟨_, by omega, A_out2, c_out2, out2, i + 1, by omega, by omega, (by rw [oncT_snoc _ _ ilo, r1, onc2_end (by omega)]), hL2, rfl, Weak.cons rfl <| Weak.cons rfl <| Weak.cons rfl <| Weak.cons rfl <| Weak.nil _⟩
  · skip
    refine WC.exit (thenQ.x <| thenQ.x <| blockQ.hit <| thenQ.n ?_)
    refine WC.seq ?_
    refine WC.region ?_
    refine WL.lv rfl (LV.mv rfl) ?_
    refine WL.lv rfl (LV.asg rfl) ?_
    refine WL.nil (thenQ.n ?_)
    refine WC.ret (?_)
    have hres1 : (out : List (Int × Int)) = onc a b := by rw [q1]; unfold onc; congr 1; omega
    exact ⟨_, fun a ha => res1 rfl ha rfl, (by rw [← hres1]; exact ⟨_, _, rfl, hL1⟩)⟩

theorem ends_calls {w : World} {A_a : Option Addr} {n_a c_a : Nat} {a : List Int} {A_b : Option Addr} {n_b c_b : Nat} {b : List Int} (h_a : St No w (Rd eI (.slice A_a n_a c_a) a)) (hn_a : a.length = n_a) (h_b : St No w (Rd eI (.slice A_b n_b c_b) b)) (hn_b : b.length = n_b)  :
    Calls Try.prog 48 #[(.slice A_a n_a c_a), (.slice A_b n_b c_b)] w fun e w' => ∃ v, e = .returned v ∧ (fun v w' => v = .tuple #[.int .i64 (efst a b : Int), .int .i64 (elst a b : Int)] ∧ KB No w w') v w' := by
  subst hn_a hn_b
  have hma := Rd.max h_a.now
  have hmb := Rd.max h_b.now
  have hS : SH w No w [] := SH.nil _ _
  refine calls (l := litOf [(.slice A_a a.length c_a), (.slice A_b b.length c_b)] 0) Try.func48 rfl (n := 58) rfl (Nat.le_of_ble_eq_true rfl) (lit_args _) ?_
  refine WC.seq ?_
  refine WC.region ?_
  iterate 2 refine WL.lv rfl (LV.asg rfl) ?_
  refine WL.nil (thenQ.n ?_)
  refine WC.seq ?_
  refine WC.region ?_
  refine WL.lv rfl (LV.mv rfl) ?_
  refine WL.lv rfl (LV.lenL Try.underlying54 rfl) ?_
  refine WL.lv rfl (LV.mv rfl) ?_
  refine WL.lv rfl (LV.lenL Try.underlying54 rfl) ?_
  refine WL.lv rfl (LV.minI rfl rfl) ?_
  refine WL.lv rfl (LV.asg rfl) ?_
  refine WL.nil (thenQ.n ?_)
  refine WC.seq ?_
  refine WC.region ?_
  refine WL.lv rfl (LV.asg rfl) ?_
  refine WL.nil (thenQ.n ?_)
  refine WC.seq ?_
  refine WC.block ?_
  refine WC.loop (fun m_ f_ w_ => ∃ (first : Int), (0 ≤ first) ∧ (first ≤ min (a.length : Int) (b.length : Int)) ∧ (∀ t, 0 ≤ t → t < first → gI a t = gI b t) ∧ SH w No w_ [] ∧ m_ = ((min (a.length : Int) (b.length : Int) - first).toNat) ∧ Weak (lit [(0, (.slice A_a a.length c_a)), (1, (.slice A_b b.length c_b)), (6, (.int .i64 (min (a.length : Int) (b.length : Int)))), (7, (.int .i64 first))]) f_) _ ⟨0, by omega, by omega, (fun t h1 h2 => by omega), hS, rfl, Weak.cons rfl <| Weak.cons rfl <| Weak.cons rfl <| Weak.cons rfl <| Weak.nil _⟩ ?_
  rintro m1 f1 w1 ⟨first, firstlo, firsthi, q1, hL1, rfl, hw1⟩
  refine WC.weak hw1 ?_
  clear hw1
  iterate 2 refine WC.seq ?_
  have hS1 := SH.drew hL1
  refine WC.regionD [] (fun w_ => KB No w1.drew w_) [(.pure, 0), (.pure, 1), (.pure, 2), (.pure, 3), (.pure, 4), (.pure, 5), (.pure, 6), (.look, 7), (.pure, 8), (.pure, 9), (.pure, 10), (.look, 11), (.pure, 12), (.pure, 13)] (by kernel_rfl) (by kernel_rfl) (KB.refl _ _) ?_
  iterate 2 refine WS.pure rfl rfl (fun _ => LV.mv rfl) ?_
  rcases Decidable.em (first < (min (a.length : Int) (b.length : Int))) with hg1 | hg1
  · refine WS.pure rfl rfl (fun _ => LV.as (LV.ltI rfl rfl) (decide_eq_true hg1)) ?_
    iterate 3 refine WS.pure rfl rfl (fun _ => LV.mv rfl) ?_
    obtain ⟨A1, c1, e1, g1⟩ := St.elt (SH.stN hS1 h_a) 0 first (by omega) (by omega)
    refine WS.pure rfl rfl (fun _ => LV.idxA Try.underlying54 ti3.sz rfl e1 rfl (by omega) (by omega)) ?_
    refine WS.look rfl rfl (fun _ hk_ => LV.load1 (v := (.int .i64 (gI a (first)))) Try.underlying3 rfl rfl (g1 _ hk_ 0 _ rfl)) ?_
    iterate 2 refine WS.pure rfl rfl (fun _ => LV.mv rfl) ?_
    obtain ⟨A2, c2, e2, g2⟩ := St.elt (SH.stN hS1 h_b) 0 first (by omega) (by omega)
    refine WS.pure rfl rfl (fun _ => LV.idxA Try.underlying54 ti3.sz rfl e2 rfl (by omega) (by omega)) ?_
    refine WS.look rfl rfl (fun _ hk_ => LV.load1 (v := (.int .i64 (gI b (first)))) Try.underlying3 rfl rfl (g2 _ hk_ 0 _ rfl)) ?_
    refine WS.pure rfl rfl (fun _ => LV.eqI rfl rfl) ?_
    refine WS.pure rfl rfl (fun _ => LV.pickT rfl rfl) ?_
    refine WS.nil (thenQ.n ?_)
    refine WC.condP (p := (gI a (first)) = (gI b (first))) rfl (fun hc27 => ?_) (fun hc27 => ?_)
    · skip
      refine WC.skip (thenQ.n ?_)
      refine WC.block ?_
      refine WC.region ?_
      refine WL.lv rfl (LV.mv rfl) ?_
      refine WL.lv rfl (LV.add rfl rfl (wr64 (by omega) (by omega))) ?_
      refine WL.lv rfl (LV.asg rfl) ?_
      refine WL.nil (blockQ.n <| thenQ.n ?_)
      exact ⟨_, by omega, first + 1, by omega, by omega, (all_step (p := fun t => gI a t = gI b t) q1 hc27), hS1, rfl, Weak.cons rfl <| Weak.cons rfl <| Weak.cons rfl <| Weak.cons rfl <| Weak.nil _⟩
    · skip
      refine WC.exit (thenQ.x <| thenQ.x <| blockQ.hit <| thenQ.n ?_)
      refine WC.seq ?_
      refine WC.region ?_
      have hf : first = (efst a b : Int) := efst_I firstlo (by omega) (by omega) q1 (by first | exact fun _ _ => hc27 | exact fun _ _ => by omega)
      refine WL.lv rfl (LV.asg rfl) ?_
      refine WL.nil (thenQ.n ?_)
      refine WC.seq ?_
      refine WC.block ?_
      refine WC.loop (fun m_ f_ w_ => ∃ (last_ : Int), (0 ≤ last_) ∧ (last_ ≤ min (a.length : Int) (b.length : Int) - first) ∧ (∀ t, 0 ≤ t → t < last_ → gI a ((a.length : Int) - 1 - t) = gI b ((b.length : Int) - 1 - t)) ∧ SH w No w_ [] ∧ m_ = ((min (a.length : Int) (b.length : Int) - first - last_).toNat) ∧ Weak (lit [(0, (.slice A_a a.length c_a)), (1, (.slice A_b b.length c_b)), (6, (.int .i64 (min (a.length : Int) (b.length : Int)))), (7, (.int .i64 first)), (8, (.int .i64 last_))]) f_) _ ⟨0, by omega, by omega, (fun t h1 h2 => by omega), hS1, rfl, Weak.cons rfl <| Weak.cons rfl <| Weak.cons rfl <| Weak.cons rfl <| Weak.cons rfl <| Weak.nil _⟩ ?_
      rintro m2 f2 w2 ⟨last_, l0, l1, s1, hL2, rfl, hw2⟩
      refine WC.weak hw2 ?_
      clear hw2
      iterate 2 refine WC.seq ?_
      have hS2 := SH.drew hL2
      refine WC.regionD [] (fun w_ => KB No w2.drew w_) [(.pure, 0), (.pure, 1), (.pure, 2), (.pure, 3), (.pure, 4), (.pure, 5), (.pure, 6), (.pure, 7), (.pure, 8), (.pure, 9), (.pure, 10), (.pure, 11), (.pure, 12), (.look, 13), (.pure, 14), (.pure, 15), (.pure, 16), (.pure, 17), (.pure, 18), (.pure, 19), (.pure, 20), (.look, 21), (.pure, 22), (.pure, 23)] (by kernel_rfl) (by kernel_rfl) (KB.refl _ _) ?_
      iterate 3 refine WS.pure rfl rfl (fun _ => LV.mv rfl) ?_
      refine WS.pure rfl rfl (fun _ => LV.sub rfl rfl (wr64 (by omega) (by omega))) ?_
      rcases Decidable.em (last_ < ((min (a.length : Int) (b.length : Int)) - first)) with hg2 | hg2
      · refine WS.pure rfl rfl (fun _ => LV.as (LV.ltI rfl rfl) (decide_eq_true hg2)) ?_
        iterate 3 refine WS.pure rfl rfl (fun _ => LV.mv rfl) ?_
        refine WS.pure rfl rfl (fun _ => LV.lenL Try.underlying54 rfl) ?_
        refine WS.pure rfl rfl (fun _ => LV.sub rfl rfl (wr64 (by omega) (by omega))) ?_
        refine WS.pure rfl rfl (fun _ => LV.mv rfl) ?_
        refine WS.pure rfl rfl (fun _ => LV.sub rfl rfl (wr64 (by omega) (by omega))) ?_
        obtain ⟨A3, c3, e3, g3⟩ := St.elt (SH.stN hS2 h_a) 0 (((a.length : Int) - 1) - last_) (by omega) (by omega)
        refine WS.pure rfl rfl (fun _ => LV.idxA Try.underlying54 ti3.sz rfl e3 rfl (by omega) (by omega)) ?_
        refine WS.look rfl rfl (fun _ hk_ => LV.load1 (v := (.int .i64 (gI a (((a.length : Int) - 1) - last_)))) Try.underlying3 rfl rfl (g3 _ hk_ 0 _ rfl)) ?_
        iterate 2 refine WS.pure rfl rfl (fun _ => LV.mv rfl) ?_
        refine WS.pure rfl rfl (fun _ => LV.lenL Try.underlying54 rfl) ?_
        refine WS.pure rfl rfl (fun _ => LV.sub rfl rfl (wr64 (by omega) (by omega))) ?_
        refine WS.pure rfl rfl (fun _ => LV.mv rfl) ?_
        refine WS.pure rfl rfl (fun _ => LV.sub rfl rfl (wr64 (by omega) (by omega))) ?_
        obtain ⟨A4, c4, e4, g4⟩ := St.elt (SH.stN hS2 h_b) 0 (((b.length : Int) - 1) - last_) (by omega) (by omega)
        refine WS.pure rfl rfl (fun _ => LV.idxA Try.underlying54 ti3.sz rfl e4 rfl (by omega) (by omega)) ?_
        refine WS.look rfl rfl (fun _ hk_ => LV.load1 (v := (.int .i64 (gI b (((b.length : Int) - 1) - last_)))) Try.underlying3 rfl rfl (g4 _ hk_ 0 _ rfl)) ?_
        refine WS.pure rfl rfl (fun _ => LV.eqI rfl rfl) ?_
        refine WS.pure rfl rfl (fun _ => LV.pickT rfl rfl) ?_
        refine WS.nil (thenQ.n ?_)
        refine WC.condP (p := (gI a (((a.length : Int) - 1) - last_)) = (gI b (((b.length : Int) - 1) - last_))) rfl (fun hc53 => ?_) (fun hc53 => ?_)
        · skip
          refine WC.skip (thenQ.n ?_)
          refine WC.block ?_
          refine WC.region ?_
          refine WL.lv rfl (LV.mv rfl) ?_
          refine WL.lv rfl (LV.add rfl rfl (wr64 (by omega) (by omega))) ?_
          refine WL.lv rfl (LV.asg rfl) ?_
          refine WL.nil (blockQ.n <| thenQ.n ?_)
          exact ⟨_, by omega, last_ + 1, by omega, by omega, (all_step (p := fun t => gI a ((a.length : Int) - 1 - t) = gI b ((b.length : Int) - 1 - t)) s1 hc53), hS2, rfl, Weak.cons rfl <| Weak.cons rfl <| Weak.cons rfl <| Weak.cons rfl <| Weak.cons rfl <| Weak.nil _⟩
        · skip
          refine WC.exit (thenQ.x <| thenQ.x <| blockQ.hit <| thenQ.n ?_)
          refine WC.seq ?_
          refine WC.region ?_
          iterate 2 refine WL.lv rfl (LV.mv rfl) ?_
          iterate 2 refine WL.lv rfl (LV.asg rfl) ?_
          refine WL.nil (thenQ.n ?_)
          refine WC.ret (?_)
          exact ⟨_, fun a ha => res2 rfl ha rfl rfl, tup2 (congrArg (Value.int .i64) (hf)) (congrArg (Value.int .i64) (elst_I hf l0 (by omega) (by omega) s1 (by first | exact fun _ _ => hc53 | exact fun _ _ => by omega))), hS2.kb⟩
      · refine WS.pure rfl rfl (fun _ => LV.as (LV.ltI rfl rfl) (decide_eq_false hg2)) ?_
        refine WS.pure rfl rfl (fun _ => LV.mv rfl) ?_
        iterate 7 refine WS.off rfl rfl ?_
        refine WS.offL rfl rfl ?_
        iterate 7 refine WS.off rfl rfl ?_
        refine WS.offL rfl rfl ?_
        refine WS.off rfl rfl ?_
        refine WS.pure rfl rfl (fun _ => LV.pickF rfl rfl) ?_
        refine WS.nil (thenQ.n ?_)
        refine WC.condF rfl ?_
        refine WC.exit (thenQ.x <| thenQ.x <| blockQ.hit <| thenQ.n ?_)
        refine WC.seq ?_
        refine WC.region ?_
        iterate 2 refine WL.lv rfl (LV.mv rfl) ?_
        iterate 2 refine WL.lv rfl (LV.asg rfl) ?_
        refine WL.nil (thenQ.n ?_)
        refine WC.ret (?_)
        exact ⟨_, fun a ha => res2 rfl ha rfl rfl, tup2 (congrArg (Value.int .i64) (hf)) (congrArg (Value.int .i64) (elst_I hf l0 (by omega) (by omega) s1 (by first | exact fun _ _ => hc53 | exact fun _ _ => by omega))), hS2.kb⟩
  · refine WS.pure rfl rfl (fun _ => LV.as (LV.ltI rfl rfl) (decide_eq_false hg1)) ?_
    refine WS.pure rfl rfl (fun _ => LV.mv rfl) ?_
    iterate 3 refine WS.off rfl rfl ?_
    refine WS.offL rfl rfl ?_
    iterate 3 refine WS.off rfl rfl ?_
    refine WS.offL rfl rfl ?_
    refine WS.off rfl rfl ?_
    refine WS.pure rfl rfl (fun _ => LV.pickF rfl rfl) ?_
    refine WS.nil (thenQ.n ?_)
    refine WC.condF rfl ?_
    refine WC.exit (thenQ.x <| thenQ.x <| blockQ.hit <| thenQ.n ?_)
    refine WC.seq ?_
    refine WC.region ?_
    have hf : first = (efst a b : Int) := efst_I firstlo (by omega) (by omega) q1 (by first | exact fun _ _ => hc27 | exact fun _ _ => by omega)
    refine WL.lv rfl (LV.asg rfl) ?_
    refine WL.nil (thenQ.n ?_)
    refine WC.seq ?_
    refine WC.block ?_
    refine WC.loop (fun m_ f_ w_ => ∃ (last_ : Int), (0 ≤ last_) ∧ (last_ ≤ min (a.length : Int) (b.length : Int) - first) ∧ (∀ t, 0 ≤ t → t < last_ → gI a ((a.length : Int) - 1 - t) = gI b ((b.length : Int) - 1 - t)) ∧ SH w No w_ [] ∧ m_ = ((min (a.length : Int) (b.length : Int) - first - last_).toNat) ∧ Weak (lit [(0, (.slice A_a a.length c_a)), (1, (.slice A_b b.length c_b)), (6, (.int .i64 (min (a.length : Int) (b.length : Int)))), (7, (.int .i64 first)), (8, (.int .i64 last_))]) f_) _ ⟨0, by omega, by omega, (fun t h1 h2 => by omega), hS1, rfl, Weak.cons rfl <| Weak.cons rfl <| Weak.cons rfl <| Weak.cons rfl <| Weak.cons rfl <| Weak.nil _⟩ ?_
    rintro m3 f3 w3 ⟨last_, l0, l1, s1, hL3, rfl, hw3⟩
    refine WC.weak hw3 ?_
    clear hw3
    iterate 2 refine WC.seq ?_
    have hS3 := SH.drew hL3
    refine WC.regionD [] (fun w_ => KB No w3.drew w_) [(.pure, 0), (.pure, 1), (.pure, 2), (.pure, 3), (.pure, 4), (.pure, 5), (.pure, 6), (.pure, 7), (.pure, 8), (.pure, 9), (.pure, 10), (.pure, 11), (.pure, 12), (.look, 13), (.pure, 14), (.pure, 15), (.pure, 16), (.pure, 17), (.pure, 18), (.pure, 19), (.pure, 20), (.look, 21), (.pure, 22), (.pure, 23)] (by kernel_rfl) (by kernel_rfl) (KB.refl _ _) ?_
    iterate 3 refine WS.pure rfl rfl (fun _ => LV.mv rfl) ?_
    refine WS.pure rfl rfl (fun _ => LV.sub rfl rfl (wr64 (by omega) (by omega))) ?_
    rcases Decidable.em (last_ < ((min (a.length : Int) (b.length : Int)) - first)) with hg3 | hg3
    · refine WS.pure rfl rfl (fun _ => LV.as (LV.ltI rfl rfl) (decide_eq_true hg3)) ?_
      iterate 3 refine WS.pure rfl rfl (fun _ => LV.mv rfl) ?_
      refine WS.pure rfl rfl (fun _ => LV.lenL Try.underlying54 rfl) ?_
      refine WS.pure rfl rfl (fun _ => LV.sub rfl rfl (wr64 (by omega) (by omega))) ?_
      refine WS.pure rfl rfl (fun _ => LV.mv rfl) ?_
      refine WS.pure rfl rfl (fun _ => LV.sub rfl rfl (wr64 (by omega) (by omega))) ?_
      obtain ⟨A5, c5, e5, g5⟩ := St.elt (SH.stN hS3 h_a) 0 (((a.length : Int) - 1) - last_) (by omega) (by omega)
      refine WS.pure rfl rfl (fun _ => LV.idxA Try.underlying54 ti3.sz rfl e5 rfl (by omega) (by omega)) ?_
      refine WS.look rfl rfl (fun _ hk_ => LV.load1 (v := (.int .i64 (gI a (((a.length : Int) - 1) - last_)))) Try.underlying3 rfl rfl (g5 _ hk_ 0 _ rfl)) ?_
      iterate 2 refine WS.pure rfl rfl (fun _ => LV.mv rfl) ?_
      refine WS.pure rfl rfl (fun _ => LV.lenL Try.underlying54 rfl) ?_
      refine WS.pure rfl rfl (fun _ => LV.sub rfl rfl (wr64 (by omega) (by omega))) ?_
      refine WS.pure rfl rfl (fun _ => LV.mv rfl) ?_
      refine WS.pure rfl rfl (fun _ => LV.sub rfl rfl (wr64 (by omega) (by omega))) ?_
      obtain ⟨A6, c6, e6, g6⟩ := St.elt (SH.stN hS3 h_b) 0 (((b.length : Int) - 1) - last_) (by omega) (by omega)
      refine WS.pure rfl rfl (fun _ => LV.idxA Try.underlying54 ti3.sz rfl e6 rfl (by omega) (by omega)) ?_
      refine WS.look rfl rfl (fun _ hk_ => LV.load1 (v := (.int .i64 (gI b (((b.length : Int) - 1) - last_)))) Try.underlying3 rfl rfl (g6 _ hk_ 0 _ rfl)) ?_
      refine WS.pure rfl rfl (fun _ => LV.eqI rfl rfl) ?_
      refine WS.pure rfl rfl (fun _ => LV.pickT rfl rfl) ?_
      refine WS.nil (thenQ.n ?_)
      refine WC.condP (p := (gI a (((a.length : Int) - 1) - last_)) = (gI b (((b.length : Int) - 1) - last_))) rfl (fun hc53 => ?_) (fun hc53 => ?_)
      · skip
        refine WC.skip (thenQ.n ?_)
        refine WC.block ?_
        refine WC.region ?_
        refine WL.lv rfl (LV.mv rfl) ?_
        refine WL.lv rfl (LV.add rfl rfl (wr64 (by omega) (by omega))) ?_
        refine WL.lv rfl (LV.asg rfl) ?_
        refine WL.nil (blockQ.n <| thenQ.n ?_)
        exact ⟨_, by omega, last_ + 1, by omega, by omega, (all_step (p := fun t => gI a ((a.length : Int) - 1 - t) = gI b ((b.length : Int) - 1 - t)) s1 hc53), hS3, rfl, Weak.cons rfl <| Weak.cons rfl <| Weak.cons rfl <| Weak.cons rfl <| Weak.cons rfl <| Weak.nil _⟩
      · skip
        refine WC.exit (thenQ.x <| thenQ.x <| blockQ.hit <| thenQ.n ?_)
        refine WC.seq ?_
        refine WC.region ?_
        iterate 2 refine WL.lv rfl (LV.mv rfl) ?_
        iterate 2 refine WL.lv rfl (LV.asg rfl) ?_
        refine WL.nil (thenQ.n ?_)
        refine WC.ret (?_)
        exact ⟨_, fun a ha => res2 rfl ha rfl rfl, tup2 (congrArg (Value.int .i64) (hf)) (congrArg (Value.int .i64) (elst_I hf l0 (by omega) (by omega) s1 (by first | exact fun _ _ => hc53 | exact fun _ _ => by omega))), hS3.kb⟩
    · refine WS.pure rfl rfl (fun _ => LV.as (LV.ltI rfl rfl) (decide_eq_false hg3)) ?_
      refine WS.pure rfl rfl (fun _ => LV.mv rfl) ?_
      iterate 7 refine WS.off rfl rfl ?_
      refine WS.offL rfl rfl ?_
      iterate 7 refine WS.off rfl rfl ?_
      refine WS.offL rfl rfl ?_
      refine WS.off rfl rfl ?_
      refine WS.pure rfl rfl (fun _ => LV.pickF rfl rfl) ?_
      refine WS.nil (thenQ.n ?_)
      refine WC.condF rfl ?_
      refine WC.exit (thenQ.x <| thenQ.x <| blockQ.hit <| thenQ.n ?_)
      refine WC.seq ?_
      refine WC.region ?_
      iterate 2 refine WL.lv rfl (LV.mv rfl) ?_
      iterate 2 refine WL.lv rfl (LV.asg rfl) ?_
      refine WL.nil (thenQ.n ?_)
      refine WC.ret (?_)
      exact ⟨_, fun a ha => res2 rfl ha rfl rfl, tup2 (congrArg (Value.int .i64) (hf)) (congrArg (Value.int .i64) (elst_I hf l0 (by omega) (by omega) s1 (by first | exact fun _ _ => hc53 | exact fun _ _ => by omega))), hS3.kb⟩

end Go.Proofs.Ytjjilkibcomfcaa
