/- Anchors. -/
import Derived.Test.YtjjilkibcomfcaaPaC
namespace Go.Proofs.Ytjjilkibcomfcaa
open Go Go.Gv Go.RowKit Go.Mys Go.Itn Go.Pat
set_option linter.unusedVariables false
set_option linter.unusedSimpArgs false

theorem anchors_calls {w : World} {A_a : Option Addr} {n_a c_a : Nat} {a : List Int} {A_b : Option Addr} {n_b c_b : Nat} {b : List Int} (h_a : St No w (Rd eI (.slice A_a n_a c_a) a)) (hn_a : a.length = n_a) (h_b : St No w (Rd eI (.slice A_b n_b c_b) b)) (hn_b : b.length = n_b) (ha4 : a.length ≤ 1000) (hb4 : b.length ≤ 1000) :
    Calls Try.prog 55 #[(.slice A_a n_a c_a), (.slice A_b n_b c_b)] w fun e w' => ∃ v, e = .returned v ∧ (fun v w' => ∃ (A0' : Option Addr) (c0' : Nat), v = .slice A0' (ANC a b).length c0' ∧ SH w No w' [rowE eP 65 (.slice A0' (ANC a b).length c0') (ANC a b)]) v w' := by
  subst hn_a hn_b
  have hol_ := oncT_len a b a.length
  have hon_ : (onc a b).length ≤ a.length := hol_
  have hS : SH w No w [] := SH.nil _ _
  refine calls (l := litOf [(.slice A_a a.length c_a), (.slice A_b b.length c_b)] 0) Try.func55 rfl (n := 43) rfl (Nat.le_of_ble_eq_true rfl) (lit_args _) ?_
  refine WC.seq ?_
  refine WC.region ?_
  refine WL.lv rfl (LV.asg rfl) ?_
  refine WL.nil (thenQ.n ?_)
  refine WC.seq ?_
  refine WC.region ?_
  iterate 2 refine WL.lv rfl (LV.mv rfl) ?_
  refine WL.call rfl (XC.fn Try.func62 (by kernel_rfl) rfl rfl rfl) (once_calls  (SH.stN hS h_a) rfl (SH.stN hS h_b) rfl (by omega) (by omega)) ?_
  rintro v_ w1 ⟨A1, c1, rfl, hS1⟩
  have hS2 := SH.joinN hS hS1
  refine WL.lv rfl (LV.asg rfl) ?_
  refine WL.nil (thenQ.n ?_)
  refine WC.seq ?_
  refine WC.region ?_
  have hS3 := SH.nilRow (E := eI) (T := 3) hS2
  refine WL.lv rfl (LV.asg rfl) ?_
  refine WL.nil (thenQ.n ?_)
  iterate 2 refine WC.seq ?_
  refine WC.region ?_
  refine WL.lv rfl (LV.mv rfl) ?_
  refine WL.lv rfl (LV.lenL Try.underlying63 rfl) ?_
  refine WL.lv rfl (LV.mv rfl) ?_
  refine WL.nil (thenQ.n ?_)
  refine WC.block ?_
  refine WC.loop (fun m_ f_ w_ => ∃ (A_second : Option Addr) (c_second : Nat) (second : List Int) (ix : Int), (0 ≤ ix) ∧ (ix ≤ ((onc a b).length : Int)) ∧ (second = ((onc a b).take ix.toNat).map (·.2)) ∧ ((second.length : Int) = ix) ∧ SH w No w_ [rowE eI 3 (.slice A_second second.length c_second) second, rowE eP 65 (.slice A1 ((onc a b).length) c1) (onc a b)] ∧ m_ = ((((onc a b).length : Int) - ix).toNat) ∧ Weak (lit [(5, (.slice A1 ((onc a b).length) c1)), (6, (.slice A_second second.length c_second)), (15, (.slice A1 ((onc a b).length) c1)), (16, (.int .i64 ((onc a b).length : Int))), (17, (.int .i64 ix))]) f_) _ ⟨none, 0, [], 0, by omega, by omega, rfl, rfl, hS3, rfl, Weak.cons rfl <| Weak.cons rfl <| Weak.cons rfl <| Weak.cons rfl <| Weak.cons rfl <| Weak.nil _⟩ ?_
  rintro m1 f1 w2 ⟨A_second, c_second, second, ix, ixlo, ixhi, q1, q2, hL1, rfl, hw1⟩
  refine WC.weak hw1 ?_
  clear hw1
  refine WC.seq ?_
  refine WC.region ?_
  refine WL.lv rfl (LV.ltI rfl rfl) ?_
  refine WL.nil (thenQ.n ?_)
  refine WC.seq ?_
  refine WC.condP (p := ix < ((onc a b).length : Int)) rfl (fun hk => ?_) (fun hk => ?_)
  · skip
    refine WC.skip (thenQ.n ?_)
    refine WC.seq ?_
    refine WC.block ?_
    refine WC.seq ?_
    refine WC.region ?_
    obtain ⟨A2, c2, e1, g1⟩ := St.elt (SH.rd hL1 (.tail _ (.head _))) (0, 0) ix (by omega) (by omega)
    refine WL.lv rfl (LV.idxA Try.underlying63 ti65.sz rfl e1 rfl (by omega) (by omega)) ?_
    refine WL.lv rfl (LV.loadAgg (cs := [(.int .i64 (((onc a b).getD (ix).toNat (0, 0)).1)), (.int .i64 (((onc a b).getD (ix).toNat (0, 0)).2))]) Try.underlying65 rfl ti65 rfl rfl (fun j u hu => g1 _ (KB.refl No _) j u hu)) ?_
    refine WL.xe rfl (XE.alloc #[(.int .i64 0), (.int .i64 0)] hL1 ti65 rfl) ?_
    rintro _ w3 ⟨b1, rfl, hS4, hk1⟩
    refine WL.xse rfl (XSE.blkAgg #[(.int .i64 (((onc a b).getD (ix).toNat (0, 0)).1)), (.int .i64 (((onc a b).getD (ix).toNat (0, 0)).2))] hS4 (by kernel_rfl) rfl (by kernel_rfl) rfl rfl) ?_
    rintro w4 ⟨hS5, hk2⟩
    refine WL.nil (thenQ.n ?_)
    refine WC.region ?_
    refine WL.lv rfl (LV.mv rfl) ?_
    refine WL.lv rfl (LV.idxArr Try.underlying65 ti3.sz rfl rfl (by decide) (by decide)) ?_
    refine WL.lv rfl (LV.load1 Try.underlying3 rfl rfl (Blk.cellN (SH.at hS5 (.head _)) 1 rfl _ (KB.refl No _))) ?_
    refine WL.xe rfl (XE.buildSlice (E := eI) [(0, (.int .i64 (((onc a b).getD (ix).toNat (0, 0)).2)))] #[(.int .i64 (((onc a b).getD (ix).toNat (0, 0)).2))] [((onc a b).getD (ix).toNat (0, 0)).2] hS5 Try.underlying54 ti3 rfl (by decide) (by kernel_rfl) (.inr rfl) rfl rfl (by decide)) ?_
    rintro _ w5 ⟨b2, rfl, hS6, hk3⟩
    have hS7 : SH w No w5 [rowE eI 3 (.slice A_second second.length c_second) second, rowE eI 3 (.slice (some ⟨b2, 0, none⟩) 1 1) [((onc a b).getD (ix).toNat (0, 0)).2], blkE b1 65 #[(.int .i64 (((onc a b).getD (ix).toNat (0, 0)).1)), (.int .i64 (((onc a b).getD (ix).toNat (0, 0)).2))], rowE eP 65 (.slice A1 ((onc a b).length) c1) (onc a b)] := (SH.front [rowE eI 3 (.slice (some ⟨b2, 0, none⟩) 1 1) [((onc a b).getD (ix).toNat (0, 0)).2], blkE b1 65 #[(.int .i64 (((onc a b).getD (ix).toNat (0, 0)).1)), (.int .i64 (((onc a b).getD (ix).toNat (0, 0)).2))]] hS6)
    refine WL.xe rfl (XE.append hS7 Try.underlying54 ti3 rfl (St.now (SH.rd hS7 (.tail _ (.head _)))) rfl rfl (by first | omega | simp only [List.length_append, List.length_cons, List.length_nil, List.length_take, List.length_reverse, List.length_drop] at *; omega) (by first | omega | simp only [List.length_append, List.length_cons, List.length_nil, List.length_take, List.length_reverse, List.length_drop] at *; omega)) ?_
    rintro _ w6 ⟨A3, c3, rfl, hS8, hk4⟩
    refine WL.lv rfl (LV.asg rfl) ?_
    refine WL.nil (blockQ.n <| thenQ.n ?_)
    refine WC.region ?_
    refine WL.lv rfl (LV.add rfl rfl (wr64 (by omega) (by omega))) ?_
    refine WL.lv rfl (LV.mv rfl) ?_
    refine WL.nil (thenQ.n ?_)
    have hS9 : SH w No w6 [rowE eI 3 (.slice A3 ((second ++ [((onc a b).getD (ix).toNat (0, 0)).2]).length) c3) (second ++ [((onc a b).getD (ix).toNat (0, 0)).2]), rowE eP 65 (.slice A1 ((onc a b).length) c1) (onc a b)] := (SH.take 2 rfl (SH.front [rowE eP 65 (.slice A1 ((onc a b).length) c1) (onc a b)] (SH.front [rowE eI 3 (.slice A3 ((second ++ [((onc a b).getD (ix).toNat (0, 0)).2]).length) c3) (second ++ [((onc a b).getD (ix).toNat (0, 0)).2]), rowE eI 3 (.slice (some ⟨b2, 0, none⟩) 1 1) [((onc a b).getD (ix).toNat (0, 0)).2], blkE b1 65 #[(.int .i64 (((onc a b).getD (ix).toNat (0, 0)).1)), (.int .i64 (((onc a b).getD (ix).toNat (0, 0)).2))]] hS8)))
    exact ⟨_, by omega, A3, c3, (second ++ [((onc a b).getD (ix).toNat (0, 0)).2]), ix + 1, by omega, by omega, (by rw [take_snoc (0, 0) ixlo hk, List.map_append, ← q1]; rfl), (by simp; omega), hS9, rfl, Weak.cons rfl <| Weak.cons rfl <| Weak.cons rfl <| Weak.cons rfl <| Weak.cons rfl <| Weak.nil _⟩
  · skip
    refine WC.exit (thenQ.x <| thenQ.x <| blockQ.hit <| thenQ.n ?_)
    refine WC.seq ?_
    refine WC.region ?_
    have hS10 := SH.nilRow (E := eP) (T := 65) hL1
    refine WL.lv rfl (LV.asg rfl) ?_
    refine WL.nil (thenQ.n ?_)
    iterate 2 refine WC.seq ?_
    refine WC.region ?_
    refine WL.lv rfl (LV.mv rfl) ?_
    refine WL.call rfl (XC.fn Try.func63 (by kernel_rfl) rfl rfl rfl) (longest_calls  (SH.rd hS10 (.tail _ (.head _))) rfl (by omega)) ?_
    rintro v_ w7 ⟨A4, c4, rfl, hS11⟩
    have hS12 := SH.joinN hS10 hS11
    refine WL.lv rfl (LV.lenL Try.underlying54 rfl) ?_
    refine WL.lv rfl (LV.mv rfl) ?_
    refine WL.nil (thenQ.n ?_)
    refine WC.block ?_
    refine WC.loop (fun m_ f_ w_ => ∃ (A_out : Option Addr) (c_out : Nat) (out : List (Int × Int)) (ix2 : Int), (0 ≤ ix2) ∧ (ix2 ≤ ((LNG second).length : Int)) ∧ (out = ((LNG second).take ix2.toNat).map (fun i => (onc a b).getD i.toNat (0, 0))) ∧ ((out.length : Int) = ix2) ∧ SH w No w_ [rowE eI 3 (.slice A4 ((LNG second).length) c4) (LNG second), rowE eP 65 (.slice A_out out.length c_out) out, rowE eI 3 (.slice A_second second.length c_second) second, rowE eP 65 (.slice A1 ((onc a b).length) c1) (onc a b)] ∧ m_ = ((((LNG second).length : Int) - ix2).toNat) ∧ Weak (lit [(5, (.slice A1 ((onc a b).length) c1)), (9, (.slice A_out out.length c_out)), (28, (.slice A4 ((LNG second).length) c4)), (29, (.int .i64 ((LNG second).length : Int))), (30, (.int .i64 ix2))]) f_) _ ⟨none, 0, [], 0, by omega, by omega, rfl, rfl, hS12, rfl, Weak.cons rfl <| Weak.cons rfl <| Weak.cons rfl <| Weak.cons rfl <| Weak.cons rfl <| Weak.nil _⟩ ?_
    rintro m2 f2 w8 ⟨A_out, c_out, out, ix2, ix2lo, ix2hi, r1, r2, hL2, rfl, hw2⟩
    refine WC.weak hw2 ?_
    clear hw2
    have hll_ := LNG_le second
    refine WC.seq ?_
    refine WC.region ?_
    refine WL.lv rfl (LV.ltI rfl rfl) ?_
    refine WL.nil (thenQ.n ?_)
    refine WC.seq ?_
    refine WC.condP (p := ix2 < ((LNG second).length : Int)) rfl (fun hk2 => ?_) (fun hk2 => ?_)
    · have hr_ := (LNG_ris second).at ix2lo hk2
      have hr0_ := hr_.1
      have hr1_ := hr_.2.1
      refine WC.skip (thenQ.n ?_)
      refine WC.seq ?_
      refine WC.block ?_
      refine WC.seq ?_
      refine WC.region ?_
      obtain ⟨A5, c5, e2, g2⟩ := St.elt (SH.rd hL2 (.head _)) 0 ix2 (by omega) (by omega)
      refine WL.lv rfl (LV.idxA Try.underlying54 ti3.sz rfl e2 rfl (by omega) (by omega)) ?_
      refine WL.lv rfl (LV.load1 (v := (.int .i64 (gI (LNG second) (ix2)))) Try.underlying3 rfl rfl (g2 _ (KB.refl No _) 0 _ rfl)) ?_
      refine WL.lv rfl (LV.asg rfl) ?_
      refine WL.nil (thenQ.n ?_)
      refine WC.region ?_
      iterate 3 refine WL.lv rfl (LV.mv rfl) ?_
      obtain ⟨A6, c6, e3, g3⟩ := St.elt (SH.rd hL2 (.tail _ (.tail _ (.tail _ (.head _))))) (0, 0) (gI (LNG second) (ix2)) (by omega) (by omega)
      refine WL.lv rfl (LV.idxA Try.underlying63 ti65.sz rfl e3 rfl (by omega) (by omega)) ?_
      refine WL.lv rfl (LV.loadAgg (cs := [(.int .i64 (((onc a b).getD (gI (LNG second) (ix2)).toNat (0, 0)).1)), (.int .i64 (((onc a b).getD (gI (LNG second) (ix2)).toNat (0, 0)).2))]) Try.underlying65 rfl ti65 rfl rfl (fun j u hu => g3 _ (KB.refl No _) j u hu)) ?_
      refine WL.xe rfl (XE.buildSlice (E := eP) [(0, (.agg #[(.int .i64 (((onc a b).getD (gI (LNG second) (ix2)).toNat (0, 0)).1)), (.int .i64 (((onc a b).getD (gI (LNG second) (ix2)).toNat (0, 0)).2))]))] #[(.int .i64 (((onc a b).getD (gI (LNG second) (ix2)).toNat (0, 0)).1)), (.int .i64 (((onc a b).getD (gI (LNG second) (ix2)).toNat (0, 0)).2))] [(((onc a b).getD (gI (LNG second) (ix2)).toNat (0, 0)).1, ((onc a b).getD (gI (LNG second) (ix2)).toNat (0, 0)).2)] hL2 Try.underlying63 ti65 rfl (by decide) (by kernel_rfl) (.inr rfl) rfl rfl (by decide)) ?_
      rintro _ w9 ⟨b3, rfl, hS13, hk5⟩
      have hS14 : SH w No w9 [rowE eP 65 (.slice A_out out.length c_out) out, rowE eP 65 (.slice (some ⟨b3, 0, none⟩) 1 1) [(((onc a b).getD (gI (LNG second) (ix2)).toNat (0, 0)).1, ((onc a b).getD (gI (LNG second) (ix2)).toNat (0, 0)).2)], rowE eI 3 (.slice A4 ((LNG second).length) c4) (LNG second), rowE eI 3 (.slice A_second second.length c_second) second, rowE eP 65 (.slice A1 ((onc a b).length) c1) (onc a b)] := (SH.front [rowE eP 65 (.slice (some ⟨b3, 0, none⟩) 1 1) [(((onc a b).getD (gI (LNG second) (ix2)).toNat (0, 0)).1, ((onc a b).getD (gI (LNG second) (ix2)).toNat (0, 0)).2)], rowE eI 3 (.slice A4 ((LNG second).length) c4) (LNG second)] hS13)
      refine WL.xe rfl (XE.append hS14 Try.underlying63 ti65 rfl (St.now (SH.rd hS14 (.tail _ (.head _)))) rfl rfl (by first | omega | simp only [List.length_append, List.length_cons, List.length_nil, List.length_take, List.length_reverse, List.length_drop] at *; omega) (by first | omega | simp only [List.length_append, List.length_cons, List.length_nil, List.length_take, List.length_reverse, List.length_drop] at *; omega)) ?_
      rintro _ w10 ⟨A7, c7, rfl, hS15, hk6⟩
      refine WL.lv rfl (LV.asg rfl) ?_
      refine WL.nil (blockQ.n <| thenQ.n ?_)
      refine WC.region ?_
      refine WL.lv rfl (LV.add rfl rfl (wr64 (by omega) (by omega))) ?_
      refine WL.lv rfl (LV.mv rfl) ?_
      refine WL.nil (thenQ.n ?_)
      have hS16 : SH w No w10 [rowE eI 3 (.slice A4 ((LNG second).length) c4) (LNG second), rowE eP 65 (.slice A7 ((out ++ [(((onc a b).getD (gI (LNG second) (ix2)).toNat (0, 0)).1, ((onc a b).getD (gI (LNG second) (ix2)).toNat (0, 0)).2)]).length) c7) (out ++ [(((onc a b).getD (gI (LNG second) (ix2)).toNat (0, 0)).1, ((onc a b).getD (gI (LNG second) (ix2)).toNat (0, 0)).2)]), rowE eI 3 (.slice A_second second.length c_second) second, rowE eP 65 (.slice A1 ((onc a b).length) c1) (onc a b)] := (SH.take 4 rfl (SH.front [rowE eP 65 (.slice A7 ((out ++ [(((onc a b).getD (gI (LNG second) (ix2)).toNat (0, 0)).1, ((onc a b).getD (gI (LNG second) (ix2)).toNat (0, 0)).2)]).length) c7) (out ++ [(((onc a b).getD (gI (LNG second) (ix2)).toNat (0, 0)).1, ((onc a b).getD (gI (LNG second) (ix2)).toNat (0, 0)).2)]), rowE eI 3 (.slice A_second second.length c_second) second, rowE eP 65 (.slice A1 ((onc a b).length) c1) (onc a b), rowE eP 65 (.slice (some ⟨b3, 0, none⟩) 1 1) [(((onc a b).getD (gI (LNG second) (ix2)).toNat (0, 0)).1, ((onc a b).getD (gI (LNG second) (ix2)).toNat (0, 0)).2)]] (SH.front [rowE eI 3 (.slice A_second second.length c_second) second, rowE eP 65 (.slice A1 ((onc a b).length) c1) (onc a b)] (SH.front [rowE eP 65 (.slice A1 ((onc a b).length) c1) (onc a b), rowE eP 65 (.slice A7 ((out ++ [(((onc a b).getD (gI (LNG second) (ix2)).toNat (0, 0)).1, ((onc a b).getD (gI (LNG second) (ix2)).toNat (0, 0)).2)]).length) c7) (out ++ [(((onc a b).getD (gI (LNG second) (ix2)).toNat (0, 0)).1, ((onc a b).getD (gI (LNG second) (ix2)).toNat (0, 0)).2)]), rowE eP 65 (.slice (some ⟨b3, 0, none⟩) 1 1) [(((onc a b).getD (gI (LNG second) (ix2)).toNat (0, 0)).1, ((onc a b).getD (gI (LNG second) (ix2)).toNat (0, 0)).2)], rowE eI 3 (.slice A4 ((LNG second).length) c4) (LNG second)] (SH.front [rowE eP 65 (.slice A7 ((out ++ [(((onc a b).getD (gI (LNG second) (ix2)).toNat (0, 0)).1, ((onc a b).getD (gI (LNG second) (ix2)).toNat (0, 0)).2)]).length) c7) (out ++ [(((onc a b).getD (gI (LNG second) (ix2)).toNat (0, 0)).1, ((onc a b).getD (gI (LNG second) (ix2)).toNat (0, 0)).2)]), rowE eP 65 (.slice (some ⟨b3, 0, none⟩) 1 1) [(((onc a b).getD (gI (LNG second) (ix2)).toNat (0, 0)).1, ((onc a b).getD (gI (LNG second) (ix2)).toNat (0, 0)).2)], rowE eI 3 (.slice A4 ((LNG second).length) c4) (LNG second), rowE eI 3 (.slice A_second second.length c_second) second] hS15)))))
      exact ⟨_, by omega, A7, c7, (out ++ [(((onc a b).getD (gI (LNG second) (ix2)).toNat (0, 0)).1, ((onc a b).getD (gI (LNG second) (ix2)).toNat (0, 0)).2)]), ix2 + 1, by omega, by omega, (by rw [take_snoc 0 ix2lo hk2, List.map_append, ← r1]; rfl), (by simp; omega), hS16, rfl, Weak.cons rfl <| Weak.cons rfl <| Weak.cons rfl <| Weak.cons rfl <| Weak.cons rfl <| Weak.nil _⟩
    · skip
      refine WC.exit (thenQ.x <| thenQ.x <| blockQ.hit <| thenQ.n ?_)
      refine WC.seq ?_
      refine WC.region ?_
      refine WL.lv rfl (LV.mv rfl) ?_
      refine WL.lv rfl (LV.asg rfl) ?_
      refine WL.nil (thenQ.n ?_)
      refine WC.ret (?_)
      have hS17 : SH w No w8 [rowE eP 65 (.slice A_out out.length c_out) out] := (SH.take 1 rfl (SH.front [rowE eI 3 (.slice A4 ((LNG second).length) c4) (LNG second)] hL2))
      have hres1 : (out : List (Int × Int)) = ANC a b := by rw [r1, take_all (by omega), q1, take_all (by omega)]; rfl
      exact ⟨_, fun a ha => res1 rfl ha rfl, (by rw [← hres1]; exact ⟨_, _, rfl, hS17⟩)⟩

theorem ranchors_calls {w : World} {A_a : Option Addr} {n_a c_a : Nat} {a : List Int} {A_b : Option Addr} {n_b c_b : Nat} {b : List Int} (h_a : St No w (Rd eI (.slice A_a n_a c_a) a)) (hn_a : a.length = n_a) (h_b : St No w (Rd eI (.slice A_b n_b c_b) b)) (hn_b : b.length = n_b) (ha4 : a.length ≤ 1000) (hb4 : b.length ≤ 1000) :
    Calls Try.prog 53 #[(.slice A_a n_a c_a), (.slice A_b n_b c_b)] w fun e w' => ∃ v, e = .returned v ∧ (fun v w' => ∃ (A0' : Option Addr) (c0' : Nat), v = .slice A0' (ANC a b).length c0' ∧ SH w No w' [rowE eP 65 (.slice A0' (ANC a b).length c0') (ANC a b)]) v w' := by
  subst hn_a hn_b
  have hol_ := oncT_len a b a.length
  have hon_ : (onc a b).length ≤ a.length := hol_
  have hS : SH w No w [] := SH.nil _ _
  refine calls (l := litOf [(.slice A_a a.length c_a), (.slice A_b b.length c_b)] 0) Try.func53 rfl (n := 49) rfl (Nat.le_of_ble_eq_true rfl) (lit_args _) ?_
  refine WC.seq ?_
  refine WC.region ?_
  refine WL.lv rfl (LV.asg rfl) ?_
  refine WL.nil (thenQ.n ?_)
  refine WC.seq ?_
  refine WC.region ?_
  iterate 2 refine WL.lv rfl (LV.mv rfl) ?_
  refine WL.call rfl (XC.fn Try.func59 (by kernel_rfl) rfl rfl rfl) (ronce_calls  (SH.stN hS h_a) rfl (SH.stN hS h_b) rfl (by omega) (by omega)) ?_
  rintro v_ w1 ⟨A1, c1, rfl, hS1⟩
  have hS2 := SH.joinN hS hS1
  refine WL.lv rfl (LV.asg rfl) ?_
  refine WL.nil (thenQ.n ?_)
  refine WC.seq ?_
  refine WC.region ?_
  refine WL.xe rfl (XE.buildSlice (E := eI) [] #[] [] hS2 Try.underlying54 ti3 rfl (by decide) (by kernel_rfl) (.inr rfl) rfl rfl (by decide)) ?_
  rintro _ w2 ⟨b1, rfl, hS3, hk1⟩
  refine WL.lv rfl (LV.asg rfl) ?_
  refine WL.nil (thenQ.n ?_)
  iterate 2 refine WC.seq ?_
  refine WC.region ?_
  refine WL.lv rfl (LV.asg rfl) ?_
  refine WL.nil (thenQ.n ?_)
  refine WC.block ?_
  refine WC.loop (fun m_ f_ w_ => ∃ (A_second : Option Addr) (c_second : Nat) (second : List Int) (i : Int), (0 ≤ i) ∧ (i ≤ ((onc a b).length : Int)) ∧ (second = ((onc a b).take i.toNat).map (·.2)) ∧ ((second.length : Int) = i) ∧ SH w No w_ [rowE eI 3 (.slice A_second second.length c_second) second, rowE eP 65 (.slice A1 ((onc a b).length) c1) (onc a b)] ∧ m_ = ((((onc a b).length : Int) - i).toNat) ∧ Weak (lit [(5, (.slice A1 ((onc a b).length) c1)), (6, (.slice A_second second.length c_second)), (7, (.int .i64 i))]) f_) _ ⟨(some ⟨b1, 0, none⟩), 0, [], 0, by omega, by omega, rfl, rfl, hS3, rfl, Weak.cons rfl <| Weak.cons rfl <| Weak.cons rfl <| Weak.nil _⟩ ?_
  rintro m1 f1 w3 ⟨A_second, c_second, second, i, ilo, ihi, q1, q2, hL1, rfl, hw1⟩
  refine WC.weak hw1 ?_
  clear hw1
  iterate 2 refine WC.seq ?_
  refine WC.region ?_
  iterate 2 refine WL.lv rfl (LV.mv rfl) ?_
  refine WL.lv rfl (LV.lenL Try.underlying63 rfl) ?_
  refine WL.lv rfl (LV.ltI rfl rfl) ?_
  refine WL.nil (thenQ.n ?_)
  refine WC.condP (p := i < ((onc a b).length : Int)) rfl (fun hk => ?_) (fun hk => ?_)
  · skip
    refine WC.skip (thenQ.n ?_)
    refine WC.seq ?_
    refine WC.block ?_
    refine WC.region ?_
    iterate 3 refine WL.lv rfl (LV.mv rfl) ?_
    obtain ⟨A2, c2, e1, g1⟩ := St.elt (SH.rd hL1 (.tail _ (.head _))) (0, 0) i (by omega) (by omega)
    refine WL.lv rfl (LV.idxA Try.underlying63 ti65.sz rfl e1 rfl (by omega) (by omega)) ?_
    refine WL.lv rfl (LV.idxArr Try.underlying65 ti3.sz rfl rfl (by decide) (by decide)) ?_
    refine WL.lv rfl (LV.load1 (v := (.int .i64 (((onc a b).getD (i).toNat (0, 0)).2))) Try.underlying3 rfl rfl (g1 _ (KB.refl No _) 1 _ rfl)) ?_
    refine WL.xe rfl (XE.buildSlice (E := eI) [(0, (.int .i64 (((onc a b).getD (i).toNat (0, 0)).2)))] #[(.int .i64 (((onc a b).getD (i).toNat (0, 0)).2))] [((onc a b).getD (i).toNat (0, 0)).2] hL1 Try.underlying54 ti3 rfl (by decide) (by kernel_rfl) (.inr rfl) rfl rfl (by decide)) ?_
    rintro _ w4 ⟨b2, rfl, hS4, hk2⟩
    have hS5 : SH w No w4 [rowE eI 3 (.slice A_second second.length c_second) second, rowE eI 3 (.slice (some ⟨b2, 0, none⟩) 1 1) [((onc a b).getD (i).toNat (0, 0)).2], rowE eP 65 (.slice A1 ((onc a b).length) c1) (onc a b)] := (SH.front [rowE eI 3 (.slice (some ⟨b2, 0, none⟩) 1 1) [((onc a b).getD (i).toNat (0, 0)).2]] hS4)
    refine WL.xe rfl (XE.append hS5 Try.underlying54 ti3 rfl (St.now (SH.rd hS5 (.tail _ (.head _)))) rfl rfl (by first | omega | simp only [List.length_append, List.length_cons, List.length_nil, List.length_take, List.length_reverse, List.length_drop] at *; omega) (by first | omega | simp only [List.length_append, List.length_cons, List.length_nil, List.length_take, List.length_reverse, List.length_drop] at *; omega)) ?_
    rintro _ w5 ⟨A3, c3, rfl, hS6, hk3⟩
    refine WL.lv rfl (LV.asg rfl) ?_
    refine WL.nil (blockQ.n <| thenQ.n ?_)
    refine WC.region ?_
    refine WL.lv rfl (LV.mv rfl) ?_
    refine WL.lv rfl (LV.add rfl rfl (wr64 (by omega) (by omega))) ?_
    refine WL.lv rfl (LV.asg rfl) ?_
    refine WL.nil (thenQ.n ?_)
    have hS7 : SH w No w5 [rowE eI 3 (.slice A3 ((second ++ [((onc a b).getD (i).toNat (0, 0)).2]).length) c3) (second ++ [((onc a b).getD (i).toNat (0, 0)).2]), rowE eP 65 (.slice A1 ((onc a b).length) c1) (onc a b)] := (SH.take 2 rfl (SH.front [rowE eP 65 (.slice A1 ((onc a b).length) c1) (onc a b)] (SH.front [rowE eI 3 (.slice A3 ((second ++ [((onc a b).getD (i).toNat (0, 0)).2]).length) c3) (second ++ [((onc a b).getD (i).toNat (0, 0)).2]), rowE eI 3 (.slice (some ⟨b2, 0, none⟩) 1 1) [((onc a b).getD (i).toNat (0, 0)).2]] hS6)))
    exact ⟨_, by omega, A3, c3, (second ++ [((onc a b).getD (i).toNat (0, 0)).2]), i + 1, by omega, by omega, (by rw [take_snoc (0, 0) ilo hk, List.map_append, ← q1]; rfl), (by simp; omega), hS7, rfl, Weak.cons rfl <| Weak.cons rfl <| Weak.cons rfl <| Weak.nil _⟩
  · skip
    refine WC.exit (thenQ.x <| thenQ.x <| blockQ.hit <| thenQ.n ?_)
    refine WC.seq ?_
    refine WC.region ?_
    refine WL.lv rfl (LV.mv rfl) ?_
    refine WL.call rfl (XC.fn Try.func60 (by kernel_rfl) rfl rfl rfl) (rlongest_calls  (SH.rd hL1 (.head _)) rfl (by omega)) ?_
    rintro v_ w6 ⟨A4, c4, rfl, hS8⟩
    have hS9 := SH.joinN hL1 hS8
    refine WL.lv rfl (LV.asg rfl) ?_
    refine WL.nil (thenQ.n ?_)
    refine WC.seq ?_
    refine WC.region ?_
    refine WL.xe rfl (XE.buildSlice (E := eP) [] #[] [] hS9 Try.underlying63 ti65 rfl (by decide) (by kernel_rfl) (.inr rfl) rfl rfl (by decide)) ?_
    rintro _ w7 ⟨b3, rfl, hS10, hk4⟩
    refine WL.lv rfl (LV.asg rfl) ?_
    refine WL.nil (thenQ.n ?_)
    iterate 2 refine WC.seq ?_
    refine WC.region ?_
    refine WL.lv rfl (LV.asg rfl) ?_
    refine WL.nil (thenQ.n ?_)
    refine WC.block ?_
    refine WC.loop (fun m_ f_ w_ => ∃ (A_out : Option Addr) (c_out : Nat) (out : List (Int × Int)) (i2 : Int), (0 ≤ i2) ∧ (i2 ≤ ((LNG second).length : Int)) ∧ (out = ((LNG second).take i2.toNat).map (fun i => (onc a b).getD i.toNat (0, 0))) ∧ ((out.length : Int) = i2) ∧ SH w No w_ [rowE eP 65 (.slice A_out out.length c_out) out, rowE eI 3 (.slice A4 ((LNG second).length) c4) (LNG second), rowE eI 3 (.slice A_second second.length c_second) second, rowE eP 65 (.slice A1 ((onc a b).length) c1) (onc a b)] ∧ m_ = ((((LNG second).length : Int) - i2).toNat) ∧ Weak (lit [(5, (.slice A1 ((onc a b).length) c1)), (8, (.slice A4 ((LNG second).length) c4)), (9, (.slice A_out out.length c_out)), (10, (.int .i64 i2))]) f_) _ ⟨(some ⟨b3, 0, none⟩), 0, [], 0, by omega, by omega, rfl, rfl, hS10, rfl, Weak.cons rfl <| Weak.cons rfl <| Weak.cons rfl <| Weak.cons rfl <| Weak.nil _⟩ ?_
    rintro m2 f2 w8 ⟨A_out, c_out, out, i2, i2lo, i2hi, r1, r2, hL2, rfl, hw2⟩
    refine WC.weak hw2 ?_
    clear hw2
    have hll_ := LNG_le second
    iterate 2 refine WC.seq ?_
    refine WC.region ?_
    iterate 2 refine WL.lv rfl (LV.mv rfl) ?_
    refine WL.lv rfl (LV.lenL Try.underlying54 rfl) ?_
    refine WL.lv rfl (LV.ltI rfl rfl) ?_
    refine WL.nil (thenQ.n ?_)
    refine WC.condP (p := i2 < ((LNG second).length : Int)) rfl (fun hk2 => ?_) (fun hk2 => ?_)
    · have hr_ := (LNG_ris second).at i2lo hk2
      have hr0_ := hr_.1
      have hr1_ := hr_.2.1
      refine WC.skip (thenQ.n ?_)
      refine WC.seq ?_
      refine WC.block ?_
      refine WC.region ?_
      iterate 4 refine WL.lv rfl (LV.mv rfl) ?_
      obtain ⟨A5, c5, e2, g2⟩ := St.elt (SH.rd hL2 (.tail _ (.head _))) 0 i2 (by omega) (by omega)
      refine WL.lv rfl (LV.idxA Try.underlying54 ti3.sz rfl e2 rfl (by omega) (by omega)) ?_
      refine WL.lv rfl (LV.load1 (v := (.int .i64 (gI (LNG second) (i2)))) Try.underlying3 rfl rfl (g2 _ (KB.refl No _) 0 _ rfl)) ?_
      obtain ⟨A6, c6, e3, g3⟩ := St.elt (SH.rd hL2 (.tail _ (.tail _ (.tail _ (.head _))))) (0, 0) (gI (LNG second) (i2)) (by omega) (by omega)
      refine WL.lv rfl (LV.idxA Try.underlying63 ti65.sz rfl e3 rfl (by omega) (by omega)) ?_
      refine WL.lv rfl (LV.loadAgg (cs := [(.int .i64 (((onc a b).getD (gI (LNG second) (i2)).toNat (0, 0)).1)), (.int .i64 (((onc a b).getD (gI (LNG second) (i2)).toNat (0, 0)).2))]) Try.underlying65 rfl ti65 rfl rfl (fun j u hu => g3 _ (KB.refl No _) j u hu)) ?_
      refine WL.xe rfl (XE.buildSlice (E := eP) [(0, (.agg #[(.int .i64 (((onc a b).getD (gI (LNG second) (i2)).toNat (0, 0)).1)), (.int .i64 (((onc a b).getD (gI (LNG second) (i2)).toNat (0, 0)).2))]))] #[(.int .i64 (((onc a b).getD (gI (LNG second) (i2)).toNat (0, 0)).1)), (.int .i64 (((onc a b).getD (gI (LNG second) (i2)).toNat (0, 0)).2))] [(((onc a b).getD (gI (LNG second) (i2)).toNat (0, 0)).1, ((onc a b).getD (gI (LNG second) (i2)).toNat (0, 0)).2)] hL2 Try.underlying63 ti65 rfl (by decide) (by kernel_rfl) (.inr rfl) rfl rfl (by decide)) ?_
      rintro _ w9 ⟨b4, rfl, hS11, hk5⟩
      have hS12 : SH w No w9 [rowE eP 65 (.slice A_out out.length c_out) out, rowE eP 65 (.slice (some ⟨b4, 0, none⟩) 1 1) [(((onc a b).getD (gI (LNG second) (i2)).toNat (0, 0)).1, ((onc a b).getD (gI (LNG second) (i2)).toNat (0, 0)).2)], rowE eI 3 (.slice A4 ((LNG second).length) c4) (LNG second), rowE eI 3 (.slice A_second second.length c_second) second, rowE eP 65 (.slice A1 ((onc a b).length) c1) (onc a b)] := (SH.front [rowE eP 65 (.slice (some ⟨b4, 0, none⟩) 1 1) [(((onc a b).getD (gI (LNG second) (i2)).toNat (0, 0)).1, ((onc a b).getD (gI (LNG second) (i2)).toNat (0, 0)).2)]] hS11)
      refine WL.xe rfl (XE.append hS12 Try.underlying63 ti65 rfl (St.now (SH.rd hS12 (.tail _ (.head _)))) rfl rfl (by first | omega | simp only [List.length_append, List.length_cons, List.length_nil, List.length_take, List.length_reverse, List.length_drop] at *; omega) (by first | omega | simp only [List.length_append, List.length_cons, List.length_nil, List.length_take, List.length_reverse, List.length_drop] at *; omega)) ?_
      rintro _ w10 ⟨A7, c7, rfl, hS13, hk6⟩
      refine WL.lv rfl (LV.asg rfl) ?_
      refine WL.nil (blockQ.n <| thenQ.n ?_)
      refine WC.region ?_
      refine WL.lv rfl (LV.mv rfl) ?_
      refine WL.lv rfl (LV.add rfl rfl (wr64 (by omega) (by omega))) ?_
      refine WL.lv rfl (LV.asg rfl) ?_
      refine WL.nil (thenQ.n ?_)
      have hS14 : SH w No w10 [rowE eP 65 (.slice A7 ((out ++ [(((onc a b).getD (gI (LNG second) (i2)).toNat (0, 0)).1, ((onc a b).getD (gI (LNG second) (i2)).toNat (0, 0)).2)]).length) c7) (out ++ [(((onc a b).getD (gI (LNG second) (i2)).toNat (0, 0)).1, ((onc a b).getD (gI (LNG second) (i2)).toNat (0, 0)).2)]), rowE eI 3 (.slice A4 ((LNG second).length) c4) (LNG second), rowE eI 3 (.slice A_second second.length c_second) second, rowE eP 65 (.slice A1 ((onc a b).length) c1) (onc a b)] := (SH.take 4 rfl (SH.front [rowE eI 3 (.slice A4 ((LNG second).length) c4) (LNG second), rowE eI 3 (.slice A_second second.length c_second) second, rowE eP 65 (.slice A1 ((onc a b).length) c1) (onc a b)] (SH.front [rowE eI 3 (.slice A_second second.length c_second) second, rowE eP 65 (.slice A1 ((onc a b).length) c1) (onc a b), rowE eP 65 (.slice A7 ((out ++ [(((onc a b).getD (gI (LNG second) (i2)).toNat (0, 0)).1, ((onc a b).getD (gI (LNG second) (i2)).toNat (0, 0)).2)]).length) c7) (out ++ [(((onc a b).getD (gI (LNG second) (i2)).toNat (0, 0)).1, ((onc a b).getD (gI (LNG second) (i2)).toNat (0, 0)).2)]), rowE eP 65 (.slice (some ⟨b4, 0, none⟩) 1 1) [(((onc a b).getD (gI (LNG second) (i2)).toNat (0, 0)).1, ((onc a b).getD (gI (LNG second) (i2)).toNat (0, 0)).2)]] (SH.front [rowE eP 65 (.slice A1 ((onc a b).length) c1) (onc a b), rowE eP 65 (.slice A7 ((out ++ [(((onc a b).getD (gI (LNG second) (i2)).toNat (0, 0)).1, ((onc a b).getD (gI (LNG second) (i2)).toNat (0, 0)).2)]).length) c7) (out ++ [(((onc a b).getD (gI (LNG second) (i2)).toNat (0, 0)).1, ((onc a b).getD (gI (LNG second) (i2)).toNat (0, 0)).2)]), rowE eP 65 (.slice (some ⟨b4, 0, none⟩) 1 1) [(((onc a b).getD (gI (LNG second) (i2)).toNat (0, 0)).1, ((onc a b).getD (gI (LNG second) (i2)).toNat (0, 0)).2)], rowE eI 3 (.slice A4 ((LNG second).length) c4) (LNG second)] (SH.front [rowE eP 65 (.slice A7 ((out ++ [(((onc a b).getD (gI (LNG second) (i2)).toNat (0, 0)).1, ((onc a b).getD (gI (LNG second) (i2)).toNat (0, 0)).2)]).length) c7) (out ++ [(((onc a b).getD (gI (LNG second) (i2)).toNat (0, 0)).1, ((onc a b).getD (gI (LNG second) (i2)).toNat (0, 0)).2)]), rowE eP 65 (.slice (some ⟨b4, 0, none⟩) 1 1) [(((onc a b).getD (gI (LNG second) (i2)).toNat (0, 0)).1, ((onc a b).getD (gI (LNG second) (i2)).toNat (0, 0)).2)], rowE eI 3 (.slice A4 ((LNG second).length) c4) (LNG second), rowE eI 3 (.slice A_second second.length c_second) second] hS13)))))
      exact ⟨_, by omega, A7, c7, (out ++ [(((onc a b).getD (gI (LNG second) (i2)).toNat (0, 0)).1, ((onc a b).getD (gI (LNG second) (i2)).toNat (0, 0)).2)]), i2 + 1, by omega, by omega, (by rw [take_snoc 0 i2lo hk2, List.map_append, ← r1]; rfl), (by simp; omega), hS14, rfl, Weak.cons rfl <| Weak.cons rfl <| Weak.cons rfl <| Weak.cons rfl <| Weak.nil _⟩
    · skip
      refine WC.exit (thenQ.x <| thenQ.x <| blockQ.hit <| thenQ.n ?_)
      refine WC.seq ?_
      refine WC.region ?_
      refine WL.lv rfl (LV.mv rfl) ?_
      refine WL.lv rfl (LV.asg rfl) ?_
      refine WL.nil (thenQ.n ?_)
      refine WC.ret (?_)
      have hS15 : SH w No w8 [rowE eP 65 (.slice A_out out.length c_out) out] := (SH.take 1 rfl hL2)
      have hres1 : (out : List (Int × Int)) = ANC a b := by rw [r1, take_all (by omega), q1, take_all (by omega)]; rfl
      exact ⟨_, fun a ha => res1 rfl ha rfl, (by rw [← hres1]; exact ⟨_, _, rfl, hS15⟩)⟩

theorem moved_calls {w : World} {A_p : Option Addr} {n_p c_p : Nat} {p : List (Int × Int)} {i : Int} {j : Int} (h_p : St No w (Rd eP (.slice A_p n_p c_p) p)) (hn_p : p.length = n_p) (hp : p.length ≤ 1000) (hb : ∀ q ∈ p, 0 ≤ q.1 ∧ q.1 ≤ 100000 ∧ 0 ≤ q.2 ∧ q.2 ≤ 100000) (hi : 0 ≤ i ∧ i ≤ 100000) (hj : 0 ≤ j ∧ j ≤ 100000) :
    Calls Try.prog 52 #[(.slice A_p n_p c_p), (.int .i64 i), (.int .i64 j)] w fun e w' => ∃ v, e = .returned v ∧ (fun v w' => ∃ (A0' : Option Addr) (c0' : Nat), v = .slice A0' (mvd p i j).length c0' ∧ SH w No w' [rowE eP 65 (.slice A0' (mvd p i j).length c0') (mvd p i j)]) v w' := by
  subst hn_p
  have hS : SH w No w [] := SH.nil _ _
  refine calls (l := litOf [(.slice A_p p.length c_p), (.int .i64 i), (.int .i64 j)] 0) Try.func52 rfl (n := 35) rfl (Nat.le_of_ble_eq_true rfl) (lit_args _) ?_
  refine WC.seq ?_
  refine WC.region ?_
  refine WL.lv rfl (LV.asg rfl) ?_
  refine WL.nil (thenQ.n ?_)
  refine WC.seq ?_
  refine WC.region ?_
  refine WL.xe rfl (XE.buildSlice (E := eP) [] #[] [] hS Try.underlying63 ti65 rfl (by decide) (by kernel_rfl) (.inr rfl) rfl rfl (by decide)) ?_
  rintro _ w1 ⟨b1, rfl, hS1, hk1⟩
  refine WL.lv rfl (LV.asg rfl) ?_
  refine WL.nil (thenQ.n ?_)
  iterate 2 refine WC.seq ?_
  refine WC.region ?_
  refine WL.lv rfl (LV.asg rfl) ?_
  refine WL.nil (thenQ.n ?_)
  refine WC.block ?_
  refine WC.loop (fun m_ f_ w_ => ∃ (A_out : Option Addr) (c_out : Nat) (out : List (Int × Int)) (k : Int), (0 ≤ k) ∧ (k ≤ (p.length : Int)) ∧ (out = mvd (p.take k.toNat) i j) ∧ ((out.length : Int) = k) ∧ SH w No w_ [rowE eP 65 (.slice A_out out.length c_out) out] ∧ m_ = (((p.length : Int) - k).toNat) ∧ Weak (lit [(0, (.slice A_p p.length c_p)), (1, (.int .i64 i)), (2, (.int .i64 j)), (7, (.slice A_out out.length c_out)), (8, (.int .i64 k))]) f_) _ ⟨(some ⟨b1, 0, none⟩), 0, [], 0, by omega, by omega, rfl, rfl, hS1, rfl, Weak.cons rfl <| Weak.cons rfl <| Weak.cons rfl <| Weak.cons rfl <| Weak.cons rfl <| Weak.nil _⟩ ?_
  rintro m1 f1 w2 ⟨A_out, c_out, out, k, klo, khi, q1, q2, hL1, rfl, hw1⟩
  refine WC.weak hw1 ?_
  clear hw1
  iterate 2 refine WC.seq ?_
  refine WC.region ?_
  iterate 2 refine WL.lv rfl (LV.mv rfl) ?_
  refine WL.lv rfl (LV.lenL Try.underlying63 rfl) ?_
  refine WL.lv rfl (LV.ltI rfl rfl) ?_
  refine WL.nil (thenQ.n ?_)
  refine WC.condP (p := k < (p.length : Int)) rfl (fun hk => ?_) (fun hk => ?_)
  · have hq_ := hb (p.getD k.toNat (0, 0)) (getD_mem (by omega))
    refine WC.skip (thenQ.n ?_)
    refine WC.seq ?_
    refine WC.block ?_
    have hS2 := SH.drew hL1
    refine WC.regionD [17] (fun w_ => KB No w2.drew w_) [(.pure, 0), (.pure, 1), (.pure, 2), (.pure, 3), (.pure, 4), (.look, 5), (.pure, 6), (.pure, 7), (.pure, 8), (.pure, 9), (.pure, 10), (.pure, 11), (.look, 12), (.pure, 13), (.pure, 14), (.pure, 15), (.forced, 16), (.forced, 17), (.pure, 18)] (by kernel_rfl) (by kernel_rfl) (KB.refl _ _) ?_
    iterate 3 refine WS.pure rfl rfl (fun _ => LV.mv rfl) ?_
    obtain ⟨A1, c1, e1, g1⟩ := St.elt (SH.stN hS2 h_p) (0, 0) k (by omega) (by omega)
    refine WS.pure rfl rfl (fun _ => LV.idxA Try.underlying63 ti65.sz rfl e1 rfl (by omega) (by omega)) ?_
    refine WS.pure rfl rfl (fun _ => LV.idxArr Try.underlying65 ti3.sz rfl rfl (by decide) (by decide)) ?_
    refine WS.look rfl rfl (fun _ hk_ => LV.load1 (v := (.int .i64 ((p.getD (k).toNat (0, 0)).1))) Try.underlying3 rfl rfl (g1 _ hk_ 0 _ rfl)) ?_
    refine WS.pure rfl rfl (fun _ => LV.mv rfl) ?_
    refine WS.pure rfl rfl (fun _ => LV.add rfl rfl (wr64 (by omega) (by omega))) ?_
    iterate 2 refine WS.pure rfl rfl (fun _ => LV.mv rfl) ?_
    obtain ⟨A2, c2, e2, g2⟩ := St.elt (SH.stN hS2 h_p) (0, 0) k (by omega) (by omega)
    refine WS.pure rfl rfl (fun _ => LV.idxA Try.underlying63 ti65.sz rfl e2 rfl (by omega) (by omega)) ?_
    refine WS.pure rfl rfl (fun _ => LV.idxArr Try.underlying65 ti3.sz rfl rfl (by decide) (by decide)) ?_
    refine WS.look rfl rfl (fun _ hk_ => LV.load1 (v := (.int .i64 ((p.getD (k).toNat (0, 0)).2))) Try.underlying3 rfl rfl (g2 _ hk_ 1 _ rfl)) ?_
    refine WS.pure rfl rfl (fun _ => LV.mv rfl) ?_
    refine WS.pure rfl rfl (fun _ => LV.add rfl rfl (wr64 (by omega) (by omega))) ?_
    refine WS.pure rfl rfl (fun _ => LV.buildA (vs := [(0, (.int .i64 (((p.getD (k).toNat (0, 0)).1) + i))), (1, (.int .i64 (((p.getD (k).toNat (0, 0)).2) + j)))]) (cs := #[(.int .i64 (((p.getD (k).toNat (0, 0)).1) + i)), (.int .i64 (((p.getD (k).toNat (0, 0)).2) + j))]) Try.underlying65 ti65 ti3 rfl rfl) ?_
    refine WS.xe rfl rfl (XE.buildSlice (E := eP) [(0, (.agg #[(.int .i64 (((p.getD (k).toNat (0, 0)).1) + i)), (.int .i64 (((p.getD (k).toNat (0, 0)).2) + j))]))] #[(.int .i64 (((p.getD (k).toNat (0, 0)).1) + i)), (.int .i64 (((p.getD (k).toNat (0, 0)).2) + j))] [(((p.getD (k).toNat (0, 0)).1) + i, ((p.getD (k).toNat (0, 0)).2) + j)] hS2 Try.underlying63 ti65 rfl (by decide) (by kernel_rfl) (.inr rfl) rfl rfl (by decide)) ?_
    rintro _ w3 ⟨b2, rfl, hS3, hk2⟩
    refine ⟨fun h_ => (KB.transN (KB.refl _ _) hk2), ?_⟩
    have hS4 : SH w No w3 [rowE eP 65 (.slice A_out out.length c_out) out, rowE eP 65 (.slice (some ⟨b2, 0, none⟩) 1 1) [(((p.getD (k).toNat (0, 0)).1) + i, ((p.getD (k).toNat (0, 0)).2) + j)]] := (SH.front [rowE eP 65 (.slice (some ⟨b2, 0, none⟩) 1 1) [(((p.getD (k).toNat (0, 0)).1) + i, ((p.getD (k).toNat (0, 0)).2) + j)]] hS3)
    refine WS.xe rfl rfl (XE.append hS4 Try.underlying63 ti65 rfl (St.now (SH.rd hS4 (.tail _ (.head _)))) rfl rfl (by first | omega | simp only [List.length_append, List.length_cons, List.length_nil, List.length_take, List.length_reverse, List.length_drop] at *; omega) (by first | omega | simp only [List.length_append, List.length_cons, List.length_nil, List.length_take, List.length_reverse, List.length_drop] at *; omega)) ?_
    rintro _ w4 ⟨A3, c3, rfl, hS5, hk3⟩
    refine ⟨fun h_ => (by cases h_), ?_⟩
    refine WS.pure rfl rfl (fun _ => LV.asg rfl) ?_
    refine WS.nil (blockQ.n <| thenQ.n ?_)
    refine WC.region ?_
    refine WL.lv rfl (LV.mv rfl) ?_
    refine WL.lv rfl (LV.add rfl rfl (wr64 (by omega) (by omega))) ?_
    refine WL.lv rfl (LV.asg rfl) ?_
    refine WL.nil (thenQ.n ?_)
    have hS6 : SH w No w4 [rowE eP 65 (.slice A3 ((out ++ [(((p.getD (k).toNat (0, 0)).1) + i, ((p.getD (k).toNat (0, 0)).2) + j)]).length) c3) (out ++ [(((p.getD (k).toNat (0, 0)).1) + i, ((p.getD (k).toNat (0, 0)).2) + j)])] := (SH.take 1 rfl hS5)
    exact ⟨_, by omega, A3, c3, (out ++ [(((p.getD (k).toNat (0, 0)).1) + i, ((p.getD (k).toNat (0, 0)).2) + j)]), k + 1, by omega, by omega, (by rw [q1, mvd_snoc klo hk]), (by simp; omega), hS6, rfl, Weak.cons rfl <| Weak.cons rfl <| Weak.cons rfl <| Weak.cons rfl <| Weak.cons rfl <| Weak.nil _⟩
  · skip
    refine WC.exit (thenQ.x <| thenQ.x <| blockQ.hit <| thenQ.n ?_)
    refine WC.seq ?_
    refine WC.region ?_
    refine WL.lv rfl (LV.mv rfl) ?_
    refine WL.lv rfl (LV.asg rfl) ?_
    refine WL.nil (thenQ.n ?_)
    refine WC.ret (?_)
    have hres1 : (out : List (Int × Int)) = mvd p i j := by rw [q1, take_all (by omega)]
    exact ⟨_, fun a ha => res1 rfl ha rfl, (by rw [← hres1]; exact ⟨_, _, rfl, hL1⟩)⟩

end Go.Proofs.Ytjjilkibcomfcaa
