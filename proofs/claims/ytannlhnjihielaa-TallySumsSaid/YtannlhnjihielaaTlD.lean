/- Counts. -/
import Derived.Test.YtannlhnjihielaaTlC
namespace Go.Proofs.Ytannlhnjihielaa
open Go Go.Gv Go.RowKit Go.Tly Go.Proofs
set_option linter.unusedVariables false
set_option linter.unusedSimpArgs false
theorem ti30 : TI Try.prog 30 (.agg #[(.int .i64 0), (.int .u64 0), (.int .i64 0)]) 3 24 := by unfold TI; kernel_rfl

theorem wfI64 {x : Int} (h1 : -9223372036854775808 ≤ x) (h2 : x ≤ 9223372036854775807) : (Lit.int .i64 x).wf = true := by
  simp [Lit.wf, IntKind.min, IntKind.max, IntKind.signed, IntKind.bits]; omega
theorem wfU64 {x : Int} (h1 : 0 ≤ x) (h2 : x < 18446744073709551616) : (Lit.int .u64 x).wf = true := by
  simp [Lit.wf, IntKind.min, IntKind.max, IntKind.signed, IntKind.bits]; omega
theorem by_wf {l : List Itm} (wl : ∀ x ∈ l, WLB x.2.1) (hl : l.length ≤ 100000) : ∀ p ∈ BY l, WfL p.1 ∧ (Lit.int .i64 p.2).wf = true := fun p hp => by
  have hb := BY_is l
  obtain ⟨x, hx, e⟩ := lns_mem ((hb.2.2.1 p.1).1 (List.mem_map.2 ⟨p, hp, rfl⟩))
  have h1 := wl x hx
  rw [e] at h1
  have h2 := mem_look hb.1 hp
  rw [hb.2.1] at h2
  have h3 := LNS_bd l p.1
  exact ⟨⟨wfI64 h1.1 h1.2.1, wfU64 h1.2.2.1 h1.2.2.2⟩, wfI64 (by omega) (by omega)⟩

theorem counts_calls {w : World} {A_l : Option Addr} {n_l c_l : Nat} {l : List Itm} (h_l : St No w (Rd eIt (.slice A_l n_l c_l) l)) (hn_l : l.length = n_l) (wl : ∀ x ∈ l, WLB x.2.1) (hl : l.length ≤ 100000) :
    Calls Try.prog 7 #[(.slice A_l n_l c_l)] w fun e w' => ∃ v, e = .returned v ∧ (fun v w' => ∃ (A0' : Option Addr) (c0' : Nat), v = .slice A0' (CTS l).length c0' ∧ SH w No w' [rowE eCt 30 (.slice A0' (CTS l).length c0') (CTS l)]) v w' := by
  subst hn_l
  have hll_ := LBS_len l
  have hS : SH w No w [] := SH.nil _ _
  refine calls (l := litOf [(.slice A_l l.length c_l)] 0) Try.func7 rfl (n := 27) rfl (Nat.le_of_ble_eq_true rfl) (lit_args _) ?_
  refine WC.seq ?_
  refine WC.region ?_
  refine WL.lv rfl (LV.asg rfl) ?_
  refine WL.nil (thenQ.n ?_)
  refine WC.seq ?_
  refine WC.region ?_
  have hS1 := SH.nilRow (E := eCt) (T := 30) hS
  refine WL.lv rfl (LV.asg rfl) ?_
  refine WL.nil (thenQ.n ?_)
  refine WC.seq ?_
  refine WC.region ?_
  refine WL.lv rfl (LV.mv rfl) ?_
  refine WL.call rfl (XC.fn Try.func16 (by kernel_rfl) rfl rfl rfl) (by_calls  (SH.stN hS1 h_l) rfl (by omega)) ?_
  rintro v_ w1 ⟨b1, rfl, hS2⟩
  have hS3 := SH.joinN hS1 hS2
  refine WL.lv rfl (LV.asg rfl) ?_
  refine WL.nil (thenQ.n ?_)
  iterate 2 refine WC.seq ?_
  refine WC.region ?_
  refine WL.lv rfl (LV.mv rfl) ?_
  refine WL.call rfl (XC.fn Try.func18 (by kernel_rfl) rfl rfl rfl) (keys_calls (b := b1)) ?_
  rintro v_ w2 ⟨b2, rfl, hS4⟩
  have hS5 := SH.joinN hS3 hS4
  refine WL.call rfl (XC.fn Try.func17 (by kernel_rfl) rfl rfl rfl) (sorted_calls (kv := BY l) (SH.at hS5 (.tail _ (.head _))) (SH.at hS5 (.head _)) (by_wf wl hl) (BY_is l).1 (by have h_ := (BY_is l).2.2.2; omega)) ?_
  rintro v_ w3 ⟨A1, c1, zs1, rfl, hq1, hS6⟩
  obtain ⟨ys_, hp_, hn_, hm_, hw_⟩ := hq1
  obtain rfl : zs1 = LBS l := sorted_is2 hp_ hn_ hm_ hw_
  clear hp_ hn_ hm_ hw_
  have hS7 := SH.joinN hS5 hS6
  refine WL.lv rfl (LV.lenL Try.underlying44 rfl) ?_
  refine WL.lv rfl (LV.mv rfl) ?_
  refine WL.nil (thenQ.n ?_)
  refine WC.block ?_
  refine WC.loop (fun m_ f_ w_ => ∃ (A_out : Option Addr) (c_out : Nat) (out : List (Lb × Int)) (ix : Int), (0 ≤ ix) ∧ (ix ≤ ((LBS l).length : Int)) ∧ (out = (CTS l).take ix.toNat) ∧ ((out.length : Int) ≤ ix) ∧ SH w No w_ [rowE eLb 25 (.slice A1 ((LBS l).length) c1) (LBS l), blkE b2 42 #[(.map (some b1))], mapE kLb kI b1 (BY l), rowE eCt 30 (.slice A_out out.length c_out) out] ∧ m_ = ((((LBS l).length : Int) - ix).toNat) ∧ Weak (lit [(3, (.slice A_out out.length c_out)), (4, (.map (some b1))), (11, (.slice A1 ((LBS l).length) c1)), (12, (.int .i64 ((LBS l).length : Int))), (13, (.int .i64 ix))]) f_) _ ⟨none, 0, [], 0, by omega, by omega, rfl, (by simp), hS7, rfl, Weak.cons rfl <| Weak.cons rfl <| Weak.cons rfl <| Weak.cons rfl <| Weak.cons rfl <| Weak.nil _⟩ ?_
  rintro m1 f1 w4 ⟨A_out, c_out, out, ix, ixlo, ixhi, q1, q2, hL1, rfl, hw1⟩
  refine WC.weak hw1 ?_
  clear hw1
  refine WC.seq ?_
  refine WC.region ?_
  refine WL.lv rfl (LV.ltI rfl rfl) ?_
  refine WL.nil (thenQ.n ?_)
  refine WC.seq ?_
  refine WC.condP (p := ix < ((LBS l).length : Int)) rfl (fun hk => ?_) (fun hk => ?_)
  · skip
    refine WC.skip (thenQ.n ?_)
    refine WC.seq ?_
    refine WC.block ?_
    refine WC.seq ?_
    refine WC.region ?_
    obtain ⟨A2, c2, e1, g1⟩ := St.elt (SH.rd hL1 (.head _)) (0, 0) ix (by omega) (by omega)
    refine WL.lv rfl (LV.idxA Try.underlying44 ti25.sz rfl e1 rfl (by omega) (by omega)) ?_
    refine WL.lv rfl (LV.loadAgg (cs := [(.int .i64 (((LBS l).getD (ix).toNat (0, 0)).1)), (.int .u64 (((LBS l).getD (ix).toNat (0, 0)).2))]) Try.underlying25 rfl ti25 rfl rfl (fun j u hu => g1 _ (KB.refl No _) j u hu)) ?_
    refine WL.xe rfl (XE.alloc #[(.int .i64 0), (.int .u64 0)] hL1 ti25 rfl) ?_
    rintro _ w5 ⟨b3, rfl, hS8, hk1⟩
    refine WL.xse rfl (XSE.blkAgg #[(.int .i64 (((LBS l).getD (ix).toNat (0, 0)).1)), (.int .u64 (((LBS l).getD (ix).toNat (0, 0)).2))] hS8 (by kernel_rfl) rfl (by kernel_rfl) rfl rfl) ?_
    rintro w6 ⟨hS9, hk2⟩
    refine WL.nil (thenQ.n ?_)
    have hS10 := SH.drew hS9
    refine WC.regionD [] (fun _ => True) [(.pure, 0), (.pure, 2), (.fork, 0), (.fork, 0), (.fork, 0), (.fork, 0), (.fork, 0), (.fork, 0), (.fork, 0)] (by kernel_rfl) (by kernel_rfl) trivial ?_
    iterate 2 refine WS.pure rfl rfl (fun _ => LV.mv rfl) ?_
    refine WS.fork (WSX.two 1 3 (by kernel_rfl) ?_ ?_)
    · refine WO.lvT rfl rfl (LV.loadAgg (cs := [(.int .i64 (((LBS l).getD (ix).toNat (0, 0)).1)), (.int .u64 (((LBS l).getD (ix).toNat (0, 0)).2))]) Try.underlying25 rfl ti25 rfl rfl (Blk.agg (SH.at hS10 (.head _)) _ (KB.refl No _))) ?_
      refine WSX.of [(.forced, 3), (.forced, 4), (.pure, 5), (.forced, 6), (.forced, 7), (.pure, 8)] (by kernel_rfl) rfl ?_
      refine WS.lvT rfl rfl (LV.loadAgg (cs := [(.int .i64 (((LBS l).getD (ix).toNat (0, 0)).1)), (.int .u64 (((LBS l).getD (ix).toNat (0, 0)).2))]) Try.underlying25 rfl ti25 rfl rfl (Blk.agg (SH.at hS10 (.head _)) _ (KB.refl No _))) ?_
      refine WS.lvT rfl rfl (LV.look (q := ((LBS l).getD (ix).toNat (0, 0))) (z := 0) (key_lb Try.underlying25 Try.underlying3 Try.underlying23 (by decide) (by kernel_rfl)) Try.underlying42 ti3 (SH.at hS10 (.tail _ (.tail _ (.tail _ (.head _))))) rfl rfl) ?_
      refine WS.pure rfl rfl (fun _ => LV.build (vs := [(0, (.agg #[(.int .i64 (((LBS l).getD (ix).toNat (0, 0)).1)), (.int .u64 (((LBS l).getD (ix).toNat (0, 0)).2))])), (1, (.int .i64 ((lookL (BY l) ((LBS l).getD (ix).toNat (0, 0))).getD 0)))]) (places := #[(0, 2), (2, 1)]) (cs := #[(.int .i64 (((LBS l).getD (ix).toNat (0, 0)).1)), (.int .u64 (((LBS l).getD (ix).toNat (0, 0)).2)), (.int .i64 ((lookL (BY l) ((LBS l).getD (ix).toNat (0, 0))).getD 0))]) Try.underlying30 ti30 (fun _ => by kernel_rfl) rfl rfl) ?_
      refine WS.xe rfl rfl (XE.buildSlice (E := eCt) [(0, (.agg #[(.int .i64 (((LBS l).getD (ix).toNat (0, 0)).1)), (.int .u64 (((LBS l).getD (ix).toNat (0, 0)).2)), (.int .i64 ((lookL (BY l) ((LBS l).getD (ix).toNat (0, 0))).getD 0))]))] #[(.int .i64 (((LBS l).getD (ix).toNat (0, 0)).1)), (.int .u64 (((LBS l).getD (ix).toNat (0, 0)).2)), (.int .i64 ((lookL (BY l) ((LBS l).getD (ix).toNat (0, 0))).getD 0))] [(((((LBS l).getD (ix).toNat (0, 0)).1, ((LBS l).getD (ix).toNat (0, 0)).2), (lookL (BY l) ((LBS l).getD (ix).toNat (0, 0))).getD 0) : Lb × Int)] hS10 Try.underlying27 ti30 rfl (by decide) (by kernel_rfl) (.inr rfl) rfl rfl (by decide)) ?_
      rintro _ w7 ⟨b4, rfl, hS11, hk3⟩
      refine ⟨fun h_ => trivial, ?_⟩
      have hS12 : SH w No w7 [rowE eCt 30 (.slice A_out out.length c_out) out, rowE eCt 30 (.slice (some ⟨b4, 0, none⟩) 1 1) [(((((LBS l).getD (ix).toNat (0, 0)).1, ((LBS l).getD (ix).toNat (0, 0)).2), (lookL (BY l) ((LBS l).getD (ix).toNat (0, 0))).getD 0) : Lb × Int)], blkE b3 25 #[(.int .i64 (((LBS l).getD (ix).toNat (0, 0)).1)), (.int .u64 (((LBS l).getD (ix).toNat (0, 0)).2))], rowE eLb 25 (.slice A1 ((LBS l).length) c1) (LBS l), blkE b2 42 #[(.map (some b1))], mapE kLb kI b1 (BY l)] := (SH.front [_, _, _, _, _] hS11)
      refine WS.xe rfl rfl (XE.append hS12 Try.underlying27 ti30 rfl (St.now (SH.rd hS12 (.tail _ (.head _)))) rfl rfl (by first | omega | simp only [List.length_append, List.length_cons, List.length_nil, List.length_take, List.length_reverse, List.length_drop] at *; omega) (by first | omega | simp only [List.length_append, List.length_cons, List.length_nil, List.length_take, List.length_reverse, List.length_drop] at *; omega)) ?_
      rintro _ w8 ⟨A3, c3, rfl, hS13, hk4⟩
      refine ⟨fun h_ => trivial, ?_⟩
      refine WS.pure rfl rfl (fun _ => LV.asg rfl) ?_
      refine WS.nil (blockQ.n <| thenQ.n ?_)
      refine WC.region ?_
      refine WL.lv rfl (LV.add rfl rfl (wr64 (by omega) (by omega))) ?_
      refine WL.lv rfl (LV.mv rfl) ?_
      refine WL.nil (thenQ.n ?_)
      have hS14 : SH w No w8 [rowE eLb 25 (.slice A1 ((LBS l).length) c1) (LBS l), blkE b2 42 #[(.map (some b1))], mapE kLb kI b1 (BY l), rowE eCt 30 (.slice A3 ((out ++ [(((((LBS l).getD (ix).toNat (0, 0)).1, ((LBS l).getD (ix).toNat (0, 0)).2), (lookL (BY l) ((LBS l).getD (ix).toNat (0, 0))).getD 0) : Lb × Int)]).length) c3) (out ++ [(((((LBS l).getD (ix).toNat (0, 0)).1, ((LBS l).getD (ix).toNat (0, 0)).2), (lookL (BY l) ((LBS l).getD (ix).toNat (0, 0))).getD 0) : Lb × Int)])] := (SH.take 4 rfl (SH.front [_, _, _, _, _] (SH.front [_, _, _, _, _] (SH.front [_, _, _, _, _] hS13))))
      exact ⟨_, by omega, A3, c3, (out ++ [(((((LBS l).getD (ix).toNat (0, 0)).1, ((LBS l).getD (ix).toNat (0, 0)).2), (lookL (BY l) ((LBS l).getD (ix).toNat (0, 0))).getD 0) : Lb × Int)]), ix + 1, by omega, by omega, (cts_step ixlo hk q1), (by simp; omega), hS14, rfl, Weak.cons rfl <| Weak.cons rfl <| Weak.cons rfl <| Weak.cons rfl <| Weak.cons rfl <| Weak.nil _⟩
    · refine WO.lvT rfl rfl (LV.loadAgg (cs := [(.int .i64 (((LBS l).getD (ix).toNat (0, 0)).1)), (.int .u64 (((LBS l).getD (ix).toNat (0, 0)).2))]) Try.underlying25 rfl ti25 rfl rfl (Blk.agg (SH.at hS10 (.head _)) _ (KB.refl No _))) ?_
      refine WSX.of [(.fork, 0), (.fork, 0), (.fork, 0), (.fork, 0), (.fork, 0), (.fork, 0)] (by kernel_rfl) rfl ?_
      refine WS.fork (WSX.two 1 4 (by kernel_rfl) ?_ ?_)
      · refine WO.lvT rfl rfl (LV.loadAgg (cs := [(.int .i64 (((LBS l).getD (ix).toNat (0, 0)).1)), (.int .u64 (((LBS l).getD (ix).toNat (0, 0)).2))]) Try.underlying25 rfl ti25 rfl rfl (Blk.agg (SH.at hS10 (.head _)) _ (KB.refl No _))) ?_
        refine WSX.of [(.forced, 4), (.pure, 5), (.forced, 6), (.forced, 7), (.pure, 8)] (by kernel_rfl) rfl ?_
        refine WS.lvT rfl rfl (LV.look (q := ((LBS l).getD (ix).toNat (0, 0))) (z := 0) (key_lb Try.underlying25 Try.underlying3 Try.underlying23 (by decide) (by kernel_rfl)) Try.underlying42 ti3 (SH.at hS10 (.tail _ (.tail _ (.tail _ (.head _))))) rfl rfl) ?_
        refine WS.pure rfl rfl (fun _ => LV.build (vs := [(0, (.agg #[(.int .i64 (((LBS l).getD (ix).toNat (0, 0)).1)), (.int .u64 (((LBS l).getD (ix).toNat (0, 0)).2))])), (1, (.int .i64 ((lookL (BY l) ((LBS l).getD (ix).toNat (0, 0))).getD 0)))]) (places := #[(0, 2), (2, 1)]) (cs := #[(.int .i64 (((LBS l).getD (ix).toNat (0, 0)).1)), (.int .u64 (((LBS l).getD (ix).toNat (0, 0)).2)), (.int .i64 ((lookL (BY l) ((LBS l).getD (ix).toNat (0, 0))).getD 0))]) Try.underlying30 ti30 (fun _ => by kernel_rfl) rfl rfl) ?_
        refine WS.xe rfl rfl (XE.buildSlice (E := eCt) [(0, (.agg #[(.int .i64 (((LBS l).getD (ix).toNat (0, 0)).1)), (.int .u64 (((LBS l).getD (ix).toNat (0, 0)).2)), (.int .i64 ((lookL (BY l) ((LBS l).getD (ix).toNat (0, 0))).getD 0))]))] #[(.int .i64 (((LBS l).getD (ix).toNat (0, 0)).1)), (.int .u64 (((LBS l).getD (ix).toNat (0, 0)).2)), (.int .i64 ((lookL (BY l) ((LBS l).getD (ix).toNat (0, 0))).getD 0))] [(((((LBS l).getD (ix).toNat (0, 0)).1, ((LBS l).getD (ix).toNat (0, 0)).2), (lookL (BY l) ((LBS l).getD (ix).toNat (0, 0))).getD 0) : Lb × Int)] hS10 Try.underlying27 ti30 rfl (by decide) (by kernel_rfl) (.inr rfl) rfl rfl (by decide)) ?_
        rintro _ w9 ⟨b5, rfl, hS15, hk5⟩
        refine ⟨fun h_ => trivial, ?_⟩
        have hS16 : SH w No w9 [rowE eCt 30 (.slice A_out out.length c_out) out, rowE eCt 30 (.slice (some ⟨b5, 0, none⟩) 1 1) [(((((LBS l).getD (ix).toNat (0, 0)).1, ((LBS l).getD (ix).toNat (0, 0)).2), (lookL (BY l) ((LBS l).getD (ix).toNat (0, 0))).getD 0) : Lb × Int)], blkE b3 25 #[(.int .i64 (((LBS l).getD (ix).toNat (0, 0)).1)), (.int .u64 (((LBS l).getD (ix).toNat (0, 0)).2))], rowE eLb 25 (.slice A1 ((LBS l).length) c1) (LBS l), blkE b2 42 #[(.map (some b1))], mapE kLb kI b1 (BY l)] := (SH.front [_, _, _, _, _] hS15)
        refine WS.xe rfl rfl (XE.append hS16 Try.underlying27 ti30 rfl (St.now (SH.rd hS16 (.tail _ (.head _)))) rfl rfl (by first | omega | simp only [List.length_append, List.length_cons, List.length_nil, List.length_take, List.length_reverse, List.length_drop] at *; omega) (by first | omega | simp only [List.length_append, List.length_cons, List.length_nil, List.length_take, List.length_reverse, List.length_drop] at *; omega)) ?_
        rintro _ w10 ⟨A4, c4, rfl, hS17, hk6⟩
        refine ⟨fun h_ => trivial, ?_⟩
        refine WS.pure rfl rfl (fun _ => LV.asg rfl) ?_
        refine WS.nil (blockQ.n <| thenQ.n ?_)
        refine WC.region ?_
        refine WL.lv rfl (LV.add rfl rfl (wr64 (by omega) (by omega))) ?_
        refine WL.lv rfl (LV.mv rfl) ?_
        refine WL.nil (thenQ.n ?_)
        have hS18 : SH w No w10 [rowE eLb 25 (.slice A1 ((LBS l).length) c1) (LBS l), blkE b2 42 #[(.map (some b1))], mapE kLb kI b1 (BY l), rowE eCt 30 (.slice A4 ((out ++ [(((((LBS l).getD (ix).toNat (0, 0)).1, ((LBS l).getD (ix).toNat (0, 0)).2), (lookL (BY l) ((LBS l).getD (ix).toNat (0, 0))).getD 0) : Lb × Int)]).length) c4) (out ++ [(((((LBS l).getD (ix).toNat (0, 0)).1, ((LBS l).getD (ix).toNat (0, 0)).2), (lookL (BY l) ((LBS l).getD (ix).toNat (0, 0))).getD 0) : Lb × Int)])] := (SH.take 4 rfl (SH.front [_, _, _, _, _] (SH.front [_, _, _, _, _] (SH.front [_, _, _, _, _] hS17))))
        exact ⟨_, by omega, A4, c4, (out ++ [(((((LBS l).getD (ix).toNat (0, 0)).1, ((LBS l).getD (ix).toNat (0, 0)).2), (lookL (BY l) ((LBS l).getD (ix).toNat (0, 0))).getD 0) : Lb × Int)]), ix + 1, by omega, by omega, (cts_step ixlo hk q1), (by simp; omega), hS18, rfl, Weak.cons rfl <| Weak.cons rfl <| Weak.cons rfl <| Weak.cons rfl <| Weak.cons rfl <| Weak.nil _⟩
      · refine WO.lvT rfl rfl (LV.look (q := ((LBS l).getD (ix).toNat (0, 0))) (z := 0) (key_lb Try.underlying25 Try.underlying3 Try.underlying23 (by decide) (by kernel_rfl)) Try.underlying42 ti3 (SH.at hS10 (.tail _ (.tail _ (.tail _ (.head _))))) rfl rfl) ?_
        refine WSX.of [(.forced, 1), (.pure, 5), (.forced, 6), (.forced, 7), (.pure, 8)] (by kernel_rfl) rfl ?_
        refine WS.lvT rfl rfl (LV.loadAgg (cs := [(.int .i64 (((LBS l).getD (ix).toNat (0, 0)).1)), (.int .u64 (((LBS l).getD (ix).toNat (0, 0)).2))]) Try.underlying25 rfl ti25 rfl rfl (Blk.agg (SH.at hS10 (.head _)) _ (KB.refl No _))) ?_
        refine WS.pure rfl rfl (fun _ => LV.build (vs := [(0, (.agg #[(.int .i64 (((LBS l).getD (ix).toNat (0, 0)).1)), (.int .u64 (((LBS l).getD (ix).toNat (0, 0)).2))])), (1, (.int .i64 ((lookL (BY l) ((LBS l).getD (ix).toNat (0, 0))).getD 0)))]) (places := #[(0, 2), (2, 1)]) (cs := #[(.int .i64 (((LBS l).getD (ix).toNat (0, 0)).1)), (.int .u64 (((LBS l).getD (ix).toNat (0, 0)).2)), (.int .i64 ((lookL (BY l) ((LBS l).getD (ix).toNat (0, 0))).getD 0))]) Try.underlying30 ti30 (fun _ => by kernel_rfl) rfl rfl) ?_
        refine WS.xe rfl rfl (XE.buildSlice (E := eCt) [(0, (.agg #[(.int .i64 (((LBS l).getD (ix).toNat (0, 0)).1)), (.int .u64 (((LBS l).getD (ix).toNat (0, 0)).2)), (.int .i64 ((lookL (BY l) ((LBS l).getD (ix).toNat (0, 0))).getD 0))]))] #[(.int .i64 (((LBS l).getD (ix).toNat (0, 0)).1)), (.int .u64 (((LBS l).getD (ix).toNat (0, 0)).2)), (.int .i64 ((lookL (BY l) ((LBS l).getD (ix).toNat (0, 0))).getD 0))] [(((((LBS l).getD (ix).toNat (0, 0)).1, ((LBS l).getD (ix).toNat (0, 0)).2), (lookL (BY l) ((LBS l).getD (ix).toNat (0, 0))).getD 0) : Lb × Int)] hS10 Try.underlying27 ti30 rfl (by decide) (by kernel_rfl) (.inr rfl) rfl rfl (by decide)) ?_
        rintro _ w11 ⟨b6, rfl, hS19, hk7⟩
        refine ⟨fun h_ => trivial, ?_⟩
        have hS20 : SH w No w11 [rowE eCt 30 (.slice A_out out.length c_out) out, rowE eCt 30 (.slice (some ⟨b6, 0, none⟩) 1 1) [(((((LBS l).getD (ix).toNat (0, 0)).1, ((LBS l).getD (ix).toNat (0, 0)).2), (lookL (BY l) ((LBS l).getD (ix).toNat (0, 0))).getD 0) : Lb × Int)], blkE b3 25 #[(.int .i64 (((LBS l).getD (ix).toNat (0, 0)).1)), (.int .u64 (((LBS l).getD (ix).toNat (0, 0)).2))], rowE eLb 25 (.slice A1 ((LBS l).length) c1) (LBS l), blkE b2 42 #[(.map (some b1))], mapE kLb kI b1 (BY l)] := (SH.front [_, _, _, _, _] hS19)
        refine WS.xe rfl rfl (XE.append hS20 Try.underlying27 ti30 rfl (St.now (SH.rd hS20 (.tail _ (.head _)))) rfl rfl (by first | omega | simp only [List.length_append, List.length_cons, List.length_nil, List.length_take, List.length_reverse, List.length_drop] at *; omega) (by first | omega | simp only [List.length_append, List.length_cons, List.length_nil, List.length_take, List.length_reverse, List.length_drop] at *; omega)) ?_
        rintro _ w12 ⟨A5, c5, rfl, hS21, hk8⟩
        refine ⟨fun h_ => trivial, ?_⟩
        refine WS.pure rfl rfl (fun _ => LV.asg rfl) ?_
        refine WS.nil (blockQ.n <| thenQ.n ?_)
        refine WC.region ?_
        refine WL.lv rfl (LV.add rfl rfl (wr64 (by omega) (by omega))) ?_
        refine WL.lv rfl (LV.mv rfl) ?_
        refine WL.nil (thenQ.n ?_)
        have hS22 : SH w No w12 [rowE eLb 25 (.slice A1 ((LBS l).length) c1) (LBS l), blkE b2 42 #[(.map (some b1))], mapE kLb kI b1 (BY l), rowE eCt 30 (.slice A5 ((out ++ [(((((LBS l).getD (ix).toNat (0, 0)).1, ((LBS l).getD (ix).toNat (0, 0)).2), (lookL (BY l) ((LBS l).getD (ix).toNat (0, 0))).getD 0) : Lb × Int)]).length) c5) (out ++ [(((((LBS l).getD (ix).toNat (0, 0)).1, ((LBS l).getD (ix).toNat (0, 0)).2), (lookL (BY l) ((LBS l).getD (ix).toNat (0, 0))).getD 0) : Lb × Int)])] := (SH.take 4 rfl (SH.front [_, _, _, _, _] (SH.front [_, _, _, _, _] (SH.front [_, _, _, _, _] hS21))))
        exact ⟨_, by omega, A5, c5, (out ++ [(((((LBS l).getD (ix).toNat (0, 0)).1, ((LBS l).getD (ix).toNat (0, 0)).2), (lookL (BY l) ((LBS l).getD (ix).toNat (0, 0))).getD 0) : Lb × Int)]), ix + 1, by omega, by omega, (cts_step ixlo hk q1), (by simp; omega), hS22, rfl, Weak.cons rfl <| Weak.cons rfl <| Weak.cons rfl <| Weak.cons rfl <| Weak.cons rfl <| Weak.nil _⟩
  · skip
    refine WC.exit (thenQ.x <| thenQ.x <| blockQ.hit <| thenQ.n ?_)
    refine WC.seq ?_
    refine WC.region ?_
    refine WL.lv rfl (LV.mv rfl) ?_
    refine WL.lv rfl (LV.asg rfl) ?_
    refine WL.nil (thenQ.n ?_)
    refine WC.ret (?_)
    have hS23 : SH w No w4 [rowE eCt 30 (.slice A_out out.length c_out) out] := (SH.take 1 rfl (SH.front [_, _, _] hL1))
    have hres1 : (out : List (Lb × Int)) = CTS l := by rw [q1, List.take_of_length_le (by rw [CTS_len]; omega)]
    exact ⟨_, fun a ha => res1 rfl ha rfl, (by rw [← hres1]; exact ⟨_, _, rfl, hS23⟩)⟩

theorem lines_calls {w : World} {A_l : Option Addr} {n_l c_l : Nat} {l : List Itm} {a : Lb} (h_l : St No w (Rd eIt (.slice A_l n_l c_l) l)) (hn_l : l.length = n_l) (hl : l.length ≤ 100000) :
    Calls Try.prog 10 #[(.slice A_l n_l c_l), (.agg #[(.int .i64 ((a).1)), (.int .u64 ((a).2))])] w fun e w' => ∃ v, e = .returned v ∧ (fun v w' => v = .int .i64 (LNS l a) ∧ KB No w w') v w' := by
  subst hn_l
  have hS : SH w No w [] := SH.nil _ _
  refine calls (l := litOf [(.slice A_l l.length c_l), (.agg #[(.int .i64 ((a).1)), (.int .u64 ((a).2))])] 0) Try.func10 rfl (n := 9) rfl (Nat.le_of_ble_eq_true rfl) (lit_args _) ?_
  refine WC.seq ?_
  refine WC.region ?_
  refine WL.xe rfl (XE.box #[(.int .i64 ((a).1)), (.int .u64 ((a).2))] hS rfl rfl) ?_
  rintro _ w1 ⟨b1, rfl, hS1, hk1⟩
  refine WL.lv rfl (LV.asg rfl) ?_
  refine WL.nil (thenQ.n ?_)
  refine WC.seq ?_
  have hS2 := SH.drew hS1
  refine WC.regionD [] (fun _ => True) [(.pure, 0), (.fork, 0), (.fork, 0), (.fork, 0), (.fork, 0)] (by kernel_rfl) (by kernel_rfl) trivial ?_
  refine WS.pure rfl rfl (fun _ => LV.mv rfl) ?_
  refine WS.fork (WSX.two 1 2 (by kernel_rfl) ?_ ?_)
  · refine WO.call rfl rfl (XC.fn Try.func16 (by kernel_rfl) rfl rfl rfl) (by_calls  (SH.stN hS2 h_l) rfl (by omega)) ?_
    rintro v_ w2 ⟨b2, rfl, hS3⟩
    have hS4 := SH.joinN hS2 hS3
    refine ⟨fun h_ => trivial, ?_⟩
    refine WSX.of [(.forced, 2), (.forced, 3), (.pure, 4)] (by kernel_rfl) rfl ?_
    refine WS.lvT rfl rfl (LV.loadAgg (cs := [(.int .i64 ((a).1)), (.int .u64 ((a).2))]) Try.underlying25 rfl ti25 rfl rfl (Blk.agg (SH.at hS4 (.tail _ (.head _))) _ (KB.refl No _))) ?_
    refine WS.lvT rfl rfl (LV.look (q := a) (z := 0) (key_lb Try.underlying25 Try.underlying3 Try.underlying23 (by decide) (by kernel_rfl)) Try.underlying42 ti3 (SH.at hS4 (.head _)) rfl rfl) ?_
    refine WS.pure rfl rfl (fun _ => LV.asg rfl) ?_
    refine WS.nil (thenQ.n ?_)
    refine WC.ret (?_)
    exact ⟨_, fun a ha => res1 rfl ha rfl, congrArg (Value.int .i64) ((BY_is l).2.1 a), hS4.kb⟩
  · refine WO.lvT rfl rfl (LV.loadAgg (cs := [(.int .i64 ((a).1)), (.int .u64 ((a).2))]) Try.underlying25 rfl ti25 rfl rfl (Blk.agg (SH.at hS2 (.head _)) _ (KB.refl No _))) ?_
    refine WSX.of [(.forced, 1), (.forced, 3), (.pure, 4)] (by kernel_rfl) rfl ?_
    refine WS.call rfl rfl (XC.fn Try.func16 (by kernel_rfl) rfl rfl rfl) (by_calls  (SH.stN hS2 h_l) rfl (by omega)) ?_
    rintro v_ w3 ⟨b3, rfl, hS5⟩
    have hS6 := SH.joinN hS2 hS5
    refine ⟨fun h_ => trivial, ?_⟩
    refine WS.lvT rfl rfl (LV.look (q := a) (z := 0) (key_lb Try.underlying25 Try.underlying3 Try.underlying23 (by decide) (by kernel_rfl)) Try.underlying42 ti3 (SH.at hS6 (.head _)) rfl rfl) ?_
    refine WS.pure rfl rfl (fun _ => LV.asg rfl) ?_
    refine WS.nil (thenQ.n ?_)
    refine WC.ret (?_)
    exact ⟨_, fun a ha => res1 rfl ha rfl, congrArg (Value.int .i64) ((BY_is l).2.1 a), hS6.kb⟩

theorem over_calls {w : World} {A_l : Option Addr} {n_l c_l : Nat} {l : List Itm} {q : Int} (h_l : St No w (Rd eIt (.slice A_l n_l c_l) l)) (hn_l : l.length = n_l) (wl : ∀ x ∈ l, WLB x.2.1) (hl : l.length ≤ 100000) :
    Calls Try.prog 28 #[(.slice A_l n_l c_l), (.int .i64 q)] w fun e w' => ∃ v, e = .returned v ∧ (fun v w' => ∃ (A0' : Option Addr) (c0' : Nat), v = .slice A0' (OVS (CTS l) q).length c0' ∧ SH w No w' [rowE eLb 25 (.slice A0' (OVS (CTS l) q).length c0') (OVS (CTS l) q)]) v w' := by
  subst hn_l
  have hll_ := LBS_len l
  have hcl_ := CTS_len l
  have hS : SH w No w [] := SH.nil _ _
  refine calls (l := litOf [(.slice A_l l.length c_l), (.int .i64 q)] 0) Try.func28 rfl (n := 26) rfl (Nat.le_of_ble_eq_true rfl) (lit_args _) ?_
  refine WC.seq ?_
  refine WC.region ?_
  refine WL.lv rfl (LV.asg rfl) ?_
  refine WL.nil (thenQ.n ?_)
  refine WC.seq ?_
  refine WC.region ?_
  have hS1 := SH.nilRow (E := eLb) (T := 25) hS
  refine WL.lv rfl (LV.asg rfl) ?_
  refine WL.nil (thenQ.n ?_)
  iterate 2 refine WC.seq ?_
  refine WC.region ?_
  refine WL.lv rfl (LV.mv rfl) ?_
  refine WL.call rfl (XC.fn Try.func7 (by kernel_rfl) rfl rfl rfl) (counts_calls  (SH.stN hS1 h_l) rfl (by first | assumption | exact l3_wl) (by first | omega | decide)) ?_
  rintro v_ w1 ⟨A1, c1, rfl, hS2⟩
  have hS3 := SH.joinN hS1 hS2
  refine WL.lv rfl (LV.lenL Try.underlying27 rfl) ?_
  refine WL.lv rfl (LV.mv rfl) ?_
  refine WL.nil (thenQ.n ?_)
  refine WC.block ?_
  refine WC.loop (fun m_ f_ w_ => ∃ (A_out : Option Addr) (c_out : Nat) (out : List Lb) (ix : Int), (0 ≤ ix) ∧ (ix ≤ ((CTS l).length : Int)) ∧ (out = OVS ((CTS l).take ix.toNat) q) ∧ ((out.length : Int) ≤ ix) ∧ SH w No w_ [rowE eCt 30 (.slice A1 ((CTS l).length) c1) (CTS l), rowE eLb 25 (.slice A_out out.length c_out) out] ∧ m_ = ((((CTS l).length : Int) - ix).toNat) ∧ Weak (lit [(1, (.int .i64 q)), (5, (.slice A_out out.length c_out)), (9, (.slice A1 ((CTS l).length) c1)), (10, (.int .i64 ((CTS l).length : Int))), (11, (.int .i64 ix))]) f_) _ ⟨none, 0, [], 0, by omega, by omega, rfl, (by simp), hS3, rfl, Weak.cons rfl <| Weak.cons rfl <| Weak.cons rfl <| Weak.cons rfl <| Weak.cons rfl <| Weak.nil _⟩ ?_
  rintro m1 f1 w2 ⟨A_out, c_out, out, ix, ixlo, ixhi, q1, q2, hL1, rfl, hw1⟩
  refine WC.weak hw1 ?_
  clear hw1
  refine WC.seq ?_
  refine WC.region ?_
  refine WL.lv rfl (LV.ltI rfl rfl) ?_
  refine WL.nil (thenQ.n ?_)
  refine WC.seq ?_
  refine WC.condP (p := ix < ((CTS l).length : Int)) rfl (fun hk => ?_) (fun hk => ?_)
  · skip
    refine WC.skip (thenQ.n ?_)
    refine WC.seq ?_
    refine WC.block ?_
    refine WC.seq ?_
    refine WC.region ?_
    obtain ⟨A2, c2, e1, g1⟩ := St.elt (SH.rd hL1 (.head _)) ((0, 0), 0) ix (by omega) (by omega)
    refine WL.lv rfl (LV.idxA Try.underlying27 ti30.sz rfl e1 rfl (by omega) (by omega)) ?_
    refine WL.lv rfl (LV.loadAgg (cs := [(.int .i64 (((CTS l).getD (ix).toNat ((0, 0), 0)).1.1)), (.int .u64 (((CTS l).getD (ix).toNat ((0, 0), 0)).1.2)), (.int .i64 (((CTS l).getD (ix).toNat ((0, 0), 0)).2))]) Try.underlying30 rfl ti30 rfl rfl (fun j u hu => g1 _ (KB.refl No _) j u hu)) ?_
    refine WL.xe rfl (XE.alloc #[(.int .i64 0), (.int .u64 0), (.int .i64 0)] hL1 ti30 rfl) ?_
    rintro _ w3 ⟨b1, rfl, hS4, hk1⟩
    refine WL.xse rfl (XSE.blkAgg #[(.int .i64 (((CTS l).getD (ix).toNat ((0, 0), 0)).1.1)), (.int .u64 (((CTS l).getD (ix).toNat ((0, 0), 0)).1.2)), (.int .i64 (((CTS l).getD (ix).toNat ((0, 0), 0)).2))] hS4 (by kernel_rfl) rfl (by kernel_rfl) rfl rfl) ?_
    rintro w4 ⟨hS5, hk2⟩
    refine WL.nil (thenQ.n ?_)
    refine WC.seq ?_
    refine WC.region ?_
    refine WL.lv rfl (LV.fieldA Try.underlying30 rfl ti3.sz rfl) ?_
    refine WL.lv rfl (LV.load1 Try.underlying3 rfl rfl (Blk.cellN (SH.at hS5 (.head _)) 2 rfl _ (KB.refl No _))) ?_
    refine WL.lv rfl (LV.mv rfl) ?_
    refine WL.lv rfl (LV.gtI rfl rfl) ?_
    refine WL.nil (thenQ.n ?_)
    refine WC.condP (p := (((CTS l).getD (ix).toNat ((0, 0), 0)).2) > q) rfl (fun hh => ?_) (fun hh => ?_)
    · skip
      refine WC.region ?_
      refine WL.lv rfl (LV.mv rfl) ?_
      refine WL.lv rfl (LV.fieldA Try.underlying30 rfl ti25.sz rfl) ?_
      refine WL.lv rfl (LV.loadAgg (cs := [(.int .i64 (((CTS l).getD (ix).toNat ((0, 0), 0)).1.1)), (.int .u64 (((CTS l).getD (ix).toNat ((0, 0), 0)).1.2))]) Try.underlying25 rfl ti25 rfl rfl (Blk.part 0 2 (SH.at hS5 (.head _)) rfl _ (KB.refl No _))) ?_
      refine WL.xe rfl (XE.buildSlice (E := eLb) [(0, (.agg #[(.int .i64 (((CTS l).getD (ix).toNat ((0, 0), 0)).1.1)), (.int .u64 (((CTS l).getD (ix).toNat ((0, 0), 0)).1.2))]))] #[(.int .i64 (((CTS l).getD (ix).toNat ((0, 0), 0)).1.1)), (.int .u64 (((CTS l).getD (ix).toNat ((0, 0), 0)).1.2))] [((((CTS l).getD (ix).toNat ((0, 0), 0)).1.1, ((CTS l).getD (ix).toNat ((0, 0), 0)).1.2) : Lb)] hS5 Try.underlying44 ti25 rfl (by decide) (by kernel_rfl) (.inr rfl) rfl rfl (by decide)) ?_
      rintro _ w5 ⟨b2, rfl, hS6, hk3⟩
      have hS7 : SH w No w5 [rowE eLb 25 (.slice A_out out.length c_out) out, rowE eLb 25 (.slice (some ⟨b2, 0, none⟩) 1 1) [((((CTS l).getD (ix).toNat ((0, 0), 0)).1.1, ((CTS l).getD (ix).toNat ((0, 0), 0)).1.2) : Lb)], blkE b1 30 #[(.int .i64 (((CTS l).getD (ix).toNat ((0, 0), 0)).1.1)), (.int .u64 (((CTS l).getD (ix).toNat ((0, 0), 0)).1.2)), (.int .i64 (((CTS l).getD (ix).toNat ((0, 0), 0)).2))], rowE eCt 30 (.slice A1 ((CTS l).length) c1) (CTS l)] := (SH.front [_, _, _] hS6)
      refine WL.xe rfl (XE.append hS7 Try.underlying44 ti25 rfl (St.now (SH.rd hS7 (.tail _ (.head _)))) rfl rfl (by first | omega | simp only [List.length_append, List.length_cons, List.length_nil, List.length_take, List.length_reverse, List.length_drop] at *; omega) (by first | omega | simp only [List.length_append, List.length_cons, List.length_nil, List.length_take, List.length_reverse, List.length_drop] at *; omega)) ?_
      rintro _ w6 ⟨A3, c3, rfl, hS8, hk4⟩
      refine WL.lv rfl (LV.asg rfl) ?_
      refine WL.nil (blockQ.n <| thenQ.n ?_)
      refine WC.region ?_
      refine WL.lv rfl (LV.add rfl rfl (wr64 (by omega) (by omega))) ?_
      refine WL.lv rfl (LV.mv rfl) ?_
      refine WL.nil (thenQ.n ?_)
      have hS9 : SH w No w6 [rowE eCt 30 (.slice A1 ((CTS l).length) c1) (CTS l), rowE eLb 25 (.slice A3 ((out ++ [((((CTS l).getD (ix).toNat ((0, 0), 0)).1.1, ((CTS l).getD (ix).toNat ((0, 0), 0)).1.2) : Lb)]).length) c3) (out ++ [((((CTS l).getD (ix).toNat ((0, 0), 0)).1.1, ((CTS l).getD (ix).toNat ((0, 0), 0)).1.2) : Lb)])] := (SH.take 2 rfl (SH.front [_, _, _] hS8))
      exact ⟨_, by omega, A3, c3, (out ++ [((((CTS l).getD (ix).toNat ((0, 0), 0)).1.1, ((CTS l).getD (ix).toNat ((0, 0), 0)).1.2) : Lb)]), ix + 1, by omega, by omega, (by first | exact ovs_step ixlo hk q1 hh | exact ovs_skip ixlo hk q1 hh), (by first | omega | (simp; omega)), hS9, rfl, Weak.cons rfl <| Weak.cons rfl <| Weak.cons rfl <| Weak.cons rfl <| Weak.cons rfl <| Weak.nil _⟩
    · skip
      refine WC.skip (blockQ.n <| thenQ.n ?_)
      refine WC.region ?_
      refine WL.lv rfl (LV.add rfl rfl (wr64 (by omega) (by omega))) ?_
      refine WL.lv rfl (LV.mv rfl) ?_
      refine WL.nil (thenQ.n ?_)
      have hS10 : SH w No w4 [rowE eCt 30 (.slice A1 ((CTS l).length) c1) (CTS l), rowE eLb 25 (.slice A_out out.length c_out) out] := (SH.take 2 rfl (SH.front [_, _] (SH.front [_, _] hS5)))
      exact ⟨_, by omega, A_out, c_out, out, ix + 1, by omega, by omega, (by first | exact ovs_step ixlo hk q1 hh | exact ovs_skip ixlo hk q1 hh), (by first | omega | (simp; omega)), hS10, rfl, Weak.cons rfl <| Weak.cons rfl <| Weak.cons rfl <| Weak.cons rfl <| Weak.cons rfl <| Weak.nil _⟩
  · skip
    refine WC.exit (thenQ.x <| thenQ.x <| blockQ.hit <| thenQ.n ?_)
    refine WC.seq ?_
    refine WC.region ?_
    refine WL.lv rfl (LV.mv rfl) ?_
    refine WL.lv rfl (LV.asg rfl) ?_
    refine WL.nil (thenQ.n ?_)
    refine WC.ret (?_)
    have hS11 : SH w No w2 [rowE eLb 25 (.slice A_out out.length c_out) out] := (SH.take 1 rfl (SH.front [_] hL1))
    have hres1 : (out : List Lb) = OVS (CTS l) q := by rw [q1, List.take_of_length_le (by omega)]
    exact ⟨_, fun a ha => res1 rfl ha rfl, (by rw [← hres1]; exact ⟨_, _, rfl, hS11⟩)⟩

theorem fits_calls {w : World} {A_l : Option Addr} {n_l c_l : Nat} {l : List Itm} {q : Int} (h_l : St No w (Rd eIt (.slice A_l n_l c_l) l)) (hn_l : l.length = n_l) (wl : ∀ x ∈ l, WLB x.2.1) (hl : l.length ≤ 100000) :
    Calls Try.prog 19 #[(.slice A_l n_l c_l), (.int .i64 q)] w fun e w' => ∃ v, e = .returned v ∧ (fun v w' => v = .bool (decide (OVS (CTS l) q = [])) ∧ KB No w w') v w' := by
  subst hn_l
  have hS : SH w No w [] := SH.nil _ _
  refine calls (l := litOf [(.slice A_l l.length c_l), (.int .i64 q)] 0) Try.func19 rfl (n := 10) rfl (Nat.le_of_ble_eq_true rfl) (lit_args _) ?_
  refine WC.seq ?_
  refine WC.region ?_
  refine WL.lv rfl (LV.asg rfl) ?_
  refine WL.nil (thenQ.n ?_)
  refine WC.seq ?_
  refine WC.region ?_
  iterate 2 refine WL.lv rfl (LV.mv rfl) ?_
  refine WL.call rfl (XC.fn Try.func28 (by kernel_rfl) rfl rfl rfl) (over_calls (q := q) (SH.stN hS h_l) rfl (by first | assumption | exact l3_wl) (by first | omega | decide)) ?_
  rintro v_ w1 ⟨A1, c1, rfl, hS1⟩
  have hS2 := SH.joinN hS hS1
  refine WL.lv rfl (LV.lenL Try.underlying44 rfl) ?_
  refine WL.lv rfl (LV.eqI rfl rfl) ?_
  refine WL.lv rfl (LV.asg rfl) ?_
  refine WL.nil (thenQ.n ?_)
  refine WC.ret (?_)
  exact ⟨_, fun a ha => res1 rfl ha rfl, congrArg Value.bool (decide_eq_decide.2 ⟨fun h_ => List.eq_nil_of_length_eq_zero (by omega), fun h_ => by rw [h_]; rfl⟩), hS2.kb⟩

theorem grows_calls {w : World} {A_was : Option Addr} {n_was c_was : Nat} {was : List Itm} {A_l : Option Addr} {n_l c_l : Nat} {l : List Itm} {a : Lb} (h_was : St No w (Rd eIt (.slice A_was n_was c_was) was)) (hn_was : was.length = n_was) (h_l : St No w (Rd eIt (.slice A_l n_l c_l) l)) (hn_l : l.length = n_l) (hw : was.length ≤ 100000) (hl : l.length ≤ 100000) :
    Calls Try.prog 20 #[(.slice A_was n_was c_was), (.slice A_l n_l c_l), (.agg #[(.int .i64 ((a).1)), (.int .u64 ((a).2))])] w fun e w' => ∃ v, e = .returned v ∧ (fun v w' => v = .int .i64 (LNS l a - LNS was a) ∧ KB No w w') v w' := by
  subst hn_was hn_l
  have hb1_ := LNS_bd l a
  have hb2_ := LNS_bd was a
  have hS : SH w No w [] := SH.nil _ _
  refine calls (l := litOf [(.slice A_was was.length c_was), (.slice A_l l.length c_l), (.agg #[(.int .i64 ((a).1)), (.int .u64 ((a).2))])] 0) Try.func20 rfl (n := 14) rfl (Nat.le_of_ble_eq_true rfl) (lit_args _) ?_
  refine WC.seq ?_
  refine WC.region ?_
  refine WL.xe rfl (XE.box #[(.int .i64 ((a).1)), (.int .u64 ((a).2))] hS rfl rfl) ?_
  rintro _ w1 ⟨b1, rfl, hS1, hk1⟩
  refine WL.lv rfl (LV.asg rfl) ?_
  refine WL.nil (thenQ.n ?_)
  refine WC.seq ?_
  have hS2 := SH.drew hS1
  refine WC.regionD [] (fun _ => True) [(.pure, 0), (.pure, 3), (.fork, 0), (.fork, 0), (.fork, 0), (.fork, 0), (.fork, 0), (.fork, 0)] (by kernel_rfl) (by kernel_rfl) trivial ?_
  iterate 2 refine WS.pure rfl rfl (fun _ => LV.mv rfl) ?_
  refine WS.fork (WSX.two 1 4 (by kernel_rfl) ?_ ?_)
  · refine WO.lvT rfl rfl (LV.loadAgg (cs := [(.int .i64 ((a).1)), (.int .u64 ((a).2))]) Try.underlying25 rfl ti25 rfl rfl (Blk.agg (SH.at hS2 (.head _)) _ (KB.refl No _))) ?_
    refine WSX.of [(.fork, 0), (.fork, 0), (.fork, 0), (.fork, 0), (.fork, 0)] (by kernel_rfl) rfl ?_
    refine WS.fork (WSX.two 2 4 (by kernel_rfl) ?_ ?_)
    · refine WO.call rfl rfl (XC.fn Try.func10 (by kernel_rfl) rfl rfl rfl) (lines_calls (a := a) (SH.stN hS2 h_l) rfl (by first | omega | decide)) ?_
      rintro v_ w2 ⟨rfl, hk2⟩
      have hS3 := SH.same hS2 hk2
      refine ⟨fun h_ => trivial, ?_⟩
      refine WSX.of [(.forced, 4), (.forced, 5), (.pure, 6), (.pure, 7)] (by kernel_rfl) rfl ?_
      refine WS.lvT rfl rfl (LV.loadAgg (cs := [(.int .i64 ((a).1)), (.int .u64 ((a).2))]) Try.underlying25 rfl ti25 rfl rfl (Blk.agg (SH.at hS3 (.head _)) _ (KB.refl No _))) ?_
      refine WS.call rfl rfl (XC.fn Try.func10 (by kernel_rfl) rfl rfl rfl) (lines_calls (a := a) (SH.stN hS3 h_was) rfl (by first | omega | decide)) ?_
      rintro v_ w3 ⟨rfl, hk3⟩
      have hS4 := SH.same hS3 hk3
      refine ⟨fun h_ => trivial, ?_⟩
      refine WS.pure rfl rfl (fun _ => LV.sub rfl rfl (wr64 (by omega) (by omega))) ?_
      refine WS.pure rfl rfl (fun _ => LV.asg rfl) ?_
      refine WS.nil (thenQ.n ?_)
      refine WC.ret (?_)
      exact ⟨_, fun a ha => res1 rfl ha rfl, congrArg (Value.int .i64) (by omega), hS4.kb⟩
    · refine WO.lvT rfl rfl (LV.loadAgg (cs := [(.int .i64 ((a).1)), (.int .u64 ((a).2))]) Try.underlying25 rfl ti25 rfl rfl (Blk.agg (SH.at hS2 (.head _)) _ (KB.refl No _))) ?_
      refine WSX.of [(.forced, 2), (.forced, 5), (.pure, 6), (.pure, 7)] (by kernel_rfl) rfl ?_
      refine WS.call rfl rfl (XC.fn Try.func10 (by kernel_rfl) rfl rfl rfl) (lines_calls (a := a) (SH.stN hS2 h_l) rfl (by first | omega | decide)) ?_
      rintro v_ w4 ⟨rfl, hk4⟩
      have hS5 := SH.same hS2 hk4
      refine ⟨fun h_ => trivial, ?_⟩
      refine WS.call rfl rfl (XC.fn Try.func10 (by kernel_rfl) rfl rfl rfl) (lines_calls (a := a) (SH.stN hS5 h_was) rfl (by first | omega | decide)) ?_
      rintro v_ w5 ⟨rfl, hk5⟩
      have hS6 := SH.same hS5 hk5
      refine ⟨fun h_ => trivial, ?_⟩
      refine WS.pure rfl rfl (fun _ => LV.sub rfl rfl (wr64 (by omega) (by omega))) ?_
      refine WS.pure rfl rfl (fun _ => LV.asg rfl) ?_
      refine WS.nil (thenQ.n ?_)
      refine WC.ret (?_)
      exact ⟨_, fun a ha => res1 rfl ha rfl, congrArg (Value.int .i64) (by omega), hS6.kb⟩
  · refine WO.lvT rfl rfl (LV.loadAgg (cs := [(.int .i64 ((a).1)), (.int .u64 ((a).2))]) Try.underlying25 rfl ti25 rfl rfl (Blk.agg (SH.at hS2 (.head _)) _ (KB.refl No _))) ?_
    refine WSX.of [(.forced, 1), (.forced, 2), (.forced, 5), (.pure, 6), (.pure, 7)] (by kernel_rfl) rfl ?_
    refine WS.lvT rfl rfl (LV.loadAgg (cs := [(.int .i64 ((a).1)), (.int .u64 ((a).2))]) Try.underlying25 rfl ti25 rfl rfl (Blk.agg (SH.at hS2 (.head _)) _ (KB.refl No _))) ?_
    refine WS.call rfl rfl (XC.fn Try.func10 (by kernel_rfl) rfl rfl rfl) (lines_calls (a := a) (SH.stN hS2 h_l) rfl (by first | omega | decide)) ?_
    rintro v_ w6 ⟨rfl, hk6⟩
    have hS7 := SH.same hS2 hk6
    refine ⟨fun h_ => trivial, ?_⟩
    refine WS.call rfl rfl (XC.fn Try.func10 (by kernel_rfl) rfl rfl rfl) (lines_calls (a := a) (SH.stN hS7 h_was) rfl (by first | omega | decide)) ?_
    rintro v_ w7 ⟨rfl, hk7⟩
    have hS8 := SH.same hS7 hk7
    refine ⟨fun h_ => trivial, ?_⟩
    refine WS.pure rfl rfl (fun _ => LV.sub rfl rfl (wr64 (by omega) (by omega))) ?_
    refine WS.pure rfl rfl (fun _ => LV.asg rfl) ?_
    refine WS.nil (thenQ.n ?_)
    refine WC.ret (?_)
    exact ⟨_, fun a ha => res1 rfl ha rfl, congrArg (Value.int .i64) (by omega), hS8.kb⟩

end Go.Proofs.Ytannlhnjihielaa
