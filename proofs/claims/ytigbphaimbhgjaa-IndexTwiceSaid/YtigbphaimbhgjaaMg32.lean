/- Fork; an index that is none. -/
import Derived.Test.YtigbphaimbhgjaaMg30
import Derived.Test.YtigbphaimbhgjaaMg31
namespace Go.Proofs.Ytigbphaimbhgjaa
open Go Go.Gv Go.RowKit Go.Tly Go.Wds Go.Idx
set_option linter.unusedVariables false
set_option linter.unusedSimpArgs false

theorem fork_calls {w : World} {X : IXS} {n_X : Nat} (h_X : St No w (IXR 71 X)) (hv_X : IXW n_X X) :
    Calls Try.prog 18 #[(.pointer (some ⟨X.b, 0, none⟩))] w fun e w' => ∃ v, e = .returned v ∧ (fun v w' => ∃ b m1 m2, v = .pointer (some ⟨b, 0, none⟩) ∧ SH w No w' [blkE b 71 #[.map (some m1), .map (some m2)], mapG kS kV m1 X.kv1, mapG kS kV m2 X.kv2]) v w' := by
  have hS : SH w No w [] := SH.nil _ _
  refine calls (l := litOf [(.pointer (some ⟨X.b, 0, none⟩))] 0) Try.func18 rfl (n := 17) rfl (Nat.le_of_ble_eq_true rfl) (lit_args _) ?_
  refine WC.seq ?_
  refine WC.region ?_
  refine WL.lv rfl (LV.asg rfl) ?_
  refine WL.nil (thenQ.n ?_)
  iterate 2 refine WC.seq ?_
  refine WC.region ?_
  refine WL.lv rfl (LV.mv rfl) ?_
  refine WL.lv rfl (LV.eqPS Try.underlying26 rfl rfl) ?_
  refine WL.nil (thenQ.n ?_)
  refine WC.condF rfl ?_
  refine WC.skip (thenQ.n ?_)
  refine WC.seq ?_
  have hS1 := SH.drew hS
  refine WC.regionD [] (fun w_ => KB No w.drew w_) [(.pure, 0), (.pure, 1), (.pure, 2), (.look, 3), (.pure, 5), (.pure, 6), (.pure, 7), (.look, 8), (.forced, 4), (.forced, 9), (.pure, 10), (.forced, 11), (.pure, 12)] (by kernel_rfl) (by kernel_rfl) (KB.refl _ _) ?_
  refine WS.pure rfl rfl (fun _ => LV.mv rfl) ?_
  refine WS.pure rfl rfl (fun _ => LV.nilCheck rfl) ?_
  refine WS.pure rfl rfl (fun _ => LV.fieldA Try.underlying71 rfl ti68.sz rfl) ?_
  refine WS.look rfl rfl (fun _ hk_ => LV.load1 Try.underlying68 rfl rfl (Blk.cellN (SH.arg hS1 (h_X.imp fun _ h_ => h_.1)) 0 rfl _ hk_)) ?_
  refine WS.pure rfl rfl (fun _ => LV.mv rfl) ?_
  refine WS.pure rfl rfl (fun _ => LV.nilCheck rfl) ?_
  refine WS.pure rfl rfl (fun _ => LV.fieldA Try.underlying71 rfl ti69.sz rfl) ?_
  refine WS.look rfl rfl (fun _ hk_ => LV.load1 Try.underlying69 rfl rfl (Blk.cellN (SH.arg hS1 (h_X.imp fun _ h_ => h_.1)) 1 rfl _ hk_)) ?_
  refine WS.call rfl rfl (XC.fn Try.func39 (by kernel_rfl) rfl rfl rfl) (cloneG_calls cloneKF (SH.arg hS1 (h_X.imp fun _ h_ => h_.2.1))) ?_
  rintro v_ w1 ⟨b1, rfl, hS2⟩
  have hS3 := SH.joinN hS1 hS2
  refine ⟨fun h_ => (KB.transN (KB.refl _ _) hS2.kb), ?_⟩
  refine WS.call rfl rfl (XC.fn Try.func40 (by kernel_rfl) rfl rfl rfl) (cloneG_calls cloneKR (SH.arg hS3 (h_X.imp fun _ h_ => h_.2.2.1))) ?_
  rintro v_ w2 ⟨b2, rfl, hS4⟩
  have hS5 := SH.joinN hS3 hS4
  refine ⟨fun h_ => (KB.transN (KB.transN (KB.refl _ _) hS2.kb) hS4.kb), ?_⟩
  refine WS.pure rfl rfl (fun _ => LV.build (vs := [(0, (.map (some b1))), (1, (.map (some b2)))]) (places := #[(0, 1), (1, 1)]) (cs := #[(.map (some b1)), (.map (some b2))]) Try.underlying71 ti71 (fun _ => by kernel_rfl) rfl rfl) ?_
  refine WS.xe rfl rfl (XE.box #[(.map (some b1)), (.map (some b2))] hS5 rfl rfl) ?_
  rintro _ w3 ⟨b3, rfl, hS6, hk1⟩
  refine ⟨fun h_ => (KB.transN (KB.transN (KB.transN (KB.refl _ _) hS2.kb) hS4.kb) hk1), ?_⟩
  refine WS.pure rfl rfl (fun _ => LV.asg rfl) ?_
  refine WS.nil (thenQ.n ?_)
  refine WC.ret (?_)
  have hS7 : SH w No w3 [blkE b3 71 #[(.map (some b1)), (.map (some b2))], mapG kS kV b1 X.kv1, mapG kS kV b2 X.kv2] := (SH.front [_, _] (SH.front [_, _] (SH.front [_] hS6)))
  exact ⟨_, fun a ha => res1 rfl ha rfl, _, _, _, rfl, hS7⟩

theorem forkn_calls {w : World} :
    Calls Try.prog 18 #[(.pointer none)] w fun e w' => ∃ v, e = .returned v ∧ (fun v w' => v = .pointer none ∧ KB No w w') v w' := by
  have hS : SH w No w [] := SH.nil _ _
  refine calls (l := litOf [(.pointer none)] 0) Try.func18 rfl (n := 17) rfl (Nat.le_of_ble_eq_true rfl) (lit_args _) ?_
  refine WC.seq ?_
  refine WC.region ?_
  refine WL.lv rfl (LV.asg rfl) ?_
  refine WL.nil (thenQ.n ?_)
  iterate 2 refine WC.seq ?_
  refine WC.region ?_
  refine WL.lv rfl (LV.mv rfl) ?_
  refine WL.lv rfl (LV.eqPN Try.underlying26 rfl rfl) ?_
  refine WL.nil (thenQ.n ?_)
  refine WC.condT rfl ?_
  refine WC.seq ?_
  refine WC.region ?_
  refine WL.lv rfl (LV.asg rfl) ?_
  refine WL.nil (thenQ.n ?_)
  refine WC.ret (thenQ.r <| ?_)
  exact ⟨_, fun a ha => res1 rfl ha rfl, rfl, hS.kb⟩

theorem findn_calls {w : World} {word : ByteArray} {o : Lb}  :
    Calls Try.prog 11 #[(.pointer none), (.string word), (.agg #[(.int .i64 ((o).1)), (.int .u64 ((o).2))])] w fun e w' => ∃ v, e = .returned v ∧ (fun v w' => ∃ (A0' : Option Addr) (c0' : Nat), v = .slice A0' (([] : List En)).length c0' ∧ SH w No w' [rowE eSI 48 (.slice A0' (([] : List En)).length c0') ([] : List En)]) v w' := by
  have hS : SH w No w [] := SH.nil _ _
  refine calls (l := litOf [(.pointer none), (.string word), (.agg #[(.int .i64 ((o).1)), (.int .u64 ((o).2))])] 0) Try.func11 rfl (n := 45) rfl (Nat.le_of_ble_eq_true rfl) (lit_args _) ?_
  refine WC.seq ?_
  refine WC.region ?_
  refine WL.xe rfl (XE.box #[(.int .i64 ((o).1)), (.int .u64 ((o).2))] hS rfl rfl) ?_
  rintro _ w1 ⟨b1, rfl, hS1, hk1⟩
  refine WL.lv rfl (LV.asg rfl) ?_
  refine WL.nil (thenQ.n ?_)
  refine WC.seq ?_
  refine WC.region ?_
  refine WL.lv rfl (LV.asg rfl) ?_
  refine WL.nil (thenQ.n ?_)
  iterate 2 refine WC.seq ?_
  refine WC.region ?_
  refine WL.lv rfl (LV.mv rfl) ?_
  refine WL.lv rfl (LV.eqPN Try.underlying26 rfl rfl) ?_
  refine WL.nil (thenQ.n ?_)
  refine WC.condT rfl ?_
  refine WC.seq ?_
  refine WC.region ?_
  refine WL.lv rfl (LV.asg rfl) ?_
  refine WL.nil (thenQ.n ?_)
  refine WC.ret (thenQ.r <| ?_)
  have hS2 := SH.nilRow (E := eSI) (T := 48) hS1
  have hS3 : SH w No w1 [rowE eSI 48 (.slice none 0 0) []] := (SH.take 1 rfl hS2)
  have hres1 : ([] : List En) = ([] : List En) := by first | rfl | assumption
  exact ⟨_, fun a ha => res1 rfl ha rfl, (by rw [← hres1]; exact ⟨_, _, rfl, hS3⟩)⟩

theorem wordsn_calls {w : World} {o : Lb}  :
    Calls Try.prog 13 #[(.pointer none), (.agg #[(.int .i64 ((o).1)), (.int .u64 ((o).2))])] w fun e w' => ∃ v, e = .returned v ∧ (fun v w' => ∃ (A0' : Option Addr) (c0' : Nat), v = .slice A0' (([] : List ByteArray)).length c0' ∧ SH w No w' [rowE eS 9 (.slice A0' (([] : List ByteArray)).length c0') ([] : List ByteArray)]) v w' := by
  have hS : SH w No w [] := SH.nil _ _
  refine calls (l := litOf [(.pointer none), (.agg #[(.int .i64 ((o).1)), (.int .u64 ((o).2))])] 0) Try.func13 rfl (n := 33) rfl (Nat.le_of_ble_eq_true rfl) (lit_args _) ?_
  refine WC.seq ?_
  refine WC.region ?_
  refine WL.xe rfl (XE.box #[(.int .i64 ((o).1)), (.int .u64 ((o).2))] hS rfl rfl) ?_
  rintro _ w1 ⟨b1, rfl, hS1, hk1⟩
  refine WL.lv rfl (LV.asg rfl) ?_
  refine WL.nil (thenQ.n ?_)
  refine WC.seq ?_
  refine WC.region ?_
  refine WL.lv rfl (LV.asg rfl) ?_
  refine WL.nil (thenQ.n ?_)
  iterate 2 refine WC.seq ?_
  refine WC.region ?_
  refine WL.lv rfl (LV.mv rfl) ?_
  refine WL.lv rfl (LV.eqPN Try.underlying26 rfl rfl) ?_
  refine WL.nil (thenQ.n ?_)
  refine WC.condT rfl ?_
  refine WC.seq ?_
  refine WC.region ?_
  refine WL.lv rfl (LV.asg rfl) ?_
  refine WL.nil (thenQ.n ?_)
  refine WC.ret (thenQ.r <| ?_)
  have hS2 := SH.nilRow (E := eS) (T := 9) hS1
  have hS3 : SH w No w1 [rowE eS 9 (.slice none 0 0) []] := (SH.take 1 rfl hS2)
  have hres1 : ([] : List ByteArray) = ([] : List ByteArray) := by first | rfl | assumption
  exact ⟨_, fun a ha => res1 rfl ha rfl, (by rw [← hres1]; exact ⟨_, _, rfl, hS3⟩)⟩

theorem filesn_calls {w : World} {o : Lb}  :
    Calls Try.prog 14 #[(.pointer none), (.agg #[(.int .i64 ((o).1)), (.int .u64 ((o).2))])] w fun e w' => ∃ v, e = .returned v ∧ (fun v w' => ∃ (A0' : Option Addr) (c0' : Nat), v = .slice A0' (([] : List ByteArray)).length c0' ∧ SH w No w' [rowE eS 9 (.slice A0' (([] : List ByteArray)).length c0') ([] : List ByteArray)]) v w' := by
  have hS : SH w No w [] := SH.nil _ _
  refine calls (l := litOf [(.pointer none), (.agg #[(.int .i64 ((o).1)), (.int .u64 ((o).2))])] 0) Try.func14 rfl (n := 35) rfl (Nat.le_of_ble_eq_true rfl) (lit_args _) ?_
  refine WC.seq ?_
  refine WC.region ?_
  refine WL.xe rfl (XE.box #[(.int .i64 ((o).1)), (.int .u64 ((o).2))] hS rfl rfl) ?_
  rintro _ w1 ⟨b1, rfl, hS1, hk1⟩
  refine WL.lv rfl (LV.asg rfl) ?_
  refine WL.nil (thenQ.n ?_)
  refine WC.seq ?_
  refine WC.region ?_
  refine WL.lv rfl (LV.asg rfl) ?_
  refine WL.nil (thenQ.n ?_)
  iterate 2 refine WC.seq ?_
  refine WC.region ?_
  refine WL.lv rfl (LV.mv rfl) ?_
  refine WL.lv rfl (LV.eqPN Try.underlying26 rfl rfl) ?_
  refine WL.nil (thenQ.n ?_)
  refine WC.condT rfl ?_
  refine WC.seq ?_
  refine WC.region ?_
  refine WL.lv rfl (LV.asg rfl) ?_
  refine WL.nil (thenQ.n ?_)
  refine WC.ret (thenQ.r <| ?_)
  have hS2 := SH.nilRow (E := eS) (T := 9) hS1
  have hS3 : SH w No w1 [rowE eS 9 (.slice none 0 0) []] := (SH.take 1 rfl hS2)
  have hres1 : ([] : List ByteArray) = ([] : List ByteArray) := by first | rfl | assumption
  exact ⟨_, fun a ha => res1 rfl ha rfl, (by rw [← hres1]; exact ⟨_, _, rfl, hS3⟩)⟩

theorem alln_calls {w : World} {A_list : Option Addr} {n_list c_list : Nat} {list : List ByteArray} {o : Lb} (h_list : St No w (Rd eS (.slice A_list n_list c_list) list)) (hn_list : list.length = n_list)  :
    Calls Try.prog 16 #[(.pointer none), (.slice A_list n_list c_list), (.agg #[(.int .i64 ((o).1)), (.int .u64 ((o).2))])] w fun e w' => ∃ v, e = .returned v ∧ (fun v w' => ∃ (A0' : Option Addr) (c0' : Nat), v = .slice A0' (([] : List En)).length c0' ∧ SH w No w' [rowE eSI 48 (.slice A0' (([] : List En)).length c0') ([] : List En)]) v w' := by
  subst hn_list
  have hma := Rd.max h_list.now
  have hS : SH w No w [] := SH.nil _ _
  refine calls (l := litOf [(.pointer none), (.slice A_list list.length c_list), (.agg #[(.int .i64 ((o).1)), (.int .u64 ((o).2))])] 0) Try.func16 rfl (n := 31) rfl (Nat.le_of_ble_eq_true rfl) (lit_args _) ?_
  refine WC.seq ?_
  refine WC.region ?_
  refine WL.xe rfl (XE.box #[(.int .i64 ((o).1)), (.int .u64 ((o).2))] hS rfl rfl) ?_
  rintro _ w1 ⟨b1, rfl, hS1, hk1⟩
  refine WL.lv rfl (LV.asg rfl) ?_
  refine WL.nil (thenQ.n ?_)
  refine WC.seq ?_
  refine WC.region ?_
  have hS2 := SH.nilRow (E := eSI) (T := 48) hS1
  refine WL.lv rfl (LV.asg rfl) ?_
  refine WL.nil (thenQ.n ?_)
  iterate 2 refine WC.seq ?_
  refine WC.region ?_
  refine WL.lv rfl (LV.mv rfl) ?_
  refine WL.lv rfl (LV.lenL Try.underlying41 rfl) ?_
  refine WL.lv rfl (LV.mv rfl) ?_
  refine WL.nil (thenQ.n ?_)
  refine WC.block ?_
  refine WC.loop (fun m_ f_ w_ => ∃ (A_out : Option Addr) (c_out : Nat) (out : List En) (ix : Int), (0 ≤ ix) ∧ (ix ≤ (list.length : Int)) ∧ (out = []) ∧ SH w No w_ [rowE eSI 48 (.slice A_out out.length c_out) out, blkE b1 25 #[(.int .i64 ((o).1)), (.int .u64 ((o).2))]] ∧ m_ = (((list.length : Int) - ix).toNat) ∧ Weak (lit [(0, (.pointer none)), (5, (.pointer (some ⟨b1, 0, none⟩))), (7, (.slice A_out out.length c_out)), (11, (.slice A_list list.length c_list)), (12, (.int .i64 (list.length : Int))), (13, (.int .i64 ix))]) f_) _ ⟨none, 0, [], 0, by omega, by omega, rfl, hS2, rfl, Weak.cons rfl <| Weak.cons rfl <| Weak.cons rfl <| Weak.cons rfl <| Weak.cons rfl <| Weak.cons rfl <| Weak.nil _⟩ ?_
  rintro m1 f1 w2 ⟨A_out, c_out, out, ix, ixlo, ixhi, q1, hL1, rfl, hw1⟩
  refine WC.weak hw1 ?_
  clear hw1
  refine WC.seq ?_
  refine WC.region ?_
  refine WL.lv rfl (LV.ltI rfl rfl) ?_
  refine WL.nil (thenQ.n ?_)
  refine WC.seq ?_
  refine WC.condP (p := ix < (list.length : Int)) rfl (fun hc1 => ?_) (fun hc1 => ?_)
  · skip
    refine WC.skip (thenQ.n ?_)
    refine WC.seq ?_
    refine WC.block ?_
    refine WC.seq ?_
    refine WC.region ?_
    refine WL.lv rfl (LV.mv rfl) ?_
    obtain ⟨A1, c1, e1, g1⟩ := St.elt (SH.stN hL1 h_list) ByteArray.empty ix (by omega) (by omega)
    refine WL.lv rfl (LV.idxA Try.underlying41 ti9.sz rfl e1 rfl (by omega) (by omega)) ?_
    refine WL.lv rfl (LV.load1 (v := (.string (list.getD (ix).toNat ByteArray.empty))) Try.underlying9 rfl rfl (g1 _ (KB.refl No _) 0 _ rfl)) ?_
    iterate 2 refine WL.lv rfl (LV.asg rfl) ?_
    refine WL.nil (thenQ.n ?_)
    refine WC.seq ?_
    refine WC.region ?_
    iterate 2 refine WL.lv rfl (LV.mv rfl) ?_
    refine WL.lv rfl (LV.loadAgg (cs := [(.int .i64 ((o).1)), (.int .u64 ((o).2))]) Try.underlying25 rfl ti25 rfl rfl (Blk.agg (SH.at hL1 (.tail _ (.head _))) _ (KB.refl No _))) ?_
    refine WL.call rfl (XC.fn Try.func11 (by kernel_rfl) rfl rfl rfl) (findn_calls (word := (list.getD (ix).toNat ByteArray.empty)) (o := o) ) ?_
    rintro v_ w3 ⟨A2, c2, rfl, hS3⟩
    have hS4 := SH.joinN hL1 hS3
    refine WL.xe rfl (XE.alloc #[(.slice none 0 0)] hS4 ti38 rfl) ?_
    rintro _ w4 ⟨b2, rfl, hS5, hk2⟩
    refine WL.xse rfl (XSE.blk #[(.slice A2 (([] : List En).length) c2)] hS5 (Nat.le_of_ble_eq_true rfl) ti38.sz rfl rfl rfl rfl) ?_
    rintro w5 ⟨hS6, hk3⟩
    refine WL.nil (thenQ.n ?_)
    iterate 2 refine WC.seq ?_
    refine WC.region ?_
    refine WL.lv rfl (LV.mv rfl) ?_
    refine WL.lv rfl (LV.eqI rfl rfl) ?_
    refine WL.nil (thenQ.n ?_)
    refine WC.condP (p := ix = 0) rfl (fun hc2 => ?_) (fun hc2 => ?_)
    · skip
      refine WC.region ?_
      refine WL.lv rfl (LV.load1 Try.underlying38 rfl rfl (Blk.cellN (SH.at hS6 (.head _)) 0 rfl _ (KB.refl No _))) ?_
      refine WL.lv rfl (LV.asg rfl) ?_
      refine WL.nil (thenQ.n ?_)
      refine WC.region ?_
      refine WL.lv rfl (LV.mv rfl) ?_
      refine WL.call rfl (XC.fn Try.func36 (by kernel_rfl) rfl rfl rfl) (hclone_calls  (SH.rd hS6 (.tail _ (.head _))) rfl (by first | (simp; done) | (rw [q1]; simp; done))) ?_
      rintro v_ w6 ⟨A3, c3, rfl, hS7⟩
      have hS8 := SH.joinN hS6 hS7
      refine WL.lv rfl (LV.mkFunc rfl) ?_
      have hS9 : SH w No w6 [rowE eSI 48 (.slice A2 (([] : List En).length) c2) ([] : List En), rowE eSI 48 (.slice A3 (([] : List En).length) c3) ([] : List En), blkE b2 38 #[(.slice A2 (([] : List En).length) c2)], rowE eSI 48 (.slice A_out out.length c_out) out, blkE b1 25 #[(.int .i64 ((o).1)), (.int .u64 ((o).2))]] := (SH.front [_, _] hS8)
      have hS10 : SH w No w6 [blkE b2 38 #[(.slice A2 (([] : List En).length) c2)], rowE eSI 48 (.slice A2 (([] : List En).length) c2) ([] : List En), rowE eSI 48 (.slice A3 (([] : List En).length) c3) ([] : List En), rowE eSI 48 (.slice A_out out.length c_out) out, blkE b1 25 #[(.int .i64 ((o).1)), (.int .u64 ((o).2))]] := (SH.front [_, _] hS9)
      have hS11 : SH w No w6 [rowE eSI 48 (.slice A3 (([] : List En).length) c3) ([] : List En), blkE b2 38 #[(.slice A2 (([] : List En).length) c2)], rowE eSI 48 (.slice A2 (([] : List En).length) c2) ([] : List En), rowE eSI 48 (.slice A_out out.length c_out) out, blkE b1 25 #[(.int .i64 ((o).1)), (.int .u64 ((o).2))]] := (SH.front [_, _] hS10)
      have hT1 := SH.sub (Es := [_, _, _]) hS11
      refine WL.call rfl (XC.fn Try.func35 (by kernel_rfl) rfl rfl rfl) (hdel_calls hT1) ?_
      rintro v_ w7 ⟨rfl, hU1⟩
      have hS12 := SH.back (Es := [_, _, _]) hS11 hU1
      refine WL.lv rfl (LV.asg rfl) ?_
      refine WL.nil (blockQ.n <| thenQ.n ?_)
      refine WC.region ?_
      refine WL.lv rfl (LV.add rfl rfl (wr64 (by omega) (by omega))) ?_
      refine WL.lv rfl (LV.mv rfl) ?_
      refine WL.nil (thenQ.n ?_)
      have hS13 : SH w No w7 [rowE eSI 48 (.slice A3 ((([] : List En).filter fun h_ => decide (h_ ∈ ([] : List En))).length) c3) (([] : List En).filter fun h_ => decide (h_ ∈ ([] : List En))), blkE b1 25 #[(.int .i64 ((o).1)), (.int .u64 ((o).2))]] := (SH.take 2 rfl (SH.front [_] (SH.front [_, _, _, _] hS12)))
      exact ⟨_, by omega, A3, c3, (([] : List En).filter fun h_ => decide (h_ ∈ ([] : List En))), ix + 1, by omega, by omega, (by simp [q1]), hS13, rfl, Weak.cons rfl <| Weak.cons rfl <| Weak.cons rfl <| Weak.cons rfl <| Weak.cons rfl <| Weak.cons rfl <| Weak.nil _⟩
    · skip
      refine WC.skip (thenQ.n ?_)
      refine WC.region ?_
      refine WL.lv rfl (LV.mv rfl) ?_
      refine WL.call rfl (XC.fn Try.func36 (by kernel_rfl) rfl rfl rfl) (hclone_calls  (SH.rd hS6 (.tail _ (.tail _ (.head _)))) rfl (by first | (simp; done) | (rw [q1]; simp; done))) ?_
      rintro v_ w8 ⟨A4, c4, rfl, hS14⟩
      have hS15 := SH.joinN hS6 hS14
      refine WL.lv rfl (LV.mkFunc rfl) ?_
      have hS16 : SH w No w8 [rowE eSI 48 (.slice A2 (([] : List En).length) c2) ([] : List En), rowE eSI 48 (.slice A4 out.length c4) out, blkE b2 38 #[(.slice A2 (([] : List En).length) c2)], rowE eSI 48 (.slice A_out out.length c_out) out, blkE b1 25 #[(.int .i64 ((o).1)), (.int .u64 ((o).2))]] := (SH.front [_, _] hS15)
      have hS17 : SH w No w8 [blkE b2 38 #[(.slice A2 (([] : List En).length) c2)], rowE eSI 48 (.slice A2 (([] : List En).length) c2) ([] : List En), rowE eSI 48 (.slice A4 out.length c4) out, rowE eSI 48 (.slice A_out out.length c_out) out, blkE b1 25 #[(.int .i64 ((o).1)), (.int .u64 ((o).2))]] := (SH.front [_, _] hS16)
      have hS18 : SH w No w8 [rowE eSI 48 (.slice A4 out.length c4) out, blkE b2 38 #[(.slice A2 (([] : List En).length) c2)], rowE eSI 48 (.slice A2 (([] : List En).length) c2) ([] : List En), rowE eSI 48 (.slice A_out out.length c_out) out, blkE b1 25 #[(.int .i64 ((o).1)), (.int .u64 ((o).2))]] := (SH.front [_, _] hS17)
      have hT2 := SH.sub (Es := [_, _, _]) hS18
      refine WL.call rfl (XC.fn Try.func35 (by kernel_rfl) rfl rfl rfl) (hdel_calls hT2) ?_
      rintro v_ w9 ⟨rfl, hU2⟩
      have hS19 := SH.back (Es := [_, _, _]) hS18 hU2
      refine WL.lv rfl (LV.asg rfl) ?_
      refine WL.nil (blockQ.n <| thenQ.n ?_)
      refine WC.region ?_
      refine WL.lv rfl (LV.add rfl rfl (wr64 (by omega) (by omega))) ?_
      refine WL.lv rfl (LV.mv rfl) ?_
      refine WL.nil (thenQ.n ?_)
      have hS20 : SH w No w9 [rowE eSI 48 (.slice A4 ((out.filter fun h_ => decide (h_ ∈ ([] : List En))).length) c4) (out.filter fun h_ => decide (h_ ∈ ([] : List En))), blkE b1 25 #[(.int .i64 ((o).1)), (.int .u64 ((o).2))]] := (SH.take 2 rfl (SH.front [_] (SH.front [_, _, _, _] hS19)))
      exact ⟨_, by omega, A4, c4, (out.filter fun h_ => decide (h_ ∈ ([] : List En))), ix + 1, by omega, by omega, (by simp [q1]), hS20, rfl, Weak.cons rfl <| Weak.cons rfl <| Weak.cons rfl <| Weak.cons rfl <| Weak.cons rfl <| Weak.cons rfl <| Weak.nil _⟩
  · skip
    refine WC.exit (thenQ.x <| thenQ.x <| blockQ.hit <| thenQ.n ?_)
    refine WC.seq ?_
    refine WC.region ?_
    refine WL.lv rfl (LV.mv rfl) ?_
    refine WL.lv rfl (LV.asg rfl) ?_
    refine WL.nil (thenQ.n ?_)
    refine WC.ret (?_)
    have hS21 : SH w No w2 [rowE eSI 48 (.slice A_out out.length c_out) out] := (SH.take 1 rfl hL1)
    have hres1 : (out : List En) = ([] : List En) := q1
    exact ⟨_, fun a ha => res1 rfl ha rfl, (by rw [← hres1]; exact ⟨_, _, rfl, hS21⟩)⟩

theorem putz_calls {w : World} {f : ByteArray} :
    Calls Try.prog 19 #[(.pointer none), (.string f), (.slice none 0 0)] w fun e w' => ∃ v, e = .returned v ∧ (fun v w' => v = .int .i64 1 ∧ KB No w w') v w' := by
  have hS : SH w No w [] := SH.nil _ _
  refine calls (l := litOf [(.pointer none), (.string f), (.slice none 0 0)] 0) Try.func19 rfl (n := 91) rfl (Nat.le_of_ble_eq_true rfl) (lit_args _) ?_
  refine WC.seq ?_
  refine WC.region ?_
  refine WL.lv rfl (LV.asg rfl) ?_
  refine WL.nil (thenQ.n ?_)
  refine WC.seq ?_
  refine WC.block ?_
  refine WC.seq ?_
  refine WC.region ?_
  refine WL.lv rfl (LV.mv rfl) ?_
  refine WL.lv rfl (LV.eqPN Try.underlying26 rfl rfl) ?_
  refine WL.lv rfl (LV.asg rfl) ?_
  refine WL.nil (thenQ.n ?_)
  refine WC.condT rfl ?_
  refine WC.seq ?_
  refine WC.region ?_
  refine WL.lv rfl (LV.asg rfl) ?_
  refine WL.nil (thenQ.n ?_)
  refine WC.ret (blockQ.r <| thenQ.r <| ?_)
  exact ⟨_, fun a ha => res1 rfl ha rfl, rfl, hS.kb⟩

theorem dropz_calls {w : World} {f : ByteArray} :
    Calls Try.prog 20 #[(.pointer none), (.string f)] w fun e w' => ∃ v, e = .returned v ∧ (fun v w' => v = .int .i64 1 ∧ KB No w w') v w' := by
  have hS : SH w No w [] := SH.nil _ _
  refine calls (l := litOf [(.pointer none), (.string f)] 0) Try.func20 rfl (n := 23) rfl (Nat.le_of_ble_eq_true rfl) (lit_args _) ?_
  refine WC.seq ?_
  refine WC.region ?_
  refine WL.lv rfl (LV.asg rfl) ?_
  refine WL.nil (thenQ.n ?_)
  iterate 2 refine WC.seq ?_
  refine WC.region ?_
  refine WL.lv rfl (LV.mv rfl) ?_
  refine WL.lv rfl (LV.eqPN Try.underlying26 rfl rfl) ?_
  refine WL.nil (thenQ.n ?_)
  refine WC.condT rfl ?_
  refine WC.seq ?_
  refine WC.region ?_
  refine WL.lv rfl (LV.asg rfl) ?_
  refine WL.nil (thenQ.n ?_)
  refine WC.ret (thenQ.r <| ?_)
  exact ⟨_, fun a ha => res1 rfl ha rfl, rfl, hS.kb⟩

end Go.Proofs.Ytigbphaimbhgjaa

