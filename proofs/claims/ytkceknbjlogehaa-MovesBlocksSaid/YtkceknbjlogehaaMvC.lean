/- The longest block, and marks. -/
import Derived.Test.YtkceknbjlogehaaMvB
namespace Go.Proofs.Ytkceknbjlogehaa
open Go Go.Gv Go.RowKit Go.Mys Go.Num Go.Scr Go.Itn Go.Mov
set_option linter.unusedVariables false
set_option linter.unusedSimpArgs false
theorem ti34 : TI Try.prog 34 (.slice none 0 0) 1 24 := by unfold TI; kernel_rfl
theorem ti43 : TI Try.prog 43 (.agg #[(.int .i64 0), (.int .i64 0), (.int .i64 0)]) 3 24 := by unfold TI; kernel_rfl

theorem longest_calls {w : World} {b_s : Nat} {A_x : Option Addr} {n_x c_x : Nat} {x : List Int} {A_y : Option Addr} {n_y c_y : Nat} {y : List Int} {A_u : Option Addr} {n_u c_u : Nat} {u : List Bool} {A_t : Option Addr} {n_t c_t : Nat} {t : List Bool} (h_x : St No w (Rd eI (.slice A_x n_x c_x) x)) (hn_x : x.length = n_x) (h_y : St No w (Rd eI (.slice A_y n_y c_y) y)) (hn_y : y.length = n_y) (h_u : St No w (Rd eB (.slice A_u n_u c_u) u)) (hn_u : u.length = n_u) (h_t : St No w (Rd eB (.slice A_t n_t c_t) t)) (hn_t : t.length = n_t) (h_s : St No w (fun w => w.heap[b_s]? = some (.cells #[(.slice A_x n_x c_x), (.slice A_y n_y c_y), (.slice A_u n_u c_u), (.slice A_t n_t c_t)] 64 (0, 0))))  :
    Calls Try.prog 21 #[(.pointer (some ⟨b_s, 0, none⟩))] w fun e w' => ∃ v, e = .returned v ∧ (fun v w' => v = .agg #[(.int .i64 ((bst x y u t).1)), (.int .i64 ((bst x y u t).2.1)), (.int .i64 ((bst x y u t).2.2))] ∧ KB No w w') v w' := by
  subst hn_x hn_y hn_u hn_t
  have hmx := Rd.max h_x.now
  have hmy := Rd.max h_y.now
  have hS : SH w No w [] := SH.nil _ _
  refine calls (l := litOf [(.pointer (some ⟨b_s, 0, none⟩))] 0) Try.func21 rfl (n := 53) rfl (Nat.le_of_ble_eq_true rfl) (lit_args _) ?_
  refine WC.seq ?_
  refine WC.region ?_
  refine WL.xe rfl (XE.alloc #[(.int .i64 0), (.int .i64 0), (.int .i64 0)] hS ti43 rfl) ?_
  rintro _ w1 ⟨b1, rfl, hS1, hk1⟩
  refine WL.nil (thenQ.n ?_)
  refine WC.seq ?_
  refine WC.region ?_
  refine WL.xe rfl (XE.alloc #[(.int .i64 0), (.int .i64 0), (.int .i64 0)] hS1 ti43 rfl) ?_
  rintro _ w2 ⟨b2, rfl, hS2, hk2⟩
  refine WL.nil (thenQ.n ?_)
  iterate 2 refine WC.seq ?_
  refine WC.region ?_
  refine WL.lv rfl (LV.mv rfl) ?_
  refine WL.lv rfl (LV.nilCheck rfl) ?_
  refine WL.lv rfl (LV.fieldA Try.underlying64 rfl ti33.sz rfl) ?_
  refine WL.lv rfl (LV.load1 Try.underlying33 rfl rfl (Blk.cellN (SH.arg hS2 h_s) 0 rfl _ (KB.refl No _))) ?_
  refine WL.lv rfl (LV.lenL Try.underlying33 rfl) ?_
  refine WL.lv rfl (LV.mv rfl) ?_
  refine WL.nil (thenQ.n ?_)
  refine WC.block ?_
  refine WC.loop (fun m_ f_ w_ => ∃ (best0 : Int) (best1 : Int) (best2 : Int) (ix : Int), (0 ≤ ix) ∧ (ix ≤ (x.length : Int)) ∧ ((best0, best1, best2) = bstI (grw x y u t) y.length ix.toNat) ∧ SH w No w_ [blkE b2 43 #[(.int .i64 best0), (.int .i64 best1), (.int .i64 best2)], blkE b1 43 #[(.int .i64 0), (.int .i64 0), (.int .i64 0)]] ∧ m_ = (((x.length : Int) - ix).toNat) ∧ Weak (lit [(0, (.pointer (some ⟨b_s, 0, none⟩))), (2, (.pointer (some ⟨b1, 0, none⟩))), (3, (.pointer (some ⟨b2, 0, none⟩))), (11, (.int .i64 (x.length : Int))), (12, (.int .i64 ix))]) f_) _ ⟨0, 0, 0, 0, by omega, by omega, rfl, hS2, rfl, Weak.cons rfl <| Weak.cons rfl <| Weak.cons rfl <| Weak.cons rfl <| Weak.cons rfl <| Weak.nil _⟩ ?_
  rintro m1 f1 w3 ⟨best0, best1, best2, ix, ixlo, ixhi, q1, hL1, rfl, hw1⟩
  refine WC.weak hw1 ?_
  clear hw1
  refine WC.seq ?_
  refine WC.region ?_
  refine WL.lv rfl (LV.ltI rfl rfl) ?_
  refine WL.nil (thenQ.n ?_)
  refine WC.seq ?_
  refine WC.condP (p := ix < (x.length : Int)) rfl (fun hc1 => ?_) (fun hc1 => ?_)
  · skip
    refine WC.skip (thenQ.n ?_)
    refine WC.seq ?_
    refine WC.block ?_
    refine WC.seq ?_
    refine WC.region ?_
    refine WL.lv rfl (LV.mv rfl) ?_
    refine WL.lv rfl (LV.asg rfl) ?_
    refine WL.nil (thenQ.n ?_)
    refine WC.seq ?_
    refine WC.region ?_
    refine WL.lv rfl (LV.mv rfl) ?_
    refine WL.lv rfl (LV.nilCheck rfl) ?_
    refine WL.lv rfl (LV.fieldA Try.underlying64 rfl ti33.sz rfl) ?_
    refine WL.lv rfl (LV.load1 Try.underlying33 rfl rfl (Blk.cellN (SH.arg hL1 h_s) 1 rfl _ (KB.refl No _))) ?_
    refine WL.lv rfl (LV.lenL Try.underlying33 rfl) ?_
    refine WL.lv rfl (LV.mv rfl) ?_
    refine WL.nil (thenQ.n ?_)
    refine WC.block ?_
    refine WC.loop (fun m_ f_ w_ => ∃ (best02 : Int) (best12 : Int) (best22 : Int) (ix2 : Int), (0 ≤ ix2) ∧ (ix2 ≤ (y.length : Int)) ∧ ((best02, best12, best22) = bstJ (grw x y u t) ix ix2.toNat (best0, best1, best2)) ∧ SH w No w_ [blkE b2 43 #[(.int .i64 best02), (.int .i64 best12), (.int .i64 best22)], blkE b1 43 #[(.int .i64 0), (.int .i64 0), (.int .i64 0)]] ∧ m_ = (((y.length : Int) - ix2).toNat) ∧ Weak (lit [(0, (.pointer (some ⟨b_s, 0, none⟩))), (2, (.pointer (some ⟨b1, 0, none⟩))), (3, (.pointer (some ⟨b2, 0, none⟩))), (4, (.int .i64 ix)), (11, (.int .i64 (x.length : Int))), (12, (.int .i64 ix)), (19, (.int .i64 (y.length : Int))), (20, (.int .i64 ix2))]) f_) _ ⟨best0, best1, best2, 0, by omega, by omega, rfl, hL1, rfl, Weak.cons rfl <| Weak.cons rfl <| Weak.cons rfl <| Weak.cons rfl <| Weak.cons rfl <| Weak.cons rfl <| Weak.cons rfl <| Weak.cons rfl <| Weak.nil _⟩ ?_
    rintro m2 f2 w4 ⟨best02, best12, best22, ix2, ix2lo, ix2hi, r1, hL2, rfl, hw2⟩
    refine WC.weak hw2 ?_
    clear hw2
    refine WC.seq ?_
    refine WC.region ?_
    refine WL.lv rfl (LV.ltI rfl rfl) ?_
    refine WL.nil (thenQ.n ?_)
    refine WC.seq ?_
    refine WC.condP (p := ix2 < (y.length : Int)) rfl (fun hc2 => ?_) (fun hc2 => ?_)
    · skip
      refine WC.skip (thenQ.n ?_)
      refine WC.seq ?_
      refine WC.block ?_
      refine WC.seq ?_
      refine WC.region ?_
      refine WL.lv rfl (LV.mv rfl) ?_
      refine WL.lv rfl (LV.asg rfl) ?_
      refine WL.nil (thenQ.n ?_)
      refine WC.seq ?_
      have hS3 := SH.drew hL2
      refine WC.regionD [] (fun w_ => KB No w4.drew w_) [(.pure, 0), (.pure, 1), (.pure, 2), (.look, 3), (.pure, 4), (.pure, 5), (.pure, 6), (.look, 7), (.pure, 8), (.pure, 9), (.pure, 10), (.look, 11), (.pure, 12), (.pure, 13), (.pure, 14), (.look, 15), (.pure, 16), (.pure, 17), (.forced, 18), (.pure, 19)] (by kernel_rfl) (by kernel_rfl) (KB.refl _ _) ?_
      refine WS.pure rfl rfl (fun _ => LV.mv rfl) ?_
      refine WS.pure rfl rfl (fun _ => LV.nilCheck rfl) ?_
      refine WS.pure rfl rfl (fun _ => LV.fieldA Try.underlying64 rfl ti33.sz rfl) ?_
      refine WS.look rfl rfl (fun _ hk_ => LV.load1 Try.underlying33 rfl rfl (Blk.cellN (SH.arg hS3 h_s) 0 rfl _ hk_)) ?_
      refine WS.pure rfl rfl (fun _ => LV.mv rfl) ?_
      refine WS.pure rfl rfl (fun _ => LV.nilCheck rfl) ?_
      refine WS.pure rfl rfl (fun _ => LV.fieldA Try.underlying64 rfl ti33.sz rfl) ?_
      refine WS.look rfl rfl (fun _ hk_ => LV.load1 Try.underlying33 rfl rfl (Blk.cellN (SH.arg hS3 h_s) 1 rfl _ hk_)) ?_
      refine WS.pure rfl rfl (fun _ => LV.mv rfl) ?_
      refine WS.pure rfl rfl (fun _ => LV.nilCheck rfl) ?_
      refine WS.pure rfl rfl (fun _ => LV.fieldA Try.underlying64 rfl ti34.sz rfl) ?_
      refine WS.look rfl rfl (fun _ hk_ => LV.load1 Try.underlying34 rfl rfl (Blk.cellN (SH.arg hS3 h_s) 2 rfl _ hk_)) ?_
      refine WS.pure rfl rfl (fun _ => LV.mv rfl) ?_
      refine WS.pure rfl rfl (fun _ => LV.nilCheck rfl) ?_
      refine WS.pure rfl rfl (fun _ => LV.fieldA Try.underlying64 rfl ti34.sz rfl) ?_
      refine WS.look rfl rfl (fun _ hk_ => LV.load1 Try.underlying34 rfl rfl (Blk.cellN (SH.arg hS3 h_s) 3 rfl _ hk_)) ?_
      iterate 2 refine WS.pure rfl rfl (fun _ => LV.mv rfl) ?_
      refine WS.call rfl rfl (XC.fn Try.func16 (by kernel_rfl) rfl rfl rfl) (grow_calls (i := ix) (j := ix2) (SH.stN hS3 h_x) rfl (SH.stN hS3 h_y) rfl (SH.stN hS3 h_u) rfl (SH.stN hS3 h_t) rfl ) ?_
      rintro v_ w5 ⟨rfl, hk3⟩
      have hS4 := SH.same hS3 hk3
      refine ⟨fun h_ => (KB.transN (KB.refl _ _) hk3), ?_⟩
      refine WS.pure rfl rfl (fun _ => LV.asg rfl) ?_
      refine WS.nil (thenQ.n ?_)
      refine WC.seq ?_
      refine WC.region ?_
      refine WL.lv rfl (LV.mv rfl) ?_
      refine WL.lv rfl (LV.fieldA Try.underlying43 rfl ti3.sz rfl) ?_
      refine WL.lv rfl (LV.load1 Try.underlying3 rfl rfl (Blk.cellN (SH.at hS4 (.head _)) 2 rfl _ (KB.refl No _))) ?_
      refine WL.lv rfl (LV.gtI rfl rfl) ?_
      refine WL.nil (thenQ.n ?_)
      refine WC.condP (p := (grw x y u t ix ix2) > best22) rfl (fun hc45 => ?_) (fun hc45 => ?_)
      · skip
        refine WC.region ?_
        iterate 3 refine WL.lv rfl (LV.mv rfl) ?_
        refine WL.lv rfl (LV.build (vs := [(0, (.int .i64 ix)), (1, (.int .i64 ix2)), (2, (.int .i64 (grw x y u t ix ix2)))]) (places := #[(0, 1), (1, 1), (2, 1)]) (cs := #[(.int .i64 ix), (.int .i64 ix2), (.int .i64 (grw x y u t ix ix2))]) Try.underlying43 ti43 (fun _ => by kernel_rfl) rfl rfl) ?_
        refine WL.xse rfl (XSE.blkAgg #[(.int .i64 ix), (.int .i64 ix2), (.int .i64 (grw x y u t ix ix2))] hS4 (by kernel_rfl) rfl (by kernel_rfl) rfl rfl) ?_
        rintro w6 ⟨hS5, hk4⟩
        refine WL.nil (blockQ.n <| thenQ.n ?_)
        refine WC.region ?_
        refine WL.lv rfl (LV.add rfl rfl (wr64 (by omega) (by omega))) ?_
        refine WL.lv rfl (LV.mv rfl) ?_
        refine WL.nil (thenQ.n ?_)
        exact ⟨_, by omega, ix, ix2, grw x y u t ix ix2, ix2 + 1, by omega, by omega, (bstJ_yes ix2lo r1 hc45), hS5, rfl, Weak.cons rfl <| Weak.cons rfl <| Weak.cons rfl <| Weak.cons rfl <| Weak.cons rfl <| Weak.cons rfl <| Weak.cons rfl <| Weak.cons rfl <| Weak.nil _⟩
      · skip
        refine WC.skip (blockQ.n <| thenQ.n ?_)
        refine WC.region ?_
        refine WL.lv rfl (LV.add rfl rfl (wr64 (by omega) (by omega))) ?_
        refine WL.lv rfl (LV.mv rfl) ?_
        refine WL.nil (thenQ.n ?_)
        exact ⟨_, by omega, best02, best12, best22, ix2 + 1, by omega, by omega, (bstJ_no ix2lo r1 hc45), hS4, rfl, Weak.cons rfl <| Weak.cons rfl <| Weak.cons rfl <| Weak.cons rfl <| Weak.cons rfl <| Weak.cons rfl <| Weak.cons rfl <| Weak.cons rfl <| Weak.nil _⟩
    · skip
      refine WC.exit (thenQ.x <| thenQ.x <| blockQ.hit <| blockQ.n <| thenQ.n ?_)
      refine WC.region ?_
      refine WL.lv rfl (LV.add rfl rfl (wr64 (by omega) (by omega))) ?_
      refine WL.lv rfl (LV.mv rfl) ?_
      refine WL.nil (thenQ.n ?_)
      exact ⟨_, by omega, best02, best12, best22, ix + 1, by omega, by omega, (bstI_step ixlo q1 r1 (by omega) (by omega)), hL2, rfl, Weak.cons rfl <| Weak.cons rfl <| Weak.cons rfl <| Weak.cons rfl <| Weak.cons rfl <| Weak.nil _⟩
  · skip
    refine WC.exit (thenQ.x <| thenQ.x <| blockQ.hit <| thenQ.n ?_)
    refine WC.seq ?_
    refine WC.region ?_
    refine WL.lv rfl (LV.loadAgg (cs := [(.int .i64 best0), (.int .i64 best1), (.int .i64 best2)]) Try.underlying43 rfl ti43 rfl rfl (Blk.agg (SH.at hL1 (.head _)) _ (KB.refl No _))) ?_
    have hS7 : SH w No w3 [blkE b1 43 #[(.int .i64 0), (.int .i64 0), (.int .i64 0)], blkE b2 43 #[(.int .i64 best0), (.int .i64 best1), (.int .i64 best2)]] := (SH.front [blkE b2 43 #[(.int .i64 best0), (.int .i64 best1), (.int .i64 best2)]] hL1)
    refine WL.xse rfl (XSE.blkAgg #[(.int .i64 best0), (.int .i64 best1), (.int .i64 best2)] hS7 (by kernel_rfl) rfl (by kernel_rfl) rfl rfl) ?_
    rintro w7 ⟨hS6, hk5⟩
    refine WL.nil (thenQ.n ?_)
    refine WC.ret (?_)
    exact ⟨_, fun a ha => resC rfl ha rfl Try.underlying43 rfl ti43 rfl (Blk.agg (SH.at hS6 (.head _)) _ (KB.refl No _)), congrArg (fun x_ => Value.agg (List.toArray (El.enc eB3 x_))) (show (best0, best1, best2) = bst x y u t from by rw [q1]; unfold bst; rw [show ix.toNat = x.length by omega]), hS6.kb⟩

theorem mark_calls {w : World} {S : Nat → Prop} {sb n0 n1 nu nt c0 c1 c2 c3 : Nat} {A0 A1 A2 A3 : Option Addr} {u t : List Bool} {b : Int × Int × Int} (hS0 : SH w S w [blkE sb 64 #[(.slice A0 n0 c0), (.slice A1 n1 c1), (.slice A2 nu c2), (.slice A3 nt c3)], rowE eB 4 (.slice A2 nu c2) u, rowE eB 4 (.slice A3 nt c3) t]) (hu : u.length = nu) (ht : t.length = nt) (h0 : 0 ≤ b.1) (h1 : b.1 + b.2.2 ≤ u.length) (h2 : 0 ≤ b.2.1) (h3 : b.2.1 + b.2.2 ≤ t.length) (h4 : 0 ≤ b.2.2) (h5 : b.2.2 ≤ 100000) (h6 : u.length ≤ 1000000) (h7 : t.length ≤ 1000000) :
    Calls Try.prog 22 #[(.pointer (some ⟨sb, 0, none⟩)), (.agg #[(.int .i64 ((b).1)), (.int .i64 ((b).2.1)), (.int .i64 ((b).2.2))])] w fun e w' => ∃ v, e = .returned v ∧ (fun v w' => v = .tuple #[] ∧ SH w S w' [blkE sb 64 #[(.slice A0 n0 c0), (.slice A1 n1 c1), (.slice A2 nu c2), (.slice A3 nt c3)], rowE eB 4 (.slice A2 nu c2) (mrk u b.1 b.2.2), rowE eB 4 (.slice A3 nt c3) (mrk t b.2.1 b.2.2)]) v w' := by
  have hS : SH w S w [blkE sb 64 #[(.slice A0 n0 c0), (.slice A1 n1 c1), (.slice A2 nu c2), (.slice A3 nt c3)], rowE eB 4 (.slice A2 nu c2) u, rowE eB 4 (.slice A3 nt c3) t] := hS0
  refine calls (l := litOf [(.pointer (some ⟨sb, 0, none⟩)), (.agg #[(.int .i64 ((b).1)), (.int .i64 ((b).2.1)), (.int .i64 ((b).2.2))])] 0) Try.func22 rfl (n := 38) rfl (Nat.le_of_ble_eq_true rfl) (lit_args _) ?_
  refine WC.seq ?_
  refine WC.region ?_
  refine WL.xe rfl (XE.box #[(.int .i64 ((b).1)), (.int .i64 ((b).2.1)), (.int .i64 ((b).2.2))] hS rfl rfl) ?_
  rintro _ w1 ⟨b1, rfl, hS1, hk1⟩
  refine WL.nil (thenQ.n ?_)
  refine WC.seq ?_
  have hS2 := SH.drew hS1
  refine WC.regionD [16] (fun w_ => KB No w1.drew w_) [(.pure, 0), (.pure, 1), (.pure, 2), (.look, 3), (.pure, 4), (.look, 5), (.pure, 6), (.look, 7), (.pure, 8), (.look, 9), (.pure, 10), (.pure, 11), (.pure, 13), (.look, 14), (.forced, 12), (.forced, 15), (.forced, 16)] (by kernel_rfl) (by kernel_rfl) (KB.refl _ _) ?_
  refine WS.pure rfl rfl (fun _ => LV.mv rfl) ?_
  refine WS.pure rfl rfl (fun _ => LV.nilCheck rfl) ?_
  refine WS.pure rfl rfl (fun _ => LV.fieldA Try.underlying64 rfl ti34.sz rfl) ?_
  refine WS.look rfl rfl (fun _ hk_ => LV.load1 Try.underlying34 rfl rfl (Blk.cellN (SH.at hS2 (.tail _ (.head _))) 2 rfl _ hk_)) ?_
  refine WS.pure rfl rfl (fun _ => LV.fieldA Try.underlying43 rfl ti3.sz rfl) ?_
  refine WS.look rfl rfl (fun _ hk_ => LV.load1 Try.underlying3 rfl rfl (Blk.cellN (SH.at hS2 (.head _)) 0 rfl _ hk_)) ?_
  refine WS.pure rfl rfl (fun _ => LV.fieldA Try.underlying43 rfl ti3.sz rfl) ?_
  refine WS.look rfl rfl (fun _ hk_ => LV.load1 Try.underlying3 rfl rfl (Blk.cellN (SH.at hS2 (.head _)) 0 rfl _ hk_)) ?_
  refine WS.pure rfl rfl (fun _ => LV.fieldA Try.underlying43 rfl ti3.sz rfl) ?_
  refine WS.look rfl rfl (fun _ hk_ => LV.load1 Try.underlying3 rfl rfl (Blk.cellN (SH.at hS2 (.head _)) 2 rfl _ hk_)) ?_
  refine WS.pure rfl rfl (fun _ => LV.add rfl rfl (wr64 (by omega) (by omega))) ?_
  have hcap1 : nu ≤ c2 := (Rd.cap (St.now (SH.rd hS2 (.tail _ (.tail _ (.head _))))))
  refine WS.pure rfl rfl (fun _ => LV.cut Try.underlying34 ti4.sz rfl rfl rfl rfl ⟨.inr ⟨.i64, by rw [Int.toNat_of_nonneg (a := (b).1) (by omega)] <;> rfl⟩, .inr ⟨.i64, by rw [Int.toNat_of_nonneg (a := ((b).1) + ((b).2.2)) (by omega)] <;> rfl⟩, .inl ⟨rfl, rfl⟩⟩ (by omega) (by omega) (by omega)) ?_
  refine WS.pure rfl rfl (fun _ => LV.fieldA Try.underlying43 rfl ti3.sz rfl) ?_
  refine WS.look rfl rfl (fun _ hk_ => LV.load1 Try.underlying3 rfl rfl (Blk.cellN (SH.at hS2 (.head _)) 2 rfl _ hk_)) ?_
  refine WS.xe rfl rfl (XE.buildSlice (E := eB) [(0, (.bool true))] #[(.bool true)] [true] hS2 Try.underlying34 ti4 rfl (by decide) (by kernel_rfl) (.inr rfl) rfl rfl (by decide)) ?_
  rintro _ w2 ⟨b2, rfl, hS3, hk2⟩
  refine ⟨fun h_ => (KB.transN (KB.refl _ _) hk2), ?_⟩
  refine WS.call rfl rfl (XC.fn Try.func31 (by kernel_rfl) rfl rfl rfl) (repB_calls' (N := ((b).2.2).toNat) (by omega) (SH.rd hS3 (.head _)) (by omega)) ?_
  rintro v_ w3 ⟨b3, rfl, hS4⟩
  have hS5 := SH.joinN hS3 hS4
  refine ⟨fun h_ => (KB.transN (KB.transN (KB.refl _ _) hk2) hS4.kb), ?_⟩
  have hS6 : SH w S w3 [rowE eB 4 (.slice A2 nu c2) u, rowE eB 4 (.slice (some ⟨b3, 0, none⟩) (((b).2.2).toNat) (((b).2.2).toNat)) (List.replicate (((b).2.2).toNat) true), rowE eB 4 (.slice (some ⟨b2, 0, none⟩) 1 1) [true], blkE b1 43 #[(.int .i64 ((b).1)), (.int .i64 ((b).2.1)), (.int .i64 ((b).2.2))], blkE sb 64 #[(.slice A0 n0 c0), (.slice A1 n1 c1), (.slice A2 nu c2), (.slice A3 nt c3)], rowE eB 4 (.slice A3 nt c3) t] := (SH.front [rowE eB 4 (.slice (some ⟨b3, 0, none⟩) (((b).2.2).toNat) (((b).2.2).toNat)) (List.replicate (((b).2.2).toNat) true), rowE eB 4 (.slice (some ⟨b2, 0, none⟩) 1 1) [true], blkE b1 43 #[(.int .i64 ((b).1)), (.int .i64 ((b).2.1)), (.int .i64 ((b).2.2))], blkE sb 64 #[(.slice A0 n0 c0), (.slice A1 n1 c1), (.slice A2 nu c2), (.slice A3 nt c3)]] hS5)
  refine WS.xe rfl rfl (XE.copyCut (xs := u) (ys := (List.replicate (((b).2.2).toNat) true)) (((b).1).toNat) ((((b).1) + ((b).2.2)).toNat - ((b).1).toNat) (c2 - ((b).1).toNat) hS6 Try.underlying34 ti4.sz rfl (St.now (SH.rd hS6 (.tail _ (.head _)))) (by omega) (by omega) rfl rfl) ?_
  rintro _ w4 ⟨rfl, hS7, hk3⟩
  refine ⟨fun h_ => (by cases h_), ?_⟩
  refine WS.nil (thenQ.n ?_)
  have hS8 := SH.drew hS7
  refine WC.regionD [16] (fun w_ => KB No w4.drew w_) [(.pure, 0), (.pure, 1), (.pure, 2), (.look, 3), (.pure, 4), (.look, 5), (.pure, 6), (.look, 7), (.pure, 8), (.look, 9), (.pure, 10), (.pure, 11), (.pure, 13), (.look, 14), (.forced, 12), (.forced, 15), (.forced, 16)] (by kernel_rfl) (by kernel_rfl) (KB.refl _ _) ?_
  refine WS.pure rfl rfl (fun _ => LV.mv rfl) ?_
  refine WS.pure rfl rfl (fun _ => LV.nilCheck rfl) ?_
  refine WS.pure rfl rfl (fun _ => LV.fieldA Try.underlying64 rfl ti34.sz rfl) ?_
  refine WS.look rfl rfl (fun _ hk_ => LV.load1 Try.underlying34 rfl rfl (Blk.cellN (SH.at hS8 (.tail _ (.tail _ (.tail _ (.tail _ (.head _)))))) 3 rfl _ hk_)) ?_
  refine WS.pure rfl rfl (fun _ => LV.fieldA Try.underlying43 rfl ti3.sz rfl) ?_
  refine WS.look rfl rfl (fun _ hk_ => LV.load1 Try.underlying3 rfl rfl (Blk.cellN (SH.at hS8 (.tail _ (.tail _ (.tail _ (.head _))))) 1 rfl _ hk_)) ?_
  refine WS.pure rfl rfl (fun _ => LV.fieldA Try.underlying43 rfl ti3.sz rfl) ?_
  refine WS.look rfl rfl (fun _ hk_ => LV.load1 Try.underlying3 rfl rfl (Blk.cellN (SH.at hS8 (.tail _ (.tail _ (.tail _ (.head _))))) 1 rfl _ hk_)) ?_
  refine WS.pure rfl rfl (fun _ => LV.fieldA Try.underlying43 rfl ti3.sz rfl) ?_
  refine WS.look rfl rfl (fun _ hk_ => LV.load1 Try.underlying3 rfl rfl (Blk.cellN (SH.at hS8 (.tail _ (.tail _ (.tail _ (.head _))))) 2 rfl _ hk_)) ?_
  refine WS.pure rfl rfl (fun _ => LV.add rfl rfl (wr64 (by omega) (by omega))) ?_
  have hcap2 : nt ≤ c3 := (Rd.cap (St.now (SH.rd hS8 (.tail _ (.tail _ (.tail _ (.tail _ (.tail _ (.head _)))))))))
  refine WS.pure rfl rfl (fun _ => LV.cut Try.underlying34 ti4.sz rfl rfl rfl rfl ⟨.inr ⟨.i64, by rw [Int.toNat_of_nonneg (a := (b).2.1) (by omega)] <;> rfl⟩, .inr ⟨.i64, by rw [Int.toNat_of_nonneg (a := ((b).2.1) + ((b).2.2)) (by omega)] <;> rfl⟩, .inl ⟨rfl, rfl⟩⟩ (by omega) (by omega) (by omega)) ?_
  refine WS.pure rfl rfl (fun _ => LV.fieldA Try.underlying43 rfl ti3.sz rfl) ?_
  refine WS.look rfl rfl (fun _ hk_ => LV.load1 Try.underlying3 rfl rfl (Blk.cellN (SH.at hS8 (.tail _ (.tail _ (.tail _ (.head _))))) 2 rfl _ hk_)) ?_
  refine WS.xe rfl rfl (XE.buildSlice (E := eB) [(0, (.bool true))] #[(.bool true)] [true] hS8 Try.underlying34 ti4 rfl (by decide) (by kernel_rfl) (.inr rfl) rfl rfl (by decide)) ?_
  rintro _ w5 ⟨b4, rfl, hS9, hk4⟩
  refine ⟨fun h_ => (KB.transN (KB.refl _ _) hk4), ?_⟩
  refine WS.call rfl rfl (XC.fn Try.func31 (by kernel_rfl) rfl rfl rfl) (repB_calls' (N := ((b).2.2).toNat) (by omega) (SH.rd hS9 (.head _)) (by omega)) ?_
  rintro v_ w6 ⟨b5, rfl, hS10⟩
  have hS11 := SH.joinN hS9 hS10
  refine ⟨fun h_ => (KB.transN (KB.transN (KB.refl _ _) hk4) hS10.kb), ?_⟩
  have hS12 : SH w S w6 [rowE eB 4 (.slice A3 nt c3) t, rowE eB 4 (.slice (some ⟨b5, 0, none⟩) (((b).2.2).toNat) (((b).2.2).toNat)) (List.replicate (((b).2.2).toNat) true), rowE eB 4 (.slice (some ⟨b4, 0, none⟩) 1 1) [true], rowE eB 4 (.slice A2 nu c2) ((u).take (((b).1).toNat) ++ ((List.replicate (((b).2.2).toNat) true)).take ((((b).1) + ((b).2.2)).toNat - ((b).1).toNat) ++ (u).drop (((b).1).toNat + min ((List.replicate (((b).2.2).toNat) true)).length ((((b).1) + ((b).2.2)).toNat - ((b).1).toNat))), rowE eB 4 (.slice (some ⟨b3, 0, none⟩) (((b).2.2).toNat) (((b).2.2).toNat)) (List.replicate (((b).2.2).toNat) true), rowE eB 4 (.slice (some ⟨b2, 0, none⟩) 1 1) [true], blkE b1 43 #[(.int .i64 ((b).1)), (.int .i64 ((b).2.1)), (.int .i64 ((b).2.2))], blkE sb 64 #[(.slice A0 n0 c0), (.slice A1 n1 c1), (.slice A2 nu c2), (.slice A3 nt c3)]] := (SH.front [rowE eB 4 (.slice (some ⟨b5, 0, none⟩) (((b).2.2).toNat) (((b).2.2).toNat)) (List.replicate (((b).2.2).toNat) true), rowE eB 4 (.slice (some ⟨b4, 0, none⟩) 1 1) [true], rowE eB 4 (.slice A2 nu c2) ((u).take (((b).1).toNat) ++ ((List.replicate (((b).2.2).toNat) true)).take ((((b).1) + ((b).2.2)).toNat - ((b).1).toNat) ++ (u).drop (((b).1).toNat + min ((List.replicate (((b).2.2).toNat) true)).length ((((b).1) + ((b).2.2)).toNat - ((b).1).toNat))), rowE eB 4 (.slice (some ⟨b3, 0, none⟩) (((b).2.2).toNat) (((b).2.2).toNat)) (List.replicate (((b).2.2).toNat) true), rowE eB 4 (.slice (some ⟨b2, 0, none⟩) 1 1) [true], blkE b1 43 #[(.int .i64 ((b).1)), (.int .i64 ((b).2.1)), (.int .i64 ((b).2.2))], blkE sb 64 #[(.slice A0 n0 c0), (.slice A1 n1 c1), (.slice A2 nu c2), (.slice A3 nt c3)]] hS11)
  refine WS.xe rfl rfl (XE.copyCut (xs := t) (ys := (List.replicate (((b).2.2).toNat) true)) (((b).2.1).toNat) ((((b).2.1) + ((b).2.2)).toNat - ((b).2.1).toNat) (c3 - ((b).2.1).toNat) hS12 Try.underlying34 ti4.sz rfl (St.now (SH.rd hS12 (.tail _ (.head _)))) (by omega) (by omega) rfl rfl) ?_
  rintro _ w7 ⟨rfl, hS13, hk5⟩
  refine ⟨fun h_ => (by cases h_), ?_⟩
  refine WS.nil (?_)
  have hS14 : SH w S w7 [blkE sb 64 #[(.slice A0 n0 c0), (.slice A1 n1 c1), (.slice A2 nu c2), (.slice A3 nt c3)], rowE eB 4 (.slice A2 nu c2) ((u).take (((b).1).toNat) ++ ((List.replicate (((b).2.2).toNat) true)).take ((((b).1) + ((b).2.2)).toNat - ((b).1).toNat) ++ (u).drop (((b).1).toNat + min ((List.replicate (((b).2.2).toNat) true)).length ((((b).1) + ((b).2.2)).toNat - ((b).1).toNat))), rowE eB 4 (.slice A3 nt c3) ((t).take (((b).2.1).toNat) ++ ((List.replicate (((b).2.2).toNat) true)).take ((((b).2.1) + ((b).2.2)).toNat - ((b).2.1).toNat) ++ (t).drop (((b).2.1).toNat + min ((List.replicate (((b).2.2).toNat) true)).length ((((b).2.1) + ((b).2.2)).toNat - ((b).2.1).toNat)))] := (SH.take 3 rfl (SH.front [rowE eB 4 (.slice A2 nu c2) ((u).take (((b).1).toNat) ++ ((List.replicate (((b).2.2).toNat) true)).take ((((b).1) + ((b).2.2)).toNat - ((b).1).toNat) ++ (u).drop (((b).1).toNat + min ((List.replicate (((b).2.2).toNat) true)).length ((((b).1) + ((b).2.2)).toNat - ((b).1).toNat))), rowE eB 4 (.slice A3 nt c3) ((t).take (((b).2.1).toNat) ++ ((List.replicate (((b).2.2).toNat) true)).take ((((b).2.1) + ((b).2.2)).toNat - ((b).2.1).toNat) ++ (t).drop (((b).2.1).toNat + min ((List.replicate (((b).2.2).toNat) true)).length ((((b).2.1) + ((b).2.2)).toNat - ((b).2.1).toNat))), rowE eB 4 (.slice (some ⟨b5, 0, none⟩) (((b).2.2).toNat) (((b).2.2).toNat)) (List.replicate (((b).2.2).toNat) true), rowE eB 4 (.slice (some ⟨b4, 0, none⟩) 1 1) [true], rowE eB 4 (.slice (some ⟨b3, 0, none⟩) (((b).2.2).toNat) (((b).2.2).toNat)) (List.replicate (((b).2.2).toNat) true), rowE eB 4 (.slice (some ⟨b2, 0, none⟩) 1 1) [true], blkE b1 43 #[(.int .i64 ((b).1)), (.int .i64 ((b).2.1)), (.int .i64 ((b).2.2))]] (SH.front [rowE eB 4 (.slice A3 nt c3) ((t).take (((b).2.1).toNat) ++ ((List.replicate (((b).2.2).toNat) true)).take ((((b).2.1) + ((b).2.2)).toNat - ((b).2.1).toNat) ++ (t).drop (((b).2.1).toNat + min ((List.replicate (((b).2.2).toNat) true)).length ((((b).2.1) + ((b).2.2)).toNat - ((b).2.1).toNat))), rowE eB 4 (.slice (some ⟨b5, 0, none⟩) (((b).2.2).toNat) (((b).2.2).toNat)) (List.replicate (((b).2.2).toNat) true), rowE eB 4 (.slice (some ⟨b4, 0, none⟩) 1 1) [true]] hS13)))
  exact ⟨_, fun a ha => res0 rfl, rfl, (by have h_ := hS14; rwa [mrk_copy h0 h4, mrk_copy h2 h4] at h_)⟩

end Go.Proofs.Ytkceknbjlogehaa
