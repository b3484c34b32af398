/- The normal form. -/
import Derived.Test.YtjmfoifohneanaaScF
namespace Go.Proofs.Ytjmfoifohneanaa
open Go Go.Gv Go.RowKit Go.Mys Go.Num Go.Scr
set_option linter.unusedVariables false
set_option linter.unusedSimpArgs false
theorem ti66 : TI Try.prog 66 (.agg #[(.slice none 0 0), (.slice none 0 0)]) 2 48 := by unfold TI; kernel_rfl

set_option maxHeartbeats 1000000 in
theorem normal_calls {w : World} {A0 : Option Addr} {c0 : Nat} {inp : List (ED × List Ln)} (hi : St No w (Rd eE (.slice A0 inp.length c0) (inp.map (·.1)))) (hin : St No w (RdIn (·.2) eL inp)) (ht : tot (scr inp) ≤ 800) (hn : inp.length ≤ 900) :
    Calls Try.prog 31 #[(.slice A0 inp.length c0)] w fun e w' => ∃ v, e = .returned v ∧ (fun v w' => ∃ A' c' rows', v = .slice A' rows'.length c' ∧ scr rows' = normP (scr inp) ∧ SH w No w' [rowE eE 39 (.slice A' rows'.length c') (rows'.map (fun p : ED × List Ln => p.1)), insE (fun p : ED => p.2) eL 41 rows']) v w' := by
  have hS : SH w No w [] := SH.nil _ _
  refine calls (l := litOf [(.slice A0 inp.length c0)] 0) Try.func31 rfl (n := 24) rfl (Nat.le_of_ble_eq_true rfl) (lit_args _) ?_
  refine WC.seq ?_
  refine WC.region ?_
  refine WL.lv rfl (LV.asg rfl) ?_
  refine WL.nil (thenQ.n ?_)
  refine WC.seq ?_
  refine WC.region ?_
  refine WL.lv rfl (LV.build (vs := []) (places := #[(0, 1), (1, 1)]) (cs := #[(.slice none 0 0), (.slice none 0 0)]) Try.underlying66 ti66 (fun _ => by kernel_rfl) rfl rfl) ?_
  refine WL.xe rfl (XE.box #[(.slice none 0 0), (.slice none 0 0)] hS rfl rfl) ?_
  rintro _ w1 ⟨b1, rfl, hS1, hk1⟩
  refine WL.lv rfl (LV.asg rfl) ?_
  refine WL.nil (thenQ.n ?_)
  iterate 2 refine WC.seq ?_
  refine WC.region ?_
  have hS2 := SH.nilRow (E := eE) (T := 39) hS1
  have hS3 := SH.ins0 (sv := fun p : ED => p.2) (E := eL) (T1 := 41) hS2
  have hS4 := SH.nilRow (E := eL) (T := 41) hS3
  refine WL.lv rfl (LV.mv rfl) ?_
  refine WL.lv rfl (LV.lenL Try.underlying24 rfl) ?_
  refine WL.lv rfl (LV.mv rfl) ?_
  refine WL.nil (thenQ.n ?_)
  refine WC.block ?_
  have hS5 : SH w No w1 [blkE b1 66 #[(.slice none 0 0), (.slice none 0 0)], rowE eE 39 (.slice none 0 0) (([] : List (ED × List Ln)).map (fun p : ED × List Ln => p.1)), insE (fun p : ED => p.2) eL 41 [], rowE eL 41 (.slice none 0 0) []] := (SH.front [rowE eE 39 (.slice none 0 0) (([] : List (ED × List Ln)).map (fun p : ED × List Ln => p.1)), insE (fun p : ED => p.2) eL 41 [], rowE eL 41 (.slice none 0 0) []] (SH.front [insE (fun p : ED => p.2) eL 41 [], rowE eL 41 (.slice none 0 0) []] (SH.front [rowE eL 41 (.slice none 0 0) []] hS4)))
  refine WC.loop (fun m_ f_ w_ => ∃ (i : Int) (Ao Aw : Option Addr) (co cw : Nat) (rows : List (ED × List Ln)) (wait : List Ln), (0 ≤ i) ∧ (i ≤ inp.length) ∧ ((scr rows, wait) = ((scr inp).take i.toNat).foldl takeS ([], [])) ∧ ((rows.length : Int) ≤ 2 * i) ∧ SH w No w_ [blkE b1 66 #[(.slice Ao rows.length co), (.slice Aw wait.length cw)], rowE eE 39 (.slice Ao rows.length co) (rows.map (fun p : ED × List Ln => p.1)), insE (fun p : ED => p.2) eL 41 rows, rowE eL 41 (.slice Aw wait.length cw) wait] ∧ m_ = (((inp.length : Int) - i).toNat) ∧ Weak (lit [(0, (.slice A0 inp.length c0)), (2, (.slice none 0 0)), (3, (.pointer (some ⟨b1, 0, none⟩))), (8, (.slice A0 inp.length c0)), (9, (.int .i64 (inp.length : Int))), (10, (.int .i64 i))]) f_) _ ⟨0, none, none, 0, 0, [], [], by omega, by omega, rfl, (by simp), hS5, rfl, Weak.cons rfl <| Weak.cons rfl <| Weak.cons rfl <| Weak.cons rfl <| Weak.cons rfl <| Weak.cons rfl <| Weak.nil _⟩ ?_
  rintro m1 f1 w2 ⟨i, Ao, Aw, co, cw, rows, wait, q0, q1, q2, q3, hL1, rfl, hw1⟩
  refine WC.weak hw1 ?_
  clear hw1
  have htf : tot (scr rows) + wait.length = tot ((scr inp).take i.toNat) := by have h_ := tot_fold ((scr inp).take i.toNat) ([], []); rw [← q2] at h_; exact h_.trans (Nat.zero_add _)
  have htn := tot_take (scr inp) i.toNat
  refine WC.seq ?_
  refine WC.region ?_
  refine WL.lv rfl (LV.ltI rfl rfl) ?_
  refine WL.nil (thenQ.n ?_)
  refine WC.seq ?_
  refine WC.condP (p := i < (inp.length : Int)) rfl (fun h11 => ?_) (fun h11 => ?_)
  · have htm := tot_more q0 h11
    have htn2 := tot_take (scr inp) (i + 1).toNat
    refine WC.skip (thenQ.n ?_)
    refine WC.seq ?_
    refine WC.block ?_
    refine WC.seq ?_
    refine WC.region ?_
    obtain ⟨A1, c1, A2, c2, e1, g1, e2, r1⟩ := St.eltE (SH.stN hL1 hi) (SH.stN hL1 hin) default i (by omega) (by omega)
    refine WL.lv rfl (LV.idxA Try.underlying24 ti39.sz rfl e1 rfl (by omega) (by omega)) ?_
    refine WL.lv rfl (LV.loadAgg (cs := [(.int .i64 ((inp.getD (i).toNat default).1.1)), (.slice A2 ((inp.getD (i).toNat default).2.length) c2)]) Try.underlying39 rfl ti39 rfl rfl (fun j u hu => g1 _ (KB.refl No _) j u hu)) ?_
    refine WL.xe rfl (XE.alloc #[(.int .i64 0), (.slice none 0 0)] hL1 ti39 rfl) ?_
    rintro _ w3 ⟨b2, rfl, hS6, hk2⟩
    refine WL.xse rfl (XSE.blkAgg #[(.int .i64 ((inp.getD (i).toNat default).1.1)), (.slice A2 ((inp.getD (i).toNat default).2.length) c2)] hS6 (by kernel_rfl) rfl (by kernel_rfl) rfl rfl) ?_
    rintro w4 ⟨hS7, hk3⟩
    refine WL.nil (thenQ.n ?_)
    refine WC.region ?_
    refine WL.lv rfl (LV.mv rfl) ?_
    refine WL.lv rfl (LV.loadAgg (cs := [(.int .i64 ((inp.getD (i).toNat default).1.1)), (.slice A2 ((inp.getD (i).toNat default).2.length) c2)]) Try.underlying39 rfl ti39 rfl rfl (Blk.agg (SH.at hS7 (.head _)) _ (KB.refl No _))) ?_
    have hS8 : SH w No w4 [rowE eL 41 (.slice Aw wait.length cw) wait, blkE b2 39 #[(.int .i64 ((inp.getD (i).toNat default).1.1)), (.slice A2 ((inp.getD (i).toNat default).2.length) c2)], blkE b1 66 #[(.slice Ao rows.length co), (.slice Aw wait.length cw)], rowE eE 39 (.slice Ao rows.length co) (rows.map (fun p : ED × List Ln => p.1)), insE (fun p : ED => p.2) eL 41 rows] := (SH.front [blkE b2 39 #[(.int .i64 ((inp.getD (i).toNat default).1.1)), (.slice A2 ((inp.getD (i).toNat default).2.length) c2)], blkE b1 66 #[(.slice Ao rows.length co), (.slice Aw wait.length cw)], rowE eE 39 (.slice Ao rows.length co) (rows.map (fun p : ED × List Ln => p.1)), insE (fun p : ED => p.2) eL 41 rows] hS7)
    have hS9 : SH w No w4 [insE (fun p : ED => p.2) eL 41 rows, rowE eL 41 (.slice Aw wait.length cw) wait, blkE b2 39 #[(.int .i64 ((inp.getD (i).toNat default).1.1)), (.slice A2 ((inp.getD (i).toNat default).2.length) c2)], blkE b1 66 #[(.slice Ao rows.length co), (.slice Aw wait.length cw)], rowE eE 39 (.slice Ao rows.length co) (rows.map (fun p : ED × List Ln => p.1))] := (SH.front [rowE eL 41 (.slice Aw wait.length cw) wait, blkE b2 39 #[(.int .i64 ((inp.getD (i).toNat default).1.1)), (.slice A2 ((inp.getD (i).toNat default).2.length) c2)], blkE b1 66 #[(.slice Ao rows.length co), (.slice Aw wait.length cw)], rowE eE 39 (.slice Ao rows.length co) (rows.map (fun p : ED × List Ln => p.1))] hS8)
    have hS10 : SH w No w4 [rowE eE 39 (.slice Ao rows.length co) (rows.map (fun p : ED × List Ln => p.1)), insE (fun p : ED => p.2) eL 41 rows, rowE eL 41 (.slice Aw wait.length cw) wait, blkE b2 39 #[(.int .i64 ((inp.getD (i).toNat default).1.1)), (.slice A2 ((inp.getD (i).toNat default).2.length) c2)], blkE b1 66 #[(.slice Ao rows.length co), (.slice Aw wait.length cw)]] := (SH.front [insE (fun p : ED => p.2) eL 41 rows, rowE eL 41 (.slice Aw wait.length cw) wait, blkE b2 39 #[(.int .i64 ((inp.getD (i).toNat default).1.1)), (.slice A2 ((inp.getD (i).toNat default).2.length) c2)], blkE b1 66 #[(.slice Ao rows.length co), (.slice Aw wait.length cw)]] hS9)
    have hS11 : SH w No w4 [blkE b1 66 #[(.slice Ao rows.length co), (.slice Aw wait.length cw)], rowE eE 39 (.slice Ao rows.length co) (rows.map (fun p : ED × List Ln => p.1)), insE (fun p : ED => p.2) eL 41 rows, rowE eL 41 (.slice Aw wait.length cw) wait, blkE b2 39 #[(.int .i64 ((inp.getD (i).toNat default).1.1)), (.slice A2 ((inp.getD (i).toNat default).2.length) c2)]] := (SH.front [rowE eE 39 (.slice Ao rows.length co) (rows.map (fun p : ED × List Ln => p.1)), insE (fun p : ED => p.2) eL 41 rows, rowE eL 41 (.slice Aw wait.length cw) wait, blkE b2 39 #[(.int .i64 ((inp.getD (i).toNat default).1.1)), (.slice A2 ((inp.getD (i).toNat default).2.length) c2)]] hS10)
    have hT1 := SH.sub (Es := [blkE b1 66 #[(.slice Ao rows.length co), (.slice Aw wait.length cw)], rowE eE 39 (.slice Ao rows.length co) (rows.map (fun p : ED × List Ln => p.1)), insE (fun p : ED => p.2) eL 41 rows, rowE eL 41 (.slice Aw wait.length cw) wait]) hS11
    refine WL.call rfl (XC.fn Try.func42 (by kernel_rfl) rfl rfl rfl) (take_calls (do_ := (inp.getD (i).toNat default).1.1) (l := (inp.getD (i).toNat default).2) hT1 (by omega) (by omega) (St.innerQ (SH.stA (Es := [blkE b1 66 #[(.slice Ao rows.length co), (.slice Aw wait.length cw)], rowE eE 39 (.slice Ao rows.length co) (rows.map (fun p : ED × List Ln => p.1)), insE (fun p : ED => p.2) eL 41 rows, rowE eL 41 (.slice Aw wait.length cw) wait]) hS11 hin) (getD_mem (by omega)) e2) (by omega)) ?_
    rintro v_ w5 ⟨A3, c3, rows1, A4, c4, wait1, rfl, hq1, hq2, hU1⟩
    have htk_ := hq1
    have hrl_ := hq2
    have hS12 := SH.back (Es := [blkE b1 66 #[(.slice Ao rows.length co), (.slice Aw wait.length cw)], rowE eE 39 (.slice Ao rows.length co) (rows.map (fun p : ED × List Ln => p.1)), insE (fun p : ED => p.2) eL 41 rows, rowE eL 41 (.slice Aw wait.length cw) wait]) hS11 hU1
    refine WL.nil (blockQ.n <| thenQ.n ?_)
    refine WC.region ?_
    refine WL.lv rfl (LV.add rfl rfl (wr64 (by omega) (by omega))) ?_
    refine WL.lv rfl (LV.mv rfl) ?_
    refine WL.nil (thenQ.n ?_)
    have hS13 : SH w No w5 [blkE b1 66 #[(.slice A3 rows1.length c3), (.slice A4 wait1.length c4)], rowE eE 39 (.slice A3 rows1.length c3) (rows1.map (fun p : ED × List Ln => p.1)), insE (fun p : ED => p.2) eL 41 rows1, rowE eL 41 (.slice A4 wait1.length c4) wait1] := (SH.take 4 rfl (SH.front [rowE eE 39 (.slice A3 rows1.length c3) (rows1.map (fun p : ED × List Ln => p.1)), insE (fun p : ED => p.2) eL 41 rows1, rowE eL 41 (.slice A4 wait1.length c4) wait1] (SH.front [insE (fun p : ED => p.2) eL 41 rows1, rowE eL 41 (.slice A4 wait1.length c4) wait1, blkE b1 66 #[(.slice A3 rows1.length c3), (.slice A4 wait1.length c4)]] (SH.front [rowE eL 41 (.slice A4 wait1.length c4) wait1, blkE b1 66 #[(.slice A3 rows1.length c3), (.slice A4 wait1.length c4)], rowE eE 39 (.slice A3 rows1.length c3) (rows1.map (fun p : ED × List Ln => p.1))] (SH.front [blkE b1 66 #[(.slice A3 rows1.length c3), (.slice A4 wait1.length c4)], rowE eE 39 (.slice A3 rows1.length c3) (rows1.map (fun p : ED × List Ln => p.1)), insE (fun p : ED => p.2) eL 41 rows1] hS12)))))
    exact ⟨_, by omega, i + 1, A3, A4, c3, c4, rows1, wait1, by omega, by omega, (by rw [fold_more q0 h11, ← q2]; exact htk_), by omega, hS13, rfl, Weak.cons rfl <| Weak.cons rfl <| Weak.cons rfl <| Weak.cons rfl <| Weak.cons rfl <| Weak.cons rfl <| Weak.nil _⟩
  · skip
    refine WC.exit (thenQ.x <| thenQ.x <| blockQ.hit <| thenQ.n ?_)
    refine WC.seq ?_
    refine WC.region ?_
    refine WL.lv rfl (LV.mv rfl) ?_
    have hS14 : SH w No w2 [rowE eL 41 (.slice Aw wait.length cw) wait, blkE b1 66 #[(.slice Ao rows.length co), (.slice Aw wait.length cw)], rowE eE 39 (.slice Ao rows.length co) (rows.map (fun p : ED × List Ln => p.1)), insE (fun p : ED => p.2) eL 41 rows] := (SH.front [blkE b1 66 #[(.slice Ao rows.length co), (.slice Aw wait.length cw)], rowE eE 39 (.slice Ao rows.length co) (rows.map (fun p : ED × List Ln => p.1)), insE (fun p : ED => p.2) eL 41 rows] hL1)
    have hS15 : SH w No w2 [insE (fun p : ED => p.2) eL 41 rows, rowE eL 41 (.slice Aw wait.length cw) wait, blkE b1 66 #[(.slice Ao rows.length co), (.slice Aw wait.length cw)], rowE eE 39 (.slice Ao rows.length co) (rows.map (fun p : ED × List Ln => p.1))] := (SH.front [rowE eL 41 (.slice Aw wait.length cw) wait, blkE b1 66 #[(.slice Ao rows.length co), (.slice Aw wait.length cw)], rowE eE 39 (.slice Ao rows.length co) (rows.map (fun p : ED × List Ln => p.1))] hS14)
    have hS16 : SH w No w2 [rowE eE 39 (.slice Ao rows.length co) (rows.map (fun p : ED × List Ln => p.1)), insE (fun p : ED => p.2) eL 41 rows, rowE eL 41 (.slice Aw wait.length cw) wait, blkE b1 66 #[(.slice Ao rows.length co), (.slice Aw wait.length cw)]] := (SH.front [insE (fun p : ED => p.2) eL 41 rows, rowE eL 41 (.slice Aw wait.length cw) wait, blkE b1 66 #[(.slice Ao rows.length co), (.slice Aw wait.length cw)]] hS15)
    have hS17 : SH w No w2 [blkE b1 66 #[(.slice Ao rows.length co), (.slice Aw wait.length cw)], rowE eE 39 (.slice Ao rows.length co) (rows.map (fun p : ED × List Ln => p.1)), insE (fun p : ED => p.2) eL 41 rows, rowE eL 41 (.slice Aw wait.length cw) wait] := (SH.front [rowE eE 39 (.slice Ao rows.length co) (rows.map (fun p : ED × List Ln => p.1)), insE (fun p : ED => p.2) eL 41 rows, rowE eL 41 (.slice Aw wait.length cw) wait] hS16)
    have hT2 := SH.sub (Es := [blkE b1 66 #[(.slice Ao rows.length co), (.slice Aw wait.length cw)], rowE eE 39 (.slice Ao rows.length co) (rows.map (fun p : ED × List Ln => p.1)), insE (fun p : ED => p.2) eL 41 rows, rowE eL 41 (.slice Aw wait.length cw) wait]) hS17
    refine WL.call rfl (XC.fn Try.func43 (by kernel_rfl) rfl rfl rfl) (flush_calls hT2 (by omega) (by omega)) ?_
    rintro v_ w6 ⟨A5, c5, rows2, rfl, hadd11, hadd12, hU2⟩
    have hadd1 := And.intro hadd11 hadd12
    have htothadd1 := tot_addS (scr rows) 3 wait
    rw [← hadd1.1] at htothadd1
    have hS18 := SH.back (Es := [blkE b1 66 #[(.slice Ao rows.length co), (.slice Aw wait.length cw)], rowE eE 39 (.slice Ao rows.length co) (rows.map (fun p : ED × List Ln => p.1)), insE (fun p : ED => p.2) eL 41 rows, rowE eL 41 (.slice Aw wait.length cw) wait]) hS17 hU2
    refine WL.nil (thenQ.n ?_)
    refine WC.seq ?_
    refine WC.region ?_
    refine WL.lv rfl (LV.mv rfl) ?_
    refine WL.lv rfl (LV.nilCheck rfl) ?_
    refine WL.lv rfl (LV.fieldA Try.underlying66 rfl ti24.sz rfl) ?_
    refine WL.lv rfl (LV.load1 Try.underlying24 rfl rfl (Blk.cellN (SH.at hS18 (.head _)) 0 rfl _ (KB.refl No _))) ?_
    refine WL.lv rfl (LV.asg rfl) ?_
    refine WL.nil (thenQ.n ?_)
    refine WC.ret (?_)
    have hS19 : SH w No w6 [rowE eE 39 (.slice A5 rows2.length c5) (rows2.map (fun p : ED × List Ln => p.1)), insE (fun p : ED => p.2) eL 41 rows2] := (SH.take 2 rfl (SH.front [insE (fun p : ED => p.2) eL 41 rows2, blkE b1 66 #[(.slice A5 rows2.length c5), (.slice none 0 0)]] (SH.front [blkE b1 66 #[(.slice A5 rows2.length c5), (.slice none 0 0)], rowE eE 39 (.slice A5 rows2.length c5) (rows2.map (fun p : ED × List Ln => p.1))] hS18)))
    exact ⟨_, fun a ha => res1 rfl ha rfl, _, _, _, rfl, (by rw [hadd1.1]; unfold normP; rw [scr_all (by omega)] at q2; rw [← q2]), hS19⟩

end Go.Proofs.Ytjmfoifohneanaa
