/- An edit is taken. -/
import Derived.Test.YtjmfoifohneanaaScE
namespace Go.Proofs.Ytjmfoifohneanaa
open Go Go.Gv Go.RowKit Go.Mys Go.Num Go.Scr
set_option linter.unusedVariables false
set_option linter.unusedSimpArgs false

set_option maxHeartbeats 1000000 in
theorem take_calls {w : World} {S : Nat → Prop} {rb : Nat} {A Aw A0 : Option Addr} {c cw c0 : Nat} {do_ : Int} {l : List Ln} {rows : List (ED × List Ln)} {wait : List Ln} (hS0 : SH w S w [blkE rb 66 #[(.slice A rows.length c), (.slice Aw wait.length cw)], rowE eE 39 (.slice A rows.length c) (rows.map (fun p : ED × List Ln => p.1)), insE (fun p : ED => p.2) eL 41 rows, rowE eL 41 (.slice Aw wait.length cw) wait]) (h1 : rows.length ≤ 5000) (ht : tot (scr rows) + wait.length ≤ 900) (hl : St S w (Rd eL (.slice A0 l.length c0) l)) (hll : tot (scr rows) + wait.length + l.length ≤ 900) :
    Calls Try.prog 42 #[(.pointer (some ⟨rb, 0, none⟩)), (.agg #[(.int .i64 do_), (.slice A0 l.length c0)])] w fun e w' => ∃ v, e = .returned v ∧ (fun v w' => ∃ A' c' rows' Aw' cw' wait', v = .tuple #[] ∧ (scr rows', wait') = takeS (scr rows, wait) (do_, l) ∧ rows'.length ≤ rows.length + 2 ∧ SH w S w' [blkE rb 66 #[(.slice A' rows'.length c'), (.slice Aw' wait'.length cw')], rowE eE 39 (.slice A' rows'.length c') (rows'.map (fun p : ED × List Ln => p.1)), insE (fun p : ED => p.2) eL 41 rows', rowE eL 41 (.slice Aw' wait'.length cw') wait']) v w' := by
  have hS : SH w S w [blkE rb 66 #[(.slice A rows.length c), (.slice Aw wait.length cw)], rowE eE 39 (.slice A rows.length c) (rows.map (fun p : ED × List Ln => p.1)), insE (fun p : ED => p.2) eL 41 rows, rowE eL 41 (.slice Aw wait.length cw) wait] := hS0
  refine calls (l := litOf [(.pointer (some ⟨rb, 0, none⟩)), (.agg #[(.int .i64 do_), (.slice A0 l.length c0)])] 0) Try.func42 rfl (n := 32) rfl (Nat.le_of_ble_eq_true rfl) (lit_args _) ?_
  refine WC.seq ?_
  refine WC.region ?_
  refine WL.xe rfl (XE.box #[(.int .i64 do_), (.slice A0 l.length c0)] hS rfl rfl) ?_
  rintro _ w1 ⟨b1, rfl, hS1, hk1⟩
  refine WL.nil (thenQ.n ?_)
  refine WC.seq ?_
  refine WC.region ?_
  refine WL.lv rfl (LV.fieldA Try.underlying39 rfl ti37.sz rfl) ?_
  refine WL.lv rfl (LV.load1 Try.underlying37 rfl rfl (Blk.cellN (SH.at hS1 (.head _)) 0 rfl _ (KB.refl No _))) ?_
  refine WL.nil (thenQ.n ?_)
  refine WC.block ?_
  refine WC.seq ?_
  refine WC.block ?_
  refine WC.seq ?_
  refine WC.block ?_
  refine WC.seq ?_
  refine WC.block ?_
  iterate 3 refine WC.seq ?_
  refine WC.region ?_
  refine WL.lv rfl (LV.eqI rfl rfl) ?_
  refine WL.lv rfl (LV.asg rfl) ?_
  refine WL.nil (thenQ.n ?_)
  refine WC.condP (p := do_ = 3) rfl (fun hc1 => ?_) (fun hc1 => ?_)
  · skip
    refine WC.exit (thenQ.x <| thenQ.x <| blockQ.hit <| thenQ.n ?_)
    refine WC.seq ?_
    have hS2 := SH.drew hS1
    refine WC.regionD [7, 10] (fun w_ => KB No w1.drew w_) [(.pure, 0), (.pure, 1), (.pure, 2), (.pure, 3), (.look, 4), (.pure, 5), (.look, 6), (.forced, 7), (.pure, 8), (.pure, 9), (.forced, 10)] (by kernel_rfl) (by kernel_rfl) (KB.refl _ _) ?_
    iterate 2 refine WS.pure rfl rfl (fun _ => LV.mv rfl) ?_
    refine WS.pure rfl rfl (fun _ => LV.nilCheck rfl) ?_
    refine WS.pure rfl rfl (fun _ => LV.fieldA Try.underlying66 rfl ti22.sz rfl) ?_
    refine WS.look rfl rfl (fun _ hk_ => LV.load1 Try.underlying22 rfl rfl (Blk.cellN (SH.at hS2 (.tail _ (.head _))) 1 rfl _ hk_)) ?_
    refine WS.pure rfl rfl (fun _ => LV.fieldA Try.underlying39 rfl ti22.sz rfl) ?_
    refine WS.look rfl rfl (fun _ hk_ => LV.load1 Try.underlying22 rfl rfl (Blk.cellN (SH.at hS2 (.head _)) 1 rfl _ hk_)) ?_
    have hS3 : SH w S w1.drew [rowE eL 41 (.slice Aw wait.length cw) wait, blkE b1 39 #[(.int .i64 do_), (.slice A0 l.length c0)], blkE rb 66 #[(.slice A rows.length c), (.slice Aw wait.length cw)], rowE eE 39 (.slice A rows.length c) (rows.map (fun p : ED × List Ln => p.1)), insE (fun p : ED => p.2) eL 41 rows] := (SH.front [blkE b1 39 #[(.int .i64 do_), (.slice A0 l.length c0)], blkE rb 66 #[(.slice A rows.length c), (.slice Aw wait.length cw)], rowE eE 39 (.slice A rows.length c) (rows.map (fun p : ED × List Ln => p.1)), insE (fun p : ED => p.2) eL 41 rows] hS2)
    refine WS.xe rfl rfl (XE.append hS3 Try.underlying22 ti41 rfl (St.now (SH.stN hS3 hl)) rfl rfl (by first | omega | simp only [List.length_append, List.length_cons, List.length_nil, List.length_take, List.length_reverse, List.length_drop] at *; omega) (by first | omega | simp only [List.length_append, List.length_cons, List.length_nil, List.length_take, List.length_reverse, List.length_drop] at *; omega)) ?_
    rintro _ w2 ⟨A1, c1, rfl, hS4, hk2⟩
    refine ⟨fun h_ => (by cases h_), ?_⟩
    refine WS.pure rfl rfl (fun _ => LV.nilCheck rfl) ?_
    refine WS.pure rfl rfl (fun _ => LV.fieldA Try.underlying66 rfl ti22.sz rfl) ?_
    have hS6 : SH w S w2 [blkE rb 66 #[(.slice A rows.length c), (.slice Aw wait.length cw)], rowE eL 41 (.slice A1 ((wait ++ l).length) c1) (wait ++ l), blkE b1 39 #[(.int .i64 do_), (.slice A0 l.length c0)], rowE eE 39 (.slice A rows.length c) (rows.map (fun p : ED × List Ln => p.1)), insE (fun p : ED => p.2) eL 41 rows] := (SH.front [rowE eL 41 (.slice A1 ((wait ++ l).length) c1) (wait ++ l), blkE b1 39 #[(.int .i64 do_), (.slice A0 l.length c0)]] hS4)
    refine WS.xse rfl rfl (XSE.blk #[(.slice A rows.length c), (.slice A1 ((wait ++ l).length) c1)] hS6 (Nat.le_of_ble_eq_true rfl) ti22.sz rfl rfl rfl rfl) ?_
    rintro w3 ⟨hS5, hk3⟩
    refine ⟨fun h_ => (by cases h_), ?_⟩
    refine WS.nil (thenQ.n ?_)
    refine WC.exit (blockQ.miss rfl <| thenQ.x <| blockQ.miss rfl <| thenQ.x <| blockQ.hit <| ?_)
    have hS7 : SH w S w3 [blkE rb 66 #[(.slice A rows.length c), (.slice A1 ((wait ++ l).length) c1)], rowE eE 39 (.slice A rows.length c) (rows.map (fun p : ED × List Ln => p.1)), insE (fun p : ED => p.2) eL 41 rows, rowE eL 41 (.slice A1 ((wait ++ l).length) c1) (wait ++ l)] := (SH.take 4 rfl (SH.front [rowE eE 39 (.slice A rows.length c) (rows.map (fun p : ED × List Ln => p.1)), insE (fun p : ED => p.2) eL 41 rows, rowE eL 41 (.slice A1 ((wait ++ l).length) c1) (wait ++ l)] (SH.front [insE (fun p : ED => p.2) eL 41 rows, rowE eL 41 (.slice A1 ((wait ++ l).length) c1) (wait ++ l), blkE rb 66 #[(.slice A rows.length c), (.slice A1 ((wait ++ l).length) c1)], blkE b1 39 #[(.int .i64 do_), (.slice A0 l.length c0)]] (SH.front [rowE eL 41 (.slice A1 ((wait ++ l).length) c1) (wait ++ l), blkE rb 66 #[(.slice A rows.length c), (.slice A1 ((wait ++ l).length) c1)], blkE b1 39 #[(.int .i64 do_), (.slice A0 l.length c0)], rowE eE 39 (.slice A rows.length c) (rows.map (fun p : ED × List Ln => p.1))] (SH.front [blkE rb 66 #[(.slice A rows.length c), (.slice A1 ((wait ++ l).length) c1)]] hS5)))))
    exact ⟨_, fun a ha => res0 rfl, _, _, _, _, _, _, rfl, takeS_in hc1, (by omega), hS7⟩
  · skip
    refine WC.skip (thenQ.n ?_)
    refine WC.seq ?_
    refine WC.region ?_
    refine WL.lv rfl (LV.eqI rfl rfl) ?_
    refine WL.lv rfl (LV.asg rfl) ?_
    refine WL.nil (thenQ.n ?_)
    refine WC.condP (p := do_ = 1) rfl (fun hc2 => ?_) (fun hc2 => ?_)
    · skip
      refine WC.exit (thenQ.x <| blockQ.miss rfl <| thenQ.x <| blockQ.hit <| thenQ.n ?_)
      refine WC.seq ?_
      refine WC.region ?_
      refine WL.lv rfl (LV.fieldA Try.underlying39 rfl ti22.sz rfl) ?_
      refine WL.lv rfl (LV.load1 Try.underlying22 rfl rfl (Blk.cellN (SH.at hS1 (.head _)) 1 rfl _ (KB.refl No _))) ?_
      refine WL.lv rfl (LV.lenL Try.underlying22 rfl) ?_
      refine WL.lv rfl (LV.gtI rfl rfl) ?_
      refine WL.nil (thenQ.n ?_)
      refine WC.condP (p := (l.length : Int) > 0) rfl (fun hc3 => ?_) (fun hc3 => ?_)
      · skip
        refine WC.region ?_
        refine WL.lv rfl (LV.mv rfl) ?_
        have hS8 : SH w S w1 [rowE eL 41 (.slice Aw wait.length cw) wait, blkE b1 39 #[(.int .i64 do_), (.slice A0 l.length c0)], blkE rb 66 #[(.slice A rows.length c), (.slice Aw wait.length cw)], rowE eE 39 (.slice A rows.length c) (rows.map (fun p : ED × List Ln => p.1)), insE (fun p : ED => p.2) eL 41 rows] := (SH.front [blkE b1 39 #[(.int .i64 do_), (.slice A0 l.length c0)], blkE rb 66 #[(.slice A rows.length c), (.slice Aw wait.length cw)], rowE eE 39 (.slice A rows.length c) (rows.map (fun p : ED × List Ln => p.1)), insE (fun p : ED => p.2) eL 41 rows] hS1)
        have hS9 : SH w S w1 [insE (fun p : ED => p.2) eL 41 rows, rowE eL 41 (.slice Aw wait.length cw) wait, blkE b1 39 #[(.int .i64 do_), (.slice A0 l.length c0)], blkE rb 66 #[(.slice A rows.length c), (.slice Aw wait.length cw)], rowE eE 39 (.slice A rows.length c) (rows.map (fun p : ED × List Ln => p.1))] := (SH.front [rowE eL 41 (.slice Aw wait.length cw) wait, blkE b1 39 #[(.int .i64 do_), (.slice A0 l.length c0)], blkE rb 66 #[(.slice A rows.length c), (.slice Aw wait.length cw)], rowE eE 39 (.slice A rows.length c) (rows.map (fun p : ED × List Ln => p.1))] hS8)
        have hS10 : SH w S w1 [rowE eE 39 (.slice A rows.length c) (rows.map (fun p : ED × List Ln => p.1)), insE (fun p : ED => p.2) eL 41 rows, rowE eL 41 (.slice Aw wait.length cw) wait, blkE b1 39 #[(.int .i64 do_), (.slice A0 l.length c0)], blkE rb 66 #[(.slice A rows.length c), (.slice Aw wait.length cw)]] := (SH.front [insE (fun p : ED => p.2) eL 41 rows, rowE eL 41 (.slice Aw wait.length cw) wait, blkE b1 39 #[(.int .i64 do_), (.slice A0 l.length c0)], blkE rb 66 #[(.slice A rows.length c), (.slice Aw wait.length cw)]] hS9)
        have hS11 : SH w S w1 [blkE rb 66 #[(.slice A rows.length c), (.slice Aw wait.length cw)], rowE eE 39 (.slice A rows.length c) (rows.map (fun p : ED × List Ln => p.1)), insE (fun p : ED => p.2) eL 41 rows, rowE eL 41 (.slice Aw wait.length cw) wait, blkE b1 39 #[(.int .i64 do_), (.slice A0 l.length c0)]] := (SH.front [rowE eE 39 (.slice A rows.length c) (rows.map (fun p : ED × List Ln => p.1)), insE (fun p : ED => p.2) eL 41 rows, rowE eL 41 (.slice Aw wait.length cw) wait, blkE b1 39 #[(.int .i64 do_), (.slice A0 l.length c0)]] hS10)
        have hT1 := SH.sub (Es := [blkE rb 66 #[(.slice A rows.length c), (.slice Aw wait.length cw)], rowE eE 39 (.slice A rows.length c) (rows.map (fun p : ED × List Ln => p.1)), insE (fun p : ED => p.2) eL 41 rows, rowE eL 41 (.slice Aw wait.length cw) wait]) hS11
        refine WL.call rfl (XC.fn Try.func43 (by kernel_rfl) rfl rfl rfl) (flush_calls hT1 (by omega) (by omega)) ?_
        rintro v_ w4 ⟨A2, c2, rows1, rfl, hadd11, hadd12, hU1⟩
        have hadd1 := And.intro hadd11 hadd12
        have htothadd1 := tot_addS (scr rows) 3 wait
        rw [← hadd1.1] at htothadd1
        have hS12 := SH.back (Es := [blkE rb 66 #[(.slice A rows.length c), (.slice Aw wait.length cw)], rowE eE 39 (.slice A rows.length c) (rows.map (fun p : ED × List Ln => p.1)), insE (fun p : ED => p.2) eL 41 rows, rowE eL 41 (.slice Aw wait.length cw) wait]) hS11 hU1
        refine WL.nil (blockQ.n <| thenQ.n ?_)
        refine WC.seq ?_
        refine WC.region ?_
        refine WL.lv rfl (LV.mv rfl) ?_
        refine WL.lv rfl (LV.fieldA Try.underlying39 rfl ti37.sz rfl) ?_
        refine WL.lv rfl (LV.load1 Try.underlying37 rfl rfl (Blk.cellN (SH.at hS12 (.tail _ (.tail _ (.tail _ (.tail _ (.head _)))))) 0 rfl _ (KB.refl No _))) ?_
        refine WL.lv rfl (LV.fieldA Try.underlying39 rfl ti22.sz rfl) ?_
        refine WL.lv rfl (LV.load1 Try.underlying22 rfl rfl (Blk.cellN (SH.at hS12 (.tail _ (.tail _ (.tail _ (.tail _ (.head _)))))) 1 rfl _ (KB.refl No _))) ?_
        have hS13 : SH w S w4 [insE (fun p : ED => p.2) eL 41 rows1, blkE rb 66 #[(.slice A2 rows1.length c2), (.slice none 0 0)], rowE eE 39 (.slice A2 rows1.length c2) (rows1.map (fun p : ED × List Ln => p.1)), rowE eL 41 (.slice none 0 0) [], blkE b1 39 #[(.int .i64 do_), (.slice A0 l.length c0)]] := (SH.front [blkE rb 66 #[(.slice A2 rows1.length c2), (.slice none 0 0)], rowE eE 39 (.slice A2 rows1.length c2) (rows1.map (fun p : ED × List Ln => p.1))] hS12)
        have hS14 : SH w S w4 [rowE eE 39 (.slice A2 rows1.length c2) (rows1.map (fun p : ED × List Ln => p.1)), insE (fun p : ED => p.2) eL 41 rows1, blkE rb 66 #[(.slice A2 rows1.length c2), (.slice none 0 0)], rowE eL 41 (.slice none 0 0) [], blkE b1 39 #[(.int .i64 do_), (.slice A0 l.length c0)]] := (SH.front [insE (fun p : ED => p.2) eL 41 rows1, blkE rb 66 #[(.slice A2 rows1.length c2), (.slice none 0 0)]] hS13)
        have hS15 : SH w S w4 [blkE rb 66 #[(.slice A2 rows1.length c2), (.slice none 0 0)], rowE eE 39 (.slice A2 rows1.length c2) (rows1.map (fun p : ED × List Ln => p.1)), insE (fun p : ED => p.2) eL 41 rows1, rowE eL 41 (.slice none 0 0) [], blkE b1 39 #[(.int .i64 do_), (.slice A0 l.length c0)]] := (SH.front [rowE eE 39 (.slice A2 rows1.length c2) (rows1.map (fun p : ED × List Ln => p.1)), insE (fun p : ED => p.2) eL 41 rows1] hS14)
        have hT2 := SH.sub (Es := [blkE rb 66 #[(.slice A2 rows1.length c2), (.slice none 0 0)], rowE eE 39 (.slice A2 rows1.length c2) (rows1.map (fun p : ED × List Ln => p.1)), insE (fun p : ED => p.2) eL 41 rows1]) hS15
        refine WL.call rfl (XC.fn Try.func51 (by kernel_rfl) rfl rfl rfl) (add_calls (do_ := do_) hT2 (SH.stA (Es := [blkE rb 66 #[(.slice A2 rows1.length c2), (.slice none 0 0)], rowE eE 39 (.slice A2 rows1.length c2) (rows1.map (fun p : ED × List Ln => p.1)), insE (fun p : ED => p.2) eL 41 rows1]) hS15 hl) (by omega) (by omega) (fun p hp => Nat.le_trans (tot_mem hp) (by omega))) ?_
        rintro v_ w5 ⟨A3, c3, rows2, rfl, hadd21, hadd22, hU2⟩
        have hadd2 := And.intro hadd21 hadd22
        have htothadd2 := tot_addS (scr rows1) do_ l
        rw [← hadd2.1] at htothadd2
        have hS16 := SH.back (Es := [blkE rb 66 #[(.slice A2 rows1.length c2), (.slice none 0 0)], rowE eE 39 (.slice A2 rows1.length c2) (rows1.map (fun p : ED × List Ln => p.1)), insE (fun p : ED => p.2) eL 41 rows1]) hS15 hU2
        refine WL.nil (thenQ.n ?_)
        refine WC.exit (blockQ.hit <| ?_)
        have hS17 : SH w S w5 [blkE rb 66 #[(.slice A3 rows2.length c3), (.slice none 0 0)], rowE eE 39 (.slice A3 rows2.length c3) (rows2.map (fun p : ED × List Ln => p.1)), insE (fun p : ED => p.2) eL 41 rows2, rowE eL 41 (.slice none 0 0) []] := (SH.take 4 rfl (SH.front [rowE eE 39 (.slice A3 rows2.length c3) (rows2.map (fun p : ED × List Ln => p.1)), insE (fun p : ED => p.2) eL 41 rows2, rowE eL 41 (.slice none 0 0) []] (SH.front [insE (fun p : ED => p.2) eL 41 rows2, rowE eL 41 (.slice none 0 0) [], blkE rb 66 #[(.slice A3 rows2.length c3), (.slice none 0 0)]] (SH.front [rowE eL 41 (.slice none 0 0) [], blkE rb 66 #[(.slice A3 rows2.length c3), (.slice none 0 0)], rowE eE 39 (.slice A3 rows2.length c3) (rows2.map (fun p : ED × List Ln => p.1))] (SH.front [blkE rb 66 #[(.slice A3 rows2.length c3), (.slice none 0 0)], rowE eE 39 (.slice A3 rows2.length c3) (rows2.map (fun p : ED × List Ln => p.1)), insE (fun p : ED => p.2) eL 41 rows2] hS16)))))
        exact ⟨_, fun a ha => res0 rfl, _, _, _, _, _, _, rfl, (by rw [hadd2.1, hadd1.1]; exact takeS_keep hc2 (by omega)), (by omega), hS17⟩
      · skip
        refine WC.skip (blockQ.n <| thenQ.n ?_)
        refine WC.seq ?_
        refine WC.region ?_
        refine WL.lv rfl (LV.mv rfl) ?_
        refine WL.lv rfl (LV.fieldA Try.underlying39 rfl ti37.sz rfl) ?_
        refine WL.lv rfl (LV.load1 Try.underlying37 rfl rfl (Blk.cellN (SH.at hS1 (.head _)) 0 rfl _ (KB.refl No _))) ?_
        refine WL.lv rfl (LV.fieldA Try.underlying39 rfl ti22.sz rfl) ?_
        refine WL.lv rfl (LV.load1 Try.underlying22 rfl rfl (Blk.cellN (SH.at hS1 (.head _)) 1 rfl _ (KB.refl No _))) ?_
        have hS18 : SH w S w1 [insE (fun p : ED => p.2) eL 41 rows, blkE b1 39 #[(.int .i64 do_), (.slice A0 l.length c0)], blkE rb 66 #[(.slice A rows.length c), (.slice Aw wait.length cw)], rowE eE 39 (.slice A rows.length c) (rows.map (fun p : ED × List Ln => p.1)), rowE eL 41 (.slice Aw wait.length cw) wait] := (SH.front [blkE b1 39 #[(.int .i64 do_), (.slice A0 l.length c0)], blkE rb 66 #[(.slice A rows.length c), (.slice Aw wait.length cw)], rowE eE 39 (.slice A rows.length c) (rows.map (fun p : ED × List Ln => p.1))] hS1)
        have hS19 : SH w S w1 [rowE eE 39 (.slice A rows.length c) (rows.map (fun p : ED × List Ln => p.1)), insE (fun p : ED => p.2) eL 41 rows, blkE b1 39 #[(.int .i64 do_), (.slice A0 l.length c0)], blkE rb 66 #[(.slice A rows.length c), (.slice Aw wait.length cw)], rowE eL 41 (.slice Aw wait.length cw) wait] := (SH.front [insE (fun p : ED => p.2) eL 41 rows, blkE b1 39 #[(.int .i64 do_), (.slice A0 l.length c0)], blkE rb 66 #[(.slice A rows.length c), (.slice Aw wait.length cw)]] hS18)
        have hS20 : SH w S w1 [blkE rb 66 #[(.slice A rows.length c), (.slice Aw wait.length cw)], rowE eE 39 (.slice A rows.length c) (rows.map (fun p : ED × List Ln => p.1)), insE (fun p : ED => p.2) eL 41 rows, blkE b1 39 #[(.int .i64 do_), (.slice A0 l.length c0)], rowE eL 41 (.slice Aw wait.length cw) wait] := (SH.front [rowE eE 39 (.slice A rows.length c) (rows.map (fun p : ED × List Ln => p.1)), insE (fun p : ED => p.2) eL 41 rows, blkE b1 39 #[(.int .i64 do_), (.slice A0 l.length c0)]] hS19)
        have hT3 := SH.sub (Es := [blkE rb 66 #[(.slice A rows.length c), (.slice Aw wait.length cw)], rowE eE 39 (.slice A rows.length c) (rows.map (fun p : ED × List Ln => p.1)), insE (fun p : ED => p.2) eL 41 rows]) hS20
        refine WL.call rfl (XC.fn Try.func51 (by kernel_rfl) rfl rfl rfl) (add_calls (do_ := do_) hT3 (SH.stA (Es := [blkE rb 66 #[(.slice A rows.length c), (.slice Aw wait.length cw)], rowE eE 39 (.slice A rows.length c) (rows.map (fun p : ED × List Ln => p.1)), insE (fun p : ED => p.2) eL 41 rows]) hS20 hl) (by omega) (by omega) (fun p hp => Nat.le_trans (tot_mem hp) (by omega))) ?_
        rintro v_ w6 ⟨A4, c4, rows3, rfl, hadd31, hadd32, hU3⟩
        have hadd3 := And.intro hadd31 hadd32
        have htothadd3 := tot_addS (scr rows) do_ l
        rw [← hadd3.1] at htothadd3
        have hS21 := SH.back (Es := [blkE rb 66 #[(.slice A rows.length c), (.slice Aw wait.length cw)], rowE eE 39 (.slice A rows.length c) (rows.map (fun p : ED × List Ln => p.1)), insE (fun p : ED => p.2) eL 41 rows]) hS20 hU3
        refine WL.nil (thenQ.n ?_)
        refine WC.exit (blockQ.hit <| ?_)
        have hS22 : SH w S w6 [blkE rb 66 #[(.slice A4 rows3.length c4), (.slice Aw wait.length cw)], rowE eE 39 (.slice A4 rows3.length c4) (rows3.map (fun p : ED × List Ln => p.1)), insE (fun p : ED => p.2) eL 41 rows3, rowE eL 41 (.slice Aw wait.length cw) wait] := (SH.take 4 rfl (SH.front [rowE eE 39 (.slice A4 rows3.length c4) (rows3.map (fun p : ED × List Ln => p.1)), insE (fun p : ED => p.2) eL 41 rows3, rowE eL 41 (.slice Aw wait.length cw) wait] (SH.front [insE (fun p : ED => p.2) eL 41 rows3, rowE eL 41 (.slice Aw wait.length cw) wait, blkE rb 66 #[(.slice A4 rows3.length c4), (.slice Aw wait.length cw)]] (SH.front [rowE eL 41 (.slice Aw wait.length cw) wait, blkE rb 66 #[(.slice A4 rows3.length c4), (.slice Aw wait.length cw)], rowE eE 39 (.slice A4 rows3.length c4) (rows3.map (fun p : ED × List Ln => p.1))] (SH.front [blkE rb 66 #[(.slice A4 rows3.length c4), (.slice Aw wait.length cw)], rowE eE 39 (.slice A4 rows3.length c4) (rows3.map (fun p : ED × List Ln => p.1)), insE (fun p : ED => p.2) eL 41 rows3, blkE b1 39 #[(.int .i64 do_), (.slice A0 l.length c0)]] hS21)))))
        exact ⟨_, fun a ha => res0 rfl, _, _, _, _, _, _, rfl, (by rw [hadd3.1]; exact takeS_out (by omega) (by omega)), (by omega), hS22⟩
    · skip
      refine WC.skip (thenQ.n ?_)
      refine WC.exit (blockQ.miss rfl <| thenQ.x <| blockQ.miss rfl <| thenQ.x <| blockQ.hit <| thenQ.n ?_)
      refine WC.seq ?_
      refine WC.region ?_
      refine WL.lv rfl (LV.mv rfl) ?_
      refine WL.lv rfl (LV.fieldA Try.underlying39 rfl ti37.sz rfl) ?_
      refine WL.lv rfl (LV.load1 Try.underlying37 rfl rfl (Blk.cellN (SH.at hS1 (.head _)) 0 rfl _ (KB.refl No _))) ?_
      refine WL.lv rfl (LV.fieldA Try.underlying39 rfl ti22.sz rfl) ?_
      refine WL.lv rfl (LV.load1 Try.underlying22 rfl rfl (Blk.cellN (SH.at hS1 (.head _)) 1 rfl _ (KB.refl No _))) ?_
      have hS23 : SH w S w1 [insE (fun p : ED => p.2) eL 41 rows, blkE b1 39 #[(.int .i64 do_), (.slice A0 l.length c0)], blkE rb 66 #[(.slice A rows.length c), (.slice Aw wait.length cw)], rowE eE 39 (.slice A rows.length c) (rows.map (fun p : ED × List Ln => p.1)), rowE eL 41 (.slice Aw wait.length cw) wait] := (SH.front [blkE b1 39 #[(.int .i64 do_), (.slice A0 l.length c0)], blkE rb 66 #[(.slice A rows.length c), (.slice Aw wait.length cw)], rowE eE 39 (.slice A rows.length c) (rows.map (fun p : ED × List Ln => p.1))] hS1)
      have hS24 : SH w S w1 [rowE eE 39 (.slice A rows.length c) (rows.map (fun p : ED × List Ln => p.1)), insE (fun p : ED => p.2) eL 41 rows, blkE b1 39 #[(.int .i64 do_), (.slice A0 l.length c0)], blkE rb 66 #[(.slice A rows.length c), (.slice Aw wait.length cw)], rowE eL 41 (.slice Aw wait.length cw) wait] := (SH.front [insE (fun p : ED => p.2) eL 41 rows, blkE b1 39 #[(.int .i64 do_), (.slice A0 l.length c0)], blkE rb 66 #[(.slice A rows.length c), (.slice Aw wait.length cw)]] hS23)
      have hS25 : SH w S w1 [blkE rb 66 #[(.slice A rows.length c), (.slice Aw wait.length cw)], rowE eE 39 (.slice A rows.length c) (rows.map (fun p : ED × List Ln => p.1)), insE (fun p : ED => p.2) eL 41 rows, blkE b1 39 #[(.int .i64 do_), (.slice A0 l.length c0)], rowE eL 41 (.slice Aw wait.length cw) wait] := (SH.front [rowE eE 39 (.slice A rows.length c) (rows.map (fun p : ED × List Ln => p.1)), insE (fun p : ED => p.2) eL 41 rows, blkE b1 39 #[(.int .i64 do_), (.slice A0 l.length c0)]] hS24)
      have hT4 := SH.sub (Es := [blkE rb 66 #[(.slice A rows.length c), (.slice Aw wait.length cw)], rowE eE 39 (.slice A rows.length c) (rows.map (fun p : ED × List Ln => p.1)), insE (fun p : ED => p.2) eL 41 rows]) hS25
      refine WL.call rfl (XC.fn Try.func51 (by kernel_rfl) rfl rfl rfl) (add_calls (do_ := do_) hT4 (SH.stA (Es := [blkE rb 66 #[(.slice A rows.length c), (.slice Aw wait.length cw)], rowE eE 39 (.slice A rows.length c) (rows.map (fun p : ED × List Ln => p.1)), insE (fun p : ED => p.2) eL 41 rows]) hS25 hl) (by omega) (by omega) (fun p hp => Nat.le_trans (tot_mem hp) (by omega))) ?_
      rintro v_ w7 ⟨A5, c5, rows4, rfl, hadd41, hadd42, hU4⟩
      have hadd4 := And.intro hadd41 hadd42
      have htothadd4 := tot_addS (scr rows) do_ l
      rw [← hadd4.1] at htothadd4
      have hS26 := SH.back (Es := [blkE rb 66 #[(.slice A rows.length c), (.slice Aw wait.length cw)], rowE eE 39 (.slice A rows.length c) (rows.map (fun p : ED × List Ln => p.1)), insE (fun p : ED => p.2) eL 41 rows]) hS25 hU4
      refine WL.nil (thenQ.n ?_)
      refine WC.exit (blockQ.hit <| ?_)
      have hS27 : SH w S w7 [blkE rb 66 #[(.slice A5 rows4.length c5), (.slice Aw wait.length cw)], rowE eE 39 (.slice A5 rows4.length c5) (rows4.map (fun p : ED × List Ln => p.1)), insE (fun p : ED => p.2) eL 41 rows4, rowE eL 41 (.slice Aw wait.length cw) wait] := (SH.take 4 rfl (SH.front [rowE eE 39 (.slice A5 rows4.length c5) (rows4.map (fun p : ED × List Ln => p.1)), insE (fun p : ED => p.2) eL 41 rows4, rowE eL 41 (.slice Aw wait.length cw) wait] (SH.front [insE (fun p : ED => p.2) eL 41 rows4, rowE eL 41 (.slice Aw wait.length cw) wait, blkE rb 66 #[(.slice A5 rows4.length c5), (.slice Aw wait.length cw)]] (SH.front [rowE eL 41 (.slice Aw wait.length cw) wait, blkE rb 66 #[(.slice A5 rows4.length c5), (.slice Aw wait.length cw)], rowE eE 39 (.slice A5 rows4.length c5) (rows4.map (fun p : ED × List Ln => p.1))] (SH.front [blkE rb 66 #[(.slice A5 rows4.length c5), (.slice Aw wait.length cw)], rowE eE 39 (.slice A5 rows4.length c5) (rows4.map (fun p : ED × List Ln => p.1)), insE (fun p : ED => p.2) eL 41 rows4, blkE b1 39 #[(.int .i64 do_), (.slice A0 l.length c0)]] hS26)))))
      exact ⟨_, fun a ha => res0 rfl, _, _, _, _, _, _, rfl, (by rw [hadd4.1]; exact takeS_out (by omega) (by omega)), (by omega), hS27⟩

end Go.Proofs.Ytjmfoifohneanaa
