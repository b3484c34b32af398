/- Both sides of a script. -/
import Derived.Test.YtjmfoifohneanaaScB
namespace Go.Proofs.Ytjmfoifohneanaa
open Go Go.Gv Go.RowKit Go.Mys Go.Num Go.Scr
set_option linter.unusedVariables false
set_option linter.unusedSimpArgs false

theorem sides_calls {w : World} {A0 : Option Addr} {c0 : Nat} {inp : List (ED × List Ln)} (hi : St No w (Rd eE (.slice A0 inp.length c0) (inp.map (·.1)))) (hin : St No w (RdIn (·.2) eL inp)) (ht : tot (scr inp) ≤ 800) :
    Calls Try.prog 34 #[(.slice A0 inp.length c0)] w fun e w' => ∃ v, e = .returned v ∧ (fun v w' => ∃ A1 c1 A2 c2, v = .tuple #[.slice A1 (sA (scr inp)).length c1, .slice A2 (sB (scr inp)).length c2] ∧ SH w No w' [rowE eL 41 (.slice A1 (sA (scr inp)).length c1) (sA (scr inp)), rowE eL 41 (.slice A2 (sB (scr inp)).length c2) (sB (scr inp))]) v w' := by
  have hma := by have hmx_ := Rd.max hi.now; simpa using hmx_
  have hS : SH w No w [] := SH.nil _ _
  refine calls (l := litOf [(.slice A0 inp.length c0)] 0) Try.func34 rfl (n := 33) rfl (Nat.le_of_ble_eq_true rfl) (lit_args _) ?_
  refine WC.seq ?_
  refine WC.region ?_
  iterate 2 refine WL.lv rfl (LV.asg rfl) ?_
  refine WL.nil (thenQ.n ?_)
  iterate 2 refine WC.seq ?_
  refine WC.region ?_
  have hS1 := SH.nilRow (E := eL) (T := 41) hS
  have hS2 := SH.nilRow (E := eL) (T := 41) hS1
  refine WL.lv rfl (LV.mv rfl) ?_
  refine WL.lv rfl (LV.lenL Try.underlying24 rfl) ?_
  refine WL.lv rfl (LV.mv rfl) ?_
  refine WL.nil (thenQ.n ?_)
  refine WC.block ?_
  refine WC.loop (fun m_ f_ w_ => ∃ (i : Int) (Aa Ab : Option Addr) (ca cb : Nat) (la lb : List Ln), (0 ≤ i) ∧ (i ≤ inp.length) ∧ (la = sA ((scr inp).take i.toNat)) ∧ (lb = sB ((scr inp).take i.toNat)) ∧ SH w No w_ [rowE eL 41 (.slice Aa la.length ca) la, rowE eL 41 (.slice Ab lb.length cb) lb] ∧ m_ = (((inp.length : Int) - i).toNat) ∧ Weak (lit [(0, (.slice A0 inp.length c0)), (2, (.slice Aa la.length ca)), (3, (.slice Ab lb.length cb)), (6, (.slice A0 inp.length c0)), (7, (.int .i64 (inp.length : Int))), (8, (.int .i64 i))]) f_) _ ⟨0, none, none, 0, 0, [], [], by omega, by omega, rfl, rfl, hS2, rfl, Weak.cons rfl <| Weak.cons rfl <| Weak.cons rfl <| Weak.cons rfl <| Weak.cons rfl <| Weak.cons rfl <| Weak.nil _⟩ ?_
  rintro m1 f1 w1 ⟨i, Aa, Ab, ca, cb, la, lb, q0, q1, q2, q3, hL1, rfl, hw1⟩
  refine WC.weak hw1 ?_
  clear hw1
  have hla_ : la.length ≤ tot ((scr inp).take i.toNat) := q2 ▸ sA_len _
  have hlb_ : lb.length ≤ tot ((scr inp).take i.toNat) := q3 ▸ sB_len _
  refine WC.seq ?_
  refine WC.region ?_
  refine WL.lv rfl (LV.ltI rfl rfl) ?_
  refine WL.nil (thenQ.n ?_)
  refine WC.seq ?_
  refine WC.condP (p := i < (inp.length : Int)) rfl (fun h9 => ?_) (fun h9 => ?_)
  · have htl_ := tot_more q0 h9
    have htt_ := tot_take (scr inp) (i + 1).toNat
    refine WC.skip (thenQ.n ?_)
    refine WC.seq ?_
    refine WC.block ?_
    refine WC.seq ?_
    refine WC.region ?_
    obtain ⟨A1, c1, A2, c2, e1, g1, e2, r1⟩ := St.eltE (SH.stN hL1 hi) (SH.stN hL1 hin) default i (by omega) (by omega)
    refine WL.lv rfl (LV.idxA Try.underlying24 ti39.sz rfl e1 rfl (by omega) (by omega)) ?_
    refine WL.lv rfl (LV.loadAgg (cs := [(.int .i64 ((inp.getD (i).toNat default).1.1)), (.slice A2 ((inp.getD (i).toNat default).2.length) c2)]) Try.underlying39 rfl ti39 rfl rfl (fun j u hu => g1 _ (KB.refl No _) j u hu)) ?_
    refine WL.xe rfl (XE.alloc #[(.int .i64 0), (.slice none 0 0)] hL1 ti39 rfl) ?_
    rintro _ w2 ⟨b1, rfl, hS3, hk1⟩
    refine WL.xse rfl (XSE.blkAgg #[(.int .i64 ((inp.getD (i).toNat default).1.1)), (.slice A2 ((inp.getD (i).toNat default).2.length) c2)] hS3 (by kernel_rfl) rfl (by kernel_rfl) rfl rfl) ?_
    rintro w3 ⟨hS4, hk2⟩
    refine WL.nil (thenQ.n ?_)
    refine WC.seq ?_
    refine WC.region ?_
    refine WL.lv rfl (LV.fieldA Try.underlying39 rfl ti37.sz rfl) ?_
    refine WL.lv rfl (LV.load1 Try.underlying37 rfl rfl (Blk.cellN (SH.at hS4 (.head _)) 0 rfl _ (KB.refl No _))) ?_
    refine WL.nil (thenQ.n ?_)
    refine WC.block ?_
    refine WC.seq ?_
    refine WC.block ?_
    refine WC.seq ?_
    refine WC.block ?_
    refine WC.seq ?_
    refine WC.block ?_
    iterate 3 refine WC.seq ?_
    refine WC.region ?_
    refine WL.lv rfl (LV.eqI rfl rfl) ?_
    refine WL.lv rfl (LV.asg rfl) ?_
    refine WL.nil (thenQ.n ?_)
    refine WC.condP (p := ((inp.getD (i).toNat default).1.1) = 1) rfl (fun hc1 => ?_) (fun hc1 => ?_)
    · skip
      refine WC.exit (thenQ.x <| thenQ.x <| blockQ.hit <| thenQ.n ?_)
      refine WC.region ?_
      refine WL.lv rfl (LV.mv rfl) ?_
      refine WL.lv rfl (LV.fieldA Try.underlying39 rfl ti22.sz rfl) ?_
      refine WL.lv rfl (LV.load1 Try.underlying22 rfl rfl (Blk.cellN (SH.at hS4 (.head _)) 1 rfl _ (KB.refl No _))) ?_
      have hS5 : SH w No w3 [rowE eL 41 (.slice Ab lb.length cb) lb, blkE b1 39 #[(.int .i64 ((inp.getD (i).toNat default).1.1)), (.slice A2 ((inp.getD (i).toNat default).2.length) c2)], rowE eL 41 (.slice Aa la.length ca) la] := (SH.front [blkE b1 39 #[(.int .i64 ((inp.getD (i).toNat default).1.1)), (.slice A2 ((inp.getD (i).toNat default).2.length) c2)], rowE eL 41 (.slice Aa la.length ca) la] hS4)
      refine WL.xe rfl (XE.append hS5 Try.underlying22 ti41 rfl (St.now (St.innerQ (SH.stN hS5 hin) (getD_mem (by omega)) e2)) rfl rfl (by first | omega | simp only [List.length_append, List.length_cons, List.length_nil, List.length_take, List.length_reverse, List.length_drop] at *; omega) (by first | omega | simp only [List.length_append, List.length_cons, List.length_nil, List.length_take, List.length_reverse, List.length_drop] at *; omega)) ?_
      rintro _ w4 ⟨A3, c3, rfl, hS6, hk3⟩
      refine WL.lv rfl (LV.asg rfl) ?_
      refine WL.nil (blockQ.n <| thenQ.n ?_)
      refine WC.seq ?_
      refine WC.region ?_
      refine WL.lv rfl (LV.mv rfl) ?_
      refine WL.lv rfl (LV.fieldA Try.underlying39 rfl ti22.sz rfl) ?_
      refine WL.lv rfl (LV.load1 Try.underlying22 rfl rfl (Blk.cellN (SH.at hS6 (.tail _ (.head _))) 1 rfl _ (KB.refl No _))) ?_
      have hS7 : SH w No w4 [rowE eL 41 (.slice Aa la.length ca) la, rowE eL 41 (.slice A3 ((lb ++ ((inp.getD (i).toNat default).2)).length) c3) (lb ++ ((inp.getD (i).toNat default).2)), blkE b1 39 #[(.int .i64 ((inp.getD (i).toNat default).1.1)), (.slice A2 ((inp.getD (i).toNat default).2.length) c2)]] := (SH.front [rowE eL 41 (.slice A3 ((lb ++ ((inp.getD (i).toNat default).2)).length) c3) (lb ++ ((inp.getD (i).toNat default).2)), blkE b1 39 #[(.int .i64 ((inp.getD (i).toNat default).1.1)), (.slice A2 ((inp.getD (i).toNat default).2.length) c2)]] hS6)
      refine WL.xe rfl (XE.append hS7 Try.underlying22 ti41 rfl (St.now (St.innerQ (SH.stN hS7 hin) (getD_mem (by omega)) e2)) rfl rfl (by first | omega | simp only [List.length_append, List.length_cons, List.length_nil, List.length_take, List.length_reverse, List.length_drop] at *; omega) (by first | omega | simp only [List.length_append, List.length_cons, List.length_nil, List.length_take, List.length_reverse, List.length_drop] at *; omega)) ?_
      rintro _ w5 ⟨A4, c4, rfl, hS8, hk4⟩
      refine WL.lv rfl (LV.asg rfl) ?_
      refine WL.nil (thenQ.n ?_)
      refine WC.exit (blockQ.miss rfl <| thenQ.x <| blockQ.hit <| blockQ.n <| thenQ.n ?_)
      refine WC.region ?_
      refine WL.lv rfl (LV.add rfl rfl (wr64 (by omega) (by omega))) ?_
      refine WL.lv rfl (LV.mv rfl) ?_
      refine WL.nil (thenQ.n ?_)
      have hS9 : SH w No w5 [rowE eL 41 (.slice A4 ((la ++ ((inp.getD (i).toNat default).2)).length) c4) (la ++ ((inp.getD (i).toNat default).2)), rowE eL 41 (.slice A3 ((lb ++ ((inp.getD (i).toNat default).2)).length) c3) (lb ++ ((inp.getD (i).toNat default).2))] := (SH.take 2 rfl (SH.front [rowE eL 41 (.slice A3 ((lb ++ ((inp.getD (i).toNat default).2)).length) c3) (lb ++ ((inp.getD (i).toNat default).2))] (SH.front [rowE eL 41 (.slice A4 ((la ++ ((inp.getD (i).toNat default).2)).length) c4) (la ++ ((inp.getD (i).toNat default).2))] hS8)))
      exact ⟨_, by omega, i + 1, A4, A3, c4, c3, (la ++ ((inp.getD (i).toNat default).2)), (lb ++ ((inp.getD (i).toNat default).2)), by omega, by omega, (by rw [sA_more q0 h9, ← q2]; first | rw [if_pos (by omega)] | rw [if_neg (by omega)]), (by rw [sB_more q0 h9, ← q3]; first | rw [if_pos (by omega)] | rw [if_neg (by omega)]), hS9, rfl, Weak.cons rfl <| Weak.cons rfl <| Weak.cons rfl <| Weak.cons rfl <| Weak.cons rfl <| Weak.cons rfl <| Weak.nil _⟩
    · skip
      refine WC.skip (thenQ.n ?_)
      refine WC.seq ?_
      refine WC.region ?_
      refine WL.lv rfl (LV.eqI rfl rfl) ?_
      refine WL.lv rfl (LV.asg rfl) ?_
      refine WL.nil (thenQ.n ?_)
      refine WC.condP (p := ((inp.getD (i).toNat default).1.1) = 2) rfl (fun hc2 => ?_) (fun hc2 => ?_)
      · skip
        refine WC.exit (thenQ.x <| blockQ.miss rfl <| thenQ.x <| blockQ.hit <| thenQ.n ?_)
        refine WC.seq ?_
        refine WC.region ?_
        refine WL.lv rfl (LV.mv rfl) ?_
        refine WL.lv rfl (LV.fieldA Try.underlying39 rfl ti22.sz rfl) ?_
        refine WL.lv rfl (LV.load1 Try.underlying22 rfl rfl (Blk.cellN (SH.at hS4 (.head _)) 1 rfl _ (KB.refl No _))) ?_
        have hS10 : SH w No w3 [rowE eL 41 (.slice Aa la.length ca) la, blkE b1 39 #[(.int .i64 ((inp.getD (i).toNat default).1.1)), (.slice A2 ((inp.getD (i).toNat default).2.length) c2)], rowE eL 41 (.slice Ab lb.length cb) lb] := (SH.front [blkE b1 39 #[(.int .i64 ((inp.getD (i).toNat default).1.1)), (.slice A2 ((inp.getD (i).toNat default).2.length) c2)]] hS4)
        refine WL.xe rfl (XE.append hS10 Try.underlying22 ti41 rfl (St.now (St.innerQ (SH.stN hS10 hin) (getD_mem (by omega)) e2)) rfl rfl (by first | omega | simp only [List.length_append, List.length_cons, List.length_nil, List.length_take, List.length_reverse, List.length_drop] at *; omega) (by first | omega | simp only [List.length_append, List.length_cons, List.length_nil, List.length_take, List.length_reverse, List.length_drop] at *; omega)) ?_
        rintro _ w6 ⟨A5, c5, rfl, hS11, hk5⟩
        refine WL.lv rfl (LV.asg rfl) ?_
        refine WL.nil (thenQ.n ?_)
        refine WC.exit (blockQ.miss rfl <| thenQ.x <| blockQ.hit <| blockQ.n <| thenQ.n ?_)
        refine WC.region ?_
        refine WL.lv rfl (LV.add rfl rfl (wr64 (by omega) (by omega))) ?_
        refine WL.lv rfl (LV.mv rfl) ?_
        refine WL.nil (thenQ.n ?_)
        have hS12 : SH w No w6 [rowE eL 41 (.slice A5 ((la ++ ((inp.getD (i).toNat default).2)).length) c5) (la ++ ((inp.getD (i).toNat default).2)), rowE eL 41 (.slice Ab lb.length cb) lb] := (SH.take 2 rfl (SH.front [rowE eL 41 (.slice Ab lb.length cb) lb] (SH.front [rowE eL 41 (.slice A5 ((la ++ ((inp.getD (i).toNat default).2)).length) c5) (la ++ ((inp.getD (i).toNat default).2)), blkE b1 39 #[(.int .i64 ((inp.getD (i).toNat default).1.1)), (.slice A2 ((inp.getD (i).toNat default).2.length) c2)]] hS11)))
        exact ⟨_, by omega, i + 1, A5, Ab, c5, cb, (la ++ ((inp.getD (i).toNat default).2)), lb, by omega, by omega, (by rw [sA_more q0 h9, ← q2]; first | rw [if_pos (by omega)] | rw [if_neg (by omega)]), (by rw [sB_more q0 h9, ← q3]; first | rw [if_pos (by omega), List.append_nil] | rw [if_neg (by omega), List.append_nil]), hS12, rfl, Weak.cons rfl <| Weak.cons rfl <| Weak.cons rfl <| Weak.cons rfl <| Weak.cons rfl <| Weak.cons rfl <| Weak.nil _⟩
      · skip
        refine WC.skip (thenQ.n ?_)
        refine WC.exit (blockQ.miss rfl <| thenQ.x <| blockQ.miss rfl <| thenQ.x <| blockQ.hit <| thenQ.n ?_)
        refine WC.seq ?_
        refine WC.region ?_
        refine WL.lv rfl (LV.mv rfl) ?_
        refine WL.lv rfl (LV.fieldA Try.underlying39 rfl ti22.sz rfl) ?_
        refine WL.lv rfl (LV.load1 Try.underlying22 rfl rfl (Blk.cellN (SH.at hS4 (.head _)) 1 rfl _ (KB.refl No _))) ?_
        have hS13 : SH w No w3 [rowE eL 41 (.slice Ab lb.length cb) lb, blkE b1 39 #[(.int .i64 ((inp.getD (i).toNat default).1.1)), (.slice A2 ((inp.getD (i).toNat default).2.length) c2)], rowE eL 41 (.slice Aa la.length ca) la] := (SH.front [blkE b1 39 #[(.int .i64 ((inp.getD (i).toNat default).1.1)), (.slice A2 ((inp.getD (i).toNat default).2.length) c2)], rowE eL 41 (.slice Aa la.length ca) la] hS4)
        refine WL.xe rfl (XE.append hS13 Try.underlying22 ti41 rfl (St.now (St.innerQ (SH.stN hS13 hin) (getD_mem (by omega)) e2)) rfl rfl (by first | omega | simp only [List.length_append, List.length_cons, List.length_nil, List.length_take, List.length_reverse, List.length_drop] at *; omega) (by first | omega | simp only [List.length_append, List.length_cons, List.length_nil, List.length_take, List.length_reverse, List.length_drop] at *; omega)) ?_
        rintro _ w7 ⟨A6, c6, rfl, hS14, hk6⟩
        refine WL.lv rfl (LV.asg rfl) ?_
        refine WL.nil (thenQ.n ?_)
        refine WC.exit (blockQ.hit <| blockQ.n <| thenQ.n ?_)
        refine WC.region ?_
        refine WL.lv rfl (LV.add rfl rfl (wr64 (by omega) (by omega))) ?_
        refine WL.lv rfl (LV.mv rfl) ?_
        refine WL.nil (thenQ.n ?_)
        have hS15 : SH w No w7 [rowE eL 41 (.slice Aa la.length ca) la, rowE eL 41 (.slice A6 ((lb ++ ((inp.getD (i).toNat default).2)).length) c6) (lb ++ ((inp.getD (i).toNat default).2))] := (SH.take 2 rfl (SH.front [rowE eL 41 (.slice A6 ((lb ++ ((inp.getD (i).toNat default).2)).length) c6) (lb ++ ((inp.getD (i).toNat default).2)), blkE b1 39 #[(.int .i64 ((inp.getD (i).toNat default).1.1)), (.slice A2 ((inp.getD (i).toNat default).2.length) c2)]] hS14))
        exact ⟨_, by omega, i + 1, Aa, A6, ca, c6, la, (lb ++ ((inp.getD (i).toNat default).2)), by omega, by omega, (by rw [sA_more q0 h9, ← q2]; first | rw [if_pos (by omega), List.append_nil] | rw [if_neg (by omega), List.append_nil]), (by rw [sB_more q0 h9, ← q3]; first | rw [if_pos (by omega)] | rw [if_neg (by omega)]), hS15, rfl, Weak.cons rfl <| Weak.cons rfl <| Weak.cons rfl <| Weak.cons rfl <| Weak.cons rfl <| Weak.cons rfl <| Weak.nil _⟩
  · skip
    refine WC.exit (thenQ.x <| thenQ.x <| blockQ.hit <| thenQ.n ?_)
    refine WC.seq ?_
    refine WC.region ?_
    iterate 2 refine WL.lv rfl (LV.mv rfl) ?_
    iterate 2 refine WL.lv rfl (LV.asg rfl) ?_
    refine WL.nil (thenQ.n ?_)
    refine WC.ret (?_)
    exact ⟨_, fun a ha => res2 rfl ha rfl rfl, (by rw [scr_all (by omega)] at q2 q3; subst q2 q3; exact ⟨_, _, _, _, rfl, hL1⟩)⟩

theorem sides8_calls {w : World} {A0 : Option Addr} {c0 : Nat} {inp : List (ED × List Ln)} (hi : St No w (Rd eE (.slice A0 inp.length c0) (inp.map (·.1)))) (hin : St No w (RdIn (·.2) eL inp)) (hm : ∀ p ∈ inp, p.2.length ≤ 140737488355328) :
    Calls Try.prog 16 #[(.slice A0 inp.length c0)] w fun e w' => ∃ v, e = .returned v ∧ (fun v w' => ∃ A1 c1 A2 c2, v = .tuple #[.slice A1 (SA (scr inp)).length c1, .slice A2 (SB (scr inp)).length c2, .int .i64 (chk (scr inp))] ∧ SH w No w' [rowE eL 41 (.slice A1 (SA (scr inp)).length c1) (SA (scr inp)), rowE eL 41 (.slice A2 (SB (scr inp)).length c2) (SB (scr inp))]) v w' := by
  have hS : SH w No w [] := SH.nil _ _
  refine calls (l := litOf [(.slice A0 inp.length c0)] 0) Try.func16 rfl (n := 20) rfl (Nat.le_of_ble_eq_true rfl) (lit_args _) ?_
  refine WC.seq ?_
  refine WC.region ?_
  iterate 3 refine WL.lv rfl (LV.asg rfl) ?_
  refine WL.nil (thenQ.n ?_)
  iterate 2 refine WC.seq ?_
  refine WC.region ?_
  refine WL.lv rfl (LV.mv rfl) ?_
  refine WL.call rfl (XC.fn Try.func21 (by kernel_rfl) rfl rfl rfl) (check_calls (SH.stN hS hi) (SH.stN hS hin) hm) ?_
  rintro v_ w1 ⟨rfl, hk1⟩
  have hS1 := SH.same hS hk1
  refine WL.lv rfl (LV.asg rfl) ?_
  refine WL.nil (thenQ.n ?_)
  refine WC.seq ?_
  refine WC.region ?_
  refine WL.lv rfl (LV.mv rfl) ?_
  refine WL.lv rfl (LV.neI rfl rfl) ?_
  refine WL.nil (thenQ.n ?_)
  refine WC.condP (p := (chk (scr inp)) ≠ 0) rfl (fun hc1 => ?_) (fun hc1 => ?_)
  · skip
    refine WC.seq ?_
    refine WC.region ?_
    refine WL.lv rfl (LV.mv rfl) ?_
    iterate 3 refine WL.lv rfl (LV.asg rfl) ?_
    refine WL.nil (thenQ.n ?_)
    refine WC.ret (thenQ.r <| ?_)
    have hS2 := SH.nilRow (E := eL) (T := 41) hS1
    have hS3 := SH.nilRow (E := eL) (T := 41) hS2
    have hS4 : SH w No w1 [rowE eL 41 (.slice none 0 0) [], rowE eL 41 (.slice none 0 0) []] := (SH.front [rowE eL 41 (.slice none 0 0) []] hS3)
    exact ⟨_, fun a ha => res3 rfl ha rfl rfl rfl, (by rw [show SA (scr inp) = [] from if_neg hc1, show SB (scr inp) = [] from if_neg hc1]; exact ⟨_, _, _, _, rfl, hS4⟩)⟩
  · have hck : chk (scr inp) = 0 := Decidable.not_not.1 hc1
    refine WC.skip (thenQ.n ?_)
    refine WC.seq ?_
    refine WC.region ?_
    refine WL.lv rfl (LV.mv rfl) ?_
    refine WL.call rfl (XC.fn Try.func34 (by kernel_rfl) rfl rfl rfl) (sides_calls (SH.stN hS1 hi) (SH.stN hS1 hin) (chk0 hck).2.1) ?_
    rintro v_ w2 ⟨A1, c1, A2, c2, rfl, hS5⟩
    have hS6 := SH.joinN hS1 hS5
    refine WL.lv rfl (LV.mv rfl) ?_
    iterate 2 refine WL.lv rfl (LV.extract rfl rfl) ?_
    iterate 2 refine WL.lv rfl (LV.asg rfl) ?_
    refine WL.nil (thenQ.n ?_)
    refine WC.seq ?_
    refine WC.region ?_
    iterate 2 refine WL.lv rfl (LV.mv rfl) ?_
    iterate 3 refine WL.lv rfl (LV.asg rfl) ?_
    refine WL.nil (thenQ.n ?_)
    refine WC.ret (?_)
    exact ⟨_, fun a ha => res3 rfl ha rfl rfl rfl, (by rw [show SA (scr inp) = sA (scr inp) from if_pos hck, show SB (scr inp) = sB (scr inp) from if_pos hck, hck]; exact ⟨_, _, _, _, rfl, hS6⟩)⟩

theorem rcheck_calls {w : World} {A0 : Option Addr} {c0 : Nat} {inp : List (ED × List Ln)} (hi : St No w (Rd eE (.slice A0 inp.length c0) (inp.map (·.1)))) (hin : St No w (RdIn (·.2) eL inp)) (hm : ∀ p ∈ inp, p.2.length ≤ 140737488355328) :
    Calls Try.prog 17 #[(.slice A0 inp.length c0)] w fun e w' => ∃ v, e = .returned v ∧ (fun v w' => v = .int .i64 (chk (scr inp)) ∧ KB No w w') v w' := by
  have hma := by have hmx_ := Rd.max hi.now; simpa using hmx_
  have hS : SH w No w [] := SH.nil _ _
  refine calls (l := litOf [(.slice A0 inp.length c0)] 0) Try.func17 rfl (n := 60) rfl (Nat.le_of_ble_eq_true rfl) (lit_args _) ?_
  refine WC.seq ?_
  refine WC.region ?_
  refine WL.lv rfl (LV.asg rfl) ?_
  refine WL.nil (thenQ.n ?_)
  iterate 2 refine WC.seq ?_
  refine WC.region ?_
  refine WL.lv rfl (LV.mv rfl) ?_
  refine WL.lv rfl (LV.lenL Try.underlying24 rfl) ?_
  refine WL.lv rfl (LV.gtI rfl rfl) ?_
  refine WL.nil (thenQ.n ?_)
  refine WC.condP (p := (inp.length : Int) > 800) rfl (fun h8 => ?_) (fun h8 => ?_)
  · skip
    refine WC.seq ?_
    refine WC.region ?_
    refine WL.lv rfl (LV.asg rfl) ?_
    refine WL.nil (thenQ.n ?_)
    refine WC.ret (thenQ.r <| ?_)
    exact ⟨_, fun a ha => res1 rfl ha rfl, congrArg (Value.int .i64) (chk_len (by omega)), hS.kb⟩
  · skip
    refine WC.skip (thenQ.n ?_)
    refine WC.seq ?_
    refine WC.region ?_
    refine WL.lv rfl (LV.asg rfl) ?_
    refine WL.nil (thenQ.n ?_)
    iterate 2 refine WC.seq ?_
    refine WC.region ?_
    refine WL.lv rfl (LV.asg rfl) ?_
    refine WL.nil (thenQ.n ?_)
    refine WC.block ?_
    refine WC.loop (fun m_ f_ w_ => ∃ (i n : Int), (0 ≤ i) ∧ (i ≤ inp.length) ∧ (n = (tot ((scr inp).take i.toNat) : Int)) ∧ (n ≤ 800) ∧ SH w No w_ [] ∧ m_ = (((inp.length : Int) - i).toNat) ∧ Weak (lit [(0, (.slice A0 inp.length c0)), (2, (.int .i64 0)), (3, (.int .i64 n)), (4, (.int .i64 i))]) f_) _ ⟨0, 0, by omega, by omega, rfl, by omega, hS, rfl, Weak.cons rfl <| Weak.cons rfl <| Weak.cons rfl <| Weak.cons rfl <| Weak.nil _⟩ ?_
    rintro m1 f1 w1 ⟨i, n, q0, q1, q2, q3, hL1, rfl, hw1⟩
    refine WC.weak hw1 ?_
    clear hw1
    iterate 2 refine WC.seq ?_
    refine WC.region ?_
    iterate 2 refine WL.lv rfl (LV.mv rfl) ?_
    refine WL.lv rfl (LV.lenL Try.underlying24 rfl) ?_
    refine WL.lv rfl (LV.ltI rfl rfl) ?_
    refine WL.nil (thenQ.n ?_)
    refine WC.condP (p := i < (inp.length : Int)) rfl (fun h12 => ?_) (fun h12 => ?_)
    · have hlm := hm (inp.getD (i).toNat default) (getD_mem (by omega))
      have htm := tot_more q0 h12
      refine WC.skip (thenQ.n ?_)
      refine WC.seq ?_
      refine WC.block ?_
      iterate 2 refine WC.seq ?_
      refine WC.region ?_
      iterate 2 refine WL.lv rfl (LV.mv rfl) ?_
      obtain ⟨A1, c1, A2, c2, e1, g1, e2, r1⟩ := St.eltE (SH.stN hL1 hi) (SH.stN hL1 hin) default i (by omega) (by omega)
      refine WL.lv rfl (LV.idxA Try.underlying24 ti39.sz rfl e1 rfl (by omega) (by omega)) ?_
      refine WL.lv rfl (LV.fieldA Try.underlying39 rfl ti22.sz rfl) ?_
      refine WL.lv rfl (LV.load1 (v := (.slice A2 ((inp.getD (i).toNat default).2.length) c2)) Try.underlying22 rfl rfl (g1 _ (KB.refl No _) 1 _ rfl)) ?_
      refine WL.lv rfl (LV.lenL Try.underlying22 rfl) ?_
      refine WL.lv rfl (LV.mv rfl) ?_
      refine WL.lv rfl (LV.sub rfl rfl (wr64 (by omega) (by omega))) ?_
      refine WL.lv rfl (LV.gtI rfl rfl) ?_
      refine WL.nil (thenQ.n ?_)
      refine WC.condP (p := ((inp.getD (i).toNat default).2.length : Int) > (800 - n)) rfl (fun h23 => ?_) (fun h23 => ?_)
      · skip
        refine WC.seq ?_
        refine WC.region ?_
        refine WL.lv rfl (LV.asg rfl) ?_
        refine WL.nil (thenQ.n ?_)
        refine WC.ret (thenQ.r <| blockQ.r <| thenQ.r <| thenQ.r <| blockQ.r <| thenQ.r <| ?_)
        exact ⟨_, fun a ha => res1 rfl ha rfl, congrArg (Value.int .i64) (rchk_tot q0 h12 q2 h23), hL1.kb⟩
      · skip
        refine WC.skip (thenQ.n ?_)
        refine WC.region ?_
        iterate 3 refine WL.lv rfl (LV.mv rfl) ?_
        obtain ⟨A3, c3, A4, c4, e3, g2, e4, r2⟩ := St.eltE (SH.stN hL1 hi) (SH.stN hL1 hin) default i (by omega) (by omega)
        refine WL.lv rfl (LV.idxA Try.underlying24 ti39.sz rfl e3 rfl (by omega) (by omega)) ?_
        refine WL.lv rfl (LV.fieldA Try.underlying39 rfl ti22.sz rfl) ?_
        refine WL.lv rfl (LV.load1 (v := (.slice A4 ((inp.getD (i).toNat default).2.length) c4)) Try.underlying22 rfl rfl (g2 _ (KB.refl No _) 1 _ rfl)) ?_
        refine WL.lv rfl (LV.lenL Try.underlying22 rfl) ?_
        refine WL.lv rfl (LV.add rfl rfl (wr64 (by omega) (by omega))) ?_
        refine WL.lv rfl (LV.asg rfl) ?_
        refine WL.nil (blockQ.n <| thenQ.n ?_)
        refine WC.region ?_
        refine WL.lv rfl (LV.mv rfl) ?_
        refine WL.lv rfl (LV.add rfl rfl (wr64 (by omega) (by omega))) ?_
        refine WL.lv rfl (LV.asg rfl) ?_
        refine WL.nil (thenQ.n ?_)
        exact ⟨_, by omega, i + 1, n + ((inp.getD (i).toNat default).2.length : Int), by omega, by omega, by omega, by omega, hL1, rfl, Weak.cons rfl <| Weak.cons rfl <| Weak.cons rfl <| Weak.cons rfl <| Weak.nil _⟩
    · skip
      refine WC.exit (thenQ.x <| thenQ.x <| blockQ.hit <| thenQ.n ?_)
      iterate 2 refine WC.seq ?_
      refine WC.region ?_
      refine WL.lv rfl (LV.asg rfl) ?_
      refine WL.nil (thenQ.n ?_)
      refine WC.block ?_
      refine WC.loop (fun m_ f_ w_ => ∃ (j : Int), (0 ≤ j) ∧ (j ≤ inp.length) ∧ (okS ((scr inp).take j.toNat) = true) ∧ SH w No w_ [] ∧ m_ = (((inp.length : Int) - j).toNat) ∧ Weak (lit [(0, (.slice A0 inp.length c0)), (2, (.int .i64 0)), (5, (.int .i64 j))]) f_) _ ⟨0, by omega, by omega, rfl, hL1, rfl, Weak.cons rfl <| Weak.cons rfl <| Weak.cons rfl <| Weak.nil _⟩ ?_
      rintro m2 f2 w2 ⟨j, s0, s1, s2, hL2, rfl, hw2⟩
      refine WC.weak hw2 ?_
      clear hw2
      iterate 2 refine WC.seq ?_
      refine WC.region ?_
      iterate 2 refine WL.lv rfl (LV.mv rfl) ?_
      refine WL.lv rfl (LV.lenL Try.underlying24 rfl) ?_
      refine WL.lv rfl (LV.ltI rfl rfl) ?_
      refine WL.nil (thenQ.n ?_)
      refine WC.condP (p := j < (inp.length : Int)) rfl (fun h35 => ?_) (fun h35 => ?_)
      · skip
        refine WC.skip (thenQ.n ?_)
        refine WC.seq ?_
        refine WC.block ?_
        refine WC.seq ?_
        refine WC.region ?_
        iterate 2 refine WL.lv rfl (LV.mv rfl) ?_
        obtain ⟨A5, c5, A6, c6, e5, g3, e6, r3⟩ := St.eltE (SH.stN hL2 hi) (SH.stN hL2 hin) default j (by omega) (by omega)
        refine WL.lv rfl (LV.idxA Try.underlying24 ti39.sz rfl e5 rfl (by omega) (by omega)) ?_
        refine WL.lv rfl (LV.fieldA Try.underlying39 rfl ti37.sz rfl) ?_
        refine WL.lv rfl (LV.load1 (v := (.int .i64 ((inp.getD (j).toNat default).1.1))) Try.underlying37 rfl rfl (g3 _ (KB.refl No _) 0 _ rfl)) ?_
        rcases Decidable.em (((inp.getD (j).toNat default).1.1) ≠ 1) with hg1 | hg1
        · refine WL.lv rfl (LV.as (LV.neI rfl rfl) (decide_eq_true hg1)) ?_
          iterate 3 refine WL.lv rfl (LV.mv rfl) ?_
          obtain ⟨A7, c7, A8, c8, e7, g4, e8, r4⟩ := St.eltE (SH.stN hL2 hi) (SH.stN hL2 hin) default j (by omega) (by omega)
          refine WL.lv rfl (LV.idxA Try.underlying24 ti39.sz rfl e7 rfl (by omega) (by omega)) ?_
          refine WL.lv rfl (LV.fieldA Try.underlying39 rfl ti37.sz rfl) ?_
          refine WL.lv rfl (LV.load1 (v := (.int .i64 ((inp.getD (j).toNat default).1.1))) Try.underlying37 rfl rfl (g4 _ (KB.refl No _) 0 _ rfl)) ?_
          rcases Decidable.em (((inp.getD (j).toNat default).1.1) ≠ 2) with hg2 | hg2
          · refine WL.lv rfl (LV.as (LV.neI rfl rfl) (decide_eq_true hg2)) ?_
            refine WL.lv rfl (LV.pickT rfl rfl) ?_
            iterate 3 refine WL.lv rfl (LV.mv rfl) ?_
            obtain ⟨A9, c9, A10, c10, e9, g5, e10, r5⟩ := St.eltE (SH.stN hL2 hi) (SH.stN hL2 hin) default j (by omega) (by omega)
            refine WL.lv rfl (LV.idxA Try.underlying24 ti39.sz rfl e9 rfl (by omega) (by omega)) ?_
            refine WL.lv rfl (LV.fieldA Try.underlying39 rfl ti37.sz rfl) ?_
            refine WL.lv rfl (LV.load1 (v := (.int .i64 ((inp.getD (j).toNat default).1.1))) Try.underlying37 rfl rfl (g5 _ (KB.refl No _) 0 _ rfl)) ?_
            refine WL.lv rfl (LV.neI rfl rfl) ?_
            refine WL.lv rfl (LV.pickT rfl rfl) ?_
            refine WL.nil (thenQ.n ?_)
            refine WC.condP (p := ((inp.getD (j).toNat default).1.1) ≠ 3) rfl (fun hc1 => ?_) (fun hc1 => ?_)
            · skip
              refine WC.seq ?_
              refine WC.region ?_
              refine WL.lv rfl (LV.asg rfl) ?_
              refine WL.nil (thenQ.n ?_)
              refine WC.ret (blockQ.r <| thenQ.r <| thenQ.r <| blockQ.r <| thenQ.r <| ?_)
              exact ⟨_, fun a ha => res1 rfl ha rfl, congrArg (Value.int .i64) (rchk_bad h8 (by rw [scr_all (by omega)] at q2; omega) s0 h35 (by omega)), hL2.kb⟩
            · skip
              refine WC.skip (blockQ.n <| thenQ.n ?_)
              refine WC.region ?_
              refine WL.lv rfl (LV.mv rfl) ?_
              refine WL.lv rfl (LV.add rfl rfl (wr64 (by omega) (by omega))) ?_
              refine WL.lv rfl (LV.asg rfl) ?_
              refine WL.nil (thenQ.n ?_)
              exact ⟨_, by omega, j + 1, by omega, by omega, (okS_step s0 h35 s2 (by omega)), hL2, rfl, Weak.cons rfl <| Weak.cons rfl <| Weak.cons rfl <| Weak.nil _⟩
          · refine WL.lv rfl (LV.as (LV.neI rfl rfl) (decide_eq_false hg2)) ?_
            refine WL.lv rfl (LV.pickT rfl rfl) ?_
            refine WL.lv rfl (LV.mv rfl) ?_
            iterate 6 refine WL.off rfl ?_
            refine WL.lv rfl (LV.pickF rfl rfl) ?_
            refine WL.nil (thenQ.n ?_)
            refine WC.condF rfl ?_
            refine WC.skip (blockQ.n <| thenQ.n ?_)
            refine WC.region ?_
            refine WL.lv rfl (LV.mv rfl) ?_
            refine WL.lv rfl (LV.add rfl rfl (wr64 (by omega) (by omega))) ?_
            refine WL.lv rfl (LV.asg rfl) ?_
            refine WL.nil (thenQ.n ?_)
            exact ⟨_, by omega, j + 1, by omega, by omega, (okS_step s0 h35 s2 (by omega)), hL2, rfl, Weak.cons rfl <| Weak.cons rfl <| Weak.cons rfl <| Weak.nil _⟩
        · refine WL.lv rfl (LV.as (LV.neI rfl rfl) (decide_eq_false hg1)) ?_
          refine WL.lv rfl (LV.mv rfl) ?_
          iterate 6 refine WL.off rfl ?_
          refine WL.lv rfl (LV.pickF rfl rfl) ?_
          refine WL.lv rfl (LV.mv rfl) ?_
          iterate 6 refine WL.off rfl ?_
          refine WL.lv rfl (LV.pickF rfl rfl) ?_
          refine WL.nil (thenQ.n ?_)
          refine WC.condF rfl ?_
          refine WC.skip (blockQ.n <| thenQ.n ?_)
          refine WC.region ?_
          refine WL.lv rfl (LV.mv rfl) ?_
          refine WL.lv rfl (LV.add rfl rfl (wr64 (by omega) (by omega))) ?_
          refine WL.lv rfl (LV.asg rfl) ?_
          refine WL.nil (thenQ.n ?_)
          exact ⟨_, by omega, j + 1, by omega, by omega, (okS_step s0 h35 s2 (by omega)), hL2, rfl, Weak.cons rfl <| Weak.cons rfl <| Weak.cons rfl <| Weak.nil _⟩
      · skip
        refine WC.exit (thenQ.x <| thenQ.x <| blockQ.hit <| thenQ.n ?_)
        refine WC.seq ?_
        refine WC.region ?_
        refine WL.lv rfl (LV.asg rfl) ?_
        refine WL.nil (thenQ.n ?_)
        refine WC.ret (?_)
        exact ⟨_, fun a ha => res1 rfl ha rfl, congrArg (Value.int .i64) (rchk_ok h8 (by rw [scr_all (by omega)] at q2; omega) (by omega) s2), hL2.kb⟩

theorem side_calls {w : World} {A0 : Option Addr} {c0 : Nat} {inp : List (ED × List Ln)} (hi : St No w (Rd eE (.slice A0 inp.length c0) (inp.map (·.1)))) (hin : St No w (RdIn (·.2) eL inp)) {but : Int} (ht : tot (scr inp) ≤ 800) :
    Calls Try.prog 35 #[(.slice A0 inp.length c0), (.int .i64 but)] w fun e w' => ∃ v, e = .returned v ∧ (fun v w' => ∃ A1 c1, v = .slice A1 (sideL but (scr inp)).length c1 ∧ SH w No w' [rowE eL 41 (.slice A1 (sideL but (scr inp)).length c1) (sideL but (scr inp))]) v w' := by
  have hma := by have hmx_ := Rd.max hi.now; simpa using hmx_
  have hS : SH w No w [] := SH.nil _ _
  refine calls (l := litOf [(.slice A0 inp.length c0), (.int .i64 but)] 0) Try.func35 rfl (n := 29) rfl (Nat.le_of_ble_eq_true rfl) (lit_args _) ?_
  refine WC.seq ?_
  refine WC.region ?_
  refine WL.lv rfl (LV.asg rfl) ?_
  refine WL.nil (thenQ.n ?_)
  refine WC.seq ?_
  refine WC.region ?_
  refine WL.xe rfl (XE.buildSlice (E := eL) [] #[] [] hS Try.underlying22 ti41 rfl (by decide) (by kernel_rfl) (.inr rfl) rfl rfl (by decide)) ?_
  rintro _ w1 ⟨b1, rfl, hS1, hk1⟩
  refine WL.lv rfl (LV.asg rfl) ?_
  refine WL.nil (thenQ.n ?_)
  iterate 2 refine WC.seq ?_
  refine WC.region ?_
  refine WL.lv rfl (LV.asg rfl) ?_
  refine WL.nil (thenQ.n ?_)
  refine WC.block ?_
  refine WC.loop (fun m_ f_ w_ => ∃ (i : Int) (Aa : Option Addr) (ca : Nat) (out : List Ln), (0 ≤ i) ∧ (i ≤ inp.length) ∧ (out = sideL but ((scr inp).take i.toNat)) ∧ SH w No w_ [rowE eL 41 (.slice Aa out.length ca) out] ∧ m_ = (((inp.length : Int) - i).toNat) ∧ Weak (lit [(0, (.slice A0 inp.length c0)), (1, (.int .i64 but)), (4, (.slice none 0 0)), (5, (.slice Aa out.length ca)), (6, (.int .i64 i))]) f_) _ ⟨0, (some ⟨b1, 0, none⟩), 0, [], by omega, by omega, rfl, hS1, rfl, Weak.cons rfl <| Weak.cons rfl <| Weak.cons rfl <| Weak.cons rfl <| Weak.cons rfl <| Weak.nil _⟩ ?_
  rintro m1 f1 w2 ⟨i, Aa, ca, out, q0, q1, q2, hL1, rfl, hw1⟩
  refine WC.weak hw1 ?_
  clear hw1
  have hla_ : out.length ≤ tot ((scr inp).take i.toNat) := q2 ▸ sideL_len _ _
  iterate 2 refine WC.seq ?_
  refine WC.region ?_
  iterate 2 refine WL.lv rfl (LV.mv rfl) ?_
  refine WL.lv rfl (LV.lenL Try.underlying24 rfl) ?_
  refine WL.lv rfl (LV.ltI rfl rfl) ?_
  refine WL.nil (thenQ.n ?_)
  refine WC.condP (p := i < (inp.length : Int)) rfl (fun h11 => ?_) (fun h11 => ?_)
  · have htl_ := tot_more q0 h11
    have htt_ := tot_take (scr inp) (i + 1).toNat
    refine WC.skip (thenQ.n ?_)
    refine WC.seq ?_
    refine WC.block ?_
    refine WC.seq ?_
    refine WC.region ?_
    iterate 2 refine WL.lv rfl (LV.mv rfl) ?_
    obtain ⟨A1, c1, A2, c2, e1, g1, e2, r1⟩ := St.eltE (SH.stN hL1 hi) (SH.stN hL1 hin) default i (by omega) (by omega)
    refine WL.lv rfl (LV.idxA Try.underlying24 ti39.sz rfl e1 rfl (by omega) (by omega)) ?_
    refine WL.lv rfl (LV.fieldA Try.underlying39 rfl ti37.sz rfl) ?_
    refine WL.lv rfl (LV.load1 (v := (.int .i64 ((inp.getD (i).toNat default).1.1))) Try.underlying37 rfl rfl (g1 _ (KB.refl No _) 0 _ rfl)) ?_
    refine WL.lv rfl (LV.mv rfl) ?_
    refine WL.lv rfl (LV.neI rfl rfl) ?_
    refine WL.nil (thenQ.n ?_)
    refine WC.condP (p := ((inp.getD (i).toNat default).1.1) ≠ but) rfl (fun hc1 => ?_) (fun hc1 => ?_)
    · skip
      refine WC.region ?_
      iterate 3 refine WL.lv rfl (LV.mv rfl) ?_
      obtain ⟨A3, c3, A4, c4, e3, g2, e4, r2⟩ := St.eltE (SH.stN hL1 hi) (SH.stN hL1 hin) default i (by omega) (by omega)
      refine WL.lv rfl (LV.idxA Try.underlying24 ti39.sz rfl e3 rfl (by omega) (by omega)) ?_
      refine WL.lv rfl (LV.fieldA Try.underlying39 rfl ti22.sz rfl) ?_
      refine WL.lv rfl (LV.load1 (v := (.slice A4 ((inp.getD (i).toNat default).2.length) c4)) Try.underlying22 rfl rfl (g2 _ (KB.refl No _) 1 _ rfl)) ?_
      refine WL.xe rfl (XE.append hL1 Try.underlying22 ti41 rfl (St.now (St.innerQ (SH.stN hL1 hin) (getD_mem (by omega)) e4)) rfl rfl (by first | omega | simp only [List.length_append, List.length_cons, List.length_nil, List.length_take, List.length_reverse, List.length_drop] at *; omega) (by first | omega | simp only [List.length_append, List.length_cons, List.length_nil, List.length_take, List.length_reverse, List.length_drop] at *; omega)) ?_
      rintro _ w3 ⟨A5, c5, rfl, hS2, hk2⟩
      refine WL.lv rfl (LV.asg rfl) ?_
      refine WL.nil (blockQ.n <| thenQ.n ?_)
      refine WC.region ?_
      refine WL.lv rfl (LV.mv rfl) ?_
      refine WL.lv rfl (LV.add rfl rfl (wr64 (by omega) (by omega))) ?_
      refine WL.lv rfl (LV.asg rfl) ?_
      refine WL.nil (thenQ.n ?_)
      exact ⟨_, by omega, i + 1, A5, c5, (out ++ ((inp.getD (i).toNat default).2)), by omega, by omega, (by rw [sideL_more but q0 h11, ← q2]; first | rw [if_pos (by omega)] | rw [if_neg (by omega), List.append_nil]), hS2, rfl, Weak.cons rfl <| Weak.cons rfl <| Weak.cons rfl <| Weak.cons rfl <| Weak.cons rfl <| Weak.nil _⟩
    · skip
      refine WC.skip (blockQ.n <| thenQ.n ?_)
      refine WC.region ?_
      refine WL.lv rfl (LV.mv rfl) ?_
      refine WL.lv rfl (LV.add rfl rfl (wr64 (by omega) (by omega))) ?_
      refine WL.lv rfl (LV.asg rfl) ?_
      refine WL.nil (thenQ.n ?_)
      exact ⟨_, by omega, i + 1, Aa, ca, out, by omega, by omega, (by rw [sideL_more but q0 h11, ← q2]; first | rw [if_pos (by omega)] | rw [if_neg (by omega), List.append_nil]), hL1, rfl, Weak.cons rfl <| Weak.cons rfl <| Weak.cons rfl <| Weak.cons rfl <| Weak.cons rfl <| Weak.nil _⟩
  · skip
    refine WC.exit (thenQ.x <| thenQ.x <| blockQ.hit <| thenQ.n ?_)
    refine WC.seq ?_
    refine WC.region ?_
    refine WL.lv rfl (LV.mv rfl) ?_
    refine WL.lv rfl (LV.asg rfl) ?_
    refine WL.nil (thenQ.n ?_)
    refine WC.ret (?_)
    exact ⟨_, fun a ha => res1 rfl ha rfl, (by rw [scr_all (by omega)] at q2; subst q2; exact ⟨_, _, rfl, hL1⟩)⟩

theorem rsides_calls {w : World} {A0 : Option Addr} {c0 : Nat} {inp : List (ED × List Ln)} (hi : St No w (Rd eE (.slice A0 inp.length c0) (inp.map (·.1)))) (hin : St No w (RdIn (·.2) eL inp)) (hm : ∀ p ∈ inp, p.2.length ≤ 140737488355328) :
    Calls Try.prog 19 #[(.slice A0 inp.length c0)] w fun e w' => ∃ v, e = .returned v ∧ (fun v w' => ∃ A1 c1 A2 c2, v = .tuple #[.slice A1 (SA (scr inp)).length c1, .slice A2 (SB (scr inp)).length c2, .int .i64 (chk (scr inp))] ∧ SH w No w' [rowE eL 41 (.slice A1 (SA (scr inp)).length c1) (SA (scr inp)), rowE eL 41 (.slice A2 (SB (scr inp)).length c2) (SB (scr inp))]) v w' := by
  have hS : SH w No w [] := SH.nil _ _
  refine calls (l := litOf [(.slice A0 inp.length c0)] 0) Try.func19 rfl (n := 15) rfl (Nat.le_of_ble_eq_true rfl) (lit_args _) ?_
  refine WC.seq ?_
  refine WC.region ?_
  iterate 3 refine WL.lv rfl (LV.asg rfl) ?_
  refine WL.nil (thenQ.n ?_)
  iterate 2 refine WC.seq ?_
  refine WC.region ?_
  refine WL.lv rfl (LV.mv rfl) ?_
  refine WL.call rfl (XC.fn Try.func17 (by kernel_rfl) rfl rfl rfl) (rcheck_calls (SH.stN hS hi) (SH.stN hS hin) hm) ?_
  rintro v_ w1 ⟨rfl, hk1⟩
  have hS1 := SH.same hS hk1
  refine WL.lv rfl (LV.asg rfl) ?_
  refine WL.nil (thenQ.n ?_)
  refine WC.seq ?_
  refine WC.region ?_
  refine WL.lv rfl (LV.mv rfl) ?_
  refine WL.lv rfl (LV.neI rfl rfl) ?_
  refine WL.nil (thenQ.n ?_)
  refine WC.condP (p := (chk (scr inp)) ≠ 0) rfl (fun hc1 => ?_) (fun hc1 => ?_)
  · skip
    refine WC.seq ?_
    refine WC.region ?_
    refine WL.lv rfl (LV.mv rfl) ?_
    iterate 3 refine WL.lv rfl (LV.asg rfl) ?_
    refine WL.nil (thenQ.n ?_)
    refine WC.ret (thenQ.r <| ?_)
    have hS2 := SH.nilRow (E := eL) (T := 41) hS1
    have hS3 := SH.nilRow (E := eL) (T := 41) hS2
    have hS4 : SH w No w1 [rowE eL 41 (.slice none 0 0) [], rowE eL 41 (.slice none 0 0) []] := (SH.front [rowE eL 41 (.slice none 0 0) []] hS3)
    exact ⟨_, fun a ha => res3 rfl ha rfl rfl rfl, (by rw [show SA (scr inp) = [] from if_neg hc1, show SB (scr inp) = [] from if_neg hc1]; exact ⟨_, _, _, _, rfl, hS4⟩)⟩
  · have hck : chk (scr inp) = 0 := Decidable.not_not.1 hc1
    refine WC.skip (thenQ.n ?_)
    refine WC.seq ?_
    refine WC.region ?_
    refine WL.lv rfl (LV.mv rfl) ?_
    refine WL.call rfl (XC.fn Try.func35 (by kernel_rfl) rfl rfl rfl) (side_calls (but := 3) (SH.stN hS1 hi) (SH.stN hS1 hin) (chk0 hck).2.1) ?_
    rintro v_ w2 ⟨A1, c1, rfl, hS5⟩
    have hS6 := SH.joinN hS1 hS5
    refine WL.lv rfl (LV.mv rfl) ?_
    refine WL.call rfl (XC.fn Try.func35 (by kernel_rfl) rfl rfl rfl) (side_calls (but := 2) (SH.stN hS6 hi) (SH.stN hS6 hin) (chk0 hck).2.1) ?_
    rintro v_ w3 ⟨A2, c2, rfl, hS7⟩
    have hS8 := SH.joinN hS6 hS7
    iterate 3 refine WL.lv rfl (LV.asg rfl) ?_
    refine WL.nil (thenQ.n ?_)
    refine WC.ret (?_)
    have hS9 : SH w No w3 [rowE eL 41 (.slice A1 ((sideL 3 (scr inp)).length) c1) (sideL 3 (scr inp)), rowE eL 41 (.slice A2 ((sideL 2 (scr inp)).length) c2) (sideL 2 (scr inp))] := (SH.front [rowE eL 41 (.slice A2 ((sideL 2 (scr inp)).length) c2) (sideL 2 (scr inp))] hS8)
    exact ⟨_, fun a ha => res3 rfl ha rfl rfl rfl, (by rw [show SA (scr inp) = sA (scr inp) from if_pos hck, show SB (scr inp) = sB (scr inp) from if_pos hck, hck, ← side3 (chk0 hck).2.2, ← side2 (chk0 hck).2.2]; exact ⟨_, _, _, _, rfl, hS9⟩)⟩

end Go.Proofs.Ytjmfoifohneanaa
