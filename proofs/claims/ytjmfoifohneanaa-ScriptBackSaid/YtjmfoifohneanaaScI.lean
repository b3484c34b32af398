/- A script that goes back. -/
import Derived.Test.YtjmfoifohneanaaScH
namespace Go.Proofs.Ytjmfoifohneanaa
open Go Go.Gv Go.RowKit Go.Mys Go.Num Go.Scr
set_option linter.unusedVariables false
set_option linter.unusedSimpArgs false

theorem invert_calls {w : World} {A0 : Option Addr} {c0 : Nat} {inp : List (ED × List Ln)} (hi : St No w (Rd eE (.slice A0 inp.length c0) (inp.map (·.1)))) (hin : St No w (RdIn (·.2) eL inp)) (hm : ∀ p ∈ inp, p.2.length ≤ 140737488355328) :
    Calls Try.prog 24 #[(.slice A0 inp.length c0)] w fun e w' => ∃ v, e = .returned v ∧ (fun v w' => ∃ A' c' rows', v = .tuple #[.slice A' rows'.length c', .int .i64 (chk (scr inp))] ∧ scr rows' = IVS (scr inp) ∧ SH w No w' [rowE eE 39 (.slice A' rows'.length c') (rows'.map (fun p : ED × List Ln => p.1)), insE (fun p : ED => p.2) eL 41 rows']) v w' := by
  have hS : SH w No w [] := SH.nil _ _
  refine calls (l := litOf [(.slice A0 inp.length c0)] 0) Try.func24 rfl (n := 34) rfl (Nat.le_of_ble_eq_true rfl) (lit_args _) ?_
  refine WC.seq ?_
  refine WC.region ?_
  iterate 2 refine WL.lv rfl (LV.asg rfl) ?_
  refine WL.nil (thenQ.n ?_)
  iterate 2 refine WC.seq ?_
  refine WC.region ?_
  refine WL.lv rfl (LV.mv rfl) ?_
  refine WL.call rfl (XC.fn Try.func21 (by kernel_rfl) rfl rfl rfl) (check_calls (SH.stN hS hi) (SH.stN hS hin) hm) ?_
  rintro v_ w1 ⟨rfl, hk1⟩
  have hS1 := SH.same hS hk1
  refine WL.lv rfl (LV.asg rfl) ?_
  refine WL.nil (thenQ.n ?_)
  refine WC.seq ?_
  refine WC.region ?_
  refine WL.lv rfl (LV.mv rfl) ?_
  refine WL.lv rfl (LV.neI rfl rfl) ?_
  refine WL.nil (thenQ.n ?_)
  refine WC.condP (p := (chk (scr inp)) ≠ 0) rfl (fun hc1 => ?_) (fun hc1 => ?_)
  · skip
    refine WC.seq ?_
    refine WC.region ?_
    refine WL.lv rfl (LV.mv rfl) ?_
    iterate 2 refine WL.lv rfl (LV.asg rfl) ?_
    refine WL.nil (thenQ.n ?_)
    refine WC.ret (thenQ.r <| ?_)
    have hS2 := SH.nilRow (E := eE) (T := 39) hS1
    have hS3 := SH.ins0 (sv := fun p : ED => p.2) (E := eL) (T1 := 41) hS2
    have hS4 : SH w No w1 [rowE eE 39 (.slice none 0 0) (([] : List (ED × List Ln)).map (fun p : ED × List Ln => p.1)), insE (fun p : ED => p.2) eL 41 []] := (SH.front [insE (fun p : ED => p.2) eL 41 []] hS3)
    exact ⟨_, fun a ha => res2 rfl ha rfl rfl, _, _, [], rfl, (if_neg hc1).symm, hS4⟩
  · have hck : chk (scr inp) = 0 := Decidable.not_not.1 hc1
    have hl8 := (chk0 hck).1
    rw [scr_length] at hl8
    refine WC.skip (thenQ.n ?_)
    refine WC.seq ?_
    refine WC.region ?_
    refine WL.lv rfl (LV.asg rfl) ?_
    refine WL.nil (thenQ.n ?_)
    iterate 2 refine WC.seq ?_
    refine WC.region ?_
    have hS5 := SH.nilRow (E := eE) (T := 39) hS1
    refine WL.lv rfl (LV.mv rfl) ?_
    refine WL.lv rfl (LV.lenL Try.underlying24 rfl) ?_
    refine WL.lv rfl (LV.mv rfl) ?_
    refine WL.nil (thenQ.n ?_)
    refine WC.block ?_
    refine WC.loop (fun m_ f_ w_ => ∃ (i : Int) (Ao : Option Addr) (co : Nat) (out : List (ED × List Ln)), (0 ≤ i) ∧ (i ≤ inp.length) ∧ (scr out = invS ((scr inp).take i.toNat)) ∧ (St No w (RdIn (·.2) eL out)) ∧ ((out.length : Int) = i) ∧ SH w No w_ [rowE eE 39 (.slice Ao out.length co) (out.map (fun p : ED × List Ln => p.1))] ∧ m_ = (((inp.length : Int) - i).toNat) ∧ Weak (lit [(0, (.slice A0 inp.length c0)), (2, (.slice none 0 0)), (3, (.int .i64 0)), (4, (.int .i64 (chk (scr inp)))), (5, (.slice Ao out.length co)), (13, (.slice A0 inp.length c0)), (14, (.int .i64 (inp.length : Int))), (15, (.int .i64 i))]) f_) _ ⟨0, none, 0, [], by omega, by omega, rfl, St.in0, rfl, hS5, rfl, Weak.cons rfl <| Weak.cons rfl <| Weak.cons rfl <| Weak.cons rfl <| Weak.cons rfl <| Weak.cons rfl <| Weak.cons rfl <| Weak.cons rfl <| Weak.nil _⟩ ?_
    rintro m1 f1 w2 ⟨i, Ao, co, out, q0, q1, q2, q3, q4, hL1, rfl, hw1⟩
    refine WC.weak hw1 ?_
    clear hw1
    refine WC.seq ?_
    refine WC.region ?_
    refine WL.lv rfl (LV.ltI rfl rfl) ?_
    refine WL.nil (thenQ.n ?_)
    refine WC.seq ?_
    refine WC.condP (p := i < (inp.length : Int)) rfl (fun h16 => ?_) (fun h16 => ?_)
    · skip
      refine WC.skip (thenQ.n ?_)
      refine WC.seq ?_
      refine WC.block ?_
      refine WC.seq ?_
      refine WC.region ?_
      obtain ⟨A1, c1, A2, c2, e1, g1, e2, r1⟩ := St.eltE (SH.stN hL1 hi) (SH.stN hL1 hin) default i (by omega) (by omega)
      refine WL.lv rfl (LV.idxA Try.underlying24 ti39.sz rfl e1 rfl (by omega) (by omega)) ?_
      refine WL.lv rfl (LV.loadAgg (cs := [(.int .i64 ((inp.getD (i).toNat default).1.1)), (.slice A2 ((inp.getD (i).toNat default).2.length) c2)]) Try.underlying39 rfl ti39 rfl rfl (fun j u hu => g1 _ (KB.refl No _) j u hu)) ?_
      refine WL.xe rfl (XE.alloc #[(.int .i64 0), (.slice none 0 0)] hL1 ti39 rfl) ?_
      rintro _ w3 ⟨b1, rfl, hS6, hk2⟩
      refine WL.xse rfl (XSE.blkAgg #[(.int .i64 ((inp.getD (i).toNat default).1.1)), (.slice A2 ((inp.getD (i).toNat default).2.length) c2)] hS6 (by kernel_rfl) rfl (by kernel_rfl) rfl rfl) ?_
      rintro w4 ⟨hS7, hk3⟩
      refine WL.nil (thenQ.n ?_)
      iterate 2 refine WC.seq ?_
      refine WC.region ?_
      refine WL.lv rfl (LV.fieldA Try.underlying39 rfl ti37.sz rfl) ?_
      refine WL.lv rfl (LV.load1 Try.underlying37 rfl rfl (Blk.cellN (SH.at hS7 (.head _)) 0 rfl _ (KB.refl No _))) ?_
      refine WL.nil (thenQ.n ?_)
      refine WC.block ?_
      refine WC.seq ?_
      refine WC.region ?_
      refine WL.lv rfl (LV.eqI rfl rfl) ?_
      refine WL.lv rfl (LV.asg rfl) ?_
      refine WL.nil (thenQ.n ?_)
      refine WC.condP (p := ((inp.getD (i).toNat default).1.1) = 2) rfl (fun hc2 => ?_) (fun hc2 => ?_)
      · skip
        refine WC.region ?_
        refine WL.lv rfl (LV.fieldA Try.underlying39 rfl ti37.sz rfl) ?_
        refine WL.xse rfl (XSE.blk #[(.int .i64 3), (.slice A2 ((inp.getD (i).toNat default).2.length) c2)] hS7 (Nat.le_of_ble_eq_true rfl) ti37.sz rfl rfl rfl rfl) ?_
        rintro w5 ⟨hS8, hk4⟩
        refine WL.nil (blockQ.n <| thenQ.n ?_)
        refine WC.region ?_
        refine WL.lv rfl (LV.mv rfl) ?_
        refine WL.lv rfl (LV.loadAgg (cs := [(.int .i64 3), (.slice A2 ((inp.getD (i).toNat default).2.length) c2)]) Try.underlying39 rfl ti39 rfl rfl (Blk.agg (SH.at hS8 (.head _)) _ (KB.refl No _))) ?_
        refine WL.xe rfl (XE.buildSlice (E := eE) [(0, (.agg #[(.int .i64 3), (.slice A2 ((inp.getD (i).toNat default).2.length) c2)]))] #[(.int .i64 3), (.slice A2 ((inp.getD (i).toNat default).2.length) c2)] [(3, (⟨A2, (inp.getD (i).toNat default).2.length, c2⟩ : SV))] hS8 Try.underlying24 ti39 rfl (by decide) (by kernel_rfl) (.inr rfl) rfl rfl (by decide)) ?_
        rintro _ w6 ⟨b2, rfl, hS9, hk5⟩
        have hS10 : SH w No w6 [rowE eE 39 (.slice Ao out.length co) (out.map (fun p : ED × List Ln => p.1)), rowE eE 39 (.slice (some ⟨b2, 0, none⟩) 1 1) [(3, (⟨A2, (inp.getD (i).toNat default).2.length, c2⟩ : SV))], blkE b1 39 #[(.int .i64 3), (.slice A2 ((inp.getD (i).toNat default).2.length) c2)]] := (SH.front [rowE eE 39 (.slice (some ⟨b2, 0, none⟩) 1 1) [(3, (⟨A2, (inp.getD (i).toNat default).2.length, c2⟩ : SV))], blkE b1 39 #[(.int .i64 3), (.slice A2 ((inp.getD (i).toNat default).2.length) c2)]] hS9)
        refine WL.xe rfl (XE.appendQ (rows := out) (r := ((3 : Int), (⟨A2, (inp.getD (i).toNat default).2.length, c2⟩ : SV))) ((inp.getD (i).toNat default).2) hS10 Try.underlying24 ti39 rfl (St.now (SH.rd hS10 (.tail _ (.head _)))) rfl rfl (by first | omega | (simp; omega)) (by first | omega | (simp; omega))) ?_
        rintro _ w7 ⟨A3, c3, rfl, hS11, hk6⟩
        refine WL.lv rfl (LV.asg rfl) ?_
        refine WL.nil (blockQ.n <| thenQ.n ?_)
        refine WC.region ?_
        refine WL.lv rfl (LV.add rfl rfl (wr64 (by omega) (by omega))) ?_
        refine WL.lv rfl (LV.mv rfl) ?_
        refine WL.nil (thenQ.n ?_)
        have hS12 : SH w No w7 [rowE eE 39 (.slice A3 ((out ++ [(((3 : Int), (⟨A2, (inp.getD (i).toNat default).2.length, c2⟩ : SV)), (inp.getD (i).toNat default).2)]).length) c3) ((out ++ [(((3 : Int), (⟨A2, (inp.getD (i).toNat default).2.length, c2⟩ : SV)), (inp.getD (i).toNat default).2)]).map (fun p : ED × List Ln => p.1))] := (SH.take 1 rfl hS11)
        exact ⟨_, by omega, i + 1, A3, c3, (out ++ [(((3 : Int), (⟨A2, (inp.getD (i).toNat default).2.length, c2⟩ : SV)), (inp.getD (i).toNat default).2)]), by omega, by omega, (inv_more q0 h16 q2 (by first | (rw [if_pos (by omega)]) | (rw [if_neg (by omega), if_pos (by omega)]) | (rw [if_neg (by omega), if_neg (by omega)]))), (St.inSnoc rfl (St.innerQ hin (getD_mem (by omega)) e2) q3), (by simp; omega), hS12, rfl, Weak.cons rfl <| Weak.cons rfl <| Weak.cons rfl <| Weak.cons rfl <| Weak.cons rfl <| Weak.cons rfl <| Weak.cons rfl <| Weak.cons rfl <| Weak.nil _⟩
      · skip
        refine WC.seq ?_
        refine WC.region ?_
        refine WL.lv rfl (LV.eqI rfl rfl) ?_
        refine WL.lv rfl (LV.asg rfl) ?_
        refine WL.nil (thenQ.n ?_)
        refine WC.condP (p := ((inp.getD (i).toNat default).1.1) = 3) rfl (fun hc3 => ?_) (fun hc3 => ?_)
        · skip
          refine WC.region ?_
          refine WL.lv rfl (LV.fieldA Try.underlying39 rfl ti37.sz rfl) ?_
          refine WL.xse rfl (XSE.blk #[(.int .i64 2), (.slice A2 ((inp.getD (i).toNat default).2.length) c2)] hS7 (Nat.le_of_ble_eq_true rfl) ti37.sz rfl rfl rfl rfl) ?_
          rintro w8 ⟨hS13, hk7⟩
          refine WL.nil (blockQ.n <| thenQ.n ?_)
          refine WC.region ?_
          refine WL.lv rfl (LV.mv rfl) ?_
          refine WL.lv rfl (LV.loadAgg (cs := [(.int .i64 2), (.slice A2 ((inp.getD (i).toNat default).2.length) c2)]) Try.underlying39 rfl ti39 rfl rfl (Blk.agg (SH.at hS13 (.head _)) _ (KB.refl No _))) ?_
          refine WL.xe rfl (XE.buildSlice (E := eE) [(0, (.agg #[(.int .i64 2), (.slice A2 ((inp.getD (i).toNat default).2.length) c2)]))] #[(.int .i64 2), (.slice A2 ((inp.getD (i).toNat default).2.length) c2)] [(2, (⟨A2, (inp.getD (i).toNat default).2.length, c2⟩ : SV))] hS13 Try.underlying24 ti39 rfl (by decide) (by kernel_rfl) (.inr rfl) rfl rfl (by decide)) ?_
          rintro _ w9 ⟨b3, rfl, hS14, hk8⟩
          have hS15 : SH w No w9 [rowE eE 39 (.slice Ao out.length co) (out.map (fun p : ED × List Ln => p.1)), rowE eE 39 (.slice (some ⟨b3, 0, none⟩) 1 1) [(2, (⟨A2, (inp.getD (i).toNat default).2.length, c2⟩ : SV))], blkE b1 39 #[(.int .i64 2), (.slice A2 ((inp.getD (i).toNat default).2.length) c2)]] := (SH.front [rowE eE 39 (.slice (some ⟨b3, 0, none⟩) 1 1) [(2, (⟨A2, (inp.getD (i).toNat default).2.length, c2⟩ : SV))], blkE b1 39 #[(.int .i64 2), (.slice A2 ((inp.getD (i).toNat default).2.length) c2)]] hS14)
          refine WL.xe rfl (XE.appendQ (rows := out) (r := ((2 : Int), (⟨A2, (inp.getD (i).toNat default).2.length, c2⟩ : SV))) ((inp.getD (i).toNat default).2) hS15 Try.underlying24 ti39 rfl (St.now (SH.rd hS15 (.tail _ (.head _)))) rfl rfl (by first | omega | (simp; omega)) (by first | omega | (simp; omega))) ?_
          rintro _ w10 ⟨A4, c4, rfl, hS16, hk9⟩
          refine WL.lv rfl (LV.asg rfl) ?_
          refine WL.nil (blockQ.n <| thenQ.n ?_)
          refine WC.region ?_
          refine WL.lv rfl (LV.add rfl rfl (wr64 (by omega) (by omega))) ?_
          refine WL.lv rfl (LV.mv rfl) ?_
          refine WL.nil (thenQ.n ?_)
          have hS17 : SH w No w10 [rowE eE 39 (.slice A4 ((out ++ [(((2 : Int), (⟨A2, (inp.getD (i).toNat default).2.length, c2⟩ : SV)), (inp.getD (i).toNat default).2)]).length) c4) ((out ++ [(((2 : Int), (⟨A2, (inp.getD (i).toNat default).2.length, c2⟩ : SV)), (inp.getD (i).toNat default).2)]).map (fun p : ED × List Ln => p.1))] := (SH.take 1 rfl hS16)
          exact ⟨_, by omega, i + 1, A4, c4, (out ++ [(((2 : Int), (⟨A2, (inp.getD (i).toNat default).2.length, c2⟩ : SV)), (inp.getD (i).toNat default).2)]), by omega, by omega, (inv_more q0 h16 q2 (by first | (rw [if_pos (by omega)]) | (rw [if_neg (by omega), if_pos (by omega)]) | (rw [if_neg (by omega), if_neg (by omega)]))), (St.inSnoc rfl (St.innerQ hin (getD_mem (by omega)) e2) q3), (by simp; omega), hS17, rfl, Weak.cons rfl <| Weak.cons rfl <| Weak.cons rfl <| Weak.cons rfl <| Weak.cons rfl <| Weak.cons rfl <| Weak.cons rfl <| Weak.cons rfl <| Weak.nil _⟩
        · skip
          refine WC.skip (blockQ.n <| thenQ.n ?_)
          refine WC.region ?_
          refine WL.lv rfl (LV.mv rfl) ?_
          refine WL.lv rfl (LV.loadAgg (cs := [(.int .i64 ((inp.getD (i).toNat default).1.1)), (.slice A2 ((inp.getD (i).toNat default).2.length) c2)]) Try.underlying39 rfl ti39 rfl rfl (Blk.agg (SH.at hS7 (.head _)) _ (KB.refl No _))) ?_
          refine WL.xe rfl (XE.buildSlice (E := eE) [(0, (.agg #[(.int .i64 ((inp.getD (i).toNat default).1.1)), (.slice A2 ((inp.getD (i).toNat default).2.length) c2)]))] #[(.int .i64 ((inp.getD (i).toNat default).1.1)), (.slice A2 ((inp.getD (i).toNat default).2.length) c2)] [((inp.getD (i).toNat default).1.1, (⟨A2, (inp.getD (i).toNat default).2.length, c2⟩ : SV))] hS7 Try.underlying24 ti39 rfl (by decide) (by kernel_rfl) (.inr rfl) rfl rfl (by decide)) ?_
          rintro _ w11 ⟨b4, rfl, hS18, hk10⟩
          have hS19 : SH w No w11 [rowE eE 39 (.slice Ao out.length co) (out.map (fun p : ED × List Ln => p.1)), rowE eE 39 (.slice (some ⟨b4, 0, none⟩) 1 1) [((inp.getD (i).toNat default).1.1, (⟨A2, (inp.getD (i).toNat default).2.length, c2⟩ : SV))], blkE b1 39 #[(.int .i64 ((inp.getD (i).toNat default).1.1)), (.slice A2 ((inp.getD (i).toNat default).2.length) c2)]] := (SH.front [rowE eE 39 (.slice (some ⟨b4, 0, none⟩) 1 1) [((inp.getD (i).toNat default).1.1, (⟨A2, (inp.getD (i).toNat default).2.length, c2⟩ : SV))], blkE b1 39 #[(.int .i64 ((inp.getD (i).toNat default).1.1)), (.slice A2 ((inp.getD (i).toNat default).2.length) c2)]] hS18)
          refine WL.xe rfl (XE.appendQ (rows := out) (r := ((inp.getD (i).toNat default).1.1, (⟨A2, (inp.getD (i).toNat default).2.length, c2⟩ : SV))) ((inp.getD (i).toNat default).2) hS19 Try.underlying24 ti39 rfl (St.now (SH.rd hS19 (.tail _ (.head _)))) rfl rfl (by first | omega | (simp; omega)) (by first | omega | (simp; omega))) ?_
          rintro _ w12 ⟨A5, c5, rfl, hS20, hk11⟩
          refine WL.lv rfl (LV.asg rfl) ?_
          refine WL.nil (blockQ.n <| thenQ.n ?_)
          refine WC.region ?_
          refine WL.lv rfl (LV.add rfl rfl (wr64 (by omega) (by omega))) ?_
          refine WL.lv rfl (LV.mv rfl) ?_
          refine WL.nil (thenQ.n ?_)
          have hS21 : SH w No w12 [rowE eE 39 (.slice A5 ((out ++ [(((inp.getD (i).toNat default).1.1, (⟨A2, (inp.getD (i).toNat default).2.length, c2⟩ : SV)), (inp.getD (i).toNat default).2)]).length) c5) ((out ++ [(((inp.getD (i).toNat default).1.1, (⟨A2, (inp.getD (i).toNat default).2.length, c2⟩ : SV)), (inp.getD (i).toNat default).2)]).map (fun p : ED × List Ln => p.1))] := (SH.take 1 rfl hS20)
          exact ⟨_, by omega, i + 1, A5, c5, (out ++ [(((inp.getD (i).toNat default).1.1, (⟨A2, (inp.getD (i).toNat default).2.length, c2⟩ : SV)), (inp.getD (i).toNat default).2)]), by omega, by omega, (inv_more q0 h16 q2 (by first | (rw [if_pos (by omega)]) | (rw [if_neg (by omega), if_pos (by omega)]) | (rw [if_neg (by omega), if_neg (by omega)]))), (St.inSnoc rfl (St.innerQ hin (getD_mem (by omega)) e2) q3), (by simp; omega), hS21, rfl, Weak.cons rfl <| Weak.cons rfl <| Weak.cons rfl <| Weak.cons rfl <| Weak.cons rfl <| Weak.cons rfl <| Weak.cons rfl <| Weak.cons rfl <| Weak.nil _⟩
    · skip
      refine WC.exit (thenQ.x <| thenQ.x <| blockQ.hit <| thenQ.n ?_)
      refine WC.seq ?_
      refine WC.region ?_
      refine WL.lv rfl (LV.mv rfl) ?_
      refine WL.call rfl (XC.fn Try.func31 (by kernel_rfl) rfl rfl rfl) (normal_calls (SH.rd hL1 (.head _)) (SH.stN hL1 q3) (by rw [q2, scr_all (by omega), tot_inv]; exact (chk0 hck).2.1) (by have h_ := (chk0 hck).1; rw [scr_length] at h_; omega)) ?_
      rintro v_ w13 ⟨A6, c6, rows1, rfl, hnf1, hS22⟩
      have hS23 := SH.joinN hL1 hS22
      iterate 2 refine WL.lv rfl (LV.asg rfl) ?_
      refine WL.nil (thenQ.n ?_)
      refine WC.ret (?_)
      have hS24 : SH w No w13 [rowE eE 39 (.slice A6 rows1.length c6) (rows1.map (fun p : ED × List Ln => p.1)), insE (fun p : ED => p.2) eL 41 rows1] := (SH.take 2 rfl (SH.front [insE (fun p : ED => p.2) eL 41 rows1] (SH.front [rowE eE 39 (.slice A6 rows1.length c6) (rows1.map (fun p : ED × List Ln => p.1))] hS23)))
      exact ⟨_, fun a ha => res2 rfl ha rfl rfl, _, _, _, (by rw [hck]), (by rw [hnf1, q2, scr_all (by omega)]; exact (if_pos hck).symm), hS24⟩

end Go.Proofs.Ytjmfoifohneanaa
