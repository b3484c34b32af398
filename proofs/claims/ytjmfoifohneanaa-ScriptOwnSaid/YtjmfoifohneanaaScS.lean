/- The document's script that goes back. -/
import Derived.Test.YtjmfoifohneanaaScR
namespace Go.Proofs.Ytjmfoifohneanaa
open Go Go.Gv Go.RowKit Go.Mys Go.Num Go.Scr
set_option linter.unusedVariables false
set_option linter.unusedSimpArgs false

theorem rinvert_calls {w : World} {A_inp : Option Addr} {n_inp c_inp : Nat} {inp : List (ED × List Ln)} (h_inp : St No w (Rd eE (.slice A_inp n_inp c_inp) (inp.map (·.1)))) (hi_inp : St No w (RdIn (·.2) eL inp)) (hn_inp : inp.length = n_inp) (hm : ∀ p ∈ inp, p.2.length ≤ 140737488355328) (hsz : inp.length ≤ 4398046511104) :
    Calls Try.prog 28 #[(.slice A_inp n_inp c_inp)] w fun e w' => ∃ v, e = .returned v ∧ (fun v w' => ∃ (A0' : Option Addr) (c0' : Nat) (rows0' : List (ED × List Ln)), v = .tuple #[.slice A0' rows0'.length c0', .int .i64 (chk (scr inp))] ∧ scr rows0' = IVS (scr inp) ∧ SH w No w' [rowE eE 39 (.slice A0' rows0'.length c0') (rows0'.map (fun p : ED × List Ln => p.1)), insE (fun p : ED => p.2) eL 41 rows0']) v w' := by
  subst hn_inp
  have hS : SH w No w [] := SH.nil _ _
  refine calls (l := litOf [(.slice A_inp inp.length c_inp)] 0) Try.func28 rfl (n := 40) rfl (Nat.le_of_ble_eq_true rfl) (lit_args _) ?_
  refine WC.seq ?_
  refine WC.region ?_
  iterate 2 refine WL.lv rfl (LV.asg rfl) ?_
  refine WL.nil (thenQ.n ?_)
  refine WC.seq ?_
  refine WC.region ?_
  refine WL.xe rfl (XE.buildSlice (E := eE) [] #[] [] hS Try.underlying24 ti39 rfl (by decide) (by kernel_rfl) (.inr rfl) rfl rfl (by decide)) ?_
  rintro _ w1 ⟨b1, rfl, hS1, hk1⟩
  refine WL.lv rfl (LV.asg rfl) ?_
  refine WL.nil (thenQ.n ?_)
  iterate 2 refine WC.seq ?_
  refine WC.region ?_
  refine WL.lv rfl (LV.asg rfl) ?_
  refine WL.nil (thenQ.n ?_)
  refine WC.block ?_
  refine WC.loop (fun m_ f_ w_ => ∃ (A_out : Option Addr) (c_out : Nat) (out : List (ED × List Ln)) (i : Int), (0 ≤ i) ∧ (i ≤ (inp.length : Int)) ∧ (scr out = invS ((scr inp).take i.toNat)) ∧ (St No w (RdIn (·.2) eL out)) ∧ ((out.length : Int) = i) ∧ SH w No w_ [rowE eE 39 (.slice A_out out.length c_out) (out.map (fun p : ED × List Ln => p.1))] ∧ m_ = (((inp.length : Int) - i).toNat) ∧ Weak (lit [(0, (.slice A_inp inp.length c_inp)), (4, (.slice A_out out.length c_out)), (5, (.int .i64 i))]) f_) _ ⟨(some ⟨b1, 0, none⟩), 0, [], 0, by omega, by omega, rfl, St.in0, rfl, hS1, rfl, Weak.cons rfl <| Weak.cons rfl <| Weak.cons rfl <| Weak.nil _⟩ ?_
  rintro m1 f1 w2 ⟨A_out, c_out, out, i, ilo, ihi, q2, q3, q4, hL1, rfl, hw1⟩
  refine WC.weak hw1 ?_
  clear hw1
  iterate 2 refine WC.seq ?_
  refine WC.region ?_
  iterate 2 refine WL.lv rfl (LV.mv rfl) ?_
  refine WL.lv rfl (LV.lenL Try.underlying24 rfl) ?_
  refine WL.lv rfl (LV.ltI rfl rfl) ?_
  refine WL.nil (thenQ.n ?_)
  refine WC.condP (p := i < (inp.length : Int)) rfl (fun h11 => ?_) (fun h11 => ?_)
  · skip
    refine WC.skip (thenQ.n ?_)
    refine WC.seq ?_
    refine WC.block ?_
    refine WC.seq ?_
    refine WC.region ?_
    iterate 2 refine WL.lv rfl (LV.mv rfl) ?_
    obtain ⟨A1, c1, A2, c2, e1, g1, e2, r1⟩ := St.eltE (SH.stN hL1 h_inp) (SH.stN hL1 hi_inp) default i (by omega) (by omega)
    refine WL.lv rfl (LV.idxA Try.underlying24 ti39.sz rfl e1 rfl (by omega) (by omega)) ?_
    refine WL.lv rfl (LV.loadAgg (cs := [(.int .i64 ((inp.getD (i).toNat default).1.1)), (.slice A2 ((inp.getD (i).toNat default).2.length) c2)]) Try.underlying39 rfl ti39 rfl rfl (fun j u hu => g1 _ (KB.refl No _) j u hu)) ?_
    refine WL.xe rfl (XE.alloc #[(.int .i64 0), (.slice none 0 0)] hL1 ti39 rfl) ?_
    rintro _ w3 ⟨b2, rfl, hS2, hk2⟩
    refine WL.xse rfl (XSE.blkAgg #[(.int .i64 ((inp.getD (i).toNat default).1.1)), (.slice A2 ((inp.getD (i).toNat default).2.length) c2)] hS2 (by kernel_rfl) rfl (by kernel_rfl) rfl rfl) ?_
    rintro w4 ⟨hS3, hk3⟩
    refine WL.nil (thenQ.n ?_)
    iterate 2 refine WC.seq ?_
    refine WC.region ?_
    iterate 2 refine WL.lv rfl (LV.mv rfl) ?_
    obtain ⟨A3, c3, A4, c4, e3, g2, e4, r2⟩ := St.eltE (SH.stN hS3 h_inp) (SH.stN hS3 hi_inp) default i (by omega) (by omega)
    refine WL.lv rfl (LV.idxA Try.underlying24 ti39.sz rfl e3 rfl (by omega) (by omega)) ?_
    refine WL.lv rfl (LV.fieldA Try.underlying39 rfl ti37.sz rfl) ?_
    refine WL.lv rfl (LV.load1 (v := (.int .i64 ((inp.getD (i).toNat default).1.1))) Try.underlying37 rfl rfl (g2 _ (KB.refl No _) 0 _ rfl)) ?_
    refine WL.lv rfl (LV.eqI rfl rfl) ?_
    refine WL.nil (thenQ.n ?_)
    refine WC.condP (p := ((inp.getD (i).toNat default).1.1) = 2) rfl (fun hc1 => ?_) (fun hc1 => ?_)
    · skip
      refine WC.region ?_
      refine WL.lv rfl (LV.fieldA Try.underlying39 rfl ti37.sz rfl) ?_
      refine WL.xse rfl (XSE.blk #[(.int .i64 3), (.slice A2 ((inp.getD (i).toNat default).2.length) c2)] hS3 (Nat.le_of_ble_eq_true rfl) ti37.sz rfl rfl rfl rfl) ?_
      rintro w5 ⟨hS4, hk4⟩
      refine WL.nil (thenQ.n ?_)
      iterate 2 refine WC.seq ?_
      refine WC.region ?_
      iterate 2 refine WL.lv rfl (LV.mv rfl) ?_
      obtain ⟨A5, c5, A6, c6, e5, g3, e6, r3⟩ := St.eltE (SH.stN hS4 h_inp) (SH.stN hS4 hi_inp) default i (by omega) (by omega)
      refine WL.lv rfl (LV.idxA Try.underlying24 ti39.sz rfl e5 rfl (by omega) (by omega)) ?_
      refine WL.lv rfl (LV.fieldA Try.underlying39 rfl ti37.sz rfl) ?_
      refine WL.lv rfl (LV.load1 (v := (.int .i64 ((inp.getD (i).toNat default).1.1))) Try.underlying37 rfl rfl (g3 _ (KB.refl No _) 0 _ rfl)) ?_
      refine WL.lv rfl (LV.eqI rfl rfl) ?_
      refine WL.nil (thenQ.n ?_)
      refine WC.condP (p := ((inp.getD (i).toNat default).1.1) = 3) rfl (fun hc2 => ?_) (fun hc2 => ?_)
      · skip
        refine WC.region ?_
        refine WL.lv rfl (LV.fieldA Try.underlying39 rfl ti37.sz rfl) ?_
        refine WL.xse rfl (XSE.blk #[(.int .i64 2), (.slice A2 ((inp.getD (i).toNat default).2.length) c2)] hS4 (Nat.le_of_ble_eq_true rfl) ti37.sz rfl rfl rfl rfl) ?_
        rintro w6 ⟨hS5, hk5⟩
        refine WL.nil (thenQ.n ?_)
        refine WC.region ?_
        refine WL.lv rfl (LV.mv rfl) ?_
        refine WL.lv rfl (LV.loadAgg (cs := [(.int .i64 2), (.slice A2 ((inp.getD (i).toNat default).2.length) c2)]) Try.underlying39 rfl ti39 rfl rfl (Blk.agg (SH.at hS5 (.head _)) _ (KB.refl No _))) ?_
        refine WL.xe rfl (XE.buildSlice (E := eE) [(0, (.agg #[(.int .i64 2), (.slice A2 ((inp.getD (i).toNat default).2.length) c2)]))] #[(.int .i64 2), (.slice A2 ((inp.getD (i).toNat default).2.length) c2)] [((2 : Int), (⟨A2, (inp.getD (i).toNat default).2.length, c2⟩ : SV))] hS5 Try.underlying24 ti39 rfl (by decide) (by kernel_rfl) (.inr rfl) rfl rfl (by decide)) ?_
        rintro _ w7 ⟨b3, rfl, hS6, hk6⟩
        have hS7 : SH w No w7 [rowE eE 39 (.slice A_out out.length c_out) (out.map (fun p : ED × List Ln => p.1)), rowE eE 39 (.slice (some ⟨b3, 0, none⟩) 1 1) [((2 : Int), (⟨A2, (inp.getD (i).toNat default).2.length, c2⟩ : SV))], blkE b2 39 #[(.int .i64 2), (.slice A2 ((inp.getD (i).toNat default).2.length) c2)]] := (SH.front [rowE eE 39 (.slice (some ⟨b3, 0, none⟩) 1 1) [((2 : Int), (⟨A2, (inp.getD (i).toNat default).2.length, c2⟩ : SV))], blkE b2 39 #[(.int .i64 2), (.slice A2 ((inp.getD (i).toNat default).2.length) c2)]] hS6)
        refine WL.xe rfl (XE.appendQ (rows := out) (r := ((2 : Int), (⟨A2, (inp.getD (i).toNat default).2.length, c2⟩ : SV))) ((inp.getD (i).toNat default).2) hS7 Try.underlying24 ti39 rfl (St.now (SH.rd hS7 (.tail _ (.head _)))) rfl rfl (by first | omega | (simp; omega)) (by first | omega | (simp; omega))) ?_
        rintro _ w8 ⟨A7, c7, rfl, hS8, hk7⟩
        refine WL.lv rfl (LV.asg rfl) ?_
        refine WL.nil (blockQ.n <| thenQ.n ?_)
        refine WC.region ?_
        refine WL.lv rfl (LV.mv rfl) ?_
        refine WL.lv rfl (LV.add rfl rfl (wr64 (by omega) (by omega))) ?_
        refine WL.lv rfl (LV.asg rfl) ?_
        refine WL.nil (thenQ.n ?_)
        have hS9 : SH w No w8 [rowE eE 39 (.slice A7 ((out ++ [(((2 : Int), (⟨A2, (inp.getD (i).toNat default).2.length, c2⟩ : SV)), (inp.getD (i).toNat default).2)]).length) c7) ((out ++ [(((2 : Int), (⟨A2, (inp.getD (i).toNat default).2.length, c2⟩ : SV)), (inp.getD (i).toNat default).2)]).map (fun p : ED × List Ln => p.1))] := (SH.take 1 rfl hS8)
        exact ⟨_, by omega, A7, c7, (out ++ [(((2 : Int), (⟨A2, (inp.getD (i).toNat default).2.length, c2⟩ : SV)), (inp.getD (i).toNat default).2)]), i + 1, by omega, by omega, (inv_more ilo h11 q2 (by first | (exfalso; omega) | (rw [if_pos (by omega)]) | (rw [if_neg (by omega), if_pos (by omega)]) | (rw [if_neg (by omega), if_neg (by omega)]))), (St.inSnoc rfl (St.innerQ hi_inp (getD_mem (by omega)) e2) q3), (by simp; omega), hS9, rfl, Weak.cons rfl <| Weak.cons rfl <| Weak.cons rfl <| Weak.nil _⟩
      · skip
        refine WC.skip (thenQ.n ?_)
        refine WC.region ?_
        refine WL.lv rfl (LV.mv rfl) ?_
        refine WL.lv rfl (LV.loadAgg (cs := [(.int .i64 3), (.slice A2 ((inp.getD (i).toNat default).2.length) c2)]) Try.underlying39 rfl ti39 rfl rfl (Blk.agg (SH.at hS4 (.head _)) _ (KB.refl No _))) ?_
        refine WL.xe rfl (XE.buildSlice (E := eE) [(0, (.agg #[(.int .i64 3), (.slice A2 ((inp.getD (i).toNat default).2.length) c2)]))] #[(.int .i64 3), (.slice A2 ((inp.getD (i).toNat default).2.length) c2)] [((3 : Int), (⟨A2, (inp.getD (i).toNat default).2.length, c2⟩ : SV))] hS4 Try.underlying24 ti39 rfl (by decide) (by kernel_rfl) (.inr rfl) rfl rfl (by decide)) ?_
        rintro _ w9 ⟨b4, rfl, hS10, hk8⟩
        have hS11 : SH w No w9 [rowE eE 39 (.slice A_out out.length c_out) (out.map (fun p : ED × List Ln => p.1)), rowE eE 39 (.slice (some ⟨b4, 0, none⟩) 1 1) [((3 : Int), (⟨A2, (inp.getD (i).toNat default).2.length, c2⟩ : SV))], blkE b2 39 #[(.int .i64 3), (.slice A2 ((inp.getD (i).toNat default).2.length) c2)]] := (SH.front [rowE eE 39 (.slice (some ⟨b4, 0, none⟩) 1 1) [((3 : Int), (⟨A2, (inp.getD (i).toNat default).2.length, c2⟩ : SV))], blkE b2 39 #[(.int .i64 3), (.slice A2 ((inp.getD (i).toNat default).2.length) c2)]] hS10)
        refine WL.xe rfl (XE.appendQ (rows := out) (r := ((3 : Int), (⟨A2, (inp.getD (i).toNat default).2.length, c2⟩ : SV))) ((inp.getD (i).toNat default).2) hS11 Try.underlying24 ti39 rfl (St.now (SH.rd hS11 (.tail _ (.head _)))) rfl rfl (by first | omega | (simp; omega)) (by first | omega | (simp; omega))) ?_
        rintro _ w10 ⟨A8, c8, rfl, hS12, hk9⟩
        refine WL.lv rfl (LV.asg rfl) ?_
        refine WL.nil (blockQ.n <| thenQ.n ?_)
        refine WC.region ?_
        refine WL.lv rfl (LV.mv rfl) ?_
        refine WL.lv rfl (LV.add rfl rfl (wr64 (by omega) (by omega))) ?_
        refine WL.lv rfl (LV.asg rfl) ?_
        refine WL.nil (thenQ.n ?_)
        have hS13 : SH w No w10 [rowE eE 39 (.slice A8 ((out ++ [(((3 : Int), (⟨A2, (inp.getD (i).toNat default).2.length, c2⟩ : SV)), (inp.getD (i).toNat default).2)]).length) c8) ((out ++ [(((3 : Int), (⟨A2, (inp.getD (i).toNat default).2.length, c2⟩ : SV)), (inp.getD (i).toNat default).2)]).map (fun p : ED × List Ln => p.1))] := (SH.take 1 rfl hS12)
        exact ⟨_, by omega, A8, c8, (out ++ [(((3 : Int), (⟨A2, (inp.getD (i).toNat default).2.length, c2⟩ : SV)), (inp.getD (i).toNat default).2)]), i + 1, by omega, by omega, (inv_more ilo h11 q2 (by first | (exfalso; omega) | (rw [if_pos (by omega)]) | (rw [if_neg (by omega), if_pos (by omega)]) | (rw [if_neg (by omega), if_neg (by omega)]))), (St.inSnoc rfl (St.innerQ hi_inp (getD_mem (by omega)) e2) q3), (by simp; omega), hS13, rfl, Weak.cons rfl <| Weak.cons rfl <| Weak.cons rfl <| Weak.nil _⟩
    · skip
      refine WC.skip (thenQ.n ?_)
      iterate 2 refine WC.seq ?_
      refine WC.region ?_
      iterate 2 refine WL.lv rfl (LV.mv rfl) ?_
      obtain ⟨A9, c9, A10, c10, e7, g4, e8, r4⟩ := St.eltE (SH.stN hS3 h_inp) (SH.stN hS3 hi_inp) default i (by omega) (by omega)
      refine WL.lv rfl (LV.idxA Try.underlying24 ti39.sz rfl e7 rfl (by omega) (by omega)) ?_
      refine WL.lv rfl (LV.fieldA Try.underlying39 rfl ti37.sz rfl) ?_
      refine WL.lv rfl (LV.load1 (v := (.int .i64 ((inp.getD (i).toNat default).1.1))) Try.underlying37 rfl rfl (g4 _ (KB.refl No _) 0 _ rfl)) ?_
      refine WL.lv rfl (LV.eqI rfl rfl) ?_
      refine WL.nil (thenQ.n ?_)
      refine WC.condP (p := ((inp.getD (i).toNat default).1.1) = 3) rfl (fun hc3 => ?_) (fun hc3 => ?_)
      · skip
        refine WC.region ?_
        refine WL.lv rfl (LV.fieldA Try.underlying39 rfl ti37.sz rfl) ?_
        refine WL.xse rfl (XSE.blk #[(.int .i64 2), (.slice A2 ((inp.getD (i).toNat default).2.length) c2)] hS3 (Nat.le_of_ble_eq_true rfl) ti37.sz rfl rfl rfl rfl) ?_
        rintro w11 ⟨hS14, hk10⟩
        refine WL.nil (thenQ.n ?_)
        refine WC.region ?_
        refine WL.lv rfl (LV.mv rfl) ?_
        refine WL.lv rfl (LV.loadAgg (cs := [(.int .i64 2), (.slice A2 ((inp.getD (i).toNat default).2.length) c2)]) Try.underlying39 rfl ti39 rfl rfl (Blk.agg (SH.at hS14 (.head _)) _ (KB.refl No _))) ?_
        refine WL.xe rfl (XE.buildSlice (E := eE) [(0, (.agg #[(.int .i64 2), (.slice A2 ((inp.getD (i).toNat default).2.length) c2)]))] #[(.int .i64 2), (.slice A2 ((inp.getD (i).toNat default).2.length) c2)] [((2 : Int), (⟨A2, (inp.getD (i).toNat default).2.length, c2⟩ : SV))] hS14 Try.underlying24 ti39 rfl (by decide) (by kernel_rfl) (.inr rfl) rfl rfl (by decide)) ?_
        rintro _ w12 ⟨b5, rfl, hS15, hk11⟩
        have hS16 : SH w No w12 [rowE eE 39 (.slice A_out out.length c_out) (out.map (fun p : ED × List Ln => p.1)), rowE eE 39 (.slice (some ⟨b5, 0, none⟩) 1 1) [((2 : Int), (⟨A2, (inp.getD (i).toNat default).2.length, c2⟩ : SV))], blkE b2 39 #[(.int .i64 2), (.slice A2 ((inp.getD (i).toNat default).2.length) c2)]] := (SH.front [rowE eE 39 (.slice (some ⟨b5, 0, none⟩) 1 1) [((2 : Int), (⟨A2, (inp.getD (i).toNat default).2.length, c2⟩ : SV))], blkE b2 39 #[(.int .i64 2), (.slice A2 ((inp.getD (i).toNat default).2.length) c2)]] hS15)
        refine WL.xe rfl (XE.appendQ (rows := out) (r := ((2 : Int), (⟨A2, (inp.getD (i).toNat default).2.length, c2⟩ : SV))) ((inp.getD (i).toNat default).2) hS16 Try.underlying24 ti39 rfl (St.now (SH.rd hS16 (.tail _ (.head _)))) rfl rfl (by first | omega | (simp; omega)) (by first | omega | (simp; omega))) ?_
        rintro _ w13 ⟨A11, c11, rfl, hS17, hk12⟩
        refine WL.lv rfl (LV.asg rfl) ?_
        refine WL.nil (blockQ.n <| thenQ.n ?_)
        refine WC.region ?_
        refine WL.lv rfl (LV.mv rfl) ?_
        refine WL.lv rfl (LV.add rfl rfl (wr64 (by omega) (by omega))) ?_
        refine WL.lv rfl (LV.asg rfl) ?_
        refine WL.nil (thenQ.n ?_)
        have hS18 : SH w No w13 [rowE eE 39 (.slice A11 ((out ++ [(((2 : Int), (⟨A2, (inp.getD (i).toNat default).2.length, c2⟩ : SV)), (inp.getD (i).toNat default).2)]).length) c11) ((out ++ [(((2 : Int), (⟨A2, (inp.getD (i).toNat default).2.length, c2⟩ : SV)), (inp.getD (i).toNat default).2)]).map (fun p : ED × List Ln => p.1))] := (SH.take 1 rfl hS17)
        exact ⟨_, by omega, A11, c11, (out ++ [(((2 : Int), (⟨A2, (inp.getD (i).toNat default).2.length, c2⟩ : SV)), (inp.getD (i).toNat default).2)]), i + 1, by omega, by omega, (inv_more ilo h11 q2 (by first | (exfalso; omega) | (rw [if_pos (by omega)]) | (rw [if_neg (by omega), if_pos (by omega)]) | (rw [if_neg (by omega), if_neg (by omega)]))), (St.inSnoc rfl (St.innerQ hi_inp (getD_mem (by omega)) e2) q3), (by simp; omega), hS18, rfl, Weak.cons rfl <| Weak.cons rfl <| Weak.cons rfl <| Weak.nil _⟩
      · skip
        refine WC.skip (thenQ.n ?_)
        refine WC.region ?_
        refine WL.lv rfl (LV.mv rfl) ?_
        refine WL.lv rfl (LV.loadAgg (cs := [(.int .i64 ((inp.getD (i).toNat default).1.1)), (.slice A2 ((inp.getD (i).toNat default).2.length) c2)]) Try.underlying39 rfl ti39 rfl rfl (Blk.agg (SH.at hS3 (.head _)) _ (KB.refl No _))) ?_
        refine WL.xe rfl (XE.buildSlice (E := eE) [(0, (.agg #[(.int .i64 ((inp.getD (i).toNat default).1.1)), (.slice A2 ((inp.getD (i).toNat default).2.length) c2)]))] #[(.int .i64 ((inp.getD (i).toNat default).1.1)), (.slice A2 ((inp.getD (i).toNat default).2.length) c2)] [((inp.getD (i).toNat default).1.1, (⟨A2, (inp.getD (i).toNat default).2.length, c2⟩ : SV))] hS3 Try.underlying24 ti39 rfl (by decide) (by kernel_rfl) (.inr rfl) rfl rfl (by decide)) ?_
        rintro _ w14 ⟨b6, rfl, hS19, hk13⟩
        have hS20 : SH w No w14 [rowE eE 39 (.slice A_out out.length c_out) (out.map (fun p : ED × List Ln => p.1)), rowE eE 39 (.slice (some ⟨b6, 0, none⟩) 1 1) [((inp.getD (i).toNat default).1.1, (⟨A2, (inp.getD (i).toNat default).2.length, c2⟩ : SV))], blkE b2 39 #[(.int .i64 ((inp.getD (i).toNat default).1.1)), (.slice A2 ((inp.getD (i).toNat default).2.length) c2)]] := (SH.front [rowE eE 39 (.slice (some ⟨b6, 0, none⟩) 1 1) [((inp.getD (i).toNat default).1.1, (⟨A2, (inp.getD (i).toNat default).2.length, c2⟩ : SV))], blkE b2 39 #[(.int .i64 ((inp.getD (i).toNat default).1.1)), (.slice A2 ((inp.getD (i).toNat default).2.length) c2)]] hS19)
        refine WL.xe rfl (XE.appendQ (rows := out) (r := ((inp.getD (i).toNat default).1.1, (⟨A2, (inp.getD (i).toNat default).2.length, c2⟩ : SV))) ((inp.getD (i).toNat default).2) hS20 Try.underlying24 ti39 rfl (St.now (SH.rd hS20 (.tail _ (.head _)))) rfl rfl (by first | omega | (simp; omega)) (by first | omega | (simp; omega))) ?_
        rintro _ w15 ⟨A12, c12, rfl, hS21, hk14⟩
        refine WL.lv rfl (LV.asg rfl) ?_
        refine WL.nil (blockQ.n <| thenQ.n ?_)
        refine WC.region ?_
        refine WL.lv rfl (LV.mv rfl) ?_
        refine WL.lv rfl (LV.add rfl rfl (wr64 (by omega) (by omega))) ?_
        refine WL.lv rfl (LV.asg rfl) ?_
        refine WL.nil (thenQ.n ?_)
        have hS22 : SH w No w15 [rowE eE 39 (.slice A12 ((out ++ [(((inp.getD (i).toNat default).1.1, (⟨A2, (inp.getD (i).toNat default).2.length, c2⟩ : SV)), (inp.getD (i).toNat default).2)]).length) c12) ((out ++ [(((inp.getD (i).toNat default).1.1, (⟨A2, (inp.getD (i).toNat default).2.length, c2⟩ : SV)), (inp.getD (i).toNat default).2)]).map (fun p : ED × List Ln => p.1))] := (SH.take 1 rfl hS21)
        exact ⟨_, by omega, A12, c12, (out ++ [(((inp.getD (i).toNat default).1.1, (⟨A2, (inp.getD (i).toNat default).2.length, c2⟩ : SV)), (inp.getD (i).toNat default).2)]), i + 1, by omega, by omega, (inv_more ilo h11 q2 (by first | (exfalso; omega) | (rw [if_pos (by omega)]) | (rw [if_neg (by omega), if_pos (by omega)]) | (rw [if_neg (by omega), if_neg (by omega)]))), (St.inSnoc rfl (St.innerQ hi_inp (getD_mem (by omega)) e2) q3), (by simp; omega), hS22, rfl, Weak.cons rfl <| Weak.cons rfl <| Weak.cons rfl <| Weak.nil _⟩
  · skip
    refine WC.exit (thenQ.x <| thenQ.x <| blockQ.hit <| thenQ.n ?_)
    refine WC.seq ?_
    refine WC.region ?_
    refine WL.lv rfl (LV.mv rfl) ?_
    refine WL.call rfl (XC.fn Try.func25 (by kernel_rfl) rfl rfl rfl) (rnormal_calls  (SH.rd hL1 (.head _)) (SH.stN hL1 q3) rfl (inv_hm (q2.trans (by rw [scr_all (by omega)])) hm)) ?_
    rintro v_ w16 ⟨A13, c13, rows1, rfl, hq1, hS23⟩
    have hS24 := SH.joinN hL1 hS23
    iterate 2 refine WL.lv rfl (LV.extract rfl rfl) ?_
    iterate 2 refine WL.lv rfl (LV.asg rfl) ?_
    refine WL.nil (thenQ.n ?_)
    refine WC.ret (?_)
    have hS25 : SH w No w16 [rowE eE 39 (.slice A13 rows1.length c13) (rows1.map (fun p : ED × List Ln => p.1)), insE (fun p : ED => p.2) eL 41 rows1] := (SH.take 2 rfl (SH.front [insE (fun p : ED => p.2) eL 41 rows1] (SH.front [rowE eE 39 (.slice A13 rows1.length c13) (rows1.map (fun p : ED × List Ln => p.1))] hS24)))
    exact ⟨_, fun a ha => res2 rfl ha rfl rfl, _, _, _, tup2 rfl (congrArg (Value.int .i64) (by rw [q2, scr_all (by omega)]; exact chk_inv _)), (by rw [hq1, q2, scr_all (by omega)]; exact NF_inv _), hS25⟩

end Go.Proofs.Ytjmfoifohneanaa
