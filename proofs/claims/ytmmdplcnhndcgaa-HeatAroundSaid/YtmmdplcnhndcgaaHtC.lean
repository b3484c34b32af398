/- Shares, and numbers as lines. -/
import Derived.Test.YtmmdplcnhndcgaaHtB
namespace Go.Proofs.Ytmmdplcnhndcgaa
open Go Go.Gv Go.RowKit Go.Flt Go.Dec Go.Ht
set_option linter.unusedVariables false
set_option linter.unusedSimpArgs false

theorem share_calls {w : World} {A_l : Option Addr} {n_l c_l : Nat} {l : List Nat} (h_l : St No w (Rd eF (.slice A_l n_l c_l) l)) (hn_l : l.length = n_l) (wl : ∀ x ∈ l, x < 18446744073709551616) (hl : l.length ≤ 1000000) :
    Calls Try.prog 18 #[(.slice A_l n_l c_l)] w fun e w' => ∃ v, e = .returned v ∧ (fun v w' => ∃ (A0' : Option Addr) (c0' : Nat) (ys' : List Nat), v = .slice A0' (ys').length c0' ∧ Ea (ShP l) ys' (l.length : Int) ∧ SH w No w' [rowE eF 28 (.slice A0' (ys').length c0') ys']) v w' := by
  subst hn_l
  have hma := Rd.max h_l.now
  have hS : SH w No w [] := SH.nil _ _
  refine calls (l := litOf [(.slice A_l l.length c_l)] 0) Try.func18 rfl (n := 39) rfl (Nat.le_of_ble_eq_true rfl) (lit_args _) ?_
  refine WC.seq ?_
  refine WC.region ?_
  refine WL.lv rfl (LV.asg rfl) ?_
  refine WL.nil (thenQ.n ?_)
  refine WC.seq ?_
  refine WC.region ?_
  refine WL.lv rfl (LV.asg rfl) ?_
  refine WL.nil (thenQ.n ?_)
  iterate 2 refine WC.seq ?_
  refine WC.region ?_
  refine WL.lv rfl (LV.mv rfl) ?_
  refine WL.lv rfl (LV.lenL Try.underlying23 rfl) ?_
  refine WL.lv rfl (LV.mv rfl) ?_
  refine WL.nil (thenQ.n ?_)
  refine WC.block ?_
  refine WC.loop (fun m_ f_ w_ => ∃ (sum : Nat) (ix : Int), (0 ≤ ix) ∧ (ix ≤ (l.length : Int)) ∧ (cn sum = SU l ix.toNat) ∧ (sum < 18446744073709551616) ∧ SH w No w_ [] ∧ m_ = (((l.length : Int) - ix).toNat) ∧ Weak (lit [(0, (.slice A_l l.length c_l)), (3, (.float .f64 sum)), (9, (.slice A_l l.length c_l)), (10, (.int .i64 (l.length : Int))), (11, (.int .i64 ix))]) f_) _ ⟨0, 0, by omega, by omega, (su_0 l), (by decide), hS, rfl, Weak.cons rfl <| Weak.cons rfl <| Weak.cons rfl <| Weak.cons rfl <| Weak.cons rfl <| Weak.nil _⟩ ?_
  rintro m1 f1 w1 ⟨sum, ix, ixlo, ixhi, s1, s2, hL1, rfl, hw1⟩
  refine WC.weak hw1 ?_
  clear hw1
  refine WC.seq ?_
  refine WC.region ?_
  refine WL.lv rfl (LV.ltI rfl rfl) ?_
  refine WL.nil (thenQ.n ?_)
  refine WC.seq ?_
  refine WC.condP (p := ix < (l.length : Int)) rfl (fun hk => ?_) (fun hk => ?_)
  · skip
    refine WC.skip (thenQ.n ?_)
    refine WC.seq ?_
    refine WC.block ?_
    refine WC.seq ?_
    refine WC.region ?_
    obtain ⟨A1, c1, e1, g1⟩ := St.elt (SH.stN hL1 h_l) 0 ix (by omega) (by omega)
    refine WL.lv rfl (LV.idxA Try.underlying23 ti28.sz rfl e1 rfl (by omega) (by omega)) ?_
    refine WL.lv rfl (LV.load1 (v := (.float .f64 (l.getD (ix).toNat 0))) Try.underlying28 rfl rfl (g1 _ (KB.refl No _) 0 _ rfl)) ?_
    refine WL.lv rfl (LV.asg rfl) ?_
    refine WL.nil (thenQ.n ?_)
    refine WC.seq ?_
    refine WC.region ?_
    refine WL.lv rfl (LV.mv rfl) ?_
    refine WL.call rfl (XC.fn Try.func26 (by kernel_rfl) rfl rfl rfl) (hnone_calls (x := (l.getD (ix).toNat 0)) ) ?_
    rintro v_ w2 ⟨rfl, hk1⟩
    have hS1 := SH.same hL1 hk1
    refine WL.lv rfl (LV.notP rfl) ?_
    refine WL.nil (thenQ.n ?_)
    refine WC.condP (p := ¬ (¬ (-9218868437227405312 ≤ sk (l.getD (ix).toNat 0) ∧ sk (l.getD (ix).toNat 0) ≤ 9218868437227405312))) rfl (fun hc1 => ?_) (fun hc1 => ?_)
    · skip
      refine WC.region ?_
      iterate 2 refine WL.lv rfl (LV.mv rfl) ?_
      refine WL.xe rfl (XE.arF (a := sum) (b := (l.getD (ix).toNat 0)) hS1 (.inl rfl) rfl rfl) ?_
      rintro _ w3 ⟨r1, rfl, hr1, hb1, hS2, hk2⟩
      have hst_ := su_yes ixlo ⟨by omega, by omega⟩ s1 hr1
      have hbd_ := hb1
      refine WL.lv rfl (LV.asg rfl) ?_
      refine WL.nil (blockQ.n <| thenQ.n ?_)
      refine WC.region ?_
      refine WL.lv rfl (LV.add rfl rfl (wr64 (by omega) (by omega))) ?_
      refine WL.lv rfl (LV.mv rfl) ?_
      refine WL.nil (thenQ.n ?_)
      exact ⟨_, by omega, r1, ix + 1, by omega, by omega, hst_, hbd_, hS2, rfl, Weak.cons rfl <| Weak.cons rfl <| Weak.cons rfl <| Weak.cons rfl <| Weak.cons rfl <| Weak.nil _⟩
    · skip
      refine WC.skip (blockQ.n <| thenQ.n ?_)
      refine WC.region ?_
      refine WL.lv rfl (LV.add rfl rfl (wr64 (by omega) (by omega))) ?_
      refine WL.lv rfl (LV.mv rfl) ?_
      refine WL.nil (thenQ.n ?_)
      exact ⟨_, by omega, sum, ix + 1, by omega, by omega, (s1.trans (su_no ixlo (fun h_ => by omega)).symm), s2, hS1, rfl, Weak.cons rfl <| Weak.cons rfl <| Weak.cons rfl <| Weak.cons rfl <| Weak.cons rfl <| Weak.nil _⟩
  · skip
    refine WC.exit (thenQ.x <| thenQ.x <| blockQ.hit <| thenQ.n ?_)
    refine WC.seq ?_
    refine WC.region ?_
    have hS3 := SH.nilRow (E := eF) (T := 28) hL1
    refine WL.lv rfl (LV.asg rfl) ?_
    refine WL.nil (thenQ.n ?_)
    iterate 2 refine WC.seq ?_
    refine WC.region ?_
    refine WL.lv rfl (LV.mv rfl) ?_
    have hsu_ : cn sum = SU l l.length := by rw [s1]; congr 1; omega
    refine WL.lv rfl (LV.lenL Try.underlying23 rfl) ?_
    refine WL.lv rfl (LV.mv rfl) ?_
    refine WL.nil (thenQ.n ?_)
    refine WC.block ?_
    refine WC.loop (fun m_ f_ w_ => ∃ (A_out : Option Addr) (c_out : Nat) (out : List Nat) (ix2 : Int), (0 ≤ ix2) ∧ (ix2 ≤ (l.length : Int)) ∧ (Ea (ShP l) out ix2) ∧ SH w No w_ [rowE eF 28 (.slice A_out out.length c_out) out] ∧ m_ = (((l.length : Int) - ix2).toNat) ∧ Weak (lit [(3, (.float .f64 sum)), (6, (.slice A_out out.length c_out)), (22, (.slice A_l l.length c_l)), (23, (.int .i64 (l.length : Int))), (24, (.int .i64 ix2))]) f_) _ ⟨none, 0, [], 0, by omega, by omega, (Ea.z _), hS3, rfl, Weak.cons rfl <| Weak.cons rfl <| Weak.cons rfl <| Weak.cons rfl <| Weak.cons rfl <| Weak.nil _⟩ ?_
    rintro m2 f2 w4 ⟨A_out, c_out, out, ix2, ix2lo, ix2hi, q1, hL2, rfl, hw2⟩
    refine WC.weak hw2 ?_
    clear hw2
    have hol_ := q1.len
    refine WC.seq ?_
    refine WC.region ?_
    refine WL.lv rfl (LV.ltI rfl rfl) ?_
    refine WL.nil (thenQ.n ?_)
    refine WC.seq ?_
    refine WC.condP (p := ix2 < (l.length : Int)) rfl (fun hk2 => ?_) (fun hk2 => ?_)
    · skip
      refine WC.skip (thenQ.n ?_)
      refine WC.seq ?_
      refine WC.block ?_
      refine WC.seq ?_
      refine WC.region ?_
      obtain ⟨A2, c2, e2, g2⟩ := St.elt (SH.stN hL2 h_l) 0 ix2 (by omega) (by omega)
      refine WL.lv rfl (LV.idxA Try.underlying23 ti28.sz rfl e2 rfl (by omega) (by omega)) ?_
      refine WL.lv rfl (LV.load1 (v := (.float .f64 (l.getD (ix2).toNat 0))) Try.underlying28 rfl rfl (g2 _ (KB.refl No _) 0 _ rfl)) ?_
      refine WL.lv rfl (LV.asg rfl) ?_
      refine WL.nil (thenQ.n ?_)
      iterate 2 refine WC.seq ?_
      refine WC.region ?_
      refine WL.lv rfl (LV.mv rfl) ?_
      have hsk_0 : sk 0 = (0 : Int) := by decide +kernel
      refine WL.lv rfl (LV.eqF (a := sum) (b := 0) rfl rfl) ?_
      refine WL.nil (thenQ.n ?_)
      refine WC.condP (p := ((-9218868437227405312 ≤ sk sum ∧ sk sum ≤ 9218868437227405312) ∧ (-9218868437227405312 ≤ (0 : Int) ∧ (0 : Int) ≤ 9218868437227405312)) ∧ sk sum = (0 : Int)) rfl (fun hc2 => ?_) (fun hc2 => ?_)
      · skip
        refine WC.region ?_
        refine WL.call rfl (XC.fn Try.func22 (by kernel_rfl) rfl rfl rfl) (hnan_calls  ) ?_
        rintro v_ w5 ⟨r2, rfl, hf1, hf2, hk3⟩
        have hS4 := SH.same hL2 hk3
        refine WL.lv rfl (LV.asg rfl) ?_
        refine WL.nil (thenQ.n ?_)
        refine WC.region ?_
        iterate 3 refine WL.lv rfl (LV.mv rfl) ?_
        refine WL.xe rfl (XE.arF (a := r2) (b := sum) hS4 (.inr (.inr (.inr rfl))) rfl rfl) ?_
        rintro _ w6 ⟨r3, rfl, hr2, hb2, hS5, hk4⟩
        have hqr_ := hr2
        have hqb_ := hb2
        refine WL.xe rfl (XE.buildSlice (E := eF) [(0, (.float .f64 r3))] #[(.float .f64 r3)] [r3] hS5 Try.underlying23 ti28 rfl (by decide) (by kernel_rfl) (.inr rfl) rfl rfl (by decide)) ?_
        rintro _ w7 ⟨b1, rfl, hS6, hk5⟩
        have hS7 : SH w No w7 [rowE eF 28 (.slice A_out out.length c_out) out, rowE eF 28 (.slice (some ⟨b1, 0, none⟩) 1 1) [r3]] := (SH.front [rowE eF 28 (.slice (some ⟨b1, 0, none⟩) 1 1) [r3]] hS6)
        refine WL.xe rfl (XE.append hS7 Try.underlying23 ti28 rfl (St.now (SH.rd hS7 (.tail _ (.head _)))) rfl rfl (by first | omega | simp only [List.length_append, List.length_cons, List.length_nil, List.length_take, List.length_reverse, List.length_drop] at *; omega) (by first | omega | simp only [List.length_append, List.length_cons, List.length_nil, List.length_take, List.length_reverse, List.length_drop] at *; omega)) ?_
        rintro _ w8 ⟨A3, c3, rfl, hS8, hk6⟩
        refine WL.lv rfl (LV.asg rfl) ?_
        refine WL.nil (blockQ.n <| thenQ.n ?_)
        refine WC.region ?_
        refine WL.lv rfl (LV.add rfl rfl (wr64 (by omega) (by omega))) ?_
        refine WL.lv rfl (LV.mv rfl) ?_
        refine WL.nil (thenQ.n ?_)
        have hS9 : SH w No w8 [rowE eF 28 (.slice A3 ((out ++ [r3]).length) c3) (out ++ [r3])] := (SH.take 1 rfl hS8)
        exact ⟨_, by omega, A3, c3, (out ++ [r3]), ix2 + 1, by omega, by omega, (q1.snoc ix2lo ⟨hqb_, shv_n hsu_ (by omega) (hqr_.trans (nan_op (cn_none hf1)))⟩), hS9, rfl, Weak.cons rfl <| Weak.cons rfl <| Weak.cons rfl <| Weak.cons rfl <| Weak.cons rfl <| Weak.nil _⟩
      · skip
        refine WC.skip (thenQ.n ?_)
        refine WC.region ?_
        iterate 3 refine WL.lv rfl (LV.mv rfl) ?_
        refine WL.xe rfl (XE.arF (a := (l.getD (ix2).toNat 0)) (b := sum) hL2 (.inr (.inr (.inr rfl))) rfl rfl) ?_
        rintro _ w9 ⟨r4, rfl, hr3, hb3, hS10, hk7⟩
        have hqr_ := hr3
        have hqb_ := hb3
        refine WL.xe rfl (XE.buildSlice (E := eF) [(0, (.float .f64 r4))] #[(.float .f64 r4)] [r4] hS10 Try.underlying23 ti28 rfl (by decide) (by kernel_rfl) (.inr rfl) rfl rfl (by decide)) ?_
        rintro _ w10 ⟨b2, rfl, hS11, hk8⟩
        have hS12 : SH w No w10 [rowE eF 28 (.slice A_out out.length c_out) out, rowE eF 28 (.slice (some ⟨b2, 0, none⟩) 1 1) [r4]] := (SH.front [rowE eF 28 (.slice (some ⟨b2, 0, none⟩) 1 1) [r4]] hS11)
        refine WL.xe rfl (XE.append hS12 Try.underlying23 ti28 rfl (St.now (SH.rd hS12 (.tail _ (.head _)))) rfl rfl (by first | omega | simp only [List.length_append, List.length_cons, List.length_nil, List.length_take, List.length_reverse, List.length_drop] at *; omega) (by first | omega | simp only [List.length_append, List.length_cons, List.length_nil, List.length_take, List.length_reverse, List.length_drop] at *; omega)) ?_
        rintro _ w11 ⟨A4, c4, rfl, hS13, hk9⟩
        refine WL.lv rfl (LV.asg rfl) ?_
        refine WL.nil (blockQ.n <| thenQ.n ?_)
        refine WC.region ?_
        refine WL.lv rfl (LV.add rfl rfl (wr64 (by omega) (by omega))) ?_
        refine WL.lv rfl (LV.mv rfl) ?_
        refine WL.nil (thenQ.n ?_)
        have hS14 : SH w No w11 [rowE eF 28 (.slice A4 ((out ++ [r4]).length) c4) (out ++ [r4])] := (SH.take 1 rfl hS13)
        exact ⟨_, by omega, A4, c4, (out ++ [r4]), ix2 + 1, by omega, by omega, (q1.snoc ix2lo ⟨hqb_, shv_q hsu_ (by omega) hqr_⟩), hS14, rfl, Weak.cons rfl <| Weak.cons rfl <| Weak.cons rfl <| Weak.cons rfl <| Weak.cons rfl <| Weak.nil _⟩
    · skip
      refine WC.exit (thenQ.x <| thenQ.x <| blockQ.hit <| thenQ.n ?_)
      refine WC.seq ?_
      refine WC.region ?_
      refine WL.lv rfl (LV.mv rfl) ?_
      refine WL.lv rfl (LV.asg rfl) ?_
      refine WL.nil (thenQ.n ?_)
      refine WC.ret (?_)
      exact ⟨_, fun a ha => res1 rfl ha rfl, _, _, out, rfl, q1.fin (by omega), hL2⟩

theorem rshare_calls {w : World} {A_l : Option Addr} {n_l c_l : Nat} {l : List Nat} (h_l : St No w (Rd eF (.slice A_l n_l c_l) l)) (hn_l : l.length = n_l) (wl : ∀ x ∈ l, x < 18446744073709551616) (hl : l.length ≤ 1000000) :
    Calls Try.prog 19 #[(.slice A_l n_l c_l)] w fun e w' => ∃ v, e = .returned v ∧ (fun v w' => ∃ (A0' : Option Addr) (c0' : Nat) (ys' : List Nat), v = .slice A0' (ys').length c0' ∧ Ea (ShP l) ys' (l.length : Int) ∧ SH w No w' [rowE eF 28 (.slice A0' (ys').length c0') ys']) v w' := by
  subst hn_l
  have hma := Rd.max h_l.now
  have hS : SH w No w [] := SH.nil _ _
  refine calls (l := litOf [(.slice A_l l.length c_l)] 0) Try.func19 rfl (n := 51) rfl (Nat.le_of_ble_eq_true rfl) (lit_args _) ?_
  refine WC.seq ?_
  refine WC.region ?_
  refine WL.lv rfl (LV.asg rfl) ?_
  refine WL.nil (thenQ.n ?_)
  refine WC.seq ?_
  refine WC.region ?_
  refine WL.lv rfl (LV.asg rfl) ?_
  refine WL.nil (thenQ.n ?_)
  iterate 2 refine WC.seq ?_
  refine WC.region ?_
  refine WL.lv rfl (LV.asg rfl) ?_
  refine WL.nil (thenQ.n ?_)
  refine WC.block ?_
  refine WC.loop (fun m_ f_ w_ => ∃ (sum : Nat) (i : Int), (0 ≤ i) ∧ (i ≤ (l.length : Int)) ∧ (cn sum = SU l i.toNat) ∧ (sum < 18446744073709551616) ∧ SH w No w_ [] ∧ m_ = (((l.length : Int) - i).toNat) ∧ Weak (lit [(0, (.slice A_l l.length c_l)), (3, (.float .f64 sum)), (4, (.int .i64 i))]) f_) _ ⟨0, 0, by omega, by omega, (su_0 l), (by decide), hS, rfl, Weak.cons rfl <| Weak.cons rfl <| Weak.cons rfl <| Weak.nil _⟩ ?_
  rintro m1 f1 w1 ⟨sum, i, ilo, ihi, s1, s2, hL1, rfl, hw1⟩
  refine WC.weak hw1 ?_
  clear hw1
  iterate 2 refine WC.seq ?_
  refine WC.region ?_
  iterate 2 refine WL.lv rfl (LV.mv rfl) ?_
  refine WL.lv rfl (LV.lenL Try.underlying23 rfl) ?_
  refine WL.lv rfl (LV.ltI rfl rfl) ?_
  refine WL.nil (thenQ.n ?_)
  refine WC.condP (p := i < (l.length : Int)) rfl (fun hk => ?_) (fun hk => ?_)
  · skip
    refine WC.skip (thenQ.n ?_)
    refine WC.seq ?_
    refine WC.block ?_
    refine WC.seq ?_
    have hS1 := SH.drew hL1
    refine WC.regionD [] (fun w_ => KB No w1.drew w_) [(.pure, 0), (.pure, 1), (.pure, 2), (.look, 3), (.pure, 4), (.pure, 5), (.pure, 6), (.look, 7), (.pure, 8)] (by kernel_rfl) (by kernel_rfl) (KB.refl _ _) ?_
    iterate 2 refine WS.pure rfl rfl (fun _ => LV.mv rfl) ?_
    obtain ⟨A1, c1, e1, g1⟩ := St.elt (SH.stN hS1 h_l) 0 i (by omega) (by omega)
    refine WS.pure rfl rfl (fun _ => LV.idxA Try.underlying23 ti28.sz rfl e1 rfl (by omega) (by omega)) ?_
    refine WS.look rfl rfl (fun _ hk_ => LV.load1 (v := (.float .f64 (l.getD (i).toNat 0))) Try.underlying28 rfl rfl (g1 _ hk_ 0 _ rfl)) ?_
    iterate 2 refine WS.pure rfl rfl (fun _ => LV.mv rfl) ?_
    obtain ⟨A2, c2, e2, g2⟩ := St.elt (SH.stN hS1 h_l) 0 i (by omega) (by omega)
    refine WS.pure rfl rfl (fun _ => LV.idxA Try.underlying23 ti28.sz rfl e2 rfl (by omega) (by omega)) ?_
    refine WS.look rfl rfl (fun _ hk_ => LV.load1 (v := (.float .f64 (l.getD (i).toNat 0))) Try.underlying28 rfl rfl (g2 _ hk_ 0 _ rfl)) ?_
    refine WS.pure rfl rfl (fun _ => LV.eqF (a := (l.getD (i).toNat 0)) (b := (l.getD (i).toNat 0)) rfl rfl) ?_
    refine WS.nil (thenQ.n ?_)
    refine WC.condP (p := ((-9218868437227405312 ≤ sk (l.getD (i).toNat 0) ∧ sk (l.getD (i).toNat 0) ≤ 9218868437227405312) ∧ (-9218868437227405312 ≤ sk (l.getD (i).toNat 0) ∧ sk (l.getD (i).toNat 0) ≤ 9218868437227405312)) ∧ sk (l.getD (i).toNat 0) = sk (l.getD (i).toNat 0)) rfl (fun hc1 => ?_) (fun hc1 => ?_)
    · skip
      refine WC.region ?_
      iterate 3 refine WL.lv rfl (LV.mv rfl) ?_
      obtain ⟨A3, c3, e3, g3⟩ := St.elt (SH.stN hS1 h_l) 0 i (by omega) (by omega)
      refine WL.lv rfl (LV.idxA Try.underlying23 ti28.sz rfl e3 rfl (by omega) (by omega)) ?_
      refine WL.lv rfl (LV.load1 (v := (.float .f64 (l.getD (i).toNat 0))) Try.underlying28 rfl rfl (g3 _ (KB.refl No _) 0 _ rfl)) ?_
      refine WL.xe rfl (XE.arF (a := sum) (b := (l.getD (i).toNat 0)) hS1 (.inl rfl) rfl rfl) ?_
      rintro _ w2 ⟨r1, rfl, hr1, hb1, hS2, hk1⟩
      have hst_ := su_yes ilo ⟨by omega, by omega⟩ s1 hr1
      have hbd_ := hb1
      refine WL.lv rfl (LV.asg rfl) ?_
      refine WL.nil (blockQ.n <| thenQ.n ?_)
      refine WC.region ?_
      refine WL.lv rfl (LV.mv rfl) ?_
      refine WL.lv rfl (LV.add rfl rfl (wr64 (by omega) (by omega))) ?_
      refine WL.lv rfl (LV.asg rfl) ?_
      refine WL.nil (thenQ.n ?_)
      exact ⟨_, by omega, r1, i + 1, by omega, by omega, hst_, hbd_, hS2, rfl, Weak.cons rfl <| Weak.cons rfl <| Weak.cons rfl <| Weak.nil _⟩
    · skip
      refine WC.skip (blockQ.n <| thenQ.n ?_)
      refine WC.region ?_
      refine WL.lv rfl (LV.mv rfl) ?_
      refine WL.lv rfl (LV.add rfl rfl (wr64 (by omega) (by omega))) ?_
      refine WL.lv rfl (LV.asg rfl) ?_
      refine WL.nil (thenQ.n ?_)
      exact ⟨_, by omega, sum, i + 1, by omega, by omega, (s1.trans (su_no ilo (fun h_ => by omega)).symm), s2, hS1, rfl, Weak.cons rfl <| Weak.cons rfl <| Weak.cons rfl <| Weak.nil _⟩
  · skip
    refine WC.exit (thenQ.x <| thenQ.x <| blockQ.hit <| thenQ.n ?_)
    refine WC.seq ?_
    refine WC.region ?_
    have hsu_ : cn sum = SU l l.length := by rw [s1]; congr 1; omega
    refine WL.xe rfl (XE.buildSlice (E := eF) [] #[] [] hL1 Try.underlying23 ti28 rfl (by decide) (by kernel_rfl) (.inr rfl) rfl rfl (by decide)) ?_
    rintro _ w3 ⟨b1, rfl, hS3, hk2⟩
    refine WL.lv rfl (LV.asg rfl) ?_
    refine WL.nil (thenQ.n ?_)
    iterate 2 refine WC.seq ?_
    refine WC.region ?_
    refine WL.lv rfl (LV.asg rfl) ?_
    refine WL.nil (thenQ.n ?_)
    refine WC.block ?_
    refine WC.loop (fun m_ f_ w_ => ∃ (A_out : Option Addr) (c_out : Nat) (out : List Nat) (i2 : Int), (0 ≤ i2) ∧ (i2 ≤ (l.length : Int)) ∧ (Ea (ShP l) out i2) ∧ SH w No w_ [rowE eF 28 (.slice A_out out.length c_out) out] ∧ m_ = (((l.length : Int) - i2).toNat) ∧ Weak (lit [(0, (.slice A_l l.length c_l)), (3, (.float .f64 sum)), (5, (.slice A_out out.length c_out)), (6, (.int .i64 i2))]) f_) _ ⟨(some ⟨b1, 0, none⟩), 0, [], 0, by omega, by omega, (Ea.z _), hS3, rfl, Weak.cons rfl <| Weak.cons rfl <| Weak.cons rfl <| Weak.cons rfl <| Weak.nil _⟩ ?_
    rintro m2 f2 w4 ⟨A_out, c_out, out, i2, i2lo, i2hi, q1, hL2, rfl, hw2⟩
    refine WC.weak hw2 ?_
    clear hw2
    have hol_ := q1.len
    iterate 2 refine WC.seq ?_
    refine WC.region ?_
    iterate 2 refine WL.lv rfl (LV.mv rfl) ?_
    refine WL.lv rfl (LV.lenL Try.underlying23 rfl) ?_
    refine WL.lv rfl (LV.ltI rfl rfl) ?_
    refine WL.nil (thenQ.n ?_)
    refine WC.condP (p := i2 < (l.length : Int)) rfl (fun hk2 => ?_) (fun hk2 => ?_)
    · skip
      refine WC.skip (thenQ.n ?_)
      refine WC.seq ?_
      refine WC.block ?_
      refine WC.seq ?_
      refine WC.region ?_
      refine WL.lv rfl (LV.mv rfl) ?_
      have hsk_0 : sk 0 = (0 : Int) := by decide +kernel
      refine WL.lv rfl (LV.eqF (a := sum) (b := 0) rfl rfl) ?_
      refine WL.nil (thenQ.n ?_)
      refine WC.condP (p := ((-9218868437227405312 ≤ sk sum ∧ sk sum ≤ 9218868437227405312) ∧ (-9218868437227405312 ≤ (0 : Int) ∧ (0 : Int) ≤ 9218868437227405312)) ∧ sk sum = (0 : Int)) rfl (fun hc2 => ?_) (fun hc2 => ?_)
      · skip
        refine WC.region ?_
        refine WL.lv rfl (LV.mv rfl) ?_
        refine WL.call rfl (XC.fn Try.func24 (by kernel_rfl) rfl rfl rfl) (none_calls  ) ?_
        rintro v_ w5 ⟨r2, rfl, hf1, hf2, hk3⟩
        have hS4 := SH.same hL2 hk3
        refine WL.xe rfl (XE.buildSlice (E := eF) [(0, (.float .f64 r2))] #[(.float .f64 r2)] [r2] hS4 Try.underlying23 ti28 rfl (by decide) (by kernel_rfl) (.inr rfl) rfl rfl (by decide)) ?_
        rintro _ w6 ⟨b2, rfl, hS5, hk4⟩
        have hS6 : SH w No w6 [rowE eF 28 (.slice A_out out.length c_out) out, rowE eF 28 (.slice (some ⟨b2, 0, none⟩) 1 1) [r2]] := (SH.front [rowE eF 28 (.slice (some ⟨b2, 0, none⟩) 1 1) [r2]] hS5)
        refine WL.xe rfl (XE.append hS6 Try.underlying23 ti28 rfl (St.now (SH.rd hS6 (.tail _ (.head _)))) rfl rfl (by first | omega | simp only [List.length_append, List.length_cons, List.length_nil, List.length_take, List.length_reverse, List.length_drop] at *; omega) (by first | omega | simp only [List.length_append, List.length_cons, List.length_nil, List.length_take, List.length_reverse, List.length_drop] at *; omega)) ?_
        rintro _ w7 ⟨A4, c4, rfl, hS7, hk5⟩
        refine WL.lv rfl (LV.asg rfl) ?_
        refine WL.nil (blockQ.n <| thenQ.n ?_)
        refine WC.region ?_
        refine WL.lv rfl (LV.mv rfl) ?_
        refine WL.lv rfl (LV.add rfl rfl (wr64 (by omega) (by omega))) ?_
        refine WL.lv rfl (LV.asg rfl) ?_
        refine WL.nil (thenQ.n ?_)
        have hS8 : SH w No w7 [rowE eF 28 (.slice A4 ((out ++ [r2]).length) c4) (out ++ [r2])] := (SH.take 1 rfl hS7)
        exact ⟨_, by omega, A4, c4, (out ++ [r2]), i2 + 1, by omega, by omega, (q1.snoc i2lo ⟨hf2, shv_n hsu_ (by omega) hf1⟩), hS8, rfl, Weak.cons rfl <| Weak.cons rfl <| Weak.cons rfl <| Weak.cons rfl <| Weak.nil _⟩
      · skip
        refine WC.region ?_
        iterate 3 refine WL.lv rfl (LV.mv rfl) ?_
        obtain ⟨A5, c5, e4, g4⟩ := St.elt (SH.stN hL2 h_l) 0 i2 (by omega) (by omega)
        refine WL.lv rfl (LV.idxA Try.underlying23 ti28.sz rfl e4 rfl (by omega) (by omega)) ?_
        refine WL.lv rfl (LV.load1 (v := (.float .f64 (l.getD (i2).toNat 0))) Try.underlying28 rfl rfl (g4 _ (KB.refl No _) 0 _ rfl)) ?_
        refine WL.lv rfl (LV.mv rfl) ?_
        refine WL.xe rfl (XE.arF (a := (l.getD (i2).toNat 0)) (b := sum) hL2 (.inr (.inr (.inr rfl))) rfl rfl) ?_
        rintro _ w8 ⟨r3, rfl, hr2, hb2, hS9, hk6⟩
        have hqr_ := hr2
        have hqb_ := hb2
        refine WL.xe rfl (XE.buildSlice (E := eF) [(0, (.float .f64 r3))] #[(.float .f64 r3)] [r3] hS9 Try.underlying23 ti28 rfl (by decide) (by kernel_rfl) (.inr rfl) rfl rfl (by decide)) ?_
        rintro _ w9 ⟨b3, rfl, hS10, hk7⟩
        have hS11 : SH w No w9 [rowE eF 28 (.slice A_out out.length c_out) out, rowE eF 28 (.slice (some ⟨b3, 0, none⟩) 1 1) [r3]] := (SH.front [rowE eF 28 (.slice (some ⟨b3, 0, none⟩) 1 1) [r3]] hS10)
        refine WL.xe rfl (XE.append hS11 Try.underlying23 ti28 rfl (St.now (SH.rd hS11 (.tail _ (.head _)))) rfl rfl (by first | omega | simp only [List.length_append, List.length_cons, List.length_nil, List.length_take, List.length_reverse, List.length_drop] at *; omega) (by first | omega | simp only [List.length_append, List.length_cons, List.length_nil, List.length_take, List.length_reverse, List.length_drop] at *; omega)) ?_
        rintro _ w10 ⟨A6, c6, rfl, hS12, hk8⟩
        refine WL.lv rfl (LV.asg rfl) ?_
        refine WL.nil (blockQ.n <| thenQ.n ?_)
        refine WC.region ?_
        refine WL.lv rfl (LV.mv rfl) ?_
        refine WL.lv rfl (LV.add rfl rfl (wr64 (by omega) (by omega))) ?_
        refine WL.lv rfl (LV.asg rfl) ?_
        refine WL.nil (thenQ.n ?_)
        have hS13 : SH w No w10 [rowE eF 28 (.slice A6 ((out ++ [r3]).length) c6) (out ++ [r3])] := (SH.take 1 rfl hS12)
        exact ⟨_, by omega, A6, c6, (out ++ [r3]), i2 + 1, by omega, by omega, (q1.snoc i2lo ⟨hqb_, shv_q hsu_ (by omega) hqr_⟩), hS13, rfl, Weak.cons rfl <| Weak.cons rfl <| Weak.cons rfl <| Weak.cons rfl <| Weak.nil _⟩
    · skip
      refine WC.exit (thenQ.x <| thenQ.x <| blockQ.hit <| thenQ.n ?_)
      refine WC.seq ?_
      refine WC.region ?_
      refine WL.lv rfl (LV.mv rfl) ?_
      refine WL.lv rfl (LV.asg rfl) ?_
      refine WL.nil (thenQ.n ?_)
      refine WC.ret (?_)
      exact ⟨_, fun a ha => res1 rfl ha rfl, _, _, out, rfl, q1.fin (by omega), hL2⟩

set_option maxHeartbeats 1000000 in
theorem hprint_calls {w : World} {A_l : Option Addr} {n_l c_l : Nat} {l : List Nat} (h_l : St No w (Rd eF (.slice A_l n_l c_l) l)) (hn_l : l.length = n_l) (wl : ∀ x ∈ l, x < 18446744073709551616) (hl : l.length ≤ 1000) :
    Calls Try.prog 20 #[(.slice A_l n_l c_l)] w fun e w' => ∃ v, e = .returned v ∧ (fun v w' => ∃ (A0' : Option Addr) (c0' : Nat), v = .slice A0' (bytesOf (PRH l l.length)).length c0' ∧ SH w No w' [rowE eU8 5 (.slice A0' (bytesOf (PRH l l.length)).length c0') (bytesOf (PRH l l.length))]) v w' := by
  subst hn_l
  have hS : SH w No w [] := SH.nil _ _
  refine calls (l := litOf [(.slice A_l l.length c_l)] 0) Try.func20 rfl (n := 32) rfl (Nat.le_of_ble_eq_true rfl) (lit_args _) ?_
  refine WC.seq ?_
  refine WC.region ?_
  refine WL.lv rfl (LV.asg rfl) ?_
  refine WL.nil (thenQ.n ?_)
  refine WC.seq ?_
  refine WC.region ?_
  refine WL.xe rfl (XE.buildSlice (E := eU8) [] #[] [] hS Try.underlying38 ti5 rfl (by decide) (by kernel_rfl) (.inr rfl) rfl rfl (by decide)) ?_
  rintro _ w1 ⟨b1, rfl, hS1, hk1⟩
  refine WL.lv rfl (LV.asg rfl) ?_
  refine WL.nil (thenQ.n ?_)
  iterate 2 refine WC.seq ?_
  refine WC.region ?_
  refine WL.lv rfl (LV.mv rfl) ?_
  refine WL.lv rfl (LV.lenL Try.underlying23 rfl) ?_
  refine WL.lv rfl (LV.mv rfl) ?_
  refine WL.nil (thenQ.n ?_)
  refine WC.block ?_
  refine WC.loop (fun m_ f_ w_ => ∃ (A_out : Option Addr) (c_out : Nat) (out : List Int) (ix : Int), (0 ≤ ix) ∧ (ix ≤ (l.length : Int)) ∧ (out = bytesOf (PRH l ix.toNat)) ∧ SH w No w_ [rowE eU8 5 (.slice A_out out.length c_out) out] ∧ m_ = (((l.length : Int) - ix).toNat) ∧ Weak (lit [(3, (.slice A_out out.length c_out)), (8, (.slice A_l l.length c_l)), (9, (.int .i64 (l.length : Int))), (10, (.int .i64 ix))]) f_) _ ⟨(some ⟨b1, 0, none⟩), 0, [], 0, by omega, by omega, rfl, hS1, rfl, Weak.cons rfl <| Weak.cons rfl <| Weak.cons rfl <| Weak.cons rfl <| Weak.nil _⟩ ?_
  rintro m1 f1 w2 ⟨A_out, c_out, out, ix, ixlo, ixhi, q1, hL1, rfl, hw1⟩
  refine WC.weak hw1 ?_
  clear hw1
  have hol_ : (out.length : Int) = ((PRH l ix.toNat).size : Int) := by rw [q1, bytesOf_len]
  refine WC.seq ?_
  refine WC.region ?_
  refine WL.lv rfl (LV.ltI rfl rfl) ?_
  refine WL.nil (thenQ.n ?_)
  refine WC.seq ?_
  refine WC.condP (p := ix < (l.length : Int)) rfl (fun hk => ?_) (fun hk => ?_)
  · have hd1_ := DEC_size (ix + 1)
    have hd2_ := DEC_size (MIL (l.getD ix.toNat 0))
    have hps_ := PRH_size l ixlo
    have hpn_ := PRH_snoc l ixlo
    have hwl_ := wl (l.getD ix.toNat 0) (getD_mem (by omega))
    refine WC.skip (thenQ.n ?_)
    refine WC.seq ?_
    refine WC.block ?_
    refine WC.seq ?_
    refine WC.region ?_
    refine WL.lv rfl (LV.mv rfl) ?_
    obtain ⟨A1, c1, e1, g1⟩ := St.elt (SH.stN hL1 h_l) 0 ix (by omega) (by omega)
    refine WL.lv rfl (LV.idxA Try.underlying23 ti28.sz rfl e1 rfl (by omega) (by omega)) ?_
    refine WL.lv rfl (LV.load1 (v := (.float .f64 (l.getD (ix).toNat 0))) Try.underlying28 rfl rfl (g1 _ (KB.refl No _) 0 _ rfl)) ?_
    iterate 2 refine WL.lv rfl (LV.asg rfl) ?_
    refine WL.nil (thenQ.n ?_)
    refine WC.seq ?_
    refine WC.region ?_
    refine WL.lv rfl (LV.asg rfl) ?_
    refine WL.nil (thenQ.n ?_)
    iterate 2 refine WC.seq ?_
    refine WC.region ?_
    refine WL.lv rfl (LV.mv rfl) ?_
    refine WL.call rfl (XC.fn Try.func26 (by kernel_rfl) rfl rfl rfl) (hnone_calls (x := (l.getD (ix).toNat 0)) ) ?_
    rintro v_ w3 ⟨rfl, hk2⟩
    have hS2 := SH.same hL1 hk2
    refine WL.lv rfl (LV.notP rfl) ?_
    refine WL.nil (thenQ.n ?_)
    refine WC.condP (p := ¬ (¬ (-9218868437227405312 ≤ sk (l.getD (ix).toNat 0) ∧ sk (l.getD (ix).toNat 0) ≤ 9218868437227405312))) rfl (fun hc1 => ?_) (fun hc1 => ?_)
    · skip
      refine WC.region ?_
      refine WL.lv rfl (LV.mv rfl) ?_
      refine WL.call rfl (XC.fn Try.func34 (by kernel_rfl) rfl rfl rfl) (mille_calls (x := (l.getD (ix).toNat 0)) (by first | assumption | omega | exact hp _ (getD_mem (by omega)) | exact hpz _ (getD_mem (by omega)))) ?_
      rintro v_ w4 ⟨rfl, hk3⟩
      have hS3 := SH.same hS2 hk3
      refine WL.call rfl (XC.fn Try.func33 (by kernel_rfl) rfl rfl rfl) (decimal_calls (n := (MIL (l.getD (ix).toNat 0))) ) ?_
      rintro v_ w5 ⟨rfl, hk4⟩
      have hS4 := SH.same hS3 hk4
      refine WL.lv rfl (LV.asg rfl) ?_
      refine WL.nil (thenQ.n ?_)
      refine WC.region ?_
      iterate 2 refine WL.lv rfl (LV.mv rfl) ?_
      refine WL.lv rfl (LV.add rfl rfl (wr64 (by omega) (by omega))) ?_
      refine WL.call rfl (XC.fn Try.func33 (by kernel_rfl) rfl rfl rfl) (decimal_calls (n := (ix + 1)) ) ?_
      rintro v_ w6 ⟨rfl, hk5⟩
      have hS5 := SH.same hS4 hk5
      refine WL.lv rfl (LV.addS rfl rfl (by first | omega | (simp only [ByteArray.size_append, lit1]; omega) | (simp only [ByteArray.size_append, lit1, str_size, List.length_cons, List.length_nil]; omega))) ?_
      refine WL.lv rfl (LV.mv rfl) ?_
      iterate 2 refine WL.lv rfl (LV.addS rfl rfl (by first | omega | (simp only [ByteArray.size_append, lit1]; omega) | (simp only [ByteArray.size_append, lit1, str_size, List.length_cons, List.length_nil]; omega))) ?_
      refine WL.xe rfl (XE.appendS hS5 Try.underlying38 Try.underlying9 ti5 rfl rfl (by first | omega | (simp only [ByteArray.size_append, lit1]; omega))) ?_
      rintro _ w7 ⟨A2, c2, rfl, hS6, hk6⟩
      refine WL.lv rfl (LV.asg rfl) ?_
      refine WL.nil (blockQ.n <| thenQ.n ?_)
      refine WC.region ?_
      refine WL.lv rfl (LV.add rfl rfl (wr64 (by omega) (by omega))) ?_
      refine WL.lv rfl (LV.mv rfl) ?_
      refine WL.nil (thenQ.n ?_)
      exact ⟨_, by omega, A2, c2, (out ++ bytesOf ((((DEC (ix + 1)) ++ ⟨#[32]⟩) ++ (DEC (MIL (l.getD (ix).toNat 0)))) ++ ⟨#[10]⟩)), ix + 1, by omega, by omega, (by rw [hpn_, q1, bytesOf_app (PRH _ _) (LIN _ _)]; unfold LIN; rw [if_pos (by omega)]), hS6, rfl, Weak.cons rfl <| Weak.cons rfl <| Weak.cons rfl <| Weak.cons rfl <| Weak.nil _⟩
    · skip
      refine WC.skip (thenQ.n ?_)
      refine WC.region ?_
      iterate 2 refine WL.lv rfl (LV.mv rfl) ?_
      refine WL.lv rfl (LV.add rfl rfl (wr64 (by omega) (by omega))) ?_
      refine WL.call rfl (XC.fn Try.func33 (by kernel_rfl) rfl rfl rfl) (decimal_calls (n := (ix + 1)) ) ?_
      rintro v_ w8 ⟨rfl, hk7⟩
      have hS7 := SH.same hS2 hk7
      refine WL.lv rfl (LV.addS rfl rfl (by first | omega | (simp only [ByteArray.size_append, lit1]; omega) | (simp only [ByteArray.size_append, lit1, str_size, List.length_cons, List.length_nil]; omega))) ?_
      refine WL.lv rfl (LV.mv rfl) ?_
      iterate 2 refine WL.lv rfl (LV.addS rfl rfl (by first | omega | (simp only [ByteArray.size_append, lit1]; omega) | (simp only [ByteArray.size_append, lit1, str_size, List.length_cons, List.length_nil]; omega))) ?_
      refine WL.xe rfl (XE.appendS hS7 Try.underlying38 Try.underlying9 ti5 rfl rfl (by first | omega | (simp only [ByteArray.size_append, lit1]; omega))) ?_
      rintro _ w9 ⟨A3, c3, rfl, hS8, hk8⟩
      refine WL.lv rfl (LV.asg rfl) ?_
      refine WL.nil (blockQ.n <| thenQ.n ?_)
      refine WC.region ?_
      refine WL.lv rfl (LV.add rfl rfl (wr64 (by omega) (by omega))) ?_
      refine WL.lv rfl (LV.mv rfl) ?_
      refine WL.nil (thenQ.n ?_)
      exact ⟨_, by omega, A3, c3, (out ++ bytesOf ((((DEC (ix + 1)) ++ ⟨#[32]⟩) ++ ⟨#[45]⟩) ++ ⟨#[10]⟩)), ix + 1, by omega, by omega, (by rw [hpn_, q1, bytesOf_app (PRH _ _) (LIN _ _)]; unfold LIN; rw [if_neg (by omega)]), hS8, rfl, Weak.cons rfl <| Weak.cons rfl <| Weak.cons rfl <| Weak.cons rfl <| Weak.nil _⟩
  · skip
    refine WC.exit (thenQ.x <| thenQ.x <| blockQ.hit <| thenQ.n ?_)
    refine WC.seq ?_
    refine WC.region ?_
    refine WL.lv rfl (LV.mv rfl) ?_
    refine WL.lv rfl (LV.asg rfl) ?_
    refine WL.nil (thenQ.n ?_)
    refine WC.ret (?_)
    have hres1 : (out : List Int) = bytesOf (PRH l l.length) := by rw [q1]; congr 2; omega
    exact ⟨_, fun a ha => res1 rfl ha rfl, (by rw [← hres1]; exact ⟨_, _, rfl, hL1⟩)⟩

set_option maxHeartbeats 1000000 in
theorem rhprint_calls {w : World} {A_l : Option Addr} {n_l c_l : Nat} {l : List Nat} (h_l : St No w (Rd eF (.slice A_l n_l c_l) l)) (hn_l : l.length = n_l) (wl : ∀ x ∈ l, x < 18446744073709551616) (hl : l.length ≤ 1000) :
    Calls Try.prog 21 #[(.slice A_l n_l c_l)] w fun e w' => ∃ v, e = .returned v ∧ (fun v w' => ∃ A c, v = .slice A (PRH l l.length).size c ∧ Rd eU8 (.slice A (PRH l l.length).size c) (bytesOf (PRH l l.length)) w' ∧ KB No w w') v w' := by
  subst hn_l
  have hS : SH w No w [] := SH.nil _ _
  refine calls (l := litOf [(.slice A_l l.length c_l)] 0) Try.func21 rfl (n := 40) rfl (Nat.le_of_ble_eq_true rfl) (lit_args _) ?_
  refine WC.seq ?_
  refine WC.region ?_
  refine WL.lv rfl (LV.asg rfl) ?_
  refine WL.nil (thenQ.n ?_)
  refine WC.seq ?_
  refine WC.region ?_
  refine WL.lv rfl (LV.asg rfl) ?_
  refine WL.nil (thenQ.n ?_)
  iterate 2 refine WC.seq ?_
  refine WC.region ?_
  refine WL.lv rfl (LV.asg rfl) ?_
  refine WL.nil (thenQ.n ?_)
  refine WC.block ?_
  refine WC.loop (fun m_ f_ w_ => ∃ (out : ByteArray) (i : Int), (0 ≤ i) ∧ (i ≤ (l.length : Int)) ∧ (out = PRH l i.toNat) ∧ SH w No w_ [] ∧ m_ = (((l.length : Int) - i).toNat) ∧ Weak (lit [(0, (.slice A_l l.length c_l)), (3, (.string out)), (4, (.int .i64 i))]) f_) _ ⟨⟨#[]⟩, 0, by omega, by omega, rfl, hS, rfl, Weak.cons rfl <| Weak.cons rfl <| Weak.cons rfl <| Weak.nil _⟩ ?_
  rintro m1 f1 w1 ⟨out, i, ilo, ihi, q1, hL1, rfl, hw1⟩
  refine WC.weak hw1 ?_
  clear hw1
  have hos_ : (out.size : Int) = ((PRH l i.toNat).size : Int) := by rw [q1]
  iterate 2 refine WC.seq ?_
  refine WC.region ?_
  iterate 2 refine WL.lv rfl (LV.mv rfl) ?_
  refine WL.lv rfl (LV.lenL Try.underlying23 rfl) ?_
  refine WL.lv rfl (LV.ltI rfl rfl) ?_
  refine WL.nil (thenQ.n ?_)
  refine WC.condP (p := i < (l.length : Int)) rfl (fun hk => ?_) (fun hk => ?_)
  · have hd1_ := DEC_size (i + 1)
    have hd2_ := DEC_size (MIL (l.getD i.toNat 0))
    have hps_ := PRH_size l ilo
    have hpn_ := PRH_snoc l ilo
    have hwl_ := wl (l.getD i.toNat 0) (getD_mem (by omega))
    refine WC.skip (thenQ.n ?_)
    refine WC.seq ?_
    refine WC.block ?_
    refine WC.seq ?_
    refine WC.region ?_
    iterate 2 refine WL.lv rfl (LV.mv rfl) ?_
    refine WL.lv rfl (LV.add rfl rfl (wr64 (by omega) (by omega))) ?_
    refine WL.call rfl (XC.fn Try.func35 (by kernel_rfl) rfl rfl rfl) (rdecimal_calls (n := (i + 1)) ) ?_
    rintro v_ w2 ⟨rfl, hk1⟩
    have hS1 := SH.same hL1 hk1
    iterate 2 refine WL.lv rfl (LV.addS rfl rfl (by first | omega | (simp only [ByteArray.size_append, lit1]; omega) | (simp only [ByteArray.size_append, lit1, str_size, List.length_cons, List.length_nil]; omega))) ?_
    refine WL.lv rfl (LV.asg rfl) ?_
    refine WL.nil (thenQ.n ?_)
    iterate 2 refine WC.seq ?_
    have hS2 := SH.drew hS1
    refine WC.regionD [] (fun w_ => KB No w2.drew w_) [(.pure, 0), (.pure, 1), (.pure, 2), (.look, 3), (.pure, 4), (.pure, 5), (.pure, 6), (.look, 7), (.pure, 8)] (by kernel_rfl) (by kernel_rfl) (KB.refl _ _) ?_
    iterate 2 refine WS.pure rfl rfl (fun _ => LV.mv rfl) ?_
    obtain ⟨A1, c1, e1, g1⟩ := St.elt (SH.stN hS2 h_l) 0 i (by omega) (by omega)
    refine WS.pure rfl rfl (fun _ => LV.idxA Try.underlying23 ti28.sz rfl e1 rfl (by omega) (by omega)) ?_
    refine WS.look rfl rfl (fun _ hk_ => LV.load1 (v := (.float .f64 (l.getD (i).toNat 0))) Try.underlying28 rfl rfl (g1 _ hk_ 0 _ rfl)) ?_
    iterate 2 refine WS.pure rfl rfl (fun _ => LV.mv rfl) ?_
    obtain ⟨A2, c2, e2, g2⟩ := St.elt (SH.stN hS2 h_l) 0 i (by omega) (by omega)
    refine WS.pure rfl rfl (fun _ => LV.idxA Try.underlying23 ti28.sz rfl e2 rfl (by omega) (by omega)) ?_
    refine WS.look rfl rfl (fun _ hk_ => LV.load1 (v := (.float .f64 (l.getD (i).toNat 0))) Try.underlying28 rfl rfl (g2 _ hk_ 0 _ rfl)) ?_
    refine WS.pure rfl rfl (fun _ => LV.eqF (a := (l.getD (i).toNat 0)) (b := (l.getD (i).toNat 0)) rfl rfl) ?_
    refine WS.nil (thenQ.n ?_)
    refine WC.condP (p := ((-9218868437227405312 ≤ sk (l.getD (i).toNat 0) ∧ sk (l.getD (i).toNat 0) ≤ 9218868437227405312) ∧ (-9218868437227405312 ≤ sk (l.getD (i).toNat 0) ∧ sk (l.getD (i).toNat 0) ≤ 9218868437227405312)) ∧ sk (l.getD (i).toNat 0) = sk (l.getD (i).toNat 0)) rfl (fun hc1 => ?_) (fun hc1 => ?_)
    · skip
      refine WC.region ?_
      iterate 3 refine WL.lv rfl (LV.mv rfl) ?_
      obtain ⟨A3, c3, e3, g3⟩ := St.elt (SH.stN hS2 h_l) 0 i (by omega) (by omega)
      refine WL.lv rfl (LV.idxA Try.underlying23 ti28.sz rfl e3 rfl (by omega) (by omega)) ?_
      refine WL.lv rfl (LV.load1 (v := (.float .f64 (l.getD (i).toNat 0))) Try.underlying28 rfl rfl (g3 _ (KB.refl No _) 0 _ rfl)) ?_
      refine WL.call rfl (XC.fn Try.func36 (by kernel_rfl) rfl rfl rfl) (rmille_calls (x := (l.getD (i).toNat 0)) (by first | assumption | omega | exact hp _ (getD_mem (by omega)) | exact hpz _ (getD_mem (by omega)))) ?_
      rintro v_ w3 ⟨rfl, hk2⟩
      have hS3 := SH.same hS2 hk2
      refine WL.call rfl (XC.fn Try.func35 (by kernel_rfl) rfl rfl rfl) (rdecimal_calls (n := (MIL (l.getD (i).toNat 0))) ) ?_
      rintro v_ w4 ⟨rfl, hk3⟩
      have hS4 := SH.same hS3 hk3
      refine WL.lv rfl (LV.addS rfl rfl (by first | omega | (simp only [ByteArray.size_append, lit1]; omega) | (simp only [ByteArray.size_append, lit1, str_size, List.length_cons, List.length_nil]; omega))) ?_
      refine WL.lv rfl (LV.asg rfl) ?_
      refine WL.nil (thenQ.n ?_)
      refine WC.region ?_
      refine WL.lv rfl (LV.mv rfl) ?_
      refine WL.lv rfl (LV.addS rfl rfl (by first | omega | (simp only [ByteArray.size_append, lit1]; omega) | (simp only [ByteArray.size_append, lit1, str_size, List.length_cons, List.length_nil]; omega))) ?_
      refine WL.lv rfl (LV.asg rfl) ?_
      refine WL.nil (blockQ.n <| thenQ.n ?_)
      refine WC.region ?_
      refine WL.lv rfl (LV.mv rfl) ?_
      refine WL.lv rfl (LV.add rfl rfl (wr64 (by omega) (by omega))) ?_
      refine WL.lv rfl (LV.asg rfl) ?_
      refine WL.nil (thenQ.n ?_)
      exact ⟨_, by omega, (((out ++ (DEC (i + 1))) ++ ⟨#[32]⟩) ++ (DEC (MIL (l.getD (i).toNat 0)))) ++ ⟨#[10]⟩, i + 1, by omega, by omega, (by rw [hpn_, q1]; unfold LIN; rw [if_pos (by omega)]; simp only [ByteArray.append_assoc]), hS4, rfl, Weak.cons rfl <| Weak.cons rfl <| Weak.cons rfl <| Weak.nil _⟩
    · skip
      refine WC.region ?_
      refine WL.lv rfl (LV.mv rfl) ?_
      refine WL.lv rfl (LV.addS rfl rfl (by first | omega | (simp only [ByteArray.size_append, lit1]; omega) | (simp only [ByteArray.size_append, lit1, str_size, List.length_cons, List.length_nil]; omega))) ?_
      refine WL.lv rfl (LV.asg rfl) ?_
      refine WL.nil (thenQ.n ?_)
      refine WC.region ?_
      refine WL.lv rfl (LV.mv rfl) ?_
      refine WL.lv rfl (LV.addS rfl rfl (by first | omega | (simp only [ByteArray.size_append, lit1]; omega) | (simp only [ByteArray.size_append, lit1, str_size, List.length_cons, List.length_nil]; omega))) ?_
      refine WL.lv rfl (LV.asg rfl) ?_
      refine WL.nil (blockQ.n <| thenQ.n ?_)
      refine WC.region ?_
      refine WL.lv rfl (LV.mv rfl) ?_
      refine WL.lv rfl (LV.add rfl rfl (wr64 (by omega) (by omega))) ?_
      refine WL.lv rfl (LV.asg rfl) ?_
      refine WL.nil (thenQ.n ?_)
      exact ⟨_, by omega, (((out ++ (DEC (i + 1))) ++ ⟨#[32]⟩) ++ ⟨#[45]⟩) ++ ⟨#[10]⟩, i + 1, by omega, by omega, (by rw [hpn_, q1]; unfold LIN; rw [if_neg (by omega)]; simp only [ByteArray.append_assoc]), hS2, rfl, Weak.cons rfl <| Weak.cons rfl <| Weak.cons rfl <| Weak.nil _⟩
  · skip
    refine WC.exit (thenQ.x <| thenQ.x <| blockQ.hit <| thenQ.n ?_)
    refine WC.seq ?_
    refine WC.region ?_
    refine WL.lv rfl (LV.mv rfl) ?_
    refine WL.xe rfl (XE.bytes (s := out) hL1 Try.underlying9 Try.underlying38 Try.underlying5 rfl (by have h_ := PRH_size l ilo; rw [← q1] at h_; omega)) ?_
    rintro _ w5 ⟨A4, c4, rfl, hr1, hS5, hk4⟩
    refine WL.lv rfl (LV.asg rfl) ?_
    refine WL.nil (thenQ.n ?_)
    refine WC.ret (?_)
    exact ⟨_, fun a ha => res1 rfl ha rfl, (by have e_ : PRH l l.length = out := (by rw [q1]; congr 1; omega); rw [e_]; exact ⟨_, _, rfl, hr1, hS5.kb⟩)⟩

end Go.Proofs.Ytmmdplcnhndcgaa
