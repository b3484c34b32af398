/- The greatest ones. -/
import Derived.Test.YtmmdplcnhndcgaaHtD
namespace Go.Proofs.Ytmmdplcnhndcgaa
open Go Go.Gv Go.RowKit Go.Flt Go.Dec Go.Ht
set_option linter.unusedVariables false
set_option linter.unusedSimpArgs false
theorem ti4 : TI Try.prog 4 (.bool false) 1 1 := by unfold TI; kernel_rfl

theorem top_calls {w : World} {A_l : Option Addr} {n_l c_l : Nat} {l : List Nat} {n : Int} (h_l : St No w (Rd eF (.slice A_l n_l c_l) l)) (hn_l : l.length = n_l) (wl : ∀ x ∈ l, x < 18446744073709551616) (hl : l.length ≤ 1000) :
    Calls Try.prog 12 #[(.slice A_l n_l c_l), (.int .i64 n)] w fun e w' => ∃ v, e = .returned v ∧ (fun v w' => ∃ (A0' : Option Addr) (c0' : Nat) (out' : List Int), v = .slice A0' (out').length c0' ∧ TopOf l n out' ∧ SH w No w' [rowE eI 3 (.slice A0' (out').length c0') out']) v w' := by
  subst hn_l
  have hma := Rd.max h_l.now
  have hS : SH w No w [] := SH.nil _ _
  refine calls (l := litOf [(.slice A_l l.length c_l), (.int .i64 n)] 0) Try.func12 rfl (n := 33) rfl (Nat.le_of_ble_eq_true rfl) (lit_args _) ?_
  refine WC.seq ?_
  refine WC.region ?_
  refine WL.xe rfl (XE.box #[(.slice A_l l.length c_l)] hS rfl rfl) ?_
  rintro _ w1 ⟨b1, rfl, hS1, hk1⟩
  refine WL.lv rfl (LV.asg rfl) ?_
  refine WL.nil (thenQ.n ?_)
  refine WC.seq ?_
  refine WC.region ?_
  have hS2 := SH.nilRow (E := eI) (T := 3) hS1
  refine WL.lv rfl (LV.asg rfl) ?_
  refine WL.nil (thenQ.n ?_)
  iterate 2 refine WC.seq ?_
  refine WC.region ?_
  refine WL.lv rfl (LV.load1 Try.underlying23 rfl rfl (Blk.cellN (SH.at hS2 (.tail _ (.head _))) 0 rfl _ (KB.refl No _))) ?_
  refine WL.lv rfl (LV.lenL Try.underlying23 rfl) ?_
  refine WL.lv rfl (LV.mv rfl) ?_
  refine WL.nil (thenQ.n ?_)
  refine WC.block ?_
  refine WC.loop (fun m_ f_ w_ => ∃ (A_out : Option Addr) (c_out : Nat) (out : List Int) (ix : Int), (0 ≤ ix) ∧ (ix ≤ (l.length : Int)) ∧ (out = OKS l ix.toNat) ∧ SH w No w_ [rowE eI 3 (.slice A_out out.length c_out) out, blkE b1 23 #[(.slice A_l l.length c_l)]] ∧ m_ = (((l.length : Int) - ix).toNat) ∧ Weak (lit [(1, (.int .i64 n)), (2, (.pointer (some ⟨b1, 0, none⟩))), (5, (.slice A_out out.length c_out)), (8, (.slice A_l l.length c_l)), (9, (.int .i64 (l.length : Int))), (10, (.int .i64 ix))]) f_) _ ⟨none, 0, [], 0, by omega, by omega, rfl, hS2, rfl, Weak.cons rfl <| Weak.cons rfl <| Weak.cons rfl <| Weak.cons rfl <| Weak.cons rfl <| Weak.cons rfl <| Weak.nil _⟩ ?_
  rintro m1 f1 w2 ⟨A_out, c_out, out, ix, ixlo, ixhi, q1, hL1, rfl, hw1⟩
  refine WC.weak hw1 ?_
  clear hw1
  have hol_ := oks_len (l := l) ix.toNat
  rw [← q1] at hol_
  refine WC.seq ?_
  refine WC.region ?_
  refine WL.lv rfl (LV.ltI rfl rfl) ?_
  refine WL.nil (thenQ.n ?_)
  refine WC.seq ?_
  refine WC.condP (p := ix < (l.length : Int)) rfl (fun hk => ?_) (fun hk => ?_)
  · skip
    refine WC.skip (thenQ.n ?_)
    refine WC.seq ?_
    refine WC.block ?_
    refine WC.seq ?_
    refine WC.region ?_
    refine WL.lv rfl (LV.mv rfl) ?_
    obtain ⟨A1, c1, e1, g1⟩ := St.elt (SH.stN hL1 h_l) 0 ix (by omega) (by omega)
    refine WL.lv rfl (LV.idxA Try.underlying23 ti28.sz rfl e1 rfl (by omega) (by omega)) ?_
    refine WL.lv rfl (LV.load1 (v := (.float .f64 (l.getD (ix).toNat 0))) Try.underlying28 rfl rfl (g1 _ (KB.refl No _) 0 _ rfl)) ?_
    iterate 2 refine WL.lv rfl (LV.asg rfl) ?_
    refine WL.nil (thenQ.n ?_)
    refine WC.seq ?_
    refine WC.region ?_
    refine WL.lv rfl (LV.mv rfl) ?_
    refine WL.call rfl (XC.fn Try.func26 (by kernel_rfl) rfl rfl rfl) (hnone_calls (x := (l.getD (ix).toNat 0)) ) ?_
    rintro v_ w3 ⟨rfl, hk2⟩
    have hS3 := SH.same hL1 hk2
    refine WL.lv rfl (LV.notP rfl) ?_
    refine WL.nil (thenQ.n ?_)
    refine WC.condP (p := ¬ (¬ (-9218868437227405312 ≤ sk (l.getD (ix).toNat 0) ∧ sk (l.getD (ix).toNat 0) ≤ 9218868437227405312))) rfl (fun hc1 => ?_) (fun hc1 => ?_)
    · skip
      refine WC.region ?_
      iterate 2 refine WL.lv rfl (LV.mv rfl) ?_
      refine WL.xe rfl (XE.buildSlice (E := eI) [(0, (.int .i64 ix))] #[(.int .i64 ix)] [ix] hS3 Try.underlying22 ti3 rfl (by decide) (by kernel_rfl) (.inr rfl) rfl rfl (by decide)) ?_
      rintro _ w4 ⟨b2, rfl, hS4, hk3⟩
      have hS5 : SH w No w4 [rowE eI 3 (.slice A_out out.length c_out) out, rowE eI 3 (.slice (some ⟨b2, 0, none⟩) 1 1) [ix], blkE b1 23 #[(.slice A_l l.length c_l)]] := (SH.front [rowE eI 3 (.slice (some ⟨b2, 0, none⟩) 1 1) [ix]] hS4)
      refine WL.xe rfl (XE.append hS5 Try.underlying22 ti3 rfl (St.now (SH.rd hS5 (.tail _ (.head _)))) rfl rfl (by first | omega | simp only [List.length_append, List.length_cons, List.length_nil, List.length_take, List.length_reverse, List.length_drop] at *; omega) (by first | omega | simp only [List.length_append, List.length_cons, List.length_nil, List.length_take, List.length_reverse, List.length_drop] at *; omega)) ?_
      rintro _ w5 ⟨A2, c2, rfl, hS6, hk4⟩
      refine WL.lv rfl (LV.asg rfl) ?_
      refine WL.nil (blockQ.n <| thenQ.n ?_)
      refine WC.region ?_
      refine WL.lv rfl (LV.add rfl rfl (wr64 (by omega) (by omega))) ?_
      refine WL.lv rfl (LV.mv rfl) ?_
      refine WL.nil (thenQ.n ?_)
      have hS7 : SH w No w5 [rowE eI 3 (.slice A2 ((out ++ [ix]).length) c2) (out ++ [ix]), blkE b1 23 #[(.slice A_l l.length c_l)]] := (SH.take 2 rfl (SH.front [blkE b1 23 #[(.slice A_l l.length c_l)]] (SH.front [rowE eI 3 (.slice A2 ((out ++ [ix]).length) c2) (out ++ [ix]), rowE eI 3 (.slice (some ⟨b2, 0, none⟩) 1 1) [ix]] hS6)))
      exact ⟨_, by omega, A2, c2, (out ++ [ix]), ix + 1, by omega, by omega, (by rw [oks_yes ixlo ⟨by omega, by omega⟩, q1]), hS7, rfl, Weak.cons rfl <| Weak.cons rfl <| Weak.cons rfl <| Weak.cons rfl <| Weak.cons rfl <| Weak.cons rfl <| Weak.nil _⟩
    · skip
      refine WC.skip (blockQ.n <| thenQ.n ?_)
      refine WC.region ?_
      refine WL.lv rfl (LV.add rfl rfl (wr64 (by omega) (by omega))) ?_
      refine WL.lv rfl (LV.mv rfl) ?_
      refine WL.nil (thenQ.n ?_)
      exact ⟨_, by omega, A_out, c_out, out, ix + 1, by omega, by omega, (by rw [oks_no ixlo (fun h_ => by omega), q1]), hS3, rfl, Weak.cons rfl <| Weak.cons rfl <| Weak.cons rfl <| Weak.cons rfl <| Weak.cons rfl <| Weak.cons rfl <| Weak.nil _⟩
  · skip
    refine WC.exit (thenQ.x <| thenQ.x <| blockQ.hit <| thenQ.n ?_)
    refine WC.seq ?_
    refine WC.region ?_
    refine WL.lv rfl (LV.mv rfl) ?_
    refine WL.lv rfl (LV.mkFunc rfl) ?_
    refine WL.call rfl (XC.fn Try.func27 (by kernel_rfl) rfl rfl rfl) (sort_calls1E (p := p_sortT l) (cf := fun x y : Int => TCF l x y) rfl (fun _ => rfl) sortN_sortT (sort1_sortT l) hL1 (fun x_ hx_ => by rw [q1] at hx_; have h_ := (oks_mem _).1 hx_; omega) (fun W_ hW_ x y hx hy => (tcmp_calls (w := W_) (a := x) (b := y) (St.at (SH.st hL1 h_l (fun k_ hk_ => by rw [keys_cons]; exact List.mem_append_left _ hk_)) hW_) rfl (St.at (SH.ste hL1 (List.mem_cons_of_mem _ (.head _)) (SH.ne hL1 (.head _))) hW_) hx hy wl).mono fun e_ w_ ⟨v_, he_, hv_, hk_⟩ => ⟨he_.trans (by rw [hv_]), hk_, hk_.dr (by unfold DR; trivial)⟩) (by omega)) ?_
    rintro v_ w6 ⟨ys1, rfl, hpm1, hpw1, hS8, hk5⟩
    refine WL.nil (thenQ.n ?_)
    refine WC.seq ?_
    refine WC.region ?_
    iterate 3 refine WL.lv rfl (LV.mv rfl) ?_
    refine WL.lv rfl (LV.lenL Try.underlying22 rfl) ?_
    refine WL.lv rfl (LV.minI rfl rfl) ?_
    refine WL.lv rfl (LV.maxI rfl rfl) ?_
    have hcap1 : out.length ≤ c_out := (Rd.cap (St.now (SH.rd hS8 (.head _))))
    refine WL.lv rfl (LV.cut Try.underlying22 ti3.sz rfl rfl rfl rfl ⟨.inl ⟨rfl, rfl⟩, .inr ⟨.i64, by rw [Int.toNat_of_nonneg (a := max 0 (min n (out.length : Int))) (by omega)] <;> rfl⟩, .inl ⟨rfl, rfl⟩⟩ (by omega) (by omega) (by omega)) ?_
    refine WL.lv rfl (LV.asg rfl) ?_
    refine WL.nil (thenQ.n ?_)
    refine WC.ret (?_)
    have hS9 : SH w No w6 [rowE eI 3 (.slice A_out out.length c_out) ys1] := (SH.take 1 rfl hS8)
    have hln_ := hpm1.length_eq
    exact ⟨_, fun a ha => res1 rfl ha rfl, A_out, _, ys1.take (max 0 (min n (ys1.length : Int))).toNat, (by rw [cutA_is rfl]; simp only [Nat.sub_zero, List.length_take]; first | (congr 1; omega) | (congr 1; done)), ⟨ys1, to_of hl (by rw [q1]; congr 1; omega) hpm1 hpw1, take_min⟩, SH.cutRow hS9 (by omega)⟩

set_option maxHeartbeats 1000000 in
theorem rtop_calls {w : World} {A_l : Option Addr} {n_l c_l : Nat} {l : List Nat} {n : Int} (h_l : St No w (Rd eF (.slice A_l n_l c_l) l)) (hn_l : l.length = n_l) {ys : List Int} (wl : ∀ x ∈ l, x < 18446744073709551616) (hl : l.length ≤ 1000) (hto : TO l ys) :
    Calls Try.prog 14 #[(.slice A_l n_l c_l), (.int .i64 n)] w fun e w' => ∃ v, e = .returned v ∧ (fun v w' => ∃ (A0' : Option Addr) (c0' : Nat) (out' : List Int), v = .slice A0' (out').length c0' ∧ TopOf l n out' ∧ SH w No w' [rowE eI 3 (.slice A0' (out').length c0') out']) v w' := by
  subst hn_l
  have hlen_ := hto.pm.length_eq
  have holn_ := oks_len (l := l) l.length
  have hS : SH w No w [] := SH.nil _ _
  refine calls (l := litOf [(.slice A_l l.length c_l), (.int .i64 n)] 0) Try.func14 rfl (n := 67) rfl (Nat.le_of_ble_eq_true rfl) (lit_args _) ?_
  refine WC.seq ?_
  refine WC.region ?_
  refine WL.lv rfl (LV.asg rfl) ?_
  refine WL.nil (thenQ.n ?_)
  refine WC.seq ?_
  refine WC.region ?_
  refine WL.xe rfl (XE.buildSlice (E := eI) [] #[] [] hS Try.underlying22 ti3 rfl (by decide) (by kernel_rfl) (.inr rfl) rfl rfl (by decide)) ?_
  rintro _ w1 ⟨b3, rfl, hS1, hk1⟩
  refine WL.lv rfl (LV.asg rfl) ?_
  refine WL.nil (thenQ.n ?_)
  refine WC.seq ?_
  refine WC.region ?_
  refine WL.lv rfl (LV.mv rfl) ?_
  refine WL.lv rfl (LV.lenL Try.underlying23 rfl) ?_
  refine WL.xe rfl (XE.make (E := eB) (n := l.length) false hS1 Try.underlying34 ti4 rfl rfl rfl rfl rfl rfl (by omega) (by omega)) ?_
  rintro _ w2 ⟨b4, rfl, hS2, hk2⟩
  refine WL.lv rfl (LV.asg rfl) ?_
  refine WL.nil (thenQ.n ?_)
  refine WC.seq ?_
  refine WC.block ?_
  refine WC.loop (fun m_ f_ w_ => ∃ (A_out : Option Addr) (c_out : Nat) (out : List Int) (taken : List Bool), (out = ys.take out.length) ∧ (TK l out taken) ∧ ((out.length : Int) ≤ max 0 n) ∧ (out.length ≤ ys.length) ∧ SH w No w_ [rowE eB 4 (.slice (some ⟨b4, 0, none⟩) l.length l.length) taken, rowE eI 3 (.slice A_out out.length c_out) out] ∧ m_ = ((n - (out.length : Int)).toNat) ∧ Weak (lit [(0, (.slice A_l l.length c_l)), (1, (.int .i64 n)), (5, (.slice A_out out.length c_out)), (6, (.slice (some ⟨b4, 0, none⟩) l.length l.length))]) f_) _ ⟨(some ⟨b3, 0, none⟩), 0, [], (List.replicate l.length false), rfl, (TK.z l rfl), (by simp; omega), (by simp), hS2, rfl, Weak.cons rfl <| Weak.cons rfl <| Weak.cons rfl <| Weak.cons rfl <| Weak.nil _⟩ ?_
  rintro m1 f1 w3 ⟨A_out, c_out, out, taken, q1, q2, q3, q4, hL1, rfl, hw1⟩
  refine WC.weak hw1 ?_
  clear hw1
  have htl_ := q2.len
  iterate 2 refine WC.seq ?_
  refine WC.region ?_
  refine WL.lv rfl (LV.mv rfl) ?_
  refine WL.lv rfl (LV.lenL Try.underlying22 rfl) ?_
  refine WL.lv rfl (LV.mv rfl) ?_
  refine WL.lv rfl (LV.ltI rfl rfl) ?_
  refine WL.nil (thenQ.n ?_)
  refine WC.condP (p := (out.length : Int) < n) rfl (fun hkn => ?_) (fun hkn => ?_)
  · skip
    refine WC.skip (thenQ.n ?_)
    refine WC.block ?_
    refine WC.seq ?_
    refine WC.region ?_
    refine WL.lv rfl (LV.asg rfl) ?_
    refine WL.nil (thenQ.n ?_)
    iterate 2 refine WC.seq ?_
    refine WC.region ?_
    refine WL.lv rfl (LV.asg rfl) ?_
    refine WL.nil (thenQ.n ?_)
    refine WC.block ?_
    refine WC.loop (fun m_ f_ w_ => ∃ (best_ : Int) (i : Int), (0 ≤ i) ∧ (i ≤ (l.length : Int)) ∧ (BS l out best_ i) ∧ (-1 ≤ best_ ∧ best_ < l.length) ∧ SH w No w_ [rowE eB 4 (.slice (some ⟨b4, 0, none⟩) l.length l.length) taken, rowE eI 3 (.slice A_out out.length c_out) out] ∧ m_ = (((l.length : Int) - i).toNat) ∧ Weak (lit [(0, (.slice A_l l.length c_l)), (1, (.int .i64 n)), (5, (.slice A_out out.length c_out)), (6, (.slice (some ⟨b4, 0, none⟩) l.length l.length)), (7, (.int .i64 best_)), (8, (.int .i64 i))]) f_) _ ⟨(-1), 0, by omega, by omega, (BS.z _ _), by omega, hL1, rfl, Weak.cons rfl <| Weak.cons rfl <| Weak.cons rfl <| Weak.cons rfl <| Weak.cons rfl <| Weak.cons rfl <| Weak.nil _⟩ ?_
    rintro m2 f2 w4 ⟨best_, i, ilo, ihi, b1, b2, hL2, rfl, hw2⟩
    refine WC.weak hw2 ?_
    clear hw2
    iterate 2 refine WC.seq ?_
    refine WC.region ?_
    iterate 2 refine WL.lv rfl (LV.mv rfl) ?_
    refine WL.lv rfl (LV.lenL Try.underlying23 rfl) ?_
    refine WL.lv rfl (LV.ltI rfl rfl) ?_
    refine WL.nil (thenQ.n ?_)
    refine WC.condP (p := i < (l.length : Int)) rfl (fun hk => ?_) (fun hk => ?_)
    · have hti_ := tk_is (l.getD i.toNat 0)
      have hwi_ := wl (l.getD i.toNat 0) (getD_mem (by omega))
      have htb_ := tk_is (l.getD best_.toNat 0)
      have hob_ := ord_is' (l.getD i.toNat 0) (l.getD best_.toNat 0)
      have hwb_ : best_ < 0 ∨ l.getD best_.toNat 0 < 18446744073709551616 := (Int.lt_or_le best_ 0).imp id fun h_ => wl _ (getD_mem (by omega))
      refine WC.skip (thenQ.n ?_)
      refine WC.seq ?_
      refine WC.block ?_
      refine WC.seq ?_
      have hS3 := SH.drew hL2
      refine WC.regionD [] (fun w_ => KB No w4.drew w_) [(.pure, 0), (.pure, 1), (.pure, 2), (.look, 3), (.pure, 4), (.pure, 5), (.pure, 6), (.pure, 7), (.pure, 8), (.look, 9), (.pure, 10), (.pure, 11), (.pure, 12), (.look, 13), (.pure, 14), (.pure, 15), (.pure, 16), (.pure, 17), (.pure, 18), (.pure, 19), (.pure, 20), (.pure, 21), (.pure, 22), (.look, 23), (.pure, 24), (.pure, 25), (.pure, 26), (.look, 27), (.forced, 28), (.pure, 29), (.pure, 30), (.pure, 31)] (by kernel_rfl) (by kernel_rfl) (KB.refl _ _) ?_
      iterate 2 refine WS.pure rfl rfl (fun _ => LV.mv rfl) ?_
      obtain ⟨A1, c1, e1, g1⟩ := St.elt (SH.rd hS3 (.head _)) false i (by omega) (by omega)
      refine WS.pure rfl rfl (fun _ => LV.idxA Try.underlying34 ti4.sz rfl e1 rfl (by omega) (by omega)) ?_
      rcases Bool.eq_false_or_eq_true (taken.getD (i).toNat false) with htk_ | htk_
      · refine WS.look rfl rfl (fun _ hk_ => LV.as (c := true) (LV.load1 (v := (.bool (taken.getD (i).toNat false))) Try.underlying4 rfl rfl (g1 _ hk_ 0 _ rfl)) htk_) ?_
        refine WS.pure rfl rfl (fun _ => LV.notB rfl) ?_
        refine WS.pure rfl rfl (fun _ => LV.mv rfl) ?_
        iterate 3 refine WS.off rfl rfl ?_
        refine WS.offL rfl rfl ?_
        iterate 3 refine WS.off rfl rfl ?_
        refine WS.offL rfl rfl ?_
        refine WS.off rfl rfl ?_
        refine WS.pure rfl rfl (fun _ => LV.pickF rfl rfl) ?_
        refine WS.pure rfl rfl (fun _ => LV.mv rfl) ?_
        iterate 6 refine WS.off rfl rfl ?_
        refine WS.offL rfl rfl ?_
        iterate 3 refine WS.off rfl rfl ?_
        refine WS.offL rfl rfl ?_
        refine WS.offF rfl rfl (fun h_ => (KB.refl _ _)) ?_
        iterate 2 refine WS.off rfl rfl ?_
        refine WS.pure rfl rfl (fun _ => LV.pickF rfl rfl) ?_
        refine WS.nil (thenQ.n ?_)
        refine WC.condF rfl ?_
        refine WC.skip (blockQ.n <| thenQ.n ?_)
        refine WC.region ?_
        refine WL.lv rfl (LV.mv rfl) ?_
        refine WL.lv rfl (LV.add rfl rfl (wr64 (by omega) (by omega))) ?_
        refine WL.lv rfl (LV.asg rfl) ?_
        refine WL.nil (thenQ.n ?_)
        exact ⟨_, by omega, best_, i + 1, by omega, by omega, (by first | exact b1.skip (fun h_ => h_.1 ((q2.at_ i ilo (by omega)).1 htk_)) | exact b1.skip (fun h_ => by have h2_ := h_.2; omega) | exact b1.keep hl (by omega) (by omega) | exact b1.take hl ilo (by omega) ⟨fun h_ => (by rw [(q2.at_ i ilo (by omega)).2 h_] at htk_; cases htk_), ⟨by omega, by omega⟩⟩ (by omega)), by omega, hS3, rfl, Weak.cons rfl <| Weak.cons rfl <| Weak.cons rfl <| Weak.cons rfl <| Weak.cons rfl <| Weak.cons rfl <| Weak.nil _⟩
      · refine WS.look rfl rfl (fun _ hk_ => LV.as (c := false) (LV.load1 (v := (.bool (taken.getD (i).toNat false))) Try.underlying4 rfl rfl (g1 _ hk_ 0 _ rfl)) htk_) ?_
        refine WS.pure rfl rfl (fun _ => LV.notB rfl) ?_
        iterate 3 refine WS.pure rfl rfl (fun _ => LV.mv rfl) ?_
        obtain ⟨A2, c2, e2, g2⟩ := St.elt (SH.stN hS3 h_l) 0 i (by omega) (by omega)
        refine WS.pure rfl rfl (fun _ => LV.idxA Try.underlying23 ti28.sz rfl e2 rfl (by omega) (by omega)) ?_
        refine WS.look rfl rfl (fun _ hk_ => LV.load1 (v := (.float .f64 (l.getD (i).toNat 0))) Try.underlying28 rfl rfl (g2 _ hk_ 0 _ rfl)) ?_
        iterate 2 refine WS.pure rfl rfl (fun _ => LV.mv rfl) ?_
        obtain ⟨A3, c3, e3, g3⟩ := St.elt (SH.stN hS3 h_l) 0 i (by omega) (by omega)
        refine WS.pure rfl rfl (fun _ => LV.idxA Try.underlying23 ti28.sz rfl e3 rfl (by omega) (by omega)) ?_
        refine WS.look rfl rfl (fun _ hk_ => LV.load1 (v := (.float .f64 (l.getD (i).toNat 0))) Try.underlying28 rfl rfl (g3 _ hk_ 0 _ rfl)) ?_
        rcases Decidable.em (((-9218868437227405312 ≤ sk (l.getD (i).toNat 0) ∧ sk (l.getD (i).toNat 0) ≤ 9218868437227405312) ∧ (-9218868437227405312 ≤ sk (l.getD (i).toNat 0) ∧ sk (l.getD (i).toNat 0) ≤ 9218868437227405312)) ∧ sk (l.getD (i).toNat 0) = sk (l.getD (i).toNat 0)) with hg1 | hg1
        · refine WS.pure rfl rfl (fun _ => LV.as (LV.eqF (a := (l.getD (i).toNat 0)) (b := (l.getD (i).toNat 0)) rfl rfl) (decide_eq_true hg1)) ?_
          refine WS.pure rfl rfl (fun _ => LV.pickT rfl rfl) ?_
          iterate 2 refine WS.pure rfl rfl (fun _ => LV.mv rfl) ?_
          rcases Decidable.em (best_ < 0) with hg2 | hg2
          · refine WS.pure rfl rfl (fun _ => LV.as (LV.ltI rfl rfl) (decide_eq_true hg2)) ?_
            refine WS.pure rfl rfl (fun _ => LV.mv rfl) ?_
            iterate 3 refine WS.off rfl rfl ?_
            refine WS.offL rfl rfl ?_
            iterate 3 refine WS.off rfl rfl ?_
            refine WS.offL rfl rfl ?_
            refine WS.offF rfl rfl (fun h_ => (KB.refl _ _)) ?_
            refine WS.off rfl rfl ?_
            iterate 2 refine WS.pure rfl rfl (fun _ => LV.pickT rfl rfl) ?_
            refine WS.nil (thenQ.n ?_)
            refine WC.condT rfl ?_
            refine WC.region ?_
            refine WL.lv rfl (LV.mv rfl) ?_
            refine WL.lv rfl (LV.asg rfl) ?_
            refine WL.nil (blockQ.n <| thenQ.n ?_)
            refine WC.region ?_
            refine WL.lv rfl (LV.mv rfl) ?_
            refine WL.lv rfl (LV.add rfl rfl (wr64 (by omega) (by omega))) ?_
            refine WL.lv rfl (LV.asg rfl) ?_
            refine WL.nil (thenQ.n ?_)
            exact ⟨_, by omega, i, i + 1, by omega, by omega, (by first | exact b1.skip (fun h_ => h_.1 ((q2.at_ i ilo (by omega)).1 htk_)) | exact b1.skip (fun h_ => by have h2_ := h_.2; omega) | exact b1.keep hl (by omega) (by omega) | exact b1.take hl ilo (by omega) ⟨fun h_ => (by rw [(q2.at_ i ilo (by omega)).2 h_] at htk_; cases htk_), ⟨by omega, by omega⟩⟩ (by omega)), by omega, hS3, rfl, Weak.cons rfl <| Weak.cons rfl <| Weak.cons rfl <| Weak.cons rfl <| Weak.cons rfl <| Weak.cons rfl <| Weak.nil _⟩
          · refine WS.pure rfl rfl (fun _ => LV.as (LV.ltI rfl rfl) (decide_eq_false hg2)) ?_
            iterate 3 refine WS.pure rfl rfl (fun _ => LV.mv rfl) ?_
            obtain ⟨A4, c4, e4, g4⟩ := St.elt (SH.stN hS3 h_l) 0 i (by omega) (by omega)
            refine WS.pure rfl rfl (fun _ => LV.idxA Try.underlying23 ti28.sz rfl e4 rfl (by omega) (by omega)) ?_
            refine WS.look rfl rfl (fun _ hk_ => LV.load1 (v := (.float .f64 (l.getD (i).toNat 0))) Try.underlying28 rfl rfl (g4 _ hk_ 0 _ rfl)) ?_
            iterate 2 refine WS.pure rfl rfl (fun _ => LV.mv rfl) ?_
            obtain ⟨A5, c5, e5, g5⟩ := St.elt (SH.stN hS3 h_l) 0 best_ (by omega) (by omega)
            refine WS.pure rfl rfl (fun _ => LV.idxA Try.underlying23 ti28.sz rfl e5 rfl (by omega) (by omega)) ?_
            refine WS.look rfl rfl (fun _ hk_ => LV.load1 (v := (.float .f64 (l.getD (best_).toNat 0))) Try.underlying28 rfl rfl (g5 _ hk_ 0 _ rfl)) ?_
            refine WS.call rfl rfl (XC.fn Try.func32 (by kernel_rfl) rfl rfl rfl) (rorder_calls (a := (l.getD (i).toNat 0)) (b := (l.getD (best_).toNat 0)) (by first | assumption | omega | exact hp _ (getD_mem (by omega)) | exact hpz _ (getD_mem (by omega))) (by first | assumption | omega | exact hp _ (getD_mem (by omega)) | exact hpz _ (getD_mem (by omega)))) ?_
            rintro v_ w5 ⟨rfl, hk3⟩
            have hS4 := SH.same hS3 hk3
            refine ⟨fun h_ => (KB.transN (KB.refl _ _) hk3), ?_⟩
            refine WS.pure rfl rfl (fun _ => LV.gtI rfl rfl) ?_
            refine WS.pure rfl rfl (fun _ => LV.pickF rfl rfl) ?_
            refine WS.pure rfl rfl (fun _ => LV.pickT rfl rfl) ?_
            refine WS.nil (thenQ.n ?_)
            refine WC.condP (p := (ORD (l.getD (i).toNat 0) (l.getD (best_).toNat 0)) > 0) rfl (fun hc1 => ?_) (fun hc1 => ?_)
            · skip
              refine WC.region ?_
              refine WL.lv rfl (LV.mv rfl) ?_
              refine WL.lv rfl (LV.asg rfl) ?_
              refine WL.nil (blockQ.n <| thenQ.n ?_)
              refine WC.region ?_
              refine WL.lv rfl (LV.mv rfl) ?_
              refine WL.lv rfl (LV.add rfl rfl (wr64 (by omega) (by omega))) ?_
              refine WL.lv rfl (LV.asg rfl) ?_
              refine WL.nil (thenQ.n ?_)
              exact ⟨_, by omega, i, i + 1, by omega, by omega, (by first | exact b1.skip (fun h_ => h_.1 ((q2.at_ i ilo (by omega)).1 htk_)) | exact b1.skip (fun h_ => by have h2_ := h_.2; omega) | exact b1.keep hl (by omega) (by omega) | exact b1.take hl ilo (by omega) ⟨fun h_ => (by rw [(q2.at_ i ilo (by omega)).2 h_] at htk_; cases htk_), ⟨by omega, by omega⟩⟩ (by omega)), by omega, hS4, rfl, Weak.cons rfl <| Weak.cons rfl <| Weak.cons rfl <| Weak.cons rfl <| Weak.cons rfl <| Weak.cons rfl <| Weak.nil _⟩
            · skip
              refine WC.skip (blockQ.n <| thenQ.n ?_)
              refine WC.region ?_
              refine WL.lv rfl (LV.mv rfl) ?_
              refine WL.lv rfl (LV.add rfl rfl (wr64 (by omega) (by omega))) ?_
              refine WL.lv rfl (LV.asg rfl) ?_
              refine WL.nil (thenQ.n ?_)
              exact ⟨_, by omega, best_, i + 1, by omega, by omega, (by first | exact b1.skip (fun h_ => h_.1 ((q2.at_ i ilo (by omega)).1 htk_)) | exact b1.skip (fun h_ => by have h2_ := h_.2; omega) | exact b1.keep hl (by omega) (by omega) | exact b1.take hl ilo (by omega) ⟨fun h_ => (by rw [(q2.at_ i ilo (by omega)).2 h_] at htk_; cases htk_), ⟨by omega, by omega⟩⟩ (by omega)), by omega, hS4, rfl, Weak.cons rfl <| Weak.cons rfl <| Weak.cons rfl <| Weak.cons rfl <| Weak.cons rfl <| Weak.cons rfl <| Weak.nil _⟩
        · refine WS.pure rfl rfl (fun _ => LV.as (LV.eqF (a := (l.getD (i).toNat 0)) (b := (l.getD (i).toNat 0)) rfl rfl) (decide_eq_false hg1)) ?_
          refine WS.pure rfl rfl (fun _ => LV.pickT rfl rfl) ?_
          refine WS.pure rfl rfl (fun _ => LV.mv rfl) ?_
          iterate 6 refine WS.off rfl rfl ?_
          refine WS.offL rfl rfl ?_
          iterate 3 refine WS.off rfl rfl ?_
          refine WS.offL rfl rfl ?_
          refine WS.offF rfl rfl (fun h_ => (KB.refl _ _)) ?_
          iterate 2 refine WS.off rfl rfl ?_
          refine WS.pure rfl rfl (fun _ => LV.pickF rfl rfl) ?_
          refine WS.nil (thenQ.n ?_)
          refine WC.condF rfl ?_
          refine WC.skip (blockQ.n <| thenQ.n ?_)
          refine WC.region ?_
          refine WL.lv rfl (LV.mv rfl) ?_
          refine WL.lv rfl (LV.add rfl rfl (wr64 (by omega) (by omega))) ?_
          refine WL.lv rfl (LV.asg rfl) ?_
          refine WL.nil (thenQ.n ?_)
          exact ⟨_, by omega, best_, i + 1, by omega, by omega, (by first | exact b1.skip (fun h_ => h_.1 ((q2.at_ i ilo (by omega)).1 htk_)) | exact b1.skip (fun h_ => by have h2_ := h_.2; omega) | exact b1.keep hl (by omega) (by omega) | exact b1.take hl ilo (by omega) ⟨fun h_ => (by rw [(q2.at_ i ilo (by omega)).2 h_] at htk_; cases htk_), ⟨by omega, by omega⟩⟩ (by omega)), by omega, hS3, rfl, Weak.cons rfl <| Weak.cons rfl <| Weak.cons rfl <| Weak.cons rfl <| Weak.cons rfl <| Weak.cons rfl <| Weak.nil _⟩
    · skip
      refine WC.exit (thenQ.x <| thenQ.x <| blockQ.hit <| thenQ.n ?_)
      iterate 2 refine WC.seq ?_
      refine WC.region ?_
      refine WL.lv rfl (LV.mv rfl) ?_
      have hfin_ : BS l out best_ (l.length : Int) := (show i = (l.length : Int) by omega) ▸ b1
      refine WL.lv rfl (LV.ltI rfl rfl) ?_
      refine WL.nil (thenQ.n ?_)
      refine WC.condP (p := best_ < 0) rfl (fun hc2 => ?_) (fun hc2 => ?_)
      · skip
        refine WC.seq ?_
        refine WC.region ?_
        refine WL.lv rfl (LV.mv rfl) ?_
        refine WL.lv rfl (LV.asg rfl) ?_
        refine WL.nil (thenQ.n ?_)
        refine WC.ret (thenQ.r <| blockQ.r <| thenQ.r <| blockQ.r <| thenQ.r <| ?_)
        have hS5 : SH w No w4 [rowE eI 3 (.slice A_out out.length c_out) out] := (SH.take 1 rfl (SH.front [rowE eB 4 (.slice (some ⟨b4, 0, none⟩) l.length l.length) taken] hL2))
        exact ⟨_, fun a ha => res1 rfl ha rfl, _, _, out, rfl, ⟨ys, hto, take_all (top_no hto q1 hfin_ (by omega)) (by omega)⟩, hS5⟩
      · skip
        refine WC.skip (thenQ.n ?_)
        refine WC.seq ?_
        refine WC.region ?_
        iterate 2 refine WL.lv rfl (LV.mv rfl) ?_
        obtain ⟨A6, c6, e6, g6⟩ := St.elt (SH.rd hL2 (.head _)) false best_ (by omega) (by omega)
        refine WL.lv rfl (LV.idxA Try.underlying34 ti4.sz rfl e6 rfl (by omega) (by omega)) ?_
        refine WL.xse rfl (XSE.row1 (i := best_) (o := 0) (k := false) true hL2 e6 (by omega) (by omega) (by decide) ti4.sz rfl rfl rfl rfl) ?_
        rintro w6 ⟨hS6, hk4⟩
        refine WL.nil (thenQ.n ?_)
        refine WC.region ?_
        iterate 2 refine WL.lv rfl (LV.mv rfl) ?_
        refine WL.xe rfl (XE.buildSlice (E := eI) [(0, (.int .i64 best_))] #[(.int .i64 best_)] [best_] hS6 Try.underlying22 ti3 rfl (by decide) (by kernel_rfl) (.inr rfl) rfl rfl (by decide)) ?_
        rintro _ w7 ⟨b5, rfl, hS7, hk5⟩
        have hS8 : SH w No w7 [rowE eI 3 (.slice A_out out.length c_out) out, rowE eI 3 (.slice (some ⟨b5, 0, none⟩) 1 1) [best_], rowE eB 4 (.slice (some ⟨b4, 0, none⟩) l.length l.length) (taken.set (best_).toNat true)] := (SH.front [rowE eI 3 (.slice (some ⟨b5, 0, none⟩) 1 1) [best_], rowE eB 4 (.slice (some ⟨b4, 0, none⟩) l.length l.length) (taken.set (best_).toNat true)] hS7)
        refine WL.xe rfl (XE.append hS8 Try.underlying22 ti3 rfl (St.now (SH.rd hS8 (.tail _ (.head _)))) rfl rfl (by first | omega | simp only [List.length_append, List.length_cons, List.length_nil, List.length_take, List.length_reverse, List.length_drop] at *; omega) (by first | omega | simp only [List.length_append, List.length_cons, List.length_nil, List.length_take, List.length_reverse, List.length_drop] at *; omega)) ?_
        rintro _ w8 ⟨A7, c7, rfl, hS9, hk6⟩
        refine WL.lv rfl (LV.asg rfl) ?_
        refine WL.nil (blockQ.n <| thenQ.n ?_)
        have hS10 : SH w No w8 [rowE eB 4 (.slice (some ⟨b4, 0, none⟩) l.length l.length) (taken.set (best_).toNat true), rowE eI 3 (.slice A7 ((out ++ [best_]).length) c7) (out ++ [best_])] := (SH.take 2 rfl (SH.front [rowE eI 3 (.slice A7 ((out ++ [best_]).length) c7) (out ++ [best_]), rowE eI 3 (.slice (some ⟨b5, 0, none⟩) 1 1) [best_]] hS9))
        exact ⟨_, by simp; omega, A7, c7, (out ++ [best_]), (taken.set (best_).toNat true), (top_put hl hto q1 hfin_ (by omega)), (q2.put (by omega) (by omega)), (by simp; omega), (by have h_ := congrArg List.length (top_put hl hto q1 hfin_ (by omega)); rw [List.length_take] at h_; omega), hS10, rfl, Weak.cons rfl <| Weak.cons rfl <| Weak.cons rfl <| Weak.cons rfl <| Weak.nil _⟩
  · skip
    refine WC.exit (thenQ.x <| thenQ.x <| blockQ.hit <| thenQ.n ?_)
    refine WC.seq ?_
    refine WC.region ?_
    refine WL.lv rfl (LV.mv rfl) ?_
    refine WL.lv rfl (LV.asg rfl) ?_
    refine WL.nil (thenQ.n ?_)
    refine WC.ret (?_)
    have hS11 : SH w No w3 [rowE eI 3 (.slice A_out out.length c_out) out] := (SH.take 1 rfl (SH.front [rowE eB 4 (.slice (some ⟨b4, 0, none⟩) l.length l.length) taken] hL1))
    exact ⟨_, fun a ha => res1 rfl ha rfl, _, _, out, rfl, ⟨ys, hto, take_end q1 q3 (by omega)⟩, hS11⟩

end Go.Proofs.Ytmmdplcnhndcgaa
