/- Two laws of rank. -/
import Derived.Test.YthmjieikbeemhaaRkD
import Derived.Test.YthmjieikbeemhaaRkF
import Derived.Test.YthmjieikbeemhaaDc
namespace Go.Proofs.Ythmjieikbeemhaa
open Go Go.Gv Go.RowKit Go.Flt Go.Mys Go.Num Go.Scr Go.Dec Go.Rnk
set_option linter.unusedVariables false
set_option linter.unusedSimpArgs false

theorem all_calls {w : World} {A_inp : Option Addr} {n_inp c_inp : Nat} {inp : List (SV × List Ln)} {A_b : Option Addr} {n_b c_b : Nat} {b : List Ln} (h_inp : St No w (RdRR eL (.slice A_inp n_inp c_inp) inp)) (hn_inp : inp.length = n_inp) (h_b : St No w (Rd eL (.slice A_b n_b c_b) b)) (hn_b : b.length = n_b) (hl : inp.length ≤ 1000) :
    Calls Try.prog 20 #[(.slice A_inp n_inp c_inp), (.slice A_b n_b c_b)] w fun e w' => ∃ v, e = .returned v ∧ (fun v w' => ∃ (A' : Option Addr) (c' : Nat) (ys L : List (Int × Nat)), v = .slice A' ys.length c' ∧ KL (inp.map (·.2)) b L ∧ ys.Perm L ∧ SRK ys ∧ SH w No w' [rowE eK 37 (.slice A' ys.length c') ys]) v w' := by
  subst hn_inp hn_b
  have hS : SH w No w [] := SH.nil _ _
  refine calls (l := litOf [(.slice A_inp inp.length c_inp), (.slice A_b b.length c_b)] 0) Try.func20 rfl (n := 27) rfl (Nat.le_of_ble_eq_true rfl) (lit_args _) ?_
  refine WC.seq ?_
  refine WC.region ?_
  refine WL.lv rfl (LV.asg rfl) ?_
  refine WL.nil (thenQ.n ?_)
  refine WC.seq ?_
  refine WC.region ?_
  have hS1 := SH.nilRow (E := eK) (T := 37) hS
  refine WL.lv rfl (LV.asg rfl) ?_
  refine WL.nil (thenQ.n ?_)
  iterate 2 refine WC.seq ?_
  refine WC.region ?_
  refine WL.lv rfl (LV.mv rfl) ?_
  refine WL.lv rfl (LV.lenL Try.underlying30 rfl) ?_
  refine WL.lv rfl (LV.mv rfl) ?_
  refine WL.nil (thenQ.n ?_)
  refine WC.block ?_
  refine WC.loop (fun m_ f_ w_ => ∃ (A_out : Option Addr) (c_out : Nat) (out : List (Int × Nat)) (ix : Int), (0 ≤ ix) ∧ (ix ≤ (inp.length : Int)) ∧ (KLn (inp.map (·.2)) b out ix) ∧ ((out.length : Int) = ix) ∧ SH w No w_ [rowE eK 37 (.slice A_out out.length c_out) out] ∧ m_ = (((inp.length : Int) - ix).toNat) ∧ Weak (lit [(1, (.slice A_b b.length c_b)), (5, (.slice A_out out.length c_out)), (8, (.slice A_inp inp.length c_inp)), (9, (.int .i64 (inp.length : Int))), (10, (.int .i64 ix))]) f_) _ ⟨none, 0, [], 0, by omega, by omega, (KLn.z _ _), rfl, hS1, rfl, Weak.cons rfl <| Weak.cons rfl <| Weak.cons rfl <| Weak.cons rfl <| Weak.cons rfl <| Weak.nil _⟩ ?_
  rintro m1 f1 w1 ⟨A_out, c_out, out, ix, ixlo, ixhi, q1, q2, hL1, rfl, hw1⟩
  refine WC.weak hw1 ?_
  clear hw1
  refine WC.seq ?_
  refine WC.region ?_
  refine WL.lv rfl (LV.ltI rfl rfl) ?_
  refine WL.nil (thenQ.n ?_)
  refine WC.seq ?_
  refine WC.condP (p := ix < (inp.length : Int)) rfl (fun hk => ?_) (fun hk => ?_)
  · skip
    refine WC.skip (thenQ.n ?_)
    refine WC.seq ?_
    refine WC.block ?_
    refine WC.seq ?_
    refine WC.region ?_
    refine WL.lv rfl (LV.mv rfl) ?_
    obtain ⟨A1, c1, A2, c2, e1, g1, e2, r1⟩ := St.eltRR (SH.stN hL1 h_inp) default ix (by omega) (by omega)
    refine WL.lv rfl (LV.idxA Try.underlying30 ti22.sz rfl e1 rfl (by omega) (by omega)) ?_
    refine WL.lv rfl (LV.load1 Try.underlying22 rfl rfl (g1 _ (KB.refl No _))) ?_
    iterate 2 refine WL.lv rfl (LV.asg rfl) ?_
    refine WL.nil (thenQ.n ?_)
    refine WC.region ?_
    iterate 4 refine WL.lv rfl (LV.mv rfl) ?_
    refine WL.call rfl (XC.fn Try.func14 (by kernel_rfl) rfl rfl rfl) (like_calls  (St.inner (SH.stN hL1 h_inp) (getD_mem (by omega)) e2) rfl (SH.stN hL1 h_b) rfl ) ?_
    rintro v_ w2 ⟨r2, rfl, hf1, hf2, hk1⟩
    have hS2 := SH.same hL1 hk1
    have hlk_ := hf1
    have hlw_ := hf2
    refine WL.lv rfl (LV.build (vs := [(0, (.int .i64 ix)), (1, (.float .f64 r2))]) (places := #[(0, 1), (1, 1)]) (cs := #[(.int .i64 ix), (.float .f64 r2)]) Try.underlying37 ti37 (fun _ => by kernel_rfl) rfl rfl) ?_
    refine WL.xe rfl (XE.buildSlice (E := eK) [(0, (.agg #[(.int .i64 ix), (.float .f64 r2)]))] #[(.int .i64 ix), (.float .f64 r2)] [((ix : Int), (r2 : Nat))] hS2 Try.underlying32 ti37 rfl (by decide) (by kernel_rfl) (.inr rfl) rfl rfl (by decide)) ?_
    rintro _ w3 ⟨b1, rfl, hS3, hk2⟩
    have hS4 : SH w No w3 [rowE eK 37 (.slice A_out out.length c_out) out, rowE eK 37 (.slice (some ⟨b1, 0, none⟩) 1 1) [((ix : Int), (r2 : Nat))]] := (SH.front [rowE eK 37 (.slice (some ⟨b1, 0, none⟩) 1 1) [((ix : Int), (r2 : Nat))]] hS3)
    refine WL.xe rfl (XE.append hS4 Try.underlying32 ti37 rfl (St.now (SH.rd hS4 (.tail _ (.head _)))) rfl rfl (by first | omega | simp only [List.length_append, List.length_cons, List.length_nil, List.length_take, List.length_reverse, List.length_drop] at *; omega) (by first | omega | simp only [List.length_append, List.length_cons, List.length_nil, List.length_take, List.length_reverse, List.length_drop] at *; omega)) ?_
    rintro _ w4 ⟨A3, c3, rfl, hS5, hk3⟩
    refine WL.lv rfl (LV.asg rfl) ?_
    refine WL.nil (blockQ.n <| thenQ.n ?_)
    refine WC.region ?_
    refine WL.lv rfl (LV.add rfl rfl (wr64 (by omega) (by omega))) ?_
    refine WL.lv rfl (LV.mv rfl) ?_
    refine WL.nil (thenQ.n ?_)
    have hS6 : SH w No w4 [rowE eK 37 (.slice A3 ((out ++ [((ix : Int), (r2 : Nat))]).length) c3) (out ++ [((ix : Int), (r2 : Nat))])] := (SH.take 1 rfl hS5)
    exact ⟨_, by omega, A3, c3, (out ++ [((ix : Int), (r2 : Nat))]), ix + 1, by omega, by omega, (q1.snoc ixlo (by rw [List.length_map]; omega) (by rw [hlk_]; congr 1; exact (rr_at2 (by omega)).symm) hlw_), (by simp; omega), hS6, rfl, Weak.cons rfl <| Weak.cons rfl <| Weak.cons rfl <| Weak.cons rfl <| Weak.cons rfl <| Weak.nil _⟩
  · skip
    refine WC.exit (thenQ.x <| thenQ.x <| blockQ.hit <| thenQ.n ?_)
    refine WC.seq ?_
    refine WC.region ?_
    refine WL.lv rfl (LV.mv rfl) ?_
    refine WL.call rfl (XC.fn Try.func34 (by kernel_rfl) rfl rfl rfl) (sort_callsP (p := p_sortK) (cf := fun x y : (Int × Nat) => LCF x y) sortN_sortK sortK_sortK hL1 (q1.w6) (fun W_ hW_ x y hx hy => by rw [Array.append_empty]; exact (korder_calls (w := W_) (x := x) (y := y) hx hy).mono fun e_ w_ ⟨v_, he_, hv_, hk_⟩ => ⟨he_.trans (by rw [hv_]), hk_, hk_.dr (by unfold DR; trivial)⟩) (by omega)) ?_
    rintro v_ w5 ⟨ys1, rfl, hpm1, hpw1, hS7, hk4⟩
    refine WL.nil (thenQ.n ?_)
    refine WC.seq ?_
    refine WC.region ?_
    refine WL.lv rfl (LV.mv rfl) ?_
    refine WL.lv rfl (LV.asg rfl) ?_
    refine WL.nil (thenQ.n ?_)
    refine WC.ret (?_)
    exact ⟨_, fun a ha => res1 rfl ha rfl, (by have hln_ := hpm1.length_eq; have hs_ := hS7; have e_ : out.length = ys1.length := hln_.symm; rw [e_] at hs_; exact ⟨_, _, _, out, by rw [e_], q1.fin (by rw [List.length_map]; omega), hpm1, hpw1, hs_⟩)⟩

theorem nearest_calls {w : World} {A_inp : Option Addr} {n_inp c_inp : Nat} {inp : List (SV × List Ln)} {A_b : Option Addr} {n_b c_b : Nat} {b : List Ln} (h_inp : St No w (RdRR eL (.slice A_inp n_inp c_inp) inp)) (hn_inp : inp.length = n_inp) (h_b : St No w (Rd eL (.slice A_b n_b c_b) b)) (hn_b : b.length = n_b) (hl : inp.length ≤ 1000) :
    Calls Try.prog 18 #[(.slice A_inp n_inp c_inp), (.slice A_b n_b c_b)] w fun e w' => ∃ v, e = .returned v ∧ (fun v w' => ∃ (k' : Int) (is' : Bool), v = .tuple #[.int .i64 k', .bool is'] ∧ NRS (inp.map (·.2)) b k' is' ∧ KB No w w') v w' := by
  subst hn_inp hn_b
  have hS : SH w No w [] := SH.nil _ _
  refine calls (l := litOf [(.slice A_inp inp.length c_inp), (.slice A_b b.length c_b)] 0) Try.func18 rfl (n := 24) rfl (Nat.le_of_ble_eq_true rfl) (lit_args _) ?_
  refine WC.seq ?_
  refine WC.region ?_
  iterate 2 refine WL.lv rfl (LV.asg rfl) ?_
  refine WL.nil (thenQ.n ?_)
  refine WC.seq ?_
  refine WC.region ?_
  iterate 2 refine WL.lv rfl (LV.mv rfl) ?_
  refine WL.call rfl (XC.fn Try.func20 (by kernel_rfl) rfl rfl rfl) (all_calls (SH.stN hS h_inp) rfl (SH.stN hS h_b) rfl (by first | omega | (simp; done) | (simp; omega))) ?_
  rintro v_ w1 ⟨A1, c1, ys1, L1, rfl, hKL1, hpm1, hpw1, hS1⟩
  have hS2 := SH.joinN hS hS1
  refine WL.lv rfl (LV.asg rfl) ?_
  refine WL.nil (thenQ.n ?_)
  iterate 2 refine WC.seq ?_
  refine WC.region ?_
  refine WL.lv rfl (LV.mv rfl) ?_
  refine WL.lv rfl (LV.lenL Try.underlying32 rfl) ?_
  rcases Decidable.em ((ys1.length : Int) = 0) with hg1 | hg1
  · refine WL.lv rfl (LV.as (LV.eqI rfl rfl) (decide_eq_true hg1)) ?_
    refine WL.lv rfl (LV.mv rfl) ?_
    iterate 5 refine WL.off rfl ?_
    refine WL.lv rfl (LV.pickT rfl rfl) ?_
    refine WL.nil (thenQ.n ?_)
    refine WC.condT rfl ?_
    refine WC.seq ?_
    refine WC.region ?_
    iterate 2 refine WL.lv rfl (LV.asg rfl) ?_
    refine WL.nil (thenQ.n ?_)
    refine WC.ret (thenQ.r <| ?_)
    exact ⟨_, fun a ha => res2 rfl ha rfl rfl, 0, false, tup2 (congrArg (Value.int .i64) (rfl)) (congrArg Value.bool (rfl)), ⟨ys1, L1, hKL1, hpm1, hpw1, by first | exact .inl ⟨by omega, rfl, rfl⟩ | exact .inr ⟨by omega, rfl, rfl⟩⟩, hS2.kb⟩
  · refine WL.lv rfl (LV.as (LV.eqI rfl rfl) (decide_eq_false hg1)) ?_
    iterate 2 refine WL.lv rfl (LV.mv rfl) ?_
    obtain ⟨A2, c2, e1, g1⟩ := St.elt (SH.rd hS2 (.head _)) (0, 0) (0 : Int) (by omega) (by omega)
    refine WL.lv rfl (LV.idxA Try.underlying32 ti37.sz rfl e1 rfl (by omega) (by omega)) ?_
    refine WL.lv rfl (LV.fieldA Try.underlying37 rfl ti27.sz rfl) ?_
    refine WL.lv rfl (LV.load1 (v := (.float .f64 ((ys1.getD ((0 : Int)).toNat (0, 0)).2))) Try.underlying27 rfl rfl (g1 _ (KB.refl No _) 1 _ rfl)) ?_
    refine WL.call rfl (XC.fn Try.func33 (by kernel_rfl) rfl rfl rfl) (knone_calls (x := ((ys1.getD ((0 : Int)).toNat (0, 0)).2)) ) ?_
    rintro v_ w2 ⟨rfl, hk1⟩
    have hS3 := SH.same hS2 hk1
    refine WL.lv rfl (LV.pickF rfl rfl) ?_
    refine WL.nil (thenQ.n ?_)
    refine WC.condP (p := ¬ (-9218868437227405312 ≤ sk ((ys1.getD ((0 : Int)).toNat (0, 0)).2) ∧ sk ((ys1.getD ((0 : Int)).toNat (0, 0)).2) ≤ 9218868437227405312)) rfl (fun hc1 => ?_) (fun hc1 => ?_)
    · skip
      refine WC.seq ?_
      refine WC.region ?_
      iterate 2 refine WL.lv rfl (LV.asg rfl) ?_
      refine WL.nil (thenQ.n ?_)
      refine WC.ret (thenQ.r <| ?_)
      exact ⟨_, fun a ha => res2 rfl ha rfl rfl, 0, false, tup2 (congrArg (Value.int .i64) (rfl)) (congrArg Value.bool (rfl)), ⟨ys1, L1, hKL1, hpm1, hpw1, by first | exact .inl ⟨by omega, rfl, rfl⟩ | exact .inr ⟨by omega, rfl, rfl⟩⟩, hS3.kb⟩
    · skip
      refine WC.skip (thenQ.n ?_)
      refine WC.seq ?_
      refine WC.region ?_
      refine WL.lv rfl (LV.mv rfl) ?_
      obtain ⟨A3, c3, e2, g2⟩ := St.elt (SH.rd hS3 (.head _)) (0, 0) (0 : Int) (by omega) (by omega)
      refine WL.lv rfl (LV.idxA Try.underlying32 ti37.sz rfl e2 rfl (by omega) (by omega)) ?_
      refine WL.lv rfl (LV.fieldA Try.underlying37 rfl ti3.sz rfl) ?_
      refine WL.lv rfl (LV.load1 (v := (.int .i64 ((ys1.getD ((0 : Int)).toNat (0, 0)).1))) Try.underlying3 rfl rfl (g2 _ (KB.refl No _) 0 _ rfl)) ?_
      iterate 2 refine WL.lv rfl (LV.asg rfl) ?_
      refine WL.nil (thenQ.n ?_)
      refine WC.ret (?_)
      exact ⟨_, fun a ha => res2 rfl ha rfl rfl, (ys1.getD ((0 : Int)).toNat (0, 0)).1, true, tup2 (congrArg (Value.int .i64) (rfl)) (congrArg Value.bool (rfl)), ⟨ys1, L1, hKL1, hpm1, hpw1, by first | exact .inl ⟨by omega, rfl, rfl⟩ | exact .inr ⟨by omega, rfl, rfl⟩⟩, hS3.kb⟩

set_option maxHeartbeats 1000000 in
theorem print_calls {w : World} {A_l : Option Addr} {n_l c_l : Nat} {l : List (Int × Nat)} (h_l : St No w (Rd eK (.slice A_l n_l c_l) l)) (hn_l : l.length = n_l) (wl : ∀ x ∈ l, x.2 < 18446744073709551616) (hl : l.length ≤ 1000) :
    Calls Try.prog 21 #[(.slice A_l n_l c_l)] w fun e w' => ∃ v, e = .returned v ∧ (fun v w' => ∃ (A0' : Option Addr) (c0' : Nat), v = .slice A0' (bytesOf (PRT l)).length c0' ∧ SH w No w' [rowE eU8 5 (.slice A0' (bytesOf (PRT l)).length c0') (bytesOf (PRT l))]) v w' := by
  subst hn_l
  have hS : SH w No w [] := SH.nil _ _
  refine calls (l := litOf [(.slice A_l l.length c_l)] 0) Try.func21 rfl (n := 33) rfl (Nat.le_of_ble_eq_true rfl) (lit_args _) ?_
  refine WC.seq ?_
  refine WC.region ?_
  refine WL.lv rfl (LV.asg rfl) ?_
  refine WL.nil (thenQ.n ?_)
  refine WC.seq ?_
  refine WC.region ?_
  refine WL.xe rfl (XE.buildSlice (E := eU8) [] #[] [] hS Try.underlying40 ti5 rfl (by decide) (by kernel_rfl) (.inr rfl) rfl rfl (by decide)) ?_
  rintro _ w1 ⟨b1, rfl, hS1, hk1⟩
  refine WL.lv rfl (LV.asg rfl) ?_
  refine WL.nil (thenQ.n ?_)
  iterate 2 refine WC.seq ?_
  refine WC.region ?_
  refine WL.lv rfl (LV.mv rfl) ?_
  refine WL.lv rfl (LV.lenL Try.underlying32 rfl) ?_
  refine WL.lv rfl (LV.mv rfl) ?_
  refine WL.nil (thenQ.n ?_)
  refine WC.block ?_
  refine WC.loop (fun m_ f_ w_ => ∃ (A_out : Option Addr) (c_out : Nat) (out : List Int) (ix : Int), (0 ≤ ix) ∧ (ix ≤ (l.length : Int)) ∧ (out = bytesOf (PRT (l.take ix.toNat))) ∧ SH w No w_ [rowE eU8 5 (.slice A_out out.length c_out) out] ∧ m_ = (((l.length : Int) - ix).toNat) ∧ Weak (lit [(3, (.slice A_out out.length c_out)), (8, (.slice A_l l.length c_l)), (9, (.int .i64 (l.length : Int))), (10, (.int .i64 ix))]) f_) _ ⟨(some ⟨b1, 0, none⟩), 0, [], 0, by omega, by omega, rfl, hS1, rfl, Weak.cons rfl <| Weak.cons rfl <| Weak.cons rfl <| Weak.cons rfl <| Weak.nil _⟩ ?_
  rintro m1 f1 w2 ⟨A_out, c_out, out, ix, ixlo, ixhi, q1, hL1, rfl, hw1⟩
  refine WC.weak hw1 ?_
  clear hw1
  have hol_ : (out.length : Int) = ((PRT (l.take ix.toNat)).size : Int) := by rw [q1, bytesOf_len]
  refine WC.seq ?_
  refine WC.region ?_
  refine WL.lv rfl (LV.ltI rfl rfl) ?_
  refine WL.nil (thenQ.n ?_)
  refine WC.seq ?_
  refine WC.condP (p := ix < (l.length : Int)) rfl (fun hk => ?_) (fun hk => ?_)
  · have hd1_ := DEC_size (l.getD ix.toNat (0, 0)).1
    have hd2_ := DEC_size (MIL (l.getD ix.toNat (0, 0)).2)
    have hps_ := PRT_size (l := l) ixlo (by omega)
    have hpn_ := PRT_snoc (l := l) ixlo hk
    have hwl_ := wl (l.getD ix.toNat (0, 0)) (getD_mem (by omega))
    refine WC.skip (thenQ.n ?_)
    refine WC.seq ?_
    refine WC.block ?_
    refine WC.seq ?_
    refine WC.region ?_
    obtain ⟨A1, c1, e1, g1⟩ := St.elt (SH.stN hL1 h_l) (0, 0) ix (by omega) (by omega)
    refine WL.lv rfl (LV.idxA Try.underlying32 ti37.sz rfl e1 rfl (by omega) (by omega)) ?_
    refine WL.lv rfl (LV.loadAgg (cs := [(.int .i64 ((l.getD (ix).toNat (0, 0)).1)), (.float .f64 ((l.getD (ix).toNat (0, 0)).2))]) Try.underlying37 rfl ti37 rfl rfl (fun j u hu => g1 _ (KB.refl No _) j u hu)) ?_
    refine WL.xe rfl (XE.alloc #[(.int .i64 0), (.float .f64 0)] hL1 ti37 rfl) ?_
    rintro _ w3 ⟨b2, rfl, hS2, hk2⟩
    refine WL.xse rfl (XSE.blkAgg #[(.int .i64 ((l.getD (ix).toNat (0, 0)).1)), (.float .f64 ((l.getD (ix).toNat (0, 0)).2))] hS2 (by kernel_rfl) rfl (by kernel_rfl) rfl rfl) ?_
    rintro w4 ⟨hS3, hk3⟩
    refine WL.nil (thenQ.n ?_)
    refine WC.seq ?_
    refine WC.region ?_
    refine WL.lv rfl (LV.asg rfl) ?_
    refine WL.nil (thenQ.n ?_)
    iterate 2 refine WC.seq ?_
    refine WC.region ?_
    refine WL.lv rfl (LV.fieldA Try.underlying37 rfl ti27.sz rfl) ?_
    refine WL.lv rfl (LV.load1 Try.underlying27 rfl rfl (Blk.cellN (SH.at hS3 (.head _)) 1 rfl _ (KB.refl No _))) ?_
    refine WL.call rfl (XC.fn Try.func33 (by kernel_rfl) rfl rfl rfl) (knone_calls (x := ((l.getD (ix).toNat (0, 0)).2)) ) ?_
    rintro v_ w5 ⟨rfl, hk4⟩
    have hS4 := SH.same hS3 hk4
    refine WL.lv rfl (LV.notP rfl) ?_
    refine WL.nil (thenQ.n ?_)
    refine WC.condP (p := ¬ (¬ (-9218868437227405312 ≤ sk ((l.getD (ix).toNat (0, 0)).2) ∧ sk ((l.getD (ix).toNat (0, 0)).2) ≤ 9218868437227405312))) rfl (fun hc1 => ?_) (fun hc1 => ?_)
    · skip
      refine WC.region ?_
      refine WL.lv rfl (LV.fieldA Try.underlying37 rfl ti27.sz rfl) ?_
      refine WL.lv rfl (LV.load1 Try.underlying27 rfl rfl (Blk.cellN (SH.at hS4 (.head _)) 1 rfl _ (KB.refl No _))) ?_
      refine WL.call rfl (XC.fn Try.func37 (by kernel_rfl) rfl rfl rfl) (mille_calls (x := ((l.getD (ix).toNat (0, 0)).2)) (by first | assumption | omega | exact hp _ (getD_mem (by omega)) | exact hpz _ (getD_mem (by omega)))) ?_
      rintro v_ w6 ⟨rfl, hk5⟩
      have hS5 := SH.same hS4 hk5
      refine WL.call rfl (XC.fn Try.func36 (by kernel_rfl) rfl rfl rfl) (decimal_calls (n := (MIL ((l.getD (ix).toNat (0, 0)).2))) ) ?_
      rintro v_ w7 ⟨rfl, hk6⟩
      have hS6 := SH.same hS5 hk6
      refine WL.lv rfl (LV.asg rfl) ?_
      refine WL.nil (thenQ.n ?_)
      refine WC.region ?_
      refine WL.lv rfl (LV.mv rfl) ?_
      refine WL.lv rfl (LV.fieldA Try.underlying37 rfl ti3.sz rfl) ?_
      refine WL.lv rfl (LV.load1 Try.underlying3 rfl rfl (Blk.cellN (SH.at hS6 (.head _)) 0 rfl _ (KB.refl No _))) ?_
      refine WL.call rfl (XC.fn Try.func36 (by kernel_rfl) rfl rfl rfl) (decimal_calls (n := ((l.getD (ix).toNat (0, 0)).1)) ) ?_
      rintro v_ w8 ⟨rfl, hk7⟩
      have hS7 := SH.same hS6 hk7
      refine WL.lv rfl (LV.addS rfl rfl (by first | omega | (simp only [ByteArray.size_append, lit1]; omega) | (simp only [ByteArray.size_append, lit1, str_size, List.length_cons, List.length_nil]; omega))) ?_
      refine WL.lv rfl (LV.mv rfl) ?_
      iterate 2 refine WL.lv rfl (LV.addS rfl rfl (by first | omega | (simp only [ByteArray.size_append, lit1]; omega) | (simp only [ByteArray.size_append, lit1, str_size, List.length_cons, List.length_nil]; omega))) ?_
      have hS8 : SH w No w8 [rowE eU8 5 (.slice A_out out.length c_out) out, blkE b2 37 #[(.int .i64 ((l.getD (ix).toNat (0, 0)).1)), (.float .f64 ((l.getD (ix).toNat (0, 0)).2))]] := (SH.front [blkE b2 37 #[(.int .i64 ((l.getD (ix).toNat (0, 0)).1)), (.float .f64 ((l.getD (ix).toNat (0, 0)).2))]] hS7)
      refine WL.xe rfl (XE.appendS hS8 Try.underlying40 Try.underlying9 ti5 rfl rfl (by first | omega | (simp only [ByteArray.size_append, lit1]; omega))) ?_
      rintro _ w9 ⟨A2, c2, rfl, hS9, hk8⟩
      refine WL.lv rfl (LV.asg rfl) ?_
      refine WL.nil (blockQ.n <| thenQ.n ?_)
      refine WC.region ?_
      refine WL.lv rfl (LV.add rfl rfl (wr64 (by omega) (by omega))) ?_
      refine WL.lv rfl (LV.mv rfl) ?_
      refine WL.nil (thenQ.n ?_)
      have hS10 : SH w No w9 [rowE eU8 5 (.slice A2 ((out ++ bytesOf ((((DEC ((l.getD (ix).toNat (0, 0)).1)) ++ ⟨#[32]⟩) ++ (DEC (MIL ((l.getD (ix).toNat (0, 0)).2)))) ++ ⟨#[10]⟩)).length) c2) (out ++ bytesOf ((((DEC ((l.getD (ix).toNat (0, 0)).1)) ++ ⟨#[32]⟩) ++ (DEC (MIL ((l.getD (ix).toNat (0, 0)).2)))) ++ ⟨#[10]⟩))] := (SH.take 1 rfl hS9)
      exact ⟨_, by omega, A2, c2, (out ++ bytesOf ((((DEC ((l.getD (ix).toNat (0, 0)).1)) ++ ⟨#[32]⟩) ++ (DEC (MIL ((l.getD (ix).toNat (0, 0)).2)))) ++ ⟨#[10]⟩)), ix + 1, by omega, by omega, (by rw [hpn_, q1, bytesOf_app (PRT _) (LINE _)]; unfold LINE; rw [if_pos (by omega)]), hS10, rfl, Weak.cons rfl <| Weak.cons rfl <| Weak.cons rfl <| Weak.cons rfl <| Weak.nil _⟩
    · skip
      refine WC.skip (thenQ.n ?_)
      refine WC.region ?_
      refine WL.lv rfl (LV.mv rfl) ?_
      refine WL.lv rfl (LV.fieldA Try.underlying37 rfl ti3.sz rfl) ?_
      refine WL.lv rfl (LV.load1 Try.underlying3 rfl rfl (Blk.cellN (SH.at hS4 (.head _)) 0 rfl _ (KB.refl No _))) ?_
      refine WL.call rfl (XC.fn Try.func36 (by kernel_rfl) rfl rfl rfl) (decimal_calls (n := ((l.getD (ix).toNat (0, 0)).1)) ) ?_
      rintro v_ w10 ⟨rfl, hk9⟩
      have hS11 := SH.same hS4 hk9
      refine WL.lv rfl (LV.addS rfl rfl (by first | omega | (simp only [ByteArray.size_append, lit1]; omega) | (simp only [ByteArray.size_append, lit1, str_size, List.length_cons, List.length_nil]; omega))) ?_
      refine WL.lv rfl (LV.mv rfl) ?_
      iterate 2 refine WL.lv rfl (LV.addS rfl rfl (by first | omega | (simp only [ByteArray.size_append, lit1]; omega) | (simp only [ByteArray.size_append, lit1, str_size, List.length_cons, List.length_nil]; omega))) ?_
      have hS12 : SH w No w10 [rowE eU8 5 (.slice A_out out.length c_out) out, blkE b2 37 #[(.int .i64 ((l.getD (ix).toNat (0, 0)).1)), (.float .f64 ((l.getD (ix).toNat (0, 0)).2))]] := (SH.front [blkE b2 37 #[(.int .i64 ((l.getD (ix).toNat (0, 0)).1)), (.float .f64 ((l.getD (ix).toNat (0, 0)).2))]] hS11)
      refine WL.xe rfl (XE.appendS hS12 Try.underlying40 Try.underlying9 ti5 rfl rfl (by first | omega | (simp only [ByteArray.size_append, lit1]; omega))) ?_
      rintro _ w11 ⟨A3, c3, rfl, hS13, hk10⟩
      refine WL.lv rfl (LV.asg rfl) ?_
      refine WL.nil (blockQ.n <| thenQ.n ?_)
      refine WC.region ?_
      refine WL.lv rfl (LV.add rfl rfl (wr64 (by omega) (by omega))) ?_
      refine WL.lv rfl (LV.mv rfl) ?_
      refine WL.nil (thenQ.n ?_)
      have hS14 : SH w No w11 [rowE eU8 5 (.slice A3 ((out ++ bytesOf ((((DEC ((l.getD (ix).toNat (0, 0)).1)) ++ ⟨#[32]⟩) ++ ⟨#[45]⟩) ++ ⟨#[10]⟩)).length) c3) (out ++ bytesOf ((((DEC ((l.getD (ix).toNat (0, 0)).1)) ++ ⟨#[32]⟩) ++ ⟨#[45]⟩) ++ ⟨#[10]⟩))] := (SH.take 1 rfl hS13)
      exact ⟨_, by omega, A3, c3, (out ++ bytesOf ((((DEC ((l.getD (ix).toNat (0, 0)).1)) ++ ⟨#[32]⟩) ++ ⟨#[45]⟩) ++ ⟨#[10]⟩)), ix + 1, by omega, by omega, (by rw [hpn_, q1, bytesOf_app (PRT _) (LINE _)]; unfold LINE; rw [if_neg (by omega)]), hS14, rfl, Weak.cons rfl <| Weak.cons rfl <| Weak.cons rfl <| Weak.cons rfl <| Weak.nil _⟩
  · skip
    refine WC.exit (thenQ.x <| thenQ.x <| blockQ.hit <| thenQ.n ?_)
    refine WC.seq ?_
    refine WC.region ?_
    refine WL.lv rfl (LV.mv rfl) ?_
    refine WL.lv rfl (LV.asg rfl) ?_
    refine WL.nil (thenQ.n ?_)
    refine WC.ret (?_)
    have hres1 : (out : List Int) = bytesOf (PRT l) := by rw [q1, List.take_of_length_le (by omega)]
    exact ⟨_, fun a ha => res1 rfl ha rfl, (by rw [← hres1]; exact ⟨_, _, rfl, hL1⟩)⟩

set_option maxHeartbeats 1000000 in
theorem rprint_calls {w : World} {A_l : Option Addr} {n_l c_l : Nat} {l : List (Int × Nat)} (h_l : St No w (Rd eK (.slice A_l n_l c_l) l)) (hn_l : l.length = n_l) (wl : ∀ x ∈ l, x.2 < 18446744073709551616) (hl : l.length ≤ 1000) :
    Calls Try.prog 22 #[(.slice A_l n_l c_l)] w fun e w' => ∃ v, e = .returned v ∧ (fun v w' => ∃ A c, v = .slice A (PRT l).size c ∧ Rd eU8 (.slice A (PRT l).size c) (bytesOf (PRT l)) w' ∧ KB No w w') v w' := by
  subst hn_l
  have hS : SH w No w [] := SH.nil _ _
  refine calls (l := litOf [(.slice A_l l.length c_l)] 0) Try.func22 rfl (n := 44) rfl (Nat.le_of_ble_eq_true rfl) (lit_args _) ?_
  refine WC.seq ?_
  refine WC.region ?_
  refine WL.lv rfl (LV.asg rfl) ?_
  refine WL.nil (thenQ.n ?_)
  refine WC.seq ?_
  refine WC.region ?_
  refine WL.lv rfl (LV.asg rfl) ?_
  refine WL.nil (thenQ.n ?_)
  iterate 2 refine WC.seq ?_
  refine WC.region ?_
  refine WL.lv rfl (LV.asg rfl) ?_
  refine WL.nil (thenQ.n ?_)
  refine WC.block ?_
  refine WC.loop (fun m_ f_ w_ => ∃ (out : ByteArray) (i : Int), (0 ≤ i) ∧ (i ≤ (l.length : Int)) ∧ (out = PRT (l.take i.toNat)) ∧ SH w No w_ [] ∧ m_ = (((l.length : Int) - i).toNat) ∧ Weak (lit [(0, (.slice A_l l.length c_l)), (3, (.string out)), (4, (.int .i64 i))]) f_) _ ⟨⟨#[]⟩, 0, by omega, by omega, rfl, hS, rfl, Weak.cons rfl <| Weak.cons rfl <| Weak.cons rfl <| Weak.nil _⟩ ?_
  rintro m1 f1 w1 ⟨out, i, ilo, ihi, q1, hL1, rfl, hw1⟩
  refine WC.weak hw1 ?_
  clear hw1
  have hos_ : (out.size : Int) = ((PRT (l.take i.toNat)).size : Int) := by rw [q1]
  iterate 2 refine WC.seq ?_
  refine WC.region ?_
  iterate 2 refine WL.lv rfl (LV.mv rfl) ?_
  refine WL.lv rfl (LV.lenL Try.underlying32 rfl) ?_
  refine WL.lv rfl (LV.ltI rfl rfl) ?_
  refine WL.nil (thenQ.n ?_)
  refine WC.condP (p := i < (l.length : Int)) rfl (fun hk => ?_) (fun hk => ?_)
  · have hd1_ := DEC_size (l.getD i.toNat (0, 0)).1
    have hd2_ := DEC_size (MIL (l.getD i.toNat (0, 0)).2)
    have hps_ := PRT_size (l := l) ilo (by omega)
    have hpn_ := PRT_snoc (l := l) ilo hk
    have hwl_ := wl (l.getD i.toNat (0, 0)) (getD_mem (by omega))
    refine WC.skip (thenQ.n ?_)
    refine WC.seq ?_
    refine WC.block ?_
    refine WC.seq ?_
    refine WC.region ?_
    refine WL.lv rfl (LV.asg rfl) ?_
    refine WL.nil (thenQ.n ?_)
    iterate 2 refine WC.seq ?_
    have hS1 := SH.drew hL1
    refine WC.regionD [] (fun w_ => KB No w1.drew w_) [(.pure, 0), (.pure, 1), (.pure, 2), (.pure, 3), (.look, 4), (.pure, 5), (.pure, 6), (.pure, 7), (.pure, 8), (.look, 9), (.pure, 10)] (by kernel_rfl) (by kernel_rfl) (KB.refl _ _) ?_
    iterate 2 refine WS.pure rfl rfl (fun _ => LV.mv rfl) ?_
    obtain ⟨A1, c1, e1, g1⟩ := St.elt (SH.stN hS1 h_l) (0, 0) i (by omega) (by omega)
    refine WS.pure rfl rfl (fun _ => LV.idxA Try.underlying32 ti37.sz rfl e1 rfl (by omega) (by omega)) ?_
    refine WS.pure rfl rfl (fun _ => LV.fieldA Try.underlying37 rfl ti27.sz rfl) ?_
    refine WS.look rfl rfl (fun _ hk_ => LV.load1 (v := (.float .f64 ((l.getD (i).toNat (0, 0)).2))) Try.underlying27 rfl rfl (g1 _ hk_ 1 _ rfl)) ?_
    iterate 2 refine WS.pure rfl rfl (fun _ => LV.mv rfl) ?_
    obtain ⟨A2, c2, e2, g2⟩ := St.elt (SH.stN hS1 h_l) (0, 0) i (by omega) (by omega)
    refine WS.pure rfl rfl (fun _ => LV.idxA Try.underlying32 ti37.sz rfl e2 rfl (by omega) (by omega)) ?_
    refine WS.pure rfl rfl (fun _ => LV.fieldA Try.underlying37 rfl ti27.sz rfl) ?_
    refine WS.look rfl rfl (fun _ hk_ => LV.load1 (v := (.float .f64 ((l.getD (i).toNat (0, 0)).2))) Try.underlying27 rfl rfl (g2 _ hk_ 1 _ rfl)) ?_
    refine WS.pure rfl rfl (fun _ => LV.eqF (a := ((l.getD (i).toNat (0, 0)).2)) (b := ((l.getD (i).toNat (0, 0)).2)) rfl rfl) ?_
    refine WS.nil (thenQ.n ?_)
    refine WC.condP (p := ((-9218868437227405312 ≤ sk ((l.getD (i).toNat (0, 0)).2) ∧ sk ((l.getD (i).toNat (0, 0)).2) ≤ 9218868437227405312) ∧ (-9218868437227405312 ≤ sk ((l.getD (i).toNat (0, 0)).2) ∧ sk ((l.getD (i).toNat (0, 0)).2) ≤ 9218868437227405312)) ∧ sk ((l.getD (i).toNat (0, 0)).2) = sk ((l.getD (i).toNat (0, 0)).2)) rfl (fun hc1 => ?_) (fun hc1 => ?_)
    · skip
      refine WC.region ?_
      iterate 2 refine WL.lv rfl (LV.mv rfl) ?_
      obtain ⟨A3, c3, e3, g3⟩ := St.elt (SH.stN hS1 h_l) (0, 0) i (by omega) (by omega)
      refine WL.lv rfl (LV.idxA Try.underlying32 ti37.sz rfl e3 rfl (by omega) (by omega)) ?_
      refine WL.lv rfl (LV.fieldA Try.underlying37 rfl ti27.sz rfl) ?_
      refine WL.lv rfl (LV.load1 (v := (.float .f64 ((l.getD (i).toNat (0, 0)).2))) Try.underlying27 rfl rfl (g3 _ (KB.refl No _) 1 _ rfl)) ?_
      refine WL.call rfl (XC.fn Try.func39 (by kernel_rfl) rfl rfl rfl) (rmille_calls (x := ((l.getD (i).toNat (0, 0)).2)) (by first | assumption | omega | exact hp _ (getD_mem (by omega)) | exact hpz _ (getD_mem (by omega)))) ?_
      rintro v_ w2 ⟨rfl, hk1⟩
      have hS2 := SH.same hS1 hk1
      refine WL.call rfl (XC.fn Try.func38 (by kernel_rfl) rfl rfl rfl) (rdecimal_calls (n := (MIL ((l.getD (i).toNat (0, 0)).2))) ) ?_
      rintro v_ w3 ⟨rfl, hk2⟩
      have hS3 := SH.same hS2 hk2
      refine WL.lv rfl (LV.asg rfl) ?_
      refine WL.nil (thenQ.n ?_)
      refine WC.region ?_
      iterate 3 refine WL.lv rfl (LV.mv rfl) ?_
      obtain ⟨A4, c4, e4, g4⟩ := St.elt (SH.stN hS3 h_l) (0, 0) i (by omega) (by omega)
      refine WL.lv rfl (LV.idxA Try.underlying32 ti37.sz rfl e4 rfl (by omega) (by omega)) ?_
      refine WL.lv rfl (LV.fieldA Try.underlying37 rfl ti3.sz rfl) ?_
      refine WL.lv rfl (LV.load1 (v := (.int .i64 ((l.getD (i).toNat (0, 0)).1))) Try.underlying3 rfl rfl (g4 _ (KB.refl No _) 0 _ rfl)) ?_
      refine WL.call rfl (XC.fn Try.func38 (by kernel_rfl) rfl rfl rfl) (rdecimal_calls (n := ((l.getD (i).toNat (0, 0)).1)) ) ?_
      rintro v_ w4 ⟨rfl, hk3⟩
      have hS4 := SH.same hS3 hk3
      iterate 2 refine WL.lv rfl (LV.addS rfl rfl (by first | omega | (simp only [ByteArray.size_append, lit1]; omega) | (simp only [ByteArray.size_append, lit1, str_size, List.length_cons, List.length_nil]; omega))) ?_
      refine WL.lv rfl (LV.mv rfl) ?_
      iterate 2 refine WL.lv rfl (LV.addS rfl rfl (by first | omega | (simp only [ByteArray.size_append, lit1]; omega) | (simp only [ByteArray.size_append, lit1, str_size, List.length_cons, List.length_nil]; omega))) ?_
      refine WL.lv rfl (LV.asg rfl) ?_
      refine WL.nil (blockQ.n <| thenQ.n ?_)
      refine WC.region ?_
      refine WL.lv rfl (LV.mv rfl) ?_
      refine WL.lv rfl (LV.add rfl rfl (wr64 (by omega) (by omega))) ?_
      refine WL.lv rfl (LV.asg rfl) ?_
      refine WL.nil (thenQ.n ?_)
      exact ⟨_, by omega, (((out ++ (DEC ((l.getD (i).toNat (0, 0)).1))) ++ ⟨#[32]⟩) ++ (DEC (MIL ((l.getD (i).toNat (0, 0)).2)))) ++ ⟨#[10]⟩, i + 1, by omega, by omega, (by rw [hpn_, q1]; unfold LINE; rw [if_pos (by omega)]; simp only [ByteArray.append_assoc]), hS4, rfl, Weak.cons rfl <| Weak.cons rfl <| Weak.cons rfl <| Weak.nil _⟩
    · skip
      refine WC.skip (thenQ.n ?_)
      refine WC.region ?_
      iterate 3 refine WL.lv rfl (LV.mv rfl) ?_
      obtain ⟨A5, c5, e5, g5⟩ := St.elt (SH.stN hS1 h_l) (0, 0) i (by omega) (by omega)
      refine WL.lv rfl (LV.idxA Try.underlying32 ti37.sz rfl e5 rfl (by omega) (by omega)) ?_
      refine WL.lv rfl (LV.fieldA Try.underlying37 rfl ti3.sz rfl) ?_
      refine WL.lv rfl (LV.load1 (v := (.int .i64 ((l.getD (i).toNat (0, 0)).1))) Try.underlying3 rfl rfl (g5 _ (KB.refl No _) 0 _ rfl)) ?_
      refine WL.call rfl (XC.fn Try.func38 (by kernel_rfl) rfl rfl rfl) (rdecimal_calls (n := ((l.getD (i).toNat (0, 0)).1)) ) ?_
      rintro v_ w5 ⟨rfl, hk4⟩
      have hS5 := SH.same hS1 hk4
      iterate 2 refine WL.lv rfl (LV.addS rfl rfl (by first | omega | (simp only [ByteArray.size_append, lit1]; omega) | (simp only [ByteArray.size_append, lit1, str_size, List.length_cons, List.length_nil]; omega))) ?_
      refine WL.lv rfl (LV.mv rfl) ?_
      iterate 2 refine WL.lv rfl (LV.addS rfl rfl (by first | omega | (simp only [ByteArray.size_append, lit1]; omega) | (simp only [ByteArray.size_append, lit1, str_size, List.length_cons, List.length_nil]; omega))) ?_
      refine WL.lv rfl (LV.asg rfl) ?_
      refine WL.nil (blockQ.n <| thenQ.n ?_)
      refine WC.region ?_
      refine WL.lv rfl (LV.mv rfl) ?_
      refine WL.lv rfl (LV.add rfl rfl (wr64 (by omega) (by omega))) ?_
      refine WL.lv rfl (LV.asg rfl) ?_
      refine WL.nil (thenQ.n ?_)
      exact ⟨_, by omega, (((out ++ (DEC ((l.getD (i).toNat (0, 0)).1))) ++ ⟨#[32]⟩) ++ ⟨#[45]⟩) ++ ⟨#[10]⟩, i + 1, by omega, by omega, (by rw [hpn_, q1]; unfold LINE; rw [if_neg (by omega)]; simp only [ByteArray.append_assoc]), hS5, rfl, Weak.cons rfl <| Weak.cons rfl <| Weak.cons rfl <| Weak.nil _⟩
  · skip
    refine WC.exit (thenQ.x <| thenQ.x <| blockQ.hit <| thenQ.n ?_)
    refine WC.seq ?_
    refine WC.region ?_
    refine WL.lv rfl (LV.mv rfl) ?_
    refine WL.xe rfl (XE.bytes (s := out) hL1 Try.underlying9 Try.underlying40 Try.underlying5 rfl (by have h_ := PRT_size (l := l) ilo (by omega); rw [← q1] at h_; omega)) ?_
    rintro _ w6 ⟨A6, c6, rfl, hr1, hS6, hk5⟩
    refine WL.lv rfl (LV.asg rfl) ?_
    refine WL.nil (thenQ.n ?_)
    refine WC.ret (?_)
    exact ⟨_, fun a ha => res1 rfl ha rfl, (by have e_ : PRT l = out := (by rw [q1, List.take_of_length_le (by omega)]); rw [e_]; exact ⟨_, _, rfl, hr1, hS6.kb⟩)⟩

set_option maxHeartbeats 2000000 in
set_option maxRecDepth 100000 in
theorem live23_calls {w : World}  :
    Calls Try.prog 10 #[] w fun e w' => ∃ v, e = .returned v ∧ (fun v w' => v = .bool (decide (true)) ∧ KB No w w') v w' := by
  have hS : SH w No w [] := SH.nil _ _
  refine calls (l := litOf [] 0) Try.func10 rfl (n := 43) rfl (Nat.le_of_ble_eq_true rfl) (lit_args _) ?_
  refine WC.seq ?_
  refine WC.region ?_
  refine WL.lv rfl (LV.asg rfl) ?_
  refine WL.nil (thenQ.n ?_)
  refine WC.seq ?_
  refine WC.region ?_
  refine WL.lv rfl (LV.build (vs := [(0, (.string ⟨#[97]⟩))]) (places := #[(0, 1), (1, 1)]) (cs := #[(.string ⟨#[97]⟩), (.bool false)]) Try.underlying44 ti44 (fun _ => by kernel_rfl) rfl rfl) ?_
  refine WL.lv rfl (LV.build (vs := [(0, (.string ⟨#[98]⟩))]) (places := #[(0, 1), (1, 1)]) (cs := #[(.string ⟨#[98]⟩), (.bool false)]) Try.underlying44 ti44 (fun _ => by kernel_rfl) rfl rfl) ?_
  refine WL.lv rfl (LV.build (vs := [(0, (.string ⟨#[99]⟩))]) (places := #[(0, 1), (1, 1)]) (cs := #[(.string ⟨#[99]⟩), (.bool false)]) Try.underlying44 ti44 (fun _ => by kernel_rfl) rfl rfl) ?_
  refine WL.xe rfl (XE.alloc #[(.string ⟨#[]⟩), (.bool false)] hS ti44 rfl) ?_
  rintro _ w1 ⟨b1, rfl, hS1, hk1⟩
  refine WL.xe rfl (XE.alloc #[(.string ⟨#[]⟩), (.bool false)] hS1 ti44 rfl) ?_
  rintro _ w2 ⟨b2, rfl, hS2, hk2⟩
  refine WL.xe rfl (XE.alloc #[(.string ⟨#[]⟩), (.bool false)] hS2 ti44 rfl) ?_
  rintro _ w3 ⟨b3, rfl, hS3, hk3⟩
  have hS5 : SH w No w3 [blkE b1 44 #[(.string ⟨#[]⟩), (.bool false)], blkE b3 44 #[(.string ⟨#[]⟩), (.bool false)], blkE b2 44 #[(.string ⟨#[]⟩), (.bool false)]] := (SH.front [blkE b3 44 #[(.string ⟨#[]⟩), (.bool false)], blkE b2 44 #[(.string ⟨#[]⟩), (.bool false)]] hS3)
  refine WL.xse rfl (XSE.blkAgg #[(.string ⟨#[97]⟩), (.bool false)] hS5 (by kernel_rfl) rfl (by kernel_rfl) rfl rfl) ?_
  rintro w4 ⟨hS4, hk4⟩
  have hS7 : SH w No w4 [blkE b2 44 #[(.string ⟨#[]⟩), (.bool false)], blkE b1 44 #[(.string ⟨#[97]⟩), (.bool false)], blkE b3 44 #[(.string ⟨#[]⟩), (.bool false)]] := (SH.front [blkE b1 44 #[(.string ⟨#[97]⟩), (.bool false)], blkE b3 44 #[(.string ⟨#[]⟩), (.bool false)]] hS4)
  refine WL.xse rfl (XSE.blkAgg #[(.string ⟨#[98]⟩), (.bool false)] hS7 (by kernel_rfl) rfl (by kernel_rfl) rfl rfl) ?_
  rintro w5 ⟨hS6, hk5⟩
  have hS9 : SH w No w5 [blkE b3 44 #[(.string ⟨#[]⟩), (.bool false)], blkE b2 44 #[(.string ⟨#[98]⟩), (.bool false)], blkE b1 44 #[(.string ⟨#[97]⟩), (.bool false)]] := (SH.front [blkE b2 44 #[(.string ⟨#[98]⟩), (.bool false)], blkE b1 44 #[(.string ⟨#[97]⟩), (.bool false)]] hS6)
  refine WL.xse rfl (XSE.blkAgg #[(.string ⟨#[99]⟩), (.bool false)] hS9 (by kernel_rfl) rfl (by kernel_rfl) rfl rfl) ?_
  rintro w6 ⟨hS8, hk6⟩
  refine WL.nil (thenQ.n ?_)
  refine WC.seq ?_
  refine WC.region ?_
  refine WL.lv rfl (LV.loadAgg (cs := [(.string ⟨#[97]⟩), (.bool false)]) Try.underlying44 rfl ti44 rfl rfl (Blk.agg (SH.at hS8 (.tail _ (.tail _ (.head _)))) _ (KB.refl No _))) ?_
  refine WL.xe rfl (XE.buildSlice (E := eL) [(0, (.agg #[(.string ⟨#[97]⟩), (.bool false)]))] #[(.string ⟨#[97]⟩), (.bool false)] [(⟨#[97]⟩, false)] hS8 Try.underlying22 ti44 rfl (by decide) (by kernel_rfl) (.inr rfl) rfl rfl (by decide)) ?_
  rintro _ w7 ⟨b4, rfl, hS10, hk7⟩
  refine WL.lv rfl (LV.loadAgg (cs := [(.string ⟨#[98]⟩), (.bool false)]) Try.underlying44 rfl ti44 rfl rfl (Blk.agg (SH.at hS10 (.tail _ (.tail _ (.head _)))) _ (KB.refl No _))) ?_
  refine WL.lv rfl (LV.loadAgg (cs := [(.string ⟨#[99]⟩), (.bool false)]) Try.underlying44 rfl ti44 rfl rfl (Blk.agg (SH.at hS10 (.tail _ (.head _))) _ (KB.refl No _))) ?_
  refine WL.xe rfl (XE.buildSlice (E := eL) [(0, (.agg #[(.string ⟨#[98]⟩), (.bool false)])), (1, (.agg #[(.string ⟨#[99]⟩), (.bool false)]))] #[(.string ⟨#[98]⟩), (.bool false), (.string ⟨#[99]⟩), (.bool false)] [(⟨#[98]⟩, false), (⟨#[99]⟩, false)] hS10 Try.underlying22 ti44 rfl (by decide) (by kernel_rfl) (.inr rfl) rfl rfl (by decide)) ?_
  rintro _ w8 ⟨b5, rfl, hS11, hk8⟩
  refine WL.xe rfl (XE.buildSlice (E := eV) [(0, (.slice (some ⟨b4, 0, none⟩) 1 1)), (1, (.slice (some ⟨b5, 0, none⟩) 2 2))] #[(.slice (some ⟨b4, 0, none⟩) 1 1), (.slice (some ⟨b5, 0, none⟩) 2 2)] [(⟨(some ⟨b4, 0, none⟩), 1, 1⟩ : SV), (⟨(some ⟨b5, 0, none⟩), 2, 2⟩ : SV)] hS11 Try.underlying30 ti22 rfl (by decide) (by kernel_rfl) (.inr rfl) rfl rfl (by decide)) ?_
  rintro _ w9 ⟨b6, rfl, hS12, hk9⟩
  refine WL.lv rfl (LV.loadAgg (cs := [(.string ⟨#[99]⟩), (.bool false)]) Try.underlying44 rfl ti44 rfl rfl (Blk.agg (SH.at hS12 (.tail _ (.tail _ (.tail _ (.head _))))) _ (KB.refl No _))) ?_
  refine WL.xe rfl (XE.buildSlice (E := eL) [(0, (.agg #[(.string ⟨#[99]⟩), (.bool false)]))] #[(.string ⟨#[99]⟩), (.bool false)] [(⟨#[99]⟩, false)] hS12 Try.underlying22 ti44 rfl (by decide) (by kernel_rfl) (.inr rfl) rfl rfl (by decide)) ?_
  rintro _ w10 ⟨b7, rfl, hS13, hk10⟩
  refine WL.call rfl (XC.fn Try.func18 (by kernel_rfl) rfl rfl rfl) (nearest_calls  (St.rrOf (rows := [((⟨(some ⟨b4, 0, none⟩), 1, 1⟩ : SV), [(⟨#[97]⟩, false)]), ((⟨(some ⟨b5, 0, none⟩), 2, 2⟩ : SV), [(⟨#[98]⟩, false), (⟨#[99]⟩, false)])]) (SH.rd hS13 (.tail _ (.head _))) (St.inCons (r := (⟨(some ⟨b4, 0, none⟩), 1, 1⟩ : SV)) rfl (SH.rd hS13 (.tail _ (.tail _ (.tail _ (.head _))))) (St.inCons (r := (⟨(some ⟨b5, 0, none⟩), 2, 2⟩ : SV)) rfl (SH.rd hS13 (.tail _ (.tail _ (.head _)))) St.in0))) rfl (SH.rd hS13 (.head _)) rfl (by first | omega | (simp; done) | (simp; omega))) ?_
  rintro v_ w11 ⟨k1, is1, rfl, hf1, hk11⟩
  have hS14 := SH.same hS13 hk11
  have hnr_ := live_near hf1
  obtain ⟨hk1_, hi1_⟩ := hnr_
  refine WL.lv rfl (LV.mv rfl) ?_
  iterate 2 refine WL.lv rfl (LV.extract rfl rfl) ?_
  iterate 2 refine WL.lv rfl (LV.asg rfl) ?_
  refine WL.nil (thenQ.n ?_)
  refine WC.seq ?_
  refine WC.region ?_
  refine WL.lv rfl (LV.loadAgg (cs := [(.string ⟨#[97]⟩), (.bool false)]) Try.underlying44 rfl ti44 rfl rfl (Blk.agg (SH.at hS14 (.tail _ (.tail _ (.tail _ (.tail _ (.tail _ (.tail _ (.head _)))))))) _ (KB.refl No _))) ?_
  refine WL.lv rfl (LV.loadAgg (cs := [(.string ⟨#[98]⟩), (.bool false)]) Try.underlying44 rfl ti44 rfl rfl (Blk.agg (SH.at hS14 (.tail _ (.tail _ (.tail _ (.tail _ (.tail _ (.head _))))))) _ (KB.refl No _))) ?_
  refine WL.xe rfl (XE.buildSlice (E := eL) [(0, (.agg #[(.string ⟨#[97]⟩), (.bool false)])), (1, (.agg #[(.string ⟨#[98]⟩), (.bool false)]))] #[(.string ⟨#[97]⟩), (.bool false), (.string ⟨#[98]⟩), (.bool false)] [(⟨#[97]⟩, false), (⟨#[98]⟩, false)] hS14 Try.underlying22 ti44 rfl (by decide) (by kernel_rfl) (.inr rfl) rfl rfl (by decide)) ?_
  rintro _ w12 ⟨b8, rfl, hS15, hk12⟩
  refine WL.lv rfl (LV.loadAgg (cs := [(.string ⟨#[98]⟩), (.bool false)]) Try.underlying44 rfl ti44 rfl rfl (Blk.agg (SH.at hS15 (.tail _ (.tail _ (.tail _ (.tail _ (.tail _ (.tail _ (.head _)))))))) _ (KB.refl No _))) ?_
  refine WL.lv rfl (LV.loadAgg (cs := [(.string ⟨#[99]⟩), (.bool false)]) Try.underlying44 rfl ti44 rfl rfl (Blk.agg (SH.at hS15 (.tail _ (.tail _ (.tail _ (.tail _ (.tail _ (.head _))))))) _ (KB.refl No _))) ?_
  refine WL.xe rfl (XE.buildSlice (E := eL) [(0, (.agg #[(.string ⟨#[98]⟩), (.bool false)])), (1, (.agg #[(.string ⟨#[99]⟩), (.bool false)]))] #[(.string ⟨#[98]⟩), (.bool false), (.string ⟨#[99]⟩), (.bool false)] [(⟨#[98]⟩, false), (⟨#[99]⟩, false)] hS15 Try.underlying22 ti44 rfl (by decide) (by kernel_rfl) (.inr rfl) rfl rfl (by decide)) ?_
  rintro _ w13 ⟨b9, rfl, hS16, hk13⟩
  refine WL.call rfl (XC.fn Try.func14 (by kernel_rfl) rfl rfl rfl) (like_calls  (SH.rd hS16 (.tail _ (.head _))) rfl (SH.rd hS16 (.head _)) rfl ) ?_
  rintro v_ w14 ⟨r1, rfl, hf2, hf3, hk14⟩
  have hS17 := SH.same hS16 hk14
  have hlk_ := live_like hf2
  have hsk_4602678819172646912 : sk 4602678819172646912 = (4602678819172646912 : Int) := by decide +kernel
  refine WL.lv rfl (LV.as (LV.eqF (a := r1) (b := 4602678819172646912) rfl rfl) (decide_eq_true (by rw [hlk_]; decide +kernel))) ?_
  iterate 2 refine WL.lv rfl (LV.mv rfl) ?_
  refine WL.lv rfl (LV.as (LV.eqI rfl rfl) (decide_eq_true (hk1_))) ?_
  refine WL.lv rfl (LV.pickT rfl rfl) ?_
  refine WL.lv rfl (LV.mv rfl) ?_
  rcases Bool.eq_false_or_eq_true (is1) with his_ | his_
  · refine WL.lv rfl (LV.as (c := true) (LV.mv rfl) his_) ?_
    refine WL.lv rfl (LV.pickT rfl rfl) ?_
    refine WL.lv rfl (LV.mv rfl) ?_
    refine WL.lv rfl (LV.build (vs := [(0, (.int .i64 2)), (1, (.float .f64 4602678819172646912))]) (places := #[(0, 1), (1, 1)]) (cs := #[(.int .i64 2), (.float .f64 4602678819172646912)]) Try.underlying37 ti37 (fun _ => by kernel_rfl) rfl rfl) ?_
    refine WL.xe rfl (XE.buildSlice (E := eK) [(0, (.agg #[(.int .i64 2), (.float .f64 4602678819172646912)]))] #[(.int .i64 2), (.float .f64 4602678819172646912)] [((2 : Int), (4602678819172646912 : Nat))] hS17 Try.underlying32 ti37 rfl (by decide) (by kernel_rfl) (.inr rfl) rfl rfl (by decide)) ?_
    rintro _ w15 ⟨b10, rfl, hS18, hk15⟩
    refine WL.call rfl (XC.fn Try.func21 (by kernel_rfl) rfl rfl rfl) (print_calls  (SH.rd hS18 (.head _)) rfl (by simp) (by simp)) ?_
    rintro v_ w16 ⟨A1, c1, rfl, hS19⟩
    have hS20 := SH.joinN hS18 hS19
    refine WL.lv rfl (LV.strOf Try.underlying40 Try.underlying5 Try.underlying9 rfl ((SH.rd hS20 (.head _)) _ (KB.refl No _))) ?_
    refine WL.lv rfl (LV.as (c := true) (LV.eqS rfl rfl) (by rw [str_bytes, live_prt]; exact beq_self_eq_true _)) ?_
    refine WL.lv rfl (LV.pickT rfl rfl) ?_
    refine WL.lv rfl (LV.asg rfl) ?_
    refine WL.nil (thenQ.n ?_)
    refine WC.ret (?_)
    exact ⟨_, fun a ha => res1 rfl ha rfl, rfl, hS20.kb⟩
  · refine WL.lv rfl (LV.as (c := false) (LV.mv rfl) his_) ?_
    refine WL.lv rfl (LV.pickT rfl rfl) ?_
    refine WL.lv rfl (LV.mv rfl) ?_
    iterate 5 refine WL.off rfl ?_
    refine WL.lv rfl (LV.pickF rfl rfl) ?_
    refine WL.lv rfl (LV.asg rfl) ?_
    refine WL.nil (thenQ.n ?_)
    refine WC.ret (?_)
    exact ⟨_, fun a ha => res1 rfl ha rfl, (by exfalso; rw [hi1_] at his_; cases his_), hS17.kb⟩

theorem few23_calls {w : World} {A0 : Option Addr} {a : List Ln} {c0 : Nat} (ha : St No w (Rd eL (.slice A0 a.length c0) a)) :
    Calls Try.prog 9 #[(.slice A0 a.length c0)] w fun e w' => ∃ v, e = .returned v ∧ (fun v w' => v = .slice (cutA A0 c0 2) (a.take 40).length c0 ∧ KB No w w') v w' := by
  have hS : SH w No w [] := SH.nil _ _
  refine calls (l := litOf [(.slice A0 a.length c0)] 0) Try.func9 rfl (n := 8) rfl (Nat.le_of_ble_eq_true rfl) (lit_args _) ?_
  refine WC.seq ?_
  refine WC.region ?_
  refine WL.lv rfl (LV.asg rfl) ?_
  refine WL.nil (thenQ.n ?_)
  refine WC.seq ?_
  refine WC.region ?_
  iterate 2 refine WL.lv rfl (LV.mv rfl) ?_
  refine WL.lv rfl (LV.lenL Try.underlying22 rfl) ?_
  refine WL.lv rfl (LV.minI rfl rfl) ?_
  have hcap1 : a.length ≤ c0 := (Rd.cap (St.now (SH.stN hS ha)))
  refine WL.lv rfl (LV.cut Try.underlying22 ti44.sz rfl rfl rfl rfl ⟨.inl ⟨rfl, rfl⟩, .inr ⟨.i64, by rw [Int.toNat_of_nonneg (a := min (a.length : Int) 40) (by omega)] <;> rfl⟩, .inl ⟨rfl, rfl⟩⟩ (by omega) (by omega) (by omega)) ?_
  refine WL.lv rfl (LV.asg rfl) ?_
  refine WL.nil (thenQ.n ?_)
  refine WC.ret (?_)
  exact ⟨_, fun a ha => res1 rfl ha rfl, congrArg (fun n => Value.slice (cutA A0 c0 2) n c0) (by rw [List.length_take]; omega), hS.kb⟩

set_option maxHeartbeats 2000000 in
set_option maxRecDepth 100000 in
theorem rankLike_law {w : World} {A_a : Option Addr} {n_a c_a : Nat} {a : List Ln} {A_b : Option Addr} {n_b c_b : Nat} {b : List Ln} (h_a : St No w (Rd eL (.slice A_a n_a c_a) a)) (hn_a : a.length = n_a) (h_b : St No w (Rd eL (.slice A_b n_b c_b) b)) (hn_b : b.length = n_b)  :
    Calls Try.prog 3 #[(.slice A_a n_a c_a), (.slice A_b n_b c_b)] w fun e w' => ∃ v, e = .returned v ∧ (fun v w' => v = .bool (decide (true)) ∧ KB No w w') v w' := by
  subst hn_a hn_b
  have h4_ : (a.take 40).length ≤ 40 := by rw [List.length_take]; omega
  have h5_ : (b.take 40).length ≤ 40 := by rw [List.length_take]; omega
  have hS : SH w No w [] := SH.nil _ _
  refine calls (l := litOf [(.slice A_a a.length c_a), (.slice A_b b.length c_b)] 0) Try.func3 rfl (n := 28) rfl (Nat.le_of_ble_eq_true rfl) (lit_args _) ?_
  refine WC.seq ?_
  refine WC.region ?_
  refine WL.lv rfl (LV.asg rfl) ?_
  refine WL.nil (thenQ.n ?_)
  refine WC.seq ?_
  refine WC.region ?_
  refine WL.lv rfl (LV.mv rfl) ?_
  refine WL.call rfl (XC.fn Try.func9 (by kernel_rfl) rfl rfl rfl) (few23_calls (SH.stN hS h_a)) ?_
  rintro v_ w1 ⟨rfl, hk1⟩
  have hS1 := SH.same hS hk1
  refine WL.lv rfl (LV.mv rfl) ?_
  refine WL.call rfl (XC.fn Try.func9 (by kernel_rfl) rfl rfl rfl) (few23_calls (SH.stN hS1 h_b)) ?_
  rintro v_ w2 ⟨rfl, hk2⟩
  have hS2 := SH.same hS1 hk2
  iterate 2 refine WL.lv rfl (LV.asg rfl) ?_
  refine WL.nil (thenQ.n ?_)
  refine WC.seq ?_
  refine WC.region ?_
  refine WL.call rfl (XC.fn Try.func10 (by kernel_rfl) rfl rfl rfl) (live23_calls  ) ?_
  rintro v_ w3 ⟨rfl, hk3⟩
  have hS3 := SH.same hS2 hk3
  iterate 3 refine WL.lv rfl (LV.mv rfl) ?_
  refine WL.call rfl (XC.fn Try.func11 (by kernel_rfl) rfl rfl rfl) (common_calls  (SH.stN hS3 (few_rd 40 h_a)) rfl (SH.stN hS3 (few_rd 40 h_b)) rfl ) ?_
  rintro v_ w4 ⟨rfl, hk4⟩
  have hS4 := SH.same hS3 hk4
  iterate 2 refine WL.lv rfl (LV.mv rfl) ?_
  refine WL.call rfl (XC.fn Try.func12 (by kernel_rfl) rfl rfl rfl) (rcommon_calls  (SH.stN hS4 (few_rd 40 h_a)) rfl (SH.stN hS4 (few_rd 40 h_b)) rfl ) ?_
  rintro v_ w5 ⟨rfl, hk5⟩
  have hS5 := SH.same hS4 hk5
  refine WL.lv rfl (LV.as (LV.eqI rfl rfl) (decide_eq_true (rfl))) ?_
  refine WL.lv rfl (LV.pickT rfl rfl) ?_
  iterate 3 refine WL.lv rfl (LV.mv rfl) ?_
  refine WL.call rfl (XC.fn Try.func14 (by kernel_rfl) rfl rfl rfl) (like_calls  (SH.stN hS5 (few_rd 40 h_a)) rfl (SH.stN hS5 (few_rd 40 h_b)) rfl ) ?_
  rintro v_ w6 ⟨r1, rfl, hf1, hf2, hk6⟩
  have hS6 := SH.same hS5 hk6
  have hx_ := hf1
  iterate 2 refine WL.lv rfl (LV.mv rfl) ?_
  refine WL.call rfl (XC.fn Try.func15 (by kernel_rfl) rfl rfl rfl) (rlike_calls  (SH.stN hS6 (few_rd 40 h_a)) rfl (SH.stN hS6 (few_rd 40 h_b)) rfl ) ?_
  rintro v_ w7 ⟨r2, rfl, hf3, hf4, hk7⟩
  have hS7 := SH.same hS6 hk7
  have hy_ := hf3
  refine WL.call rfl (XC.fn Try.func13 (by kernel_rfl) rfl rfl rfl) (Calls.asB (fsame_calls (a := r1) (b := r2) (by first | assumption | omega | exact hp _ (getD_mem (by omega)) | exact hpz _ (getD_mem (by omega))) (by first | assumption | omega | exact hp _ (getD_mem (by omega)) | exact hpz _ (getD_mem (by omega)))) (decide_eq_true (tk_cn (hx_.trans hy_.symm)))) ?_
  rintro v_ w8 ⟨rfl, hk8⟩
  have hS8 := SH.same hS7 hk8
  refine WL.lv rfl (LV.pickT rfl rfl) ?_
  refine WL.lv rfl (LV.asg rfl) ?_
  refine WL.nil (thenQ.n ?_)
  refine WC.ret (?_)
  exact ⟨_, fun a ha => res1 rfl ha rfl, rfl, hS8.kb⟩

set_option maxHeartbeats 2000000 in
set_option maxRecDepth 100000 in
theorem rankPrints_law {w : World} {A_l : Option Addr} {n_l c_l : Nat} {l : List (Int × Nat)} (h_l : St No w (Rd eK (.slice A_l n_l c_l) l)) (hn_l : l.length = n_l) (wl : ∀ x ∈ l, x.2 < 18446744073709551616) :
    Calls Try.prog 5 #[(.slice A_l n_l c_l)] w fun e w' => ∃ v, e = .returned v ∧ (fun v w' => v = .bool (decide (true)) ∧ KB No w w') v w' := by
  subst hn_l
  have hS : SH w No w [] := SH.nil _ _
  refine calls (l := litOf [(.slice A_l l.length c_l)] 0) Try.func5 rfl (n := 18) rfl (Nat.le_of_ble_eq_true rfl) (lit_args _) ?_
  refine WC.seq ?_
  refine WC.region ?_
  refine WL.lv rfl (LV.asg rfl) ?_
  refine WL.nil (thenQ.n ?_)
  refine WC.seq ?_
  refine WC.region ?_
  iterate 2 refine WL.lv rfl (LV.mv rfl) ?_
  refine WL.lv rfl (LV.lenL Try.underlying32 rfl) ?_
  refine WL.lv rfl (LV.minI rfl rfl) ?_
  have hcap1 : l.length ≤ c_l := (Rd.cap (St.now (SH.stN hS h_l)))
  refine WL.lv rfl (LV.cut Try.underlying32 ti37.sz rfl rfl rfl rfl ⟨.inl ⟨rfl, rfl⟩, .inr ⟨.i64, by rw [Int.toNat_of_nonneg (a := min (l.length : Int) 60) (by omega)] <;> rfl⟩, .inl ⟨rfl, rfl⟩⟩ (by omega) (by omega) (by omega)) ?_
  refine WL.lv rfl (LV.asg rfl) ?_
  refine WL.nil (thenQ.n ?_)
  refine WC.seq ?_
  have hS1 := SH.drew hS
  refine WC.regionD [] (fun _ => True) [(.forced, 0), (.pure, 1), (.pure, 2), (.pure, 5), (.forced, 3), (.fork, 0), (.fork, 0), (.fork, 0), (.fork, 0), (.fork, 0), (.fork, 0)] (by kernel_rfl) (by kernel_rfl) trivial ?_
  refine WS.call rfl rfl (XC.fn Try.func10 (by kernel_rfl) rfl rfl rfl) (live23_calls  ) ?_
  rintro v_ w1 ⟨rfl, hk1⟩
  have hS2 := SH.same hS1 hk1
  refine ⟨fun h_ => trivial, ?_⟩
  iterate 3 refine WS.pure rfl rfl (fun _ => LV.mv rfl) ?_
  refine WS.call rfl rfl (XC.fn Try.func21 (by kernel_rfl) rfl rfl rfl) (print_calls  ((SH.stN hS2 h_l).imp fun _ h => Rd.cut h (by omega) (by omega) (by omega) (by omega)) (by first | (simp; done) | (simp; omega) | (simp only [List.length_drop, List.length_take]; omega) | omega) (fun x hx => wl x (List.mem_of_mem_take (List.mem_of_mem_drop hx))) (by simp only [List.length_drop, List.length_take]; omega)) ?_
  rintro v_ w2 ⟨A1, c1, rfl, hS3⟩
  have hS4 := SH.joinN hS2 hS3
  refine ⟨fun h_ => trivial, ?_⟩
  refine WS.fork (WSX.two 4 6 (by kernel_rfl) ?_ ?_)
  · refine WO.lvT rfl rfl (LV.strOf Try.underlying40 Try.underlying5 Try.underlying9 rfl ((SH.rd hS4 (.head _)) _ (KB.refl No _))) ?_
    refine WSX.of [(.forced, 6), (.forced, 7), (.pure, 8), (.pure, 9), (.pure, 10)] (by kernel_rfl) rfl ?_
    refine WS.call rfl rfl (XC.fn Try.func22 (by kernel_rfl) rfl rfl rfl) (rprint_calls ((SH.stN hS4 h_l).imp fun _ h => Rd.cut h (by omega) (by omega) (by omega) (by omega)) (by first | (simp; done) | (simp; omega) | (simp only [List.length_drop, List.length_take]; omega) | omega) (fun x hx => wl x (List.mem_of_mem_take (List.mem_of_mem_drop hx))) (by simp only [List.length_drop, List.length_take]; omega)) ?_
    rintro v_ w3 ⟨A2, c2, rfl, hr1, hk2⟩
    have hS5 := SH.same hS4 hk2
    refine ⟨fun h_ => trivial, ?_⟩
    refine WS.lvT rfl rfl (LV.strOf Try.underlying40 Try.underlying5 Try.underlying9 rfl ((Rd.stN hr1) _ (KB.refl No _))) ?_
    refine WS.pure rfl rfl (fun _ => LV.as (c := true) (LV.eqS rfl rfl) (beq_self_eq_true _)) ?_
    refine WS.pure rfl rfl (fun _ => LV.pickT rfl rfl) ?_
    refine WS.pure rfl rfl (fun _ => LV.asg rfl) ?_
    refine WS.nil (thenQ.n ?_)
    refine WC.ret (?_)
    exact ⟨_, fun a ha => res1 rfl ha rfl, rfl, hS5.kb⟩
  · refine WO.call rfl rfl (XC.fn Try.func22 (by kernel_rfl) rfl rfl rfl) (rprint_calls ((SH.stN hS4 h_l).imp fun _ h => Rd.cut h (by omega) (by omega) (by omega) (by omega)) (by first | (simp; done) | (simp; omega) | (simp only [List.length_drop, List.length_take]; omega) | omega) (fun x hx => wl x (List.mem_of_mem_take (List.mem_of_mem_drop hx))) (by simp only [List.length_drop, List.length_take]; omega)) ?_
    rintro v_ w4 ⟨A3, c3, rfl, hr2, hk3⟩
    have hS6 := SH.same hS4 hk3
    refine ⟨fun h_ => trivial, ?_⟩
    refine WSX.of [(.fork, 0), (.fork, 0), (.fork, 0), (.fork, 0), (.fork, 0)] (by kernel_rfl) rfl ?_
    refine WS.fork (WSX.two 4 7 (by kernel_rfl) ?_ ?_)
    · refine WO.lvT rfl rfl (LV.strOf Try.underlying40 Try.underlying5 Try.underlying9 rfl ((SH.rd hS6 (.head _)) _ (KB.refl No _))) ?_
      refine WSX.of [(.forced, 7), (.pure, 8), (.pure, 9), (.pure, 10)] (by kernel_rfl) rfl ?_
      refine WS.lvT rfl rfl (LV.strOf Try.underlying40 Try.underlying5 Try.underlying9 rfl ((Rd.stN hr2) _ (KB.refl No _))) ?_
      refine WS.pure rfl rfl (fun _ => LV.as (c := true) (LV.eqS rfl rfl) (beq_self_eq_true _)) ?_
      refine WS.pure rfl rfl (fun _ => LV.pickT rfl rfl) ?_
      refine WS.pure rfl rfl (fun _ => LV.asg rfl) ?_
      refine WS.nil (thenQ.n ?_)
      refine WC.ret (?_)
      exact ⟨_, fun a ha => res1 rfl ha rfl, rfl, hS6.kb⟩
    · refine WO.lvT rfl rfl (LV.strOf Try.underlying40 Try.underlying5 Try.underlying9 rfl ((Rd.stN hr2) _ (KB.refl No _))) ?_
      refine WSX.of [(.forced, 4), (.pure, 8), (.pure, 9), (.pure, 10)] (by kernel_rfl) rfl ?_
      refine WS.lvT rfl rfl (LV.strOf Try.underlying40 Try.underlying5 Try.underlying9 rfl ((SH.rd hS6 (.head _)) _ (KB.refl No _))) ?_
      refine WS.pure rfl rfl (fun _ => LV.as (c := true) (LV.eqS rfl rfl) (beq_self_eq_true _)) ?_
      refine WS.pure rfl rfl (fun _ => LV.pickT rfl rfl) ?_
      refine WS.pure rfl rfl (fun _ => LV.asg rfl) ?_
      refine WS.nil (thenQ.n ?_)
      refine WC.ret (?_)
      exact ⟨_, fun a ha => res1 rfl ha rfl, rfl, hS6.kb⟩

end Go.Proofs.Ythmjieikbeemhaa
