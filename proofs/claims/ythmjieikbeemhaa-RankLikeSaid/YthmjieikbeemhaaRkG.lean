/- Likenesses as lines, and the nearest one. -/
import Derived.Test.YthmjieikbeemhaaRkE
import Derived.Test.YthmjieikbeemhaaDc
namespace Go.Proofs.Ythmjieikbeemhaa
open Go Go.Gv Go.RowKit Go.Flt Go.Mys Go.Num Go.Scr Go.Dec Go.Rnk
set_option linter.unusedVariables false
set_option linter.unusedSimpArgs false

theorem nearest_calls {w : World} {A_inp : Option Addr} {n_inp c_inp : Nat} {inp : List (SV × List Ln)} {A_b : Option Addr} {n_b c_b : Nat} {b : List Ln} (h_inp : St No w (RdRR eL (.slice A_inp n_inp c_inp) inp)) (hn_inp : inp.length = n_inp) (h_b : St No w (Rd eL (.slice A_b n_b c_b) b)) (hn_b : b.length = n_b) (hl : inp.length ≤ 1000) :
    Calls Try.prog 18 #[(.slice A_inp n_inp c_inp), (.slice A_b n_b c_b)] w fun e w' => ∃ v, e = .returned v ∧ (fun v w' => ∃ (k' : Int) (is' : Bool), v = .tuple #[.int .i64 k', .bool is'] ∧ NRS (inp.map (·.2)) b k' is' ∧ KB No w w') v w' := by
  subst hn_inp hn_b
  have hS : SH w No w [] := SH.nil _ _
  refine calls (l := litOf [(.slice A_inp inp.length c_inp), (.slice A_b b.length c_b)] 0) Try.func18 rfl (n := 24) rfl (Nat.le_of_ble_eq_true rfl) (lit_args _) ?_
  refine WC.seq ?_
  refine WC.region ?_
  iterate 2 refine WL.lv rfl (LV.asg rfl) ?_
  refine WL.nil (thenQ.n ?_)
  refine WC.seq ?_
  refine WC.region ?_
  iterate 2 refine WL.lv rfl (LV.mv rfl) ?_
  refine WL.call rfl (XC.fn Try.func20 (by kernel_rfl) rfl rfl rfl) (all_calls (SH.stN hS h_inp) rfl (SH.stN hS h_b) rfl (by first | omega | (simp; done) | (simp; omega))) ?_
  rintro v_ w1 ⟨A1, c1, ys1, L1, rfl, hKL1, hpm1, hpw1, hS1⟩
  have hS2 := SH.joinN hS hS1
  refine WL.lv rfl (LV.asg rfl) ?_
  refine WL.nil (thenQ.n ?_)
  iterate 2 refine WC.seq ?_
  refine WC.region ?_
  refine WL.lv rfl (LV.mv rfl) ?_
  refine WL.lv rfl (LV.lenL Try.underlying32 rfl) ?_
  rcases Decidable.em ((ys1.length : Int) = 0) with hg1 | hg1
  · refine WL.lv rfl (LV.as (LV.eqI rfl rfl) (decide_eq_true hg1)) ?_
    refine WL.lv rfl (LV.mv rfl) ?_
    iterate 5 refine WL.off rfl ?_
    refine WL.lv rfl (LV.pickT rfl rfl) ?_
    refine WL.nil (thenQ.n ?_)
    refine WC.condT rfl ?_
    refine WC.seq ?_
    refine WC.region ?_
    iterate 2 refine WL.lv rfl (LV.asg rfl) ?_
    refine WL.nil (thenQ.n ?_)
    refine WC.ret (thenQ.r <| ?_)
    exact ⟨_, fun a ha => res2 rfl ha rfl rfl, 0, false, tup2 (congrArg (Value.int .i64) (rfl)) (congrArg Value.bool (rfl)), ⟨ys1, L1, hKL1, hpm1, hpw1, by first | exact .inl ⟨by omega, rfl, rfl⟩ | exact .inr ⟨by omega, rfl, rfl⟩⟩, hS2.kb⟩
  · refine WL.lv rfl (LV.as (LV.eqI rfl rfl) (decide_eq_false hg1)) ?_
    iterate 2 refine WL.lv rfl (LV.mv rfl) ?_
    obtain ⟨A2, c2, e1, g1⟩ := St.elt (SH.rd hS2 (.head _)) (0, 0) (0 : Int) (by omega) (by omega)
    refine WL.lv rfl (LV.idxA Try.underlying32 ti37.sz rfl e1 rfl (by omega) (by omega)) ?_
    refine WL.lv rfl (LV.fieldA Try.underlying37 rfl ti27.sz rfl) ?_
    refine WL.lv rfl (LV.load1 (v := (.float .f64 ((ys1.getD ((0 : Int)).toNat (0, 0)).2))) Try.underlying27 rfl rfl (g1 _ (KB.refl No _) 1 _ rfl)) ?_
    refine WL.call rfl (XC.fn Try.func33 (by kernel_rfl) rfl rfl rfl) (knone_calls (x := ((ys1.getD ((0 : Int)).toNat (0, 0)).2)) ) ?_
    rintro v_ w2 ⟨rfl, hk1⟩
    have hS3 := SH.same hS2 hk1
    refine WL.lv rfl (LV.pickF rfl rfl) ?_
    refine WL.nil (thenQ.n ?_)
    refine WC.condP (p := ¬ (-9218868437227405312 ≤ sk ((ys1.getD ((0 : Int)).toNat (0, 0)).2) ∧ sk ((ys1.getD ((0 : Int)).toNat (0, 0)).2) ≤ 9218868437227405312)) rfl (fun hc1 => ?_) (fun hc1 => ?_)
    · skip
      refine WC.seq ?_
      refine WC.region ?_
      iterate 2 refine WL.lv rfl (LV.asg rfl) ?_
      refine WL.nil (thenQ.n ?_)
      refine WC.ret (thenQ.r <| ?_)
      exact ⟨_, fun a ha => res2 rfl ha rfl rfl, 0, false, tup2 (congrArg (Value.int .i64) (rfl)) (congrArg Value.bool (rfl)), ⟨ys1, L1, hKL1, hpm1, hpw1, by first | exact .inl ⟨by omega, rfl, rfl⟩ | exact .inr ⟨by omega, rfl, rfl⟩⟩, hS3.kb⟩
    · skip
      refine WC.skip (thenQ.n ?_)
      refine WC.seq ?_
      refine WC.region ?_
      refine WL.lv rfl (LV.mv rfl) ?_
      obtain ⟨A3, c3, e2, g2⟩ := St.elt (SH.rd hS3 (.head _)) (0, 0) (0 : Int) (by omega) (by omega)
      refine WL.lv rfl (LV.idxA Try.underlying32 ti37.sz rfl e2 rfl (by omega) (by omega)) ?_
      refine WL.lv rfl (LV.fieldA Try.underlying37 rfl ti3.sz rfl) ?_
      refine WL.lv rfl (LV.load1 (v := (.int .i64 ((ys1.getD ((0 : Int)).toNat (0, 0)).1))) Try.underlying3 rfl rfl (g2 _ (KB.refl No _) 0 _ rfl)) ?_
      iterate 2 refine WL.lv rfl (LV.asg rfl) ?_
      refine WL.nil (thenQ.n ?_)
      refine WC.ret (?_)
      exact ⟨_, fun a ha => res2 rfl ha rfl rfl, (ys1.getD ((0 : Int)).toNat (0, 0)).1, true, tup2 (congrArg (Value.int .i64) (rfl)) (congrArg Value.bool (rfl)), ⟨ys1, L1, hKL1, hpm1, hpw1, by first | exact .inl ⟨by omega, rfl, rfl⟩ | exact .inr ⟨by omega, rfl, rfl⟩⟩, hS3.kb⟩

set_option maxHeartbeats 1000000 in
theorem print_calls {w : World} {A_l : Option Addr} {n_l c_l : Nat} {l : List (Int × Nat)} (h_l : St No w (Rd eK (.slice A_l n_l c_l) l)) (hn_l : l.length = n_l) (wl : ∀ x ∈ l, x.2 < 18446744073709551616) (hl : l.length ≤ 1000) :
    Calls Try.prog 21 #[(.slice A_l n_l c_l)] w fun e w' => ∃ v, e = .returned v ∧ (fun v w' => ∃ (A0' : Option Addr) (c0' : Nat), v = .slice A0' (bytesOf (PRT l)).length c0' ∧ SH w No w' [rowE eU8 5 (.slice A0' (bytesOf (PRT l)).length c0') (bytesOf (PRT l))]) v w' := by
  subst hn_l
  have hS : SH w No w [] := SH.nil _ _
  refine calls (l := litOf [(.slice A_l l.length c_l)] 0) Try.func21 rfl (n := 33) rfl (Nat.le_of_ble_eq_true rfl) (lit_args _) ?_
  refine WC.seq ?_
  refine WC.region ?_
  refine WL.lv rfl (LV.asg rfl) ?_
  refine WL.nil (thenQ.n ?_)
  refine WC.seq ?_
  refine WC.region ?_
  refine WL.xe rfl (XE.buildSlice (E := eU8) [] #[] [] hS Try.underlying40 ti5 rfl (by decide) (by kernel_rfl) (.inr rfl) rfl rfl (by decide)) ?_
  rintro _ w1 ⟨b1, rfl, hS1, hk1⟩
  refine WL.lv rfl (LV.asg rfl) ?_
  refine WL.nil (thenQ.n ?_)
  iterate 2 refine WC.seq ?_
  refine WC.region ?_
  refine WL.lv rfl (LV.mv rfl) ?_
  refine WL.lv rfl (LV.lenL Try.underlying32 rfl) ?_
  refine WL.lv rfl (LV.mv rfl) ?_
  refine WL.nil (thenQ.n ?_)
  refine WC.block ?_
  refine WC.loop (fun m_ f_ w_ => ∃ (A_out : Option Addr) (c_out : Nat) (out : List Int) (ix : Int), (0 ≤ ix) ∧ (ix ≤ (l.length : Int)) ∧ (out = bytesOf (PRT (l.take ix.toNat))) ∧ SH w No w_ [rowE eU8 5 (.slice A_out out.length c_out) out] ∧ m_ = (((l.length : Int) - ix).toNat) ∧ Weak (lit [(3, (.slice A_out out.length c_out)), (8, (.slice A_l l.length c_l)), (9, (.int .i64 (l.length : Int))), (10, (.int .i64 ix))]) f_) _ ⟨(some ⟨b1, 0, none⟩), 0, [], 0, by omega, by omega, rfl, hS1, rfl, Weak.cons rfl <| Weak.cons rfl <| Weak.cons rfl <| Weak.cons rfl <| Weak.nil _⟩ ?_
  rintro m1 f1 w2 ⟨A_out, c_out, out, ix, ixlo, ixhi, q1, hL1, rfl, hw1⟩
  refine WC.weak hw1 ?_
  clear hw1
  have hol_ : (out.length : Int) = ((PRT (l.take ix.toNat)).size : Int) := by rw [q1, bytesOf_len]
  refine WC.seq ?_
  refine WC.region ?_
  refine WL.lv rfl (LV.ltI rfl rfl) ?_
  refine WL.nil (thenQ.n ?_)
  refine WC.seq ?_
  refine WC.condP (p := ix < (l.length : Int)) rfl (fun hk => ?_) (fun hk => ?_)
  · have hd1_ := DEC_size (l.getD ix.toNat (0, 0)).1
    have hd2_ := DEC_size (MIL (l.getD ix.toNat (0, 0)).2)
    have hps_ := PRT_size (l := l) ixlo (by omega)
    have hpn_ := PRT_snoc (l := l) ixlo hk
    have hwl_ := wl (l.getD ix.toNat (0, 0)) (getD_mem (by omega))
    refine WC.skip (thenQ.n ?_)
    refine WC.seq ?_
    refine WC.block ?_
    refine WC.seq ?_
    refine WC.region ?_
    obtain ⟨A1, c1, e1, g1⟩ := St.elt (SH.stN hL1 h_l) (0, 0) ix (by omega) (by omega)
    refine WL.lv rfl (LV.idxA Try.underlying32 ti37.sz rfl e1 rfl (by omega) (by omega)) ?_
    refine WL.lv rfl (LV.loadAgg (cs := [(.int .i64 ((l.getD (ix).toNat (0, 0)).1)), (.float .f64 ((l.getD (ix).toNat (0, 0)).2))]) Try.underlying37 rfl ti37 rfl rfl (fun j u hu => g1 _ (KB.refl No _) j u hu)) ?_
    refine WL.xe rfl (XE.alloc #[(.int .i64 0), (.float .f64 0)] hL1 ti37 rfl) ?_
    rintro _ w3 ⟨b2, rfl, hS2, hk2⟩
    refine WL.xse rfl (XSE.blkAgg #[(.int .i64 ((l.getD (ix).toNat (0, 0)).1)), (.float .f64 ((l.getD (ix).toNat (0, 0)).2))] hS2 (by kernel_rfl) rfl (by kernel_rfl) rfl rfl) ?_
    rintro w4 ⟨hS3, hk3⟩
    refine WL.nil (thenQ.n ?_)
    refine WC.seq ?_
    refine WC.region ?_
    refine WL.lv rfl (LV.asg rfl) ?_
    refine WL.nil (thenQ.n ?_)
    iterate 2 refine WC.seq ?_
    refine WC.region ?_
    refine WL.lv rfl (LV.fieldA Try.underlying37 rfl ti27.sz rfl) ?_
    refine WL.lv rfl (LV.load1 Try.underlying27 rfl rfl (Blk.cellN (SH.at hS3 (.head _)) 1 rfl _ (KB.refl No _))) ?_
    refine WL.call rfl (XC.fn Try.func33 (by kernel_rfl) rfl rfl rfl) (knone_calls (x := ((l.getD (ix).toNat (0, 0)).2)) ) ?_
    rintro v_ w5 ⟨rfl, hk4⟩
    have hS4 := SH.same hS3 hk4
    refine WL.lv rfl (LV.notP rfl) ?_
    refine WL.nil (thenQ.n ?_)
    refine WC.condP (p := ¬ (¬ (-9218868437227405312 ≤ sk ((l.getD (ix).toNat (0, 0)).2) ∧ sk ((l.getD (ix).toNat (0, 0)).2) ≤ 9218868437227405312))) rfl (fun hc1 => ?_) (fun hc1 => ?_)
    · skip
      refine WC.region ?_
      refine WL.lv rfl (LV.fieldA Try.underlying37 rfl ti27.sz rfl) ?_
      refine WL.lv rfl (LV.load1 Try.underlying27 rfl rfl (Blk.cellN (SH.at hS4 (.head _)) 1 rfl _ (KB.refl No _))) ?_
      refine WL.call rfl (XC.fn Try.func37 (by kernel_rfl) rfl rfl rfl) (mille_calls (x := ((l.getD (ix).toNat (0, 0)).2)) (by first | assumption | omega | exact hp _ (getD_mem (by omega)) | exact hpz _ (getD_mem (by omega)))) ?_
      rintro v_ w6 ⟨rfl, hk5⟩
      have hS5 := SH.same hS4 hk5
      refine WL.call rfl (XC.fn Try.func36 (by kernel_rfl) rfl rfl rfl) (decimal_calls (n := (MIL ((l.getD (ix).toNat (0, 0)).2))) ) ?_
      rintro v_ w7 ⟨rfl, hk6⟩
      have hS6 := SH.same hS5 hk6
      refine WL.lv rfl (LV.asg rfl) ?_
      refine WL.nil (thenQ.n ?_)
      refine WC.region ?_
      refine WL.lv rfl (LV.mv rfl) ?_
      refine WL.lv rfl (LV.fieldA Try.underlying37 rfl ti3.sz rfl) ?_
      refine WL.lv rfl (LV.load1 Try.underlying3 rfl rfl (Blk.cellN (SH.at hS6 (.head _)) 0 rfl _ (KB.refl No _))) ?_
      refine WL.call rfl (XC.fn Try.func36 (by kernel_rfl) rfl rfl rfl) (decimal_calls (n := ((l.getD (ix).toNat (0, 0)).1)) ) ?_
      rintro v_ w8 ⟨rfl, hk7⟩
      have hS7 := SH.same hS6 hk7
      refine WL.lv rfl (LV.addS rfl rfl (by first | omega | (simp only [ByteArray.size_append, lit1]; omega) | (simp only [ByteArray.size_append, lit1, str_size, List.length_cons, List.length_nil]; omega))) ?_
      refine WL.lv rfl (LV.mv rfl) ?_
      iterate 2 refine WL.lv rfl (LV.addS rfl rfl (by first | omega | (simp only [ByteArray.size_append, lit1]; omega) | (simp only [ByteArray.size_append, lit1, str_size, List.length_cons, List.length_nil]; omega))) ?_
      have hS8 : SH w No w8 [rowE eU8 5 (.slice A_out out.length c_out) out, blkE b2 37 #[(.int .i64 ((l.getD (ix).toNat (0, 0)).1)), (.float .f64 ((l.getD (ix).toNat (0, 0)).2))]] := (SH.front [blkE b2 37 #[(.int .i64 ((l.getD (ix).toNat (0, 0)).1)), (.float .f64 ((l.getD (ix).toNat (0, 0)).2))]] hS7)
      refine WL.xe rfl (XE.appendS hS8 Try.underlying40 Try.underlying9 ti5 rfl rfl (by first | omega | (simp only [ByteArray.size_append, lit1]; omega))) ?_
      rintro _ w9 ⟨A2, c2, rfl, hS9, hk8⟩
      refine WL.lv rfl (LV.asg rfl) ?_
      refine WL.nil (blockQ.n <| thenQ.n ?_)
      refine WC.region ?_
      refine WL.lv rfl (LV.add rfl rfl (wr64 (by omega) (by omega))) ?_
      refine WL.lv rfl (LV.mv rfl) ?_
      refine WL.nil (thenQ.n ?_)
      have hS10 : SH w No w9 [rowE eU8 5 (.slice A2 ((out ++ bytesOf ((((DEC ((l.getD (ix).toNat (0, 0)).1)) ++ ⟨#[32]⟩) ++ (DEC (MIL ((l.getD (ix).toNat (0, 0)).2)))) ++ ⟨#[10]⟩)).length) c2) (out ++ bytesOf ((((DEC ((l.getD (ix).toNat (0, 0)).1)) ++ ⟨#[32]⟩) ++ (DEC (MIL ((l.getD (ix).toNat (0, 0)).2)))) ++ ⟨#[10]⟩))] := (SH.take 1 rfl hS9)
      exact ⟨_, by omega, A2, c2, (out ++ bytesOf ((((DEC ((l.getD (ix).toNat (0, 0)).1)) ++ ⟨#[32]⟩) ++ (DEC (MIL ((l.getD (ix).toNat (0, 0)).2)))) ++ ⟨#[10]⟩)), ix + 1, by omega, by omega, (by rw [hpn_, q1, bytesOf_app (PRT _) (LINE _)]; unfold LINE; rw [if_pos (by omega)]), hS10, rfl, Weak.cons rfl <| Weak.cons rfl <| Weak.cons rfl <| Weak.cons rfl <| Weak.nil _⟩
    · skip
      refine WC.skip (thenQ.n ?_)
      refine WC.region ?_
      refine WL.lv rfl (LV.mv rfl) ?_
      refine WL.lv rfl (LV.fieldA Try.underlying37 rfl ti3.sz rfl) ?_
      refine WL.lv rfl (LV.load1 Try.underlying3 rfl rfl (Blk.cellN (SH.at hS4 (.head _)) 0 rfl _ (KB.refl No _))) ?_
      refine WL.call rfl (XC.fn Try.func36 (by kernel_rfl) rfl rfl rfl) (decimal_calls (n := ((l.getD (ix).toNat (0, 0)).1)) ) ?_
      rintro v_ w10 ⟨rfl, hk9⟩
      have hS11 := SH.same hS4 hk9
      refine WL.lv rfl (LV.addS rfl rfl (by first | omega | (simp only [ByteArray.size_append, lit1]; omega) | (simp only [ByteArray.size_append, lit1, str_size, List.length_cons, List.length_nil]; omega))) ?_
      refine WL.lv rfl (LV.mv rfl) ?_
      iterate 2 refine WL.lv rfl (LV.addS rfl rfl (by first | omega | (simp only [ByteArray.size_append, lit1]; omega) | (simp only [ByteArray.size_append, lit1, str_size, List.length_cons, List.length_nil]; omega))) ?_
      have hS12 : SH w No w10 [rowE eU8 5 (.slice A_out out.length c_out) out, blkE b2 37 #[(.int .i64 ((l.getD (ix).toNat (0, 0)).1)), (.float .f64 ((l.getD (ix).toNat (0, 0)).2))]] := (SH.front [blkE b2 37 #[(.int .i64 ((l.getD (ix).toNat (0, 0)).1)), (.float .f64 ((l.getD (ix).toNat (0, 0)).2))]] hS11)
      refine WL.xe rfl (XE.appendS hS12 Try.underlying40 Try.underlying9 ti5 rfl rfl (by first | omega | (simp only [ByteArray.size_append, lit1]; omega))) ?_
      rintro _ w11 ⟨A3, c3, rfl, hS13, hk10⟩
      refine WL.lv rfl (LV.asg rfl) ?_
      refine WL.nil (blockQ.n <| thenQ.n ?_)
      refine WC.region ?_
      refine WL.lv rfl (LV.add rfl rfl (wr64 (by omega) (by omega))) ?_
      refine WL.lv rfl (LV.mv rfl) ?_
      refine WL.nil (thenQ.n ?_)
      have hS14 : SH w No w11 [rowE eU8 5 (.slice A3 ((out ++ bytesOf ((((DEC ((l.getD (ix).toNat (0, 0)).1)) ++ ⟨#[32]⟩) ++ ⟨#[45]⟩) ++ ⟨#[10]⟩)).length) c3) (out ++ bytesOf ((((DEC ((l.getD (ix).toNat (0, 0)).1)) ++ ⟨#[32]⟩) ++ ⟨#[45]⟩) ++ ⟨#[10]⟩))] := (SH.take 1 rfl hS13)
      exact ⟨_, by omega, A3, c3, (out ++ bytesOf ((((DEC ((l.getD (ix).toNat (0, 0)).1)) ++ ⟨#[32]⟩) ++ ⟨#[45]⟩) ++ ⟨#[10]⟩)), ix + 1, by omega, by omega, (by rw [hpn_, q1, bytesOf_app (PRT _) (LINE _)]; unfold LINE; rw [if_neg (by omega)]), hS14, rfl, Weak.cons rfl <| Weak.cons rfl <| Weak.cons rfl <| Weak.cons rfl <| Weak.nil _⟩
  · skip
    refine WC.exit (thenQ.x <| thenQ.x <| blockQ.hit <| thenQ.n ?_)
    refine WC.seq ?_
    refine WC.region ?_
    refine WL.lv rfl (LV.mv rfl) ?_
    refine WL.lv rfl (LV.asg rfl) ?_
    refine WL.nil (thenQ.n ?_)
    refine WC.ret (?_)
    have hres1 : (out : List Int) = bytesOf (PRT l) := by rw [q1, List.take_of_length_le (by omega)]
    exact ⟨_, fun a ha => res1 rfl ha rfl, (by rw [← hres1]; exact ⟨_, _, rfl, hL1⟩)⟩

end Go.Proofs.Ythmjieikbeemhaa
