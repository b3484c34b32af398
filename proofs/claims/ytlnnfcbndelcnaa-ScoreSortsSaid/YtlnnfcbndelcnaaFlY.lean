/- The law of sorts. -/
import Derived.Test.YtlnnfcbndelcnaaFlX
namespace Go.Proofs.Ytlnnfcbndelcnaa
open Go Go.Gv Go.RowKit Go.Flt Go.Shelf Go.Lib Go.Sort
set_option linter.unusedVariables false
set_option linter.unusedSimpArgs false

set_option maxHeartbeats 2000000 in
set_option maxRecDepth 100000 in
theorem scoreSorts_law {w : World} {A_l : Option Addr} {n_l c_l : Nat} {l : List Nat} {turn : Int} (h_l : St No w (Rd eF (.slice A_l n_l c_l) l)) (hn_l : l.length = n_l) (wl : ∀ x ∈ l, x < 18446744073709551616) (ht : 0 ≤ turn ∧ turn ≤ 255) :
    Calls Try.prog 5 #[(.slice A_l n_l c_l), (.int .u8 turn)] w fun e w' => ∃ v, e = .returned v ∧ (fun v w' => v = .bool (decide (true)) ∧ KB No w w') v w' := by
  subst hn_l
  have hl_ : (l.take 60).length ≤ 60 := by rw [List.length_take]; omega
  have wl_ : ∀ x ∈ l.take 60, W6 x := fun x hx => wl x (List.mem_of_mem_take hx)
  have hS : SH w No w [] := SH.nil _ _
  refine calls (l := litOf [(.slice A_l l.length c_l), (.int .u8 turn)] 0) Try.func5 rfl (n := 59) rfl (Nat.le_of_ble_eq_true rfl) (lit_args _) ?_
  refine WC.seq ?_
  refine WC.region ?_
  refine WL.lv rfl (LV.asg rfl) ?_
  refine WL.nil (thenQ.n ?_)
  refine WC.seq ?_
  refine WC.region ?_
  refine WL.lv rfl (LV.mv rfl) ?_
  refine WL.call rfl (XC.fn Try.func16 (by kernel_rfl) rfl rfl rfl) (few22_calls (SH.stN hS h_l)) ?_
  rintro v_ w1 ⟨rfl, hk1⟩
  have hS1 := SH.same hS hk1
  refine WL.lv rfl (LV.asg rfl) ?_
  refine WL.nil (thenQ.n ?_)
  refine WC.seq ?_
  refine WC.region ?_
  refine WL.xe rfl (XE.buildSlice (E := eF) [] #[] [] hS1 Try.underlying29 ti22 rfl (by decide) (by kernel_rfl) (.inr rfl) rfl rfl (by decide)) ?_
  rintro _ w2 ⟨b1, rfl, hS2, hk2⟩
  refine WL.lv rfl (LV.mv rfl) ?_
  refine WL.xe rfl (XE.append hS2 Try.underlying29 ti22 rfl (St.now (SH.stN hS2 (few_rd 60 h_l))) rfl rfl (by first | omega | simp only [List.length_append, List.length_cons, List.length_nil, List.length_take, List.length_reverse, List.length_drop] at *; omega) (by first | omega | simp only [List.length_append, List.length_cons, List.length_nil, List.length_take, List.length_reverse, List.length_drop] at *; omega)) ?_
  rintro _ w3 ⟨A1, c1, rfl, hS3, hk3⟩
  refine WL.lv rfl (LV.asg rfl) ?_
  refine WL.nil (thenQ.n ?_)
  refine WC.seq ?_
  refine WC.region ?_
  refine WL.lv rfl (LV.mv rfl) ?_
  refine WL.call rfl (XC.fn Try.func17 (by kernel_rfl) rfl rfl rfl) (sort22_calls (l := (([] : List Nat) ++ (l.take 60))) (SH.rd hS3 (.head _)) (wl_) (by first | omega | (simp only [List.length_append, List.length_nil, List.length_take, List.length_drop]; omega))) ?_
  rintro v_ w4 ⟨A2, c2, ys1, rfl, hpm1, hpw1, hS4⟩
  have hS5 := SH.joinN hS3 hS4
  have hln_ := hpm1.length_eq
  have hp1_ := hpm1
  have hw1_ := hpw1
  have hq1_ : ∀ x ∈ ys1, W6 x := fun x hx => wl_ x (hp1_.mem_iff.1 hx)
  refine WL.lv rfl (LV.asg rfl) ?_
  refine WL.nil (thenQ.n ?_)
  iterate 2 refine WC.seq ?_
  refine WC.region ?_
  iterate 2 refine WL.lv rfl (LV.mv rfl) ?_
  refine WL.call rfl (XC.fn Try.func19 (by kernel_rfl) rfl rfl rfl) (rsort22_calls (l := (l.take 60)) (SH.stN hS5 (few_rd 60 h_l)) (wl_) (by first | omega | (show (3 : Nat) ≤ 100; decide))) ?_
  rintro v_ w5 ⟨A3, c3, ys2, rfl, hpm2, hpw2, hS6⟩
  have hS7 := SH.joinN hS5 hS6
  have hln_ := hpm2.length_eq
  have hp2_ := hpm2
  have hw2_ := hpw2
  refine WL.call rfl (XC.fn Try.func18 (by kernel_rfl) rfl rfl rfl) (Calls.asB (slist_calls  (SH.rd hS7 (.tail _ (.head _))) (by first | (simp; done) | (simp; omega) | (simp only [List.length_drop, List.length_take]; omega) | omega) (SH.rd hS7 (.head _)) rfl (hq1_) (fun x hx => wl_ x (hp2_.mem_iff.1 hx))) (decide_eq_true (sort_tk hp1_ hw1_ hp2_ hw2_))) ?_
  rintro v_ w6 ⟨rfl, hk4⟩
  have hS8 := SH.same hS7 hk4
  refine WL.lv rfl (LV.notB rfl) ?_
  iterate 3 refine WL.lv rfl (LV.mv rfl) ?_
  refine WL.call rfl (XC.fn Try.func18 (by kernel_rfl) rfl rfl rfl) (Calls.asB (slist_calls  (SH.rd hS8 (.tail _ (.tail _ (.head _)))) rfl (SH.stN hS8 (few_rd 60 h_l)) rfl (wl_) (wl_)) (decide_eq_true (rfl))) ?_
  rintro v_ w7 ⟨rfl, hk5⟩
  have hS9 := SH.same hS8 hk5
  refine WL.lv rfl (LV.notB rfl) ?_
  refine WL.lv rfl (LV.pickF rfl rfl) ?_
  iterate 2 refine WL.lv rfl (LV.mv rfl) ?_
  refine WL.call rfl (XC.fn Try.func20 (by kernel_rfl) rfl rfl rfl) (best_calls  (SH.stN hS9 (few_rd 60 h_l)) rfl (wl_)) ?_
  rintro v_ w8 ⟨b2, rfl, hf1, hk6⟩
  have hS10 := SH.same hS9 hk6
  have hb1_ := hf1
  refine WL.lv rfl (LV.mv rfl) ?_
  refine WL.call rfl (XC.fn Try.func21 (by kernel_rfl) rfl rfl rfl) (rbest_calls  (SH.stN hS10 (few_rd 60 h_l)) rfl (wl_)) ?_
  rintro v_ w9 ⟨b3, rfl, hf2, hk7⟩
  have hS11 := SH.same hS10 hk7
  have hb2_ := hf2
  refine WL.lv rfl (LV.as (LV.neI rfl rfl) (decide_eq_false (fun h_ => h_ (bst_uniq hb1_ hb2_)))) ?_
  refine WL.lv rfl (LV.pickF rfl rfl) ?_
  refine WL.nil (thenQ.n ?_)
  refine WC.condF rfl ?_
  refine WC.skip (thenQ.n ?_)
  iterate 2 refine WC.seq ?_
  refine WC.region ?_
  refine WL.lv rfl (LV.mv rfl) ?_
  refine WL.lv rfl (LV.lenL Try.underlying29 rfl) ?_
  refine WL.lv rfl (LV.eqI rfl rfl) ?_
  refine WL.nil (thenQ.n ?_)
  refine WC.condP (p := ((l.take 60).length : Int) = 0) rfl (fun hc1 => ?_) (fun hc1 => ?_)
  · skip
    refine WC.seq ?_
    refine WC.region ?_
    refine WL.call rfl (XC.fn Try.func11 (by kernel_rfl) rfl rfl rfl) (live22_calls  ) ?_
    rintro v_ w10 ⟨rfl, hk8⟩
    have hS12 := SH.same hS11 hk8
    refine WL.lv rfl (LV.asg rfl) ?_
    refine WL.nil (thenQ.n ?_)
    refine WC.ret (thenQ.r <| ?_)
    exact ⟨_, fun a ha => res1 rfl ha rfl, rfl, hS12.kb⟩
  · skip
    refine WC.skip (thenQ.n ?_)
    refine WC.seq ?_
    refine WC.region ?_
    refine WL.lv rfl (LV.mv rfl) ?_
    refine WL.lv rfl (LV.cvtI Try.underlying5 Try.underlying3 rfl (wr64 (by omega) (by omega))) ?_
    refine WL.lv rfl (LV.mv rfl) ?_
    refine WL.lv rfl (LV.lenL Try.underlying29 rfl) ?_
    refine WL.lv rfl (LV.rem rfl rfl (by omega) (rem64 (by omega) rfl)) ?_
    refine WL.lv rfl (LV.asg rfl) ?_
    refine WL.nil (thenQ.n ?_)
    refine WC.seq ?_
    have hS13 := SH.drew hS11
    refine WC.regionD [4, 8] (fun w_ => KB No w9.drew w_) [(.pure, 1), (.pure, 2), (.pure, 3), (.pure, 5), (.pure, 6), (.pure, 7), (.forced, 0), (.forced, 4), (.forced, 8), (.pure, 9)] (by kernel_rfl) (by kernel_rfl) (KB.refl _ _) ?_
    iterate 2 refine WS.pure rfl rfl (fun _ => LV.mv rfl) ?_
    have hk0_ := Int.emod_nonneg turn (show ((l.take 60).length : Int) ≠ 0 by omega)
    have hk1_ := Int.emod_lt_of_pos turn (show (0 : Int) < ((l.take 60).length : Int) by omega)
    have hcap1 : (l.take 60).length ≤ c_l := (Rd.cap (St.now (SH.stN hS13 (few_rd 60 h_l))))
    refine WS.pure rfl rfl (fun _ => LV.cut Try.underlying29 ti22.sz rfl rfl rfl rfl ⟨.inr ⟨.i64, by rw [Int.toNat_of_nonneg (a := turn % ((l.take 60).length : Int)) (by omega)] <;> rfl⟩, .inl ⟨rfl, rfl, rfl⟩, .inl ⟨rfl, rfl⟩⟩ (by omega) (by omega) (by omega)) ?_
    iterate 2 refine WS.pure rfl rfl (fun _ => LV.mv rfl) ?_
    have hcap2 : (l.take 60).length ≤ c_l := (Rd.cap (St.now (SH.stN hS13 (few_rd 60 h_l))))
    refine WS.pure rfl rfl (fun _ => LV.cut Try.underlying29 ti22.sz rfl rfl rfl rfl ⟨.inl ⟨rfl, rfl⟩, .inr ⟨.i64, by rw [Int.toNat_of_nonneg (a := turn % ((l.take 60).length : Int)) (by omega)] <;> rfl⟩, .inl ⟨rfl, rfl⟩⟩ (by omega) (by omega) (by omega)) ?_
    refine WS.xe rfl rfl (XE.buildSlice (E := eF) [] #[] [] hS13 Try.underlying29 ti22 rfl (by decide) (by kernel_rfl) (.inr rfl) rfl rfl (by decide)) ?_
    rintro _ w11 ⟨b4, rfl, hS14, hk9⟩
    refine ⟨fun h_ => (KB.transN (KB.refl _ _) hk9), ?_⟩
    refine WS.xe rfl rfl (XE.append hS14 Try.underlying29 ti22 rfl (St.now ((SH.stN hS14 (few_rd 60 h_l)).imp fun _ h => Rd.cut h (by omega) (by omega) (by omega) (by omega))) rfl rfl (by first | omega | simp only [List.length_append, List.length_cons, List.length_nil, List.length_take, List.length_reverse, List.length_drop] at *; omega) (by first | omega | simp only [List.length_append, List.length_cons, List.length_nil, List.length_take, List.length_reverse, List.length_drop] at *; omega)) ?_
    rintro _ w12 ⟨A4, c4, rfl, hS15, hk10⟩
    refine ⟨fun h_ => (by cases h_), ?_⟩
    refine WS.xe rfl rfl (XE.append hS15 Try.underlying29 ti22 rfl (St.now ((SH.stN hS15 (few_rd 60 h_l)).imp fun _ h => Rd.cut h (by omega) (by omega) (by omega) (by omega))) rfl rfl (by first | omega | simp only [List.length_append, List.length_cons, List.length_nil, List.length_take, List.length_reverse, List.length_drop] at *; omega) (by first | omega | simp only [List.length_append, List.length_cons, List.length_nil, List.length_take, List.length_reverse, List.length_drop] at *; omega)) ?_
    rintro _ w13 ⟨A5, c5, rfl, hS16, hk11⟩
    refine ⟨fun h_ => (by cases h_), ?_⟩
    refine WS.pure rfl rfl (fun _ => LV.asg rfl) ?_
    refine WS.nil (thenQ.n ?_)
    refine WC.seq ?_
    refine WC.region ?_
    refine WL.call rfl (XC.fn Try.func11 (by kernel_rfl) rfl rfl rfl) (live22_calls  ) ?_
    rintro v_ w14 ⟨rfl, hk12⟩
    have hS17 := SH.same hS16 hk12
    iterate 2 refine WL.lv rfl (LV.mv rfl) ?_
    refine WL.call rfl (XC.fn Try.func17 (by kernel_rfl) rfl rfl rfl) (sort22_calls (l := ((([] : List Nat) ++ (((l.take 60).take ((l.take 60).length)).drop ((turn % ((l.take 60).length : Int)).toNat))) ++ (((l.take 60).take ((turn % ((l.take 60).length : Int)).toNat)).drop 0))) (SH.rd hS17 (.head _)) (fun x hx => wl_ x ((turn_perm _ _).mem_iff.1 hx)) (by first | omega | (simp only [List.length_append, List.length_nil, List.length_take, List.length_drop]; omega))) ?_
    rintro v_ w15 ⟨A6, c6, ys3, rfl, hpm3, hpw3, hS18⟩
    have hS19 := SH.joinN hS17 hS18
    have hln_ := hpm3.length_eq
    have hp3_ := hpm3
    have hw3_ := hpw3
    refine WL.lv rfl (LV.mv rfl) ?_
    refine WL.call rfl (XC.fn Try.func18 (by kernel_rfl) rfl rfl rfl) (Calls.asB (slist_calls  (SH.rd hS19 (.head _)) (by first | (simp; done) | (simp; omega) | (simp only [List.length_drop, List.length_take]; omega) | omega) (SH.rd hS19 (.tail _ (.tail _ (.tail _ (.head _))))) (by first | (simp; done) | (simp; omega) | (simp only [List.length_drop, List.length_take]; omega) | omega) (fun x hx => wl_ x ((turn_perm _ _).mem_iff.1 (hp3_.mem_iff.1 hx))) (hq1_)) (decide_eq_true (sort_tk (hp3_.trans (turn_perm _ _)) hw3_ hp1_ hw1_))) ?_
    rintro v_ w16 ⟨rfl, hk13⟩
    have hS20 := SH.same hS19 hk13
    refine WL.lv rfl (LV.pickT rfl rfl) ?_
    refine WL.lv rfl (LV.asg rfl) ?_
    refine WL.nil (thenQ.n ?_)
    refine WC.ret (?_)
    exact ⟨_, fun a ha => res1 rfl ha rfl, rfl, hS20.kb⟩

end Go.Proofs.Ytlnnfcbndelcnaa
