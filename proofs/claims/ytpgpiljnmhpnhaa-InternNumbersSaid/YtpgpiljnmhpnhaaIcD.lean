/- The laws of intern. -/
import Derived.Test.YtpgpiljnmhpnhaaIcB
import Derived.Test.YtpgpiljnmhpnhaaIcC
import Derived.Test.YtpgpiljnmhpnhaaNr
namespace Go.Proofs.Ytpgpiljnmhpnhaa
open Go Go.Gv Go.RowKit Go.Itn Go.Num Go.Scr
set_option linter.unusedVariables false
set_option linter.unusedSimpArgs false

theorem live06_n : Go.Num.nnums [] [[(⟨#[97]⟩, false), (⟨#[98]⟩, false), (⟨#[97]⟩, false)], [(⟨#[99]⟩, false), (⟨#[98]⟩, false)]] = [[0, 1, 0], [2, 1]] := by decide +kernel

theorem live06_calls {w : World}  :
    Calls Try.prog 12 #[] w fun e w' => ∃ v, e = .returned v ∧ (fun v w' => v = .bool (decide (true)) ∧ KB No w w') v w' := by
  have hS : SH w No w [] := SH.nil _ _
  refine calls (l := litOf [] 0) Try.func12 rfl (n := 50) rfl (Nat.le_of_ble_eq_true rfl) (lit_args _) ?_
  refine WC.seq ?_
  refine WC.region ?_
  refine WL.lv rfl (LV.asg rfl) ?_
  refine WL.nil (thenQ.n ?_)
  refine WC.seq ?_
  refine WC.region ?_
  refine WL.lv rfl (LV.build (vs := [(0, (.string ⟨#[97]⟩))]) (places := #[(0, 1), (1, 1)]) (cs := #[(.string ⟨#[97]⟩), (.bool false)]) Try.underlying33 ti33 (fun _ => by kernel_rfl) rfl rfl) ?_
  refine WL.lv rfl (LV.build (vs := [(0, (.string ⟨#[98]⟩))]) (places := #[(0, 1), (1, 1)]) (cs := #[(.string ⟨#[98]⟩), (.bool false)]) Try.underlying33 ti33 (fun _ => by kernel_rfl) rfl rfl) ?_
  refine WL.lv rfl (LV.build (vs := [(0, (.string ⟨#[97]⟩))]) (places := #[(0, 1), (1, 1)]) (cs := #[(.string ⟨#[97]⟩), (.bool false)]) Try.underlying33 ti33 (fun _ => by kernel_rfl) rfl rfl) ?_
  refine WL.xe rfl (XE.buildSlice (E := eL) [(0, (.agg #[(.string ⟨#[97]⟩), (.bool false)])), (1, (.agg #[(.string ⟨#[98]⟩), (.bool false)])), (2, (.agg #[(.string ⟨#[97]⟩), (.bool false)]))] #[(.string ⟨#[97]⟩), (.bool false), (.string ⟨#[98]⟩), (.bool false), (.string ⟨#[97]⟩), (.bool false)] [(⟨#[97]⟩, false), (⟨#[98]⟩, false), (⟨#[97]⟩, false)] hS Try.underlying31 ti33 rfl (by decide) (by kernel_rfl) (.inr rfl) rfl rfl (by decide)) ?_
  rintro _ w1 ⟨b1, rfl, hS1, hk1⟩
  refine WL.lv rfl (LV.build (vs := [(0, (.string ⟨#[99]⟩))]) (places := #[(0, 1), (1, 1)]) (cs := #[(.string ⟨#[99]⟩), (.bool false)]) Try.underlying33 ti33 (fun _ => by kernel_rfl) rfl rfl) ?_
  refine WL.lv rfl (LV.build (vs := [(0, (.string ⟨#[98]⟩))]) (places := #[(0, 1), (1, 1)]) (cs := #[(.string ⟨#[98]⟩), (.bool false)]) Try.underlying33 ti33 (fun _ => by kernel_rfl) rfl rfl) ?_
  refine WL.xe rfl (XE.buildSlice (E := eL) [(0, (.agg #[(.string ⟨#[99]⟩), (.bool false)])), (1, (.agg #[(.string ⟨#[98]⟩), (.bool false)]))] #[(.string ⟨#[99]⟩), (.bool false), (.string ⟨#[98]⟩), (.bool false)] [(⟨#[99]⟩, false), (⟨#[98]⟩, false)] hS1 Try.underlying31 ti33 rfl (by decide) (by kernel_rfl) (.inr rfl) rfl rfl (by decide)) ?_
  rintro _ w2 ⟨b2, rfl, hS2, hk2⟩
  refine WL.xe rfl (XE.buildSlice (E := eV) [(0, (.slice (some ⟨b1, 0, none⟩) 3 3)), (1, (.slice (some ⟨b2, 0, none⟩) 2 2))] #[(.slice (some ⟨b1, 0, none⟩) 3 3), (.slice (some ⟨b2, 0, none⟩) 2 2)] [(⟨(some ⟨b1, 0, none⟩), 3, 3⟩ : SV), (⟨(some ⟨b2, 0, none⟩), 2, 2⟩ : SV)] hS2 Try.underlying22 ti31 rfl (by decide) (by kernel_rfl) (.inr rfl) rfl rfl (by decide)) ?_
  rintro _ w3 ⟨b3, rfl, hS3, hk3⟩
  refine WL.call rfl (XC.fn Try.func9 (by kernel_rfl) rfl rfl rfl) (numbers_eq  (St.rrOf (rows := [((⟨(some ⟨b1, 0, none⟩), 3, 3⟩ : SV), [(⟨#[97]⟩, false), (⟨#[98]⟩, false), (⟨#[97]⟩, false)]), ((⟨(some ⟨b2, 0, none⟩), 2, 2⟩ : SV), [(⟨#[99]⟩, false), (⟨#[98]⟩, false)])]) (SH.rd hS3 (.head _)) (St.inCons (r := (⟨(some ⟨b1, 0, none⟩), 3, 3⟩ : SV)) rfl (SH.rd hS3 (.tail _ (.tail _ (.head _)))) (St.inCons (r := (⟨(some ⟨b2, 0, none⟩), 2, 2⟩ : SV)) rfl (SH.rd hS3 (.tail _ (.head _))) St.in0))) rfl (by simp) (by intro p hp; simp at hp; rcases hp with rfl | rfl <;> simp)) ?_
  rintro v_ w4 ⟨A1, c1, rows1, rfl, hq1, hS4⟩
  have hS5 := SH.joinN hS3 hS4
  have hmt := map_two (x := [0, 1, 0]) (y := [2, 1]) (hq1.trans live06_n)
  have hl1 := hmt.1
  have hra := hmt.2.1
  have hrb := hmt.2.2
  refine WL.lv rfl (LV.asg rfl) ?_
  refine WL.nil (thenQ.n ?_)
  refine WC.seq ?_
  refine WC.region ?_
  refine WL.xe rfl (XE.buildSlice (E := eI) [(0, (.int .i64 1)), (1, (.int .i64 2)), (2, (.int .i64 3)), (3, (.int .i64 1))] #[(.int .i64 1), (.int .i64 2), (.int .i64 3), (.int .i64 1)] [1, 2, 3, 1] hS5 Try.underlying28 ti3 rfl (by decide) (by kernel_rfl) (.inr rfl) rfl rfl (by decide)) ?_
  rintro _ w5 ⟨b4, rfl, hS6, hk4⟩
  refine WL.xe rfl (XE.buildSlice (E := eI) [(0, (.int .i64 1)), (1, (.int .i64 3)), (2, (.int .i64 1))] #[(.int .i64 1), (.int .i64 3), (.int .i64 1)] [1, 3, 1] hS6 Try.underlying28 ti3 rfl (by decide) (by kernel_rfl) (.inr rfl) rfl rfl (by decide)) ?_
  rintro _ w6 ⟨b5, rfl, hS7, hk5⟩
  refine WL.call rfl (XC.fn Try.func13 (by kernel_rfl) rfl rfl rfl) (ends_calls  (SH.rd hS7 (.tail _ (.head _))) rfl (SH.rd hS7 (.head _)) rfl ) ?_
  rintro v_ w7 ⟨rfl, hk6⟩
  have hS8 := SH.same hS7 hk6
  refine WL.lv rfl (LV.mv rfl) ?_
  iterate 2 refine WL.lv rfl (LV.extract rfl rfl) ?_
  iterate 2 refine WL.lv rfl (LV.asg rfl) ?_
  refine WL.nil (thenQ.n ?_)
  refine WC.seq ?_
  refine WC.region ?_
  refine WL.lv rfl (LV.mv rfl) ?_
  refine WL.lv rfl (LV.lenL Try.underlying24 rfl) ?_
  refine WL.lv rfl (LV.as (LV.eqI rfl rfl) (decide_eq_true (by omega))) ?_
  iterate 2 refine WL.lv rfl (LV.mv rfl) ?_
  obtain ⟨A2, c2, A3, c3, e1, g1, e2, r1⟩ := St.eltRR (SH.rdRR hS8 (.tail _ (.tail _ (.head _)))) default (0 : Int) (by omega) (by omega)
  refine WL.lv rfl (LV.idxA Try.underlying24 ti28.sz rfl e1 rfl (by omega) (by omega)) ?_
  refine WL.lv rfl (LV.load1 Try.underlying28 rfl rfl (g1 _ (KB.refl No _))) ?_
  refine WL.xe rfl (XE.buildSlice (E := eI) [(0, (.int .i64 0)), (1, (.int .i64 1)), (2, (.int .i64 0))] #[(.int .i64 0), (.int .i64 1), (.int .i64 0)] [0, 1, 0] hS8 Try.underlying28 ti3 rfl (by decide) (by kernel_rfl) (.inr rfl) rfl rfl (by decide)) ?_
  rintro _ w8 ⟨b6, rfl, hS9, hk7⟩
  refine WL.call rfl (XC.fn Try.func11 (by kernel_rfl) rfl rfl rfl) (Calls.asB (ints_calls  (St.inner (SH.rdRR hS9 (.tail _ (.tail _ (.tail _ (.head _))))) (getD_mem (by omega)) e2) rfl (SH.rd hS9 (.head _)) rfl ) (decide_eq_true (hra))) ?_
  rintro v_ w9 ⟨rfl, hk8⟩
  have hS10 := SH.same hS9 hk8
  refine WL.lv rfl (LV.pickT rfl rfl) ?_
  iterate 2 refine WL.lv rfl (LV.mv rfl) ?_
  obtain ⟨A4, c4, A5, c5, e3, g2, e4, r2⟩ := St.eltRR (SH.rdRR hS10 (.tail _ (.tail _ (.tail _ (.head _))))) default (1 : Int) (by omega) (by omega)
  refine WL.lv rfl (LV.idxA Try.underlying24 ti28.sz rfl e3 rfl (by omega) (by omega)) ?_
  refine WL.lv rfl (LV.load1 Try.underlying28 rfl rfl (g2 _ (KB.refl No _))) ?_
  refine WL.xe rfl (XE.buildSlice (E := eI) [(0, (.int .i64 2)), (1, (.int .i64 1))] #[(.int .i64 2), (.int .i64 1)] [2, 1] hS10 Try.underlying28 ti3 rfl (by decide) (by kernel_rfl) (.inr rfl) rfl rfl (by decide)) ?_
  rintro _ w10 ⟨b7, rfl, hS11, hk9⟩
  refine WL.call rfl (XC.fn Try.func11 (by kernel_rfl) rfl rfl rfl) (Calls.asB (ints_calls  (St.inner (SH.rdRR hS11 (.tail _ (.tail _ (.tail _ (.tail _ (.head _)))))) (getD_mem (by omega)) e4) rfl (SH.rd hS11 (.head _)) rfl ) (decide_eq_true (hrb))) ?_
  rintro v_ w11 ⟨rfl, hk10⟩
  have hS12 := SH.same hS11 hk10
  refine WL.lv rfl (LV.pickT rfl rfl) ?_
  iterate 2 refine WL.lv rfl (LV.mv rfl) ?_
  refine WL.lv rfl (LV.as (LV.eqI rfl rfl) (decide_eq_true (by decide))) ?_
  refine WL.lv rfl (LV.pickT rfl rfl) ?_
  iterate 2 refine WL.lv rfl (LV.mv rfl) ?_
  refine WL.lv rfl (LV.as (LV.eqI rfl rfl) (decide_eq_true (by decide))) ?_
  refine WL.lv rfl (LV.pickT rfl rfl) ?_
  refine WL.lv rfl (LV.mv rfl) ?_
  refine WL.xe rfl (XE.buildSlice (E := eI) [(0, (.int .i64 4))] #[(.int .i64 4)] [4] hS12 Try.underlying28 ti3 rfl (by decide) (by kernel_rfl) (.inr rfl) rfl rfl (by decide)) ?_
  rintro _ w12 ⟨b8, rfl, hS13, hk11⟩
  refine WL.call rfl (XC.fn Try.func15 (by kernel_rfl) rfl rfl rfl) (counts_calls  (SH.rd hS13 (.head _)) rfl (by decide) (by decide)) ?_
  rintro v_ w13 ⟨A6, c6, rfl, hS14⟩
  have hS15 := SH.joinN hS13 hS14
  refine WL.lv rfl (LV.lenL Try.underlying36 rfl) ?_
  refine WL.lv rfl (LV.as (LV.eqI rfl rfl) (decide_eq_true (by rw [CNT_1]; rfl))) ?_
  refine WL.lv rfl (LV.pickT rfl rfl) ?_
  refine WL.lv rfl (LV.asg rfl) ?_
  refine WL.nil (thenQ.n ?_)
  refine WC.ret (?_)
  exact ⟨_, fun a ha => res1 rfl ha rfl, rfl, hS15.kb⟩

set_option maxHeartbeats 2000000 in
theorem internEnds_law {w : World} {A_a : Option Addr} {n_a c_a : Nat} {a : List Int} {A_b : Option Addr} {n_b c_b : Nat} {b : List Int} (h_a : St No w (Rd eI (.slice A_a n_a c_a) a)) (hn_a : a.length = n_a) (h_b : St No w (Rd eI (.slice A_b n_b c_b) b)) (hn_b : b.length = n_b)  :
    Calls Try.prog 5 #[(.slice A_a n_a c_a), (.slice A_b n_b c_b)] w fun e w' => ∃ v, e = .returned v ∧ (fun v w' => v = .bool (decide (true)) ∧ KB No w w') v w' := by
  subst hn_a hn_b
  have hS : SH w No w [] := SH.nil _ _
  refine calls (l := litOf [(.slice A_a a.length c_a), (.slice A_b b.length c_b)] 0) Try.func5 rfl (n := 32) rfl (Nat.le_of_ble_eq_true rfl) (lit_args _) ?_
  refine WC.seq ?_
  refine WC.region ?_
  refine WL.lv rfl (LV.asg rfl) ?_
  refine WL.nil (thenQ.n ?_)
  refine WC.seq ?_
  refine WC.region ?_
  iterate 2 refine WL.lv rfl (LV.mv rfl) ?_
  refine WL.call rfl (XC.fn Try.func13 (by kernel_rfl) rfl rfl rfl) (ends_calls  (SH.stN hS h_a) rfl (SH.stN hS h_b) rfl ) ?_
  rintro v_ w1 ⟨rfl, hk1⟩
  have hS1 := SH.same hS hk1
  refine WL.lv rfl (LV.mv rfl) ?_
  iterate 2 refine WL.lv rfl (LV.extract rfl rfl) ?_
  iterate 2 refine WL.lv rfl (LV.asg rfl) ?_
  refine WL.nil (thenQ.n ?_)
  refine WC.seq ?_
  refine WC.region ?_
  iterate 2 refine WL.lv rfl (LV.mv rfl) ?_
  refine WL.call rfl (XC.fn Try.func14 (by kernel_rfl) rfl rfl rfl) (rends_calls  (SH.stN hS1 h_a) rfl (SH.stN hS1 h_b) rfl ) ?_
  rintro v_ w2 ⟨rfl, hk2⟩
  have hS2 := SH.same hS1 hk2
  refine WL.lv rfl (LV.mv rfl) ?_
  iterate 2 refine WL.lv rfl (LV.extract rfl rfl) ?_
  iterate 2 refine WL.lv rfl (LV.asg rfl) ?_
  refine WL.nil (thenQ.n ?_)
  refine WC.seq ?_
  refine WC.region ?_
  refine WL.call rfl (XC.fn Try.func12 (by kernel_rfl) rfl rfl rfl) (live06_calls  ) ?_
  rintro v_ w3 ⟨rfl, hk3⟩
  have hS3 := SH.same hS2 hk3
  iterate 3 refine WL.lv rfl (LV.mv rfl) ?_
  refine WL.lv rfl (LV.as (LV.eqI rfl rfl) (decide_eq_true (rfl))) ?_
  refine WL.lv rfl (LV.pickT rfl rfl) ?_
  iterate 3 refine WL.lv rfl (LV.mv rfl) ?_
  refine WL.lv rfl (LV.as (LV.eqI rfl rfl) (decide_eq_true (rfl))) ?_
  refine WL.lv rfl (LV.pickT rfl rfl) ?_
  refine WL.lv rfl (LV.asg rfl) ?_
  refine WL.nil (thenQ.n ?_)
  refine WC.ret (?_)
  exact ⟨_, fun a ha => res1 rfl ha rfl, rfl, hS3.kb⟩

set_option maxHeartbeats 2000000 in
theorem internCounts_law {w : World} {A_a : Option Addr} {n_a c_a : Nat} {a : List Int} {A_b : Option Addr} {n_b c_b : Nat} {b : List Int} (h_a : St No w (Rd eI (.slice A_a n_a c_a) a)) (hn_a : a.length = n_a) (h_b : St No w (Rd eI (.slice A_b n_b c_b) b)) (hn_b : b.length = n_b) (hwa : ∀ x ∈ a, (Lit.int .i64 x).wf = true) :
    Calls Try.prog 6 #[(.slice A_a n_a c_a), (.slice A_b n_b c_b)] w fun e w' => ∃ v, e = .returned v ∧ (fun v w' => v = .bool (decide (true)) ∧ KB No w w') v w' := by
  subst hn_a hn_b
  have ha60 : ((a.take (min (a.length : Int) 60).toNat).drop 0).length ≤ 60 := by simp only [List.length_drop, List.length_take]; omega
  have hb60 : ((b.take (min (b.length : Int) 60).toNat).drop 0).length ≤ 60 := by simp only [List.length_drop, List.length_take]; omega
  have hcl_ := CNT_len ((a.take (min (a.length : Int) 60).toNat).drop 0)
  have hS : SH w No w [] := SH.nil _ _
  refine calls (l := litOf [(.slice A_a a.length c_a), (.slice A_b b.length c_b)] 0) Try.func6 rfl (n := 55) rfl (Nat.le_of_ble_eq_true rfl) (lit_args _) ?_
  refine WC.seq ?_
  refine WC.region ?_
  refine WL.lv rfl (LV.asg rfl) ?_
  refine WL.nil (thenQ.n ?_)
  refine WC.seq ?_
  have hS1 := SH.drew hS
  refine WC.regionD [] (fun w_ => KB No w.drew w_) [(.pure, 0), (.pure, 1), (.pure, 2), (.pure, 3), (.pure, 4), (.pure, 5), (.pure, 6), (.pure, 7), (.pure, 8), (.pure, 9), (.pure, 10), (.pure, 11)] (by kernel_rfl) (by kernel_rfl) (KB.refl _ _) ?_
  iterate 2 refine WS.pure rfl rfl (fun _ => LV.mv rfl) ?_
  refine WS.pure rfl rfl (fun _ => LV.lenL Try.underlying28 rfl) ?_
  refine WS.pure rfl rfl (fun _ => LV.minI rfl rfl) ?_
  have hcap1 : a.length ≤ c_a := (Rd.cap (St.now (SH.stN hS1 h_a)))
  refine WS.pure rfl rfl (fun _ => LV.cut Try.underlying28 ti3.sz rfl rfl rfl rfl ⟨.inl ⟨rfl, rfl⟩, .inr ⟨.i64, by rw [Int.toNat_of_nonneg (a := min (a.length : Int) 60) (by omega)] <;> rfl⟩, .inl ⟨rfl, rfl⟩⟩ (by omega) (by omega) (by omega)) ?_
  iterate 2 refine WS.pure rfl rfl (fun _ => LV.mv rfl) ?_
  refine WS.pure rfl rfl (fun _ => LV.lenL Try.underlying28 rfl) ?_
  refine WS.pure rfl rfl (fun _ => LV.minI rfl rfl) ?_
  have hcap2 : b.length ≤ c_b := (Rd.cap (St.now (SH.stN hS1 h_b)))
  refine WS.pure rfl rfl (fun _ => LV.cut Try.underlying28 ti3.sz rfl rfl rfl rfl ⟨.inl ⟨rfl, rfl⟩, .inr ⟨.i64, by rw [Int.toNat_of_nonneg (a := min (b.length : Int) 60) (by omega)] <;> rfl⟩, .inl ⟨rfl, rfl⟩⟩ (by omega) (by omega) (by omega)) ?_
  iterate 2 refine WS.pure rfl rfl (fun _ => LV.asg rfl) ?_
  refine WS.nil (thenQ.n ?_)
  refine WC.seq ?_
  refine WC.region ?_
  refine WL.lv rfl (LV.mv rfl) ?_
  refine WL.call rfl (XC.fn Try.func15 (by kernel_rfl) rfl rfl rfl) (counts_calls  ((SH.stN hS1 h_a).imp fun _ h => Rd.cut h (by omega) (by omega) (by omega) (by omega)) (by first | (simp; done) | (simp; omega) | (simp only [List.length_drop, List.length_take]; omega)) (by omega) (fun x hx => hwa x (List.mem_of_mem_take (List.mem_of_mem_drop hx)))) ?_
  rintro v_ w1 ⟨A1, c1, rfl, hS2⟩
  have hS3 := SH.joinN hS1 hS2
  refine WL.lv rfl (LV.asg rfl) ?_
  refine WL.nil (thenQ.n ?_)
  refine WC.seq ?_
  refine WC.region ?_
  refine WL.lv rfl (LV.asg rfl) ?_
  refine WL.nil (thenQ.n ?_)
  iterate 2 refine WC.seq ?_
  refine WC.region ?_
  refine WL.lv rfl (LV.asg rfl) ?_
  refine WL.nil (thenQ.n ?_)
  refine WC.block ?_
  refine WC.loop (fun m_ f_ w_ => ∃ (n : Int) (i : Int), (0 ≤ i) ∧ (i ≤ ((CNT ((a.take ((min (a.length : Int) 60).toNat)).drop 0)).length : Int)) ∧ (n = (((CNT ((a.take (min (a.length : Int) 60).toNat).drop 0)).take i.toNat).map (·.2)).sum) ∧ (0 ≤ n ∧ n ≤ 60 * i) ∧ SH w No w_ [rowE eP 38 (.slice A1 ((CNT ((a.take ((min (a.length : Int) 60).toNat)).drop 0)).length) c1) (CNT ((a.take ((min (a.length : Int) 60).toNat)).drop 0))] ∧ m_ = ((((CNT ((a.take ((min (a.length : Int) 60).toNat)).drop 0)).length : Int) - i).toNat) ∧ Weak (lit [(0, (.slice (if c_a = 0 then A_a else A_a.map (·.add (0 * 1))) ((min (a.length : Int) 60).toNat - 0) (c_a - 0))), (1, (.slice (if c_b = 0 then A_b else A_b.map (·.add (0 * 1))) ((min (b.length : Int) 60).toNat - 0) (c_b - 0))), (5, (.slice A1 ((CNT ((a.take ((min (a.length : Int) 60).toNat)).drop 0)).length) c1)), (6, (.int .i64 n)), (7, (.int .i64 i))]) f_) _ ⟨0, 0, by omega, by omega, rfl, by omega, hS3, rfl, Weak.cons rfl <| Weak.cons rfl <| Weak.cons rfl <| Weak.cons rfl <| Weak.cons rfl <| Weak.nil _⟩ ?_
  rintro m1 f1 w2 ⟨n, i, ilo, ihi, q1, q2, hL1, rfl, hw1⟩
  refine WC.weak hw1 ?_
  clear hw1
  iterate 2 refine WC.seq ?_
  refine WC.region ?_
  iterate 2 refine WL.lv rfl (LV.mv rfl) ?_
  refine WL.lv rfl (LV.lenL Try.underlying36 rfl) ?_
  refine WL.lv rfl (LV.ltI rfl rfl) ?_
  refine WL.nil (thenQ.n ?_)
  refine WC.condP (p := i < ((CNT ((a.take ((min (a.length : Int) 60).toNat)).drop 0)).length : Int)) rfl (fun hk => ?_) (fun hk => ?_)
  · have hcb_ := CNT_bd (l := ((a.take (min (a.length : Int) 60).toNat).drop 0)) ilo hk
    refine WC.skip (thenQ.n ?_)
    refine WC.seq ?_
    refine WC.block ?_
    refine WC.region ?_
    iterate 3 refine WL.lv rfl (LV.mv rfl) ?_
    obtain ⟨A2, c2, e1, g1⟩ := St.elt (SH.rd hL1 (.head _)) (0, 0) i (by omega) (by omega)
    refine WL.lv rfl (LV.idxA Try.underlying36 ti38.sz rfl e1 rfl (by omega) (by omega)) ?_
    refine WL.lv rfl (LV.idxArr Try.underlying38 ti3.sz rfl rfl (by decide) (by decide)) ?_
    refine WL.lv rfl (LV.load1 (v := (.int .i64 (((CNT ((a.take ((min (a.length : Int) 60).toNat)).drop 0)).getD (i).toNat (0, 0)).2))) Try.underlying3 rfl rfl (g1 _ (KB.refl No _) 1 _ rfl)) ?_
    refine WL.lv rfl (LV.add rfl rfl (wr64 (by omega) (by omega))) ?_
    refine WL.lv rfl (LV.asg rfl) ?_
    refine WL.nil (blockQ.n <| thenQ.n ?_)
    refine WC.region ?_
    refine WL.lv rfl (LV.mv rfl) ?_
    refine WL.lv rfl (LV.add rfl rfl (wr64 (by omega) (by omega))) ?_
    refine WL.lv rfl (LV.asg rfl) ?_
    refine WL.nil (thenQ.n ?_)
    exact ⟨_, by omega, n + (((CNT ((a.take ((min (a.length : Int) 60).toNat)).drop 0)).getD (i).toNat (0, 0)).2), i + 1, by omega, by omega, (by rw [sum_snoc ilo hk, ← q1]), by omega, hL1, rfl, Weak.cons rfl <| Weak.cons rfl <| Weak.cons rfl <| Weak.cons rfl <| Weak.cons rfl <| Weak.nil _⟩
  · skip
    refine WC.exit (thenQ.x <| thenQ.x <| blockQ.hit <| thenQ.n ?_)
    refine WC.seq ?_
    refine WC.region ?_
    refine WL.call rfl (XC.fn Try.func12 (by kernel_rfl) rfl rfl rfl) (live06_calls  ) ?_
    rintro v_ w3 ⟨rfl, hk1⟩
    have hS4 := SH.same hL1 hk1
    iterate 3 refine WL.lv rfl (LV.mv rfl) ?_
    refine WL.lv rfl (LV.lenL Try.underlying28 rfl) ?_
    refine WL.lv rfl (LV.as (LV.eqI rfl rfl) (decide_eq_true (by have h_ := CNT_sum ((a.take (min (a.length : Int) 60).toNat).drop 0); rw [q1, take_all (by omega), h_]; simp only [List.length_drop, List.length_take]; omega))) ?_
    refine WL.lv rfl (LV.pickT rfl rfl) ?_
    iterate 3 refine WL.lv rfl (LV.mv rfl) ?_
    refine WL.call rfl (XC.fn Try.func17 (by kernel_rfl) rfl rfl rfl) (rcounts_calls  ((SH.stN hS4 h_a).imp fun _ h => Rd.cut h (by omega) (by omega) (by omega) (by omega)) (by first | (simp; done) | (simp; omega) | (simp only [List.length_drop, List.length_take]; omega)) (by omega)) ?_
    rintro v_ w4 ⟨A3, c3, rfl, hS5⟩
    have hS6 := SH.joinN hS4 hS5
    refine WL.call rfl (XC.fn Try.func16 (by kernel_rfl) rfl rfl rfl) (Calls.asB (same6_calls  (SH.rd hS6 (.tail _ (.head _))) rfl (SH.rd hS6 (.head _)) rfl ) (decide_eq_true (rfl))) ?_
    rintro v_ w5 ⟨rfl, hk2⟩
    have hS7 := SH.same hS6 hk2
    refine WL.lv rfl (LV.pickT rfl rfl) ?_
    iterate 3 refine WL.lv rfl (LV.mv rfl) ?_
    refine WL.call rfl (XC.fn Try.func18 (by kernel_rfl) rfl rfl rfl) (once_calls  ((SH.stN hS7 h_a).imp fun _ h => Rd.cut h (by omega) (by omega) (by omega) (by omega)) (by first | (simp; done) | (simp; omega) | (simp only [List.length_drop, List.length_take]; omega)) ((SH.stN hS7 h_b).imp fun _ h => Rd.cut h (by omega) (by omega) (by omega) (by omega)) (by first | (simp; done) | (simp; omega) | (simp only [List.length_drop, List.length_take]; omega)) (by omega) (by omega)) ?_
    rintro v_ w6 ⟨A4, c4, rfl, hS8⟩
    have hS9 := SH.joinN hS7 hS8
    iterate 2 refine WL.lv rfl (LV.mv rfl) ?_
    refine WL.call rfl (XC.fn Try.func19 (by kernel_rfl) rfl rfl rfl) (ronce_calls  ((SH.stN hS9 h_a).imp fun _ h => Rd.cut h (by omega) (by omega) (by omega) (by omega)) (by first | (simp; done) | (simp; omega) | (simp only [List.length_drop, List.length_take]; omega)) ((SH.stN hS9 h_b).imp fun _ h => Rd.cut h (by omega) (by omega) (by omega) (by omega)) (by first | (simp; done) | (simp; omega) | (simp only [List.length_drop, List.length_take]; omega)) (by omega) (by omega)) ?_
    rintro v_ w7 ⟨A5, c5, rfl, hS10⟩
    have hS11 := SH.joinN hS9 hS10
    refine WL.call rfl (XC.fn Try.func16 (by kernel_rfl) rfl rfl rfl) (Calls.asB (same6_calls  (SH.rd hS11 (.tail _ (.head _))) rfl (SH.rd hS11 (.head _)) rfl ) (decide_eq_true (rfl))) ?_
    rintro v_ w8 ⟨rfl, hk3⟩
    have hS12 := SH.same hS11 hk3
    refine WL.lv rfl (LV.pickT rfl rfl) ?_
    refine WL.lv rfl (LV.asg rfl) ?_
    refine WL.nil (thenQ.n ?_)
    refine WC.ret (?_)
    exact ⟨_, fun a ha => res1 rfl ha rfl, rfl, hS12.kb⟩

set_option maxHeartbeats 2000000 in
theorem internOnce_law {w : World} {A_a : Option Addr} {n_a c_a : Nat} {a : List Int} {A_b : Option Addr} {n_b c_b : Nat} {b : List Int} (h_a : St No w (Rd eI (.slice A_a n_a c_a) a)) (hn_a : a.length = n_a) (h_b : St No w (Rd eI (.slice A_b n_b c_b) b)) (hn_b : b.length = n_b)  :
    Calls Try.prog 7 #[(.slice A_a n_a c_a), (.slice A_b n_b c_b)] w fun e w' => ∃ v, e = .returned v ∧ (fun v w' => v = .bool (decide (true)) ∧ KB No w w') v w' := by
  subst hn_a hn_b
  have ha60 : ((a.take (min (a.length : Int) 60).toNat).drop 0).length ≤ 60 := by simp only [List.length_drop, List.length_take]; omega
  have hb60 : ((b.take (min (b.length : Int) 60).toNat).drop 0).length ≤ 60 := by simp only [List.length_drop, List.length_take]; omega
  have hle_ := onc_len_eq ((a.take (min (a.length : Int) 60).toNat).drop 0) ((b.take (min (b.length : Int) 60).toNat).drop 0)
  have hl1_ := onc_le ((a.take (min (a.length : Int) 60).toNat).drop 0) ((b.take (min (b.length : Int) 60).toNat).drop 0)
  have hS : SH w No w [] := SH.nil _ _
  refine calls (l := litOf [(.slice A_a a.length c_a), (.slice A_b b.length c_b)] 0) Try.func7 rfl (n := 126) rfl (Nat.le_of_ble_eq_true rfl) (lit_args _) ?_
  refine WC.seq ?_
  refine WC.region ?_
  refine WL.lv rfl (LV.asg rfl) ?_
  refine WL.nil (thenQ.n ?_)
  refine WC.seq ?_
  have hS1 := SH.drew hS
  refine WC.regionD [] (fun w_ => KB No w.drew w_) [(.pure, 0), (.pure, 1), (.pure, 2), (.pure, 3), (.pure, 4), (.pure, 5), (.pure, 6), (.pure, 7), (.pure, 8), (.pure, 9), (.pure, 10), (.pure, 11)] (by kernel_rfl) (by kernel_rfl) (KB.refl _ _) ?_
  iterate 2 refine WS.pure rfl rfl (fun _ => LV.mv rfl) ?_
  refine WS.pure rfl rfl (fun _ => LV.lenL Try.underlying28 rfl) ?_
  refine WS.pure rfl rfl (fun _ => LV.minI rfl rfl) ?_
  have hcap1 : a.length ≤ c_a := (Rd.cap (St.now (SH.stN hS1 h_a)))
  refine WS.pure rfl rfl (fun _ => LV.cut Try.underlying28 ti3.sz rfl rfl rfl rfl ⟨.inl ⟨rfl, rfl⟩, .inr ⟨.i64, by rw [Int.toNat_of_nonneg (a := min (a.length : Int) 60) (by omega)] <;> rfl⟩, .inl ⟨rfl, rfl⟩⟩ (by omega) (by omega) (by omega)) ?_
  iterate 2 refine WS.pure rfl rfl (fun _ => LV.mv rfl) ?_
  refine WS.pure rfl rfl (fun _ => LV.lenL Try.underlying28 rfl) ?_
  refine WS.pure rfl rfl (fun _ => LV.minI rfl rfl) ?_
  have hcap2 : b.length ≤ c_b := (Rd.cap (St.now (SH.stN hS1 h_b)))
  refine WS.pure rfl rfl (fun _ => LV.cut Try.underlying28 ti3.sz rfl rfl rfl rfl ⟨.inl ⟨rfl, rfl⟩, .inr ⟨.i64, by rw [Int.toNat_of_nonneg (a := min (b.length : Int) 60) (by omega)] <;> rfl⟩, .inl ⟨rfl, rfl⟩⟩ (by omega) (by omega) (by omega)) ?_
  iterate 2 refine WS.pure rfl rfl (fun _ => LV.asg rfl) ?_
  refine WS.nil (thenQ.n ?_)
  refine WC.seq ?_
  refine WC.region ?_
  iterate 2 refine WL.lv rfl (LV.mv rfl) ?_
  refine WL.call rfl (XC.fn Try.func18 (by kernel_rfl) rfl rfl rfl) (once_calls  ((SH.stN hS1 h_a).imp fun _ h => Rd.cut h (by omega) (by omega) (by omega) (by omega)) (by first | (simp; done) | (simp; omega) | (simp only [List.length_drop, List.length_take]; omega)) ((SH.stN hS1 h_b).imp fun _ h => Rd.cut h (by omega) (by omega) (by omega) (by omega)) (by first | (simp; done) | (simp; omega) | (simp only [List.length_drop, List.length_take]; omega)) (by omega) (by omega)) ?_
  rintro v_ w1 ⟨A1, c1, rfl, hS2⟩
  have hS3 := SH.joinN hS1 hS2
  iterate 2 refine WL.lv rfl (LV.mv rfl) ?_
  refine WL.call rfl (XC.fn Try.func18 (by kernel_rfl) rfl rfl rfl) (once_calls  ((SH.stN hS3 h_b).imp fun _ h => Rd.cut h (by omega) (by omega) (by omega) (by omega)) (by first | (simp; done) | (simp; omega) | (simp only [List.length_drop, List.length_take]; omega)) ((SH.stN hS3 h_a).imp fun _ h => Rd.cut h (by omega) (by omega) (by omega) (by omega)) (by first | (simp; done) | (simp; omega) | (simp only [List.length_drop, List.length_take]; omega)) (by omega) (by omega)) ?_
  rintro v_ w2 ⟨A2, c2, rfl, hS4⟩
  have hS5 := SH.joinN hS3 hS4
  iterate 2 refine WL.lv rfl (LV.asg rfl) ?_
  refine WL.nil (thenQ.n ?_)
  iterate 2 refine WC.seq ?_
  refine WC.region ?_
  refine WL.lv rfl (LV.mv rfl) ?_
  refine WL.lv rfl (LV.lenL Try.underlying36 rfl) ?_
  refine WL.lv rfl (LV.mv rfl) ?_
  refine WL.lv rfl (LV.lenL Try.underlying36 rfl) ?_
  refine WL.lv rfl (LV.neI rfl rfl) ?_
  refine WL.nil (thenQ.n ?_)
  refine WC.condP (p := ((onc ((a.take ((min (a.length : Int) 60).toNat)).drop 0) ((b.take ((min (b.length : Int) 60).toNat)).drop 0)).length : Int) ≠ ((onc ((b.take ((min (b.length : Int) 60).toNat)).drop 0) ((a.take ((min (a.length : Int) 60).toNat)).drop 0)).length : Int)) rfl (fun hc1 => ?_) (fun hc1 => ?_)
  · exfalso; omega
  · skip
    refine WC.skip (thenQ.n ?_)
    iterate 2 refine WC.seq ?_
    refine WC.region ?_
    refine WL.lv rfl (LV.asg rfl) ?_
    refine WL.nil (thenQ.n ?_)
    refine WC.block ?_
    refine WC.loop (fun m_ f_ w_ => ∃ (i : Int), (0 ≤ i) ∧ (i ≤ ((onc ((a.take ((min (a.length : Int) 60).toNat)).drop 0) ((b.take ((min (b.length : Int) 60).toNat)).drop 0)).length : Int)) ∧ SH w No w_ [rowE eP 38 (.slice A2 ((onc ((b.take ((min (b.length : Int) 60).toNat)).drop 0) ((a.take ((min (a.length : Int) 60).toNat)).drop 0)).length) c2) (onc ((b.take ((min (b.length : Int) 60).toNat)).drop 0) ((a.take ((min (a.length : Int) 60).toNat)).drop 0)), rowE eP 38 (.slice A1 ((onc ((a.take ((min (a.length : Int) 60).toNat)).drop 0) ((b.take ((min (b.length : Int) 60).toNat)).drop 0)).length) c1) (onc ((a.take ((min (a.length : Int) 60).toNat)).drop 0) ((b.take ((min (b.length : Int) 60).toNat)).drop 0))] ∧ m_ = ((((onc ((a.take ((min (a.length : Int) 60).toNat)).drop 0) ((b.take ((min (b.length : Int) 60).toNat)).drop 0)).length : Int) - i).toNat) ∧ Weak (lit [(0, (.slice (if c_a = 0 then A_a else A_a.map (·.add (0 * 1))) ((min (a.length : Int) 60).toNat - 0) (c_a - 0))), (1, (.slice (if c_b = 0 then A_b else A_b.map (·.add (0 * 1))) ((min (b.length : Int) 60).toNat - 0) (c_b - 0))), (5, (.slice A1 ((onc ((a.take ((min (a.length : Int) 60).toNat)).drop 0) ((b.take ((min (b.length : Int) 60).toNat)).drop 0)).length) c1)), (6, (.slice A2 ((onc ((b.take ((min (b.length : Int) 60).toNat)).drop 0) ((a.take ((min (a.length : Int) 60).toNat)).drop 0)).length) c2)), (7, (.int .i64 i))]) f_) _ ⟨0, by omega, by omega, hS5, rfl, Weak.cons rfl <| Weak.cons rfl <| Weak.cons rfl <| Weak.cons rfl <| Weak.cons rfl <| Weak.nil _⟩ ?_
    rintro m1 f2 w3 ⟨i, ilo, ihi, hL1, rfl, hw1⟩
    refine WC.weak hw1 ?_
    clear hw1
    iterate 2 refine WC.seq ?_
    refine WC.region ?_
    iterate 2 refine WL.lv rfl (LV.mv rfl) ?_
    refine WL.lv rfl (LV.lenL Try.underlying36 rfl) ?_
    refine WL.lv rfl (LV.ltI rfl rfl) ?_
    refine WL.nil (thenQ.n ?_)
    refine WC.condP (p := i < ((onc ((a.take ((min (a.length : Int) 60).toNat)).drop 0) ((b.take ((min (b.length : Int) 60).toNat)).drop 0)).length : Int)) rfl (fun hk => ?_) (fun hk => ?_)
    · have ho_ := onc_at (a := ((a.take (min (a.length : Int) 60).toNat).drop 0)) (b := ((b.take (min (b.length : Int) 60).toNat).drop 0)) ilo hk
      have ho1_ := ho_.1
      have ho2_ := ho_.2.1
      have ho3_ := ho_.2.2.1
      have ho4_ := ho_.2.2.2.1
      have ho5_ := ho_.2.2.2.2
      have hsa_ : ((a.take (min (a.length : Int) 60).toNat).drop 0).length = (min (a.length : Int) 60).toNat - 0 := by simp only [List.length_drop, List.length_take]; omega
      have hsb_ : ((b.take (min (b.length : Int) 60).toNat).drop 0).length = (min (b.length : Int) 60).toNat - 0 := by simp only [List.length_drop, List.length_take]; omega
      refine WC.skip (thenQ.n ?_)
      refine WC.seq ?_
      refine WC.block ?_
      iterate 2 refine WC.seq ?_
      have hS6 := SH.drew hL1
      refine WC.regionD [] (fun w_ => KB No w3.drew w_) [(.pure, 0), (.pure, 1), (.pure, 2), (.pure, 3), (.look, 4), (.pure, 5), (.pure, 6), (.pure, 7), (.pure, 8), (.pure, 9), (.pure, 10), (.look, 11), (.pure, 12), (.pure, 13), (.pure, 14), (.pure, 15), (.pure, 16), (.pure, 17), (.pure, 18), (.pure, 19), (.pure, 20), (.look, 21), (.pure, 22), (.pure, 23), (.pure, 24), (.pure, 25), (.pure, 26), (.pure, 27), (.pure, 28), (.look, 29), (.pure, 30), (.pure, 31), (.pure, 32), (.pure, 33), (.pure, 34), (.pure, 35), (.pure, 36), (.pure, 37), (.pure, 38), (.pure, 39), (.look, 40), (.pure, 41), (.look, 42), (.pure, 43), (.pure, 44), (.pure, 45), (.pure, 46), (.pure, 47), (.look, 48), (.pure, 49), (.look, 50), (.pure, 51), (.pure, 52)] (by kernel_rfl) (by kernel_rfl) (KB.refl _ _) ?_
      iterate 2 refine WS.pure rfl rfl (fun _ => LV.mv rfl) ?_
      obtain ⟨A3, c3, e1, g1⟩ := St.elt (SH.rd hS6 (.tail _ (.head _))) (0, 0) i (by omega) (by omega)
      refine WS.pure rfl rfl (fun _ => LV.idxA Try.underlying36 ti38.sz rfl e1 rfl (by omega) (by omega)) ?_
      refine WS.pure rfl rfl (fun _ => LV.idxArr Try.underlying38 ti3.sz rfl rfl (by decide) (by decide)) ?_
      refine WS.look rfl rfl (fun _ hk_ => LV.load1 (v := (.int .i64 (((onc ((a.take ((min (a.length : Int) 60).toNat)).drop 0) ((b.take ((min (b.length : Int) 60).toNat)).drop 0)).getD (i).toNat (0, 0)).1))) Try.underlying3 rfl rfl (g1 _ hk_ 0 _ rfl)) ?_
      refine WS.pure rfl rfl (fun _ => LV.as (LV.ltI rfl rfl) (decide_eq_false (by omega))) ?_
      iterate 3 refine WS.pure rfl rfl (fun _ => LV.mv rfl) ?_
      obtain ⟨A4, c4, e2, g2⟩ := St.elt (SH.rd hS6 (.tail _ (.head _))) (0, 0) i (by omega) (by omega)
      refine WS.pure rfl rfl (fun _ => LV.idxA Try.underlying36 ti38.sz rfl e2 rfl (by omega) (by omega)) ?_
      refine WS.pure rfl rfl (fun _ => LV.idxArr Try.underlying38 ti3.sz rfl rfl (by decide) (by decide)) ?_
      refine WS.look rfl rfl (fun _ hk_ => LV.load1 (v := (.int .i64 (((onc ((a.take ((min (a.length : Int) 60).toNat)).drop 0) ((b.take ((min (b.length : Int) 60).toNat)).drop 0)).getD (i).toNat (0, 0)).1))) Try.underlying3 rfl rfl (g2 _ hk_ 0 _ rfl)) ?_
      refine WS.pure rfl rfl (fun _ => LV.mv rfl) ?_
      refine WS.pure rfl rfl (fun _ => LV.lenL Try.underlying28 rfl) ?_
      refine WS.pure rfl rfl (fun _ => LV.as (LV.geI rfl rfl) (decide_eq_false (by omega))) ?_
      refine WS.pure rfl rfl (fun _ => LV.pickF rfl rfl) ?_
      iterate 3 refine WS.pure rfl rfl (fun _ => LV.mv rfl) ?_
      obtain ⟨A5, c5, e3, g3⟩ := St.elt (SH.rd hS6 (.tail _ (.head _))) (0, 0) i (by omega) (by omega)
      refine WS.pure rfl rfl (fun _ => LV.idxA Try.underlying36 ti38.sz rfl e3 rfl (by omega) (by omega)) ?_
      refine WS.pure rfl rfl (fun _ => LV.idxArr Try.underlying38 ti3.sz rfl rfl (by decide) (by decide)) ?_
      refine WS.look rfl rfl (fun _ hk_ => LV.load1 (v := (.int .i64 (((onc ((a.take ((min (a.length : Int) 60).toNat)).drop 0) ((b.take ((min (b.length : Int) 60).toNat)).drop 0)).getD (i).toNat (0, 0)).2))) Try.underlying3 rfl rfl (g3 _ hk_ 1 _ rfl)) ?_
      refine WS.pure rfl rfl (fun _ => LV.as (LV.ltI rfl rfl) (decide_eq_false (by omega))) ?_
      refine WS.pure rfl rfl (fun _ => LV.pickF rfl rfl) ?_
      iterate 3 refine WS.pure rfl rfl (fun _ => LV.mv rfl) ?_
      obtain ⟨A6, c6, e4, g4⟩ := St.elt (SH.rd hS6 (.tail _ (.head _))) (0, 0) i (by omega) (by omega)
      refine WS.pure rfl rfl (fun _ => LV.idxA Try.underlying36 ti38.sz rfl e4 rfl (by omega) (by omega)) ?_
      refine WS.pure rfl rfl (fun _ => LV.idxArr Try.underlying38 ti3.sz rfl rfl (by decide) (by decide)) ?_
      refine WS.look rfl rfl (fun _ hk_ => LV.load1 (v := (.int .i64 (((onc ((a.take ((min (a.length : Int) 60).toNat)).drop 0) ((b.take ((min (b.length : Int) 60).toNat)).drop 0)).getD (i).toNat (0, 0)).2))) Try.underlying3 rfl rfl (g4 _ hk_ 1 _ rfl)) ?_
      refine WS.pure rfl rfl (fun _ => LV.mv rfl) ?_
      refine WS.pure rfl rfl (fun _ => LV.lenL Try.underlying28 rfl) ?_
      refine WS.pure rfl rfl (fun _ => LV.as (LV.geI rfl rfl) (decide_eq_false (by omega))) ?_
      refine WS.pure rfl rfl (fun _ => LV.pickF rfl rfl) ?_
      iterate 4 refine WS.pure rfl rfl (fun _ => LV.mv rfl) ?_
      obtain ⟨A7, c7, e5, g5⟩ := St.elt (SH.rd hS6 (.tail _ (.head _))) (0, 0) i (by omega) (by omega)
      refine WS.pure rfl rfl (fun _ => LV.idxA Try.underlying36 ti38.sz rfl e5 rfl (by omega) (by omega)) ?_
      refine WS.pure rfl rfl (fun _ => LV.idxArr Try.underlying38 ti3.sz rfl rfl (by decide) (by decide)) ?_
      refine WS.look rfl rfl (fun _ hk_ => LV.load1 (v := (.int .i64 (((onc ((a.take ((min (a.length : Int) 60).toNat)).drop 0) ((b.take ((min (b.length : Int) 60).toNat)).drop 0)).getD (i).toNat (0, 0)).1))) Try.underlying3 rfl rfl (g5 _ hk_ 0 _ rfl)) ?_
      obtain ⟨A8, c8, e6, g6⟩ := St.elt (show St No w3.drew (Rd eI (.slice (if c_a = 0 then A_a else A_a.map (·.add (0 * 1))) ((min (a.length : Int) 60).toNat - 0) (c_a - 0)) ((a.take ((min (a.length : Int) 60).toNat)).drop 0)) from ((SH.stN hS6 h_a).imp fun _ h => Rd.cut h (by omega) (by omega) (by omega) (by omega))) 0 (((onc ((a.take ((min (a.length : Int) 60).toNat)).drop 0) ((b.take ((min (b.length : Int) 60).toNat)).drop 0)).getD (i).toNat (0, 0)).1) (by omega) (by omega)
      refine WS.pure rfl rfl (fun _ => LV.idxA Try.underlying28 ti3.sz rfl e6 rfl (by omega) (by omega)) ?_
      refine WS.look rfl rfl (fun _ hk_ => LV.load1 (v := (.int .i64 (gI ((a.take ((min (a.length : Int) 60).toNat)).drop 0) (((onc ((a.take ((min (a.length : Int) 60).toNat)).drop 0) ((b.take ((min (b.length : Int) 60).toNat)).drop 0)).getD (i).toNat (0, 0)).1)))) Try.underlying3 rfl rfl (g6 _ hk_ 0 _ rfl)) ?_
      iterate 3 refine WS.pure rfl rfl (fun _ => LV.mv rfl) ?_
      obtain ⟨A9, c9, e7, g7⟩ := St.elt (SH.rd hS6 (.tail _ (.head _))) (0, 0) i (by omega) (by omega)
      refine WS.pure rfl rfl (fun _ => LV.idxA Try.underlying36 ti38.sz rfl e7 rfl (by omega) (by omega)) ?_
      refine WS.pure rfl rfl (fun _ => LV.idxArr Try.underlying38 ti3.sz rfl rfl (by decide) (by decide)) ?_
      refine WS.look rfl rfl (fun _ hk_ => LV.load1 (v := (.int .i64 (((onc ((a.take ((min (a.length : Int) 60).toNat)).drop 0) ((b.take ((min (b.length : Int) 60).toNat)).drop 0)).getD (i).toNat (0, 0)).2))) Try.underlying3 rfl rfl (g7 _ hk_ 1 _ rfl)) ?_
      obtain ⟨A10, c10, e8, g8⟩ := St.elt (show St No w3.drew (Rd eI (.slice (if c_b = 0 then A_b else A_b.map (·.add (0 * 1))) ((min (b.length : Int) 60).toNat - 0) (c_b - 0)) ((b.take ((min (b.length : Int) 60).toNat)).drop 0)) from ((SH.stN hS6 h_b).imp fun _ h => Rd.cut h (by omega) (by omega) (by omega) (by omega))) 0 (((onc ((a.take ((min (a.length : Int) 60).toNat)).drop 0) ((b.take ((min (b.length : Int) 60).toNat)).drop 0)).getD (i).toNat (0, 0)).2) (by omega) (by omega)
      refine WS.pure rfl rfl (fun _ => LV.idxA Try.underlying28 ti3.sz rfl e8 rfl (by omega) (by omega)) ?_
      refine WS.look rfl rfl (fun _ hk_ => LV.load1 (v := (.int .i64 (gI ((b.take ((min (b.length : Int) 60).toNat)).drop 0) (((onc ((a.take ((min (a.length : Int) 60).toNat)).drop 0) ((b.take ((min (b.length : Int) 60).toNat)).drop 0)).getD (i).toNat (0, 0)).2)))) Try.underlying3 rfl rfl (g8 _ hk_ 0 _ rfl)) ?_
      refine WS.pure rfl rfl (fun _ => LV.as (LV.neI rfl rfl) (decide_eq_false (fun h_ => h_ ho5_))) ?_
      refine WS.pure rfl rfl (fun _ => LV.pickF rfl rfl) ?_
      refine WS.nil (thenQ.n ?_)
      refine WC.condF rfl ?_
      refine WC.skip (thenQ.n ?_)
      refine WC.seq ?_
      refine WC.region ?_
      refine WL.lv rfl (LV.asg rfl) ?_
      refine WL.nil (thenQ.n ?_)
      iterate 2 refine WC.seq ?_
      refine WC.region ?_
      refine WL.lv rfl (LV.asg rfl) ?_
      refine WL.nil (thenQ.n ?_)
      refine WC.block ?_
      refine WC.loop (fun m_ f_ w_ => ∃ (found : Bool) (k : Int), (0 ≤ k) ∧ (k ≤ ((onc ((b.take ((min (b.length : Int) 60).toNat)).drop 0) ((a.take ((min (a.length : Int) 60).toNat)).drop 0)).length : Int)) ∧ (found = true ∨ ∀ t : Int, 0 ≤ t → t < k → ¬ (((onc ((b.take (min (b.length : Int) 60).toNat).drop 0) ((a.take (min (a.length : Int) 60).toNat).drop 0)).getD t.toNat (0, 0)).1 = ((onc ((a.take (min (a.length : Int) 60).toNat).drop 0) ((b.take (min (b.length : Int) 60).toNat).drop 0)).getD i.toNat (0, 0)).2 ∧ ((onc ((b.take (min (b.length : Int) 60).toNat).drop 0) ((a.take (min (a.length : Int) 60).toNat).drop 0)).getD t.toNat (0, 0)).2 = ((onc ((a.take (min (a.length : Int) 60).toNat).drop 0) ((b.take (min (b.length : Int) 60).toNat).drop 0)).getD i.toNat (0, 0)).1)) ∧ SH w No w_ [rowE eP 38 (.slice A2 ((onc ((b.take ((min (b.length : Int) 60).toNat)).drop 0) ((a.take ((min (a.length : Int) 60).toNat)).drop 0)).length) c2) (onc ((b.take ((min (b.length : Int) 60).toNat)).drop 0) ((a.take ((min (a.length : Int) 60).toNat)).drop 0)), rowE eP 38 (.slice A1 ((onc ((a.take ((min (a.length : Int) 60).toNat)).drop 0) ((b.take ((min (b.length : Int) 60).toNat)).drop 0)).length) c1) (onc ((a.take ((min (a.length : Int) 60).toNat)).drop 0) ((b.take ((min (b.length : Int) 60).toNat)).drop 0))] ∧ m_ = ((((onc ((b.take ((min (b.length : Int) 60).toNat)).drop 0) ((a.take ((min (a.length : Int) 60).toNat)).drop 0)).length : Int) - k).toNat) ∧ Weak (lit [(0, (.slice (if c_a = 0 then A_a else A_a.map (·.add (0 * 1))) ((min (a.length : Int) 60).toNat - 0) (c_a - 0))), (1, (.slice (if c_b = 0 then A_b else A_b.map (·.add (0 * 1))) ((min (b.length : Int) 60).toNat - 0) (c_b - 0))), (5, (.slice A1 ((onc ((a.take ((min (a.length : Int) 60).toNat)).drop 0) ((b.take ((min (b.length : Int) 60).toNat)).drop 0)).length) c1)), (6, (.slice A2 ((onc ((b.take ((min (b.length : Int) 60).toNat)).drop 0) ((a.take ((min (a.length : Int) 60).toNat)).drop 0)).length) c2)), (7, (.int .i64 i)), (8, (.bool found)), (9, (.int .i64 k))]) f_) _ ⟨false, 0, by omega, by omega, (.inr (fun t h1 h2 => by omega)), hS6, rfl, Weak.cons rfl <| Weak.cons rfl <| Weak.cons rfl <| Weak.cons rfl <| Weak.cons rfl <| Weak.cons rfl <| Weak.cons rfl <| Weak.nil _⟩ ?_
      rintro m2 f3 w4 ⟨found, k, klo, khi, f1, hL2, rfl, hw2⟩
      refine WC.weak hw2 ?_
      clear hw2
      iterate 2 refine WC.seq ?_
      refine WC.region ?_
      iterate 2 refine WL.lv rfl (LV.mv rfl) ?_
      refine WL.lv rfl (LV.lenL Try.underlying36 rfl) ?_
      refine WL.lv rfl (LV.ltI rfl rfl) ?_
      refine WL.nil (thenQ.n ?_)
      refine WC.condP (p := k < ((onc ((b.take ((min (b.length : Int) 60).toNat)).drop 0) ((a.take ((min (a.length : Int) 60).toNat)).drop 0)).length : Int)) rfl (fun hk2 => ?_) (fun hk2 => ?_)
      · skip
        refine WC.skip (thenQ.n ?_)
        refine WC.seq ?_
        refine WC.block ?_
        have hS7 := SH.drew hL2
        refine WC.regionD [] (fun w_ => KB No w4.drew w_) [(.pure, 0), (.pure, 1), (.pure, 2), (.pure, 3), (.pure, 4), (.pure, 5), (.look, 6), (.pure, 7), (.pure, 8), (.pure, 9), (.pure, 10), (.look, 11), (.pure, 12), (.pure, 13), (.pure, 14), (.pure, 15), (.pure, 16), (.pure, 17), (.look, 18), (.pure, 19), (.pure, 20), (.pure, 21), (.pure, 22), (.look, 23), (.pure, 24), (.pure, 25), (.pure, 26), (.pure, 27)] (by kernel_rfl) (by kernel_rfl) (KB.refl _ _) ?_
        rcases Bool.eq_false_or_eq_true (found) with hgf | hgf
        · refine WS.pure rfl rfl (fun _ => LV.as (c := true) (LV.mv rfl) hgf) ?_
          refine WS.pure rfl rfl (fun _ => LV.mv rfl) ?_
          iterate 4 refine WS.off rfl rfl ?_
          refine WS.offL rfl rfl ?_
          iterate 4 refine WS.off rfl rfl ?_
          refine WS.offL rfl rfl ?_
          iterate 6 refine WS.off rfl rfl ?_
          refine WS.offL rfl rfl ?_
          iterate 4 refine WS.off rfl rfl ?_
          refine WS.offL rfl rfl ?_
          iterate 2 refine WS.off rfl rfl ?_
          refine WS.pure rfl rfl (fun _ => LV.pickT rfl rfl) ?_
          refine WS.pure rfl rfl (fun _ => LV.asg rfl) ?_
          refine WS.nil (blockQ.n <| thenQ.n ?_)
          refine WC.region ?_
          refine WL.lv rfl (LV.mv rfl) ?_
          refine WL.lv rfl (LV.add rfl rfl (wr64 (by omega) (by omega))) ?_
          refine WL.lv rfl (LV.asg rfl) ?_
          refine WL.nil (thenQ.n ?_)
          exact ⟨_, by omega, true, k + 1, by omega, by omega, (.inl rfl), hS7, rfl, Weak.cons rfl <| Weak.cons rfl <| Weak.cons rfl <| Weak.cons rfl <| Weak.cons rfl <| Weak.cons rfl <| Weak.cons rfl <| Weak.nil _⟩
        · refine WS.pure rfl rfl (fun _ => LV.as (c := false) (LV.mv rfl) hgf) ?_
          iterate 3 refine WS.pure rfl rfl (fun _ => LV.mv rfl) ?_
          obtain ⟨A11, c11, e9, g9⟩ := St.elt (SH.rd hS7 (.head _)) (0, 0) k (by omega) (by omega)
          refine WS.pure rfl rfl (fun _ => LV.idxA Try.underlying36 ti38.sz rfl e9 rfl (by omega) (by omega)) ?_
          refine WS.pure rfl rfl (fun _ => LV.idxArr Try.underlying38 ti3.sz rfl rfl (by decide) (by decide)) ?_
          refine WS.look rfl rfl (fun _ hk_ => LV.load1 (v := (.int .i64 (((onc ((b.take ((min (b.length : Int) 60).toNat)).drop 0) ((a.take ((min (a.length : Int) 60).toNat)).drop 0)).getD (k).toNat (0, 0)).1))) Try.underlying3 rfl rfl (g9 _ hk_ 0 _ rfl)) ?_
          iterate 2 refine WS.pure rfl rfl (fun _ => LV.mv rfl) ?_
          obtain ⟨A12, c12, e10, g10⟩ := St.elt (SH.rd hS7 (.tail _ (.head _))) (0, 0) i (by omega) (by omega)
          refine WS.pure rfl rfl (fun _ => LV.idxA Try.underlying36 ti38.sz rfl e10 rfl (by omega) (by omega)) ?_
          refine WS.pure rfl rfl (fun _ => LV.idxArr Try.underlying38 ti3.sz rfl rfl (by decide) (by decide)) ?_
          refine WS.look rfl rfl (fun _ hk_ => LV.load1 (v := (.int .i64 (((onc ((a.take ((min (a.length : Int) 60).toNat)).drop 0) ((b.take ((min (b.length : Int) 60).toNat)).drop 0)).getD (i).toNat (0, 0)).2))) Try.underlying3 rfl rfl (g10 _ hk_ 1 _ rfl)) ?_
          rcases Decidable.em ((((onc ((b.take ((min (b.length : Int) 60).toNat)).drop 0) ((a.take ((min (a.length : Int) 60).toNat)).drop 0)).getD (k).toNat (0, 0)).1) = (((onc ((a.take ((min (a.length : Int) 60).toNat)).drop 0) ((b.take ((min (b.length : Int) 60).toNat)).drop 0)).getD (i).toNat (0, 0)).2)) with hg12 | hg12
          · refine WS.pure rfl rfl (fun _ => LV.as (LV.eqI rfl rfl) (decide_eq_true hg12)) ?_
            iterate 3 refine WS.pure rfl rfl (fun _ => LV.mv rfl) ?_
            obtain ⟨A13, c13, e11, g11⟩ := St.elt (SH.rd hS7 (.head _)) (0, 0) k (by omega) (by omega)
            refine WS.pure rfl rfl (fun _ => LV.idxA Try.underlying36 ti38.sz rfl e11 rfl (by omega) (by omega)) ?_
            refine WS.pure rfl rfl (fun _ => LV.idxArr Try.underlying38 ti3.sz rfl rfl (by decide) (by decide)) ?_
            refine WS.look rfl rfl (fun _ hk_ => LV.load1 (v := (.int .i64 (((onc ((b.take ((min (b.length : Int) 60).toNat)).drop 0) ((a.take ((min (a.length : Int) 60).toNat)).drop 0)).getD (k).toNat (0, 0)).2))) Try.underlying3 rfl rfl (g11 _ hk_ 1 _ rfl)) ?_
            iterate 2 refine WS.pure rfl rfl (fun _ => LV.mv rfl) ?_
            obtain ⟨A14, c14, e12, g12⟩ := St.elt (SH.rd hS7 (.tail _ (.head _))) (0, 0) i (by omega) (by omega)
            refine WS.pure rfl rfl (fun _ => LV.idxA Try.underlying36 ti38.sz rfl e12 rfl (by omega) (by omega)) ?_
            refine WS.pure rfl rfl (fun _ => LV.idxArr Try.underlying38 ti3.sz rfl rfl (by decide) (by decide)) ?_
            refine WS.look rfl rfl (fun _ hk_ => LV.load1 (v := (.int .i64 (((onc ((a.take ((min (a.length : Int) 60).toNat)).drop 0) ((b.take ((min (b.length : Int) 60).toNat)).drop 0)).getD (i).toNat (0, 0)).1))) Try.underlying3 rfl rfl (g12 _ hk_ 0 _ rfl)) ?_
            refine WS.pure rfl rfl (fun _ => LV.eqI rfl rfl) ?_
            refine WS.pure rfl rfl (fun _ => LV.pickT rfl rfl) ?_
            refine WS.pure rfl rfl (fun _ => LV.pickF rfl rfl) ?_
            refine WS.pure rfl rfl (fun _ => LV.asg rfl) ?_
            refine WS.nil (blockQ.n <| thenQ.n ?_)
            refine WC.region ?_
            refine WL.lv rfl (LV.mv rfl) ?_
            refine WL.lv rfl (LV.add rfl rfl (wr64 (by omega) (by omega))) ?_
            refine WL.lv rfl (LV.asg rfl) ?_
            refine WL.nil (thenQ.n ?_)
            exact ⟨_, by omega, decide ((((onc ((b.take ((min (b.length : Int) 60).toNat)).drop 0) ((a.take ((min (a.length : Int) 60).toNat)).drop 0)).getD (k).toNat (0, 0)).2) = (((onc ((a.take ((min (a.length : Int) 60).toNat)).drop 0) ((b.take ((min (b.length : Int) 60).toNat)).drop 0)).getD (i).toNat (0, 0)).1)), k + 1, by omega, by omega, ((Decidable.em ((((onc ((b.take ((min (b.length : Int) 60).toNat)).drop 0) ((a.take ((min (a.length : Int) 60).toNat)).drop 0)).getD (k).toNat (0, 0)).2) = (((onc ((a.take ((min (a.length : Int) 60).toNat)).drop 0) ((b.take ((min (b.length : Int) 60).toNat)).drop 0)).getD (i).toNat (0, 0)).1))).elim (fun h_ => .inl (decide_eq_true h_)) (fun h_ => .inr (all_step (p := fun t => ¬ (((onc ((b.take (min (b.length : Int) 60).toNat).drop 0) ((a.take (min (a.length : Int) 60).toNat).drop 0)).getD t.toNat (0, 0)).1 = ((onc ((a.take (min (a.length : Int) 60).toNat).drop 0) ((b.take (min (b.length : Int) 60).toNat).drop 0)).getD i.toNat (0, 0)).2 ∧ ((onc ((b.take (min (b.length : Int) 60).toNat).drop 0) ((a.take (min (a.length : Int) 60).toNat).drop 0)).getD t.toNat (0, 0)).2 = ((onc ((a.take (min (a.length : Int) 60).toNat).drop 0) ((b.take (min (b.length : Int) 60).toNat).drop 0)).getD i.toNat (0, 0)).1)) (f1.resolve_left (by rw [hgf]; decide)) (fun q_ => h_ q_.2)))), hS7, rfl, Weak.cons rfl <| Weak.cons rfl <| Weak.cons rfl <| Weak.cons rfl <| Weak.cons rfl <| Weak.cons rfl <| Weak.cons rfl <| Weak.nil _⟩
          · refine WS.pure rfl rfl (fun _ => LV.as (LV.eqI rfl rfl) (decide_eq_false hg12)) ?_
            refine WS.pure rfl rfl (fun _ => LV.mv rfl) ?_
            iterate 4 refine WS.off rfl rfl ?_
            refine WS.offL rfl rfl ?_
            iterate 4 refine WS.off rfl rfl ?_
            refine WS.offL rfl rfl ?_
            refine WS.off rfl rfl ?_
            iterate 2 refine WS.pure rfl rfl (fun _ => LV.pickF rfl rfl) ?_
            refine WS.pure rfl rfl (fun _ => LV.asg rfl) ?_
            refine WS.nil (blockQ.n <| thenQ.n ?_)
            refine WC.region ?_
            refine WL.lv rfl (LV.mv rfl) ?_
            refine WL.lv rfl (LV.add rfl rfl (wr64 (by omega) (by omega))) ?_
            refine WL.lv rfl (LV.asg rfl) ?_
            refine WL.nil (thenQ.n ?_)
            exact ⟨_, by omega, false, k + 1, by omega, by omega, (.inr (all_step (p := fun t => ¬ (((onc ((b.take (min (b.length : Int) 60).toNat).drop 0) ((a.take (min (a.length : Int) 60).toNat).drop 0)).getD t.toNat (0, 0)).1 = ((onc ((a.take (min (a.length : Int) 60).toNat).drop 0) ((b.take (min (b.length : Int) 60).toNat).drop 0)).getD i.toNat (0, 0)).2 ∧ ((onc ((b.take (min (b.length : Int) 60).toNat).drop 0) ((a.take (min (a.length : Int) 60).toNat).drop 0)).getD t.toNat (0, 0)).2 = ((onc ((a.take (min (a.length : Int) 60).toNat).drop 0) ((b.take (min (b.length : Int) 60).toNat).drop 0)).getD i.toNat (0, 0)).1)) (f1.resolve_left (by rw [hgf]; decide)) (fun h_ => hg12 h_.1))), hS7, rfl, Weak.cons rfl <| Weak.cons rfl <| Weak.cons rfl <| Weak.cons rfl <| Weak.cons rfl <| Weak.cons rfl <| Weak.cons rfl <| Weak.nil _⟩
      · skip
        refine WC.exit (thenQ.x <| thenQ.x <| blockQ.hit <| thenQ.n ?_)
        refine WC.seq ?_
        refine WC.region ?_
        refine WL.lv rfl (LV.mv rfl) ?_
        refine WL.lv rfl (LV.notB rfl) ?_
        refine WL.nil (thenQ.n ?_)
        refine WC.cond (b := !found) rfl (fun hc2 => ?_) (fun hc2 => ?_)
        · exfalso; rcases f1 with h_ | h_; (rw [h_] at hc2; cases hc2); exact onc_found ilo hk (fun t h1_ h2_ => h_ t h1_ (by omega))
        · skip
          refine WC.skip (blockQ.n <| thenQ.n ?_)
          refine WC.region ?_
          refine WL.lv rfl (LV.mv rfl) ?_
          refine WL.lv rfl (LV.add rfl rfl (wr64 (by omega) (by omega))) ?_
          refine WL.lv rfl (LV.asg rfl) ?_
          refine WL.nil (thenQ.n ?_)
          exact ⟨_, by omega, i + 1, by omega, by omega, hL2, rfl, Weak.cons rfl <| Weak.cons rfl <| Weak.cons rfl <| Weak.cons rfl <| Weak.cons rfl <| Weak.nil _⟩
    · skip
      refine WC.exit (thenQ.x <| thenQ.x <| blockQ.hit <| thenQ.n ?_)
      refine WC.seq ?_
      refine WC.region ?_
      refine WL.call rfl (XC.fn Try.func12 (by kernel_rfl) rfl rfl rfl) (live06_calls  ) ?_
      rintro v_ w5 ⟨rfl, hk1⟩
      have hS8 := SH.same hL1 hk1
      refine WL.lv rfl (LV.asg rfl) ?_
      refine WL.nil (thenQ.n ?_)
      refine WC.ret (?_)
      exact ⟨_, fun a ha => res1 rfl ha rfl, rfl, hS8.kb⟩

end Go.Proofs.Ytpgpiljnmhpnhaa
