/- The law of shares. -/
import Derived.Test.YtmmdplcnhndcgaaHtE
import Derived.Test.YtmmdplcnhndcgaaGvV
namespace Go.Proofs.Ytmmdplcnhndcgaa
open Go Go.Gv Go.RowKit Go.Flt Go.Dec Go.Ht
set_option linter.unusedVariables false
set_option linter.unusedSimpArgs false

theorem few32_calls {w : World} {A0 : Option Addr} {a : List Nat} {c0 : Nat} (ha : St No w (Rd eF (.slice A0 a.length c0) a)) :
    Calls Try.prog 11 #[(.slice A0 a.length c0)] w fun e w' => ∃ v, e = .returned v ∧ (fun v w' => v = .slice (cutA A0 c0 1) (a.take 60).length c0 ∧ KB No w w') v w' := by
  have hS : SH w No w [] := SH.nil _ _
  refine calls (l := litOf [(.slice A0 a.length c0)] 0) Try.func11 rfl (n := 8) rfl (Nat.le_of_ble_eq_true rfl) (lit_args _) ?_
  refine WC.seq ?_
  refine WC.region ?_
  refine WL.lv rfl (LV.asg rfl) ?_
  refine WL.nil (thenQ.n ?_)
  refine WC.seq ?_
  refine WC.region ?_
  iterate 2 refine WL.lv rfl (LV.mv rfl) ?_
  refine WL.lv rfl (LV.lenL Try.underlying23 rfl) ?_
  refine WL.lv rfl (LV.minI rfl rfl) ?_
  have hcap1 : a.length ≤ c0 := (Rd.cap (St.now (SH.stN hS ha)))
  refine WL.lv rfl (LV.cut Try.underlying23 ti28.sz rfl rfl rfl rfl ⟨.inl ⟨rfl, rfl⟩, .inr ⟨.i64, by rw [Int.toNat_of_nonneg (a := min (a.length : Int) 60) (by omega)] <;> rfl⟩, .inl ⟨rfl, rfl⟩⟩ (by omega) (by omega) (by omega)) ?_
  refine WL.lv rfl (LV.asg rfl) ?_
  refine WL.nil (thenQ.n ?_)
  refine WC.ret (?_)
  exact ⟨_, fun a ha => res1 rfl ha rfl, congrArg (fun n => Value.slice (cutA A0 c0 1) n c0) (by rw [List.length_take]; omega), hS.kb⟩

set_option maxHeartbeats 2000000 in
set_option maxRecDepth 100000 in
theorem live32_calls {w : World}  :
    Calls Try.prog 10 #[] w fun e w' => ∃ v, e = .returned v ∧ (fun v w' => v = .bool (decide (true)) ∧ KB No w w') v w' := by
  have hS : SH w No w [] := SH.nil _ _
  refine calls (l := litOf [] 0) Try.func10 rfl (n := 39) rfl (Nat.le_of_ble_eq_true rfl) (lit_args _) ?_
  refine WC.seq ?_
  refine WC.region ?_
  refine WL.lv rfl (LV.asg rfl) ?_
  refine WL.nil (thenQ.n ?_)
  refine WC.seq ?_
  refine WC.region ?_
  refine WL.xe rfl (XE.buildSlice (E := eI) [(0, (.int .i64 0)), (1, (.int .i64 1)), (2, (.int .i64 5))] #[(.int .i64 0), (.int .i64 1), (.int .i64 5)] [0, 1, 5] hS Try.underlying22 ti3 rfl (by decide) (by kernel_rfl) (.inr rfl) rfl rfl (by decide)) ?_
  rintro _ w1 ⟨b1, rfl, hS1, hk1⟩
  refine WL.call rfl (XC.fn Try.func7 (by kernel_rfl) rfl rfl rfl) (of_calls (half := (2 : Int)) (SH.rd hS1 (.head _)) rfl (fun x hx => by simp at hx; omega) (by first | omega | simp)) ?_
  rintro v_ w2 ⟨A1, c1, ys1, e1, rfl, hf1, hS2⟩
  have hS3 := SH.joinN hS1 hS2
  have hof_ := live_of hf1
  have hyl_ : ys1.length = 3 := by rw [hof_.1]; rfl
  have hyw_ : ∀ x ∈ ys1, x < 18446744073709551616 := by rw [hof_.1]; decide
  refine WL.lv rfl (LV.mv rfl) ?_
  iterate 2 refine WL.lv rfl (LV.extract rfl rfl) ?_
  iterate 2 refine WL.lv rfl (LV.asg rfl) ?_
  refine WL.nil (thenQ.n ?_)
  refine WC.seq ?_
  refine WC.region ?_
  refine WL.lv rfl (LV.mv rfl) ?_
  refine WL.lv rfl (LV.as (LV.eqI rfl rfl) (decide_eq_true (hof_.2))) ?_
  iterate 2 refine WL.lv rfl (LV.mv rfl) ?_
  refine WL.lv rfl (LV.lenL Try.underlying23 rfl) ?_
  refine WL.lv rfl (LV.as (LV.eqI rfl rfl) (decide_eq_true (by omega))) ?_
  refine WL.lv rfl (LV.pickT rfl rfl) ?_
  iterate 2 refine WL.lv rfl (LV.mv rfl) ?_
  obtain ⟨A2, c2, e2, g1⟩ := St.elt (SH.rd hS3 (.head _)) 0 (1 : Int) (by omega) (by omega)
  refine WL.lv rfl (LV.idxA Try.underlying23 ti28.sz rfl e2 rfl (by omega) (by omega)) ?_
  refine WL.lv rfl (LV.load1 (v := (.float .f64 (ys1.getD ((1 : Int)).toNat 0))) Try.underlying28 rfl rfl (g1 _ (KB.refl No _) 0 _ rfl)) ?_
  have hsk_4607182418800017408 : sk 4607182418800017408 = (4607182418800017408 : Int) := by decide +kernel
  refine WL.lv rfl (LV.as (LV.eqF (a := (ys1.getD ((1 : Int)).toNat 0)) (b := 4607182418800017408) rfl rfl) (decide_eq_true (by rw [hof_.1]; decide +kernel))) ?_
  refine WL.lv rfl (LV.pickT rfl rfl) ?_
  iterate 2 refine WL.lv rfl (LV.mv rfl) ?_
  obtain ⟨A3, c3, e3, g2⟩ := St.elt (SH.rd hS3 (.head _)) 0 (2 : Int) (by omega) (by omega)
  refine WL.lv rfl (LV.idxA Try.underlying23 ti28.sz rfl e3 rfl (by omega) (by omega)) ?_
  refine WL.lv rfl (LV.load1 (v := (.float .f64 (ys1.getD ((2 : Int)).toNat 0))) Try.underlying28 rfl rfl (g2 _ (KB.refl No _) 0 _ rfl)) ?_
  have hsk_4598175219545276416 : sk 4598175219545276416 = (4598175219545276416 : Int) := by decide +kernel
  refine WL.lv rfl (LV.as (LV.eqF (a := (ys1.getD ((2 : Int)).toNat 0)) (b := 4598175219545276416) rfl rfl) (decide_eq_true (by rw [hof_.1]; decide +kernel))) ?_
  refine WL.lv rfl (LV.pickT rfl rfl) ?_
  iterate 2 refine WL.lv rfl (LV.mv rfl) ?_
  refine WL.call rfl (XC.fn Try.func12 (by kernel_rfl) rfl rfl rfl) (top_calls (n := (2 : Int)) (SH.rd hS3 (.head _)) rfl (hyw_) (by first | omega | (simp; done))) ?_
  rintro v_ w3 ⟨A4, c4, out1, rfl, hf2, hS4⟩
  have hS5 := SH.joinN hS3 hS4
  have htop_ := hf2
  rw [hof_.1] at htop_
  have hto2_ := live_top htop_
  refine WL.xe rfl (XE.buildSlice (E := eI) [(0, (.int .i64 0)), (1, (.int .i64 1))] #[(.int .i64 0), (.int .i64 1)] [0, 1] hS5 Try.underlying22 ti3 rfl (by decide) (by kernel_rfl) (.inr rfl) rfl rfl (by decide)) ?_
  rintro _ w4 ⟨b2, rfl, hS6, hk2⟩
  refine WL.call rfl (XC.fn Try.func13 (by kernel_rfl) rfl rfl rfl) (Calls.asB (ints_calls  (SH.rd hS6 (.tail _ (.head _))) rfl (SH.rd hS6 (.head _)) rfl ) (decide_eq_true (hto2_))) ?_
  rintro v_ w5 ⟨rfl, hk3⟩
  have hS7 := SH.same hS6 hk3
  refine WL.lv rfl (LV.pickT rfl rfl) ?_
  iterate 2 refine WL.lv rfl (LV.mv rfl) ?_
  refine WL.call rfl (XC.fn Try.func20 (by kernel_rfl) rfl rfl rfl) (hprint_calls  (SH.rd hS7 (.tail _ (.tail _ (.head _)))) rfl (hyw_) (by omega)) ?_
  rintro v_ w6 ⟨A5, c5, rfl, hS8⟩
  have hS9 := SH.joinN hS7 hS8
  refine WL.lv rfl (LV.strOf Try.underlying38 Try.underlying5 Try.underlying9 rfl ((SH.rd hS9 (.head _)) _ (KB.refl No _))) ?_
  refine WL.lv rfl (LV.as (c := true) (LV.eqS rfl rfl) (by rw [str_bytes, hof_.1, live_prh]; exact beq_self_eq_true _)) ?_
  refine WL.lv rfl (LV.pickT rfl rfl) ?_
  refine WL.lv rfl (LV.asg rfl) ?_
  refine WL.nil (thenQ.n ?_)
  refine WC.ret (?_)
  exact ⟨_, fun a ha => res1 rfl ha rfl, rfl, hS9.kb⟩

set_option maxHeartbeats 2000000 in
set_option maxRecDepth 100000 in
theorem heatShares_law {w : World} {A_l : Option Addr} {n_l c_l : Nat} {l : List Nat} (h_l : St No w (Rd eF (.slice A_l n_l c_l) l)) (hn_l : l.length = n_l) (wl : ∀ x ∈ l, x < 18446744073709551616) :
    Calls Try.prog 6 #[(.slice A_l n_l c_l)] w fun e w' => ∃ v, e = .returned v ∧ (fun v w' => v = .bool (decide (true)) ∧ KB No w w') v w' := by
  subst hn_l
  have hl_ : (l.take 60).length ≤ 60 := by rw [List.length_take]; omega
  have wl_ : ∀ x ∈ l.take 60, x < 18446744073709551616 := fun x hx => wl x (List.mem_of_mem_take hx)
  have hS : SH w No w [] := SH.nil _ _
  refine calls (l := litOf [(.slice A_l l.length c_l)] 0) Try.func6 rfl (n := 22) rfl (Nat.le_of_ble_eq_true rfl) (lit_args _) ?_
  refine WC.seq ?_
  refine WC.region ?_
  refine WL.lv rfl (LV.asg rfl) ?_
  refine WL.nil (thenQ.n ?_)
  refine WC.seq ?_
  refine WC.region ?_
  refine WL.lv rfl (LV.mv rfl) ?_
  refine WL.call rfl (XC.fn Try.func11 (by kernel_rfl) rfl rfl rfl) (few32_calls (SH.stN hS h_l)) ?_
  rintro v_ w1 ⟨rfl, hk1⟩
  have hS1 := SH.same hS hk1
  refine WL.lv rfl (LV.asg rfl) ?_
  refine WL.nil (thenQ.n ?_)
  refine WC.seq ?_
  have hS2 := SH.drew hS1
  refine WC.regionD [] (fun _ => True) [(.forced, 0), (.pure, 1), (.pure, 2), (.pure, 4), (.forced, 3), (.forced, 5), (.forced, 6), (.pure, 7), (.pure, 8), (.pure, 9), (.pure, 12), (.forced, 10), (.fork, 0), (.fork, 0), (.fork, 0), (.fork, 0), (.fork, 0), (.fork, 0)] (by kernel_rfl) (by kernel_rfl) trivial ?_
  refine WS.call rfl rfl (XC.fn Try.func10 (by kernel_rfl) rfl rfl rfl) (live32_calls  ) ?_
  rintro v_ w2 ⟨rfl, hk2⟩
  have hS3 := SH.same hS2 hk2
  refine ⟨fun h_ => trivial, ?_⟩
  iterate 3 refine WS.pure rfl rfl (fun _ => LV.mv rfl) ?_
  refine WS.call rfl rfl (XC.fn Try.func18 (by kernel_rfl) rfl rfl rfl) (share_calls  (SH.stN hS3 (few_rd 60 h_l)) rfl (wl_) (by first | omega | simp)) ?_
  rintro v_ w3 ⟨A1, c1, ys1, rfl, hf1, hS4⟩
  have hS5 := SH.joinN hS3 hS4
  have hs1_ := hf1
  refine ⟨fun h_ => trivial, ?_⟩
  refine WS.call rfl rfl (XC.fn Try.func19 (by kernel_rfl) rfl rfl rfl) (rshare_calls  (SH.stN hS5 (few_rd 60 h_l)) rfl (wl_) (by first | omega | simp)) ?_
  rintro v_ w4 ⟨A2, c2, ys2, rfl, hf2, hS6⟩
  have hS7 := SH.joinN hS5 hS6
  have hs2_ := hf2
  refine ⟨fun h_ => trivial, ?_⟩
  refine WS.call rfl rfl (XC.fn Try.func9 (by kernel_rfl) rfl rfl rfl) (Calls.asB (slist_calls  (SH.rd hS7 (.tail _ (.head _))) rfl (SH.rd hS7 (.head _)) rfl (hs1_.w6 (fun t y _ _ h => h.1)) (hs2_.w6 (fun t y _ _ h => h.1))) (decide_eq_true (hs1_.tk hs2_ (fun t y z _ _ h h2 => sh_same h h2)))) ?_
  rintro v_ w5 ⟨rfl, hk3⟩
  have hS8 := SH.same hS7 hk3
  refine ⟨fun h_ => trivial, ?_⟩
  refine WS.pure rfl rfl (fun _ => LV.pickT rfl rfl) ?_
  iterate 3 refine WS.pure rfl rfl (fun _ => LV.mv rfl) ?_
  refine WS.call rfl rfl (XC.fn Try.func20 (by kernel_rfl) rfl rfl rfl) (hprint_calls  (SH.stN hS8 (few_rd 60 h_l)) rfl (wl_) (by omega)) ?_
  rintro v_ w6 ⟨A3, c3, rfl, hS9⟩
  have hS10 := SH.joinN hS8 hS9
  refine ⟨fun h_ => trivial, ?_⟩
  refine WS.fork (WSX.two 11 13 (by kernel_rfl) ?_ ?_)
  · refine WO.lvT rfl rfl (LV.strOf Try.underlying38 Try.underlying5 Try.underlying9 rfl ((SH.rd hS10 (.head _)) _ (KB.refl No _))) ?_
    refine WSX.of [(.forced, 13), (.forced, 14), (.pure, 15), (.pure, 16), (.pure, 17)] (by kernel_rfl) rfl ?_
    refine WS.call rfl rfl (XC.fn Try.func21 (by kernel_rfl) rfl rfl rfl) (rhprint_calls (SH.stN hS10 (few_rd 60 h_l)) rfl (wl_) (by first | omega | (simp only [List.length_drop, List.length_take]; omega))) ?_
    rintro v_ w7 ⟨A4, c4, rfl, hr1, hk4⟩
    have hS11 := SH.same hS10 hk4
    refine ⟨fun h_ => trivial, ?_⟩
    refine WS.lvT rfl rfl (LV.strOf Try.underlying38 Try.underlying5 Try.underlying9 rfl ((Rd.stN hr1) _ (KB.refl No _))) ?_
    refine WS.pure rfl rfl (fun _ => LV.as (c := true) (LV.eqS rfl rfl) (beq_self_eq_true _)) ?_
    refine WS.pure rfl rfl (fun _ => LV.pickT rfl rfl) ?_
    refine WS.pure rfl rfl (fun _ => LV.asg rfl) ?_
    refine WS.nil (thenQ.n ?_)
    refine WC.ret (?_)
    exact ⟨_, fun a ha => res1 rfl ha rfl, rfl, hS11.kb⟩
  · refine WO.call rfl rfl (XC.fn Try.func21 (by kernel_rfl) rfl rfl rfl) (rhprint_calls (SH.stN hS10 (few_rd 60 h_l)) rfl (wl_) (by first | omega | (simp only [List.length_drop, List.length_take]; omega))) ?_
    rintro v_ w8 ⟨A5, c5, rfl, hr2, hk5⟩
    have hS12 := SH.same hS10 hk5
    refine ⟨fun h_ => trivial, ?_⟩
    refine WSX.of [(.fork, 0), (.fork, 0), (.fork, 0), (.fork, 0), (.fork, 0)] (by kernel_rfl) rfl ?_
    refine WS.fork (WSX.two 11 14 (by kernel_rfl) ?_ ?_)
    · refine WO.lvT rfl rfl (LV.strOf Try.underlying38 Try.underlying5 Try.underlying9 rfl ((SH.rd hS12 (.head _)) _ (KB.refl No _))) ?_
      refine WSX.of [(.forced, 14), (.pure, 15), (.pure, 16), (.pure, 17)] (by kernel_rfl) rfl ?_
      refine WS.lvT rfl rfl (LV.strOf Try.underlying38 Try.underlying5 Try.underlying9 rfl ((Rd.stN hr2) _ (KB.refl No _))) ?_
      refine WS.pure rfl rfl (fun _ => LV.as (c := true) (LV.eqS rfl rfl) (beq_self_eq_true _)) ?_
      refine WS.pure rfl rfl (fun _ => LV.pickT rfl rfl) ?_
      refine WS.pure rfl rfl (fun _ => LV.asg rfl) ?_
      refine WS.nil (thenQ.n ?_)
      refine WC.ret (?_)
      exact ⟨_, fun a ha => res1 rfl ha rfl, rfl, hS12.kb⟩
    · refine WO.lvT rfl rfl (LV.strOf Try.underlying38 Try.underlying5 Try.underlying9 rfl ((Rd.stN hr2) _ (KB.refl No _))) ?_
      refine WSX.of [(.forced, 11), (.pure, 15), (.pure, 16), (.pure, 17)] (by kernel_rfl) rfl ?_
      refine WS.lvT rfl rfl (LV.strOf Try.underlying38 Try.underlying5 Try.underlying9 rfl ((SH.rd hS12 (.head _)) _ (KB.refl No _))) ?_
      refine WS.pure rfl rfl (fun _ => LV.as (c := true) (LV.eqS rfl rfl) (beq_self_eq_true _)) ?_
      refine WS.pure rfl rfl (fun _ => LV.pickT rfl rfl) ?_
      refine WS.pure rfl rfl (fun _ => LV.asg rfl) ?_
      refine WS.nil (thenQ.n ?_)
      refine WC.ret (?_)
      exact ⟨_, fun a ha => res1 rfl ha rfl, rfl, hS12.kb⟩

end Go.Proofs.Ytmmdplcnhndcgaa
