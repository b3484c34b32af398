/- Two laws of rank. -/
import Derived.Test.YthmjieikbeemhaaRkJ
namespace Go.Proofs.Ythmjieikbeemhaa
open Go Go.Gv Go.RowKit Go.Flt Go.Mys Go.Num Go.Scr Go.Dec Go.Rnk
set_option linter.unusedVariables false
set_option linter.unusedSimpArgs false

theorem few23_calls {w : World} {A0 : Option Addr} {a : List Ln} {c0 : Nat} (ha : St No w (Rd eL (.slice A0 a.length c0) a)) :
    Calls Try.prog 9 #[(.slice A0 a.length c0)] w fun e w' => ∃ v, e = .returned v ∧ (fun v w' => v = .slice (cutA A0 c0 2) (a.take 40).length c0 ∧ KB No w w') v w' := by
  have hS : SH w No w [] := SH.nil _ _
  refine calls (l := litOf [(.slice A0 a.length c0)] 0) Try.func9 rfl (n := 8) rfl (Nat.le_of_ble_eq_true rfl) (lit_args _) ?_
  refine WC.seq ?_
  refine WC.region ?_
  refine WL.lv rfl (LV.asg rfl) ?_
  refine WL.nil (thenQ.n ?_)
  refine WC.seq ?_
  refine WC.region ?_
  iterate 2 refine WL.lv rfl (LV.mv rfl) ?_
  refine WL.lv rfl (LV.lenL Try.underlying22 rfl) ?_
  refine WL.lv rfl (LV.minI rfl rfl) ?_
  have hcap1 : a.length ≤ c0 := (Rd.cap (St.now (SH.stN hS ha)))
  refine WL.lv rfl (LV.cut Try.underlying22 ti44.sz rfl rfl rfl rfl ⟨.inl ⟨rfl, rfl⟩, .inr ⟨.i64, by rw [Int.toNat_of_nonneg (a := min (a.length : Int) 40) (by omega)] <;> rfl⟩, .inl ⟨rfl, rfl⟩⟩ (by omega) (by omega) (by omega)) ?_
  refine WL.lv rfl (LV.asg rfl) ?_
  refine WL.nil (thenQ.n ?_)
  refine WC.ret (?_)
  exact ⟨_, fun a ha => res1 rfl ha rfl, congrArg (fun n => Value.slice (cutA A0 c0 2) n c0) (by rw [List.length_take]; omega), hS.kb⟩

set_option maxHeartbeats 2000000 in
set_option maxRecDepth 100000 in
theorem rankLike_law {w : World} {A_a : Option Addr} {n_a c_a : Nat} {a : List Ln} {A_b : Option Addr} {n_b c_b : Nat} {b : List Ln} (h_a : St No w (Rd eL (.slice A_a n_a c_a) a)) (hn_a : a.length = n_a) (h_b : St No w (Rd eL (.slice A_b n_b c_b) b)) (hn_b : b.length = n_b)  :
    Calls Try.prog 3 #[(.slice A_a n_a c_a), (.slice A_b n_b c_b)] w fun e w' => ∃ v, e = .returned v ∧ (fun v w' => v = .bool (decide (true)) ∧ KB No w w') v w' := by
  subst hn_a hn_b
  have h4_ : (a.take 40).length ≤ 40 := by rw [List.length_take]; omega
  have h5_ : (b.take 40).length ≤ 40 := by rw [List.length_take]; omega
  have hS : SH w No w [] := SH.nil _ _
  refine calls (l := litOf [(.slice A_a a.length c_a), (.slice A_b b.length c_b)] 0) Try.func3 rfl (n := 28) rfl (Nat.le_of_ble_eq_true rfl) (lit_args _) ?_
  refine WC.seq ?_
  refine WC.region ?_
  refine WL.lv rfl (LV.asg rfl) ?_
  refine WL.nil (thenQ.n ?_)
  refine WC.seq ?_
  refine WC.region ?_
  refine WL.lv rfl (LV.mv rfl) ?_
  refine WL.call rfl (XC.fn Try.func9 (by kernel_rfl) rfl rfl rfl) (few23_calls (SH.stN hS h_a)) ?_
  rintro v_ w1 ⟨rfl, hk1⟩
  have hS1 := SH.same hS hk1
  refine WL.lv rfl (LV.mv rfl) ?_
  refine WL.call rfl (XC.fn Try.func9 (by kernel_rfl) rfl rfl rfl) (few23_calls (SH.stN hS1 h_b)) ?_
  rintro v_ w2 ⟨rfl, hk2⟩
  have hS2 := SH.same hS1 hk2
  iterate 2 refine WL.lv rfl (LV.asg rfl) ?_
  refine WL.nil (thenQ.n ?_)
  refine WC.seq ?_
  refine WC.region ?_
  refine WL.call rfl (XC.fn Try.func10 (by kernel_rfl) rfl rfl rfl) (live23_calls  ) ?_
  rintro v_ w3 ⟨rfl, hk3⟩
  have hS3 := SH.same hS2 hk3
  iterate 3 refine WL.lv rfl (LV.mv rfl) ?_
  refine WL.call rfl (XC.fn Try.func11 (by kernel_rfl) rfl rfl rfl) (common_calls  (SH.stN hS3 (few_rd 40 h_a)) rfl (SH.stN hS3 (few_rd 40 h_b)) rfl ) ?_
  rintro v_ w4 ⟨rfl, hk4⟩
  have hS4 := SH.same hS3 hk4
  iterate 2 refine WL.lv rfl (LV.mv rfl) ?_
  refine WL.call rfl (XC.fn Try.func12 (by kernel_rfl) rfl rfl rfl) (rcommon_calls  (SH.stN hS4 (few_rd 40 h_a)) rfl (SH.stN hS4 (few_rd 40 h_b)) rfl ) ?_
  rintro v_ w5 ⟨rfl, hk5⟩
  have hS5 := SH.same hS4 hk5
  refine WL.lv rfl (LV.as (LV.eqI rfl rfl) (decide_eq_true (rfl))) ?_
  refine WL.lv rfl (LV.pickT rfl rfl) ?_
  iterate 3 refine WL.lv rfl (LV.mv rfl) ?_
  refine WL.call rfl (XC.fn Try.func14 (by kernel_rfl) rfl rfl rfl) (like_calls  (SH.stN hS5 (few_rd 40 h_a)) rfl (SH.stN hS5 (few_rd 40 h_b)) rfl ) ?_
  rintro v_ w6 ⟨r1, rfl, hf1, hf2, hk6⟩
  have hS6 := SH.same hS5 hk6
  have hx_ := hf1
  iterate 2 refine WL.lv rfl (LV.mv rfl) ?_
  refine WL.call rfl (XC.fn Try.func15 (by kernel_rfl) rfl rfl rfl) (rlike_calls  (SH.stN hS6 (few_rd 40 h_a)) rfl (SH.stN hS6 (few_rd 40 h_b)) rfl ) ?_
  rintro v_ w7 ⟨r2, rfl, hf3, hf4, hk7⟩
  have hS7 := SH.same hS6 hk7
  have hy_ := hf3
  refine WL.call rfl (XC.fn Try.func13 (by kernel_rfl) rfl rfl rfl) (Calls.asB (fsame_calls (a := r1) (b := r2) (by first | assumption | omega | exact hp _ (getD_mem (by omega)) | exact hpz _ (getD_mem (by omega))) (by first | assumption | omega | exact hp _ (getD_mem (by omega)) | exact hpz _ (getD_mem (by omega)))) (decide_eq_true (tk_cn (hx_.trans hy_.symm)))) ?_
  rintro v_ w8 ⟨rfl, hk8⟩
  have hS8 := SH.same hS7 hk8
  refine WL.lv rfl (LV.pickT rfl rfl) ?_
  refine WL.lv rfl (LV.asg rfl) ?_
  refine WL.nil (thenQ.n ?_)
  refine WC.ret (?_)
  exact ⟨_, fun a ha => res1 rfl ha rfl, rfl, hS8.kb⟩

set_option maxHeartbeats 2000000 in
set_option maxRecDepth 100000 in
theorem rankPrints_law {w : World} {A_l : Option Addr} {n_l c_l : Nat} {l : List (Int × Nat)} (h_l : St No w (Rd eK (.slice A_l n_l c_l) l)) (hn_l : l.length = n_l) (wl : ∀ x ∈ l, x.2 < 18446744073709551616) :
    Calls Try.prog 5 #[(.slice A_l n_l c_l)] w fun e w' => ∃ v, e = .returned v ∧ (fun v w' => v = .bool (decide (true)) ∧ KB No w w') v w' := by
  subst hn_l
  have hS : SH w No w [] := SH.nil _ _
  refine calls (l := litOf [(.slice A_l l.length c_l)] 0) Try.func5 rfl (n := 18) rfl (Nat.le_of_ble_eq_true rfl) (lit_args _) ?_
  refine WC.seq ?_
  refine WC.region ?_
  refine WL.lv rfl (LV.asg rfl) ?_
  refine WL.nil (thenQ.n ?_)
  refine WC.seq ?_
  refine WC.region ?_
  iterate 2 refine WL.lv rfl (LV.mv rfl) ?_
  refine WL.lv rfl (LV.lenL Try.underlying32 rfl) ?_
  refine WL.lv rfl (LV.minI rfl rfl) ?_
  have hcap1 : l.length ≤ c_l := (Rd.cap (St.now (SH.stN hS h_l)))
  refine WL.lv rfl (LV.cut Try.underlying32 ti37.sz rfl rfl rfl rfl ⟨.inl ⟨rfl, rfl⟩, .inr ⟨.i64, by rw [Int.toNat_of_nonneg (a := min (l.length : Int) 60) (by omega)] <;> rfl⟩, .inl ⟨rfl, rfl⟩⟩ (by omega) (by omega) (by omega)) ?_
  refine WL.lv rfl (LV.asg rfl) ?_
  refine WL.nil (thenQ.n ?_)
  refine WC.seq ?_
  have hS1 := SH.drew hS
  refine WC.regionD [] (fun _ => True) [(.forced, 0), (.pure, 1), (.pure, 2), (.pure, 5), (.forced, 3), (.fork, 0), (.fork, 0), (.fork, 0), (.fork, 0), (.fork, 0), (.fork, 0)] (by kernel_rfl) (by kernel_rfl) trivial ?_
  refine WS.call rfl rfl (XC.fn Try.func10 (by kernel_rfl) rfl rfl rfl) (live23_calls  ) ?_
  rintro v_ w1 ⟨rfl, hk1⟩
  have hS2 := SH.same hS1 hk1
  refine ⟨fun h_ => trivial, ?_⟩
  iterate 3 refine WS.pure rfl rfl (fun _ => LV.mv rfl) ?_
  refine WS.call rfl rfl (XC.fn Try.func21 (by kernel_rfl) rfl rfl rfl) (print_calls  ((SH.stN hS2 h_l).imp fun _ h => Rd.cut h (by omega) (by omega) (by omega) (by omega)) (by first | (simp; done) | (simp; omega) | (simp only [List.length_drop, List.length_take]; omega) | omega) (fun x hx => wl x (List.mem_of_mem_take (List.mem_of_mem_drop hx))) (by simp only [List.length_drop, List.length_take]; omega)) ?_
  rintro v_ w2 ⟨A1, c1, rfl, hS3⟩
  have hS4 := SH.joinN hS2 hS3
  refine ⟨fun h_ => trivial, ?_⟩
  refine WS.fork (WSX.two 4 6 (by kernel_rfl) ?_ ?_)
  · refine WO.lvT rfl rfl (LV.strOf Try.underlying40 Try.underlying5 Try.underlying9 rfl ((SH.rd hS4 (.head _)) _ (KB.refl No _))) ?_
    refine WSX.of [(.forced, 6), (.forced, 7), (.pure, 8), (.pure, 9), (.pure, 10)] (by kernel_rfl) rfl ?_
    refine WS.call rfl rfl (XC.fn Try.func22 (by kernel_rfl) rfl rfl rfl) (rprint_calls ((SH.stN hS4 h_l).imp fun _ h => Rd.cut h (by omega) (by omega) (by omega) (by omega)) (by first | (simp; done) | (simp; omega) | (simp only [List.length_drop, List.length_take]; omega) | omega) (fun x hx => wl x (List.mem_of_mem_take (List.mem_of_mem_drop hx))) (by simp only [List.length_drop, List.length_take]; omega)) ?_
    rintro v_ w3 ⟨A2, c2, rfl, hr1, hk2⟩
    have hS5 := SH.same hS4 hk2
    refine ⟨fun h_ => trivial, ?_⟩
    refine WS.lvT rfl rfl (LV.strOf Try.underlying40 Try.underlying5 Try.underlying9 rfl ((Rd.stN hr1) _ (KB.refl No _))) ?_
    refine WS.pure rfl rfl (fun _ => LV.as (c := true) (LV.eqS rfl rfl) (beq_self_eq_true _)) ?_
    refine WS.pure rfl rfl (fun _ => LV.pickT rfl rfl) ?_
    refine WS.pure rfl rfl (fun _ => LV.asg rfl) ?_
    refine WS.nil (thenQ.n ?_)
    refine WC.ret (?_)
    exact ⟨_, fun a ha => res1 rfl ha rfl, rfl, hS5.kb⟩
  · refine WO.call rfl rfl (XC.fn Try.func22 (by kernel_rfl) rfl rfl rfl) (rprint_calls ((SH.stN hS4 h_l).imp fun _ h => Rd.cut h (by omega) (by omega) (by omega) (by omega)) (by first | (simp; done) | (simp; omega) | (simp only [List.length_drop, List.length_take]; omega) | omega) (fun x hx => wl x (List.mem_of_mem_take (List.mem_of_mem_drop hx))) (by simp only [List.length_drop, List.length_take]; omega)) ?_
    rintro v_ w4 ⟨A3, c3, rfl, hr2, hk3⟩
    have hS6 := SH.same hS4 hk3
    refine ⟨fun h_ => trivial, ?_⟩
    refine WSX.of [(.fork, 0), (.fork, 0), (.fork, 0), (.fork, 0), (.fork, 0)] (by kernel_rfl) rfl ?_
    refine WS.fork (WSX.two 4 7 (by kernel_rfl) ?_ ?_)
    · refine WO.lvT rfl rfl (LV.strOf Try.underlying40 Try.underlying5 Try.underlying9 rfl ((SH.rd hS6 (.head _)) _ (KB.refl No _))) ?_
      refine WSX.of [(.forced, 7), (.pure, 8), (.pure, 9), (.pure, 10)] (by kernel_rfl) rfl ?_
      refine WS.lvT rfl rfl (LV.strOf Try.underlying40 Try.underlying5 Try.underlying9 rfl ((Rd.stN hr2) _ (KB.refl No _))) ?_
      refine WS.pure rfl rfl (fun _ => LV.as (c := true) (LV.eqS rfl rfl) (beq_self_eq_true _)) ?_
      refine WS.pure rfl rfl (fun _ => LV.pickT rfl rfl) ?_
      refine WS.pure rfl rfl (fun _ => LV.asg rfl) ?_
      refine WS.nil (thenQ.n ?_)
      refine WC.ret (?_)
      exact ⟨_, fun a ha => res1 rfl ha rfl, rfl, hS6.kb⟩
    · refine WO.lvT rfl rfl (LV.strOf Try.underlying40 Try.underlying5 Try.underlying9 rfl ((Rd.stN hr2) _ (KB.refl No _))) ?_
      refine WSX.of [(.forced, 4), (.pure, 8), (.pure, 9), (.pure, 10)] (by kernel_rfl) rfl ?_
      refine WS.lvT rfl rfl (LV.strOf Try.underlying40 Try.underlying5 Try.underlying9 rfl ((SH.rd hS6 (.head _)) _ (KB.refl No _))) ?_
      refine WS.pure rfl rfl (fun _ => LV.as (c := true) (LV.eqS rfl rfl) (beq_self_eq_true _)) ?_
      refine WS.pure rfl rfl (fun _ => LV.pickT rfl rfl) ?_
      refine WS.pure rfl rfl (fun _ => LV.asg rfl) ?_
      refine WS.nil (thenQ.n ?_)
      refine WC.ret (?_)
      exact ⟨_, fun a ha => res1 rfl ha rfl, rfl, hS6.kb⟩

end Go.Proofs.Ythmjieikbeemhaa
