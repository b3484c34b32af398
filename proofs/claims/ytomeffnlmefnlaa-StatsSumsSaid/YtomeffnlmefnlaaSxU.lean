/- The law of sums. -/
import Derived.Test.YtomeffnlmefnlaaSxS
namespace Go.Proofs.Ytomeffnlmefnlaa
open Go Go.Gv Go.RowKit Go.Mys Go.Num Go.Scr Go.Flt Go.Sts Go.Dec Go.Rpt
set_option linter.unusedVariables false
set_option linter.unusedSimpArgs false

set_option maxHeartbeats 4000000 in
set_option maxRecDepth 100000 in
theorem statsSums_law {w : World} {A_l : Option Addr} {n_l c_l : Nat} {l : List (Int × Int)} (h_l : St No w (Rd eP (.slice A_l n_l c_l) l)) (hn_l : l.length = n_l)  :
    Calls Try.prog 4 #[(.slice A_l n_l c_l)] w fun e w' => ∃ v, e = .returned v ∧ (fun v w' => v = .bool (decide (true)) ∧ KB No w w') v w' := by
  subst hn_l
  have hl_ : (l.take 60).length ≤ 60 := by rw [List.length_take]; omega
  have hS : SH w No w [] := SH.nil _ _
  refine calls (l := litOf [(.slice A_l l.length c_l)] 0) Try.func4 rfl (n := 35) rfl (Nat.le_of_ble_eq_true rfl) (lit_args _) ?_
  refine WC.seq ?_
  refine WC.region ?_
  refine WL.lv rfl (LV.asg rfl) ?_
  refine WL.nil (thenQ.n ?_)
  refine WC.seq ?_
  refine WC.region ?_
  iterate 2 refine WL.lv rfl (LV.mv rfl) ?_
  refine WL.lv rfl (LV.lenL Try.underlying25 rfl) ?_
  refine WL.lv rfl (LV.minI rfl rfl) ?_
  have hcap1 : l.length ≤ c_l := (Rd.cap (St.now (SH.stN hS h_l)))
  refine WL.lv rfl (LV.to (v := (.slice (if c_l = 0 then A_l else A_l.map (·.add (0 * 2))) ((min (l.length : Int) 60).toNat - 0) (c_l - 0))) (v' := (.slice (cutA A_l c_l 2) ((l.take 60).length) c_l)) (congrArg (fun n_ => Value.slice (cutA A_l c_l 2) n_ c_l) (show ((min (l.length : Int) 60).toNat - 0) = (l.take 60).length by rw [List.length_take]; omega)) (LV.cut Try.underlying25 ti30.sz rfl rfl rfl rfl ⟨.inl ⟨rfl, rfl⟩, .inr ⟨.i64, by rw [Int.toNat_of_nonneg (a := min (l.length : Int) 60) (by omega)] <;> rfl⟩, .inl ⟨rfl, rfl⟩⟩ (by omega) (by omega) (by omega))) ?_
  refine WL.lv rfl (LV.asg rfl) ?_
  refine WL.nil (thenQ.n ?_)
  iterate 2 refine WC.seq ?_
  refine WC.region ?_
  refine WL.lv rfl (LV.asg rfl) ?_
  refine WL.nil (thenQ.n ?_)
  refine WC.block ?_
  refine WC.loop (fun m_ f_ w_ => ∃ (i : Int), (0 ≤ i) ∧ (i ≤ ((l.take 60).length : Int)) ∧ SH w No w_ [] ∧ m_ = ((((l.take 60).length : Int) - i).toNat) ∧ Weak (lit [(0, (.slice (cutA A_l c_l 2) ((l.take 60).length) c_l)), (3, (.int .i64 i))]) f_) _ ⟨0, by omega, by omega, hS, rfl, Weak.cons rfl <| Weak.cons rfl <| Weak.nil _⟩ ?_
  rintro m1 f1 w1 ⟨i, ilo, ihi, hL1, rfl, hw1⟩
  refine WC.weak hw1 ?_
  clear hw1
  iterate 2 refine WC.seq ?_
  refine WC.region ?_
  iterate 2 refine WL.lv rfl (LV.mv rfl) ?_
  refine WL.lv rfl (LV.lenL Try.underlying25 rfl) ?_
  refine WL.lv rfl (LV.ltI rfl rfl) ?_
  refine WL.nil (thenQ.n ?_)
  refine WC.condP (p := i < ((l.take 60).length : Int)) rfl (fun hk => ?_) (fun hk => ?_)
  · skip
    refine WC.skip (thenQ.n ?_)
    refine WC.seq ?_
    refine WC.block ?_
    refine WC.seq ?_
    have hS1 := SH.drew hL1
    refine WC.regionD [] (fun w_ => KB No w1.drew w_) [(.pure, 0), (.pure, 1), (.pure, 2), (.look, 3), (.pure, 5), (.pure, 6), (.pure, 7), (.look, 8), (.forced, 4), (.forced, 9), (.forced, 10), (.pure, 11)] (by kernel_rfl) (by kernel_rfl) (KB.refl _ _) ?_
    iterate 2 refine WS.pure rfl rfl (fun _ => LV.mv rfl) ?_
    obtain ⟨A1, c1, e1, g1⟩ := St.elt (SH.stN hS1 (few_rd 60 h_l)) (0, 0) i (by omega) (by omega)
    refine WS.pure rfl rfl (fun _ => LV.idxA Try.underlying25 ti30.sz rfl e1 rfl (by omega) (by omega)) ?_
    refine WS.look rfl rfl (fun _ hk_ => LV.loadAgg (cs := [(.int .i64 (((l.take 60).getD (i).toNat (0, 0)).1)), (.int .i64 (((l.take 60).getD (i).toNat (0, 0)).2))]) Try.underlying30 rfl ti30 rfl rfl (fun j u hu => g1 _ hk_ j u hu)) ?_
    iterate 2 refine WS.pure rfl rfl (fun _ => LV.mv rfl) ?_
    obtain ⟨A2, c2, e2, g2⟩ := St.elt (SH.stN hS1 (few_rd 60 h_l)) (0, 0) i (by omega) (by omega)
    refine WS.pure rfl rfl (fun _ => LV.idxA Try.underlying25 ti30.sz rfl e2 rfl (by omega) (by omega)) ?_
    refine WS.look rfl rfl (fun _ hk_ => LV.loadAgg (cs := [(.int .i64 (((l.take 60).getD (i).toNat (0, 0)).1)), (.int .i64 (((l.take 60).getD (i).toNat (0, 0)).2))]) Try.underlying30 rfl ti30 rfl rfl (fun j u hu => g2 _ hk_ j u hu)) ?_
    refine WS.call rfl rfl (XC.fn Try.func11 (by kernel_rfl) rfl rfl rfl) (fresh_calls (c := ((l.take 60).getD (i).toNat (0, 0))) ) ?_
    rintro v_ w2 ⟨r1, rfl, hf1, hf2, hk1⟩
    have hS2 := SH.same hS1 hk1
    have hfa_ := hf1
    refine ⟨fun h_ => (KB.transN (KB.refl _ _) hk1), ?_⟩
    refine WS.call rfl rfl (XC.fn Try.func12 (by kernel_rfl) rfl rfl rfl) (rfresh_calls (c := ((l.take 60).getD (i).toNat (0, 0))) ) ?_
    rintro v_ w3 ⟨r2, rfl, hf3, hf4, hk2⟩
    have hS3 := SH.same hS2 hk2
    have hfb_ := hf3
    refine ⟨fun h_ => (KB.transN (KB.transN (KB.refl _ _) hk1) hk2), ?_⟩
    refine WS.call rfl rfl (XC.fn Try.func10 (by kernel_rfl) rfl rfl rfl) (Calls.asB (fsame_calls (a := r1) (b := r2) (by first | assumption | omega | exact hp _ (getD_mem (by omega)) | exact hpz _ (getD_mem (by omega))) (by first | assumption | omega | exact hp _ (getD_mem (by omega)) | exact hpz _ (getD_mem (by omega)))) (decide_eq_true (tk_cn (hfa_.trans hfb_.symm)))) ?_
    rintro v_ w4 ⟨rfl, hk3⟩
    have hS4 := SH.same hS3 hk3
    refine ⟨fun h_ => (KB.transN (KB.transN (KB.transN (KB.refl _ _) hk1) hk2) hk3), ?_⟩
    refine WS.pure rfl rfl (fun _ => LV.notB rfl) ?_
    refine WS.nil (thenQ.n ?_)
    refine WC.condF rfl ?_
    refine WC.skip (blockQ.n <| thenQ.n ?_)
    refine WC.region ?_
    refine WL.lv rfl (LV.mv rfl) ?_
    refine WL.lv rfl (LV.add rfl rfl (wr64 (by omega) (by omega))) ?_
    refine WL.lv rfl (LV.asg rfl) ?_
    refine WL.nil (thenQ.n ?_)
    exact ⟨_, by omega, i + 1, by omega, by omega, hS4, rfl, Weak.cons rfl <| Weak.cons rfl <| Weak.nil _⟩
  · skip
    refine WC.exit (thenQ.x <| thenQ.x <| blockQ.hit <| thenQ.n ?_)
    refine WC.seq ?_
    refine WC.region ?_
    refine WL.call rfl (XC.fn Try.func9 (by kernel_rfl) rfl rfl rfl) (live40_calls  ) ?_
    rintro v_ w5 ⟨rfl, hk4⟩
    have hS5 := SH.same hL1 hk4
    iterate 2 refine WL.lv rfl (LV.mv rfl) ?_
    refine WL.call rfl (XC.fn Try.func14 (by kernel_rfl) rfl rfl rfl) (sum_calls  (SH.stN hS5 (few_rd 60 h_l)) rfl (hl_)) ?_
    rintro v_ w6 ⟨m2, d1, rfl, hf5, hf6, hf7, hf8, hk5⟩
    have hS6 := SH.same hS5 hk5
    have hma_ := hf5
    have hmw_ := hf6
    have hmd_ := hf7
    refine WL.lv rfl (LV.mv rfl) ?_
    refine WL.call rfl (XC.fn Try.func15 (by kernel_rfl) rfl rfl rfl) (rsum_calls  (SH.stN hS6 (few_rd 60 h_l)) rfl (hl_)) ?_
    rintro v_ w7 ⟨m3, d2, rfl, hf9, hf10, hf11, hf12, hk6⟩
    have hS7 := SH.same hS6 hk6
    have hna_ := hf9
    have hnw_ := hf10
    have hnd_ := hf11
    refine WL.call rfl (XC.fn Try.func13 (by kernel_rfl) rfl rfl rfl) (Calls.asB (ssame_calls (a0 := (SI (l.take 60))) (a1 := (SO (l.take 60))) (a2 := m2) (a3 := d1) (a4 := (PKF (l.take 60) (l.take 60).length)) (a5 := (QT (l.take 60))) (b0 := (SI (l.take 60))) (b1 := (SO (l.take 60))) (b2 := m3) (b3 := d2) (b4 := (PKF (l.take 60) (l.take 60).length)) (b5 := (QT (l.take 60))) (by first | assumption | omega | exact hp _ (getD_mem (by omega)) | exact hpz _ (getD_mem (by omega))) (by first | assumption | omega | exact hp _ (getD_mem (by omega)) | exact hpz _ (getD_mem (by omega))) (by first | assumption | omega | exact hp _ (getD_mem (by omega)) | exact hpz _ (getD_mem (by omega))) (by first | assumption | omega | exact hp _ (getD_mem (by omega)) | exact hpz _ (getD_mem (by omega)))) (decide_eq_true (⟨rfl, rfl, rfl, rfl, tk_cn (hma_.trans hna_.symm), MEDN.same (fun x hx => Nat.lt_trans (shr_mem hx) (by decide)) hmd_ hnd_⟩))) ?_
    rintro v_ w8 ⟨rfl, hk7⟩
    have hS8 := SH.same hS7 hk7
    refine WL.lv rfl (LV.pickT rfl rfl) ?_
    refine WL.lv rfl (LV.asg rfl) ?_
    refine WL.nil (thenQ.n ?_)
    refine WC.ret (?_)
    exact ⟨_, fun a ha => res1 rfl ha rfl, rfl, hS8.kb⟩

end Go.Proofs.Ytomeffnlmefnlaa
