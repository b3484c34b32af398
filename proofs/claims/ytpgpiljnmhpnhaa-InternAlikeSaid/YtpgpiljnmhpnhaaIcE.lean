/- The laws of lines' numbers. -/
import Derived.Test.YtpgpiljnmhpnhaaIcD
import Derived.Test.YtpgpiljnmhpnhaaIcR
namespace Go.Proofs.Ytpgpiljnmhpnhaa
open Go Go.Gv Go.RowKit Go.Itn Go.Num Go.Scr
set_option linter.unusedVariables false
set_option linter.unusedSimpArgs false

theorem few06_calls {w : World} {A_lists : Option Addr} {n_lists c_lists : Nat} {lists : List (SV × List Ln)} (h_lists : St No w (RdRR eL (.slice A_lists n_lists c_lists) lists)) (hn_lists : lists.length = n_lists)  :
    Calls Try.prog 8 #[(.slice A_lists n_lists c_lists)] w fun e w' => ∃ v, e = .returned v ∧ (fun v w' => ∃ (A0' : Option Addr) (c0' : Nat) (rows' : List (SV × List Ln)), v = .slice A0' rows'.length c0' ∧ rows'.map (·.2) = few5 (lists.map (·.2)) ∧ St No w (RdIn (fun s : SV => s) eL rows') ∧ SH w No w' [rowE eV 31 (.slice A0' rows'.length c0') (rows'.map (·.1))]) v w' := by
  subst hn_lists
  have hS : SH w No w [] := SH.nil _ _
  refine calls (l := litOf [(.slice A_lists lists.length c_lists)] 0) Try.func8 rfl (n := 30) rfl (Nat.le_of_ble_eq_true rfl) (lit_args _) ?_
  refine WC.seq ?_
  refine WC.region ?_
  refine WL.lv rfl (LV.asg rfl) ?_
  refine WL.nil (thenQ.n ?_)
  refine WC.seq ?_
  refine WC.region ?_
  have hS1 := SH.nilRow (E := eV) (T := 31) hS
  refine WL.lv rfl (LV.asg rfl) ?_
  refine WL.nil (thenQ.n ?_)
  iterate 2 refine WC.seq ?_
  refine WC.region ?_
  refine WL.lv rfl (LV.asg rfl) ?_
  refine WL.nil (thenQ.n ?_)
  refine WC.block ?_
  refine WC.loop (fun m_ f_ w_ => ∃ (i : Int) (A2 : Option Addr) (c2 : Nat) (out : List SV) (rows : List (SV × List Ln)), (0 ≤ i) ∧ (i ≤ 5 ∧ i ≤ lists.length) ∧ (out = rows.map (·.1)) ∧ (rows.map (·.2) = ((lists.map (·.2)).take i.toNat).map (fun l => l.take 60)) ∧ (St No w (RdIn (fun s : SV => s) eL rows)) ∧ ((out.length : Int) = i) ∧ SH w No w_ [rowE eV 31 (.slice A2 out.length c2) out] ∧ m_ = (((lists.length : Int) - i).toNat) ∧ Weak (lit [(0, (.slice A_lists lists.length c_lists)), (2, (.slice none 0 0)), (3, (.slice A2 out.length c2)), (4, (.int .i64 i))]) f_) _ ⟨0, none, 0, [], ([] : List (SV × List Ln)), by omega, by omega, rfl, rfl, St.in0, rfl, hS1, rfl, Weak.cons rfl <| Weak.cons rfl <| Weak.cons rfl <| Weak.cons rfl <| Weak.nil _⟩ ?_
  rintro m1 f1 w1 ⟨i, A2, c2, out, rows, q0, q1, q2, q3, q4, q5, hL1, rfl, hw1⟩
  refine WC.weak hw1 ?_
  clear hw1
  iterate 2 refine WC.seq ?_
  refine WC.region ?_
  iterate 2 refine WL.lv rfl (LV.mv rfl) ?_
  refine WL.lv rfl (LV.lenL Try.underlying22 rfl) ?_
  rcases Decidable.em (i < (lists.length : Int)) with hg1 | hg1
  · refine WL.lv rfl (LV.as (LV.ltI rfl rfl) (decide_eq_true hg1)) ?_
    iterate 2 refine WL.lv rfl (LV.mv rfl) ?_
    refine WL.lv rfl (LV.ltI rfl rfl) ?_
    refine WL.lv rfl (LV.pickT rfl rfl) ?_
    refine WL.nil (thenQ.n ?_)
    refine WC.condP (p := i < 5) rfl (fun hc12 => ?_) (fun hc12 => ?_)
    · skip
      refine WC.skip (thenQ.n ?_)
      refine WC.seq ?_
      refine WC.block ?_
      have hS2 := SH.drew hL1
      refine WC.regionD [13] (fun w_ => KB No w1.drew w_) [(.pure, 0), (.pure, 1), (.pure, 2), (.pure, 3), (.look, 4), (.pure, 5), (.pure, 6), (.pure, 7), (.look, 8), (.pure, 9), (.pure, 10), (.pure, 11), (.forced, 12), (.forced, 13), (.pure, 14)] (by kernel_rfl) (by kernel_rfl) (KB.refl _ _) ?_
      iterate 3 refine WS.pure rfl rfl (fun _ => LV.mv rfl) ?_
      obtain ⟨A1, c1, A3, c3, e1, g1, e2, r1⟩ := St.eltRR (SH.stN hS2 h_lists) default i (by omega) (by omega)
      refine WS.pure rfl rfl (fun _ => LV.idxA Try.underlying22 ti31.sz rfl e1 rfl (by omega) (by omega)) ?_
      refine WS.look rfl rfl (fun _ hk_ => LV.load1 Try.underlying31 rfl rfl (g1 _ hk_)) ?_
      iterate 2 refine WS.pure rfl rfl (fun _ => LV.mv rfl) ?_
      obtain ⟨A4, c4, A5, c5, e3, g2, e4, r2⟩ := St.eltRR (SH.stN hS2 h_lists) default i (by omega) (by omega)
      refine WS.pure rfl rfl (fun _ => LV.idxA Try.underlying22 ti31.sz rfl e3 rfl (by omega) (by omega)) ?_
      refine WS.look rfl rfl (fun _ hk_ => LV.load1 Try.underlying31 rfl rfl (g2 _ hk_)) ?_
      refine WS.pure rfl rfl (fun _ => LV.lenL Try.underlying31 rfl) ?_
      refine WS.pure rfl rfl (fun _ => LV.minI rfl rfl) ?_
      have hcap1 : (lists.getD (i).toNat default).2.length ≤ c3 := (Rd.cap (St.now (St.inner (SH.stN hS2 h_lists) (getD_mem (by omega)) e2)))
      refine WS.pure rfl rfl (fun _ => LV.cut Try.underlying31 ti33.sz rfl rfl rfl rfl ⟨.inl ⟨rfl, rfl⟩, .inr ⟨.i64, by rw [Int.toNat_of_nonneg (a := min ((lists.getD (i).toNat default).2.length : Int) 60) (by omega)] <;> rfl⟩, .inl ⟨rfl, rfl⟩⟩ (by omega) (by omega) (by omega)) ?_
      refine WS.xe rfl rfl (XE.buildSlice (E := eV) [(0, (.slice (if c3 = 0 then A3 else A3.map (·.add (0 * 2))) ((min ((lists.getD (i).toNat default).2.length : Int) 60).toNat - 0) (c3 - 0)))] #[(.slice (if c3 = 0 then A3 else A3.map (·.add (0 * 2))) ((min ((lists.getD (i).toNat default).2.length : Int) 60).toNat - 0) (c3 - 0))] [(⟨(if c3 = 0 then A3 else A3.map (·.add (0 * 2))), ((min ((lists.getD (i).toNat default).2.length : Int) 60).toNat - 0), (c3 - 0)⟩ : SV)] hS2 Try.underlying22 ti31 rfl (by decide) (by kernel_rfl) (.inr rfl) rfl rfl (by decide)) ?_
      rintro _ w2 ⟨b1, rfl, hS3, hk1⟩
      refine ⟨fun h_ => (KB.transN (KB.refl _ _) hk1), ?_⟩
      have hS4 : SH w No w2 [rowE eV 31 (.slice A2 out.length c2) out, rowE eV 31 (.slice (some ⟨b1, 0, none⟩) 1 1) [(⟨(if c3 = 0 then A3 else A3.map (·.add (0 * 2))), ((min ((lists.getD (i).toNat default).2.length : Int) 60).toNat - 0), (c3 - 0)⟩ : SV)]] := (SH.front [rowE eV 31 (.slice (some ⟨b1, 0, none⟩) 1 1) [(⟨(if c3 = 0 then A3 else A3.map (·.add (0 * 2))), ((min ((lists.getD (i).toNat default).2.length : Int) 60).toNat - 0), (c3 - 0)⟩ : SV)]] hS3)
      refine WS.xe rfl rfl (XE.append hS4 Try.underlying22 ti31 rfl (St.now (SH.rd hS4 (.tail _ (.head _)))) rfl rfl (by first | omega | simp only [List.length_append, List.length_cons, List.length_nil, List.length_take, List.length_reverse, List.length_drop] at *; omega) (by first | omega | simp only [List.length_append, List.length_cons, List.length_nil, List.length_take, List.length_reverse, List.length_drop] at *; omega)) ?_
      rintro _ w3 ⟨A6, c6, rfl, hS5, hk2⟩
      refine ⟨fun h_ => (by cases h_), ?_⟩
      refine WS.pure rfl rfl (fun _ => LV.asg rfl) ?_
      refine WS.nil (blockQ.n <| thenQ.n ?_)
      refine WC.region ?_
      refine WL.lv rfl (LV.mv rfl) ?_
      refine WL.lv rfl (LV.add rfl rfl (wr64 (by omega) (by omega))) ?_
      refine WL.lv rfl (LV.asg rfl) ?_
      refine WL.nil (thenQ.n ?_)
      have hS6 : SH w No w3 [rowE eV 31 (.slice A6 ((out ++ [(⟨(if c3 = 0 then A3 else A3.map (·.add (0 * 2))), ((min ((lists.getD (i).toNat default).2.length : Int) 60).toNat - 0), (c3 - 0)⟩ : SV)]).length) c6) (out ++ [(⟨(if c3 = 0 then A3 else A3.map (·.add (0 * 2))), ((min ((lists.getD (i).toNat default).2.length : Int) 60).toNat - 0), (c3 - 0)⟩ : SV)])] := (SH.take 1 rfl hS5)
      exact ⟨_, by omega, i + 1, A6, c6, (out ++ [(⟨(if c3 = 0 then A3 else A3.map (·.add (0 * 2))), ((min ((lists.getD (i).toNat default).2.length : Int) 60).toNat - 0), (c3 - 0)⟩ : SV)]), (rows ++ [((⟨(if c3 = 0 then A3 else A3.map (·.add (0 * 2))), ((min ((lists.getD (i).toNat default).2.length : Int) 60).toNat - 0), (c3 - 0)⟩ : SV), (lists.getD i.toNat default).2.take 60)]), by omega, by omega, (by rw [q2, List.map_append]; rfl), (by rw [← few5_snoc q0 (by rw [List.length_map]; omega), List.map_append, q3, rr_at (by omega)]; rfl), (St.inSnoc rfl (few5_in (St.inner h_lists (getD_mem (by omega)) e2)) q4), (by simp; omega), hS6, rfl, Weak.cons rfl <| Weak.cons rfl <| Weak.cons rfl <| Weak.cons rfl <| Weak.nil _⟩
    · skip
      refine WC.exit (thenQ.x <| thenQ.x <| blockQ.hit <| thenQ.n ?_)
      refine WC.seq ?_
      refine WC.region ?_
      refine WL.lv rfl (LV.mv rfl) ?_
      refine WL.lv rfl (LV.asg rfl) ?_
      refine WL.nil (thenQ.n ?_)
      refine WC.ret (?_)
      exact ⟨_, fun a ha => res1 rfl ha rfl, (by subst q2; have hs_ := hL1; rw [List.length_map] at hs_ q5; rw [List.length_map]; exact ⟨_, _, rows, rfl, q3.trans (few5_of q0 q1.1 (fun h_ => by rw [List.length_map] at h_; omega)), q4, hs_⟩)⟩
  · refine WL.lv rfl (LV.as (LV.ltI rfl rfl) (decide_eq_false hg1)) ?_
    refine WL.lv rfl (LV.mv rfl) ?_
    iterate 2 refine WL.off rfl ?_
    refine WL.lv rfl (LV.pickF rfl rfl) ?_
    refine WL.nil (thenQ.n ?_)
    refine WC.condF rfl ?_
    refine WC.exit (thenQ.x <| thenQ.x <| blockQ.hit <| thenQ.n ?_)
    refine WC.seq ?_
    refine WC.region ?_
    refine WL.lv rfl (LV.mv rfl) ?_
    refine WL.lv rfl (LV.asg rfl) ?_
    refine WL.nil (thenQ.n ?_)
    refine WC.ret (?_)
    exact ⟨_, fun a ha => res1 rfl ha rfl, (by subst q2; have hs_ := hL1; rw [List.length_map] at hs_ q5; rw [List.length_map]; exact ⟨_, _, rows, rfl, q3.trans (few5_of q0 q1.1 (fun h_ => by rw [List.length_map] at h_; omega)), q4, hs_⟩)⟩

theorem ints_eq06 {w : World} {A_a : Option Addr} {n_a c_a : Nat} {a : List Int} {A_b : Option Addr} {n_b c_b : Nat} {b : List Int} (h_a : St No w (Rd eI (.slice A_a n_a c_a) a)) (hn_a : a.length = n_a) (h_b : St No w (Rd eI (.slice A_b n_b c_b) b)) (hn_b : b.length = n_b)  :
    Calls Try.prog 11 #[(.slice A_a n_a c_a), (.slice A_b n_b c_b)] w fun e w' => ∃ v, e = .returned v ∧ (fun v w' => v = .bool (decide (a = b)) ∧ KB No w w') v w' := by
  subst hn_a hn_b; exact ints_calls h_a rfl h_b rfl

set_option maxHeartbeats 2000000 in
theorem internNumbers_law {w : World} {A_lists : Option Addr} {n_lists c_lists : Nat} {lists : List (SV × List Ln)} (h_lists : St No w (RdRR eL (.slice A_lists n_lists c_lists) lists)) (hn_lists : lists.length = n_lists)  :
    Calls Try.prog 3 #[(.slice A_lists n_lists c_lists)] w fun e w' => ∃ v, e = .returned v ∧ (fun v w' => v = .bool (decide (true)) ∧ KB No w w') v w' := by
  subst hn_lists
  have hS : SH w No w [] := SH.nil _ _
  refine calls (l := litOf [(.slice A_lists lists.length c_lists)] 0) Try.func3 rfl (n := 35) rfl (Nat.le_of_ble_eq_true rfl) (lit_args _) ?_
  refine WC.seq ?_
  refine WC.region ?_
  refine WL.lv rfl (LV.asg rfl) ?_
  refine WL.nil (thenQ.n ?_)
  refine WC.seq ?_
  refine WC.region ?_
  refine WL.lv rfl (LV.mv rfl) ?_
  refine WL.call rfl (XC.fn Try.func8 (by kernel_rfl) rfl rfl rfl) (few06_calls (SH.stN hS h_lists) rfl) ?_
  rintro v_ w1 ⟨A1, c1, rowsf, rfl, hqf, hinf, hS1⟩
  have hS2 := SH.joinN hS hS1
  have hfb_ := few5_bd hqf
  have hfl_ := hfb_.1
  have hfb2_ := hfb_.2
  refine WL.lv rfl (LV.asg rfl) ?_
  refine WL.nil (thenQ.n ?_)
  refine WC.seq ?_
  refine WC.region ?_
  refine WL.lv rfl (LV.mv rfl) ?_
  refine WL.call rfl (XC.fn Try.func9 (by kernel_rfl) rfl rfl rfl) (numbers_eq  (St.rrOf (rows := rowsf) (SH.rd hS2 (.head _)) (SH.stN hS2 hinf)) rfl (by omega) (fun p hp => by have h_ := hfb2_ p hp; omega)) ?_
  rintro v_ w2 ⟨A2, c2, rows1, rfl, hq1, hS3⟩
  have hS4 := SH.joinN hS2 hS3
  refine WL.lv rfl (LV.asg rfl) ?_
  refine WL.nil (thenQ.n ?_)
  refine WC.seq ?_
  refine WC.region ?_
  refine WL.lv rfl (LV.mv rfl) ?_
  refine WL.call rfl (XC.fn Try.func10 (by kernel_rfl) rfl rfl rfl) (rnumbers_calls  (St.rrOf (rows := rowsf) (SH.rd hS4 (.tail _ (.head _))) (SH.stN hS4 hinf)) rfl (by omega) (fun p hp => by have h_ := hfb2_ p hp; omega)) ?_
  rintro v_ w3 ⟨A3, c3, rows2, rfl, hq2, hS5⟩
  have hS6 := SH.joinN hS4 hS5
  refine WL.lv rfl (LV.asg rfl) ?_
  refine WL.nil (thenQ.n ?_)
  iterate 2 refine WC.seq ?_
  refine WC.region ?_
  refine WL.lv rfl (LV.mv rfl) ?_
  have hab_ := hq1.trans hq2.symm
  have hal_ := (rr_eq hab_ 0).1
  have hal2_ := row_len hq1
  refine WL.lv rfl (LV.lenL Try.underlying24 rfl) ?_
  refine WL.lv rfl (LV.mv rfl) ?_
  refine WL.lv rfl (LV.lenL Try.underlying24 rfl) ?_
  refine WL.lv rfl (LV.neI rfl rfl) ?_
  refine WL.nil (thenQ.n ?_)
  refine WC.condP (p := (rows1.length : Int) ≠ (rows2.length : Int)) rfl (fun hc1 => ?_) (fun hc1 => ?_)
  · exfalso; omega
  · skip
    refine WC.skip (thenQ.n ?_)
    iterate 2 refine WC.seq ?_
    refine WC.region ?_
    refine WL.lv rfl (LV.asg rfl) ?_
    refine WL.nil (thenQ.n ?_)
    refine WC.block ?_
    refine WC.loop (fun m_ f_ w_ => ∃ (i : Int), (0 ≤ i) ∧ (i ≤ (rows1.length : Int)) ∧ SH w No w_ [rrE eI 28 3 (.slice A3 rows2.length c3) rows2, rrE eI 28 3 (.slice A2 rows1.length c2) rows1, rowE eV 31 (.slice A1 rowsf.length c1) (rowsf.map (fun p : SV × List Ln => p.1))] ∧ m_ = (((rows1.length : Int) - i).toNat) ∧ Weak (lit [(4, (.slice A2 rows1.length c2)), (5, (.slice A3 rows2.length c3)), (6, (.int .i64 i))]) f_) _ ⟨0, by omega, by omega, hS6, rfl, Weak.cons rfl <| Weak.cons rfl <| Weak.cons rfl <| Weak.nil _⟩ ?_
    rintro m1 f1 w4 ⟨i, ilo, ihi, hL1, rfl, hw1⟩
    refine WC.weak hw1 ?_
    clear hw1
    iterate 2 refine WC.seq ?_
    refine WC.region ?_
    iterate 2 refine WL.lv rfl (LV.mv rfl) ?_
    refine WL.lv rfl (LV.lenL Try.underlying24 rfl) ?_
    refine WL.lv rfl (LV.ltI rfl rfl) ?_
    refine WL.nil (thenQ.n ?_)
    refine WC.condP (p := i < (rows1.length : Int)) rfl (fun hk => ?_) (fun hk => ?_)
    · skip
      refine WC.skip (thenQ.n ?_)
      refine WC.seq ?_
      refine WC.block ?_
      refine WC.seq ?_
      have hS7 := SH.drew hL1
      refine WC.regionD [] (fun w_ => KB No w4.drew w_) [(.pure, 0), (.pure, 1), (.pure, 2), (.look, 3), (.pure, 4), (.pure, 5), (.pure, 6), (.look, 7), (.forced, 8), (.pure, 9)] (by kernel_rfl) (by kernel_rfl) (KB.refl _ _) ?_
      iterate 2 refine WS.pure rfl rfl (fun _ => LV.mv rfl) ?_
      obtain ⟨A4, c4, A5, c5, e1, g1, e2, r1⟩ := St.eltRR (SH.rdRR hS7 (.tail _ (.head _))) default i (by omega) (by omega)
      refine WS.pure rfl rfl (fun _ => LV.idxA Try.underlying24 ti28.sz rfl e1 rfl (by omega) (by omega)) ?_
      refine WS.look rfl rfl (fun _ hk_ => LV.load1 Try.underlying28 rfl rfl (g1 _ hk_)) ?_
      iterate 2 refine WS.pure rfl rfl (fun _ => LV.mv rfl) ?_
      obtain ⟨A6, c6, A7, c7, e3, g2, e4, r2⟩ := St.eltRR (SH.rdRR hS7 (.head _)) default i (by omega) (by omega)
      refine WS.pure rfl rfl (fun _ => LV.idxA Try.underlying24 ti28.sz rfl e3 rfl (by omega) (by omega)) ?_
      refine WS.look rfl rfl (fun _ hk_ => LV.load1 Try.underlying28 rfl rfl (g2 _ hk_)) ?_
      refine WS.call rfl rfl (XC.fn Try.func11 (by kernel_rfl) rfl rfl rfl) (Calls.asB (ints_eq06  (St.inner (SH.rdRR hS7 (.tail _ (.head _))) (getD_mem (by omega)) e2) rfl (St.inner (SH.rdRR hS7 (.head _)) (getD_mem (by omega)) e4) rfl ) (decide_eq_true ((rr_eq hab_ i.toNat).2 (by omega)))) ?_
      rintro v_ w5 ⟨rfl, hk1⟩
      have hS8 := SH.same hS7 hk1
      refine ⟨fun h_ => (KB.transN (KB.refl _ _) hk1), ?_⟩
      refine WS.pure rfl rfl (fun _ => LV.notB rfl) ?_
      refine WS.nil (thenQ.n ?_)
      refine WC.condF rfl ?_
      refine WC.skip (blockQ.n <| thenQ.n ?_)
      refine WC.region ?_
      refine WL.lv rfl (LV.mv rfl) ?_
      refine WL.lv rfl (LV.add rfl rfl (wr64 (by omega) (by omega))) ?_
      refine WL.lv rfl (LV.asg rfl) ?_
      refine WL.nil (thenQ.n ?_)
      exact ⟨_, by omega, i + 1, by omega, by omega, hS8, rfl, Weak.cons rfl <| Weak.cons rfl <| Weak.cons rfl <| Weak.nil _⟩
    · skip
      refine WC.exit (thenQ.x <| thenQ.x <| blockQ.hit <| thenQ.n ?_)
      refine WC.seq ?_
      refine WC.region ?_
      refine WL.call rfl (XC.fn Try.func12 (by kernel_rfl) rfl rfl rfl) (live06_calls  ) ?_
      rintro v_ w6 ⟨rfl, hk2⟩
      have hS9 := SH.same hL1 hk2
      refine WL.lv rfl (LV.asg rfl) ?_
      refine WL.nil (thenQ.n ?_)
      refine WC.ret (?_)
      exact ⟨_, fun a ha => res1 rfl ha rfl, rfl, hS9.kb⟩

set_option maxHeartbeats 2000000 in
theorem internAlike_law {w : World} {A_lists : Option Addr} {n_lists c_lists : Nat} {lists : List (SV × List Ln)} (h_lists : St No w (RdRR eL (.slice A_lists n_lists c_lists) lists)) (hn_lists : lists.length = n_lists)  :
    Calls Try.prog 4 #[(.slice A_lists n_lists c_lists)] w fun e w' => ∃ v, e = .returned v ∧ (fun v w' => v = .bool (decide (true)) ∧ KB No w w') v w' := by
  subst hn_lists
  have hS : SH w No w [] := SH.nil _ _
  refine calls (l := litOf [(.slice A_lists lists.length c_lists)] 0) Try.func4 rfl (n := 127) rfl (Nat.le_of_ble_eq_true rfl) (lit_args _) ?_
  refine WC.seq ?_
  refine WC.region ?_
  refine WL.lv rfl (LV.asg rfl) ?_
  refine WL.nil (thenQ.n ?_)
  refine WC.seq ?_
  refine WC.region ?_
  refine WL.lv rfl (LV.mv rfl) ?_
  refine WL.call rfl (XC.fn Try.func8 (by kernel_rfl) rfl rfl rfl) (few06_calls (SH.stN hS h_lists) rfl) ?_
  rintro v_ w1 ⟨A1, c1, rowsf, rfl, hqf, hinf, hS1⟩
  have hS2 := SH.joinN hS hS1
  have hfb_ := few5_bd hqf
  have hfl_ := hfb_.1
  have hfb2_ := hfb_.2
  refine WL.lv rfl (LV.asg rfl) ?_
  refine WL.nil (thenQ.n ?_)
  refine WC.seq ?_
  refine WC.region ?_
  refine WL.lv rfl (LV.mv rfl) ?_
  refine WL.call rfl (XC.fn Try.func9 (by kernel_rfl) rfl rfl rfl) (numbers_eq  (St.rrOf (rows := rowsf) (SH.rd hS2 (.head _)) (SH.stN hS2 hinf)) rfl (by omega) (fun p hp => by have h_ := hfb2_ p hp; omega)) ?_
  rintro v_ w2 ⟨A2, c2, rows1, rfl, hq1, hS3⟩
  have hS4 := SH.joinN hS2 hS3
  refine WL.lv rfl (LV.asg rfl) ?_
  refine WL.nil (thenQ.n ?_)
  iterate 2 refine WC.seq ?_
  refine WC.region ?_
  refine WL.lv rfl (LV.mv rfl) ?_
  have hal_ := row_len hq1
  refine WL.lv rfl (LV.lenL Try.underlying24 rfl) ?_
  refine WL.lv rfl (LV.mv rfl) ?_
  refine WL.lv rfl (LV.lenL Try.underlying22 rfl) ?_
  refine WL.lv rfl (LV.neI rfl rfl) ?_
  refine WL.nil (thenQ.n ?_)
  refine WC.condP (p := (rows1.length : Int) ≠ (rowsf.length : Int)) rfl (fun hc1 => ?_) (fun hc1 => ?_)
  · exfalso; omega
  · skip
    refine WC.skip (thenQ.n ?_)
    refine WC.seq ?_
    refine WC.region ?_
    have hS5 := SH.nilRow (E := eL) (T := 33) hS4
    refine WL.lv rfl (LV.asg rfl) ?_
    refine WL.nil (thenQ.n ?_)
    refine WC.seq ?_
    refine WC.region ?_
    have hS6 := SH.nilRow (E := eI) (T := 3) hS5
    refine WL.lv rfl (LV.asg rfl) ?_
    refine WL.nil (thenQ.n ?_)
    refine WC.seq ?_
    refine WC.region ?_
    refine WL.lv rfl (LV.asg rfl) ?_
    refine WL.nil (thenQ.n ?_)
    iterate 2 refine WC.seq ?_
    refine WC.region ?_
    refine WL.lv rfl (LV.asg rfl) ?_
    refine WL.nil (thenQ.n ?_)
    refine WC.block ?_
    refine WC.loop (fun m_ f_ w_ => ∃ (A_lines : Option Addr) (c_lines : Nat) (lines : List Ln) (A_numbers : Option Addr) (c_numbers : Nat) (numbers : List Int) (top : Int) (i : Int), (0 ≤ i) ∧ (i ≤ (rowsf.length : Int)) ∧ (NumOK (kvAt (rowsf.map (·.2)) i 0) lines numbers) ∧ (top = ((kvAt (rowsf.map (·.2)) i 0).length : Int)) ∧ ((lines.length : Int) ≤ 60 * i) ∧ (numbers.length = lines.length) ∧ (0 ≤ top ∧ top ≤ 60 * i) ∧ SH w No w_ [rowE eI 3 (.slice A_numbers numbers.length c_numbers) numbers, rowE eL 33 (.slice A_lines lines.length c_lines) lines, rrE eI 28 3 (.slice A2 rows1.length c2) rows1, rowE eV 31 (.slice A1 rowsf.length c1) (rowsf.map (fun p : SV × List Ln => p.1))] ∧ m_ = (((rowsf.length : Int) - i).toNat) ∧ Weak (lit [(3, (.slice A1 rowsf.length c1)), (4, (.slice A2 rows1.length c2)), (5, (.slice A_lines lines.length c_lines)), (6, (.slice A_numbers numbers.length c_numbers)), (7, (.int .i64 top)), (8, (.int .i64 i))]) f_) _ ⟨none, 0, [], none, 0, [], 0, 0, by omega, by omega, NumOK.nil, rfl, (by simp), rfl, by omega, hS6, rfl, Weak.cons rfl <| Weak.cons rfl <| Weak.cons rfl <| Weak.cons rfl <| Weak.cons rfl <| Weak.cons rfl <| Weak.nil _⟩ ?_
    rintro m1 f1 w3 ⟨A_lines, c_lines, lines, A_numbers, c_numbers, numbers, top, i, ilo, ihi, z1, z2, z3, z4, z5, hL1, rfl, hw1⟩
    refine WC.weak hw1 ?_
    clear hw1
    iterate 2 refine WC.seq ?_
    refine WC.region ?_
    iterate 2 refine WL.lv rfl (LV.mv rfl) ?_
    refine WL.lv rfl (LV.lenL Try.underlying22 rfl) ?_
    refine WL.lv rfl (LV.ltI rfl rfl) ?_
    refine WL.nil (thenQ.n ?_)
    refine WC.condP (p := i < (rowsf.length : Int)) rfl (fun hk => ?_) (fun hk => ?_)
    · have hri_ := row_i hq1 ilo hk
      have hrl2_ := congrArg List.length hri_
      rw [nnum_length] at hrl2_
      have hrb2_ := hfb2_ (rowsf.getD i.toNat default) (getD_mem (by omega))
      refine WC.skip (thenQ.n ?_)
      refine WC.seq ?_
      refine WC.block ?_
      iterate 2 refine WC.seq ?_
      have hS7 := SH.drew hL1
      refine WC.regionD [] (fun w_ => KB No w3.drew w_) [(.pure, 0), (.pure, 1), (.pure, 2), (.look, 3), (.pure, 4), (.pure, 5), (.pure, 6), (.pure, 7), (.look, 8), (.pure, 9), (.pure, 10)] (by kernel_rfl) (by kernel_rfl) (KB.refl _ _) ?_
      iterate 2 refine WS.pure rfl rfl (fun _ => LV.mv rfl) ?_
      obtain ⟨A3, c3, A4, c4, e1, g1, e2, r1⟩ := St.eltRR (SH.rdRR hS7 (.tail _ (.tail _ (.head _)))) default i (by omega) (by omega)
      refine WS.pure rfl rfl (fun _ => LV.idxA Try.underlying24 ti28.sz rfl e1 rfl (by omega) (by omega)) ?_
      refine WS.look rfl rfl (fun _ hk_ => LV.load1 Try.underlying28 rfl rfl (g1 _ hk_)) ?_
      refine WS.pure rfl rfl (fun _ => LV.lenL Try.underlying28 rfl) ?_
      iterate 2 refine WS.pure rfl rfl (fun _ => LV.mv rfl) ?_
      obtain ⟨A5, c5, A6, c6, e3, g2, e4, r2⟩ := St.eltRR (St.rrOf (rows := rowsf) (SH.rd hS7 (.tail _ (.tail _ (.tail _ (.head _))))) (SH.stN hS7 hinf)) default i (by omega) (by omega)
      refine WS.pure rfl rfl (fun _ => LV.idxA Try.underlying22 ti31.sz rfl e3 rfl (by omega) (by omega)) ?_
      refine WS.look rfl rfl (fun _ hk_ => LV.load1 Try.underlying31 rfl rfl (g2 _ hk_)) ?_
      refine WS.pure rfl rfl (fun _ => LV.lenL Try.underlying31 rfl) ?_
      refine WS.pure rfl rfl (fun _ => LV.neI rfl rfl) ?_
      refine WS.nil (thenQ.n ?_)
      refine WC.condP (p := ((rows1.getD (i).toNat default).2.length : Int) ≠ ((rowsf.getD (i).toNat default).2.length : Int)) rfl (fun hc2 => ?_) (fun hc2 => ?_)
      · exfalso; omega
      · skip
        refine WC.skip (thenQ.n ?_)
        refine WC.seq ?_
        refine WC.region ?_
        refine WL.lv rfl (LV.asg rfl) ?_
        refine WL.nil (thenQ.n ?_)
        refine WC.block ?_
        refine WC.loop (fun m_ f_ w_ => ∃ (A_lines2 : Option Addr) (c_lines2 : Nat) (lines2 : List Ln) (A_numbers2 : Option Addr) (c_numbers2 : Nat) (numbers2 : List Int) (top2 : Int) (k : Int), (NumOK (kvAt (rowsf.map (·.2)) i k) lines2 numbers2) ∧ (top2 = ((kvAt (rowsf.map (·.2)) i k).length : Int)) ∧ ((lines2.length : Int) = lines.length + k) ∧ (numbers2.length = lines2.length) ∧ (0 ≤ top2 ∧ top2 ≤ 60 * i + k) ∧ (0 ≤ k) ∧ (k ≤ (rowsf.getD i.toNat default).2.length) ∧ SH w No w_ [rowE eI 3 (.slice A_numbers2 numbers2.length c_numbers2) numbers2, rowE eL 33 (.slice A_lines2 lines2.length c_lines2) lines2, rrE eI 28 3 (.slice A2 rows1.length c2) rows1, rowE eV 31 (.slice A1 rowsf.length c1) (rowsf.map (fun p : SV × List Ln => p.1))] ∧ m_ = ((((rowsf.getD i.toNat default).2.length : Int) - k).toNat) ∧ Weak (lit [(3, (.slice A1 rowsf.length c1)), (4, (.slice A2 rows1.length c2)), (5, (.slice A_lines2 lines2.length c_lines2)), (6, (.slice A_numbers2 numbers2.length c_numbers2)), (7, (.int .i64 top2)), (8, (.int .i64 i)), (9, (.int .i64 k))]) f_) _ ⟨A_lines, c_lines, lines, A_numbers, c_numbers, numbers, top, 0, z1, z2, by omega, z4, by omega, by omega, by omega, hS7, rfl, Weak.cons rfl <| Weak.cons rfl <| Weak.cons rfl <| Weak.cons rfl <| Weak.cons rfl <| Weak.cons rfl <| Weak.cons rfl <| Weak.nil _⟩ ?_
        rintro m2 f2 w4 ⟨A_lines2, c_lines2, lines2, A_numbers2, c_numbers2, numbers2, top2, k, y1, y2, y3, y4, y5, klo, khi, hL2, rfl, hw2⟩
        refine WC.weak hw2 ?_
        clear hw2
        iterate 2 refine WC.seq ?_
        refine WC.region ?_
        iterate 3 refine WL.lv rfl (LV.mv rfl) ?_
        obtain ⟨A7, c7, A8, c8, e5, g3, e6, r3⟩ := St.eltRR (St.rrOf (rows := rowsf) (SH.rd hL2 (.tail _ (.tail _ (.tail _ (.head _))))) (SH.stN hL2 hinf)) default i (by omega) (by omega)
        refine WL.lv rfl (LV.idxA Try.underlying22 ti31.sz rfl e5 rfl (by omega) (by omega)) ?_
        refine WL.lv rfl (LV.load1 Try.underlying31 rfl rfl (g3 _ (KB.refl No _))) ?_
        refine WL.lv rfl (LV.lenL Try.underlying31 rfl) ?_
        refine WL.lv rfl (LV.ltI rfl rfl) ?_
        refine WL.nil (thenQ.n ?_)
        refine WC.condP (p := k < ((rowsf.getD (i).toNat default).2.length : Int)) rfl (fun hk2 => ?_) (fun hk2 => ?_)
        · have hnk_ := num_ik hri_ ilo hk klo hk2
          have hst_ := kv_ik ilo hk klo hk2
          have hnb_ := nn_bd (kvAt_ok (rowsf.map (·.2)) i k) ((rowsf.getD i.toNat default).2.getD k.toNat lnD)
          rw [← hnk_] at hnb_
          refine WC.skip (thenQ.n ?_)
          refine WC.seq ?_
          refine WC.block ?_
          iterate 2 refine WC.seq ?_
          refine WC.region ?_
          iterate 2 refine WL.lv rfl (LV.mv rfl) ?_
          obtain ⟨A9, c9, A10, c10, e7, g4, e8, r4⟩ := St.eltRR (SH.rdRR hL2 (.tail _ (.tail _ (.head _)))) default i (by omega) (by omega)
          refine WL.lv rfl (LV.idxA Try.underlying24 ti28.sz rfl e7 rfl (by omega) (by omega)) ?_
          refine WL.lv rfl (LV.load1 Try.underlying28 rfl rfl (g4 _ (KB.refl No _))) ?_
          refine WL.lv rfl (LV.mv rfl) ?_
          obtain ⟨A11, c11, e9, g5⟩ := St.elt (St.inner (SH.rdRR hL2 (.tail _ (.tail _ (.head _)))) (getD_mem (by omega)) e8) 0 k (by omega) (by omega)
          refine WL.lv rfl (LV.idxA Try.underlying28 ti3.sz rfl e9 rfl (by omega) (by omega)) ?_
          refine WL.lv rfl (LV.load1 (v := (.int .i64 (gI ((rows1.getD (i).toNat default).2) (k)))) Try.underlying3 rfl rfl (g5 _ (KB.refl No _) 0 _ rfl)) ?_
          refine WL.lv rfl (LV.mv rfl) ?_
          refine WL.lv rfl (LV.as (LV.gtI rfl rfl) (decide_eq_false (by omega))) ?_
          iterate 3 refine WL.lv rfl (LV.mv rfl) ?_
          obtain ⟨A12, c12, A13, c13, e10, g6, e11, r5⟩ := St.eltRR (SH.rdRR hL2 (.tail _ (.tail _ (.head _)))) default i (by omega) (by omega)
          refine WL.lv rfl (LV.idxA Try.underlying24 ti28.sz rfl e10 rfl (by omega) (by omega)) ?_
          refine WL.lv rfl (LV.load1 Try.underlying28 rfl rfl (g6 _ (KB.refl No _))) ?_
          refine WL.lv rfl (LV.mv rfl) ?_
          obtain ⟨A14, c14, e12, g7⟩ := St.elt (St.inner (SH.rdRR hL2 (.tail _ (.tail _ (.head _)))) (getD_mem (by omega)) e11) 0 k (by omega) (by omega)
          refine WL.lv rfl (LV.idxA Try.underlying28 ti3.sz rfl e12 rfl (by omega) (by omega)) ?_
          refine WL.lv rfl (LV.load1 (v := (.int .i64 (gI ((rows1.getD (i).toNat default).2) (k)))) Try.underlying3 rfl rfl (g7 _ (KB.refl No _) 0 _ rfl)) ?_
          refine WL.lv rfl (LV.as (LV.ltI rfl rfl) (decide_eq_false (by omega))) ?_
          refine WL.lv rfl (LV.pickF rfl rfl) ?_
          refine WL.nil (thenQ.n ?_)
          refine WC.condF rfl ?_
          refine WC.skip (thenQ.n ?_)
          refine WC.seq ?_
          refine WC.region ?_
          iterate 3 refine WL.lv rfl (LV.mv rfl) ?_
          obtain ⟨A15, c15, A16, c16, e13, g8, e14, r6⟩ := St.eltRR (SH.rdRR hL2 (.tail _ (.tail _ (.head _)))) default i (by omega) (by omega)
          refine WL.lv rfl (LV.idxA Try.underlying24 ti28.sz rfl e13 rfl (by omega) (by omega)) ?_
          refine WL.lv rfl (LV.load1 Try.underlying28 rfl rfl (g8 _ (KB.refl No _))) ?_
          refine WL.lv rfl (LV.mv rfl) ?_
          obtain ⟨A17, c17, e15, g9⟩ := St.elt (St.inner (SH.rdRR hL2 (.tail _ (.tail _ (.head _)))) (getD_mem (by omega)) e14) 0 k (by omega) (by omega)
          refine WL.lv rfl (LV.idxA Try.underlying28 ti3.sz rfl e15 rfl (by omega) (by omega)) ?_
          refine WL.lv rfl (LV.load1 (v := (.int .i64 (gI ((rows1.getD (i).toNat default).2) (k)))) Try.underlying3 rfl rfl (g9 _ (KB.refl No _) 0 _ rfl)) ?_
          refine WL.lv rfl (LV.add rfl rfl (wr64 (by omega) (by omega))) ?_
          refine WL.lv rfl (LV.maxI rfl rfl) ?_
          refine WL.lv rfl (LV.asg rfl) ?_
          refine WL.nil (thenQ.n ?_)
          refine WC.seq ?_
          refine WC.region ?_
          iterate 3 refine WL.lv rfl (LV.mv rfl) ?_
          obtain ⟨A18, c18, A19, c19, e16, g10, e17, r7⟩ := St.eltRR (St.rrOf (rows := rowsf) (SH.rd hL2 (.tail _ (.tail _ (.tail _ (.head _))))) (SH.stN hL2 hinf)) default i (by omega) (by omega)
          refine WL.lv rfl (LV.idxA Try.underlying22 ti31.sz rfl e16 rfl (by omega) (by omega)) ?_
          refine WL.lv rfl (LV.load1 Try.underlying31 rfl rfl (g10 _ (KB.refl No _))) ?_
          refine WL.lv rfl (LV.mv rfl) ?_
          obtain ⟨A20, c20, e18, g11⟩ := St.elt (St.inner (St.rrOf (rows := rowsf) (SH.rd hL2 (.tail _ (.tail _ (.tail _ (.head _))))) (SH.stN hL2 hinf)) (getD_mem (by omega)) e17) lnD k (by omega) (by omega)
          refine WL.lv rfl (LV.idxA Try.underlying31 ti33.sz rfl e18 rfl (by omega) (by omega)) ?_
          refine WL.lv rfl (LV.loadAgg (cs := [(.string ((((rowsf.getD (i).toNat default).2).getD (k).toNat lnD).1)), (.bool ((((rowsf.getD (i).toNat default).2).getD (k).toNat lnD).2))]) Try.underlying33 rfl ti33 rfl rfl (fun j u hu => g11 _ (KB.refl No _) j u hu)) ?_
          refine WL.xe rfl (XE.buildSlice (E := eL) [(0, (.agg #[(.string ((((rowsf.getD (i).toNat default).2).getD (k).toNat lnD).1)), (.bool ((((rowsf.getD (i).toNat default).2).getD (k).toNat lnD).2))]))] #[(.string ((((rowsf.getD (i).toNat default).2).getD (k).toNat lnD).1)), (.bool ((((rowsf.getD (i).toNat default).2).getD (k).toNat lnD).2))] [((rowsf.getD (i).toNat default).2).getD (k).toNat lnD] hL2 Try.underlying31 ti33 rfl (by decide) (by kernel_rfl) (.inr rfl) rfl rfl (by decide)) ?_
          rintro _ w5 ⟨b1, rfl, hS8, hk1⟩
          have hS9 : SH w No w5 [rowE eL 33 (.slice A_lines2 lines2.length c_lines2) lines2, rowE eL 33 (.slice (some ⟨b1, 0, none⟩) 1 1) [((rowsf.getD (i).toNat default).2).getD (k).toNat lnD], rowE eI 3 (.slice A_numbers2 numbers2.length c_numbers2) numbers2, rrE eI 28 3 (.slice A2 rows1.length c2) rows1, rowE eV 31 (.slice A1 rowsf.length c1) (rowsf.map (fun p : SV × List Ln => p.1))] := (SH.front [rowE eL 33 (.slice (some ⟨b1, 0, none⟩) 1 1) [((rowsf.getD (i).toNat default).2).getD (k).toNat lnD], rowE eI 3 (.slice A_numbers2 numbers2.length c_numbers2) numbers2] hS8)
          refine WL.xe rfl (XE.append hS9 Try.underlying31 ti33 rfl (St.now (SH.rd hS9 (.tail _ (.head _)))) rfl rfl (by first | omega | simp only [List.length_append, List.length_cons, List.length_nil, List.length_take, List.length_reverse, List.length_drop] at *; omega) (by first | omega | simp only [List.length_append, List.length_cons, List.length_nil, List.length_take, List.length_reverse, List.length_drop] at *; omega)) ?_
          rintro _ w6 ⟨A21, c21, rfl, hS10, hk2⟩
          refine WL.lv rfl (LV.asg rfl) ?_
          refine WL.nil (thenQ.n ?_)
          refine WC.region ?_
          iterate 3 refine WL.lv rfl (LV.mv rfl) ?_
          obtain ⟨A22, c22, A23, c23, e19, g12, e20, r8⟩ := St.eltRR (SH.rdRR hS10 (.tail _ (.tail _ (.tail _ (.head _))))) default i (by omega) (by omega)
          refine WL.lv rfl (LV.idxA Try.underlying24 ti28.sz rfl e19 rfl (by omega) (by omega)) ?_
          refine WL.lv rfl (LV.load1 Try.underlying28 rfl rfl (g12 _ (KB.refl No _))) ?_
          refine WL.lv rfl (LV.mv rfl) ?_
          obtain ⟨A24, c24, e21, g13⟩ := St.elt (St.inner (SH.rdRR hS10 (.tail _ (.tail _ (.tail _ (.head _))))) (getD_mem (by omega)) e20) 0 k (by omega) (by omega)
          refine WL.lv rfl (LV.idxA Try.underlying28 ti3.sz rfl e21 rfl (by omega) (by omega)) ?_
          refine WL.lv rfl (LV.load1 (v := (.int .i64 (gI ((rows1.getD (i).toNat default).2) (k)))) Try.underlying3 rfl rfl (g13 _ (KB.refl No _) 0 _ rfl)) ?_
          refine WL.xe rfl (XE.buildSlice (E := eI) [(0, (.int .i64 (gI ((rows1.getD (i).toNat default).2) (k))))] #[(.int .i64 (gI ((rows1.getD (i).toNat default).2) (k)))] [gI ((rows1.getD (i).toNat default).2) (k)] hS10 Try.underlying28 ti3 rfl (by decide) (by kernel_rfl) (.inr rfl) rfl rfl (by decide)) ?_
          rintro _ w7 ⟨b2, rfl, hS11, hk3⟩
          have hS12 : SH w No w7 [rowE eI 3 (.slice A_numbers2 numbers2.length c_numbers2) numbers2, rowE eI 3 (.slice (some ⟨b2, 0, none⟩) 1 1) [gI ((rows1.getD (i).toNat default).2) (k)], rowE eL 33 (.slice A21 ((lines2 ++ [((rowsf.getD (i).toNat default).2).getD (k).toNat lnD]).length) c21) (lines2 ++ [((rowsf.getD (i).toNat default).2).getD (k).toNat lnD]), rowE eL 33 (.slice (some ⟨b1, 0, none⟩) 1 1) [((rowsf.getD (i).toNat default).2).getD (k).toNat lnD], rrE eI 28 3 (.slice A2 rows1.length c2) rows1, rowE eV 31 (.slice A1 rowsf.length c1) (rowsf.map (fun p : SV × List Ln => p.1))] := (SH.front [rowE eI 3 (.slice (some ⟨b2, 0, none⟩) 1 1) [gI ((rows1.getD (i).toNat default).2) (k)], rowE eL 33 (.slice A21 ((lines2 ++ [((rowsf.getD (i).toNat default).2).getD (k).toNat lnD]).length) c21) (lines2 ++ [((rowsf.getD (i).toNat default).2).getD (k).toNat lnD]), rowE eL 33 (.slice (some ⟨b1, 0, none⟩) 1 1) [((rowsf.getD (i).toNat default).2).getD (k).toNat lnD]] hS11)
          refine WL.xe rfl (XE.append hS12 Try.underlying28 ti3 rfl (St.now (SH.rd hS12 (.tail _ (.head _)))) rfl rfl (by first | omega | simp only [List.length_append, List.length_cons, List.length_nil, List.length_take, List.length_reverse, List.length_drop] at *; omega) (by first | omega | simp only [List.length_append, List.length_cons, List.length_nil, List.length_take, List.length_reverse, List.length_drop] at *; omega)) ?_
          rintro _ w8 ⟨A25, c25, rfl, hS13, hk4⟩
          refine WL.lv rfl (LV.asg rfl) ?_
          refine WL.nil (blockQ.n <| thenQ.n ?_)
          refine WC.region ?_
          refine WL.lv rfl (LV.mv rfl) ?_
          refine WL.lv rfl (LV.add rfl rfl (wr64 (by omega) (by omega))) ?_
          refine WL.lv rfl (LV.asg rfl) ?_
          refine WL.nil (thenQ.n ?_)
          have hS14 : SH w No w8 [rowE eI 3 (.slice A25 ((numbers2 ++ [gI ((rows1.getD (i).toNat default).2) (k)]).length) c25) (numbers2 ++ [gI ((rows1.getD (i).toNat default).2) (k)]), rowE eL 33 (.slice A21 ((lines2 ++ [((rowsf.getD (i).toNat default).2).getD (k).toNat lnD]).length) c21) (lines2 ++ [((rowsf.getD (i).toNat default).2).getD (k).toNat lnD]), rrE eI 28 3 (.slice A2 rows1.length c2) rows1, rowE eV 31 (.slice A1 rowsf.length c1) (rowsf.map (fun p : SV × List Ln => p.1))] := (SH.take 4 rfl (SH.front [rowE eL 33 (.slice A21 ((lines2 ++ [((rowsf.getD (i).toNat default).2).getD (k).toNat lnD]).length) c21) (lines2 ++ [((rowsf.getD (i).toNat default).2).getD (k).toNat lnD]), rrE eI 28 3 (.slice A2 rows1.length c2) rows1, rowE eV 31 (.slice A1 rowsf.length c1) (rowsf.map (fun p : SV × List Ln => p.1))] (SH.front [rrE eI 28 3 (.slice A2 rows1.length c2) rows1, rowE eV 31 (.slice A1 rowsf.length c1) (rowsf.map (fun p : SV × List Ln => p.1)), rowE eI 3 (.slice A25 ((numbers2 ++ [gI ((rows1.getD (i).toNat default).2) (k)]).length) c25) (numbers2 ++ [gI ((rows1.getD (i).toNat default).2) (k)]), rowE eI 3 (.slice (some ⟨b2, 0, none⟩) 1 1) [gI ((rows1.getD (i).toNat default).2) (k)]] (SH.front [rowE eV 31 (.slice A1 rowsf.length c1) (rowsf.map (fun p : SV × List Ln => p.1)), rowE eI 3 (.slice A25 ((numbers2 ++ [gI ((rows1.getD (i).toNat default).2) (k)]).length) c25) (numbers2 ++ [gI ((rows1.getD (i).toNat default).2) (k)]), rowE eI 3 (.slice (some ⟨b2, 0, none⟩) 1 1) [gI ((rows1.getD (i).toNat default).2) (k)], rowE eL 33 (.slice A21 ((lines2 ++ [((rowsf.getD (i).toNat default).2).getD (k).toNat lnD]).length) c21) (lines2 ++ [((rowsf.getD (i).toNat default).2).getD (k).toNat lnD]), rowE eL 33 (.slice (some ⟨b1, 0, none⟩) 1 1) [((rowsf.getD (i).toNat default).2).getD (k).toNat lnD]] (SH.front [rowE eI 3 (.slice A25 ((numbers2 ++ [gI ((rows1.getD (i).toNat default).2) (k)]).length) c25) (numbers2 ++ [gI ((rows1.getD (i).toNat default).2) (k)]), rowE eI 3 (.slice (some ⟨b2, 0, none⟩) 1 1) [gI ((rows1.getD (i).toNat default).2) (k)], rowE eL 33 (.slice A21 ((lines2 ++ [((rowsf.getD (i).toNat default).2).getD (k).toNat lnD]).length) c21) (lines2 ++ [((rowsf.getD (i).toNat default).2).getD (k).toNat lnD]), rowE eL 33 (.slice (some ⟨b1, 0, none⟩) 1 1) [((rowsf.getD (i).toNat default).2).getD (k).toNat lnD], rrE eI 28 3 (.slice A2 rows1.length c2) rows1] hS13)))))
          exact ⟨_, by omega, A21, c21, (lines2 ++ [((rowsf.getD (i).toNat default).2).getD (k).toNat lnD]), A25, c25, (numbers2 ++ [gI ((rows1.getD (i).toNat default).2) (k)]), max top2 ((gI ((rows1.getD (i).toNat default).2) (k)) + 1), k + 1, (by rw [hst_, hnk_]; exact y1.snoc _), (by rw [hst_, nk_len (kvAt_ok _ _ _), ← hnk_, ← y2]), (by simp; omega), (by simp; exact y4), by omega, by omega, by omega, hS14, rfl, Weak.cons rfl <| Weak.cons rfl <| Weak.cons rfl <| Weak.cons rfl <| Weak.cons rfl <| Weak.cons rfl <| Weak.cons rfl <| Weak.nil _⟩
        · skip
          refine WC.exit (thenQ.x <| thenQ.x <| blockQ.hit <| blockQ.n <| thenQ.n ?_)
          refine WC.region ?_
          refine WL.lv rfl (LV.mv rfl) ?_
          refine WL.lv rfl (LV.add rfl rfl (wr64 (by omega) (by omega))) ?_
          refine WL.lv rfl (LV.asg rfl) ?_
          refine WL.nil (thenQ.n ?_)
          exact ⟨_, by omega, A_lines2, c_lines2, lines2, A_numbers2, c_numbers2, numbers2, top2, i + 1, by omega, by omega, (by rw [kv_i ilo hk (show _ ≤ k by omega)]; exact y1), (by rw [kv_i ilo hk (show _ ≤ k by omega)]; exact y2), by omega, y1.1, by omega, hL2, rfl, Weak.cons rfl <| Weak.cons rfl <| Weak.cons rfl <| Weak.cons rfl <| Weak.cons rfl <| Weak.cons rfl <| Weak.nil _⟩
    · skip
      refine WC.exit (thenQ.x <| thenQ.x <| blockQ.hit <| thenQ.n ?_)
      iterate 2 refine WC.seq ?_
      refine WC.region ?_
      refine WL.lv rfl (LV.asg rfl) ?_
      refine WL.nil (thenQ.n ?_)
      refine WC.block ?_
      refine WC.loop (fun m_ f_ w_ => ∃ (i2 : Int), (0 ≤ i2) ∧ (i2 ≤ (lines.length : Int)) ∧ SH w No w_ [rowE eI 3 (.slice A_numbers numbers.length c_numbers) numbers, rowE eL 33 (.slice A_lines lines.length c_lines) lines, rrE eI 28 3 (.slice A2 rows1.length c2) rows1, rowE eV 31 (.slice A1 rowsf.length c1) (rowsf.map (fun p : SV × List Ln => p.1))] ∧ m_ = (((lines.length : Int) - i2).toNat) ∧ Weak (lit [(5, (.slice A_lines lines.length c_lines)), (6, (.slice A_numbers numbers.length c_numbers)), (10, (.int .i64 i2))]) f_) _ ⟨0, by omega, by omega, hL1, rfl, Weak.cons rfl <| Weak.cons rfl <| Weak.cons rfl <| Weak.nil _⟩ ?_
      rintro m3 f3 w9 ⟨i2, i2lo, i2hi, hL3, rfl, hw3⟩
      refine WC.weak hw3 ?_
      clear hw3
      iterate 2 refine WC.seq ?_
      refine WC.region ?_
      iterate 2 refine WL.lv rfl (LV.mv rfl) ?_
      refine WL.lv rfl (LV.lenL Try.underlying31 rfl) ?_
      refine WL.lv rfl (LV.ltI rfl rfl) ?_
      refine WL.nil (thenQ.n ?_)
      refine WC.condP (p := i2 < (lines.length : Int)) rfl (fun hk3 => ?_) (fun hk3 => ?_)
      · skip
        refine WC.skip (thenQ.n ?_)
        refine WC.seq ?_
        refine WC.block ?_
        refine WC.seq ?_
        refine WC.region ?_
        refine WL.lv rfl (LV.asg rfl) ?_
        refine WL.nil (thenQ.n ?_)
        refine WC.block ?_
        refine WC.loop (fun m_ f_ w_ => ∃ (k2 : Int), (0 ≤ k2) ∧ (k2 ≤ i2) ∧ SH w No w_ [rowE eI 3 (.slice A_numbers numbers.length c_numbers) numbers, rowE eL 33 (.slice A_lines lines.length c_lines) lines, rrE eI 28 3 (.slice A2 rows1.length c2) rows1, rowE eV 31 (.slice A1 rowsf.length c1) (rowsf.map (fun p : SV × List Ln => p.1))] ∧ m_ = ((i2 - k2).toNat) ∧ Weak (lit [(5, (.slice A_lines lines.length c_lines)), (6, (.slice A_numbers numbers.length c_numbers)), (10, (.int .i64 i2)), (11, (.int .i64 k2))]) f_) _ ⟨0, by omega, by omega, hL3, rfl, Weak.cons rfl <| Weak.cons rfl <| Weak.cons rfl <| Weak.cons rfl <| Weak.nil _⟩ ?_
        rintro m4 f4 w10 ⟨k2, k2lo, k2hi, hL4, rfl, hw4⟩
        refine WC.weak hw4 ?_
        clear hw4
        iterate 2 refine WC.seq ?_
        refine WC.region ?_
        iterate 2 refine WL.lv rfl (LV.mv rfl) ?_
        refine WL.lv rfl (LV.ltI rfl rfl) ?_
        refine WL.nil (thenQ.n ?_)
        refine WC.condP (p := k2 < i2) rfl (fun hk4 => ?_) (fun hk4 => ?_)
        · skip
          refine WC.skip (thenQ.n ?_)
          refine WC.seq ?_
          refine WC.block ?_
          refine WC.seq ?_
          have hS15 := SH.drew hL4
          refine WC.regionD [] (fun w_ => KB No w10.drew w_) [(.pure, 0), (.pure, 1), (.pure, 2), (.look, 3), (.pure, 4), (.pure, 5), (.pure, 6), (.look, 7), (.pure, 8), (.pure, 9), (.pure, 10), (.pure, 11), (.look, 12), (.pure, 13), (.pure, 14), (.pure, 15), (.look, 16), (.pure, 17), (.pure, 18)] (by kernel_rfl) (by kernel_rfl) (KB.refl _ _) ?_
          iterate 2 refine WS.pure rfl rfl (fun _ => LV.mv rfl) ?_
          obtain ⟨A26, c26, e22, g14⟩ := St.elt (SH.rd hS15 (.tail _ (.head _))) lnD i2 (by omega) (by omega)
          refine WS.pure rfl rfl (fun _ => LV.idxA Try.underlying31 ti33.sz rfl e22 rfl (by omega) (by omega)) ?_
          refine WS.look rfl rfl (fun _ hk_ => LV.loadAgg (cs := [(.string ((lines.getD (i2).toNat lnD).1)), (.bool ((lines.getD (i2).toNat lnD).2))]) Try.underlying33 rfl ti33 rfl rfl (fun j u hu => g14 _ hk_ j u hu)) ?_
          iterate 2 refine WS.pure rfl rfl (fun _ => LV.mv rfl) ?_
          obtain ⟨A27, c27, e23, g15⟩ := St.elt (SH.rd hS15 (.tail _ (.head _))) lnD k2 (by omega) (by omega)
          refine WS.pure rfl rfl (fun _ => LV.idxA Try.underlying31 ti33.sz rfl e23 rfl (by omega) (by omega)) ?_
          refine WS.look rfl rfl (fun _ hk_ => LV.loadAgg (cs := [(.string ((lines.getD (k2).toNat lnD).1)), (.bool ((lines.getD (k2).toNat lnD).2))]) Try.underlying33 rfl ti33 rfl rfl (fun j u hu => g15 _ hk_ j u hu)) ?_
          refine WS.pure rfl rfl (fun _ => LV.eqLn Try.underlying33 Try.underlying9 Try.underlying4 (by decide) (by kernel_rfl) (by kernel_rfl) rfl rfl) ?_
          iterate 2 refine WS.pure rfl rfl (fun _ => LV.mv rfl) ?_
          obtain ⟨A28, c28, e24, g16⟩ := St.elt (SH.rd hS15 (.head _)) 0 i2 (by omega) (by omega)
          refine WS.pure rfl rfl (fun _ => LV.idxA Try.underlying28 ti3.sz rfl e24 rfl (by omega) (by omega)) ?_
          refine WS.look rfl rfl (fun _ hk_ => LV.load1 (v := (.int .i64 (gI numbers (i2)))) Try.underlying3 rfl rfl (g16 _ hk_ 0 _ rfl)) ?_
          iterate 2 refine WS.pure rfl rfl (fun _ => LV.mv rfl) ?_
          obtain ⟨A29, c29, e25, g17⟩ := St.elt (SH.rd hS15 (.head _)) 0 k2 (by omega) (by omega)
          refine WS.pure rfl rfl (fun _ => LV.idxA Try.underlying28 ti3.sz rfl e25 rfl (by omega) (by omega)) ?_
          refine WS.look rfl rfl (fun _ hk_ => LV.load1 (v := (.int .i64 (gI numbers (k2)))) Try.underlying3 rfl rfl (g17 _ hk_ 0 _ rfl)) ?_
          refine WS.pure rfl rfl (fun _ => LV.eqI rfl rfl) ?_
          refine WS.pure rfl rfl (fun _ => LV.as (c := false) (LV.neB Try.underlying4 rfl rfl) (NumOK.ne (kvAt_ok _ _ _) z1 i2lo hk3 k2lo (by omega))) ?_
          refine WS.nil (thenQ.n ?_)
          refine WC.condF rfl ?_
          refine WC.skip (blockQ.n <| thenQ.n ?_)
          refine WC.region ?_
          refine WL.lv rfl (LV.mv rfl) ?_
          refine WL.lv rfl (LV.add rfl rfl (wr64 (by omega) (by omega))) ?_
          refine WL.lv rfl (LV.asg rfl) ?_
          refine WL.nil (thenQ.n ?_)
          exact ⟨_, by omega, k2 + 1, by omega, by omega, hS15, rfl, Weak.cons rfl <| Weak.cons rfl <| Weak.cons rfl <| Weak.cons rfl <| Weak.nil _⟩
        · skip
          refine WC.exit (thenQ.x <| thenQ.x <| blockQ.hit <| blockQ.n <| thenQ.n ?_)
          refine WC.region ?_
          refine WL.lv rfl (LV.mv rfl) ?_
          refine WL.lv rfl (LV.add rfl rfl (wr64 (by omega) (by omega))) ?_
          refine WL.lv rfl (LV.asg rfl) ?_
          refine WL.nil (thenQ.n ?_)
          exact ⟨_, by omega, i2 + 1, by omega, by omega, hL4, rfl, Weak.cons rfl <| Weak.cons rfl <| Weak.cons rfl <| Weak.nil _⟩
      · skip
        refine WC.exit (thenQ.x <| thenQ.x <| blockQ.hit <| thenQ.n ?_)
        refine WC.seq ?_
        refine WC.region ?_
        refine WL.call rfl (XC.fn Try.func12 (by kernel_rfl) rfl rfl rfl) (live06_calls  ) ?_
        rintro v_ w11 ⟨rfl, hk5⟩
        have hS16 := SH.same hL3 hk5
        refine WL.lv rfl (LV.asg rfl) ?_
        refine WL.nil (thenQ.n ?_)
        refine WC.ret (?_)
        exact ⟨_, fun a ha => res1 rfl ha rfl, rfl, hS16.kb⟩

end Go.Proofs.Ytpgpiljnmhpnhaa
