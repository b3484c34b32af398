/- Steps. -/
import Derived.Test.YtjjilkibcomfcaaPaF
import Derived.Test.YtjjilkibcomfcaaPaW
namespace Go.Proofs.Ytjjilkibcomfcaa
open Go Go.Gv Go.RowKit Go.Mys Go.Itn Go.Pat Go.Shelf Go.Lib
set_option linter.unusedVariables false
set_option linter.unusedSimpArgs false

set_option maxHeartbeats 1000000 in
theorem steps27_calls {w : World} {A_a : Option Addr} {n_a c_a : Nat} {a : List Int} {A_b : Option Addr} {n_b c_b : Nat} {b : List Int} (h_a : St No w (Rd eI (.slice A_a n_a c_a) a)) (hn_a : a.length = n_a) (h_b : St No w (Rd eI (.slice A_b n_b c_b) b)) (hn_b : b.length = n_b)  :
    Calls Try.prog 28 #[(.slice A_a n_a c_a), (.slice A_b n_b c_b)] w fun e w' => ∃ v, e = .returned v ∧ (fun v w' => ∃ (A0' : Option Addr) (c0' : Nat), v = .slice A0' (STP a b).length c0' ∧ SH w No w' [rowE eI 47 (.slice A0' (STP a b).length c0') (STP a b)]) v w' := by
  subst hn_a hn_b
  have hS : SH w No w [] := SH.nil _ _
  refine calls (l := litOf [(.slice A_a a.length c_a), (.slice A_b b.length c_b)] 0) Try.func28 rfl (n := 63) rfl (Nat.le_of_ble_eq_true rfl) (lit_args _) ?_
  refine WC.seq ?_
  refine WC.region ?_
  refine WL.lv rfl (LV.asg rfl) ?_
  refine WL.nil (thenQ.n ?_)
  iterate 2 refine WC.seq ?_
  refine WC.region ?_
  iterate 2 refine WL.lv rfl (LV.mv rfl) ?_
  refine WL.call rfl (XC.fn Try.func37 (by kernel_rfl) rfl rfl rfl) (long_calls) ?_
  rintro v_ w1 ⟨rfl, hk1⟩
  have hS1 := SH.same hS hk1
  refine WL.nil (thenQ.n ?_)
  refine WC.condP (p := a.length > 400 ∨ b.length > 400) rfl (fun hlong => ?_) (fun hlong => ?_)
  · skip
    refine WC.seq ?_
    refine WC.region ?_
    refine WL.lv rfl (LV.asg rfl) ?_
    refine WL.nil (thenQ.n ?_)
    refine WC.ret (thenQ.r <| ?_)
    have hS2 := SH.nilRow (E := eI) (T := 47) hS1
    have hres1 : ([] : List Int) = STP a b := (if_pos hlong).symm
    exact ⟨_, fun a ha => res1 rfl ha rfl, (by rw [← hres1]; exact ⟨_, _, rfl, hS2⟩)⟩
  · have hpr : PRS a b = PR a b := if_neg hlong
    have hup := PR_up a b
    rw [← hpr] at hup
    have hpl_ := hup.len
    refine WC.skip (thenQ.n ?_)
    refine WC.seq ?_
    refine WC.region ?_
    have hS3 := SH.nilRow (E := eI) (T := 47) hS1
    refine WL.lv rfl (LV.asg rfl) ?_
    refine WL.nil (thenQ.n ?_)
    refine WC.seq ?_
    refine WC.region ?_
    iterate 2 refine WL.lv rfl (LV.asg rfl) ?_
    refine WL.nil (thenQ.n ?_)
    refine WC.seq ?_
    refine WC.region ?_
    iterate 2 refine WL.lv rfl (LV.mv rfl) ?_
    refine WL.call rfl (XC.fn Try.func38 (by kernel_rfl) rfl rfl rfl) (pairs27_calls  (SH.stN hS3 h_a) rfl (SH.stN hS3 h_b) rfl ) ?_
    rintro v_ w2 ⟨A1, c1, rfl, hS4⟩
    have hS5 := SH.joinN hS3 hS4
    refine WL.lv rfl (LV.asg rfl) ?_
    refine WL.nil (thenQ.n ?_)
    iterate 2 refine WC.seq ?_
    refine WC.region ?_
    refine WL.lv rfl (LV.mv rfl) ?_
    refine WL.lv rfl (LV.lenL Try.underlying63 rfl) ?_
    refine WL.lv rfl (LV.mv rfl) ?_
    refine WL.nil (thenQ.n ?_)
    refine WC.block ?_
    refine WC.loop (fun m_ f_ w_ => ∃ (A_out : Option Addr) (c_out : Nat) (out : List Int) (x : Int) (y : Int) (ix : Int), (0 ≤ ix) ∧ (ix ≤ ((PRS a b).length : Int)) ∧ (out ++ stp a.length b.length ((PRS a b).drop ix.toNat) x y = STP a b) ∧ (0 ≤ x) ∧ (x ≤ a.length) ∧ (0 ≤ y) ∧ (y ≤ b.length) ∧ (∀ t : Int, ix ≤ t → t < (PRS a b).length → x ≤ ((PRS a b).getD t.toNat (0, 0)).1 ∧ y ≤ ((PRS a b).getD t.toNat (0, 0)).2) ∧ ((out.length : Int) ≤ x + y) ∧ SH w No w_ [rowE eP 65 (.slice A1 ((PRS a b).length) c1) (PRS a b), rowE eI 47 (.slice A_out out.length c_out) out] ∧ m_ = ((((PRS a b).length : Int) - ix).toNat) ∧ Weak (lit [(0, (.slice A_a a.length c_a)), (1, (.slice A_b b.length c_b)), (5, (.slice A_out out.length c_out)), (6, (.int .i64 x)), (7, (.int .i64 y)), (8, (.slice A1 ((PRS a b).length) c1)), (19, (.int .i64 ((PRS a b).length : Int))), (20, (.int .i64 ix))]) f_) _ ⟨none, 0, [], 0, 0, 0, by omega, by omega, (by rw [STP_len a b hlong, ← hpr]; rfl), by omega, by omega, by omega, by omega, (fun t h1_ h2_ => by have h_ := hup.at (t := t) (by omega) h2_; omega), (by simp), hS5, rfl, Weak.cons rfl <| Weak.cons rfl <| Weak.cons rfl <| Weak.cons rfl <| Weak.cons rfl <| Weak.cons rfl <| Weak.cons rfl <| Weak.cons rfl <| Weak.nil _⟩ ?_
    rintro m1 f1 w3 ⟨A_out, c_out, out, x, y, ix, ixlo, ixhi, s1, x0, x1, y0, y1, xk, s2, hL1, rfl, hw1⟩
    refine WC.weak hw1 ?_
    clear hw1
    refine WC.seq ?_
    refine WC.region ?_
    refine WL.lv rfl (LV.ltI rfl rfl) ?_
    refine WL.nil (thenQ.n ?_)
    refine WC.seq ?_
    refine WC.condP (p := ix < ((PRS a b).length : Int)) rfl (fun hk => ?_) (fun hk => ?_)
    · have hp_ := hup.at ixlo hk
      have hp0_ := hp_.1
      have hp1_ := hp_.2.1
      have hp2_ := hp_.2.2.1
      have hp3_ := hp_.2.2.2.1
      have hp4_ := hp_.2.2.2.2
      have hxk_ := xk ix (by omega) hk
      refine WC.skip (thenQ.n ?_)
      refine WC.seq ?_
      refine WC.block ?_
      refine WC.seq ?_
      refine WC.region ?_
      refine WL.lv rfl (LV.mv rfl) ?_
      refine WL.lv rfl (LV.asg rfl) ?_
      refine WL.nil (thenQ.n ?_)
      refine WC.seq ?_
      have hS6 := SH.drew hL1
      refine WC.regionD [] (fun w_ => KB No w3.drew w_) [(.pure, 0), (.pure, 1), (.pure, 2), (.pure, 3), (.look, 4), (.pure, 5), (.pure, 6), (.pure, 7), (.pure, 8), (.look, 9), (.pure, 10), (.pure, 11)] (by kernel_rfl) (by kernel_rfl) (KB.refl _ _) ?_
      iterate 2 refine WS.pure rfl rfl (fun _ => LV.mv rfl) ?_
      obtain ⟨A2, c2, e1, g1⟩ := St.elt (SH.rd hS6 (.head _)) (0, 0) ix (by omega) (by omega)
      refine WS.pure rfl rfl (fun _ => LV.idxA Try.underlying63 ti65.sz rfl e1 rfl (by omega) (by omega)) ?_
      refine WS.pure rfl rfl (fun _ => LV.idxArr Try.underlying65 ti3.sz rfl rfl (by decide) (by decide)) ?_
      refine WS.look rfl rfl (fun _ hk_ => LV.load1 (v := (.int .i64 (((PRS a b).getD (ix).toNat (0, 0)).1))) Try.underlying3 rfl rfl (g1 _ hk_ 0 _ rfl)) ?_
      iterate 2 refine WS.pure rfl rfl (fun _ => LV.mv rfl) ?_
      obtain ⟨A3, c3, e2, g2⟩ := St.elt (SH.rd hS6 (.head _)) (0, 0) ix (by omega) (by omega)
      refine WS.pure rfl rfl (fun _ => LV.idxA Try.underlying63 ti65.sz rfl e2 rfl (by omega) (by omega)) ?_
      refine WS.pure rfl rfl (fun _ => LV.idxArr Try.underlying65 ti3.sz rfl rfl (by decide) (by decide)) ?_
      refine WS.look rfl rfl (fun _ hk_ => LV.load1 (v := (.int .i64 (((PRS a b).getD (ix).toNat (0, 0)).2))) Try.underlying3 rfl rfl (g2 _ hk_ 1 _ rfl)) ?_
      iterate 2 refine WS.pure rfl rfl (fun _ => LV.asg rfl) ?_
      refine WS.nil (thenQ.n ?_)
      refine WC.seq ?_
      refine WC.region ?_
      iterate 3 refine WL.lv rfl (LV.mv rfl) ?_
      refine WL.lv rfl (LV.sub rfl rfl (wr64 (by omega) (by omega))) ?_
      refine WL.call rfl (XC.fn Try.func40 (by kernel_rfl) rfl rfl rfl) (some_calls (s := (2 : Int)) (n := ((((PRS a b).getD (ix).toNat (0, 0)).1) - x)) (by omega) (by omega)) ?_
      rintro v_ w4 ⟨A4, c4, rfl, hS7⟩
      have hS8 := SH.joinN hS6 hS7
      iterate 2 refine WL.lv rfl (LV.mv rfl) ?_
      refine WL.lv rfl (LV.sub rfl rfl (wr64 (by omega) (by omega))) ?_
      refine WL.call rfl (XC.fn Try.func40 (by kernel_rfl) rfl rfl rfl) (some_calls (s := (3 : Int)) (n := ((((PRS a b).getD (ix).toNat (0, 0)).2) - y)) (by omega) (by omega)) ?_
      rintro v_ w5 ⟨A5, c5, rfl, hS9⟩
      have hS10 := SH.joinN hS8 hS9
      refine WL.call rfl (XC.fn Try.func40 (by kernel_rfl) rfl rfl rfl) (some_calls (s := (1 : Int)) (n := (1 : Int)) (by omega) (by omega)) ?_
      rintro v_ w6 ⟨A6, c6, rfl, hS11⟩
      have hS12 := SH.joinN hS10 hS11
      refine WL.xe rfl (XE.buildSlice (E := eV) [(0, (.slice A_out out.length c_out)), (1, (.slice A4 ((List.replicate ((((PRS a b).getD (ix).toNat (0, 0)).1) - x).toNat (2 : Int)).length) c4)), (2, (.slice A5 ((List.replicate ((((PRS a b).getD (ix).toNat (0, 0)).2) - y).toNat (3 : Int)).length) c5)), (3, (.slice A6 ((List.replicate (1 : Int).toNat (1 : Int)).length) c6))] #[(.slice A_out out.length c_out), (.slice A4 ((List.replicate ((((PRS a b).getD (ix).toNat (0, 0)).1) - x).toNat (2 : Int)).length) c4), (.slice A5 ((List.replicate ((((PRS a b).getD (ix).toNat (0, 0)).2) - y).toNat (3 : Int)).length) c5), (.slice A6 ((List.replicate (1 : Int).toNat (1 : Int)).length) c6)] [(⟨A_out, out.length, c_out⟩ : SV), (⟨A4, (List.replicate ((((PRS a b).getD (ix).toNat (0, 0)).1) - x).toNat (2 : Int)).length, c4⟩ : SV), (⟨A5, (List.replicate ((((PRS a b).getD (ix).toNat (0, 0)).2) - y).toNat (3 : Int)).length, c5⟩ : SV), (⟨A6, (List.replicate (1 : Int).toNat (1 : Int)).length, c6⟩ : SV)] hS12 Try.underlying75 ti52 rfl (by decide) (by kernel_rfl) (.inr rfl) rfl rfl (by decide)) ?_
      rintro _ w7 ⟨b1, rfl, hS13, hk2⟩
      refine WL.call rfl (XC.fn Try.func39 (by kernel_rfl) rfl rfl rfl) (concat_calls  (St.rrOf (rows := [((⟨A_out, out.length, c_out⟩ : SV), out), ((⟨A4, (List.replicate ((((PRS a b).getD (ix).toNat (0, 0)).1) - x).toNat (2 : Int)).length, c4⟩ : SV), List.replicate ((((PRS a b).getD (ix).toNat (0, 0)).1) - x).toNat (2 : Int)), ((⟨A5, (List.replicate ((((PRS a b).getD (ix).toNat (0, 0)).2) - y).toNat (3 : Int)).length, c5⟩ : SV), List.replicate ((((PRS a b).getD (ix).toNat (0, 0)).2) - y).toNat (3 : Int)), ((⟨A6, (List.replicate (1 : Int).toNat (1 : Int)).length, c6⟩ : SV), List.replicate (1 : Int).toNat (1 : Int))]) (SH.rd hS13 (.head _)) (St.inCons (r := (⟨A_out, out.length, c_out⟩ : SV)) rfl (SH.rd hS13 (.tail _ (.tail _ (.tail _ (.tail _ (.tail _ (.head _))))))) (St.inCons (r := (⟨A4, (List.replicate ((((PRS a b).getD (ix).toNat (0, 0)).1) - x).toNat (2 : Int)).length, c4⟩ : SV)) rfl (SH.rd hS13 (.tail _ (.tail _ (.tail _ (.head _))))) (St.inCons (r := (⟨A5, (List.replicate ((((PRS a b).getD (ix).toNat (0, 0)).2) - y).toNat (3 : Int)).length, c5⟩ : SV)) rfl (SH.rd hS13 (.tail _ (.tail _ (.head _)))) (St.inCons (r := (⟨A6, (List.replicate (1 : Int).toNat (1 : Int)).length, c6⟩ : SV)) rfl (SH.rd hS13 (.tail _ (.head _))) St.in0))))) rfl (by simp only [List.map_cons, List.map_nil, List.flatten_cons, List.flatten_nil, List.length_append, List.length_replicate, List.length_nil, List.append_nil]; omega) (by simp)) ?_
      rintro v_ w8 ⟨A7, c7, rfl, hS14⟩
      have hS15 := SH.joinN hS13 hS14
      refine WL.lv rfl (LV.asg rfl) ?_
      refine WL.nil (thenQ.n ?_)
      refine WC.region ?_
      refine WL.lv rfl (LV.mv rfl) ?_
      refine WL.lv rfl (LV.add rfl rfl (wr64 (by omega) (by omega))) ?_
      refine WL.lv rfl (LV.mv rfl) ?_
      refine WL.lv rfl (LV.add rfl rfl (wr64 (by omega) (by omega))) ?_
      iterate 2 refine WL.lv rfl (LV.asg rfl) ?_
      refine WL.nil (blockQ.n <| thenQ.n ?_)
      refine WC.region ?_
      refine WL.lv rfl (LV.add rfl rfl (wr64 (by omega) (by omega))) ?_
      refine WL.lv rfl (LV.mv rfl) ?_
      refine WL.nil (thenQ.n ?_)
      have hS16 : SH w No w8 [rowE eP 65 (.slice A1 ((PRS a b).length) c1) (PRS a b), rowE eI 47 (.slice A7 ((([((⟨A_out, out.length, c_out⟩ : SV), out), ((⟨A4, (List.replicate ((((PRS a b).getD (ix).toNat (0, 0)).1) - x).toNat (2 : Int)).length, c4⟩ : SV), List.replicate ((((PRS a b).getD (ix).toNat (0, 0)).1) - x).toNat (2 : Int)), ((⟨A5, (List.replicate ((((PRS a b).getD (ix).toNat (0, 0)).2) - y).toNat (3 : Int)).length, c5⟩ : SV), List.replicate ((((PRS a b).getD (ix).toNat (0, 0)).2) - y).toNat (3 : Int)), ((⟨A6, (List.replicate (1 : Int).toNat (1 : Int)).length, c6⟩ : SV), List.replicate (1 : Int).toNat (1 : Int))].map (·.2)).flatten).length) c7) (([((⟨A_out, out.length, c_out⟩ : SV), out), ((⟨A4, (List.replicate ((((PRS a b).getD (ix).toNat (0, 0)).1) - x).toNat (2 : Int)).length, c4⟩ : SV), List.replicate ((((PRS a b).getD (ix).toNat (0, 0)).1) - x).toNat (2 : Int)), ((⟨A5, (List.replicate ((((PRS a b).getD (ix).toNat (0, 0)).2) - y).toNat (3 : Int)).length, c5⟩ : SV), List.replicate ((((PRS a b).getD (ix).toNat (0, 0)).2) - y).toNat (3 : Int)), ((⟨A6, (List.replicate (1 : Int).toNat (1 : Int)).length, c6⟩ : SV), List.replicate (1 : Int).toNat (1 : Int))].map (·.2)).flatten)] := (SH.take 2 rfl (SH.front [rowE eI 47 (.slice A7 ((([((⟨A_out, out.length, c_out⟩ : SV), out), ((⟨A4, (List.replicate ((((PRS a b).getD (ix).toNat (0, 0)).1) - x).toNat (2 : Int)).length, c4⟩ : SV), List.replicate ((((PRS a b).getD (ix).toNat (0, 0)).1) - x).toNat (2 : Int)), ((⟨A5, (List.replicate ((((PRS a b).getD (ix).toNat (0, 0)).2) - y).toNat (3 : Int)).length, c5⟩ : SV), List.replicate ((((PRS a b).getD (ix).toNat (0, 0)).2) - y).toNat (3 : Int)), ((⟨A6, (List.replicate (1 : Int).toNat (1 : Int)).length, c6⟩ : SV), List.replicate (1 : Int).toNat (1 : Int))].map (·.2)).flatten).length) c7) (([((⟨A_out, out.length, c_out⟩ : SV), out), ((⟨A4, (List.replicate ((((PRS a b).getD (ix).toNat (0, 0)).1) - x).toNat (2 : Int)).length, c4⟩ : SV), List.replicate ((((PRS a b).getD (ix).toNat (0, 0)).1) - x).toNat (2 : Int)), ((⟨A5, (List.replicate ((((PRS a b).getD (ix).toNat (0, 0)).2) - y).toNat (3 : Int)).length, c5⟩ : SV), List.replicate ((((PRS a b).getD (ix).toNat (0, 0)).2) - y).toNat (3 : Int)), ((⟨A6, (List.replicate (1 : Int).toNat (1 : Int)).length, c6⟩ : SV), List.replicate (1 : Int).toNat (1 : Int))].map (·.2)).flatten), rowE eV 52 (.slice (some ⟨b1, 0, none⟩) 4 4) [(⟨A_out, out.length, c_out⟩ : SV), (⟨A4, (List.replicate ((((PRS a b).getD (ix).toNat (0, 0)).1) - x).toNat (2 : Int)).length, c4⟩ : SV), (⟨A5, (List.replicate ((((PRS a b).getD (ix).toNat (0, 0)).2) - y).toNat (3 : Int)).length, c5⟩ : SV), (⟨A6, (List.replicate (1 : Int).toNat (1 : Int)).length, c6⟩ : SV)], rowE eI 47 (.slice A6 ((List.replicate (1 : Int).toNat (1 : Int)).length) c6) (List.replicate (1 : Int).toNat (1 : Int)), rowE eI 47 (.slice A5 ((List.replicate ((((PRS a b).getD (ix).toNat (0, 0)).2) - y).toNat (3 : Int)).length) c5) (List.replicate ((((PRS a b).getD (ix).toNat (0, 0)).2) - y).toNat (3 : Int)), rowE eI 47 (.slice A4 ((List.replicate ((((PRS a b).getD (ix).toNat (0, 0)).1) - x).toNat (2 : Int)).length) c4) (List.replicate ((((PRS a b).getD (ix).toNat (0, 0)).1) - x).toNat (2 : Int))] hS15))
      exact ⟨_, by omega, A7, c7, ([((⟨A_out, out.length, c_out⟩ : SV), out), ((⟨A4, (List.replicate ((((PRS a b).getD (ix).toNat (0, 0)).1) - x).toNat (2 : Int)).length, c4⟩ : SV), List.replicate ((((PRS a b).getD (ix).toNat (0, 0)).1) - x).toNat (2 : Int)), ((⟨A5, (List.replicate ((((PRS a b).getD (ix).toNat (0, 0)).2) - y).toNat (3 : Int)).length, c5⟩ : SV), List.replicate ((((PRS a b).getD (ix).toNat (0, 0)).2) - y).toNat (3 : Int)), ((⟨A6, (List.replicate (1 : Int).toNat (1 : Int)).length, c6⟩ : SV), List.replicate (1 : Int).toNat (1 : Int))].map (·.2)).flatten, (((PRS a b).getD (ix).toNat (0, 0)).1) + 1, (((PRS a b).getD (ix).toNat (0, 0)).2) + 1, ix + 1, by omega, by omega, (by rw [← st_step ixlo hk s1 rfl rfl]; simp only [List.map_cons, List.map_nil, List.flatten_cons, List.flatten_nil, List.length_append, List.length_replicate, List.length_nil, List.append_nil]; simp [List.append_assoc]), by omega, by omega, by omega, by omega, (fun t h1_ h2_ => by have h_ := hp4_ t (by omega) h2_; omega), (by simp only [List.map_cons, List.map_nil, List.flatten_cons, List.flatten_nil, List.length_append, List.length_replicate, List.length_nil, List.append_nil]; omega), hS16, rfl, Weak.cons rfl <| Weak.cons rfl <| Weak.cons rfl <| Weak.cons rfl <| Weak.cons rfl <| Weak.cons rfl <| Weak.cons rfl <| Weak.cons rfl <| Weak.nil _⟩
    · skip
      refine WC.exit (thenQ.x <| thenQ.x <| blockQ.hit <| thenQ.n ?_)
      refine WC.seq ?_
      refine WC.region ?_
      iterate 2 refine WL.lv rfl (LV.mv rfl) ?_
      refine WL.lv rfl (LV.lenL Try.underlying54 rfl) ?_
      refine WL.lv rfl (LV.mv rfl) ?_
      refine WL.lv rfl (LV.sub rfl rfl (wr64 (by omega) (by omega))) ?_
      refine WL.call rfl (XC.fn Try.func40 (by kernel_rfl) rfl rfl rfl) (some_calls (s := (2 : Int)) (n := ((a.length : Int) - x)) (by omega) (by omega)) ?_
      rintro v_ w9 ⟨A8, c8, rfl, hS17⟩
      have hS18 := SH.joinN hL1 hS17
      refine WL.lv rfl (LV.mv rfl) ?_
      refine WL.lv rfl (LV.lenL Try.underlying54 rfl) ?_
      refine WL.lv rfl (LV.mv rfl) ?_
      refine WL.lv rfl (LV.sub rfl rfl (wr64 (by omega) (by omega))) ?_
      refine WL.call rfl (XC.fn Try.func40 (by kernel_rfl) rfl rfl rfl) (some_calls (s := (3 : Int)) (n := ((b.length : Int) - y)) (by omega) (by omega)) ?_
      rintro v_ w10 ⟨A9, c9, rfl, hS19⟩
      have hS20 := SH.joinN hS18 hS19
      refine WL.xe rfl (XE.buildSlice (E := eV) [(0, (.slice A_out out.length c_out)), (1, (.slice A8 ((List.replicate ((a.length : Int) - x).toNat (2 : Int)).length) c8)), (2, (.slice A9 ((List.replicate ((b.length : Int) - y).toNat (3 : Int)).length) c9))] #[(.slice A_out out.length c_out), (.slice A8 ((List.replicate ((a.length : Int) - x).toNat (2 : Int)).length) c8), (.slice A9 ((List.replicate ((b.length : Int) - y).toNat (3 : Int)).length) c9)] [(⟨A_out, out.length, c_out⟩ : SV), (⟨A8, (List.replicate ((a.length : Int) - x).toNat (2 : Int)).length, c8⟩ : SV), (⟨A9, (List.replicate ((b.length : Int) - y).toNat (3 : Int)).length, c9⟩ : SV)] hS20 Try.underlying75 ti52 rfl (by decide) (by kernel_rfl) (.inr rfl) rfl rfl (by decide)) ?_
      rintro _ w11 ⟨b2, rfl, hS21, hk3⟩
      refine WL.call rfl (XC.fn Try.func39 (by kernel_rfl) rfl rfl rfl) (concat_calls  (St.rrOf (rows := [((⟨A_out, out.length, c_out⟩ : SV), out), ((⟨A8, (List.replicate ((a.length : Int) - x).toNat (2 : Int)).length, c8⟩ : SV), List.replicate ((a.length : Int) - x).toNat (2 : Int)), ((⟨A9, (List.replicate ((b.length : Int) - y).toNat (3 : Int)).length, c9⟩ : SV), List.replicate ((b.length : Int) - y).toNat (3 : Int))]) (SH.rd hS21 (.head _)) (St.inCons (r := (⟨A_out, out.length, c_out⟩ : SV)) rfl (SH.rd hS21 (.tail _ (.tail _ (.tail _ (.tail _ (.head _)))))) (St.inCons (r := (⟨A8, (List.replicate ((a.length : Int) - x).toNat (2 : Int)).length, c8⟩ : SV)) rfl (SH.rd hS21 (.tail _ (.tail _ (.head _)))) (St.inCons (r := (⟨A9, (List.replicate ((b.length : Int) - y).toNat (3 : Int)).length, c9⟩ : SV)) rfl (SH.rd hS21 (.tail _ (.head _))) St.in0)))) rfl (by simp only [List.map_cons, List.map_nil, List.flatten_cons, List.flatten_nil, List.length_append, List.length_replicate, List.length_nil, List.append_nil]; omega) (by simp)) ?_
      rintro v_ w12 ⟨A10, c10, rfl, hS22⟩
      have hS23 := SH.joinN hS21 hS22
      refine WL.lv rfl (LV.asg rfl) ?_
      refine WL.nil (thenQ.n ?_)
      refine WC.ret (?_)
      have hS24 : SH w No w12 [rowE eI 47 (.slice A10 ((([((⟨A_out, out.length, c_out⟩ : SV), out), ((⟨A8, (List.replicate ((a.length : Int) - x).toNat (2 : Int)).length, c8⟩ : SV), List.replicate ((a.length : Int) - x).toNat (2 : Int)), ((⟨A9, (List.replicate ((b.length : Int) - y).toNat (3 : Int)).length, c9⟩ : SV), List.replicate ((b.length : Int) - y).toNat (3 : Int))].map (·.2)).flatten).length) c10) (([((⟨A_out, out.length, c_out⟩ : SV), out), ((⟨A8, (List.replicate ((a.length : Int) - x).toNat (2 : Int)).length, c8⟩ : SV), List.replicate ((a.length : Int) - x).toNat (2 : Int)), ((⟨A9, (List.replicate ((b.length : Int) - y).toNat (3 : Int)).length, c9⟩ : SV), List.replicate ((b.length : Int) - y).toNat (3 : Int))].map (·.2)).flatten)] := (SH.take 1 rfl hS23)
      have hres2 : (([((⟨A_out, out.length, c_out⟩ : SV), out), ((⟨A8, (List.replicate ((a.length : Int) - x).toNat (2 : Int)).length, c8⟩ : SV), List.replicate ((a.length : Int) - x).toNat (2 : Int)), ((⟨A9, (List.replicate ((b.length : Int) - y).toNat (3 : Int)).length, c9⟩ : SV), List.replicate ((b.length : Int) - y).toNat (3 : Int))].map (·.2)).flatten : List Int) = STP a b := by simp only [List.map_cons, List.map_nil, List.flatten_cons, List.flatten_nil, List.length_append, List.length_replicate, List.length_nil, List.append_nil]; rw [← List.append_assoc]; exact st_fin (by omega) s1 rfl rfl
      exact ⟨_, fun a ha => res1 rfl ha rfl, (by rw [← hres2]; exact ⟨_, _, rfl, hS24⟩)⟩

end Go.Proofs.Ytjjilkibcomfcaa
