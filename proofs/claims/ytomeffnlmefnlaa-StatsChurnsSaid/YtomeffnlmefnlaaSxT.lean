/- The law of churns. -/
import Derived.Test.YtomeffnlmefnlaaSxS
import Derived.Test.YtomeffnlmefnlaaGvY
namespace Go.Proofs.Ytomeffnlmefnlaa
open Go Go.Gv Go.RowKit Go.Mys Go.Num Go.Scr Go.Flt Go.Sts Go.Dec Go.Rpt
set_option linter.unusedVariables false
set_option linter.unusedSimpArgs false

set_option maxHeartbeats 4000000 in
set_option maxRecDepth 100000 in
theorem statsChurns_law {w : World} {A_l : Option Addr} {n_l c_l : Nat} {l : List (SV × List Ln)} {long : Bool} (h_l : St No w (RdRR eL (.slice A_l n_l c_l) l)) (hn_l : l.length = n_l)  :
    Calls Try.prog 3 #[(.slice A_l n_l c_l), (.bool long)] w fun e w' => ∃ v, e = .returned v ∧ (fun v w' => v = .bool (decide (true)) ∧ KB No w w') v w' := by
  subst hn_l
  have hS : SH w No w [] := SH.nil _ _
  refine calls (l := litOf [(.slice A_l l.length c_l), (.bool long)] 0) Try.func3 rfl (n := 92) rfl (Nat.le_of_ble_eq_true rfl) (lit_args _) ?_
  refine WC.seq ?_
  refine WC.region ?_
  refine WL.lv rfl (LV.asg rfl) ?_
  refine WL.nil (thenQ.n ?_)
  refine WC.seq ?_
  refine WC.region ?_
  refine WL.lv rfl (LV.mv rfl) ?_
  refine WL.call rfl (XC.fn Try.func6 (by kernel_rfl) rfl rfl rfl) (texts_calls (SH.stN hS h_l) rfl) ?_
  rintro v_ w1 ⟨A1, c1, rowsf, rfl, hqf, hinf, hS1⟩
  have hS2 := SH.joinN hS hS1
  have hfb_ := txt_bd hqf
  have hfl_ := hfb_.1
  have hfb2_ := hfb_.2
  refine WL.lv rfl (LV.asg rfl) ?_
  refine WL.nil (thenQ.n ?_)
  iterate 2 refine WC.seq ?_
  refine WC.region ?_
  refine WL.lv rfl (LV.mv rfl) ?_
  refine WL.nil (thenQ.n ?_)
  refine WC.cond (b := long) rfl (fun hc1 => ?_) (fun hc1 => ?_)
  · skip
    refine WC.region ?_
    refine WL.lv rfl (LV.mv rfl) ?_
    refine WL.xe rfl (XE.makeN (E := eL) (n := 401) lnD hS2 Try.underlying24 ti52 rfl (by decide) rfl rfl rfl rfl (by decide) (by decide)) ?_
    rintro _ w2 ⟨b1, rfl, hS3, hk1⟩
    refine WL.xe rfl (XE.buildSlice (E := eV) [(0, (.slice (some ⟨b1, 0, none⟩) 401 401))] #[(.slice (some ⟨b1, 0, none⟩) 401 401)] [(⟨(some ⟨b1, 0, none⟩), 401, 401⟩ : SV)] hS3 Try.underlying22 ti24 rfl (by decide) (by kernel_rfl) (.inr rfl) rfl rfl (by decide)) ?_
    rintro _ w3 ⟨b2, rfl, hS4, hk2⟩
    have hS5 : SH w No w3 [rowE eV 24 (.slice A1 rowsf.length c1) (rowsf.map (fun p : SV × List Ln => p.1)), rowE eV 24 (.slice (some ⟨b2, 0, none⟩) 1 1) [(⟨(some ⟨b1, 0, none⟩), 401, 401⟩ : SV)], rowE eL 52 (.slice (some ⟨b1, 0, none⟩) 401 401) (List.replicate 401 (lnD : Ln))] := (SH.front [_, _] hS4)
    refine WL.xe rfl (XE.append hS5 Try.underlying22 ti24 rfl (St.now (SH.rd hS5 (.tail _ (.head _)))) rfl rfl (by simp; omega) (by simp; omega)) ?_
    rintro _ w4 ⟨A2, c2, rfl, hS6, hk3⟩
    obtain ⟨rowsg, hrg_⟩ : ∃ r, r = rowsf ++ [((⟨(some ⟨b1, 0, none⟩), 401, 401⟩ : SV), (List.replicate 401 (lnD : Ln)))] := ⟨_, rfl⟩
    have hrx_ : ((rowsf.map (fun p : SV × List Ln => p.1)) ++ [(⟨(some ⟨b1, 0, none⟩), 401, 401⟩ : SV)]) = rowsg.map (fun p : SV × List Ln => p.1) := by rw [hrg_, List.map_append]; rfl
    have hry_ : (rowsg.map (fun p : SV × List Ln => p.1)).length = rowsg.length := List.length_map _
    rw [hrx_, hry_] at hS6
    rw [hrx_, hry_]
    have hgl_ : rowsg.length ≤ 9 := by rw [hrg_, List.length_append, List.length_singleton]; omega
    have hgb_ : ∀ p ∈ rowsg, p.2.length ≤ 401 := fun p hp => by rw [hrg_] at hp; rcases List.mem_append.1 hp with h_ | h_; (exact Nat.le_trans (hfb2_ p h_) (by decide)); rw [List.mem_singleton.1 h_]; simp
    refine WL.lv rfl (LV.asg rfl) ?_
    refine WL.nil (thenQ.n ?_)
    refine WC.seq ?_
    refine WC.region ?_
    refine WL.lv rfl (LV.mv rfl) ?_
    refine WL.call rfl (XC.fn Try.func7 (by kernel_rfl) rfl rfl rfl) (churns_calls  (St.rrOf (rows := rowsg) (SH.rd hS6 (.head _)) (hrg_ ▸ St.inSnoc (r := (⟨(some ⟨b1, 0, none⟩), 401, 401⟩ : SV)) rfl (SH.rd hS6 (.tail _ (.tail _ (.head _)))) (SH.stN hS6 hinf))) rfl (by omega)) ?_
    rintro v_ w5 ⟨A3, c3, rfl, hS7⟩
    have hS8 := SH.joinN hS6 hS7
    have hcc_ := che_cases rowsg
    have hcl_ := chr_len rowsg
    have hca_ := chd_all (l := rowsg)
    have hcd_ := chr_bd (l := rowsg)
    refine WL.lv rfl (LV.mv rfl) ?_
    iterate 2 refine WL.lv rfl (LV.extract rfl rfl) ?_
    iterate 2 refine WL.lv rfl (LV.asg rfl) ?_
    refine WL.nil (thenQ.n ?_)
    refine WC.seq ?_
    refine WC.region ?_
    refine WL.lv rfl (LV.mv rfl) ?_
    refine WL.call rfl (XC.fn Try.func8 (by kernel_rfl) rfl rfl rfl) (rchurns_calls  (St.rrOf (rows := rowsg) (SH.rd hS8 (.tail _ (.head _))) (hrg_ ▸ St.inSnoc (r := (⟨(some ⟨b1, 0, none⟩), 401, 401⟩ : SV)) rfl (SH.rd hS8 (.tail _ (.tail _ (.tail _ (.head _))))) (SH.stN hS8 hinf))) rfl (by omega)) ?_
    rintro v_ w6 ⟨A4, c4, rfl, hS9⟩
    have hS10 := SH.joinN hS8 hS9
    refine WL.lv rfl (LV.mv rfl) ?_
    iterate 2 refine WL.lv rfl (LV.extract rfl rfl) ?_
    iterate 2 refine WL.lv rfl (LV.asg rfl) ?_
    refine WL.nil (thenQ.n ?_)
    iterate 2 refine WC.seq ?_
    refine WC.region ?_
    refine WL.lv rfl (LV.mv rfl) ?_
    refine WL.lv rfl (LV.lenL Try.underlying25 rfl) ?_
    refine WL.lv rfl (LV.mv rfl) ?_
    refine WL.lv rfl (LV.lenL Try.underlying25 rfl) ?_
    refine WL.lv rfl (LV.as (LV.neI rfl rfl) (decide_eq_false (fun h_ => h_ rfl))) ?_
    iterate 3 refine WL.lv rfl (LV.mv rfl) ?_
    refine WL.lv rfl (LV.as (LV.neI rfl rfl) (decide_eq_false (fun h_ => h_ rfl))) ?_
    refine WL.lv rfl (LV.pickF rfl rfl) ?_
    refine WL.nil (thenQ.n ?_)
    refine WC.condF rfl ?_
    refine WC.skip (thenQ.n ?_)
    refine WC.seq ?_
    refine WC.region ?_
    refine WL.lv rfl (LV.asg rfl) ?_
    refine WL.nil (thenQ.n ?_)
    iterate 2 refine WC.seq ?_
    refine WC.region ?_
    refine WL.lv rfl (LV.asg rfl) ?_
    refine WL.nil (thenQ.n ?_)
    refine WC.block ?_
    refine WC.loop (fun m_ f_ w_ => ∃ (n : Int) (i : Int), (0 ≤ i) ∧ (i ≤ ((CHR rowsg).length : Int)) ∧ (n = CHD ((CHR rowsg).take i.toNat)) ∧ (-(800 * i) ≤ n ∧ n ≤ 800 * i) ∧ SH w No w_ [rowE eP 30 (.slice A4 ((CHR rowsg).length) c4) (CHR rowsg), rowE eP 30 (.slice A3 ((CHR rowsg).length) c3) (CHR rowsg), rowE eV 24 (.slice A2 rowsg.length c2) (rowsg.map (fun p : SV × List Ln => p.1)), rowE eV 24 (.slice (some ⟨b2, 0, none⟩) 1 1) [(⟨(some ⟨b1, 0, none⟩), 401, 401⟩ : SV)], rowE eL 52 (.slice (some ⟨b1, 0, none⟩) 401 401) (List.replicate 401 (lnD : Ln))] ∧ m_ = ((((CHR rowsg).length : Int) - i).toNat) ∧ Weak (lit [(0, (.slice A2 rowsg.length c2)), (5, (.slice A3 ((CHR rowsg).length) c3)), (6, (.int .i64 (CHE rowsg))), (7, (.slice A4 ((CHR rowsg).length) c4)), (9, (.int .i64 n)), (10, (.int .i64 i))]) f_) _ ⟨0, 0, by omega, by omega, rfl, by omega, hS10, rfl, Weak.cons rfl <| Weak.cons rfl <| Weak.cons rfl <| Weak.cons rfl <| Weak.cons rfl <| Weak.cons rfl <| Weak.nil _⟩ ?_
    rintro m1 f1 w7 ⟨n, i, ilo, ihi, q1, q2, hL1, rfl, hw1⟩
    refine WC.weak hw1 ?_
    clear hw1
    iterate 2 refine WC.seq ?_
    refine WC.region ?_
    iterate 2 refine WL.lv rfl (LV.mv rfl) ?_
    refine WL.lv rfl (LV.lenL Try.underlying25 rfl) ?_
    refine WL.lv rfl (LV.ltI rfl rfl) ?_
    refine WL.nil (thenQ.n ?_)
    refine WC.condP (p := i < ((CHR rowsg).length : Int)) rfl (fun hk => ?_) (fun hk => ?_)
    · skip
      refine WC.skip (thenQ.n ?_)
      refine WC.seq ?_
      refine WC.block ?_
      iterate 2 refine WC.seq ?_
      have hS11 := SH.drew hL1
      refine WC.regionD [] (fun w_ => KB No w7.drew w_) [(.pure, 0), (.pure, 1), (.pure, 2), (.look, 3), (.pure, 4), (.pure, 5), (.pure, 6), (.look, 7), (.pure, 8)] (by kernel_rfl) (by kernel_rfl) (KB.refl _ _) ?_
      iterate 2 refine WS.pure rfl rfl (fun _ => LV.mv rfl) ?_
      obtain ⟨A5, c5, e1, g1⟩ := St.elt (SH.rd hS11 (.tail _ (.head _))) (0, 0) i (by omega) (by omega)
      refine WS.pure rfl rfl (fun _ => LV.idxA Try.underlying25 ti30.sz rfl e1 rfl (by omega) (by omega)) ?_
      refine WS.look rfl rfl (fun _ hk_ => LV.loadAgg (cs := [(.int .i64 (((CHR rowsg).getD (i).toNat (0, 0)).1)), (.int .i64 (((CHR rowsg).getD (i).toNat (0, 0)).2))]) Try.underlying30 rfl ti30 rfl rfl (fun j u hu => g1 _ hk_ j u hu)) ?_
      iterate 2 refine WS.pure rfl rfl (fun _ => LV.mv rfl) ?_
      obtain ⟨A6, c6, e2, g2⟩ := St.elt (SH.rd hS11 (.head _)) (0, 0) i (by omega) (by omega)
      refine WS.pure rfl rfl (fun _ => LV.idxA Try.underlying25 ti30.sz rfl e2 rfl (by omega) (by omega)) ?_
      refine WS.look rfl rfl (fun _ hk_ => LV.loadAgg (cs := [(.int .i64 (((CHR rowsg).getD (i).toNat (0, 0)).1)), (.int .i64 (((CHR rowsg).getD (i).toNat (0, 0)).2))]) Try.underlying30 rfl ti30 rfl rfl (fun j u hu => g2 _ hk_ j u hu)) ?_
      refine WS.pure rfl rfl (fun _ => LV.as (LV.neG (by decide) (ae_s2 Try.underlying30 (by decide) (by kernel_rfl) (pt_int Try.underlying3 rfl) (pt_int Try.underlying3 rfl) (pt_int Try.underlying3 rfl) (pt_int Try.underlying3 rfl) (ae_int Try.underlying3) (ae_int Try.underlying3)) (by kernel_rfl) rfl rfl) (decide_eq_false (fun h_ => h_ ⟨rfl, rfl⟩))) ?_
      refine WS.nil (thenQ.n ?_)
      refine WC.condF rfl ?_
      refine WC.skip (thenQ.n ?_)
      have hS12 := SH.drew hS11
      refine WC.regionD [] (fun w_ => KB No w7.drew.drew w_) [(.pure, 0), (.pure, 1), (.pure, 2), (.pure, 3), (.pure, 4), (.look, 5), (.pure, 6), (.pure, 7), (.pure, 8), (.pure, 9), (.look, 10), (.pure, 11), (.pure, 12), (.pure, 13)] (by kernel_rfl) (by kernel_rfl) (KB.refl _ _) ?_
      have hbc_ := hcd_ ((CHR rowsg).getD i.toNat (0, 0)) (getD_mem (by omega))
      have hb1_ := hbc_.1
      have hb2_ := hbc_.2.1
      have hb3_ := hbc_.2.2.1
      have hb4_ := hbc_.2.2.2
      iterate 3 refine WS.pure rfl rfl (fun _ => LV.mv rfl) ?_
      obtain ⟨A7, c7, e3, g3⟩ := St.elt (SH.rd hS12 (.tail _ (.head _))) (0, 0) i (by omega) (by omega)
      refine WS.pure rfl rfl (fun _ => LV.idxA Try.underlying25 ti30.sz rfl e3 rfl (by omega) (by omega)) ?_
      refine WS.pure rfl rfl (fun _ => LV.fieldA Try.underlying30 rfl ti3.sz rfl) ?_
      refine WS.look rfl rfl (fun _ hk_ => LV.load1 (v := (.int .i64 (((CHR rowsg).getD (i).toNat (0, 0)).1))) Try.underlying3 rfl rfl (g3 _ hk_ 0 _ rfl)) ?_
      iterate 2 refine WS.pure rfl rfl (fun _ => LV.mv rfl) ?_
      obtain ⟨A8, c8, e4, g4⟩ := St.elt (SH.rd hS12 (.tail _ (.head _))) (0, 0) i (by omega) (by omega)
      refine WS.pure rfl rfl (fun _ => LV.idxA Try.underlying25 ti30.sz rfl e4 rfl (by omega) (by omega)) ?_
      refine WS.pure rfl rfl (fun _ => LV.fieldA Try.underlying30 rfl ti3.sz rfl) ?_
      refine WS.look rfl rfl (fun _ hk_ => LV.load1 (v := (.int .i64 (((CHR rowsg).getD (i).toNat (0, 0)).2))) Try.underlying3 rfl rfl (g4 _ hk_ 1 _ rfl)) ?_
      refine WS.pure rfl rfl (fun _ => LV.sub rfl rfl (wr64 (by omega) (by omega))) ?_
      refine WS.pure rfl rfl (fun _ => LV.add rfl rfl (wr64 (by omega) (by omega))) ?_
      refine WS.pure rfl rfl (fun _ => LV.asg rfl) ?_
      refine WS.nil (blockQ.n <| thenQ.n ?_)
      refine WC.region ?_
      refine WL.lv rfl (LV.mv rfl) ?_
      refine WL.lv rfl (LV.add rfl rfl (wr64 (by omega) (by omega))) ?_
      refine WL.lv rfl (LV.asg rfl) ?_
      refine WL.nil (thenQ.n ?_)
      exact ⟨_, by omega, n + ((((CHR rowsg).getD (i).toNat (0, 0)).1) - (((CHR rowsg).getD (i).toNat (0, 0)).2)), i + 1, by omega, by omega, (by rw [CHD_at ilo hk, ← q1]), by omega, hS12, rfl, Weak.cons rfl <| Weak.cons rfl <| Weak.cons rfl <| Weak.cons rfl <| Weak.cons rfl <| Weak.cons rfl <| Weak.nil _⟩
    · skip
      refine WC.exit (thenQ.x <| thenQ.x <| blockQ.hit <| thenQ.n ?_)
      refine WC.seq ?_
      have hS13 := SH.drew hL1
      refine WC.regionD [] (fun w_ => KB No w7.drew w_) [(.forced, 0), (.pure, 1), (.pure, 2), (.pure, 3), (.pure, 4), (.pure, 5), (.pure, 6), (.pure, 7), (.pure, 8), (.pure, 9), (.pure, 10), (.pure, 11), (.pure, 12), (.pure, 13), (.pure, 14), (.pure, 15), (.look, 16), (.pure, 17), (.pure, 18), (.pure, 19), (.look, 20), (.pure, 21), (.pure, 22), (.pure, 23), (.pure, 24), (.pure, 25), (.pure, 26)] (by kernel_rfl) (by kernel_rfl) (KB.refl _ _) ?_
      refine WS.call rfl rfl (XC.fn Try.func9 (by kernel_rfl) rfl rfl rfl) (live40_calls  ) ?_
      rintro v_ w8 ⟨rfl, hk4⟩
      have hS14 := SH.same hS13 hk4
      refine ⟨fun h_ => (KB.transN (KB.refl _ _) hk4), ?_⟩
      iterate 2 refine WS.pure rfl rfl (fun _ => LV.mv rfl) ?_
      rcases Decidable.em ((CHE rowsg) ≠ 0) with hg1 | hg1
      · refine WS.pure rfl rfl (fun _ => LV.as (LV.neI rfl rfl) (decide_eq_true hg1)) ?_
        refine WS.pure rfl rfl (fun _ => LV.mv rfl) ?_
        iterate 3 refine WS.off rfl rfl ?_
        refine WS.pure rfl rfl (fun _ => LV.pickT rfl rfl) ?_
        refine WS.pure rfl rfl (fun _ => LV.mv rfl) ?_
        iterate 6 refine WS.off rfl rfl ?_
        refine WS.offL rfl rfl ?_
        iterate 3 refine WS.off rfl rfl ?_
        refine WS.offL rfl rfl ?_
        iterate 3 refine WS.off rfl rfl ?_
        iterate 2 refine WS.pure rfl rfl (fun _ => LV.pickT rfl rfl) ?_
        refine WS.pure rfl rfl (fun _ => LV.asg rfl) ?_
        refine WS.nil (thenQ.n ?_)
        refine WC.ret (?_)
        exact ⟨_, fun a ha => res1 rfl ha rfl, rfl, hS14.kb⟩
      · refine WS.pure rfl rfl (fun _ => LV.as (LV.neI rfl rfl) (decide_eq_false hg1)) ?_
        iterate 2 refine WS.pure rfl rfl (fun _ => LV.mv rfl) ?_
        refine WS.pure rfl rfl (fun _ => LV.lenL Try.underlying22 rfl) ?_
        rcases Decidable.em ((rowsg.length : Int) = 0) with hg2 | hg2
        · refine WS.pure rfl rfl (fun _ => LV.as (LV.eqI rfl rfl) (decide_eq_true hg2)) ?_
          refine WS.pure rfl rfl (fun _ => LV.pickF rfl rfl) ?_
          refine WS.pure rfl rfl (fun _ => LV.mv rfl) ?_
          iterate 6 refine WS.off rfl rfl ?_
          refine WS.offL rfl rfl ?_
          iterate 3 refine WS.off rfl rfl ?_
          refine WS.offL rfl rfl ?_
          iterate 3 refine WS.off rfl rfl ?_
          iterate 2 refine WS.pure rfl rfl (fun _ => LV.pickT rfl rfl) ?_
          refine WS.pure rfl rfl (fun _ => LV.asg rfl) ?_
          refine WS.nil (thenQ.n ?_)
          refine WC.ret (?_)
          exact ⟨_, fun a ha => res1 rfl ha rfl, rfl, hS14.kb⟩
        · refine WS.pure rfl rfl (fun _ => LV.as (LV.eqI rfl rfl) (decide_eq_false hg2)) ?_
          refine WS.pure rfl rfl (fun _ => LV.pickF rfl rfl) ?_
          iterate 4 refine WS.pure rfl rfl (fun _ => LV.mv rfl) ?_
          refine WS.pure rfl rfl (fun _ => LV.lenL Try.underlying22 rfl) ?_
          refine WS.pure rfl rfl (fun _ => LV.sub rfl rfl (wr64 (by omega) (by omega))) ?_
          obtain ⟨A9, c9, A10, c10, e5, g5, e6, r1⟩ := St.eltRR (St.rrOf (rows := rowsg) (SH.rd hS13 (.tail _ (.tail _ (.head _)))) (hrg_ ▸ St.inSnoc (r := (⟨(some ⟨b1, 0, none⟩), 401, 401⟩ : SV)) rfl (SH.rd hS13 (.tail _ (.tail _ (.tail _ (.tail _ (.head _)))))) (SH.stN hS13 hinf))) default ((rowsg.length : Int) - 1) (by omega) (by omega)
          refine WS.pure rfl rfl (fun _ => LV.idxA Try.underlying22 ti24.sz rfl e5 rfl (by omega) (by omega)) ?_
          refine WS.look rfl rfl (fun _ hk_ => LV.load1 Try.underlying24 rfl rfl (g5 _ hk_)) ?_
          refine WS.pure rfl rfl (fun _ => LV.lenL Try.underlying24 rfl) ?_
          refine WS.pure rfl rfl (fun _ => LV.mv rfl) ?_
          obtain ⟨A11, c11, A12, c12, e7, g6, e8, r2⟩ := St.eltRR (St.rrOf (rows := rowsg) (SH.rd hS13 (.tail _ (.tail _ (.head _)))) (hrg_ ▸ St.inSnoc (r := (⟨(some ⟨b1, 0, none⟩), 401, 401⟩ : SV)) rfl (SH.rd hS13 (.tail _ (.tail _ (.tail _ (.tail _ (.head _)))))) (SH.stN hS13 hinf))) default (0 : Int) (by omega) (by omega)
          refine WS.pure rfl rfl (fun _ => LV.idxA Try.underlying22 ti24.sz rfl e7 rfl (by omega) (by omega)) ?_
          refine WS.look rfl rfl (fun _ hk_ => LV.load1 Try.underlying24 rfl rfl (g6 _ hk_)) ?_
          refine WS.pure rfl rfl (fun _ => LV.lenL Try.underlying24 rfl) ?_
          have hw1_ := hgb_ (rowsg.getD ((rowsg.length : Int) - 1).toNat default) (getD_mem (by omega))
          have hw2_ := hgb_ (rowsg.getD (0 : Int).toNat default) (getD_mem (by omega))
          refine WS.pure rfl rfl (fun _ => LV.sub rfl rfl (wr64 (by omega) (by omega))) ?_
          refine WS.pure rfl rfl (fun _ => LV.as (LV.eqI rfl rfl) (decide_eq_true (by have hz_ := hca_ (hcc_.resolve_left (fun h_ => by omega)).1 (by omega); rw [q1, List.take_of_length_le (by omega)]; exact hz_))) ?_
          refine WS.pure rfl rfl (fun _ => LV.pickF rfl rfl) ?_
          refine WS.pure rfl rfl (fun _ => LV.pickT rfl rfl) ?_
          refine WS.pure rfl rfl (fun _ => LV.asg rfl) ?_
          refine WS.nil (thenQ.n ?_)
          refine WC.ret (?_)
          exact ⟨_, fun a ha => res1 rfl ha rfl, rfl, hS14.kb⟩
  · skip
    refine WC.skip (thenQ.n ?_)
    refine WC.seq ?_
    refine WC.region ?_
    refine WL.lv rfl (LV.mv rfl) ?_
    refine WL.call rfl (XC.fn Try.func7 (by kernel_rfl) rfl rfl rfl) (churns_calls  (St.rrOf (rows := rowsf) (SH.rd hS2 (.head _)) (SH.stN hS2 hinf)) rfl (by omega)) ?_
    rintro v_ w9 ⟨A13, c13, rfl, hS15⟩
    have hS16 := SH.joinN hS2 hS15
    have hcc_ := che_cases rowsf
    have hcl_ := chr_len rowsf
    have hca_ := chd_all (l := rowsf)
    have hcd_ := chr_bd (l := rowsf)
    refine WL.lv rfl (LV.mv rfl) ?_
    iterate 2 refine WL.lv rfl (LV.extract rfl rfl) ?_
    iterate 2 refine WL.lv rfl (LV.asg rfl) ?_
    refine WL.nil (thenQ.n ?_)
    refine WC.seq ?_
    refine WC.region ?_
    refine WL.lv rfl (LV.mv rfl) ?_
    refine WL.call rfl (XC.fn Try.func8 (by kernel_rfl) rfl rfl rfl) (rchurns_calls  (St.rrOf (rows := rowsf) (SH.rd hS16 (.tail _ (.head _))) (SH.stN hS16 hinf)) rfl (by omega)) ?_
    rintro v_ w10 ⟨A14, c14, rfl, hS17⟩
    have hS18 := SH.joinN hS16 hS17
    refine WL.lv rfl (LV.mv rfl) ?_
    iterate 2 refine WL.lv rfl (LV.extract rfl rfl) ?_
    iterate 2 refine WL.lv rfl (LV.asg rfl) ?_
    refine WL.nil (thenQ.n ?_)
    iterate 2 refine WC.seq ?_
    refine WC.region ?_
    refine WL.lv rfl (LV.mv rfl) ?_
    refine WL.lv rfl (LV.lenL Try.underlying25 rfl) ?_
    refine WL.lv rfl (LV.mv rfl) ?_
    refine WL.lv rfl (LV.lenL Try.underlying25 rfl) ?_
    refine WL.lv rfl (LV.as (LV.neI rfl rfl) (decide_eq_false (fun h_ => h_ rfl))) ?_
    iterate 3 refine WL.lv rfl (LV.mv rfl) ?_
    refine WL.lv rfl (LV.as (LV.neI rfl rfl) (decide_eq_false (fun h_ => h_ rfl))) ?_
    refine WL.lv rfl (LV.pickF rfl rfl) ?_
    refine WL.nil (thenQ.n ?_)
    refine WC.condF rfl ?_
    refine WC.skip (thenQ.n ?_)
    refine WC.seq ?_
    refine WC.region ?_
    refine WL.lv rfl (LV.asg rfl) ?_
    refine WL.nil (thenQ.n ?_)
    iterate 2 refine WC.seq ?_
    refine WC.region ?_
    refine WL.lv rfl (LV.asg rfl) ?_
    refine WL.nil (thenQ.n ?_)
    refine WC.block ?_
    refine WC.loop (fun m_ f_ w_ => ∃ (n : Int) (i : Int), (0 ≤ i) ∧ (i ≤ ((CHR rowsf).length : Int)) ∧ (n = CHD ((CHR rowsf).take i.toNat)) ∧ (-(800 * i) ≤ n ∧ n ≤ 800 * i) ∧ SH w No w_ [rowE eP 30 (.slice A14 ((CHR rowsf).length) c14) (CHR rowsf), rowE eP 30 (.slice A13 ((CHR rowsf).length) c13) (CHR rowsf), rowE eV 24 (.slice A1 rowsf.length c1) (rowsf.map (fun p : SV × List Ln => p.1))] ∧ m_ = ((((CHR rowsf).length : Int) - i).toNat) ∧ Weak (lit [(0, (.slice A1 rowsf.length c1)), (5, (.slice A13 ((CHR rowsf).length) c13)), (6, (.int .i64 (CHE rowsf))), (7, (.slice A14 ((CHR rowsf).length) c14)), (9, (.int .i64 n)), (10, (.int .i64 i))]) f_) _ ⟨0, 0, by omega, by omega, rfl, by omega, hS18, rfl, Weak.cons rfl <| Weak.cons rfl <| Weak.cons rfl <| Weak.cons rfl <| Weak.cons rfl <| Weak.cons rfl <| Weak.nil _⟩ ?_
    rintro m2 f2 w11 ⟨n, i, ilo, ihi, q1, q2, hL2, rfl, hw2⟩
    refine WC.weak hw2 ?_
    clear hw2
    iterate 2 refine WC.seq ?_
    refine WC.region ?_
    iterate 2 refine WL.lv rfl (LV.mv rfl) ?_
    refine WL.lv rfl (LV.lenL Try.underlying25 rfl) ?_
    refine WL.lv rfl (LV.ltI rfl rfl) ?_
    refine WL.nil (thenQ.n ?_)
    refine WC.condP (p := i < ((CHR rowsf).length : Int)) rfl (fun hk => ?_) (fun hk => ?_)
    · skip
      refine WC.skip (thenQ.n ?_)
      refine WC.seq ?_
      refine WC.block ?_
      iterate 2 refine WC.seq ?_
      have hS19 := SH.drew hL2
      refine WC.regionD [] (fun w_ => KB No w11.drew w_) [(.pure, 0), (.pure, 1), (.pure, 2), (.look, 3), (.pure, 4), (.pure, 5), (.pure, 6), (.look, 7), (.pure, 8)] (by kernel_rfl) (by kernel_rfl) (KB.refl _ _) ?_
      iterate 2 refine WS.pure rfl rfl (fun _ => LV.mv rfl) ?_
      obtain ⟨A15, c15, e9, g7⟩ := St.elt (SH.rd hS19 (.tail _ (.head _))) (0, 0) i (by omega) (by omega)
      refine WS.pure rfl rfl (fun _ => LV.idxA Try.underlying25 ti30.sz rfl e9 rfl (by omega) (by omega)) ?_
      refine WS.look rfl rfl (fun _ hk_ => LV.loadAgg (cs := [(.int .i64 (((CHR rowsf).getD (i).toNat (0, 0)).1)), (.int .i64 (((CHR rowsf).getD (i).toNat (0, 0)).2))]) Try.underlying30 rfl ti30 rfl rfl (fun j u hu => g7 _ hk_ j u hu)) ?_
      iterate 2 refine WS.pure rfl rfl (fun _ => LV.mv rfl) ?_
      obtain ⟨A16, c16, e10, g8⟩ := St.elt (SH.rd hS19 (.head _)) (0, 0) i (by omega) (by omega)
      refine WS.pure rfl rfl (fun _ => LV.idxA Try.underlying25 ti30.sz rfl e10 rfl (by omega) (by omega)) ?_
      refine WS.look rfl rfl (fun _ hk_ => LV.loadAgg (cs := [(.int .i64 (((CHR rowsf).getD (i).toNat (0, 0)).1)), (.int .i64 (((CHR rowsf).getD (i).toNat (0, 0)).2))]) Try.underlying30 rfl ti30 rfl rfl (fun j u hu => g8 _ hk_ j u hu)) ?_
      refine WS.pure rfl rfl (fun _ => LV.as (LV.neG (by decide) (ae_s2 Try.underlying30 (by decide) (by kernel_rfl) (pt_int Try.underlying3 rfl) (pt_int Try.underlying3 rfl) (pt_int Try.underlying3 rfl) (pt_int Try.underlying3 rfl) (ae_int Try.underlying3) (ae_int Try.underlying3)) (by kernel_rfl) rfl rfl) (decide_eq_false (fun h_ => h_ ⟨rfl, rfl⟩))) ?_
      refine WS.nil (thenQ.n ?_)
      refine WC.condF rfl ?_
      refine WC.skip (thenQ.n ?_)
      have hS20 := SH.drew hS19
      refine WC.regionD [] (fun w_ => KB No w11.drew.drew w_) [(.pure, 0), (.pure, 1), (.pure, 2), (.pure, 3), (.pure, 4), (.look, 5), (.pure, 6), (.pure, 7), (.pure, 8), (.pure, 9), (.look, 10), (.pure, 11), (.pure, 12), (.pure, 13)] (by kernel_rfl) (by kernel_rfl) (KB.refl _ _) ?_
      have hbc_ := hcd_ ((CHR rowsf).getD i.toNat (0, 0)) (getD_mem (by omega))
      have hb1_ := hbc_.1
      have hb2_ := hbc_.2.1
      have hb3_ := hbc_.2.2.1
      have hb4_ := hbc_.2.2.2
      iterate 3 refine WS.pure rfl rfl (fun _ => LV.mv rfl) ?_
      obtain ⟨A17, c17, e11, g9⟩ := St.elt (SH.rd hS20 (.tail _ (.head _))) (0, 0) i (by omega) (by omega)
      refine WS.pure rfl rfl (fun _ => LV.idxA Try.underlying25 ti30.sz rfl e11 rfl (by omega) (by omega)) ?_
      refine WS.pure rfl rfl (fun _ => LV.fieldA Try.underlying30 rfl ti3.sz rfl) ?_
      refine WS.look rfl rfl (fun _ hk_ => LV.load1 (v := (.int .i64 (((CHR rowsf).getD (i).toNat (0, 0)).1))) Try.underlying3 rfl rfl (g9 _ hk_ 0 _ rfl)) ?_
      iterate 2 refine WS.pure rfl rfl (fun _ => LV.mv rfl) ?_
      obtain ⟨A18, c18, e12, g10⟩ := St.elt (SH.rd hS20 (.tail _ (.head _))) (0, 0) i (by omega) (by omega)
      refine WS.pure rfl rfl (fun _ => LV.idxA Try.underlying25 ti30.sz rfl e12 rfl (by omega) (by omega)) ?_
      refine WS.pure rfl rfl (fun _ => LV.fieldA Try.underlying30 rfl ti3.sz rfl) ?_
      refine WS.look rfl rfl (fun _ hk_ => LV.load1 (v := (.int .i64 (((CHR rowsf).getD (i).toNat (0, 0)).2))) Try.underlying3 rfl rfl (g10 _ hk_ 1 _ rfl)) ?_
      refine WS.pure rfl rfl (fun _ => LV.sub rfl rfl (wr64 (by omega) (by omega))) ?_
      refine WS.pure rfl rfl (fun _ => LV.add rfl rfl (wr64 (by omega) (by omega))) ?_
      refine WS.pure rfl rfl (fun _ => LV.asg rfl) ?_
      refine WS.nil (blockQ.n <| thenQ.n ?_)
      refine WC.region ?_
      refine WL.lv rfl (LV.mv rfl) ?_
      refine WL.lv rfl (LV.add rfl rfl (wr64 (by omega) (by omega))) ?_
      refine WL.lv rfl (LV.asg rfl) ?_
      refine WL.nil (thenQ.n ?_)
      exact ⟨_, by omega, n + ((((CHR rowsf).getD (i).toNat (0, 0)).1) - (((CHR rowsf).getD (i).toNat (0, 0)).2)), i + 1, by omega, by omega, (by rw [CHD_at ilo hk, ← q1]), by omega, hS20, rfl, Weak.cons rfl <| Weak.cons rfl <| Weak.cons rfl <| Weak.cons rfl <| Weak.cons rfl <| Weak.cons rfl <| Weak.nil _⟩
    · skip
      refine WC.exit (thenQ.x <| thenQ.x <| blockQ.hit <| thenQ.n ?_)
      refine WC.seq ?_
      have hS21 := SH.drew hL2
      refine WC.regionD [] (fun w_ => KB No w11.drew w_) [(.forced, 0), (.pure, 1), (.pure, 2), (.pure, 3), (.pure, 4), (.pure, 5), (.pure, 6), (.pure, 7), (.pure, 8), (.pure, 9), (.pure, 10), (.pure, 11), (.pure, 12), (.pure, 13), (.pure, 14), (.pure, 15), (.look, 16), (.pure, 17), (.pure, 18), (.pure, 19), (.look, 20), (.pure, 21), (.pure, 22), (.pure, 23), (.pure, 24), (.pure, 25), (.pure, 26)] (by kernel_rfl) (by kernel_rfl) (KB.refl _ _) ?_
      refine WS.call rfl rfl (XC.fn Try.func9 (by kernel_rfl) rfl rfl rfl) (live40_calls  ) ?_
      rintro v_ w12 ⟨rfl, hk5⟩
      have hS22 := SH.same hS21 hk5
      refine ⟨fun h_ => (KB.transN (KB.refl _ _) hk5), ?_⟩
      iterate 2 refine WS.pure rfl rfl (fun _ => LV.mv rfl) ?_
      rcases Decidable.em ((CHE rowsf) ≠ 0) with hg3 | hg3
      · refine WS.pure rfl rfl (fun _ => LV.as (LV.neI rfl rfl) (decide_eq_true hg3)) ?_
        refine WS.pure rfl rfl (fun _ => LV.mv rfl) ?_
        iterate 3 refine WS.off rfl rfl ?_
        refine WS.pure rfl rfl (fun _ => LV.pickT rfl rfl) ?_
        refine WS.pure rfl rfl (fun _ => LV.mv rfl) ?_
        iterate 6 refine WS.off rfl rfl ?_
        refine WS.offL rfl rfl ?_
        iterate 3 refine WS.off rfl rfl ?_
        refine WS.offL rfl rfl ?_
        iterate 3 refine WS.off rfl rfl ?_
        iterate 2 refine WS.pure rfl rfl (fun _ => LV.pickT rfl rfl) ?_
        refine WS.pure rfl rfl (fun _ => LV.asg rfl) ?_
        refine WS.nil (thenQ.n ?_)
        refine WC.ret (?_)
        exact ⟨_, fun a ha => res1 rfl ha rfl, rfl, hS22.kb⟩
      · refine WS.pure rfl rfl (fun _ => LV.as (LV.neI rfl rfl) (decide_eq_false hg3)) ?_
        iterate 2 refine WS.pure rfl rfl (fun _ => LV.mv rfl) ?_
        refine WS.pure rfl rfl (fun _ => LV.lenL Try.underlying22 rfl) ?_
        rcases Decidable.em ((rowsf.length : Int) = 0) with hg4 | hg4
        · refine WS.pure rfl rfl (fun _ => LV.as (LV.eqI rfl rfl) (decide_eq_true hg4)) ?_
          refine WS.pure rfl rfl (fun _ => LV.pickF rfl rfl) ?_
          refine WS.pure rfl rfl (fun _ => LV.mv rfl) ?_
          iterate 6 refine WS.off rfl rfl ?_
          refine WS.offL rfl rfl ?_
          iterate 3 refine WS.off rfl rfl ?_
          refine WS.offL rfl rfl ?_
          iterate 3 refine WS.off rfl rfl ?_
          iterate 2 refine WS.pure rfl rfl (fun _ => LV.pickT rfl rfl) ?_
          refine WS.pure rfl rfl (fun _ => LV.asg rfl) ?_
          refine WS.nil (thenQ.n ?_)
          refine WC.ret (?_)
          exact ⟨_, fun a ha => res1 rfl ha rfl, rfl, hS22.kb⟩
        · refine WS.pure rfl rfl (fun _ => LV.as (LV.eqI rfl rfl) (decide_eq_false hg4)) ?_
          refine WS.pure rfl rfl (fun _ => LV.pickF rfl rfl) ?_
          iterate 4 refine WS.pure rfl rfl (fun _ => LV.mv rfl) ?_
          refine WS.pure rfl rfl (fun _ => LV.lenL Try.underlying22 rfl) ?_
          refine WS.pure rfl rfl (fun _ => LV.sub rfl rfl (wr64 (by omega) (by omega))) ?_
          obtain ⟨A19, c19, A20, c20, e13, g11, e14, r3⟩ := St.eltRR (St.rrOf (rows := rowsf) (SH.rd hS21 (.tail _ (.tail _ (.head _)))) (SH.stN hS21 hinf)) default ((rowsf.length : Int) - 1) (by omega) (by omega)
          refine WS.pure rfl rfl (fun _ => LV.idxA Try.underlying22 ti24.sz rfl e13 rfl (by omega) (by omega)) ?_
          refine WS.look rfl rfl (fun _ hk_ => LV.load1 Try.underlying24 rfl rfl (g11 _ hk_)) ?_
          refine WS.pure rfl rfl (fun _ => LV.lenL Try.underlying24 rfl) ?_
          refine WS.pure rfl rfl (fun _ => LV.mv rfl) ?_
          obtain ⟨A21, c21, A22, c22, e15, g12, e16, r4⟩ := St.eltRR (St.rrOf (rows := rowsf) (SH.rd hS21 (.tail _ (.tail _ (.head _)))) (SH.stN hS21 hinf)) default (0 : Int) (by omega) (by omega)
          refine WS.pure rfl rfl (fun _ => LV.idxA Try.underlying22 ti24.sz rfl e15 rfl (by omega) (by omega)) ?_
          refine WS.look rfl rfl (fun _ hk_ => LV.load1 Try.underlying24 rfl rfl (g12 _ hk_)) ?_
          refine WS.pure rfl rfl (fun _ => LV.lenL Try.underlying24 rfl) ?_
          have hw1_ := hfb2_ (rowsf.getD ((rowsf.length : Int) - 1).toNat default) (getD_mem (by omega))
          have hw2_ := hfb2_ (rowsf.getD (0 : Int).toNat default) (getD_mem (by omega))
          refine WS.pure rfl rfl (fun _ => LV.sub rfl rfl (wr64 (by omega) (by omega))) ?_
          refine WS.pure rfl rfl (fun _ => LV.as (LV.eqI rfl rfl) (decide_eq_true (by have hz_ := hca_ (hcc_.resolve_left (fun h_ => by omega)).1 (by omega); rw [q1, List.take_of_length_le (by omega)]; exact hz_))) ?_
          refine WS.pure rfl rfl (fun _ => LV.pickF rfl rfl) ?_
          refine WS.pure rfl rfl (fun _ => LV.pickT rfl rfl) ?_
          refine WS.pure rfl rfl (fun _ => LV.asg rfl) ?_
          refine WS.nil (thenQ.n ?_)
          refine WC.ret (?_)
          exact ⟨_, fun a ha => res1 rfl ha rfl, rfl, hS22.kb⟩

end Go.Proofs.Ytomeffnlmefnlaa
