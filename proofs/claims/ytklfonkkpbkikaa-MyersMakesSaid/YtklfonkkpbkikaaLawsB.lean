/- More laws of myers. -/
import Derived.Test.YtklfonkkpbkikaaLawsA
import Derived.Test.YtklfonkkpbkikaaMyT
namespace Go.Proofs.Ytklfonkkpbkikaa
open Go Go.Gv Go.RowKit Go.Mys
set_option linter.unusedVariables false
set_option linter.unusedSimpArgs false
theorem ti5 : TI Try.prog 5 (.int .u8 0) 1 1 := by unfold TI; kernel_rfl

theorem myersWays_law {w : World} {A0 A1 : Option Addr} {a b : List Int} {c0 c1 : Nat} (ha : St No w (Rd eI (.slice A0 a.length c0) a)) (hb : St No w (Rd eI (.slice A1 b.length c1) b)) :
    Calls Try.prog 3 #[(.slice A0 a.length c0), (.slice A1 b.length c1)] w fun e w' => ∃ v, e = .returned v ∧ (fun v w' => v = .bool true ∧ KB No w w') v w' := by
  have hS : SH w No w [] := SH.nil _ _
  refine calls (l := litOf [(.slice A0 a.length c0), (.slice A1 b.length c1)] 0) Try.func3 rfl (n := 37) rfl (Nat.le_of_ble_eq_true rfl) (lit_args _) ?_
  refine WC.seq ?_
  refine WC.region ?_
  refine WL.lv rfl (LV.asg rfl) ?_
  refine WL.nil (thenQ.n ?_)
  refine WC.seq ?_
  refine WC.region ?_
  refine WL.lv rfl (LV.mv rfl) ?_
  refine WL.call rfl (XC.fn Try.func10 (by kernel_rfl) rfl rfl rfl) (few_calls (SH.stN hS ha)) ?_
  rintro v_ w1 ⟨rfl, hk1⟩
  have hS1 := SH.same hS hk1
  refine WL.lv rfl (LV.mv rfl) ?_
  refine WL.call rfl (XC.fn Try.func10 (by kernel_rfl) rfl rfl rfl) (few_calls (SH.stN hS1 hb)) ?_
  rintro v_ w2 ⟨rfl, hk2⟩
  have hS2 := SH.same hS1 hk2
  iterate 2 refine WL.lv rfl (LV.asg rfl) ?_
  refine WL.nil (thenQ.n ?_)
  refine WC.seq ?_
  refine WC.region ?_
  refine WL.call rfl (XC.fn Try.func11 (by kernel_rfl) rfl rfl rfl) (live_calls) ?_
  rintro v_ w3 ⟨rfl, hk3⟩
  have hS3 := SH.same hS2 hk3
  iterate 3 refine WL.lv rfl (LV.mv rfl) ?_
  refine WL.call rfl (XC.fn Try.func13 (by kernel_rfl) rfl rfl rfl) (steps7_eq rfl rfl (SH.stN hS3 (few_rd 40 ha)) (SH.stN hS3 (few_rd 40 hb)) rfl rfl) ?_
  rintro v_ w4 ⟨A2, c2, rfl, hS4⟩
  have hS5 := SH.joinN hS3 hS4
  iterate 2 refine WL.lv rfl (LV.mv rfl) ?_
  refine WL.call rfl (XC.fn Try.func14 (by kernel_rfl) rfl rfl rfl) (rsteps_calls (SH.stN hS5 (few_rd 40 ha)) (SH.stN hS5 (few_rd 40 hb))) ?_
  rintro v_ w5 ⟨A3, c3, rfl, hS6⟩
  have hS7 := SH.joinN hS5 hS6
  refine WL.call rfl (XC.fn Try.func12 (by kernel_rfl) rfl rfl rfl) (same7_true (SH.rd hS7 (.tail _ (.head _))) (SH.rd hS7 (.head _))) ?_
  rintro v_ w6 ⟨rfl, hk4⟩
  have hS8 := SH.same hS7 hk4
  refine WL.lv rfl (LV.pickT rfl rfl) ?_
  iterate 3 refine WL.lv rfl (LV.mv rfl) ?_
  refine WL.call rfl (XC.fn Try.func16 (by kernel_rfl) rfl rfl rfl) (pairs7_eq rfl rfl (SH.stN hS8 (few_rd 40 ha)) (SH.stN hS8 (few_rd 40 hb)) rfl rfl) ?_
  rintro v_ w7 ⟨A4, c4, rfl, hS9⟩
  have hS10 := SH.joinN hS8 hS9
  iterate 2 refine WL.lv rfl (LV.mv rfl) ?_
  refine WL.call rfl (XC.fn Try.func17 (by kernel_rfl) rfl rfl rfl) (rpairs_calls (SH.stN hS10 (few_rd 40 ha)) (SH.stN hS10 (few_rd 40 hb))) ?_
  rintro v_ w8 ⟨A5, c5, rfl, hS11⟩
  have hS12 := SH.joinN hS10 hS11
  refine WL.call rfl (XC.fn Try.func15 (by kernel_rfl) rfl rfl rfl) (same6_true (SH.rd hS12 (.tail _ (.head _))) (SH.rd hS12 (.head _))) ?_
  rintro v_ w9 ⟨rfl, hk5⟩
  have hS13 := SH.same hS12 hk5
  refine WL.lv rfl (LV.pickT rfl rfl) ?_
  iterate 3 refine WL.lv rfl (LV.mv rfl) ?_
  refine WL.call rfl (XC.fn Try.func18 (by kernel_rfl) rfl rfl rfl) (distance_calls (SH.stN hS13 (few_rd 40 ha)) (SH.stN hS13 (few_rd 40 hb))) ?_
  rintro v_ w10 ⟨rfl, hk6⟩
  have hS14 := SH.same hS13 hk6
  iterate 2 refine WL.lv rfl (LV.mv rfl) ?_
  refine WL.call rfl (XC.fn Try.func19 (by kernel_rfl) rfl rfl rfl) (rdistance_calls (SH.stN hS14 (few_rd 40 ha)) (SH.stN hS14 (few_rd 40 hb))) ?_
  rintro v_ w11 ⟨rfl, hk7⟩
  have hS15 := SH.same hS14 hk7
  refine WL.lv rfl (LV.as (LV.eqI rfl rfl) (decide_eq_true (rfl))) ?_
  refine WL.lv rfl (LV.pickT rfl rfl) ?_
  refine WL.lv rfl (LV.asg rfl) ?_
  refine WL.nil (thenQ.n ?_)
  refine WC.ret (?_)
  exact ⟨_, fun a ha => res1 rfl ha rfl, rfl, hS15.kb⟩

theorem myersMakes_law {w : World} {A0 A1 : Option Addr} {a b : List Int} {c0 c1 : Nat} (ha : St No w (Rd eI (.slice A0 a.length c0) a)) (hb : St No w (Rd eI (.slice A1 b.length c1) b)) :
    Calls Try.prog 7 #[(.slice A0 a.length c0), (.slice A1 b.length c1)] w fun e w' => ∃ v, e = .returned v ∧ (fun v w' => v = .bool true ∧ KB No w w') v w' := by
  have hla : (a.take 40).length ≤ 40 := by rw [List.length_take]; omega
  have hlb : (b.take 40).length ≤ 40 := by rw [List.length_take]; omega
  have hS : SH w No w [] := SH.nil _ _
  refine calls (l := litOf [(.slice A0 a.length c0), (.slice A1 b.length c1)] 0) Try.func7 rfl (n := 99) rfl (Nat.le_of_ble_eq_true rfl) (lit_args _) ?_
  refine WC.seq ?_
  refine WC.region ?_
  refine WL.lv rfl (LV.asg rfl) ?_
  refine WL.nil (thenQ.n ?_)
  refine WC.seq ?_
  refine WC.region ?_
  refine WL.lv rfl (LV.mv rfl) ?_
  refine WL.call rfl (XC.fn Try.func10 (by kernel_rfl) rfl rfl rfl) (few_calls (SH.stN hS ha)) ?_
  rintro v_ w1 ⟨rfl, hk1⟩
  have hS1 := SH.same hS hk1
  refine WL.lv rfl (LV.mv rfl) ?_
  refine WL.call rfl (XC.fn Try.func10 (by kernel_rfl) rfl rfl rfl) (few_calls (SH.stN hS1 hb)) ?_
  rintro v_ w2 ⟨rfl, hk2⟩
  have hS2 := SH.same hS1 hk2
  iterate 2 refine WL.lv rfl (LV.asg rfl) ?_
  refine WL.nil (thenQ.n ?_)
  refine WC.seq ?_
  refine WC.region ?_
  iterate 2 refine WL.lv rfl (LV.mv rfl) ?_
  refine WL.call rfl (XC.fn Try.func13 (by kernel_rfl) rfl rfl rfl) (steps7_eq rfl rfl (SH.stN hS2 (few_rd 40 ha)) (SH.stN hS2 (few_rd 40 hb)) rfl rfl) ?_
  rintro v_ w3 ⟨A2, c2, rfl, hS3⟩
  have hS4 := SH.joinN hS2 hS3
  refine WL.lv rfl (LV.asg rfl) ?_
  refine WL.nil (thenQ.n ?_)
  refine WC.seq ?_
  refine WC.region ?_
  refine WL.lv rfl (LV.asg rfl) ?_
  refine WL.nil (thenQ.n ?_)
  refine WC.seq ?_
  refine WC.region ?_
  have hS5 := SH.nilRow (E := eI) (T := 3) hS4
  iterate 2 refine WL.lv rfl (LV.asg rfl) ?_
  refine WL.nil (thenQ.n ?_)
  iterate 2 refine WC.seq ?_
  refine WC.region ?_
  refine WL.lv rfl (LV.asg rfl) ?_
  refine WL.nil (thenQ.n ?_)
  refine WC.block ?_
  refine WC.loop (fun m_ f_ w_ => ∃ (i j k : Int) (A : Option Addr) (c : Nat) (out : List Int), (0 ≤ i) ∧ (i ≤ (a.take 40).length) ∧ (0 ≤ j) ∧ (j ≤ (b.take 40).length) ∧ (0 ≤ k) ∧ ((Stp (a.take 40) (b.take 40)).drop k.toNat = Wy (a.take 40) (b.take 40) i j) ∧ (out = (b.take 40).take j.toNat) ∧ ((out.length : Int) = j) ∧ (k ≤ ((Stp (a.take 40) (b.take 40)).length : Int)) ∧ SH w No w_ [rowE eI 3 (.slice A out.length c) out, rowE eI 38 (.slice A2 ((Stp (a.take 40) (b.take 40)).length) c2) (Stp (a.take 40) (b.take 40))] ∧ m_ = ((((Stp (a.take 40) (b.take 40)).length : Int) - k).toNat) ∧ Weak (lit [(0, (.slice (cutA A0 c0 1) ((a.take 40).length) c0)), (1, (.slice (cutA A1 c1 1) ((b.take 40).length) c1)), (4, (.bool false)), (5, (.slice A2 ((Stp (a.take 40) (b.take 40)).length) c2)), (6, (.slice A out.length c)), (7, (.int .i64 i)), (8, (.int .i64 j)), (9, (.int .i64 k))]) f_) _ ⟨0, 0, 0, none, 0, [], by omega, by omega, by omega, by omega, by omega, ((Stp_small (by omega) (by omega)).trans (Wy_00 _ _).symm), rfl, rfl, by omega, hS5, rfl, Weak.cons rfl <| Weak.cons rfl <| Weak.cons rfl <| Weak.cons rfl <| Weak.cons rfl <| Weak.cons rfl <| Weak.cons rfl <| Weak.cons rfl <| Weak.nil _⟩ ?_
  rintro m1 f1 w4 ⟨i, j, k, A, c, out, q0, q1, q2, q3, q4, q5, q6, q7, q8, hL1, rfl, hw1⟩
  refine WC.weak hw1 ?_
  clear hw1
  have hsl := Stp_len (a.take 40) (b.take 40)
  iterate 2 refine WC.seq ?_
  refine WC.region ?_
  iterate 2 refine WL.lv rfl (LV.mv rfl) ?_
  refine WL.lv rfl (LV.lenL Try.underlying26 rfl) ?_
  refine WL.lv rfl (LV.ltI rfl rfl) ?_
  refine WL.nil (thenQ.n ?_)
  refine WC.condP (p := k < ((Stp (a.take 40) (b.take 40)).length : Int)) rfl (fun hk => ?_) (fun hk => ?_)
  · have hcs := makes_case q0 q1 q2 q3 q4 hk q5
    refine WC.skip (thenQ.n ?_)
    refine WC.seq ?_
    iterate 2 refine WC.block ?_
    refine WC.seq ?_
    refine WC.region ?_
    iterate 2 refine WL.lv rfl (LV.mv rfl) ?_
    obtain ⟨A3, c3, e1, g1⟩ := St.elt (SH.rd hL1 (.tail _ (.head _))) 0 k (by omega) (by omega)
    refine WL.lv rfl (LV.idxA Try.underlying26 ti38.sz rfl e1 rfl (by omega) (by omega)) ?_
    refine WL.lv rfl (LV.load1 (v := (.int .i64 (gI (Stp (a.take 40) (b.take 40)) (k)))) Try.underlying38 rfl rfl (g1 _ (KB.refl No _) 0 _ rfl)) ?_
    rcases Decidable.em ((gI (Stp (a.take 40) (b.take 40)) (k)) = 1) with hg1 | hg1
    · refine WL.lv rfl (LV.as (LV.eqI rfl rfl) (decide_eq_true hg1)) ?_
      iterate 3 refine WL.lv rfl (LV.mv rfl) ?_
      refine WL.lv rfl (LV.lenL Try.underlying22 rfl) ?_
      refine WL.lv rfl (LV.as (LV.ltI rfl rfl) (decide_eq_true (by omega))) ?_
      refine WL.lv rfl (LV.pickT rfl rfl) ?_
      iterate 3 refine WL.lv rfl (LV.mv rfl) ?_
      refine WL.lv rfl (LV.lenL Try.underlying22 rfl) ?_
      refine WL.lv rfl (LV.as (LV.ltI rfl rfl) (decide_eq_true (by omega))) ?_
      refine WL.lv rfl (LV.pickT rfl rfl) ?_
      refine WL.lv rfl (LV.asg rfl) ?_
      refine WL.nil (thenQ.n ?_)
      refine WC.condT rfl ?_
      refine WC.seq ?_
      refine WC.region ?_
      iterate 3 refine WL.lv rfl (LV.mv rfl) ?_
      obtain ⟨A4, c4, e2, g2⟩ := St.elt (SH.stN hL1 (few_rd 40 ha)) 0 i (by omega) (by omega)
      refine WL.lv rfl (LV.idxA Try.underlying22 ti3.sz rfl e2 rfl (by omega) (by omega)) ?_
      refine WL.lv rfl (LV.load1 (v := (.int .i64 (gI (a.take 40) (i)))) Try.underlying3 rfl rfl (g2 _ (KB.refl No _) 0 _ rfl)) ?_
      refine WL.xe rfl (XE.buildSlice (E := eI) [(0, (.int .i64 (gI (a.take 40) (i))))] #[(.int .i64 (gI (a.take 40) (i)))] [gI (a.take 40) (i)] hL1 Try.underlying22 ti3 rfl (by decide) (by kernel_rfl) (.inr rfl) rfl rfl (by decide)) ?_
      rintro _ w5 ⟨b1, rfl, hS6, hk3⟩
      have hS7 : SH w No w5 [rowE eI 3 (.slice A out.length c) out, rowE eI 3 (.slice (some ⟨b1, 0, none⟩) 1 1) [gI (a.take 40) (i)], rowE eI 38 (.slice A2 ((Stp (a.take 40) (b.take 40)).length) c2) (Stp (a.take 40) (b.take 40))] := (SH.front [rowE eI 3 (.slice (some ⟨b1, 0, none⟩) 1 1) [gI (a.take 40) (i)]] hS6)
      refine WL.xe rfl (XE.append hS7 Try.underlying22 ti3 rfl (St.now (SH.rd hS7 (.tail _ (.head _)))) rfl rfl (by first | omega | simp only [List.length_append, List.length_cons, List.length_nil, List.length_take, List.length_reverse, List.length_drop] at *; omega) (by first | omega | simp only [List.length_append, List.length_cons, List.length_nil, List.length_take, List.length_reverse, List.length_drop] at *; omega)) ?_
      rintro _ w6 ⟨A5, c5, rfl, hS8, hk4⟩
      refine WL.lv rfl (LV.asg rfl) ?_
      refine WL.nil (thenQ.n ?_)
      refine WC.region ?_
      refine WL.lv rfl (LV.mv rfl) ?_
      refine WL.lv rfl (LV.add rfl rfl (wr64 (by omega) (by omega))) ?_
      refine WL.lv rfl (LV.mv rfl) ?_
      refine WL.lv rfl (LV.add rfl rfl (wr64 (by omega) (by omega))) ?_
      iterate 2 refine WL.lv rfl (LV.asg rfl) ?_
      refine WL.nil (blockQ.n <| blockQ.n <| thenQ.n ?_)
      refine WC.region ?_
      refine WL.lv rfl (LV.mv rfl) ?_
      refine WL.lv rfl (LV.add rfl rfl (wr64 (by omega) (by omega))) ?_
      refine WL.lv rfl (LV.asg rfl) ?_
      refine WL.nil (thenQ.n ?_)
      have hS9 : SH w No w6 [rowE eI 3 (.slice A5 ((out ++ [gI (a.take 40) (i)]).length) c5) (out ++ [gI (a.take 40) (i)]), rowE eI 38 (.slice A2 ((Stp (a.take 40) (b.take 40)).length) c2) (Stp (a.take 40) (b.take 40))] := (SH.take 2 rfl (SH.front [rowE eI 38 (.slice A2 ((Stp (a.take 40) (b.take 40)).length) c2) (Stp (a.take 40) (b.take 40))] (SH.front [rowE eI 3 (.slice A5 ((out ++ [gI (a.take 40) (i)]).length) c5) (out ++ [gI (a.take 40) (i)]), rowE eI 3 (.slice (some ⟨b1, 0, none⟩) 1 1) [gI (a.take 40) (i)]] hS8)))
      have hk_ := hcs.resolve_right (fun h_ => by omega)
      exact ⟨_, by omega, i + 1, j + 1, k + 1, A5, c5, (out ++ [gI (a.take 40) (i)]), by omega, by omega, by omega, by omega, by omega, hk_.2.2.2.2, (by rw [q6, hk_.2.2.2.1]; exact take_step q2 hk_.2.2.1), (by first | omega | (simp; omega)), by omega, hS9, rfl, Weak.cons rfl <| Weak.cons rfl <| Weak.cons rfl <| Weak.cons rfl <| Weak.cons rfl <| Weak.cons rfl <| Weak.cons rfl <| Weak.cons rfl <| Weak.nil _⟩
    · refine WL.lv rfl (LV.as (LV.eqI rfl rfl) (decide_eq_false hg1)) ?_
      refine WL.lv rfl (LV.mv rfl) ?_
      iterate 4 refine WL.off rfl ?_
      refine WL.lv rfl (LV.pickF rfl rfl) ?_
      refine WL.lv rfl (LV.mv rfl) ?_
      iterate 4 refine WL.off rfl ?_
      refine WL.lv rfl (LV.pickF rfl rfl) ?_
      refine WL.lv rfl (LV.asg rfl) ?_
      refine WL.nil (thenQ.n ?_)
      refine WC.condF rfl ?_
      refine WC.seq ?_
      refine WC.region ?_
      iterate 2 refine WL.lv rfl (LV.mv rfl) ?_
      obtain ⟨A6, c6, e3, g3⟩ := St.elt (SH.rd hL1 (.tail _ (.head _))) 0 k (by omega) (by omega)
      refine WL.lv rfl (LV.idxA Try.underlying26 ti38.sz rfl e3 rfl (by omega) (by omega)) ?_
      refine WL.lv rfl (LV.load1 (v := (.int .i64 (gI (Stp (a.take 40) (b.take 40)) (k)))) Try.underlying38 rfl rfl (g3 _ (KB.refl No _) 0 _ rfl)) ?_
      rcases Decidable.em ((gI (Stp (a.take 40) (b.take 40)) (k)) = 2) with hg2 | hg2
      · refine WL.lv rfl (LV.as (LV.eqI rfl rfl) (decide_eq_true hg2)) ?_
        iterate 3 refine WL.lv rfl (LV.mv rfl) ?_
        refine WL.lv rfl (LV.lenL Try.underlying22 rfl) ?_
        refine WL.lv rfl (LV.as (LV.ltI rfl rfl) (decide_eq_true (by omega))) ?_
        refine WL.lv rfl (LV.pickT rfl rfl) ?_
        refine WL.lv rfl (LV.asg rfl) ?_
        refine WL.nil (thenQ.n ?_)
        refine WC.condT rfl ?_
        refine WC.region ?_
        refine WL.lv rfl (LV.mv rfl) ?_
        refine WL.lv rfl (LV.add rfl rfl (wr64 (by omega) (by omega))) ?_
        refine WL.lv rfl (LV.asg rfl) ?_
        refine WL.nil (blockQ.n <| blockQ.n <| thenQ.n ?_)
        refine WC.region ?_
        refine WL.lv rfl (LV.mv rfl) ?_
        refine WL.lv rfl (LV.add rfl rfl (wr64 (by omega) (by omega))) ?_
        refine WL.lv rfl (LV.asg rfl) ?_
        refine WL.nil (thenQ.n ?_)
        have hk_ := (hcs.resolve_left (fun h_ => by omega)).resolve_right (fun h_ => by omega)
        exact ⟨_, by omega, i + 1, j, k + 1, A, c, out, by omega, by omega, by omega, by omega, by omega, hk_.2.2, q6, (by first | omega | (simp; omega)), by omega, hL1, rfl, Weak.cons rfl <| Weak.cons rfl <| Weak.cons rfl <| Weak.cons rfl <| Weak.cons rfl <| Weak.cons rfl <| Weak.cons rfl <| Weak.cons rfl <| Weak.nil _⟩
      · refine WL.lv rfl (LV.as (LV.eqI rfl rfl) (decide_eq_false hg2)) ?_
        refine WL.lv rfl (LV.mv rfl) ?_
        iterate 4 refine WL.off rfl ?_
        refine WL.lv rfl (LV.pickF rfl rfl) ?_
        refine WL.lv rfl (LV.asg rfl) ?_
        refine WL.nil (thenQ.n ?_)
        refine WC.condF rfl ?_
        refine WC.seq ?_
        refine WC.region ?_
        iterate 2 refine WL.lv rfl (LV.mv rfl) ?_
        obtain ⟨A7, c7, e4, g4⟩ := St.elt (SH.rd hL1 (.tail _ (.head _))) 0 k (by omega) (by omega)
        refine WL.lv rfl (LV.idxA Try.underlying26 ti38.sz rfl e4 rfl (by omega) (by omega)) ?_
        refine WL.lv rfl (LV.load1 (v := (.int .i64 (gI (Stp (a.take 40) (b.take 40)) (k)))) Try.underlying38 rfl rfl (g4 _ (KB.refl No _) 0 _ rfl)) ?_
        refine WL.lv rfl (LV.as (LV.eqI rfl rfl) (decide_eq_true (by omega))) ?_
        iterate 3 refine WL.lv rfl (LV.mv rfl) ?_
        refine WL.lv rfl (LV.lenL Try.underlying22 rfl) ?_
        refine WL.lv rfl (LV.as (LV.ltI rfl rfl) (decide_eq_true (by omega))) ?_
        refine WL.lv rfl (LV.pickT rfl rfl) ?_
        refine WL.lv rfl (LV.asg rfl) ?_
        refine WL.nil (thenQ.n ?_)
        refine WC.condT rfl ?_
        refine WC.seq ?_
        refine WC.region ?_
        iterate 3 refine WL.lv rfl (LV.mv rfl) ?_
        obtain ⟨A8, c8, e5, g5⟩ := St.elt (SH.stN hL1 (few_rd 40 hb)) 0 j (by omega) (by omega)
        refine WL.lv rfl (LV.idxA Try.underlying22 ti3.sz rfl e5 rfl (by omega) (by omega)) ?_
        refine WL.lv rfl (LV.load1 (v := (.int .i64 (gI (b.take 40) (j)))) Try.underlying3 rfl rfl (g5 _ (KB.refl No _) 0 _ rfl)) ?_
        refine WL.xe rfl (XE.buildSlice (E := eI) [(0, (.int .i64 (gI (b.take 40) (j))))] #[(.int .i64 (gI (b.take 40) (j)))] [gI (b.take 40) (j)] hL1 Try.underlying22 ti3 rfl (by decide) (by kernel_rfl) (.inr rfl) rfl rfl (by decide)) ?_
        rintro _ w7 ⟨b2, rfl, hS10, hk5⟩
        have hS11 : SH w No w7 [rowE eI 3 (.slice A out.length c) out, rowE eI 3 (.slice (some ⟨b2, 0, none⟩) 1 1) [gI (b.take 40) (j)], rowE eI 38 (.slice A2 ((Stp (a.take 40) (b.take 40)).length) c2) (Stp (a.take 40) (b.take 40))] := (SH.front [rowE eI 3 (.slice (some ⟨b2, 0, none⟩) 1 1) [gI (b.take 40) (j)]] hS10)
        refine WL.xe rfl (XE.append hS11 Try.underlying22 ti3 rfl (St.now (SH.rd hS11 (.tail _ (.head _)))) rfl rfl (by first | omega | simp only [List.length_append, List.length_cons, List.length_nil, List.length_take, List.length_reverse, List.length_drop] at *; omega) (by first | omega | simp only [List.length_append, List.length_cons, List.length_nil, List.length_take, List.length_reverse, List.length_drop] at *; omega)) ?_
        rintro _ w8 ⟨A9, c9, rfl, hS12, hk6⟩
        refine WL.lv rfl (LV.asg rfl) ?_
        refine WL.nil (thenQ.n ?_)
        refine WC.region ?_
        refine WL.lv rfl (LV.mv rfl) ?_
        refine WL.lv rfl (LV.add rfl rfl (wr64 (by omega) (by omega))) ?_
        refine WL.lv rfl (LV.asg rfl) ?_
        refine WL.nil (blockQ.n <| blockQ.n <| thenQ.n ?_)
        refine WC.region ?_
        refine WL.lv rfl (LV.mv rfl) ?_
        refine WL.lv rfl (LV.add rfl rfl (wr64 (by omega) (by omega))) ?_
        refine WL.lv rfl (LV.asg rfl) ?_
        refine WL.nil (thenQ.n ?_)
        have hS13 : SH w No w8 [rowE eI 3 (.slice A9 ((out ++ [gI (b.take 40) (j)]).length) c9) (out ++ [gI (b.take 40) (j)]), rowE eI 38 (.slice A2 ((Stp (a.take 40) (b.take 40)).length) c2) (Stp (a.take 40) (b.take 40))] := (SH.take 2 rfl (SH.front [rowE eI 38 (.slice A2 ((Stp (a.take 40) (b.take 40)).length) c2) (Stp (a.take 40) (b.take 40))] (SH.front [rowE eI 3 (.slice A9 ((out ++ [gI (b.take 40) (j)]).length) c9) (out ++ [gI (b.take 40) (j)]), rowE eI 3 (.slice (some ⟨b2, 0, none⟩) 1 1) [gI (b.take 40) (j)]] hS12)))
        have hk_ := (hcs.resolve_left (fun h_ => by omega)).resolve_left (fun h_ => by omega)
        exact ⟨_, by omega, i, j + 1, k + 1, A9, c9, (out ++ [gI (b.take 40) (j)]), by omega, by omega, by omega, by omega, by omega, hk_.2.2, (by rw [q6]; exact take_step q2 hk_.2.1), (by first | omega | (simp; omega)), by omega, hS13, rfl, Weak.cons rfl <| Weak.cons rfl <| Weak.cons rfl <| Weak.cons rfl <| Weak.cons rfl <| Weak.cons rfl <| Weak.cons rfl <| Weak.cons rfl <| Weak.nil _⟩
  · have hfin := makes_end q0 q1 q2 q3 hk q5
    refine WC.exit (thenQ.x <| thenQ.x <| blockQ.hit <| thenQ.n ?_)
    refine WC.seq ?_
    refine WC.region ?_
    refine WL.call rfl (XC.fn Try.func11 (by kernel_rfl) rfl rfl rfl) (live_calls) ?_
    rintro v_ w9 ⟨rfl, hk7⟩
    have hS14 := SH.same hL1 hk7
    iterate 3 refine WL.lv rfl (LV.mv rfl) ?_
    refine WL.lv rfl (LV.lenL Try.underlying22 rfl) ?_
    refine WL.lv rfl (LV.as (LV.eqI rfl rfl) (decide_eq_true (hfin.1))) ?_
    refine WL.lv rfl (LV.pickT rfl rfl) ?_
    iterate 3 refine WL.lv rfl (LV.mv rfl) ?_
    refine WL.call rfl (XC.fn Try.func20 (by kernel_rfl) rfl rfl rfl) (ints_calls (SH.rd hS14 (.head _)) (SH.stN hS14 (few_rd 40 hb))) ?_
    rintro v_ w10 ⟨rfl, hk8⟩
    have hS15 := SH.same hS14 hk8
    refine WL.lv rfl (LV.pickT rfl rfl) ?_
    refine WL.lv rfl (LV.asg rfl) ?_
    refine WL.nil (thenQ.n ?_)
    refine WC.ret (?_)
    exact ⟨_, fun a ha => res1 rfl ha rfl, congrArg Value.bool (decide_eq_true (by rw [q6, hfin.2, Int.toNat_natCast, List.take_length])), hS15.kb⟩

set_option maxRecDepth 10000 in
theorem myersLongest_law {w : World} {A0 A1 : Option Addr} {a b : List Int} {c0 c1 : Nat} (ha : St No w (Rd eI (.slice A0 a.length c0) a)) (hb : St No w (Rd eI (.slice A1 b.length c1) b)) {A2 : Option Addr} {c : List Int} {c2 : Nat} (hc : St No w (Rd eU8 (.slice A2 c.length c2) c)) (hc8 : ∀ n ∈ c, 0 ≤ n ∧ n ≤ 255) :
    Calls Try.prog 4 #[(.slice A0 a.length c0), (.slice A1 b.length c1), (.slice A2 c.length c2)] w fun e w' => ∃ v, e = .returned v ∧ (fun v w' => v = .bool true ∧ KB No w w') v w' := by
  have hla : (a.take 40).length ≤ 40 := by rw [List.length_take]; omega
  have hlb : (b.take 40).length ≤ 40 := by rw [List.length_take]; omega
  have hpl := Prs_len (a := a.take 40) (b := b.take 40) (by omega) (by omega)
  have hdb := Dst_bd (a.take 40) (b.take 40)
  have hds := Dst_small (a := a.take 40) (b := b.take 40) (by omega) (by omega)
  have hS : SH w No w [] := SH.nil _ _
  refine calls (l := litOf [(.slice A0 a.length c0), (.slice A1 b.length c1), (.slice A2 c.length c2)] 0) Try.func4 rfl (n := 182) rfl (Nat.le_of_ble_eq_true rfl) (lit_args _) ?_
  refine WC.seq ?_
  refine WC.region ?_
  refine WL.lv rfl (LV.asg rfl) ?_
  refine WL.nil (thenQ.n ?_)
  refine WC.seq ?_
  refine WC.region ?_
  refine WL.lv rfl (LV.mv rfl) ?_
  refine WL.call rfl (XC.fn Try.func10 (by kernel_rfl) rfl rfl rfl) (few_calls (SH.stN hS ha)) ?_
  rintro v_ w1 ⟨rfl, hk1⟩
  have hS1 := SH.same hS hk1
  refine WL.lv rfl (LV.mv rfl) ?_
  refine WL.call rfl (XC.fn Try.func10 (by kernel_rfl) rfl rfl rfl) (few_calls (SH.stN hS1 hb)) ?_
  rintro v_ w2 ⟨rfl, hk2⟩
  have hS2 := SH.same hS1 hk2
  iterate 2 refine WL.lv rfl (LV.asg rfl) ?_
  refine WL.nil (thenQ.n ?_)
  refine WC.seq ?_
  refine WC.region ?_
  iterate 3 refine WL.lv rfl (LV.asg rfl) ?_
  refine WL.nil (thenQ.n ?_)
  iterate 2 refine WC.seq ?_
  refine WC.region ?_
  refine WL.lv rfl (LV.asg rfl) ?_
  refine WL.nil (thenQ.n ?_)
  refine WC.block ?_
  refine WC.loop (fun m_ f_ w_ => ∃ (n p last i : Int) (m : List Int), (n = (m.length : Int)) ∧ (0 ≤ p ∧ p ≤ (b.take 40).length) ∧ (-1 ≤ last ∧ last < (a.take 40).length) ∧ (0 ≤ i ∧ i ≤ c.length) ∧ (m.Sublist ((a.take 40).take (last + 1).toNat)) ∧ (m.Sublist ((b.take 40).take p.toNat)) ∧ SH w No w_ [] ∧ m_ = (((c.length : Int) - i).toNat) ∧ Weak (lit [(0, (.slice (cutA A0 c0 1) ((a.take 40).length) c0)), (1, (.slice (cutA A1 c1 1) ((b.take 40).length) c1)), (2, (.slice A2 c.length c2)), (6, (.bool false)), (7, (.int .i64 n)), (8, (.int .i64 p)), (9, (.int .i64 last)), (10, (.int .i64 i))]) f_) _ ⟨0, 0, (-1), 0, ([] : List Int), rfl, by omega, by omega, by omega, (List.nil_sublist _), (List.nil_sublist _), hS2, rfl, Weak.cons rfl <| Weak.cons rfl <| Weak.cons rfl <| Weak.cons rfl <| Weak.cons rfl <| Weak.cons rfl <| Weak.cons rfl <| Weak.cons rfl <| Weak.nil _⟩ ?_
  rintro m1 f1 w3 ⟨n, p, last, i, m, q0, q1, q2, q3, q4, q5, hL1, rfl, hw1⟩
  refine WC.weak hw1 ?_
  clear hw1
  have hml := (q4.trans (List.take_sublist _ _)).length_le
  have hcm := Rd.max hc.now
  iterate 2 refine WC.seq ?_
  refine WC.region ?_
  iterate 2 refine WL.lv rfl (LV.mv rfl) ?_
  refine WL.lv rfl (LV.lenL Try.underlying33 rfl) ?_
  refine WL.lv rfl (LV.ltI rfl rfl) ?_
  refine WL.nil (thenQ.n ?_)
  refine WC.condP (p := i < (c.length : Int)) rfl (fun hc1 => ?_) (fun hc1 => ?_)
  · have hk8 := hc8 (c.getD (i).toNat 0) (getD_mem (by omega))
    refine WC.skip (thenQ.n ?_)
    refine WC.seq ?_
    refine WC.block ?_
    refine WC.seq ?_
    refine WC.region ?_
    iterate 2 refine WL.lv rfl (LV.mv rfl) ?_
    obtain ⟨A3, c3, e1, g1⟩ := St.elt (SH.stN hL1 hc) 0 i (by omega) (by omega)
    refine WL.lv rfl (LV.idxA Try.underlying33 ti5.sz rfl e1 rfl (by omega) (by omega)) ?_
    refine WL.lv rfl (LV.load1 (v := (.int .u8 (c.getD (i).toNat 0))) Try.underlying5 rfl rfl (g1 _ (KB.refl No _) 0 _ rfl)) ?_
    refine WL.lv rfl (LV.cvtI Try.underlying5 Try.underlying3 rfl (wr64 (by omega) (by omega))) ?_
    refine WL.lv rfl (LV.asg rfl) ?_
    refine WL.nil (thenQ.n ?_)
    iterate 2 refine WC.seq ?_
    refine WC.region ?_
    iterate 2 refine WL.lv rfl (LV.mv rfl) ?_
    rcases Decidable.em ((c.getD (i).toNat 0) ≤ last) with hg1 | hg1
    · refine WL.lv rfl (LV.as (LV.leI rfl rfl) (decide_eq_true hg1)) ?_
      refine WL.lv rfl (LV.mv rfl) ?_
      iterate 4 refine WL.off rfl ?_
      refine WL.lv rfl (LV.pickT rfl rfl) ?_
      refine WL.nil (thenQ.n ?_)
      refine WC.condT rfl ?_
      refine WC.exit (thenQ.x <| blockQ.hit <| thenQ.n ?_)
      refine WC.region ?_
      refine WL.lv rfl (LV.mv rfl) ?_
      refine WL.lv rfl (LV.add rfl rfl (wr64 (by omega) (by omega))) ?_
      refine WL.lv rfl (LV.asg rfl) ?_
      refine WL.nil (thenQ.n ?_)
      exact ⟨_, by omega, n, p, last, i + 1, m, (by first | omega | (simp; omega)), by omega, by omega, by omega, q4, q5, hL1, rfl, Weak.cons rfl <| Weak.cons rfl <| Weak.cons rfl <| Weak.cons rfl <| Weak.cons rfl <| Weak.cons rfl <| Weak.cons rfl <| Weak.cons rfl <| Weak.nil _⟩
    · refine WL.lv rfl (LV.as (LV.leI rfl rfl) (decide_eq_false hg1)) ?_
      iterate 3 refine WL.lv rfl (LV.mv rfl) ?_
      refine WL.lv rfl (LV.lenL Try.underlying22 rfl) ?_
      refine WL.lv rfl (LV.geI rfl rfl) ?_
      refine WL.lv rfl (LV.pickF rfl rfl) ?_
      refine WL.nil (thenQ.n ?_)
      refine WC.condP (p := (c.getD (i).toNat 0) ≥ ((a.take 40).length : Int)) rfl (fun hc2 => ?_) (fun hc2 => ?_)
      · skip
        refine WC.exit (thenQ.x <| blockQ.hit <| thenQ.n ?_)
        refine WC.region ?_
        refine WL.lv rfl (LV.mv rfl) ?_
        refine WL.lv rfl (LV.add rfl rfl (wr64 (by omega) (by omega))) ?_
        refine WL.lv rfl (LV.asg rfl) ?_
        refine WL.nil (thenQ.n ?_)
        exact ⟨_, by omega, n, p, last, i + 1, m, (by first | omega | (simp; omega)), by omega, by omega, by omega, q4, q5, hL1, rfl, Weak.cons rfl <| Weak.cons rfl <| Weak.cons rfl <| Weak.cons rfl <| Weak.cons rfl <| Weak.cons rfl <| Weak.cons rfl <| Weak.cons rfl <| Weak.nil _⟩
      · skip
        refine WC.skip (thenQ.n ?_)
        refine WC.seq ?_
        refine WC.region ?_
        refine WL.lv rfl (LV.mv rfl) ?_
        refine WL.lv rfl (LV.asg rfl) ?_
        refine WL.nil (thenQ.n ?_)
        refine WC.seq ?_
        refine WC.block ?_
        refine WC.loop (fun m_ f_ w_ => ∃ (j : Int), (p ≤ j) ∧ (j ≤ (b.take 40).length) ∧ SH w No w_ [] ∧ m_ = ((((b.take 40).length : Int) - j).toNat) ∧ Weak (lit [(0, (.slice (cutA A0 c0 1) ((a.take 40).length) c0)), (1, (.slice (cutA A1 c1 1) ((b.take 40).length) c1)), (2, (.slice A2 c.length c2)), (6, (.bool false)), (7, (.int .i64 n)), (8, (.int .i64 p)), (9, (.int .i64 last)), (10, (.int .i64 i)), (11, (.int .i64 (c.getD (i).toNat 0))), (12, (.int .i64 j))]) f_) _ ⟨p, by omega, by omega, hL1, rfl, Weak.cons rfl <| Weak.cons rfl <| Weak.cons rfl <| Weak.cons rfl <| Weak.cons rfl <| Weak.cons rfl <| Weak.cons rfl <| Weak.cons rfl <| Weak.cons rfl <| Weak.cons rfl <| Weak.nil _⟩ ?_
        rintro m2 f2 w4 ⟨j, s0, s1, hL2, rfl, hw2⟩
        refine WC.weak hw2 ?_
        clear hw2
        iterate 2 refine WC.seq ?_
        have hS3 := SH.drew hL2
        refine WC.regionD [] (fun w_ => KB No w4.drew w_) [(.pure, 0), (.pure, 1), (.pure, 2), (.pure, 3), (.pure, 4), (.pure, 5), (.pure, 6), (.pure, 7), (.look, 8), (.pure, 9), (.pure, 10), (.pure, 11), (.look, 12), (.pure, 13), (.pure, 14)] (by kernel_rfl) (by kernel_rfl) (KB.refl _ _) ?_
        iterate 2 refine WS.pure rfl rfl (fun _ => LV.mv rfl) ?_
        refine WS.pure rfl rfl (fun _ => LV.lenL Try.underlying22 rfl) ?_
        rcases Decidable.em (j < ((b.take 40).length : Int)) with hg2 | hg2
        · refine WS.pure rfl rfl (fun _ => LV.as (LV.ltI rfl rfl) (decide_eq_true hg2)) ?_
          iterate 3 refine WS.pure rfl rfl (fun _ => LV.mv rfl) ?_
          obtain ⟨A4, c4, e2, g2⟩ := St.elt (SH.stN hS3 (few_rd 40 hb)) 0 j (by omega) (by omega)
          refine WS.pure rfl rfl (fun _ => LV.idxA Try.underlying22 ti3.sz rfl e2 rfl (by omega) (by omega)) ?_
          refine WS.look rfl rfl (fun _ hk_ => LV.load1 (v := (.int .i64 (gI (b.take 40) (j)))) Try.underlying3 rfl rfl (g2 _ hk_ 0 _ rfl)) ?_
          iterate 2 refine WS.pure rfl rfl (fun _ => LV.mv rfl) ?_
          obtain ⟨A5, c5, e3, g3⟩ := St.elt (SH.stN hS3 (few_rd 40 ha)) 0 (c.getD (i).toNat 0) (by omega) (by omega)
          refine WS.pure rfl rfl (fun _ => LV.idxA Try.underlying22 ti3.sz rfl e3 rfl (by omega) (by omega)) ?_
          refine WS.look rfl rfl (fun _ hk_ => LV.load1 (v := (.int .i64 (gI (a.take 40) (c.getD (i).toNat 0)))) Try.underlying3 rfl rfl (g3 _ hk_ 0 _ rfl)) ?_
          refine WS.pure rfl rfl (fun _ => LV.neI rfl rfl) ?_
          refine WS.pure rfl rfl (fun _ => LV.pickT rfl rfl) ?_
          refine WS.nil (thenQ.n ?_)
          refine WC.condP (p := (gI (b.take 40) (j)) ≠ (gI (a.take 40) (c.getD (i).toNat 0))) rfl (fun hc3 => ?_) (fun hc3 => ?_)
          · skip
            refine WC.skip (thenQ.n ?_)
            refine WC.block ?_
            refine WC.region ?_
            refine WL.lv rfl (LV.mv rfl) ?_
            refine WL.lv rfl (LV.add rfl rfl (wr64 (by omega) (by omega))) ?_
            refine WL.lv rfl (LV.asg rfl) ?_
            refine WL.nil (blockQ.n <| thenQ.n ?_)
            exact ⟨_, by omega, j + 1, by omega, by omega, hS3, rfl, Weak.cons rfl <| Weak.cons rfl <| Weak.cons rfl <| Weak.cons rfl <| Weak.cons rfl <| Weak.cons rfl <| Weak.cons rfl <| Weak.cons rfl <| Weak.cons rfl <| Weak.cons rfl <| Weak.nil _⟩
          · skip
            refine WC.exit (thenQ.x <| thenQ.x <| blockQ.hit <| thenQ.n ?_)
            refine WC.seq ?_
            refine WC.region ?_
            iterate 2 refine WL.lv rfl (LV.mv rfl) ?_
            refine WL.lv rfl (LV.lenL Try.underlying22 rfl) ?_
            refine WL.lv rfl (LV.ltI rfl rfl) ?_
            refine WL.nil (thenQ.n ?_)
            refine WC.condP (p := j < ((b.take 40).length : Int)) rfl (fun hc4 => ?_) (fun hc4 => ?_)
            · refine WC.region ?_
              refine WL.lv rfl (LV.mv rfl) ?_
              refine WL.lv rfl (LV.add rfl rfl (wr64 (by omega) (by omega))) ?_
              refine WL.lv rfl (LV.mv rfl) ?_
              refine WL.lv rfl (LV.add rfl rfl (wr64 (by omega) (by omega))) ?_
              refine WL.lv rfl (LV.mv rfl) ?_
              iterate 3 refine WL.lv rfl (LV.asg rfl) ?_
              refine WL.nil (blockQ.n <| thenQ.n ?_)
              refine WC.region ?_
              refine WL.lv rfl (LV.mv rfl) ?_
              refine WL.lv rfl (LV.add rfl rfl (wr64 (by omega) (by omega))) ?_
              refine WL.lv rfl (LV.asg rfl) ?_
              refine WL.nil (thenQ.n ?_)
              exact ⟨_, by omega, n + 1, j + 1, c.getD (i).toNat 0, i + 1, (m ++ [gI (a.take 40) (c.getD (i).toNat 0)]), (by first | omega | (simp; omega)), by omega, by omega, by omega, (sub_snoc q4 (by omega) (by omega) (by omega) rfl), (sub_snoc q5 (by omega) (by omega) (by omega) (by omega)), hS3, rfl, Weak.cons rfl <| Weak.cons rfl <| Weak.cons rfl <| Weak.cons rfl <| Weak.cons rfl <| Weak.cons rfl <| Weak.cons rfl <| Weak.cons rfl <| Weak.nil _⟩
            · exact absurd hg2 hc4
        · refine WS.pure rfl rfl (fun _ => LV.as (LV.ltI rfl rfl) (decide_eq_false hg2)) ?_
          refine WS.pure rfl rfl (fun _ => LV.mv rfl) ?_
          iterate 3 refine WS.off rfl rfl ?_
          refine WS.offL rfl rfl ?_
          iterate 3 refine WS.off rfl rfl ?_
          refine WS.offL rfl rfl ?_
          refine WS.off rfl rfl ?_
          refine WS.pure rfl rfl (fun _ => LV.pickF rfl rfl) ?_
          refine WS.nil (thenQ.n ?_)
          refine WC.condF rfl ?_
          refine WC.exit (thenQ.x <| thenQ.x <| blockQ.hit <| thenQ.n ?_)
          refine WC.seq ?_
          refine WC.region ?_
          iterate 2 refine WL.lv rfl (LV.mv rfl) ?_
          refine WL.lv rfl (LV.lenL Try.underlying22 rfl) ?_
          refine WL.lv rfl (LV.ltI rfl rfl) ?_
          refine WL.nil (thenQ.n ?_)
          refine WC.condP (p := j < ((b.take 40).length : Int)) rfl (fun hc5 => ?_) (fun hc5 => ?_)
          · exact absurd hc5 hg2
          · refine WC.skip (blockQ.n <| thenQ.n ?_)
            refine WC.region ?_
            refine WL.lv rfl (LV.mv rfl) ?_
            refine WL.lv rfl (LV.add rfl rfl (wr64 (by omega) (by omega))) ?_
            refine WL.lv rfl (LV.asg rfl) ?_
            refine WL.nil (thenQ.n ?_)
            exact ⟨_, by omega, n, p, last, i + 1, m, (by first | omega | (simp; omega)), by omega, by omega, by omega, q4, q5, hS3, rfl, Weak.cons rfl <| Weak.cons rfl <| Weak.cons rfl <| Weak.cons rfl <| Weak.cons rfl <| Weak.cons rfl <| Weak.cons rfl <| Weak.cons rfl <| Weak.nil _⟩
  · skip
    refine WC.exit (thenQ.x <| thenQ.x <| blockQ.hit <| thenQ.n ?_)
    refine WC.seq ?_
    refine WC.region ?_
    iterate 2 refine WL.lv rfl (LV.mv rfl) ?_
    refine WL.call rfl (XC.fn Try.func16 (by kernel_rfl) rfl rfl rfl) (pairs7_eq rfl rfl (SH.stN hL1 (few_rd 40 ha)) (SH.stN hL1 (few_rd 40 hb)) rfl rfl) ?_
    rintro v_ w5 ⟨A6, c6, rfl, hS4⟩
    have hS5 := SH.joinN hL1 hS4
    refine WL.lv rfl (LV.asg rfl) ?_
    refine WL.nil (thenQ.n ?_)
    iterate 2 refine WC.seq ?_
    refine WC.region ?_
    refine WL.lv rfl (LV.asg rfl) ?_
    refine WL.nil (thenQ.n ?_)
    refine WC.block ?_
    refine WC.loop (fun m_ f_ w_ => ∃ (i2 : Int), (0 ≤ i2) ∧ (i2 ≤ (Prs (a.take 40) (b.take 40)).length) ∧ SH w No w_ [rowE eP 34 (.slice A6 ((Prs (a.take 40) (b.take 40)).length) c6) (Prs (a.take 40) (b.take 40))] ∧ m_ = ((((Prs (a.take 40) (b.take 40)).length : Int) - i2).toNat) ∧ Weak (lit [(0, (.slice (cutA A0 c0 1) ((a.take 40).length) c0)), (1, (.slice (cutA A1 c1 1) ((b.take 40).length) c1)), (2, (.slice A2 c.length c2)), (6, (.bool false)), (7, (.int .i64 n)), (13, (.slice A6 ((Prs (a.take 40) (b.take 40)).length) c6)), (14, (.int .i64 i2))]) f_) _ ⟨0, by omega, by omega, hS5, rfl, Weak.cons rfl <| Weak.cons rfl <| Weak.cons rfl <| Weak.cons rfl <| Weak.cons rfl <| Weak.cons rfl <| Weak.cons rfl <| Weak.nil _⟩ ?_
    rintro m3 f3 w6 ⟨i2, t0, t1, hL3, rfl, hw3⟩
    refine WC.weak hw3 ?_
    clear hw3
    iterate 2 refine WC.seq ?_
    refine WC.region ?_
    iterate 2 refine WL.lv rfl (LV.mv rfl) ?_
    refine WL.lv rfl (LV.lenL Try.underlying29 rfl) ?_
    refine WL.lv rfl (LV.ltI rfl rfl) ?_
    refine WL.nil (thenQ.n ?_)
    refine WC.condP (p := i2 < ((Prs (a.take 40) (b.take 40)).length : Int)) rfl (fun hc6 => ?_) (fun hc6 => ?_)
    · have hp := Prs_ok (a := a.take 40) (b := b.take 40) (by omega) (by omega) t0 hc6
      refine WC.skip (thenQ.n ?_)
      refine WC.seq ?_
      refine WC.block ?_
      refine WC.seq ?_
      have hS6 := SH.drew hL3
      refine WC.regionD [] (fun w_ => KB No w6.drew w_) [(.pure, 0), (.pure, 1), (.pure, 2), (.pure, 3), (.look, 4), (.pure, 5), (.pure, 6), (.pure, 7), (.pure, 8), (.pure, 9), (.pure, 10), (.look, 11), (.pure, 12), (.pure, 13), (.pure, 14), (.pure, 15), (.pure, 16), (.pure, 17), (.pure, 18), (.pure, 19), (.pure, 20), (.look, 21), (.pure, 22), (.pure, 23), (.pure, 24), (.pure, 25), (.pure, 26), (.pure, 27), (.pure, 28), (.look, 29), (.pure, 30), (.pure, 31), (.pure, 32), (.pure, 33), (.pure, 34), (.pure, 35), (.pure, 36), (.pure, 37), (.pure, 38), (.pure, 39), (.look, 40), (.pure, 41), (.look, 42), (.pure, 43), (.pure, 44), (.pure, 45), (.pure, 46), (.pure, 47), (.look, 48), (.pure, 49), (.look, 50), (.pure, 51), (.pure, 52), (.pure, 53), (.pure, 54), (.pure, 55), (.pure, 56), (.pure, 57), (.pure, 58), (.pure, 59), (.pure, 60), (.look, 61), (.pure, 62), (.pure, 63), (.pure, 64), (.pure, 65), (.pure, 66), (.look, 67), (.pure, 68), (.pure, 69), (.pure, 70), (.pure, 71), (.pure, 72), (.pure, 73), (.look, 74), (.pure, 75), (.pure, 76), (.pure, 77), (.pure, 78), (.pure, 79), (.look, 80), (.pure, 81), (.pure, 82), (.pure, 83), (.pure, 84)] (by kernel_rfl) (by kernel_rfl) (KB.refl _ _) ?_
      iterate 2 refine WS.pure rfl rfl (fun _ => LV.mv rfl) ?_
      obtain ⟨A7, c7, e4, g4⟩ := St.elt (SH.rd hS6 (.head _)) (0, 0) i2 (by omega) (by omega)
      refine WS.pure rfl rfl (fun _ => LV.idxA Try.underlying29 ti34.sz rfl e4 rfl (by omega) (by omega)) ?_
      refine WS.pure rfl rfl (fun _ => LV.idxArr Try.underlying34 ti3.sz rfl rfl (by decide) (by decide)) ?_
      refine WS.look rfl rfl (fun _ hk_ => LV.load1 (v := (.int .i64 (((Prs (a.take 40) (b.take 40)).getD (i2).toNat (0, 0)).1))) Try.underlying3 rfl rfl (g4 _ hk_ 0 _ rfl)) ?_
      refine WS.pure rfl rfl (fun _ => LV.as (LV.ltI rfl rfl) (decide_eq_false (by omega))) ?_
      iterate 3 refine WS.pure rfl rfl (fun _ => LV.mv rfl) ?_
      obtain ⟨A8, c8, e5, g5⟩ := St.elt (SH.rd hS6 (.head _)) (0, 0) i2 (by omega) (by omega)
      refine WS.pure rfl rfl (fun _ => LV.idxA Try.underlying29 ti34.sz rfl e5 rfl (by omega) (by omega)) ?_
      refine WS.pure rfl rfl (fun _ => LV.idxArr Try.underlying34 ti3.sz rfl rfl (by decide) (by decide)) ?_
      refine WS.look rfl rfl (fun _ hk_ => LV.load1 (v := (.int .i64 (((Prs (a.take 40) (b.take 40)).getD (i2).toNat (0, 0)).1))) Try.underlying3 rfl rfl (g5 _ hk_ 0 _ rfl)) ?_
      refine WS.pure rfl rfl (fun _ => LV.mv rfl) ?_
      refine WS.pure rfl rfl (fun _ => LV.lenL Try.underlying22 rfl) ?_
      refine WS.pure rfl rfl (fun _ => LV.as (LV.geI rfl rfl) (decide_eq_false (by omega))) ?_
      refine WS.pure rfl rfl (fun _ => LV.pickF rfl rfl) ?_
      iterate 3 refine WS.pure rfl rfl (fun _ => LV.mv rfl) ?_
      obtain ⟨A9, c9, e6, g6⟩ := St.elt (SH.rd hS6 (.head _)) (0, 0) i2 (by omega) (by omega)
      refine WS.pure rfl rfl (fun _ => LV.idxA Try.underlying29 ti34.sz rfl e6 rfl (by omega) (by omega)) ?_
      refine WS.pure rfl rfl (fun _ => LV.idxArr Try.underlying34 ti3.sz rfl rfl (by decide) (by decide)) ?_
      refine WS.look rfl rfl (fun _ hk_ => LV.load1 (v := (.int .i64 (((Prs (a.take 40) (b.take 40)).getD (i2).toNat (0, 0)).2))) Try.underlying3 rfl rfl (g6 _ hk_ 1 _ rfl)) ?_
      refine WS.pure rfl rfl (fun _ => LV.as (LV.ltI rfl rfl) (decide_eq_false (by omega))) ?_
      refine WS.pure rfl rfl (fun _ => LV.pickF rfl rfl) ?_
      iterate 3 refine WS.pure rfl rfl (fun _ => LV.mv rfl) ?_
      obtain ⟨A10, c10, e7, g7⟩ := St.elt (SH.rd hS6 (.head _)) (0, 0) i2 (by omega) (by omega)
      refine WS.pure rfl rfl (fun _ => LV.idxA Try.underlying29 ti34.sz rfl e7 rfl (by omega) (by omega)) ?_
      refine WS.pure rfl rfl (fun _ => LV.idxArr Try.underlying34 ti3.sz rfl rfl (by decide) (by decide)) ?_
      refine WS.look rfl rfl (fun _ hk_ => LV.load1 (v := (.int .i64 (((Prs (a.take 40) (b.take 40)).getD (i2).toNat (0, 0)).2))) Try.underlying3 rfl rfl (g7 _ hk_ 1 _ rfl)) ?_
      refine WS.pure rfl rfl (fun _ => LV.mv rfl) ?_
      refine WS.pure rfl rfl (fun _ => LV.lenL Try.underlying22 rfl) ?_
      refine WS.pure rfl rfl (fun _ => LV.as (LV.geI rfl rfl) (decide_eq_false (by omega))) ?_
      refine WS.pure rfl rfl (fun _ => LV.pickF rfl rfl) ?_
      iterate 4 refine WS.pure rfl rfl (fun _ => LV.mv rfl) ?_
      obtain ⟨A11, c11, e8, g8⟩ := St.elt (SH.rd hS6 (.head _)) (0, 0) i2 (by omega) (by omega)
      refine WS.pure rfl rfl (fun _ => LV.idxA Try.underlying29 ti34.sz rfl e8 rfl (by omega) (by omega)) ?_
      refine WS.pure rfl rfl (fun _ => LV.idxArr Try.underlying34 ti3.sz rfl rfl (by decide) (by decide)) ?_
      refine WS.look rfl rfl (fun _ hk_ => LV.load1 (v := (.int .i64 (((Prs (a.take 40) (b.take 40)).getD (i2).toNat (0, 0)).1))) Try.underlying3 rfl rfl (g8 _ hk_ 0 _ rfl)) ?_
      obtain ⟨A12, c12, e9, g9⟩ := St.elt (SH.stN hS6 (few_rd 40 ha)) 0 (((Prs (a.take 40) (b.take 40)).getD (i2).toNat (0, 0)).1) (by omega) (by omega)
      refine WS.pure rfl rfl (fun _ => LV.idxA Try.underlying22 ti3.sz rfl e9 rfl (by omega) (by omega)) ?_
      refine WS.look rfl rfl (fun _ hk_ => LV.load1 (v := (.int .i64 (gI (a.take 40) (((Prs (a.take 40) (b.take 40)).getD (i2).toNat (0, 0)).1)))) Try.underlying3 rfl rfl (g9 _ hk_ 0 _ rfl)) ?_
      iterate 3 refine WS.pure rfl rfl (fun _ => LV.mv rfl) ?_
      obtain ⟨A13, c13, e10, g10⟩ := St.elt (SH.rd hS6 (.head _)) (0, 0) i2 (by omega) (by omega)
      refine WS.pure rfl rfl (fun _ => LV.idxA Try.underlying29 ti34.sz rfl e10 rfl (by omega) (by omega)) ?_
      refine WS.pure rfl rfl (fun _ => LV.idxArr Try.underlying34 ti3.sz rfl rfl (by decide) (by decide)) ?_
      refine WS.look rfl rfl (fun _ hk_ => LV.load1 (v := (.int .i64 (((Prs (a.take 40) (b.take 40)).getD (i2).toNat (0, 0)).2))) Try.underlying3 rfl rfl (g10 _ hk_ 1 _ rfl)) ?_
      obtain ⟨A14, c14, e11, g11⟩ := St.elt (SH.stN hS6 (few_rd 40 hb)) 0 (((Prs (a.take 40) (b.take 40)).getD (i2).toNat (0, 0)).2) (by omega) (by omega)
      refine WS.pure rfl rfl (fun _ => LV.idxA Try.underlying22 ti3.sz rfl e11 rfl (by omega) (by omega)) ?_
      refine WS.look rfl rfl (fun _ hk_ => LV.load1 (v := (.int .i64 (gI (b.take 40) (((Prs (a.take 40) (b.take 40)).getD (i2).toNat (0, 0)).2)))) Try.underlying3 rfl rfl (g11 _ hk_ 0 _ rfl)) ?_
      refine WS.pure rfl rfl (fun _ => LV.as (LV.neI rfl rfl) (decide_eq_false (by omega))) ?_
      refine WS.pure rfl rfl (fun _ => LV.pickF rfl rfl) ?_
      iterate 2 refine WS.pure rfl rfl (fun _ => LV.mv rfl) ?_
      rcases Decidable.em (i2 > 0) with hg3 | hg3
      · refine WS.pure rfl rfl (fun _ => LV.as (LV.gtI rfl rfl) (decide_eq_true hg3)) ?_
        iterate 3 refine WS.pure rfl rfl (fun _ => LV.mv rfl) ?_
        obtain ⟨A15, c15, e12, g12⟩ := St.elt (SH.rd hS6 (.head _)) (0, 0) i2 (by omega) (by omega)
        refine WS.pure rfl rfl (fun _ => LV.idxA Try.underlying29 ti34.sz rfl e12 rfl (by omega) (by omega)) ?_
        refine WS.pure rfl rfl (fun _ => LV.idxArr Try.underlying34 ti3.sz rfl rfl (by decide) (by decide)) ?_
        refine WS.look rfl rfl (fun _ hk_ => LV.load1 (v := (.int .i64 (((Prs (a.take 40) (b.take 40)).getD (i2).toNat (0, 0)).1))) Try.underlying3 rfl rfl (g12 _ hk_ 0 _ rfl)) ?_
        iterate 2 refine WS.pure rfl rfl (fun _ => LV.mv rfl) ?_
        refine WS.pure rfl rfl (fun _ => LV.sub rfl rfl (wr64 (by omega) (by omega))) ?_
        obtain ⟨A16, c16, e13, g13⟩ := St.elt (SH.rd hS6 (.head _)) (0, 0) (i2 - 1) (by omega) (by omega)
        refine WS.pure rfl rfl (fun _ => LV.idxA Try.underlying29 ti34.sz rfl e13 rfl (by omega) (by omega)) ?_
        refine WS.pure rfl rfl (fun _ => LV.idxArr Try.underlying34 ti3.sz rfl rfl (by decide) (by decide)) ?_
        refine WS.look rfl rfl (fun _ hk_ => LV.load1 (v := (.int .i64 (((Prs (a.take 40) (b.take 40)).getD (i2 - 1).toNat (0, 0)).1))) Try.underlying3 rfl rfl (g13 _ hk_ 0 _ rfl)) ?_
        refine WS.pure rfl rfl (fun _ => LV.as (LV.leI rfl rfl) (decide_eq_false (by omega))) ?_
        iterate 3 refine WS.pure rfl rfl (fun _ => LV.mv rfl) ?_
        obtain ⟨A17, c17, e14, g14⟩ := St.elt (SH.rd hS6 (.head _)) (0, 0) i2 (by omega) (by omega)
        refine WS.pure rfl rfl (fun _ => LV.idxA Try.underlying29 ti34.sz rfl e14 rfl (by omega) (by omega)) ?_
        refine WS.pure rfl rfl (fun _ => LV.idxArr Try.underlying34 ti3.sz rfl rfl (by decide) (by decide)) ?_
        refine WS.look rfl rfl (fun _ hk_ => LV.load1 (v := (.int .i64 (((Prs (a.take 40) (b.take 40)).getD (i2).toNat (0, 0)).2))) Try.underlying3 rfl rfl (g14 _ hk_ 1 _ rfl)) ?_
        iterate 2 refine WS.pure rfl rfl (fun _ => LV.mv rfl) ?_
        refine WS.pure rfl rfl (fun _ => LV.sub rfl rfl (wr64 (by omega) (by omega))) ?_
        obtain ⟨A18, c18, e15, g15⟩ := St.elt (SH.rd hS6 (.head _)) (0, 0) (i2 - 1) (by omega) (by omega)
        refine WS.pure rfl rfl (fun _ => LV.idxA Try.underlying29 ti34.sz rfl e15 rfl (by omega) (by omega)) ?_
        refine WS.pure rfl rfl (fun _ => LV.idxArr Try.underlying34 ti3.sz rfl rfl (by decide) (by decide)) ?_
        refine WS.look rfl rfl (fun _ hk_ => LV.load1 (v := (.int .i64 (((Prs (a.take 40) (b.take 40)).getD (i2 - 1).toNat (0, 0)).2))) Try.underlying3 rfl rfl (g15 _ hk_ 1 _ rfl)) ?_
        refine WS.pure rfl rfl (fun _ => LV.as (LV.leI rfl rfl) (decide_eq_false (by omega))) ?_
        refine WS.pure rfl rfl (fun _ => LV.pickF rfl rfl) ?_
        refine WS.pure rfl rfl (fun _ => LV.pickT rfl rfl) ?_
        refine WS.pure rfl rfl (fun _ => LV.pickF rfl rfl) ?_
        refine WS.nil (thenQ.n ?_)
        refine WC.condF rfl ?_
        refine WC.skip (blockQ.n <| thenQ.n ?_)
        refine WC.region ?_
        refine WL.lv rfl (LV.mv rfl) ?_
        refine WL.lv rfl (LV.add rfl rfl (wr64 (by omega) (by omega))) ?_
        refine WL.lv rfl (LV.asg rfl) ?_
        refine WL.nil (thenQ.n ?_)
        exact ⟨_, by omega, i2 + 1, by omega, by omega, hS6, rfl, Weak.cons rfl <| Weak.cons rfl <| Weak.cons rfl <| Weak.cons rfl <| Weak.cons rfl <| Weak.cons rfl <| Weak.cons rfl <| Weak.nil _⟩
      · refine WS.pure rfl rfl (fun _ => LV.as (LV.gtI rfl rfl) (decide_eq_false hg3)) ?_
        refine WS.pure rfl rfl (fun _ => LV.mv rfl) ?_
        iterate 4 refine WS.off rfl rfl ?_
        refine WS.offL rfl rfl ?_
        iterate 5 refine WS.off rfl rfl ?_
        refine WS.offL rfl rfl ?_
        iterate 6 refine WS.off rfl rfl ?_
        refine WS.offL rfl rfl ?_
        iterate 5 refine WS.off rfl rfl ?_
        refine WS.offL rfl rfl ?_
        iterate 2 refine WS.off rfl rfl ?_
        iterate 2 refine WS.pure rfl rfl (fun _ => LV.pickF rfl rfl) ?_
        refine WS.nil (thenQ.n ?_)
        refine WC.condF rfl ?_
        refine WC.skip (blockQ.n <| thenQ.n ?_)
        refine WC.region ?_
        refine WL.lv rfl (LV.mv rfl) ?_
        refine WL.lv rfl (LV.add rfl rfl (wr64 (by omega) (by omega))) ?_
        refine WL.lv rfl (LV.asg rfl) ?_
        refine WL.nil (thenQ.n ?_)
        exact ⟨_, by omega, i2 + 1, by omega, by omega, hS6, rfl, Weak.cons rfl <| Weak.cons rfl <| Weak.cons rfl <| Weak.cons rfl <| Weak.cons rfl <| Weak.cons rfl <| Weak.cons rfl <| Weak.nil _⟩
    · skip
      refine WC.exit (thenQ.x <| thenQ.x <| blockQ.hit <| thenQ.n ?_)
      refine WC.seq ?_
      refine WC.region ?_
      refine WL.call rfl (XC.fn Try.func11 (by kernel_rfl) rfl rfl rfl) (live_calls) ?_
      rintro v_ w7 ⟨rfl, hk3⟩
      have hS7 := SH.same hL3 hk3
      iterate 3 refine WL.lv rfl (LV.mv rfl) ?_
      refine WL.lv rfl (LV.lenL Try.underlying29 rfl) ?_
      refine WL.lv rfl (LV.as (LV.leI rfl rfl) (decide_eq_true (by have h1_ := dist_le_of (q4.trans (List.take_sublist _ _)) (q5.trans (List.take_sublist _ _)); omega))) ?_
      refine WL.lv rfl (LV.pickT rfl rfl) ?_
      iterate 3 refine WL.lv rfl (LV.mv rfl) ?_
      refine WL.call rfl (XC.fn Try.func18 (by kernel_rfl) rfl rfl rfl) (distance_calls (SH.stN hS7 (few_rd 40 ha)) (SH.stN hS7 (few_rd 40 hb))) ?_
      rintro v_ w8 ⟨rfl, hk4⟩
      have hS8 := SH.same hS7 hk4
      refine WL.lv rfl (LV.mv rfl) ?_
      refine WL.lv rfl (LV.lenL Try.underlying22 rfl) ?_
      refine WL.lv rfl (LV.mv rfl) ?_
      refine WL.lv rfl (LV.lenL Try.underlying22 rfl) ?_
      refine WL.lv rfl (LV.add rfl rfl (wr64 (by omega) (by omega))) ?_
      refine WL.lv rfl (LV.mv rfl) ?_
      refine WL.lv rfl (LV.lenL Try.underlying29 rfl) ?_
      refine WL.lv rfl (LV.mul rfl rfl (wr64 (by omega) (by omega))) ?_
      refine WL.lv rfl (LV.sub rfl rfl (wr64 (by omega) (by omega))) ?_
      refine WL.lv rfl (LV.as (LV.eqI rfl rfl) (decide_eq_true (by omega))) ?_
      refine WL.lv rfl (LV.pickT rfl rfl) ?_
      refine WL.lv rfl (LV.asg rfl) ?_
      refine WL.nil (thenQ.n ?_)
      refine WC.ret (?_)
      exact ⟨_, fun a ha => res1 rfl ha rfl, rfl, hS8.kb⟩

end Go.Proofs.Ytklfonkkpbkikaa
