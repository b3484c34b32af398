/- The document's sort, and bounds. -/
import Derived.Test.YtlnnfcbndelcnaaFlK
namespace Go.Proofs.Ytlnnfcbndelcnaa
open Go Go.Gv Go.RowKit Go.Flt Go.Shelf Go.Lib Go.Sort
set_option linter.unusedVariables false
set_option linter.unusedSimpArgs false

theorem rsort22_calls {w : World} {A_l : Option Addr} {c_l : Nat} {l : List Nat} (h_l : St No w (Rd eF (.slice A_l l.length c_l) l)) (hp : ∀ x ∈ l, W6 x) (hl : l.length ≤ 100) :
    Calls Try.prog 19 #[(.slice A_l l.length c_l)] w fun e w' => ∃ v, e = .returned v ∧ (fun v w' => ∃ A' c' ys, v = .slice A' ys.length c' ∧ ys.Perm l ∧ (ys.Pairwise fun a b => ¬ ORD b a < 0) ∧ SH w No w' [rowE eF 22 (.slice A' ys.length c') ys]) v w' := by
  have hS : SH w No w [] := SH.nil _ _
  refine calls (l := litOf [(.slice A_l l.length c_l)] 0) Try.func19 rfl (n := 50) rfl (Nat.le_of_ble_eq_true rfl) (lit_args _) ?_
  refine WC.seq ?_
  refine WC.region ?_
  refine WL.lv rfl (LV.asg rfl) ?_
  refine WL.nil (thenQ.n ?_)
  refine WC.seq ?_
  refine WC.region ?_
  refine WL.xe rfl (XE.buildSlice (E := eF) [] #[] [] hS Try.underlying29 ti22 rfl (by decide) (by kernel_rfl) (.inr rfl) rfl rfl (by decide)) ?_
  rintro _ w1 ⟨b1, rfl, hS1, hk1⟩
  refine WL.lv rfl (LV.asg rfl) ?_
  refine WL.nil (thenQ.n ?_)
  iterate 2 refine WC.seq ?_
  refine WC.region ?_
  refine WL.lv rfl (LV.asg rfl) ?_
  refine WL.nil (thenQ.n ?_)
  refine WC.block ?_
  refine WC.loop (fun m_ f_ w_ => ∃ (A_out : Option Addr) (c_out : Nat) (out : List Nat) (i : Int), (0 ≤ i) ∧ (i ≤ (l.length : Int)) ∧ (out.Perm (l.take i.toNat)) ∧ (out.Pairwise (fun a b => ¬ ORD b a < 0)) ∧ ((out.length : Int) = i) ∧ SH w No w_ [rowE eF 22 (.slice A_out out.length c_out) out] ∧ m_ = (((l.length : Int) - i).toNat) ∧ Weak (lit [(0, (.slice A_l l.length c_l)), (3, (.slice A_out out.length c_out)), (4, (.int .i64 i))]) f_) _ ⟨(some ⟨b1, 0, none⟩), 0, [], 0, by omega, by omega, (List.Perm.refl _), List.Pairwise.nil, rfl, hS1, rfl, Weak.cons rfl <| Weak.cons rfl <| Weak.cons rfl <| Weak.nil _⟩ ?_
  rintro m1 f1 w2 ⟨A_out, c_out, out, i, ilo, ihi, q1, q2, q3, hL1, rfl, hw1⟩
  refine WC.weak hw1 ?_
  clear hw1
  iterate 2 refine WC.seq ?_
  refine WC.region ?_
  iterate 2 refine WL.lv rfl (LV.mv rfl) ?_
  refine WL.lv rfl (LV.lenL Try.underlying29 rfl) ?_
  refine WL.lv rfl (LV.ltI rfl rfl) ?_
  refine WL.nil (thenQ.n ?_)
  refine WC.condP (p := i < (l.length : Int)) rfl (fun h11 => ?_) (fun h11 => ?_)
  · have hwi_ : l.getD i.toNat 0 < 18446744073709551616 := hp (l.getD i.toNat 0) (getD_mem (by omega))
    refine WC.skip (thenQ.n ?_)
    refine WC.seq ?_
    refine WC.block ?_
    refine WC.seq ?_
    refine WC.region ?_
    refine WL.lv rfl (LV.asg rfl) ?_
    refine WL.nil (thenQ.n ?_)
    refine WC.seq ?_
    refine WC.block ?_
    refine WC.loop (fun m_ f_ w_ => ∃ (k : Int), (0 ≤ k) ∧ (k ≤ (out.length : Int)) ∧ (∀ t : Int, 0 ≤ t → t < k → tk (out.getD t.toNat 0) ≤ tk (l.getD i.toNat 0)) ∧ SH w No w_ [rowE eF 22 (.slice A_out out.length c_out) out] ∧ m_ = (((out.length : Int) - k).toNat) ∧ Weak (lit [(0, (.slice A_l l.length c_l)), (3, (.slice A_out out.length c_out)), (4, (.int .i64 i)), (5, (.int .i64 k))]) f_) _ ⟨0, by omega, by omega, (fun t h1_ h2_ => by omega), hL1, rfl, Weak.cons rfl <| Weak.cons rfl <| Weak.cons rfl <| Weak.cons rfl <| Weak.nil _⟩ ?_
    rintro m2 f2 w3 ⟨k, klo, khi, s1, hL2, rfl, hw2⟩
    refine WC.weak hw2 ?_
    clear hw2
    iterate 2 refine WC.seq ?_
    have hS2 := SH.drew hL2
    refine WC.regionD [] (fun w_ => KB No w3.drew w_) [(.pure, 0), (.pure, 1), (.pure, 2), (.pure, 3), (.pure, 4), (.pure, 5), (.pure, 6), (.pure, 7), (.look, 8), (.pure, 9), (.pure, 10), (.pure, 11), (.look, 12), (.forced, 13), (.pure, 14), (.pure, 15)] (by kernel_rfl) (by kernel_rfl) (KB.refl _ _) ?_
    iterate 2 refine WS.pure rfl rfl (fun _ => LV.mv rfl) ?_
    refine WS.pure rfl rfl (fun _ => LV.lenL Try.underlying29 rfl) ?_
    rcases Decidable.em (k < (out.length : Int)) with hg1 | hg1
    · refine WS.pure rfl rfl (fun _ => LV.as (LV.ltI rfl rfl) (decide_eq_true hg1)) ?_
      iterate 3 refine WS.pure rfl rfl (fun _ => LV.mv rfl) ?_
      obtain ⟨A1, c1, e1, g1⟩ := St.elt (SH.rd hS2 (.head _)) 0 k (by omega) (by omega)
      refine WS.pure rfl rfl (fun _ => LV.idxA Try.underlying29 ti22.sz rfl e1 rfl (by omega) (by omega)) ?_
      refine WS.look rfl rfl (fun _ hk_ => LV.load1 (v := (.float .f64 (out.getD (k).toNat 0))) Try.underlying22 rfl rfl (g1 _ hk_ 0 _ rfl)) ?_
      iterate 2 refine WS.pure rfl rfl (fun _ => LV.mv rfl) ?_
      obtain ⟨A2, c2, e2, g2⟩ := St.elt (SH.stN hS2 h_l) 0 i (by omega) (by omega)
      refine WS.pure rfl rfl (fun _ => LV.idxA Try.underlying29 ti22.sz rfl e2 rfl (by omega) (by omega)) ?_
      refine WS.look rfl rfl (fun _ hk_ => LV.load1 (v := (.float .f64 (l.getD (i).toNat 0))) Try.underlying22 rfl rfl (g2 _ hk_ 0 _ rfl)) ?_
      have hwo_ : out.getD k.toNat 0 < 18446744073709551616 := hp _ (List.mem_of_mem_take (q1.mem_iff.1 (getD_mem (by omega))))
      have ho_ := ord_is' (out.getD k.toNat 0) (l.getD i.toNat 0)
      refine WS.call rfl rfl (XC.fn Try.func15 (by kernel_rfl) rfl rfl rfl) (rorder_calls (a := (out.getD (k).toNat 0)) (b := (l.getD (i).toNat 0)) (by first | assumption | omega | exact hp _ (getD_mem (by omega)) | exact hpz _ (getD_mem (by omega))) (by first | assumption | omega | exact hp _ (getD_mem (by omega)) | exact hpz _ (getD_mem (by omega)))) ?_
      rintro v_ w4 ⟨rfl, hk2⟩
      have hS3 := SH.same hS2 hk2
      refine ⟨fun h_ => (KB.transN (KB.refl _ _) hk2), ?_⟩
      refine WS.pure rfl rfl (fun _ => LV.leI rfl rfl) ?_
      refine WS.pure rfl rfl (fun _ => LV.pickT rfl rfl) ?_
      refine WS.nil (thenQ.n ?_)
      refine WC.condP (p := (ORD (out.getD (k).toNat 0) (l.getD (i).toNat 0)) ≤ 0) rfl (fun hc1 => ?_) (fun hc1 => ?_)
      · skip
        refine WC.skip (thenQ.n ?_)
        refine WC.block ?_
        refine WC.region ?_
        refine WL.lv rfl (LV.mv rfl) ?_
        refine WL.lv rfl (LV.add rfl rfl (wr64 (by omega) (by omega))) ?_
        refine WL.lv rfl (LV.asg rfl) ?_
        refine WL.nil (blockQ.n <| thenQ.n ?_)
        exact ⟨_, by omega, k + 1, by omega, by omega, (all_step (p := fun t => tk (out.getD t.toNat 0) ≤ tk (l.getD i.toNat 0)) s1 (by omega)), hS3, rfl, Weak.cons rfl <| Weak.cons rfl <| Weak.cons rfl <| Weak.cons rfl <| Weak.nil _⟩
      · skip
        refine WC.exit (thenQ.x <| thenQ.x <| blockQ.hit <| thenQ.n ?_)
        refine WC.seq ?_
        refine WC.region ?_
        refine WL.xe rfl (XE.buildSlice (E := eF) [] #[] [] hS3 Try.underlying29 ti22 rfl (by decide) (by kernel_rfl) (.inr rfl) rfl rfl (by decide)) ?_
        rintro _ w5 ⟨b2, rfl, hS4, hk3⟩
        iterate 2 refine WL.lv rfl (LV.mv rfl) ?_
        have hcap1 : out.length ≤ c_out := (Rd.cap (St.now (SH.rd hS4 (.tail _ (.head _)))))
        refine WL.lv rfl (LV.cut Try.underlying29 ti22.sz rfl rfl rfl rfl ⟨.inl ⟨rfl, rfl⟩, .inr ⟨.i64, by rw [Int.toNat_of_nonneg (a := k) (by omega)] <;> rfl⟩, .inl ⟨rfl, rfl⟩⟩ (by omega) (by omega) (by omega)) ?_
        refine WL.xe rfl (XE.append hS4 Try.underlying29 ti22 rfl (St.now ((SH.rd hS4 (.tail _ (.head _))).imp fun _ h => Rd.cut h (by omega) (by omega) (by omega) (by omega))) rfl rfl (by first | omega | simp only [List.length_append, List.length_cons, List.length_nil, List.length_take, List.length_reverse, List.length_drop] at *; omega) (by first | omega | simp only [List.length_append, List.length_cons, List.length_nil, List.length_take, List.length_reverse, List.length_drop] at *; omega)) ?_
        rintro _ w6 ⟨A3, c3, rfl, hS5, hk4⟩
        refine WL.lv rfl (LV.asg rfl) ?_
        refine WL.nil (thenQ.n ?_)
        refine WC.seq ?_
        refine WC.region ?_
        iterate 3 refine WL.lv rfl (LV.mv rfl) ?_
        obtain ⟨A4, c4, e3, g3⟩ := St.elt (SH.stN hS5 h_l) 0 i (by omega) (by omega)
        refine WL.lv rfl (LV.idxA Try.underlying29 ti22.sz rfl e3 rfl (by omega) (by omega)) ?_
        refine WL.lv rfl (LV.load1 (v := (.float .f64 (l.getD (i).toNat 0))) Try.underlying22 rfl rfl (g3 _ (KB.refl No _) 0 _ rfl)) ?_
        refine WL.xe rfl (XE.buildSlice (E := eF) [(0, (.float .f64 (l.getD (i).toNat 0)))] #[(.float .f64 (l.getD (i).toNat 0))] [l.getD (i).toNat 0] hS5 Try.underlying29 ti22 rfl (by decide) (by kernel_rfl) (.inr rfl) rfl rfl (by decide)) ?_
        rintro _ w7 ⟨b3, rfl, hS6, hk5⟩
        have hS7 : SH w No w7 [rowE eF 22 (.slice A3 ((([] : List Nat) ++ ((out.take ((k).toNat)).drop 0)).length) c3) (([] : List Nat) ++ ((out.take ((k).toNat)).drop 0)), rowE eF 22 (.slice (some ⟨b3, 0, none⟩) 1 1) [l.getD (i).toNat 0], rowE eF 22 (.slice A_out out.length c_out) out] := (SH.front [rowE eF 22 (.slice (some ⟨b3, 0, none⟩) 1 1) [l.getD (i).toNat 0]] hS6)
        refine WL.xe rfl (XE.append hS7 Try.underlying29 ti22 rfl (St.now (SH.rd hS7 (.tail _ (.head _)))) rfl rfl (by first | omega | simp only [List.length_append, List.length_cons, List.length_nil, List.length_take, List.length_reverse, List.length_drop] at *; omega) (by first | omega | simp only [List.length_append, List.length_cons, List.length_nil, List.length_take, List.length_reverse, List.length_drop] at *; omega)) ?_
        rintro _ w8 ⟨A5, c5, rfl, hS8, hk6⟩
        refine WL.lv rfl (LV.asg rfl) ?_
        refine WL.nil (thenQ.n ?_)
        refine WC.region ?_
        iterate 3 refine WL.lv rfl (LV.mv rfl) ?_
        have hcap2 : out.length ≤ c_out := (Rd.cap (St.now (SH.rd hS8 (.tail _ (.tail _ (.head _))))))
        refine WL.lv rfl (LV.cut Try.underlying29 ti22.sz rfl rfl rfl rfl ⟨.inr ⟨.i64, by rw [Int.toNat_of_nonneg (a := k) (by omega)] <;> rfl⟩, .inl ⟨rfl, rfl, rfl⟩, .inl ⟨rfl, rfl⟩⟩ (by omega) (by omega) (by omega)) ?_
        refine WL.xe rfl (XE.append hS8 Try.underlying29 ti22 rfl (St.now ((SH.rd hS8 (.tail _ (.tail _ (.head _)))).imp fun _ h => Rd.cut h (by omega) (by omega) (by omega) (by omega))) rfl rfl (by first | omega | simp only [List.length_append, List.length_cons, List.length_nil, List.length_take, List.length_reverse, List.length_drop] at *; omega) (by first | omega | simp only [List.length_append, List.length_cons, List.length_nil, List.length_take, List.length_reverse, List.length_drop] at *; omega)) ?_
        rintro _ w9 ⟨A6, c6, rfl, hS9, hk7⟩
        refine WL.lv rfl (LV.asg rfl) ?_
        refine WL.nil (blockQ.n <| thenQ.n ?_)
        refine WC.region ?_
        refine WL.lv rfl (LV.mv rfl) ?_
        refine WL.lv rfl (LV.add rfl rfl (wr64 (by omega) (by omega))) ?_
        refine WL.lv rfl (LV.asg rfl) ?_
        refine WL.nil (thenQ.n ?_)
        have hS10 : SH w No w9 [rowE eF 22 (.slice A6 ((((([] : List Nat) ++ ((out.take ((k).toNat)).drop 0)) ++ [l.getD (i).toNat 0]) ++ ((out.take out.length).drop ((k).toNat))).length) c6) (((([] : List Nat) ++ ((out.take ((k).toNat)).drop 0)) ++ [l.getD (i).toNat 0]) ++ ((out.take out.length).drop ((k).toNat)))] := (SH.take 1 rfl hS9)
        exact ⟨_, by omega, A6, c6, (((([] : List Nat) ++ ((out.take ((k).toNat)).drop 0)) ++ [l.getD (i).toNat 0]) ++ ((out.take out.length).drop ((k).toNat))), i + 1, by omega, by omega, (new_perm ilo h11 q1), (new_sort q2 khi s1 (fun h_ => by omega)), (by rw [new_eq]; simp; omega), hS10, rfl, Weak.cons rfl <| Weak.cons rfl <| Weak.cons rfl <| Weak.nil _⟩
    · refine WS.pure rfl rfl (fun _ => LV.as (LV.ltI rfl rfl) (decide_eq_false hg1)) ?_
      refine WS.pure rfl rfl (fun _ => LV.mv rfl) ?_
      iterate 3 refine WS.off rfl rfl ?_
      refine WS.offL rfl rfl ?_
      iterate 3 refine WS.off rfl rfl ?_
      refine WS.offL rfl rfl ?_
      refine WS.offF rfl rfl (fun h_ => (KB.refl _ _)) ?_
      refine WS.off rfl rfl ?_
      refine WS.pure rfl rfl (fun _ => LV.pickF rfl rfl) ?_
      refine WS.nil (thenQ.n ?_)
      refine WC.condF rfl ?_
      refine WC.exit (thenQ.x <| thenQ.x <| blockQ.hit <| thenQ.n ?_)
      refine WC.seq ?_
      refine WC.region ?_
      refine WL.xe rfl (XE.buildSlice (E := eF) [] #[] [] hS2 Try.underlying29 ti22 rfl (by decide) (by kernel_rfl) (.inr rfl) rfl rfl (by decide)) ?_
      rintro _ w10 ⟨b4, rfl, hS11, hk8⟩
      iterate 2 refine WL.lv rfl (LV.mv rfl) ?_
      have hcap3 : out.length ≤ c_out := (Rd.cap (St.now (SH.rd hS11 (.tail _ (.head _)))))
      refine WL.lv rfl (LV.cut Try.underlying29 ti22.sz rfl rfl rfl rfl ⟨.inl ⟨rfl, rfl⟩, .inr ⟨.i64, by rw [Int.toNat_of_nonneg (a := k) (by omega)] <;> rfl⟩, .inl ⟨rfl, rfl⟩⟩ (by omega) (by omega) (by omega)) ?_
      refine WL.xe rfl (XE.append hS11 Try.underlying29 ti22 rfl (St.now ((SH.rd hS11 (.tail _ (.head _))).imp fun _ h => Rd.cut h (by omega) (by omega) (by omega) (by omega))) rfl rfl (by first | omega | simp only [List.length_append, List.length_cons, List.length_nil, List.length_take, List.length_reverse, List.length_drop] at *; omega) (by first | omega | simp only [List.length_append, List.length_cons, List.length_nil, List.length_take, List.length_reverse, List.length_drop] at *; omega)) ?_
      rintro _ w11 ⟨A7, c7, rfl, hS12, hk9⟩
      refine WL.lv rfl (LV.asg rfl) ?_
      refine WL.nil (thenQ.n ?_)
      refine WC.seq ?_
      refine WC.region ?_
      iterate 3 refine WL.lv rfl (LV.mv rfl) ?_
      obtain ⟨A8, c8, e4, g4⟩ := St.elt (SH.stN hS12 h_l) 0 i (by omega) (by omega)
      refine WL.lv rfl (LV.idxA Try.underlying29 ti22.sz rfl e4 rfl (by omega) (by omega)) ?_
      refine WL.lv rfl (LV.load1 (v := (.float .f64 (l.getD (i).toNat 0))) Try.underlying22 rfl rfl (g4 _ (KB.refl No _) 0 _ rfl)) ?_
      refine WL.xe rfl (XE.buildSlice (E := eF) [(0, (.float .f64 (l.getD (i).toNat 0)))] #[(.float .f64 (l.getD (i).toNat 0))] [l.getD (i).toNat 0] hS12 Try.underlying29 ti22 rfl (by decide) (by kernel_rfl) (.inr rfl) rfl rfl (by decide)) ?_
      rintro _ w12 ⟨b5, rfl, hS13, hk10⟩
      have hS14 : SH w No w12 [rowE eF 22 (.slice A7 ((([] : List Nat) ++ ((out.take ((k).toNat)).drop 0)).length) c7) (([] : List Nat) ++ ((out.take ((k).toNat)).drop 0)), rowE eF 22 (.slice (some ⟨b5, 0, none⟩) 1 1) [l.getD (i).toNat 0], rowE eF 22 (.slice A_out out.length c_out) out] := (SH.front [rowE eF 22 (.slice (some ⟨b5, 0, none⟩) 1 1) [l.getD (i).toNat 0]] hS13)
      refine WL.xe rfl (XE.append hS14 Try.underlying29 ti22 rfl (St.now (SH.rd hS14 (.tail _ (.head _)))) rfl rfl (by first | omega | simp only [List.length_append, List.length_cons, List.length_nil, List.length_take, List.length_reverse, List.length_drop] at *; omega) (by first | omega | simp only [List.length_append, List.length_cons, List.length_nil, List.length_take, List.length_reverse, List.length_drop] at *; omega)) ?_
      rintro _ w13 ⟨A9, c9, rfl, hS15, hk11⟩
      refine WL.lv rfl (LV.asg rfl) ?_
      refine WL.nil (thenQ.n ?_)
      refine WC.region ?_
      iterate 3 refine WL.lv rfl (LV.mv rfl) ?_
      have hcap4 : out.length ≤ c_out := (Rd.cap (St.now (SH.rd hS15 (.tail _ (.tail _ (.head _))))))
      refine WL.lv rfl (LV.cut Try.underlying29 ti22.sz rfl rfl rfl rfl ⟨.inr ⟨.i64, by rw [Int.toNat_of_nonneg (a := k) (by omega)] <;> rfl⟩, .inl ⟨rfl, rfl, rfl⟩, .inl ⟨rfl, rfl⟩⟩ (by omega) (by omega) (by omega)) ?_
      refine WL.xe rfl (XE.append hS15 Try.underlying29 ti22 rfl (St.now ((SH.rd hS15 (.tail _ (.tail _ (.head _)))).imp fun _ h => Rd.cut h (by omega) (by omega) (by omega) (by omega))) rfl rfl (by first | omega | simp only [List.length_append, List.length_cons, List.length_nil, List.length_take, List.length_reverse, List.length_drop] at *; omega) (by first | omega | simp only [List.length_append, List.length_cons, List.length_nil, List.length_take, List.length_reverse, List.length_drop] at *; omega)) ?_
      rintro _ w14 ⟨A10, c10, rfl, hS16, hk12⟩
      refine WL.lv rfl (LV.asg rfl) ?_
      refine WL.nil (blockQ.n <| thenQ.n ?_)
      refine WC.region ?_
      refine WL.lv rfl (LV.mv rfl) ?_
      refine WL.lv rfl (LV.add rfl rfl (wr64 (by omega) (by omega))) ?_
      refine WL.lv rfl (LV.asg rfl) ?_
      refine WL.nil (thenQ.n ?_)
      have hS17 : SH w No w14 [rowE eF 22 (.slice A10 ((((([] : List Nat) ++ ((out.take ((k).toNat)).drop 0)) ++ [l.getD (i).toNat 0]) ++ ((out.take out.length).drop ((k).toNat))).length) c10) (((([] : List Nat) ++ ((out.take ((k).toNat)).drop 0)) ++ [l.getD (i).toNat 0]) ++ ((out.take out.length).drop ((k).toNat)))] := (SH.take 1 rfl hS16)
      exact ⟨_, by omega, A10, c10, (((([] : List Nat) ++ ((out.take ((k).toNat)).drop 0)) ++ [l.getD (i).toNat 0]) ++ ((out.take out.length).drop ((k).toNat))), i + 1, by omega, by omega, (new_perm ilo h11 q1), (new_sort q2 khi s1 (fun h_ => by omega)), (by rw [new_eq]; simp; omega), hS17, rfl, Weak.cons rfl <| Weak.cons rfl <| Weak.cons rfl <| Weak.nil _⟩
  · skip
    refine WC.exit (thenQ.x <| thenQ.x <| blockQ.hit <| thenQ.n ?_)
    refine WC.seq ?_
    refine WC.region ?_
    refine WL.lv rfl (LV.mv rfl) ?_
    refine WL.lv rfl (LV.asg rfl) ?_
    refine WL.nil (thenQ.n ?_)
    refine WC.ret (?_)
    exact ⟨_, fun a ha => res1 rfl ha rfl, _, _, _, rfl, (by rw [List.take_of_length_le (by omega)] at q1; exact q1), q2, hL1⟩

theorem rclamp_calls {w : World} {x : Nat} {low : Nat} {high : Nat} (hx : x < 18446744073709551616) (hlow : low < 18446744073709551616) (hhigh : high < 18446744073709551616) :
    Calls Try.prog 23 #[(.float .f64 x), (.float .f64 low), (.float .f64 high)] w fun e w' => ∃ v, e = .returned v ∧ (fun v w' => ∃ (r' : Nat), v = .float .f64 r' ∧ tk r' = CLP x low high ∧ r' < 18446744073709551616 ∧ KB No w w') v w' := by
  have hx_ := tk_is x
  have hl_ := tk_is low
  have hh_ := tk_is high
  have o1_ := ord_is' low high
  have hc_ := clp_is x low high
  have hl3_ : [x, low, high].length = 3 := rfl
  have w6m_ : ∀ y ∈ [x, low, high], W6 y := fun y hy => by simp at hy; rcases hy with rfl | rfl | rfl <;> assumption
  have hS : SH w No w [] := SH.nil _ _
  refine calls (l := litOf [(.float .f64 x), (.float .f64 low), (.float .f64 high)] 0) Try.func23 rfl (n := 34) rfl (Nat.le_of_ble_eq_true rfl) (lit_args _) ?_
  refine WC.seq ?_
  refine WC.region ?_
  refine WL.lv rfl (LV.asg rfl) ?_
  refine WL.nil (thenQ.n ?_)
  iterate 2 refine WC.seq ?_
  refine WC.region ?_
  iterate 2 refine WL.lv rfl (LV.mv rfl) ?_
  rcases Decidable.em (¬ (((-9218868437227405312 ≤ sk x ∧ sk x ≤ 9218868437227405312) ∧ (-9218868437227405312 ≤ sk x ∧ sk x ≤ 9218868437227405312)) ∧ sk x = sk x)) with hg1 | hg1
  · refine WL.lv rfl (LV.as (LV.neF (a := x) (b := x) rfl rfl) (decide_eq_true hg1)) ?_
    refine WL.lv rfl (LV.mv rfl) ?_
    iterate 3 refine WL.off rfl ?_
    refine WL.lv rfl (LV.pickT rfl rfl) ?_
    refine WL.lv rfl (LV.mv rfl) ?_
    iterate 3 refine WL.off rfl ?_
    refine WL.lv rfl (LV.pickT rfl rfl) ?_
    refine WL.lv rfl (LV.mv rfl) ?_
    iterate 4 refine WL.off rfl ?_
    refine WL.lv rfl (LV.pickT rfl rfl) ?_
    refine WL.nil (thenQ.n ?_)
    refine WC.condT rfl ?_
    refine WC.seq ?_
    refine WC.region ?_
    refine WL.call rfl (XC.fn Try.func33 (by kernel_rfl) rfl rfl rfl) (none_calls  ) ?_
    rintro v_ w1 ⟨r1, rfl, hf1, hf2, hk1⟩
    have hS1 := SH.same hS hk1
    have htn_ := tk_none hf1
    refine WL.lv rfl (LV.asg rfl) ?_
    refine WL.nil (thenQ.n ?_)
    refine WC.ret (thenQ.r <| ?_)
    exact ⟨_, fun a ha => res1 rfl ha rfl, r1, congrArg FV (rfl), by omega, by omega, hS1.kb⟩
  · refine WL.lv rfl (LV.as (LV.neF (a := x) (b := x) rfl rfl) (decide_eq_false hg1)) ?_
    iterate 3 refine WL.lv rfl (LV.mv rfl) ?_
    rcases Decidable.em (¬ (((-9218868437227405312 ≤ sk low ∧ sk low ≤ 9218868437227405312) ∧ (-9218868437227405312 ≤ sk low ∧ sk low ≤ 9218868437227405312)) ∧ sk low = sk low)) with hg2 | hg2
    · refine WL.lv rfl (LV.as (LV.neF (a := low) (b := low) rfl rfl) (decide_eq_true hg2)) ?_
      refine WL.lv rfl (LV.pickF rfl rfl) ?_
      refine WL.lv rfl (LV.mv rfl) ?_
      iterate 3 refine WL.off rfl ?_
      refine WL.lv rfl (LV.pickT rfl rfl) ?_
      refine WL.lv rfl (LV.mv rfl) ?_
      iterate 4 refine WL.off rfl ?_
      refine WL.lv rfl (LV.pickT rfl rfl) ?_
      refine WL.nil (thenQ.n ?_)
      refine WC.condT rfl ?_
      refine WC.seq ?_
      refine WC.region ?_
      refine WL.call rfl (XC.fn Try.func33 (by kernel_rfl) rfl rfl rfl) (none_calls  ) ?_
      rintro v_ w2 ⟨r2, rfl, hf3, hf4, hk2⟩
      have hS2 := SH.same hS hk2
      have htn_ := tk_none hf3
      refine WL.lv rfl (LV.asg rfl) ?_
      refine WL.nil (thenQ.n ?_)
      refine WC.ret (thenQ.r <| ?_)
      exact ⟨_, fun a ha => res1 rfl ha rfl, r2, congrArg FV (rfl), by omega, by omega, hS2.kb⟩
    · refine WL.lv rfl (LV.as (LV.neF (a := low) (b := low) rfl rfl) (decide_eq_false hg2)) ?_
      refine WL.lv rfl (LV.pickF rfl rfl) ?_
      iterate 3 refine WL.lv rfl (LV.mv rfl) ?_
      rcases Decidable.em (¬ (((-9218868437227405312 ≤ sk high ∧ sk high ≤ 9218868437227405312) ∧ (-9218868437227405312 ≤ sk high ∧ sk high ≤ 9218868437227405312)) ∧ sk high = sk high)) with hg3 | hg3
      · refine WL.lv rfl (LV.as (LV.neF (a := high) (b := high) rfl rfl) (decide_eq_true hg3)) ?_
        refine WL.lv rfl (LV.pickF rfl rfl) ?_
        refine WL.lv rfl (LV.mv rfl) ?_
        iterate 4 refine WL.off rfl ?_
        refine WL.lv rfl (LV.pickT rfl rfl) ?_
        refine WL.nil (thenQ.n ?_)
        refine WC.condT rfl ?_
        refine WC.seq ?_
        refine WC.region ?_
        refine WL.call rfl (XC.fn Try.func33 (by kernel_rfl) rfl rfl rfl) (none_calls  ) ?_
        rintro v_ w3 ⟨r3, rfl, hf5, hf6, hk3⟩
        have hS3 := SH.same hS hk3
        have htn_ := tk_none hf5
        refine WL.lv rfl (LV.asg rfl) ?_
        refine WL.nil (thenQ.n ?_)
        refine WC.ret (thenQ.r <| ?_)
        exact ⟨_, fun a ha => res1 rfl ha rfl, r3, congrArg FV (rfl), by omega, by omega, hS3.kb⟩
      · refine WL.lv rfl (LV.as (LV.neF (a := high) (b := high) rfl rfl) (decide_eq_false hg3)) ?_
        refine WL.lv rfl (LV.pickF rfl rfl) ?_
        iterate 3 refine WL.lv rfl (LV.mv rfl) ?_
        refine WL.call rfl (XC.fn Try.func15 (by kernel_rfl) rfl rfl rfl) (rorder_calls (a := low) (b := high) (by first | assumption | omega | exact hp _ (getD_mem (by omega)) | exact hpz _ (getD_mem (by omega))) (by first | assumption | omega | exact hp _ (getD_mem (by omega)) | exact hpz _ (getD_mem (by omega)))) ?_
        rintro v_ w4 ⟨rfl, hk4⟩
        have hS4 := SH.same hS hk4
        refine WL.lv rfl (LV.eqI rfl rfl) ?_
        refine WL.lv rfl (LV.pickF rfl rfl) ?_
        refine WL.nil (thenQ.n ?_)
        refine WC.condP (p := (ORD low high) = 1) rfl (fun hc1 => ?_) (fun hc1 => ?_)
        · skip
          refine WC.seq ?_
          refine WC.region ?_
          refine WL.call rfl (XC.fn Try.func33 (by kernel_rfl) rfl rfl rfl) (none_calls  ) ?_
          rintro v_ w5 ⟨r4, rfl, hf7, hf8, hk5⟩
          have hS5 := SH.same hS4 hk5
          have htn_ := tk_none hf7
          refine WL.lv rfl (LV.asg rfl) ?_
          refine WL.nil (thenQ.n ?_)
          refine WC.ret (thenQ.r <| ?_)
          exact ⟨_, fun a ha => res1 rfl ha rfl, r4, congrArg FV (rfl), by omega, by omega, hS5.kb⟩
        · skip
          refine WC.skip (thenQ.n ?_)
          refine WC.seq ?_
          refine WC.region ?_
          iterate 3 refine WL.lv rfl (LV.mv rfl) ?_
          refine WL.xe rfl (XE.buildSlice (E := eF) [(0, (.float .f64 x)), (1, (.float .f64 low)), (2, (.float .f64 high))] #[(.float .f64 x), (.float .f64 low), (.float .f64 high)] [x, low, high] hS4 Try.underlying29 ti22 rfl (by decide) (by kernel_rfl) (.inr rfl) rfl rfl (by decide)) ?_
          rintro _ w6 ⟨b1, rfl, hS6, hk6⟩
          refine WL.call rfl (XC.fn Try.func19 (by kernel_rfl) rfl rfl rfl) (rsort22_calls (l := [x, low, high]) (SH.rd hS6 (.head _)) (w6m_) (by first | omega | (show (3 : Nat) ≤ 100; decide))) ?_
          rintro v_ w7 ⟨A1, c1, ys1, rfl, hpm1, hpw1, hS7⟩
          have hS8 := SH.joinN hS6 hS7
          have hln_ := hpm1.length_eq
          obtain ⟨A2, c2, e1, g1⟩ := St.elt (SH.rd hS8 (.head _)) 0 (1 : Int) (by decide) (by simp only [List.length_cons, List.length_nil] at hln_; omega)
          refine WL.lv rfl (LV.idxA Try.underlying29 ti22.sz rfl e1 rfl (by decide) (by simp only [List.length_cons, List.length_nil] at hln_; omega)) ?_
          refine WL.lv rfl (LV.load1 (v := (.float .f64 (ys1.getD ((1 : Int)).toNat 0))) Try.underlying22 rfl rfl (g1 _ (KB.refl No _) 0 _ rfl)) ?_
          refine WL.lv rfl (LV.asg rfl) ?_
          refine WL.nil (thenQ.n ?_)
          refine WC.ret (?_)
          exact ⟨_, fun a ha => res1 rfl ha rfl, ys1.getD ((1 : Int)).toNat 0, congrArg FV (rfl), mid3 hpm1 hpw1 (by omega), w6m_ _ (hpm1.mem_iff.1 (getD_mem (by omega))), hS8.kb⟩

end Go.Proofs.Ytlnnfcbndelcnaa
