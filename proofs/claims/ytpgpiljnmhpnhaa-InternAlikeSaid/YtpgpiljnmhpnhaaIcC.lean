/- The document's counts. -/
import Derived.Test.YtpgpiljnmhpnhaaIcQ
import Derived.Test.YtpgpiljnmhpnhaaSm
import Derived.Test.YtpgpiljnmhpnhaaIn
namespace Go.Proofs.Ytpgpiljnmhpnhaa
open Go Go.Gv Go.RowKit Go.Itn
set_option linter.unusedVariables false
set_option linter.unusedSimpArgs false

set_option maxHeartbeats 1000000 in
theorem rcounts_calls {w : World} {A_l : Option Addr} {n_l c_l : Nat} {l : List Int} (h_l : St No w (Rd eI (.slice A_l n_l c_l) l)) (hn_l : l.length = n_l) (hlen : l.length ≤ 1000000) :
    Calls Try.prog 17 #[(.slice A_l n_l c_l)] w fun e w' => ∃ v, e = .returned v ∧ (fun v w' => ∃ (A0' : Option Addr) (c0' : Nat), v = .slice A0' (CNT l).length c0' ∧ SH w No w' [rowE eP 38 (.slice A0' (CNT l).length c0') (CNT l)]) v w' := by
  subst hn_l
  have hS : SH w No w [] := SH.nil _ _
  refine calls (l := litOf [(.slice A_l l.length c_l)] 0) Try.func17 rfl (n := 73) rfl (Nat.le_of_ble_eq_true rfl) (lit_args _) ?_
  refine WC.seq ?_
  refine WC.region ?_
  refine WL.lv rfl (LV.asg rfl) ?_
  refine WL.nil (thenQ.n ?_)
  refine WC.seq ?_
  refine WC.region ?_
  refine WL.xe rfl (XE.buildSlice (E := eP) [] #[] [] hS Try.underlying36 ti38 rfl (by decide) (by kernel_rfl) (.inr rfl) rfl rfl (by decide)) ?_
  rintro _ w1 ⟨b1, rfl, hS1, hk1⟩
  refine WL.lv rfl (LV.asg rfl) ?_
  refine WL.nil (thenQ.n ?_)
  iterate 2 refine WC.seq ?_
  refine WC.region ?_
  refine WL.lv rfl (LV.asg rfl) ?_
  refine WL.nil (thenQ.n ?_)
  refine WC.block ?_
  refine WC.loop (fun m_ f_ w_ => ∃ (A_out : Option Addr) (c_out : Nat) (out : List (Int × Int)) (i : Int), (0 ≤ i) ∧ (i ≤ (l.length : Int)) ∧ (IsC l i.toNat out) ∧ SH w No w_ [rowE eP 38 (.slice A_out out.length c_out) out] ∧ m_ = (((l.length : Int) - i).toNat) ∧ Weak (lit [(0, (.slice A_l l.length c_l)), (3, (.slice A_out out.length c_out)), (4, (.int .i64 i))]) f_) _ ⟨(some ⟨b1, 0, none⟩), 0, [], 0, by omega, by omega, (IsC.z l), hS1, rfl, Weak.cons rfl <| Weak.cons rfl <| Weak.cons rfl <| Weak.nil _⟩ ?_
  rintro m1 f1 w2 ⟨A_out, c_out, out, i, ilo, ihi, q1, hL1, rfl, hw1⟩
  refine WC.weak hw1 ?_
  clear hw1
  have hol_ := q1.len ilo
  iterate 2 refine WC.seq ?_
  refine WC.region ?_
  iterate 2 refine WL.lv rfl (LV.mv rfl) ?_
  refine WL.lv rfl (LV.lenL Try.underlying28 rfl) ?_
  refine WL.lv rfl (LV.ltI rfl rfl) ?_
  refine WL.nil (thenQ.n ?_)
  refine WC.condP (p := i < (l.length : Int)) rfl (fun hk => ?_) (fun hk => ?_)
  · skip
    refine WC.skip (thenQ.n ?_)
    refine WC.seq ?_
    refine WC.block ?_
    refine WC.seq ?_
    refine WC.region ?_
    refine WL.lv rfl (LV.asg rfl) ?_
    refine WL.nil (thenQ.n ?_)
    refine WC.seq ?_
    refine WC.block ?_
    refine WC.loop (fun m_ f_ w_ => ∃ (k : Int), (∀ t : Int, 0 ≤ t → t < k → (out.getD t.toNat (0, 0)).1 < gI l i) ∧ (0 ≤ k) ∧ (k ≤ out.length) ∧ SH w No w_ [rowE eP 38 (.slice A_out out.length c_out) out] ∧ m_ = (((out.length : Int) - k).toNat) ∧ Weak (lit [(0, (.slice A_l l.length c_l)), (3, (.slice A_out out.length c_out)), (4, (.int .i64 i)), (5, (.int .i64 k))]) f_) _ ⟨0, (fun t h1 h2 => by omega), by omega, by omega, hL1, rfl, Weak.cons rfl <| Weak.cons rfl <| Weak.cons rfl <| Weak.cons rfl <| Weak.nil _⟩ ?_
    rintro m2 f2 w3 ⟨k, s1, klo, khi, hL2, rfl, hw2⟩
    refine WC.weak hw2 ?_
    clear hw2
    iterate 2 refine WC.seq ?_
    have hS2 := SH.drew hL2
    refine WC.regionD [] (fun w_ => KB No w3.drew w_) [(.pure, 0), (.pure, 1), (.pure, 2), (.pure, 3), (.pure, 4), (.pure, 5), (.pure, 6), (.pure, 7), (.pure, 8), (.look, 9), (.pure, 10), (.pure, 11), (.pure, 12), (.look, 13), (.pure, 14), (.pure, 15)] (by kernel_rfl) (by kernel_rfl) (KB.refl _ _) ?_
    iterate 2 refine WS.pure rfl rfl (fun _ => LV.mv rfl) ?_
    refine WS.pure rfl rfl (fun _ => LV.lenL Try.underlying36 rfl) ?_
    rcases Decidable.em (k < (out.length : Int)) with hg6 | hg6
    · refine WS.pure rfl rfl (fun _ => LV.as (LV.ltI rfl rfl) (decide_eq_true hg6)) ?_
      iterate 3 refine WS.pure rfl rfl (fun _ => LV.mv rfl) ?_
      obtain ⟨A1, c1, e1, g1⟩ := St.elt (SH.rd hS2 (.head _)) (0, 0) k (by omega) (by omega)
      refine WS.pure rfl rfl (fun _ => LV.idxA Try.underlying36 ti38.sz rfl e1 rfl (by omega) (by omega)) ?_
      refine WS.pure rfl rfl (fun _ => LV.idxArr Try.underlying38 ti3.sz rfl rfl (by decide) (by decide)) ?_
      refine WS.look rfl rfl (fun _ hk_ => LV.load1 (v := (.int .i64 ((out.getD (k).toNat (0, 0)).1))) Try.underlying3 rfl rfl (g1 _ hk_ 0 _ rfl)) ?_
      iterate 2 refine WS.pure rfl rfl (fun _ => LV.mv rfl) ?_
      obtain ⟨A2, c2, e2, g2⟩ := St.elt (SH.stN hS2 h_l) 0 i (by omega) (by omega)
      refine WS.pure rfl rfl (fun _ => LV.idxA Try.underlying28 ti3.sz rfl e2 rfl (by omega) (by omega)) ?_
      refine WS.look rfl rfl (fun _ hk_ => LV.load1 (v := (.int .i64 (gI l (i)))) Try.underlying3 rfl rfl (g2 _ hk_ 0 _ rfl)) ?_
      refine WS.pure rfl rfl (fun _ => LV.ltI rfl rfl) ?_
      refine WS.pure rfl rfl (fun _ => LV.pickT rfl rfl) ?_
      refine WS.nil (thenQ.n ?_)
      refine WC.condP (p := ((out.getD (k).toNat (0, 0)).1) < (gI l (i))) rfl (fun hc29 => ?_) (fun hc29 => ?_)
      · skip
        refine WC.skip (thenQ.n ?_)
        refine WC.block ?_
        refine WC.region ?_
        refine WL.lv rfl (LV.mv rfl) ?_
        refine WL.lv rfl (LV.add rfl rfl (wr64 (by omega) (by omega))) ?_
        refine WL.lv rfl (LV.asg rfl) ?_
        refine WL.nil (blockQ.n <| thenQ.n ?_)
        exact ⟨_, by omega, k + 1, (all_step (p := fun t => (out.getD t.toNat (0, 0)).1 < gI l i) s1 (by omega)), by omega, by omega, hS2, rfl, Weak.cons rfl <| Weak.cons rfl <| Weak.cons rfl <| Weak.cons rfl <| Weak.nil _⟩
      · skip
        refine WC.exit (thenQ.x <| thenQ.x <| blockQ.hit <| thenQ.n ?_)
        iterate 2 refine WC.seq ?_
        have hS3 := SH.drew hS2
        refine WC.regionD [] (fun w_ => KB No w3.drew.drew w_) [(.pure, 0), (.pure, 1), (.pure, 2), (.pure, 3), (.pure, 4), (.pure, 5), (.pure, 6), (.pure, 7), (.pure, 8), (.look, 9), (.pure, 10), (.pure, 11), (.pure, 12), (.look, 13), (.pure, 14), (.pure, 15)] (by kernel_rfl) (by kernel_rfl) (KB.refl _ _) ?_
        iterate 2 refine WS.pure rfl rfl (fun _ => LV.mv rfl) ?_
        refine WS.pure rfl rfl (fun _ => LV.lenL Try.underlying36 rfl) ?_
        refine WS.pure rfl rfl (fun _ => LV.as (LV.ltI rfl rfl) (decide_eq_true hg6)) ?_
        iterate 3 refine WS.pure rfl rfl (fun _ => LV.mv rfl) ?_
        obtain ⟨A3, c3, e3, g3⟩ := St.elt (SH.rd hS3 (.head _)) (0, 0) k (by omega) (by omega)
        refine WS.pure rfl rfl (fun _ => LV.idxA Try.underlying36 ti38.sz rfl e3 rfl (by omega) (by omega)) ?_
        refine WS.pure rfl rfl (fun _ => LV.idxArr Try.underlying38 ti3.sz rfl rfl (by decide) (by decide)) ?_
        refine WS.look rfl rfl (fun _ hk_ => LV.load1 (v := (.int .i64 ((out.getD (k).toNat (0, 0)).1))) Try.underlying3 rfl rfl (g3 _ hk_ 0 _ rfl)) ?_
        iterate 2 refine WS.pure rfl rfl (fun _ => LV.mv rfl) ?_
        obtain ⟨A4, c4, e4, g4⟩ := St.elt (SH.stN hS3 h_l) 0 i (by omega) (by omega)
        refine WS.pure rfl rfl (fun _ => LV.idxA Try.underlying28 ti3.sz rfl e4 rfl (by omega) (by omega)) ?_
        refine WS.look rfl rfl (fun _ hk_ => LV.load1 (v := (.int .i64 (gI l (i)))) Try.underlying3 rfl rfl (g4 _ hk_ 0 _ rfl)) ?_
        refine WS.pure rfl rfl (fun _ => LV.eqI rfl rfl) ?_
        refine WS.pure rfl rfl (fun _ => LV.pickT rfl rfl) ?_
        refine WS.nil (thenQ.n ?_)
        refine WC.condP (p := ((out.getD (k).toNat (0, 0)).1) = (gI l (i))) rfl (fun hc47 => ?_) (fun hc47 => ?_)
        · skip
          refine WC.exit (thenQ.x <| blockQ.hit <| thenQ.n ?_)
          refine WC.region ?_
          refine WL.lv rfl (LV.mv rfl) ?_
          refine WL.lv rfl (LV.add rfl rfl (wr64 (by omega) (by omega))) ?_
          refine WL.lv rfl (LV.asg rfl) ?_
          refine WL.nil (thenQ.n ?_)
          exact ⟨_, by omega, A_out, c_out, out, i + 1, by omega, by omega, (IsC.old q1 ilo hk klo (by omega) (by omega)), hS3, rfl, Weak.cons rfl <| Weak.cons rfl <| Weak.cons rfl <| Weak.nil _⟩
        · skip
          refine WC.skip (thenQ.n ?_)
          refine WC.seq ?_
          refine WC.region ?_
          refine WL.xe rfl (XE.buildSlice (E := eP) [] #[] [] hS3 Try.underlying36 ti38 rfl (by decide) (by kernel_rfl) (.inr rfl) rfl rfl (by decide)) ?_
          rintro _ w4 ⟨b2, rfl, hS4, hk2⟩
          iterate 2 refine WL.lv rfl (LV.mv rfl) ?_
          have hcap1 : out.length ≤ c_out := (Rd.cap (St.now (SH.rd hS4 (.tail _ (.head _)))))
          refine WL.lv rfl (LV.cut Try.underlying36 ti38.sz rfl rfl rfl rfl ⟨.inl ⟨rfl, rfl⟩, .inr ⟨.i64, by rw [Int.toNat_of_nonneg (a := k) (by omega)] <;> rfl⟩, .inl ⟨rfl, rfl⟩⟩ (by omega) (by omega) (by omega)) ?_
          refine WL.xe rfl (XE.append hS4 Try.underlying36 ti38 rfl (St.now ((SH.rd hS4 (.tail _ (.head _))).imp fun _ h => Rd.cut h (by omega) (by omega) (by omega) (by omega))) rfl rfl (by first | omega | simp only [List.length_append, List.length_cons, List.length_nil, List.length_take, List.length_reverse, List.length_drop] at *; omega) (by first | omega | simp only [List.length_append, List.length_cons, List.length_nil, List.length_take, List.length_reverse, List.length_drop] at *; omega)) ?_
          rintro _ w5 ⟨A5, c5, rfl, hS5, hk3⟩
          refine WL.lv rfl (LV.asg rfl) ?_
          refine WL.nil (thenQ.n ?_)
          refine WC.seq ?_
          have hS6 := SH.drew hS5
          refine WC.regionD [13] (fun w_ => KB No w5.drew w_) [(.pure, 0), (.pure, 1), (.pure, 2), (.pure, 3), (.look, 4), (.pure, 5), (.pure, 6), (.pure, 7), (.pure, 8), (.look, 9), (.forced, 10), (.pure, 11), (.forced, 12), (.forced, 13), (.pure, 14)] (by kernel_rfl) (by kernel_rfl) (KB.refl _ _) ?_
          iterate 3 refine WS.pure rfl rfl (fun _ => LV.mv rfl) ?_
          obtain ⟨A6, c6, e5, g5⟩ := St.elt (SH.stN hS6 h_l) 0 i (by omega) (by omega)
          refine WS.pure rfl rfl (fun _ => LV.idxA Try.underlying28 ti3.sz rfl e5 rfl (by omega) (by omega)) ?_
          refine WS.look rfl rfl (fun _ hk_ => LV.load1 (v := (.int .i64 (gI l (i)))) Try.underlying3 rfl rfl (g5 _ hk_ 0 _ rfl)) ?_
          iterate 3 refine WS.pure rfl rfl (fun _ => LV.mv rfl) ?_
          obtain ⟨A7, c7, e6, g6⟩ := St.elt (SH.stN hS6 h_l) 0 i (by omega) (by omega)
          refine WS.pure rfl rfl (fun _ => LV.idxA Try.underlying28 ti3.sz rfl e6 rfl (by omega) (by omega)) ?_
          refine WS.look rfl rfl (fun _ hk_ => LV.load1 (v := (.int .i64 (gI l (i)))) Try.underlying3 rfl rfl (g6 _ hk_ 0 _ rfl)) ?_
          refine WS.call rfl rfl (XC.fn Try.func25 (by kernel_rfl) rfl rfl rfl) (count_calls (n := (gI l (i))) (SH.stN hS6 h_l) rfl ) ?_
          rintro v_ w6 ⟨rfl, hk4⟩
          have hS7 := SH.same hS6 hk4
          refine ⟨fun h_ => (KB.transN (KB.refl _ _) hk4), ?_⟩
          refine WS.pure rfl rfl (fun _ => LV.buildA (vs := [(0, (.int .i64 (gI l (i)))), (1, (.int .i64 (l.count (gI l (i)) : Int)))]) (cs := #[(.int .i64 (gI l (i))), (.int .i64 (l.count (gI l (i)) : Int))]) Try.underlying38 ti38 ti3 rfl rfl) ?_
          refine WS.xe rfl rfl (XE.buildSlice (E := eP) [(0, (.agg #[(.int .i64 (gI l (i))), (.int .i64 (l.count (gI l (i)) : Int))]))] #[(.int .i64 (gI l (i))), (.int .i64 (l.count (gI l (i)) : Int))] [(gI l (i), (l.count (gI l (i)) : Int))] hS7 Try.underlying36 ti38 rfl (by decide) (by kernel_rfl) (.inr rfl) rfl rfl (by decide)) ?_
          rintro _ w7 ⟨b3, rfl, hS8, hk5⟩
          refine ⟨fun h_ => (KB.transN (KB.transN (KB.refl _ _) hk4) hk5), ?_⟩
          have hS9 : SH w No w7 [rowE eP 38 (.slice A5 ((([] : List (Int × Int)) ++ ((out.take ((k).toNat)).drop 0)).length) c5) (([] : List (Int × Int)) ++ ((out.take ((k).toNat)).drop 0)), rowE eP 38 (.slice (some ⟨b3, 0, none⟩) 1 1) [(gI l (i), (l.count (gI l (i)) : Int))], rowE eP 38 (.slice A_out out.length c_out) out] := (SH.front [rowE eP 38 (.slice (some ⟨b3, 0, none⟩) 1 1) [(gI l (i), (l.count (gI l (i)) : Int))]] hS8)
          refine WS.xe rfl rfl (XE.append hS9 Try.underlying36 ti38 rfl (St.now (SH.rd hS9 (.tail _ (.head _)))) rfl rfl (by first | omega | simp only [List.length_append, List.length_cons, List.length_nil, List.length_take, List.length_reverse, List.length_drop] at *; omega) (by first | omega | simp only [List.length_append, List.length_cons, List.length_nil, List.length_take, List.length_reverse, List.length_drop] at *; omega)) ?_
          rintro _ w8 ⟨A8, c8, rfl, hS10, hk6⟩
          refine ⟨fun h_ => (by cases h_), ?_⟩
          refine WS.pure rfl rfl (fun _ => LV.asg rfl) ?_
          refine WS.nil (thenQ.n ?_)
          refine WC.region ?_
          iterate 3 refine WL.lv rfl (LV.mv rfl) ?_
          have hcap2 : out.length ≤ c_out := (Rd.cap (St.now (SH.rd hS10 (.tail _ (.tail _ (.head _))))))
          refine WL.lv rfl (LV.cut Try.underlying36 ti38.sz rfl rfl rfl rfl ⟨.inr ⟨.i64, by rw [Int.toNat_of_nonneg (a := k) (by omega)] <;> rfl⟩, .inl ⟨rfl, rfl, rfl⟩, .inl ⟨rfl, rfl⟩⟩ (by omega) (by omega) (by omega)) ?_
          refine WL.xe rfl (XE.append hS10 Try.underlying36 ti38 rfl (St.now ((SH.rd hS10 (.tail _ (.tail _ (.head _)))).imp fun _ h => Rd.cut h (by omega) (by omega) (by omega) (by omega))) rfl rfl (by first | omega | simp only [List.length_append, List.length_cons, List.length_nil, List.length_take, List.length_reverse, List.length_drop] at *; omega) (by first | omega | simp only [List.length_append, List.length_cons, List.length_nil, List.length_take, List.length_reverse, List.length_drop] at *; omega)) ?_
          rintro _ w9 ⟨A9, c9, rfl, hS11, hk7⟩
          refine WL.lv rfl (LV.asg rfl) ?_
          refine WL.nil (blockQ.n <| thenQ.n ?_)
          refine WC.region ?_
          refine WL.lv rfl (LV.mv rfl) ?_
          refine WL.lv rfl (LV.add rfl rfl (wr64 (by omega) (by omega))) ?_
          refine WL.lv rfl (LV.asg rfl) ?_
          refine WL.nil (thenQ.n ?_)
          have hS12 : SH w No w9 [rowE eP 38 (.slice A9 ((((([] : List (Int × Int)) ++ ((out.take ((k).toNat)).drop 0)) ++ [(gI l (i), (l.count (gI l (i)) : Int))]) ++ ((out.take out.length).drop ((k).toNat))).length) c9) (((([] : List (Int × Int)) ++ ((out.take ((k).toNat)).drop 0)) ++ [(gI l (i), (l.count (gI l (i)) : Int))]) ++ ((out.take out.length).drop ((k).toNat)))] := (SH.take 1 rfl hS11)
          exact ⟨_, by omega, A9, c9, (((([] : List (Int × Int)) ++ ((out.take ((k).toNat)).drop 0)) ++ [(gI l (i), (l.count (gI l (i)) : Int))]) ++ ((out.take out.length).drop ((k).toNat))), i + 1, by omega, by omega, (by have h_ := IsC.new q1 ilo hk klo khi s1 (fun _ => by omega); simpa using h_), hS12, rfl, Weak.cons rfl <| Weak.cons rfl <| Weak.cons rfl <| Weak.nil _⟩
    · refine WS.pure rfl rfl (fun _ => LV.as (LV.ltI rfl rfl) (decide_eq_false hg6)) ?_
      refine WS.pure rfl rfl (fun _ => LV.mv rfl) ?_
      iterate 4 refine WS.off rfl rfl ?_
      refine WS.offL rfl rfl ?_
      iterate 3 refine WS.off rfl rfl ?_
      refine WS.offL rfl rfl ?_
      refine WS.off rfl rfl ?_
      refine WS.pure rfl rfl (fun _ => LV.pickF rfl rfl) ?_
      refine WS.nil (thenQ.n ?_)
      refine WC.condF rfl ?_
      refine WC.exit (thenQ.x <| thenQ.x <| blockQ.hit <| thenQ.n ?_)
      iterate 2 refine WC.seq ?_
      have hS13 := SH.drew hS2
      refine WC.regionD [] (fun w_ => KB No w3.drew.drew w_) [(.pure, 0), (.pure, 1), (.pure, 2), (.pure, 3), (.pure, 4), (.pure, 5), (.pure, 6), (.pure, 7), (.pure, 8), (.look, 9), (.pure, 10), (.pure, 11), (.pure, 12), (.look, 13), (.pure, 14), (.pure, 15)] (by kernel_rfl) (by kernel_rfl) (KB.refl _ _) ?_
      iterate 2 refine WS.pure rfl rfl (fun _ => LV.mv rfl) ?_
      refine WS.pure rfl rfl (fun _ => LV.lenL Try.underlying36 rfl) ?_
      refine WS.pure rfl rfl (fun _ => LV.as (LV.ltI rfl rfl) (decide_eq_false hg6)) ?_
      refine WS.pure rfl rfl (fun _ => LV.mv rfl) ?_
      iterate 4 refine WS.off rfl rfl ?_
      refine WS.offL rfl rfl ?_
      iterate 3 refine WS.off rfl rfl ?_
      refine WS.offL rfl rfl ?_
      refine WS.off rfl rfl ?_
      refine WS.pure rfl rfl (fun _ => LV.pickF rfl rfl) ?_
      refine WS.nil (thenQ.n ?_)
      refine WC.condF rfl ?_
      refine WC.skip (thenQ.n ?_)
      refine WC.seq ?_
      refine WC.region ?_
      refine WL.xe rfl (XE.buildSlice (E := eP) [] #[] [] hS13 Try.underlying36 ti38 rfl (by decide) (by kernel_rfl) (.inr rfl) rfl rfl (by decide)) ?_
      rintro _ w10 ⟨b4, rfl, hS14, hk8⟩
      iterate 2 refine WL.lv rfl (LV.mv rfl) ?_
      have hcap3 : out.length ≤ c_out := (Rd.cap (St.now (SH.rd hS14 (.tail _ (.head _)))))
      refine WL.lv rfl (LV.cut Try.underlying36 ti38.sz rfl rfl rfl rfl ⟨.inl ⟨rfl, rfl⟩, .inr ⟨.i64, by rw [Int.toNat_of_nonneg (a := k) (by omega)] <;> rfl⟩, .inl ⟨rfl, rfl⟩⟩ (by omega) (by omega) (by omega)) ?_
      refine WL.xe rfl (XE.append hS14 Try.underlying36 ti38 rfl (St.now ((SH.rd hS14 (.tail _ (.head _))).imp fun _ h => Rd.cut h (by omega) (by omega) (by omega) (by omega))) rfl rfl (by first | omega | simp only [List.length_append, List.length_cons, List.length_nil, List.length_take, List.length_reverse, List.length_drop] at *; omega) (by first | omega | simp only [List.length_append, List.length_cons, List.length_nil, List.length_take, List.length_reverse, List.length_drop] at *; omega)) ?_
      rintro _ w11 ⟨A10, c10, rfl, hS15, hk9⟩
      refine WL.lv rfl (LV.asg rfl) ?_
      refine WL.nil (thenQ.n ?_)
      refine WC.seq ?_
      have hS16 := SH.drew hS15
      refine WC.regionD [13] (fun w_ => KB No w11.drew w_) [(.pure, 0), (.pure, 1), (.pure, 2), (.pure, 3), (.look, 4), (.pure, 5), (.pure, 6), (.pure, 7), (.pure, 8), (.look, 9), (.forced, 10), (.pure, 11), (.forced, 12), (.forced, 13), (.pure, 14)] (by kernel_rfl) (by kernel_rfl) (KB.refl _ _) ?_
      iterate 3 refine WS.pure rfl rfl (fun _ => LV.mv rfl) ?_
      obtain ⟨A11, c11, e7, g7⟩ := St.elt (SH.stN hS16 h_l) 0 i (by omega) (by omega)
      refine WS.pure rfl rfl (fun _ => LV.idxA Try.underlying28 ti3.sz rfl e7 rfl (by omega) (by omega)) ?_
      refine WS.look rfl rfl (fun _ hk_ => LV.load1 (v := (.int .i64 (gI l (i)))) Try.underlying3 rfl rfl (g7 _ hk_ 0 _ rfl)) ?_
      iterate 3 refine WS.pure rfl rfl (fun _ => LV.mv rfl) ?_
      obtain ⟨A12, c12, e8, g8⟩ := St.elt (SH.stN hS16 h_l) 0 i (by omega) (by omega)
      refine WS.pure rfl rfl (fun _ => LV.idxA Try.underlying28 ti3.sz rfl e8 rfl (by omega) (by omega)) ?_
      refine WS.look rfl rfl (fun _ hk_ => LV.load1 (v := (.int .i64 (gI l (i)))) Try.underlying3 rfl rfl (g8 _ hk_ 0 _ rfl)) ?_
      refine WS.call rfl rfl (XC.fn Try.func25 (by kernel_rfl) rfl rfl rfl) (count_calls (n := (gI l (i))) (SH.stN hS16 h_l) rfl ) ?_
      rintro v_ w12 ⟨rfl, hk10⟩
      have hS17 := SH.same hS16 hk10
      refine ⟨fun h_ => (KB.transN (KB.refl _ _) hk10), ?_⟩
      refine WS.pure rfl rfl (fun _ => LV.buildA (vs := [(0, (.int .i64 (gI l (i)))), (1, (.int .i64 (l.count (gI l (i)) : Int)))]) (cs := #[(.int .i64 (gI l (i))), (.int .i64 (l.count (gI l (i)) : Int))]) Try.underlying38 ti38 ti3 rfl rfl) ?_
      refine WS.xe rfl rfl (XE.buildSlice (E := eP) [(0, (.agg #[(.int .i64 (gI l (i))), (.int .i64 (l.count (gI l (i)) : Int))]))] #[(.int .i64 (gI l (i))), (.int .i64 (l.count (gI l (i)) : Int))] [(gI l (i), (l.count (gI l (i)) : Int))] hS17 Try.underlying36 ti38 rfl (by decide) (by kernel_rfl) (.inr rfl) rfl rfl (by decide)) ?_
      rintro _ w13 ⟨b5, rfl, hS18, hk11⟩
      refine ⟨fun h_ => (KB.transN (KB.transN (KB.refl _ _) hk10) hk11), ?_⟩
      have hS19 : SH w No w13 [rowE eP 38 (.slice A10 ((([] : List (Int × Int)) ++ ((out.take ((k).toNat)).drop 0)).length) c10) (([] : List (Int × Int)) ++ ((out.take ((k).toNat)).drop 0)), rowE eP 38 (.slice (some ⟨b5, 0, none⟩) 1 1) [(gI l (i), (l.count (gI l (i)) : Int))], rowE eP 38 (.slice A_out out.length c_out) out] := (SH.front [rowE eP 38 (.slice (some ⟨b5, 0, none⟩) 1 1) [(gI l (i), (l.count (gI l (i)) : Int))]] hS18)
      refine WS.xe rfl rfl (XE.append hS19 Try.underlying36 ti38 rfl (St.now (SH.rd hS19 (.tail _ (.head _)))) rfl rfl (by first | omega | simp only [List.length_append, List.length_cons, List.length_nil, List.length_take, List.length_reverse, List.length_drop] at *; omega) (by first | omega | simp only [List.length_append, List.length_cons, List.length_nil, List.length_take, List.length_reverse, List.length_drop] at *; omega)) ?_
      rintro _ w14 ⟨A13, c13, rfl, hS20, hk12⟩
      refine ⟨fun h_ => (by cases h_), ?_⟩
      refine WS.pure rfl rfl (fun _ => LV.asg rfl) ?_
      refine WS.nil (thenQ.n ?_)
      refine WC.region ?_
      iterate 3 refine WL.lv rfl (LV.mv rfl) ?_
      have hcap4 : out.length ≤ c_out := (Rd.cap (St.now (SH.rd hS20 (.tail _ (.tail _ (.head _))))))
      refine WL.lv rfl (LV.cut Try.underlying36 ti38.sz rfl rfl rfl rfl ⟨.inr ⟨.i64, by rw [Int.toNat_of_nonneg (a := k) (by omega)] <;> rfl⟩, .inl ⟨rfl, rfl, rfl⟩, .inl ⟨rfl, rfl⟩⟩ (by omega) (by omega) (by omega)) ?_
      refine WL.xe rfl (XE.append hS20 Try.underlying36 ti38 rfl (St.now ((SH.rd hS20 (.tail _ (.tail _ (.head _)))).imp fun _ h => Rd.cut h (by omega) (by omega) (by omega) (by omega))) rfl rfl (by first | omega | simp only [List.length_append, List.length_cons, List.length_nil, List.length_take, List.length_reverse, List.length_drop] at *; omega) (by first | omega | simp only [List.length_append, List.length_cons, List.length_nil, List.length_take, List.length_reverse, List.length_drop] at *; omega)) ?_
      rintro _ w15 ⟨A14, c14, rfl, hS21, hk13⟩
      refine WL.lv rfl (LV.asg rfl) ?_
      refine WL.nil (blockQ.n <| thenQ.n ?_)
      refine WC.region ?_
      refine WL.lv rfl (LV.mv rfl) ?_
      refine WL.lv rfl (LV.add rfl rfl (wr64 (by omega) (by omega))) ?_
      refine WL.lv rfl (LV.asg rfl) ?_
      refine WL.nil (thenQ.n ?_)
      have hS22 : SH w No w15 [rowE eP 38 (.slice A14 ((((([] : List (Int × Int)) ++ ((out.take ((k).toNat)).drop 0)) ++ [(gI l (i), (l.count (gI l (i)) : Int))]) ++ ((out.take out.length).drop ((k).toNat))).length) c14) (((([] : List (Int × Int)) ++ ((out.take ((k).toNat)).drop 0)) ++ [(gI l (i), (l.count (gI l (i)) : Int))]) ++ ((out.take out.length).drop ((k).toNat)))] := (SH.take 1 rfl hS21)
      exact ⟨_, by omega, A14, c14, (((([] : List (Int × Int)) ++ ((out.take ((k).toNat)).drop 0)) ++ [(gI l (i), (l.count (gI l (i)) : Int))]) ++ ((out.take out.length).drop ((k).toNat))), i + 1, by omega, by omega, (by have h_ := IsC.new q1 ilo hk klo khi s1 (fun _ => by omega); simpa using h_), hS22, rfl, Weak.cons rfl <| Weak.cons rfl <| Weak.cons rfl <| Weak.nil _⟩
  · skip
    refine WC.exit (thenQ.x <| thenQ.x <| blockQ.hit <| thenQ.n ?_)
    refine WC.seq ?_
    refine WC.region ?_
    refine WL.lv rfl (LV.mv rfl) ?_
    refine WL.lv rfl (LV.asg rfl) ?_
    refine WL.nil (thenQ.n ?_)
    refine WC.ret (?_)
    have hres1 : (out : List (Int × Int)) = CNT l := CNT_of q1 (by omega)
    exact ⟨_, fun a ha => res1 rfl ha rfl, (by rw [← hres1]; exact ⟨_, _, rfl, hL1⟩)⟩

end Go.Proofs.Ytpgpiljnmhpnhaa
