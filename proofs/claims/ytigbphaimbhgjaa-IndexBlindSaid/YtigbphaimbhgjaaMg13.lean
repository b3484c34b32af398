/- Names; few items. -/
import Derived.Test.YtigbphaimbhgjaaMg12
import Derived.Shelf.SortM.Plain
import Derived.Shelf.SortM.SortNone
import Derived.Shelf.SlicesG.CompactS
namespace Go.Proofs.Ytigbphaimbhgjaa
open Go Go.Gv Go.RowKit Go.Tly Go.Wds Go.Idx
set_option linter.unusedVariables false
set_option linter.unusedSimpArgs false
theorem ti62 : TI Try.prog 62 (.agg #[(.string ⟨#[]⟩), (.bool false)]) 2 24 := by unfold TI; kernel_rfl

theorem name_calls {w : World} {s : ByteArray} (hs : s.size ≤ 140737488355328) :
    Calls Try.prog 41 #[(.string s)] w fun e w' => ∃ v, e = .returned v ∧ (fun v w' => v = .bool (decide (NAM s)) ∧ KB No w w') v w' := by
  have hS : SH w No w [] := SH.nil _ _
  refine calls (l := litOf [(.string s)] 0) Try.func41 rfl (n := 27) rfl (Nat.le_of_ble_eq_true rfl) (lit_args _) ?_
  refine WC.seq ?_
  refine WC.region ?_
  refine WL.lv rfl (LV.asg rfl) ?_
  refine WL.nil (thenQ.n ?_)
  iterate 2 refine WC.seq ?_
  refine WC.region ?_
  refine WL.lv rfl (LV.mv rfl) ?_
  refine WL.lv rfl (LV.lenS Try.underlying9 rfl) ?_
  refine WL.lv rfl (LV.mv rfl) ?_
  refine WL.nil (thenQ.n ?_)
  refine WC.block ?_
  refine WC.loop (fun m_ f_ w_ => ∃ (ix : Int), (0 ≤ ix) ∧ (ix ≤ (s.size : Int)) ∧ (∀ t : Int, 0 ≤ t → t < ix → 33 ≤ gI (bytesOf s) t ∧ gI (bytesOf s) t ≤ 126) ∧ SH w No w_ [] ∧ m_ = (((s.size : Int) - ix).toNat) ∧ Weak (lit [(0, (.string s)), (5, (.int .i64 (s.size : Int))), (6, (.int .i64 ix))]) f_) _ ⟨0, by omega, by omega, (fun t h1 h2 => by omega), hS, rfl, Weak.cons rfl <| Weak.cons rfl <| Weak.cons rfl <| Weak.nil _⟩ ?_
  rintro m1 f1 w1 ⟨ix, ixlo, ixhi, q1, hL1, rfl, hw1⟩
  refine WC.weak hw1 ?_
  clear hw1
  refine WC.seq ?_
  refine WC.region ?_
  refine WL.lv rfl (LV.ltI rfl rfl) ?_
  refine WL.nil (thenQ.n ?_)
  refine WC.seq ?_
  refine WC.condP (p := ix < (s.size : Int)) rfl (fun hc1 => ?_) (fun hc1 => ?_)
  · skip
    refine WC.skip (thenQ.n ?_)
    refine WC.seq ?_
    refine WC.block ?_
    refine WC.seq ?_
    refine WC.region ?_
    refine WL.lv rfl (LV.mv rfl) ?_
    refine WL.lv rfl (LV.asg rfl) ?_
    refine WL.nil (thenQ.n ?_)
    refine WC.seq ?_
    refine WC.region ?_
    iterate 2 refine WL.lv rfl (LV.mv rfl) ?_
    refine WL.lv rfl (LV.idxSi (i := ix) Try.underlying9 rfl rfl (by omega) (by omega)) ?_
    rcases Decidable.em ((gI (bytesOf s) (ix)) ≤ 32) with hg1 | hg1
    · refine WL.lv rfl (LV.as (LV.leI rfl rfl) (decide_eq_true hg1)) ?_
      refine WL.lv rfl (LV.mv rfl) ?_
      iterate 4 refine WL.off rfl ?_
      refine WL.lv rfl (LV.pickT rfl rfl) ?_
      refine WL.nil (thenQ.n ?_)
      refine WC.condT rfl ?_
      refine WC.seq ?_
      refine WC.region ?_
      refine WL.lv rfl (LV.asg rfl) ?_
      refine WL.nil (thenQ.n ?_)
      refine WC.ret (blockQ.r <| thenQ.r <| thenQ.r <| blockQ.r <| thenQ.r <| ?_)
      exact ⟨_, fun a ha => res1 rfl ha rfl, congrArg Value.bool ((decide_eq_false (by first | exact nam_no (i := ix) (by omega) (by omega) (by omega) | exact (fun h_ => by have h1_ := h_.1; have h2_ := h_.2.1; omega) | exact (fun h_ => by have h1_ := h_.1; have h4_ := (emp_size s).1 (Decidable.not_not.1 (by assumption)); omega))).symm), hL1.kb⟩
    · refine WL.lv rfl (LV.as (LV.leI rfl rfl) (decide_eq_false hg1)) ?_
      iterate 3 refine WL.lv rfl (LV.mv rfl) ?_
      refine WL.lv rfl (LV.idxSi (i := ix) Try.underlying9 rfl rfl (by omega) (by omega)) ?_
      refine WL.lv rfl (LV.gtI rfl rfl) ?_
      refine WL.lv rfl (LV.pickF rfl rfl) ?_
      refine WL.nil (thenQ.n ?_)
      refine WC.condP (p := (gI (bytesOf s) (ix)) > 126) rfl (fun hq => ?_) (fun hq => ?_)
      · skip
        refine WC.seq ?_
        refine WC.region ?_
        refine WL.lv rfl (LV.asg rfl) ?_
        refine WL.nil (thenQ.n ?_)
        refine WC.ret (blockQ.r <| thenQ.r <| thenQ.r <| blockQ.r <| thenQ.r <| ?_)
        exact ⟨_, fun a ha => res1 rfl ha rfl, congrArg Value.bool ((decide_eq_false (by first | exact nam_no (i := ix) (by omega) (by omega) (by omega) | exact (fun h_ => by have h1_ := h_.1; have h2_ := h_.2.1; omega) | exact (fun h_ => by have h1_ := h_.1; have h4_ := (emp_size s).1 (Decidable.not_not.1 (by assumption)); omega))).symm), hL1.kb⟩
      · skip
        refine WC.skip (blockQ.n <| thenQ.n ?_)
        refine WC.region ?_
        refine WL.lv rfl (LV.add rfl rfl (wr64 (by omega) (by omega))) ?_
        refine WL.lv rfl (LV.mv rfl) ?_
        refine WL.nil (thenQ.n ?_)
        exact ⟨_, by omega, ix + 1, by omega, by omega, (all_step q1 (by omega)), hL1, rfl, Weak.cons rfl <| Weak.cons rfl <| Weak.cons rfl <| Weak.nil _⟩
  · skip
    refine WC.exit (thenQ.x <| thenQ.x <| blockQ.hit <| thenQ.n ?_)
    refine WC.seq ?_
    refine WC.region ?_
    refine WL.lv rfl (LV.mv rfl) ?_
    rcases Decidable.em (¬ (s = ⟨#[]⟩)) with hg2 | hg2
    · refine WL.lv rfl (LV.as (LV.neSP (a := s) (b := ⟨#[]⟩) rfl rfl) (decide_eq_true hg2)) ?_
      iterate 2 refine WL.lv rfl (LV.mv rfl) ?_
      refine WL.lv rfl (LV.lenS Try.underlying9 rfl) ?_
      refine WL.lv rfl (LV.leI rfl rfl) ?_
      refine WL.lv rfl (LV.pickT rfl rfl) ?_
      refine WL.lv rfl (LV.asg rfl) ?_
      refine WL.nil (thenQ.n ?_)
      refine WC.ret (?_)
      exact ⟨_, fun a ha => res1 rfl ha rfl, congrArg Value.bool (decide_eq_decide.2 ⟨fun h_ => nam_yes (Nat.pos_of_ne_zero (fun h0_ => by have h3_ := (emp_size s).2 h0_; contradiction)) (by omega) q1 (by omega), fun h_ => by have h2_ := h_.2.1; omega⟩), hL1.kb⟩
    · refine WL.lv rfl (LV.as (LV.neSP (a := s) (b := ⟨#[]⟩) rfl rfl) (decide_eq_false hg2)) ?_
      refine WL.lv rfl (LV.mv rfl) ?_
      iterate 3 refine WL.off rfl ?_
      refine WL.lv rfl (LV.pickF rfl rfl) ?_
      refine WL.lv rfl (LV.asg rfl) ?_
      refine WL.nil (thenQ.n ?_)
      refine WC.ret (?_)
      exact ⟨_, fun a ha => res1 rfl ha rfl, congrArg Value.bool ((decide_eq_false (by first | exact nam_no (i := ix) (by omega) (by omega) (by omega) | exact (fun h_ => by have h1_ := h_.1; have h2_ := h_.2.1; omega) | exact (fun h_ => by have h1_ := h_.1; have h4_ := (emp_size s).1 (Decidable.not_not.1 (by assumption)); omega))).symm), hL1.kb⟩

theorem rname_calls {w : World} {s : ByteArray} (hs : s.size ≤ 140737488355328) :
    Calls Try.prog 66 #[(.string s)] w fun e w' => ∃ v, e = .returned v ∧ (fun v w' => v = .bool (decide (NAM s)) ∧ KB No w w') v w' := by
  have hS : SH w No w [] := SH.nil _ _
  refine calls (l := litOf [(.string s)] 0) Try.func66 rfl (n := 28) rfl (Nat.le_of_ble_eq_true rfl) (lit_args _) ?_
  refine WC.seq ?_
  refine WC.region ?_
  refine WL.lv rfl (LV.asg rfl) ?_
  refine WL.nil (thenQ.n ?_)
  iterate 2 refine WC.seq ?_
  refine WC.region ?_
  refine WL.lv rfl (LV.mv rfl) ?_
  refine WL.lv rfl (LV.lenS Try.underlying9 rfl) ?_
  rcases Decidable.em ((s.size : Int) < 1) with hg1 | hg1
  · refine WL.lv rfl (LV.as (LV.ltI rfl rfl) (decide_eq_true hg1)) ?_
    refine WL.lv rfl (LV.mv rfl) ?_
    iterate 3 refine WL.off rfl ?_
    refine WL.lv rfl (LV.pickT rfl rfl) ?_
    refine WL.nil (thenQ.n ?_)
    refine WC.condT rfl ?_
    refine WC.seq ?_
    refine WC.region ?_
    refine WL.lv rfl (LV.asg rfl) ?_
    refine WL.nil (thenQ.n ?_)
    refine WC.ret (thenQ.r <| ?_)
    exact ⟨_, fun a ha => res1 rfl ha rfl, congrArg Value.bool ((decide_eq_false (by first | exact nam_no (i := i) (by omega) (by omega) (by omega) | exact (fun h_ => by have h1_ := h_.1; have h2_ := h_.2.1; omega) | exact (fun h_ => by have h1_ := h_.1; have h4_ := (emp_size s).1 (Decidable.not_not.1 (by assumption)); omega))).symm), hS.kb⟩
  · refine WL.lv rfl (LV.as (LV.ltI rfl rfl) (decide_eq_false hg1)) ?_
    iterate 2 refine WL.lv rfl (LV.mv rfl) ?_
    refine WL.lv rfl (LV.lenS Try.underlying9 rfl) ?_
    refine WL.lv rfl (LV.gtI rfl rfl) ?_
    refine WL.lv rfl (LV.pickF rfl rfl) ?_
    refine WL.nil (thenQ.n ?_)
    refine WC.condP (p := (s.size : Int) > 64) rfl (fun hc1 => ?_) (fun hc1 => ?_)
    · skip
      refine WC.seq ?_
      refine WC.region ?_
      refine WL.lv rfl (LV.asg rfl) ?_
      refine WL.nil (thenQ.n ?_)
      refine WC.ret (thenQ.r <| ?_)
      exact ⟨_, fun a ha => res1 rfl ha rfl, congrArg Value.bool ((decide_eq_false (by first | exact nam_no (i := i) (by omega) (by omega) (by omega) | exact (fun h_ => by have h1_ := h_.1; have h2_ := h_.2.1; omega) | exact (fun h_ => by have h1_ := h_.1; have h4_ := (emp_size s).1 (Decidable.not_not.1 (by assumption)); omega))).symm), hS.kb⟩
    · skip
      refine WC.skip (thenQ.n ?_)
      iterate 2 refine WC.seq ?_
      refine WC.region ?_
      refine WL.lv rfl (LV.asg rfl) ?_
      refine WL.nil (thenQ.n ?_)
      refine WC.block ?_
      refine WC.loop (fun m_ f_ w_ => ∃ (i : Int), (0 ≤ i) ∧ (i ≤ (s.size : Int)) ∧ (∀ t : Int, 0 ≤ t → t < i → 33 ≤ gI (bytesOf s) t ∧ gI (bytesOf s) t ≤ 126) ∧ SH w No w_ [] ∧ m_ = (((s.size : Int) - i).toNat) ∧ Weak (lit [(0, (.string s)), (3, (.int .i64 i))]) f_) _ ⟨0, by omega, by omega, (fun t h1 h2 => by omega), hS, rfl, Weak.cons rfl <| Weak.cons rfl <| Weak.nil _⟩ ?_
      rintro m1 f1 w1 ⟨i, ilo, ihi, q1, hL1, rfl, hw1⟩
      refine WC.weak hw1 ?_
      clear hw1
      iterate 2 refine WC.seq ?_
      refine WC.region ?_
      iterate 2 refine WL.lv rfl (LV.mv rfl) ?_
      refine WL.lv rfl (LV.lenS Try.underlying9 rfl) ?_
      refine WL.lv rfl (LV.ltI rfl rfl) ?_
      refine WL.nil (thenQ.n ?_)
      refine WC.condP (p := i < (s.size : Int)) rfl (fun hc2 => ?_) (fun hc2 => ?_)
      · skip
        refine WC.skip (thenQ.n ?_)
        refine WC.seq ?_
        refine WC.block ?_
        refine WC.seq ?_
        refine WC.region ?_
        iterate 2 refine WL.lv rfl (LV.mv rfl) ?_
        refine WL.lv rfl (LV.idxSi (i := i) Try.underlying9 rfl rfl (by omega) (by omega)) ?_
        rcases Decidable.em ((gI (bytesOf s) (i)) < 33) with hg2 | hg2
        · refine WL.lv rfl (LV.as (LV.ltI rfl rfl) (decide_eq_true hg2)) ?_
          refine WL.lv rfl (LV.mv rfl) ?_
          iterate 4 refine WL.off rfl ?_
          refine WL.lv rfl (LV.pickT rfl rfl) ?_
          refine WL.nil (thenQ.n ?_)
          refine WC.condT rfl ?_
          refine WC.seq ?_
          refine WC.region ?_
          refine WL.lv rfl (LV.asg rfl) ?_
          refine WL.nil (thenQ.n ?_)
          refine WC.ret (blockQ.r <| thenQ.r <| thenQ.r <| blockQ.r <| thenQ.r <| ?_)
          exact ⟨_, fun a ha => res1 rfl ha rfl, congrArg Value.bool ((decide_eq_false (by first | exact nam_no (i := i) (by omega) (by omega) (by omega) | exact (fun h_ => by have h1_ := h_.1; have h2_ := h_.2.1; omega) | exact (fun h_ => by have h1_ := h_.1; have h4_ := (emp_size s).1 (Decidable.not_not.1 (by assumption)); omega))).symm), hL1.kb⟩
        · refine WL.lv rfl (LV.as (LV.ltI rfl rfl) (decide_eq_false hg2)) ?_
          iterate 3 refine WL.lv rfl (LV.mv rfl) ?_
          refine WL.lv rfl (LV.idxSi (i := i) Try.underlying9 rfl rfl (by omega) (by omega)) ?_
          refine WL.lv rfl (LV.gtI rfl rfl) ?_
          refine WL.lv rfl (LV.pickF rfl rfl) ?_
          refine WL.nil (thenQ.n ?_)
          refine WC.condP (p := (gI (bytesOf s) (i)) > 126) rfl (fun hq => ?_) (fun hq => ?_)
          · skip
            refine WC.seq ?_
            refine WC.region ?_
            refine WL.lv rfl (LV.asg rfl) ?_
            refine WL.nil (thenQ.n ?_)
            refine WC.ret (blockQ.r <| thenQ.r <| thenQ.r <| blockQ.r <| thenQ.r <| ?_)
            exact ⟨_, fun a ha => res1 rfl ha rfl, congrArg Value.bool ((decide_eq_false (by first | exact nam_no (i := i) (by omega) (by omega) (by omega) | exact (fun h_ => by have h1_ := h_.1; have h2_ := h_.2.1; omega) | exact (fun h_ => by have h1_ := h_.1; have h4_ := (emp_size s).1 (Decidable.not_not.1 (by assumption)); omega))).symm), hL1.kb⟩
          · skip
            refine WC.skip (blockQ.n <| thenQ.n ?_)
            refine WC.region ?_
            refine WL.lv rfl (LV.mv rfl) ?_
            refine WL.lv rfl (LV.add rfl rfl (wr64 (by omega) (by omega))) ?_
            refine WL.lv rfl (LV.asg rfl) ?_
            refine WL.nil (thenQ.n ?_)
            exact ⟨_, by omega, i + 1, by omega, by omega, (all_step q1 (by omega)), hL1, rfl, Weak.cons rfl <| Weak.cons rfl <| Weak.nil _⟩
      · skip
        refine WC.exit (thenQ.x <| thenQ.x <| blockQ.hit <| thenQ.n ?_)
        refine WC.seq ?_
        refine WC.region ?_
        refine WL.lv rfl (LV.asg rfl) ?_
        refine WL.nil (thenQ.n ?_)
        refine WC.ret (?_)
        exact ⟨_, fun a ha => res1 rfl ha rfl, congrArg Value.bool ((decide_eq_true (nam_yes (by omega) (by omega) q1 (by omega))).symm), hL1.kb⟩

theorem fewy_calls {w : World} {A0 : Option Addr} {a : List Itm} {c0 : Nat} (ha : St No w (Rd eIt (.slice A0 a.length c0) a)) (hF : FINE a) :
    Calls Try.prog 7 #[(.slice A0 a.length c0)] w fun e w' => ∃ v, e = .returned v ∧ (fun v w' => v = .tuple #[.slice (cutA A0 c0 6) (a.take 20).length c0, .bool true] ∧ KB No w w') v w' := by
  have hma := Rd.max ha.now
  have hml_ := List.length_take_le 20 a
  have hS : SH w No w [] := SH.nil _ _
  refine calls (l := litOf [(.slice A0 a.length c0)] 0) Try.func7 rfl (n := 25) rfl (Nat.le_of_ble_eq_true rfl) (lit_args _) ?_
  refine WC.seq ?_
  refine WC.region ?_
  iterate 2 refine WL.lv rfl (LV.asg rfl) ?_
  refine WL.nil (thenQ.n ?_)
  refine WC.seq ?_
  refine WC.region ?_
  iterate 2 refine WL.lv rfl (LV.mv rfl) ?_
  refine WL.lv rfl (LV.lenL Try.underlying30 rfl) ?_
  refine WL.lv rfl (LV.minI rfl rfl) ?_
  have hcap1 : a.length ≤ c0 := (Rd.cap (St.now (SH.stN hS ha)))
  refine WL.lv rfl (LV.to (v := (.slice (if c0 = 0 then A0 else A0.map (·.add (0 * 6))) ((min (a.length : Int) 20).toNat - 0) (c0 - 0))) (v' := (.slice (cutA A0 c0 6) ((a.take 20).length) c0)) (congrArg (fun n_ => Value.slice (cutA A0 c0 6) n_ c0) (show ((min (a.length : Int) 20).toNat - 0) = (a.take 20).length by rw [List.length_take]; omega)) (LV.cut Try.underlying30 ti64.sz rfl rfl rfl rfl ⟨.inl ⟨rfl, rfl⟩, .inr ⟨.i64, by rw [Int.toNat_of_nonneg (a := min (a.length : Int) 20) (by omega)] <;> rfl⟩, .inl ⟨rfl, rfl⟩⟩ (by omega) (by omega) (by omega))) ?_
  refine WL.lv rfl (LV.asg rfl) ?_
  refine WL.nil (thenQ.n ?_)
  iterate 2 refine WC.seq ?_
  refine WC.region ?_
  refine WL.lv rfl (LV.asg rfl) ?_
  refine WL.nil (thenQ.n ?_)
  refine WC.block ?_
  refine WC.loop (fun m_ f_ w_ => ∃ (i : Int), (0 ≤ i) ∧ (i ≤ ((a.take 20).length : Int)) ∧ (∀ t : Int, 0 ≤ t → t < i → ((a.take 20).getD t.toNat dI).2.2.2.1.size ≤ 60) ∧ SH w No w_ [] ∧ m_ = ((((a.take 20).length : Int) - i).toNat) ∧ Weak (lit [(0, (.slice (cutA A0 c0 6) ((a.take 20).length) c0)), (4, (.int .i64 i))]) f_) _ ⟨0, by omega, by omega, (fun t h1 h2 => by omega), hS, rfl, Weak.cons rfl <| Weak.cons rfl <| Weak.nil _⟩ ?_
  rintro m1 f1 w1 ⟨i, ilo, ihi, q1, hL1, rfl, hw1⟩
  refine WC.weak hw1 ?_
  clear hw1
  iterate 2 refine WC.seq ?_
  refine WC.region ?_
  iterate 2 refine WL.lv rfl (LV.mv rfl) ?_
  refine WL.lv rfl (LV.lenL Try.underlying30 rfl) ?_
  refine WL.lv rfl (LV.ltI rfl rfl) ?_
  refine WL.nil (thenQ.n ?_)
  refine WC.condP (p := i < ((a.take 20).length : Int)) rfl (fun hc1 => ?_) (fun hc1 => ?_)
  · skip
    refine WC.skip (thenQ.n ?_)
    refine WC.seq ?_
    refine WC.block ?_
    refine WC.seq ?_
    refine WC.region ?_
    iterate 2 refine WL.lv rfl (LV.mv rfl) ?_
    obtain ⟨A1, c1, e1, g1⟩ := St.elt (SH.stN hL1 (few_rd 20 ha)) dI i (by omega) (by omega)
    refine WL.lv rfl (LV.idxA Try.underlying30 ti64.sz rfl e1 rfl (by omega) (by omega)) ?_
    refine WL.lv rfl (LV.fieldA Try.underlying64 rfl ti62.sz rfl) ?_
    refine WL.lv rfl (LV.fieldA Try.underlying62 rfl ti9.sz rfl) ?_
    refine WL.lv rfl (LV.load1 (v := (.string (((a.take 20).getD (i).toNat dI).2.2.2.1))) Try.underlying9 rfl rfl (g1 _ (KB.refl No _) 4 _ rfl)) ?_
    refine WL.lv rfl (LV.lenS Try.underlying9 rfl) ?_
    refine WL.lv rfl (LV.gtI rfl rfl) ?_
    refine WL.nil (thenQ.n ?_)
    refine WC.condP (p := ((((a.take 20).getD (i).toNat dI).2.2.2.1).size : Int) > 60) rfl (fun hk => ?_) (fun hk => ?_)
    · exact absurd hF (fine_no (by omega) (by omega) (by omega))
    · skip
      refine WC.skip (blockQ.n <| thenQ.n ?_)
      refine WC.region ?_
      refine WL.lv rfl (LV.mv rfl) ?_
      refine WL.lv rfl (LV.add rfl rfl (wr64 (by omega) (by omega))) ?_
      refine WL.lv rfl (LV.asg rfl) ?_
      refine WL.nil (thenQ.n ?_)
      exact ⟨_, by omega, i + 1, by omega, by omega, (all_step (p := fun t => ((a.take 20).getD t.toNat dI).2.2.2.1.size ≤ 60) q1 (by omega)), hL1, rfl, Weak.cons rfl <| Weak.cons rfl <| Weak.nil _⟩
  · skip
    refine WC.exit (thenQ.x <| thenQ.x <| blockQ.hit <| thenQ.n ?_)
    refine WC.seq ?_
    refine WC.region ?_
    refine WL.lv rfl (LV.mv rfl) ?_
    iterate 2 refine WL.lv rfl (LV.asg rfl) ?_
    refine WL.nil (thenQ.n ?_)
    refine WC.ret (?_)
    exact ⟨_, fun a ha => res2 rfl ha rfl rfl, rfl, hL1.kb⟩

theorem fewn_calls {w : World} {A0 : Option Addr} {a : List Itm} {c0 : Nat} (ha : St No w (Rd eIt (.slice A0 a.length c0) a)) (hF : ¬ FINE a) :
    Calls Try.prog 7 #[(.slice A0 a.length c0)] w fun e w' => ∃ v, e = .returned v ∧ (fun v w' => v = .tuple #[.slice none 0 0, .bool false] ∧ KB No w w') v w' := by
  have hma := Rd.max ha.now
  have hml_ := List.length_take_le 20 a
  have hS : SH w No w [] := SH.nil _ _
  refine calls (l := litOf [(.slice A0 a.length c0)] 0) Try.func7 rfl (n := 25) rfl (Nat.le_of_ble_eq_true rfl) (lit_args _) ?_
  refine WC.seq ?_
  refine WC.region ?_
  iterate 2 refine WL.lv rfl (LV.asg rfl) ?_
  refine WL.nil (thenQ.n ?_)
  refine WC.seq ?_
  refine WC.region ?_
  iterate 2 refine WL.lv rfl (LV.mv rfl) ?_
  refine WL.lv rfl (LV.lenL Try.underlying30 rfl) ?_
  refine WL.lv rfl (LV.minI rfl rfl) ?_
  have hcap1 : a.length ≤ c0 := (Rd.cap (St.now (SH.stN hS ha)))
  refine WL.lv rfl (LV.to (v := (.slice (if c0 = 0 then A0 else A0.map (·.add (0 * 6))) ((min (a.length : Int) 20).toNat - 0) (c0 - 0))) (v' := (.slice (cutA A0 c0 6) ((a.take 20).length) c0)) (congrArg (fun n_ => Value.slice (cutA A0 c0 6) n_ c0) (show ((min (a.length : Int) 20).toNat - 0) = (a.take 20).length by rw [List.length_take]; omega)) (LV.cut Try.underlying30 ti64.sz rfl rfl rfl rfl ⟨.inl ⟨rfl, rfl⟩, .inr ⟨.i64, by rw [Int.toNat_of_nonneg (a := min (a.length : Int) 20) (by omega)] <;> rfl⟩, .inl ⟨rfl, rfl⟩⟩ (by omega) (by omega) (by omega))) ?_
  refine WL.lv rfl (LV.asg rfl) ?_
  refine WL.nil (thenQ.n ?_)
  iterate 2 refine WC.seq ?_
  refine WC.region ?_
  refine WL.lv rfl (LV.asg rfl) ?_
  refine WL.nil (thenQ.n ?_)
  refine WC.block ?_
  refine WC.loop (fun m_ f_ w_ => ∃ (i : Int), (0 ≤ i) ∧ (i ≤ ((a.take 20).length : Int)) ∧ (∀ t : Int, 0 ≤ t → t < i → ((a.take 20).getD t.toNat dI).2.2.2.1.size ≤ 60) ∧ SH w No w_ [] ∧ m_ = ((((a.take 20).length : Int) - i).toNat) ∧ Weak (lit [(0, (.slice (cutA A0 c0 6) ((a.take 20).length) c0)), (4, (.int .i64 i))]) f_) _ ⟨0, by omega, by omega, (fun t h1 h2 => by omega), hS, rfl, Weak.cons rfl <| Weak.cons rfl <| Weak.nil _⟩ ?_
  rintro m1 f1 w1 ⟨i, ilo, ihi, q1, hL1, rfl, hw1⟩
  refine WC.weak hw1 ?_
  clear hw1
  iterate 2 refine WC.seq ?_
  refine WC.region ?_
  iterate 2 refine WL.lv rfl (LV.mv rfl) ?_
  refine WL.lv rfl (LV.lenL Try.underlying30 rfl) ?_
  refine WL.lv rfl (LV.ltI rfl rfl) ?_
  refine WL.nil (thenQ.n ?_)
  refine WC.condP (p := i < ((a.take 20).length : Int)) rfl (fun hc1 => ?_) (fun hc1 => ?_)
  · skip
    refine WC.skip (thenQ.n ?_)
    refine WC.seq ?_
    refine WC.block ?_
    refine WC.seq ?_
    refine WC.region ?_
    iterate 2 refine WL.lv rfl (LV.mv rfl) ?_
    obtain ⟨A1, c1, e1, g1⟩ := St.elt (SH.stN hL1 (few_rd 20 ha)) dI i (by omega) (by omega)
    refine WL.lv rfl (LV.idxA Try.underlying30 ti64.sz rfl e1 rfl (by omega) (by omega)) ?_
    refine WL.lv rfl (LV.fieldA Try.underlying64 rfl ti62.sz rfl) ?_
    refine WL.lv rfl (LV.fieldA Try.underlying62 rfl ti9.sz rfl) ?_
    refine WL.lv rfl (LV.load1 (v := (.string (((a.take 20).getD (i).toNat dI).2.2.2.1))) Try.underlying9 rfl rfl (g1 _ (KB.refl No _) 4 _ rfl)) ?_
    refine WL.lv rfl (LV.lenS Try.underlying9 rfl) ?_
    refine WL.lv rfl (LV.gtI rfl rfl) ?_
    refine WL.nil (thenQ.n ?_)
    refine WC.condP (p := ((((a.take 20).getD (i).toNat dI).2.2.2.1).size : Int) > 60) rfl (fun hk => ?_) (fun hk => ?_)
    · skip
      refine WC.seq ?_
      refine WC.region ?_
      iterate 2 refine WL.lv rfl (LV.asg rfl) ?_
      refine WL.nil (thenQ.n ?_)
      refine WC.ret (blockQ.r <| thenQ.r <| thenQ.r <| blockQ.r <| thenQ.r <| ?_)
      exact ⟨_, fun a ha => res2 rfl ha rfl rfl, rfl, hL1.kb⟩
    · skip
      refine WC.skip (blockQ.n <| thenQ.n ?_)
      refine WC.region ?_
      refine WL.lv rfl (LV.mv rfl) ?_
      refine WL.lv rfl (LV.add rfl rfl (wr64 (by omega) (by omega))) ?_
      refine WL.lv rfl (LV.asg rfl) ?_
      refine WL.nil (thenQ.n ?_)
      exact ⟨_, by omega, i + 1, by omega, by omega, (all_step (p := fun t => ((a.take 20).getD t.toNat dI).2.2.2.1.size ≤ 60) q1 (by omega)), hL1, rfl, Weak.cons rfl <| Weak.cons rfl <| Weak.nil _⟩
  · skip
    refine WC.exit (thenQ.x <| thenQ.x <| blockQ.hit <| thenQ.n ?_)
    refine WC.seq ?_
    refine WC.region ?_
    refine WL.lv rfl (LV.mv rfl) ?_
    iterate 2 refine WL.lv rfl (LV.asg rfl) ?_
    refine WL.nil (thenQ.n ?_)
    refine WC.ret (?_)
    exact ⟨_, fun a ha => res2 rfl ha rfl rfl, absurd (fine_yes (by omega) q1) hF⟩

end Go.Proofs.Ytigbphaimbhgjaa

namespace Go.Gv
open Go Go.RowKit Go.Sort Go.Shelf Go.Lib Go.Proofs Go.Idx
abbrev byL (x : ByteArray) : List UInt8 := x.data.toList
abbrev ofL (l : List UInt8) : ByteArray := ⟨l.toArray⟩
theorem of_byL (x : ByteArray) : ofL (byL x) = x := rfl
theorem enc_byL (x : ByteArray) : encStr (byL x) = .string x := rfl
theorem cells_eS (l : List (List UInt8)) : eS.cells (l.map ofL) = l.map encStr := by
  induction l with
  | nil => rfl
  | cons x l ih => rw [List.map_cons, El.cells_cons, ih]; rfl
theorem byL_ofL (l : List (List UInt8)) : (l.map ofL).map byL = l := by
  rw [List.map_map]
  refine (List.map_congr_left fun x _ => ?_).trans (List.map_id l)
  show (x.toArray).toList = x
  simp
theorem ofL_byL (l : List ByteArray) : (l.map byL).map ofL = l := by
  rw [List.map_map]
  exact (List.map_congr_left fun x _ => rfl).trans (List.map_id l)
theorem mergeS (xs : List ByteArray) : (((xs.map byL).mergeSort fun x y => decide (x ≤ y)).map ofL).Perm xs ∧ (((xs.map byL).mergeSort fun x y => decide (x ≤ y)).map ofL).Pairwise fun a b => ¬ ltB b a := by
  constructor
  · have := ((List.mergeSort_perm (xs.map byL) fun x y => decide (x ≤ y)).map ofL)
    rwa [ofL_byL] at this
  · have := List.pairwise_mergeSort (le := fun x y : List UInt8 => decide (x ≤ y)) (fun a b c h1 h2 => by simp only [decide_eq_true_eq] at h1 h2 ⊢; exact List.le_trans h1 h2) (fun a b => by simp only [Bool.or_eq_true, decide_eq_true_eq]; exact List.le_total a b) (xs.map byL)
    rw [List.pairwise_map]
    refine this.imp fun {a b} h => ?_
    simp only [decide_eq_true_eq] at h
    show ¬ (b.toArray).toList < (a.toArray).toList
    exact List.not_lt.2 h
/-! ### what 'Compact' leaves of a sorted row -/
theorem compact_srt {d : Array (List UInt8)} (hs : ∀ i j, i < j → j < d.size → d[i]! ≤ d[j]!) : ∀ m, m ≤ d.size → (compactUpTo d m).Pairwise (· < ·) ∧ ∀ x, x ∈ compactUpTo d m ↔ ∃ j, j < m ∧ d[j]! = x
  | 0, _ => by simp [compactUpTo]
  | m + 1, hm => by
    obtain ⟨h1, h2⟩ := compact_srt hs m (by omega)
    rw [compactUpTo_succ]
    by_cases hk : keeps d m = true
    · rw [if_pos hk]
      constructor
      · refine List.pairwise_append.2 ⟨h1, by simp, fun a ha b hb => ?_⟩
        obtain ⟨j, hj, e⟩ := (h2 a).1 ha
        rw [List.mem_singleton] at hb
        subst hb
        have hne : d[m]! ≠ d[m - 1]! := by
          unfold keeps at hk
          rw [decide_eq_true_iff] at hk
          exact hk.resolve_left (by omega)
        have hle : a ≤ d[m - 1]! := by
          rw [← e]
          rcases Nat.lt_or_ge j (m - 1) with h | h
          · exact hs j (m - 1) h (by omega)
          · obtain rfl : j = m - 1 := by omega
            exact List.le_refl _
        have hle2 := hs (m - 1) m (by omega) (by omega)
        have hlt : d[m - 1]! < d[m]! := by
          rcases Decidable.em (d[m - 1]! < d[m]!) with h | h
          · exact h
          · exact absurd (List.le_antisymm (List.not_lt.1 h) hle2) hne
        rcases Decidable.em (a < d[m]!) with h | h
        · exact h
        · exact absurd hlt (List.not_lt.2 (List.le_trans (List.not_lt.1 h) hle))
      · intro x
        rw [List.mem_append, h2, List.mem_singleton]
        constructor
        · rintro (⟨j, hj, e⟩ | e)
          · exact ⟨j, by omega, e⟩
          · exact ⟨m, by omega, e.symm⟩
        · rintro ⟨j, hj, e⟩
          rcases Nat.lt_or_ge j m with h | h
          · exact .inl ⟨j, h, e⟩
          · obtain rfl : j = m := by omega
            exact .inr e.symm
    · rw [if_neg hk, List.append_nil]
      refine ⟨h1, fun x => ?_⟩
      rw [h2]
      have hz : m ≠ 0 ∧ d[m]! = d[m - 1]! := by
        unfold keeps at hk
        rw [decide_eq_true_iff, not_or] at hk
        exact ⟨hk.1, Decidable.not_not.1 hk.2⟩
      constructor
      · rintro ⟨j, hj, e⟩; exact ⟨j, by omega, e⟩
      · rintro ⟨j, hj, e⟩
        rcases Nat.lt_or_ge j m with h | h
        · exact ⟨j, h, e⟩
        · obtain rfl : j = m := by omega
          exact ⟨j - 1, by omega, by rw [← e, hz.2]⟩
theorem compactS {xs : List ByteArray} (h : xs.Pairwise fun a b => ¬ ltB b a) : (compact (xs.map byL)).map ofL = SRTB xs := by
  have hg : ∀ j (hj : j < xs.length), (xs.map byL).toArray[j]! = byL xs[j] := fun j hj => by rw [getElem!_pos _ j (by simpa using hj)]; simp
  have hsz : (xs.map byL).toArray.size = xs.length := by simp
  have hs : ∀ i j, i < j → j < (xs.map byL).toArray.size → (xs.map byL).toArray[i]! ≤ (xs.map byL).toArray[j]! := fun i j hij hj => by
    rw [hsz] at hj
    rw [hg i (by omega), hg j hj]
    exact List.not_lt.1 ((List.pairwise_iff_getElem.1 h) i j (by omega) hj hij)
  obtain ⟨h1, h2⟩ := compact_srt hs _ (Nat.le_refl _)
  have e : compact (xs.map byL) = compactUpTo (xs.map byL).toArray (xs.map byL).toArray.size := by unfold compact; simp
  rw [e]
  refine srtb_of ?_ fun a => ?_
  · rw [SS, List.pairwise_map]
    refine h1.imp fun {a b} hab => ?_
    show (a.toArray).toList < (b.toArray).toList
    exact hab
  · rw [List.mem_map]
    constructor
    · rintro ⟨l, hl, rfl⟩
      obtain ⟨j, hj, e⟩ := (h2 l).1 hl
      rw [hsz] at hj
      rw [hg j hj] at e
      rw [← e]
      exact List.getElem_mem hj
    · intro ha
      obtain ⟨j, hj, e⟩ := List.mem_iff_getElem.1 ha
      exact ⟨byL a, (h2 _).2 ⟨j, by rw [hsz]; exact hj, by rw [hg j hj, e]⟩, rfl⟩
theorem compact_len {xs : List ByteArray} (h : xs.Pairwise fun a b => ¬ ltB b a) : (compact (xs.map byL)).length = (SRTB xs).length := by rw [← compactS h, List.length_map]
/-! ### the rows -/
def SortsS (P : Program) (fS : Nat) : Prop :=
  (∀ (blk cap : Nat) (ss : List (List UInt8)) (w : World), Holds encStr w blk 0 ss.toArray → blk < w.heap.size → ss.length < 4611686018427387904 →
    Calls P fS #[.slice (some ⟨blk, 0, none⟩) ss.length cap] w fun e w' => e = .returned (.tuple #[]) ∧ ∃ n os, w' = grow (putRow encStr (Sort.ahead w n) blk 0 (ss.mergeSort fun x y => decide (x ≤ y)).toArray) os) ∧
  ∀ (p : Option Addr) (cap : Nat) (w : World), Calls P fS #[.slice p 0 cap] w fun e w' => e = .returned (.tuple #[]) ∧ w' = w
def CompS (P : Program) (fC : Nat) : Prop :=
  (∀ (blk cap : Nat) (zs : List (List UInt8)) (w : World), Holds encStr w blk 0 zs.toArray → zs.length ≤ 9223372036854775807 → zs.length ≤ cap →
    Calls P fC #[.slice (some ⟨blk, 0, none⟩) zs.length cap] w fun e w' => e = .returned (.slice (some ⟨blk, 0, none⟩) (compact zs).length cap) ∧ ∃ q, w' = putRow encStr (Sort.ahead w q) blk 0 (compact zs ++ List.replicate (zs.length - (compact zs).length) []).toArray) ∧
  ∀ (p : Option Addr) (cap : Nat) (w : World), Calls P fC #[.slice p 0 cap] w fun e w' => e = .returned (.slice p 0 cap) ∧ w' = w
section
variable {w0 w : World} {S : Nat → Prop} {L : List Ent} {P : Program}
/-- A row of texts whose texts have turned. -/
theorem SH.putS {g cap : Nat} {T : TypeId} {xs : List ByteArray} {ys : List (List UInt8)} {n : Nat} (m : Nat) (os : Array Obj) (h : SH w0 S w (rowE eS T (.slice (some ⟨g, 0, none⟩) n cap) xs :: L)) (hn : n = xs.length) (hl : ys.length = xs.length) :
    SH w0 S (grow (putRow encStr (Sort.ahead w m) g 0 ys.toArray) os) (rowE eS T (.slice (some ⟨g, 0, none⟩) n cap) (ys.map ofL) :: L) ∧ KB (· ∈ Value.keys (.slice (some ⟨g, 0, none⟩) n cap)) w (grow (putRow encStr (Sort.ahead w m) g 0 ys.toArray) os) := by
  subst hn
  have hR : Row eS T (.slice (some ⟨g, 0, none⟩) xs.length cap) xs w := h.hd
  rcases hR.2 with ⟨h1, _⟩ | ⟨g2, cap2, cur, h1, hbg, hg, hnc, hcm, hcs, htake⟩
  · cases h1
  · injection h1 with h1 _ h3
    injection h1 with h1
    injection h1 with h1
    subst h1; subst h3
    obtain ⟨b1, b2⟩ := put_block (F := ys.toArray.map encStr) hg m os
    rw [put1]
    have hk : KB (· ∈ Value.keys (.slice (some ⟨g, 0, none⟩) xs.length cap)) w (grow (putRow id (Sort.ahead w m) g 0 (ys.toArray.map encStr)) os) := b2.mono fun i hi => by simp [Value.keys, Value.ownBlock, hi]
    refine ⟨h.upd (e' := rowE eS T _ (ys.map ofL)) hk (Row.ok ?_) (keys_nodup (.slice (some ⟨g, 0, none⟩) xs.length cap)) (fun k hk => .inl hk), hk⟩
    have h1 : eS.sz = 1 := rfl
    rw [h1, Nat.mul_one] at hcs
    have hd : (ys.map ofL).length = xs.length := by rw [List.length_map, hl]
    refine ⟨eS.cells_length _, .inr ⟨g, cap, _, by rw [hd], hbg, b1, by rw [hd]; exact hnc, hcm, by simp [putCells, hcs, h1], ?_⟩⟩
    have hF : (ys.toArray.map encStr).size = xs.length := by simp [hl]
    rw [hd, h1, Nat.mul_one, ← hF, put_take (by rw [hF, hcs]; exact hnc), cells_eS]
    simp
theorem Row.holdsS {g cap : Nat} {T : TypeId} {xs : List ByteArray} {n : Nat} (hn : n = xs.length) (h : Row eS T (.slice (some ⟨g, 0, none⟩) n cap) xs w) : Holds encStr w g 0 (xs.map byL).toArray ∧ g < w.heap.size ∧ xs.length ≤ cap ∧ xs.length ≤ maxLen := by
  subst hn
  rcases h.2 with ⟨h1, _⟩ | ⟨g2, cap2, cur, h1, hbg, hg, hnc, hcm, hcs, htake⟩
  · cases h1
  · injection h1 with h1 _ h3
    injection h1 with h1
    injection h1 with h1
    subst h1; subst h3
    have h1 : eS.sz = 1 := rfl
    rw [h1, Nat.mul_one] at hcs htake
    have hcell : eS.cells xs = (xs.map byL).map encStr := by rw [← cells_eS, ofL_byL]
    refine ⟨fun j hj => ?_, (Array.getElem?_eq_some_iff.1 hg).1, hnc, Nat.le_trans hnc hcm⟩
    have hj' : j < xs.length := by simpa using hj
    have hH0 : Holds id w g 0 ((xs.map byL).toArray.map encStr) := holds_row hg (by simp; omega) (by rw [show ((xs.map byL).toArray.map encStr).size = xs.length by simp, htake, hcell]; simp)
    have := hH0 j (by simpa using hj')
    rw [getElem!_pos ((xs.map byL).toArray.map encStr) j (by simpa using hj')] at this
    rw [getElem!_pos (xs.map byL).toArray j hj]
    simpa using this
theorem sortS_calls {fS : Nat} {T : TypeId} {v : Value} {xs : List ByteArray} (hK : SortsS P fS) (h : SH w0 S w (rowE eS T v xs :: L)) (hsz : xs.length < 4611686018427387904) :
    Calls P fS #[v] w fun e w' => ∃ u, e = .returned u ∧ (fun u w' => ∃ ys : List ByteArray, u = .tuple #[] ∧ ys.Perm xs ∧ (ys.Pairwise fun a b => ¬ ltB b a) ∧ SH w0 S w' (rowE eS T v ys :: L) ∧ KB (· ∈ Value.keys v) w w') u w' := by
  have hR : Row eS T v xs w := h.hd
  rcases hR.2 with ⟨rfl, hn⟩ | ⟨g2, cap, cur, rfl, hbg, hg, hnc, hcm, hcs, htake⟩
  · have hx : xs = [] := List.eq_nil_of_length_eq_zero hn
    subst hx
    exact (hK.2 none 0 w).mono fun e w' ⟨he, hw⟩ => ⟨_, he, [], rfl, List.Perm.refl _, List.Pairwise.nil, hw ▸ h, hw ▸ KB.refl _ _⟩
  · obtain ⟨q1, q2, _⟩ := Row.holdsS rfl hR
    have hl : (xs.map byL).length = xs.length := List.length_map ..
    have := hK.1 g2 cap (xs.map byL) w q1 q2 (by rw [hl]; exact hsz)
    rw [hl] at this
    refine this.mono fun e w' ⟨he, m, os, hw⟩ => ?_
    obtain ⟨p1, p2⟩ := mergeS xs
    obtain ⟨s1, s2⟩ := SH.putS (ys := (xs.map byL).mergeSort fun x y => decide (x ≤ y)) m os h rfl (by rw [List.length_mergeSort, hl])
    exact ⟨_, he, _, rfl, p1, p2, hw ▸ s1, hw ▸ s2⟩
theorem compS_calls {fC : Nat} {T : TypeId} {A : Option Addr} {n c : Nat} {xs : List ByteArray} (hK : CompS P fC) (h : SH w0 S w (rowE eS T (.slice A n c) xs :: L)) (hn : n = xs.length) (hs : xs.Pairwise fun a b => ¬ ltB b a) :
    Calls P fC #[.slice A n c] w fun e w' => ∃ u, e = .returned u ∧ (fun u w' => u = .slice A (SRTB xs).length c ∧ SH w0 S w' (rowE eS T (.slice A (SRTB xs).length c) (SRTB xs) :: L) ∧ KB (· ∈ Value.keys (.slice A n c)) w w') u w' := by
  have hR : Row eS T (.slice A n c) xs w := h.hd
  subst hn
  rcases hR.2 with ⟨h1, hn⟩ | ⟨g2, cap, cur, h1, hbg, hg, hnc, hcm, hcs, htake⟩
  · injection h1 with h1 _ h3
    subst h1; subst h3
    have hx : xs = [] := List.eq_nil_of_length_eq_zero hn
    subst hx
    exact (hK.2 none 0 w).mono fun e w' ⟨he, hw⟩ => ⟨_, he, rfl, hw ▸ h, hw ▸ KB.refl _ _⟩
  · injection h1 with h1 _ h3
    subst h1; subst h3
    obtain ⟨q1, q2, q3, q4⟩ := Row.holdsS rfl hR
    have hl : (xs.map byL).length = xs.length := List.length_map ..
    have hm : maxLen ≤ 9223372036854775807 := by unfold maxLen; omega
    have := hK.1 g2 c (xs.map byL) w q1 (by rw [hl]; omega) (by rw [hl]; exact q3)
    rw [hl] at this
    refine this.mono fun e w' ⟨he, m, hw⟩ => ?_
    rw [compact_len hs] at he
    have hle := SRTB_len xs
    have hcl := compact_len hs
    obtain ⟨s1, s2⟩ := SH.putS (ys := compact (xs.map byL) ++ List.replicate (xs.length - (compact (xs.map byL)).length) []) m #[] h rfl (by rw [List.length_append, List.length_replicate]; omega)
    have e0 : ∀ W : World, grow W #[] = W := fun W => by simp [grow]
    rw [e0] at s1 s2
    have s3 := SH.short s1 (i := (SRTB xs).length) (by rw [List.length_map, List.length_append, List.length_replicate]; omega)
    have e1 : ((compact (xs.map byL) ++ List.replicate (xs.length - (compact (xs.map byL)).length) []).map ofL).take (SRTB xs).length = SRTB xs := by
      rw [List.map_append, compactS hs, List.take_left]
    rw [e1] at s3
    exact ⟨_, he, rfl, hw ▸ s3, hw ▸ s2⟩
end
end Go.Gv

namespace Go.Proofs.Ytigbphaimbhgjaa
open Go Go.Gv Go.RowKit Go.Tly Go.Wds Go.Idx
set_option linter.unusedVariables false
set_option linter.unusedSimpArgs false

open Go.Shelf Go.Sort Go.Lib
def sortT_ren : Go.Shelf.Ren := ⟨fun | 6 => 50 | 8 => 53 | 9 => 68 | 19 => 77 | 20 => 78 | 21 => 83 | 22 => 84 | 23 => 85 | 24 => 86 | 25 => 87 | 26 => 88 | 27 => 89 | 28 => 90 | 29 => 91 | 36 => 97 | 31 => 93 | 32 => 94 | 37 => 98 | 38 => 99 | 39 => 79 | 41 => 101 | n => n, fun | 27 => 41 | 29 => 9 | 3 => 3 | 32 => 100 | 26 => 41 | 0 => 0 | 44 => 120 | 46 => 23 | 4 => 4 | 36 => 114 | 35 => 113 | 41 => 74 | 5 => 5 | 9 => 9 | 53 => 132 | 57 => 136 | 63 => 140 | 64 => 141 | n => n, fun | n => n⟩
theorem sortT : Go.Proofs.SlLaysM.n6 Try.prog sortT_ren := {
  mixed := by kernel_rfl
  f6 := ⟨Try.f50.name, by decide, Try.func50.trans (congrArg some (by kernel_rfl))⟩
  f8 := Try.func53.trans (congrArg some (by kernel_rfl))
  f9 := ⟨Try.f68.name, by decide, Try.func68.trans (congrArg some (by kernel_rfl))⟩
  f19 := Try.func77.trans (congrArg some (by kernel_rfl))
  f20 := Try.func78.trans (congrArg some (by kernel_rfl))
  f21 := ⟨Try.f83.name, by decide, Try.func83.trans (congrArg some (by kernel_rfl))⟩
  f22 := ⟨Try.f84.name, by decide, Try.func84.trans (congrArg some (by kernel_rfl))⟩
  f23 := ⟨Try.f85.name, by decide, Try.func85.trans (congrArg some (by kernel_rfl))⟩
  f24 := ⟨Try.f86.name, by decide, Try.func86.trans (congrArg some (by kernel_rfl))⟩
  f25 := ⟨Try.f87.name, by decide, Try.func87.trans (congrArg some (by kernel_rfl))⟩
  f26 := ⟨Try.f88.name, by decide, Try.func88.trans (congrArg some (by kernel_rfl))⟩
  f27 := ⟨Try.f89.name, by decide, Try.func89.trans (congrArg some (by kernel_rfl))⟩
  f28 := ⟨Try.f90.name, by decide, Try.func90.trans (congrArg some (by kernel_rfl))⟩
  f29 := ⟨Try.f91.name, by decide, Try.func91.trans (congrArg some (by kernel_rfl))⟩
  f31 := Try.func93.trans (congrArg some (by kernel_rfl))
  f32 := Try.func94.trans (congrArg some (by kernel_rfl))
  f36 := ⟨Try.f97.name, by decide, Try.func97.trans (congrArg some (by kernel_rfl))⟩
  f37 := ⟨Try.f98.name, by decide, Try.func98.trans (congrArg some (by kernel_rfl))⟩
  f38 := ⟨Try.f99.name, by decide, Try.func99.trans (congrArg some (by kernel_rfl))⟩
  f39 := ⟨Try.f79.name, by decide, Try.func79.trans (congrArg some (by kernel_rfl))⟩
  f41 := ⟨Try.f101.name, by decide, Try.func101.trans (congrArg some (by kernel_rfl))⟩
  t0 := Try.underlying0
  a0 := Try.isAgg0
  z0 := Try.sizeOf0
  v0 := Try.zeroValue0
  t3 := Try.underlying3
  a3 := Try.isAgg3
  z3 := Try.sizeOf3
  v3 := Try.zeroValue3
  t4 := Try.underlying4
  a4 := Try.isAgg4
  z4 := Try.sizeOf4
  v4 := Try.zeroValue4
  t5 := Try.underlying5
  a5 := Try.isAgg5
  z5 := Try.sizeOf5
  v5 := Try.zeroValue5
  t9 := Try.underlying9
  a9 := Try.isAgg9
  z9 := Try.sizeOf9
  v9 := Try.zeroValue9
  t26 := Try.underlying41
  a26 := Try.isAgg41
  z26 := Try.sizeOf41
  v26 := Try.zeroValue41
  t27 := Try.underlying41
  a27 := Try.isAgg41
  z27 := Try.sizeOf41
  v27 := Try.zeroValue41
  t29 := Try.underlying9
  a29 := Try.isAgg9
  z29 := Try.sizeOf9
  v29 := Try.zeroValue9
  t32 := Try.underlying100
  a32 := Try.isAgg100
  z32 := Try.sizeOf100
  v32 := Try.zeroValue100
  t35 := Try.underlying113
  a35 := Try.isAgg113
  z35 := Try.sizeOf113
  v35 := Try.zeroValue113
  t36 := Try.underlying114
  a36 := Try.isAgg114
  z36 := Try.sizeOf114
  v36 := Try.zeroValue114
  t41 := Try.underlying74
  a41 := Try.isAgg74
  z41 := Try.sizeOf74
  v41 := Try.zeroValue74
  t44 := Try.underlying120
  a44 := Try.isAgg120
  z44 := Try.sizeOf120
  v44 := Try.zeroValue120
  t46 := Try.underlying23
  a46 := Try.isAgg23
  z46 := Try.sizeOf23
  v46 := Try.zeroValue23
  t53 := Try.underlying132
  a53 := Try.isAgg132
  z53 := Try.sizeOf132
  v53 := Try.zeroValue132
  t57 := Try.underlying136
  a57 := Try.isAgg136
  z57 := Try.sizeOf136
  v57 := Try.zeroValue136
  t63 := Try.underlying140
  a63 := Try.isAgg140
  z63 := Try.sizeOf140
  v63 := Try.zeroValue140
  t64 := Try.underlying141
  a64 := Try.isAgg141
  z64 := Try.sizeOf141
  v64 := Try.zeroValue141 }
def compT_ren : Go.Shelf.Ren := ⟨fun | 44 => 51 | n => n, fun | 25 => 41 | 26 => 9 | 3 => 3 | 4 => 4 | 0 => 0 | n => n, fun | n => n⟩
theorem compT : Go.Proofs.SlLaysN.n44 Try.prog compT_ren := {
  mixed := by kernel_rfl
  f44 := ⟨Try.f51.name, by decide, Try.func51.trans (congrArg some (by kernel_rfl))⟩
  t0 := Try.underlying0
  a0 := Try.isAgg0
  z0 := Try.sizeOf0
  v0 := Try.zeroValue0
  t3 := Try.underlying3
  a3 := Try.isAgg3
  z3 := Try.sizeOf3
  v3 := Try.zeroValue3
  t4 := Try.underlying4
  a4 := Try.isAgg4
  z4 := Try.sizeOf4
  v4 := Try.zeroValue4
  t25 := Try.underlying41
  a25 := Try.isAgg41
  z25 := Try.sizeOf41
  v25 := Try.zeroValue41
  t26 := Try.underlying9
  a26 := Try.isAgg9
  z26 := Try.sizeOf9
  v26 := Try.zeroValue9
  i26 := by kernel_rfl }
theorem sortS_t : SortsS Try.prog 50 := ⟨fun blk cap ss w hH hb hs => AnyM.slices_Sort_string sortT blk 0 cap ss w hH hb hs, fun p cap w => AnyM.slices_Sort_string_none sortT p cap w⟩
theorem compS_t : CompS Try.prog 51 := ⟨fun blk cap zs w hH hs hc => AnyG.slices_Compact_string compT blk 0 cap zs w hH hs hc, fun p cap w => AnyG.slices_Compact_string_empty compT p cap w⟩

theorem of_calls {w : World} {s : ByteArray} (hs : s.size ≤ 1000000) :
    Calls Try.prog 24 #[(.string s)] w fun e w' => ∃ v, e = .returned v ∧ (fun v w' => ∃ (A0' : Option Addr) (c0' : Nat), v = .slice A0' (OF s).length c0' ∧ SH w No w' [rowE eS 9 (.slice A0' (OF s).length c0') (OF s)]) v w' := by
  have htl_ := TOK_len s
  have hS : SH w No w [] := SH.nil _ _
  refine calls (l := litOf [(.string s)] 0) Try.func24 rfl (n := 25) rfl (Nat.le_of_ble_eq_true rfl) (lit_args _) ?_
  refine WC.seq ?_
  refine WC.region ?_
  refine WL.lv rfl (LV.asg rfl) ?_
  refine WL.nil (thenQ.n ?_)
  refine WC.seq ?_
  refine WC.region ?_
  have hS1 := SH.nilRow (E := eS) (T := 9) hS
  refine WL.lv rfl (LV.asg rfl) ?_
  refine WL.nil (thenQ.n ?_)
  iterate 2 refine WC.seq ?_
  refine WC.region ?_
  refine WL.lv rfl (LV.mv rfl) ?_
  refine WL.call rfl (XC.fn Try.func48 (by kernel_rfl) rfl rfl rfl) (tokens_calls (s := s) (by first | omega | (simp only [ByteArray.size_append, lit1]; omega))) ?_
  rintro v_ w1 ⟨A1, c1, rfl, hS2⟩
  have hS3 := SH.joinN hS1 hS2
  refine WL.lv rfl (LV.lenL Try.underlying41 rfl) ?_
  refine WL.lv rfl (LV.mv rfl) ?_
  refine WL.nil (thenQ.n ?_)
  refine WC.block ?_
  refine WC.loop (fun m_ f_ w_ => ∃ (A_out : Option Addr) (c_out : Nat) (out : List ByteArray) (ix : Int), (0 ≤ ix) ∧ (ix ≤ ((TOK s).length : Int)) ∧ (out = WDL ((TOK s).take ix.toNat)) ∧ ((out.length : Int) ≤ ix) ∧ SH w No w_ [rowE eS 9 (.slice A1 ((TOK s).length) c1) (TOK s), rowE eS 9 (.slice A_out out.length c_out) out] ∧ m_ = ((((TOK s).length : Int) - ix).toNat) ∧ Weak (lit [(3, (.slice A_out out.length c_out)), (7, (.slice A1 ((TOK s).length) c1)), (8, (.int .i64 ((TOK s).length : Int))), (9, (.int .i64 ix))]) f_) _ ⟨none, 0, [], 0, by omega, by omega, rfl, (by simp), hS3, rfl, Weak.cons rfl <| Weak.cons rfl <| Weak.cons rfl <| Weak.cons rfl <| Weak.nil _⟩ ?_
  rintro m1 f1 w2 ⟨A_out, c_out, out, ix, ixlo, ixhi, q1, q2, hL1, rfl, hw1⟩
  refine WC.weak hw1 ?_
  clear hw1
  refine WC.seq ?_
  refine WC.region ?_
  refine WL.lv rfl (LV.ltI rfl rfl) ?_
  refine WL.nil (thenQ.n ?_)
  refine WC.seq ?_
  refine WC.condP (p := ix < ((TOK s).length : Int)) rfl (fun hc1 => ?_) (fun hc1 => ?_)
  · skip
    refine WC.skip (thenQ.n ?_)
    refine WC.seq ?_
    refine WC.block ?_
    refine WC.seq ?_
    refine WC.region ?_
    obtain ⟨A2, c2, e1, g1⟩ := St.elt (SH.rd hL1 (.head _)) ByteArray.empty ix (by omega) (by omega)
    refine WL.lv rfl (LV.idxA Try.underlying41 ti9.sz rfl e1 rfl (by omega) (by omega)) ?_
    refine WL.lv rfl (LV.load1 (v := (.string ((TOK s).getD (ix).toNat ByteArray.empty))) Try.underlying9 rfl rfl (g1 _ (KB.refl No _) 0 _ rfl)) ?_
    refine WL.lv rfl (LV.asg rfl) ?_
    refine WL.nil (thenQ.n ?_)
    refine WC.seq ?_
    refine WC.region ?_
    refine WL.lv rfl (LV.mv rfl) ?_
    have htp_ := TOK_pos (getD_mem (d := ByteArray.empty) (show ix.toNat < (TOK s).length by omega))
    have hwa_ := WDL_at ixlo (show ix < ((TOK s).length : Int) by omega)
    refine WL.call rfl (XC.fn Try.func49 (by kernel_rfl) rfl rfl rfl) (word_calls (t := ((TOK s).getD (ix).toNat ByteArray.empty)) (by omega)) ?_
    rintro v_ w3 ⟨rfl, hk1⟩
    have hS4 := SH.same hL1 hk1
    refine WL.nil (thenQ.n ?_)
    refine WC.condP (p := ISW ((TOK s).getD (ix).toNat ByteArray.empty)) rfl (fun hw => ?_) (fun hw => ?_)
    · skip
      refine WC.region ?_
      iterate 2 refine WL.lv rfl (LV.mv rfl) ?_
      refine WL.call rfl (XC.fn Try.func25 (by kernel_rfl) rfl rfl rfl) (lower_calls (s := ((TOK s).getD (ix).toNat ByteArray.empty)) (by omega)) ?_
      rintro v_ w4 ⟨rfl, hk2⟩
      have hS5 := SH.same hS4 hk2
      refine WL.xe rfl (XE.buildSlice (E := eS) [(0, (.string (LOW ((TOK s).getD (ix).toNat ByteArray.empty))))] #[(.string (LOW ((TOK s).getD (ix).toNat ByteArray.empty)))] [LOW ((TOK s).getD (ix).toNat ByteArray.empty)] hS5 Try.underlying41 ti9 rfl (by decide) (by kernel_rfl) (.inr rfl) rfl rfl (by decide)) ?_
      rintro _ w5 ⟨b1, rfl, hS6, hk3⟩
      have hS7 : SH w No w5 [rowE eS 9 (.slice A_out out.length c_out) out, rowE eS 9 (.slice (some ⟨b1, 0, none⟩) 1 1) [LOW ((TOK s).getD (ix).toNat ByteArray.empty)], rowE eS 9 (.slice A1 ((TOK s).length) c1) (TOK s)] := (SH.front [_, _] hS6)
      refine WL.xe rfl (XE.append hS7 Try.underlying41 ti9 rfl (St.now (SH.rd hS7 (.tail _ (.head _)))) rfl rfl (by first | omega | simp only [List.length_append, List.length_cons, List.length_nil, List.length_take, List.length_reverse, List.length_drop] at *; omega) (by first | omega | simp only [List.length_append, List.length_cons, List.length_nil, List.length_take, List.length_reverse, List.length_drop] at *; omega)) ?_
      rintro _ w6 ⟨A3, c3, rfl, hS8, hk4⟩
      refine WL.lv rfl (LV.asg rfl) ?_
      refine WL.nil (blockQ.n <| thenQ.n ?_)
      refine WC.region ?_
      refine WL.lv rfl (LV.add rfl rfl (wr64 (by omega) (by omega))) ?_
      refine WL.lv rfl (LV.mv rfl) ?_
      refine WL.nil (thenQ.n ?_)
      have hS9 : SH w No w6 [rowE eS 9 (.slice A1 ((TOK s).length) c1) (TOK s), rowE eS 9 (.slice A3 ((out ++ [LOW ((TOK s).getD (ix).toNat ByteArray.empty)]).length) c3) (out ++ [LOW ((TOK s).getD (ix).toNat ByteArray.empty)])] := (SH.take 2 rfl (SH.front [_, _] hS8))
      exact ⟨_, by omega, A3, c3, (out ++ [LOW ((TOK s).getD (ix).toNat ByteArray.empty)]), ix + 1, by omega, by omega, (by rw [hwa_, if_pos hw, ← q1]), (by first | omega | (simp; omega)), hS9, rfl, Weak.cons rfl <| Weak.cons rfl <| Weak.cons rfl <| Weak.cons rfl <| Weak.nil _⟩
    · skip
      refine WC.skip (blockQ.n <| thenQ.n ?_)
      refine WC.region ?_
      refine WL.lv rfl (LV.add rfl rfl (wr64 (by omega) (by omega))) ?_
      refine WL.lv rfl (LV.mv rfl) ?_
      refine WL.nil (thenQ.n ?_)
      exact ⟨_, by omega, A_out, c_out, out, ix + 1, by omega, by omega, (by rw [hwa_, if_neg hw, ← q1]), (by first | omega | (simp; omega)), hS4, rfl, Weak.cons rfl <| Weak.cons rfl <| Weak.cons rfl <| Weak.cons rfl <| Weak.nil _⟩
  · skip
    refine WC.exit (thenQ.x <| thenQ.x <| blockQ.hit <| thenQ.n ?_)
    refine WC.seq ?_
    refine WC.region ?_
    refine WL.lv rfl (LV.mv rfl) ?_
    have hS10 : SH w No w2 [rowE eS 9 (.slice A_out out.length c_out) out, rowE eS 9 (.slice A1 ((TOK s).length) c1) (TOK s)] := (SH.front [_] hL1)
    refine WL.call rfl (XC.fn Try.func50 (by kernel_rfl) rfl rfl rfl) (sortS_calls sortS_t hS10 (by omega)) ?_
    rintro v_ w7 ⟨ys1, rfl, hpm1, hpw1, hS11, hk5⟩
    refine WL.nil (thenQ.n ?_)
    refine WC.seq ?_
    refine WC.region ?_
    refine WL.lv rfl (LV.mv rfl) ?_
    refine WL.call rfl (XC.fn Try.func51 (by kernel_rfl) rfl rfl rfl) (compS_calls compS_t hS11 (by have := hpm1.length_eq; omega) hpw1) ?_
    rintro v_ w8 ⟨rfl, hS12, hk6⟩
    refine WL.lv rfl (LV.asg rfl) ?_
    refine WL.nil (thenQ.n ?_)
    refine WC.ret (?_)
    have hS13 : SH w No w8 [rowE eS 9 (.slice A_out ((SRTB ys1).length) c_out) (SRTB ys1)] := (SH.take 1 rfl hS12)
    have hres1 : ((SRTB ys1) : List ByteArray) = OF s := by rw [SRTB_perm hpm1, q1, List.take_of_length_le (by omega)]; rfl
    exact ⟨_, fun a ha => res1 rfl ha rfl, (by rw [← hres1]; exact ⟨_, _, rfl, hS13⟩)⟩

end Go.Proofs.Ytigbphaimbhgjaa

