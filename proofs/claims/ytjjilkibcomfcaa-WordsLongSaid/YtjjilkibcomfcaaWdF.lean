/- Edits. -/
import Derived.Test.YtjjilkibcomfcaaWdE
namespace Go.Proofs.Ytjjilkibcomfcaa
open Go Go.Gv Go.RowKit Go.Mys Go.Pat Go.Wds
set_option linter.unusedVariables false
set_option linter.unusedSimpArgs false

set_option maxHeartbeats 1000000 in
theorem edits_calls {w : World} {a : ByteArray} {b : ByteArray} (ha : a.size ≤ 100000) (hb : b.size ≤ 100000) :
    Calls Try.prog 15 #[(.string a), (.string b)] w fun e w' => ∃ v, e = .returned v ∧ (fun v w' => ∃ (A0' : Option Addr) (c0' : Nat), v = .slice A0' (EDT a b).length c0' ∧ SH w No w' [rowE eBt 49 (.slice A0' (EDT a b).length c0') (EDT a b)]) v w' := by
  have hta_ := TOK_len a
  have htb_ := TOK_len b
  have hS : SH w No w [] := SH.nil _ _
  refine calls (l := litOf [(.string a), (.string b)] 0) Try.func15 rfl (n := 63) rfl (Nat.le_of_ble_eq_true rfl) (lit_args _) ?_
  refine WC.seq ?_
  refine WC.region ?_
  refine WL.lv rfl (LV.asg rfl) ?_
  refine WL.nil (thenQ.n ?_)
  refine WC.seq ?_
  refine WC.region ?_
  refine WL.lv rfl (LV.mv rfl) ?_
  refine WL.call rfl (XC.fn Try.func7 (by kernel_rfl) rfl rfl rfl) (tokens_calls (s := a) (by first | omega | (simp only [ByteArray.size_append, lit1]; omega))) ?_
  rintro v_ w1 ⟨A1, c1, rfl, hS1⟩
  have hS2 := SH.joinN hS hS1
  refine WL.lv rfl (LV.mv rfl) ?_
  refine WL.call rfl (XC.fn Try.func7 (by kernel_rfl) rfl rfl rfl) (tokens_calls (s := b) (by first | omega | (simp only [ByteArray.size_append, lit1]; omega))) ?_
  rintro v_ w2 ⟨A2, c2, rfl, hS3⟩
  have hS4 := SH.joinN hS2 hS3
  iterate 2 refine WL.lv rfl (LV.asg rfl) ?_
  refine WL.nil (thenQ.n ?_)
  iterate 2 refine WC.seq ?_
  refine WC.region ?_
  refine WL.lv rfl (LV.mv rfl) ?_
  rcases Decidable.em ((TOK a).length > 400) with hg1 | hg1
  · refine WL.call rfl (XC.fn Try.func27 (by kernel_rfl) rfl rfl rfl) (Calls.asB (wlong_calls  (SH.rd hS4 (.tail _ (.head _))) rfl ) (decide_eq_true (hg1))) ?_
    rintro v_ w3 ⟨rfl, hk1⟩
    have hS5 := SH.same hS4 hk1
    refine WL.lv rfl (LV.mv rfl) ?_
    iterate 2 refine WL.off rfl ?_
    refine WL.lv rfl (LV.pickT rfl rfl) ?_
    refine WL.nil (thenQ.n ?_)
    refine WC.condT rfl ?_
    refine WC.seq ?_
    refine WC.region ?_
    refine WL.lv rfl (LV.asg rfl) ?_
    refine WL.nil (thenQ.n ?_)
    refine WC.ret (thenQ.r <| ?_)
    have hS6 := SH.nilRow (E := eBt) (T := 49) hS5
    have hS7 : SH w No w3 [rowE eBt 49 (.slice none 0 0) []] := (SH.take 1 rfl hS6)
    have hres1 : ([] : List (Int × ByteArray)) = EDT a b := (if_pos (by omega)).symm
    exact ⟨_, fun a ha => res1 rfl ha rfl, (by rw [← hres1]; exact ⟨_, _, rfl, hS7⟩)⟩
  · refine WL.call rfl (XC.fn Try.func27 (by kernel_rfl) rfl rfl rfl) (Calls.asB (wlong_calls  (SH.rd hS4 (.tail _ (.head _))) rfl ) (decide_eq_false (hg1))) ?_
    rintro v_ w4 ⟨rfl, hk2⟩
    have hS8 := SH.same hS4 hk2
    iterate 2 refine WL.lv rfl (LV.mv rfl) ?_
    refine WL.call rfl (XC.fn Try.func27 (by kernel_rfl) rfl rfl rfl) (wlong_calls  (SH.rd hS8 (.head _)) rfl ) ?_
    rintro v_ w5 ⟨rfl, hk3⟩
    have hS9 := SH.same hS8 hk3
    refine WL.lv rfl (LV.pickF rfl rfl) ?_
    refine WL.nil (thenQ.n ?_)
    refine WC.condP (p := (TOK b).length > 400) rfl (fun hc1 => ?_) (fun hc1 => ?_)
    · skip
      refine WC.seq ?_
      refine WC.region ?_
      refine WL.lv rfl (LV.asg rfl) ?_
      refine WL.nil (thenQ.n ?_)
      refine WC.ret (thenQ.r <| ?_)
      have hS10 := SH.nilRow (E := eBt) (T := 49) hS9
      have hS11 : SH w No w5 [rowE eBt 49 (.slice none 0 0) []] := (SH.take 1 rfl hS10)
      have hres2 : ([] : List (Int × ByteArray)) = EDT a b := (if_pos (by omega)).symm
      exact ⟨_, fun a ha => res1 rfl ha rfl, (by rw [← hres2]; exact ⟨_, _, rfl, hS11⟩)⟩
    · skip
      refine WC.skip (thenQ.n ?_)
      refine WC.seq ?_
      refine WC.region ?_
      have hlg_ : ¬ ((TOK a).length > 400 ∨ (TOK b).length > 400) := by omega
      have hpl_ := nnumL_len [] (TOK a)
      have hql_ := nnumL_len (nkvL [] (TOK a)) (TOK b)
      have hsl_ := al_len _ _ _ (EDT_al hlg_)
      refine WL.xe rfl (XE.makeMap kS kI hS9) ?_
      rintro _ w6 ⟨b1, rfl, hS12, hk4⟩
      refine WL.lv rfl (LV.asg rfl) ?_
      refine WL.nil (thenQ.n ?_)
      refine WC.seq ?_
      refine WC.region ?_
      have hS13 := SH.nilRow (E := eBt) (T := 49) hS12
      refine WL.lv rfl (LV.asg rfl) ?_
      refine WL.nil (thenQ.n ?_)
      refine WC.seq ?_
      refine WC.region ?_
      iterate 2 refine WL.lv rfl (LV.asg rfl) ?_
      refine WL.nil (thenQ.n ?_)
      iterate 2 refine WC.seq ?_
      refine WC.region ?_
      iterate 2 refine WL.lv rfl (LV.mv rfl) ?_
      have hS14 : SH w No w6 [mapE kS kI b1 [], rowE eBt 49 (.slice none 0 0) [], rowE eS 9 (.slice A2 ((TOK b).length) c2) (TOK b), rowE eS 9 (.slice A1 ((TOK a).length) c1) (TOK a)] := (SH.front [_] hS13)
      have hT1 := SH.sub (Es := [_]) hS14
      refine WL.call rfl (XC.fn Try.func29 (by kernel_rfl) rfl rfl rfl) (numbers_calls (kn := ([] : List ByteArray)) (l := (TOK a)) ((SH.stE (Es := [mapE kS kI b1 []]) hS14 (.tail _ (.tail _ (.head _)))).imp fun _ h => Row.rd h) rfl hT1 (by omega) (by first | omega | (simp; done) | (have h_ := nkvL_len [] (TOK a); simp only [List.length_nil] at h_; omega))) ?_
      rintro v_ w7 ⟨A3, c3, rfl, hU1⟩
      have hS15 := SH.back (Es := [_]) hS14 hU1
      iterate 2 refine WL.lv rfl (LV.mv rfl) ?_
      have hS16 : SH w No w7 [mapE kS kI b1 (kvOf (nkvL ([] : List ByteArray) (TOK a))), rowE eI 3 (.slice A3 ((nnumL ([] : List ByteArray) (TOK a)).length) c3) (nnumL ([] : List ByteArray) (TOK a)), rowE eBt 49 (.slice none 0 0) [], rowE eS 9 (.slice A2 ((TOK b).length) c2) (TOK b), rowE eS 9 (.slice A1 ((TOK a).length) c1) (TOK a)] := (SH.front [_] hS15)
      have hT2 := SH.sub (Es := [_]) hS16
      refine WL.call rfl (XC.fn Try.func29 (by kernel_rfl) rfl rfl rfl) (numbers_calls (kn := (nkvL ([] : List ByteArray) (TOK a))) (l := (TOK b)) ((SH.stE (Es := [mapE kS kI b1 (kvOf (nkvL ([] : List ByteArray) (TOK a)))]) hS16 (.tail _ (.tail _ (.head _)))).imp fun _ h => Row.rd h) rfl hT2 (by omega) (by first | omega | (simp; done) | (have h_ := nkvL_len [] (TOK a); simp only [List.length_nil] at h_; omega))) ?_
      rintro v_ w8 ⟨A4, c4, rfl, hU2⟩
      have hS17 := SH.back (Es := [_]) hS16 hU2
      refine WL.call rfl (XC.fn Try.func28 (by kernel_rfl) rfl rfl rfl) (steps27_calls  (SH.rd hS17 (.tail _ (.tail _ (.head _)))) rfl (SH.rd hS17 (.head _)) rfl ) ?_
      rintro v_ w9 ⟨A5, c5, rfl, hS18⟩
      have hS19 := SH.joinN hS17 hS18
      refine WL.lv rfl (LV.lenL Try.underlying52 rfl) ?_
      refine WL.lv rfl (LV.mv rfl) ?_
      refine WL.nil (thenQ.n ?_)
      refine WC.block ?_
      refine WC.loop (fun m_ f_ w_ => ∃ (A_out : Option Addr) (c_out : Nat) (out : List (Int × ByteArray)) (i : Int) (j : Int) (ix : Int), (0 ≤ ix) ∧ (ix ≤ ((STP (nnumL ([] : List ByteArray) (TOK a)) (nnumL (nkvL ([] : List ByteArray) (TOK a)) (TOK b))).length : Int)) ∧ (EDF (TOK a) (TOK b) ((STP (nnumL [] (TOK a)) (nnumL (nkvL [] (TOK a)) (TOK b))).drop ix.toNat) i j out = EDF (TOK a) (TOK b) (STP (nnumL [] (TOK a)) (nnumL (nkvL [] (TOK a)) (TOK b))) 0 0 []) ∧ (AL (nnumL [] (TOK a)) (nnumL (nkvL [] (TOK a)) (TOK b)) ((STP (nnumL [] (TOK a)) (nnumL (nkvL [] (TOK a)) (TOK b))).drop ix.toNat) i j) ∧ (0 ≤ i ∧ 0 ≤ j) ∧ ((szB out : Int) ≤ 100000 * ix) ∧ ((out.length : Int) ≤ ix) ∧ SH w No w_ [rowE eI 47 (.slice A5 ((STP (nnumL ([] : List ByteArray) (TOK a)) (nnumL (nkvL ([] : List ByteArray) (TOK a)) (TOK b))).length) c5) (STP (nnumL ([] : List ByteArray) (TOK a)) (nnumL (nkvL ([] : List ByteArray) (TOK a)) (TOK b))), rowE eI 3 (.slice A4 ((nnumL (nkvL ([] : List ByteArray) (TOK a)) (TOK b)).length) c4) (nnumL (nkvL ([] : List ByteArray) (TOK a)) (TOK b)), mapE kS kI b1 (kvOf (nkvL (nkvL ([] : List ByteArray) (TOK a)) (TOK b))), rowE eI 3 (.slice A3 ((nnumL ([] : List ByteArray) (TOK a)).length) c3) (nnumL ([] : List ByteArray) (TOK a)), rowE eBt 49 (.slice A_out out.length c_out) out, rowE eS 9 (.slice A2 ((TOK b).length) c2) (TOK b), rowE eS 9 (.slice A1 ((TOK a).length) c1) (TOK a)] ∧ m_ = ((((STP (nnumL ([] : List ByteArray) (TOK a)) (nnumL (nkvL ([] : List ByteArray) (TOK a)) (TOK b))).length : Int) - ix).toNat) ∧ Weak (lit [(5, (.slice A1 ((TOK a).length) c1)), (6, (.slice A2 ((TOK b).length) c2)), (8, (.slice A_out out.length c_out)), (9, (.int .i64 i)), (10, (.int .i64 j)), (30, (.slice A5 ((STP (nnumL ([] : List ByteArray) (TOK a)) (nnumL (nkvL ([] : List ByteArray) (TOK a)) (TOK b))).length) c5)), (31, (.int .i64 ((STP (nnumL ([] : List ByteArray) (TOK a)) (nnumL (nkvL ([] : List ByteArray) (TOK a)) (TOK b))).length : Int))), (32, (.int .i64 ix))]) f_) _ ⟨none, 0, [], 0, 0, 0, by omega, by omega, rfl, (EDT_al hlg_), by omega, (by show (0 : Int) ≤ _; omega), (by simp), hS19, rfl, Weak.cons rfl <| Weak.cons rfl <| Weak.cons rfl <| Weak.cons rfl <| Weak.cons rfl <| Weak.cons rfl <| Weak.cons rfl <| Weak.cons rfl <| Weak.nil _⟩ ?_
      rintro m1 f1 w10 ⟨A_out, c_out, out, i, j, ix, ixlo, ixhi, q1, q2, q3, q4, q5, hL1, rfl, hw1⟩
      refine WC.weak hw1 ?_
      clear hw1
      refine WC.seq ?_
      refine WC.region ?_
      refine WL.lv rfl (LV.ltI rfl rfl) ?_
      refine WL.nil (thenQ.n ?_)
      refine WC.seq ?_
      refine WC.condP (p := ix < ((STP (nnumL ([] : List ByteArray) (TOK a)) (nnumL (nkvL ([] : List ByteArray) (TOK a)) (TOK b))).length : Int)) rfl (fun hk => ?_) (fun hk => ?_)
      · have hal_ := al_step q2 ixlo hk
        have hti_ : i < (TOK a).length → ((TOK a).getD i.toNat ByteArray.empty).size ≤ a.size := fun h_ => (TOK_pos (getD_mem (by omega))).2
        have htj_ : j < (TOK b).length → ((TOK b).getD j.toNat ByteArray.empty).size ≤ b.size := fun h_ => (TOK_pos (getD_mem (by omega))).2
        rw [hpl_, hql_] at hal_
        have hbt_ := fun t_ => szB_lay out (gI (STP (nnumL [] (TOK a)) (nnumL (nkvL [] (TOK a)) (TOK b))) ix) t_
        have hbl_ := fun t_ => LAYB_len out (gI (STP (nnumL [] (TOK a)) (nnumL (nkvL [] (TOK a)) (TOK b))) ix) t_
        refine WC.skip (thenQ.n ?_)
        refine WC.seq ?_
        refine WC.block ?_
        refine WC.seq ?_
        refine WC.region ?_
        obtain ⟨A6, c6, e1, g1⟩ := St.elt (SH.rd hL1 (.head _)) 0 ix (by omega) (by omega)
        refine WL.lv rfl (LV.idxA Try.underlying52 ti47.sz rfl e1 rfl (by omega) (by omega)) ?_
        refine WL.lv rfl (LV.load1 (v := (.int .i64 (gI (STP (nnumL ([] : List ByteArray) (TOK a)) (nnumL (nkvL ([] : List ByteArray) (TOK a)) (TOK b))) (ix)))) Try.underlying47 rfl rfl (g1 _ (KB.refl No _) 0 _ rfl)) ?_
        refine WL.lv rfl (LV.asg rfl) ?_
        refine WL.nil (thenQ.n ?_)
        refine WC.seq ?_
        refine WC.region ?_
        refine WL.lv rfl (LV.mv rfl) ?_
        refine WL.nil (thenQ.n ?_)
        refine WC.block ?_
        refine WC.seq ?_
        refine WC.block ?_
        refine WC.seq ?_
        refine WC.block ?_
        refine WC.seq ?_
        refine WC.block ?_
        iterate 3 refine WC.seq ?_
        refine WC.region ?_
        refine WL.lv rfl (LV.eqI rfl rfl) ?_
        refine WL.lv rfl (LV.asg rfl) ?_
        refine WL.nil (thenQ.n ?_)
        refine WC.condP (p := (gI (STP (nnumL ([] : List ByteArray) (TOK a)) (nnumL (nkvL ([] : List ByteArray) (TOK a)) (TOK b))) (ix)) = 3) rfl (fun hc2 => ?_) (fun hc2 => ?_)
        · skip
          refine WC.exit (thenQ.x <| thenQ.x <| blockQ.hit <| thenQ.n ?_)
          iterate 2 refine WC.seq ?_
          refine WC.region ?_
          iterate 4 refine WL.lv rfl (LV.mv rfl) ?_
          obtain ⟨A7, c7, e2, g2⟩ := St.elt (SH.rd hL1 (.tail _ (.tail _ (.tail _ (.tail _ (.tail _ (.head _))))))) ByteArray.empty j (by omega) (by omega)
          refine WL.lv rfl (LV.idxA Try.underlying22 ti9.sz rfl e2 rfl (by omega) (by omega)) ?_
          refine WL.lv rfl (LV.load1 (v := (.string ((TOK b).getD (j).toNat ByteArray.empty))) Try.underlying9 rfl rfl (g2 _ (KB.refl No _) 0 _ rfl)) ?_
          have hS20 : SH w No w10 [rowE eBt 49 (.slice A_out out.length c_out) out, rowE eI 47 (.slice A5 ((STP (nnumL ([] : List ByteArray) (TOK a)) (nnumL (nkvL ([] : List ByteArray) (TOK a)) (TOK b))).length) c5) (STP (nnumL ([] : List ByteArray) (TOK a)) (nnumL (nkvL ([] : List ByteArray) (TOK a)) (TOK b))), rowE eI 3 (.slice A4 ((nnumL (nkvL ([] : List ByteArray) (TOK a)) (TOK b)).length) c4) (nnumL (nkvL ([] : List ByteArray) (TOK a)) (TOK b)), mapE kS kI b1 (kvOf (nkvL (nkvL ([] : List ByteArray) (TOK a)) (TOK b))), rowE eI 3 (.slice A3 ((nnumL ([] : List ByteArray) (TOK a)).length) c3) (nnumL ([] : List ByteArray) (TOK a)), rowE eS 9 (.slice A2 ((TOK b).length) c2) (TOK b), rowE eS 9 (.slice A1 ((TOK a).length) c1) (TOK a)] := (SH.front [_, _, _, _] hL1)
          have hT3 := SH.sub (Es := [_]) hS20
          refine WL.call rfl (XC.fn Try.func30 (by kernel_rfl) rfl rfl rfl) (lay_calls (l := out) (dd := (gI (STP (nnumL ([] : List ByteArray) (TOK a)) (nnumL (nkvL ([] : List ByteArray) (TOK a)) (TOK b))) (ix))) (t := ((TOK b).getD (j).toNat ByteArray.empty)) hT3 (by omega) (by omega)) ?_
          rintro v_ w11 ⟨A8, c8, rfl, hU3⟩
          have hS21 := SH.back (Es := [_]) hS20 hU3
          refine WL.lv rfl (LV.asg rfl) ?_
          refine WL.nil (thenQ.n ?_)
          refine WC.region ?_
          refine WL.lv rfl (LV.mv rfl) ?_
          refine WL.lv rfl (LV.add rfl rfl (wr64 (by omega) (by omega))) ?_
          refine WL.lv rfl (LV.asg rfl) ?_
          refine WL.nil (thenQ.n ?_)
          refine WC.exit (blockQ.miss rfl <| thenQ.x <| blockQ.miss rfl <| thenQ.x <| blockQ.hit <| blockQ.n <| thenQ.n ?_)
          refine WC.region ?_
          refine WL.lv rfl (LV.add rfl rfl (wr64 (by omega) (by omega))) ?_
          refine WL.lv rfl (LV.mv rfl) ?_
          refine WL.nil (thenQ.n ?_)
          have hS22 : SH w No w11 [rowE eI 47 (.slice A5 ((STP (nnumL ([] : List ByteArray) (TOK a)) (nnumL (nkvL ([] : List ByteArray) (TOK a)) (TOK b))).length) c5) (STP (nnumL ([] : List ByteArray) (TOK a)) (nnumL (nkvL ([] : List ByteArray) (TOK a)) (TOK b))), rowE eI 3 (.slice A4 ((nnumL (nkvL ([] : List ByteArray) (TOK a)) (TOK b)).length) c4) (nnumL (nkvL ([] : List ByteArray) (TOK a)) (TOK b)), mapE kS kI b1 (kvOf (nkvL (nkvL ([] : List ByteArray) (TOK a)) (TOK b))), rowE eI 3 (.slice A3 ((nnumL ([] : List ByteArray) (TOK a)).length) c3) (nnumL ([] : List ByteArray) (TOK a)), rowE eBt 49 (.slice A8 ((LAYB out (gI (STP (nnumL ([] : List ByteArray) (TOK a)) (nnumL (nkvL ([] : List ByteArray) (TOK a)) (TOK b))) (ix)) ((TOK b).getD (j).toNat ByteArray.empty)).length) c8) (LAYB out (gI (STP (nnumL ([] : List ByteArray) (TOK a)) (nnumL (nkvL ([] : List ByteArray) (TOK a)) (TOK b))) (ix)) ((TOK b).getD (j).toNat ByteArray.empty)), rowE eS 9 (.slice A2 ((TOK b).length) c2) (TOK b), rowE eS 9 (.slice A1 ((TOK a).length) c1) (TOK a)] := (SH.front [_, _, _, _, _, _] (SH.front [_, _, _, _, _, _] (SH.front [_, _, _, _, _, _] (SH.front [_, _, _, _, _, _] (SH.front [_, _] (SH.front [_, _, _, _, _, _] (SH.front [_, _, _, _, _, _] hS21)))))))
          exact ⟨_, by omega, A8, c8, (LAYB out (gI (STP (nnumL ([] : List ByteArray) (TOK a)) (nnumL (nkvL ([] : List ByteArray) (TOK a)) (TOK b))) (ix)) ((TOK b).getD (j).toNat ByteArray.empty)), i, j + 1, ix + 1, by omega, by omega, (by rw [← edf_in ixlo hk (by omega)]; exact q1), (al_in q2 ixlo hk (by omega)), by omega, ((by have h_ := hbt_ ((TOK b).getD j.toNat ByteArray.empty); omega)), ((by have h_ := hbl_ ((TOK b).getD j.toNat ByteArray.empty); omega)), hS22, rfl, Weak.cons rfl <| Weak.cons rfl <| Weak.cons rfl <| Weak.cons rfl <| Weak.cons rfl <| Weak.cons rfl <| Weak.cons rfl <| Weak.cons rfl <| Weak.nil _⟩
        · skip
          refine WC.skip (thenQ.n ?_)
          refine WC.seq ?_
          refine WC.region ?_
          refine WL.lv rfl (LV.eqI rfl rfl) ?_
          refine WL.lv rfl (LV.asg rfl) ?_
          refine WL.nil (thenQ.n ?_)
          refine WC.condP (p := (gI (STP (nnumL ([] : List ByteArray) (TOK a)) (nnumL (nkvL ([] : List ByteArray) (TOK a)) (TOK b))) (ix)) = 1) rfl (fun hc3 => ?_) (fun hc3 => ?_)
          · skip
            refine WC.exit (thenQ.x <| blockQ.miss rfl <| thenQ.x <| blockQ.hit <| thenQ.n ?_)
            refine WC.region ?_
            refine WL.lv rfl (LV.mv rfl) ?_
            refine WL.lv rfl (LV.add rfl rfl (wr64 (by omega) (by omega))) ?_
            refine WL.lv rfl (LV.asg rfl) ?_
            refine WL.nil (blockQ.n <| thenQ.n ?_)
            iterate 2 refine WC.seq ?_
            refine WC.region ?_
            iterate 4 refine WL.lv rfl (LV.mv rfl) ?_
            obtain ⟨A9, c9, e3, g3⟩ := St.elt (SH.rd hL1 (.tail _ (.tail _ (.tail _ (.tail _ (.tail _ (.tail _ (.head _)))))))) ByteArray.empty i (by omega) (by omega)
            refine WL.lv rfl (LV.idxA Try.underlying22 ti9.sz rfl e3 rfl (by omega) (by omega)) ?_
            refine WL.lv rfl (LV.load1 (v := (.string ((TOK a).getD (i).toNat ByteArray.empty))) Try.underlying9 rfl rfl (g3 _ (KB.refl No _) 0 _ rfl)) ?_
            have hS23 : SH w No w10 [rowE eBt 49 (.slice A_out out.length c_out) out, rowE eI 47 (.slice A5 ((STP (nnumL ([] : List ByteArray) (TOK a)) (nnumL (nkvL ([] : List ByteArray) (TOK a)) (TOK b))).length) c5) (STP (nnumL ([] : List ByteArray) (TOK a)) (nnumL (nkvL ([] : List ByteArray) (TOK a)) (TOK b))), rowE eI 3 (.slice A4 ((nnumL (nkvL ([] : List ByteArray) (TOK a)) (TOK b)).length) c4) (nnumL (nkvL ([] : List ByteArray) (TOK a)) (TOK b)), mapE kS kI b1 (kvOf (nkvL (nkvL ([] : List ByteArray) (TOK a)) (TOK b))), rowE eI 3 (.slice A3 ((nnumL ([] : List ByteArray) (TOK a)).length) c3) (nnumL ([] : List ByteArray) (TOK a)), rowE eS 9 (.slice A2 ((TOK b).length) c2) (TOK b), rowE eS 9 (.slice A1 ((TOK a).length) c1) (TOK a)] := (SH.front [_, _, _, _] hL1)
            have hT4 := SH.sub (Es := [_]) hS23
            refine WL.call rfl (XC.fn Try.func30 (by kernel_rfl) rfl rfl rfl) (lay_calls (l := out) (dd := (gI (STP (nnumL ([] : List ByteArray) (TOK a)) (nnumL (nkvL ([] : List ByteArray) (TOK a)) (TOK b))) (ix))) (t := ((TOK a).getD (i).toNat ByteArray.empty)) hT4 (by omega) (by omega)) ?_
            rintro v_ w12 ⟨A10, c10, rfl, hU4⟩
            have hS24 := SH.back (Es := [_]) hS23 hU4
            refine WL.lv rfl (LV.asg rfl) ?_
            refine WL.nil (thenQ.n ?_)
            refine WC.region ?_
            refine WL.lv rfl (LV.mv rfl) ?_
            refine WL.lv rfl (LV.add rfl rfl (wr64 (by omega) (by omega))) ?_
            refine WL.lv rfl (LV.asg rfl) ?_
            refine WL.nil (thenQ.n ?_)
            refine WC.exit (blockQ.hit <| blockQ.n <| thenQ.n ?_)
            refine WC.region ?_
            refine WL.lv rfl (LV.add rfl rfl (wr64 (by omega) (by omega))) ?_
            refine WL.lv rfl (LV.mv rfl) ?_
            refine WL.nil (thenQ.n ?_)
            have hS25 : SH w No w12 [rowE eI 47 (.slice A5 ((STP (nnumL ([] : List ByteArray) (TOK a)) (nnumL (nkvL ([] : List ByteArray) (TOK a)) (TOK b))).length) c5) (STP (nnumL ([] : List ByteArray) (TOK a)) (nnumL (nkvL ([] : List ByteArray) (TOK a)) (TOK b))), rowE eI 3 (.slice A4 ((nnumL (nkvL ([] : List ByteArray) (TOK a)) (TOK b)).length) c4) (nnumL (nkvL ([] : List ByteArray) (TOK a)) (TOK b)), mapE kS kI b1 (kvOf (nkvL (nkvL ([] : List ByteArray) (TOK a)) (TOK b))), rowE eI 3 (.slice A3 ((nnumL ([] : List ByteArray) (TOK a)).length) c3) (nnumL ([] : List ByteArray) (TOK a)), rowE eBt 49 (.slice A10 ((LAYB out (gI (STP (nnumL ([] : List ByteArray) (TOK a)) (nnumL (nkvL ([] : List ByteArray) (TOK a)) (TOK b))) (ix)) ((TOK a).getD (i).toNat ByteArray.empty)).length) c10) (LAYB out (gI (STP (nnumL ([] : List ByteArray) (TOK a)) (nnumL (nkvL ([] : List ByteArray) (TOK a)) (TOK b))) (ix)) ((TOK a).getD (i).toNat ByteArray.empty)), rowE eS 9 (.slice A2 ((TOK b).length) c2) (TOK b), rowE eS 9 (.slice A1 ((TOK a).length) c1) (TOK a)] := (SH.front [_, _, _, _, _, _] (SH.front [_, _, _, _, _, _] (SH.front [_, _, _, _, _, _] (SH.front [_, _, _, _, _, _] (SH.front [_, _] (SH.front [_, _, _, _, _, _] (SH.front [_, _, _, _, _, _] hS24)))))))
            exact ⟨_, by omega, A10, c10, (LAYB out (gI (STP (nnumL ([] : List ByteArray) (TOK a)) (nnumL (nkvL ([] : List ByteArray) (TOK a)) (TOK b))) (ix)) ((TOK a).getD (i).toNat ByteArray.empty)), i + 1, j + 1, ix + 1, by omega, by omega, (by rw [← edf_keep ixlo hk (by omega)]; exact q1), (al_keep q2 ixlo hk (by omega)), by omega, ((by have h_ := hbt_ ((TOK a).getD i.toNat ByteArray.empty); omega)), ((by have h_ := hbl_ ((TOK a).getD i.toNat ByteArray.empty); omega)), hS25, rfl, Weak.cons rfl <| Weak.cons rfl <| Weak.cons rfl <| Weak.cons rfl <| Weak.cons rfl <| Weak.cons rfl <| Weak.cons rfl <| Weak.cons rfl <| Weak.nil _⟩
          · skip
            refine WC.skip (thenQ.n ?_)
            refine WC.exit (blockQ.miss rfl <| thenQ.x <| blockQ.miss rfl <| thenQ.x <| blockQ.hit <| thenQ.n ?_)
            iterate 2 refine WC.seq ?_
            refine WC.region ?_
            iterate 4 refine WL.lv rfl (LV.mv rfl) ?_
            obtain ⟨A11, c11, e4, g4⟩ := St.elt (SH.rd hL1 (.tail _ (.tail _ (.tail _ (.tail _ (.tail _ (.tail _ (.head _)))))))) ByteArray.empty i (by omega) (by omega)
            refine WL.lv rfl (LV.idxA Try.underlying22 ti9.sz rfl e4 rfl (by omega) (by omega)) ?_
            refine WL.lv rfl (LV.load1 (v := (.string ((TOK a).getD (i).toNat ByteArray.empty))) Try.underlying9 rfl rfl (g4 _ (KB.refl No _) 0 _ rfl)) ?_
            have hS26 : SH w No w10 [rowE eBt 49 (.slice A_out out.length c_out) out, rowE eI 47 (.slice A5 ((STP (nnumL ([] : List ByteArray) (TOK a)) (nnumL (nkvL ([] : List ByteArray) (TOK a)) (TOK b))).length) c5) (STP (nnumL ([] : List ByteArray) (TOK a)) (nnumL (nkvL ([] : List ByteArray) (TOK a)) (TOK b))), rowE eI 3 (.slice A4 ((nnumL (nkvL ([] : List ByteArray) (TOK a)) (TOK b)).length) c4) (nnumL (nkvL ([] : List ByteArray) (TOK a)) (TOK b)), mapE kS kI b1 (kvOf (nkvL (nkvL ([] : List ByteArray) (TOK a)) (TOK b))), rowE eI 3 (.slice A3 ((nnumL ([] : List ByteArray) (TOK a)).length) c3) (nnumL ([] : List ByteArray) (TOK a)), rowE eS 9 (.slice A2 ((TOK b).length) c2) (TOK b), rowE eS 9 (.slice A1 ((TOK a).length) c1) (TOK a)] := (SH.front [_, _, _, _] hL1)
            have hT5 := SH.sub (Es := [_]) hS26
            refine WL.call rfl (XC.fn Try.func30 (by kernel_rfl) rfl rfl rfl) (lay_calls (l := out) (dd := (gI (STP (nnumL ([] : List ByteArray) (TOK a)) (nnumL (nkvL ([] : List ByteArray) (TOK a)) (TOK b))) (ix))) (t := ((TOK a).getD (i).toNat ByteArray.empty)) hT5 (by omega) (by omega)) ?_
            rintro v_ w13 ⟨A12, c12, rfl, hU5⟩
            have hS27 := SH.back (Es := [_]) hS26 hU5
            refine WL.lv rfl (LV.asg rfl) ?_
            refine WL.nil (thenQ.n ?_)
            refine WC.region ?_
            refine WL.lv rfl (LV.mv rfl) ?_
            refine WL.lv rfl (LV.add rfl rfl (wr64 (by omega) (by omega))) ?_
            refine WL.lv rfl (LV.asg rfl) ?_
            refine WL.nil (thenQ.n ?_)
            refine WC.exit (blockQ.hit <| blockQ.n <| thenQ.n ?_)
            refine WC.region ?_
            refine WL.lv rfl (LV.add rfl rfl (wr64 (by omega) (by omega))) ?_
            refine WL.lv rfl (LV.mv rfl) ?_
            refine WL.nil (thenQ.n ?_)
            have hS28 : SH w No w13 [rowE eI 47 (.slice A5 ((STP (nnumL ([] : List ByteArray) (TOK a)) (nnumL (nkvL ([] : List ByteArray) (TOK a)) (TOK b))).length) c5) (STP (nnumL ([] : List ByteArray) (TOK a)) (nnumL (nkvL ([] : List ByteArray) (TOK a)) (TOK b))), rowE eI 3 (.slice A4 ((nnumL (nkvL ([] : List ByteArray) (TOK a)) (TOK b)).length) c4) (nnumL (nkvL ([] : List ByteArray) (TOK a)) (TOK b)), mapE kS kI b1 (kvOf (nkvL (nkvL ([] : List ByteArray) (TOK a)) (TOK b))), rowE eI 3 (.slice A3 ((nnumL ([] : List ByteArray) (TOK a)).length) c3) (nnumL ([] : List ByteArray) (TOK a)), rowE eBt 49 (.slice A12 ((LAYB out (gI (STP (nnumL ([] : List ByteArray) (TOK a)) (nnumL (nkvL ([] : List ByteArray) (TOK a)) (TOK b))) (ix)) ((TOK a).getD (i).toNat ByteArray.empty)).length) c12) (LAYB out (gI (STP (nnumL ([] : List ByteArray) (TOK a)) (nnumL (nkvL ([] : List ByteArray) (TOK a)) (TOK b))) (ix)) ((TOK a).getD (i).toNat ByteArray.empty)), rowE eS 9 (.slice A2 ((TOK b).length) c2) (TOK b), rowE eS 9 (.slice A1 ((TOK a).length) c1) (TOK a)] := (SH.front [_, _, _, _, _, _] (SH.front [_, _, _, _, _, _] (SH.front [_, _, _, _, _, _] (SH.front [_, _, _, _, _, _] (SH.front [_, _] (SH.front [_, _, _, _, _, _] (SH.front [_, _, _, _, _, _] hS27)))))))
            exact ⟨_, by omega, A12, c12, (LAYB out (gI (STP (nnumL ([] : List ByteArray) (TOK a)) (nnumL (nkvL ([] : List ByteArray) (TOK a)) (TOK b))) (ix)) ((TOK a).getD (i).toNat ByteArray.empty)), i + 1, j, ix + 1, by omega, by omega, (by rw [← edf_out ixlo hk (by omega) (by omega)]; exact q1), (al_out q2 ixlo hk (by omega) (by omega)), by omega, ((by have h_ := hbt_ ((TOK a).getD i.toNat ByteArray.empty); omega)), ((by have h_ := hbl_ ((TOK a).getD i.toNat ByteArray.empty); omega)), hS28, rfl, Weak.cons rfl <| Weak.cons rfl <| Weak.cons rfl <| Weak.cons rfl <| Weak.cons rfl <| Weak.cons rfl <| Weak.cons rfl <| Weak.cons rfl <| Weak.nil _⟩
      · skip
        refine WC.exit (thenQ.x <| thenQ.x <| blockQ.hit <| thenQ.n ?_)
        refine WC.seq ?_
        refine WC.region ?_
        refine WL.lv rfl (LV.mv rfl) ?_
        refine WL.lv rfl (LV.asg rfl) ?_
        refine WL.nil (thenQ.n ?_)
        refine WC.ret (?_)
        have hS29 : SH w No w10 [rowE eBt 49 (.slice A_out out.length c_out) out] := (SH.take 1 rfl (SH.front [_, _, _, _] hL1))
        have hres3 : (out : List (Int × ByteArray)) = EDT a b := edt_fin hlg_ (by omega) q1
        exact ⟨_, fun a ha => res1 rfl ha rfl, (by rw [← hres3]; exact ⟨_, _, rfl, hS29⟩)⟩

end Go.Proofs.Ytjjilkibcomfcaa
