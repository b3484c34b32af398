/- Deeds in a row. -/
import Derived.Test.YtigbphaimbhgjaaMg28
import Derived.Test.YtigbphaimbhgjaaMg21
import Derived.Test.YtigbphaimbhgjaaMg3
namespace Go.Proofs.Ytigbphaimbhgjaa
open Go Go.Gv Go.RowKit Go.Tly Go.Wds Go.Idx
set_option linter.unusedVariables false
set_option linter.unusedSimpArgs false
theorem ti34 : TI Try.prog 34 (.agg #[(.bool false), (.string ⟨#[]⟩), (.slice none 0 0)]) 3 48 := by unfold TI; kernel_rfl
theorem ti52 : TI Try.prog 52 (.agg #[(.slice none 0 0)]) 1 24 := by unfold TI; kernel_rfl

set_option maxRecDepth 4000 in
theorem play_calls {w : World} {A_l : Option Addr} {n_l c_l : Nat} {l : DDS} (h_l : St No w (Rd eDd (.slice A_l n_l c_l) (DLS l))) (hi_l : St No w (RdIn ddS eIt l)) (hn_l : l.length = n_l) (hz_l : ∀ d ∈ l, d.1.2.1.size ≤ 140737488355328) (hy_l : ∀ d ∈ l, ∀ y ∈ d.2, 0 ≤ y.2.1.2 ∧ y.2.1.2 < 18446744073709551616) :
    Calls Try.prog 6 #[(.slice A_l n_l c_l)] w fun e w' => ∃ v, e = .returned v ∧ (fun v w' => ∃ (b m1 m2 : Nat) (kv1 kv2 : KVS) (P1 : PLI) (P2 : PLE) (yb : Nat) (A_f : Option Addr) (c_f : Nat) (rs : RWS) (P3 : PLI), v = .tuple #[.pointer (some ⟨b, 0, none⟩), .pointer (some ⟨yb, 0, none⟩), .bool true] ∧ IXW 20 (⟨b, m1, m2, kv1, kv2, P1, P2, (DOS (l.take 20))⟩ : IXS) ∧ DOCR rs P3 (DOS (l.take 20)) ∧ SH w No w' [blkE b 71 #[(.map (some m1)), (.map (some m2))], mapG kS kV m1 kv1, mapG kS kV m2 kv2, insE idS eIt 64 P1, insE idS eSI 73 P2, blkE yb 52 #[(.slice A_f rs.length c_f)], rowE eSV 54 (.slice A_f rs.length c_f) rs, insE idS eIt 64 P3]) v w' := by
  subst hn_l
  have hma := Rd.max h_l.now
  rw [List.length_map] at hma
  have hS : SH w No w [] := SH.nil _ _
  refine calls (l := litOf [(.slice A_l l.length c_l)] 0) Try.func6 rfl (n := 37) rfl (Nat.le_of_ble_eq_true rfl) (lit_args _) ?_
  refine WC.seq ?_
  refine WC.region ?_
  iterate 3 refine WL.lv rfl (LV.asg rfl) ?_
  refine WL.nil (thenQ.n ?_)
  refine WC.seq ?_
  refine WC.region ?_
  refine WL.call rfl (XC.fn Try.func21 (by kernel_rfl) rfl rfl rfl) (new_calls) ?_
  rintro v_ w1 ⟨b1, m1, m2, rfl, hS1⟩
  have hS2 := SH.joinN hS hS1
  have hS3 : SH w No w1 [blkE b1 71 #[(.map (some m1)), (.map (some m2))], mapG kS kV m1 [], mapG kS kV m2 [], insE idS eIt 64 [], insE idS eSI 73 []] := SH.ixOpen hS2
  refine WL.lv rfl (LV.build (vs := []) (places := #[(0, 1)]) (cs := #[(.slice none 0 0)]) Try.underlying52 ti52 (fun _ => by kernel_rfl) rfl rfl) ?_
  refine WL.xe rfl (XE.box #[(.slice none 0 0)] hS3 rfl rfl) ?_
  rintro _ w2 ⟨b2, rfl, hS4, hk1⟩
  iterate 2 refine WL.lv rfl (LV.asg rfl) ?_
  refine WL.nil (thenQ.n ?_)
  iterate 2 refine WC.seq ?_
  refine WC.region ?_
  refine WL.lv rfl (LV.mv rfl) ?_
  refine WL.lv rfl (LV.eqPS Try.underlying26 rfl rfl) ?_
  refine WL.nil (thenQ.n ?_)
  refine WC.condF rfl ?_
  refine WC.skip (thenQ.n ?_)
  iterate 2 refine WC.seq ?_
  refine WC.region ?_
  have hS5 := SH.nilRow (E := eSV) (T := 54) hS4
  have hS6 : SH w No w2 [insE idS eIt 64 [], rowE eSV 54 (.slice none 0 0) [], blkE b2 52 #[(.slice none 0 0)], blkE b1 71 #[(.map (some m1)), (.map (some m2))], mapG kS kV m1 [], mapG kS kV m2 [], insE idS eIt 64 [], insE idS eSI 73 []] := SH.ins0 (sv := idS) (E := eIt) (T1 := 64) hS5
  refine WL.lv rfl (LV.asg rfl) ?_
  refine WL.nil (thenQ.n ?_)
  refine WC.block ?_
  have hS7 : SH w No w2 [blkE b1 71 #[(.map (some m1)), (.map (some m2))], mapG kS kV m1 [], mapG kS kV m2 [], insE idS eIt 64 [], insE idS eSI 73 [], blkE b2 52 #[(.slice none 0 0)], rowE eSV 54 (.slice none 0 0) [], insE idS eIt 64 []] := (SH.front [_, _, _, _, _, _, _] (SH.front [_, _, _, _, _, _, _] (SH.front [_, _, _, _, _, _, _] (SH.front [_, _, _, _, _, _, _] (SH.front [_, _, _, _, _, _, _] (SH.front [_, _] (SH.front [_] hS6)))))))
  refine WC.loop (fun m_ f_ w_ => ∃ (i : Int) (kv1 kv2 : KVS) (P1 : PLI) (P2 : PLE) (A_f : Option Addr) (c_f : Nat) (rs : RWS) (P3 : PLI), (0 ≤ i) ∧ (i ≤ l.length ∧ i ≤ 20) ∧ (IXW i.toNat (⟨b1, m1, m2, kv1, kv2, P1, P2, (DOS (l.take i.toNat))⟩ : IXS)) ∧ (DOCR rs P3 (DOS (l.take i.toNat))) ∧ SH w No w_ [blkE b1 71 #[(.map (some m1)), (.map (some m2))], mapG kS kV m1 kv1, mapG kS kV m2 kv2, insE idS eIt 64 P1, insE idS eSI 73 P2, blkE b2 52 #[(.slice A_f rs.length c_f)], rowE eSV 54 (.slice A_f rs.length c_f) rs, insE idS eIt 64 P3] ∧ m_ = ((20 - i).toNat) ∧ Weak (lit [(0, (.slice A_l l.length c_l)), (5, (.pointer (some ⟨b1, 0, none⟩))), (6, (.pointer (some ⟨b2, 0, none⟩))), (7, (.int .i64 i))]) f_) _ ⟨0, [], [], [], [], none, 0, [], [], by omega, by omega, (((ixw_new _ _ _))), DOCR.nil, hS7, rfl, Weak.cons rfl <| Weak.cons rfl <| Weak.cons rfl <| Weak.cons rfl <| Weak.nil _⟩ ?_
  rintro m3 f1 w3 ⟨i, kv1, kv2, P1, P2, A_f, c_f, rs, P3, ilo, ihi, hvv, hDD, hL1, rfl, hw1⟩
  refine WC.weak hw1 ?_
  clear hw1
  iterate 2 refine WC.seq ?_
  refine WC.region ?_
  iterate 2 refine WL.lv rfl (LV.mv rfl) ?_
  refine WL.lv rfl (LV.lenL Try.underlying22 rfl) ?_
  rcases Decidable.em (i < (l.length : Int)) with hg1 | hg1
  · refine WL.lv rfl (LV.as (LV.ltI rfl rfl) (decide_eq_true hg1)) ?_
    iterate 2 refine WL.lv rfl (LV.mv rfl) ?_
    refine WL.lv rfl (LV.ltI rfl rfl) ?_
    refine WL.lv rfl (LV.pickT rfl rfl) ?_
    refine WL.nil (thenQ.n ?_)
    refine WC.condP (p := i < 20) rfl (fun hc1 => ?_) (fun hc1 => ?_)
    · skip
      refine WC.skip (thenQ.n ?_)
      refine WC.seq ?_
      refine WC.block ?_
      refine WC.seq ?_
      refine WC.region ?_
      iterate 4 refine WL.lv rfl (LV.mv rfl) ?_
      obtain ⟨A1, c1, e1, g1⟩ := St.elt (SH.stN hL1 h_l) dDd i (by omega) (by rw [List.length_map]; omega)
      refine WL.lv rfl (LV.idxA Try.underlying22 ti34.sz rfl e1 rfl (by omega) (by rw [List.length_map]; omega)) ?_
      obtain ⟨A2, c2, hv1, hr1⟩ := dd_at (i := (i).toNat) hi_l (by omega)
      refine WL.lv rfl (LV.to (congrArg (fun v_ => Value.agg #[(.bool (((DLS l).getD (i).toNat dDd).1)), (.string (((DLS l).getD (i).toNat dDd).2.1)), v_]) hv1) (LV.loadAgg (cs := [(.bool (((DLS l).getD (i).toNat dDd).1)), (.string (((DLS l).getD (i).toNat dDd).2.1)), (((DLS l).getD (i).toNat dDd).2.2).v]) Try.underlying34 rfl ti34 rfl rfl (fun j u hu => g1 _ (KB.refl No _) j u hu))) ?_
      have hS8 : SH w No w3 [insE idS eIt 64 P3, blkE b1 71 #[(.map (some m1)), (.map (some m2))], mapG kS kV m1 kv1, mapG kS kV m2 kv2, insE idS eIt 64 P1, insE idS eSI 73 P2, blkE b2 52 #[(.slice A_f rs.length c_f)], rowE eSV 54 (.slice A_f rs.length c_f) rs] := (SH.front [_, _, _, _, _, _, _] hL1)
      have hS9 : SH w No w3 [rowE eSV 54 (.slice A_f rs.length c_f) rs, insE idS eIt 64 P3, blkE b1 71 #[(.map (some m1)), (.map (some m2))], mapG kS kV m1 kv1, mapG kS kV m2 kv2, insE idS eIt 64 P1, insE idS eSI 73 P2, blkE b2 52 #[(.slice A_f rs.length c_f)]] := (SH.front [_, _, _, _, _, _, _] hS8)
      have hS10 : SH w No w3 [blkE b2 52 #[(.slice A_f rs.length c_f)], rowE eSV 54 (.slice A_f rs.length c_f) rs, insE idS eIt 64 P3, blkE b1 71 #[(.map (some m1)), (.map (some m2))], mapG kS kV m1 kv1, mapG kS kV m2 kv2, insE idS eIt 64 P1, insE idS eSI 73 P2] := (SH.front [_, _, _, _, _, _, _] hS9)
      have hS11 : SH w No w3 [insE idS eSI 73 P2, blkE b2 52 #[(.slice A_f rs.length c_f)], rowE eSV 54 (.slice A_f rs.length c_f) rs, insE idS eIt 64 P3, blkE b1 71 #[(.map (some m1)), (.map (some m2))], mapG kS kV m1 kv1, mapG kS kV m2 kv2, insE idS eIt 64 P1] := (SH.front [_, _, _, _, _, _, _] hS10)
      have hS12 : SH w No w3 [insE idS eIt 64 P1, insE idS eSI 73 P2, blkE b2 52 #[(.slice A_f rs.length c_f)], rowE eSV 54 (.slice A_f rs.length c_f) rs, insE idS eIt 64 P3, blkE b1 71 #[(.map (some m1)), (.map (some m2))], mapG kS kV m1 kv1, mapG kS kV m2 kv2] := (SH.front [_, _, _, _, _, _, _] hS11)
      have hS13 : SH w No w3 [mapG kS kV m2 kv2, insE idS eIt 64 P1, insE idS eSI 73 P2, blkE b2 52 #[(.slice A_f rs.length c_f)], rowE eSV 54 (.slice A_f rs.length c_f) rs, insE idS eIt 64 P3, blkE b1 71 #[(.map (some m1)), (.map (some m2))], mapG kS kV m1 kv1] := (SH.front [_, _, _, _, _, _, _] hS12)
      have hS14 : SH w No w3 [mapG kS kV m1 kv1, mapG kS kV m2 kv2, insE idS eIt 64 P1, insE idS eSI 73 P2, blkE b2 52 #[(.slice A_f rs.length c_f)], rowE eSV 54 (.slice A_f rs.length c_f) rs, insE idS eIt 64 P3, blkE b1 71 #[(.map (some m1)), (.map (some m2))]] := (SH.front [_, _, _, _, _, _, _] hS13)
      have hS15 : SH w No w3 [blkE b1 71 #[(.map (some m1)), (.map (some m2))], mapG kS kV m1 kv1, mapG kS kV m2 kv2, insE idS eIt 64 P1, insE idS eSI 73 P2, blkE b2 52 #[(.slice A_f rs.length c_f)], rowE eSV 54 (.slice A_f rs.length c_f) rs, insE idS eIt 64 P3] := (SH.front [_, _, _, _, _, _, _] hS14)
      have hT1 := SH.sub (Es := [_, _, _, _, _, _, _, _]) hS15
      refine WL.call rfl (XC.fn Try.func22 (by kernel_rfl) rfl rfl rfl) (do_calls (X := (⟨b1, m1, m2, kv1, kv2, P1, P2, (DOS (l.take i.toNat))⟩ : IXS)) (dr := ((DLS l).getD (i).toNat dDd).1) (fl := ((DLS l).getD (i).toNat dDd).2.1) hT1 (SH.stA hS15 hr1) hvv (by omega) hDD (by rw [dd_get]; exact hz_l _ (getD_mem (d := dDI) (by omega))) (hy_l _ (getD_mem (d := dDI) (by omega)))) ?_
      rintro v_ w4 ⟨kv3, kw1, Pa1, Pb1, A3, c3, rs1, Pc1, rfl, hv2, hD1, hU1⟩
      have hS16 := SH.back (Es := [_, _, _, _, _, _, _, _]) hS15 hU1
      refine WL.lv rfl (LV.notB rfl) ?_
      refine WL.nil (thenQ.n ?_)
      refine WC.condF rfl ?_
      refine WC.skip (blockQ.n <| thenQ.n ?_)
      refine WC.region ?_
      refine WL.lv rfl (LV.mv rfl) ?_
      refine WL.lv rfl (LV.add rfl rfl (wr64 (by omega) (by omega))) ?_
      refine WL.lv rfl (LV.asg rfl) ?_
      refine WL.nil (thenQ.n ?_)
      exact ⟨_, by omega, i + 1, kv3, kw1, Pa1, Pb1, A3, c3, rs1, Pc1, by omega, by omega, ((by rw [DOS_at ilo (by omega)]; exact ixw_step ilo hv2)), ((by rw [DOS_at ilo (by omega)]; exact hD1)), hS16, rfl, Weak.cons rfl <| Weak.cons rfl <| Weak.cons rfl <| Weak.cons rfl <| Weak.nil _⟩
    · skip
      refine WC.exit (thenQ.x <| thenQ.x <| blockQ.hit <| thenQ.n ?_)
      refine WC.seq ?_
      refine WC.region ?_
      iterate 2 refine WL.lv rfl (LV.mv rfl) ?_
      iterate 3 refine WL.lv rfl (LV.asg rfl) ?_
      refine WL.nil (thenQ.n ?_)
      refine WC.ret (?_)
      have hpl_ : l.take i.toNat = l.take 20 := by rcases Int.le_total 20 i with h_ | h_ <;> first | (rw [show i.toNat = 20 by omega]; done) | (rw [List.take_of_length_le (by omega), List.take_of_length_le (by omega)])
      rw [hpl_] at hvv hDD
      have hvw_ := hvv.mono (m := 20) (by omega)
      exact ⟨_, fun a ha => res3 rfl ha rfl rfl rfl, _, _, _, _, _, _, _, _, _, _, _, _, rfl, hvw_, hDD, hL1⟩
  · refine WL.lv rfl (LV.as (LV.ltI rfl rfl) (decide_eq_false hg1)) ?_
    refine WL.lv rfl (LV.mv rfl) ?_
    iterate 2 refine WL.off rfl ?_
    refine WL.lv rfl (LV.pickF rfl rfl) ?_
    refine WL.nil (thenQ.n ?_)
    refine WC.condF rfl ?_
    refine WC.exit (thenQ.x <| thenQ.x <| blockQ.hit <| thenQ.n ?_)
    refine WC.seq ?_
    refine WC.region ?_
    iterate 2 refine WL.lv rfl (LV.mv rfl) ?_
    iterate 3 refine WL.lv rfl (LV.asg rfl) ?_
    refine WL.nil (thenQ.n ?_)
    refine WC.ret (?_)
    have hpl_ : l.take i.toNat = l.take 20 := by rcases Int.le_total 20 i with h_ | h_ <;> first | (rw [show i.toNat = 20 by omega]; done) | (rw [List.take_of_length_le (by omega), List.take_of_length_le (by omega)])
    rw [hpl_] at hvv hDD
    have hvw_ := hvv.mono (m := 20) (by omega)
    exact ⟨_, fun a ha => res3 rfl ha rfl rfl rfl, _, _, _, _, _, _, _, _, _, _, _, _, rfl, hvw_, hDD, hL1⟩

end Go.Proofs.Ytigbphaimbhgjaa

namespace Go.Proofs.Ytigbphaimbhgjaa
open Go Go.Gv Go.RowKit Go.Tly Go.Wds Go.Idx
set_option linter.unusedVariables false
set_option linter.unusedSimpArgs false

attribute [local irreducible] Go.Idx.PUTF Go.Idx.FIND Go.Idx.WRDS Go.Idx.FLS Go.Idx.OF Go.Idx.LOW

set_option maxRecDepth 8000 in
theorem live_calls {w : World} :
    Calls Try.prog 9 #[] w fun e w' => ∃ v, e = .returned v ∧ (fun v w' => v = .bool true ∧ KB No w w') v w' := by
  have hS : SH w No w [] := SH.nil _ _
  refine calls (l := litOf [] 0) Try.func9 rfl (n := 46) rfl (Nat.le_of_ble_eq_true rfl) (lit_args _) ?_
  refine WC.seq ?_
  refine WC.region ?_
  refine WL.lv rfl (LV.asg rfl) ?_
  refine WL.nil (thenQ.n ?_)
  refine WC.seq ?_
  refine WC.region ?_
  have hz1 := new_calls (w := w) 
  refine WL.call rfl (XC.fn Try.func21 (by kernel_rfl) rfl rfl rfl) (hz1) ?_
  rintro v_ w1 ⟨b1, m1, m2, rfl, hS1⟩
  have hS2 := SH.joinN hS hS1
  have hS3 : SH w No w1 [blkE b1 71 #[(.map (some m1)), (.map (some m2))], mapG kS kV m1 [], mapG kS kV m2 [], insE idS eIt 64 [], insE idS eSI 73 []] := SH.ixOpen hS2
  refine WL.lv rfl (LV.asg rfl) ?_
  refine WL.nil (thenQ.n ?_)
  iterate 2 refine WC.seq ?_
  refine WC.region ?_
  refine WL.lv rfl (LV.mv rfl) ?_
  refine WL.lv rfl (LV.eqPS Try.underlying26 rfl rfl) ?_
  iterate 2 refine WL.lv rfl (LV.mv rfl) ?_
  refine WL.lv rfl (LV.build (vs := [(0, (.string ⟨#[71, 101, 116, 32, 120]⟩))]) (places := #[(0, 1), (1, 1)]) (cs := #[(.string ⟨#[71, 101, 116, 32, 120]⟩), (.bool false)]) Try.underlying62 ti62 (fun _ => by kernel_rfl) rfl rfl) ?_
  refine WL.lv rfl (LV.build (vs := [(3, (.agg #[(.string ⟨#[71, 101, 116, 32, 120]⟩), (.bool false)]))]) (places := #[(0, 1), (1, 2), (3, 1), (4, 2)]) (cs := #[(.int .i64 0), (.int .i64 0), (.int .u64 0), (.bool false), (.string ⟨#[71, 101, 116, 32, 120]⟩), (.bool false)]) Try.underlying64 ti64 (fun _ => by kernel_rfl) rfl rfl) ?_
  refine WL.xe rfl (XE.buildSlice (E := eIt) [(0, (.agg #[(.int .i64 0), (.int .i64 0), (.int .u64 0), (.bool false), (.string ⟨#[71, 101, 116, 32, 120]⟩), (.bool false)]))] #[(.int .i64 0), (.int .i64 0), (.int .u64 0), (.bool false), (.string ⟨#[71, 101, 116, 32, 120]⟩), (.bool false)] [(((0 : Int), ((0 : Int), (0 : Int)), false, (⟨#[71, 101, 116, 32, 120]⟩, false)) : Itm)] hS3 Try.underlying30 ti64 rfl (by decide) (by kernel_rfl) (.inr rfl) rfl rfl (by decide)) ?_
  rintro _ w2 ⟨b2, rfl, hS4, hk1⟩
  have hS5 : SH w No w2 [insE idS eSI 73 [], rowE eIt 64 (.slice (some ⟨b2, 0, none⟩) 1 1) [(((0 : Int), ((0 : Int), (0 : Int)), false, (⟨#[71, 101, 116, 32, 120]⟩, false)) : Itm)], blkE b1 71 #[(.map (some m1)), (.map (some m2))], mapG kS kV m1 [], mapG kS kV m2 [], insE idS eIt 64 []] := (SH.front [_, _, _, _, _] hS4)
  have hS6 : SH w No w2 [insE idS eIt 64 [], insE idS eSI 73 [], rowE eIt 64 (.slice (some ⟨b2, 0, none⟩) 1 1) [(((0 : Int), ((0 : Int), (0 : Int)), false, (⟨#[71, 101, 116, 32, 120]⟩, false)) : Itm)], blkE b1 71 #[(.map (some m1)), (.map (some m2))], mapG kS kV m1 [], mapG kS kV m2 []] := (SH.front [_, _, _, _, _] hS5)
  have hS7 : SH w No w2 [mapG kS kV m2 [], insE idS eIt 64 [], insE idS eSI 73 [], rowE eIt 64 (.slice (some ⟨b2, 0, none⟩) 1 1) [(((0 : Int), ((0 : Int), (0 : Int)), false, (⟨#[71, 101, 116, 32, 120]⟩, false)) : Itm)], blkE b1 71 #[(.map (some m1)), (.map (some m2))], mapG kS kV m1 []] := (SH.front [_, _, _, _, _] hS6)
  have hS8 : SH w No w2 [mapG kS kV m1 [], mapG kS kV m2 [], insE idS eIt 64 [], insE idS eSI 73 [], rowE eIt 64 (.slice (some ⟨b2, 0, none⟩) 1 1) [(((0 : Int), ((0 : Int), (0 : Int)), false, (⟨#[71, 101, 116, 32, 120]⟩, false)) : Itm)], blkE b1 71 #[(.map (some m1)), (.map (some m2))]] := (SH.front [_, _, _, _, _] hS7)
  have hS9 : SH w No w2 [blkE b1 71 #[(.map (some m1)), (.map (some m2))], mapG kS kV m1 [], mapG kS kV m2 [], insE idS eIt 64 [], insE idS eSI 73 [], rowE eIt 64 (.slice (some ⟨b2, 0, none⟩) 1 1) [(((0 : Int), ((0 : Int), (0 : Int)), false, (⟨#[71, 101, 116, 32, 120]⟩, false)) : Itm)]] := (SH.front [_, _, _, _, _] hS8)
  have hT1 := SH.sub (Es := [_, _, _, _, _]) hS9
  have hz2 := puty_calls (w := w2) (X := (⟨b1, m1, m2, [], [], [], [], []⟩ : IXS)) (file := ⟨#[97]⟩) (l := [(((0 : Int), ((0 : Int), (0 : Int)), false, (⟨#[71, 101, 116, 32, 120]⟩, false)) : Itm)]) (A_l := (some ⟨b2, 0, none⟩)) (c_l := 1) hT1 ((SH.stE hS9 (.head _)).imp fun _ h_ => Row.rd h_) (ixw_new _ _ _) (by omega) (by show (1 : Nat) ≤ 140737488355328; omega) (by decide) (by decide) live_nam 
  refine WL.call rfl (XC.fn Try.func19 (by kernel_rfl) rfl rfl rfl) (hz2) ?_
  rintro v_ w3 ⟨kv1, kw1, Pa1, Pb1, rfl, hsub1, hsub2, hv1, hU1⟩
  have hS10 := SH.back (Es := [_, _, _, _, _]) hS9 hU1
  refine WL.lv rfl (LV.as (c := false) (LV.neI rfl rfl) (by decide)) ?_
  refine WL.lv rfl (LV.pickF rfl rfl) ?_
  refine WL.nil (thenQ.n ?_)
  refine WC.condF rfl ?_
  refine WC.skip (thenQ.n ?_)
  refine WC.seq ?_
  refine WC.region ?_
  refine WL.lv rfl (LV.mv rfl) ?_
  refine WL.lv rfl (LV.build (vs := []) (places := #[(0, 1), (1, 1)]) (cs := #[(.int .i64 0), (.int .u64 0)]) Try.underlying25 ti25 (fun _ => by kernel_rfl) rfl rfl) ?_
  have hz3 := find_calls (w := w3) (word := ⟨#[103, 101, 116]⟩) (o := ((0 : Int), (0 : Int))) (SH.ixr5 (T1 := 64) (T2 := 73) (X := (⟨b1, m1, m2, kv1, kw1, Pa1, Pb1, (PUTF ⟨#[97]⟩ [(((0 : Int), ((0 : Int), (0 : Int)), false, (⟨#[71, 101, 116, 32, 120]⟩, false)) : Itm)] [])⟩ : IXS)) hS10 (.head _) (.tail _ (.head _)) (.tail _ (.tail _ (.head _))) (.tail _ (.tail _ (.tail _ (.head _)))) (.tail _ (.tail _ (.tail _ (.tail _ (.head _)))))) hv1 (by omega) (by show (3 : Nat) ≤ 140737488355328; omega) (⟨by show (0 : Int) ≤ 0; omega, by show (0 : Int) < 18446744073709551616; omega⟩) 
  refine WL.call rfl (XC.fn Try.func11 (by kernel_rfl) rfl rfl rfl) (hz3) ?_
  rintro v_ w4 ⟨A1, c1, rfl, hS11⟩
  have hS12 := SH.joinN hS10 hS11
  refine WL.lv rfl (LV.asg rfl) ?_
  refine WL.nil (thenQ.n ?_)
  refine WC.seq ?_
  refine WC.region ?_
  refine WL.lv rfl (LV.mv rfl) ?_
  refine WL.lv rfl (LV.lenL Try.underlying38 rfl) ?_
  refine WL.lv rfl (LV.as (LV.eqI rfl rfl) (decide_eq_true (by exact congrArg (fun l_ : List En => (l_.length : Int)) live_find))) ?_
  iterate 2 refine WL.lv rfl (LV.mv rfl) ?_
  obtain ⟨A2, c2, e1, g1⟩ := St.elt (SH.rd hS12 (.head _)) (ByteArray.empty, 0) (0 : Int) (by decide) (by rw [show FIND _ _ _ = _ from live_find]; decide)
  refine WL.lv rfl (LV.idxA Try.underlying38 ti48.sz rfl e1 rfl (by decide) (by rw [show FIND _ _ _ = _ from live_find]; decide)) ?_
  refine WL.lv rfl (LV.loadAgg (cs := [(.string (((FIND (⟨b1, m1, m2, kv1, kw1, Pa1, Pb1, (PUTF ⟨#[97]⟩ [(((0 : Int), ((0 : Int), (0 : Int)), false, (⟨#[71, 101, 116, 32, 120]⟩, false)) : Itm)] [])⟩ : IXS).F (LOW ⟨#[103, 101, 116]⟩) ((0 : Int), (0 : Int))).getD ((0 : Int)).toNat (ByteArray.empty, 0)).1)), (.int .i64 (((FIND (⟨b1, m1, m2, kv1, kw1, Pa1, Pb1, (PUTF ⟨#[97]⟩ [(((0 : Int), ((0 : Int), (0 : Int)), false, (⟨#[71, 101, 116, 32, 120]⟩, false)) : Itm)] [])⟩ : IXS).F (LOW ⟨#[103, 101, 116]⟩) ((0 : Int), (0 : Int))).getD ((0 : Int)).toNat (ByteArray.empty, 0)).2))]) Try.underlying48 rfl ti48 rfl rfl (fun j u hu => g1 _ (KB.refl No _) j u hu)) ?_
  refine WL.lv rfl (LV.build (vs := [(0, (.string ⟨#[97]⟩)), (1, (.int .i64 1))]) (places := #[(0, 1), (1, 1)]) (cs := #[(.string ⟨#[97]⟩), (.int .i64 1)]) Try.underlying48 ti48 (fun _ => by kernel_rfl) rfl rfl) ?_
  refine WL.lv rfl (LV.as (LV.eqG (by decide) (ae_s2 Try.underlying48 (by decide) (by kernel_rfl) (pt_str Try.underlying9 rfl) (pt_str Try.underlying9 rfl) (pt_int Try.underlying3 rfl) (pt_int Try.underlying3 rfl) (ae_str Try.underlying9) (ae_int Try.underlying3)) (by kernel_rfl) rfl rfl) (decide_eq_true (by rw [show FIND _ _ _ = _ from live_find]; exact ⟨rfl, rfl⟩))) ?_
  refine WL.lv rfl (LV.pickT rfl rfl) ?_
  iterate 2 refine WL.lv rfl (LV.mv rfl) ?_
  refine WL.lv rfl (LV.build (vs := []) (places := #[(0, 1), (1, 1)]) (cs := #[(.int .i64 0), (.int .u64 0)]) Try.underlying25 ti25 (fun _ => by kernel_rfl) rfl rfl) ?_
  have hz4 := words_calls (w := w4) (o := ((0 : Int), (0 : Int))) (SH.ixr5 (T1 := 64) (T2 := 73) (X := (⟨b1, m1, m2, kv1, kw1, Pa1, Pb1, (PUTF ⟨#[97]⟩ [(((0 : Int), ((0 : Int), (0 : Int)), false, (⟨#[71, 101, 116, 32, 120]⟩, false)) : Itm)] [])⟩ : IXS)) hS12 (.tail _ (.head _)) (.tail _ (.tail _ (.head _))) (.tail _ (.tail _ (.tail _ (.head _)))) (.tail _ (.tail _ (.tail _ (.tail _ (.head _))))) (.tail _ (.tail _ (.tail _ (.tail _ (.tail _ (.head _))))))) hv1 (by omega) (⟨by show (0 : Int) ≤ 0; omega, by show (0 : Int) < 18446744073709551616; omega⟩) 
  refine WL.call rfl (XC.fn Try.func13 (by kernel_rfl) rfl rfl rfl) (hz4) ?_
  rintro v_ w5 ⟨A3, c3, rfl, hS13⟩
  have hS14 := SH.joinN hS12 hS13
  refine WL.lv rfl (LV.lenL Try.underlying41 rfl) ?_
  refine WL.lv rfl (LV.as (LV.eqI rfl rfl) (decide_eq_true (congrArg (fun n_ : Nat => (n_ : Int)) live_words))) ?_
  refine WL.lv rfl (LV.pickT rfl rfl) ?_
  iterate 2 refine WL.lv rfl (LV.mv rfl) ?_
  refine WL.lv rfl (LV.build (vs := []) (places := #[(0, 1), (1, 1)]) (cs := #[(.int .i64 0), (.int .u64 0)]) Try.underlying25 ti25 (fun _ => by kernel_rfl) rfl rfl) ?_
  have hz5 := files_calls (w := w5) (o := ((0 : Int), (0 : Int))) (SH.ixr5 (T1 := 64) (T2 := 73) (X := (⟨b1, m1, m2, kv1, kw1, Pa1, Pb1, (PUTF ⟨#[97]⟩ [(((0 : Int), ((0 : Int), (0 : Int)), false, (⟨#[71, 101, 116, 32, 120]⟩, false)) : Itm)] [])⟩ : IXS)) hS14 (.tail _ (.tail _ (.head _))) (.tail _ (.tail _ (.tail _ (.head _)))) (.tail _ (.tail _ (.tail _ (.tail _ (.head _))))) (.tail _ (.tail _ (.tail _ (.tail _ (.tail _ (.head _)))))) (.tail _ (.tail _ (.tail _ (.tail _ (.tail _ (.tail _ (.head _)))))))) hv1 (by omega) (⟨by show (0 : Int) ≤ 0; omega, by show (0 : Int) < 18446744073709551616; omega⟩) 
  refine WL.call rfl (XC.fn Try.func14 (by kernel_rfl) rfl rfl rfl) (hz5) ?_
  rintro v_ w6 ⟨A4, c4, rfl, hS15⟩
  have hS16 := SH.joinN hS14 hS15
  refine WL.lv rfl (LV.lenL Try.underlying41 rfl) ?_
  refine WL.lv rfl (LV.as (LV.eqI rfl rfl) (decide_eq_true (congrArg (fun n_ : Nat => (n_ : Int)) live_files))) ?_
  refine WL.lv rfl (LV.pickT rfl rfl) ?_
  refine WL.lv rfl (LV.mv rfl) ?_
  have hz6 := of_calls (w := w6) (s := ⟨#[98, 32, 97, 32, 98]⟩) (by show (5 : Nat) ≤ 1000000; omega) 
  refine WL.call rfl (XC.fn Try.func24 (by kernel_rfl) rfl rfl rfl) (hz6) ?_
  rintro v_ w7 ⟨A5, c5, rfl, hS17⟩
  have hS18 := SH.joinN hS16 hS17
  refine WL.lv rfl (LV.lenL Try.underlying41 rfl) ?_
  refine WL.lv rfl (LV.as (LV.eqI rfl rfl) (decide_eq_true (congrArg (fun n_ : Nat => (n_ : Int)) live_of))) ?_
  refine WL.lv rfl (LV.pickT rfl rfl) ?_
  refine WL.lv rfl (LV.asg rfl) ?_
  refine WL.nil (thenQ.n ?_)
  refine WC.ret (?_)
  exact ⟨_, fun a ha => res1 rfl ha rfl, rfl, hS18.kb⟩

end Go.Proofs.Ytigbphaimbhgjaa

namespace Go.Proofs.Ytigbphaimbhgjaa
open Go Go.Gv Go.RowKit Go.Tly Go.Wds Go.Idx
set_option linter.unusedVariables false
set_option linter.unusedSimpArgs false

theorem rlower_calls {w : World} {s : ByteArray} (hs : s.size ≤ 140737488355328) :
    Calls Try.prog 15 #[(.string s)] w fun e w' => ∃ v, e = .returned v ∧ (fun v w' => v = .string (LOW s) ∧ KB No w w') v w' := by
  have hS : SH w No w [] := SH.nil _ _
  refine calls (l := litOf [(.string s)] 0) Try.func15 rfl (n := 37) rfl (Nat.le_of_ble_eq_true rfl) (lit_args _) ?_
  refine WC.seq ?_
  refine WC.region ?_
  refine WL.lv rfl (LV.asg rfl) ?_
  refine WL.nil (thenQ.n ?_)
  refine WC.seq ?_
  refine WC.region ?_
  refine WL.xe rfl (XE.buildSlice (E := eU8) [] #[] [] hS Try.underlying85 ti5 rfl (by decide) (by kernel_rfl) (.inr rfl) rfl rfl (by decide)) ?_
  rintro _ w1 ⟨b1, rfl, hS1, hk1⟩
  refine WL.lv rfl (LV.asg rfl) ?_
  refine WL.nil (thenQ.n ?_)
  iterate 2 refine WC.seq ?_
  refine WC.region ?_
  refine WL.lv rfl (LV.asg rfl) ?_
  refine WL.nil (thenQ.n ?_)
  refine WC.block ?_
  refine WC.loop (fun m_ f_ w_ => ∃ (A_out : Option Addr) (c_out : Nat) (out : List Int) (i : Int), (0 ≤ i) ∧ (i ≤ (s.size : Int)) ∧ (out = ((bytesOf s).take i.toNat).map low1) ∧ SH w No w_ [rowE eU8 5 (.slice A_out out.length c_out) out] ∧ m_ = (((s.size : Int) - i).toNat) ∧ Weak (lit [(0, (.string s)), (3, (.slice A_out out.length c_out)), (4, (.int .i64 i))]) f_) _ ⟨(some ⟨b1, 0, none⟩), 0, [], 0, by omega, by omega, rfl, hS1, rfl, Weak.cons rfl <| Weak.cons rfl <| Weak.cons rfl <| Weak.nil _⟩ ?_
  rintro m1 f1 w2 ⟨A_out, c_out, out, i, ilo, ihi, q1, hL1, rfl, hw1⟩
  refine WC.weak hw1 ?_
  clear hw1
  iterate 2 refine WC.seq ?_
  refine WC.region ?_
  iterate 2 refine WL.lv rfl (LV.mv rfl) ?_
  refine WL.lv rfl (LV.lenS Try.underlying9 rfl) ?_
  refine WL.lv rfl (LV.ltI rfl rfl) ?_
  refine WL.nil (thenQ.n ?_)
  refine WC.condP (p := i < (s.size : Int)) rfl (fun hk => ?_) (fun hk => ?_)
  · have hbd_ : 0 ≤ gI (bytesOf s) i ∧ gI (bytesOf s) i ≤ 255 := byte_bd s i
    have hbf_ : gI (bytesOf s) i = (bytesOf s).getD i.toNat 0 := rfl
    have hol_ := congrArg List.length q1
    rw [List.length_map, List.length_take, bytesOf_len] at hol_
    refine WC.skip (thenQ.n ?_)
    refine WC.seq ?_
    refine WC.block ?_
    refine WC.seq ?_
    refine WC.region ?_
    iterate 2 refine WL.lv rfl (LV.mv rfl) ?_
    refine WL.lv rfl (LV.idxSi (i := i) Try.underlying9 rfl rfl (by omega) (by omega)) ?_
    rcases Decidable.em ((gI (bytesOf s) (i)) ≥ 65) with hg1 | hg1
    · refine WL.lv rfl (LV.as (LV.geI rfl rfl) (decide_eq_true hg1)) ?_
      iterate 3 refine WL.lv rfl (LV.mv rfl) ?_
      refine WL.lv rfl (LV.idxSi (i := i) Try.underlying9 rfl rfl (by omega) (by omega)) ?_
      refine WL.lv rfl (LV.leI rfl rfl) ?_
      refine WL.lv rfl (LV.pickT rfl rfl) ?_
      refine WL.nil (thenQ.n ?_)
      refine WC.condP (p := (gI (bytesOf s) (i)) ≤ 90) rfl (fun hc => ?_) (fun hc => ?_)
      · skip
        refine WC.region ?_
        iterate 3 refine WL.lv rfl (LV.mv rfl) ?_
        refine WL.lv rfl (LV.idxSi (i := i) Try.underlying9 rfl rfl (by omega) (by omega)) ?_
        refine WL.lv rfl (LV.add rfl rfl (wrU8 (by omega) (by omega))) ?_
        refine WL.xe rfl (XE.buildSlice (E := eU8) [(0, (.int .u8 ((gI (bytesOf s) (i)) + 32)))] #[(.int .u8 ((gI (bytesOf s) (i)) + 32))] [(gI (bytesOf s) (i)) + 32] hL1 Try.underlying85 ti5 rfl (by decide) (by kernel_rfl) (.inr rfl) rfl rfl (by decide)) ?_
        rintro _ w3 ⟨b2, rfl, hS2, hk2⟩
        have hS3 : SH w No w3 [rowE eU8 5 (.slice A_out out.length c_out) out, rowE eU8 5 (.slice (some ⟨b2, 0, none⟩) 1 1) [(gI (bytesOf s) (i)) + 32]] := (SH.front [_] hS2)
        refine WL.xe rfl (XE.append hS3 Try.underlying85 ti5 rfl (St.now (SH.rd hS3 (.tail _ (.head _)))) rfl rfl (by first | omega | simp only [List.length_append, List.length_cons, List.length_nil, List.length_take, List.length_reverse, List.length_drop] at *; omega) (by first | omega | simp only [List.length_append, List.length_cons, List.length_nil, List.length_take, List.length_reverse, List.length_drop] at *; omega)) ?_
        rintro _ w4 ⟨A1, c1, rfl, hS4, hk3⟩
        refine WL.lv rfl (LV.asg rfl) ?_
        refine WL.nil (blockQ.n <| thenQ.n ?_)
        refine WC.region ?_
        refine WL.lv rfl (LV.mv rfl) ?_
        refine WL.lv rfl (LV.add rfl rfl (wr64 (by omega) (by omega))) ?_
        refine WL.lv rfl (LV.asg rfl) ?_
        refine WL.nil (thenQ.n ?_)
        have hS5 : SH w No w4 [rowE eU8 5 (.slice A1 ((out ++ [(gI (bytesOf s) (i)) + 32]).length) c1) (out ++ [(gI (bytesOf s) (i)) + 32])] := (SH.take 1 rfl hS4)
        exact ⟨_, by omega, A1, c1, (out ++ [(gI (bytesOf s) (i)) + 32]), i + 1, by omega, by omega, (lowr_step q1 ilo hk (by first | exact (low_yes (by omega)).symm | exact (low_no (by omega)).symm)), hS5, rfl, Weak.cons rfl <| Weak.cons rfl <| Weak.cons rfl <| Weak.nil _⟩
      · skip
        refine WC.region ?_
        iterate 3 refine WL.lv rfl (LV.mv rfl) ?_
        refine WL.lv rfl (LV.idxSi (i := i) Try.underlying9 rfl rfl (by omega) (by omega)) ?_
        refine WL.xe rfl (XE.buildSlice (E := eU8) [(0, (.int .u8 (gI (bytesOf s) (i))))] #[(.int .u8 (gI (bytesOf s) (i)))] [gI (bytesOf s) (i)] hL1 Try.underlying85 ti5 rfl (by decide) (by kernel_rfl) (.inr rfl) rfl rfl (by decide)) ?_
        rintro _ w5 ⟨b3, rfl, hS6, hk4⟩
        have hS7 : SH w No w5 [rowE eU8 5 (.slice A_out out.length c_out) out, rowE eU8 5 (.slice (some ⟨b3, 0, none⟩) 1 1) [gI (bytesOf s) (i)]] := (SH.front [_] hS6)
        refine WL.xe rfl (XE.append hS7 Try.underlying85 ti5 rfl (St.now (SH.rd hS7 (.tail _ (.head _)))) rfl rfl (by first | omega | simp only [List.length_append, List.length_cons, List.length_nil, List.length_take, List.length_reverse, List.length_drop] at *; omega) (by first | omega | simp only [List.length_append, List.length_cons, List.length_nil, List.length_take, List.length_reverse, List.length_drop] at *; omega)) ?_
        rintro _ w6 ⟨A2, c2, rfl, hS8, hk5⟩
        refine WL.lv rfl (LV.asg rfl) ?_
        refine WL.nil (blockQ.n <| thenQ.n ?_)
        refine WC.region ?_
        refine WL.lv rfl (LV.mv rfl) ?_
        refine WL.lv rfl (LV.add rfl rfl (wr64 (by omega) (by omega))) ?_
        refine WL.lv rfl (LV.asg rfl) ?_
        refine WL.nil (thenQ.n ?_)
        have hS9 : SH w No w6 [rowE eU8 5 (.slice A2 ((out ++ [gI (bytesOf s) (i)]).length) c2) (out ++ [gI (bytesOf s) (i)])] := (SH.take 1 rfl hS8)
        exact ⟨_, by omega, A2, c2, (out ++ [gI (bytesOf s) (i)]), i + 1, by omega, by omega, (lowr_step q1 ilo hk (by first | exact (low_yes (by omega)).symm | exact (low_no (by omega)).symm)), hS9, rfl, Weak.cons rfl <| Weak.cons rfl <| Weak.cons rfl <| Weak.nil _⟩
    · refine WL.lv rfl (LV.as (LV.geI rfl rfl) (decide_eq_false hg1)) ?_
      refine WL.lv rfl (LV.mv rfl) ?_
      iterate 4 refine WL.off rfl ?_
      refine WL.lv rfl (LV.pickF rfl rfl) ?_
      refine WL.nil (thenQ.n ?_)
      refine WC.condF rfl ?_
      refine WC.region ?_
      iterate 3 refine WL.lv rfl (LV.mv rfl) ?_
      refine WL.lv rfl (LV.idxSi (i := i) Try.underlying9 rfl rfl (by omega) (by omega)) ?_
      refine WL.xe rfl (XE.buildSlice (E := eU8) [(0, (.int .u8 (gI (bytesOf s) (i))))] #[(.int .u8 (gI (bytesOf s) (i)))] [gI (bytesOf s) (i)] hL1 Try.underlying85 ti5 rfl (by decide) (by kernel_rfl) (.inr rfl) rfl rfl (by decide)) ?_
      rintro _ w7 ⟨b4, rfl, hS10, hk6⟩
      have hS11 : SH w No w7 [rowE eU8 5 (.slice A_out out.length c_out) out, rowE eU8 5 (.slice (some ⟨b4, 0, none⟩) 1 1) [gI (bytesOf s) (i)]] := (SH.front [_] hS10)
      refine WL.xe rfl (XE.append hS11 Try.underlying85 ti5 rfl (St.now (SH.rd hS11 (.tail _ (.head _)))) rfl rfl (by first | omega | simp only [List.length_append, List.length_cons, List.length_nil, List.length_take, List.length_reverse, List.length_drop] at *; omega) (by first | omega | simp only [List.length_append, List.length_cons, List.length_nil, List.length_take, List.length_reverse, List.length_drop] at *; omega)) ?_
      rintro _ w8 ⟨A3, c3, rfl, hS12, hk7⟩
      refine WL.lv rfl (LV.asg rfl) ?_
      refine WL.nil (blockQ.n <| thenQ.n ?_)
      refine WC.region ?_
      refine WL.lv rfl (LV.mv rfl) ?_
      refine WL.lv rfl (LV.add rfl rfl (wr64 (by omega) (by omega))) ?_
      refine WL.lv rfl (LV.asg rfl) ?_
      refine WL.nil (thenQ.n ?_)
      have hS13 : SH w No w8 [rowE eU8 5 (.slice A3 ((out ++ [gI (bytesOf s) (i)]).length) c3) (out ++ [gI (bytesOf s) (i)])] := (SH.take 1 rfl hS12)
      exact ⟨_, by omega, A3, c3, (out ++ [gI (bytesOf s) (i)]), i + 1, by omega, by omega, (lowr_step q1 ilo hk (by first | exact (low_yes (by omega)).symm | exact (low_no (by omega)).symm)), hS13, rfl, Weak.cons rfl <| Weak.cons rfl <| Weak.cons rfl <| Weak.nil _⟩
  · skip
    refine WC.exit (thenQ.x <| thenQ.x <| blockQ.hit <| thenQ.n ?_)
    refine WC.seq ?_
    refine WC.region ?_
    refine WL.lv rfl (LV.mv rfl) ?_
    refine WL.lv rfl (LV.strOf Try.underlying85 Try.underlying5 Try.underlying9 rfl ((SH.rd hL1 (.head _)) _ (KB.refl No _))) ?_
    refine WL.lv rfl (LV.asg rfl) ?_
    refine WL.nil (thenQ.n ?_)
    refine WC.ret (?_)
    exact ⟨_, fun a ha => res1 rfl ha rfl, congrArg Value.string (by rw [q1, List.take_of_length_le (by rw [bytesOf_len]; omega)]; rfl), hL1.kb⟩

end Go.Proofs.Ytigbphaimbhgjaa

