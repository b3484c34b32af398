/- Deeds in a row. -/
import Derived.Test.YtigbphaimbhgjaaGreatMg28
import Derived.Test.YtigbphaimbhgjaaGreatMg21
import Derived.Test.YtigbphaimbhgjaaGreatMg3
import Derived.Test.YtigbphaimbhgjaaGreatRows
import Derived.WalkKit
import Derived.ProofKit
import Derived.OpenShut
import Derived.ShutString
import Derived.ChangeOld
import Derived.Below
import Derived.SizedLaws
import Derived.Deep.Slices
import Derived.Laws.Cover2
import Derived.Test.YtigbphaimbhgjaaGreatMg6
namespace Go.Proofs.YtigbphaimbhgjaaGreat
open Go Go.Gv Go.RowKit Go.Tly Go.Wds Go.Idx
set_option linter.unusedVariables false
set_option linter.unusedSimpArgs false
theorem ti43 : TI Tryz.prog 43 (.agg #[(.slice none 0 0)]) 1 24 := by unfold TI; kernel_rfl
theorem ti47 : TI Tryz.prog 47 (.agg #[(.bool false), (.string ⟨#[]⟩), (.slice none 0 0)]) 3 48 := by unfold TI; kernel_rfl

set_option maxRecDepth 4000 in
theorem play_calls {w : World} {A_l : Option Addr} {n_l c_l : Nat} {l : DDS} (h_l : St No w (Rd eDd (.slice A_l n_l c_l) (DLS l))) (hi_l : St No w (RdIn ddS eIt l)) (hn_l : l.length = n_l) (hz_l : ∀ d ∈ l, d.1.2.1.size ≤ 140737488355328) (hy_l : ∀ d ∈ l, ∀ y ∈ d.2, 0 ≤ y.2.1.2 ∧ y.2.1.2 < 18446744073709551616) :
    Calls Tryz.prog 4 #[(.slice A_l n_l c_l)] w fun e w' => ∃ v, e = .returned v ∧ (fun v w' => ∃ (b m1 m2 : Nat) (kv1 kv2 : KVS) (P1 : PLI) (P2 : PLE) (yb : Nat) (A_f : Option Addr) (c_f : Nat) (rs : RWS) (P3 : PLI), v = .tuple #[.pointer (some ⟨b, 0, none⟩), .pointer (some ⟨yb, 0, none⟩), .bool true] ∧ IXW 20 (⟨b, m1, m2, kv1, kv2, P1, P2, (DOS (l.take 20))⟩ : IXS) ∧ DOCR rs P3 (DOS (l.take 20)) ∧ SH w No w' [blkE b 62 #[(.map (some m1)), (.map (some m2))], mapG kS kV m1 kv1, mapG kS kV m2 kv2, insE idS eIt 68 P1, insE idS eSI 76 P2, blkE yb 43 #[(.slice A_f rs.length c_f)], rowE eSV 64 (.slice A_f rs.length c_f) rs, insE idS eIt 68 P3]) v w' := by
  subst hn_l
  have hma := Rd.max h_l.now
  rw [List.length_map] at hma
  have hS : SH w No w [] := SH.nil _ _
  refine calls (l := litOf [(.slice A_l l.length c_l)] 0) Tryz.func4 rfl (n := 37) rfl (Nat.le_of_ble_eq_true rfl) (lit_args _) ?_
  refine WC.seq ?_
  refine WC.region ?_
  iterate 3 refine WL.lv rfl (LV.asg rfl) ?_
  refine WL.nil (thenQ.n ?_)
  refine WC.seq ?_
  refine WC.region ?_
  refine WL.call rfl (XC.fn Tryz.func18 (by kernel_rfl) rfl rfl rfl) (new_calls) ?_
  rintro v_ w1 ⟨b1, m1, m2, rfl, hS1⟩
  have hS2 := SH.joinN hS hS1
  have hS3 : SH w No w1 [blkE b1 62 #[(.map (some m1)), (.map (some m2))], mapG kS kV m1 [], mapG kS kV m2 [], insE idS eIt 68 [], insE idS eSI 76 []] := SH.ixOpen hS2
  refine WL.lv rfl (LV.build (vs := []) (places := #[(0, 1)]) (cs := #[(.slice none 0 0)]) Tryz.underlying43 ti43 (fun _ => by kernel_rfl) rfl rfl) ?_
  refine WL.xe rfl (XE.box #[(.slice none 0 0)] hS3 rfl rfl) ?_
  rintro _ w2 ⟨b2, rfl, hS4, hk1⟩
  iterate 2 refine WL.lv rfl (LV.asg rfl) ?_
  refine WL.nil (thenQ.n ?_)
  iterate 2 refine WC.seq ?_
  refine WC.region ?_
  refine WL.lv rfl (LV.mv rfl) ?_
  refine WL.lv rfl (LV.eqPS Tryz.underlying27 rfl rfl) ?_
  refine WL.nil (thenQ.n ?_)
  refine WC.condF rfl ?_
  refine WC.skip (thenQ.n ?_)
  iterate 2 refine WC.seq ?_
  refine WC.region ?_
  have hS5 := SH.nilRow (E := eSV) (T := 64) hS4
  have hS6 : SH w No w2 [insE idS eIt 68 [], rowE eSV 64 (.slice none 0 0) [], blkE b2 43 #[(.slice none 0 0)], blkE b1 62 #[(.map (some m1)), (.map (some m2))], mapG kS kV m1 [], mapG kS kV m2 [], insE idS eIt 68 [], insE idS eSI 76 []] := SH.ins0 (sv := idS) (E := eIt) (T1 := 68) hS5
  refine WL.lv rfl (LV.asg rfl) ?_
  refine WL.nil (thenQ.n ?_)
  refine WC.block ?_
  have hS7 : SH w No w2 [blkE b1 62 #[(.map (some m1)), (.map (some m2))], mapG kS kV m1 [], mapG kS kV m2 [], insE idS eIt 68 [], insE idS eSI 76 [], blkE b2 43 #[(.slice none 0 0)], rowE eSV 64 (.slice none 0 0) [], insE idS eIt 68 []] := (SH.front [_, _, _, _, _, _, _] (SH.front [_, _, _, _, _, _, _] (SH.front [_, _, _, _, _, _, _] (SH.front [_, _, _, _, _, _, _] (SH.front [_, _, _, _, _, _, _] (SH.front [_, _] (SH.front [_] hS6)))))))
  refine WC.loop (fun m_ f_ w_ => ∃ (i : Int) (kv1 kv2 : KVS) (P1 : PLI) (P2 : PLE) (A_f : Option Addr) (c_f : Nat) (rs : RWS) (P3 : PLI), (0 ≤ i) ∧ (i ≤ l.length ∧ i ≤ 20) ∧ (IXW i.toNat (⟨b1, m1, m2, kv1, kv2, P1, P2, (DOS (l.take i.toNat))⟩ : IXS)) ∧ (DOCR rs P3 (DOS (l.take i.toNat))) ∧ SH w No w_ [blkE b1 62 #[(.map (some m1)), (.map (some m2))], mapG kS kV m1 kv1, mapG kS kV m2 kv2, insE idS eIt 68 P1, insE idS eSI 76 P2, blkE b2 43 #[(.slice A_f rs.length c_f)], rowE eSV 64 (.slice A_f rs.length c_f) rs, insE idS eIt 68 P3] ∧ m_ = ((20 - i).toNat) ∧ Weak (lit [(0, (.slice A_l l.length c_l)), (5, (.pointer (some ⟨b1, 0, none⟩))), (6, (.pointer (some ⟨b2, 0, none⟩))), (7, (.int .i64 i))]) f_) _ ⟨0, [], [], [], [], none, 0, [], [], by omega, by omega, (((ixw_new _ _ _))), DOCR.nil, hS7, rfl, Weak.cons rfl <| Weak.cons rfl <| Weak.cons rfl <| Weak.cons rfl <| Weak.nil _⟩ ?_
  rintro m3 f1 w3 ⟨i, kv1, kv2, P1, P2, A_f, c_f, rs, P3, ilo, ihi, hvv, hDD, hL1, rfl, hw1⟩
  refine WC.weak hw1 ?_
  clear hw1
  iterate 2 refine WC.seq ?_
  refine WC.region ?_
  iterate 2 refine WL.lv rfl (LV.mv rfl) ?_
  refine WL.lv rfl (LV.lenL Tryz.underlying22 rfl) ?_
  rcases Decidable.em (i < (l.length : Int)) with hg1 | hg1
  · refine WL.lv rfl (LV.as (LV.ltI rfl rfl) (decide_eq_true hg1)) ?_
    iterate 2 refine WL.lv rfl (LV.mv rfl) ?_
    refine WL.lv rfl (LV.ltI rfl rfl) ?_
    refine WL.lv rfl (LV.pickT rfl rfl) ?_
    refine WL.nil (thenQ.n ?_)
    refine WC.condP (p := i < 20) rfl (fun hc1 => ?_) (fun hc1 => ?_)
    · skip
      refine WC.skip (thenQ.n ?_)
      refine WC.seq ?_
      refine WC.block ?_
      refine WC.seq ?_
      refine WC.region ?_
      iterate 4 refine WL.lv rfl (LV.mv rfl) ?_
      obtain ⟨A1, c1, e1, g1⟩ := St.elt (SH.stN hL1 h_l) dDd i (by omega) (by rw [List.length_map]; omega)
      refine WL.lv rfl (LV.idxA Tryz.underlying22 ti47.sz rfl e1 rfl (by omega) (by rw [List.length_map]; omega)) ?_
      obtain ⟨A2, c2, hv1, hr1⟩ := dd_at (i := (i).toNat) hi_l (by omega)
      refine WL.lv rfl (LV.to (congrArg (fun v_ => Value.agg #[(.bool (((DLS l).getD (i).toNat dDd).1)), (.string (((DLS l).getD (i).toNat dDd).2.1)), v_]) hv1) (LV.loadAgg (cs := [(.bool (((DLS l).getD (i).toNat dDd).1)), (.string (((DLS l).getD (i).toNat dDd).2.1)), (((DLS l).getD (i).toNat dDd).2.2).v]) Tryz.underlying47 rfl ti47 rfl rfl (fun j u hu => g1 _ (KB.refl No _) j u hu))) ?_
      have hS8 : SH w No w3 [insE idS eIt 68 P3, blkE b1 62 #[(.map (some m1)), (.map (some m2))], mapG kS kV m1 kv1, mapG kS kV m2 kv2, insE idS eIt 68 P1, insE idS eSI 76 P2, blkE b2 43 #[(.slice A_f rs.length c_f)], rowE eSV 64 (.slice A_f rs.length c_f) rs] := (SH.front [_, _, _, _, _, _, _] hL1)
      have hS9 : SH w No w3 [rowE eSV 64 (.slice A_f rs.length c_f) rs, insE idS eIt 68 P3, blkE b1 62 #[(.map (some m1)), (.map (some m2))], mapG kS kV m1 kv1, mapG kS kV m2 kv2, insE idS eIt 68 P1, insE idS eSI 76 P2, blkE b2 43 #[(.slice A_f rs.length c_f)]] := (SH.front [_, _, _, _, _, _, _] hS8)
      have hS10 : SH w No w3 [blkE b2 43 #[(.slice A_f rs.length c_f)], rowE eSV 64 (.slice A_f rs.length c_f) rs, insE idS eIt 68 P3, blkE b1 62 #[(.map (some m1)), (.map (some m2))], mapG kS kV m1 kv1, mapG kS kV m2 kv2, insE idS eIt 68 P1, insE idS eSI 76 P2] := (SH.front [_, _, _, _, _, _, _] hS9)
      have hS11 : SH w No w3 [insE idS eSI 76 P2, blkE b2 43 #[(.slice A_f rs.length c_f)], rowE eSV 64 (.slice A_f rs.length c_f) rs, insE idS eIt 68 P3, blkE b1 62 #[(.map (some m1)), (.map (some m2))], mapG kS kV m1 kv1, mapG kS kV m2 kv2, insE idS eIt 68 P1] := (SH.front [_, _, _, _, _, _, _] hS10)
      have hS12 : SH w No w3 [insE idS eIt 68 P1, insE idS eSI 76 P2, blkE b2 43 #[(.slice A_f rs.length c_f)], rowE eSV 64 (.slice A_f rs.length c_f) rs, insE idS eIt 68 P3, blkE b1 62 #[(.map (some m1)), (.map (some m2))], mapG kS kV m1 kv1, mapG kS kV m2 kv2] := (SH.front [_, _, _, _, _, _, _] hS11)
      have hS13 : SH w No w3 [mapG kS kV m2 kv2, insE idS eIt 68 P1, insE idS eSI 76 P2, blkE b2 43 #[(.slice A_f rs.length c_f)], rowE eSV 64 (.slice A_f rs.length c_f) rs, insE idS eIt 68 P3, blkE b1 62 #[(.map (some m1)), (.map (some m2))], mapG kS kV m1 kv1] := (SH.front [_, _, _, _, _, _, _] hS12)
      have hS14 : SH w No w3 [mapG kS kV m1 kv1, mapG kS kV m2 kv2, insE idS eIt 68 P1, insE idS eSI 76 P2, blkE b2 43 #[(.slice A_f rs.length c_f)], rowE eSV 64 (.slice A_f rs.length c_f) rs, insE idS eIt 68 P3, blkE b1 62 #[(.map (some m1)), (.map (some m2))]] := (SH.front [_, _, _, _, _, _, _] hS13)
      have hS15 : SH w No w3 [blkE b1 62 #[(.map (some m1)), (.map (some m2))], mapG kS kV m1 kv1, mapG kS kV m2 kv2, insE idS eIt 68 P1, insE idS eSI 76 P2, blkE b2 43 #[(.slice A_f rs.length c_f)], rowE eSV 64 (.slice A_f rs.length c_f) rs, insE idS eIt 68 P3] := (SH.front [_, _, _, _, _, _, _] hS14)
      have hT1 := SH.sub (Es := [_, _, _, _, _, _, _, _]) hS15
      refine WL.call rfl (XC.fn Tryz.func19 (by kernel_rfl) rfl rfl rfl) (do_calls (X := (⟨b1, m1, m2, kv1, kv2, P1, P2, (DOS (l.take i.toNat))⟩ : IXS)) (dr := ((DLS l).getD (i).toNat dDd).1) (fl := ((DLS l).getD (i).toNat dDd).2.1) hT1 (SH.stA hS15 hr1) hvv (by omega) hDD (by rw [dd_get]; exact hz_l _ (getD_mem (d := dDI) (by omega))) (hy_l _ (getD_mem (d := dDI) (by omega)))) ?_
      rintro v_ w4 ⟨kv3, kw1, Pa1, Pb1, A3, c3, rs1, Pc1, rfl, hv2, hD1, hU1⟩
      have hS16 := SH.back (Es := [_, _, _, _, _, _, _, _]) hS15 hU1
      refine WL.lv rfl (LV.notB rfl) ?_
      refine WL.nil (thenQ.n ?_)
      refine WC.condF rfl ?_
      refine WC.skip (blockQ.n <| thenQ.n ?_)
      refine WC.region ?_
      refine WL.lv rfl (LV.mv rfl) ?_
      refine WL.lv rfl (LV.add rfl rfl (wr64 (by omega) (by omega))) ?_
      refine WL.lv rfl (LV.asg rfl) ?_
      refine WL.nil (thenQ.n ?_)
      exact ⟨_, by omega, i + 1, kv3, kw1, Pa1, Pb1, A3, c3, rs1, Pc1, by omega, by omega, ((by rw [DOS_at ilo (by omega)]; exact ixw_step ilo hv2)), ((by rw [DOS_at ilo (by omega)]; exact hD1)), hS16, rfl, Weak.cons rfl <| Weak.cons rfl <| Weak.cons rfl <| Weak.cons rfl <| Weak.nil _⟩
    · skip
      refine WC.exit (thenQ.x <| thenQ.x <| blockQ.hit <| thenQ.n ?_)
      refine WC.seq ?_
      refine WC.region ?_
      iterate 2 refine WL.lv rfl (LV.mv rfl) ?_
      iterate 3 refine WL.lv rfl (LV.asg rfl) ?_
      refine WL.nil (thenQ.n ?_)
      refine WC.ret (?_)
      have hpl_ : l.take i.toNat = l.take 20 := by rcases Int.le_total 20 i with h_ | h_ <;> first | (rw [show i.toNat = 20 by omega]; done) | (rw [List.take_of_length_le (by omega), List.take_of_length_le (by omega)])
      rw [hpl_] at hvv hDD
      have hvw_ := hvv.mono (m := 20) (by omega)
      exact ⟨_, fun a ha => res3 rfl ha rfl rfl rfl, _, _, _, _, _, _, _, _, _, _, _, _, rfl, hvw_, hDD, hL1⟩
  · refine WL.lv rfl (LV.as (LV.ltI rfl rfl) (decide_eq_false hg1)) ?_
    refine WL.lv rfl (LV.mv rfl) ?_
    iterate 2 refine WL.off rfl ?_
    refine WL.lv rfl (LV.pickF rfl rfl) ?_
    refine WL.nil (thenQ.n ?_)
    refine WC.condF rfl ?_
    refine WC.exit (thenQ.x <| thenQ.x <| blockQ.hit <| thenQ.n ?_)
    refine WC.seq ?_
    refine WC.region ?_
    iterate 2 refine WL.lv rfl (LV.mv rfl) ?_
    iterate 3 refine WL.lv rfl (LV.asg rfl) ?_
    refine WL.nil (thenQ.n ?_)
    refine WC.ret (?_)
    have hpl_ : l.take i.toNat = l.take 20 := by rcases Int.le_total 20 i with h_ | h_ <;> first | (rw [show i.toNat = 20 by omega]; done) | (rw [List.take_of_length_le (by omega), List.take_of_length_le (by omega)])
    rw [hpl_] at hvv hDD
    have hvw_ := hvv.mono (m := 20) (by omega)
    exact ⟨_, fun a ha => res3 rfl ha rfl rfl rfl, _, _, _, _, _, _, _, _, _, _, _, _, rfl, hvw_, hDD, hL1⟩

end Go.Proofs.YtigbphaimbhgjaaGreat

namespace Go.Proofs.YtigbphaimbhgjaaGreat
open Go Go.Gv Go.RowKit Go.Tly Go.Wds Go.Idx
set_option linter.unusedVariables false
set_option linter.unusedSimpArgs false

attribute [local irreducible] Go.Idx.PUTF Go.Idx.FIND Go.Idx.WRDS Go.Idx.FLS Go.Idx.OF Go.Idx.LOW

set_option maxRecDepth 8000 in
theorem live_calls {w : World} :
    Calls Tryz.prog 17 #[] w fun e w' => ∃ v, e = .returned v ∧ (fun v w' => v = .bool true ∧ KB No w w') v w' := by
  have hS : SH w No w [] := SH.nil _ _
  refine calls (l := litOf [] 0) Tryz.func17 rfl (n := 46) rfl (Nat.le_of_ble_eq_true rfl) (lit_args _) ?_
  refine WC.seq ?_
  refine WC.region ?_
  refine WL.lv rfl (LV.asg rfl) ?_
  refine WL.nil (thenQ.n ?_)
  refine WC.seq ?_
  refine WC.region ?_
  have hz1 := new_calls (w := w) 
  refine WL.call rfl (XC.fn Tryz.func18 (by kernel_rfl) rfl rfl rfl) (hz1) ?_
  rintro v_ w1 ⟨b1, m1, m2, rfl, hS1⟩
  have hS2 := SH.joinN hS hS1
  have hS3 : SH w No w1 [blkE b1 62 #[(.map (some m1)), (.map (some m2))], mapG kS kV m1 [], mapG kS kV m2 [], insE idS eIt 68 [], insE idS eSI 76 []] := SH.ixOpen hS2
  refine WL.lv rfl (LV.asg rfl) ?_
  refine WL.nil (thenQ.n ?_)
  iterate 2 refine WC.seq ?_
  refine WC.region ?_
  refine WL.lv rfl (LV.mv rfl) ?_
  refine WL.lv rfl (LV.eqPS Tryz.underlying27 rfl rfl) ?_
  iterate 2 refine WL.lv rfl (LV.mv rfl) ?_
  refine WL.lv rfl (LV.build (vs := [(0, (.string ⟨#[71, 101, 116, 32, 120]⟩))]) (places := #[(0, 1), (1, 1)]) (cs := #[(.string ⟨#[71, 101, 116, 32, 120]⟩), (.bool false)]) Tryz.underlying66 ti66 (fun _ => by kernel_rfl) rfl rfl) ?_
  refine WL.lv rfl (LV.build (vs := [(3, (.agg #[(.string ⟨#[71, 101, 116, 32, 120]⟩), (.bool false)]))]) (places := #[(0, 1), (1, 2), (3, 1), (4, 2)]) (cs := #[(.int .i64 0), (.int .i64 0), (.int .u64 0), (.bool false), (.string ⟨#[71, 101, 116, 32, 120]⟩), (.bool false)]) Tryz.underlying68 ti68 (fun _ => by kernel_rfl) rfl rfl) ?_
  refine WL.xe rfl (XE.buildSlice (E := eIt) [(0, (.agg #[(.int .i64 0), (.int .i64 0), (.int .u64 0), (.bool false), (.string ⟨#[71, 101, 116, 32, 120]⟩), (.bool false)]))] #[(.int .i64 0), (.int .i64 0), (.int .u64 0), (.bool false), (.string ⟨#[71, 101, 116, 32, 120]⟩), (.bool false)] [(((0 : Int), ((0 : Int), (0 : Int)), false, (⟨#[71, 101, 116, 32, 120]⟩, false)) : Itm)] hS3 Tryz.underlying45 ti68 rfl (by decide) (by kernel_rfl) (.inr rfl) rfl rfl (by decide)) ?_
  rintro _ w2 ⟨b2, rfl, hS4, hk1⟩
  have hS5 : SH w No w2 [insE idS eSI 76 [], rowE eIt 68 (.slice (some ⟨b2, 0, none⟩) 1 1) [(((0 : Int), ((0 : Int), (0 : Int)), false, (⟨#[71, 101, 116, 32, 120]⟩, false)) : Itm)], blkE b1 62 #[(.map (some m1)), (.map (some m2))], mapG kS kV m1 [], mapG kS kV m2 [], insE idS eIt 68 []] := (SH.front [_, _, _, _, _] hS4)
  have hS6 : SH w No w2 [insE idS eIt 68 [], insE idS eSI 76 [], rowE eIt 68 (.slice (some ⟨b2, 0, none⟩) 1 1) [(((0 : Int), ((0 : Int), (0 : Int)), false, (⟨#[71, 101, 116, 32, 120]⟩, false)) : Itm)], blkE b1 62 #[(.map (some m1)), (.map (some m2))], mapG kS kV m1 [], mapG kS kV m2 []] := (SH.front [_, _, _, _, _] hS5)
  have hS7 : SH w No w2 [mapG kS kV m2 [], insE idS eIt 68 [], insE idS eSI 76 [], rowE eIt 68 (.slice (some ⟨b2, 0, none⟩) 1 1) [(((0 : Int), ((0 : Int), (0 : Int)), false, (⟨#[71, 101, 116, 32, 120]⟩, false)) : Itm)], blkE b1 62 #[(.map (some m1)), (.map (some m2))], mapG kS kV m1 []] := (SH.front [_, _, _, _, _] hS6)
  have hS8 : SH w No w2 [mapG kS kV m1 [], mapG kS kV m2 [], insE idS eIt 68 [], insE idS eSI 76 [], rowE eIt 68 (.slice (some ⟨b2, 0, none⟩) 1 1) [(((0 : Int), ((0 : Int), (0 : Int)), false, (⟨#[71, 101, 116, 32, 120]⟩, false)) : Itm)], blkE b1 62 #[(.map (some m1)), (.map (some m2))]] := (SH.front [_, _, _, _, _] hS7)
  have hS9 : SH w No w2 [blkE b1 62 #[(.map (some m1)), (.map (some m2))], mapG kS kV m1 [], mapG kS kV m2 [], insE idS eIt 68 [], insE idS eSI 76 [], rowE eIt 68 (.slice (some ⟨b2, 0, none⟩) 1 1) [(((0 : Int), ((0 : Int), (0 : Int)), false, (⟨#[71, 101, 116, 32, 120]⟩, false)) : Itm)]] := (SH.front [_, _, _, _, _] hS8)
  have hT1 := SH.sub (Es := [_, _, _, _, _]) hS9
  have hz2 := puty_calls (w := w2) (X := (⟨b1, m1, m2, [], [], [], [], []⟩ : IXS)) (file := ⟨#[97]⟩) (l := [(((0 : Int), ((0 : Int), (0 : Int)), false, (⟨#[71, 101, 116, 32, 120]⟩, false)) : Itm)]) (A_l := (some ⟨b2, 0, none⟩)) (c_l := 1) hT1 ((SH.stE hS9 (.head _)).imp fun _ h_ => Row.rd h_) (ixw_new _ _ _) (by omega) (by show (1 : Nat) ≤ 140737488355328; omega) (by decide) (by decide) live_nam 
  refine WL.call rfl (XC.fn Tryz.func44 (by kernel_rfl) rfl rfl rfl) (hz2) ?_
  rintro v_ w3 ⟨kv1, kw1, Pa1, Pb1, rfl, hsub1, hsub2, hv1, hU1⟩
  have hS10 := SH.back (Es := [_, _, _, _, _]) hS9 hU1
  refine WL.lv rfl (LV.as (c := false) (LV.neI rfl rfl) (by decide)) ?_
  refine WL.lv rfl (LV.pickF rfl rfl) ?_
  refine WL.nil (thenQ.n ?_)
  refine WC.condF rfl ?_
  refine WC.skip (thenQ.n ?_)
  refine WC.seq ?_
  refine WC.region ?_
  refine WL.lv rfl (LV.mv rfl) ?_
  refine WL.lv rfl (LV.build (vs := []) (places := #[(0, 1), (1, 1)]) (cs := #[(.int .i64 0), (.int .u64 0)]) Tryz.underlying26 ti26 (fun _ => by kernel_rfl) rfl rfl) ?_
  have hz3 := find_calls (w := w3) (word := ⟨#[103, 101, 116]⟩) (o := ((0 : Int), (0 : Int))) (SH.ixr5 (T1 := 68) (T2 := 76) (X := (⟨b1, m1, m2, kv1, kw1, Pa1, Pb1, (PUTF ⟨#[97]⟩ [(((0 : Int), ((0 : Int), (0 : Int)), false, (⟨#[71, 101, 116, 32, 120]⟩, false)) : Itm)] [])⟩ : IXS)) hS10 (.head _) (.tail _ (.head _)) (.tail _ (.tail _ (.head _))) (.tail _ (.tail _ (.tail _ (.head _)))) (.tail _ (.tail _ (.tail _ (.tail _ (.head _)))))) hv1 (by omega) (by show (3 : Nat) ≤ 140737488355328; omega) (⟨by show (0 : Int) ≤ 0; omega, by show (0 : Int) < 18446744073709551616; omega⟩) 
  refine WL.call rfl (XC.fn Tryz.func13 (by kernel_rfl) rfl rfl rfl) (hz3) ?_
  rintro v_ w4 ⟨A1, c1, rfl, hS11⟩
  have hS12 := SH.joinN hS10 hS11
  refine WL.lv rfl (LV.asg rfl) ?_
  refine WL.nil (thenQ.n ?_)
  refine WC.seq ?_
  refine WC.region ?_
  refine WL.lv rfl (LV.mv rfl) ?_
  refine WL.lv rfl (LV.lenL Tryz.underlying32 rfl) ?_
  refine WL.lv rfl (LV.as (LV.eqI rfl rfl) (decide_eq_true (by exact congrArg (fun l_ : List En => (l_.length : Int)) live_find))) ?_
  iterate 2 refine WL.lv rfl (LV.mv rfl) ?_
  obtain ⟨A2, c2, e1, g1⟩ := St.elt (SH.rd hS12 (.head _)) (ByteArray.empty, 0) (0 : Int) (by decide) (by rw [show FIND _ _ _ = _ from live_find]; decide)
  refine WL.lv rfl (LV.idxA Tryz.underlying32 ti49.sz rfl e1 rfl (by decide) (by rw [show FIND _ _ _ = _ from live_find]; decide)) ?_
  refine WL.lv rfl (LV.loadAgg (cs := [(.string (((FIND (⟨b1, m1, m2, kv1, kw1, Pa1, Pb1, (PUTF ⟨#[97]⟩ [(((0 : Int), ((0 : Int), (0 : Int)), false, (⟨#[71, 101, 116, 32, 120]⟩, false)) : Itm)] [])⟩ : IXS).F (LOW ⟨#[103, 101, 116]⟩) ((0 : Int), (0 : Int))).getD ((0 : Int)).toNat (ByteArray.empty, 0)).1)), (.int .i64 (((FIND (⟨b1, m1, m2, kv1, kw1, Pa1, Pb1, (PUTF ⟨#[97]⟩ [(((0 : Int), ((0 : Int), (0 : Int)), false, (⟨#[71, 101, 116, 32, 120]⟩, false)) : Itm)] [])⟩ : IXS).F (LOW ⟨#[103, 101, 116]⟩) ((0 : Int), (0 : Int))).getD ((0 : Int)).toNat (ByteArray.empty, 0)).2))]) Tryz.underlying49 rfl ti49 rfl rfl (fun j u hu => g1 _ (KB.refl No _) j u hu)) ?_
  refine WL.lv rfl (LV.build (vs := [(0, (.string ⟨#[97]⟩)), (1, (.int .i64 1))]) (places := #[(0, 1), (1, 1)]) (cs := #[(.string ⟨#[97]⟩), (.int .i64 1)]) Tryz.underlying49 ti49 (fun _ => by kernel_rfl) rfl rfl) ?_
  refine WL.lv rfl (LV.as (LV.eqG (by decide) (ae_s2 Tryz.underlying49 (by decide) (by kernel_rfl) (pt_str Tryz.underlying9 rfl) (pt_str Tryz.underlying9 rfl) (pt_int Tryz.underlying3 rfl) (pt_int Tryz.underlying3 rfl) (ae_str Tryz.underlying9) (ae_int Tryz.underlying3)) (by kernel_rfl) rfl rfl) (decide_eq_true (by rw [show FIND _ _ _ = _ from live_find]; exact ⟨rfl, rfl⟩))) ?_
  refine WL.lv rfl (LV.pickT rfl rfl) ?_
  iterate 2 refine WL.lv rfl (LV.mv rfl) ?_
  refine WL.lv rfl (LV.build (vs := []) (places := #[(0, 1), (1, 1)]) (cs := #[(.int .i64 0), (.int .u64 0)]) Tryz.underlying26 ti26 (fun _ => by kernel_rfl) rfl rfl) ?_
  have hz4 := words_calls (w := w4) (o := ((0 : Int), (0 : Int))) (SH.ixr5 (T1 := 68) (T2 := 76) (X := (⟨b1, m1, m2, kv1, kw1, Pa1, Pb1, (PUTF ⟨#[97]⟩ [(((0 : Int), ((0 : Int), (0 : Int)), false, (⟨#[71, 101, 116, 32, 120]⟩, false)) : Itm)] [])⟩ : IXS)) hS12 (.tail _ (.head _)) (.tail _ (.tail _ (.head _))) (.tail _ (.tail _ (.tail _ (.head _)))) (.tail _ (.tail _ (.tail _ (.tail _ (.head _))))) (.tail _ (.tail _ (.tail _ (.tail _ (.tail _ (.head _))))))) hv1 (by omega) (⟨by show (0 : Int) ≤ 0; omega, by show (0 : Int) < 18446744073709551616; omega⟩) 
  refine WL.call rfl (XC.fn Tryz.func9 (by kernel_rfl) rfl rfl rfl) (hz4) ?_
  rintro v_ w5 ⟨A3, c3, rfl, hS13⟩
  have hS14 := SH.joinN hS12 hS13
  refine WL.lv rfl (LV.lenL Tryz.underlying23 rfl) ?_
  refine WL.lv rfl (LV.as (LV.eqI rfl rfl) (decide_eq_true (congrArg (fun n_ : Nat => (n_ : Int)) live_words))) ?_
  refine WL.lv rfl (LV.pickT rfl rfl) ?_
  iterate 2 refine WL.lv rfl (LV.mv rfl) ?_
  refine WL.lv rfl (LV.build (vs := []) (places := #[(0, 1), (1, 1)]) (cs := #[(.int .i64 0), (.int .u64 0)]) Tryz.underlying26 ti26 (fun _ => by kernel_rfl) rfl rfl) ?_
  have hz5 := files_calls (w := w5) (o := ((0 : Int), (0 : Int))) (SH.ixr5 (T1 := 68) (T2 := 76) (X := (⟨b1, m1, m2, kv1, kw1, Pa1, Pb1, (PUTF ⟨#[97]⟩ [(((0 : Int), ((0 : Int), (0 : Int)), false, (⟨#[71, 101, 116, 32, 120]⟩, false)) : Itm)] [])⟩ : IXS)) hS14 (.tail _ (.tail _ (.head _))) (.tail _ (.tail _ (.tail _ (.head _)))) (.tail _ (.tail _ (.tail _ (.tail _ (.head _))))) (.tail _ (.tail _ (.tail _ (.tail _ (.tail _ (.head _)))))) (.tail _ (.tail _ (.tail _ (.tail _ (.tail _ (.tail _ (.head _)))))))) hv1 (by omega) (⟨by show (0 : Int) ≤ 0; omega, by show (0 : Int) < 18446744073709551616; omega⟩) 
  refine WL.call rfl (XC.fn Tryz.func11 (by kernel_rfl) rfl rfl rfl) (hz5) ?_
  rintro v_ w6 ⟨A4, c4, rfl, hS15⟩
  have hS16 := SH.joinN hS14 hS15
  refine WL.lv rfl (LV.lenL Tryz.underlying23 rfl) ?_
  refine WL.lv rfl (LV.as (LV.eqI rfl rfl) (decide_eq_true (congrArg (fun n_ : Nat => (n_ : Int)) live_files))) ?_
  refine WL.lv rfl (LV.pickT rfl rfl) ?_
  refine WL.lv rfl (LV.mv rfl) ?_
  have hz6 := of_calls (w := w6) (s := ⟨#[98, 32, 97, 32, 98]⟩) (by show (5 : Nat) ≤ 1000000; omega) 
  refine WL.call rfl (XC.fn Tryz.func15 (by kernel_rfl) rfl rfl rfl) (hz6) ?_
  rintro v_ w7 ⟨A5, c5, rfl, hS17⟩
  have hS18 := SH.joinN hS16 hS17
  refine WL.lv rfl (LV.lenL Tryz.underlying23 rfl) ?_
  refine WL.lv rfl (LV.as (LV.eqI rfl rfl) (decide_eq_true (congrArg (fun n_ : Nat => (n_ : Int)) live_of))) ?_
  refine WL.lv rfl (LV.pickT rfl rfl) ?_
  refine WL.lv rfl (LV.asg rfl) ?_
  refine WL.nil (thenQ.n ?_)
  refine WC.ret (?_)
  exact ⟨_, fun a ha => res1 rfl ha rfl, rfl, hS18.kb⟩

end Go.Proofs.YtigbphaimbhgjaaGreat

namespace Go.Gv
open Go Go.RowKit
def IsRow (k : IntKind) (w : World) (a : Option Addr) (len cap : Nat) (zs : List Int) : Prop :=
  (a = none ∧ len = 0 ∧ cap = 0 ∧ zs = []) ∨
  ∃ x, a = some x ∧ len ≤ cap ∧ cap ≤ maxLen ∧ zs.length = cap ∧ (∀ i, i < zs.length → w.cell? (x.add i) = some (.int k (zs.getD i 0))) ∧ ∀ n ∈ zs, (Lit.int k n).wf = true
theorem eI_get (xs : List Int) (j : Nat) (u : Value) (h : (eI.cells xs)[j]? = some u) : ∃ x, xs[j]? = some x ∧ u = .int .i64 x := by
  have e : ∀ xs : List Int, eI.cells xs = xs.map (fun x => Value.int .i64 x) := fun xs => by
    induction xs with
    | nil => rfl
    | cons x xs ih => rw [El.cells_cons, ih]; rfl
  rw [e, List.getElem?_map] at h
  obtain ⟨x, hx, e⟩ := Option.map_eq_some_iff.1 h
  exact ⟨x, hx, e.symm⟩
theorem eU8_get (xs : List Int) (j : Nat) (u : Value) (h : (eU8.cells xs)[j]? = some u) : ∃ x, xs[j]? = some x ∧ u = .int .u8 x := by
  have e : ∀ xs : List Int, eU8.cells xs = xs.map (fun x => Value.int .u8 x) := fun xs => by
    induction xs with
    | nil => rfl
    | cons x xs ih => rw [El.cells_cons, ih]; rfl
  rw [e, List.getElem?_map] at h
  obtain ⟨x, hx, e⟩ := Option.map_eq_some_iff.1 h
  exact ⟨x, hx, e.symm⟩
theorem IsRow.rd {w : World} {a : Option Addr} {len cap : Nat} {zs : List Int} (h : IsRow .i64 w a len cap zs) : ∃ l : List Int, len = l.length ∧ St No w (Rd eI (.slice a l.length cap) l) ∧ ∀ n ∈ l, -9223372036854775808 ≤ n ∧ n ≤ 9223372036854775807 := by
  rcases h with ⟨rfl, rfl, rfl, rfl⟩ | ⟨x, rfl, h1, h2, h3, h4, h5⟩
  · exact ⟨[], rfl, Rd.stN Rd.nil, by simp⟩
  · have hl : (zs.take len).length = len := by rw [List.length_take]; omega
    refine ⟨zs.take len, hl.symm, Rd.stN ⟨some x, cap, rfl, by omega, h2, fun _ => ⟨x, rfl, fun j u hu => ?_⟩⟩, fun n hn => ?_⟩
    · obtain ⟨y, hy, rfl⟩ := eI_get _ _ _ hu
      rw [List.getElem?_take] at hy
      split at hy
      · have hj := (List.getElem?_eq_some_iff.1 hy).1
        rw [h4 j hj]
        simp [List.getD, hy]
      · simp at hy
    · have := h5 n (List.mem_of_mem_take hn)
      simp [Lit.wf, IntKind.min, IntKind.max, IntKind.signed, IntKind.bits] at this
      omega
theorem IsRow.rd8 {w : World} {a : Option Addr} {len cap : Nat} {zs : List Int} (h : IsRow .u8 w a len cap zs) : ∃ l : List Int, len = l.length ∧ St No w (Rd eU8 (.slice a l.length cap) l) ∧ ∀ n ∈ l, 0 ≤ n ∧ n ≤ 255 := by
  rcases h with ⟨rfl, rfl, rfl, rfl⟩ | ⟨x, rfl, h1, h2, h3, h4, h5⟩
  · exact ⟨[], rfl, Rd.stN Rd.nil, by simp⟩
  · have hl : (zs.take len).length = len := by rw [List.length_take]; omega
    refine ⟨zs.take len, hl.symm, Rd.stN ⟨some x, cap, rfl, by omega, h2, fun _ => ⟨x, rfl, fun j u hu => ?_⟩⟩, fun n hn => ?_⟩
    · obtain ⟨y, hy, rfl⟩ := eU8_get _ _ _ hu
      rw [List.getElem?_take] at hy
      split at hy
      · have hj := (List.getElem?_eq_some_iff.1 hy).1
        rw [h4 j hj]
        simp [List.getD, hy]
      · simp at hy
    · have := h5 n (List.mem_of_mem_take hn)
      simp [Lit.wf, IntKind.min, IntKind.max, IntKind.signed, IntKind.bits] at this
      omega
theorem int_bd {n : Int} (h : (Lit.int .i64 n).wf = true) : -9223372036854775808 ≤ n ∧ n ≤ 9223372036854775807 := by
  simp [Lit.wf, IntKind.min, IntKind.max, IntKind.signed, IntKind.bits] at h
  omega
theorem int_bd8 {n : Int} (h : (Lit.int .u8 n).wf = true) : 0 ≤ n ∧ n ≤ 255 := by
  simp [Lit.wf, IntKind.min, IntKind.max, IntKind.signed, IntKind.bits] at h
  omega
end Go.Gv

namespace Go.Gv
open Go Go.RowKit
section
variable {H : Type} {enc : TypeId × Value → H} {P : Program} {w : World}
/-- Cells that read by a type are an element's cells. -/
def Opn (enc : TypeId × Value → H) (P : Program) (w : World) (t : TypeId) {α : Type} (f : α → List Value) (K : α → Prop) : Prop :=
  ∀ fuel cs d ps, DataW.trod enc P w 0 (fun _ => true) true fuel t cs = some (d, ps) → (∀ n ∈ DataW.weights P t d, n ≤ reachBytes) → ∃ a, cs = f a ∧ K a
theorem opn_map {t : TypeId} {α β : Type} {f : α → List Value} {g : β → List Value} {K : α → Prop} (φ : α → β) (h : Opn enc P w t f K) (hg : ∀ a, f a = g (φ a)) : Opn enc P w t g (fun b => ∃ a, φ a = b ∧ K a) := fun fuel cs d ps h1 h2 => by
  obtain ⟨a, e, k⟩ := h fuel cs d ps h1 h2
  exact ⟨φ a, e.trans (hg a), a, rfl, k⟩
theorem opn_imp {t : TypeId} {α : Type} {f : α → List Value} {K K' : α → Prop} (h : Opn enc P w t f K) (hk : ∀ a, K a → K' a) : Opn enc P w t f K' := fun fuel cs d ps h1 h2 => by
  obtain ⟨a, e, k⟩ := h fuel cs d ps h1 h2
  exact ⟨a, e, hk a k⟩
theorem opn_int {t : TypeId} {k : IntKind} (ht : P.underlying t = some (.int k)) : Opn enc P w t (fun x : Int => [.int k x]) (fun x => (Lit.int k x).wf = true) := fun fuel cs d ps h1 _ => by
  obtain ⟨n, e, _, hw⟩ := DataW.trod_int ht h1
  exact ⟨n, e, hw⟩
theorem opn_bool {t : TypeId} (ht : P.underlying t = some .bool) : Opn enc P w t (fun x : Bool => [.bool x]) (fun _ => True) := fun fuel cs d ps h1 _ => by
  obtain ⟨n, e, _⟩ := DataW.trod_bool ht h1
  exact ⟨n, e, trivial⟩
theorem opn_str {t : TypeId} (ht : P.underlying t = some .string) : Opn enc P w t (fun x : ByteArray => [.string x]) (fun x => x.size ≤ reachBytes) := fun fuel cs d ps h1 h2 => by
  obtain ⟨s, e, hx, _⟩ := DataW.trod_string ht h1
  refine ⟨s, e, ?_⟩
  injection hx with hd _
  subst hd
  have := h2 s.data.toList.length (by simp [DataW.weights])
  simpa using this
theorem opn_flt {t : TypeId} {k : FloatKind} (ht : P.underlying t = some (.float k)) : Opn enc P w t (fun x : Nat => [.float k x]) (fun x => (Lit.float k x).wf = true) := fun fuel cs d ps h1 _ => by
  cases fuel with
  | zero => simp [DataW.trod] at h1
  | succ n =>
    unfold DataW.trod at h1
    rw [ht] at h1
    split at h1 <;> simp_all
/-! #### structs, field by field -/
def OpnF (enc : TypeId × Value → H) (P : Program) (w : World) (fs : List Field) (o : Nat) {α : Type} (f : α → List Value) (K : α → Prop) : Prop :=
  ∀ (fuel : Nat) (cs : List Value) (xs : List (DataW H × List MemPlace)), xs.length = fs.length → (∀ (i : Nat) (fl : Field), fs[i]? = some fl → DataW.trod enc P w 0 (fun _ => true) true fuel fl.type ((cs.drop fl.offset).take (P.cellsOf fl.type)) = xs[i]?) →
    cs.length = o + (fs.map fun fl => P.cellsOf fl.type).sum → (∀ n ∈ DataW.weightsEach P (fs.map (·.type)) (xs.map (·.1)), n ≤ reachBytes) → ∃ a, cs.drop o = f a ∧ K a
theorem opnF_one {fl : Field} {o : Nat} {α : Type} {f : α → List Value} {K : α → Prop} (ho : fl.offset = o) (h : Opn enc P w fl.type f K) : OpnF enc P w [fl] o f K := fun fuel cs xs hl hx hc hw => by
  match xs, hl with
  | [x], _ =>
    have h1 := hx 0 fl rfl
    simp only [List.getElem?_cons_zero] at h1
    obtain ⟨a, e, k⟩ := h fuel _ x.1 x.2 h1 (fun n hn => hw n (by simp [DataW.weightsEach, hn]))
    refine ⟨a, ?_, k⟩
    rw [← e, ho, List.take_of_length_le]
    simp at hc
    simp [hc]
theorem opnF_cons {fl : Field} {fs : List Field} {o s : Nat} {α β : Type} {f : α → List Value} {g : β → List Value} {K : α → Prop} {J : β → Prop} (ho : fl.offset = o) (hs : P.cellsOf fl.type = s) (h : Opn enc P w fl.type f K) (hr : OpnF enc P w fs (o + s) g J) :
    OpnF enc P w (fl :: fs) o (fun p : α × β => f p.1 ++ g p.2) (fun p => K p.1 ∧ J p.2) := fun fuel cs xs hl hx hc hw => by
  match xs, hl with
  | x :: xs, hl =>
    have h1 := hx 0 fl rfl
    simp only [List.getElem?_cons_zero] at h1
    obtain ⟨a, e, k⟩ := h fuel _ x.1 x.2 h1 (fun n hn => hw n (by simp [DataW.weightsEach, hn]))
    obtain ⟨b, e2, j⟩ := hr fuel cs xs (by simpa using hl) (fun i fl' hi => by have := hx (i + 1) fl' (by simpa using hi); simpa using this) (by simp only [List.map_cons, List.sum_cons, hs] at hc; omega) (fun n hn => hw n (by
      simp only [List.map_cons, DataW.weightsEach, List.mem_append]; exact .inr hn))
    refine ⟨(a, b), ?_, k, j⟩
    simp only
    rw [← e, ← e2, ho, hs, ← List.drop_drop, List.take_append_drop]
theorem opn_struct {t : TypeId} {fs : Array Field} {α : Type} {f : α → List Value} {K : α → Prop} (ht : P.underlying t = some (.struct fs)) (hc : P.cellsOf t = (fs.toList.map fun fl => P.cellsOf fl.type).sum) (h : OpnF enc P w fs.toList 0 f K) : Opn enc P w t f K := fun fuel cs d ps h1 h2 => by
  obtain ⟨xs, n, rfl, hxy, hl, hlen, hx⟩ := DataW.trod_struct ht h1
  injection hxy with hd _
  subst hd
  obtain ⟨a, e, k⟩ := h n cs xs (by simpa using hlen) (fun i fl hi => hx i fl (by simpa using hi)) (by rw [hl, hc]; simp) (fun m hm => h2 m (by simp only [DataW.weights, ht]; exact hm))
  exact ⟨a, by simpa using e, k⟩
/-! #### slices -/
def SK {α : Type} (E : El α) (P : Program) (e : TypeId) (K : α → Prop) (w : World) (p : SV × List α) : Prop := p.1.n = p.2.length ∧ Rd E p.1.v p.2 w ∧ (∀ x ∈ p.2, K x) ∧ p.2.length * P.bytesOf e ≤ reachBytes
theorem list_of {α : Type} {n : Nat} {K : Nat → α → Prop} (h : ∀ i, i < n → ∃ a, K i a) : ∃ l : List α, l.length = n ∧ ∀ i a, l[i]? = some a → K i a := by
  induction n with
  | zero => exact ⟨[], rfl, fun i a h => by simp at h⟩
  | succ n ih =>
    obtain ⟨l, hl, hk⟩ := ih fun i hi => h i (by omega)
    obtain ⟨a, ha⟩ := h n (by omega)
    refine ⟨l ++ [a], by simp [hl], fun i b hb => ?_⟩
    rcases Nat.lt_or_ge i l.length with hlt | hge
    · rw [List.getElem?_append_left hlt] at hb; exact hk i b hb
    · rw [List.getElem?_append_right hge] at hb
      rcases Nat.eq_or_lt_of_le hge with he | hgt
      · subst he; simp at hb; subst hb; rw [hl]; exact ha
      · rw [List.getElem?_eq_none (by simp; omega)] at hb; cases hb
theorem weightsAll_mem {e : TypeId} : ∀ (l : List (DataW H)) (d : DataW H), d ∈ l → ∀ n ∈ DataW.weights P e d, n ∈ DataW.weightsAll P e l
  | [], _, h, _, _ => by cases h
  | x :: l, d, h, n, hn => by
    simp only [DataW.weightsAll, List.mem_append]
    rcases List.mem_cons.1 h with rfl | h
    · exact .inl hn
    · exact .inr (weightsAll_mem l d h n hn)
theorem opn_slice {t e : TypeId} {α : Type} {E : El α} {K : α → Prop} (ht : P.underlying t = some (.slice e)) (hz : P.cellsOf e = E.sz) (h : Opn enc P w e E.enc K) : Opn enc P w t (fun p : SV × List α => [p.1.v]) (SK E P e K w) := fun fuel cs d ps h1 h2 => by
  rcases Deep.open_slice ht h1 with ⟨rfl, hx⟩ | ⟨a, len, cap, m, n, D, Pl, rfl, _, hl, hm, hmm, hx, hel⟩
  · exact ⟨(⟨none, 0, 0⟩, []), rfl, rfl, ⟨none, 0, rfl, by simp, by simp [maxLen], fun h => absurd h (by simp)⟩, by simp, by simp⟩
  · injection hx with hd _
    subst hd
    have hmc : len ≤ m := by rw [hmm]; split <;> omega
    have hw : ∀ i, i < len → ∀ k ∈ DataW.weights P e (D i), k ≤ reachBytes := fun i hi k hk => h2 k (by
      simp only [DataW.weights, ht, List.mem_cons, List.mem_append]
      exact .inr (.inl (weightsAll_mem _ (D i) (List.mem_map.2 ⟨i, List.mem_range.2 hi, rfl⟩) k hk)))
    obtain ⟨l, hl2, hk⟩ := list_of (K := fun i (x : α) => (w.cells? 0 (a.add (i * P.cellsOf e)) (P.cellsOf e) = some (E.enc x)) ∧ K x) (n := len) (fun i hi => by
      obtain ⟨cs', g1, g2⟩ := hel i (by omega)
      obtain ⟨x, e1, k⟩ := h n cs' (D i) (Pl i) g2 (hw i hi)
      exact ⟨x, e1 ▸ g1, k⟩)
    refine ⟨(⟨some a, len, cap⟩, l), rfl, hl2.symm, ⟨some a, cap, by rw [hl2]; rfl, by simp only [hl2]; exact hl, hm, fun _ => ⟨a, rfl, fun j u hu => ?_⟩⟩, fun x hx => ?_, ?_⟩
    · have hlt : j < (E.cells l).length := (List.getElem?_eq_some_iff.1 hu).1
      rw [E.cells_length] at hlt
      have hsz : 0 < E.sz := Nat.pos_of_ne_zero (by intro h0; rw [h0] at hlt; omega)
      have hq : j / E.sz < l.length := by rw [Nat.div_lt_iff_lt_mul hsz]; exact hlt
      have hdm : j / E.sz * E.sz + j % E.sz = j := by rw [Nat.mul_comm]; exact Nat.div_add_mod j E.sz
      have hgq : l[j / E.sz]? = some l[j / E.sz] := List.getElem?_eq_getElem hq
      have hml : j % E.sz < E.sz := Nat.mod_lt _ hsz
      have h3 := (hk _ _ hgq).1
      obtain ⟨_, h4, h5⟩ := World.cells?_some h3
      have h6 := h5 (j % E.sz) (by rw [hz]; exact hml)
      rw [addr_add', hz, hdm] at h6
      have h7 := E.cells_get l (j / E.sz) _ (j % E.sz) _ hgq (List.getElem?_eq_getElem (by rw [E.len]; exact hml))
      rw [hdm] at h7
      rw [h7] at hu
      rw [h6, ← hu, List.getElem?_eq_getElem (by rw [E.len]; exact hml)]
    · obtain ⟨i, hi⟩ := List.mem_iff_getElem?.1 hx
      exact (hk i x hi).2
    · have := h2 ((len + (m - len)) * P.bytesOf e) (by simp [DataW.weights, ht])
      refine Nat.le_trans (Nat.mul_le_mul_right _ ?_) this
      simp only [hl2]; omega
/-- Inner rows, chosen one by one. -/
theorem rows_of {ρ α : Type} {xs : List ρ} {J : ρ → List α → Prop} (h : ∀ x ∈ xs, ∃ l, J x l) : ∃ rows : List (ρ × List α), rows.map (·.1) = xs ∧ ∀ p ∈ rows, J p.1 p.2 := by
  induction xs with
  | nil => exact ⟨[], rfl, by simp⟩
  | cons x xs ih =>
    obtain ⟨rows, e, hj⟩ := ih fun y hy => h y (by simp [hy])
    obtain ⟨l, hl⟩ := h x (by simp)
    exact ⟨(x, l) :: rows, by simp [e], fun p hp => by
      rcases List.mem_cons.1 hp with rfl | hp
      · exact hl
      · exact hj p hp⟩
/-- A slice that is an argument. -/
theorem open_arg {t e : TypeId} {α : Type} {E : El α} {K : α → Prop} (ht : P.underlying t = some (.slice e)) (hz : P.cellsOf e = E.sz) (h : Opn enc P w e E.enc K) {a : Option Addr} {len cap : Nat} {d : DataW H} {ps : List MemPlace}
    (hd : DataW.Trod enc P w 0 (fun _ => true) true t (.slice a len cap) d ps) (hw : ∀ n ∈ DataW.weights P t d, n ≤ reachBytes) : ∃ l : List α, len = l.length ∧ St No w (Rd E (.slice a l.length cap) l) ∧ (∀ x ∈ l, K x) ∧ l.length * P.bytesOf e ≤ reachBytes := by
  obtain ⟨fuel, hf⟩ := hd
  obtain ⟨p, h1, h2, h3, h4, h5⟩ := opn_slice ht hz h fuel _ d ps hf hw
  have h6 : [Value.slice a len cap] = [p.1.v] := by simpa [Value.cells] using h1
  injection h6 with h6 _
  obtain ⟨⟨A, n, c⟩, l⟩ := p
  simp only [SV.v] at h2 h3 h6
  injection h6 with e1 e2 e3
  subst e1; subst e2; subst e3
  exact ⟨l, h2, Rd.stN (h2 ▸ h3), h4, h5⟩
theorem weights_at {ts : List TypeId} {ds : List (DataW H)} (h : (DataW.weightsEach P ts ds).all (· ≤ reachBytes) = true) {j : Nat} {t : TypeId} {d : DataW H} (ht : ts[j]? = some t) (hd : ds[j]? = some d) : ∀ n ∈ DataW.weights P t d, n ≤ reachBytes := fun n hn => by
  have := List.all_eq_true.1 h n (DataW.weights_mem_each ht hd n hn)
  simpa using this
/-- An argument of one cell or a struct. -/
theorem open_val {t : TypeId} {α : Type} {f : α → List Value} {K : α → Prop} (h : Opn enc P w t f K) {v : Value} {d : DataW H} {ps : List MemPlace}
    (hd : DataW.Trod enc P w 0 (fun _ => true) true t v d ps) (hw : ∀ n ∈ DataW.weights P t d, n ≤ reachBytes) : ∃ x, v.cells.toList = f x ∧ K x := by
  obtain ⟨fuel, hf⟩ := hd
  exact h fuel _ d ps hf hw
theorem agg_of {cs : Array Value} {l : List Value} (h : (Value.agg cs).cells.toList = l) : Value.agg cs = .agg l.toArray := by
  have : cs.toList = l := by simpa [Value.cells] using h
  rw [← this]
/-! #### lines and scripts -/
theorem opn_line {t : TypeId} {f0 f1 : Field} (ht : P.underlying t = some (.struct #[f0, f1])) (h0 : P.underlying f0.type = some .string) (h1 : P.underlying f1.type = some .bool) (hc : P.cellsOf f0.type = 1 ∧ P.cellsOf f1.type = 1 ∧ P.cellsOf t = 2 ∧ f0.offset = 0 ∧ f1.offset = 1) :
    Opn enc P w t eL.enc (fun x => x.1.size ≤ reachBytes) :=
  opn_imp (opn_struct (f := eL.enc) ht (by simp [hc.1, hc.2.1, hc.2.2.1]) (opnF_cons (f := fun x : ByteArray => [.string x]) (g := fun x : Bool => [.bool x]) hc.2.2.2.1 hc.1 (opn_str h0) (opnF_one hc.2.2.2.2 (opn_bool h1)))) fun _ h => h.1
theorem opn_edit {t tl : TypeId} {f0 f1 : Field} {K : Ln → Prop} (ht : P.underlying t = some (.struct #[f0, f1])) (h0 : P.underlying f0.type = some (.int .i64)) (h1 : P.underlying f1.type = some (.slice tl)) (hc : P.cellsOf f0.type = 1 ∧ P.cellsOf f1.type = 1 ∧ P.cellsOf t = 2 ∧ f0.offset = 0 ∧ f1.offset = 1) (hl : P.cellsOf tl = 2) (h : Opn enc P w tl eL.enc K) :
    Opn enc P w t eE.enc (fun x => ∃ l : List Ln, Rd eL x.2.v l w ∧ l.length * P.bytesOf tl ≤ reachBytes ∧ ∀ y ∈ l, K y) :=
  opn_imp (opn_map (f := fun p : Int × (SV × List Ln) => [.int .i64 p.1] ++ [p.2.1.v]) (g := eE.enc) (fun p : Int × (SV × List Ln) => (p.1, p.2.1)) (opn_struct ht (by simp [hc.1, hc.2.1, hc.2.2.1]) (opnF_cons (f := fun x : Int => [.int .i64 x]) (g := fun p : SV × List Ln => [p.1.v]) hc.2.2.2.1 hc.1 (opn_int h0) (opnF_one hc.2.2.2.2 (opn_slice h1 hl h)))) fun _ => rfl)
    fun x ⟨a, e, h⟩ => ⟨a.2.2, by subst e; exact h.2.2.1, by exact h.2.2.2.2, h.2.2.2.1⟩
theorem script_of {v : Value} {xs : List ED} {B : Nat} {K : Ln → Prop} (h : St No w (Rd eE v xs)) (hx : ∀ x ∈ xs, ∃ l : List Ln, Rd eL x.2.v l w ∧ l.length * B ≤ reachBytes ∧ ∀ y ∈ l, K y) (hB : 1 ≤ B) :
    ∃ inp : List (ED × List Ln), xs = inp.map (·.1) ∧ St No w (Rd eE v (inp.map (·.1))) ∧ St No w (RdIn (·.2) eL inp) ∧ (∀ p ∈ inp, p.2.length ≤ 140737488355328) := by
  obtain ⟨rows, e, hj⟩ := rows_of (J := fun (x : ED) l => Rd eL x.2.v l w ∧ l.length * B ≤ reachBytes ∧ ∀ y ∈ l, K y) hx
  refine ⟨rows, e.symm, e ▸ h, fun w' hk p hp => Rd.stN (hj p hp).1 w' hk, fun p hp => ?_⟩
  have h1 := (hj p hp).2.1
  have h2 : p.2.length * 1 ≤ p.2.length * B := Nat.mul_le_mul_left _ hB
  have : reachBytes = 0x7ffffffff000 := rfl
  omega
/-- Rows of lines. -/
theorem rr_of {α : Type} {E : El α} {v : Value} {xs : List SV} {J : List α → Prop} (h : St No w (Rd eV v xs)) (hx : ∀ x ∈ xs, ∃ l : List α, Rd E x.v l w ∧ J l) :
    ∃ rows : List (SV × List α), xs = rows.map (·.1) ∧ St No w (RdRR E v rows) ∧ ∀ p ∈ rows, J p.2 := by
  obtain ⟨rows, e, hj⟩ := rows_of (J := fun (x : SV) l => Rd E x.v l w ∧ J l) hx
  refine ⟨rows, e.symm, fun w' hk => ⟨?_, fun p hp => Rd.stN (hj p hp).1 w' hk⟩, fun p hp => (hj p hp).2⟩
  rw [e]; exact h w' hk
theorem opn_sv {t te : TypeId} {α : Type} {E : El α} {K : α → Prop} (ht : P.underlying t = some (.slice te)) (hz : P.cellsOf te = E.sz) (h : Opn enc P w te E.enc K) : Opn enc P w t eV.enc (fun x => ∃ l : List α, Rd E x.v l w ∧ l.length * P.bytesOf te ≤ reachBytes ∧ ∀ y ∈ l, K y) :=
  opn_imp (opn_map (g := eV.enc) (fun p : SV × List α => p.1) (opn_slice ht hz h) fun _ => rfl) fun _ ⟨a, e, h⟩ => ⟨a.2, by subst e; exact h.2.1, h.2.2.2, h.2.2.1⟩
end
end Go.Gv

namespace Go.Gv
open Go Go.RowKit
section
variable {H : Type} {enc : TypeId × Value → H} {P : Program} {w : World}
theorem opn_lb {t : TypeId} {f0 f1 : Field} (ht : P.underlying t = some (.struct #[f0, f1])) (h0 : P.underlying f0.type = some (.int .i64)) (h1 : P.underlying f1.type = some (.int .u64)) (hc : P.cellsOf f0.type = 1 ∧ P.cellsOf f1.type = 1 ∧ P.cellsOf t = 2 ∧ f0.offset = 0 ∧ f1.offset = 1) :
    Opn enc P w t eLb.enc (fun x => Go.Tly.WLB x) :=
  opn_imp (opn_struct (f := eLb.enc) ht (by simp [hc.1, hc.2.1, hc.2.2.1]) (opnF_cons (f := fun x : Int => [.int .i64 x]) (g := fun x : Int => [.int .u64 x]) hc.2.2.2.1 hc.1 (opn_int h0) (opnF_one hc.2.2.2.2 (opn_int h1)))) fun x h => by
    have h1 := h.1
    have h2 := h.2
    simp [Lit.wf, IntKind.min, IntKind.max, IntKind.signed, IntKind.bits] at h1 h2
    exact ⟨by omega, by omega, by omega, by omega⟩
theorem opn_it {t : TypeId} {f0 f1 f2 f3 g0 g1 l0 l1 : Field} (ht : P.underlying t = some (.struct #[f0, f1, f2, f3])) (h0 : P.underlying f0.type = some (.int .i64)) (h1 : P.underlying f1.type = some (.struct #[g0, g1])) (h10 : P.underlying g0.type = some (.int .i64)) (h11 : P.underlying g1.type = some (.int .u64))
    (h2 : P.underlying f2.type = some .bool) (h3 : P.underlying f3.type = some (.struct #[l0, l1])) (h30 : P.underlying l0.type = some .string) (h31 : P.underlying l1.type = some .bool)
    (hc : P.cellsOf t = 6 ∧ P.cellsOf f0.type = 1 ∧ P.cellsOf f1.type = 2 ∧ P.cellsOf f2.type = 1 ∧ P.cellsOf f3.type = 2 ∧ f0.offset = 0 ∧ f1.offset = 1 ∧ f2.offset = 3 ∧ f3.offset = 4)
    (hg : P.cellsOf g0.type = 1 ∧ P.cellsOf g1.type = 1 ∧ P.cellsOf f1.type = 2 ∧ g0.offset = 0 ∧ g1.offset = 1) (hl : P.cellsOf l0.type = 1 ∧ P.cellsOf l1.type = 1 ∧ P.cellsOf f3.type = 2 ∧ l0.offset = 0 ∧ l1.offset = 1) :
    Opn enc P w t eIt.enc (fun x => Go.Tly.WLB x.2.1) :=
  opn_imp (opn_struct (f := eIt.enc) ht (by simp [hc.1, hc.2.1, hc.2.2.1, hc.2.2.2.1, hc.2.2.2.2.1])
    (opnF_cons (f := fun x : Int => [.int .i64 x]) (g := fun p : Lb × (Bool × Ln) => eLb.enc p.1 ++ ([.bool p.2.1] ++ eL.enc p.2.2)) hc.2.2.2.2.2.1 hc.2.1 (opn_int h0)
      (opnF_cons (f := eLb.enc) (g := fun p : Bool × Ln => [.bool p.1] ++ eL.enc p.2) hc.2.2.2.2.2.2.1 hc.2.2.1 (opn_lb h1 h10 h11 hg)
        (opnF_cons (f := fun x : Bool => [.bool x]) (g := eL.enc) hc.2.2.2.2.2.2.2.1 hc.2.2.2.1 (opn_bool h2) (opnF_one hc.2.2.2.2.2.2.2.2 (opn_line h3 h30 h31 hl)))))) fun x h => h.2.1
end
end Go.Gv

