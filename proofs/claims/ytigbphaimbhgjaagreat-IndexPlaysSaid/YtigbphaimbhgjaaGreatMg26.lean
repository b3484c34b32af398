/- Names refused; files dropped; the document's Put. -/
import Derived.Test.YtigbphaimbhgjaaGreatMg24
import Derived.Test.YtigbphaimbhgjaaGreatMg25
namespace Go.Proofs.YtigbphaimbhgjaaGreat
open Go Go.Gv Go.RowKit Go.Tly Go.Wds Go.Idx
set_option linter.unusedVariables false
set_option linter.unusedSimpArgs false
theorem ti41 : TI Tryz.prog 41 (.slice none 0 0) 1 24 := by unfold TI; kernel_rfl
theorem ti64 : TI Tryz.prog 64 (.agg #[(.string ⟨#[]⟩), (.slice none 0 0)]) 2 40 := by unfold TI; kernel_rfl

theorem putn_calls {w : World} {b : Nat} {file : ByteArray} {A_l : Option Addr} {n_l c_l : Nat} (hz : file.size ≤ 140737488355328) (hN : ¬ NAM file) :
    Calls Tryz.prog 44 #[(.pointer (some ⟨b, 0, none⟩)), (.string file), (.slice A_l n_l c_l)] w fun e w' => ∃ v, e = .returned v ∧ (fun v w' => v = .int .i64 2 ∧ KB No w w') v w' := by
  have hS : SH w No w [] := SH.nil _ _
  refine calls (l := litOf [(.pointer (some ⟨b, 0, none⟩)), (.string file), (.slice A_l n_l c_l)] 0) Tryz.func44 rfl (n := 91) rfl (Nat.le_of_ble_eq_true rfl) (lit_args _) ?_
  refine WC.seq ?_
  refine WC.region ?_
  refine WL.lv rfl (LV.asg rfl) ?_
  refine WL.nil (thenQ.n ?_)
  refine WC.seq ?_
  refine WC.block ?_
  refine WC.seq ?_
  refine WC.region ?_
  refine WL.lv rfl (LV.mv rfl) ?_
  refine WL.lv rfl (LV.eqPS Tryz.underlying27 rfl rfl) ?_
  refine WL.lv rfl (LV.asg rfl) ?_
  refine WL.nil (thenQ.n ?_)
  refine WC.condF rfl ?_
  refine WC.seq ?_
  refine WC.region ?_
  refine WL.lv rfl (LV.mv rfl) ?_
  refine WL.call rfl (XC.fn Tryz.func65 (by kernel_rfl) rfl rfl rfl) (Calls.asB (name_calls (s := file) (hz)) (decide_eq_false (hN))) ?_
  rintro v_ w1 ⟨rfl, hk1⟩
  have hS1 := SH.same hS hk1
  refine WL.lv rfl (LV.notB rfl) ?_
  refine WL.lv rfl (LV.asg rfl) ?_
  refine WL.nil (thenQ.n ?_)
  refine WC.condT rfl ?_
  refine WC.seq ?_
  refine WC.region ?_
  refine WL.lv rfl (LV.asg rfl) ?_
  refine WL.nil (thenQ.n ?_)
  refine WC.ret (blockQ.r <| thenQ.r <| ?_)
  exact ⟨_, fun a ha => res1 rfl ha rfl, rfl, hS1.kb⟩

theorem dropy_calls {w : World} {S : Nat → Prop} {X : IXS} {n_X : Nat} {fl : ByteArray} (hS0 : SH w S w (ixL 62 68 76 X)) (hv : IXW n_X X) (hm : n_X ≤ 30) (hK : (lookL X.F fl).isSome = true) :
    Calls Tryz.prog 46 #[(.pointer (some ⟨X.b, 0, none⟩)), (.string fl)] w fun e w' => ∃ v, e = .returned v ∧ (fun v w' => ∃ (kv1' kv2' : KVS) (P2' : PLE), v = .int .i64 0 ∧ (∀ r ∈ X.P2, r ∈ P2') ∧ IXW n_X (⟨X.b, X.m1, X.m2, kv1', kv2', X.P1, P2', (WOF X.F fl)⟩ : IXS) ∧ SH w S w' (ixL 62 68 76 (⟨X.b, X.m1, X.m2, kv1', kv2', X.P1, P2', (WOF X.F fl)⟩ : IXS))) v w' := by
  have hS : SH w S w [blkE X.b 62 #[(.map (some X.m1)), (.map (some X.m2))], mapG kS kV X.m1 X.kv1, mapG kS kV X.m2 X.kv2, insE idS eIt 68 X.P1, insE idS eSI 76 X.P2] := hS0
  refine calls (l := litOf [(.pointer (some ⟨X.b, 0, none⟩)), (.string fl)] 0) Tryz.func46 rfl (n := 23) rfl (Nat.le_of_ble_eq_true rfl) (lit_args _) ?_
  refine WC.seq ?_
  refine WC.region ?_
  refine WL.lv rfl (LV.asg rfl) ?_
  refine WL.nil (thenQ.n ?_)
  iterate 2 refine WC.seq ?_
  refine WC.region ?_
  refine WL.lv rfl (LV.mv rfl) ?_
  refine WL.lv rfl (LV.eqPS Tryz.underlying27 rfl rfl) ?_
  refine WL.nil (thenQ.n ?_)
  refine WC.condF rfl ?_
  refine WC.skip (thenQ.n ?_)
  iterate 2 refine WC.seq ?_
  refine WC.region ?_
  refine WL.lv rfl (LV.mv rfl) ?_
  refine WL.lv rfl (LV.nilCheck rfl) ?_
  refine WL.lv rfl (LV.fieldA Tryz.underlying62 rfl ti60.sz rfl) ?_
  refine WL.lv rfl (LV.load1 Tryz.underlying60 rfl rfl (Blk.cellN (SH.at hS (.head _)) 0 rfl _ (KB.refl No _))) ?_
  refine WL.lv rfl (LV.mv rfl) ?_
  obtain ⟨A1, c1, hv1, hr1⟩ := look_at (FILES.atL hv.fs fl) (SH.rdIn hS (.tail _ (.tail _ (.tail _ (.head _)))))
  refine WL.lv rfl (LV.to (congrArg (fun v_ => Value.tuple #[v_, .bool (lookL X.kv1 fl).isSome]) hv1) (LV.lookOkG (q := fl) (V := kV) (z := svZ) (key_str Tryz.underlying9) Tryz.underlying60 ti45 (SH.at hS (.tail _ (.head _))) rfl rfl)) ?_
  refine WL.lv rfl (LV.mv rfl) ?_
  iterate 2 refine WL.lv rfl (LV.extract rfl rfl) ?_
  iterate 2 refine WL.lv rfl (LV.asg rfl) ?_
  refine WL.nil (thenQ.n ?_)
  refine WC.seq ?_
  refine WC.region ?_
  refine WL.lv rfl (LV.mv rfl) ?_
  refine WL.lv rfl (LV.notB rfl) ?_
  refine WL.nil (thenQ.n ?_)
  refine WC.cond (b := !((lookL X.kv1 fl).isSome)) rfl (fun hc1 => ?_) (fun hc1 => ?_)
  · exact absurd hc1 (by rw [known_iff hv, hK]; simp)
  · skip
    refine WC.skip (thenQ.n ?_)
    refine WC.seq ?_
    refine WC.region ?_
    iterate 2 refine WL.lv rfl (LV.mv rfl) ?_
    have hS1 : SH w S w [insE idS eSI 76 X.P2, blkE X.b 62 #[(.map (some X.m1)), (.map (some X.m2))], mapG kS kV X.m1 X.kv1, mapG kS kV X.m2 X.kv2, insE idS eIt 68 X.P1] := (SH.front [_, _, _, _] hS)
    have hS2 : SH w S w [insE idS eIt 68 X.P1, insE idS eSI 76 X.P2, blkE X.b 62 #[(.map (some X.m1)), (.map (some X.m2))], mapG kS kV X.m1 X.kv1, mapG kS kV X.m2 X.kv2] := (SH.front [_, _, _, _] hS1)
    have hS3 : SH w S w [mapG kS kV X.m2 X.kv2, insE idS eIt 68 X.P1, insE idS eSI 76 X.P2, blkE X.b 62 #[(.map (some X.m1)), (.map (some X.m2))], mapG kS kV X.m1 X.kv1] := (SH.front [_, _, _, _] hS2)
    have hS4 : SH w S w [mapG kS kV X.m1 X.kv1, mapG kS kV X.m2 X.kv2, insE idS eIt 68 X.P1, insE idS eSI 76 X.P2, blkE X.b 62 #[(.map (some X.m1)), (.map (some X.m2))]] := (SH.front [_, _, _, _] hS3)
    have hS5 : SH w S w [blkE X.b 62 #[(.map (some X.m1)), (.map (some X.m2))], mapG kS kV X.m1 X.kv1, mapG kS kV X.m2 X.kv2, insE idS eIt 68 X.P1, insE idS eSI 76 X.P2] := (SH.front [_, _, _, _] hS4)
    have hT1 := SH.sub (Es := [_, _, _, _, _]) hS5
    refine WL.call rfl (XC.fn Tryz.func66 (by kernel_rfl) rfl rfl rfl) (drop_calls (X := X) (fl := fl) hT1 hv (by omega)) ?_
    rintro v_ w1 ⟨kw1, kx1, Px1, rfl, hsub1, hw1, hU1⟩
    have hS6 := SH.back (Es := [_, _, _, _, _]) hS5 hU1
    refine WL.nil (thenQ.n ?_)
    refine WC.seq ?_
    refine WC.region ?_
    refine WL.lv rfl (LV.asg rfl) ?_
    refine WL.nil (thenQ.n ?_)
    refine WC.ret (?_)
    exact ⟨_, fun a ha => res1 rfl ha rfl, _, _, _, rfl, hsub1, hw1, hS6⟩

theorem dropn_calls {w : World} {S : Nat → Prop} {X : IXS} {n_X : Nat} {fl : ByteArray} (hS0 : SH w S w (ixL 62 68 76 X)) (hv : IXW n_X X) (hm : n_X ≤ 30) (hK : (lookL X.F fl).isSome = false) :
    Calls Tryz.prog 46 #[(.pointer (some ⟨X.b, 0, none⟩)), (.string fl)] w fun e w' => ∃ v, e = .returned v ∧ (fun v w' => v = .int .i64 6 ∧ SH w S w' (ixL 62 68 76 X)) v w' := by
  have hS : SH w S w [blkE X.b 62 #[(.map (some X.m1)), (.map (some X.m2))], mapG kS kV X.m1 X.kv1, mapG kS kV X.m2 X.kv2, insE idS eIt 68 X.P1, insE idS eSI 76 X.P2] := hS0
  refine calls (l := litOf [(.pointer (some ⟨X.b, 0, none⟩)), (.string fl)] 0) Tryz.func46 rfl (n := 23) rfl (Nat.le_of_ble_eq_true rfl) (lit_args _) ?_
  refine WC.seq ?_
  refine WC.region ?_
  refine WL.lv rfl (LV.asg rfl) ?_
  refine WL.nil (thenQ.n ?_)
  iterate 2 refine WC.seq ?_
  refine WC.region ?_
  refine WL.lv rfl (LV.mv rfl) ?_
  refine WL.lv rfl (LV.eqPS Tryz.underlying27 rfl rfl) ?_
  refine WL.nil (thenQ.n ?_)
  refine WC.condF rfl ?_
  refine WC.skip (thenQ.n ?_)
  iterate 2 refine WC.seq ?_
  refine WC.region ?_
  refine WL.lv rfl (LV.mv rfl) ?_
  refine WL.lv rfl (LV.nilCheck rfl) ?_
  refine WL.lv rfl (LV.fieldA Tryz.underlying62 rfl ti60.sz rfl) ?_
  refine WL.lv rfl (LV.load1 Tryz.underlying60 rfl rfl (Blk.cellN (SH.at hS (.head _)) 0 rfl _ (KB.refl No _))) ?_
  refine WL.lv rfl (LV.mv rfl) ?_
  obtain ⟨A1, c1, hv1, hr1⟩ := look_at (FILES.atL hv.fs fl) (SH.rdIn hS (.tail _ (.tail _ (.tail _ (.head _)))))
  refine WL.lv rfl (LV.to (congrArg (fun v_ => Value.tuple #[v_, .bool (lookL X.kv1 fl).isSome]) hv1) (LV.lookOkG (q := fl) (V := kV) (z := svZ) (key_str Tryz.underlying9) Tryz.underlying60 ti45 (SH.at hS (.tail _ (.head _))) rfl rfl)) ?_
  refine WL.lv rfl (LV.mv rfl) ?_
  iterate 2 refine WL.lv rfl (LV.extract rfl rfl) ?_
  iterate 2 refine WL.lv rfl (LV.asg rfl) ?_
  refine WL.nil (thenQ.n ?_)
  refine WC.seq ?_
  refine WC.region ?_
  refine WL.lv rfl (LV.mv rfl) ?_
  refine WL.lv rfl (LV.notB rfl) ?_
  refine WL.nil (thenQ.n ?_)
  refine WC.cond (b := !((lookL X.kv1 fl).isSome)) rfl (fun hc1 => ?_) (fun hc1 => ?_)
  · skip
    refine WC.seq ?_
    refine WC.region ?_
    refine WL.lv rfl (LV.asg rfl) ?_
    refine WL.nil (thenQ.n ?_)
    refine WC.ret (thenQ.r <| ?_)
    exact ⟨_, fun a ha => res1 rfl ha rfl, rfl, hS⟩
  · exact absurd hc1 (by rw [known_iff hv, hK]; simp)

theorem rputy_calls {w : World} {S : Nat → Prop} {yb : Nat} {A_f : Option Addr} {c_f : Nat} {rs : RWS} {P3 : PLI} {F : List Fl} {file : ByteArray} {A_l : Option Addr} {c_l : Nat} {l : List Itm} (hS0 : SH w S w [blkE yb 43 #[(.slice A_f rs.length c_f)], rowE eSV 64 (.slice A_f rs.length c_f) rs, insE idS eIt 68 P3]) (h_l : St S w (Rd eIt (.slice A_l l.length c_l) l)) (hD : DOCR rs P3 F) (hF : NS F) (hn : F.length ≤ 30) (hl : l.length ≤ 20) (hz : file.size ≤ 140737488355328) (hN : NAM file) :
    Calls Tryz.prog 48 #[(.pointer (some ⟨yb, 0, none⟩)), (.string file), (.slice A_l l.length c_l)] w fun e w' => ∃ v, e = .returned v ∧ (fun v w' => ∃ (A' : Option Addr) (c' : Nat) (rs' : RWS) (P3' : PLI), v = .int .i64 0 ∧ DOCR rs' P3' (PUTF file l F) ∧ SH w S w' [blkE yb 43 #[(.slice A' rs'.length c')], rowE eSV 64 (.slice A' rs'.length c') rs', insE idS eIt 68 P3']) v w' := by
  have hdl_ := hD.len
  have hS : SH w S w [blkE yb 43 #[(.slice A_f rs.length c_f)], rowE eSV 64 (.slice A_f rs.length c_f) rs, insE idS eIt 68 P3] := hS0
  refine calls (l := litOf [(.pointer (some ⟨yb, 0, none⟩)), (.string file), (.slice A_l l.length c_l)] 0) Tryz.func48 rfl (n := 97) rfl (Nat.le_of_ble_eq_true rfl) (lit_args _) ?_
  refine WC.seq ?_
  refine WC.region ?_
  refine WL.lv rfl (LV.asg rfl) ?_
  refine WL.nil (thenQ.n ?_)
  iterate 2 refine WC.seq ?_
  refine WC.region ?_
  refine WL.lv rfl (LV.mv rfl) ?_
  refine WL.call rfl (XC.fn Tryz.func69 (by kernel_rfl) rfl rfl rfl) (Calls.asB (rname_calls (s := file) (hz)) (decide_eq_true (hN))) ?_
  rintro v_ w1 ⟨rfl, hk1⟩
  have hS1 := SH.same hS hk1
  refine WL.lv rfl (LV.notB rfl) ?_
  refine WL.nil (thenQ.n ?_)
  refine WC.condF rfl ?_
  refine WC.skip (thenQ.n ?_)
  refine WC.seq ?_
  refine WC.region ?_
  refine WL.lv rfl (LV.asg rfl) ?_
  refine WL.nil (thenQ.n ?_)
  refine WC.seq ?_
  refine WC.block ?_
  refine WC.loop (fun m_ f_ w_ => ∃ (k : Int), (0 ≤ k) ∧ (k ≤ rs.length) ∧ (∀ t : Int, 0 ≤ t → t < k → ltB (rs.getD t.toNat dSV).1 file) ∧ SH w S w_ [blkE yb 43 #[(.slice A_f rs.length c_f)], rowE eSV 64 (.slice A_f rs.length c_f) rs, insE idS eIt 68 P3] ∧ m_ = (((rs.length : Int) - k).toNat) ∧ Weak (lit [(0, (.pointer (some ⟨yb, 0, none⟩))), (1, (.string file)), (2, (.slice A_l l.length c_l)), (7, (.int .i64 k))]) f_) _ ⟨0, by omega, by omega, (fun t h1 h2 => by omega), hS1, rfl, Weak.cons rfl <| Weak.cons rfl <| Weak.cons rfl <| Weak.cons rfl <| Weak.nil _⟩ ?_
  rintro m1 f1 w2 ⟨k, klo, khi, q1, hL1, rfl, hw1⟩
  refine WC.weak hw1 ?_
  clear hw1
  iterate 2 refine WC.seq ?_
  refine WC.region ?_
  iterate 2 refine WL.lv rfl (LV.mv rfl) ?_
  refine WL.lv rfl (LV.nilCheck rfl) ?_
  refine WL.lv rfl (LV.fieldA Tryz.underlying43 rfl ti41.sz rfl) ?_
  refine WL.lv rfl (LV.load1 Tryz.underlying41 rfl rfl (Blk.cellN (SH.at hL1 (.head _)) 0 rfl _ (KB.refl No _))) ?_
  refine WL.lv rfl (LV.lenL Tryz.underlying41 rfl) ?_
  rcases Decidable.em (k < (rs.length : Int)) with hg1 | hg1
  · refine WL.lv rfl (LV.as (LV.ltI rfl rfl) (decide_eq_true hg1)) ?_
    iterate 2 refine WL.lv rfl (LV.mv rfl) ?_
    refine WL.lv rfl (LV.nilCheck rfl) ?_
    refine WL.lv rfl (LV.fieldA Tryz.underlying43 rfl ti41.sz rfl) ?_
    refine WL.lv rfl (LV.load1 Tryz.underlying41 rfl rfl (Blk.cellN (SH.at hL1 (.head _)) 0 rfl _ (KB.refl No _))) ?_
    refine WL.lv rfl (LV.mv rfl) ?_
    obtain ⟨A1, c1, e1, g1⟩ := St.elt (SH.rd hL1 (.tail _ (.head _))) dSV k (by omega) (by omega)
    refine WL.lv rfl (LV.idxA Tryz.underlying41 ti64.sz rfl e1 rfl (by omega) (by omega)) ?_
    refine WL.lv rfl (LV.fieldA Tryz.underlying64 rfl ti9.sz rfl) ?_
    refine WL.lv rfl (LV.load1 (v := (.string ((rs.getD (k).toNat dSV).1))) Tryz.underlying9 rfl rfl (g1 _ (KB.refl No _) 0 _ rfl)) ?_
    refine WL.lv rfl (LV.mv rfl) ?_
    refine WL.lv rfl (LV.ltS (a := ((rs.getD (k).toNat dSV).1)) (b := file) rfl rfl) ?_
    refine WL.lv rfl (LV.pickT rfl rfl) ?_
    refine WL.nil (thenQ.n ?_)
    refine WC.condP (p := ltB ((rs.getD (k).toNat dSV).1) file) rfl (fun hc1 => ?_) (fun hc1 => ?_)
    · skip
      refine WC.skip (thenQ.n ?_)
      refine WC.block ?_
      refine WC.region ?_
      refine WL.lv rfl (LV.mv rfl) ?_
      refine WL.lv rfl (LV.add rfl rfl (wr64 (by omega) (by omega))) ?_
      refine WL.lv rfl (LV.asg rfl) ?_
      refine WL.nil (blockQ.n <| thenQ.n ?_)
      exact ⟨_, by omega, k + 1, by omega, by omega, (all_step q1 (by assumption)), hL1, rfl, Weak.cons rfl <| Weak.cons rfl <| Weak.cons rfl <| Weak.cons rfl <| Weak.nil _⟩
    · skip
      refine WC.exit (thenQ.x <| thenQ.x <| blockQ.hit <| thenQ.n ?_)
      refine WC.seq ?_
      refine WC.region ?_
      refine WL.lv rfl (LV.mv rfl) ?_
      refine WL.lv rfl (LV.nilCheck rfl) ?_
      refine WL.lv rfl (LV.fieldA Tryz.underlying43 rfl ti41.sz rfl) ?_
      refine WL.lv rfl (LV.load1 Tryz.underlying41 rfl rfl (Blk.cellN (SH.at hL1 (.head _)) 0 rfl _ (KB.refl No _))) ?_
      refine WL.lv rfl (LV.mv rfl) ?_
      have hcap1 : rs.length ≤ c_f := (Rd.cap (St.now (SH.rd hL1 (.tail _ (.head _)))))
      refine WL.lv rfl (LV.cut Tryz.underlying41 ti64.sz rfl rfl rfl rfl ⟨.inr ⟨.i64, by rw [Int.toNat_of_nonneg (a := k) (by omega)] <;> rfl⟩, .inl ⟨rfl, rfl, rfl⟩, .inl ⟨rfl, rfl⟩⟩ (by omega) (by omega) (by omega)) ?_
      refine WL.lv rfl (LV.asg rfl) ?_
      refine WL.nil (thenQ.n ?_)
      iterate 2 refine WC.seq ?_
      refine WC.region ?_
      iterate 2 refine WL.lv rfl (LV.mv rfl) ?_
      refine WL.lv rfl (LV.nilCheck rfl) ?_
      refine WL.lv rfl (LV.fieldA Tryz.underlying43 rfl ti41.sz rfl) ?_
      refine WL.lv rfl (LV.load1 Tryz.underlying41 rfl rfl (Blk.cellN (SH.at hL1 (.head _)) 0 rfl _ (KB.refl No _))) ?_
      refine WL.lv rfl (LV.lenL Tryz.underlying41 rfl) ?_
      refine WL.lv rfl (LV.as (LV.ltI rfl rfl) (decide_eq_true hg1)) ?_
      iterate 2 refine WL.lv rfl (LV.mv rfl) ?_
      refine WL.lv rfl (LV.nilCheck rfl) ?_
      refine WL.lv rfl (LV.fieldA Tryz.underlying43 rfl ti41.sz rfl) ?_
      refine WL.lv rfl (LV.load1 Tryz.underlying41 rfl rfl (Blk.cellN (SH.at hL1 (.head _)) 0 rfl _ (KB.refl No _))) ?_
      refine WL.lv rfl (LV.mv rfl) ?_
      obtain ⟨A2, c2, e2, g2⟩ := St.elt (SH.rd hL1 (.tail _ (.head _))) dSV k (by omega) (by omega)
      refine WL.lv rfl (LV.idxA Tryz.underlying41 ti64.sz rfl e2 rfl (by omega) (by omega)) ?_
      refine WL.lv rfl (LV.fieldA Tryz.underlying64 rfl ti9.sz rfl) ?_
      refine WL.lv rfl (LV.load1 (v := (.string ((rs.getD (k).toNat dSV).1))) Tryz.underlying9 rfl rfl (g2 _ (KB.refl No _) 0 _ rfl)) ?_
      refine WL.lv rfl (LV.mv rfl) ?_
      refine WL.lv rfl (LV.eqSP (a := ((rs.getD (k).toNat dSV).1)) (b := file) rfl rfl) ?_
      refine WL.lv rfl (LV.pickT rfl rfl) ?_
      refine WL.nil (thenQ.n ?_)
      refine WC.condP (p := ((rs.getD (k).toNat dSV).1) = file) rfl (fun he => ?_) (fun he => ?_)
      · skip
        refine WC.region ?_
        refine WL.lv rfl (LV.mv rfl) ?_
        refine WL.lv rfl (LV.nilCheck rfl) ?_
        refine WL.lv rfl (LV.fieldA Tryz.underlying43 rfl ti41.sz rfl) ?_
        refine WL.lv rfl (LV.load1 Tryz.underlying41 rfl rfl (Blk.cellN (SH.at hL1 (.head _)) 0 rfl _ (KB.refl No _))) ?_
        refine WL.lv rfl (LV.mv rfl) ?_
        refine WL.lv rfl (LV.add rfl rfl (wr64 (by omega) (by omega))) ?_
        have hcap2 : rs.length ≤ c_f := (Rd.cap (St.now (SH.rd hL1 (.tail _ (.head _)))))
        refine WL.lv rfl (LV.cut Tryz.underlying41 ti64.sz rfl rfl rfl rfl ⟨.inr ⟨.i64, by rw [Int.toNat_of_nonneg (a := k + 1) (by omega)] <;> rfl⟩, .inl ⟨rfl, rfl, rfl⟩, .inl ⟨rfl, rfl⟩⟩ (by omega) (by omega) (by omega)) ?_
        refine WL.lv rfl (LV.asg rfl) ?_
        refine WL.nil (thenQ.n ?_)
        iterate 2 refine WC.seq ?_
        refine WC.region ?_
        refine WL.lv rfl (LV.mv rfl) ?_
        refine WL.lv rfl (LV.lenL Tryz.underlying45 rfl) ?_
        refine WL.lv rfl (LV.as (LV.gtI rfl rfl) (decide_eq_false (by omega))) ?_
        refine WL.nil (thenQ.n ?_)
        refine WC.condF rfl ?_
        refine WC.skip (thenQ.n ?_)
        refine WC.seq ?_
        refine WC.region ?_
        refine WL.xe rfl (XE.buildSlice (E := eSV) [] #[] [] hL1 Tryz.underlying41 ti64 rfl (by decide) (by kernel_rfl) (.inr rfl) rfl rfl (by decide)) ?_
        rintro _ w3 ⟨b1, rfl, hS2, hk2⟩
        refine WL.lv rfl (LV.mv rfl) ?_
        refine WL.lv rfl (LV.nilCheck rfl) ?_
        refine WL.lv rfl (LV.fieldA Tryz.underlying43 rfl ti41.sz rfl) ?_
        refine WL.lv rfl (LV.load1 Tryz.underlying41 rfl rfl (Blk.cellN (SH.at hS2 (.tail _ (.head _))) 0 rfl _ (KB.refl No _))) ?_
        refine WL.lv rfl (LV.mv rfl) ?_
        have hcap3 : rs.length ≤ c_f := (Rd.cap (St.now (SH.rd hS2 (.tail _ (.tail _ (.head _))))))
        refine WL.lv rfl (LV.cut Tryz.underlying41 ti64.sz rfl rfl rfl rfl ⟨.inl ⟨rfl, rfl⟩, .inr ⟨.i64, by rw [Int.toNat_of_nonneg (a := k) (by omega)] <;> rfl⟩, .inl ⟨rfl, rfl⟩⟩ (by omega) (by omega) (by omega)) ?_
        refine WL.xe rfl (XE.append hS2 Tryz.underlying41 ti64 rfl (St.now ((SH.rd hS2 (.tail _ (.tail _ (.head _)))).imp fun _ h => Rd.cut h (by omega) (by omega) (by omega) (by omega))) rfl rfl (by first | omega | simp only [List.length_append, List.length_cons, List.length_nil, List.length_take, List.length_reverse, List.length_drop] at *; omega) (by first | omega | simp only [List.length_append, List.length_cons, List.length_nil, List.length_take, List.length_reverse, List.length_drop] at *; omega)) ?_
        rintro _ w4 ⟨A3, c3, rfl, hS3, hk3⟩
        refine WL.lv rfl (LV.asg rfl) ?_
        refine WL.nil (thenQ.n ?_)
        refine WC.seq ?_
        refine WC.region ?_
        iterate 2 refine WL.lv rfl (LV.mv rfl) ?_
        refine WL.xe rfl (XE.buildSlice (E := eIt) [] #[] [] hS3 Tryz.underlying45 ti68 rfl (by decide) (by kernel_rfl) (.inr rfl) rfl rfl (by decide)) ?_
        rintro _ w5 ⟨b2, rfl, hS4, hk4⟩
        refine WL.lv rfl (LV.mv rfl) ?_
        refine WL.xe rfl (XE.append hS4 Tryz.underlying45 ti68 rfl (St.now (SH.stN hS4 h_l)) rfl rfl (by first | omega | simp only [List.length_append, List.length_cons, List.length_nil, List.length_take, List.length_reverse, List.length_drop] at *; omega) (by first | omega | simp only [List.length_append, List.length_cons, List.length_nil, List.length_take, List.length_reverse, List.length_drop] at *; omega)) ?_
        rintro _ w6 ⟨A4, c4, rfl, hS5, hk5⟩
        refine WL.lv rfl (LV.build (vs := [(0, (.string file)), (1, (.slice A4 ((([] : List Itm) ++ l).length) c4))]) (places := #[(0, 1), (1, 1)]) (cs := #[(.string file), (.slice A4 ((([] : List Itm) ++ l).length) c4)]) Tryz.underlying64 ti64 (fun _ => by kernel_rfl) rfl rfl) ?_
        refine WL.xe rfl (XE.buildSlice (E := eSV) [(0, (.agg #[(.string file), (.slice A4 ((([] : List Itm) ++ l).length) c4)]))] #[(.string file), (.slice A4 ((([] : List Itm) ++ l).length) c4)] [((file, (⟨A4, (([] : List Itm) ++ l).length, c4⟩ : SV)) : ByteArray × SV)] hS5 Tryz.underlying41 ti64 rfl (by decide) (by kernel_rfl) (.inr rfl) rfl rfl (by decide)) ?_
        rintro _ w7 ⟨b3, rfl, hS6, hk6⟩
        have hS7 : SH w S w7 [rowE eSV 64 (.slice A3 ((([] : List (ByteArray × SV)) ++ ((rs.take ((k).toNat)).drop 0)).length) c3) (([] : List (ByteArray × SV)) ++ ((rs.take ((k).toNat)).drop 0)), rowE eSV 64 (.slice (some ⟨b3, 0, none⟩) 1 1) [((file, (⟨A4, (([] : List Itm) ++ l).length, c4⟩ : SV)) : ByteArray × SV)], rowE eIt 68 (.slice A4 ((([] : List Itm) ++ l).length) c4) (([] : List Itm) ++ l), blkE yb 43 #[(.slice A_f rs.length c_f)], rowE eSV 64 (.slice A_f rs.length c_f) rs, insE idS eIt 68 P3] := (SH.front [_, _] hS6)
        refine WL.xe rfl (XE.append hS7 Tryz.underlying41 ti64 rfl (St.now (SH.rd hS7 (.tail _ (.head _)))) rfl rfl (by first | omega | simp only [List.length_append, List.length_cons, List.length_nil, List.length_take, List.length_reverse, List.length_drop] at *; omega) (by first | omega | simp only [List.length_append, List.length_cons, List.length_nil, List.length_take, List.length_reverse, List.length_drop] at *; omega)) ?_
        rintro _ w8 ⟨A5, c5, rfl, hS8, hk7⟩
        refine WL.lv rfl (LV.asg rfl) ?_
        refine WL.nil (thenQ.n ?_)
        refine WC.seq ?_
        refine WC.region ?_
        iterate 3 refine WL.lv rfl (LV.mv rfl) ?_
        have hS9 : SH w S w8 [insE idS eIt 68 P3, rowE eSV 64 (.slice A5 (((([] : List (ByteArray × SV)) ++ ((rs.take ((k).toNat)).drop 0)) ++ [((file, (⟨A4, (([] : List Itm) ++ l).length, c4⟩ : SV)) : ByteArray × SV)]).length) c5) ((([] : List (ByteArray × SV)) ++ ((rs.take ((k).toNat)).drop 0)) ++ [((file, (⟨A4, (([] : List Itm) ++ l).length, c4⟩ : SV)) : ByteArray × SV)]), rowE eSV 64 (.slice (some ⟨b3, 0, none⟩) 1 1) [((file, (⟨A4, (([] : List Itm) ++ l).length, c4⟩ : SV)) : ByteArray × SV)], rowE eIt 68 (.slice A4 ((([] : List Itm) ++ l).length) c4) (([] : List Itm) ++ l), blkE yb 43 #[(.slice A_f rs.length c_f)], rowE eSV 64 (.slice A_f rs.length c_f) rs] := (SH.front [_, _, _, _, _] hS8)
        have hS10 : SH w S w8 [rowE eIt 68 (.slice A4 ((([] : List Itm) ++ l).length) c4) (([] : List Itm) ++ l), insE idS eIt 68 P3, rowE eSV 64 (.slice A5 (((([] : List (ByteArray × SV)) ++ ((rs.take ((k).toNat)).drop 0)) ++ [((file, (⟨A4, (([] : List Itm) ++ l).length, c4⟩ : SV)) : ByteArray × SV)]).length) c5) ((([] : List (ByteArray × SV)) ++ ((rs.take ((k).toNat)).drop 0)) ++ [((file, (⟨A4, (([] : List Itm) ++ l).length, c4⟩ : SV)) : ByteArray × SV)]), rowE eSV 64 (.slice (some ⟨b3, 0, none⟩) 1 1) [((file, (⟨A4, (([] : List Itm) ++ l).length, c4⟩ : SV)) : ByteArray × SV)], blkE yb 43 #[(.slice A_f rs.length c_f)], rowE eSV 64 (.slice A_f rs.length c_f) rs] := (SH.front [_, _, _] hS9)
        have hS11 : SH w S w8 [insE idS eIt 68 (P3 ++ [((⟨A4, (([] : List Itm) ++ l).length, c4⟩ : SV), (([] : List Itm) ++ l))]), rowE eSV 64 (.slice A5 (((([] : List (ByteArray × SV)) ++ ((rs.take ((k).toNat)).drop 0)) ++ [((file, (⟨A4, (([] : List Itm) ++ l).length, c4⟩ : SV)) : ByteArray × SV)]).length) c5) ((([] : List (ByteArray × SV)) ++ ((rs.take ((k).toNat)).drop 0)) ++ [((file, (⟨A4, (([] : List Itm) ++ l).length, c4⟩ : SV)) : ByteArray × SV)]), rowE eSV 64 (.slice (some ⟨b3, 0, none⟩) 1 1) [((file, (⟨A4, (([] : List Itm) ++ l).length, c4⟩ : SV)) : ByteArray × SV)], blkE yb 43 #[(.slice A_f rs.length c_f)], rowE eSV 64 (.slice A_f rs.length c_f) rs] := SH.insMore (sv := idS) (r := (⟨A4, (([] : List Itm) ++ l).length, c4⟩ : SV)) rfl hS10
        have hS12 : SH w S w8 [rowE eSV 64 (.slice A5 (((([] : List (ByteArray × SV)) ++ ((rs.take ((k).toNat)).drop 0)) ++ [((file, (⟨A4, (([] : List Itm) ++ l).length, c4⟩ : SV)) : ByteArray × SV)]).length) c5) ((([] : List (ByteArray × SV)) ++ ((rs.take ((k).toNat)).drop 0)) ++ [((file, (⟨A4, (([] : List Itm) ++ l).length, c4⟩ : SV)) : ByteArray × SV)]), insE idS eIt 68 (P3 ++ [((⟨A4, (([] : List Itm) ++ l).length, c4⟩ : SV), (([] : List Itm) ++ l))]), rowE eSV 64 (.slice (some ⟨b3, 0, none⟩) 1 1) [((file, (⟨A4, (([] : List Itm) ++ l).length, c4⟩ : SV)) : ByteArray × SV)], blkE yb 43 #[(.slice A_f rs.length c_f)], rowE eSV 64 (.slice A_f rs.length c_f) rs] := (SH.front [_] hS11)
        refine WL.xe rfl (XE.append hS12 Tryz.underlying41 ti64 rfl (St.now ((SH.rd hS12 (.tail _ (.tail _ (.tail _ (.tail _ (.head _)))))).imp fun _ h => Rd.cut h (by omega) (by omega) (by omega) (by omega))) rfl rfl (by first | omega | simp only [List.length_append, List.length_cons, List.length_nil, List.length_take, List.length_reverse, List.length_drop] at *; omega) (by first | omega | simp only [List.length_append, List.length_cons, List.length_nil, List.length_take, List.length_reverse, List.length_drop] at *; omega)) ?_
        rintro _ w9 ⟨A6, c6, rfl, hS13, hk8⟩
        refine WL.lv rfl (LV.nilCheck rfl) ?_
        refine WL.lv rfl (LV.fieldA Tryz.underlying43 rfl ti41.sz rfl) ?_
        have hS15 : SH w S w9 [blkE yb 43 #[(.slice A_f rs.length c_f)], rowE eSV 64 (.slice A6 ((((([] : List (ByteArray × SV)) ++ ((rs.take ((k).toNat)).drop 0)) ++ [((file, (⟨A4, (([] : List Itm) ++ l).length, c4⟩ : SV)) : ByteArray × SV)]) ++ ((rs.take rs.length).drop ((k + 1).toNat))).length) c6) (((([] : List (ByteArray × SV)) ++ ((rs.take ((k).toNat)).drop 0)) ++ [((file, (⟨A4, (([] : List Itm) ++ l).length, c4⟩ : SV)) : ByteArray × SV)]) ++ ((rs.take rs.length).drop ((k + 1).toNat))), insE idS eIt 68 (P3 ++ [((⟨A4, (([] : List Itm) ++ l).length, c4⟩ : SV), (([] : List Itm) ++ l))]), rowE eSV 64 (.slice (some ⟨b3, 0, none⟩) 1 1) [((file, (⟨A4, (([] : List Itm) ++ l).length, c4⟩ : SV)) : ByteArray × SV)], rowE eSV 64 (.slice A_f rs.length c_f) rs] := (SH.front [_, _, _] hS13)
        refine WL.xse rfl (XSE.blk #[(.slice A6 ((((([] : List (ByteArray × SV)) ++ ((rs.take ((k).toNat)).drop 0)) ++ [((file, (⟨A4, (([] : List Itm) ++ l).length, c4⟩ : SV)) : ByteArray × SV)]) ++ ((rs.take rs.length).drop ((k + 1).toNat))).length) c6)] hS15 (Nat.le_of_ble_eq_true rfl) ti41.sz rfl rfl rfl rfl) ?_
        rintro w10 ⟨hS14, hk9⟩
        refine WL.nil (thenQ.n ?_)
        refine WC.seq ?_
        refine WC.region ?_
        refine WL.lv rfl (LV.asg rfl) ?_
        refine WL.nil (thenQ.n ?_)
        refine WC.ret (?_)
        have hS16 : SH w S w10 [blkE yb 43 #[(.slice A6 ((((([] : List (ByteArray × SV)) ++ ((rs.take ((k).toNat)).drop 0)) ++ [((file, (⟨A4, (([] : List Itm) ++ l).length, c4⟩ : SV)) : ByteArray × SV)]) ++ ((rs.take rs.length).drop ((k + 1).toNat))).length) c6)], rowE eSV 64 (.slice A6 ((((([] : List (ByteArray × SV)) ++ ((rs.take ((k).toNat)).drop 0)) ++ [((file, (⟨A4, (([] : List Itm) ++ l).length, c4⟩ : SV)) : ByteArray × SV)]) ++ ((rs.take rs.length).drop ((k + 1).toNat))).length) c6) (((([] : List (ByteArray × SV)) ++ ((rs.take ((k).toNat)).drop 0)) ++ [((file, (⟨A4, (([] : List Itm) ++ l).length, c4⟩ : SV)) : ByteArray × SV)]) ++ ((rs.take rs.length).drop ((k + 1).toNat))), insE idS eIt 68 (P3 ++ [((⟨A4, (([] : List Itm) ++ l).length, c4⟩ : SV), (([] : List Itm) ++ l))])] := (SH.take 3 rfl (SH.front [_, _] (SH.front [_, _] (SH.front [_, _] hS14))))
        exact ⟨_, fun a ha => res1 rfl ha rfl, _, _, _, _, rfl, docr_put hD hF klo khi q1 (fun h_ => by first | assumption | omega) (by first | (rw [if_pos ⟨by omega, by assumption⟩]; simp; done) | (rw [if_neg (fun h_ => by first | omega | exact absurd h_.2 (by assumption))]; simp)), hS16⟩
      · skip
        refine WC.seq ?_
        refine WC.region ?_
        refine WL.lv rfl (LV.mv rfl) ?_
        refine WL.lv rfl (LV.nilCheck rfl) ?_
        refine WL.lv rfl (LV.fieldA Tryz.underlying43 rfl ti41.sz rfl) ?_
        refine WL.lv rfl (LV.load1 Tryz.underlying41 rfl rfl (Blk.cellN (SH.at hL1 (.head _)) 0 rfl _ (KB.refl No _))) ?_
        refine WL.lv rfl (LV.lenL Tryz.underlying41 rfl) ?_
        refine WL.lv rfl (LV.as (LV.geI rfl rfl) (decide_eq_false (by omega))) ?_
        refine WL.nil (thenQ.n ?_)
        refine WC.condF rfl ?_
        refine WC.skip (thenQ.n ?_)
        iterate 2 refine WC.seq ?_
        refine WC.region ?_
        refine WL.lv rfl (LV.mv rfl) ?_
        refine WL.lv rfl (LV.lenL Tryz.underlying45 rfl) ?_
        refine WL.lv rfl (LV.as (LV.gtI rfl rfl) (decide_eq_false (by omega))) ?_
        refine WL.nil (thenQ.n ?_)
        refine WC.condF rfl ?_
        refine WC.skip (thenQ.n ?_)
        refine WC.seq ?_
        refine WC.region ?_
        refine WL.xe rfl (XE.buildSlice (E := eSV) [] #[] [] hL1 Tryz.underlying41 ti64 rfl (by decide) (by kernel_rfl) (.inr rfl) rfl rfl (by decide)) ?_
        rintro _ w11 ⟨b4, rfl, hS17, hk10⟩
        refine WL.lv rfl (LV.mv rfl) ?_
        refine WL.lv rfl (LV.nilCheck rfl) ?_
        refine WL.lv rfl (LV.fieldA Tryz.underlying43 rfl ti41.sz rfl) ?_
        refine WL.lv rfl (LV.load1 Tryz.underlying41 rfl rfl (Blk.cellN (SH.at hS17 (.tail _ (.head _))) 0 rfl _ (KB.refl No _))) ?_
        refine WL.lv rfl (LV.mv rfl) ?_
        have hcap4 : rs.length ≤ c_f := (Rd.cap (St.now (SH.rd hS17 (.tail _ (.tail _ (.head _))))))
        refine WL.lv rfl (LV.cut Tryz.underlying41 ti64.sz rfl rfl rfl rfl ⟨.inl ⟨rfl, rfl⟩, .inr ⟨.i64, by rw [Int.toNat_of_nonneg (a := k) (by omega)] <;> rfl⟩, .inl ⟨rfl, rfl⟩⟩ (by omega) (by omega) (by omega)) ?_
        refine WL.xe rfl (XE.append hS17 Tryz.underlying41 ti64 rfl (St.now ((SH.rd hS17 (.tail _ (.tail _ (.head _)))).imp fun _ h => Rd.cut h (by omega) (by omega) (by omega) (by omega))) rfl rfl (by first | omega | simp only [List.length_append, List.length_cons, List.length_nil, List.length_take, List.length_reverse, List.length_drop] at *; omega) (by first | omega | simp only [List.length_append, List.length_cons, List.length_nil, List.length_take, List.length_reverse, List.length_drop] at *; omega)) ?_
        rintro _ w12 ⟨A7, c7, rfl, hS18, hk11⟩
        refine WL.lv rfl (LV.asg rfl) ?_
        refine WL.nil (thenQ.n ?_)
        refine WC.seq ?_
        refine WC.region ?_
        iterate 2 refine WL.lv rfl (LV.mv rfl) ?_
        refine WL.xe rfl (XE.buildSlice (E := eIt) [] #[] [] hS18 Tryz.underlying45 ti68 rfl (by decide) (by kernel_rfl) (.inr rfl) rfl rfl (by decide)) ?_
        rintro _ w13 ⟨b5, rfl, hS19, hk12⟩
        refine WL.lv rfl (LV.mv rfl) ?_
        refine WL.xe rfl (XE.append hS19 Tryz.underlying45 ti68 rfl (St.now (SH.stN hS19 h_l)) rfl rfl (by first | omega | simp only [List.length_append, List.length_cons, List.length_nil, List.length_take, List.length_reverse, List.length_drop] at *; omega) (by first | omega | simp only [List.length_append, List.length_cons, List.length_nil, List.length_take, List.length_reverse, List.length_drop] at *; omega)) ?_
        rintro _ w14 ⟨A8, c8, rfl, hS20, hk13⟩
        refine WL.lv rfl (LV.build (vs := [(0, (.string file)), (1, (.slice A8 ((([] : List Itm) ++ l).length) c8))]) (places := #[(0, 1), (1, 1)]) (cs := #[(.string file), (.slice A8 ((([] : List Itm) ++ l).length) c8)]) Tryz.underlying64 ti64 (fun _ => by kernel_rfl) rfl rfl) ?_
        refine WL.xe rfl (XE.buildSlice (E := eSV) [(0, (.agg #[(.string file), (.slice A8 ((([] : List Itm) ++ l).length) c8)]))] #[(.string file), (.slice A8 ((([] : List Itm) ++ l).length) c8)] [((file, (⟨A8, (([] : List Itm) ++ l).length, c8⟩ : SV)) : ByteArray × SV)] hS20 Tryz.underlying41 ti64 rfl (by decide) (by kernel_rfl) (.inr rfl) rfl rfl (by decide)) ?_
        rintro _ w15 ⟨b6, rfl, hS21, hk14⟩
        have hS22 : SH w S w15 [rowE eSV 64 (.slice A7 ((([] : List (ByteArray × SV)) ++ ((rs.take ((k).toNat)).drop 0)).length) c7) (([] : List (ByteArray × SV)) ++ ((rs.take ((k).toNat)).drop 0)), rowE eSV 64 (.slice (some ⟨b6, 0, none⟩) 1 1) [((file, (⟨A8, (([] : List Itm) ++ l).length, c8⟩ : SV)) : ByteArray × SV)], rowE eIt 68 (.slice A8 ((([] : List Itm) ++ l).length) c8) (([] : List Itm) ++ l), blkE yb 43 #[(.slice A_f rs.length c_f)], rowE eSV 64 (.slice A_f rs.length c_f) rs, insE idS eIt 68 P3] := (SH.front [_, _] hS21)
        refine WL.xe rfl (XE.append hS22 Tryz.underlying41 ti64 rfl (St.now (SH.rd hS22 (.tail _ (.head _)))) rfl rfl (by first | omega | simp only [List.length_append, List.length_cons, List.length_nil, List.length_take, List.length_reverse, List.length_drop] at *; omega) (by first | omega | simp only [List.length_append, List.length_cons, List.length_nil, List.length_take, List.length_reverse, List.length_drop] at *; omega)) ?_
        rintro _ w16 ⟨A9, c9, rfl, hS23, hk15⟩
        refine WL.lv rfl (LV.asg rfl) ?_
        refine WL.nil (thenQ.n ?_)
        refine WC.seq ?_
        refine WC.region ?_
        iterate 3 refine WL.lv rfl (LV.mv rfl) ?_
        have hS24 : SH w S w16 [insE idS eIt 68 P3, rowE eSV 64 (.slice A9 (((([] : List (ByteArray × SV)) ++ ((rs.take ((k).toNat)).drop 0)) ++ [((file, (⟨A8, (([] : List Itm) ++ l).length, c8⟩ : SV)) : ByteArray × SV)]).length) c9) ((([] : List (ByteArray × SV)) ++ ((rs.take ((k).toNat)).drop 0)) ++ [((file, (⟨A8, (([] : List Itm) ++ l).length, c8⟩ : SV)) : ByteArray × SV)]), rowE eSV 64 (.slice (some ⟨b6, 0, none⟩) 1 1) [((file, (⟨A8, (([] : List Itm) ++ l).length, c8⟩ : SV)) : ByteArray × SV)], rowE eIt 68 (.slice A8 ((([] : List Itm) ++ l).length) c8) (([] : List Itm) ++ l), blkE yb 43 #[(.slice A_f rs.length c_f)], rowE eSV 64 (.slice A_f rs.length c_f) rs] := (SH.front [_, _, _, _, _] hS23)
        have hS25 : SH w S w16 [rowE eIt 68 (.slice A8 ((([] : List Itm) ++ l).length) c8) (([] : List Itm) ++ l), insE idS eIt 68 P3, rowE eSV 64 (.slice A9 (((([] : List (ByteArray × SV)) ++ ((rs.take ((k).toNat)).drop 0)) ++ [((file, (⟨A8, (([] : List Itm) ++ l).length, c8⟩ : SV)) : ByteArray × SV)]).length) c9) ((([] : List (ByteArray × SV)) ++ ((rs.take ((k).toNat)).drop 0)) ++ [((file, (⟨A8, (([] : List Itm) ++ l).length, c8⟩ : SV)) : ByteArray × SV)]), rowE eSV 64 (.slice (some ⟨b6, 0, none⟩) 1 1) [((file, (⟨A8, (([] : List Itm) ++ l).length, c8⟩ : SV)) : ByteArray × SV)], blkE yb 43 #[(.slice A_f rs.length c_f)], rowE eSV 64 (.slice A_f rs.length c_f) rs] := (SH.front [_, _, _] hS24)
        have hS26 : SH w S w16 [insE idS eIt 68 (P3 ++ [((⟨A8, (([] : List Itm) ++ l).length, c8⟩ : SV), (([] : List Itm) ++ l))]), rowE eSV 64 (.slice A9 (((([] : List (ByteArray × SV)) ++ ((rs.take ((k).toNat)).drop 0)) ++ [((file, (⟨A8, (([] : List Itm) ++ l).length, c8⟩ : SV)) : ByteArray × SV)]).length) c9) ((([] : List (ByteArray × SV)) ++ ((rs.take ((k).toNat)).drop 0)) ++ [((file, (⟨A8, (([] : List Itm) ++ l).length, c8⟩ : SV)) : ByteArray × SV)]), rowE eSV 64 (.slice (some ⟨b6, 0, none⟩) 1 1) [((file, (⟨A8, (([] : List Itm) ++ l).length, c8⟩ : SV)) : ByteArray × SV)], blkE yb 43 #[(.slice A_f rs.length c_f)], rowE eSV 64 (.slice A_f rs.length c_f) rs] := SH.insMore (sv := idS) (r := (⟨A8, (([] : List Itm) ++ l).length, c8⟩ : SV)) rfl hS25
        have hS27 : SH w S w16 [rowE eSV 64 (.slice A9 (((([] : List (ByteArray × SV)) ++ ((rs.take ((k).toNat)).drop 0)) ++ [((file, (⟨A8, (([] : List Itm) ++ l).length, c8⟩ : SV)) : ByteArray × SV)]).length) c9) ((([] : List (ByteArray × SV)) ++ ((rs.take ((k).toNat)).drop 0)) ++ [((file, (⟨A8, (([] : List Itm) ++ l).length, c8⟩ : SV)) : ByteArray × SV)]), insE idS eIt 68 (P3 ++ [((⟨A8, (([] : List Itm) ++ l).length, c8⟩ : SV), (([] : List Itm) ++ l))]), rowE eSV 64 (.slice (some ⟨b6, 0, none⟩) 1 1) [((file, (⟨A8, (([] : List Itm) ++ l).length, c8⟩ : SV)) : ByteArray × SV)], blkE yb 43 #[(.slice A_f rs.length c_f)], rowE eSV 64 (.slice A_f rs.length c_f) rs] := (SH.front [_] hS26)
        refine WL.xe rfl (XE.append hS27 Tryz.underlying41 ti64 rfl (St.now ((SH.rd hS27 (.tail _ (.tail _ (.tail _ (.tail _ (.head _)))))).imp fun _ h => Rd.cut h (by omega) (by omega) (by omega) (by omega))) rfl rfl (by first | omega | simp only [List.length_append, List.length_cons, List.length_nil, List.length_take, List.length_reverse, List.length_drop] at *; omega) (by first | omega | simp only [List.length_append, List.length_cons, List.length_nil, List.length_take, List.length_reverse, List.length_drop] at *; omega)) ?_
        rintro _ w17 ⟨A10, c10, rfl, hS28, hk16⟩
        refine WL.lv rfl (LV.nilCheck rfl) ?_
        refine WL.lv rfl (LV.fieldA Tryz.underlying43 rfl ti41.sz rfl) ?_
        have hS30 : SH w S w17 [blkE yb 43 #[(.slice A_f rs.length c_f)], rowE eSV 64 (.slice A10 ((((([] : List (ByteArray × SV)) ++ ((rs.take ((k).toNat)).drop 0)) ++ [((file, (⟨A8, (([] : List Itm) ++ l).length, c8⟩ : SV)) : ByteArray × SV)]) ++ ((rs.take rs.length).drop ((k).toNat))).length) c10) (((([] : List (ByteArray × SV)) ++ ((rs.take ((k).toNat)).drop 0)) ++ [((file, (⟨A8, (([] : List Itm) ++ l).length, c8⟩ : SV)) : ByteArray × SV)]) ++ ((rs.take rs.length).drop ((k).toNat))), insE idS eIt 68 (P3 ++ [((⟨A8, (([] : List Itm) ++ l).length, c8⟩ : SV), (([] : List Itm) ++ l))]), rowE eSV 64 (.slice (some ⟨b6, 0, none⟩) 1 1) [((file, (⟨A8, (([] : List Itm) ++ l).length, c8⟩ : SV)) : ByteArray × SV)], rowE eSV 64 (.slice A_f rs.length c_f) rs] := (SH.front [_, _, _] hS28)
        refine WL.xse rfl (XSE.blk #[(.slice A10 ((((([] : List (ByteArray × SV)) ++ ((rs.take ((k).toNat)).drop 0)) ++ [((file, (⟨A8, (([] : List Itm) ++ l).length, c8⟩ : SV)) : ByteArray × SV)]) ++ ((rs.take rs.length).drop ((k).toNat))).length) c10)] hS30 (Nat.le_of_ble_eq_true rfl) ti41.sz rfl rfl rfl rfl) ?_
        rintro w18 ⟨hS29, hk17⟩
        refine WL.nil (thenQ.n ?_)
        refine WC.seq ?_
        refine WC.region ?_
        refine WL.lv rfl (LV.asg rfl) ?_
        refine WL.nil (thenQ.n ?_)
        refine WC.ret (?_)
        have hS31 : SH w S w18 [blkE yb 43 #[(.slice A10 ((((([] : List (ByteArray × SV)) ++ ((rs.take ((k).toNat)).drop 0)) ++ [((file, (⟨A8, (([] : List Itm) ++ l).length, c8⟩ : SV)) : ByteArray × SV)]) ++ ((rs.take rs.length).drop ((k).toNat))).length) c10)], rowE eSV 64 (.slice A10 ((((([] : List (ByteArray × SV)) ++ ((rs.take ((k).toNat)).drop 0)) ++ [((file, (⟨A8, (([] : List Itm) ++ l).length, c8⟩ : SV)) : ByteArray × SV)]) ++ ((rs.take rs.length).drop ((k).toNat))).length) c10) (((([] : List (ByteArray × SV)) ++ ((rs.take ((k).toNat)).drop 0)) ++ [((file, (⟨A8, (([] : List Itm) ++ l).length, c8⟩ : SV)) : ByteArray × SV)]) ++ ((rs.take rs.length).drop ((k).toNat))), insE idS eIt 68 (P3 ++ [((⟨A8, (([] : List Itm) ++ l).length, c8⟩ : SV), (([] : List Itm) ++ l))])] := (SH.take 3 rfl (SH.front [_, _] (SH.front [_, _] (SH.front [_, _] hS29))))
        exact ⟨_, fun a ha => res1 rfl ha rfl, _, _, _, _, rfl, docr_put hD hF klo khi q1 (fun h_ => by first | assumption | omega) (by first | (rw [if_pos ⟨by omega, by assumption⟩]; simp; done) | (rw [if_neg (fun h_ => by first | omega | exact absurd h_.2 (by assumption))]; simp)), hS31⟩
  · refine WL.lv rfl (LV.as (LV.ltI rfl rfl) (decide_eq_false hg1)) ?_
    refine WL.lv rfl (LV.mv rfl) ?_
    iterate 10 refine WL.off rfl ?_
    refine WL.lv rfl (LV.pickF rfl rfl) ?_
    refine WL.nil (thenQ.n ?_)
    refine WC.condF rfl ?_
    refine WC.exit (thenQ.x <| thenQ.x <| blockQ.hit <| thenQ.n ?_)
    refine WC.seq ?_
    refine WC.region ?_
    refine WL.lv rfl (LV.mv rfl) ?_
    refine WL.lv rfl (LV.nilCheck rfl) ?_
    refine WL.lv rfl (LV.fieldA Tryz.underlying43 rfl ti41.sz rfl) ?_
    refine WL.lv rfl (LV.load1 Tryz.underlying41 rfl rfl (Blk.cellN (SH.at hL1 (.head _)) 0 rfl _ (KB.refl No _))) ?_
    refine WL.lv rfl (LV.mv rfl) ?_
    have hcap5 : rs.length ≤ c_f := (Rd.cap (St.now (SH.rd hL1 (.tail _ (.head _)))))
    refine WL.lv rfl (LV.cut Tryz.underlying41 ti64.sz rfl rfl rfl rfl ⟨.inr ⟨.i64, by rw [Int.toNat_of_nonneg (a := k) (by omega)] <;> rfl⟩, .inl ⟨rfl, rfl, rfl⟩, .inl ⟨rfl, rfl⟩⟩ (by omega) (by omega) (by omega)) ?_
    refine WL.lv rfl (LV.asg rfl) ?_
    refine WL.nil (thenQ.n ?_)
    iterate 2 refine WC.seq ?_
    refine WC.region ?_
    iterate 2 refine WL.lv rfl (LV.mv rfl) ?_
    refine WL.lv rfl (LV.nilCheck rfl) ?_
    refine WL.lv rfl (LV.fieldA Tryz.underlying43 rfl ti41.sz rfl) ?_
    refine WL.lv rfl (LV.load1 Tryz.underlying41 rfl rfl (Blk.cellN (SH.at hL1 (.head _)) 0 rfl _ (KB.refl No _))) ?_
    refine WL.lv rfl (LV.lenL Tryz.underlying41 rfl) ?_
    refine WL.lv rfl (LV.as (LV.ltI rfl rfl) (decide_eq_false hg1)) ?_
    refine WL.lv rfl (LV.mv rfl) ?_
    iterate 10 refine WL.off rfl ?_
    refine WL.lv rfl (LV.pickF rfl rfl) ?_
    refine WL.nil (thenQ.n ?_)
    refine WC.condF rfl ?_
    refine WC.seq ?_
    refine WC.region ?_
    refine WL.lv rfl (LV.mv rfl) ?_
    refine WL.lv rfl (LV.nilCheck rfl) ?_
    refine WL.lv rfl (LV.fieldA Tryz.underlying43 rfl ti41.sz rfl) ?_
    refine WL.lv rfl (LV.load1 Tryz.underlying41 rfl rfl (Blk.cellN (SH.at hL1 (.head _)) 0 rfl _ (KB.refl No _))) ?_
    refine WL.lv rfl (LV.lenL Tryz.underlying41 rfl) ?_
    refine WL.lv rfl (LV.as (LV.geI rfl rfl) (decide_eq_false (by omega))) ?_
    refine WL.nil (thenQ.n ?_)
    refine WC.condF rfl ?_
    refine WC.skip (thenQ.n ?_)
    iterate 2 refine WC.seq ?_
    refine WC.region ?_
    refine WL.lv rfl (LV.mv rfl) ?_
    refine WL.lv rfl (LV.lenL Tryz.underlying45 rfl) ?_
    refine WL.lv rfl (LV.as (LV.gtI rfl rfl) (decide_eq_false (by omega))) ?_
    refine WL.nil (thenQ.n ?_)
    refine WC.condF rfl ?_
    refine WC.skip (thenQ.n ?_)
    refine WC.seq ?_
    refine WC.region ?_
    refine WL.xe rfl (XE.buildSlice (E := eSV) [] #[] [] hL1 Tryz.underlying41 ti64 rfl (by decide) (by kernel_rfl) (.inr rfl) rfl rfl (by decide)) ?_
    rintro _ w19 ⟨b7, rfl, hS32, hk18⟩
    refine WL.lv rfl (LV.mv rfl) ?_
    refine WL.lv rfl (LV.nilCheck rfl) ?_
    refine WL.lv rfl (LV.fieldA Tryz.underlying43 rfl ti41.sz rfl) ?_
    refine WL.lv rfl (LV.load1 Tryz.underlying41 rfl rfl (Blk.cellN (SH.at hS32 (.tail _ (.head _))) 0 rfl _ (KB.refl No _))) ?_
    refine WL.lv rfl (LV.mv rfl) ?_
    have hcap6 : rs.length ≤ c_f := (Rd.cap (St.now (SH.rd hS32 (.tail _ (.tail _ (.head _))))))
    refine WL.lv rfl (LV.cut Tryz.underlying41 ti64.sz rfl rfl rfl rfl ⟨.inl ⟨rfl, rfl⟩, .inr ⟨.i64, by rw [Int.toNat_of_nonneg (a := k) (by omega)] <;> rfl⟩, .inl ⟨rfl, rfl⟩⟩ (by omega) (by omega) (by omega)) ?_
    refine WL.xe rfl (XE.append hS32 Tryz.underlying41 ti64 rfl (St.now ((SH.rd hS32 (.tail _ (.tail _ (.head _)))).imp fun _ h => Rd.cut h (by omega) (by omega) (by omega) (by omega))) rfl rfl (by first | omega | simp only [List.length_append, List.length_cons, List.length_nil, List.length_take, List.length_reverse, List.length_drop] at *; omega) (by first | omega | simp only [List.length_append, List.length_cons, List.length_nil, List.length_take, List.length_reverse, List.length_drop] at *; omega)) ?_
    rintro _ w20 ⟨A11, c11, rfl, hS33, hk19⟩
    refine WL.lv rfl (LV.asg rfl) ?_
    refine WL.nil (thenQ.n ?_)
    refine WC.seq ?_
    refine WC.region ?_
    iterate 2 refine WL.lv rfl (LV.mv rfl) ?_
    refine WL.xe rfl (XE.buildSlice (E := eIt) [] #[] [] hS33 Tryz.underlying45 ti68 rfl (by decide) (by kernel_rfl) (.inr rfl) rfl rfl (by decide)) ?_
    rintro _ w21 ⟨b8, rfl, hS34, hk20⟩
    refine WL.lv rfl (LV.mv rfl) ?_
    refine WL.xe rfl (XE.append hS34 Tryz.underlying45 ti68 rfl (St.now (SH.stN hS34 h_l)) rfl rfl (by first | omega | simp only [List.length_append, List.length_cons, List.length_nil, List.length_take, List.length_reverse, List.length_drop] at *; omega) (by first | omega | simp only [List.length_append, List.length_cons, List.length_nil, List.length_take, List.length_reverse, List.length_drop] at *; omega)) ?_
    rintro _ w22 ⟨A12, c12, rfl, hS35, hk21⟩
    refine WL.lv rfl (LV.build (vs := [(0, (.string file)), (1, (.slice A12 ((([] : List Itm) ++ l).length) c12))]) (places := #[(0, 1), (1, 1)]) (cs := #[(.string file), (.slice A12 ((([] : List Itm) ++ l).length) c12)]) Tryz.underlying64 ti64 (fun _ => by kernel_rfl) rfl rfl) ?_
    refine WL.xe rfl (XE.buildSlice (E := eSV) [(0, (.agg #[(.string file), (.slice A12 ((([] : List Itm) ++ l).length) c12)]))] #[(.string file), (.slice A12 ((([] : List Itm) ++ l).length) c12)] [((file, (⟨A12, (([] : List Itm) ++ l).length, c12⟩ : SV)) : ByteArray × SV)] hS35 Tryz.underlying41 ti64 rfl (by decide) (by kernel_rfl) (.inr rfl) rfl rfl (by decide)) ?_
    rintro _ w23 ⟨b9, rfl, hS36, hk22⟩
    have hS37 : SH w S w23 [rowE eSV 64 (.slice A11 ((([] : List (ByteArray × SV)) ++ ((rs.take ((k).toNat)).drop 0)).length) c11) (([] : List (ByteArray × SV)) ++ ((rs.take ((k).toNat)).drop 0)), rowE eSV 64 (.slice (some ⟨b9, 0, none⟩) 1 1) [((file, (⟨A12, (([] : List Itm) ++ l).length, c12⟩ : SV)) : ByteArray × SV)], rowE eIt 68 (.slice A12 ((([] : List Itm) ++ l).length) c12) (([] : List Itm) ++ l), blkE yb 43 #[(.slice A_f rs.length c_f)], rowE eSV 64 (.slice A_f rs.length c_f) rs, insE idS eIt 68 P3] := (SH.front [_, _] hS36)
    refine WL.xe rfl (XE.append hS37 Tryz.underlying41 ti64 rfl (St.now (SH.rd hS37 (.tail _ (.head _)))) rfl rfl (by first | omega | simp only [List.length_append, List.length_cons, List.length_nil, List.length_take, List.length_reverse, List.length_drop] at *; omega) (by first | omega | simp only [List.length_append, List.length_cons, List.length_nil, List.length_take, List.length_reverse, List.length_drop] at *; omega)) ?_
    rintro _ w24 ⟨A13, c13, rfl, hS38, hk23⟩
    refine WL.lv rfl (LV.asg rfl) ?_
    refine WL.nil (thenQ.n ?_)
    refine WC.seq ?_
    refine WC.region ?_
    iterate 3 refine WL.lv rfl (LV.mv rfl) ?_
    have hS39 : SH w S w24 [insE idS eIt 68 P3, rowE eSV 64 (.slice A13 (((([] : List (ByteArray × SV)) ++ ((rs.take ((k).toNat)).drop 0)) ++ [((file, (⟨A12, (([] : List Itm) ++ l).length, c12⟩ : SV)) : ByteArray × SV)]).length) c13) ((([] : List (ByteArray × SV)) ++ ((rs.take ((k).toNat)).drop 0)) ++ [((file, (⟨A12, (([] : List Itm) ++ l).length, c12⟩ : SV)) : ByteArray × SV)]), rowE eSV 64 (.slice (some ⟨b9, 0, none⟩) 1 1) [((file, (⟨A12, (([] : List Itm) ++ l).length, c12⟩ : SV)) : ByteArray × SV)], rowE eIt 68 (.slice A12 ((([] : List Itm) ++ l).length) c12) (([] : List Itm) ++ l), blkE yb 43 #[(.slice A_f rs.length c_f)], rowE eSV 64 (.slice A_f rs.length c_f) rs] := (SH.front [_, _, _, _, _] hS38)
    have hS40 : SH w S w24 [rowE eIt 68 (.slice A12 ((([] : List Itm) ++ l).length) c12) (([] : List Itm) ++ l), insE idS eIt 68 P3, rowE eSV 64 (.slice A13 (((([] : List (ByteArray × SV)) ++ ((rs.take ((k).toNat)).drop 0)) ++ [((file, (⟨A12, (([] : List Itm) ++ l).length, c12⟩ : SV)) : ByteArray × SV)]).length) c13) ((([] : List (ByteArray × SV)) ++ ((rs.take ((k).toNat)).drop 0)) ++ [((file, (⟨A12, (([] : List Itm) ++ l).length, c12⟩ : SV)) : ByteArray × SV)]), rowE eSV 64 (.slice (some ⟨b9, 0, none⟩) 1 1) [((file, (⟨A12, (([] : List Itm) ++ l).length, c12⟩ : SV)) : ByteArray × SV)], blkE yb 43 #[(.slice A_f rs.length c_f)], rowE eSV 64 (.slice A_f rs.length c_f) rs] := (SH.front [_, _, _] hS39)
    have hS41 : SH w S w24 [insE idS eIt 68 (P3 ++ [((⟨A12, (([] : List Itm) ++ l).length, c12⟩ : SV), (([] : List Itm) ++ l))]), rowE eSV 64 (.slice A13 (((([] : List (ByteArray × SV)) ++ ((rs.take ((k).toNat)).drop 0)) ++ [((file, (⟨A12, (([] : List Itm) ++ l).length, c12⟩ : SV)) : ByteArray × SV)]).length) c13) ((([] : List (ByteArray × SV)) ++ ((rs.take ((k).toNat)).drop 0)) ++ [((file, (⟨A12, (([] : List Itm) ++ l).length, c12⟩ : SV)) : ByteArray × SV)]), rowE eSV 64 (.slice (some ⟨b9, 0, none⟩) 1 1) [((file, (⟨A12, (([] : List Itm) ++ l).length, c12⟩ : SV)) : ByteArray × SV)], blkE yb 43 #[(.slice A_f rs.length c_f)], rowE eSV 64 (.slice A_f rs.length c_f) rs] := SH.insMore (sv := idS) (r := (⟨A12, (([] : List Itm) ++ l).length, c12⟩ : SV)) rfl hS40
    have hS42 : SH w S w24 [rowE eSV 64 (.slice A13 (((([] : List (ByteArray × SV)) ++ ((rs.take ((k).toNat)).drop 0)) ++ [((file, (⟨A12, (([] : List Itm) ++ l).length, c12⟩ : SV)) : ByteArray × SV)]).length) c13) ((([] : List (ByteArray × SV)) ++ ((rs.take ((k).toNat)).drop 0)) ++ [((file, (⟨A12, (([] : List Itm) ++ l).length, c12⟩ : SV)) : ByteArray × SV)]), insE idS eIt 68 (P3 ++ [((⟨A12, (([] : List Itm) ++ l).length, c12⟩ : SV), (([] : List Itm) ++ l))]), rowE eSV 64 (.slice (some ⟨b9, 0, none⟩) 1 1) [((file, (⟨A12, (([] : List Itm) ++ l).length, c12⟩ : SV)) : ByteArray × SV)], blkE yb 43 #[(.slice A_f rs.length c_f)], rowE eSV 64 (.slice A_f rs.length c_f) rs] := (SH.front [_] hS41)
    refine WL.xe rfl (XE.append hS42 Tryz.underlying41 ti64 rfl (St.now ((SH.rd hS42 (.tail _ (.tail _ (.tail _ (.tail _ (.head _)))))).imp fun _ h => Rd.cut h (by omega) (by omega) (by omega) (by omega))) rfl rfl (by first | omega | simp only [List.length_append, List.length_cons, List.length_nil, List.length_take, List.length_reverse, List.length_drop] at *; omega) (by first | omega | simp only [List.length_append, List.length_cons, List.length_nil, List.length_take, List.length_reverse, List.length_drop] at *; omega)) ?_
    rintro _ w25 ⟨A14, c14, rfl, hS43, hk24⟩
    refine WL.lv rfl (LV.nilCheck rfl) ?_
    refine WL.lv rfl (LV.fieldA Tryz.underlying43 rfl ti41.sz rfl) ?_
    have hS45 : SH w S w25 [blkE yb 43 #[(.slice A_f rs.length c_f)], rowE eSV 64 (.slice A14 ((((([] : List (ByteArray × SV)) ++ ((rs.take ((k).toNat)).drop 0)) ++ [((file, (⟨A12, (([] : List Itm) ++ l).length, c12⟩ : SV)) : ByteArray × SV)]) ++ ((rs.take rs.length).drop ((k).toNat))).length) c14) (((([] : List (ByteArray × SV)) ++ ((rs.take ((k).toNat)).drop 0)) ++ [((file, (⟨A12, (([] : List Itm) ++ l).length, c12⟩ : SV)) : ByteArray × SV)]) ++ ((rs.take rs.length).drop ((k).toNat))), insE idS eIt 68 (P3 ++ [((⟨A12, (([] : List Itm) ++ l).length, c12⟩ : SV), (([] : List Itm) ++ l))]), rowE eSV 64 (.slice (some ⟨b9, 0, none⟩) 1 1) [((file, (⟨A12, (([] : List Itm) ++ l).length, c12⟩ : SV)) : ByteArray × SV)], rowE eSV 64 (.slice A_f rs.length c_f) rs] := (SH.front [_, _, _] hS43)
    refine WL.xse rfl (XSE.blk #[(.slice A14 ((((([] : List (ByteArray × SV)) ++ ((rs.take ((k).toNat)).drop 0)) ++ [((file, (⟨A12, (([] : List Itm) ++ l).length, c12⟩ : SV)) : ByteArray × SV)]) ++ ((rs.take rs.length).drop ((k).toNat))).length) c14)] hS45 (Nat.le_of_ble_eq_true rfl) ti41.sz rfl rfl rfl rfl) ?_
    rintro w26 ⟨hS44, hk25⟩
    refine WL.nil (thenQ.n ?_)
    refine WC.seq ?_
    refine WC.region ?_
    refine WL.lv rfl (LV.asg rfl) ?_
    refine WL.nil (thenQ.n ?_)
    refine WC.ret (?_)
    have hS46 : SH w S w26 [blkE yb 43 #[(.slice A14 ((((([] : List (ByteArray × SV)) ++ ((rs.take ((k).toNat)).drop 0)) ++ [((file, (⟨A12, (([] : List Itm) ++ l).length, c12⟩ : SV)) : ByteArray × SV)]) ++ ((rs.take rs.length).drop ((k).toNat))).length) c14)], rowE eSV 64 (.slice A14 ((((([] : List (ByteArray × SV)) ++ ((rs.take ((k).toNat)).drop 0)) ++ [((file, (⟨A12, (([] : List Itm) ++ l).length, c12⟩ : SV)) : ByteArray × SV)]) ++ ((rs.take rs.length).drop ((k).toNat))).length) c14) (((([] : List (ByteArray × SV)) ++ ((rs.take ((k).toNat)).drop 0)) ++ [((file, (⟨A12, (([] : List Itm) ++ l).length, c12⟩ : SV)) : ByteArray × SV)]) ++ ((rs.take rs.length).drop ((k).toNat))), insE idS eIt 68 (P3 ++ [((⟨A12, (([] : List Itm) ++ l).length, c12⟩ : SV), (([] : List Itm) ++ l))])] := (SH.take 3 rfl (SH.front [_, _] (SH.front [_, _] (SH.front [_, _] hS44))))
    exact ⟨_, fun a ha => res1 rfl ha rfl, _, _, _, _, rfl, docr_put hD hF klo khi q1 (fun h_ => by first | assumption | omega) (by first | (rw [if_pos ⟨by omega, by assumption⟩]; simp; done) | (rw [if_neg (fun h_ => by first | omega | exact absurd h_.2 (by assumption))]; simp)), hS46⟩

theorem rputn_calls {w : World} {b : Nat} {file : ByteArray} {A_l : Option Addr} {n_l c_l : Nat} (hz : file.size ≤ 140737488355328) (hN : ¬ NAM file) :
    Calls Tryz.prog 48 #[(.pointer (some ⟨b, 0, none⟩)), (.string file), (.slice A_l n_l c_l)] w fun e w' => ∃ v, e = .returned v ∧ (fun v w' => v = .int .i64 2 ∧ KB No w w') v w' := by
  have hS : SH w No w [] := SH.nil _ _
  refine calls (l := litOf [(.pointer (some ⟨b, 0, none⟩)), (.string file), (.slice A_l n_l c_l)] 0) Tryz.func48 rfl (n := 97) rfl (Nat.le_of_ble_eq_true rfl) (lit_args _) ?_
  refine WC.seq ?_
  refine WC.region ?_
  refine WL.lv rfl (LV.asg rfl) ?_
  refine WL.nil (thenQ.n ?_)
  iterate 2 refine WC.seq ?_
  refine WC.region ?_
  refine WL.lv rfl (LV.mv rfl) ?_
  refine WL.call rfl (XC.fn Tryz.func69 (by kernel_rfl) rfl rfl rfl) (Calls.asB (rname_calls (s := file) (hz)) (decide_eq_false (hN))) ?_
  rintro v_ w1 ⟨rfl, hk1⟩
  have hS1 := SH.same hS hk1
  refine WL.lv rfl (LV.notB rfl) ?_
  refine WL.nil (thenQ.n ?_)
  refine WC.condT rfl ?_
  refine WC.seq ?_
  refine WC.region ?_
  refine WL.lv rfl (LV.asg rfl) ?_
  refine WL.nil (thenQ.n ?_)
  refine WC.ret (thenQ.r <| ?_)
  exact ⟨_, fun a ha => res1 rfl ha rfl, rfl, hS1.kb⟩

end Go.Proofs.YtigbphaimbhgjaaGreat

