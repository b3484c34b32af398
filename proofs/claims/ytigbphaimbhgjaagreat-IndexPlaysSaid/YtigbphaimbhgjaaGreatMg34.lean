/- The document's words, files, and all. -/
import Derived.Test.YtigbphaimbhgjaaGreatMg33
namespace Go.Proofs.YtigbphaimbhgjaaGreat
open Go Go.Gv Go.RowKit Go.Tly Go.Wds Go.Idx
set_option linter.unusedVariables false
set_option linter.unusedSimpArgs false

theorem rwords_calls {w : World} {Y : DCS} {o : Lb} (h_Y : St No w (DCRD 43 Y)) (hv_Y : DCW Y) (wo : 0 ≤ o.2 ∧ o.2 < 18446744073709551616) :
    Calls Tryz.prog 10 #[(.pointer (some ⟨Y.b, 0, none⟩)), (.agg #[(.int .i64 ((o).1)), (.int .u64 ((o).2))])] w fun e w' => ∃ v, e = .returned v ∧ (fun v w' => ∃ (A0' : Option Addr) (c0' : Nat), v = .slice A0' (WRDS Y.F o).length c0' ∧ SH w No w' [rowE eS 9 (.slice A0' (WRDS Y.F o).length c0') (WRDS Y.F o)]) v w' := by
  have hyl_ := hv_Y.len
  have hS : SH w No w [] := SH.nil _ _
  refine calls (l := litOf [(.pointer (some ⟨Y.b, 0, none⟩)), (.agg #[(.int .i64 ((o).1)), (.int .u64 ((o).2))])] 0) Tryz.func10 rfl (n := 71) rfl (Nat.le_of_ble_eq_true rfl) (lit_args _) ?_
  refine WC.seq ?_
  refine WC.region ?_
  refine WL.xe rfl (XE.box #[(.int .i64 ((o).1)), (.int .u64 ((o).2))] hS rfl rfl) ?_
  rintro _ w1 ⟨b1, rfl, hS1, hk1⟩
  refine WL.lv rfl (LV.asg rfl) ?_
  refine WL.nil (thenQ.n ?_)
  refine WC.seq ?_
  refine WC.region ?_
  refine WL.xe rfl (XE.buildSlice (E := eS) [] #[] [] hS1 Tryz.underlying23 ti9 rfl (by decide) (by kernel_rfl) (.inr rfl) rfl rfl (by decide)) ?_
  rintro _ w2 ⟨b2, rfl, hS2, hk2⟩
  refine WL.lv rfl (LV.asg rfl) ?_
  refine WL.nil (thenQ.n ?_)
  iterate 2 refine WC.seq ?_
  refine WC.region ?_
  refine WL.lv rfl (LV.asg rfl) ?_
  refine WL.nil (thenQ.n ?_)
  refine WC.block ?_
  refine WC.loop (fun m_ f_ w_ => ∃ (A_out : Option Addr) (c_out : Nat) (out : List ByteArray) (i : Int), (0 ≤ i) ∧ (i ≤ Y.rs.length) ∧ (out = SRTB (VW (Y.F.take i.toNat) o)) ∧ ((out.length : Int) ≤ 1200 * i) ∧ SH w No w_ [rowE eS 9 (.slice A_out out.length c_out) out, blkE b1 26 #[(.int .i64 ((o).1)), (.int .u64 ((o).2))]] ∧ m_ = (((Y.rs.length : Int) - i).toNat) ∧ Weak (lit [(0, (.pointer (some ⟨Y.b, 0, none⟩))), (3, (.pointer (some ⟨b1, 0, none⟩))), (5, (.slice A_out out.length c_out)), (6, (.int .i64 i))]) f_) _ ⟨(some ⟨b2, 0, none⟩), 0, [], 0, by omega, by omega, rfl, (by simp), hS2, rfl, Weak.cons rfl <| Weak.cons rfl <| Weak.cons rfl <| Weak.cons rfl <| Weak.nil _⟩ ?_
  rintro m1 f1 w3 ⟨A_out, c_out, out, i, ilo, ihi, q1, l1, hL1, rfl, hw1⟩
  refine WC.weak hw1 ?_
  clear hw1
  iterate 2 refine WC.seq ?_
  refine WC.region ?_
  iterate 2 refine WL.lv rfl (LV.mv rfl) ?_
  refine WL.lv rfl (LV.nilCheck rfl) ?_
  refine WL.lv rfl (LV.fieldA Tryz.underlying43 rfl ti41.sz rfl) ?_
  refine WL.lv rfl (LV.load1 Tryz.underlying41 rfl rfl (Blk.cellN (SH.arg hL1 (h_Y.imp fun _ h_ => h_.1)) 0 rfl _ (KB.refl No _))) ?_
  refine WL.lv rfl (LV.lenL Tryz.underlying41 rfl) ?_
  refine WL.lv rfl (LV.ltI rfl rfl) ?_
  refine WL.nil (thenQ.n ?_)
  refine WC.condP (p := i < (Y.rs.length : Int)) rfl (fun hc1 => ?_) (fun hc1 => ?_)
  · have hya_ := hv_Y.at (i := i.toNat) (by omega)
    refine WC.skip (thenQ.n ?_)
    refine WC.seq ?_
    refine WC.block ?_
    refine WC.seq ?_
    refine WC.region ?_
    refine WL.lv rfl (LV.asg rfl) ?_
    refine WL.nil (thenQ.n ?_)
    refine WC.block ?_
    refine WC.loop (fun m_ f_ w_ => ∃ (A_ou : Option Addr) (c_ou : Nat) (ou : List ByteArray) (k : Int), (0 ≤ k) ∧ (k ≤ (Y.F.getD i.toNat default).2.length) ∧ (ou = SRTB (VW (Y.F.take i.toNat) o ++ VL o ((Y.F.getD i.toNat default).2.take k.toNat))) ∧ ((ou.length : Int) ≤ 1200 * i + 60 * k) ∧ SH w No w_ [rowE eS 9 (.slice A_ou ou.length c_ou) ou, blkE b1 26 #[(.int .i64 ((o).1)), (.int .u64 ((o).2))]] ∧ m_ = ((((Y.F.getD i.toNat default).2.length : Int) - k).toNat) ∧ Weak (lit [(0, (.pointer (some ⟨Y.b, 0, none⟩))), (3, (.pointer (some ⟨b1, 0, none⟩))), (5, (.slice A_ou ou.length c_ou)), (6, (.int .i64 i)), (7, (.int .i64 k))]) f_) _ ⟨A_out, c_out, out, 0, by omega, by omega, (dw_0 q1), by omega, hL1, rfl, Weak.cons rfl <| Weak.cons rfl <| Weak.cons rfl <| Weak.cons rfl <| Weak.cons rfl <| Weak.nil _⟩ ?_
    rintro m2 f2 w4 ⟨A_ou, c_ou, ou, k, klo, khi, p1, p4, hL2, rfl, hw2⟩
    refine WC.weak hw2 ?_
    clear hw2
    iterate 2 refine WC.seq ?_
    refine WC.region ?_
    iterate 2 refine WL.lv rfl (LV.mv rfl) ?_
    refine WL.lv rfl (LV.nilCheck rfl) ?_
    refine WL.lv rfl (LV.fieldA Tryz.underlying43 rfl ti41.sz rfl) ?_
    refine WL.lv rfl (LV.load1 Tryz.underlying41 rfl rfl (Blk.cellN (SH.arg hL2 (h_Y.imp fun _ h_ => h_.1)) 0 rfl _ (KB.refl No _))) ?_
    refine WL.lv rfl (LV.mv rfl) ?_
    obtain ⟨A1, c1, e1, g1⟩ := St.elt (SH.stN hL2 (h_Y.imp fun _ h_ => h_.2.1)) dSV i (by omega) (by omega)
    refine WL.lv rfl (LV.idxA Tryz.underlying41 ti64.sz rfl e1 rfl (by omega) (by omega)) ?_
    refine WL.lv rfl (LV.fieldA Tryz.underlying64 rfl ti45.sz rfl) ?_
    obtain ⟨A2, c2, hv1, hr1⟩ := docr_at (i := (i).toNat) (h_Y.imp fun _ h_ => h_.2.2) hv_Y.dr (by omega)
    refine WL.lv rfl (LV.to hv1 (LV.load1 (v := (Y.rs.getD (i).toNat dSV).2.v) Tryz.underlying45 rfl rfl (g1 _ (KB.refl No _) 1 _ rfl))) ?_
    refine WL.lv rfl (LV.lenL Tryz.underlying45 rfl) ?_
    refine WL.lv rfl (LV.ltI rfl rfl) ?_
    refine WL.nil (thenQ.n ?_)
    refine WC.condP (p := k < ((Y.F.getD (i).toNat default).2.length : Int)) rfl (fun hc2 => ?_) (fun hc2 => ?_)
    · have hyy_ := hya_.2.1 _ (getD_mem (l := (Y.F.getD i.toNat default).2) (d := dI) (i := k.toNat) (by omega))
      have hol_ := OF_len ((Y.F.getD i.toNat default).2.getD k.toNat dI).2.2.2.1
      refine WC.skip (thenQ.n ?_)
      refine WC.seq ?_
      refine WC.block ?_
      refine WC.seq ?_
      refine WC.region ?_
      refine WL.lv rfl (LV.mv rfl) ?_
      refine WL.lv rfl (LV.nilCheck rfl) ?_
      refine WL.lv rfl (LV.fieldA Tryz.underlying43 rfl ti41.sz rfl) ?_
      refine WL.lv rfl (LV.load1 Tryz.underlying41 rfl rfl (Blk.cellN (SH.arg hL2 (h_Y.imp fun _ h_ => h_.1)) 0 rfl _ (KB.refl No _))) ?_
      refine WL.lv rfl (LV.mv rfl) ?_
      obtain ⟨A3, c3, e2, g2⟩ := St.elt (SH.stN hL2 (h_Y.imp fun _ h_ => h_.2.1)) dSV i (by omega) (by omega)
      refine WL.lv rfl (LV.idxA Tryz.underlying41 ti64.sz rfl e2 rfl (by omega) (by omega)) ?_
      refine WL.lv rfl (LV.fieldA Tryz.underlying64 rfl ti45.sz rfl) ?_
      obtain ⟨A4, c4, hv2, hr2⟩ := docr_at (i := (i).toNat) (h_Y.imp fun _ h_ => h_.2.2) hv_Y.dr (by omega)
      refine WL.lv rfl (LV.to hv2 (LV.load1 (v := (Y.rs.getD (i).toNat dSV).2.v) Tryz.underlying45 rfl rfl (g2 _ (KB.refl No _) 1 _ rfl))) ?_
      refine WL.lv rfl (LV.mv rfl) ?_
      obtain ⟨A5, c5, e3, g3⟩ := St.elt (SH.stN hL2 hr2) dI k (by omega) (by omega)
      refine WL.lv rfl (LV.idxA Tryz.underlying45 ti68.sz rfl e3 rfl (by omega) (by omega)) ?_
      refine WL.lv rfl (LV.loadAgg (cs := [(.int .i64 ((((Y.F.getD (i).toNat default).2).getD (k).toNat dI).1)), (.int .i64 ((((Y.F.getD (i).toNat default).2).getD (k).toNat dI).2.1.1)), (.int .u64 ((((Y.F.getD (i).toNat default).2).getD (k).toNat dI).2.1.2)), (.bool ((((Y.F.getD (i).toNat default).2).getD (k).toNat dI).2.2.1)), (.string ((((Y.F.getD (i).toNat default).2).getD (k).toNat dI).2.2.2.1)), (.bool ((((Y.F.getD (i).toNat default).2).getD (k).toNat dI).2.2.2.2))]) Tryz.underlying68 rfl ti68 rfl rfl (fun j u hu => g3 _ (KB.refl No _) j u hu)) ?_
      refine WL.xe rfl (XE.alloc #[(.int .i64 0), (.int .i64 0), (.int .u64 0), (.bool false), (.string ⟨#[]⟩), (.bool false)] hL2 ti68 rfl) ?_
      rintro _ w5 ⟨b3, rfl, hS3, hk3⟩
      refine WL.xse rfl (XSE.blkAgg #[(.int .i64 ((((Y.F.getD (i).toNat default).2).getD (k).toNat dI).1)), (.int .i64 ((((Y.F.getD (i).toNat default).2).getD (k).toNat dI).2.1.1)), (.int .u64 ((((Y.F.getD (i).toNat default).2).getD (k).toNat dI).2.1.2)), (.bool ((((Y.F.getD (i).toNat default).2).getD (k).toNat dI).2.2.1)), (.string ((((Y.F.getD (i).toNat default).2).getD (k).toNat dI).2.2.2.1)), (.bool ((((Y.F.getD (i).toNat default).2).getD (k).toNat dI).2.2.2.2))] hS3 (by kernel_rfl) rfl (by kernel_rfl) rfl rfl) ?_
      rintro w6 ⟨hS4, hk4⟩
      refine WL.nil (thenQ.n ?_)
      iterate 2 refine WC.seq ?_
      refine WC.region ?_
      refine WL.lv rfl (LV.fieldA Tryz.underlying68 rfl ti4.sz rfl) ?_
      refine WL.lv rfl (LV.load1 Tryz.underlying4 rfl rfl (Blk.cellN (SH.at hS4 (.head _)) 3 rfl _ (KB.refl No _))) ?_
      rcases Bool.eq_false_or_eq_true ((((Y.F.getD (i).toNat default).2).getD (k).toNat dI).2.2.1) with hanc | hanc
      · refine WL.lv rfl (LV.as (c := true) (LV.mv rfl) hanc) ?_
        iterate 5 refine WL.off rfl ?_
        refine WL.lv rfl (LV.pickT rfl rfl) ?_
        refine WL.nil (thenQ.n ?_)
        refine WC.condT rfl ?_
        refine WC.exit (thenQ.x <| blockQ.hit <| thenQ.n ?_)
        refine WC.region ?_
        refine WL.lv rfl (LV.mv rfl) ?_
        refine WL.lv rfl (LV.add rfl rfl (wr64 (by omega) (by omega))) ?_
        refine WL.lv rfl (LV.asg rfl) ?_
        refine WL.nil (thenQ.n ?_)
        have hS5 : SH w No w6 [rowE eS 9 (.slice A_ou ou.length c_ou) ou, blkE b1 26 #[(.int .i64 ((o).1)), (.int .u64 ((o).2))]] := (SH.take 2 rfl (SH.front [_, _] (SH.front [_, _] hS4)))
        exact ⟨_, by omega, A_ou, c_ou, ou, k + 1, by omega, by omega, (dw_no klo (by omega) (fun h_ => by first | exact hb h_.2 | (rw [h_.1] at hanc; cases hanc; done)) p1), by omega, hS5, rfl, Weak.cons rfl <| Weak.cons rfl <| Weak.cons rfl <| Weak.cons rfl <| Weak.cons rfl <| Weak.nil _⟩
      · refine WL.lv rfl (LV.as (c := false) (LV.mv rfl) hanc) ?_
        refine WL.lv rfl (LV.fieldA Tryz.underlying68 rfl ti26.sz rfl) ?_
        refine WL.lv rfl (LV.loadAgg (cs := [(.int .i64 ((((Y.F.getD (i).toNat default).2).getD (k).toNat dI).2.1.1)), (.int .u64 ((((Y.F.getD (i).toNat default).2).getD (k).toNat dI).2.1.2))]) Tryz.underlying26 rfl ti26 rfl rfl (Blk.part 1 2 (SH.at hS4 (.head _)) rfl _ (KB.refl No _))) ?_
        refine WL.lv rfl (LV.loadAgg (cs := [(.int .i64 ((o).1)), (.int .u64 ((o).2))]) Tryz.underlying26 rfl ti26 rfl rfl (Blk.agg (SH.at hS4 (.tail _ (.tail _ (.head _)))) _ (KB.refl No _))) ?_
        refine WL.call rfl (XC.fn Tryz.func27 (by kernel_rfl) rfl rfl rfl) (rbelow_calls (a := ((((Y.F.getD (i).toNat default).2).getD (k).toNat dI).2.1)) (b := o) (hyy_.2) (wo)) ?_
        rintro v_ w7 ⟨rfl, hk5⟩
        have hS6 := SH.same hS4 hk5
        refine WL.lv rfl (LV.notP rfl) ?_
        refine WL.lv rfl (LV.pickF rfl rfl) ?_
        refine WL.nil (thenQ.n ?_)
        refine WC.condP (p := ¬ (BEL ((((Y.F.getD (i).toNat default).2).getD (k).toNat dI).2.1) o)) rfl (fun hb => ?_) (fun hb => ?_)
        · skip
          refine WC.exit (thenQ.x <| blockQ.hit <| thenQ.n ?_)
          refine WC.region ?_
          refine WL.lv rfl (LV.mv rfl) ?_
          refine WL.lv rfl (LV.add rfl rfl (wr64 (by omega) (by omega))) ?_
          refine WL.lv rfl (LV.asg rfl) ?_
          refine WL.nil (thenQ.n ?_)
          have hS7 : SH w No w7 [rowE eS 9 (.slice A_ou ou.length c_ou) ou, blkE b1 26 #[(.int .i64 ((o).1)), (.int .u64 ((o).2))]] := (SH.take 2 rfl (SH.front [_, _] (SH.front [_, _] hS6)))
          exact ⟨_, by omega, A_ou, c_ou, ou, k + 1, by omega, by omega, (dw_no klo (by omega) (fun h_ => by first | exact hb h_.2 | (rw [h_.1] at hanc; cases hanc; done)) p1), by omega, hS7, rfl, Weak.cons rfl <| Weak.cons rfl <| Weak.cons rfl <| Weak.cons rfl <| Weak.cons rfl <| Weak.nil _⟩
        · skip
          refine WC.skip (thenQ.n ?_)
          refine WC.seq ?_
          refine WC.region ?_
          refine WL.lv rfl (LV.fieldA Tryz.underlying68 rfl ti66.sz rfl) ?_
          refine WL.lv rfl (LV.fieldA Tryz.underlying66 rfl ti9.sz rfl) ?_
          refine WL.lv rfl (LV.load1 Tryz.underlying9 rfl rfl (Blk.cellN (SH.at hS6 (.head _)) 4 rfl _ (KB.refl No _))) ?_
          refine WL.call rfl (XC.fn Tryz.func16 (by kernel_rfl) rfl rfl rfl) (rof_calls (s := ((((Y.F.getD (i).toNat default).2).getD (k).toNat dI).2.2.2.1)) (by omega)) ?_
          rintro v_ w8 ⟨A6, c6, rfl, hS8⟩
          have hS9 := SH.joinN hS6 hS8
          refine WL.lv rfl (LV.asg rfl) ?_
          refine WL.nil (thenQ.n ?_)
          refine WC.seq ?_
          refine WC.region ?_
          refine WL.lv rfl (LV.asg rfl) ?_
          refine WL.nil (thenQ.n ?_)
          refine WC.block ?_
          refine WC.loop (fun m_ f_ w_ => ∃ (A_ov : Option Addr) (c_ov : Nat) (ov : List ByteArray) (j : Int), (0 ≤ j) ∧ (j ≤ ((OF ((((Y.F.getD (i).toNat default).2).getD (k).toNat dI).2.2.2.1)).length : Int)) ∧ (ov = SRTB (VW (Y.F.take i.toNat) o ++ VL o ((Y.F.getD i.toNat default).2.take k.toNat) ++ (OF ((Y.F.getD i.toNat default).2.getD k.toNat dI).2.2.2.1).take j.toNat)) ∧ ((ov.length : Int) ≤ 1200 * i + 60 * k + j) ∧ SH w No w_ [rowE eS 9 (.slice A6 ((OF ((((Y.F.getD (i).toNat default).2).getD (k).toNat dI).2.2.2.1)).length) c6) (OF ((((Y.F.getD (i).toNat default).2).getD (k).toNat dI).2.2.2.1)), blkE b3 68 #[(.int .i64 ((((Y.F.getD (i).toNat default).2).getD (k).toNat dI).1)), (.int .i64 ((((Y.F.getD (i).toNat default).2).getD (k).toNat dI).2.1.1)), (.int .u64 ((((Y.F.getD (i).toNat default).2).getD (k).toNat dI).2.1.2)), (.bool ((((Y.F.getD (i).toNat default).2).getD (k).toNat dI).2.2.1)), (.string ((((Y.F.getD (i).toNat default).2).getD (k).toNat dI).2.2.2.1)), (.bool ((((Y.F.getD (i).toNat default).2).getD (k).toNat dI).2.2.2.2))], rowE eS 9 (.slice A_ov ov.length c_ov) ov, blkE b1 26 #[(.int .i64 ((o).1)), (.int .u64 ((o).2))]] ∧ m_ = ((((OF ((((Y.F.getD (i).toNat default).2).getD (k).toNat dI).2.2.2.1)).length : Int) - j).toNat) ∧ Weak (lit [(0, (.pointer (some ⟨Y.b, 0, none⟩))), (3, (.pointer (some ⟨b1, 0, none⟩))), (5, (.slice A_ov ov.length c_ov)), (6, (.int .i64 i)), (7, (.int .i64 k)), (9, (.slice A6 ((OF ((((Y.F.getD (i).toNat default).2).getD (k).toNat dI).2.2.2.1)).length) c6)), (10, (.int .i64 j))]) f_) _ ⟨A_ou, c_ou, ou, 0, by omega, by omega, (by simpa using p1), by omega, hS9, rfl, Weak.cons rfl <| Weak.cons rfl <| Weak.cons rfl <| Weak.cons rfl <| Weak.cons rfl <| Weak.cons rfl <| Weak.cons rfl <| Weak.nil _⟩ ?_
          rintro m3 f3 w9 ⟨A_ov, c_ov, ov, j, jlo, jhi, r1, r4, hL3, rfl, hw3⟩
          refine WC.weak hw3 ?_
          clear hw3
          iterate 2 refine WC.seq ?_
          refine WC.region ?_
          iterate 2 refine WL.lv rfl (LV.mv rfl) ?_
          refine WL.lv rfl (LV.lenL Tryz.underlying23 rfl) ?_
          refine WL.lv rfl (LV.ltI rfl rfl) ?_
          refine WL.nil (thenQ.n ?_)
          refine WC.condP (p := j < ((OF ((((Y.F.getD (i).toNat default).2).getD (k).toNat dI).2.2.2.1)).length : Int)) rfl (fun hc3 => ?_) (fun hc3 => ?_)
          · skip
            refine WC.skip (thenQ.n ?_)
            refine WC.seq ?_
            refine WC.block ?_
            refine WC.region ?_
            iterate 3 refine WL.lv rfl (LV.mv rfl) ?_
            obtain ⟨A7, c7, e4, g4⟩ := St.elt (SH.rd hL3 (.head _)) ByteArray.empty j (by omega) (by omega)
            refine WL.lv rfl (LV.idxA Tryz.underlying23 ti9.sz rfl e4 rfl (by omega) (by omega)) ?_
            refine WL.lv rfl (LV.load1 (v := (.string ((OF ((((Y.F.getD (i).toNat default).2).getD (k).toNat dI).2.2.2.1)).getD (j).toNat ByteArray.empty))) Tryz.underlying9 rfl rfl (g4 _ (KB.refl No _) 0 _ rfl)) ?_
            have hS10 : SH w No w9 [rowE eS 9 (.slice A_ov ov.length c_ov) ov, rowE eS 9 (.slice A6 ((OF ((((Y.F.getD (i).toNat default).2).getD (k).toNat dI).2.2.2.1)).length) c6) (OF ((((Y.F.getD (i).toNat default).2).getD (k).toNat dI).2.2.2.1)), blkE b3 68 #[(.int .i64 ((((Y.F.getD (i).toNat default).2).getD (k).toNat dI).1)), (.int .i64 ((((Y.F.getD (i).toNat default).2).getD (k).toNat dI).2.1.1)), (.int .u64 ((((Y.F.getD (i).toNat default).2).getD (k).toNat dI).2.1.2)), (.bool ((((Y.F.getD (i).toNat default).2).getD (k).toNat dI).2.2.1)), (.string ((((Y.F.getD (i).toNat default).2).getD (k).toNat dI).2.2.2.1)), (.bool ((((Y.F.getD (i).toNat default).2).getD (k).toNat dI).2.2.2.2))], blkE b1 26 #[(.int .i64 ((o).1)), (.int .u64 ((o).2))]] := (SH.front [_, _] hL3)
            have hT1 := SH.sub (Es := [_]) hS10
            refine WL.call rfl (XC.fn Tryz.func28 (by kernel_rfl) rfl rfl rfl) (with_calls (l := ov) (s := ((OF ((((Y.F.getD (i).toNat default).2).getD (k).toNat dI).2.2.2.1)).getD (j).toNat ByteArray.empty)) hT1 (by omega)) ?_
            rintro v_ w10 ⟨A8, c8, rfl, hU1⟩
            have hS11 := SH.back (Es := [_]) hS10 hU1
            refine WL.lv rfl (LV.asg rfl) ?_
            refine WL.nil (blockQ.n <| thenQ.n ?_)
            refine WC.region ?_
            refine WL.lv rfl (LV.mv rfl) ?_
            refine WL.lv rfl (LV.add rfl rfl (wr64 (by omega) (by omega))) ?_
            refine WL.lv rfl (LV.asg rfl) ?_
            refine WL.nil (thenQ.n ?_)
            have hS12 : SH w No w10 [rowE eS 9 (.slice A6 ((OF ((((Y.F.getD (i).toNat default).2).getD (k).toNat dI).2.2.2.1)).length) c6) (OF ((((Y.F.getD (i).toNat default).2).getD (k).toNat dI).2.2.2.1)), blkE b3 68 #[(.int .i64 ((((Y.F.getD (i).toNat default).2).getD (k).toNat dI).1)), (.int .i64 ((((Y.F.getD (i).toNat default).2).getD (k).toNat dI).2.1.1)), (.int .u64 ((((Y.F.getD (i).toNat default).2).getD (k).toNat dI).2.1.2)), (.bool ((((Y.F.getD (i).toNat default).2).getD (k).toNat dI).2.2.1)), (.string ((((Y.F.getD (i).toNat default).2).getD (k).toNat dI).2.2.2.1)), (.bool ((((Y.F.getD (i).toNat default).2).getD (k).toNat dI).2.2.2.2))], rowE eS 9 (.slice A8 ((INSB ((OF ((((Y.F.getD (i).toNat default).2).getD (k).toNat dI).2.2.2.1)).getD (j).toNat ByteArray.empty) ov).length) c8) (INSB ((OF ((((Y.F.getD (i).toNat default).2).getD (k).toNat dI).2.2.2.1)).getD (j).toNat ByteArray.empty) ov), blkE b1 26 #[(.int .i64 ((o).1)), (.int .u64 ((o).2))]] := (SH.front [_, _, _] (SH.front [_, _, _] (SH.front [_] (SH.front [_, _, _] hS11))))
            exact ⟨_, by omega, A8, c8, (INSB ((OF ((((Y.F.getD (i).toNat default).2).getD (k).toNat dI).2.2.2.1)).getD (j).toNat ByteArray.empty) ov), j + 1, by omega, by omega, (dw_word jlo (by omega) r1), (by have h_ := INSB_len ((OF ((Y.F.getD i.toNat default).2.getD k.toNat dI).2.2.2.1).getD j.toNat ByteArray.empty) ov; omega), hS12, rfl, Weak.cons rfl <| Weak.cons rfl <| Weak.cons rfl <| Weak.cons rfl <| Weak.cons rfl <| Weak.cons rfl <| Weak.cons rfl <| Weak.nil _⟩
          · skip
            refine WC.exit (thenQ.x <| thenQ.x <| blockQ.hit <| blockQ.n <| thenQ.n ?_)
            refine WC.region ?_
            refine WL.lv rfl (LV.mv rfl) ?_
            refine WL.lv rfl (LV.add rfl rfl (wr64 (by omega) (by omega))) ?_
            refine WL.lv rfl (LV.asg rfl) ?_
            refine WL.nil (thenQ.n ?_)
            have hS13 : SH w No w9 [rowE eS 9 (.slice A_ov ov.length c_ov) ov, blkE b1 26 #[(.int .i64 ((o).1)), (.int .u64 ((o).2))]] := (SH.take 2 rfl (SH.front [_, _, _] (SH.front [_, _, _] hL3)))
            exact ⟨_, by omega, A_ov, c_ov, ov, k + 1, by omega, by omega, (dw_yes klo (by omega) ⟨hanc, Decidable.not_not.1 hb⟩ (by omega) r1), by omega, hS13, rfl, Weak.cons rfl <| Weak.cons rfl <| Weak.cons rfl <| Weak.cons rfl <| Weak.cons rfl <| Weak.nil _⟩
    · skip
      refine WC.exit (thenQ.x <| thenQ.x <| blockQ.hit <| blockQ.n <| thenQ.n ?_)
      refine WC.region ?_
      refine WL.lv rfl (LV.mv rfl) ?_
      refine WL.lv rfl (LV.add rfl rfl (wr64 (by omega) (by omega))) ?_
      refine WL.lv rfl (LV.asg rfl) ?_
      refine WL.nil (thenQ.n ?_)
      exact ⟨_, by omega, A_ou, c_ou, ou, i + 1, by omega, by omega, (dw_end ilo (by omega) (by omega) p1), by omega, hL2, rfl, Weak.cons rfl <| Weak.cons rfl <| Weak.cons rfl <| Weak.cons rfl <| Weak.nil _⟩
  · skip
    refine WC.exit (thenQ.x <| thenQ.x <| blockQ.hit <| thenQ.n ?_)
    refine WC.seq ?_
    refine WC.region ?_
    refine WL.lv rfl (LV.mv rfl) ?_
    refine WL.lv rfl (LV.asg rfl) ?_
    refine WL.nil (thenQ.n ?_)
    refine WC.ret (?_)
    have hS14 : SH w No w3 [rowE eS 9 (.slice A_out out.length c_out) out] := (SH.take 1 rfl hL1)
    have hres1 : (out : List ByteArray) = WRDS Y.F o := by rw [q1, List.take_of_length_le (by omega)]; exact wrds_doc Y.F o
    exact ⟨_, fun a ha => res1 rfl ha rfl, (by rw [← hres1]; exact ⟨_, _, rfl, hS14⟩)⟩

theorem rfiles_calls {w : World} {Y : DCS} {o : Lb} (h_Y : St No w (DCRD 43 Y)) (hv_Y : DCW Y) (wo : 0 ≤ o.2 ∧ o.2 < 18446744073709551616) :
    Calls Tryz.prog 12 #[(.pointer (some ⟨Y.b, 0, none⟩)), (.agg #[(.int .i64 ((o).1)), (.int .u64 ((o).2))])] w fun e w' => ∃ v, e = .returned v ∧ (fun v w' => ∃ (A0' : Option Addr) (c0' : Nat), v = .slice A0' (FLS Y.F o).length c0' ∧ SH w No w' [rowE eS 9 (.slice A0' (FLS Y.F o).length c0') (FLS Y.F o)]) v w' := by
  have hyl_ := hv_Y.len
  have hS : SH w No w [] := SH.nil _ _
  refine calls (l := litOf [(.pointer (some ⟨Y.b, 0, none⟩)), (.agg #[(.int .i64 ((o).1)), (.int .u64 ((o).2))])] 0) Tryz.func12 rfl (n := 62) rfl (Nat.le_of_ble_eq_true rfl) (lit_args _) ?_
  refine WC.seq ?_
  refine WC.region ?_
  refine WL.xe rfl (XE.box #[(.int .i64 ((o).1)), (.int .u64 ((o).2))] hS rfl rfl) ?_
  rintro _ w1 ⟨b1, rfl, hS1, hk1⟩
  refine WL.lv rfl (LV.asg rfl) ?_
  refine WL.nil (thenQ.n ?_)
  refine WC.seq ?_
  refine WC.region ?_
  refine WL.xe rfl (XE.buildSlice (E := eS) [] #[] [] hS1 Tryz.underlying23 ti9 rfl (by decide) (by kernel_rfl) (.inr rfl) rfl rfl (by decide)) ?_
  rintro _ w2 ⟨b2, rfl, hS2, hk2⟩
  refine WL.lv rfl (LV.asg rfl) ?_
  refine WL.nil (thenQ.n ?_)
  iterate 2 refine WC.seq ?_
  refine WC.region ?_
  refine WL.lv rfl (LV.asg rfl) ?_
  refine WL.nil (thenQ.n ?_)
  refine WC.block ?_
  refine WC.loop (fun m_ f_ w_ => ∃ (A_out : Option Addr) (c_out : Nat) (out : List ByteArray) (i : Int), (0 ≤ i) ∧ (i ≤ Y.rs.length) ∧ (out = FLS (Y.F.take i.toNat) o) ∧ ((out.length : Int) ≤ i) ∧ SH w No w_ [rowE eS 9 (.slice A_out out.length c_out) out, blkE b1 26 #[(.int .i64 ((o).1)), (.int .u64 ((o).2))]] ∧ m_ = (((Y.rs.length : Int) - i).toNat) ∧ Weak (lit [(0, (.pointer (some ⟨Y.b, 0, none⟩))), (3, (.pointer (some ⟨b1, 0, none⟩))), (5, (.slice A_out out.length c_out)), (6, (.int .i64 i))]) f_) _ ⟨(some ⟨b2, 0, none⟩), 0, [], 0, by omega, by omega, rfl, (by simp), hS2, rfl, Weak.cons rfl <| Weak.cons rfl <| Weak.cons rfl <| Weak.cons rfl <| Weak.nil _⟩ ?_
  rintro m1 f1 w3 ⟨A_out, c_out, out, i, ilo, ihi, q1, l1, hL1, rfl, hw1⟩
  refine WC.weak hw1 ?_
  clear hw1
  iterate 2 refine WC.seq ?_
  refine WC.region ?_
  iterate 2 refine WL.lv rfl (LV.mv rfl) ?_
  refine WL.lv rfl (LV.nilCheck rfl) ?_
  refine WL.lv rfl (LV.fieldA Tryz.underlying43 rfl ti41.sz rfl) ?_
  refine WL.lv rfl (LV.load1 Tryz.underlying41 rfl rfl (Blk.cellN (SH.arg hL1 (h_Y.imp fun _ h_ => h_.1)) 0 rfl _ (KB.refl No _))) ?_
  refine WL.lv rfl (LV.lenL Tryz.underlying41 rfl) ?_
  refine WL.lv rfl (LV.ltI rfl rfl) ?_
  refine WL.nil (thenQ.n ?_)
  refine WC.condP (p := i < (Y.rs.length : Int)) rfl (fun hc1 => ?_) (fun hc1 => ?_)
  · have hya_ := hv_Y.at (i := i.toNat) (by omega)
    refine WC.skip (thenQ.n ?_)
    refine WC.seq ?_
    refine WC.block ?_
    refine WC.seq ?_
    refine WC.region ?_
    refine WL.lv rfl (LV.asg rfl) ?_
    refine WL.nil (thenQ.n ?_)
    iterate 2 refine WC.seq ?_
    refine WC.region ?_
    refine WL.lv rfl (LV.asg rfl) ?_
    refine WL.nil (thenQ.n ?_)
    refine WC.block ?_
    refine WC.loop (fun m_ f_ w_ => ∃ (smm : Bool) (k : Int), (0 ≤ k) ∧ (k ≤ (Y.F.getD i.toNat default).2.length) ∧ (smm = true ↔ ∃ y ∈ (Y.F.getD i.toNat default).2.take k.toNat, BEL y.2.1 o) ∧ SH w No w_ [rowE eS 9 (.slice A_out out.length c_out) out, blkE b1 26 #[(.int .i64 ((o).1)), (.int .u64 ((o).2))]] ∧ m_ = ((((Y.F.getD i.toNat default).2.length : Int) - k).toNat) ∧ Weak (lit [(0, (.pointer (some ⟨Y.b, 0, none⟩))), (3, (.pointer (some ⟨b1, 0, none⟩))), (5, (.slice A_out out.length c_out)), (6, (.int .i64 i)), (7, (.bool smm)), (8, (.int .i64 k))]) f_) _ ⟨false, 0, by omega, by omega, ds_0, hL1, rfl, Weak.cons rfl <| Weak.cons rfl <| Weak.cons rfl <| Weak.cons rfl <| Weak.cons rfl <| Weak.cons rfl <| Weak.nil _⟩ ?_
    rintro m2 f2 w4 ⟨smm, k, klo, khi, s1, hL2, rfl, hw2⟩
    refine WC.weak hw2 ?_
    clear hw2
    iterate 2 refine WC.seq ?_
    refine WC.region ?_
    iterate 2 refine WL.lv rfl (LV.mv rfl) ?_
    refine WL.lv rfl (LV.nilCheck rfl) ?_
    refine WL.lv rfl (LV.fieldA Tryz.underlying43 rfl ti41.sz rfl) ?_
    refine WL.lv rfl (LV.load1 Tryz.underlying41 rfl rfl (Blk.cellN (SH.arg hL2 (h_Y.imp fun _ h_ => h_.1)) 0 rfl _ (KB.refl No _))) ?_
    refine WL.lv rfl (LV.mv rfl) ?_
    obtain ⟨A1, c1, e1, g1⟩ := St.elt (SH.stN hL2 (h_Y.imp fun _ h_ => h_.2.1)) dSV i (by omega) (by omega)
    refine WL.lv rfl (LV.idxA Tryz.underlying41 ti64.sz rfl e1 rfl (by omega) (by omega)) ?_
    refine WL.lv rfl (LV.fieldA Tryz.underlying64 rfl ti45.sz rfl) ?_
    obtain ⟨A2, c2, hv1, hr1⟩ := docr_at (i := (i).toNat) (h_Y.imp fun _ h_ => h_.2.2) hv_Y.dr (by omega)
    refine WL.lv rfl (LV.to hv1 (LV.load1 (v := (Y.rs.getD (i).toNat dSV).2.v) Tryz.underlying45 rfl rfl (g1 _ (KB.refl No _) 1 _ rfl))) ?_
    refine WL.lv rfl (LV.lenL Tryz.underlying45 rfl) ?_
    refine WL.lv rfl (LV.ltI rfl rfl) ?_
    refine WL.nil (thenQ.n ?_)
    refine WC.condP (p := k < ((Y.F.getD (i).toNat default).2.length : Int)) rfl (fun hc2 => ?_) (fun hc2 => ?_)
    · have hyy_ := hya_.2.1 _ (getD_mem (l := (Y.F.getD i.toNat default).2) (d := dI) (i := k.toNat) (by omega))
      refine WC.skip (thenQ.n ?_)
      refine WC.seq ?_
      refine WC.block ?_
      have hS3 := SH.drew hL2
      refine WC.regionD [] (fun w_ => KB No w4.drew w_) [(.pure, 0), (.pure, 1), (.pure, 2), (.pure, 3), (.pure, 4), (.look, 5), (.pure, 6), (.pure, 7), (.pure, 8), (.look, 9), (.pure, 10), (.pure, 11), (.pure, 12), (.look, 13), (.look, 14), (.forced, 15), (.pure, 16), (.pure, 17)] (by kernel_rfl) (by kernel_rfl) (KB.refl _ _) ?_
      rcases Bool.eq_false_or_eq_true (smm) with hg1 | hg1
      · refine WS.pure rfl rfl (fun _ => LV.as (c := true) (LV.mv rfl) hg1) ?_
        refine WS.pure rfl rfl (fun _ => LV.mv rfl) ?_
        iterate 3 refine WS.off rfl rfl ?_
        refine WS.offL rfl rfl ?_
        iterate 3 refine WS.off rfl rfl ?_
        refine WS.offL rfl rfl ?_
        iterate 3 refine WS.off rfl rfl ?_
        iterate 2 refine WS.offL rfl rfl ?_
        refine WS.offF rfl rfl (fun h_ => (KB.refl _ _)) ?_
        refine WS.pure rfl rfl (fun _ => LV.pickT rfl rfl) ?_
        refine WS.pure rfl rfl (fun _ => LV.asg rfl) ?_
        refine WS.nil (blockQ.n <| thenQ.n ?_)
        refine WC.region ?_
        refine WL.lv rfl (LV.mv rfl) ?_
        refine WL.lv rfl (LV.add rfl rfl (wr64 (by omega) (by omega))) ?_
        refine WL.lv rfl (LV.asg rfl) ?_
        refine WL.nil (thenQ.n ?_)
        exact ⟨_, by omega, true, k + 1, by omega, by omega, (ds_yes klo (by omega) s1 hg1), hS3, rfl, Weak.cons rfl <| Weak.cons rfl <| Weak.cons rfl <| Weak.cons rfl <| Weak.cons rfl <| Weak.cons rfl <| Weak.nil _⟩
      · refine WS.pure rfl rfl (fun _ => LV.as (c := false) (LV.mv rfl) hg1) ?_
        iterate 2 refine WS.pure rfl rfl (fun _ => LV.mv rfl) ?_
        refine WS.pure rfl rfl (fun _ => LV.nilCheck rfl) ?_
        refine WS.pure rfl rfl (fun _ => LV.fieldA Tryz.underlying43 rfl ti41.sz rfl) ?_
        refine WS.look rfl rfl (fun _ hk_ => LV.load1 Tryz.underlying41 rfl rfl (Blk.cellN (SH.arg hS3 (h_Y.imp fun _ h_ => h_.1)) 0 rfl _ hk_)) ?_
        refine WS.pure rfl rfl (fun _ => LV.mv rfl) ?_
        obtain ⟨A3, c3, e2, g2⟩ := St.elt (SH.stN hS3 (h_Y.imp fun _ h_ => h_.2.1)) dSV i (by omega) (by omega)
        refine WS.pure rfl rfl (fun _ => LV.idxA Tryz.underlying41 ti64.sz rfl e2 rfl (by omega) (by omega)) ?_
        refine WS.pure rfl rfl (fun _ => LV.fieldA Tryz.underlying64 rfl ti45.sz rfl) ?_
        obtain ⟨A4, c4, hv2, hr2⟩ := docr_at (i := (i).toNat) (h_Y.imp fun _ h_ => h_.2.2) hv_Y.dr (by omega)
        refine WS.look rfl rfl (fun _ hk_ => LV.to hv2 (LV.load1 (v := (Y.rs.getD (i).toNat dSV).2.v) Tryz.underlying45 rfl rfl (g2 _ hk_ 1 _ rfl))) ?_
        refine WS.pure rfl rfl (fun _ => LV.mv rfl) ?_
        obtain ⟨A5, c5, e3, g3⟩ := St.elt (SH.stN hS3 hr2) dI k (by omega) (by omega)
        refine WS.pure rfl rfl (fun _ => LV.idxA Tryz.underlying45 ti68.sz rfl e3 rfl (by omega) (by omega)) ?_
        refine WS.pure rfl rfl (fun _ => LV.fieldA Tryz.underlying68 rfl ti26.sz rfl) ?_
        refine WS.look rfl rfl (fun _ hk_ => LV.loadAgg (cs := [(.int .i64 ((((Y.F.getD (i).toNat default).2).getD (k).toNat dI).2.1.1)), (.int .u64 ((((Y.F.getD (i).toNat default).2).getD (k).toNat dI).2.1.2))]) Tryz.underlying26 rfl ti26 rfl rfl (elt_part (off := 1) (n := 2) g3 rfl _ hk_)) ?_
        refine WS.look rfl rfl (fun _ hk_ => LV.loadAgg (cs := [(.int .i64 ((o).1)), (.int .u64 ((o).2))]) Tryz.underlying26 rfl ti26 rfl rfl (Blk.agg (SH.at hS3 (.tail _ (.head _))) _ hk_)) ?_
        refine WS.call rfl rfl (XC.fn Tryz.func27 (by kernel_rfl) rfl rfl rfl) (rbelow_calls (a := ((((Y.F.getD (i).toNat default).2).getD (k).toNat dI).2.1)) (b := o) (hyy_.2) (wo)) ?_
        rintro v_ w5 ⟨rfl, hk3⟩
        have hS4 := SH.same hS3 hk3
        refine ⟨fun h_ => (KB.transN (KB.refl _ _) hk3), ?_⟩
        refine WS.pure rfl rfl (fun _ => LV.pickF rfl rfl) ?_
        refine WS.pure rfl rfl (fun _ => LV.asg rfl) ?_
        refine WS.nil (blockQ.n <| thenQ.n ?_)
        refine WC.region ?_
        refine WL.lv rfl (LV.mv rfl) ?_
        refine WL.lv rfl (LV.add rfl rfl (wr64 (by omega) (by omega))) ?_
        refine WL.lv rfl (LV.asg rfl) ?_
        refine WL.nil (thenQ.n ?_)
        exact ⟨_, by omega, decide (BEL ((((Y.F.getD (i).toNat default).2).getD (k).toNat dI).2.1) o), k + 1, by omega, by omega, (ds_no klo (by omega) s1 hg1), hS4, rfl, Weak.cons rfl <| Weak.cons rfl <| Weak.cons rfl <| Weak.cons rfl <| Weak.cons rfl <| Weak.cons rfl <| Weak.nil _⟩
    · skip
      refine WC.exit (thenQ.x <| thenQ.x <| blockQ.hit <| thenQ.n ?_)
      refine WC.seq ?_
      refine WC.region ?_
      refine WL.lv rfl (LV.mv rfl) ?_
      refine WL.nil (thenQ.n ?_)
      refine WC.cond (b := smm) rfl (fun hs => ?_) (fun hs => ?_)
      · skip
        refine WC.region ?_
        iterate 2 refine WL.lv rfl (LV.mv rfl) ?_
        refine WL.lv rfl (LV.nilCheck rfl) ?_
        refine WL.lv rfl (LV.fieldA Tryz.underlying43 rfl ti41.sz rfl) ?_
        refine WL.lv rfl (LV.load1 Tryz.underlying41 rfl rfl (Blk.cellN (SH.arg hL2 (h_Y.imp fun _ h_ => h_.1)) 0 rfl _ (KB.refl No _))) ?_
        refine WL.lv rfl (LV.mv rfl) ?_
        obtain ⟨A6, c6, e4, g4⟩ := St.elt (SH.stN hL2 (h_Y.imp fun _ h_ => h_.2.1)) dSV i (by omega) (by omega)
        refine WL.lv rfl (LV.idxA Tryz.underlying41 ti64.sz rfl e4 rfl (by omega) (by omega)) ?_
        refine WL.lv rfl (LV.fieldA Tryz.underlying64 rfl ti9.sz rfl) ?_
        refine WL.lv rfl (LV.load1 (v := (.string ((Y.rs.getD (i).toNat dSV).1))) Tryz.underlying9 rfl rfl (g4 _ (KB.refl No _) 0 _ rfl)) ?_
        refine WL.xe rfl (XE.buildSlice (E := eS) [(0, (.string ((Y.rs.getD (i).toNat dSV).1)))] #[(.string ((Y.rs.getD (i).toNat dSV).1))] [(Y.rs.getD (i).toNat dSV).1] hL2 Tryz.underlying23 ti9 rfl (by decide) (by kernel_rfl) (.inr rfl) rfl rfl (by decide)) ?_
        rintro _ w6 ⟨b3, rfl, hS5, hk4⟩
        have hS6 : SH w No w6 [rowE eS 9 (.slice A_out out.length c_out) out, rowE eS 9 (.slice (some ⟨b3, 0, none⟩) 1 1) [(Y.rs.getD (i).toNat dSV).1], blkE b1 26 #[(.int .i64 ((o).1)), (.int .u64 ((o).2))]] := (SH.front [_] hS5)
        refine WL.xe rfl (XE.append hS6 Tryz.underlying23 ti9 rfl (St.now (SH.rd hS6 (.tail _ (.head _)))) rfl rfl (by first | omega | simp only [List.length_append, List.length_cons, List.length_nil, List.length_take, List.length_reverse, List.length_drop] at *; omega) (by first | omega | simp only [List.length_append, List.length_cons, List.length_nil, List.length_take, List.length_reverse, List.length_drop] at *; omega)) ?_
        rintro _ w7 ⟨A7, c7, rfl, hS7, hk5⟩
        refine WL.lv rfl (LV.asg rfl) ?_
        refine WL.nil (blockQ.n <| thenQ.n ?_)
        refine WC.region ?_
        refine WL.lv rfl (LV.mv rfl) ?_
        refine WL.lv rfl (LV.add rfl rfl (wr64 (by omega) (by omega))) ?_
        refine WL.lv rfl (LV.asg rfl) ?_
        refine WL.nil (thenQ.n ?_)
        have hS8 : SH w No w7 [rowE eS 9 (.slice A7 ((out ++ [(Y.rs.getD (i).toNat dSV).1]).length) c7) (out ++ [(Y.rs.getD (i).toNat dSV).1]), blkE b1 26 #[(.int .i64 ((o).1)), (.int .u64 ((o).2))]] := (SH.take 2 rfl (SH.front [_] (SH.front [_, _] hS7)))
        exact ⟨_, by omega, A7, c7, (out ++ [(Y.rs.getD (i).toNat dSV).1]), i + 1, by omega, by omega, ((by rw [FLS_at ilo (by omega), if_pos ((ds_end (by omega) s1).1 hs), ← q1, hya_.2.2])), (by first | omega | (simp; omega)), hS8, rfl, Weak.cons rfl <| Weak.cons rfl <| Weak.cons rfl <| Weak.cons rfl <| Weak.nil _⟩
      · skip
        refine WC.skip (blockQ.n <| thenQ.n ?_)
        refine WC.region ?_
        refine WL.lv rfl (LV.mv rfl) ?_
        refine WL.lv rfl (LV.add rfl rfl (wr64 (by omega) (by omega))) ?_
        refine WL.lv rfl (LV.asg rfl) ?_
        refine WL.nil (thenQ.n ?_)
        exact ⟨_, by omega, A_out, c_out, out, i + 1, by omega, by omega, ((by rw [FLS_at ilo (by omega), if_neg (fun h_ => by have h2_ := (ds_end (by omega) s1).2 h_; rw [hs] at h2_; cases h2_), List.append_nil]; exact q1)), (by first | omega | (simp; omega)), hL2, rfl, Weak.cons rfl <| Weak.cons rfl <| Weak.cons rfl <| Weak.cons rfl <| Weak.nil _⟩
  · skip
    refine WC.exit (thenQ.x <| thenQ.x <| blockQ.hit <| thenQ.n ?_)
    refine WC.seq ?_
    refine WC.region ?_
    refine WL.lv rfl (LV.mv rfl) ?_
    refine WL.lv rfl (LV.asg rfl) ?_
    refine WL.nil (thenQ.n ?_)
    refine WC.ret (?_)
    have hS9 : SH w No w3 [rowE eS 9 (.slice A_out out.length c_out) out] := (SH.take 1 rfl hL1)
    have hres1 : (out : List ByteArray) = FLS Y.F o := by rw [q1, List.take_of_length_le (by omega)]
    exact ⟨_, fun a ha => res1 rfl ha rfl, (by rw [← hres1]; exact ⟨_, _, rfl, hS9⟩)⟩

theorem rall_calls {w : World} {Y : DCS} {A_list : Option Addr} {n_list c_list : Nat} {list : List ByteArray} {o : Lb} (h_Y : St No w (DCRD 43 Y)) (hv_Y : DCW Y) (h_list : St No w (Rd eS (.slice A_list n_list c_list) list)) (hn_list : list.length = n_list) (wz : ∀ q ∈ list, q.size ≤ 140737488355328) (wo : 0 ≤ o.2 ∧ o.2 < 18446744073709551616) :
    Calls Tryz.prog 7 #[(.pointer (some ⟨Y.b, 0, none⟩)), (.slice A_list n_list c_list), (.agg #[(.int .i64 ((o).1)), (.int .u64 ((o).2))])] w fun e w' => ∃ v, e = .returned v ∧ (fun v w' => ∃ (A0' : Option Addr) (c0' : Nat), v = .slice A0' (ALLF Y.F o list).length c0' ∧ SH w No w' [rowE eSI 49 (.slice A0' (ALLF Y.F o list).length c0') (ALLF Y.F o list)]) v w' := by
  subst hn_list
  have hma := Rd.max h_list.now
  have hfl_ := fun q => dfind_len hv_Y q o
  have hS : SH w No w [] := SH.nil _ _
  refine calls (l := litOf [(.pointer (some ⟨Y.b, 0, none⟩)), (.slice A_list list.length c_list), (.agg #[(.int .i64 ((o).1)), (.int .u64 ((o).2))])] 0) Tryz.func7 rfl (n := 59) rfl (Nat.le_of_ble_eq_true rfl) (lit_args _) ?_
  refine WC.seq ?_
  refine WC.region ?_
  refine WL.xe rfl (XE.box #[(.int .i64 ((o).1)), (.int .u64 ((o).2))] hS rfl rfl) ?_
  rintro _ w1 ⟨b1, rfl, hS1, hk1⟩
  refine WL.lv rfl (LV.asg rfl) ?_
  refine WL.nil (thenQ.n ?_)
  refine WC.seq ?_
  refine WC.region ?_
  refine WL.xe rfl (XE.buildSlice (E := eSI) [] #[] [] hS1 Tryz.underlying32 ti49 rfl (by decide) (by kernel_rfl) (.inr rfl) rfl rfl (by decide)) ?_
  rintro _ w2 ⟨b2, rfl, hS2, hk2⟩
  refine WL.lv rfl (LV.asg rfl) ?_
  refine WL.nil (thenQ.n ?_)
  iterate 2 refine WC.seq ?_
  refine WC.region ?_
  refine WL.lv rfl (LV.mv rfl) ?_
  refine WL.lv rfl (LV.lenL Tryz.underlying23 rfl) ?_
  refine WL.lv rfl (LV.eqI rfl rfl) ?_
  refine WL.nil (thenQ.n ?_)
  refine WC.condP (p := (list.length : Int) = 0) rfl (fun hc1 => ?_) (fun hc1 => ?_)
  · skip
    refine WC.seq ?_
    refine WC.region ?_
    refine WL.lv rfl (LV.mv rfl) ?_
    refine WL.lv rfl (LV.asg rfl) ?_
    refine WL.nil (thenQ.n ?_)
    refine WC.ret (thenQ.r <| ?_)
    have hS3 : SH w No w2 [rowE eSI 49 (.slice (some ⟨b2, 0, none⟩) 0 0) []] := (SH.take 1 rfl hS2)
    have hres1 : ([] : List En) = ALLF Y.F o list := (by rw [List.eq_nil_of_length_eq_zero (l := list) (by omega)]; rfl)
    exact ⟨_, fun a ha => res1 rfl ha rfl, (by rw [← hres1]; exact ⟨_, _, rfl, hS3⟩)⟩
  · skip
    refine WC.skip (thenQ.n ?_)
    refine WC.seq ?_
    have hS4 := SH.drew hS2
    refine WC.regionD [] (fun w_ => KB No w2.drew w_) [(.pure, 0), (.pure, 1), (.pure, 2), (.look, 3), (.look, 4), (.forced, 5), (.pure, 6)] (by kernel_rfl) (by kernel_rfl) (KB.refl _ _) ?_
    iterate 2 refine WS.pure rfl rfl (fun _ => LV.mv rfl) ?_
    have hw0_ := wz _ (getD_mem (l := list) (d := ByteArray.empty) (i := 0) (by omega))
    have hf0_ := hfl_ (LOW (list.getD ((0 : Int)).toNat ByteArray.empty))
    obtain ⟨A1, c1, e1, g1⟩ := St.elt (SH.stN hS4 h_list) ByteArray.empty (0 : Int) (by omega) (by omega)
    refine WS.pure rfl rfl (fun _ => LV.idxA Tryz.underlying23 ti9.sz rfl e1 rfl (by omega) (by omega)) ?_
    refine WS.look rfl rfl (fun _ hk_ => LV.load1 (v := (.string (list.getD ((0 : Int)).toNat ByteArray.empty))) Tryz.underlying9 rfl rfl (g1 _ hk_ 0 _ rfl)) ?_
    refine WS.look rfl rfl (fun _ hk_ => LV.loadAgg (cs := [(.int .i64 ((o).1)), (.int .u64 ((o).2))]) Tryz.underlying26 rfl ti26 rfl rfl (Blk.agg (SH.at hS4 (.tail _ (.head _))) _ hk_)) ?_
    refine WS.call rfl rfl (XC.fn Tryz.func14 (by kernel_rfl) rfl rfl rfl) (rfind_calls (word := (list.getD ((0 : Int)).toNat ByteArray.empty)) (o := o) (SH.stN hS4 h_Y) hv_Y (hw0_) (by omega)) ?_
    rintro v_ w3 ⟨A2, c2, rfl, hS5⟩
    have hS6 := SH.joinN hS4 hS5
    refine ⟨fun h_ => (KB.transN (KB.refl _ _) hS5.kb), ?_⟩
    refine WS.pure rfl rfl (fun _ => LV.asg rfl) ?_
    refine WS.nil (thenQ.n ?_)
    iterate 2 refine WC.seq ?_
    refine WC.region ?_
    refine WL.lv rfl (LV.asg rfl) ?_
    refine WL.nil (thenQ.n ?_)
    refine WC.block ?_
    refine WC.loop (fun m_ f_ w_ => ∃ (A_out : Option Addr) (c_out : Nat) (out : List En) (i : Int), (0 ≤ i) ∧ (i ≤ ((FIND Y.F (LOW (list.getD ((0 : Int)).toNat ByteArray.empty)) o).length : Int)) ∧ (out = ((FIND Y.F (LOW (list.getD ((0 : Int)).toNat ByteArray.empty)) o).take i.toNat).filter (fun h_ => decide (∀ v_ ∈ list.drop 1, h_ ∈ FIND Y.F (LOW v_) o))) ∧ ((out.length : Int) ≤ i) ∧ SH w No w_ [rowE eSI 49 (.slice A2 ((FIND Y.F (LOW (list.getD ((0 : Int)).toNat ByteArray.empty)) o).length) c2) (FIND Y.F (LOW (list.getD ((0 : Int)).toNat ByteArray.empty)) o), rowE eSI 49 (.slice A_out out.length c_out) out, blkE b1 26 #[(.int .i64 ((o).1)), (.int .u64 ((o).2))]] ∧ m_ = ((((FIND Y.F (LOW (list.getD ((0 : Int)).toNat ByteArray.empty)) o).length : Int) - i).toNat) ∧ Weak (lit [(0, (.pointer (some ⟨Y.b, 0, none⟩))), (1, (.slice A_list list.length c_list)), (5, (.pointer (some ⟨b1, 0, none⟩))), (7, (.slice A_out out.length c_out)), (8, (.slice A2 ((FIND Y.F (LOW (list.getD ((0 : Int)).toNat ByteArray.empty)) o).length) c2)), (9, (.int .i64 i))]) f_) _ ⟨(some ⟨b2, 0, none⟩), 0, [], 0, by omega, by omega, rfl, (by simp), hS6, rfl, Weak.cons rfl <| Weak.cons rfl <| Weak.cons rfl <| Weak.cons rfl <| Weak.cons rfl <| Weak.cons rfl <| Weak.nil _⟩ ?_
    rintro m1 f1 w4 ⟨A_out, c_out, out, i, ilo, ihi, q1, l1, hL1, rfl, hw1⟩
    refine WC.weak hw1 ?_
    clear hw1
    iterate 2 refine WC.seq ?_
    refine WC.region ?_
    iterate 2 refine WL.lv rfl (LV.mv rfl) ?_
    refine WL.lv rfl (LV.lenL Tryz.underlying32 rfl) ?_
    refine WL.lv rfl (LV.ltI rfl rfl) ?_
    refine WL.nil (thenQ.n ?_)
    refine WC.condP (p := i < ((FIND Y.F (LOW (list.getD ((0 : Int)).toNat ByteArray.empty)) o).length : Int)) rfl (fun hc2 => ?_) (fun hc2 => ?_)
    · skip
      refine WC.skip (thenQ.n ?_)
      refine WC.seq ?_
      refine WC.block ?_
      refine WC.seq ?_
      refine WC.region ?_
      refine WL.lv rfl (LV.asg rfl) ?_
      refine WL.nil (thenQ.n ?_)
      iterate 2 refine WC.seq ?_
      refine WC.region ?_
      refine WL.lv rfl (LV.asg rfl) ?_
      refine WL.nil (thenQ.n ?_)
      refine WC.block ?_
      refine WC.loop (fun m_ f_ w_ => ∃ (all : Bool) (k : Int), (1 ≤ k) ∧ (k ≤ list.length) ∧ (all = true ↔ ∀ t : Int, 1 ≤ t → t < k → ((FIND Y.F (LOW (list.getD ((0 : Int)).toNat ByteArray.empty)) o).getD i.toNat (ByteArray.empty, 0)) ∈ (FIND Y.F (LOW (list.getD t.toNat ByteArray.empty)) o)) ∧ SH w No w_ [rowE eSI 49 (.slice A2 ((FIND Y.F (LOW (list.getD ((0 : Int)).toNat ByteArray.empty)) o).length) c2) (FIND Y.F (LOW (list.getD ((0 : Int)).toNat ByteArray.empty)) o), rowE eSI 49 (.slice A_out out.length c_out) out, blkE b1 26 #[(.int .i64 ((o).1)), (.int .u64 ((o).2))]] ∧ m_ = (((list.length : Int) - k).toNat) ∧ Weak (lit [(0, (.pointer (some ⟨Y.b, 0, none⟩))), (1, (.slice A_list list.length c_list)), (5, (.pointer (some ⟨b1, 0, none⟩))), (7, (.slice A_out out.length c_out)), (8, (.slice A2 ((FIND Y.F (LOW (list.getD ((0 : Int)).toNat ByteArray.empty)) o).length) c2)), (9, (.int .i64 i)), (10, (.bool all)), (11, (.int .i64 k))]) f_) _ ⟨true, 1, by omega, by omega, da_0, hL1, rfl, Weak.cons rfl <| Weak.cons rfl <| Weak.cons rfl <| Weak.cons rfl <| Weak.cons rfl <| Weak.cons rfl <| Weak.cons rfl <| Weak.cons rfl <| Weak.nil _⟩ ?_
      rintro m2 f2 w5 ⟨all, k, klo, khi, a1, hL2, rfl, hw2⟩
      refine WC.weak hw2 ?_
      clear hw2
      iterate 2 refine WC.seq ?_
      refine WC.region ?_
      iterate 2 refine WL.lv rfl (LV.mv rfl) ?_
      refine WL.lv rfl (LV.lenL Tryz.underlying23 rfl) ?_
      refine WL.lv rfl (LV.ltI rfl rfl) ?_
      refine WL.nil (thenQ.n ?_)
      refine WC.condP (p := k < (list.length : Int)) rfl (fun hc3 => ?_) (fun hc3 => ?_)
      · skip
        refine WC.skip (thenQ.n ?_)
        refine WC.seq ?_
        refine WC.block ?_
        have hS7 := SH.drew hL2
        refine WC.regionD [] (fun w_ => KB No w5.drew w_) [(.pure, 0), (.pure, 1), (.pure, 2), (.pure, 3), (.pure, 4), (.pure, 5), (.look, 6), (.look, 7), (.pure, 9), (.pure, 10), (.pure, 11), (.look, 12), (.forced, 8), (.forced, 13), (.pure, 14), (.pure, 15)] (by kernel_rfl) (by kernel_rfl) (KB.refl _ _) ?_
        rcases Bool.eq_false_or_eq_true (all) with hg1 | hg1
        · refine WS.pure rfl rfl (fun _ => LV.as (c := true) (LV.mv rfl) hg1) ?_
          iterate 4 refine WS.pure rfl rfl (fun _ => LV.mv rfl) ?_
          have hwk_ := wz _ (getD_mem (l := list) (d := ByteArray.empty) (i := k.toNat) (by omega))
          obtain ⟨A3, c3, e2, g2⟩ := St.elt (SH.stN hS7 h_list) ByteArray.empty k (by omega) (by omega)
          refine WS.pure rfl rfl (fun _ => LV.idxA Tryz.underlying23 ti9.sz rfl e2 rfl (by omega) (by omega)) ?_
          refine WS.look rfl rfl (fun _ hk_ => LV.load1 (v := (.string (list.getD (k).toNat ByteArray.empty))) Tryz.underlying9 rfl rfl (g2 _ hk_ 0 _ rfl)) ?_
          refine WS.look rfl rfl (fun _ hk_ => LV.loadAgg (cs := [(.int .i64 ((o).1)), (.int .u64 ((o).2))]) Tryz.underlying26 rfl ti26 rfl rfl (Blk.agg (SH.at hS7 (.tail _ (.tail _ (.head _)))) _ hk_)) ?_
          iterate 2 refine WS.pure rfl rfl (fun _ => LV.mv rfl) ?_
          obtain ⟨A4, c4, e3, g3⟩ := St.elt (SH.rd hS7 (.head _)) (ByteArray.empty, 0) i (by omega) (by omega)
          refine WS.pure rfl rfl (fun _ => LV.idxA Tryz.underlying32 ti49.sz rfl e3 rfl (by omega) (by omega)) ?_
          refine WS.look rfl rfl (fun _ hk_ => LV.loadAgg (cs := [(.string (((FIND Y.F (LOW (list.getD ((0 : Int)).toNat ByteArray.empty)) o).getD (i).toNat (ByteArray.empty, 0)).1)), (.int .i64 (((FIND Y.F (LOW (list.getD ((0 : Int)).toNat ByteArray.empty)) o).getD (i).toNat (ByteArray.empty, 0)).2))]) Tryz.underlying49 rfl ti49 rfl rfl (fun j u hu => g3 _ hk_ j u hu)) ?_
          refine WS.call rfl rfl (XC.fn Tryz.func14 (by kernel_rfl) rfl rfl rfl) (rfind_calls (word := (list.getD (k).toNat ByteArray.empty)) (o := o) (SH.stN hS7 h_Y) hv_Y (hwk_) (by omega)) ?_
          rintro v_ w6 ⟨A5, c5, rfl, hS8⟩
          have hS9 := SH.joinN hS7 hS8
          refine ⟨fun h_ => (KB.transN (KB.refl _ _) hS8.kb), ?_⟩
          refine WS.call rfl rfl (XC.fn Tryz.func24 (by kernel_rfl) rfl rfl rfl) (rin_calls (h := ((FIND Y.F (LOW (list.getD ((0 : Int)).toNat ByteArray.empty)) o).getD (i).toNat (ByteArray.empty, 0))) (SH.rd hS9 (.head _)) rfl ) ?_
          rintro v_ w7 ⟨rfl, hk3⟩
          have hS10 := SH.same hS9 hk3
          refine ⟨fun h_ => (KB.transN (KB.transN (KB.refl _ _) hS8.kb) hk3), ?_⟩
          refine WS.pure rfl rfl (fun _ => LV.pickT rfl rfl) ?_
          refine WS.pure rfl rfl (fun _ => LV.asg rfl) ?_
          refine WS.nil (blockQ.n <| thenQ.n ?_)
          refine WC.region ?_
          refine WL.lv rfl (LV.mv rfl) ?_
          refine WL.lv rfl (LV.add rfl rfl (wr64 (by omega) (by omega))) ?_
          refine WL.lv rfl (LV.asg rfl) ?_
          refine WL.nil (thenQ.n ?_)
          have hS11 : SH w No w7 [rowE eSI 49 (.slice A2 ((FIND Y.F (LOW (list.getD ((0 : Int)).toNat ByteArray.empty)) o).length) c2) (FIND Y.F (LOW (list.getD ((0 : Int)).toNat ByteArray.empty)) o), rowE eSI 49 (.slice A_out out.length c_out) out, blkE b1 26 #[(.int .i64 ((o).1)), (.int .u64 ((o).2))]] := (SH.take 3 rfl (SH.front [_, _, _] (SH.front [_, _, _] (SH.front [_, _, _] hS10))))
          exact ⟨_, by omega, decide (((FIND Y.F (LOW (list.getD ((0 : Int)).toNat ByteArray.empty)) o).getD (i).toNat (ByteArray.empty, 0)) ∈ (FIND Y.F (LOW (list.getD (k).toNat ByteArray.empty)) o)), k + 1, by omega, by omega, (da_yes klo a1 hg1), hS11, rfl, Weak.cons rfl <| Weak.cons rfl <| Weak.cons rfl <| Weak.cons rfl <| Weak.cons rfl <| Weak.cons rfl <| Weak.cons rfl <| Weak.cons rfl <| Weak.nil _⟩
        · refine WS.pure rfl rfl (fun _ => LV.as (c := false) (LV.mv rfl) hg1) ?_
          refine WS.pure rfl rfl (fun _ => LV.mv rfl) ?_
          iterate 4 refine WS.off rfl rfl ?_
          iterate 2 refine WS.offL rfl rfl ?_
          iterate 3 refine WS.off rfl rfl ?_
          refine WS.offL rfl rfl ?_
          iterate 2 refine WS.offF rfl rfl (fun h_ => (KB.refl _ _)) ?_
          refine WS.pure rfl rfl (fun _ => LV.pickF rfl rfl) ?_
          refine WS.pure rfl rfl (fun _ => LV.asg rfl) ?_
          refine WS.nil (blockQ.n <| thenQ.n ?_)
          refine WC.region ?_
          refine WL.lv rfl (LV.mv rfl) ?_
          refine WL.lv rfl (LV.add rfl rfl (wr64 (by omega) (by omega))) ?_
          refine WL.lv rfl (LV.asg rfl) ?_
          refine WL.nil (thenQ.n ?_)
          exact ⟨_, by omega, false, k + 1, by omega, by omega, (da_no a1 hg1), hS7, rfl, Weak.cons rfl <| Weak.cons rfl <| Weak.cons rfl <| Weak.cons rfl <| Weak.cons rfl <| Weak.cons rfl <| Weak.cons rfl <| Weak.cons rfl <| Weak.nil _⟩
      · skip
        refine WC.exit (thenQ.x <| thenQ.x <| blockQ.hit <| thenQ.n ?_)
        refine WC.seq ?_
        refine WC.region ?_
        refine WL.lv rfl (LV.mv rfl) ?_
        refine WL.nil (thenQ.n ?_)
        refine WC.cond (b := all) rfl (fun ha => ?_) (fun ha => ?_)
        · skip
          refine WC.region ?_
          iterate 3 refine WL.lv rfl (LV.mv rfl) ?_
          obtain ⟨A6, c6, e4, g4⟩ := St.elt (SH.rd hL2 (.head _)) (ByteArray.empty, 0) i (by omega) (by omega)
          refine WL.lv rfl (LV.idxA Tryz.underlying32 ti49.sz rfl e4 rfl (by omega) (by omega)) ?_
          refine WL.lv rfl (LV.loadAgg (cs := [(.string (((FIND Y.F (LOW (list.getD ((0 : Int)).toNat ByteArray.empty)) o).getD (i).toNat (ByteArray.empty, 0)).1)), (.int .i64 (((FIND Y.F (LOW (list.getD ((0 : Int)).toNat ByteArray.empty)) o).getD (i).toNat (ByteArray.empty, 0)).2))]) Tryz.underlying49 rfl ti49 rfl rfl (fun j u hu => g4 _ (KB.refl No _) j u hu)) ?_
          refine WL.xe rfl (XE.buildSlice (E := eSI) [(0, (.agg #[(.string (((FIND Y.F (LOW (list.getD ((0 : Int)).toNat ByteArray.empty)) o).getD (i).toNat (ByteArray.empty, 0)).1)), (.int .i64 (((FIND Y.F (LOW (list.getD ((0 : Int)).toNat ByteArray.empty)) o).getD (i).toNat (ByteArray.empty, 0)).2))]))] #[(.string (((FIND Y.F (LOW (list.getD ((0 : Int)).toNat ByteArray.empty)) o).getD (i).toNat (ByteArray.empty, 0)).1)), (.int .i64 (((FIND Y.F (LOW (list.getD ((0 : Int)).toNat ByteArray.empty)) o).getD (i).toNat (ByteArray.empty, 0)).2))] [(FIND Y.F (LOW (list.getD ((0 : Int)).toNat ByteArray.empty)) o).getD (i).toNat (ByteArray.empty, 0)] hL2 Tryz.underlying32 ti49 rfl (by decide) (by kernel_rfl) (.inr rfl) rfl rfl (by decide)) ?_
          rintro _ w8 ⟨b3, rfl, hS12, hk4⟩
          have hS13 : SH w No w8 [rowE eSI 49 (.slice A_out out.length c_out) out, rowE eSI 49 (.slice (some ⟨b3, 0, none⟩) 1 1) [(FIND Y.F (LOW (list.getD ((0 : Int)).toNat ByteArray.empty)) o).getD (i).toNat (ByteArray.empty, 0)], rowE eSI 49 (.slice A2 ((FIND Y.F (LOW (list.getD ((0 : Int)).toNat ByteArray.empty)) o).length) c2) (FIND Y.F (LOW (list.getD ((0 : Int)).toNat ByteArray.empty)) o), blkE b1 26 #[(.int .i64 ((o).1)), (.int .u64 ((o).2))]] := (SH.front [_, _] hS12)
          refine WL.xe rfl (XE.append hS13 Tryz.underlying32 ti49 rfl (St.now (SH.rd hS13 (.tail _ (.head _)))) rfl rfl (by first | omega | simp only [List.length_append, List.length_cons, List.length_nil, List.length_take, List.length_reverse, List.length_drop] at *; omega) (by first | omega | simp only [List.length_append, List.length_cons, List.length_nil, List.length_take, List.length_reverse, List.length_drop] at *; omega)) ?_
          rintro _ w9 ⟨A7, c7, rfl, hS14, hk5⟩
          refine WL.lv rfl (LV.asg rfl) ?_
          refine WL.nil (blockQ.n <| thenQ.n ?_)
          refine WC.region ?_
          refine WL.lv rfl (LV.mv rfl) ?_
          refine WL.lv rfl (LV.add rfl rfl (wr64 (by omega) (by omega))) ?_
          refine WL.lv rfl (LV.asg rfl) ?_
          refine WL.nil (thenQ.n ?_)
          have hS15 : SH w No w9 [rowE eSI 49 (.slice A2 ((FIND Y.F (LOW (list.getD ((0 : Int)).toNat ByteArray.empty)) o).length) c2) (FIND Y.F (LOW (list.getD ((0 : Int)).toNat ByteArray.empty)) o), rowE eSI 49 (.slice A7 ((out ++ [(FIND Y.F (LOW (list.getD ((0 : Int)).toNat ByteArray.empty)) o).getD (i).toNat (ByteArray.empty, 0)]).length) c7) (out ++ [(FIND Y.F (LOW (list.getD ((0 : Int)).toNat ByteArray.empty)) o).getD (i).toNat (ByteArray.empty, 0)]), blkE b1 26 #[(.int .i64 ((o).1)), (.int .u64 ((o).2))]] := (SH.take 3 rfl (SH.front [_, _, _] (SH.front [_] (SH.front [_, _, _] hS14))))
          exact ⟨_, by omega, A7, c7, (out ++ [(FIND Y.F (LOW (list.getD ((0 : Int)).toNat ByteArray.empty)) o).getD (i).toNat (ByteArray.empty, 0)]), i + 1, by omega, by omega, ((by rw [dall_at ilo (by omega), if_pos (decide_eq_true ((da_end (by omega) a1 khi).1 ha)), ← q1])), (by first | omega | (simp; omega)), hS15, rfl, Weak.cons rfl <| Weak.cons rfl <| Weak.cons rfl <| Weak.cons rfl <| Weak.cons rfl <| Weak.cons rfl <| Weak.nil _⟩
        · skip
          refine WC.skip (blockQ.n <| thenQ.n ?_)
          refine WC.region ?_
          refine WL.lv rfl (LV.mv rfl) ?_
          refine WL.lv rfl (LV.add rfl rfl (wr64 (by omega) (by omega))) ?_
          refine WL.lv rfl (LV.asg rfl) ?_
          refine WL.nil (thenQ.n ?_)
          exact ⟨_, by omega, A_out, c_out, out, i + 1, by omega, by omega, ((by rw [dall_at ilo (by omega), if_neg (by rw [decide_eq_true_iff]; intro h_; have h2_ := (da_end (by omega) a1 khi).2 h_; rw [ha] at h2_; cases h2_), List.append_nil]; exact q1)), (by first | omega | (simp; omega)), hL2, rfl, Weak.cons rfl <| Weak.cons rfl <| Weak.cons rfl <| Weak.cons rfl <| Weak.cons rfl <| Weak.cons rfl <| Weak.nil _⟩
    · skip
      refine WC.exit (thenQ.x <| thenQ.x <| blockQ.hit <| thenQ.n ?_)
      refine WC.seq ?_
      refine WC.region ?_
      refine WL.lv rfl (LV.mv rfl) ?_
      refine WL.lv rfl (LV.asg rfl) ?_
      refine WL.nil (thenQ.n ?_)
      refine WC.ret (?_)
      have hS16 : SH w No w4 [rowE eSI 49 (.slice A_out out.length c_out) out] := (SH.take 1 rfl (SH.front [_] hL1))
      have hres2 : (out : List En) = ALLF Y.F o list := (by rw [q1, List.take_of_length_le (by omega)]; exact (allf_doc (by omega)).symm)
      exact ⟨_, fun a ha => res1 rfl ha rfl, (by rw [← hres2]; exact ⟨_, _, rfl, hS16⟩)⟩

end Go.Proofs.YtigbphaimbhgjaaGreat

