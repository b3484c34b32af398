/- The document's Find. -/
import Derived.Test.YtigbphaimbhgjaaGreatMg32
namespace Go.Proofs.YtigbphaimbhgjaaGreat
open Go Go.Gv Go.RowKit Go.Tly Go.Wds Go.Idx
set_option linter.unusedVariables false
set_option linter.unusedSimpArgs false

theorem rfind_calls {w : World} {Y : DCS} {word : ByteArray} {o : Lb} (h_Y : St No w (DCRD 43 Y)) (hv_Y : DCW Y) (hs : word.size ≤ 140737488355328) (wo : 0 ≤ o.2 ∧ o.2 < 18446744073709551616) :
    Calls Tryz.prog 14 #[(.pointer (some ⟨Y.b, 0, none⟩)), (.string word), (.agg #[(.int .i64 ((o).1)), (.int .u64 ((o).2))])] w fun e w' => ∃ v, e = .returned v ∧ (fun v w' => ∃ (A0' : Option Addr) (c0' : Nat), v = .slice A0' (FIND Y.F (LOW word) o).length c0' ∧ SH w No w' [rowE eSI 49 (.slice A0' (FIND Y.F (LOW word) o).length c0') (FIND Y.F (LOW word) o)]) v w' := by
  have hyl_ := hv_Y.len
  have hS : SH w No w [] := SH.nil _ _
  refine calls (l := litOf [(.pointer (some ⟨Y.b, 0, none⟩)), (.string word), (.agg #[(.int .i64 ((o).1)), (.int .u64 ((o).2))])] 0) Tryz.func14 rfl (n := 78) rfl (Nat.le_of_ble_eq_true rfl) (lit_args _) ?_
  refine WC.seq ?_
  refine WC.region ?_
  refine WL.xe rfl (XE.box #[(.int .i64 ((o).1)), (.int .u64 ((o).2))] hS rfl rfl) ?_
  rintro _ w1 ⟨b1, rfl, hS1, hk1⟩
  refine WL.lv rfl (LV.asg rfl) ?_
  refine WL.nil (thenQ.n ?_)
  refine WC.seq ?_
  refine WC.region ?_
  refine WL.xe rfl (XE.buildSlice (E := eSI) [] #[] [] hS1 Tryz.underlying32 ti49 rfl (by decide) (by kernel_rfl) (.inr rfl) rfl rfl (by decide)) ?_
  rintro _ w2 ⟨b2, rfl, hS2, hk2⟩
  refine WL.lv rfl (LV.asg rfl) ?_
  refine WL.nil (thenQ.n ?_)
  iterate 2 refine WC.seq ?_
  refine WC.region ?_
  refine WL.lv rfl (LV.asg rfl) ?_
  refine WL.nil (thenQ.n ?_)
  refine WC.block ?_
  refine WC.loop (fun m_ f_ w_ => ∃ (A_out : Option Addr) (c_out : Nat) (out : List En) (i : Int), (0 ≤ i) ∧ (i ≤ Y.rs.length) ∧ (out = FIND (Y.F.take i.toNat) (LOW word) o) ∧ ((out.length : Int) ≤ 20 * i) ∧ SH w No w_ [rowE eSI 49 (.slice A_out out.length c_out) out, blkE b1 26 #[(.int .i64 ((o).1)), (.int .u64 ((o).2))]] ∧ m_ = (((Y.rs.length : Int) - i).toNat) ∧ Weak (lit [(0, (.pointer (some ⟨Y.b, 0, none⟩))), (1, (.string word)), (5, (.pointer (some ⟨b1, 0, none⟩))), (7, (.slice A_out out.length c_out)), (8, (.int .i64 i))]) f_) _ ⟨(some ⟨b2, 0, none⟩), 0, [], 0, by omega, by omega, rfl, (by simp), hS2, rfl, Weak.cons rfl <| Weak.cons rfl <| Weak.cons rfl <| Weak.cons rfl <| Weak.cons rfl <| Weak.nil _⟩ ?_
  rintro m1 f1 w3 ⟨A_out, c_out, out, i, ilo, ihi, q1, l1, hL1, rfl, hw1⟩
  refine WC.weak hw1 ?_
  clear hw1
  iterate 2 refine WC.seq ?_
  refine WC.region ?_
  iterate 2 refine WL.lv rfl (LV.mv rfl) ?_
  refine WL.lv rfl (LV.nilCheck rfl) ?_
  refine WL.lv rfl (LV.fieldA Tryz.underlying43 rfl ti41.sz rfl) ?_
  refine WL.lv rfl (LV.load1 Tryz.underlying41 rfl rfl (Blk.cellN (SH.arg hL1 (h_Y.imp fun _ h_ => h_.1)) 0 rfl _ (KB.refl No _))) ?_
  refine WL.lv rfl (LV.lenL Tryz.underlying41 rfl) ?_
  refine WL.lv rfl (LV.ltI rfl rfl) ?_
  refine WL.nil (thenQ.n ?_)
  refine WC.condP (p := i < (Y.rs.length : Int)) rfl (fun hc1 => ?_) (fun hc1 => ?_)
  · have hya_ := hv_Y.at (i := i.toNat) (by omega)
    refine WC.skip (thenQ.n ?_)
    refine WC.seq ?_
    refine WC.block ?_
    refine WC.seq ?_
    refine WC.region ?_
    refine WL.lv rfl (LV.asg rfl) ?_
    refine WL.nil (thenQ.n ?_)
    refine WC.seq ?_
    refine WC.region ?_
    refine WL.lv rfl (LV.asg rfl) ?_
    refine WL.nil (thenQ.n ?_)
    refine WC.block ?_
    refine WC.loop (fun m_ f_ w_ => ∃ (A_ou : Option Addr) (c_ou : Nat) (ou : List En) (n : Int) (k : Int), (0 ≤ k) ∧ (k ≤ (Y.F.getD i.toNat default).2.length) ∧ (ou = FIND (Y.F.take i.toNat) (LOW word) o ++ FNI (Y.rs.getD i.toNat dSV).1 (LOW word) o 0 ((Y.F.getD i.toNat default).2.take k.toNat)) ∧ (n = CNTB ((Y.F.getD i.toNat default).2.take k.toNat) o) ∧ (0 ≤ n ∧ n ≤ k) ∧ ((ou.length : Int) ≤ 20 * i + k) ∧ SH w No w_ [rowE eSI 49 (.slice A_ou ou.length c_ou) ou, blkE b1 26 #[(.int .i64 ((o).1)), (.int .u64 ((o).2))]] ∧ m_ = ((((Y.F.getD i.toNat default).2.length : Int) - k).toNat) ∧ Weak (lit [(0, (.pointer (some ⟨Y.b, 0, none⟩))), (1, (.string word)), (5, (.pointer (some ⟨b1, 0, none⟩))), (7, (.slice A_ou ou.length c_ou)), (8, (.int .i64 i)), (9, (.int .i64 n)), (10, (.int .i64 k))]) f_) _ ⟨A_out, c_out, out, 0, 0, by omega, by omega, (dfind_0 q1), rfl, by omega, by omega, hL1, rfl, Weak.cons rfl <| Weak.cons rfl <| Weak.cons rfl <| Weak.cons rfl <| Weak.cons rfl <| Weak.cons rfl <| Weak.cons rfl <| Weak.nil _⟩ ?_
    rintro m2 f2 w4 ⟨A_ou, c_ou, ou, n, k, klo, khi, p1, p2, p3, p4, hL2, rfl, hw2⟩
    refine WC.weak hw2 ?_
    clear hw2
    iterate 2 refine WC.seq ?_
    refine WC.region ?_
    iterate 2 refine WL.lv rfl (LV.mv rfl) ?_
    refine WL.lv rfl (LV.nilCheck rfl) ?_
    refine WL.lv rfl (LV.fieldA Tryz.underlying43 rfl ti41.sz rfl) ?_
    refine WL.lv rfl (LV.load1 Tryz.underlying41 rfl rfl (Blk.cellN (SH.arg hL2 (h_Y.imp fun _ h_ => h_.1)) 0 rfl _ (KB.refl No _))) ?_
    refine WL.lv rfl (LV.mv rfl) ?_
    obtain ⟨A1, c1, e1, g1⟩ := St.elt (SH.stN hL2 (h_Y.imp fun _ h_ => h_.2.1)) dSV i (by omega) (by omega)
    refine WL.lv rfl (LV.idxA Tryz.underlying41 ti64.sz rfl e1 rfl (by omega) (by omega)) ?_
    refine WL.lv rfl (LV.fieldA Tryz.underlying64 rfl ti45.sz rfl) ?_
    obtain ⟨A2, c2, hv1, hr1⟩ := docr_at (i := (i).toNat) (h_Y.imp fun _ h_ => h_.2.2) hv_Y.dr (by omega)
    refine WL.lv rfl (LV.to hv1 (LV.load1 (v := (Y.rs.getD (i).toNat dSV).2.v) Tryz.underlying45 rfl rfl (g1 _ (KB.refl No _) 1 _ rfl))) ?_
    refine WL.lv rfl (LV.lenL Tryz.underlying45 rfl) ?_
    refine WL.lv rfl (LV.ltI rfl rfl) ?_
    refine WL.nil (thenQ.n ?_)
    refine WC.condP (p := k < ((Y.F.getD (i).toNat default).2.length : Int)) rfl (fun hc2 => ?_) (fun hc2 => ?_)
    · have hyy_ := hya_.2.1 _ (getD_mem (l := (Y.F.getD i.toNat default).2) (d := dI) (i := k.toNat) (by omega))
      refine WC.skip (thenQ.n ?_)
      refine WC.seq ?_
      refine WC.block ?_
      refine WC.seq ?_
      refine WC.region ?_
      refine WL.lv rfl (LV.mv rfl) ?_
      refine WL.lv rfl (LV.nilCheck rfl) ?_
      refine WL.lv rfl (LV.fieldA Tryz.underlying43 rfl ti41.sz rfl) ?_
      refine WL.lv rfl (LV.load1 Tryz.underlying41 rfl rfl (Blk.cellN (SH.arg hL2 (h_Y.imp fun _ h_ => h_.1)) 0 rfl _ (KB.refl No _))) ?_
      refine WL.lv rfl (LV.mv rfl) ?_
      obtain ⟨A3, c3, e2, g2⟩ := St.elt (SH.stN hL2 (h_Y.imp fun _ h_ => h_.2.1)) dSV i (by omega) (by omega)
      refine WL.lv rfl (LV.idxA Tryz.underlying41 ti64.sz rfl e2 rfl (by omega) (by omega)) ?_
      refine WL.lv rfl (LV.fieldA Tryz.underlying64 rfl ti45.sz rfl) ?_
      obtain ⟨A4, c4, hv2, hr2⟩ := docr_at (i := (i).toNat) (h_Y.imp fun _ h_ => h_.2.2) hv_Y.dr (by omega)
      refine WL.lv rfl (LV.to hv2 (LV.load1 (v := (Y.rs.getD (i).toNat dSV).2.v) Tryz.underlying45 rfl rfl (g2 _ (KB.refl No _) 1 _ rfl))) ?_
      refine WL.lv rfl (LV.mv rfl) ?_
      obtain ⟨A5, c5, e3, g3⟩ := St.elt (SH.stN hL2 hr2) dI k (by omega) (by omega)
      refine WL.lv rfl (LV.idxA Tryz.underlying45 ti68.sz rfl e3 rfl (by omega) (by omega)) ?_
      refine WL.lv rfl (LV.loadAgg (cs := [(.int .i64 ((((Y.F.getD (i).toNat default).2).getD (k).toNat dI).1)), (.int .i64 ((((Y.F.getD (i).toNat default).2).getD (k).toNat dI).2.1.1)), (.int .u64 ((((Y.F.getD (i).toNat default).2).getD (k).toNat dI).2.1.2)), (.bool ((((Y.F.getD (i).toNat default).2).getD (k).toNat dI).2.2.1)), (.string ((((Y.F.getD (i).toNat default).2).getD (k).toNat dI).2.2.2.1)), (.bool ((((Y.F.getD (i).toNat default).2).getD (k).toNat dI).2.2.2.2))]) Tryz.underlying68 rfl ti68 rfl rfl (fun j u hu => g3 _ (KB.refl No _) j u hu)) ?_
      refine WL.xe rfl (XE.alloc #[(.int .i64 0), (.int .i64 0), (.int .u64 0), (.bool false), (.string ⟨#[]⟩), (.bool false)] hL2 ti68 rfl) ?_
      rintro _ w5 ⟨b3, rfl, hS3, hk3⟩
      refine WL.xse rfl (XSE.blkAgg #[(.int .i64 ((((Y.F.getD (i).toNat default).2).getD (k).toNat dI).1)), (.int .i64 ((((Y.F.getD (i).toNat default).2).getD (k).toNat dI).2.1.1)), (.int .u64 ((((Y.F.getD (i).toNat default).2).getD (k).toNat dI).2.1.2)), (.bool ((((Y.F.getD (i).toNat default).2).getD (k).toNat dI).2.2.1)), (.string ((((Y.F.getD (i).toNat default).2).getD (k).toNat dI).2.2.2.1)), (.bool ((((Y.F.getD (i).toNat default).2).getD (k).toNat dI).2.2.2.2))] hS3 (by kernel_rfl) rfl (by kernel_rfl) rfl rfl) ?_
      rintro w6 ⟨hS4, hk4⟩
      refine WL.nil (thenQ.n ?_)
      iterate 2 refine WC.seq ?_
      refine WC.region ?_
      refine WL.lv rfl (LV.fieldA Tryz.underlying68 rfl ti26.sz rfl) ?_
      refine WL.lv rfl (LV.loadAgg (cs := [(.int .i64 ((((Y.F.getD (i).toNat default).2).getD (k).toNat dI).2.1.1)), (.int .u64 ((((Y.F.getD (i).toNat default).2).getD (k).toNat dI).2.1.2))]) Tryz.underlying26 rfl ti26 rfl rfl (Blk.part 1 2 (SH.at hS4 (.head _)) rfl _ (KB.refl No _))) ?_
      refine WL.lv rfl (LV.loadAgg (cs := [(.int .i64 ((o).1)), (.int .u64 ((o).2))]) Tryz.underlying26 rfl ti26 rfl rfl (Blk.agg (SH.at hS4 (.tail _ (.tail _ (.head _)))) _ (KB.refl No _))) ?_
      refine WL.call rfl (XC.fn Tryz.func27 (by kernel_rfl) rfl rfl rfl) (rbelow_calls (a := ((((Y.F.getD (i).toNat default).2).getD (k).toNat dI).2.1)) (b := o) (hyy_.2) (wo)) ?_
      rintro v_ w7 ⟨rfl, hk5⟩
      have hS5 := SH.same hS4 hk5
      refine WL.lv rfl (LV.notP rfl) ?_
      refine WL.nil (thenQ.n ?_)
      refine WC.condP (p := ¬ (BEL ((((Y.F.getD (i).toNat default).2).getD (k).toNat dI).2.1) o)) rfl (fun hb => ?_) (fun hb => ?_)
      · skip
        refine WC.exit (thenQ.x <| blockQ.hit <| thenQ.n ?_)
        refine WC.region ?_
        refine WL.lv rfl (LV.mv rfl) ?_
        refine WL.lv rfl (LV.add rfl rfl (wr64 (by omega) (by omega))) ?_
        refine WL.lv rfl (LV.asg rfl) ?_
        refine WL.nil (thenQ.n ?_)
        have hS6 : SH w No w7 [rowE eSI 49 (.slice A_ou ou.length c_ou) ou, blkE b1 26 #[(.int .i64 ((o).1)), (.int .u64 ((o).2))]] := (SH.take 2 rfl (SH.front [_, _] (SH.front [_, _] hS5)))
        exact ⟨_, by omega, A_ou, c_ou, ou, n, k + 1, by omega, by omega, (dfind_no klo (by omega) hb p1), (dcnt_no klo (by omega) hb p2), by omega, (by first | omega | (simp; omega)), hS6, rfl, Weak.cons rfl <| Weak.cons rfl <| Weak.cons rfl <| Weak.cons rfl <| Weak.cons rfl <| Weak.cons rfl <| Weak.cons rfl <| Weak.nil _⟩
      · skip
        refine WC.skip (thenQ.n ?_)
        refine WC.seq ?_
        refine WC.region ?_
        refine WL.lv rfl (LV.mv rfl) ?_
        refine WL.lv rfl (LV.add rfl rfl (wr64 (by omega) (by omega))) ?_
        refine WL.lv rfl (LV.asg rfl) ?_
        refine WL.nil (thenQ.n ?_)
        refine WC.seq ?_
        have hS7 := SH.drew hS5
        refine WC.regionD [] (fun w_ => KB No w7.drew w_) [(.pure, 0), (.look, 1), (.pure, 2), (.pure, 3), (.pure, 4), (.pure, 5), (.look, 6), (.pure, 7), (.forced, 8), (.forced, 9), (.pure, 10)] (by kernel_rfl) (by kernel_rfl) (KB.refl _ _) ?_
        refine WS.pure rfl rfl (fun _ => LV.fieldA Tryz.underlying68 rfl ti4.sz rfl) ?_
        refine WS.look rfl rfl (fun _ hk_ => LV.load1 Tryz.underlying4 rfl rfl (Blk.cellN (SH.at hS7 (.head _)) 3 rfl _ hk_)) ?_
        refine WS.pure rfl rfl (fun _ => LV.notB rfl) ?_
        rcases Bool.eq_false_or_eq_true (!((((Y.F.getD (i).toNat default).2).getD (k).toNat dI).2.2.1)) with hanc | hanc
        · refine WS.pure rfl rfl (fun _ => LV.as (c := true) (LV.mv rfl) hanc) ?_
          refine WS.pure rfl rfl (fun _ => LV.fieldA Tryz.underlying68 rfl ti66.sz rfl) ?_
          refine WS.pure rfl rfl (fun _ => LV.fieldA Tryz.underlying66 rfl ti9.sz rfl) ?_
          refine WS.look rfl rfl (fun _ hk_ => LV.load1 Tryz.underlying9 rfl rfl (Blk.cellN (SH.at hS7 (.head _)) 4 rfl _ hk_)) ?_
          refine WS.pure rfl rfl (fun _ => LV.mv rfl) ?_
          refine WS.call rfl rfl (XC.fn Tryz.func38 (by kernel_rfl) rfl rfl rfl) (rlower_calls (s := word) (hs)) ?_
          rintro v_ w8 ⟨rfl, hk6⟩
          have hS8 := SH.same hS7 hk6
          refine ⟨fun h_ => (KB.transN (KB.refl _ _) hk6), ?_⟩
          refine WS.call rfl rfl (XC.fn Tryz.func37 (by kernel_rfl) rfl rfl rfl) (rhas_calls (s := ((((Y.F.getD (i).toNat default).2).getD (k).toNat dI).2.2.2.1)) (word := (LOW word)) (by omega)) ?_
          rintro v_ w9 ⟨rfl, hk7⟩
          have hS9 := SH.same hS8 hk7
          refine ⟨fun h_ => (KB.transN (KB.transN (KB.refl _ _) hk6) hk7), ?_⟩
          refine WS.pure rfl rfl (fun _ => LV.pickT rfl rfl) ?_
          refine WS.nil (thenQ.n ?_)
          refine WC.condP (p := (LOW word) ∈ OF ((((Y.F.getD (i).toNat default).2).getD (k).toNat dI).2.2.2.1)) rfl (fun hw => ?_) (fun hw => ?_)
          · skip
            refine WC.region ?_
            iterate 2 refine WL.lv rfl (LV.mv rfl) ?_
            refine WL.lv rfl (LV.nilCheck rfl) ?_
            refine WL.lv rfl (LV.fieldA Tryz.underlying43 rfl ti41.sz rfl) ?_
            refine WL.lv rfl (LV.load1 Tryz.underlying41 rfl rfl (Blk.cellN (SH.arg hS9 (h_Y.imp fun _ h_ => h_.1)) 0 rfl _ (KB.refl No _))) ?_
            refine WL.lv rfl (LV.mv rfl) ?_
            obtain ⟨A6, c6, e4, g4⟩ := St.elt (SH.stN hS9 (h_Y.imp fun _ h_ => h_.2.1)) dSV i (by omega) (by omega)
            refine WL.lv rfl (LV.idxA Tryz.underlying41 ti64.sz rfl e4 rfl (by omega) (by omega)) ?_
            refine WL.lv rfl (LV.fieldA Tryz.underlying64 rfl ti9.sz rfl) ?_
            refine WL.lv rfl (LV.load1 (v := (.string ((Y.rs.getD (i).toNat dSV).1))) Tryz.underlying9 rfl rfl (g4 _ (KB.refl No _) 0 _ rfl)) ?_
            refine WL.lv rfl (LV.mv rfl) ?_
            refine WL.lv rfl (LV.build (vs := [(0, (.string ((Y.rs.getD (i).toNat dSV).1))), (1, (.int .i64 (n + 1)))]) (places := #[(0, 1), (1, 1)]) (cs := #[(.string ((Y.rs.getD (i).toNat dSV).1)), (.int .i64 (n + 1))]) Tryz.underlying49 ti49 (fun _ => by kernel_rfl) rfl rfl) ?_
            refine WL.xe rfl (XE.buildSlice (E := eSI) [(0, (.agg #[(.string ((Y.rs.getD (i).toNat dSV).1)), (.int .i64 (n + 1))]))] #[(.string ((Y.rs.getD (i).toNat dSV).1)), (.int .i64 (n + 1))] [(((Y.rs.getD (i).toNat dSV).1, n + 1) : En)] hS9 Tryz.underlying32 ti49 rfl (by decide) (by kernel_rfl) (.inr rfl) rfl rfl (by decide)) ?_
            rintro _ w10 ⟨b4, rfl, hS10, hk8⟩
            have hS11 : SH w No w10 [rowE eSI 49 (.slice A_ou ou.length c_ou) ou, rowE eSI 49 (.slice (some ⟨b4, 0, none⟩) 1 1) [(((Y.rs.getD (i).toNat dSV).1, n + 1) : En)], blkE b3 68 #[(.int .i64 ((((Y.F.getD (i).toNat default).2).getD (k).toNat dI).1)), (.int .i64 ((((Y.F.getD (i).toNat default).2).getD (k).toNat dI).2.1.1)), (.int .u64 ((((Y.F.getD (i).toNat default).2).getD (k).toNat dI).2.1.2)), (.bool ((((Y.F.getD (i).toNat default).2).getD (k).toNat dI).2.2.1)), (.string ((((Y.F.getD (i).toNat default).2).getD (k).toNat dI).2.2.2.1)), (.bool ((((Y.F.getD (i).toNat default).2).getD (k).toNat dI).2.2.2.2))], blkE b1 26 #[(.int .i64 ((o).1)), (.int .u64 ((o).2))]] := (SH.front [_, _] hS10)
            refine WL.xe rfl (XE.append hS11 Tryz.underlying32 ti49 rfl (St.now (SH.rd hS11 (.tail _ (.head _)))) rfl rfl (by first | omega | simp only [List.length_append, List.length_cons, List.length_nil, List.length_take, List.length_reverse, List.length_drop] at *; omega) (by first | omega | simp only [List.length_append, List.length_cons, List.length_nil, List.length_take, List.length_reverse, List.length_drop] at *; omega)) ?_
            rintro _ w11 ⟨A7, c7, rfl, hS12, hk9⟩
            refine WL.lv rfl (LV.asg rfl) ?_
            refine WL.nil (blockQ.n <| thenQ.n ?_)
            refine WC.region ?_
            refine WL.lv rfl (LV.mv rfl) ?_
            refine WL.lv rfl (LV.add rfl rfl (wr64 (by omega) (by omega))) ?_
            refine WL.lv rfl (LV.asg rfl) ?_
            refine WL.nil (thenQ.n ?_)
            have hS13 : SH w No w11 [rowE eSI 49 (.slice A7 ((ou ++ [(((Y.rs.getD (i).toNat dSV).1, n + 1) : En)]).length) c7) (ou ++ [(((Y.rs.getD (i).toNat dSV).1, n + 1) : En)]), blkE b1 26 #[(.int .i64 ((o).1)), (.int .u64 ((o).2))]] := (SH.take 2 rfl (SH.front [_] (SH.front [_, _, _] hS12)))
            exact ⟨_, by omega, A7, c7, (ou ++ [(((Y.rs.getD (i).toNat dSV).1, n + 1) : En)]), n + 1, k + 1, by omega, by omega, (dfind_yes klo (by omega) (Decidable.not_not.1 hb) ⟨by first | simpa using hanc | exact hanc, hw⟩ p2 p1), (dcnt_yes klo (by omega) (Decidable.not_not.1 hb) p2), by omega, (by first | omega | (simp; omega)), hS13, rfl, Weak.cons rfl <| Weak.cons rfl <| Weak.cons rfl <| Weak.cons rfl <| Weak.cons rfl <| Weak.cons rfl <| Weak.cons rfl <| Weak.nil _⟩
          · skip
            refine WC.skip (blockQ.n <| thenQ.n ?_)
            refine WC.region ?_
            refine WL.lv rfl (LV.mv rfl) ?_
            refine WL.lv rfl (LV.add rfl rfl (wr64 (by omega) (by omega))) ?_
            refine WL.lv rfl (LV.asg rfl) ?_
            refine WL.nil (thenQ.n ?_)
            have hS14 : SH w No w9 [rowE eSI 49 (.slice A_ou ou.length c_ou) ou, blkE b1 26 #[(.int .i64 ((o).1)), (.int .u64 ((o).2))]] := (SH.take 2 rfl (SH.front [_, _] (SH.front [_, _] hS9)))
            exact ⟨_, by omega, A_ou, c_ou, ou, n + 1, k + 1, by omega, by omega, (dfind_nw klo (by omega) (fun h_ => by first | exact hw h_.2 | (rw [h_.1] at hanc; simp at hanc)) p1), (dcnt_yes klo (by omega) (Decidable.not_not.1 hb) p2), by omega, (by first | omega | (simp; omega)), hS14, rfl, Weak.cons rfl <| Weak.cons rfl <| Weak.cons rfl <| Weak.cons rfl <| Weak.cons rfl <| Weak.cons rfl <| Weak.cons rfl <| Weak.nil _⟩
        · refine WS.pure rfl rfl (fun _ => LV.as (c := false) (LV.mv rfl) hanc) ?_
          iterate 2 refine WS.off rfl rfl ?_
          refine WS.offL rfl rfl ?_
          refine WS.off rfl rfl ?_
          iterate 2 refine WS.offF rfl rfl (fun h_ => (KB.refl _ _)) ?_
          refine WS.pure rfl rfl (fun _ => LV.pickF rfl rfl) ?_
          refine WS.nil (thenQ.n ?_)
          refine WC.condF rfl ?_
          refine WC.skip (blockQ.n <| thenQ.n ?_)
          refine WC.region ?_
          refine WL.lv rfl (LV.mv rfl) ?_
          refine WL.lv rfl (LV.add rfl rfl (wr64 (by omega) (by omega))) ?_
          refine WL.lv rfl (LV.asg rfl) ?_
          refine WL.nil (thenQ.n ?_)
          have hS15 : SH w No w7.drew [rowE eSI 49 (.slice A_ou ou.length c_ou) ou, blkE b1 26 #[(.int .i64 ((o).1)), (.int .u64 ((o).2))]] := (SH.take 2 rfl (SH.front [_, _] (SH.front [_, _] hS7)))
          exact ⟨_, by omega, A_ou, c_ou, ou, n + 1, k + 1, by omega, by omega, (dfind_nw klo (by omega) (fun h_ => by first | exact hw h_.2 | (rw [h_.1] at hanc; simp at hanc)) p1), (dcnt_yes klo (by omega) (Decidable.not_not.1 hb) p2), by omega, (by first | omega | (simp; omega)), hS15, rfl, Weak.cons rfl <| Weak.cons rfl <| Weak.cons rfl <| Weak.cons rfl <| Weak.cons rfl <| Weak.cons rfl <| Weak.cons rfl <| Weak.nil _⟩
    · skip
      refine WC.exit (thenQ.x <| thenQ.x <| blockQ.hit <| blockQ.n <| thenQ.n ?_)
      refine WC.region ?_
      refine WL.lv rfl (LV.mv rfl) ?_
      refine WL.lv rfl (LV.add rfl rfl (wr64 (by omega) (by omega))) ?_
      refine WL.lv rfl (LV.asg rfl) ?_
      refine WL.nil (thenQ.n ?_)
      exact ⟨_, by omega, A_ou, c_ou, ou, i + 1, by omega, by omega, (dfind_end ilo (by omega) hya_.2.2 (by omega) p1), by omega, hL2, rfl, Weak.cons rfl <| Weak.cons rfl <| Weak.cons rfl <| Weak.cons rfl <| Weak.cons rfl <| Weak.nil _⟩
  · skip
    refine WC.exit (thenQ.x <| thenQ.x <| blockQ.hit <| thenQ.n ?_)
    refine WC.seq ?_
    refine WC.region ?_
    refine WL.lv rfl (LV.mv rfl) ?_
    refine WL.lv rfl (LV.asg rfl) ?_
    refine WL.nil (thenQ.n ?_)
    refine WC.ret (?_)
    have hS16 : SH w No w3 [rowE eSI 49 (.slice A_out out.length c_out) out] := (SH.take 1 rfl hL1)
    have hres1 : (out : List En) = FIND Y.F (LOW word) o := by rw [q1, List.take_of_length_le (by omega)]
    exact ⟨_, fun a ha => res1 rfl ha rfl, (by rw [← hres1]; exact ⟨_, _, rfl, hS16⟩)⟩

end Go.Proofs.YtigbphaimbhgjaaGreat

