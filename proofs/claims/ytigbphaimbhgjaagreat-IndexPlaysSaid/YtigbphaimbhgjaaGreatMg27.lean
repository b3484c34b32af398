/- The document's Drop. -/
import Derived.Test.YtigbphaimbhgjaaGreatMg26
namespace Go.Proofs.YtigbphaimbhgjaaGreat
open Go Go.Gv Go.RowKit Go.Tly Go.Wds Go.Idx
set_option linter.unusedVariables false
set_option linter.unusedSimpArgs false

theorem rdropy_calls {w : World} {S : Nat → Prop} {yb : Nat} {A_f : Option Addr} {c_f : Nat} {rs : RWS} {P3 : PLI} {F : List Fl} {fl : ByteArray} (hS0 : SH w S w [blkE yb 43 #[(.slice A_f rs.length c_f)], rowE eSV 64 (.slice A_f rs.length c_f) rs, insE idS eIt 68 P3]) (hD : DOCR rs P3 F) (hF : NS F) (hn : F.length ≤ 30) (hK : (lookL F fl).isSome = true) :
    Calls Tryz.prog 47 #[(.pointer (some ⟨yb, 0, none⟩)), (.string fl)] w fun e w' => ∃ v, e = .returned v ∧ (fun v w' => ∃ (A' : Option Addr) (c' : Nat) (rs' : RWS) (P3' : PLI), v = .int .i64 0 ∧ DOCR rs' P3' (WOF F fl) ∧ SH w S w' [blkE yb 43 #[(.slice A' rs'.length c')], rowE eSV 64 (.slice A' rs'.length c') rs', insE idS eIt 68 P3']) v w' := by
  have hdl_ := hD.len
  have hS : SH w S w [blkE yb 43 #[(.slice A_f rs.length c_f)], rowE eSV 64 (.slice A_f rs.length c_f) rs, insE idS eIt 68 P3] := hS0
  refine calls (l := litOf [(.pointer (some ⟨yb, 0, none⟩)), (.string fl)] 0) Tryz.func47 rfl (n := 44) rfl (Nat.le_of_ble_eq_true rfl) (lit_args _) ?_
  refine WC.seq ?_
  refine WC.region ?_
  refine WL.lv rfl (LV.asg rfl) ?_
  refine WL.nil (thenQ.n ?_)
  iterate 2 refine WC.seq ?_
  refine WC.region ?_
  refine WL.lv rfl (LV.asg rfl) ?_
  refine WL.nil (thenQ.n ?_)
  refine WC.block ?_
  refine WC.loop (fun m_ f_ w_ => ∃ (i : Int), (0 ≤ i) ∧ (i ≤ rs.length) ∧ (∀ t : Int, 0 ≤ t → t < i → ¬ (rs.getD t.toNat dSV).1 = fl) ∧ SH w S w_ [blkE yb 43 #[(.slice A_f rs.length c_f)], rowE eSV 64 (.slice A_f rs.length c_f) rs, insE idS eIt 68 P3] ∧ m_ = (((rs.length : Int) - i).toNat) ∧ Weak (lit [(0, (.pointer (some ⟨yb, 0, none⟩))), (1, (.string fl)), (5, (.int .i64 i))]) f_) _ ⟨0, by omega, by omega, (fun t h1 h2 => by omega), hS, rfl, Weak.cons rfl <| Weak.cons rfl <| Weak.cons rfl <| Weak.nil _⟩ ?_
  rintro m1 f1 w1 ⟨i, ilo, ihi, q1, hL1, rfl, hw1⟩
  refine WC.weak hw1 ?_
  clear hw1
  iterate 2 refine WC.seq ?_
  refine WC.region ?_
  iterate 2 refine WL.lv rfl (LV.mv rfl) ?_
  refine WL.lv rfl (LV.nilCheck rfl) ?_
  refine WL.lv rfl (LV.fieldA Tryz.underlying43 rfl ti41.sz rfl) ?_
  refine WL.lv rfl (LV.load1 Tryz.underlying41 rfl rfl (Blk.cellN (SH.at hL1 (.head _)) 0 rfl _ (KB.refl No _))) ?_
  refine WL.lv rfl (LV.lenL Tryz.underlying41 rfl) ?_
  refine WL.lv rfl (LV.ltI rfl rfl) ?_
  refine WL.nil (thenQ.n ?_)
  refine WC.condP (p := i < (rs.length : Int)) rfl (fun hc1 => ?_) (fun hc1 => ?_)
  · skip
    refine WC.skip (thenQ.n ?_)
    refine WC.seq ?_
    refine WC.block ?_
    refine WC.seq ?_
    refine WC.region ?_
    refine WL.lv rfl (LV.mv rfl) ?_
    refine WL.lv rfl (LV.nilCheck rfl) ?_
    refine WL.lv rfl (LV.fieldA Tryz.underlying43 rfl ti41.sz rfl) ?_
    refine WL.lv rfl (LV.load1 Tryz.underlying41 rfl rfl (Blk.cellN (SH.at hL1 (.head _)) 0 rfl _ (KB.refl No _))) ?_
    refine WL.lv rfl (LV.mv rfl) ?_
    obtain ⟨A1, c1, e1, g1⟩ := St.elt (SH.rd hL1 (.tail _ (.head _))) dSV i (by omega) (by omega)
    refine WL.lv rfl (LV.idxA Tryz.underlying41 ti64.sz rfl e1 rfl (by omega) (by omega)) ?_
    refine WL.lv rfl (LV.fieldA Tryz.underlying64 rfl ti9.sz rfl) ?_
    refine WL.lv rfl (LV.load1 (v := (.string ((rs.getD (i).toNat dSV).1))) Tryz.underlying9 rfl rfl (g1 _ (KB.refl No _) 0 _ rfl)) ?_
    refine WL.lv rfl (LV.mv rfl) ?_
    refine WL.lv rfl (LV.eqSP (a := ((rs.getD (i).toNat dSV).1)) (b := fl) rfl rfl) ?_
    refine WL.nil (thenQ.n ?_)
    refine WC.condP (p := ((rs.getD (i).toNat dSV).1) = fl) rfl (fun he => ?_) (fun he => ?_)
    · skip
      refine WC.seq ?_
      have hS1 := SH.drew hL1
      refine WC.regionD [] (fun _ => True) [(.pure, 0), (.pure, 2), (.pure, 3), (.pure, 4), (.pure, 6), (.pure, 9), (.pure, 10), (.pure, 11), (.pure, 13), (.pure, 14), (.fork, 0), (.fork, 0), (.fork, 0), (.fork, 0), (.fork, 0), (.fork, 0), (.fork, 0), (.fork, 0), (.fork, 0), (.fork, 0)] (by kernel_rfl) (by kernel_rfl) trivial ?_
      iterate 2 refine WS.pure rfl rfl (fun _ => LV.mv rfl) ?_
      refine WS.pure rfl rfl (fun _ => LV.nilCheck rfl) ?_
      refine WS.pure rfl rfl (fun _ => LV.fieldA Tryz.underlying43 rfl ti41.sz rfl) ?_
      iterate 2 refine WS.pure rfl rfl (fun _ => LV.mv rfl) ?_
      refine WS.pure rfl rfl (fun _ => LV.nilCheck rfl) ?_
      refine WS.pure rfl rfl (fun _ => LV.fieldA Tryz.underlying43 rfl ti41.sz rfl) ?_
      refine WS.pure rfl rfl (fun _ => LV.mv rfl) ?_
      refine WS.pure rfl rfl (fun _ => LV.add rfl rfl (wr64 (by omega) (by omega))) ?_
      refine WS.fork (WSX.three 1 5 12 (by kernel_rfl) ?_ ?_ ?_)
      · refine WO.xe rfl rfl (XE.buildSlice (E := eSV) [] #[] [] hS1 Tryz.underlying41 ti64 rfl (by decide) (by kernel_rfl) (.inr rfl) rfl rfl (by decide)) ?_
        rintro _ w2 ⟨b1, rfl, hS2, hk1⟩
        refine ⟨fun h_ => trivial, ?_⟩
        refine WSX.of [(.fork, 0), (.fork, 0), (.fork, 0), (.fork, 0), (.fork, 0), (.fork, 0), (.fork, 0), (.fork, 0), (.fork, 0)] (by kernel_rfl) rfl ?_
        refine WS.fork (WSX.two 5 12 (by kernel_rfl) ?_ ?_)
        · refine WO.lvT rfl rfl (LV.load1 Tryz.underlying41 rfl rfl (Blk.cellN (SH.at hS2 (.tail _ (.head _))) 0 rfl _ (KB.refl No _))) ?_
          refine WSX.of [(.pure, 7), (.fork, 0), (.fork, 0), (.fork, 0), (.fork, 0), (.fork, 0), (.fork, 0), (.fork, 0)] (by kernel_rfl) rfl ?_
          have hcap1 : rs.length ≤ c_f := (Rd.cap (St.now (SH.rd hS2 (.tail _ (.tail _ (.head _))))))
          refine WS.pure rfl rfl (fun _ => LV.cut Tryz.underlying41 ti64.sz rfl rfl rfl rfl ⟨.inl ⟨rfl, rfl⟩, .inr ⟨.i64, by rw [Int.toNat_of_nonneg (a := i) (by omega)] <;> rfl⟩, .inl ⟨rfl, rfl⟩⟩ (by omega) (by omega) (by omega)) ?_
          refine WS.fork (WSX.two 8 12 (by kernel_rfl) ?_ ?_)
          · refine WO.xe rfl rfl (XE.append hS2 Tryz.underlying41 ti64 rfl (St.now ((SH.rd hS2 (.tail _ (.tail _ (.head _)))).imp fun _ h => Rd.cut h (by omega) (by omega) (by omega) (by omega))) rfl rfl (by first | omega | simp only [List.length_append, List.length_cons, List.length_nil, List.length_take, List.length_reverse, List.length_drop] at *; omega) (by first | omega | simp only [List.length_append, List.length_cons, List.length_nil, List.length_take, List.length_reverse, List.length_drop] at *; omega)) ?_
            rintro _ w3 ⟨A2, c2, rfl, hS3, hk2⟩
            refine ⟨fun h_ => trivial, ?_⟩
            refine WSX.of [(.forced, 12), (.pure, 15), (.forced, 16), (.pure, 17), (.pure, 18), (.forced, 19)] (by kernel_rfl) rfl ?_
            refine WS.lvT rfl rfl (LV.load1 Tryz.underlying41 rfl rfl (Blk.cellN (SH.at hS3 (.tail _ (.head _))) 0 rfl _ (KB.refl No _))) ?_
            have hcap2 : rs.length ≤ c_f := (Rd.cap (St.now (SH.rd hS3 (.tail _ (.tail _ (.head _))))))
            refine WS.pure rfl rfl (fun _ => LV.cut Tryz.underlying41 ti64.sz rfl rfl rfl rfl ⟨.inr ⟨.i64, by rw [Int.toNat_of_nonneg (a := i + 1) (by omega)] <;> rfl⟩, .inl ⟨rfl, rfl, rfl⟩, .inl ⟨rfl, rfl⟩⟩ (by omega) (by omega) (by omega)) ?_
            refine WS.xe rfl rfl (XE.append hS3 Tryz.underlying41 ti64 rfl (St.now ((SH.rd hS3 (.tail _ (.tail _ (.head _)))).imp fun _ h => Rd.cut h (by omega) (by omega) (by omega) (by omega))) rfl rfl (by first | omega | simp only [List.length_append, List.length_cons, List.length_nil, List.length_take, List.length_reverse, List.length_drop] at *; omega) (by first | omega | simp only [List.length_append, List.length_cons, List.length_nil, List.length_take, List.length_reverse, List.length_drop] at *; omega)) ?_
            rintro _ w4 ⟨A3, c3, rfl, hS4, hk3⟩
            refine ⟨fun h_ => trivial, ?_⟩
            refine WS.pure rfl rfl (fun _ => LV.nilCheck rfl) ?_
            refine WS.pure rfl rfl (fun _ => LV.fieldA Tryz.underlying43 rfl ti41.sz rfl) ?_
            have hS6 : SH w S w4 [blkE yb 43 #[(.slice A_f rs.length c_f)], rowE eSV 64 (.slice A3 (((([] : List (ByteArray × SV)) ++ ((rs.take ((i).toNat)).drop 0)) ++ ((rs.take rs.length).drop ((i + 1).toNat))).length) c3) ((([] : List (ByteArray × SV)) ++ ((rs.take ((i).toNat)).drop 0)) ++ ((rs.take rs.length).drop ((i + 1).toNat))), rowE eSV 64 (.slice A_f rs.length c_f) rs, insE idS eIt 68 P3] := (SH.front [_] hS4)
            refine WS.xse rfl rfl (XSE.blk #[(.slice A3 (((([] : List (ByteArray × SV)) ++ ((rs.take ((i).toNat)).drop 0)) ++ ((rs.take rs.length).drop ((i + 1).toNat))).length) c3)] hS6 (Nat.le_of_ble_eq_true rfl) ti41.sz rfl rfl rfl rfl) ?_
            rintro w5 ⟨hS5, hk4⟩
            refine ⟨fun h_ => trivial, ?_⟩
            refine WS.nil (thenQ.n ?_)
            refine WC.seq ?_
            refine WC.region ?_
            refine WL.lv rfl (LV.asg rfl) ?_
            refine WL.nil (thenQ.n ?_)
            refine WC.ret (blockQ.r <| thenQ.r <| thenQ.r <| blockQ.r <| thenQ.r <| ?_)
            have hS7 : SH w S w5 [blkE yb 43 #[(.slice A3 (((([] : List (ByteArray × SV)) ++ ((rs.take ((i).toNat)).drop 0)) ++ ((rs.take rs.length).drop ((i + 1).toNat))).length) c3)], rowE eSV 64 (.slice A3 (((([] : List (ByteArray × SV)) ++ ((rs.take ((i).toNat)).drop 0)) ++ ((rs.take rs.length).drop ((i + 1).toNat))).length) c3) ((([] : List (ByteArray × SV)) ++ ((rs.take ((i).toNat)).drop 0)) ++ ((rs.take rs.length).drop ((i + 1).toNat))), insE idS eIt 68 P3] := (SH.take 3 rfl (SH.front [_, _] (SH.front [_, _] (SH.front [_, _, _] hS5))))
            exact ⟨_, fun a ha => res1 rfl ha rfl, _, _, _, _, rfl, docr_drop hD hF ilo (by omega) he (by simp), hS7⟩
          · refine WO.lvT rfl rfl (LV.load1 Tryz.underlying41 rfl rfl (Blk.cellN (SH.at hS2 (.tail _ (.head _))) 0 rfl _ (KB.refl No _))) ?_
            refine WSX.of [(.pure, 15), (.forced, 8), (.forced, 16), (.pure, 17), (.pure, 18), (.forced, 19)] (by kernel_rfl) rfl ?_
            have hcap3 : rs.length ≤ c_f := (Rd.cap (St.now (SH.rd hS2 (.tail _ (.tail _ (.head _))))))
            refine WS.pure rfl rfl (fun _ => LV.cut Tryz.underlying41 ti64.sz rfl rfl rfl rfl ⟨.inr ⟨.i64, by rw [Int.toNat_of_nonneg (a := i + 1) (by omega)] <;> rfl⟩, .inl ⟨rfl, rfl, rfl⟩, .inl ⟨rfl, rfl⟩⟩ (by omega) (by omega) (by omega)) ?_
            refine WS.xe rfl rfl (XE.append hS2 Tryz.underlying41 ti64 rfl (St.now ((SH.rd hS2 (.tail _ (.tail _ (.head _)))).imp fun _ h => Rd.cut h (by omega) (by omega) (by omega) (by omega))) rfl rfl (by first | omega | simp only [List.length_append, List.length_cons, List.length_nil, List.length_take, List.length_reverse, List.length_drop] at *; omega) (by first | omega | simp only [List.length_append, List.length_cons, List.length_nil, List.length_take, List.length_reverse, List.length_drop] at *; omega)) ?_
            rintro _ w6 ⟨A4, c4, rfl, hS8, hk5⟩
            refine ⟨fun h_ => trivial, ?_⟩
            refine WS.xe rfl rfl (XE.append hS8 Tryz.underlying41 ti64 rfl (St.now ((SH.rd hS8 (.tail _ (.tail _ (.head _)))).imp fun _ h => Rd.cut h (by omega) (by omega) (by omega) (by omega))) rfl rfl (by first | omega | simp only [List.length_append, List.length_cons, List.length_nil, List.length_take, List.length_reverse, List.length_drop] at *; omega) (by first | omega | simp only [List.length_append, List.length_cons, List.length_nil, List.length_take, List.length_reverse, List.length_drop] at *; omega)) ?_
            rintro _ w7 ⟨A5, c5, rfl, hS9, hk6⟩
            refine ⟨fun h_ => trivial, ?_⟩
            refine WS.pure rfl rfl (fun _ => LV.nilCheck rfl) ?_
            refine WS.pure rfl rfl (fun _ => LV.fieldA Tryz.underlying43 rfl ti41.sz rfl) ?_
            have hS11 : SH w S w7 [blkE yb 43 #[(.slice A_f rs.length c_f)], rowE eSV 64 (.slice A5 (((([] : List (ByteArray × SV)) ++ ((rs.take ((i).toNat)).drop 0)) ++ ((rs.take rs.length).drop ((i + 1).toNat))).length) c5) ((([] : List (ByteArray × SV)) ++ ((rs.take ((i).toNat)).drop 0)) ++ ((rs.take rs.length).drop ((i + 1).toNat))), rowE eSV 64 (.slice A_f rs.length c_f) rs, insE idS eIt 68 P3] := (SH.front [_] hS9)
            refine WS.xse rfl rfl (XSE.blk #[(.slice A5 (((([] : List (ByteArray × SV)) ++ ((rs.take ((i).toNat)).drop 0)) ++ ((rs.take rs.length).drop ((i + 1).toNat))).length) c5)] hS11 (Nat.le_of_ble_eq_true rfl) ti41.sz rfl rfl rfl rfl) ?_
            rintro w8 ⟨hS10, hk7⟩
            refine ⟨fun h_ => trivial, ?_⟩
            refine WS.nil (thenQ.n ?_)
            refine WC.seq ?_
            refine WC.region ?_
            refine WL.lv rfl (LV.asg rfl) ?_
            refine WL.nil (thenQ.n ?_)
            refine WC.ret (blockQ.r <| thenQ.r <| thenQ.r <| blockQ.r <| thenQ.r <| ?_)
            have hS12 : SH w S w8 [blkE yb 43 #[(.slice A5 (((([] : List (ByteArray × SV)) ++ ((rs.take ((i).toNat)).drop 0)) ++ ((rs.take rs.length).drop ((i + 1).toNat))).length) c5)], rowE eSV 64 (.slice A5 (((([] : List (ByteArray × SV)) ++ ((rs.take ((i).toNat)).drop 0)) ++ ((rs.take rs.length).drop ((i + 1).toNat))).length) c5) ((([] : List (ByteArray × SV)) ++ ((rs.take ((i).toNat)).drop 0)) ++ ((rs.take rs.length).drop ((i + 1).toNat))), insE idS eIt 68 P3] := (SH.take 3 rfl (SH.front [_, _] (SH.front [_, _] (SH.front [_, _, _] hS10))))
            exact ⟨_, fun a ha => res1 rfl ha rfl, _, _, _, _, rfl, docr_drop hD hF ilo (by omega) he (by simp), hS12⟩
        · refine WO.lvT rfl rfl (LV.load1 Tryz.underlying41 rfl rfl (Blk.cellN (SH.at hS2 (.tail _ (.head _))) 0 rfl _ (KB.refl No _))) ?_
          refine WSX.of [(.pure, 15), (.forced, 5), (.pure, 7), (.forced, 8), (.forced, 16), (.pure, 17), (.pure, 18), (.forced, 19)] (by kernel_rfl) rfl ?_
          have hcap4 : rs.length ≤ c_f := (Rd.cap (St.now (SH.rd hS2 (.tail _ (.tail _ (.head _))))))
          refine WS.pure rfl rfl (fun _ => LV.cut Tryz.underlying41 ti64.sz rfl rfl rfl rfl ⟨.inr ⟨.i64, by rw [Int.toNat_of_nonneg (a := i + 1) (by omega)] <;> rfl⟩, .inl ⟨rfl, rfl, rfl⟩, .inl ⟨rfl, rfl⟩⟩ (by omega) (by omega) (by omega)) ?_
          refine WS.lvT rfl rfl (LV.load1 Tryz.underlying41 rfl rfl (Blk.cellN (SH.at hS2 (.tail _ (.head _))) 0 rfl _ (KB.refl No _))) ?_
          have hcap5 : rs.length ≤ c_f := (Rd.cap (St.now (SH.rd hS2 (.tail _ (.tail _ (.head _))))))
          refine WS.pure rfl rfl (fun _ => LV.cut Tryz.underlying41 ti64.sz rfl rfl rfl rfl ⟨.inl ⟨rfl, rfl⟩, .inr ⟨.i64, by rw [Int.toNat_of_nonneg (a := i) (by omega)] <;> rfl⟩, .inl ⟨rfl, rfl⟩⟩ (by omega) (by omega) (by omega)) ?_
          refine WS.xe rfl rfl (XE.append hS2 Tryz.underlying41 ti64 rfl (St.now ((SH.rd hS2 (.tail _ (.tail _ (.head _)))).imp fun _ h => Rd.cut h (by omega) (by omega) (by omega) (by omega))) rfl rfl (by first | omega | simp only [List.length_append, List.length_cons, List.length_nil, List.length_take, List.length_reverse, List.length_drop] at *; omega) (by first | omega | simp only [List.length_append, List.length_cons, List.length_nil, List.length_take, List.length_reverse, List.length_drop] at *; omega)) ?_
          rintro _ w9 ⟨A6, c6, rfl, hS13, hk8⟩
          refine ⟨fun h_ => trivial, ?_⟩
          refine WS.xe rfl rfl (XE.append hS13 Tryz.underlying41 ti64 rfl (St.now ((SH.rd hS13 (.tail _ (.tail _ (.head _)))).imp fun _ h => Rd.cut h (by omega) (by omega) (by omega) (by omega))) rfl rfl (by first | omega | simp only [List.length_append, List.length_cons, List.length_nil, List.length_take, List.length_reverse, List.length_drop] at *; omega) (by first | omega | simp only [List.length_append, List.length_cons, List.length_nil, List.length_take, List.length_reverse, List.length_drop] at *; omega)) ?_
          rintro _ w10 ⟨A7, c7, rfl, hS14, hk9⟩
          refine ⟨fun h_ => trivial, ?_⟩
          refine WS.pure rfl rfl (fun _ => LV.nilCheck rfl) ?_
          refine WS.pure rfl rfl (fun _ => LV.fieldA Tryz.underlying43 rfl ti41.sz rfl) ?_
          have hS16 : SH w S w10 [blkE yb 43 #[(.slice A_f rs.length c_f)], rowE eSV 64 (.slice A7 (((([] : List (ByteArray × SV)) ++ ((rs.take ((i).toNat)).drop 0)) ++ ((rs.take rs.length).drop ((i + 1).toNat))).length) c7) ((([] : List (ByteArray × SV)) ++ ((rs.take ((i).toNat)).drop 0)) ++ ((rs.take rs.length).drop ((i + 1).toNat))), rowE eSV 64 (.slice A_f rs.length c_f) rs, insE idS eIt 68 P3] := (SH.front [_] hS14)
          refine WS.xse rfl rfl (XSE.blk #[(.slice A7 (((([] : List (ByteArray × SV)) ++ ((rs.take ((i).toNat)).drop 0)) ++ ((rs.take rs.length).drop ((i + 1).toNat))).length) c7)] hS16 (Nat.le_of_ble_eq_true rfl) ti41.sz rfl rfl rfl rfl) ?_
          rintro w11 ⟨hS15, hk10⟩
          refine ⟨fun h_ => trivial, ?_⟩
          refine WS.nil (thenQ.n ?_)
          refine WC.seq ?_
          refine WC.region ?_
          refine WL.lv rfl (LV.asg rfl) ?_
          refine WL.nil (thenQ.n ?_)
          refine WC.ret (blockQ.r <| thenQ.r <| thenQ.r <| blockQ.r <| thenQ.r <| ?_)
          have hS17 : SH w S w11 [blkE yb 43 #[(.slice A7 (((([] : List (ByteArray × SV)) ++ ((rs.take ((i).toNat)).drop 0)) ++ ((rs.take rs.length).drop ((i + 1).toNat))).length) c7)], rowE eSV 64 (.slice A7 (((([] : List (ByteArray × SV)) ++ ((rs.take ((i).toNat)).drop 0)) ++ ((rs.take rs.length).drop ((i + 1).toNat))).length) c7) ((([] : List (ByteArray × SV)) ++ ((rs.take ((i).toNat)).drop 0)) ++ ((rs.take rs.length).drop ((i + 1).toNat))), insE idS eIt 68 P3] := (SH.take 3 rfl (SH.front [_, _] (SH.front [_, _] (SH.front [_, _, _] hS15))))
          exact ⟨_, fun a ha => res1 rfl ha rfl, _, _, _, _, rfl, docr_drop hD hF ilo (by omega) he (by simp), hS17⟩
      · refine WO.lvT rfl rfl (LV.load1 Tryz.underlying41 rfl rfl (Blk.cellN (SH.at hS1 (.head _)) 0 rfl _ (KB.refl No _))) ?_
        refine WSX.of [(.pure, 7), (.fork, 0), (.fork, 0), (.fork, 0), (.fork, 0), (.fork, 0), (.fork, 0), (.fork, 0), (.fork, 0)] (by kernel_rfl) rfl ?_
        have hcap6 : rs.length ≤ c_f := (Rd.cap (St.now (SH.rd hS1 (.tail _ (.head _)))))
        refine WS.pure rfl rfl (fun _ => LV.cut Tryz.underlying41 ti64.sz rfl rfl rfl rfl ⟨.inl ⟨rfl, rfl⟩, .inr ⟨.i64, by rw [Int.toNat_of_nonneg (a := i) (by omega)] <;> rfl⟩, .inl ⟨rfl, rfl⟩⟩ (by omega) (by omega) (by omega)) ?_
        refine WS.fork (WSX.two 1 12 (by kernel_rfl) ?_ ?_)
        · refine WO.xe rfl rfl (XE.buildSlice (E := eSV) [] #[] [] hS1 Tryz.underlying41 ti64 rfl (by decide) (by kernel_rfl) (.inr rfl) rfl rfl (by decide)) ?_
          rintro _ w12 ⟨b2, rfl, hS18, hk11⟩
          refine ⟨fun h_ => trivial, ?_⟩
          refine WSX.of [(.fork, 0), (.fork, 0), (.fork, 0), (.fork, 0), (.fork, 0), (.fork, 0), (.fork, 0)] (by kernel_rfl) rfl ?_
          refine WS.fork (WSX.two 8 12 (by kernel_rfl) ?_ ?_)
          · refine WO.xe rfl rfl (XE.append hS18 Tryz.underlying41 ti64 rfl (St.now ((SH.rd hS18 (.tail _ (.tail _ (.head _)))).imp fun _ h => Rd.cut h (by omega) (by omega) (by omega) (by omega))) rfl rfl (by first | omega | simp only [List.length_append, List.length_cons, List.length_nil, List.length_take, List.length_reverse, List.length_drop] at *; omega) (by first | omega | simp only [List.length_append, List.length_cons, List.length_nil, List.length_take, List.length_reverse, List.length_drop] at *; omega)) ?_
            rintro _ w13 ⟨A8, c8, rfl, hS19, hk12⟩
            refine ⟨fun h_ => trivial, ?_⟩
            refine WSX.of [(.forced, 12), (.pure, 15), (.forced, 16), (.pure, 17), (.pure, 18), (.forced, 19)] (by kernel_rfl) rfl ?_
            refine WS.lvT rfl rfl (LV.load1 Tryz.underlying41 rfl rfl (Blk.cellN (SH.at hS19 (.tail _ (.head _))) 0 rfl _ (KB.refl No _))) ?_
            have hcap7 : rs.length ≤ c_f := (Rd.cap (St.now (SH.rd hS19 (.tail _ (.tail _ (.head _))))))
            refine WS.pure rfl rfl (fun _ => LV.cut Tryz.underlying41 ti64.sz rfl rfl rfl rfl ⟨.inr ⟨.i64, by rw [Int.toNat_of_nonneg (a := i + 1) (by omega)] <;> rfl⟩, .inl ⟨rfl, rfl, rfl⟩, .inl ⟨rfl, rfl⟩⟩ (by omega) (by omega) (by omega)) ?_
            refine WS.xe rfl rfl (XE.append hS19 Tryz.underlying41 ti64 rfl (St.now ((SH.rd hS19 (.tail _ (.tail _ (.head _)))).imp fun _ h => Rd.cut h (by omega) (by omega) (by omega) (by omega))) rfl rfl (by first | omega | simp only [List.length_append, List.length_cons, List.length_nil, List.length_take, List.length_reverse, List.length_drop] at *; omega) (by first | omega | simp only [List.length_append, List.length_cons, List.length_nil, List.length_take, List.length_reverse, List.length_drop] at *; omega)) ?_
            rintro _ w14 ⟨A9, c9, rfl, hS20, hk13⟩
            refine ⟨fun h_ => trivial, ?_⟩
            refine WS.pure rfl rfl (fun _ => LV.nilCheck rfl) ?_
            refine WS.pure rfl rfl (fun _ => LV.fieldA Tryz.underlying43 rfl ti41.sz rfl) ?_
            have hS22 : SH w S w14 [blkE yb 43 #[(.slice A_f rs.length c_f)], rowE eSV 64 (.slice A9 (((([] : List (ByteArray × SV)) ++ ((rs.take ((i).toNat)).drop 0)) ++ ((rs.take rs.length).drop ((i + 1).toNat))).length) c9) ((([] : List (ByteArray × SV)) ++ ((rs.take ((i).toNat)).drop 0)) ++ ((rs.take rs.length).drop ((i + 1).toNat))), rowE eSV 64 (.slice A_f rs.length c_f) rs, insE idS eIt 68 P3] := (SH.front [_] hS20)
            refine WS.xse rfl rfl (XSE.blk #[(.slice A9 (((([] : List (ByteArray × SV)) ++ ((rs.take ((i).toNat)).drop 0)) ++ ((rs.take rs.length).drop ((i + 1).toNat))).length) c9)] hS22 (Nat.le_of_ble_eq_true rfl) ti41.sz rfl rfl rfl rfl) ?_
            rintro w15 ⟨hS21, hk14⟩
            refine ⟨fun h_ => trivial, ?_⟩
            refine WS.nil (thenQ.n ?_)
            refine WC.seq ?_
            refine WC.region ?_
            refine WL.lv rfl (LV.asg rfl) ?_
            refine WL.nil (thenQ.n ?_)
            refine WC.ret (blockQ.r <| thenQ.r <| thenQ.r <| blockQ.r <| thenQ.r <| ?_)
            have hS23 : SH w S w15 [blkE yb 43 #[(.slice A9 (((([] : List (ByteArray × SV)) ++ ((rs.take ((i).toNat)).drop 0)) ++ ((rs.take rs.length).drop ((i + 1).toNat))).length) c9)], rowE eSV 64 (.slice A9 (((([] : List (ByteArray × SV)) ++ ((rs.take ((i).toNat)).drop 0)) ++ ((rs.take rs.length).drop ((i + 1).toNat))).length) c9) ((([] : List (ByteArray × SV)) ++ ((rs.take ((i).toNat)).drop 0)) ++ ((rs.take rs.length).drop ((i + 1).toNat))), insE idS eIt 68 P3] := (SH.take 3 rfl (SH.front [_, _] (SH.front [_, _] (SH.front [_, _, _] hS21))))
            exact ⟨_, fun a ha => res1 rfl ha rfl, _, _, _, _, rfl, docr_drop hD hF ilo (by omega) he (by simp), hS23⟩
          · refine WO.lvT rfl rfl (LV.load1 Tryz.underlying41 rfl rfl (Blk.cellN (SH.at hS18 (.tail _ (.head _))) 0 rfl _ (KB.refl No _))) ?_
            refine WSX.of [(.pure, 15), (.forced, 8), (.forced, 16), (.pure, 17), (.pure, 18), (.forced, 19)] (by kernel_rfl) rfl ?_
            have hcap8 : rs.length ≤ c_f := (Rd.cap (St.now (SH.rd hS18 (.tail _ (.tail _ (.head _))))))
            refine WS.pure rfl rfl (fun _ => LV.cut Tryz.underlying41 ti64.sz rfl rfl rfl rfl ⟨.inr ⟨.i64, by rw [Int.toNat_of_nonneg (a := i + 1) (by omega)] <;> rfl⟩, .inl ⟨rfl, rfl, rfl⟩, .inl ⟨rfl, rfl⟩⟩ (by omega) (by omega) (by omega)) ?_
            refine WS.xe rfl rfl (XE.append hS18 Tryz.underlying41 ti64 rfl (St.now ((SH.rd hS18 (.tail _ (.tail _ (.head _)))).imp fun _ h => Rd.cut h (by omega) (by omega) (by omega) (by omega))) rfl rfl (by first | omega | simp only [List.length_append, List.length_cons, List.length_nil, List.length_take, List.length_reverse, List.length_drop] at *; omega) (by first | omega | simp only [List.length_append, List.length_cons, List.length_nil, List.length_take, List.length_reverse, List.length_drop] at *; omega)) ?_
            rintro _ w16 ⟨A10, c10, rfl, hS24, hk15⟩
            refine ⟨fun h_ => trivial, ?_⟩
            refine WS.xe rfl rfl (XE.append hS24 Tryz.underlying41 ti64 rfl (St.now ((SH.rd hS24 (.tail _ (.tail _ (.head _)))).imp fun _ h => Rd.cut h (by omega) (by omega) (by omega) (by omega))) rfl rfl (by first | omega | simp only [List.length_append, List.length_cons, List.length_nil, List.length_take, List.length_reverse, List.length_drop] at *; omega) (by first | omega | simp only [List.length_append, List.length_cons, List.length_nil, List.length_take, List.length_reverse, List.length_drop] at *; omega)) ?_
            rintro _ w17 ⟨A11, c11, rfl, hS25, hk16⟩
            refine ⟨fun h_ => trivial, ?_⟩
            refine WS.pure rfl rfl (fun _ => LV.nilCheck rfl) ?_
            refine WS.pure rfl rfl (fun _ => LV.fieldA Tryz.underlying43 rfl ti41.sz rfl) ?_
            have hS27 : SH w S w17 [blkE yb 43 #[(.slice A_f rs.length c_f)], rowE eSV 64 (.slice A11 (((([] : List (ByteArray × SV)) ++ ((rs.take ((i).toNat)).drop 0)) ++ ((rs.take rs.length).drop ((i + 1).toNat))).length) c11) ((([] : List (ByteArray × SV)) ++ ((rs.take ((i).toNat)).drop 0)) ++ ((rs.take rs.length).drop ((i + 1).toNat))), rowE eSV 64 (.slice A_f rs.length c_f) rs, insE idS eIt 68 P3] := (SH.front [_] hS25)
            refine WS.xse rfl rfl (XSE.blk #[(.slice A11 (((([] : List (ByteArray × SV)) ++ ((rs.take ((i).toNat)).drop 0)) ++ ((rs.take rs.length).drop ((i + 1).toNat))).length) c11)] hS27 (Nat.le_of_ble_eq_true rfl) ti41.sz rfl rfl rfl rfl) ?_
            rintro w18 ⟨hS26, hk17⟩
            refine ⟨fun h_ => trivial, ?_⟩
            refine WS.nil (thenQ.n ?_)
            refine WC.seq ?_
            refine WC.region ?_
            refine WL.lv rfl (LV.asg rfl) ?_
            refine WL.nil (thenQ.n ?_)
            refine WC.ret (blockQ.r <| thenQ.r <| thenQ.r <| blockQ.r <| thenQ.r <| ?_)
            have hS28 : SH w S w18 [blkE yb 43 #[(.slice A11 (((([] : List (ByteArray × SV)) ++ ((rs.take ((i).toNat)).drop 0)) ++ ((rs.take rs.length).drop ((i + 1).toNat))).length) c11)], rowE eSV 64 (.slice A11 (((([] : List (ByteArray × SV)) ++ ((rs.take ((i).toNat)).drop 0)) ++ ((rs.take rs.length).drop ((i + 1).toNat))).length) c11) ((([] : List (ByteArray × SV)) ++ ((rs.take ((i).toNat)).drop 0)) ++ ((rs.take rs.length).drop ((i + 1).toNat))), insE idS eIt 68 P3] := (SH.take 3 rfl (SH.front [_, _] (SH.front [_, _] (SH.front [_, _, _] hS26))))
            exact ⟨_, fun a ha => res1 rfl ha rfl, _, _, _, _, rfl, docr_drop hD hF ilo (by omega) he (by simp), hS28⟩
        · refine WO.lvT rfl rfl (LV.load1 Tryz.underlying41 rfl rfl (Blk.cellN (SH.at hS1 (.head _)) 0 rfl _ (KB.refl No _))) ?_
          refine WSX.of [(.pure, 15), (.forced, 1), (.forced, 8), (.forced, 16), (.pure, 17), (.pure, 18), (.forced, 19)] (by kernel_rfl) rfl ?_
          have hcap9 : rs.length ≤ c_f := (Rd.cap (St.now (SH.rd hS1 (.tail _ (.head _)))))
          refine WS.pure rfl rfl (fun _ => LV.cut Tryz.underlying41 ti64.sz rfl rfl rfl rfl ⟨.inr ⟨.i64, by rw [Int.toNat_of_nonneg (a := i + 1) (by omega)] <;> rfl⟩, .inl ⟨rfl, rfl, rfl⟩, .inl ⟨rfl, rfl⟩⟩ (by omega) (by omega) (by omega)) ?_
          refine WS.xe rfl rfl (XE.buildSlice (E := eSV) [] #[] [] hS1 Tryz.underlying41 ti64 rfl (by decide) (by kernel_rfl) (.inr rfl) rfl rfl (by decide)) ?_
          rintro _ w19 ⟨b3, rfl, hS29, hk18⟩
          refine ⟨fun h_ => trivial, ?_⟩
          refine WS.xe rfl rfl (XE.append hS29 Tryz.underlying41 ti64 rfl (St.now ((SH.rd hS29 (.tail _ (.tail _ (.head _)))).imp fun _ h => Rd.cut h (by omega) (by omega) (by omega) (by omega))) rfl rfl (by first | omega | simp only [List.length_append, List.length_cons, List.length_nil, List.length_take, List.length_reverse, List.length_drop] at *; omega) (by first | omega | simp only [List.length_append, List.length_cons, List.length_nil, List.length_take, List.length_reverse, List.length_drop] at *; omega)) ?_
          rintro _ w20 ⟨A12, c12, rfl, hS30, hk19⟩
          refine ⟨fun h_ => trivial, ?_⟩
          refine WS.xe rfl rfl (XE.append hS30 Tryz.underlying41 ti64 rfl (St.now ((SH.rd hS30 (.tail _ (.tail _ (.head _)))).imp fun _ h => Rd.cut h (by omega) (by omega) (by omega) (by omega))) rfl rfl (by first | omega | simp only [List.length_append, List.length_cons, List.length_nil, List.length_take, List.length_reverse, List.length_drop] at *; omega) (by first | omega | simp only [List.length_append, List.length_cons, List.length_nil, List.length_take, List.length_reverse, List.length_drop] at *; omega)) ?_
          rintro _ w21 ⟨A13, c13, rfl, hS31, hk20⟩
          refine ⟨fun h_ => trivial, ?_⟩
          refine WS.pure rfl rfl (fun _ => LV.nilCheck rfl) ?_
          refine WS.pure rfl rfl (fun _ => LV.fieldA Tryz.underlying43 rfl ti41.sz rfl) ?_
          have hS33 : SH w S w21 [blkE yb 43 #[(.slice A_f rs.length c_f)], rowE eSV 64 (.slice A13 (((([] : List (ByteArray × SV)) ++ ((rs.take ((i).toNat)).drop 0)) ++ ((rs.take rs.length).drop ((i + 1).toNat))).length) c13) ((([] : List (ByteArray × SV)) ++ ((rs.take ((i).toNat)).drop 0)) ++ ((rs.take rs.length).drop ((i + 1).toNat))), rowE eSV 64 (.slice A_f rs.length c_f) rs, insE idS eIt 68 P3] := (SH.front [_] hS31)
          refine WS.xse rfl rfl (XSE.blk #[(.slice A13 (((([] : List (ByteArray × SV)) ++ ((rs.take ((i).toNat)).drop 0)) ++ ((rs.take rs.length).drop ((i + 1).toNat))).length) c13)] hS33 (Nat.le_of_ble_eq_true rfl) ti41.sz rfl rfl rfl rfl) ?_
          rintro w22 ⟨hS32, hk21⟩
          refine ⟨fun h_ => trivial, ?_⟩
          refine WS.nil (thenQ.n ?_)
          refine WC.seq ?_
          refine WC.region ?_
          refine WL.lv rfl (LV.asg rfl) ?_
          refine WL.nil (thenQ.n ?_)
          refine WC.ret (blockQ.r <| thenQ.r <| thenQ.r <| blockQ.r <| thenQ.r <| ?_)
          have hS34 : SH w S w22 [blkE yb 43 #[(.slice A13 (((([] : List (ByteArray × SV)) ++ ((rs.take ((i).toNat)).drop 0)) ++ ((rs.take rs.length).drop ((i + 1).toNat))).length) c13)], rowE eSV 64 (.slice A13 (((([] : List (ByteArray × SV)) ++ ((rs.take ((i).toNat)).drop 0)) ++ ((rs.take rs.length).drop ((i + 1).toNat))).length) c13) ((([] : List (ByteArray × SV)) ++ ((rs.take ((i).toNat)).drop 0)) ++ ((rs.take rs.length).drop ((i + 1).toNat))), insE idS eIt 68 P3] := (SH.take 3 rfl (SH.front [_, _] (SH.front [_, _] (SH.front [_, _, _] hS32))))
          exact ⟨_, fun a ha => res1 rfl ha rfl, _, _, _, _, rfl, docr_drop hD hF ilo (by omega) he (by simp), hS34⟩
      · refine WO.lvT rfl rfl (LV.load1 Tryz.underlying41 rfl rfl (Blk.cellN (SH.at hS1 (.head _)) 0 rfl _ (KB.refl No _))) ?_
        refine WSX.of [(.pure, 15), (.fork, 0), (.fork, 0), (.fork, 0), (.fork, 0), (.fork, 0), (.fork, 0), (.fork, 0), (.fork, 0)] (by kernel_rfl) rfl ?_
        have hcap10 : rs.length ≤ c_f := (Rd.cap (St.now (SH.rd hS1 (.tail _ (.head _)))))
        refine WS.pure rfl rfl (fun _ => LV.cut Tryz.underlying41 ti64.sz rfl rfl rfl rfl ⟨.inr ⟨.i64, by rw [Int.toNat_of_nonneg (a := i + 1) (by omega)] <;> rfl⟩, .inl ⟨rfl, rfl, rfl⟩, .inl ⟨rfl, rfl⟩⟩ (by omega) (by omega) (by omega)) ?_
        refine WS.fork (WSX.two 1 5 (by kernel_rfl) ?_ ?_)
        · refine WO.xe rfl rfl (XE.buildSlice (E := eSV) [] #[] [] hS1 Tryz.underlying41 ti64 rfl (by decide) (by kernel_rfl) (.inr rfl) rfl rfl (by decide)) ?_
          rintro _ w23 ⟨b4, rfl, hS35, hk22⟩
          refine ⟨fun h_ => trivial, ?_⟩
          refine WSX.of [(.forced, 5), (.pure, 7), (.forced, 8), (.forced, 16), (.pure, 17), (.pure, 18), (.forced, 19)] (by kernel_rfl) rfl ?_
          refine WS.lvT rfl rfl (LV.load1 Tryz.underlying41 rfl rfl (Blk.cellN (SH.at hS35 (.tail _ (.head _))) 0 rfl _ (KB.refl No _))) ?_
          have hcap11 : rs.length ≤ c_f := (Rd.cap (St.now (SH.rd hS35 (.tail _ (.tail _ (.head _))))))
          refine WS.pure rfl rfl (fun _ => LV.cut Tryz.underlying41 ti64.sz rfl rfl rfl rfl ⟨.inl ⟨rfl, rfl⟩, .inr ⟨.i64, by rw [Int.toNat_of_nonneg (a := i) (by omega)] <;> rfl⟩, .inl ⟨rfl, rfl⟩⟩ (by omega) (by omega) (by omega)) ?_
          refine WS.xe rfl rfl (XE.append hS35 Tryz.underlying41 ti64 rfl (St.now ((SH.rd hS35 (.tail _ (.tail _ (.head _)))).imp fun _ h => Rd.cut h (by omega) (by omega) (by omega) (by omega))) rfl rfl (by first | omega | simp only [List.length_append, List.length_cons, List.length_nil, List.length_take, List.length_reverse, List.length_drop] at *; omega) (by first | omega | simp only [List.length_append, List.length_cons, List.length_nil, List.length_take, List.length_reverse, List.length_drop] at *; omega)) ?_
          rintro _ w24 ⟨A14, c14, rfl, hS36, hk23⟩
          refine ⟨fun h_ => trivial, ?_⟩
          refine WS.xe rfl rfl (XE.append hS36 Tryz.underlying41 ti64 rfl (St.now ((SH.rd hS36 (.tail _ (.tail _ (.head _)))).imp fun _ h => Rd.cut h (by omega) (by omega) (by omega) (by omega))) rfl rfl (by first | omega | simp only [List.length_append, List.length_cons, List.length_nil, List.length_take, List.length_reverse, List.length_drop] at *; omega) (by first | omega | simp only [List.length_append, List.length_cons, List.length_nil, List.length_take, List.length_reverse, List.length_drop] at *; omega)) ?_
          rintro _ w25 ⟨A15, c15, rfl, hS37, hk24⟩
          refine ⟨fun h_ => trivial, ?_⟩
          refine WS.pure rfl rfl (fun _ => LV.nilCheck rfl) ?_
          refine WS.pure rfl rfl (fun _ => LV.fieldA Tryz.underlying43 rfl ti41.sz rfl) ?_
          have hS39 : SH w S w25 [blkE yb 43 #[(.slice A_f rs.length c_f)], rowE eSV 64 (.slice A15 (((([] : List (ByteArray × SV)) ++ ((rs.take ((i).toNat)).drop 0)) ++ ((rs.take rs.length).drop ((i + 1).toNat))).length) c15) ((([] : List (ByteArray × SV)) ++ ((rs.take ((i).toNat)).drop 0)) ++ ((rs.take rs.length).drop ((i + 1).toNat))), rowE eSV 64 (.slice A_f rs.length c_f) rs, insE idS eIt 68 P3] := (SH.front [_] hS37)
          refine WS.xse rfl rfl (XSE.blk #[(.slice A15 (((([] : List (ByteArray × SV)) ++ ((rs.take ((i).toNat)).drop 0)) ++ ((rs.take rs.length).drop ((i + 1).toNat))).length) c15)] hS39 (Nat.le_of_ble_eq_true rfl) ti41.sz rfl rfl rfl rfl) ?_
          rintro w26 ⟨hS38, hk25⟩
          refine ⟨fun h_ => trivial, ?_⟩
          refine WS.nil (thenQ.n ?_)
          refine WC.seq ?_
          refine WC.region ?_
          refine WL.lv rfl (LV.asg rfl) ?_
          refine WL.nil (thenQ.n ?_)
          refine WC.ret (blockQ.r <| thenQ.r <| thenQ.r <| blockQ.r <| thenQ.r <| ?_)
          have hS40 : SH w S w26 [blkE yb 43 #[(.slice A15 (((([] : List (ByteArray × SV)) ++ ((rs.take ((i).toNat)).drop 0)) ++ ((rs.take rs.length).drop ((i + 1).toNat))).length) c15)], rowE eSV 64 (.slice A15 (((([] : List (ByteArray × SV)) ++ ((rs.take ((i).toNat)).drop 0)) ++ ((rs.take rs.length).drop ((i + 1).toNat))).length) c15) ((([] : List (ByteArray × SV)) ++ ((rs.take ((i).toNat)).drop 0)) ++ ((rs.take rs.length).drop ((i + 1).toNat))), insE idS eIt 68 P3] := (SH.take 3 rfl (SH.front [_, _] (SH.front [_, _] (SH.front [_, _, _] hS38))))
          exact ⟨_, fun a ha => res1 rfl ha rfl, _, _, _, _, rfl, docr_drop hD hF ilo (by omega) he (by simp), hS40⟩
        · refine WO.lvT rfl rfl (LV.load1 Tryz.underlying41 rfl rfl (Blk.cellN (SH.at hS1 (.head _)) 0 rfl _ (KB.refl No _))) ?_
          refine WSX.of [(.pure, 7), (.forced, 1), (.forced, 8), (.forced, 16), (.pure, 17), (.pure, 18), (.forced, 19)] (by kernel_rfl) rfl ?_
          have hcap12 : rs.length ≤ c_f := (Rd.cap (St.now (SH.rd hS1 (.tail _ (.head _)))))
          refine WS.pure rfl rfl (fun _ => LV.cut Tryz.underlying41 ti64.sz rfl rfl rfl rfl ⟨.inl ⟨rfl, rfl⟩, .inr ⟨.i64, by rw [Int.toNat_of_nonneg (a := i) (by omega)] <;> rfl⟩, .inl ⟨rfl, rfl⟩⟩ (by omega) (by omega) (by omega)) ?_
          refine WS.xe rfl rfl (XE.buildSlice (E := eSV) [] #[] [] hS1 Tryz.underlying41 ti64 rfl (by decide) (by kernel_rfl) (.inr rfl) rfl rfl (by decide)) ?_
          rintro _ w27 ⟨b5, rfl, hS41, hk26⟩
          refine ⟨fun h_ => trivial, ?_⟩
          refine WS.xe rfl rfl (XE.append hS41 Tryz.underlying41 ti64 rfl (St.now ((SH.rd hS41 (.tail _ (.tail _ (.head _)))).imp fun _ h => Rd.cut h (by omega) (by omega) (by omega) (by omega))) rfl rfl (by first | omega | simp only [List.length_append, List.length_cons, List.length_nil, List.length_take, List.length_reverse, List.length_drop] at *; omega) (by first | omega | simp only [List.length_append, List.length_cons, List.length_nil, List.length_take, List.length_reverse, List.length_drop] at *; omega)) ?_
          rintro _ w28 ⟨A16, c16, rfl, hS42, hk27⟩
          refine ⟨fun h_ => trivial, ?_⟩
          refine WS.xe rfl rfl (XE.append hS42 Tryz.underlying41 ti64 rfl (St.now ((SH.rd hS42 (.tail _ (.tail _ (.head _)))).imp fun _ h => Rd.cut h (by omega) (by omega) (by omega) (by omega))) rfl rfl (by first | omega | simp only [List.length_append, List.length_cons, List.length_nil, List.length_take, List.length_reverse, List.length_drop] at *; omega) (by first | omega | simp only [List.length_append, List.length_cons, List.length_nil, List.length_take, List.length_reverse, List.length_drop] at *; omega)) ?_
          rintro _ w29 ⟨A17, c17, rfl, hS43, hk28⟩
          refine ⟨fun h_ => trivial, ?_⟩
          refine WS.pure rfl rfl (fun _ => LV.nilCheck rfl) ?_
          refine WS.pure rfl rfl (fun _ => LV.fieldA Tryz.underlying43 rfl ti41.sz rfl) ?_
          have hS45 : SH w S w29 [blkE yb 43 #[(.slice A_f rs.length c_f)], rowE eSV 64 (.slice A17 (((([] : List (ByteArray × SV)) ++ ((rs.take ((i).toNat)).drop 0)) ++ ((rs.take rs.length).drop ((i + 1).toNat))).length) c17) ((([] : List (ByteArray × SV)) ++ ((rs.take ((i).toNat)).drop 0)) ++ ((rs.take rs.length).drop ((i + 1).toNat))), rowE eSV 64 (.slice A_f rs.length c_f) rs, insE idS eIt 68 P3] := (SH.front [_] hS43)
          refine WS.xse rfl rfl (XSE.blk #[(.slice A17 (((([] : List (ByteArray × SV)) ++ ((rs.take ((i).toNat)).drop 0)) ++ ((rs.take rs.length).drop ((i + 1).toNat))).length) c17)] hS45 (Nat.le_of_ble_eq_true rfl) ti41.sz rfl rfl rfl rfl) ?_
          rintro w30 ⟨hS44, hk29⟩
          refine ⟨fun h_ => trivial, ?_⟩
          refine WS.nil (thenQ.n ?_)
          refine WC.seq ?_
          refine WC.region ?_
          refine WL.lv rfl (LV.asg rfl) ?_
          refine WL.nil (thenQ.n ?_)
          refine WC.ret (blockQ.r <| thenQ.r <| thenQ.r <| blockQ.r <| thenQ.r <| ?_)
          have hS46 : SH w S w30 [blkE yb 43 #[(.slice A17 (((([] : List (ByteArray × SV)) ++ ((rs.take ((i).toNat)).drop 0)) ++ ((rs.take rs.length).drop ((i + 1).toNat))).length) c17)], rowE eSV 64 (.slice A17 (((([] : List (ByteArray × SV)) ++ ((rs.take ((i).toNat)).drop 0)) ++ ((rs.take rs.length).drop ((i + 1).toNat))).length) c17) ((([] : List (ByteArray × SV)) ++ ((rs.take ((i).toNat)).drop 0)) ++ ((rs.take rs.length).drop ((i + 1).toNat))), insE idS eIt 68 P3] := (SH.take 3 rfl (SH.front [_, _] (SH.front [_, _] (SH.front [_, _, _] hS44))))
          exact ⟨_, fun a ha => res1 rfl ha rfl, _, _, _, _, rfl, docr_drop hD hF ilo (by omega) he (by simp), hS46⟩
    · skip
      refine WC.skip (blockQ.n <| thenQ.n ?_)
      refine WC.region ?_
      refine WL.lv rfl (LV.mv rfl) ?_
      refine WL.lv rfl (LV.add rfl rfl (wr64 (by omega) (by omega))) ?_
      refine WL.lv rfl (LV.asg rfl) ?_
      refine WL.nil (thenQ.n ?_)
      exact ⟨_, by omega, i + 1, by omega, by omega, (all_step (p := fun t => ¬ (rs.getD t.toNat dSV).1 = fl) q1 he), hL1, rfl, Weak.cons rfl <| Weak.cons rfl <| Weak.cons rfl <| Weak.nil _⟩
  · skip
    refine WC.exit (thenQ.x <| thenQ.x <| blockQ.hit <| thenQ.n ?_)
    refine WC.seq ?_
    refine WC.region ?_
    refine WL.lv rfl (LV.asg rfl) ?_
    refine WL.nil (thenQ.n ?_)
    refine WC.ret (?_)
    exact ⟨_, fun a ha => res1 rfl ha rfl, absurd (docr_none hD (fun t h0_ h1_ => q1 t h0_ (by omega))) (by rw [hK]; simp)⟩

theorem rdropn_calls {w : World} {S : Nat → Prop} {yb : Nat} {A_f : Option Addr} {c_f : Nat} {rs : RWS} {P3 : PLI} {F : List Fl} {fl : ByteArray} (hS0 : SH w S w [blkE yb 43 #[(.slice A_f rs.length c_f)], rowE eSV 64 (.slice A_f rs.length c_f) rs, insE idS eIt 68 P3]) (hD : DOCR rs P3 F) (hF : NS F) (hn : F.length ≤ 30) (hK : (lookL F fl).isSome = false) :
    Calls Tryz.prog 47 #[(.pointer (some ⟨yb, 0, none⟩)), (.string fl)] w fun e w' => ∃ v, e = .returned v ∧ (fun v w' => v = .int .i64 6 ∧ SH w S w' [blkE yb 43 #[(.slice A_f rs.length c_f)], rowE eSV 64 (.slice A_f rs.length c_f) rs, insE idS eIt 68 P3]) v w' := by
  have hdl_ := hD.len
  have hS : SH w S w [blkE yb 43 #[(.slice A_f rs.length c_f)], rowE eSV 64 (.slice A_f rs.length c_f) rs, insE idS eIt 68 P3] := hS0
  refine calls (l := litOf [(.pointer (some ⟨yb, 0, none⟩)), (.string fl)] 0) Tryz.func47 rfl (n := 44) rfl (Nat.le_of_ble_eq_true rfl) (lit_args _) ?_
  refine WC.seq ?_
  refine WC.region ?_
  refine WL.lv rfl (LV.asg rfl) ?_
  refine WL.nil (thenQ.n ?_)
  iterate 2 refine WC.seq ?_
  refine WC.region ?_
  refine WL.lv rfl (LV.asg rfl) ?_
  refine WL.nil (thenQ.n ?_)
  refine WC.block ?_
  refine WC.loop (fun m_ f_ w_ => ∃ (i : Int), (0 ≤ i) ∧ (i ≤ rs.length) ∧ (∀ t : Int, 0 ≤ t → t < i → ¬ (rs.getD t.toNat dSV).1 = fl) ∧ SH w S w_ [blkE yb 43 #[(.slice A_f rs.length c_f)], rowE eSV 64 (.slice A_f rs.length c_f) rs, insE idS eIt 68 P3] ∧ m_ = (((rs.length : Int) - i).toNat) ∧ Weak (lit [(0, (.pointer (some ⟨yb, 0, none⟩))), (1, (.string fl)), (5, (.int .i64 i))]) f_) _ ⟨0, by omega, by omega, (fun t h1 h2 => by omega), hS, rfl, Weak.cons rfl <| Weak.cons rfl <| Weak.cons rfl <| Weak.nil _⟩ ?_
  rintro m1 f1 w1 ⟨i, ilo, ihi, q1, hL1, rfl, hw1⟩
  refine WC.weak hw1 ?_
  clear hw1
  iterate 2 refine WC.seq ?_
  refine WC.region ?_
  iterate 2 refine WL.lv rfl (LV.mv rfl) ?_
  refine WL.lv rfl (LV.nilCheck rfl) ?_
  refine WL.lv rfl (LV.fieldA Tryz.underlying43 rfl ti41.sz rfl) ?_
  refine WL.lv rfl (LV.load1 Tryz.underlying41 rfl rfl (Blk.cellN (SH.at hL1 (.head _)) 0 rfl _ (KB.refl No _))) ?_
  refine WL.lv rfl (LV.lenL Tryz.underlying41 rfl) ?_
  refine WL.lv rfl (LV.ltI rfl rfl) ?_
  refine WL.nil (thenQ.n ?_)
  refine WC.condP (p := i < (rs.length : Int)) rfl (fun hc1 => ?_) (fun hc1 => ?_)
  · skip
    refine WC.skip (thenQ.n ?_)
    refine WC.seq ?_
    refine WC.block ?_
    refine WC.seq ?_
    refine WC.region ?_
    refine WL.lv rfl (LV.mv rfl) ?_
    refine WL.lv rfl (LV.nilCheck rfl) ?_
    refine WL.lv rfl (LV.fieldA Tryz.underlying43 rfl ti41.sz rfl) ?_
    refine WL.lv rfl (LV.load1 Tryz.underlying41 rfl rfl (Blk.cellN (SH.at hL1 (.head _)) 0 rfl _ (KB.refl No _))) ?_
    refine WL.lv rfl (LV.mv rfl) ?_
    obtain ⟨A1, c1, e1, g1⟩ := St.elt (SH.rd hL1 (.tail _ (.head _))) dSV i (by omega) (by omega)
    refine WL.lv rfl (LV.idxA Tryz.underlying41 ti64.sz rfl e1 rfl (by omega) (by omega)) ?_
    refine WL.lv rfl (LV.fieldA Tryz.underlying64 rfl ti9.sz rfl) ?_
    refine WL.lv rfl (LV.load1 (v := (.string ((rs.getD (i).toNat dSV).1))) Tryz.underlying9 rfl rfl (g1 _ (KB.refl No _) 0 _ rfl)) ?_
    refine WL.lv rfl (LV.mv rfl) ?_
    refine WL.lv rfl (LV.eqSP (a := ((rs.getD (i).toNat dSV).1)) (b := fl) rfl rfl) ?_
    refine WL.nil (thenQ.n ?_)
    refine WC.condP (p := ((rs.getD (i).toNat dSV).1) = fl) rfl (fun he => ?_) (fun he => ?_)
    · exact absurd (docr_some hD ilo (by omega) he) (by rw [hK]; simp)
    · skip
      refine WC.skip (blockQ.n <| thenQ.n ?_)
      refine WC.region ?_
      refine WL.lv rfl (LV.mv rfl) ?_
      refine WL.lv rfl (LV.add rfl rfl (wr64 (by omega) (by omega))) ?_
      refine WL.lv rfl (LV.asg rfl) ?_
      refine WL.nil (thenQ.n ?_)
      exact ⟨_, by omega, i + 1, by omega, by omega, (all_step (p := fun t => ¬ (rs.getD t.toNat dSV).1 = fl) q1 he), hL1, rfl, Weak.cons rfl <| Weak.cons rfl <| Weak.cons rfl <| Weak.nil _⟩
  · skip
    refine WC.exit (thenQ.x <| thenQ.x <| blockQ.hit <| thenQ.n ?_)
    refine WC.seq ?_
    refine WC.region ?_
    refine WL.lv rfl (LV.asg rfl) ?_
    refine WL.nil (thenQ.n ?_)
    refine WC.ret (?_)
    exact ⟨_, fun a ha => res1 rfl ha rfl, rfl, hL1⟩

end Go.Proofs.YtigbphaimbhgjaaGreat

