/- A deed. -/
import Derived.Test.YtigbphaimbhgjaaGreatMg27
namespace Go.Proofs.YtigbphaimbhgjaaGreat
open Go Go.Gv Go.RowKit Go.Tly Go.Wds Go.Idx
set_option linter.unusedVariables false
set_option linter.unusedSimpArgs false

theorem do_calls {w : World} {S : Nat → Prop} {X : IXS} {n_X : Nat} {yb : Nat} {A_f : Option Addr} {c_f : Nat} {rs : RWS} {P3 : PLI} {dr : Bool} {fl : ByteArray} {A_it : Option Addr} {c_it : Nat} {it : List Itm} (hS0 : SH w S w [blkE X.b 62 #[(.map (some X.m1)), (.map (some X.m2))], mapG kS kV X.m1 X.kv1, mapG kS kV X.m2 X.kv2, insE idS eIt 68 X.P1, insE idS eSI 76 X.P2, blkE yb 43 #[(.slice A_f rs.length c_f)], rowE eSV 64 (.slice A_f rs.length c_f) rs, insE idS eIt 68 P3]) (h_it : St S w (Rd eIt (.slice A_it it.length c_it) it)) (hv : IXW n_X X) (hm : n_X ≤ 29) (hD : DOCR rs P3 X.F) (hz : fl.size ≤ 140737488355328) (hyi : ∀ y ∈ it, 0 ≤ y.2.1.2 ∧ y.2.1.2 < 18446744073709551616) :
    Calls Tryz.prog 19 #[(.pointer (some ⟨X.b, 0, none⟩)), (.pointer (some ⟨yb, 0, none⟩)), (.agg #[(.bool dr), (.string fl), (.slice A_it it.length c_it)])] w fun e w' => ∃ v, e = .returned v ∧ (fun v w' => ∃ (kv1' kv2' : KVS) (P1' : PLI) (P2' : PLE) (A' : Option Addr) (c' : Nat) (rs' : RWS) (P3' : PLI), v = .bool true ∧ IXW (n_X + 1) (⟨X.b, X.m1, X.m2, kv1', kv2', P1', P2', (DO X.F dr fl it)⟩ : IXS) ∧ DOCR rs' P3' (DO X.F dr fl it) ∧ SH w S w' [blkE X.b 62 #[(.map (some X.m1)), (.map (some X.m2))], mapG kS kV X.m1 kv1', mapG kS kV X.m2 kv2', insE idS eIt 68 P1', insE idS eSI 76 P2', blkE yb 43 #[(.slice A' rs'.length c')], rowE eSV 64 (.slice A' rs'.length c') rs', insE idS eIt 68 P3']) v w' := by
  have hl20_ := List.length_take_le 20 it
  have hS : SH w S w [blkE X.b 62 #[(.map (some X.m1)), (.map (some X.m2))], mapG kS kV X.m1 X.kv1, mapG kS kV X.m2 X.kv2, insE idS eIt 68 X.P1, insE idS eSI 76 X.P2, blkE yb 43 #[(.slice A_f rs.length c_f)], rowE eSV 64 (.slice A_f rs.length c_f) rs, insE idS eIt 68 P3] := hS0
  refine calls (l := litOf [(.pointer (some ⟨X.b, 0, none⟩)), (.pointer (some ⟨yb, 0, none⟩)), (.agg #[(.bool dr), (.string fl), (.slice A_it it.length c_it)])] 0) Tryz.func19 rfl (n := 57) rfl (Nat.le_of_ble_eq_true rfl) (lit_args _) ?_
  refine WC.seq ?_
  refine WC.region ?_
  refine WL.xe rfl (XE.box #[(.bool dr), (.string fl), (.slice A_it it.length c_it)] hS rfl rfl) ?_
  rintro _ w1 ⟨b1, rfl, hS1, hk1⟩
  refine WL.lv rfl (LV.asg rfl) ?_
  refine WL.nil (thenQ.n ?_)
  refine WC.seq ?_
  refine WC.region ?_
  refine WL.lv rfl (LV.fieldA Tryz.underlying47 rfl ti45.sz rfl) ?_
  refine WL.lv rfl (LV.load1 Tryz.underlying45 rfl rfl (Blk.cellN (SH.at hS1 (.head _)) 2 rfl _ (KB.refl No _))) ?_
  rcases Decidable.em (FINE it) with hfine1 | hfine1
  · refine WL.call rfl (XC.fn Tryz.func45 (by kernel_rfl) rfl rfl rfl) (fewy_calls (SH.stN hS1 h_it) hfine1) ?_
    rintro v_ w2 ⟨rfl, hk2⟩
    have hS2 := SH.same hS1 hk2
    refine WL.lv rfl (LV.mv rfl) ?_
    iterate 2 refine WL.lv rfl (LV.extract rfl rfl) ?_
    iterate 2 refine WL.lv rfl (LV.asg rfl) ?_
    refine WL.nil (thenQ.n ?_)
    iterate 2 refine WC.seq ?_
    refine WC.region ?_
    refine WL.lv rfl (LV.mv rfl) ?_
    refine WL.lv rfl (LV.notB rfl) ?_
    refine WL.nil (thenQ.n ?_)
    refine WC.condF rfl ?_
    refine WC.skip (thenQ.n ?_)
    iterate 2 refine WC.seq ?_
    refine WC.region ?_
    refine WL.lv rfl (LV.fieldA Tryz.underlying47 rfl ti4.sz rfl) ?_
    refine WL.lv rfl (LV.load1 Tryz.underlying4 rfl rfl (Blk.cellN (SH.at hS2 (.head _)) 0 rfl _ (KB.refl No _))) ?_
    refine WL.nil (thenQ.n ?_)
    refine WC.cond (b := dr) rfl (fun hd => ?_) (fun hd => ?_)
    · skip
      refine WC.seq ?_
      have hS3 := SH.drew hS2
      refine WC.regionD [] (fun _ => True) [(.pure, 0), (.pure, 1), (.pure, 4), (.pure, 5), (.fork, 0), (.fork, 0), (.fork, 0), (.fork, 0), (.fork, 0), (.fork, 0)] (by kernel_rfl) (by kernel_rfl) trivial ?_
      refine WS.pure rfl rfl (fun _ => LV.mv rfl) ?_
      refine WS.pure rfl rfl (fun _ => LV.fieldA Tryz.underlying47 rfl ti9.sz rfl) ?_
      refine WS.pure rfl rfl (fun _ => LV.mv rfl) ?_
      refine WS.pure rfl rfl (fun _ => LV.fieldA Tryz.underlying47 rfl ti9.sz rfl) ?_
      refine WS.fork (WSX.two 2 6 (by kernel_rfl) ?_ ?_)
      · refine WO.lvT rfl rfl (LV.load1 Tryz.underlying9 rfl rfl (Blk.cellN (SH.at hS3 (.head _)) 1 rfl _ (KB.refl No _))) ?_
        refine WSX.of [(.fork, 0), (.fork, 0), (.fork, 0), (.fork, 0), (.fork, 0)] (by kernel_rfl) rfl ?_
        refine WS.fork (WSX.two 3 6 (by kernel_rfl) ?_ ?_)
        · rcases Decidable.em ((lookL X.F fl).isSome = true) with hkn1 | hkn1
          · have hS4 : SH w S w2.drew [insE idS eSI 76 X.P2, blkE b1 47 #[(.bool dr), (.string fl), (.slice A_it it.length c_it)], blkE X.b 62 #[(.map (some X.m1)), (.map (some X.m2))], mapG kS kV X.m1 X.kv1, mapG kS kV X.m2 X.kv2, insE idS eIt 68 X.P1, blkE yb 43 #[(.slice A_f rs.length c_f)], rowE eSV 64 (.slice A_f rs.length c_f) rs, insE idS eIt 68 P3] := (SH.front [_, _, _, _, _] hS3)
            have hS5 : SH w S w2.drew [insE idS eIt 68 X.P1, insE idS eSI 76 X.P2, blkE b1 47 #[(.bool dr), (.string fl), (.slice A_it it.length c_it)], blkE X.b 62 #[(.map (some X.m1)), (.map (some X.m2))], mapG kS kV X.m1 X.kv1, mapG kS kV X.m2 X.kv2, blkE yb 43 #[(.slice A_f rs.length c_f)], rowE eSV 64 (.slice A_f rs.length c_f) rs, insE idS eIt 68 P3] := (SH.front [_, _, _, _, _] hS4)
            have hS6 : SH w S w2.drew [mapG kS kV X.m2 X.kv2, insE idS eIt 68 X.P1, insE idS eSI 76 X.P2, blkE b1 47 #[(.bool dr), (.string fl), (.slice A_it it.length c_it)], blkE X.b 62 #[(.map (some X.m1)), (.map (some X.m2))], mapG kS kV X.m1 X.kv1, blkE yb 43 #[(.slice A_f rs.length c_f)], rowE eSV 64 (.slice A_f rs.length c_f) rs, insE idS eIt 68 P3] := (SH.front [_, _, _, _, _] hS5)
            have hS7 : SH w S w2.drew [mapG kS kV X.m1 X.kv1, mapG kS kV X.m2 X.kv2, insE idS eIt 68 X.P1, insE idS eSI 76 X.P2, blkE b1 47 #[(.bool dr), (.string fl), (.slice A_it it.length c_it)], blkE X.b 62 #[(.map (some X.m1)), (.map (some X.m2))], blkE yb 43 #[(.slice A_f rs.length c_f)], rowE eSV 64 (.slice A_f rs.length c_f) rs, insE idS eIt 68 P3] := (SH.front [_, _, _, _, _] hS6)
            have hS8 : SH w S w2.drew [blkE X.b 62 #[(.map (some X.m1)), (.map (some X.m2))], mapG kS kV X.m1 X.kv1, mapG kS kV X.m2 X.kv2, insE idS eIt 68 X.P1, insE idS eSI 76 X.P2, blkE b1 47 #[(.bool dr), (.string fl), (.slice A_it it.length c_it)], blkE yb 43 #[(.slice A_f rs.length c_f)], rowE eSV 64 (.slice A_f rs.length c_f) rs, insE idS eIt 68 P3] := (SH.front [_, _, _, _, _] hS7)
            have hT1 := SH.sub (Es := [_, _, _, _, _]) hS8
            refine WO.call rfl rfl (XC.fn Tryz.func46 (by kernel_rfl) rfl rfl rfl) (dropy_calls (X := X) hT1 hv (by omega) hkn1) ?_
            rintro v_ w3 ⟨kv3, kw1, Pb1, rfl, hsub1, hv1, hU1⟩
            have hS9 := SH.back (Es := [_, _, _, _, _]) hS8 hU1
            refine ⟨fun h_ => trivial, ?_⟩
            refine WSX.of [(.forced, 6), (.forced, 7), (.pure, 8), (.pure, 9)] (by kernel_rfl) rfl ?_
            refine WS.lvT rfl rfl (LV.load1 Tryz.underlying9 rfl rfl (Blk.cellN (SH.at hS9 (.tail _ (.tail _ (.tail _ (.tail _ (.tail _ (.head _))))))) 1 rfl _ (KB.refl No _))) ?_
            have hS10 : SH w S w3 [insE idS eIt 68 P3, blkE X.b 62 #[(.map (some X.m1)), (.map (some X.m2))], mapG kS kV X.m1 kv3, mapG kS kV X.m2 kw1, insE idS eIt 68 X.P1, insE idS eSI 76 Pb1, blkE b1 47 #[(.bool dr), (.string fl), (.slice A_it it.length c_it)], blkE yb 43 #[(.slice A_f rs.length c_f)], rowE eSV 64 (.slice A_f rs.length c_f) rs] := (SH.front [_, _, _, _, _, _, _, _] hS9)
            have hS11 : SH w S w3 [rowE eSV 64 (.slice A_f rs.length c_f) rs, insE idS eIt 68 P3, blkE X.b 62 #[(.map (some X.m1)), (.map (some X.m2))], mapG kS kV X.m1 kv3, mapG kS kV X.m2 kw1, insE idS eIt 68 X.P1, insE idS eSI 76 Pb1, blkE b1 47 #[(.bool dr), (.string fl), (.slice A_it it.length c_it)], blkE yb 43 #[(.slice A_f rs.length c_f)]] := (SH.front [_, _, _, _, _, _, _, _] hS10)
            have hS12 : SH w S w3 [blkE yb 43 #[(.slice A_f rs.length c_f)], rowE eSV 64 (.slice A_f rs.length c_f) rs, insE idS eIt 68 P3, blkE X.b 62 #[(.map (some X.m1)), (.map (some X.m2))], mapG kS kV X.m1 kv3, mapG kS kV X.m2 kw1, insE idS eIt 68 X.P1, insE idS eSI 76 Pb1, blkE b1 47 #[(.bool dr), (.string fl), (.slice A_it it.length c_it)]] := (SH.front [_, _, _, _, _, _, _, _] hS11)
            have hT2 := SH.sub (Es := [_, _, _]) hS12
            refine WS.call rfl rfl (XC.fn Tryz.func47 (by kernel_rfl) rfl rfl rfl) (rdropy_calls hT2 hD hv.ns (Nat.le_trans hv.ln (by omega)) hkn1) ?_
            rintro v_ w4 ⟨A1, c1, rs1, Pc1, rfl, hD1, hU2⟩
            have hS13 := SH.back (Es := [_, _, _]) hS12 hU2
            refine ⟨fun h_ => trivial, ?_⟩
            refine WS.pure rfl rfl (fun _ => LV.as (c := true) (LV.eqI rfl rfl) (by decide)) ?_
            refine WS.pure rfl rfl (fun _ => LV.asg rfl) ?_
            refine WS.nil (thenQ.n ?_)
            refine WC.ret (thenQ.r <| ?_)
            have hdo1 : DO X.F dr fl it = (WOF X.F fl) := do_drop hfine1 hd
            have hS14 : SH w S w4 [blkE X.b 62 #[(.map (some X.m1)), (.map (some X.m2))], mapG kS kV X.m1 kv3, mapG kS kV X.m2 kw1, insE idS eIt 68 X.P1, insE idS eSI 76 Pb1, blkE yb 43 #[(.slice A1 rs1.length c1)], rowE eSV 64 (.slice A1 rs1.length c1) rs1, insE idS eIt 68 Pc1] := (SH.take 8 rfl (SH.front [_, _, _, _, _, _, _] (SH.front [_, _, _, _, _, _, _] (SH.front [_, _, _, _, _, _, _] (SH.front [_, _, _, _, _, _, _] (SH.front [_, _, _, _, _, _, _] (SH.front [_, _] (SH.front [_, _] (SH.front [_, _] hS13)))))))))
            exact ⟨_, fun a ha => res1 rfl ha rfl, _, _, _, _, _, _, _, _, rfl, (by rw [hdo1]; exact IXW.mono hv1 (by omega)), (by rw [hdo1]; exact hD1), hS14⟩
          · have hS15 : SH w S w2.drew [insE idS eSI 76 X.P2, blkE b1 47 #[(.bool dr), (.string fl), (.slice A_it it.length c_it)], blkE X.b 62 #[(.map (some X.m1)), (.map (some X.m2))], mapG kS kV X.m1 X.kv1, mapG kS kV X.m2 X.kv2, insE idS eIt 68 X.P1, blkE yb 43 #[(.slice A_f rs.length c_f)], rowE eSV 64 (.slice A_f rs.length c_f) rs, insE idS eIt 68 P3] := (SH.front [_, _, _, _, _] hS3)
            have hS16 : SH w S w2.drew [insE idS eIt 68 X.P1, insE idS eSI 76 X.P2, blkE b1 47 #[(.bool dr), (.string fl), (.slice A_it it.length c_it)], blkE X.b 62 #[(.map (some X.m1)), (.map (some X.m2))], mapG kS kV X.m1 X.kv1, mapG kS kV X.m2 X.kv2, blkE yb 43 #[(.slice A_f rs.length c_f)], rowE eSV 64 (.slice A_f rs.length c_f) rs, insE idS eIt 68 P3] := (SH.front [_, _, _, _, _] hS15)
            have hS17 : SH w S w2.drew [mapG kS kV X.m2 X.kv2, insE idS eIt 68 X.P1, insE idS eSI 76 X.P2, blkE b1 47 #[(.bool dr), (.string fl), (.slice A_it it.length c_it)], blkE X.b 62 #[(.map (some X.m1)), (.map (some X.m2))], mapG kS kV X.m1 X.kv1, blkE yb 43 #[(.slice A_f rs.length c_f)], rowE eSV 64 (.slice A_f rs.length c_f) rs, insE idS eIt 68 P3] := (SH.front [_, _, _, _, _] hS16)
            have hS18 : SH w S w2.drew [mapG kS kV X.m1 X.kv1, mapG kS kV X.m2 X.kv2, insE idS eIt 68 X.P1, insE idS eSI 76 X.P2, blkE b1 47 #[(.bool dr), (.string fl), (.slice A_it it.length c_it)], blkE X.b 62 #[(.map (some X.m1)), (.map (some X.m2))], blkE yb 43 #[(.slice A_f rs.length c_f)], rowE eSV 64 (.slice A_f rs.length c_f) rs, insE idS eIt 68 P3] := (SH.front [_, _, _, _, _] hS17)
            have hS19 : SH w S w2.drew [blkE X.b 62 #[(.map (some X.m1)), (.map (some X.m2))], mapG kS kV X.m1 X.kv1, mapG kS kV X.m2 X.kv2, insE idS eIt 68 X.P1, insE idS eSI 76 X.P2, blkE b1 47 #[(.bool dr), (.string fl), (.slice A_it it.length c_it)], blkE yb 43 #[(.slice A_f rs.length c_f)], rowE eSV 64 (.slice A_f rs.length c_f) rs, insE idS eIt 68 P3] := (SH.front [_, _, _, _, _] hS18)
            have hT3 := SH.sub (Es := [_, _, _, _, _]) hS19
            refine WO.call rfl rfl (XC.fn Tryz.func46 (by kernel_rfl) rfl rfl rfl) (dropn_calls (X := X) hT3 hv (by omega) (by simpa using hkn1)) ?_
            rintro v_ w5 ⟨rfl, hU3⟩
            have hS20 := SH.back (Es := [_, _, _, _, _]) hS19 hU3
            refine ⟨fun h_ => trivial, ?_⟩
            refine WSX.of [(.forced, 6), (.forced, 7), (.pure, 8), (.pure, 9)] (by kernel_rfl) rfl ?_
            refine WS.lvT rfl rfl (LV.load1 Tryz.underlying9 rfl rfl (Blk.cellN (SH.at hS20 (.tail _ (.tail _ (.tail _ (.tail _ (.tail _ (.head _))))))) 1 rfl _ (KB.refl No _))) ?_
            have hS21 : SH w S w5 [insE idS eIt 68 P3, blkE X.b 62 #[(.map (some X.m1)), (.map (some X.m2))], mapG kS kV X.m1 X.kv1, mapG kS kV X.m2 X.kv2, insE idS eIt 68 X.P1, insE idS eSI 76 X.P2, blkE b1 47 #[(.bool dr), (.string fl), (.slice A_it it.length c_it)], blkE yb 43 #[(.slice A_f rs.length c_f)], rowE eSV 64 (.slice A_f rs.length c_f) rs] := (SH.front [_, _, _, _, _, _, _, _] hS20)
            have hS22 : SH w S w5 [rowE eSV 64 (.slice A_f rs.length c_f) rs, insE idS eIt 68 P3, blkE X.b 62 #[(.map (some X.m1)), (.map (some X.m2))], mapG kS kV X.m1 X.kv1, mapG kS kV X.m2 X.kv2, insE idS eIt 68 X.P1, insE idS eSI 76 X.P2, blkE b1 47 #[(.bool dr), (.string fl), (.slice A_it it.length c_it)], blkE yb 43 #[(.slice A_f rs.length c_f)]] := (SH.front [_, _, _, _, _, _, _, _] hS21)
            have hS23 : SH w S w5 [blkE yb 43 #[(.slice A_f rs.length c_f)], rowE eSV 64 (.slice A_f rs.length c_f) rs, insE idS eIt 68 P3, blkE X.b 62 #[(.map (some X.m1)), (.map (some X.m2))], mapG kS kV X.m1 X.kv1, mapG kS kV X.m2 X.kv2, insE idS eIt 68 X.P1, insE idS eSI 76 X.P2, blkE b1 47 #[(.bool dr), (.string fl), (.slice A_it it.length c_it)]] := (SH.front [_, _, _, _, _, _, _, _] hS22)
            have hT4 := SH.sub (Es := [_, _, _]) hS23
            refine WS.call rfl rfl (XC.fn Tryz.func47 (by kernel_rfl) rfl rfl rfl) (rdropn_calls hT4 hD hv.ns (Nat.le_trans hv.ln (by omega)) (by simpa using hkn1)) ?_
            rintro v_ w6 ⟨rfl, hU4⟩
            have hS24 := SH.back (Es := [_, _, _]) hS23 hU4
            refine ⟨fun h_ => trivial, ?_⟩
            refine WS.pure rfl rfl (fun _ => LV.as (c := true) (LV.eqI rfl rfl) (by decide)) ?_
            refine WS.pure rfl rfl (fun _ => LV.asg rfl) ?_
            refine WS.nil (thenQ.n ?_)
            refine WC.ret (thenQ.r <| ?_)
            have hdo2 : DO X.F dr fl it = X.F := (do_drop hfine1 hd).trans (wof_gone (by simpa using hkn1))
            have hS25 : SH w S w6 [blkE X.b 62 #[(.map (some X.m1)), (.map (some X.m2))], mapG kS kV X.m1 X.kv1, mapG kS kV X.m2 X.kv2, insE idS eIt 68 X.P1, insE idS eSI 76 X.P2, blkE yb 43 #[(.slice A_f rs.length c_f)], rowE eSV 64 (.slice A_f rs.length c_f) rs, insE idS eIt 68 P3] := (SH.take 8 rfl (SH.front [_, _, _, _, _, _, _] (SH.front [_, _, _, _, _, _, _] (SH.front [_, _, _, _, _, _, _] (SH.front [_, _, _, _, _, _, _] (SH.front [_, _, _, _, _, _, _] (SH.front [_, _] (SH.front [_, _] (SH.front [_, _] hS24)))))))))
            exact ⟨_, fun a ha => res1 rfl ha rfl, _, _, _, _, _, _, _, _, rfl, (by rw [hdo2]; exact IXW.mono hv (by omega)), (by rw [hdo2]; exact hD), hS25⟩
        · refine WO.lvT rfl rfl (LV.load1 Tryz.underlying9 rfl rfl (Blk.cellN (SH.at hS3 (.head _)) 1 rfl _ (KB.refl No _))) ?_
          refine WSX.of [(.forced, 3), (.forced, 7), (.pure, 8), (.pure, 9)] (by kernel_rfl) rfl ?_
          rcases Decidable.em ((lookL X.F fl).isSome = true) with hkn2 | hkn2
          · have hS26 : SH w S w2.drew [insE idS eSI 76 X.P2, blkE b1 47 #[(.bool dr), (.string fl), (.slice A_it it.length c_it)], blkE X.b 62 #[(.map (some X.m1)), (.map (some X.m2))], mapG kS kV X.m1 X.kv1, mapG kS kV X.m2 X.kv2, insE idS eIt 68 X.P1, blkE yb 43 #[(.slice A_f rs.length c_f)], rowE eSV 64 (.slice A_f rs.length c_f) rs, insE idS eIt 68 P3] := (SH.front [_, _, _, _, _] hS3)
            have hS27 : SH w S w2.drew [insE idS eIt 68 X.P1, insE idS eSI 76 X.P2, blkE b1 47 #[(.bool dr), (.string fl), (.slice A_it it.length c_it)], blkE X.b 62 #[(.map (some X.m1)), (.map (some X.m2))], mapG kS kV X.m1 X.kv1, mapG kS kV X.m2 X.kv2, blkE yb 43 #[(.slice A_f rs.length c_f)], rowE eSV 64 (.slice A_f rs.length c_f) rs, insE idS eIt 68 P3] := (SH.front [_, _, _, _, _] hS26)
            have hS28 : SH w S w2.drew [mapG kS kV X.m2 X.kv2, insE idS eIt 68 X.P1, insE idS eSI 76 X.P2, blkE b1 47 #[(.bool dr), (.string fl), (.slice A_it it.length c_it)], blkE X.b 62 #[(.map (some X.m1)), (.map (some X.m2))], mapG kS kV X.m1 X.kv1, blkE yb 43 #[(.slice A_f rs.length c_f)], rowE eSV 64 (.slice A_f rs.length c_f) rs, insE idS eIt 68 P3] := (SH.front [_, _, _, _, _] hS27)
            have hS29 : SH w S w2.drew [mapG kS kV X.m1 X.kv1, mapG kS kV X.m2 X.kv2, insE idS eIt 68 X.P1, insE idS eSI 76 X.P2, blkE b1 47 #[(.bool dr), (.string fl), (.slice A_it it.length c_it)], blkE X.b 62 #[(.map (some X.m1)), (.map (some X.m2))], blkE yb 43 #[(.slice A_f rs.length c_f)], rowE eSV 64 (.slice A_f rs.length c_f) rs, insE idS eIt 68 P3] := (SH.front [_, _, _, _, _] hS28)
            have hS30 : SH w S w2.drew [blkE X.b 62 #[(.map (some X.m1)), (.map (some X.m2))], mapG kS kV X.m1 X.kv1, mapG kS kV X.m2 X.kv2, insE idS eIt 68 X.P1, insE idS eSI 76 X.P2, blkE b1 47 #[(.bool dr), (.string fl), (.slice A_it it.length c_it)], blkE yb 43 #[(.slice A_f rs.length c_f)], rowE eSV 64 (.slice A_f rs.length c_f) rs, insE idS eIt 68 P3] := (SH.front [_, _, _, _, _] hS29)
            have hT5 := SH.sub (Es := [_, _, _, _, _]) hS30
            refine WS.call rfl rfl (XC.fn Tryz.func46 (by kernel_rfl) rfl rfl rfl) (dropy_calls (X := X) hT5 hv (by omega) hkn2) ?_
            rintro v_ w7 ⟨kv4, kw2, Pb2, rfl, hsub2, hv2, hU5⟩
            have hS31 := SH.back (Es := [_, _, _, _, _]) hS30 hU5
            refine ⟨fun h_ => trivial, ?_⟩
            have hS32 : SH w S w7 [insE idS eIt 68 P3, blkE X.b 62 #[(.map (some X.m1)), (.map (some X.m2))], mapG kS kV X.m1 kv4, mapG kS kV X.m2 kw2, insE idS eIt 68 X.P1, insE idS eSI 76 Pb2, blkE b1 47 #[(.bool dr), (.string fl), (.slice A_it it.length c_it)], blkE yb 43 #[(.slice A_f rs.length c_f)], rowE eSV 64 (.slice A_f rs.length c_f) rs] := (SH.front [_, _, _, _, _, _, _, _] hS31)
            have hS33 : SH w S w7 [rowE eSV 64 (.slice A_f rs.length c_f) rs, insE idS eIt 68 P3, blkE X.b 62 #[(.map (some X.m1)), (.map (some X.m2))], mapG kS kV X.m1 kv4, mapG kS kV X.m2 kw2, insE idS eIt 68 X.P1, insE idS eSI 76 Pb2, blkE b1 47 #[(.bool dr), (.string fl), (.slice A_it it.length c_it)], blkE yb 43 #[(.slice A_f rs.length c_f)]] := (SH.front [_, _, _, _, _, _, _, _] hS32)
            have hS34 : SH w S w7 [blkE yb 43 #[(.slice A_f rs.length c_f)], rowE eSV 64 (.slice A_f rs.length c_f) rs, insE idS eIt 68 P3, blkE X.b 62 #[(.map (some X.m1)), (.map (some X.m2))], mapG kS kV X.m1 kv4, mapG kS kV X.m2 kw2, insE idS eIt 68 X.P1, insE idS eSI 76 Pb2, blkE b1 47 #[(.bool dr), (.string fl), (.slice A_it it.length c_it)]] := (SH.front [_, _, _, _, _, _, _, _] hS33)
            have hT6 := SH.sub (Es := [_, _, _]) hS34
            refine WS.call rfl rfl (XC.fn Tryz.func47 (by kernel_rfl) rfl rfl rfl) (rdropy_calls hT6 hD hv.ns (Nat.le_trans hv.ln (by omega)) hkn2) ?_
            rintro v_ w8 ⟨A2, c2, rs2, Pc2, rfl, hD2, hU6⟩
            have hS35 := SH.back (Es := [_, _, _]) hS34 hU6
            refine ⟨fun h_ => trivial, ?_⟩
            refine WS.pure rfl rfl (fun _ => LV.as (c := true) (LV.eqI rfl rfl) (by decide)) ?_
            refine WS.pure rfl rfl (fun _ => LV.asg rfl) ?_
            refine WS.nil (thenQ.n ?_)
            refine WC.ret (thenQ.r <| ?_)
            have hdo3 : DO X.F dr fl it = (WOF X.F fl) := do_drop hfine1 hd
            have hS36 : SH w S w8 [blkE X.b 62 #[(.map (some X.m1)), (.map (some X.m2))], mapG kS kV X.m1 kv4, mapG kS kV X.m2 kw2, insE idS eIt 68 X.P1, insE idS eSI 76 Pb2, blkE yb 43 #[(.slice A2 rs2.length c2)], rowE eSV 64 (.slice A2 rs2.length c2) rs2, insE idS eIt 68 Pc2] := (SH.take 8 rfl (SH.front [_, _, _, _, _, _, _] (SH.front [_, _, _, _, _, _, _] (SH.front [_, _, _, _, _, _, _] (SH.front [_, _, _, _, _, _, _] (SH.front [_, _, _, _, _, _, _] (SH.front [_, _] (SH.front [_, _] (SH.front [_, _] hS35)))))))))
            exact ⟨_, fun a ha => res1 rfl ha rfl, _, _, _, _, _, _, _, _, rfl, (by rw [hdo3]; exact IXW.mono hv2 (by omega)), (by rw [hdo3]; exact hD2), hS36⟩
          · have hS37 : SH w S w2.drew [insE idS eSI 76 X.P2, blkE b1 47 #[(.bool dr), (.string fl), (.slice A_it it.length c_it)], blkE X.b 62 #[(.map (some X.m1)), (.map (some X.m2))], mapG kS kV X.m1 X.kv1, mapG kS kV X.m2 X.kv2, insE idS eIt 68 X.P1, blkE yb 43 #[(.slice A_f rs.length c_f)], rowE eSV 64 (.slice A_f rs.length c_f) rs, insE idS eIt 68 P3] := (SH.front [_, _, _, _, _] hS3)
            have hS38 : SH w S w2.drew [insE idS eIt 68 X.P1, insE idS eSI 76 X.P2, blkE b1 47 #[(.bool dr), (.string fl), (.slice A_it it.length c_it)], blkE X.b 62 #[(.map (some X.m1)), (.map (some X.m2))], mapG kS kV X.m1 X.kv1, mapG kS kV X.m2 X.kv2, blkE yb 43 #[(.slice A_f rs.length c_f)], rowE eSV 64 (.slice A_f rs.length c_f) rs, insE idS eIt 68 P3] := (SH.front [_, _, _, _, _] hS37)
            have hS39 : SH w S w2.drew [mapG kS kV X.m2 X.kv2, insE idS eIt 68 X.P1, insE idS eSI 76 X.P2, blkE b1 47 #[(.bool dr), (.string fl), (.slice A_it it.length c_it)], blkE X.b 62 #[(.map (some X.m1)), (.map (some X.m2))], mapG kS kV X.m1 X.kv1, blkE yb 43 #[(.slice A_f rs.length c_f)], rowE eSV 64 (.slice A_f rs.length c_f) rs, insE idS eIt 68 P3] := (SH.front [_, _, _, _, _] hS38)
            have hS40 : SH w S w2.drew [mapG kS kV X.m1 X.kv1, mapG kS kV X.m2 X.kv2, insE idS eIt 68 X.P1, insE idS eSI 76 X.P2, blkE b1 47 #[(.bool dr), (.string fl), (.slice A_it it.length c_it)], blkE X.b 62 #[(.map (some X.m1)), (.map (some X.m2))], blkE yb 43 #[(.slice A_f rs.length c_f)], rowE eSV 64 (.slice A_f rs.length c_f) rs, insE idS eIt 68 P3] := (SH.front [_, _, _, _, _] hS39)
            have hS41 : SH w S w2.drew [blkE X.b 62 #[(.map (some X.m1)), (.map (some X.m2))], mapG kS kV X.m1 X.kv1, mapG kS kV X.m2 X.kv2, insE idS eIt 68 X.P1, insE idS eSI 76 X.P2, blkE b1 47 #[(.bool dr), (.string fl), (.slice A_it it.length c_it)], blkE yb 43 #[(.slice A_f rs.length c_f)], rowE eSV 64 (.slice A_f rs.length c_f) rs, insE idS eIt 68 P3] := (SH.front [_, _, _, _, _] hS40)
            have hT7 := SH.sub (Es := [_, _, _, _, _]) hS41
            refine WS.call rfl rfl (XC.fn Tryz.func46 (by kernel_rfl) rfl rfl rfl) (dropn_calls (X := X) hT7 hv (by omega) (by simpa using hkn2)) ?_
            rintro v_ w9 ⟨rfl, hU7⟩
            have hS42 := SH.back (Es := [_, _, _, _, _]) hS41 hU7
            refine ⟨fun h_ => trivial, ?_⟩
            have hS43 : SH w S w9 [insE idS eIt 68 P3, blkE X.b 62 #[(.map (some X.m1)), (.map (some X.m2))], mapG kS kV X.m1 X.kv1, mapG kS kV X.m2 X.kv2, insE idS eIt 68 X.P1, insE idS eSI 76 X.P2, blkE b1 47 #[(.bool dr), (.string fl), (.slice A_it it.length c_it)], blkE yb 43 #[(.slice A_f rs.length c_f)], rowE eSV 64 (.slice A_f rs.length c_f) rs] := (SH.front [_, _, _, _, _, _, _, _] hS42)
            have hS44 : SH w S w9 [rowE eSV 64 (.slice A_f rs.length c_f) rs, insE idS eIt 68 P3, blkE X.b 62 #[(.map (some X.m1)), (.map (some X.m2))], mapG kS kV X.m1 X.kv1, mapG kS kV X.m2 X.kv2, insE idS eIt 68 X.P1, insE idS eSI 76 X.P2, blkE b1 47 #[(.bool dr), (.string fl), (.slice A_it it.length c_it)], blkE yb 43 #[(.slice A_f rs.length c_f)]] := (SH.front [_, _, _, _, _, _, _, _] hS43)
            have hS45 : SH w S w9 [blkE yb 43 #[(.slice A_f rs.length c_f)], rowE eSV 64 (.slice A_f rs.length c_f) rs, insE idS eIt 68 P3, blkE X.b 62 #[(.map (some X.m1)), (.map (some X.m2))], mapG kS kV X.m1 X.kv1, mapG kS kV X.m2 X.kv2, insE idS eIt 68 X.P1, insE idS eSI 76 X.P2, blkE b1 47 #[(.bool dr), (.string fl), (.slice A_it it.length c_it)]] := (SH.front [_, _, _, _, _, _, _, _] hS44)
            have hT8 := SH.sub (Es := [_, _, _]) hS45
            refine WS.call rfl rfl (XC.fn Tryz.func47 (by kernel_rfl) rfl rfl rfl) (rdropn_calls hT8 hD hv.ns (Nat.le_trans hv.ln (by omega)) (by simpa using hkn2)) ?_
            rintro v_ w10 ⟨rfl, hU8⟩
            have hS46 := SH.back (Es := [_, _, _]) hS45 hU8
            refine ⟨fun h_ => trivial, ?_⟩
            refine WS.pure rfl rfl (fun _ => LV.as (c := true) (LV.eqI rfl rfl) (by decide)) ?_
            refine WS.pure rfl rfl (fun _ => LV.asg rfl) ?_
            refine WS.nil (thenQ.n ?_)
            refine WC.ret (thenQ.r <| ?_)
            have hdo4 : DO X.F dr fl it = X.F := (do_drop hfine1 hd).trans (wof_gone (by simpa using hkn2))
            have hS47 : SH w S w10 [blkE X.b 62 #[(.map (some X.m1)), (.map (some X.m2))], mapG kS kV X.m1 X.kv1, mapG kS kV X.m2 X.kv2, insE idS eIt 68 X.P1, insE idS eSI 76 X.P2, blkE yb 43 #[(.slice A_f rs.length c_f)], rowE eSV 64 (.slice A_f rs.length c_f) rs, insE idS eIt 68 P3] := (SH.take 8 rfl (SH.front [_, _, _, _, _, _, _] (SH.front [_, _, _, _, _, _, _] (SH.front [_, _, _, _, _, _, _] (SH.front [_, _, _, _, _, _, _] (SH.front [_, _, _, _, _, _, _] (SH.front [_, _] (SH.front [_, _] (SH.front [_, _] hS46)))))))))
            exact ⟨_, fun a ha => res1 rfl ha rfl, _, _, _, _, _, _, _, _, rfl, (by rw [hdo4]; exact IXW.mono hv (by omega)), (by rw [hdo4]; exact hD), hS47⟩
      · refine WO.lvT rfl rfl (LV.load1 Tryz.underlying9 rfl rfl (Blk.cellN (SH.at hS3 (.head _)) 1 rfl _ (KB.refl No _))) ?_
        refine WSX.of [(.forced, 2), (.forced, 3), (.forced, 7), (.pure, 8), (.pure, 9)] (by kernel_rfl) rfl ?_
        refine WS.lvT rfl rfl (LV.load1 Tryz.underlying9 rfl rfl (Blk.cellN (SH.at hS3 (.head _)) 1 rfl _ (KB.refl No _))) ?_
        rcases Decidable.em ((lookL X.F fl).isSome = true) with hkn3 | hkn3
        · have hS48 : SH w S w2.drew [insE idS eSI 76 X.P2, blkE b1 47 #[(.bool dr), (.string fl), (.slice A_it it.length c_it)], blkE X.b 62 #[(.map (some X.m1)), (.map (some X.m2))], mapG kS kV X.m1 X.kv1, mapG kS kV X.m2 X.kv2, insE idS eIt 68 X.P1, blkE yb 43 #[(.slice A_f rs.length c_f)], rowE eSV 64 (.slice A_f rs.length c_f) rs, insE idS eIt 68 P3] := (SH.front [_, _, _, _, _] hS3)
          have hS49 : SH w S w2.drew [insE idS eIt 68 X.P1, insE idS eSI 76 X.P2, blkE b1 47 #[(.bool dr), (.string fl), (.slice A_it it.length c_it)], blkE X.b 62 #[(.map (some X.m1)), (.map (some X.m2))], mapG kS kV X.m1 X.kv1, mapG kS kV X.m2 X.kv2, blkE yb 43 #[(.slice A_f rs.length c_f)], rowE eSV 64 (.slice A_f rs.length c_f) rs, insE idS eIt 68 P3] := (SH.front [_, _, _, _, _] hS48)
          have hS50 : SH w S w2.drew [mapG kS kV X.m2 X.kv2, insE idS eIt 68 X.P1, insE idS eSI 76 X.P2, blkE b1 47 #[(.bool dr), (.string fl), (.slice A_it it.length c_it)], blkE X.b 62 #[(.map (some X.m1)), (.map (some X.m2))], mapG kS kV X.m1 X.kv1, blkE yb 43 #[(.slice A_f rs.length c_f)], rowE eSV 64 (.slice A_f rs.length c_f) rs, insE idS eIt 68 P3] := (SH.front [_, _, _, _, _] hS49)
          have hS51 : SH w S w2.drew [mapG kS kV X.m1 X.kv1, mapG kS kV X.m2 X.kv2, insE idS eIt 68 X.P1, insE idS eSI 76 X.P2, blkE b1 47 #[(.bool dr), (.string fl), (.slice A_it it.length c_it)], blkE X.b 62 #[(.map (some X.m1)), (.map (some X.m2))], blkE yb 43 #[(.slice A_f rs.length c_f)], rowE eSV 64 (.slice A_f rs.length c_f) rs, insE idS eIt 68 P3] := (SH.front [_, _, _, _, _] hS50)
          have hS52 : SH w S w2.drew [blkE X.b 62 #[(.map (some X.m1)), (.map (some X.m2))], mapG kS kV X.m1 X.kv1, mapG kS kV X.m2 X.kv2, insE idS eIt 68 X.P1, insE idS eSI 76 X.P2, blkE b1 47 #[(.bool dr), (.string fl), (.slice A_it it.length c_it)], blkE yb 43 #[(.slice A_f rs.length c_f)], rowE eSV 64 (.slice A_f rs.length c_f) rs, insE idS eIt 68 P3] := (SH.front [_, _, _, _, _] hS51)
          have hT9 := SH.sub (Es := [_, _, _, _, _]) hS52
          refine WS.call rfl rfl (XC.fn Tryz.func46 (by kernel_rfl) rfl rfl rfl) (dropy_calls (X := X) hT9 hv (by omega) hkn3) ?_
          rintro v_ w11 ⟨kv5, kw3, Pb3, rfl, hsub3, hv3, hU9⟩
          have hS53 := SH.back (Es := [_, _, _, _, _]) hS52 hU9
          refine ⟨fun h_ => trivial, ?_⟩
          have hS54 : SH w S w11 [insE idS eIt 68 P3, blkE X.b 62 #[(.map (some X.m1)), (.map (some X.m2))], mapG kS kV X.m1 kv5, mapG kS kV X.m2 kw3, insE idS eIt 68 X.P1, insE idS eSI 76 Pb3, blkE b1 47 #[(.bool dr), (.string fl), (.slice A_it it.length c_it)], blkE yb 43 #[(.slice A_f rs.length c_f)], rowE eSV 64 (.slice A_f rs.length c_f) rs] := (SH.front [_, _, _, _, _, _, _, _] hS53)
          have hS55 : SH w S w11 [rowE eSV 64 (.slice A_f rs.length c_f) rs, insE idS eIt 68 P3, blkE X.b 62 #[(.map (some X.m1)), (.map (some X.m2))], mapG kS kV X.m1 kv5, mapG kS kV X.m2 kw3, insE idS eIt 68 X.P1, insE idS eSI 76 Pb3, blkE b1 47 #[(.bool dr), (.string fl), (.slice A_it it.length c_it)], blkE yb 43 #[(.slice A_f rs.length c_f)]] := (SH.front [_, _, _, _, _, _, _, _] hS54)
          have hS56 : SH w S w11 [blkE yb 43 #[(.slice A_f rs.length c_f)], rowE eSV 64 (.slice A_f rs.length c_f) rs, insE idS eIt 68 P3, blkE X.b 62 #[(.map (some X.m1)), (.map (some X.m2))], mapG kS kV X.m1 kv5, mapG kS kV X.m2 kw3, insE idS eIt 68 X.P1, insE idS eSI 76 Pb3, blkE b1 47 #[(.bool dr), (.string fl), (.slice A_it it.length c_it)]] := (SH.front [_, _, _, _, _, _, _, _] hS55)
          have hT10 := SH.sub (Es := [_, _, _]) hS56
          refine WS.call rfl rfl (XC.fn Tryz.func47 (by kernel_rfl) rfl rfl rfl) (rdropy_calls hT10 hD hv.ns (Nat.le_trans hv.ln (by omega)) hkn3) ?_
          rintro v_ w12 ⟨A3, c3, rs3, Pc3, rfl, hD3, hU10⟩
          have hS57 := SH.back (Es := [_, _, _]) hS56 hU10
          refine ⟨fun h_ => trivial, ?_⟩
          refine WS.pure rfl rfl (fun _ => LV.as (c := true) (LV.eqI rfl rfl) (by decide)) ?_
          refine WS.pure rfl rfl (fun _ => LV.asg rfl) ?_
          refine WS.nil (thenQ.n ?_)
          refine WC.ret (thenQ.r <| ?_)
          have hdo5 : DO X.F dr fl it = (WOF X.F fl) := do_drop hfine1 hd
          have hS58 : SH w S w12 [blkE X.b 62 #[(.map (some X.m1)), (.map (some X.m2))], mapG kS kV X.m1 kv5, mapG kS kV X.m2 kw3, insE idS eIt 68 X.P1, insE idS eSI 76 Pb3, blkE yb 43 #[(.slice A3 rs3.length c3)], rowE eSV 64 (.slice A3 rs3.length c3) rs3, insE idS eIt 68 Pc3] := (SH.take 8 rfl (SH.front [_, _, _, _, _, _, _] (SH.front [_, _, _, _, _, _, _] (SH.front [_, _, _, _, _, _, _] (SH.front [_, _, _, _, _, _, _] (SH.front [_, _, _, _, _, _, _] (SH.front [_, _] (SH.front [_, _] (SH.front [_, _] hS57)))))))))
          exact ⟨_, fun a ha => res1 rfl ha rfl, _, _, _, _, _, _, _, _, rfl, (by rw [hdo5]; exact IXW.mono hv3 (by omega)), (by rw [hdo5]; exact hD3), hS58⟩
        · have hS59 : SH w S w2.drew [insE idS eSI 76 X.P2, blkE b1 47 #[(.bool dr), (.string fl), (.slice A_it it.length c_it)], blkE X.b 62 #[(.map (some X.m1)), (.map (some X.m2))], mapG kS kV X.m1 X.kv1, mapG kS kV X.m2 X.kv2, insE idS eIt 68 X.P1, blkE yb 43 #[(.slice A_f rs.length c_f)], rowE eSV 64 (.slice A_f rs.length c_f) rs, insE idS eIt 68 P3] := (SH.front [_, _, _, _, _] hS3)
          have hS60 : SH w S w2.drew [insE idS eIt 68 X.P1, insE idS eSI 76 X.P2, blkE b1 47 #[(.bool dr), (.string fl), (.slice A_it it.length c_it)], blkE X.b 62 #[(.map (some X.m1)), (.map (some X.m2))], mapG kS kV X.m1 X.kv1, mapG kS kV X.m2 X.kv2, blkE yb 43 #[(.slice A_f rs.length c_f)], rowE eSV 64 (.slice A_f rs.length c_f) rs, insE idS eIt 68 P3] := (SH.front [_, _, _, _, _] hS59)
          have hS61 : SH w S w2.drew [mapG kS kV X.m2 X.kv2, insE idS eIt 68 X.P1, insE idS eSI 76 X.P2, blkE b1 47 #[(.bool dr), (.string fl), (.slice A_it it.length c_it)], blkE X.b 62 #[(.map (some X.m1)), (.map (some X.m2))], mapG kS kV X.m1 X.kv1, blkE yb 43 #[(.slice A_f rs.length c_f)], rowE eSV 64 (.slice A_f rs.length c_f) rs, insE idS eIt 68 P3] := (SH.front [_, _, _, _, _] hS60)
          have hS62 : SH w S w2.drew [mapG kS kV X.m1 X.kv1, mapG kS kV X.m2 X.kv2, insE idS eIt 68 X.P1, insE idS eSI 76 X.P2, blkE b1 47 #[(.bool dr), (.string fl), (.slice A_it it.length c_it)], blkE X.b 62 #[(.map (some X.m1)), (.map (some X.m2))], blkE yb 43 #[(.slice A_f rs.length c_f)], rowE eSV 64 (.slice A_f rs.length c_f) rs, insE idS eIt 68 P3] := (SH.front [_, _, _, _, _] hS61)
          have hS63 : SH w S w2.drew [blkE X.b 62 #[(.map (some X.m1)), (.map (some X.m2))], mapG kS kV X.m1 X.kv1, mapG kS kV X.m2 X.kv2, insE idS eIt 68 X.P1, insE idS eSI 76 X.P2, blkE b1 47 #[(.bool dr), (.string fl), (.slice A_it it.length c_it)], blkE yb 43 #[(.slice A_f rs.length c_f)], rowE eSV 64 (.slice A_f rs.length c_f) rs, insE idS eIt 68 P3] := (SH.front [_, _, _, _, _] hS62)
          have hT11 := SH.sub (Es := [_, _, _, _, _]) hS63
          refine WS.call rfl rfl (XC.fn Tryz.func46 (by kernel_rfl) rfl rfl rfl) (dropn_calls (X := X) hT11 hv (by omega) (by simpa using hkn3)) ?_
          rintro v_ w13 ⟨rfl, hU11⟩
          have hS64 := SH.back (Es := [_, _, _, _, _]) hS63 hU11
          refine ⟨fun h_ => trivial, ?_⟩
          have hS65 : SH w S w13 [insE idS eIt 68 P3, blkE X.b 62 #[(.map (some X.m1)), (.map (some X.m2))], mapG kS kV X.m1 X.kv1, mapG kS kV X.m2 X.kv2, insE idS eIt 68 X.P1, insE idS eSI 76 X.P2, blkE b1 47 #[(.bool dr), (.string fl), (.slice A_it it.length c_it)], blkE yb 43 #[(.slice A_f rs.length c_f)], rowE eSV 64 (.slice A_f rs.length c_f) rs] := (SH.front [_, _, _, _, _, _, _, _] hS64)
          have hS66 : SH w S w13 [rowE eSV 64 (.slice A_f rs.length c_f) rs, insE idS eIt 68 P3, blkE X.b 62 #[(.map (some X.m1)), (.map (some X.m2))], mapG kS kV X.m1 X.kv1, mapG kS kV X.m2 X.kv2, insE idS eIt 68 X.P1, insE idS eSI 76 X.P2, blkE b1 47 #[(.bool dr), (.string fl), (.slice A_it it.length c_it)], blkE yb 43 #[(.slice A_f rs.length c_f)]] := (SH.front [_, _, _, _, _, _, _, _] hS65)
          have hS67 : SH w S w13 [blkE yb 43 #[(.slice A_f rs.length c_f)], rowE eSV 64 (.slice A_f rs.length c_f) rs, insE idS eIt 68 P3, blkE X.b 62 #[(.map (some X.m1)), (.map (some X.m2))], mapG kS kV X.m1 X.kv1, mapG kS kV X.m2 X.kv2, insE idS eIt 68 X.P1, insE idS eSI 76 X.P2, blkE b1 47 #[(.bool dr), (.string fl), (.slice A_it it.length c_it)]] := (SH.front [_, _, _, _, _, _, _, _] hS66)
          have hT12 := SH.sub (Es := [_, _, _]) hS67
          refine WS.call rfl rfl (XC.fn Tryz.func47 (by kernel_rfl) rfl rfl rfl) (rdropn_calls hT12 hD hv.ns (Nat.le_trans hv.ln (by omega)) (by simpa using hkn3)) ?_
          rintro v_ w14 ⟨rfl, hU12⟩
          have hS68 := SH.back (Es := [_, _, _]) hS67 hU12
          refine ⟨fun h_ => trivial, ?_⟩
          refine WS.pure rfl rfl (fun _ => LV.as (c := true) (LV.eqI rfl rfl) (by decide)) ?_
          refine WS.pure rfl rfl (fun _ => LV.asg rfl) ?_
          refine WS.nil (thenQ.n ?_)
          refine WC.ret (thenQ.r <| ?_)
          have hdo6 : DO X.F dr fl it = X.F := (do_drop hfine1 hd).trans (wof_gone (by simpa using hkn3))
          have hS69 : SH w S w14 [blkE X.b 62 #[(.map (some X.m1)), (.map (some X.m2))], mapG kS kV X.m1 X.kv1, mapG kS kV X.m2 X.kv2, insE idS eIt 68 X.P1, insE idS eSI 76 X.P2, blkE yb 43 #[(.slice A_f rs.length c_f)], rowE eSV 64 (.slice A_f rs.length c_f) rs, insE idS eIt 68 P3] := (SH.take 8 rfl (SH.front [_, _, _, _, _, _, _] (SH.front [_, _, _, _, _, _, _] (SH.front [_, _, _, _, _, _, _] (SH.front [_, _, _, _, _, _, _] (SH.front [_, _, _, _, _, _, _] (SH.front [_, _] (SH.front [_, _] (SH.front [_, _] hS68)))))))))
          exact ⟨_, fun a ha => res1 rfl ha rfl, _, _, _, _, _, _, _, _, rfl, (by rw [hdo6]; exact IXW.mono hv (by omega)), (by rw [hdo6]; exact hD), hS69⟩
    · skip
      refine WC.skip (thenQ.n ?_)
      refine WC.seq ?_
      refine WC.region ?_
      refine WL.xe rfl (XE.buildSlice (E := eIt) [] #[] [] hS2 Tryz.underlying45 ti68 rfl (by decide) (by kernel_rfl) (.inr rfl) rfl rfl (by decide)) ?_
      rintro _ w15 ⟨b2, rfl, hS70, hk3⟩
      refine WL.lv rfl (LV.mv rfl) ?_
      refine WL.xe rfl (XE.append hS70 Tryz.underlying45 ti68 rfl (St.now (SH.stN hS70 (few_rd 20 h_it))) rfl rfl (by first | omega | simp only [List.length_append, List.length_cons, List.length_nil, List.length_take, List.length_reverse, List.length_drop] at *; omega) (by first | omega | simp only [List.length_append, List.length_cons, List.length_nil, List.length_take, List.length_reverse, List.length_drop] at *; omega)) ?_
      rintro _ w16 ⟨A4, c4, rfl, hS71, hk4⟩
      refine WL.lv rfl (LV.asg rfl) ?_
      refine WL.nil (thenQ.n ?_)
      refine WC.seq ?_
      refine WC.region ?_
      refine WL.lv rfl (LV.mv rfl) ?_
      refine WL.lv rfl (LV.fieldA Tryz.underlying47 rfl ti9.sz rfl) ?_
      refine WL.lv rfl (LV.load1 Tryz.underlying9 rfl rfl (Blk.cellN (SH.at hS71 (.tail _ (.head _))) 1 rfl _ (KB.refl No _))) ?_
      refine WL.lv rfl (LV.mv rfl) ?_
      rcases Decidable.em (NAM fl) with hnm1 | hnm1
      · have hS72 : SH w S w16 [insE idS eSI 76 X.P2, rowE eIt 68 (.slice A4 ((([] : List Itm) ++ (it.take 20)).length) c4) (([] : List Itm) ++ (it.take 20)), blkE b1 47 #[(.bool dr), (.string fl), (.slice A_it it.length c_it)], blkE X.b 62 #[(.map (some X.m1)), (.map (some X.m2))], mapG kS kV X.m1 X.kv1, mapG kS kV X.m2 X.kv2, insE idS eIt 68 X.P1, blkE yb 43 #[(.slice A_f rs.length c_f)], rowE eSV 64 (.slice A_f rs.length c_f) rs, insE idS eIt 68 P3] := (SH.front [_, _, _, _, _, _] hS71)
        have hS73 : SH w S w16 [insE idS eIt 68 X.P1, insE idS eSI 76 X.P2, rowE eIt 68 (.slice A4 ((([] : List Itm) ++ (it.take 20)).length) c4) (([] : List Itm) ++ (it.take 20)), blkE b1 47 #[(.bool dr), (.string fl), (.slice A_it it.length c_it)], blkE X.b 62 #[(.map (some X.m1)), (.map (some X.m2))], mapG kS kV X.m1 X.kv1, mapG kS kV X.m2 X.kv2, blkE yb 43 #[(.slice A_f rs.length c_f)], rowE eSV 64 (.slice A_f rs.length c_f) rs, insE idS eIt 68 P3] := (SH.front [_, _, _, _, _, _] hS72)
        have hS74 : SH w S w16 [mapG kS kV X.m2 X.kv2, insE idS eIt 68 X.P1, insE idS eSI 76 X.P2, rowE eIt 68 (.slice A4 ((([] : List Itm) ++ (it.take 20)).length) c4) (([] : List Itm) ++ (it.take 20)), blkE b1 47 #[(.bool dr), (.string fl), (.slice A_it it.length c_it)], blkE X.b 62 #[(.map (some X.m1)), (.map (some X.m2))], mapG kS kV X.m1 X.kv1, blkE yb 43 #[(.slice A_f rs.length c_f)], rowE eSV 64 (.slice A_f rs.length c_f) rs, insE idS eIt 68 P3] := (SH.front [_, _, _, _, _, _] hS73)
        have hS75 : SH w S w16 [mapG kS kV X.m1 X.kv1, mapG kS kV X.m2 X.kv2, insE idS eIt 68 X.P1, insE idS eSI 76 X.P2, rowE eIt 68 (.slice A4 ((([] : List Itm) ++ (it.take 20)).length) c4) (([] : List Itm) ++ (it.take 20)), blkE b1 47 #[(.bool dr), (.string fl), (.slice A_it it.length c_it)], blkE X.b 62 #[(.map (some X.m1)), (.map (some X.m2))], blkE yb 43 #[(.slice A_f rs.length c_f)], rowE eSV 64 (.slice A_f rs.length c_f) rs, insE idS eIt 68 P3] := (SH.front [_, _, _, _, _, _] hS74)
        have hS76 : SH w S w16 [blkE X.b 62 #[(.map (some X.m1)), (.map (some X.m2))], mapG kS kV X.m1 X.kv1, mapG kS kV X.m2 X.kv2, insE idS eIt 68 X.P1, insE idS eSI 76 X.P2, rowE eIt 68 (.slice A4 ((([] : List Itm) ++ (it.take 20)).length) c4) (([] : List Itm) ++ (it.take 20)), blkE b1 47 #[(.bool dr), (.string fl), (.slice A_it it.length c_it)], blkE yb 43 #[(.slice A_f rs.length c_f)], rowE eSV 64 (.slice A_f rs.length c_f) rs, insE idS eIt 68 P3] := (SH.front [_, _, _, _, _, _] hS75)
        have hT13 := SH.sub (Es := [_, _, _, _, _]) hS76
        refine WL.call rfl (XC.fn Tryz.func44 (by kernel_rfl) rfl rfl rfl) (puty_calls (X := X) (file := fl) (l := (([] : List Itm) ++ (it.take 20))) (A_l := A4) (c_l := c4) hT13 ((SH.stE hS76 (.head _)).imp fun _ h_ => Row.rd h_) hv (by omega) (hz) (hl20_) ((fun y hy_ => ⟨hfine1 y hy_, hyi y (List.mem_of_mem_take hy_)⟩)) hnm1) ?_
        rintro v_ w17 ⟨kv6, kw4, Pa1, Pb4, rfl, hsub4, hsub5, hv4, hU13⟩
        have hS77 := SH.back (Es := [_, _, _, _, _]) hS76 hU13
        refine WL.lv rfl (LV.asg rfl) ?_
        refine WL.nil (thenQ.n ?_)
        iterate 2 refine WC.seq ?_
        refine WC.region ?_
        refine WL.lv rfl (LV.asg rfl) ?_
        refine WL.nil (thenQ.n ?_)
        refine WC.block ?_
        refine WC.loop (fun m_ f_ w_ => ∃ (own : List Itm) (i : Int), (0 ≤ i) ∧ (i ≤ ((([] : List Itm) ++ (it.take 20)).length : Int)) ∧ (own.length = (([] : List Itm) ++ it.take 20).length) ∧ SH w S w_ [blkE X.b 62 #[(.map (some X.m1)), (.map (some X.m2))], mapG kS kV X.m1 kv6, mapG kS kV X.m2 kw4, insE idS eIt 68 Pa1, insE idS eSI 76 Pb4, rowE eIt 68 (.slice A4 ((([] : List Itm) ++ (it.take 20)).length) c4) own, blkE b1 47 #[(.bool dr), (.string fl), (.slice A_it it.length c_it)], blkE yb 43 #[(.slice A_f rs.length c_f)], rowE eSV 64 (.slice A_f rs.length c_f) rs, insE idS eIt 68 P3] ∧ m_ = ((((([] : List Itm) ++ (it.take 20)).length : Int) - i).toNat) ∧ Weak (lit [(1, (.pointer (some ⟨yb, 0, none⟩))), (5, (.pointer (some ⟨b1, 0, none⟩))), (7, (.slice (cutA A_it c_it 6) ((it.take 20).length) c_it)), (9, (.slice A4 ((([] : List Itm) ++ (it.take 20)).length) c4)), (10, (.int .i64 0)), (11, (.int .i64 i))]) f_) _ ⟨(([] : List Itm) ++ (it.take 20)), 0, by omega, by omega, rfl, hS77, rfl, Weak.cons rfl <| Weak.cons rfl <| Weak.cons rfl <| Weak.cons rfl <| Weak.cons rfl <| Weak.cons rfl <| Weak.nil _⟩ ?_
        rintro m3 f1 w18 ⟨own, i, ilo, ihi, ql, hL1, rfl, hw1⟩
        refine WC.weak hw1 ?_
        clear hw1
        have hol_ : (([] : List Itm) ++ it.take 20).length ≤ 20 := by rw [List.nil_append]; exact hl20_
        iterate 2 refine WC.seq ?_
        refine WC.region ?_
        iterate 2 refine WL.lv rfl (LV.mv rfl) ?_
        refine WL.lv rfl (LV.lenL Tryz.underlying45 rfl) ?_
        refine WL.lv rfl (LV.ltI rfl rfl) ?_
        refine WL.nil (thenQ.n ?_)
        refine WC.condP (p := i < ((([] : List Itm) ++ (it.take 20)).length : Int)) rfl (fun hc1 => ?_) (fun hc1 => ?_)
        · skip
          refine WC.skip (thenQ.n ?_)
          refine WC.seq ?_
          refine WC.block ?_
          refine WC.region ?_
          iterate 2 refine WL.lv rfl (LV.mv rfl) ?_
          obtain ⟨A5, c5, e1, g1⟩ := St.elt (SH.rd hL1 (.tail _ (.tail _ (.tail _ (.tail _ (.tail _ (.head _))))))) dI i (by omega) (by omega)
          refine WL.lv rfl (LV.idxA Tryz.underlying45 ti68.sz rfl e1 rfl (by omega) (by omega)) ?_
          refine WL.lv rfl (LV.fieldA Tryz.underlying68 rfl ti66.sz rfl) ?_
          refine WL.lv rfl (LV.fieldA Tryz.underlying66 rfl ti9.sz rfl) ?_
          have hS79 : SH w S w18 [rowE eIt 68 (.slice A4 ((([] : List Itm) ++ (it.take 20)).length) c4) own, blkE X.b 62 #[(.map (some X.m1)), (.map (some X.m2))], mapG kS kV X.m1 kv6, mapG kS kV X.m2 kw4, insE idS eIt 68 Pa1, insE idS eSI 76 Pb4, blkE b1 47 #[(.bool dr), (.string fl), (.slice A_it it.length c_it)], blkE yb 43 #[(.slice A_f rs.length c_f)], rowE eSV 64 (.slice A_f rs.length c_f) rs, insE idS eIt 68 P3] := (SH.front [_, _, _, _, _] hL1)
          refine WL.xse rfl (XSE.row1 (i := i) (o := 4) (k := dI) ((own.getD (i).toNat dI).1, (own.getD (i).toNat dI).2.1, (own.getD (i).toNat dI).2.2.1, (⟨#[111, 116, 104, 101, 114]⟩, (own.getD (i).toNat dI).2.2.2.2)) hS79 e1 (by omega) (by omega) (by decide) ti9.sz rfl rfl rfl rfl) ?_
          rintro w19 ⟨hS78, hk5⟩
          refine WL.nil (blockQ.n <| thenQ.n ?_)
          refine WC.region ?_
          refine WL.lv rfl (LV.mv rfl) ?_
          refine WL.lv rfl (LV.add rfl rfl (wr64 (by omega) (by omega))) ?_
          refine WL.lv rfl (LV.asg rfl) ?_
          refine WL.nil (thenQ.n ?_)
          have hS80 : SH w S w19 [blkE X.b 62 #[(.map (some X.m1)), (.map (some X.m2))], mapG kS kV X.m1 kv6, mapG kS kV X.m2 kw4, insE idS eIt 68 Pa1, insE idS eSI 76 Pb4, rowE eIt 68 (.slice A4 ((([] : List Itm) ++ (it.take 20)).length) c4) (own.set (i).toNat ((own.getD (i).toNat dI).1, (own.getD (i).toNat dI).2.1, (own.getD (i).toNat dI).2.2.1, (⟨#[111, 116, 104, 101, 114]⟩, (own.getD (i).toNat dI).2.2.2.2))), blkE b1 47 #[(.bool dr), (.string fl), (.slice A_it it.length c_it)], blkE yb 43 #[(.slice A_f rs.length c_f)], rowE eSV 64 (.slice A_f rs.length c_f) rs, insE idS eIt 68 P3] := (SH.front [_, _, _, _, _, _, _, _, _] (SH.front [_, _, _, _, _, _, _, _, _] (SH.front [_, _, _, _, _, _, _, _, _] (SH.front [_, _, _, _, _, _, _, _, _] (SH.front [_, _, _, _, _, _, _, _, _] (SH.front [_, _, _, _] (SH.front [_, _, _, _, _, _, _, _, _] (SH.front [_, _, _, _, _, _, _, _, _] (SH.front [_, _, _, _, _, _, _, _, _] (SH.front [_, _, _, _, _, _, _, _, _] hS78))))))))))
          exact ⟨_, by omega, (own.set (i).toNat ((own.getD (i).toNat dI).1, (own.getD (i).toNat dI).2.1, (own.getD (i).toNat dI).2.2.1, (⟨#[111, 116, 104, 101, 114]⟩, (own.getD (i).toNat dI).2.2.2.2))), i + 1, by omega, by omega, (by rw [List.length_set]; exact ql), hS80, rfl, Weak.cons rfl <| Weak.cons rfl <| Weak.cons rfl <| Weak.cons rfl <| Weak.cons rfl <| Weak.cons rfl <| Weak.nil _⟩
        · skip
          refine WC.exit (thenQ.x <| thenQ.x <| blockQ.hit <| thenQ.n ?_)
          refine WC.seq ?_
          refine WC.region ?_
          iterate 2 refine WL.lv rfl (LV.mv rfl) ?_
          refine WL.lv rfl (LV.fieldA Tryz.underlying47 rfl ti9.sz rfl) ?_
          refine WL.lv rfl (LV.load1 Tryz.underlying9 rfl rfl (Blk.cellN (SH.at hL1 (.tail _ (.tail _ (.tail _ (.tail _ (.tail _ (.tail _ (.head _)))))))) 1 rfl _ (KB.refl No _))) ?_
          refine WL.lv rfl (LV.mv rfl) ?_
          have hS81 : SH w S w18 [insE idS eIt 68 P3, blkE X.b 62 #[(.map (some X.m1)), (.map (some X.m2))], mapG kS kV X.m1 kv6, mapG kS kV X.m2 kw4, insE idS eIt 68 Pa1, insE idS eSI 76 Pb4, rowE eIt 68 (.slice A4 ((([] : List Itm) ++ (it.take 20)).length) c4) own, blkE b1 47 #[(.bool dr), (.string fl), (.slice A_it it.length c_it)], blkE yb 43 #[(.slice A_f rs.length c_f)], rowE eSV 64 (.slice A_f rs.length c_f) rs] := (SH.front [_, _, _, _, _, _, _, _, _] hL1)
          have hS82 : SH w S w18 [rowE eSV 64 (.slice A_f rs.length c_f) rs, insE idS eIt 68 P3, blkE X.b 62 #[(.map (some X.m1)), (.map (some X.m2))], mapG kS kV X.m1 kv6, mapG kS kV X.m2 kw4, insE idS eIt 68 Pa1, insE idS eSI 76 Pb4, rowE eIt 68 (.slice A4 ((([] : List Itm) ++ (it.take 20)).length) c4) own, blkE b1 47 #[(.bool dr), (.string fl), (.slice A_it it.length c_it)], blkE yb 43 #[(.slice A_f rs.length c_f)]] := (SH.front [_, _, _, _, _, _, _, _, _] hS81)
          have hS83 : SH w S w18 [blkE yb 43 #[(.slice A_f rs.length c_f)], rowE eSV 64 (.slice A_f rs.length c_f) rs, insE idS eIt 68 P3, blkE X.b 62 #[(.map (some X.m1)), (.map (some X.m2))], mapG kS kV X.m1 kv6, mapG kS kV X.m2 kw4, insE idS eIt 68 Pa1, insE idS eSI 76 Pb4, rowE eIt 68 (.slice A4 ((([] : List Itm) ++ (it.take 20)).length) c4) own, blkE b1 47 #[(.bool dr), (.string fl), (.slice A_it it.length c_it)]] := (SH.front [_, _, _, _, _, _, _, _, _] hS82)
          have hT14 := SH.sub (Es := [_, _, _]) hS83
          refine WL.call rfl (XC.fn Tryz.func48 (by kernel_rfl) rfl rfl rfl) (rputy_calls hT14 (SH.stA hS83 (few_rd 20 h_it)) hD hv.ns (Nat.le_trans hv.ln (by omega)) (hl20_) (hz) hnm1) ?_
          rintro v_ w20 ⟨A6, c6, rs4, Pc4, rfl, hD4, hU14⟩
          have hS84 := SH.back (Es := [_, _, _]) hS83 hU14
          refine WL.lv rfl (LV.as (c := true) (LV.eqI rfl rfl) (by decide)) ?_
          refine WL.lv rfl (LV.asg rfl) ?_
          refine WL.nil (thenQ.n ?_)
          refine WC.ret (?_)
          have hdo7 : DO X.F dr fl it = (PUTF fl (([] : List Itm) ++ (it.take 20)) X.F) := do_put hfine1 hd hnm1
          have hS85 : SH w S w20 [blkE X.b 62 #[(.map (some X.m1)), (.map (some X.m2))], mapG kS kV X.m1 kv6, mapG kS kV X.m2 kw4, insE idS eIt 68 Pa1, insE idS eSI 76 Pb4, blkE yb 43 #[(.slice A6 rs4.length c6)], rowE eSV 64 (.slice A6 rs4.length c6) rs4, insE idS eIt 68 Pc4] := (SH.take 8 rfl (SH.front [_, _, _, _, _, _, _] (SH.front [_, _, _, _, _, _, _] (SH.front [_, _, _, _, _, _, _] (SH.front [_, _, _, _, _, _, _] (SH.front [_, _, _, _, _, _, _] (SH.front [_, _] (SH.front [_, _] (SH.front [_, _] hS84)))))))))
          exact ⟨_, fun a ha => res1 rfl ha rfl, _, _, _, _, _, _, _, _, rfl, (by rw [hdo7]; exact IXW.mono hv4 (by omega)), (by rw [hdo7]; exact hD4), hS85⟩
      · refine WL.call rfl (XC.fn Tryz.func44 (by kernel_rfl) rfl rfl rfl) (putn_calls (b := X.b) (A_l := A4) (n_l := (([] : List Itm) ++ (it.take 20)).length) (c_l := c4) (hz) hnm1) ?_
        rintro v_ w21 ⟨rfl, hk6⟩
        have hS86 := SH.same hS71 hk6
        refine WL.lv rfl (LV.asg rfl) ?_
        refine WL.nil (thenQ.n ?_)
        iterate 2 refine WC.seq ?_
        refine WC.region ?_
        refine WL.lv rfl (LV.asg rfl) ?_
        refine WL.nil (thenQ.n ?_)
        refine WC.block ?_
        refine WC.loop (fun m_ f_ w_ => ∃ (own : List Itm) (i : Int), (0 ≤ i) ∧ (i ≤ ((([] : List Itm) ++ (it.take 20)).length : Int)) ∧ (own.length = (([] : List Itm) ++ it.take 20).length) ∧ SH w S w_ [rowE eIt 68 (.slice A4 ((([] : List Itm) ++ (it.take 20)).length) c4) own, blkE b1 47 #[(.bool dr), (.string fl), (.slice A_it it.length c_it)], blkE X.b 62 #[(.map (some X.m1)), (.map (some X.m2))], mapG kS kV X.m1 X.kv1, mapG kS kV X.m2 X.kv2, insE idS eIt 68 X.P1, insE idS eSI 76 X.P2, blkE yb 43 #[(.slice A_f rs.length c_f)], rowE eSV 64 (.slice A_f rs.length c_f) rs, insE idS eIt 68 P3] ∧ m_ = ((((([] : List Itm) ++ (it.take 20)).length : Int) - i).toNat) ∧ Weak (lit [(1, (.pointer (some ⟨yb, 0, none⟩))), (5, (.pointer (some ⟨b1, 0, none⟩))), (7, (.slice (cutA A_it c_it 6) ((it.take 20).length) c_it)), (9, (.slice A4 ((([] : List Itm) ++ (it.take 20)).length) c4)), (10, (.int .i64 2)), (11, (.int .i64 i))]) f_) _ ⟨(([] : List Itm) ++ (it.take 20)), 0, by omega, by omega, rfl, hS86, rfl, Weak.cons rfl <| Weak.cons rfl <| Weak.cons rfl <| Weak.cons rfl <| Weak.cons rfl <| Weak.cons rfl <| Weak.nil _⟩ ?_
        rintro m4 f2 w22 ⟨own, i, ilo, ihi, ql, hL2, rfl, hw2⟩
        refine WC.weak hw2 ?_
        clear hw2
        have hol_ : (([] : List Itm) ++ it.take 20).length ≤ 20 := by rw [List.nil_append]; exact hl20_
        iterate 2 refine WC.seq ?_
        refine WC.region ?_
        iterate 2 refine WL.lv rfl (LV.mv rfl) ?_
        refine WL.lv rfl (LV.lenL Tryz.underlying45 rfl) ?_
        refine WL.lv rfl (LV.ltI rfl rfl) ?_
        refine WL.nil (thenQ.n ?_)
        refine WC.condP (p := i < ((([] : List Itm) ++ (it.take 20)).length : Int)) rfl (fun hc2 => ?_) (fun hc2 => ?_)
        · skip
          refine WC.skip (thenQ.n ?_)
          refine WC.seq ?_
          refine WC.block ?_
          refine WC.region ?_
          iterate 2 refine WL.lv rfl (LV.mv rfl) ?_
          obtain ⟨A7, c7, e2, g2⟩ := St.elt (SH.rd hL2 (.head _)) dI i (by omega) (by omega)
          refine WL.lv rfl (LV.idxA Tryz.underlying45 ti68.sz rfl e2 rfl (by omega) (by omega)) ?_
          refine WL.lv rfl (LV.fieldA Tryz.underlying68 rfl ti66.sz rfl) ?_
          refine WL.lv rfl (LV.fieldA Tryz.underlying66 rfl ti9.sz rfl) ?_
          refine WL.xse rfl (XSE.row1 (i := i) (o := 4) (k := dI) ((own.getD (i).toNat dI).1, (own.getD (i).toNat dI).2.1, (own.getD (i).toNat dI).2.2.1, (⟨#[111, 116, 104, 101, 114]⟩, (own.getD (i).toNat dI).2.2.2.2)) hL2 e2 (by omega) (by omega) (by decide) ti9.sz rfl rfl rfl rfl) ?_
          rintro w23 ⟨hS87, hk7⟩
          refine WL.nil (blockQ.n <| thenQ.n ?_)
          refine WC.region ?_
          refine WL.lv rfl (LV.mv rfl) ?_
          refine WL.lv rfl (LV.add rfl rfl (wr64 (by omega) (by omega))) ?_
          refine WL.lv rfl (LV.asg rfl) ?_
          refine WL.nil (thenQ.n ?_)
          exact ⟨_, by omega, (own.set (i).toNat ((own.getD (i).toNat dI).1, (own.getD (i).toNat dI).2.1, (own.getD (i).toNat dI).2.2.1, (⟨#[111, 116, 104, 101, 114]⟩, (own.getD (i).toNat dI).2.2.2.2))), i + 1, by omega, by omega, (by rw [List.length_set]; exact ql), hS87, rfl, Weak.cons rfl <| Weak.cons rfl <| Weak.cons rfl <| Weak.cons rfl <| Weak.cons rfl <| Weak.cons rfl <| Weak.nil _⟩
        · skip
          refine WC.exit (thenQ.x <| thenQ.x <| blockQ.hit <| thenQ.n ?_)
          refine WC.seq ?_
          refine WC.region ?_
          iterate 2 refine WL.lv rfl (LV.mv rfl) ?_
          refine WL.lv rfl (LV.fieldA Tryz.underlying47 rfl ti9.sz rfl) ?_
          refine WL.lv rfl (LV.load1 Tryz.underlying9 rfl rfl (Blk.cellN (SH.at hL2 (.tail _ (.head _))) 1 rfl _ (KB.refl No _))) ?_
          refine WL.lv rfl (LV.mv rfl) ?_
          refine WL.call rfl (XC.fn Tryz.func48 (by kernel_rfl) rfl rfl rfl) (rputn_calls (hz) hnm1) ?_
          rintro v_ w24 ⟨rfl, hk8⟩
          have hS88 := SH.same hL2 hk8
          refine WL.lv rfl (LV.as (c := true) (LV.eqI rfl rfl) (by decide)) ?_
          refine WL.lv rfl (LV.asg rfl) ?_
          refine WL.nil (thenQ.n ?_)
          refine WC.ret (?_)
          have hdo8 : DO X.F dr fl it = X.F := do_name hfine1 hd hnm1
          have hS89 : SH w S w24 [blkE X.b 62 #[(.map (some X.m1)), (.map (some X.m2))], mapG kS kV X.m1 X.kv1, mapG kS kV X.m2 X.kv2, insE idS eIt 68 X.P1, insE idS eSI 76 X.P2, blkE yb 43 #[(.slice A_f rs.length c_f)], rowE eSV 64 (.slice A_f rs.length c_f) rs, insE idS eIt 68 P3] := (SH.take 8 rfl (SH.front [_, _, _, _, _, _, _, _, _] (SH.front [_, _, _, _, _, _, _, _, _] (SH.front [_, _, _, _, _, _, _, _, _] (SH.front [_, _, _, _, _, _, _, _, _] (SH.front [_, _, _, _, _, _, _, _, _] (SH.front [_, _, _, _, _, _, _, _, _] (SH.front [_, _, _, _, _, _, _, _, _] (SH.front [_, _, _, _, _, _, _, _, _] hS88)))))))))
          exact ⟨_, fun a ha => res1 rfl ha rfl, _, _, _, _, _, _, _, _, rfl, (by rw [hdo8]; exact IXW.mono hv (by omega)), (by rw [hdo8]; exact hD), hS89⟩
  · refine WL.call rfl (XC.fn Tryz.func45 (by kernel_rfl) rfl rfl rfl) (fewn_calls (SH.stN hS1 h_it) hfine1) ?_
    rintro v_ w25 ⟨rfl, hk9⟩
    have hS90 := SH.same hS1 hk9
    refine WL.lv rfl (LV.mv rfl) ?_
    iterate 2 refine WL.lv rfl (LV.extract rfl rfl) ?_
    iterate 2 refine WL.lv rfl (LV.asg rfl) ?_
    refine WL.nil (thenQ.n ?_)
    iterate 2 refine WC.seq ?_
    refine WC.region ?_
    refine WL.lv rfl (LV.mv rfl) ?_
    refine WL.lv rfl (LV.notB rfl) ?_
    refine WL.nil (thenQ.n ?_)
    refine WC.condT rfl ?_
    refine WC.seq ?_
    refine WC.region ?_
    refine WL.lv rfl (LV.asg rfl) ?_
    refine WL.nil (thenQ.n ?_)
    refine WC.ret (thenQ.r <| ?_)
    have hdo9 : DO X.F dr fl it = X.F := do_bad hfine1
    have hS91 : SH w S w25 [blkE X.b 62 #[(.map (some X.m1)), (.map (some X.m2))], mapG kS kV X.m1 X.kv1, mapG kS kV X.m2 X.kv2, insE idS eIt 68 X.P1, insE idS eSI 76 X.P2, blkE yb 43 #[(.slice A_f rs.length c_f)], rowE eSV 64 (.slice A_f rs.length c_f) rs, insE idS eIt 68 P3] := (SH.take 8 rfl (SH.front [_, _, _, _, _, _, _, _] (SH.front [_, _, _, _, _, _, _, _] (SH.front [_, _, _, _, _, _, _, _] (SH.front [_, _, _, _, _, _, _, _] (SH.front [_, _, _, _, _, _, _, _] (SH.front [_, _, _, _, _, _, _, _] (SH.front [_, _, _, _, _, _, _, _] (SH.front [_, _, _, _, _, _, _, _] hS90)))))))))
    exact ⟨_, fun a ha => res1 rfl ha rfl, _, _, _, _, _, _, _, _, rfl, (by rw [hdo9]; exact IXW.mono hv (by omega)), (by rw [hdo9]; exact hD), hS91⟩

end Go.Proofs.YtigbphaimbhgjaaGreat

