/- strings.Builder. -/
import Derived.Test.YtjjilkibcomfcaaProg
import Derived.Test.YtjjilkibcomfcaaBuA
import Derived.Test.YtjjilkibcomfcaaGvX
import Derived.Test.YtjjilkibcomfcaaGvW
import Derived.Test.YtjjilkibcomfcaaGvJ
namespace Go.Proofs.Ytjjilkibcomfcaa
open Go Go.Gv Go.RowKit Go.Shelf
set_option linter.unusedVariables false
set_option linter.unusedSimpArgs false
theorem ti5 : TI Try.prog 5 (.int .u8 0) 1 1 := by unfold TI; kernel_rfl
theorem ti33 : TI Try.prog 33 (.slice none 0 0) 1 24 := by unfold TI; kernel_rfl
theorem ti40 : TI Try.prog 40 (.pointer none) 1 8 := by unfold TI; kernel_rfl
theorem ti42 : TI Try.prog 42 (.agg #[(.pointer none), (.slice none 0 0)]) 2 32 := by unfold TI; kernel_rfl

theorem cc1_calls {w : World} {S : Nat → Prop} {b : Nat} {bv : Value} (hS0 : SH w S w [blkE b 42 #[(.pointer none), bv]]) :
    Calls Try.prog 36 #[(.pointer (some ⟨b, 0, none⟩))] w fun e w' => ∃ v, e = .returned v ∧ (fun u w' => u = .tuple #[] ∧ SH w S w' [blkE b 42 #[.pointer (some ⟨b, 0, none⟩), bv]]) v w' := by
  have hS : SH w S w [blkE b 42 #[(.pointer none), bv]] := hS0
  refine calls (l := litOf [(.pointer (some ⟨b, 0, none⟩))] 0) Try.func36 rfl (n := 20) rfl (Nat.le_of_ble_eq_true rfl) (lit_args _) ?_
  refine WC.seq ?_
  refine WC.region ?_
  refine WL.lv rfl (LV.mv rfl) ?_
  refine WL.lv rfl (LV.nilCheck rfl) ?_
  refine WL.lv rfl (LV.fieldA Try.underlying42 rfl ti40.sz rfl) ?_
  refine WL.lv rfl (LV.load1 Try.underlying40 rfl rfl (Blk.cellN (SH.at hS (.head _)) 0 rfl _ (KB.refl No _))) ?_
  refine WL.lv rfl (LV.eqPN Try.underlying40 rfl rfl) ?_
  refine WL.nil (thenQ.n ?_)
  refine WC.condT rfl ?_
  refine WC.region ?_
  iterate 2 refine WL.lv rfl (LV.mv rfl) ?_
  refine WL.lv rfl (LV.toUns Try.underlying40 Try.underlying69 ti42 (by decide) (SH.at hS (.head _)) (Nat.le_of_ble_eq_true rfl) rfl) ?_
  refine WL.lv rfl (LV.noEsc Try.func43 (by kernel_rfl) (by kernel_rfl) (by kernel_rfl) (by kernel_rfl) rfl rfl) ?_
  refine WL.lv rfl (LV.fromUns Try.underlying69 Try.underlying40 ti42 (SH.at hS (.head _)) (show liesAt Try.prog Try.prog.depth 42 (2 / Try.prog.cellsOf 42) 0 42 1 = true by kernel_rfl) rfl) ?_
  refine WL.lv rfl (LV.nilCheck rfl) ?_
  refine WL.lv rfl (LV.fieldA Try.underlying42 rfl ti40.sz rfl) ?_
  refine WL.xse rfl (XSE.blk #[(.pointer (some ⟨b, 0, none⟩)), bv] hS (Nat.le_of_ble_eq_true rfl) ti40.sz rfl rfl rfl rfl) ?_
  rintro w1 ⟨hS1, hk1⟩
  refine WL.nil (?_)
  exact ⟨_, fun a ha => res0 rfl, ⟨rfl, hS1⟩⟩

theorem cc2_calls {w : World} {S : Nat → Prop} {b : Nat} {bv : Value} (hS0 : SH w S w [blkE b 42 #[(.pointer (some ⟨b, 0, none⟩)), bv]]) :
    Calls Try.prog 36 #[(.pointer (some ⟨b, 0, none⟩))] w fun e w' => ∃ v, e = .returned v ∧ (fun u w' => u = .tuple #[] ∧ SH w S w' [blkE b 42 #[.pointer (some ⟨b, 0, none⟩), bv]]) v w' := by
  have hS : SH w S w [blkE b 42 #[(.pointer (some ⟨b, 0, none⟩)), bv]] := hS0
  refine calls (l := litOf [(.pointer (some ⟨b, 0, none⟩))] 0) Try.func36 rfl (n := 20) rfl (Nat.le_of_ble_eq_true rfl) (lit_args _) ?_
  refine WC.seq ?_
  refine WC.region ?_
  refine WL.lv rfl (LV.mv rfl) ?_
  refine WL.lv rfl (LV.nilCheck rfl) ?_
  refine WL.lv rfl (LV.fieldA Try.underlying42 rfl ti40.sz rfl) ?_
  refine WL.lv rfl (LV.load1 Try.underlying40 rfl rfl (Blk.cellN (SH.at hS (.head _)) 0 rfl _ (KB.refl No _))) ?_
  refine WL.lv rfl (LV.eqPS Try.underlying40 rfl rfl) ?_
  refine WL.nil (thenQ.n ?_)
  refine WC.condF rfl ?_
  refine WC.seq ?_
  refine WC.region ?_
  refine WL.lv rfl (LV.mv rfl) ?_
  refine WL.lv rfl (LV.nilCheck rfl) ?_
  refine WL.lv rfl (LV.fieldA Try.underlying42 rfl ti40.sz rfl) ?_
  refine WL.lv rfl (LV.load1 Try.underlying40 rfl rfl (Blk.cellN (SH.at hS (.head _)) 0 rfl _ (KB.refl No _))) ?_
  refine WL.lv rfl (LV.mv rfl) ?_
  refine WL.lv rfl (LV.nePP Try.underlying40 ti42 rfl rfl) ?_
  refine WL.nil (thenQ.n ?_)
  refine WC.condF rfl ?_
  refine WC.skip (?_)
  exact ⟨_, fun a ha => res0 rfl, ⟨rfl, hS⟩⟩

theorem ccT_calls {w : World} {S : Nat → Prop} {p v : Value} {b : Nat} (hp : BP p b) (h : SH w S w [blkE b 42 #[p, v]]) :
    Calls Try.prog 36 #[.pointer (some ⟨b, 0, none⟩)] w fun e w' => ∃ u, e = .returned u ∧ (fun u w' => u = .tuple #[] ∧ SH w S w' [blkE b 42 #[.pointer (some ⟨b, 0, none⟩), v]]) u w' := by
  rcases hp with rfl | rfl
  · exact cc1_calls h
  · exact cc2_calls h

theorem ws_calls {w : World} {S : Nat → Prop} {b : Nat} {p : Value} {A : Option Addr} {c : Nat} {t s : ByteArray} (hS0 : SH w S w [blkE b 42 #[p, (.slice A ((bytesOf t).length) c)], rowE eU8 5 (.slice A ((bytesOf t).length) c) (bytesOf t)]) (hp : BP p b) (hl : t.size + s.size ≤ 100000000) :
    Calls Try.prog 34 #[(.pointer (some ⟨b, 0, none⟩)), (.string s)] w fun e w' => ∃ v, e = .returned v ∧ (fun v w' => ∃ (A' : Option Addr) (c' : Nat), v = .tuple #[.int .i64 s.size, .nilIface] ∧ SH w S w' [blkE b 42 #[(.pointer (some ⟨b, 0, none⟩)), (.slice A' ((bytesOf (t ++ s)).length) c')], rowE eU8 5 (.slice A' ((bytesOf (t ++ s)).length) c') (bytesOf (t ++ s))]) v w' := by
  have hbl_ := bytesOf_len t
  have hS : SH w S w [blkE b 42 #[p, (.slice A ((bytesOf t).length) c)], rowE eU8 5 (.slice A ((bytesOf t).length) c) (bytesOf t)] := hS0
  refine calls (l := litOf [(.pointer (some ⟨b, 0, none⟩)), (.string s)] 0) Try.func34 rfl (n := 19) rfl (Nat.le_of_ble_eq_true rfl) (lit_args _) ?_
  refine WC.seq ?_
  refine WC.region ?_
  iterate 2 refine WL.lv rfl (LV.asg rfl) ?_
  refine WL.nil (thenQ.n ?_)
  refine WC.seq ?_
  refine WC.region ?_
  refine WL.lv rfl (LV.mv rfl) ?_
  have hT1 := SH.sub (Es := [blkE b 42 #[p, (.slice A ((bytesOf t).length) c)]]) hS
  refine WL.call rfl (XC.fn Try.func36 (by kernel_rfl) rfl rfl rfl) (ccT_calls (hp) hT1) ?_
  rintro v_ w1 ⟨rfl, hU1⟩
  have hS1 := SH.back (Es := [blkE b 42 #[p, (.slice A ((bytesOf t).length) c)]]) hS hU1
  refine WL.nil (thenQ.n ?_)
  refine WC.seq ?_
  refine WC.region ?_
  iterate 2 refine WL.lv rfl (LV.mv rfl) ?_
  refine WL.lv rfl (LV.nilCheck rfl) ?_
  refine WL.lv rfl (LV.fieldA Try.underlying42 rfl ti33.sz rfl) ?_
  refine WL.lv rfl (LV.load1 Try.underlying33 rfl rfl (Blk.cellN (SH.at hS1 (.head _)) 1 rfl _ (KB.refl No _))) ?_
  refine WL.lv rfl (LV.mv rfl) ?_
  have hS2 : SH w S w1 [rowE eU8 5 (.slice A ((bytesOf t).length) c) (bytesOf t), blkE b 42 #[(.pointer (some ⟨b, 0, none⟩)), (.slice A ((bytesOf t).length) c)]] := (SH.front [blkE b 42 #[(.pointer (some ⟨b, 0, none⟩)), (.slice A ((bytesOf t).length) c)]] hS1)
  refine WL.xe rfl (XE.appendS hS2 Try.underlying33 Try.underlying9 ti5 rfl rfl (by omega)) ?_
  rintro _ w2 ⟨A1, c1, rfl, hS3, hk1⟩
  refine WL.lv rfl (LV.nilCheck rfl) ?_
  refine WL.lv rfl (LV.fieldA Try.underlying42 rfl ti33.sz rfl) ?_
  have hS5 : SH w S w2 [blkE b 42 #[(.pointer (some ⟨b, 0, none⟩)), (.slice A ((bytesOf t).length) c)], rowE eU8 5 (.slice A1 (((bytesOf t) ++ bytesOf s).length) c1) ((bytesOf t) ++ bytesOf s)] := (SH.front [rowE eU8 5 (.slice A1 (((bytesOf t) ++ bytesOf s).length) c1) ((bytesOf t) ++ bytesOf s)] hS3)
  refine WL.xse rfl (XSE.blk #[(.pointer (some ⟨b, 0, none⟩)), (.slice A1 (((bytesOf t) ++ bytesOf s).length) c1)] hS5 (Nat.le_of_ble_eq_true rfl) ti33.sz rfl rfl rfl rfl) ?_
  rintro w3 ⟨hS4, hk2⟩
  refine WL.nil (thenQ.n ?_)
  refine WC.seq ?_
  refine WC.region ?_
  refine WL.lv rfl (LV.mv rfl) ?_
  refine WL.lv rfl (LV.lenS Try.underlying9 rfl) ?_
  iterate 2 refine WL.lv rfl (LV.asg rfl) ?_
  refine WL.nil (thenQ.n ?_)
  refine WC.ret (?_)
  exact ⟨_, fun a ha => res2 rfl ha rfl rfl, (by rw [bytesOf_app]; exact ⟨_, _, rfl, hS4⟩)⟩

theorem wb_calls {w : World} {S : Nat → Prop} {b : Nat} {p : Value} {A : Option Addr} {c : Nat} {t : ByteArray} {x : Int} (hS0 : SH w S w [blkE b 42 #[p, (.slice A ((bytesOf t).length) c)], rowE eU8 5 (.slice A ((bytesOf t).length) c) (bytesOf t)]) (hp : BP p b) (hl : t.size ≤ 100000000) (hc0 : 0 ≤ x) (hc1 : x ≤ 255) :
    Calls Try.prog 25 #[(.pointer (some ⟨b, 0, none⟩)), (.int .u8 x)] w fun e w' => ∃ v, e = .returned v ∧ (fun v w' => ∃ (A' : Option Addr) (c' : Nat), v = .nilIface ∧ SH w S w' [blkE b 42 #[(.pointer (some ⟨b, 0, none⟩)), (.slice A' ((bytesOf (t ++ ⟨#[x.toNat.toUInt8]⟩)).length) c')], rowE eU8 5 (.slice A' ((bytesOf (t ++ ⟨#[x.toNat.toUInt8]⟩)).length) c') (bytesOf (t ++ ⟨#[x.toNat.toUInt8]⟩))]) v w' := by
  have hbl_ := bytesOf_len t
  have hS : SH w S w [blkE b 42 #[p, (.slice A ((bytesOf t).length) c)], rowE eU8 5 (.slice A ((bytesOf t).length) c) (bytesOf t)] := hS0
  refine calls (l := litOf [(.pointer (some ⟨b, 0, none⟩)), (.int .u8 x)] 0) Try.func25 rfl (n := 17) rfl (Nat.le_of_ble_eq_true rfl) (lit_args _) ?_
  refine WC.seq ?_
  refine WC.region ?_
  refine WL.lv rfl (LV.asg rfl) ?_
  refine WL.nil (thenQ.n ?_)
  refine WC.seq ?_
  refine WC.region ?_
  refine WL.lv rfl (LV.mv rfl) ?_
  have hT1 := SH.sub (Es := [blkE b 42 #[p, (.slice A ((bytesOf t).length) c)]]) hS
  refine WL.call rfl (XC.fn Try.func36 (by kernel_rfl) rfl rfl rfl) (ccT_calls (hp) hT1) ?_
  rintro v_ w1 ⟨rfl, hU1⟩
  have hS1 := SH.back (Es := [blkE b 42 #[p, (.slice A ((bytesOf t).length) c)]]) hS hU1
  refine WL.nil (thenQ.n ?_)
  refine WC.seq ?_
  refine WC.region ?_
  iterate 2 refine WL.lv rfl (LV.mv rfl) ?_
  refine WL.lv rfl (LV.nilCheck rfl) ?_
  refine WL.lv rfl (LV.fieldA Try.underlying42 rfl ti33.sz rfl) ?_
  refine WL.lv rfl (LV.load1 Try.underlying33 rfl rfl (Blk.cellN (SH.at hS1 (.head _)) 1 rfl _ (KB.refl No _))) ?_
  refine WL.lv rfl (LV.mv rfl) ?_
  refine WL.xe rfl (XE.buildSlice (E := eU8) [(0, (.int .u8 x))] #[(.int .u8 x)] [x] hS1 Try.underlying33 ti5 rfl (by decide) (by kernel_rfl) (.inr rfl) rfl rfl (by decide)) ?_
  rintro _ w2 ⟨b1, rfl, hS2, hk1⟩
  have hS3 : SH w S w2 [rowE eU8 5 (.slice A ((bytesOf t).length) c) (bytesOf t), rowE eU8 5 (.slice (some ⟨b1, 0, none⟩) 1 1) [x], blkE b 42 #[(.pointer (some ⟨b, 0, none⟩)), (.slice A ((bytesOf t).length) c)]] := (SH.front [rowE eU8 5 (.slice (some ⟨b1, 0, none⟩) 1 1) [x], blkE b 42 #[(.pointer (some ⟨b, 0, none⟩)), (.slice A ((bytesOf t).length) c)]] hS2)
  refine WL.xe rfl (XE.append hS3 Try.underlying33 ti5 rfl (St.now (SH.rd hS3 (.tail _ (.head _)))) rfl rfl (by first | omega | simp only [List.length_append, List.length_cons, List.length_nil, List.length_take, List.length_reverse, List.length_drop] at *; omega) (by first | omega | simp only [List.length_append, List.length_cons, List.length_nil, List.length_take, List.length_reverse, List.length_drop] at *; omega)) ?_
  rintro _ w3 ⟨A1, c1, rfl, hS4, hk2⟩
  refine WL.lv rfl (LV.nilCheck rfl) ?_
  refine WL.lv rfl (LV.fieldA Try.underlying42 rfl ti33.sz rfl) ?_
  have hS6 : SH w S w3 [blkE b 42 #[(.pointer (some ⟨b, 0, none⟩)), (.slice A ((bytesOf t).length) c)], rowE eU8 5 (.slice A1 (((bytesOf t) ++ [x]).length) c1) ((bytesOf t) ++ [x]), rowE eU8 5 (.slice (some ⟨b1, 0, none⟩) 1 1) [x]] := (SH.front [rowE eU8 5 (.slice A1 (((bytesOf t) ++ [x]).length) c1) ((bytesOf t) ++ [x]), rowE eU8 5 (.slice (some ⟨b1, 0, none⟩) 1 1) [x]] hS4)
  refine WL.xse rfl (XSE.blk #[(.pointer (some ⟨b, 0, none⟩)), (.slice A1 (((bytesOf t) ++ [x]).length) c1)] hS6 (Nat.le_of_ble_eq_true rfl) ti33.sz rfl rfl rfl rfl) ?_
  rintro w4 ⟨hS5, hk3⟩
  refine WL.nil (thenQ.n ?_)
  refine WC.seq ?_
  refine WC.region ?_
  refine WL.lv rfl (LV.asg rfl) ?_
  refine WL.nil (thenQ.n ?_)
  refine WC.ret (?_)
  have hS7 : SH w S w4 [blkE b 42 #[(.pointer (some ⟨b, 0, none⟩)), (.slice A1 (((bytesOf t) ++ [x]).length) c1)], rowE eU8 5 (.slice A1 (((bytesOf t) ++ [x]).length) c1) ((bytesOf t) ++ [x])] := (SH.take 2 rfl (SH.front [rowE eU8 5 (.slice A1 (((bytesOf t) ++ [x]).length) c1) ((bytesOf t) ++ [x])] (SH.front [blkE b 42 #[(.pointer (some ⟨b, 0, none⟩)), (.slice A1 (((bytesOf t) ++ [x]).length) c1)]] hS5)))
  exact ⟨_, fun a ha => res1 rfl ha rfl, (by rw [bytesOf_app, bytesOf_lit _ hc0 hc1]; exact ⟨_, _, rfl, hS7⟩)⟩

theorem bs_calls {w : World} {S : Nat → Prop} {b : Nat} {p : Value} {A : Option Addr} {c : Nat} {t : ByteArray} (hS0 : SH w S w [blkE b 42 #[p, (.slice A ((bytesOf t).length) c)], rowE eU8 5 (.slice A ((bytesOf t).length) c) (bytesOf t)]) :
    Calls Try.prog 26 #[(.pointer (some ⟨b, 0, none⟩))] w fun e w' => ∃ v, e = .returned v ∧ (fun v w' => v = .string t ∧ SH w S w' []) v w' := by
  have hS : SH w S w [blkE b 42 #[p, (.slice A ((bytesOf t).length) c)], rowE eU8 5 (.slice A ((bytesOf t).length) c) (bytesOf t)] := hS0
  refine calls (l := litOf [(.pointer (some ⟨b, 0, none⟩))] 0) Try.func26 rfl (n := 14) rfl (Nat.le_of_ble_eq_true rfl) (lit_args _) ?_
  refine WC.seq ?_
  refine WC.region ?_
  refine WL.lv rfl (LV.asg rfl) ?_
  refine WL.nil (thenQ.n ?_)
  refine WC.seq ?_
  have hS1 := SH.drew hS
  refine WC.regionD [] (fun _ => True) [(.pure, 0), (.pure, 1), (.pure, 2), (.pure, 5), (.pure, 6), (.pure, 7), (.fork, 0), (.fork, 0), (.fork, 0), (.fork, 0), (.fork, 0), (.fork, 0)] (by kernel_rfl) (by kernel_rfl) trivial ?_
  refine WS.pure rfl rfl (fun _ => LV.mv rfl) ?_
  refine WS.pure rfl rfl (fun _ => LV.nilCheck rfl) ?_
  refine WS.pure rfl rfl (fun _ => LV.fieldA Try.underlying42 rfl ti33.sz rfl) ?_
  refine WS.pure rfl rfl (fun _ => LV.mv rfl) ?_
  refine WS.pure rfl rfl (fun _ => LV.nilCheck rfl) ?_
  refine WS.pure rfl rfl (fun _ => LV.fieldA Try.underlying42 rfl ti33.sz rfl) ?_
  refine WS.fork (WSX.two 3 8 (by kernel_rfl) ?_ ?_)
  · refine WO.lvT rfl rfl (LV.load1 Try.underlying33 rfl rfl (Blk.cellN (SH.at hS1 (.head _)) 1 rfl _ (KB.refl No _))) ?_
    refine WSX.of [(.fork, 0), (.fork, 0), (.fork, 0), (.fork, 0), (.fork, 0)] (by kernel_rfl) rfl ?_
    refine WS.fork (WSX.two 4 8 (by kernel_rfl) ?_ ?_)
    · have hS2 : SH w S w.drew [rowE eU8 5 (.slice A ((bytesOf t).length) c) (bytesOf t), blkE b 42 #[p, (.slice A ((bytesOf t).length) c)]] := (SH.front [blkE b 42 #[p, (.slice A ((bytesOf t).length) c)]] hS1)
      refine WO.xe rfl rfl (XE.usd (s := t) hS2 rfl Try.underlying61) ?_
      rintro _ w1 ⟨ad1, rfl, hu1, hS3, hk1⟩
      refine ⟨fun h_ => trivial, ?_⟩
      refine WSX.of [(.forced, 8), (.pure, 9), (.forced, 10), (.pure, 11)] (by kernel_rfl) rfl ?_
      refine WS.lvT rfl rfl (LV.load1 Try.underlying33 rfl rfl (Blk.cellN (SH.at hS3 (.tail _ (.head _))) 1 rfl _ (KB.refl No _))) ?_
      refine WS.pure rfl rfl (fun _ => LV.lenL Try.underlying33 rfl) ?_
      refine WS.xe rfl rfl (XE.us (s := t) hS3 (bytesOf_len _) rfl rfl hu1 Try.underlying61 (by kernel_rfl)) ?_
      rintro _ w2 ⟨rfl, hS4, hk2⟩
      refine ⟨fun h_ => trivial, ?_⟩
      refine WS.pure rfl rfl (fun _ => LV.asg rfl) ?_
      refine WS.nil (thenQ.n ?_)
      refine WC.ret (?_)
      exact ⟨_, fun a ha => res1 rfl ha rfl, rfl, SH.take 0 rfl hS4⟩
    · refine WO.lvT rfl rfl (LV.load1 Try.underlying33 rfl rfl (Blk.cellN (SH.at hS1 (.head _)) 1 rfl _ (KB.refl No _))) ?_
      refine WSX.of [(.pure, 9), (.forced, 4), (.forced, 10), (.pure, 11)] (by kernel_rfl) rfl ?_
      refine WS.pure rfl rfl (fun _ => LV.lenL Try.underlying33 rfl) ?_
      have hS5 : SH w S w.drew [rowE eU8 5 (.slice A ((bytesOf t).length) c) (bytesOf t), blkE b 42 #[p, (.slice A ((bytesOf t).length) c)]] := (SH.front [blkE b 42 #[p, (.slice A ((bytesOf t).length) c)]] hS1)
      refine WS.xe rfl rfl (XE.usd (s := t) hS5 rfl Try.underlying61) ?_
      rintro _ w3 ⟨ad2, rfl, hu2, hS6, hk3⟩
      refine ⟨fun h_ => trivial, ?_⟩
      refine WS.xe rfl rfl (XE.us (s := t) hS6 (bytesOf_len _) rfl rfl hu2 Try.underlying61 (by kernel_rfl)) ?_
      rintro _ w4 ⟨rfl, hS7, hk4⟩
      refine ⟨fun h_ => trivial, ?_⟩
      refine WS.pure rfl rfl (fun _ => LV.asg rfl) ?_
      refine WS.nil (thenQ.n ?_)
      refine WC.ret (?_)
      exact ⟨_, fun a ha => res1 rfl ha rfl, rfl, SH.take 0 rfl hS7⟩
  · refine WO.lvT rfl rfl (LV.load1 Try.underlying33 rfl rfl (Blk.cellN (SH.at hS1 (.head _)) 1 rfl _ (KB.refl No _))) ?_
    refine WSX.of [(.pure, 9), (.forced, 3), (.forced, 4), (.forced, 10), (.pure, 11)] (by kernel_rfl) rfl ?_
    refine WS.pure rfl rfl (fun _ => LV.lenL Try.underlying33 rfl) ?_
    refine WS.lvT rfl rfl (LV.load1 Try.underlying33 rfl rfl (Blk.cellN (SH.at hS1 (.head _)) 1 rfl _ (KB.refl No _))) ?_
    have hS8 : SH w S w.drew [rowE eU8 5 (.slice A ((bytesOf t).length) c) (bytesOf t), blkE b 42 #[p, (.slice A ((bytesOf t).length) c)]] := (SH.front [blkE b 42 #[p, (.slice A ((bytesOf t).length) c)]] hS1)
    refine WS.xe rfl rfl (XE.usd (s := t) hS8 rfl Try.underlying61) ?_
    rintro _ w5 ⟨ad3, rfl, hu3, hS9, hk5⟩
    refine ⟨fun h_ => trivial, ?_⟩
    refine WS.xe rfl rfl (XE.us (s := t) hS9 (bytesOf_len _) rfl rfl hu3 Try.underlying61 (by kernel_rfl)) ?_
    rintro _ w6 ⟨rfl, hS10, hk6⟩
    refine ⟨fun h_ => trivial, ?_⟩
    refine WS.pure rfl rfl (fun _ => LV.asg rfl) ?_
    refine WS.nil (thenQ.n ?_)
    refine WC.ret (?_)
    exact ⟨_, fun a ha => res1 rfl ha rfl, rfl, SH.take 0 rfl hS10⟩

end Go.Proofs.Ytjjilkibcomfcaa
