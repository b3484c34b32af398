/- Summaries compared. -/
import Derived.Test.YtomeffnlmefnlaaFlX
import Derived.Test.YtomeffnlmefnlaaScO
import Derived.Test.YtomeffnlmefnlaaSxA
import Derived.Test.YtomeffnlmefnlaaGvJ
import Derived.Test.YtomeffnlmefnlaaProg
import Derived.Test.YtomeffnlmefnlaaDcA
import Derived.Test.YtomeffnlmefnlaaGvX
import Derived.Test.YtomeffnlmefnlaaGvG
import Derived.Test.YtomeffnlmefnlaaBuA
import Derived.Test.YtomeffnlmefnlaaGvW
namespace Go.Proofs.Ytomeffnlmefnlaa
open Go Go.Gv Go.RowKit Go.Mys Go.Num Go.Scr Go.Flt Go.Sts Go.Dec Go.Shelf
set_option linter.unusedVariables false
set_option linter.unusedSimpArgs false
theorem ti5 : TI Try.prog 5 (.int .u8 0) 1 1 := by unfold TI; kernel_rfl
theorem ti30 : TI Try.prog 30 (.agg #[(.int .i64 0), (.int .i64 0)]) 2 16 := by unfold TI; kernel_rfl
theorem ti38 : TI Try.prog 38 (.agg #[(.int .i64 0), (.int .i64 0), (.float .f64 0), (.float .f64 0), (.int .i64 0), (.int .i64 0)]) 6 48 := by unfold TI; kernel_rfl
theorem ti53 : TI Try.prog 53 (.slice none 0 0) 1 24 := by unfold TI; kernel_rfl
theorem ti84 : TI Try.prog 84 (.agg #[(.int .u8 0), (.int .u8 0), (.int .u8 0), (.int .u8 0), (.int .u8 0), (.int .u8 0), (.int .u8 0), (.int .u8 0), (.int .u8 0), (.int .u8 0)]) 10 10 := by unfold TI; kernel_rfl
theorem ti89 : TI Try.prog 89 (.pointer none) 1 8 := by unfold TI; kernel_rfl
theorem ti91 : TI Try.prog 91 (.agg #[(.pointer none), (.slice none 0 0)]) 2 32 := by unfold TI; kernel_rfl

theorem decimal_calls {w : World} {n : Int}  :
    Calls Try.prog 35 #[(.int .i64 n)] w fun e w' => ∃ v, e = .returned v ∧ (fun v w' => v = .string (DEC n) ∧ KB No w w') v w' := by
  have hS : SH w No w [] := SH.nil _ _
  refine calls (l := litOf [(.int .i64 n)] 0) Try.func35 rfl (n := 26) rfl (Nat.le_of_ble_eq_true rfl) (lit_args _) ?_
  refine WC.seq ?_
  refine WC.region ?_
  refine WL.lv rfl (LV.asg rfl) ?_
  refine WL.nil (thenQ.n ?_)
  iterate 2 refine WC.seq ?_
  refine WC.region ?_
  refine WL.lv rfl (LV.mv rfl) ?_
  rcases Decidable.em (n < 0) with hg1 | hg1
  · refine WL.lv rfl (LV.as (LV.ltI rfl rfl) (decide_eq_true hg1)) ?_
    refine WL.lv rfl (LV.mv rfl) ?_
    iterate 2 refine WL.off rfl ?_
    refine WL.lv rfl (LV.pickT rfl rfl) ?_
    refine WL.nil (thenQ.n ?_)
    refine WC.condT rfl ?_
    refine WC.seq ?_
    refine WC.region ?_
    refine WL.lv rfl (LV.asg rfl) ?_
    refine WL.nil (thenQ.n ?_)
    refine WC.ret (thenQ.r <| ?_)
    exact ⟨_, fun a ha => res1 rfl ha rfl, congrArg Value.string ((DEC_out (by omega)).symm), hS.kb⟩
  · refine WL.lv rfl (LV.as (LV.ltI rfl rfl) (decide_eq_false hg1)) ?_
    iterate 2 refine WL.lv rfl (LV.mv rfl) ?_
    refine WL.lv rfl (LV.gtI rfl rfl) ?_
    refine WL.lv rfl (LV.pickF rfl rfl) ?_
    refine WL.nil (thenQ.n ?_)
    refine WC.condP (p := n > 2147483647) rfl (fun hc1 => ?_) (fun hc1 => ?_)
    · skip
      refine WC.seq ?_
      refine WC.region ?_
      refine WL.lv rfl (LV.asg rfl) ?_
      refine WL.nil (thenQ.n ?_)
      refine WC.ret (thenQ.r <| ?_)
      exact ⟨_, fun a ha => res1 rfl ha rfl, congrArg Value.string ((DEC_out (by omega)).symm), hS.kb⟩
    · skip
      refine WC.skip (thenQ.n ?_)
      refine WC.seq ?_
      refine WC.region ?_
      refine WL.xe rfl (XE.alloc #[(.int .u8 0), (.int .u8 0), (.int .u8 0), (.int .u8 0), (.int .u8 0), (.int .u8 0), (.int .u8 0), (.int .u8 0), (.int .u8 0), (.int .u8 0)] hS ti84 rfl) ?_
      rintro _ w1 ⟨b1, rfl, hS1, hk1⟩
      have hS2 := SH.arr (E := eU8) (n := 10) (List.replicate 10 (0 : Int)) hS1 (by rfl) (by simp) (by decide)
      refine WL.nil (thenQ.n ?_)
      refine WC.seq ?_
      refine WC.region ?_
      refine WL.lv rfl (LV.asg rfl) ?_
      refine WL.nil (thenQ.n ?_)
      refine WC.block ?_
      refine WC.loop (fun m_ f_ w_ => ∃ (nu : Int) (i : Int) (b2 : List Int), (Wr n i nu b2) ∧ SH w No w_ [rowE eU8 84 (.slice (some ⟨b1, 0, none⟩) 10 10) b2] ∧ m_ = nu.toNat ∧ Weak (lit [(0, (.int .i64 nu)), (3, (.pointer (some ⟨b1, 0, none⟩))), (4, (.int .i64 i))]) f_) _ ⟨n, 10, (List.replicate 10 (0 : Int)), (Wr.z (by omega) (by omega) (by simp)), hS2, rfl, Weak.cons rfl <| Weak.cons rfl <| Weak.cons rfl <| Weak.nil _⟩ ?_
      rintro m1 f1 w2 ⟨nu, i, b2, q1, hL1, rfl, hw1⟩
      refine WC.weak hw1 ?_
      clear hw1
      have hb_ := q1.len
      have hi0_ := q1.ip
      have hi1_ := q1.i1
      have hn0_ := q1.n0
      have hn1_ := q1.n1
      refine WC.block ?_
      refine WC.seq ?_
      refine WC.region ?_
      refine WL.lv rfl (LV.mv rfl) ?_
      refine WL.lv rfl (LV.sub rfl rfl (wr64 (by omega) (by omega))) ?_
      refine WL.lv rfl (LV.asg rfl) ?_
      refine WL.nil (thenQ.n ?_)
      refine WC.seq ?_
      refine WC.region ?_
      iterate 2 refine WL.lv rfl (LV.mv rfl) ?_
      refine WL.lv rfl (LV.rem rfl rfl (by decide) (rem64 (by omega) rfl)) ?_
      refine WL.lv rfl (LV.add rfl rfl (wr64 (by omega) (by omega))) ?_
      refine WL.lv rfl (LV.cvtI Try.underlying3 Try.underlying5 rfl (wrU8 (by omega) (by omega))) ?_
      obtain ⟨A1, c1, e1, g1⟩ := St.elt (SH.rd hL1 (.head _)) 0 (i - 1) (by omega) (by omega)
      obtain rfl : (⟨b1, 0, none⟩ : Addr) = A1 := Option.some.inj (Value.slice.inj e1).1
      refine WL.lv rfl (LV.idxArr Try.underlying84 ti5.sz rfl rfl (by omega) (by omega)) ?_
      refine WL.xse rfl (XSE.row1 (i := i - 1) (o := 0) (k := 0) (48 + (nu % 10)) hL1 e1 (by omega) (by omega) (by decide) ti5.sz rfl rfl rfl rfl) ?_
      rintro w3 ⟨hS3, hk2⟩
      refine WL.nil (thenQ.n ?_)
      refine WC.seq ?_
      refine WC.region ?_
      refine WL.lv rfl (LV.mv rfl) ?_
      refine WL.lv rfl (LV.quo rfl rfl (by decide) (quo64 (by omega) (by omega) (by decide) rfl)) ?_
      refine WL.lv rfl (LV.asg rfl) ?_
      refine WL.nil (thenQ.n ?_)
      refine WC.seq ?_
      refine WC.region ?_
      refine WL.lv rfl (LV.mv rfl) ?_
      refine WL.lv rfl (LV.eqI rfl rfl) ?_
      refine WL.nil (thenQ.n ?_)
      refine WC.condP (p := (nu / 10) = 0) rfl (fun hc2 => ?_) (fun hc2 => ?_)
      · skip
        refine WC.seq ?_
        refine WC.region ?_
        refine WL.lv rfl (LV.mv rfl) ?_
        have hcap1 : 10 ≤ 10 := (Rd.cap (St.now (SH.rd hS3 (.head _))))
        refine WL.lv rfl (LV.cutArr Try.underlying84 ti5.sz rfl rfl rfl rfl ⟨.inr ⟨.i64, by rw [Int.toNat_of_nonneg (a := i - 1) (by omega)] <;> rfl⟩, .inl ⟨rfl, rfl, rfl⟩, .inl ⟨rfl, rfl⟩⟩ (by omega) (by omega) (by omega)) ?_
        refine WL.lv rfl (LV.strOf Try.underlying53 Try.underlying5 Try.underlying9 rfl (((SH.rd hS3 (.head _)).imp fun _ h => Rd.cut h (by omega) (by omega) (by omega) (by omega)) _ (KB.refl No _))) ?_
        refine WL.lv rfl (LV.asg rfl) ?_
        refine WL.nil (thenQ.n ?_)
        refine WC.ret (blockQ.r <| thenQ.r <| blockQ.r <| ?_)
        exact ⟨_, fun a ha => res1 rfl ha rfl, congrArg Value.string (by rw [DEC_in (by omega), q1.fin (by omega), List.take_of_length_le (by simp; omega)]), hS3.kb⟩
      · skip
        refine WC.skip (blockQ.n <| thenQ.n ?_)
        exact ⟨_, by omega, nu / 10, i - 1, (b2.set (i - 1).toNat (48 + (nu % 10))), (q1.more (by omega)), hS3, rfl, Weak.cons rfl <| Weak.cons rfl <| Weak.cons rfl <| Weak.nil _⟩

theorem cc1_calls {w : World} {S : Nat → Prop} {b : Nat} {bv : Value} (hS0 : SH w S w [blkE b 91 #[(.pointer none), bv]]) :
    Calls Try.prog 69 #[(.pointer (some ⟨b, 0, none⟩))] w fun e w' => ∃ v, e = .returned v ∧ (fun u w' => u = .tuple #[] ∧ SH w S w' [blkE b 91 #[.pointer (some ⟨b, 0, none⟩), bv]]) v w' := by
  have hS : SH w S w [blkE b 91 #[(.pointer none), bv]] := hS0
  refine calls (l := litOf [(.pointer (some ⟨b, 0, none⟩))] 0) Try.func69 rfl (n := 20) rfl (Nat.le_of_ble_eq_true rfl) (lit_args _) ?_
  refine WC.seq ?_
  refine WC.region ?_
  refine WL.lv rfl (LV.mv rfl) ?_
  refine WL.lv rfl (LV.nilCheck rfl) ?_
  refine WL.lv rfl (LV.fieldA Try.underlying91 rfl ti89.sz rfl) ?_
  refine WL.lv rfl (LV.load1 Try.underlying89 rfl rfl (Blk.cellN (SH.at hS (.head _)) 0 rfl _ (KB.refl No _))) ?_
  refine WL.lv rfl (LV.eqPN Try.underlying89 rfl rfl) ?_
  refine WL.nil (thenQ.n ?_)
  refine WC.condT rfl ?_
  refine WC.region ?_
  iterate 2 refine WL.lv rfl (LV.mv rfl) ?_
  refine WL.lv rfl (LV.toUns Try.underlying89 Try.underlying119 ti91 (by decide) (SH.at hS (.head _)) (Nat.le_of_ble_eq_true rfl) rfl) ?_
  refine WL.lv rfl (LV.noEsc Try.func77 (by kernel_rfl) (by kernel_rfl) (by kernel_rfl) (by kernel_rfl) rfl rfl) ?_
  refine WL.lv rfl (LV.fromUns Try.underlying119 Try.underlying89 ti91 (SH.at hS (.head _)) (show liesAt Try.prog Try.prog.depth 91 (2 / Try.prog.cellsOf 91) 0 91 1 = true by kernel_rfl) rfl) ?_
  refine WL.lv rfl (LV.nilCheck rfl) ?_
  refine WL.lv rfl (LV.fieldA Try.underlying91 rfl ti89.sz rfl) ?_
  refine WL.xse rfl (XSE.blk #[(.pointer (some ⟨b, 0, none⟩)), bv] hS (Nat.le_of_ble_eq_true rfl) ti89.sz rfl rfl rfl rfl) ?_
  rintro w1 ⟨hS1, hk1⟩
  refine WL.nil (?_)
  exact ⟨_, fun a ha => res0 rfl, ⟨rfl, hS1⟩⟩

theorem cc2_calls {w : World} {S : Nat → Prop} {b : Nat} {bv : Value} (hS0 : SH w S w [blkE b 91 #[(.pointer (some ⟨b, 0, none⟩)), bv]]) :
    Calls Try.prog 69 #[(.pointer (some ⟨b, 0, none⟩))] w fun e w' => ∃ v, e = .returned v ∧ (fun u w' => u = .tuple #[] ∧ SH w S w' [blkE b 91 #[.pointer (some ⟨b, 0, none⟩), bv]]) v w' := by
  have hS : SH w S w [blkE b 91 #[(.pointer (some ⟨b, 0, none⟩)), bv]] := hS0
  refine calls (l := litOf [(.pointer (some ⟨b, 0, none⟩))] 0) Try.func69 rfl (n := 20) rfl (Nat.le_of_ble_eq_true rfl) (lit_args _) ?_
  refine WC.seq ?_
  refine WC.region ?_
  refine WL.lv rfl (LV.mv rfl) ?_
  refine WL.lv rfl (LV.nilCheck rfl) ?_
  refine WL.lv rfl (LV.fieldA Try.underlying91 rfl ti89.sz rfl) ?_
  refine WL.lv rfl (LV.load1 Try.underlying89 rfl rfl (Blk.cellN (SH.at hS (.head _)) 0 rfl _ (KB.refl No _))) ?_
  refine WL.lv rfl (LV.eqPS Try.underlying89 rfl rfl) ?_
  refine WL.nil (thenQ.n ?_)
  refine WC.condF rfl ?_
  refine WC.seq ?_
  refine WC.region ?_
  refine WL.lv rfl (LV.mv rfl) ?_
  refine WL.lv rfl (LV.nilCheck rfl) ?_
  refine WL.lv rfl (LV.fieldA Try.underlying91 rfl ti89.sz rfl) ?_
  refine WL.lv rfl (LV.load1 Try.underlying89 rfl rfl (Blk.cellN (SH.at hS (.head _)) 0 rfl _ (KB.refl No _))) ?_
  refine WL.lv rfl (LV.mv rfl) ?_
  refine WL.lv rfl (LV.nePP Try.underlying89 ti91 rfl rfl) ?_
  refine WL.nil (thenQ.n ?_)
  refine WC.condF rfl ?_
  refine WC.skip (?_)
  exact ⟨_, fun a ha => res0 rfl, ⟨rfl, hS⟩⟩

theorem ccT_calls {w : World} {S : Nat → Prop} {p v : Value} {b : Nat} (hp : BP p b) (h : SH w S w [blkE b 91 #[p, v]]) :
    Calls Try.prog 69 #[.pointer (some ⟨b, 0, none⟩)] w fun e w' => ∃ u, e = .returned u ∧ (fun u w' => u = .tuple #[] ∧ SH w S w' [blkE b 91 #[.pointer (some ⟨b, 0, none⟩), v]]) u w' := by
  rcases hp with rfl | rfl
  · exact cc1_calls h
  · exact cc2_calls h

theorem ws_calls {w : World} {S : Nat → Prop} {b : Nat} {p : Value} {A : Option Addr} {c : Nat} {t s : ByteArray} (hS0 : SH w S w [blkE b 91 #[p, (.slice A ((bytesOf t).length) c)], rowE eU8 5 (.slice A ((bytesOf t).length) c) (bytesOf t)]) (hp : BP p b) (hl : t.size + s.size ≤ 100000000) :
    Calls Try.prog 51 #[(.pointer (some ⟨b, 0, none⟩)), (.string s)] w fun e w' => ∃ v, e = .returned v ∧ (fun v w' => ∃ (A' : Option Addr) (c' : Nat), v = .tuple #[.int .i64 s.size, .nilIface] ∧ SH w S w' [blkE b 91 #[(.pointer (some ⟨b, 0, none⟩)), (.slice A' ((bytesOf (t ++ s)).length) c')], rowE eU8 5 (.slice A' ((bytesOf (t ++ s)).length) c') (bytesOf (t ++ s))]) v w' := by
  have hbl_ := bytesOf_len t
  have hS : SH w S w [blkE b 91 #[p, (.slice A ((bytesOf t).length) c)], rowE eU8 5 (.slice A ((bytesOf t).length) c) (bytesOf t)] := hS0
  refine calls (l := litOf [(.pointer (some ⟨b, 0, none⟩)), (.string s)] 0) Try.func51 rfl (n := 19) rfl (Nat.le_of_ble_eq_true rfl) (lit_args _) ?_
  refine WC.seq ?_
  refine WC.region ?_
  iterate 2 refine WL.lv rfl (LV.asg rfl) ?_
  refine WL.nil (thenQ.n ?_)
  refine WC.seq ?_
  refine WC.region ?_
  refine WL.lv rfl (LV.mv rfl) ?_
  have hT1 := SH.sub (Es := [_]) hS
  refine WL.call rfl (XC.fn Try.func69 (by kernel_rfl) rfl rfl rfl) (ccT_calls (hp) hT1) ?_
  rintro v_ w1 ⟨rfl, hU1⟩
  have hS1 := SH.back (Es := [_]) hS hU1
  refine WL.nil (thenQ.n ?_)
  refine WC.seq ?_
  refine WC.region ?_
  iterate 2 refine WL.lv rfl (LV.mv rfl) ?_
  refine WL.lv rfl (LV.nilCheck rfl) ?_
  refine WL.lv rfl (LV.fieldA Try.underlying91 rfl ti53.sz rfl) ?_
  refine WL.lv rfl (LV.load1 Try.underlying53 rfl rfl (Blk.cellN (SH.at hS1 (.head _)) 1 rfl _ (KB.refl No _))) ?_
  refine WL.lv rfl (LV.mv rfl) ?_
  have hS2 : SH w S w1 [rowE eU8 5 (.slice A ((bytesOf t).length) c) (bytesOf t), blkE b 91 #[(.pointer (some ⟨b, 0, none⟩)), (.slice A ((bytesOf t).length) c)]] := (SH.front [_] hS1)
  refine WL.xe rfl (XE.appendS hS2 Try.underlying53 Try.underlying9 ti5 rfl rfl (by omega)) ?_
  rintro _ w2 ⟨A1, c1, rfl, hS3, hk1⟩
  refine WL.lv rfl (LV.nilCheck rfl) ?_
  refine WL.lv rfl (LV.fieldA Try.underlying91 rfl ti53.sz rfl) ?_
  have hS5 : SH w S w2 [blkE b 91 #[(.pointer (some ⟨b, 0, none⟩)), (.slice A ((bytesOf t).length) c)], rowE eU8 5 (.slice A1 (((bytesOf t) ++ bytesOf s).length) c1) ((bytesOf t) ++ bytesOf s)] := (SH.front [_] hS3)
  refine WL.xse rfl (XSE.blk #[(.pointer (some ⟨b, 0, none⟩)), (.slice A1 (((bytesOf t) ++ bytesOf s).length) c1)] hS5 (Nat.le_of_ble_eq_true rfl) ti53.sz rfl rfl rfl rfl) ?_
  rintro w3 ⟨hS4, hk2⟩
  refine WL.nil (thenQ.n ?_)
  refine WC.seq ?_
  refine WC.region ?_
  refine WL.lv rfl (LV.mv rfl) ?_
  refine WL.lv rfl (LV.lenS Try.underlying9 rfl) ?_
  iterate 2 refine WL.lv rfl (LV.asg rfl) ?_
  refine WL.nil (thenQ.n ?_)
  refine WC.ret (?_)
  exact ⟨_, fun a ha => res2 rfl ha rfl rfl, (by rw [bytesOf_app]; exact ⟨_, _, rfl, hS4⟩)⟩

theorem bs_calls {w : World} {S : Nat → Prop} {b : Nat} {p : Value} {A : Option Addr} {c : Nat} {t : ByteArray} (hS0 : SH w S w [blkE b 91 #[p, (.slice A ((bytesOf t).length) c)], rowE eU8 5 (.slice A ((bytesOf t).length) c) (bytesOf t)]) :
    Calls Try.prog 53 #[(.pointer (some ⟨b, 0, none⟩))] w fun e w' => ∃ v, e = .returned v ∧ (fun v w' => v = .string t ∧ SH w S w' []) v w' := by
  have hS : SH w S w [blkE b 91 #[p, (.slice A ((bytesOf t).length) c)], rowE eU8 5 (.slice A ((bytesOf t).length) c) (bytesOf t)] := hS0
  refine calls (l := litOf [(.pointer (some ⟨b, 0, none⟩))] 0) Try.func53 rfl (n := 14) rfl (Nat.le_of_ble_eq_true rfl) (lit_args _) ?_
  refine WC.seq ?_
  refine WC.region ?_
  refine WL.lv rfl (LV.asg rfl) ?_
  refine WL.nil (thenQ.n ?_)
  refine WC.seq ?_
  have hS1 := SH.drew hS
  refine WC.regionD [] (fun _ => True) [(.pure, 0), (.pure, 1), (.pure, 2), (.pure, 5), (.pure, 6), (.pure, 7), (.fork, 0), (.fork, 0), (.fork, 0), (.fork, 0), (.fork, 0), (.fork, 0)] (by kernel_rfl) (by kernel_rfl) trivial ?_
  refine WS.pure rfl rfl (fun _ => LV.mv rfl) ?_
  refine WS.pure rfl rfl (fun _ => LV.nilCheck rfl) ?_
  refine WS.pure rfl rfl (fun _ => LV.fieldA Try.underlying91 rfl ti53.sz rfl) ?_
  refine WS.pure rfl rfl (fun _ => LV.mv rfl) ?_
  refine WS.pure rfl rfl (fun _ => LV.nilCheck rfl) ?_
  refine WS.pure rfl rfl (fun _ => LV.fieldA Try.underlying91 rfl ti53.sz rfl) ?_
  refine WS.fork (WSX.two 3 8 (by kernel_rfl) ?_ ?_)
  · refine WO.lvT rfl rfl (LV.load1 Try.underlying53 rfl rfl (Blk.cellN (SH.at hS1 (.head _)) 1 rfl _ (KB.refl No _))) ?_
    refine WSX.of [(.fork, 0), (.fork, 0), (.fork, 0), (.fork, 0), (.fork, 0)] (by kernel_rfl) rfl ?_
    refine WS.fork (WSX.two 4 8 (by kernel_rfl) ?_ ?_)
    · have hS2 : SH w S w.drew [rowE eU8 5 (.slice A ((bytesOf t).length) c) (bytesOf t), blkE b 91 #[p, (.slice A ((bytesOf t).length) c)]] := (SH.front [_] hS1)
      refine WO.xe rfl rfl (XE.usd (s := t) hS2 rfl Try.underlying115) ?_
      rintro _ w1 ⟨ad1, rfl, hu1, hS3, hk1⟩
      refine ⟨fun h_ => trivial, ?_⟩
      refine WSX.of [(.forced, 8), (.pure, 9), (.forced, 10), (.pure, 11)] (by kernel_rfl) rfl ?_
      refine WS.lvT rfl rfl (LV.load1 Try.underlying53 rfl rfl (Blk.cellN (SH.at hS3 (.tail _ (.head _))) 1 rfl _ (KB.refl No _))) ?_
      refine WS.pure rfl rfl (fun _ => LV.lenL Try.underlying53 rfl) ?_
      refine WS.xe rfl rfl (XE.us (s := t) hS3 (bytesOf_len _) rfl rfl hu1 Try.underlying115 (by kernel_rfl)) ?_
      rintro _ w2 ⟨rfl, hS4, hk2⟩
      refine ⟨fun h_ => trivial, ?_⟩
      refine WS.pure rfl rfl (fun _ => LV.asg rfl) ?_
      refine WS.nil (thenQ.n ?_)
      refine WC.ret (?_)
      exact ⟨_, fun a ha => res1 rfl ha rfl, rfl, SH.take 0 rfl hS4⟩
    · refine WO.lvT rfl rfl (LV.load1 Try.underlying53 rfl rfl (Blk.cellN (SH.at hS1 (.head _)) 1 rfl _ (KB.refl No _))) ?_
      refine WSX.of [(.pure, 9), (.forced, 4), (.forced, 10), (.pure, 11)] (by kernel_rfl) rfl ?_
      refine WS.pure rfl rfl (fun _ => LV.lenL Try.underlying53 rfl) ?_
      have hS5 : SH w S w.drew [rowE eU8 5 (.slice A ((bytesOf t).length) c) (bytesOf t), blkE b 91 #[p, (.slice A ((bytesOf t).length) c)]] := (SH.front [_] hS1)
      refine WS.xe rfl rfl (XE.usd (s := t) hS5 rfl Try.underlying115) ?_
      rintro _ w3 ⟨ad2, rfl, hu2, hS6, hk3⟩
      refine ⟨fun h_ => trivial, ?_⟩
      refine WS.xe rfl rfl (XE.us (s := t) hS6 (bytesOf_len _) rfl rfl hu2 Try.underlying115 (by kernel_rfl)) ?_
      rintro _ w4 ⟨rfl, hS7, hk4⟩
      refine ⟨fun h_ => trivial, ?_⟩
      refine WS.pure rfl rfl (fun _ => LV.asg rfl) ?_
      refine WS.nil (thenQ.n ?_)
      refine WC.ret (?_)
      exact ⟨_, fun a ha => res1 rfl ha rfl, rfl, SH.take 0 rfl hS7⟩
  · refine WO.lvT rfl rfl (LV.load1 Try.underlying53 rfl rfl (Blk.cellN (SH.at hS1 (.head _)) 1 rfl _ (KB.refl No _))) ?_
    refine WSX.of [(.pure, 9), (.forced, 3), (.forced, 4), (.forced, 10), (.pure, 11)] (by kernel_rfl) rfl ?_
    refine WS.pure rfl rfl (fun _ => LV.lenL Try.underlying53 rfl) ?_
    refine WS.lvT rfl rfl (LV.load1 Try.underlying53 rfl rfl (Blk.cellN (SH.at hS1 (.head _)) 1 rfl _ (KB.refl No _))) ?_
    have hS8 : SH w S w.drew [rowE eU8 5 (.slice A ((bytesOf t).length) c) (bytesOf t), blkE b 91 #[p, (.slice A ((bytesOf t).length) c)]] := (SH.front [_] hS1)
    refine WS.xe rfl rfl (XE.usd (s := t) hS8 rfl Try.underlying115) ?_
    rintro _ w5 ⟨ad3, rfl, hu3, hS9, hk5⟩
    refine ⟨fun h_ => trivial, ?_⟩
    refine WS.xe rfl rfl (XE.us (s := t) hS9 (bytesOf_len _) rfl rfl hu3 Try.underlying115 (by kernel_rfl)) ?_
    rintro _ w6 ⟨rfl, hS10, hk6⟩
    refine ⟨fun h_ => trivial, ?_⟩
    refine WS.pure rfl rfl (fun _ => LV.asg rfl) ?_
    refine WS.nil (thenQ.n ?_)
    refine WC.ret (?_)
    exact ⟨_, fun a ha => res1 rfl ha rfl, rfl, SH.take 0 rfl hS10⟩

theorem number_calls {w : World} {n : Int}  :
    Calls Try.prog 25 #[(.int .i64 n)] w fun e w' => ∃ v, e = .returned v ∧ (fun v w' => v = .bool (decide (number n)) ∧ KB No w w') v w' := by
  have hS : SH w No w [] := SH.nil _ _
  refine calls (l := litOf [(.int .i64 n)] 0) Try.func25 rfl (n := 9) rfl (Nat.le_of_ble_eq_true rfl) (lit_args _) ?_
  refine WC.seq ?_
  refine WC.region ?_
  refine WL.lv rfl (LV.asg rfl) ?_
  refine WL.nil (thenQ.n ?_)
  refine WC.seq ?_
  refine WC.region ?_
  refine WL.lv rfl (LV.mv rfl) ?_
  rcases Decidable.em (n ≥ 0) with hg1 | hg1
  · refine WL.lv rfl (LV.as (LV.geI rfl rfl) (decide_eq_true hg1)) ?_
    iterate 2 refine WL.lv rfl (LV.mv rfl) ?_
    refine WL.lv rfl (LV.leI rfl rfl) ?_
    refine WL.lv rfl (LV.pickT rfl rfl) ?_
    refine WL.lv rfl (LV.asg rfl) ?_
    refine WL.nil (thenQ.n ?_)
    refine WC.ret (?_)
    exact ⟨_, fun a ha => res1 rfl ha rfl, congrArg Value.bool (decide_eq_decide.2 ⟨fun h_ => ⟨by omega, h_⟩, fun h_ => h_.2⟩), hS.kb⟩
  · refine WL.lv rfl (LV.as (LV.geI rfl rfl) (decide_eq_false hg1)) ?_
    refine WL.lv rfl (LV.mv rfl) ?_
    iterate 2 refine WL.off rfl ?_
    refine WL.lv rfl (LV.pickF rfl rfl) ?_
    refine WL.lv rfl (LV.asg rfl) ?_
    refine WL.nil (thenQ.n ?_)
    refine WC.ret (?_)
    exact ⟨_, fun a ha => res1 rfl ha rfl, congrArg Value.bool ((decide_eq_false (fun h_ => by have h1_ := h_.1; omega)).symm), hS.kb⟩

theorem rnumber_calls {w : World} {n : Int}  :
    Calls Try.prog 23 #[(.int .i64 n)] w fun e w' => ∃ v, e = .returned v ∧ (fun v w' => v = .bool (decide (number n)) ∧ KB No w w') v w' := by
  have hS : SH w No w [] := SH.nil _ _
  refine calls (l := litOf [(.int .i64 n)] 0) Try.func23 rfl (n := 9) rfl (Nat.le_of_ble_eq_true rfl) (lit_args _) ?_
  refine WC.seq ?_
  refine WC.region ?_
  refine WL.lv rfl (LV.asg rfl) ?_
  refine WL.nil (thenQ.n ?_)
  refine WC.seq ?_
  refine WC.region ?_
  refine WL.lv rfl (LV.mv rfl) ?_
  rcases Decidable.em (n ≥ 0) with hg1 | hg1
  · refine WL.lv rfl (LV.as (LV.geI rfl rfl) (decide_eq_true hg1)) ?_
    iterate 2 refine WL.lv rfl (LV.mv rfl) ?_
    refine WL.lv rfl (LV.leI rfl rfl) ?_
    refine WL.lv rfl (LV.pickT rfl rfl) ?_
    refine WL.lv rfl (LV.asg rfl) ?_
    refine WL.nil (thenQ.n ?_)
    refine WC.ret (?_)
    exact ⟨_, fun a ha => res1 rfl ha rfl, congrArg Value.bool (decide_eq_decide.2 ⟨fun h_ => ⟨by omega, h_⟩, fun h_ => h_.2⟩), hS.kb⟩
  · refine WL.lv rfl (LV.as (LV.geI rfl rfl) (decide_eq_false hg1)) ?_
    refine WL.lv rfl (LV.mv rfl) ?_
    iterate 2 refine WL.off rfl ?_
    refine WL.lv rfl (LV.pickF rfl rfl) ?_
    refine WL.lv rfl (LV.asg rfl) ?_
    refine WL.nil (thenQ.n ?_)
    refine WC.ret (?_)
    exact ⟨_, fun a ha => res1 rfl ha rfl, congrArg Value.bool ((decide_eq_false (fun h_ => by have h1_ := h_.1; omega)).symm), hS.kb⟩

theorem right_calls {w : World} {c : (Int × Int)}  :
    Calls Try.prog 21 #[(.agg #[(.int .i64 ((c).1)), (.int .i64 ((c).2))])] w fun e w' => ∃ v, e = .returned v ∧ (fun v w' => v = .bool (decide (RGT c)) ∧ KB No w w') v w' := by
  have hS : SH w No w [] := SH.nil _ _
  refine calls (l := litOf [(.agg #[(.int .i64 ((c).1)), (.int .i64 ((c).2))])] 0) Try.func21 rfl (n := 11) rfl (Nat.le_of_ble_eq_true rfl) (lit_args _) ?_
  refine WC.seq ?_
  refine WC.region ?_
  refine WL.xe rfl (XE.box #[(.int .i64 ((c).1)), (.int .i64 ((c).2))] hS rfl rfl) ?_
  rintro _ w1 ⟨b1, rfl, hS1, hk1⟩
  refine WL.lv rfl (LV.asg rfl) ?_
  refine WL.nil (thenQ.n ?_)
  refine WC.seq ?_
  refine WC.region ?_
  refine WL.lv rfl (LV.fieldA Try.underlying30 rfl ti3.sz rfl) ?_
  refine WL.lv rfl (LV.load1 Try.underlying3 rfl rfl (Blk.cellN (SH.at hS1 (.head _)) 0 rfl _ (KB.refl No _))) ?_
  rcases Decidable.em (number ((c).1)) with hg1 | hg1
  · refine WL.call rfl (XC.fn Try.func25 (by kernel_rfl) rfl rfl rfl) (Calls.asB (number_calls (n := ((c).1)) ) (decide_eq_true (hg1))) ?_
    rintro v_ w2 ⟨rfl, hk2⟩
    have hS2 := SH.same hS1 hk2
    refine WL.lv rfl (LV.mv rfl) ?_
    refine WL.lv rfl (LV.fieldA Try.underlying30 rfl ti3.sz rfl) ?_
    refine WL.lv rfl (LV.load1 Try.underlying3 rfl rfl (Blk.cellN (SH.at hS2 (.head _)) 1 rfl _ (KB.refl No _))) ?_
    refine WL.call rfl (XC.fn Try.func25 (by kernel_rfl) rfl rfl rfl) (number_calls (n := ((c).2)) ) ?_
    rintro v_ w3 ⟨rfl, hk3⟩
    have hS3 := SH.same hS2 hk3
    refine WL.lv rfl (LV.pickT rfl rfl) ?_
    refine WL.lv rfl (LV.asg rfl) ?_
    refine WL.nil (thenQ.n ?_)
    refine WC.ret (?_)
    exact ⟨_, fun a ha => res1 rfl ha rfl, congrArg Value.bool (decide_eq_decide.2 ⟨fun h_ => ⟨by first | assumption | exact h_.1, by first | exact h_ | exact h_.2⟩, fun h_ => by first | exact h_.2 | exact h_⟩), hS3.kb⟩
  · refine WL.call rfl (XC.fn Try.func25 (by kernel_rfl) rfl rfl rfl) (Calls.asB (number_calls (n := ((c).1)) ) (decide_eq_false (hg1))) ?_
    rintro v_ w4 ⟨rfl, hk4⟩
    have hS4 := SH.same hS1 hk4
    refine WL.lv rfl (LV.mv rfl) ?_
    iterate 3 refine WL.off rfl ?_
    refine WL.lv rfl (LV.pickF rfl rfl) ?_
    refine WL.lv rfl (LV.asg rfl) ?_
    refine WL.nil (thenQ.n ?_)
    refine WC.ret (?_)
    exact ⟨_, fun a ha => res1 rfl ha rfl, congrArg Value.bool ((decide_eq_false (fun h_ => by have h1_ := h_.1; have h2_ := h_.2; first | contradiction | (unfold number at *; omega))).symm), hS4.kb⟩

theorem of_calls {w : World} {A_inp : Option Addr} {n_inp c_inp : Nat} {inp : List (ED × List Ln)} (h_inp : St No w (Rd eE (.slice A_inp n_inp c_inp) (inp.map (·.1)))) (hi_inp : St No w (RdIn (·.2) eL inp)) (hn_inp : inp.length = n_inp) (ht : tot (scr inp) ≤ 1000) :
    Calls Try.prog 17 #[(.slice A_inp n_inp c_inp)] w fun e w' => ∃ v, e = .returned v ∧ (fun v w' => v = .agg #[(.int .i64 ((OFS (scr inp)).1)), (.int .i64 ((OFS (scr inp)).2))] ∧ KB No w w') v w' := by
  subst hn_inp
  have hma := by have hmx_ := Rd.max h_inp.now; simpa using hmx_
  have hS : SH w No w [] := SH.nil _ _
  refine calls (l := litOf [(.slice A_inp inp.length c_inp)] 0) Try.func17 rfl (n := 34) rfl (Nat.le_of_ble_eq_true rfl) (lit_args _) ?_
  refine WC.seq ?_
  refine WC.region ?_
  refine WL.xe rfl (XE.alloc #[(.int .i64 0), (.int .i64 0)] hS ti30 rfl) ?_
  rintro _ w1 ⟨b1, rfl, hS1, hk1⟩
  refine WL.nil (thenQ.n ?_)
  refine WC.seq ?_
  refine WC.region ?_
  refine WL.xe rfl (XE.alloc #[(.int .i64 0), (.int .i64 0)] hS1 ti30 rfl) ?_
  rintro _ w2 ⟨b2, rfl, hS2, hk2⟩
  refine WL.nil (thenQ.n ?_)
  iterate 2 refine WC.seq ?_
  refine WC.region ?_
  refine WL.lv rfl (LV.mv rfl) ?_
  refine WL.lv rfl (LV.lenL Try.underlying41 rfl) ?_
  refine WL.lv rfl (LV.mv rfl) ?_
  refine WL.nil (thenQ.n ?_)
  refine WC.block ?_
  refine WC.loop (fun m_ f_ w_ => ∃ (c0 : Int) (c1 : Int) (ix : Int), (0 ≤ ix) ∧ (ix ≤ (inp.length : Int)) ∧ (c0 = ((cnt 3 ((scr inp).take ix.toNat) : Nat) : Int)) ∧ (c1 = ((cnt 2 ((scr inp).take ix.toNat) : Nat) : Int)) ∧ SH w No w_ [blkE b2 30 #[(.int .i64 c0), (.int .i64 c1)], blkE b1 30 #[(.int .i64 0), (.int .i64 0)]] ∧ m_ = (((inp.length : Int) - ix).toNat) ∧ Weak (lit [(2, (.pointer (some ⟨b1, 0, none⟩))), (3, (.pointer (some ⟨b2, 0, none⟩))), (6, (.slice A_inp inp.length c_inp)), (7, (.int .i64 (inp.length : Int))), (8, (.int .i64 ix))]) f_) _ ⟨0, 0, 0, by omega, by omega, rfl, rfl, hS2, rfl, Weak.cons rfl <| Weak.cons rfl <| Weak.cons rfl <| Weak.cons rfl <| Weak.cons rfl <| Weak.nil _⟩ ?_
  rintro m1 f1 w3 ⟨c0, c1, ix, ixlo, ixhi, q1, q2, hL1, rfl, hw1⟩
  refine WC.weak hw1 ?_
  clear hw1
  refine WC.seq ?_
  refine WC.region ?_
  refine WL.lv rfl (LV.ltI rfl rfl) ?_
  refine WL.nil (thenQ.n ?_)
  refine WC.seq ?_
  refine WC.condP (p := ix < (inp.length : Int)) rfl (fun hk => ?_) (fun hk => ?_)
  · have htm_ := tot_more ixlo hk
    have htn_ := tot_take (scr inp) (ix + 1).toNat
    have hc3_ := cnt_more 3 ixlo hk
    have hc2_ := cnt_more 2 ixlo hk
    have hl3_ := cnt_le 3 ((scr inp).take ix.toNat)
    have hl2_ := cnt_le 2 ((scr inp).take ix.toNat)
    refine WC.skip (thenQ.n ?_)
    refine WC.seq ?_
    refine WC.block ?_
    refine WC.seq ?_
    refine WC.region ?_
    obtain ⟨A1, c2, A2, c3, e1, g1, e2, r1⟩ := St.eltE (SH.stN hL1 h_inp) (SH.stN hL1 hi_inp) default ix (by omega) (by omega)
    refine WL.lv rfl (LV.idxA Try.underlying41 ti64.sz rfl e1 rfl (by omega) (by omega)) ?_
    refine WL.lv rfl (LV.loadAgg (cs := [(.int .i64 ((inp.getD (ix).toNat default).1.1)), (.slice A2 ((inp.getD (ix).toNat default).2.length) c3)]) Try.underlying64 rfl ti64 rfl rfl (fun j u hu => g1 _ (KB.refl No _) j u hu)) ?_
    refine WL.xe rfl (XE.alloc #[(.int .i64 0), (.slice none 0 0)] hL1 ti64 rfl) ?_
    rintro _ w4 ⟨b3, rfl, hS3, hk3⟩
    refine WL.xse rfl (XSE.blkAgg #[(.int .i64 ((inp.getD (ix).toNat default).1.1)), (.slice A2 ((inp.getD (ix).toNat default).2.length) c3)] hS3 (by kernel_rfl) rfl (by kernel_rfl) rfl rfl) ?_
    rintro w5 ⟨hS4, hk4⟩
    refine WL.nil (thenQ.n ?_)
    refine WC.seq ?_
    refine WC.region ?_
    refine WL.lv rfl (LV.fieldA Try.underlying64 rfl ti50.sz rfl) ?_
    refine WL.lv rfl (LV.load1 Try.underlying50 rfl rfl (Blk.cellN (SH.at hS4 (.head _)) 0 rfl _ (KB.refl No _))) ?_
    refine WL.nil (thenQ.n ?_)
    refine WC.block ?_
    refine WC.seq ?_
    refine WC.region ?_
    refine WL.lv rfl (LV.eqI rfl rfl) ?_
    refine WL.lv rfl (LV.asg rfl) ?_
    refine WL.nil (thenQ.n ?_)
    refine WC.condP (p := ((inp.getD (ix).toNat default).1.1) = 3) rfl (fun h3 => ?_) (fun h3 => ?_)
    · skip
      refine WC.region ?_
      refine WL.lv rfl (LV.fieldA Try.underlying30 rfl ti3.sz rfl) ?_
      refine WL.lv rfl (LV.load1 Try.underlying3 rfl rfl (Blk.cellN (SH.at hS4 (.tail _ (.head _))) 0 rfl _ (KB.refl No _))) ?_
      refine WL.lv rfl (LV.fieldA Try.underlying64 rfl ti24.sz rfl) ?_
      refine WL.lv rfl (LV.load1 Try.underlying24 rfl rfl (Blk.cellN (SH.at hS4 (.head _)) 1 rfl _ (KB.refl No _))) ?_
      refine WL.lv rfl (LV.lenL Try.underlying24 rfl) ?_
      refine WL.lv rfl (LV.add rfl rfl (wr64 (by omega) (by omega))) ?_
      refine WL.lv rfl (LV.fieldA Try.underlying30 rfl ti3.sz rfl) ?_
      have hS6 : SH w No w5 [blkE b2 30 #[(.int .i64 c0), (.int .i64 c1)], blkE b3 64 #[(.int .i64 ((inp.getD (ix).toNat default).1.1)), (.slice A2 ((inp.getD (ix).toNat default).2.length) c3)], blkE b1 30 #[(.int .i64 0), (.int .i64 0)]] := (SH.front [_] hS4)
      refine WL.xse rfl (XSE.blk #[(.int .i64 (c0 + ((inp.getD (ix).toNat default).2.length : Int))), (.int .i64 c1)] hS6 (Nat.le_of_ble_eq_true rfl) ti3.sz rfl rfl rfl rfl) ?_
      rintro w6 ⟨hS5, hk5⟩
      refine WL.nil (blockQ.n <| blockQ.n <| thenQ.n ?_)
      refine WC.region ?_
      refine WL.lv rfl (LV.add rfl rfl (wr64 (by omega) (by omega))) ?_
      refine WL.lv rfl (LV.mv rfl) ?_
      refine WL.nil (thenQ.n ?_)
      have hS7 : SH w No w6 [blkE b2 30 #[(.int .i64 (c0 + ((inp.getD (ix).toNat default).2.length : Int))), (.int .i64 c1)], blkE b1 30 #[(.int .i64 0), (.int .i64 0)]] := (SH.take 2 rfl (SH.front [_] (SH.front [_, _] hS5)))
      exact ⟨_, by omega, c0 + ((inp.getD (ix).toNat default).2.length : Int), c1, ix + 1, by omega, by omega, (by rw [hc3_]; split <;> omega), (by rw [hc2_]; split <;> omega), hS7, rfl, Weak.cons rfl <| Weak.cons rfl <| Weak.cons rfl <| Weak.cons rfl <| Weak.cons rfl <| Weak.nil _⟩
    · skip
      refine WC.seq ?_
      refine WC.region ?_
      refine WL.lv rfl (LV.eqI rfl rfl) ?_
      refine WL.lv rfl (LV.asg rfl) ?_
      refine WL.nil (thenQ.n ?_)
      refine WC.condP (p := ((inp.getD (ix).toNat default).1.1) = 2) rfl (fun h2 => ?_) (fun h2 => ?_)
      · skip
        refine WC.region ?_
        refine WL.lv rfl (LV.fieldA Try.underlying30 rfl ti3.sz rfl) ?_
        refine WL.lv rfl (LV.load1 Try.underlying3 rfl rfl (Blk.cellN (SH.at hS4 (.tail _ (.head _))) 1 rfl _ (KB.refl No _))) ?_
        refine WL.lv rfl (LV.fieldA Try.underlying64 rfl ti24.sz rfl) ?_
        refine WL.lv rfl (LV.load1 Try.underlying24 rfl rfl (Blk.cellN (SH.at hS4 (.head _)) 1 rfl _ (KB.refl No _))) ?_
        refine WL.lv rfl (LV.lenL Try.underlying24 rfl) ?_
        refine WL.lv rfl (LV.add rfl rfl (wr64 (by omega) (by omega))) ?_
        refine WL.lv rfl (LV.fieldA Try.underlying30 rfl ti3.sz rfl) ?_
        have hS9 : SH w No w5 [blkE b2 30 #[(.int .i64 c0), (.int .i64 c1)], blkE b3 64 #[(.int .i64 ((inp.getD (ix).toNat default).1.1)), (.slice A2 ((inp.getD (ix).toNat default).2.length) c3)], blkE b1 30 #[(.int .i64 0), (.int .i64 0)]] := (SH.front [_] hS4)
        refine WL.xse rfl (XSE.blk #[(.int .i64 c0), (.int .i64 (c1 + ((inp.getD (ix).toNat default).2.length : Int)))] hS9 (Nat.le_of_ble_eq_true rfl) ti3.sz rfl rfl rfl rfl) ?_
        rintro w7 ⟨hS8, hk6⟩
        refine WL.nil (blockQ.n <| blockQ.n <| thenQ.n ?_)
        refine WC.region ?_
        refine WL.lv rfl (LV.add rfl rfl (wr64 (by omega) (by omega))) ?_
        refine WL.lv rfl (LV.mv rfl) ?_
        refine WL.nil (thenQ.n ?_)
        have hS10 : SH w No w7 [blkE b2 30 #[(.int .i64 c0), (.int .i64 (c1 + ((inp.getD (ix).toNat default).2.length : Int)))], blkE b1 30 #[(.int .i64 0), (.int .i64 0)]] := (SH.take 2 rfl (SH.front [_] (SH.front [_, _] hS8)))
        exact ⟨_, by omega, c0, c1 + ((inp.getD (ix).toNat default).2.length : Int), ix + 1, by omega, by omega, (by rw [hc3_]; split <;> omega), (by rw [hc2_]; split <;> omega), hS10, rfl, Weak.cons rfl <| Weak.cons rfl <| Weak.cons rfl <| Weak.cons rfl <| Weak.cons rfl <| Weak.nil _⟩
      · skip
        refine WC.skip (blockQ.n <| blockQ.n <| thenQ.n ?_)
        refine WC.region ?_
        refine WL.lv rfl (LV.add rfl rfl (wr64 (by omega) (by omega))) ?_
        refine WL.lv rfl (LV.mv rfl) ?_
        refine WL.nil (thenQ.n ?_)
        have hS11 : SH w No w5 [blkE b2 30 #[(.int .i64 c0), (.int .i64 c1)], blkE b1 30 #[(.int .i64 0), (.int .i64 0)]] := (SH.take 2 rfl (SH.front [_, _] (SH.front [_, _] hS4)))
        exact ⟨_, by omega, c0, c1, ix + 1, by omega, by omega, (by rw [hc3_]; split <;> omega), (by rw [hc2_]; split <;> omega), hS11, rfl, Weak.cons rfl <| Weak.cons rfl <| Weak.cons rfl <| Weak.cons rfl <| Weak.cons rfl <| Weak.nil _⟩
  · skip
    refine WC.exit (thenQ.x <| thenQ.x <| blockQ.hit <| thenQ.n ?_)
    refine WC.seq ?_
    refine WC.region ?_
    refine WL.lv rfl (LV.loadAgg (cs := [(.int .i64 c0), (.int .i64 c1)]) Try.underlying30 rfl ti30 rfl rfl (Blk.agg (SH.at hL1 (.head _)) _ (KB.refl No _))) ?_
    have hS13 : SH w No w3 [blkE b1 30 #[(.int .i64 0), (.int .i64 0)], blkE b2 30 #[(.int .i64 c0), (.int .i64 c1)]] := (SH.front [_] hL1)
    refine WL.xse rfl (XSE.blkAgg #[(.int .i64 c0), (.int .i64 c1)] hS13 (by kernel_rfl) rfl (by kernel_rfl) rfl rfl) ?_
    rintro w8 ⟨hS12, hk7⟩
    refine WL.nil (thenQ.n ?_)
    refine WC.ret (?_)
    exact ⟨_, fun a ha => resC rfl ha rfl Try.underlying30 rfl ti30 rfl (Blk.agg (SH.at hS12 (.head _)) _ (KB.refl No _)), congrArg (fun x_ => Value.agg (List.toArray (El.enc eP x_))) (show (c0, c1) = OFS (scr inp) from by rw [q1, q2, List.take_of_length_le (by rw [scr_length]; omega)]; rfl), hS12.kb⟩

set_option maxHeartbeats 2000000 in
theorem churns_calls {w : World} {A_l : Option Addr} {n_l c_l : Nat} {l : List (SV × List Ln)} (h_l : St No w (RdRR eL (.slice A_l n_l c_l) l)) (hn_l : l.length = n_l) (hl : l.length ≤ 1000) :
    Calls Try.prog 7 #[(.slice A_l n_l c_l)] w fun e w' => ∃ v, e = .returned v ∧ (fun v w' => ∃ (A0' : Option Addr) (c0' : Nat), v = .tuple #[.slice A0' (CHR l).length c0', .int .i64 (CHE l)] ∧ SH w No w' [rowE eP 30 (.slice A0' (CHR l).length c0') (CHR l)]) v w' := by
  subst hn_l
  have hS : SH w No w [] := SH.nil _ _
  refine calls (l := litOf [(.slice A_l l.length c_l)] 0) Try.func7 rfl (n := 48) rfl (Nat.le_of_ble_eq_true rfl) (lit_args _) ?_
  refine WC.seq ?_
  refine WC.region ?_
  iterate 2 refine WL.lv rfl (LV.asg rfl) ?_
  refine WL.nil (thenQ.n ?_)
  iterate 2 refine WC.seq ?_
  refine WC.region ?_
  refine WL.lv rfl (LV.mv rfl) ?_
  refine WL.lv rfl (LV.lenL Try.underlying22 rfl) ?_
  refine WL.lv rfl (LV.mv rfl) ?_
  refine WL.nil (thenQ.n ?_)
  refine WC.block ?_
  refine WC.loop (fun m_ f_ w_ => ∃ (ix : Int), (0 ≤ ix) ∧ (ix ≤ (l.length : Int)) ∧ (∀ t : Int, 0 ≤ t → t < ix → (l.getD t.toNat default).2.length ≤ 400) ∧ SH w No w_ [] ∧ m_ = (((l.length : Int) - ix).toNat) ∧ Weak (lit [(0, (.slice A_l l.length c_l)), (10, (.slice A_l l.length c_l)), (11, (.int .i64 (l.length : Int))), (12, (.int .i64 ix))]) f_) _ ⟨0, by omega, by omega, (fun t h1_ h2_ => by omega), hS, rfl, Weak.cons rfl <| Weak.cons rfl <| Weak.cons rfl <| Weak.cons rfl <| Weak.nil _⟩ ?_
  rintro m1 f1 w1 ⟨ix, ixlo, ixhi, p1, hL1, rfl, hw1⟩
  refine WC.weak hw1 ?_
  clear hw1
  refine WC.seq ?_
  refine WC.region ?_
  refine WL.lv rfl (LV.ltI rfl rfl) ?_
  refine WL.nil (thenQ.n ?_)
  refine WC.seq ?_
  refine WC.condP (p := ix < (l.length : Int)) rfl (fun hk => ?_) (fun hk => ?_)
  · skip
    refine WC.skip (thenQ.n ?_)
    refine WC.seq ?_
    refine WC.block ?_
    refine WC.seq ?_
    refine WC.region ?_
    obtain ⟨A1, c1, A2, c2, e1, g1, e2, r1⟩ := St.eltRR (SH.stN hL1 h_l) default ix (by omega) (by omega)
    refine WL.lv rfl (LV.idxA Try.underlying22 ti24.sz rfl e1 rfl (by omega) (by omega)) ?_
    refine WL.lv rfl (LV.load1 Try.underlying24 rfl rfl (g1 _ (KB.refl No _))) ?_
    refine WL.lv rfl (LV.asg rfl) ?_
    refine WL.nil (thenQ.n ?_)
    refine WC.seq ?_
    refine WC.region ?_
    refine WL.lv rfl (LV.mv rfl) ?_
    refine WL.lv rfl (LV.lenL Try.underlying24 rfl) ?_
    refine WL.lv rfl (LV.gtI rfl rfl) ?_
    refine WL.nil (thenQ.n ?_)
    refine WC.condP (p := ((l.getD (ix).toNat default).2.length : Int) > 400) rfl (fun hlt => ?_) (fun hlt => ?_)
    · skip
      refine WC.seq ?_
      refine WC.region ?_
      iterate 2 refine WL.lv rfl (LV.asg rfl) ?_
      refine WL.nil (thenQ.n ?_)
      refine WC.ret (blockQ.r <| thenQ.r <| thenQ.r <| blockQ.r <| thenQ.r <| ?_)
      have hS1 := SH.nilRow (E := eP) (T := 30) hL1
      have hres1 : ([] : List (Int × Int)) = CHR l := by unfold CHR; rw [if_pos (lng_yes ixlo hk (by omega))]
      exact ⟨_, fun a ha => res2 rfl ha rfl rfl, (by rw [← hres1]; exact ⟨_, _, tup2 rfl (congrArg (Value.int .i64) (by unfold CHE; rw [if_pos (lng_yes ixlo hk (by omega))])), hS1⟩)⟩
    · skip
      refine WC.skip (blockQ.n <| thenQ.n ?_)
      refine WC.region ?_
      refine WL.lv rfl (LV.add rfl rfl (wr64 (by omega) (by omega))) ?_
      refine WL.lv rfl (LV.mv rfl) ?_
      refine WL.nil (thenQ.n ?_)
      exact ⟨_, by omega, ix + 1, by omega, by omega, (all_step (p := fun t => (l.getD t.toNat default).2.length ≤ 400) p1 (by omega)), hL1, rfl, Weak.cons rfl <| Weak.cons rfl <| Weak.cons rfl <| Weak.cons rfl <| Weak.nil _⟩
  · have hlg_ : ¬ LNG l := lng_no (by omega) p1
    refine WC.exit (thenQ.x <| thenQ.x <| blockQ.hit <| thenQ.n ?_)
    refine WC.seq ?_
    refine WC.region ?_
    have hS2 := SH.nilRow (E := eP) (T := 30) hL1
    refine WL.lv rfl (LV.asg rfl) ?_
    refine WL.nil (thenQ.n ?_)
    iterate 2 refine WC.seq ?_
    refine WC.region ?_
    refine WL.lv rfl (LV.asg rfl) ?_
    refine WL.nil (thenQ.n ?_)
    refine WC.block ?_
    refine WC.loop (fun m_ f_ w_ => ∃ (A_out : Option Addr) (c_out : Nat) (out : List (Int × Int)) (i : Int), (0 ≤ i) ∧ (i ≤ l.length ∨ i = 1) ∧ (1 ≤ i) ∧ (out = CHS ((l.map (·.2)).take i.toNat)) ∧ ((out.length : Int) ≤ i) ∧ SH w No w_ [rowE eP 30 (.slice A_out out.length c_out) out] ∧ m_ = (((l.length : Int) - i).toNat) ∧ Weak (lit [(0, (.slice A_l l.length c_l)), (6, (.slice A_out out.length c_out)), (7, (.int .i64 i))]) f_) _ ⟨none, 0, [], 1, by omega, by omega, by omega, ((CHS_one _).symm), (by simp), hS2, rfl, Weak.cons rfl <| Weak.cons rfl <| Weak.cons rfl <| Weak.nil _⟩ ?_
    rintro m2 f2 w2 ⟨A_out, c_out, out, i, ilo, ihi, ilo1, q1, q2, hL2, rfl, hw2⟩
    refine WC.weak hw2 ?_
    clear hw2
    iterate 2 refine WC.seq ?_
    refine WC.region ?_
    iterate 2 refine WL.lv rfl (LV.mv rfl) ?_
    refine WL.lv rfl (LV.lenL Try.underlying22 rfl) ?_
    refine WL.lv rfl (LV.ltI rfl rfl) ?_
    refine WL.nil (thenQ.n ?_)
    refine WC.condP (p := i < (l.length : Int)) rfl (fun hcd => ?_) (fun hcd => ?_)
    · have ha_ := p1 (i - 1) (by omega) (by omega)
      have hb_ := p1 i (by omega) (by omega)
      have hno_ : ¬ ((l.getD (i - 1).toNat default).2.length > 400 ∨ (l.getD (i).toNat default).2.length > 400) := by omega
      have hmke_ : MKE (l.getD (i - 1).toNat default).2 (l.getD (i).toNat default).2 = 0 := if_neg hno_
      refine WC.skip (thenQ.n ?_)
      refine WC.seq ?_
      refine WC.block ?_
      refine WC.seq ?_
      have hS3 := SH.drew hL2
      refine WC.regionD [] (fun w_ => KB No w2.drew w_) [(.pure, 0), (.pure, 1), (.pure, 2), (.pure, 3), (.look, 4), (.pure, 5), (.pure, 6), (.pure, 7), (.look, 8), (.forced, 9), (.pure, 10), (.pure, 11), (.pure, 12), (.pure, 13), (.pure, 14)] (by kernel_rfl) (by kernel_rfl) (KB.refl _ _) ?_
      iterate 2 refine WS.pure rfl rfl (fun _ => LV.mv rfl) ?_
      refine WS.pure rfl rfl (fun _ => LV.sub rfl rfl (wr64 (by omega) (by omega))) ?_
      obtain ⟨A3, c3, A4, c4, e3, g2, e4, r2⟩ := St.eltRR (SH.stN hS3 h_l) default (i - 1) (by omega) (by omega)
      refine WS.pure rfl rfl (fun _ => LV.idxA Try.underlying22 ti24.sz rfl e3 rfl (by omega) (by omega)) ?_
      refine WS.look rfl rfl (fun _ hk_ => LV.load1 Try.underlying24 rfl rfl (g2 _ hk_)) ?_
      iterate 2 refine WS.pure rfl rfl (fun _ => LV.mv rfl) ?_
      obtain ⟨A5, c5, A6, c6, e5, g3, e6, r3⟩ := St.eltRR (SH.stN hS3 h_l) default i (by omega) (by omega)
      refine WS.pure rfl rfl (fun _ => LV.idxA Try.underlying22 ti24.sz rfl e5 rfl (by omega) (by omega)) ?_
      refine WS.look rfl rfl (fun _ hk_ => LV.load1 Try.underlying24 rfl rfl (g3 _ hk_)) ?_
      refine WS.call rfl rfl (XC.fn Try.func16 (by kernel_rfl) rfl rfl rfl) (make8_calls  (St.inner (SH.stN hS3 h_l) (getD_mem (by omega)) e4) rfl (St.inner (SH.stN hS3 h_l) (getD_mem (by omega)) e6) rfl ) ?_
      rintro v_ w3 ⟨A7, c7, rows1, rfl, hq1, hS4⟩
      have hS5 := SH.joinN hS3 hS4
      have htm_ : tot (scr rows1) ≤ 800 := by rw [hq1]; exact (chk0 (chk_MKS _ _)).2.1
      have hof_ := OFS_chn hno_ hq1
      refine ⟨fun h_ => (KB.transN (KB.refl _ _) hS4.kb), ?_⟩
      refine WS.pure rfl rfl (fun _ => LV.mv rfl) ?_
      iterate 2 refine WS.pure rfl rfl (fun _ => LV.extract rfl rfl) ?_
      iterate 2 refine WS.pure rfl rfl (fun _ => LV.asg rfl) ?_
      refine WS.nil (thenQ.n ?_)
      iterate 2 refine WC.seq ?_
      refine WC.region ?_
      refine WL.lv rfl (LV.mv rfl) ?_
      refine WL.lv rfl (LV.neI rfl rfl) ?_
      refine WL.nil (thenQ.n ?_)
      refine WC.condP (p := (MKE ((l.getD (i - 1).toNat default).2) ((l.getD (i).toNat default).2)) ≠ 0) rfl (fun hc1 => ?_) (fun hc1 => ?_)
      · exfalso; omega
      · skip
        refine WC.skip (thenQ.n ?_)
        refine WC.region ?_
        iterate 2 refine WL.lv rfl (LV.mv rfl) ?_
        refine WL.call rfl (XC.fn Try.func17 (by kernel_rfl) rfl rfl rfl) (of_calls  (SH.rd hS5 (.head _)) (SH.rdIn hS5 (.tail _ (.head _))) rfl (by omega)) ?_
        rintro v_ w4 ⟨rfl, hk1⟩
        have hS6 := SH.same hS5 hk1
        refine WL.xe rfl (XE.buildSlice (E := eP) [(0, (.agg #[(.int .i64 (((OFS (scr rows1))).1)), (.int .i64 (((OFS (scr rows1))).2))]))] #[(.int .i64 (((OFS (scr rows1))).1)), (.int .i64 (((OFS (scr rows1))).2))] [((((OFS (scr rows1))).1 : Int), (((OFS (scr rows1))).2 : Int))] hS6 Try.underlying25 ti30 rfl (by decide) (by kernel_rfl) (.inr rfl) rfl rfl (by decide)) ?_
        rintro _ w5 ⟨b1, rfl, hS7, hk2⟩
        have hS8 : SH w No w5 [rowE eP 30 (.slice A_out out.length c_out) out, rowE eP 30 (.slice (some ⟨b1, 0, none⟩) 1 1) [((((OFS (scr rows1))).1 : Int), (((OFS (scr rows1))).2 : Int))], rowE eE 64 (.slice A7 rows1.length c7) (rows1.map (fun p : ED × List Ln => p.1)), insE (fun p : ED => p.2) eL 52 rows1] := (SH.front [_, _, _] hS7)
        refine WL.xe rfl (XE.append hS8 Try.underlying25 ti30 rfl (St.now (SH.rd hS8 (.tail _ (.head _)))) rfl rfl (by first | omega | simp only [List.length_append, List.length_cons, List.length_nil, List.length_take, List.length_reverse, List.length_drop] at *; omega) (by first | omega | simp only [List.length_append, List.length_cons, List.length_nil, List.length_take, List.length_reverse, List.length_drop] at *; omega)) ?_
        rintro _ w6 ⟨A8, c8, rfl, hS9, hk3⟩
        refine WL.lv rfl (LV.asg rfl) ?_
        refine WL.nil (blockQ.n <| thenQ.n ?_)
        refine WC.region ?_
        refine WL.lv rfl (LV.mv rfl) ?_
        refine WL.lv rfl (LV.add rfl rfl (wr64 (by omega) (by omega))) ?_
        refine WL.lv rfl (LV.asg rfl) ?_
        refine WL.nil (thenQ.n ?_)
        have hS10 : SH w No w6 [rowE eP 30 (.slice A8 ((out ++ [((((OFS (scr rows1))).1 : Int), (((OFS (scr rows1))).2 : Int))]).length) c8) (out ++ [((((OFS (scr rows1))).1 : Int), (((OFS (scr rows1))).2 : Int))])] := (SH.take 1 rfl hS9)
        exact ⟨_, by omega, A8, c8, (out ++ [((((OFS (scr rows1))).1 : Int), (((OFS (scr rows1))).2 : Int))]), i + 1, by omega, by omega, by omega, (by rw [CHS_at ilo1 hcd, ← q1, ← hof_]), (by simp; omega), hS10, rfl, Weak.cons rfl <| Weak.cons rfl <| Weak.cons rfl <| Weak.nil _⟩
    · skip
      refine WC.exit (thenQ.x <| thenQ.x <| blockQ.hit <| thenQ.n ?_)
      refine WC.seq ?_
      refine WC.region ?_
      refine WL.lv rfl (LV.mv rfl) ?_
      iterate 2 refine WL.lv rfl (LV.asg rfl) ?_
      refine WL.nil (thenQ.n ?_)
      refine WC.ret (?_)
      have hres2 : (out : List (Int × Int)) = CHR l := by unfold CHR; rw [if_neg hlg_, q1, List.take_of_length_le (by rw [List.length_map]; omega)]
      exact ⟨_, fun a ha => res2 rfl ha rfl rfl, (by rw [← hres2]; exact ⟨_, _, tup2 rfl (congrArg (Value.int .i64) (by unfold CHE; rw [if_neg hlg_])), hL2⟩)⟩

set_option maxHeartbeats 2000000 in
theorem rchurns_calls {w : World} {A_l : Option Addr} {n_l c_l : Nat} {l : List (SV × List Ln)} (h_l : St No w (RdRR eL (.slice A_l n_l c_l) l)) (hn_l : l.length = n_l) (hl : l.length ≤ 1000) :
    Calls Try.prog 8 #[(.slice A_l n_l c_l)] w fun e w' => ∃ v, e = .returned v ∧ (fun v w' => ∃ (A0' : Option Addr) (c0' : Nat), v = .tuple #[.slice A0' (CHR l).length c0', .int .i64 (CHE l)] ∧ SH w No w' [rowE eP 30 (.slice A0' (CHR l).length c0') (CHR l)]) v w' := by
  subst hn_l
  have hS : SH w No w [] := SH.nil _ _
  refine calls (l := litOf [(.slice A_l l.length c_l)] 0) Try.func8 rfl (n := 78) rfl (Nat.le_of_ble_eq_true rfl) (lit_args _) ?_
  refine WC.seq ?_
  refine WC.region ?_
  iterate 2 refine WL.lv rfl (LV.asg rfl) ?_
  refine WL.nil (thenQ.n ?_)
  iterate 2 refine WC.seq ?_
  refine WC.region ?_
  refine WL.lv rfl (LV.asg rfl) ?_
  refine WL.nil (thenQ.n ?_)
  refine WC.block ?_
  refine WC.loop (fun m_ f_ w_ => ∃ (i : Int), (0 ≤ i) ∧ (i ≤ (l.length : Int)) ∧ (∀ t : Int, 0 ≤ t → t < i → (l.getD t.toNat default).2.length ≤ 400) ∧ SH w No w_ [] ∧ m_ = (((l.length : Int) - i).toNat) ∧ Weak (lit [(0, (.slice A_l l.length c_l)), (4, (.int .i64 i))]) f_) _ ⟨0, by omega, by omega, (fun t h1_ h2_ => by omega), hS, rfl, Weak.cons rfl <| Weak.cons rfl <| Weak.nil _⟩ ?_
  rintro m1 f1 w1 ⟨i, ilo, ihi, p1, hL1, rfl, hw1⟩
  refine WC.weak hw1 ?_
  clear hw1
  iterate 2 refine WC.seq ?_
  refine WC.region ?_
  iterate 2 refine WL.lv rfl (LV.mv rfl) ?_
  refine WL.lv rfl (LV.lenL Try.underlying22 rfl) ?_
  refine WL.lv rfl (LV.ltI rfl rfl) ?_
  refine WL.nil (thenQ.n ?_)
  refine WC.condP (p := i < (l.length : Int)) rfl (fun hk => ?_) (fun hk => ?_)
  · skip
    refine WC.skip (thenQ.n ?_)
    refine WC.seq ?_
    refine WC.block ?_
    refine WC.seq ?_
    refine WC.region ?_
    iterate 2 refine WL.lv rfl (LV.mv rfl) ?_
    obtain ⟨A1, c1, A2, c2, e1, g1, e2, r1⟩ := St.eltRR (SH.stN hL1 h_l) default i (by omega) (by omega)
    refine WL.lv rfl (LV.idxA Try.underlying22 ti24.sz rfl e1 rfl (by omega) (by omega)) ?_
    refine WL.lv rfl (LV.load1 Try.underlying24 rfl rfl (g1 _ (KB.refl No _))) ?_
    refine WL.lv rfl (LV.lenL Try.underlying24 rfl) ?_
    refine WL.lv rfl (LV.gtI rfl rfl) ?_
    refine WL.nil (thenQ.n ?_)
    refine WC.condP (p := ((l.getD (i).toNat default).2.length : Int) > 400) rfl (fun hlt => ?_) (fun hlt => ?_)
    · skip
      refine WC.seq ?_
      refine WC.region ?_
      iterate 2 refine WL.lv rfl (LV.asg rfl) ?_
      refine WL.nil (thenQ.n ?_)
      refine WC.ret (blockQ.r <| thenQ.r <| thenQ.r <| blockQ.r <| thenQ.r <| ?_)
      have hS1 := SH.nilRow (E := eP) (T := 30) hL1
      have hres1 : ([] : List (Int × Int)) = CHR l := by unfold CHR; rw [if_pos (lng_yes ilo hk (by omega))]
      exact ⟨_, fun a ha => res2 rfl ha rfl rfl, (by rw [← hres1]; exact ⟨_, _, tup2 rfl (congrArg (Value.int .i64) (by unfold CHE; rw [if_pos (lng_yes ilo hk (by omega))])), hS1⟩)⟩
    · skip
      refine WC.skip (blockQ.n <| thenQ.n ?_)
      refine WC.region ?_
      refine WL.lv rfl (LV.mv rfl) ?_
      refine WL.lv rfl (LV.add rfl rfl (wr64 (by omega) (by omega))) ?_
      refine WL.lv rfl (LV.asg rfl) ?_
      refine WL.nil (thenQ.n ?_)
      exact ⟨_, by omega, i + 1, by omega, by omega, (all_step (p := fun t => (l.getD t.toNat default).2.length ≤ 400) p1 (by omega)), hL1, rfl, Weak.cons rfl <| Weak.cons rfl <| Weak.nil _⟩
  · have hlg_ : ¬ LNG l := lng_no (by omega) p1
    refine WC.exit (thenQ.x <| thenQ.x <| blockQ.hit <| thenQ.n ?_)
    refine WC.seq ?_
    refine WC.region ?_
    refine WL.xe rfl (XE.buildSlice (E := eP) [] #[] [] hL1 Try.underlying25 ti30 rfl (by decide) (by kernel_rfl) (.inr rfl) rfl rfl (by decide)) ?_
    rintro _ w2 ⟨b1, rfl, hS2, hk1⟩
    refine WL.lv rfl (LV.asg rfl) ?_
    refine WL.nil (thenQ.n ?_)
    iterate 2 refine WC.seq ?_
    refine WC.region ?_
    refine WL.lv rfl (LV.asg rfl) ?_
    refine WL.nil (thenQ.n ?_)
    refine WC.block ?_
    refine WC.loop (fun m_ f_ w_ => ∃ (A_out : Option Addr) (c_out : Nat) (out : List (Int × Int)) (i2 : Int), (0 ≤ i2) ∧ (i2 ≤ l.length ∨ i2 = 1) ∧ (1 ≤ i2) ∧ (out = CHS ((l.map (·.2)).take i2.toNat)) ∧ ((out.length : Int) ≤ i2) ∧ SH w No w_ [rowE eP 30 (.slice A_out out.length c_out) out] ∧ m_ = (((l.length : Int) - i2).toNat) ∧ Weak (lit [(0, (.slice A_l l.length c_l)), (5, (.slice A_out out.length c_out)), (6, (.int .i64 i2))]) f_) _ ⟨(some ⟨b1, 0, none⟩), 0, [], 1, by omega, by omega, by omega, ((CHS_one _).symm), (by simp), hS2, rfl, Weak.cons rfl <| Weak.cons rfl <| Weak.cons rfl <| Weak.nil _⟩ ?_
    rintro m2 f2 w3 ⟨A_out, c_out, out, i2, i2lo, i2hi, i2lo1, q1, q2, hL2, rfl, hw2⟩
    refine WC.weak hw2 ?_
    clear hw2
    iterate 2 refine WC.seq ?_
    refine WC.region ?_
    iterate 2 refine WL.lv rfl (LV.mv rfl) ?_
    refine WL.lv rfl (LV.lenL Try.underlying22 rfl) ?_
    refine WL.lv rfl (LV.ltI rfl rfl) ?_
    refine WL.nil (thenQ.n ?_)
    refine WC.condP (p := i2 < (l.length : Int)) rfl (fun hcd => ?_) (fun hcd => ?_)
    · have ha_ := p1 (i2 - 1) (by omega) (by omega)
      have hb_ := p1 i2 (by omega) (by omega)
      refine WC.skip (thenQ.n ?_)
      refine WC.seq ?_
      refine WC.block ?_
      refine WC.seq ?_
      have hS3 := SH.drew hL2
      refine WC.regionD [] (fun w_ => KB No w3.drew w_) [(.pure, 0), (.pure, 1), (.pure, 2), (.pure, 3), (.look, 4), (.pure, 5), (.pure, 6), (.pure, 7), (.look, 8), (.forced, 9), (.forced, 10), (.pure, 11)] (by kernel_rfl) (by kernel_rfl) (KB.refl _ _) ?_
      iterate 2 refine WS.pure rfl rfl (fun _ => LV.mv rfl) ?_
      refine WS.pure rfl rfl (fun _ => LV.sub rfl rfl (wr64 (by omega) (by omega))) ?_
      obtain ⟨A3, c3, A4, c4, e3, g2, e4, r2⟩ := St.eltRR (SH.stN hS3 h_l) default (i2 - 1) (by omega) (by omega)
      refine WS.pure rfl rfl (fun _ => LV.idxA Try.underlying22 ti24.sz rfl e3 rfl (by omega) (by omega)) ?_
      refine WS.look rfl rfl (fun _ hk_ => LV.load1 Try.underlying24 rfl rfl (g2 _ hk_)) ?_
      iterate 2 refine WS.pure rfl rfl (fun _ => LV.mv rfl) ?_
      obtain ⟨A5, c5, A6, c6, e5, g3, e6, r3⟩ := St.eltRR (SH.stN hS3 h_l) default i2 (by omega) (by omega)
      refine WS.pure rfl rfl (fun _ => LV.idxA Try.underlying22 ti24.sz rfl e5 rfl (by omega) (by omega)) ?_
      refine WS.look rfl rfl (fun _ hk_ => LV.load1 Try.underlying24 rfl rfl (g3 _ hk_)) ?_
      refine WS.xe rfl rfl (XE.buildSlice (E := eV) [(0, (.slice A4 ((l.getD (i2 - 1).toNat default).2.length) c4)), (1, (.slice A6 ((l.getD (i2).toNat default).2.length) c6))] #[(.slice A4 ((l.getD (i2 - 1).toNat default).2.length) c4), (.slice A6 ((l.getD (i2).toNat default).2.length) c6)] [(⟨A4, (l.getD (i2 - 1).toNat default).2.length, c4⟩ : SV), (⟨A6, (l.getD (i2).toNat default).2.length, c6⟩ : SV)] hS3 Try.underlying22 ti24 rfl (by decide) (by kernel_rfl) (.inr rfl) rfl rfl (by decide)) ?_
      rintro _ w4 ⟨b2, rfl, hS4, hk2⟩
      refine ⟨fun h_ => (KB.transN (KB.refl _ _) hk2), ?_⟩
      refine WS.call rfl rfl (XC.fn Try.func18 (by kernel_rfl) rfl rfl rfl) (rnumbers_calls  (St.rrOf (rows := [((⟨A4, (l.getD (i2 - 1).toNat default).2.length, c4⟩ : SV), (l.getD (i2 - 1).toNat default).2), ((⟨A6, (l.getD (i2).toNat default).2.length, c6⟩ : SV), (l.getD (i2).toNat default).2)]) (SH.rd hS4 (.head _)) (St.inCons (r := (⟨A4, (l.getD (i2 - 1).toNat default).2.length, c4⟩ : SV)) rfl (St.inner (SH.stN hS4 h_l) (getD_mem (by omega)) e4) (St.inCons (r := (⟨A6, (l.getD (i2).toNat default).2.length, c6⟩ : SV)) rfl (St.inner (SH.stN hS4 h_l) (getD_mem (by omega)) e6) St.in0))) rfl (by simp) (fun p hp => (List.mem_cons.1 hp).elim (fun h_ => by subst h_; show (l.getD (i2 - 1).toNat default).2.length ≤ 1000; omega) (fun h_ => by have h2_ := List.mem_singleton.1 h_; subst h2_; show (l.getD (i2).toNat default).2.length ≤ 1000; omega))) ?_
      rintro v_ w5 ⟨A7, c7, rows1, rfl, hq1, hS5⟩
      have hS6 := SH.joinN hS4 hS5
      have hmt_ := map_two (x := NA (l.getD (i2 - 1).toNat default).2) (y := NB (l.getD (i2 - 1).toNat default).2 (l.getD (i2).toNat default).2) hq1
      have hra_ : (rows1.getD (0 : Int).toNat default).2 = NA (l.getD (i2 - 1).toNat default).2 := hmt_.2.1
      have hrb_ : (rows1.getD (1 : Int).toNat default).2 = NB (l.getD (i2 - 1).toNat default).2 (l.getD (i2).toNat default).2 := hmt_.2.2
      have hl1_ := hmt_.1
      have hsl_ := Stp_len (rows1.getD (0 : Int).toNat default).2 (rows1.getD (1 : Int).toNat default).2
      refine ⟨fun h_ => (KB.transN (KB.transN (KB.refl _ _) hk2) hS5.kb), ?_⟩
      refine WS.pure rfl rfl (fun _ => LV.asg rfl) ?_
      refine WS.nil (thenQ.n ?_)
      refine WC.seq ?_
      have hS7 := SH.drew hS6
      refine WC.regionD [] (fun w_ => KB No w5.drew w_) [(.pure, 0), (.pure, 1), (.look, 2), (.pure, 3), (.pure, 4), (.look, 5), (.forced, 6), (.pure, 7)] (by kernel_rfl) (by kernel_rfl) (KB.refl _ _) ?_
      refine WS.pure rfl rfl (fun _ => LV.mv rfl) ?_
      obtain ⟨A8, c8, A9, c9, e7, g4, e8, r4⟩ := St.eltRR (SH.rdRR hS7 (.head _)) default (0 : Int) (by omega) (by omega)
      refine WS.pure rfl rfl (fun _ => LV.idxA Try.underlying45 ti49.sz rfl e7 rfl (by omega) (by omega)) ?_
      refine WS.look rfl rfl (fun _ hk_ => LV.load1 Try.underlying49 rfl rfl (g4 _ hk_)) ?_
      refine WS.pure rfl rfl (fun _ => LV.mv rfl) ?_
      obtain ⟨A10, c10, A11, c11, e9, g5, e10, r5⟩ := St.eltRR (SH.rdRR hS7 (.head _)) default (1 : Int) (by omega) (by omega)
      refine WS.pure rfl rfl (fun _ => LV.idxA Try.underlying45 ti49.sz rfl e9 rfl (by omega) (by omega)) ?_
      refine WS.look rfl rfl (fun _ hk_ => LV.load1 Try.underlying49 rfl rfl (g5 _ hk_)) ?_
      refine WS.call rfl rfl (XC.fn Try.func19 (by kernel_rfl) rfl rfl rfl) (rsteps_calls (St.inner (SH.rdRR hS7 (.head _)) (getD_mem (by omega)) e8) (St.inner (SH.rdRR hS7 (.head _)) (getD_mem (by omega)) e10)) ?_
      rintro v_ w6 ⟨A12, c12, rfl, hS8⟩
      have hS9 := SH.joinN hS7 hS8
      refine ⟨fun h_ => (KB.transN (KB.refl _ _) hS8.kb), ?_⟩
      refine WS.pure rfl rfl (fun _ => LV.asg rfl) ?_
      refine WS.nil (thenQ.n ?_)
      refine WC.seq ?_
      refine WC.region ?_
      refine WL.lv rfl (LV.build (vs := []) (places := #[(0, 1), (1, 1)]) (cs := #[(.int .i64 0), (.int .i64 0)]) Try.underlying30 ti30 (fun _ => by kernel_rfl) rfl rfl) ?_
      refine WL.xe rfl (XE.alloc #[(.int .i64 0), (.int .i64 0)] hS9 ti30 rfl) ?_
      rintro _ w7 ⟨b3, rfl, hS10, hk3⟩
      refine WL.xse rfl (XSE.blkAgg #[(.int .i64 0), (.int .i64 0)] hS10 (by kernel_rfl) rfl (by kernel_rfl) rfl rfl) ?_
      rintro w8 ⟨hS11, hk4⟩
      refine WL.nil (thenQ.n ?_)
      iterate 2 refine WC.seq ?_
      refine WC.region ?_
      refine WL.lv rfl (LV.asg rfl) ?_
      refine WL.nil (thenQ.n ?_)
      refine WC.block ?_
      refine WC.loop (fun m_ f_ w_ => ∃ (c0 : Int) (c1 : Int) (k : Int), (0 ≤ k) ∧ (k ≤ ((Stp ((rows1.getD ((0 : Int)).toNat default).2) ((rows1.getD ((1 : Int)).toNat default).2)).length : Int)) ∧ (c0 = ((((Stp (rows1.getD (0 : Int).toNat default).2 (rows1.getD (1 : Int).toNat default).2).take k.toNat).count 3 : Nat) : Int)) ∧ (c1 = ((((Stp (rows1.getD (0 : Int).toNat default).2 (rows1.getD (1 : Int).toNat default).2).take k.toNat).count 2 : Nat) : Int)) ∧ (0 ≤ c0 ∧ c0 ≤ k ∧ 0 ≤ c1 ∧ c1 ≤ k) ∧ SH w No w_ [blkE b3 30 #[(.int .i64 c0), (.int .i64 c1)], rowE eI 50 (.slice A12 ((Stp ((rows1.getD ((0 : Int)).toNat default).2) ((rows1.getD ((1 : Int)).toNat default).2)).length) c12) (Stp ((rows1.getD ((0 : Int)).toNat default).2) ((rows1.getD ((1 : Int)).toNat default).2)), rrE eI 49 3 (.slice A7 rows1.length c7) rows1, rowE eV 24 (.slice (some ⟨b2, 0, none⟩) 2 2) [(⟨A4, (l.getD (i2 - 1).toNat default).2.length, c4⟩ : SV), (⟨A6, (l.getD (i2).toNat default).2.length, c6⟩ : SV)], rowE eP 30 (.slice A_out out.length c_out) out] ∧ m_ = ((((Stp ((rows1.getD ((0 : Int)).toNat default).2) ((rows1.getD ((1 : Int)).toNat default).2)).length : Int) - k).toNat) ∧ Weak (lit [(0, (.slice A_l l.length c_l)), (5, (.slice A_out out.length c_out)), (6, (.int .i64 i2)), (8, (.slice A12 ((Stp ((rows1.getD ((0 : Int)).toNat default).2) ((rows1.getD ((1 : Int)).toNat default).2)).length) c12)), (9, (.pointer (some ⟨b3, 0, none⟩))), (10, (.int .i64 k))]) f_) _ ⟨0, 0, 0, by omega, by omega, rfl, rfl, by omega, hS11, rfl, Weak.cons rfl <| Weak.cons rfl <| Weak.cons rfl <| Weak.cons rfl <| Weak.cons rfl <| Weak.cons rfl <| Weak.nil _⟩ ?_
      rintro m3 f3 w9 ⟨c0, c1, k, klo, khi, s1, s2, s3, hL3, rfl, hw3⟩
      refine WC.weak hw3 ?_
      clear hw3
      iterate 2 refine WC.seq ?_
      refine WC.region ?_
      iterate 2 refine WL.lv rfl (LV.mv rfl) ?_
      refine WL.lv rfl (LV.lenL Try.underlying47 rfl) ?_
      refine WL.lv rfl (LV.ltI rfl rfl) ?_
      refine WL.nil (thenQ.n ?_)
      refine WC.condP (p := k < ((Stp ((rows1.getD ((0 : Int)).toNat default).2) ((rows1.getD ((1 : Int)).toNat default).2)).length : Int)) rfl (fun hst => ?_) (fun hst => ?_)
      · have hc3_ := ct_at (s := (Stp (rows1.getD (0 : Int).toNat default).2 (rows1.getD (1 : Int).toNat default).2)) 3 klo hst
        have hc2_ := ct_at (s := (Stp (rows1.getD (0 : Int).toNat default).2 (rows1.getD (1 : Int).toNat default).2)) 2 klo hst
        refine WC.skip (thenQ.n ?_)
        refine WC.seq ?_
        refine WC.block ?_
        iterate 2 refine WC.seq ?_
        refine WC.region ?_
        iterate 2 refine WL.lv rfl (LV.mv rfl) ?_
        obtain ⟨A13, c13, e11, g6⟩ := St.elt (SH.rd hL3 (.tail _ (.head _))) 0 k (by omega) (by omega)
        refine WL.lv rfl (LV.idxA Try.underlying47 ti50.sz rfl e11 rfl (by omega) (by omega)) ?_
        refine WL.lv rfl (LV.load1 (v := (.int .i64 (gI (Stp ((rows1.getD ((0 : Int)).toNat default).2) ((rows1.getD ((1 : Int)).toNat default).2)) (k)))) Try.underlying50 rfl rfl (g6 _ (KB.refl No _) 0 _ rfl)) ?_
        refine WL.lv rfl (LV.eqI rfl rfl) ?_
        refine WL.nil (thenQ.n ?_)
        refine WC.condP (p := (gI (Stp ((rows1.getD ((0 : Int)).toNat default).2) ((rows1.getD ((1 : Int)).toNat default).2)) (k)) = 3) rfl (fun h3 => ?_) (fun h3 => ?_)
        · skip
          refine WC.region ?_
          refine WL.lv rfl (LV.fieldA Try.underlying30 rfl ti3.sz rfl) ?_
          refine WL.lv rfl (LV.load1 Try.underlying3 rfl rfl (Blk.cellN (SH.at hL3 (.head _)) 0 rfl _ (KB.refl No _))) ?_
          refine WL.lv rfl (LV.add rfl rfl (wr64 (by omega) (by omega))) ?_
          refine WL.lv rfl (LV.fieldA Try.underlying30 rfl ti3.sz rfl) ?_
          refine WL.xse rfl (XSE.blk #[(.int .i64 (c0 + 1)), (.int .i64 c1)] hL3 (Nat.le_of_ble_eq_true rfl) ti3.sz rfl rfl rfl rfl) ?_
          rintro w10 ⟨hS12, hk5⟩
          refine WL.nil (thenQ.n ?_)
          refine WC.seq ?_
          refine WC.region ?_
          iterate 2 refine WL.lv rfl (LV.mv rfl) ?_
          obtain ⟨A14, c14, e12, g7⟩ := St.elt (SH.rd hS12 (.tail _ (.head _))) 0 k (by omega) (by omega)
          refine WL.lv rfl (LV.idxA Try.underlying47 ti50.sz rfl e12 rfl (by omega) (by omega)) ?_
          refine WL.lv rfl (LV.load1 (v := (.int .i64 (gI (Stp ((rows1.getD ((0 : Int)).toNat default).2) ((rows1.getD ((1 : Int)).toNat default).2)) (k)))) Try.underlying50 rfl rfl (g7 _ (KB.refl No _) 0 _ rfl)) ?_
          refine WL.lv rfl (LV.eqI rfl rfl) ?_
          refine WL.nil (thenQ.n ?_)
          refine WC.condP (p := (gI (Stp ((rows1.getD ((0 : Int)).toNat default).2) ((rows1.getD ((1 : Int)).toNat default).2)) (k)) = 2) rfl (fun h2 => ?_) (fun h2 => ?_)
          · skip
            refine WC.region ?_
            refine WL.lv rfl (LV.fieldA Try.underlying30 rfl ti3.sz rfl) ?_
            refine WL.lv rfl (LV.load1 Try.underlying3 rfl rfl (Blk.cellN (SH.at hS12 (.head _)) 1 rfl _ (KB.refl No _))) ?_
            refine WL.lv rfl (LV.add rfl rfl (wr64 (by omega) (by omega))) ?_
            refine WL.lv rfl (LV.fieldA Try.underlying30 rfl ti3.sz rfl) ?_
            refine WL.xse rfl (XSE.blk #[(.int .i64 (c0 + 1)), (.int .i64 (c1 + 1))] hS12 (Nat.le_of_ble_eq_true rfl) ti3.sz rfl rfl rfl rfl) ?_
            rintro w11 ⟨hS13, hk6⟩
            refine WL.nil (blockQ.n <| thenQ.n ?_)
            refine WC.region ?_
            refine WL.lv rfl (LV.mv rfl) ?_
            refine WL.lv rfl (LV.add rfl rfl (wr64 (by omega) (by omega))) ?_
            refine WL.lv rfl (LV.asg rfl) ?_
            refine WL.nil (thenQ.n ?_)
            exact ⟨_, by omega, c0 + 1, c1 + 1, k + 1, by omega, by omega, (by rw [hc3_]; split <;> omega), (by rw [hc2_]; split <;> omega), by omega, hS13, rfl, Weak.cons rfl <| Weak.cons rfl <| Weak.cons rfl <| Weak.cons rfl <| Weak.cons rfl <| Weak.cons rfl <| Weak.nil _⟩
          · skip
            refine WC.skip (blockQ.n <| thenQ.n ?_)
            refine WC.region ?_
            refine WL.lv rfl (LV.mv rfl) ?_
            refine WL.lv rfl (LV.add rfl rfl (wr64 (by omega) (by omega))) ?_
            refine WL.lv rfl (LV.asg rfl) ?_
            refine WL.nil (thenQ.n ?_)
            exact ⟨_, by omega, c0 + 1, c1, k + 1, by omega, by omega, (by rw [hc3_]; split <;> omega), (by rw [hc2_]; split <;> omega), by omega, hS12, rfl, Weak.cons rfl <| Weak.cons rfl <| Weak.cons rfl <| Weak.cons rfl <| Weak.cons rfl <| Weak.cons rfl <| Weak.nil _⟩
        · skip
          refine WC.skip (thenQ.n ?_)
          refine WC.seq ?_
          refine WC.region ?_
          iterate 2 refine WL.lv rfl (LV.mv rfl) ?_
          obtain ⟨A15, c15, e13, g8⟩ := St.elt (SH.rd hL3 (.tail _ (.head _))) 0 k (by omega) (by omega)
          refine WL.lv rfl (LV.idxA Try.underlying47 ti50.sz rfl e13 rfl (by omega) (by omega)) ?_
          refine WL.lv rfl (LV.load1 (v := (.int .i64 (gI (Stp ((rows1.getD ((0 : Int)).toNat default).2) ((rows1.getD ((1 : Int)).toNat default).2)) (k)))) Try.underlying50 rfl rfl (g8 _ (KB.refl No _) 0 _ rfl)) ?_
          refine WL.lv rfl (LV.eqI rfl rfl) ?_
          refine WL.nil (thenQ.n ?_)
          refine WC.condP (p := (gI (Stp ((rows1.getD ((0 : Int)).toNat default).2) ((rows1.getD ((1 : Int)).toNat default).2)) (k)) = 2) rfl (fun h2 => ?_) (fun h2 => ?_)
          · skip
            refine WC.region ?_
            refine WL.lv rfl (LV.fieldA Try.underlying30 rfl ti3.sz rfl) ?_
            refine WL.lv rfl (LV.load1 Try.underlying3 rfl rfl (Blk.cellN (SH.at hL3 (.head _)) 1 rfl _ (KB.refl No _))) ?_
            refine WL.lv rfl (LV.add rfl rfl (wr64 (by omega) (by omega))) ?_
            refine WL.lv rfl (LV.fieldA Try.underlying30 rfl ti3.sz rfl) ?_
            refine WL.xse rfl (XSE.blk #[(.int .i64 c0), (.int .i64 (c1 + 1))] hL3 (Nat.le_of_ble_eq_true rfl) ti3.sz rfl rfl rfl rfl) ?_
            rintro w12 ⟨hS14, hk7⟩
            refine WL.nil (blockQ.n <| thenQ.n ?_)
            refine WC.region ?_
            refine WL.lv rfl (LV.mv rfl) ?_
            refine WL.lv rfl (LV.add rfl rfl (wr64 (by omega) (by omega))) ?_
            refine WL.lv rfl (LV.asg rfl) ?_
            refine WL.nil (thenQ.n ?_)
            exact ⟨_, by omega, c0, c1 + 1, k + 1, by omega, by omega, (by rw [hc3_]; split <;> omega), (by rw [hc2_]; split <;> omega), by omega, hS14, rfl, Weak.cons rfl <| Weak.cons rfl <| Weak.cons rfl <| Weak.cons rfl <| Weak.cons rfl <| Weak.cons rfl <| Weak.nil _⟩
          · skip
            refine WC.skip (blockQ.n <| thenQ.n ?_)
            refine WC.region ?_
            refine WL.lv rfl (LV.mv rfl) ?_
            refine WL.lv rfl (LV.add rfl rfl (wr64 (by omega) (by omega))) ?_
            refine WL.lv rfl (LV.asg rfl) ?_
            refine WL.nil (thenQ.n ?_)
            exact ⟨_, by omega, c0, c1, k + 1, by omega, by omega, (by rw [hc3_]; split <;> omega), (by rw [hc2_]; split <;> omega), by omega, hL3, rfl, Weak.cons rfl <| Weak.cons rfl <| Weak.cons rfl <| Weak.cons rfl <| Weak.cons rfl <| Weak.cons rfl <| Weak.nil _⟩
      · skip
        refine WC.exit (thenQ.x <| thenQ.x <| blockQ.hit <| thenQ.n ?_)
        refine WC.region ?_
        refine WL.lv rfl (LV.mv rfl) ?_
        refine WL.lv rfl (LV.loadAgg (cs := [(.int .i64 c0), (.int .i64 c1)]) Try.underlying30 rfl ti30 rfl rfl (Blk.agg (SH.at hL3 (.head _)) _ (KB.refl No _))) ?_
        refine WL.xe rfl (XE.buildSlice (E := eP) [(0, (.agg #[(.int .i64 c0), (.int .i64 c1)]))] #[(.int .i64 c0), (.int .i64 c1)] [((c0 : Int), (c1 : Int))] hL3 Try.underlying25 ti30 rfl (by decide) (by kernel_rfl) (.inr rfl) rfl rfl (by decide)) ?_
        rintro _ w13 ⟨b4, rfl, hS15, hk8⟩
        have hS16 : SH w No w13 [rowE eP 30 (.slice A_out out.length c_out) out, rowE eP 30 (.slice (some ⟨b4, 0, none⟩) 1 1) [((c0 : Int), (c1 : Int))], blkE b3 30 #[(.int .i64 c0), (.int .i64 c1)], rowE eI 50 (.slice A12 ((Stp ((rows1.getD ((0 : Int)).toNat default).2) ((rows1.getD ((1 : Int)).toNat default).2)).length) c12) (Stp ((rows1.getD ((0 : Int)).toNat default).2) ((rows1.getD ((1 : Int)).toNat default).2)), rrE eI 49 3 (.slice A7 rows1.length c7) rows1, rowE eV 24 (.slice (some ⟨b2, 0, none⟩) 2 2) [(⟨A4, (l.getD (i2 - 1).toNat default).2.length, c4⟩ : SV), (⟨A6, (l.getD (i2).toNat default).2.length, c6⟩ : SV)]] := (SH.front [_, _, _, _, _] hS15)
        refine WL.xe rfl (XE.append hS16 Try.underlying25 ti30 rfl (St.now (SH.rd hS16 (.tail _ (.head _)))) rfl rfl (by first | omega | simp only [List.length_append, List.length_cons, List.length_nil, List.length_take, List.length_reverse, List.length_drop] at *; omega) (by first | omega | simp only [List.length_append, List.length_cons, List.length_nil, List.length_take, List.length_reverse, List.length_drop] at *; omega)) ?_
        rintro _ w14 ⟨A16, c16, rfl, hS17, hk9⟩
        refine WL.lv rfl (LV.asg rfl) ?_
        refine WL.nil (blockQ.n <| thenQ.n ?_)
        refine WC.region ?_
        refine WL.lv rfl (LV.mv rfl) ?_
        refine WL.lv rfl (LV.add rfl rfl (wr64 (by omega) (by omega))) ?_
        refine WL.lv rfl (LV.asg rfl) ?_
        refine WL.nil (thenQ.n ?_)
        have hS18 : SH w No w14 [rowE eP 30 (.slice A16 ((out ++ [((c0 : Int), (c1 : Int))]).length) c16) (out ++ [((c0 : Int), (c1 : Int))])] := (SH.take 1 rfl hS17)
        exact ⟨_, by omega, A16, c16, (out ++ [((c0 : Int), (c1 : Int))]), i2 + 1, by omega, by omega, by omega, (by rw [CHS_at i2lo1 hcd, ← q1, ← chn_of hra_ hrb_ (by omega) s1 s2]), (by simp; omega), hS18, rfl, Weak.cons rfl <| Weak.cons rfl <| Weak.cons rfl <| Weak.nil _⟩
    · skip
      refine WC.exit (thenQ.x <| thenQ.x <| blockQ.hit <| thenQ.n ?_)
      refine WC.seq ?_
      refine WC.region ?_
      refine WL.lv rfl (LV.mv rfl) ?_
      iterate 2 refine WL.lv rfl (LV.asg rfl) ?_
      refine WL.nil (thenQ.n ?_)
      refine WC.ret (?_)
      have hres2 : (out : List (Int × Int)) = CHR l := by unfold CHR; rw [if_neg hlg_, q1, List.take_of_length_le (by rw [List.length_map]; omega)]
      exact ⟨_, fun a ha => res2 rfl ha rfl rfl, (by rw [← hres2]; exact ⟨_, _, tup2 rfl (congrArg (Value.int .i64) (by unfold CHE; rw [if_neg hlg_])), hL2⟩)⟩

theorem fresh_calls {w : World} {c : (Int × Int)}  :
    Calls Try.prog 11 #[(.agg #[(.int .i64 ((c).1)), (.int .i64 ((c).2))])] w fun e w' => ∃ v, e = .returned v ∧ (fun v w' => ∃ (r' : Nat), v = .float .f64 r' ∧ cn r' = FRS c ∧ r' < 18446744073709551616 ∧ KB No w w') v w' := by
  have hrg_ : RGT c → 0 ≤ c.1 ∧ c.1 ≤ 2147483647 ∧ 0 ≤ c.2 ∧ c.2 ≤ 2147483647 := fun h_ => ⟨h_.1.1, h_.1.2, h_.2.1, h_.2.2⟩
  have hn1_ : number c.1 → 0 ≤ c.1 ∧ c.1 ≤ 2147483647 := fun h_ => h_
  have hn2_ : number c.2 → 0 ≤ c.2 ∧ c.2 ≤ 2147483647 := fun h_ => h_
  have hS : SH w No w [] := SH.nil _ _
  refine calls (l := litOf [(.agg #[(.int .i64 ((c).1)), (.int .i64 ((c).2))])] 0) Try.func11 rfl (n := 25) rfl (Nat.le_of_ble_eq_true rfl) (lit_args _) ?_
  refine WC.seq ?_
  refine WC.region ?_
  refine WL.xe rfl (XE.box #[(.int .i64 ((c).1)), (.int .i64 ((c).2))] hS rfl rfl) ?_
  rintro _ w1 ⟨b1, rfl, hS1, hk1⟩
  refine WL.lv rfl (LV.asg rfl) ?_
  refine WL.nil (thenQ.n ?_)
  iterate 2 refine WC.seq ?_
  refine WC.region ?_
  refine WL.lv rfl (LV.loadAgg (cs := [(.int .i64 ((c).1)), (.int .i64 ((c).2))]) Try.underlying30 rfl ti30 rfl rfl (Blk.agg (SH.at hS1 (.head _)) _ (KB.refl No _))) ?_
  rcases Decidable.em (RGT ((c).1, (c).2)) with hrg | hrg
  · refine WL.call rfl (XC.fn Try.func21 (by kernel_rfl) rfl rfl rfl) (Calls.asB (right_calls (c := ((c).1, (c).2)) ) (decide_eq_true (hrg))) ?_
    rintro v_ w2 ⟨rfl, hk2⟩
    have hS2 := SH.same hS1 hk2
    try have hrb_ := hrg_ hrg
    refine WL.lv rfl (LV.notB rfl) ?_
    refine WL.lv rfl (LV.mv rfl) ?_
    refine WL.lv rfl (LV.fieldA Try.underlying30 rfl ti3.sz rfl) ?_
    refine WL.lv rfl (LV.load1 Try.underlying3 rfl rfl (Blk.cellN (SH.at hS2 (.head _)) 0 rfl _ (KB.refl No _))) ?_
    refine WL.lv rfl (LV.fieldA Try.underlying30 rfl ti3.sz rfl) ?_
    refine WL.lv rfl (LV.load1 Try.underlying3 rfl rfl (Blk.cellN (SH.at hS2 (.head _)) 1 rfl _ (KB.refl No _))) ?_
    refine WL.lv rfl (LV.add rfl rfl (wr64 (by omega) (by omega))) ?_
    refine WL.lv rfl (LV.eqI rfl rfl) ?_
    refine WL.lv rfl (LV.pickF rfl rfl) ?_
    refine WL.nil (thenQ.n ?_)
    refine WC.condP (p := (((c).1) + ((c).2)) = 0) rfl (fun hc1 => ?_) (fun hc1 => ?_)
    · skip
      refine WC.seq ?_
      refine WC.region ?_
      refine WL.call rfl (XC.fn Try.func22 (by kernel_rfl) rfl rfl rfl) (ratio_calls (common := (0 : Int)) (n := (0 : Int)) (m := (0 : Int)) (by omega) (by omega) (by omega)) ?_
      rintro v_ w3 ⟨r1, rfl, hf1, hf2, hk3⟩
      have hS3 := SH.same hS2 hk3
      refine WL.lv rfl (LV.asg rfl) ?_
      refine WL.nil (thenQ.n ?_)
      refine WC.ret (thenQ.r <| ?_)
      exact ⟨_, fun a ha => res1 rfl ha rfl, r1, congrArg FV (rfl), FRS_out (by first | exact .inl (by assumption) | exact .inr (by omega) | exact .inl (fun h_ => by have h1_ := h_.1; contradiction) | exact .inl (fun h_ => by have h1_ := h_.2; contradiction)) (hf1.trans RAT_000), hf2, hS3.kb⟩
    · skip
      refine WC.skip (thenQ.n ?_)
      refine WC.seq ?_
      refine WC.region ?_
      refine WL.lv rfl (LV.fieldA Try.underlying30 rfl ti3.sz rfl) ?_
      refine WL.lv rfl (LV.load1 Try.underlying3 rfl rfl (Blk.cellN (SH.at hS2 (.head _)) 0 rfl _ (KB.refl No _))) ?_
      refine WL.lv rfl (LV.cvtIF Try.underlying3 Try.underlying34 rfl) ?_
      refine WL.lv rfl (LV.fieldA Try.underlying30 rfl ti3.sz rfl) ?_
      refine WL.lv rfl (LV.load1 Try.underlying3 rfl rfl (Blk.cellN (SH.at hS2 (.head _)) 0 rfl _ (KB.refl No _))) ?_
      refine WL.lv rfl (LV.fieldA Try.underlying30 rfl ti3.sz rfl) ?_
      refine WL.lv rfl (LV.load1 Try.underlying3 rfl rfl (Blk.cellN (SH.at hS2 (.head _)) 1 rfl _ (KB.refl No _))) ?_
      refine WL.lv rfl (LV.add rfl rfl (wr64 (by omega) (by omega))) ?_
      refine WL.lv rfl (LV.cvtIF Try.underlying3 Try.underlying34 rfl) ?_
      refine WL.xe rfl (XE.arF (a := (floatOfInt .f64 ((c).1))) (b := (floatOfInt .f64 (((c).1) + ((c).2)))) hS2 (.inr (.inr (.inr rfl))) rfl rfl) ?_
      rintro _ w4 ⟨r2, rfl, hr1, hb1, hS4, hk4⟩
      refine WL.lv rfl (LV.asg rfl) ?_
      refine WL.nil (thenQ.n ?_)
      refine WC.ret (?_)
      exact ⟨_, fun a ha => res1 rfl ha rfl, r2, congrArg FV (rfl), FRS_in (by assumption) (by omega) hr1, hb1, hS4.kb⟩
  · refine WL.call rfl (XC.fn Try.func21 (by kernel_rfl) rfl rfl rfl) (Calls.asB (right_calls (c := ((c).1, (c).2)) ) (decide_eq_false (hrg))) ?_
    rintro v_ w5 ⟨rfl, hk5⟩
    have hS5 := SH.same hS1 hk5
    refine WL.lv rfl (LV.notB rfl) ?_
    refine WL.lv rfl (LV.mv rfl) ?_
    iterate 6 refine WL.off rfl ?_
    refine WL.lv rfl (LV.pickT rfl rfl) ?_
    refine WL.nil (thenQ.n ?_)
    refine WC.condT rfl ?_
    refine WC.seq ?_
    refine WC.region ?_
    refine WL.call rfl (XC.fn Try.func22 (by kernel_rfl) rfl rfl rfl) (ratio_calls (common := (0 : Int)) (n := (0 : Int)) (m := (0 : Int)) (by omega) (by omega) (by omega)) ?_
    rintro v_ w6 ⟨r3, rfl, hf3, hf4, hk6⟩
    have hS6 := SH.same hS5 hk6
    refine WL.lv rfl (LV.asg rfl) ?_
    refine WL.nil (thenQ.n ?_)
    refine WC.ret (thenQ.r <| ?_)
    exact ⟨_, fun a ha => res1 rfl ha rfl, r3, congrArg FV (rfl), FRS_out (by first | exact .inl (by assumption) | exact .inr (by omega) | exact .inl (fun h_ => by have h1_ := h_.1; contradiction) | exact .inl (fun h_ => by have h1_ := h_.2; contradiction)) (hf3.trans RAT_000), hf4, hS6.kb⟩

theorem rfresh_calls {w : World} {c : (Int × Int)}  :
    Calls Try.prog 12 #[(.agg #[(.int .i64 ((c).1)), (.int .i64 ((c).2))])] w fun e w' => ∃ v, e = .returned v ∧ (fun v w' => ∃ (r' : Nat), v = .float .f64 r' ∧ cn r' = FRS c ∧ r' < 18446744073709551616 ∧ KB No w w') v w' := by
  have hrg_ : RGT c → 0 ≤ c.1 ∧ c.1 ≤ 2147483647 ∧ 0 ≤ c.2 ∧ c.2 ≤ 2147483647 := fun h_ => ⟨h_.1.1, h_.1.2, h_.2.1, h_.2.2⟩
  have hn1_ : number c.1 → 0 ≤ c.1 ∧ c.1 ≤ 2147483647 := fun h_ => h_
  have hn2_ : number c.2 → 0 ≤ c.2 ∧ c.2 ≤ 2147483647 := fun h_ => h_
  have hS : SH w No w [] := SH.nil _ _
  refine calls (l := litOf [(.agg #[(.int .i64 ((c).1)), (.int .i64 ((c).2))])] 0) Try.func12 rfl (n := 35) rfl (Nat.le_of_ble_eq_true rfl) (lit_args _) ?_
  refine WC.seq ?_
  refine WC.region ?_
  refine WL.xe rfl (XE.box #[(.int .i64 ((c).1)), (.int .i64 ((c).2))] hS rfl rfl) ?_
  rintro _ w1 ⟨b1, rfl, hS1, hk1⟩
  refine WL.lv rfl (LV.asg rfl) ?_
  refine WL.nil (thenQ.n ?_)
  iterate 2 refine WC.seq ?_
  refine WC.region ?_
  refine WL.lv rfl (LV.fieldA Try.underlying30 rfl ti3.sz rfl) ?_
  refine WL.lv rfl (LV.load1 Try.underlying3 rfl rfl (Blk.cellN (SH.at hS1 (.head _)) 0 rfl _ (KB.refl No _))) ?_
  rcases Decidable.em (number ((c).1)) with hq1 | hq1
  · refine WL.call rfl (XC.fn Try.func23 (by kernel_rfl) rfl rfl rfl) (Calls.asB (rnumber_calls (n := ((c).1)) ) (decide_eq_true (hq1))) ?_
    rintro v_ w2 ⟨rfl, hk2⟩
    have hS2 := SH.same hS1 hk2
    try have hr1_ := hn1_ hq1
    refine WL.lv rfl (LV.notB rfl) ?_
    refine WL.lv rfl (LV.mv rfl) ?_
    refine WL.lv rfl (LV.fieldA Try.underlying30 rfl ti3.sz rfl) ?_
    refine WL.lv rfl (LV.load1 Try.underlying3 rfl rfl (Blk.cellN (SH.at hS2 (.head _)) 1 rfl _ (KB.refl No _))) ?_
    rcases Decidable.em (number ((c).2)) with hq2 | hq2
    · refine WL.call rfl (XC.fn Try.func23 (by kernel_rfl) rfl rfl rfl) (Calls.asB (rnumber_calls (n := ((c).2)) ) (decide_eq_true (hq2))) ?_
      rintro v_ w3 ⟨rfl, hk3⟩
      have hS3 := SH.same hS2 hk3
      try have hr2_ := hn2_ hq2
      refine WL.lv rfl (LV.notB rfl) ?_
      refine WL.lv rfl (LV.pickF rfl rfl) ?_
      refine WL.lv rfl (LV.mv rfl) ?_
      refine WL.lv rfl (LV.fieldA Try.underlying30 rfl ti3.sz rfl) ?_
      refine WL.lv rfl (LV.load1 Try.underlying3 rfl rfl (Blk.cellN (SH.at hS3 (.head _)) 0 rfl _ (KB.refl No _))) ?_
      rcases Decidable.em (((c).1) = 0) with hg1 | hg1
      · refine WL.lv rfl (LV.as (LV.eqI rfl rfl) (decide_eq_true hg1)) ?_
        refine WL.lv rfl (LV.mv rfl) ?_
        refine WL.lv rfl (LV.fieldA Try.underlying30 rfl ti3.sz rfl) ?_
        refine WL.lv rfl (LV.load1 Try.underlying3 rfl rfl (Blk.cellN (SH.at hS3 (.head _)) 1 rfl _ (KB.refl No _))) ?_
        refine WL.lv rfl (LV.eqI rfl rfl) ?_
        refine WL.lv rfl (LV.pickT rfl rfl) ?_
        refine WL.lv rfl (LV.pickF rfl rfl) ?_
        refine WL.nil (thenQ.n ?_)
        refine WC.condP (p := ((c).2) = 0) rfl (fun hc1 => ?_) (fun hc1 => ?_)
        · skip
          refine WC.seq ?_
          refine WC.region ?_
          refine WL.call rfl (XC.fn Try.func24 (by kernel_rfl) rfl rfl rfl) (none_calls  ) ?_
          rintro v_ w4 ⟨r1, rfl, hf1, hf2, hk4⟩
          have hS4 := SH.same hS3 hk4
          refine WL.lv rfl (LV.asg rfl) ?_
          refine WL.nil (thenQ.n ?_)
          refine WC.ret (thenQ.r <| ?_)
          exact ⟨_, fun a ha => res1 rfl ha rfl, r1, congrArg FV (rfl), FRS_out (by first | exact .inl (by assumption) | exact .inr (by omega) | exact .inl (fun h_ => by have h1_ := h_.1; contradiction) | exact .inl (fun h_ => by have h1_ := h_.2; contradiction)) (hf1), hf2, hS4.kb⟩
        · skip
          refine WC.skip (thenQ.n ?_)
          refine WC.seq ?_
          refine WC.region ?_
          refine WL.lv rfl (LV.fieldA Try.underlying30 rfl ti3.sz rfl) ?_
          refine WL.lv rfl (LV.load1 Try.underlying3 rfl rfl (Blk.cellN (SH.at hS3 (.head _)) 0 rfl _ (KB.refl No _))) ?_
          refine WL.lv rfl (LV.cvtIF Try.underlying3 Try.underlying34 rfl) ?_
          refine WL.lv rfl (LV.fieldA Try.underlying30 rfl ti3.sz rfl) ?_
          refine WL.lv rfl (LV.load1 Try.underlying3 rfl rfl (Blk.cellN (SH.at hS3 (.head _)) 0 rfl _ (KB.refl No _))) ?_
          refine WL.lv rfl (LV.cvtIF Try.underlying3 Try.underlying34 rfl) ?_
          refine WL.lv rfl (LV.fieldA Try.underlying30 rfl ti3.sz rfl) ?_
          refine WL.lv rfl (LV.load1 Try.underlying3 rfl rfl (Blk.cellN (SH.at hS3 (.head _)) 1 rfl _ (KB.refl No _))) ?_
          refine WL.lv rfl (LV.cvtIF Try.underlying3 Try.underlying34 rfl) ?_
          refine WL.xe rfl (XE.arF (a := (floatOfInt .f64 ((c).1))) (b := (floatOfInt .f64 ((c).2))) hS3 (.inl rfl) rfl rfl) ?_
          rintro _ w5 ⟨r2, rfl, hr1, hb1, hS5, hk5⟩
          have hs_ := hr1
          refine WL.xe rfl (XE.arF (a := (floatOfInt .f64 ((c).1))) (b := r2) hS5 (.inr (.inr (.inr rfl))) rfl rfl) ?_
          rintro _ w6 ⟨r3, rfl, hr2, hb2, hS6, hk6⟩
          refine WL.lv rfl (LV.asg rfl) ?_
          refine WL.nil (thenQ.n ?_)
          refine WC.ret (?_)
          exact ⟨_, fun a ha => res1 rfl ha rfl, r3, congrArg FV (rfl), FRS_doc (by first | assumption | exact ⟨by assumption, by assumption⟩) (by omega) hs_ hr2, hb2, hS6.kb⟩
      · refine WL.lv rfl (LV.as (LV.eqI rfl rfl) (decide_eq_false hg1)) ?_
        refine WL.lv rfl (LV.mv rfl) ?_
        iterate 3 refine WL.off rfl ?_
        iterate 2 refine WL.lv rfl (LV.pickF rfl rfl) ?_
        refine WL.nil (thenQ.n ?_)
        refine WC.condF rfl ?_
        refine WC.skip (thenQ.n ?_)
        refine WC.seq ?_
        refine WC.region ?_
        refine WL.lv rfl (LV.fieldA Try.underlying30 rfl ti3.sz rfl) ?_
        refine WL.lv rfl (LV.load1 Try.underlying3 rfl rfl (Blk.cellN (SH.at hS3 (.head _)) 0 rfl _ (KB.refl No _))) ?_
        refine WL.lv rfl (LV.cvtIF Try.underlying3 Try.underlying34 rfl) ?_
        refine WL.lv rfl (LV.fieldA Try.underlying30 rfl ti3.sz rfl) ?_
        refine WL.lv rfl (LV.load1 Try.underlying3 rfl rfl (Blk.cellN (SH.at hS3 (.head _)) 0 rfl _ (KB.refl No _))) ?_
        refine WL.lv rfl (LV.cvtIF Try.underlying3 Try.underlying34 rfl) ?_
        refine WL.lv rfl (LV.fieldA Try.underlying30 rfl ti3.sz rfl) ?_
        refine WL.lv rfl (LV.load1 Try.underlying3 rfl rfl (Blk.cellN (SH.at hS3 (.head _)) 1 rfl _ (KB.refl No _))) ?_
        refine WL.lv rfl (LV.cvtIF Try.underlying3 Try.underlying34 rfl) ?_
        refine WL.xe rfl (XE.arF (a := (floatOfInt .f64 ((c).1))) (b := (floatOfInt .f64 ((c).2))) hS3 (.inl rfl) rfl rfl) ?_
        rintro _ w7 ⟨r4, rfl, hr3, hb3, hS7, hk7⟩
        have hs_ := hr3
        refine WL.xe rfl (XE.arF (a := (floatOfInt .f64 ((c).1))) (b := r4) hS7 (.inr (.inr (.inr rfl))) rfl rfl) ?_
        rintro _ w8 ⟨r5, rfl, hr4, hb4, hS8, hk8⟩
        refine WL.lv rfl (LV.asg rfl) ?_
        refine WL.nil (thenQ.n ?_)
        refine WC.ret (?_)
        exact ⟨_, fun a ha => res1 rfl ha rfl, r5, congrArg FV (rfl), FRS_doc (by first | assumption | exact ⟨by assumption, by assumption⟩) (by omega) hs_ hr4, hb4, hS8.kb⟩
    · refine WL.call rfl (XC.fn Try.func23 (by kernel_rfl) rfl rfl rfl) (Calls.asB (rnumber_calls (n := ((c).2)) ) (decide_eq_false (hq2))) ?_
      rintro v_ w9 ⟨rfl, hk9⟩
      have hS9 := SH.same hS2 hk9
      refine WL.lv rfl (LV.notB rfl) ?_
      refine WL.lv rfl (LV.pickF rfl rfl) ?_
      refine WL.lv rfl (LV.mv rfl) ?_
      iterate 8 refine WL.off rfl ?_
      refine WL.lv rfl (LV.pickT rfl rfl) ?_
      refine WL.nil (thenQ.n ?_)
      refine WC.condT rfl ?_
      refine WC.seq ?_
      refine WC.region ?_
      refine WL.call rfl (XC.fn Try.func24 (by kernel_rfl) rfl rfl rfl) (none_calls  ) ?_
      rintro v_ w10 ⟨r6, rfl, hf3, hf4, hk10⟩
      have hS10 := SH.same hS9 hk10
      refine WL.lv rfl (LV.asg rfl) ?_
      refine WL.nil (thenQ.n ?_)
      refine WC.ret (thenQ.r <| ?_)
      exact ⟨_, fun a ha => res1 rfl ha rfl, r6, congrArg FV (rfl), FRS_out (by first | exact .inl (by assumption) | exact .inr (by omega) | exact .inl (fun h_ => by have h1_ := h_.1; contradiction) | exact .inl (fun h_ => by have h1_ := h_.2; contradiction)) (hf3), hf4, hS10.kb⟩
  · refine WL.call rfl (XC.fn Try.func23 (by kernel_rfl) rfl rfl rfl) (Calls.asB (rnumber_calls (n := ((c).1)) ) (decide_eq_false (hq1))) ?_
    rintro v_ w11 ⟨rfl, hk11⟩
    have hS11 := SH.same hS1 hk11
    refine WL.lv rfl (LV.notB rfl) ?_
    refine WL.lv rfl (LV.mv rfl) ?_
    iterate 4 refine WL.off rfl ?_
    refine WL.lv rfl (LV.pickT rfl rfl) ?_
    refine WL.lv rfl (LV.mv rfl) ?_
    iterate 8 refine WL.off rfl ?_
    refine WL.lv rfl (LV.pickT rfl rfl) ?_
    refine WL.nil (thenQ.n ?_)
    refine WC.condT rfl ?_
    refine WC.seq ?_
    refine WC.region ?_
    refine WL.call rfl (XC.fn Try.func24 (by kernel_rfl) rfl rfl rfl) (none_calls  ) ?_
    rintro v_ w12 ⟨r7, rfl, hf5, hf6, hk12⟩
    have hS12 := SH.same hS11 hk12
    refine WL.lv rfl (LV.asg rfl) ?_
    refine WL.nil (thenQ.n ?_)
    refine WC.ret (thenQ.r <| ?_)
    exact ⟨_, fun a ha => res1 rfl ha rfl, r7, congrArg FV (rfl), FRS_out (by first | exact .inl (by assumption) | exact .inr (by omega) | exact .inl (fun h_ => by have h1_ := h_.1; contradiction) | exact .inl (fun h_ => by have h1_ := h_.2; contradiction)) (hf5), hf6, hS12.kb⟩

set_option maxHeartbeats 4000000 in
theorem sum_calls {w : World} {A_l : Option Addr} {n_l c_l : Nat} {l : List (Int × Int)} (h_l : St No w (Rd eP (.slice A_l n_l c_l) l)) (hn_l : l.length = n_l) (hl : l.length ≤ 60) :
    Calls Try.prog 14 #[(.slice A_l n_l c_l)] w fun e w' => ∃ v, e = .returned v ∧ (fun v w' => ∃ (m' d' : Nat), v = .agg #[.int .i64 (SI l), .int .i64 (SO l), .float .f64 m', .float .f64 d', .int .i64 (PKF l l.length), .int .i64 (QT l)] ∧ cn m' = MEAN (SHR l) ∧ m' < 18446744073709551616 ∧ MEDN (SHR l) d' ∧ d' < 18446744073709551616 ∧ KB No w w') v w' := by
  subst hn_l
  have hS : SH w No w [] := SH.nil _ _
  refine calls (l := litOf [(.slice A_l l.length c_l)] 0) Try.func14 rfl (n := 90) rfl (Nat.le_of_ble_eq_true rfl) (lit_args _) ?_
  refine WC.seq ?_
  refine WC.region ?_
  refine WL.xe rfl (XE.alloc #[(.int .i64 0), (.int .i64 0), (.float .f64 0), (.float .f64 0), (.int .i64 0), (.int .i64 0)] hS ti38 rfl) ?_
  rintro _ w1 ⟨b1, rfl, hS1, hk1⟩
  refine WL.nil (thenQ.n ?_)
  refine WC.seq ?_
  refine WC.region ?_
  refine WL.lv rfl (LV.build (vs := [(4, (.int .i64 (-1)))]) (places := #[(0, 1), (1, 1), (2, 1), (3, 1), (4, 1), (5, 1)]) (cs := #[(.int .i64 0), (.int .i64 0), (.float .f64 0), (.float .f64 0), (.int .i64 (-1)), (.int .i64 0)]) Try.underlying38 ti38 (fun _ => by kernel_rfl) rfl rfl) ?_
  refine WL.xe rfl (XE.alloc #[(.int .i64 0), (.int .i64 0), (.float .f64 0), (.float .f64 0), (.int .i64 0), (.int .i64 0)] hS1 ti38 rfl) ?_
  rintro _ w2 ⟨b2, rfl, hS2, hk2⟩
  refine WL.xse rfl (XSE.blkAgg #[(.int .i64 0), (.int .i64 0), (.float .f64 0), (.float .f64 0), (.int .i64 (-1)), (.int .i64 0)] hS2 (by kernel_rfl) rfl (by kernel_rfl) rfl rfl) ?_
  rintro w3 ⟨hS3, hk3⟩
  refine WL.nil (thenQ.n ?_)
  refine WC.seq ?_
  refine WC.region ?_
  have hS4 := SH.nilRow (E := eF) (T := 34) hS3
  refine WL.lv rfl (LV.asg rfl) ?_
  refine WL.nil (thenQ.n ?_)
  iterate 2 refine WC.seq ?_
  refine WC.region ?_
  refine WL.lv rfl (LV.mv rfl) ?_
  refine WL.lv rfl (LV.lenL Try.underlying25 rfl) ?_
  refine WL.lv rfl (LV.mv rfl) ?_
  refine WL.nil (thenQ.n ?_)
  refine WC.block ?_
  refine WC.loop (fun m_ f_ w_ => ∃ (s0 : Int) (s1 : Int) (s2 : Nat) (s3 : Nat) (s4 : Int) (s5 : Int) (A_shares : Option Addr) (c_shares : Nat) (shares : List Nat) (ix : Int), (0 ≤ ix) ∧ (ix ≤ (l.length : Int)) ∧ (s0 = SI (l.take ix.toNat)) ∧ (s1 = SO (l.take ix.toNat)) ∧ (s4 = PKF l ix.toNat) ∧ (s5 = QT (l.take ix.toNat)) ∧ (shares = SHR (l.take ix.toNat)) ∧ ((shares.length : Int) ≤ ix) ∧ (0 ≤ s0 ∧ s0 ≤ 2147483647 * ix ∧ 0 ≤ s1 ∧ s1 ≤ 2147483647 * ix ∧ 0 ≤ s5 ∧ s5 ≤ ix) ∧ (∀ x ∈ shares, x < 18446744073709551616) ∧ SH w No w_ [rowE eF 34 (.slice A_shares shares.length c_shares) shares, blkE b2 38 #[(.int .i64 s0), (.int .i64 s1), (.float .f64 s2), (.float .f64 s3), (.int .i64 s4), (.int .i64 s5)], blkE b1 38 #[(.int .i64 0), (.int .i64 0), (.float .f64 0), (.float .f64 0), (.int .i64 0), (.int .i64 0)]] ∧ m_ = (((l.length : Int) - ix).toNat) ∧ Weak (lit [(0, (.slice A_l l.length c_l)), (2, (.pointer (some ⟨b1, 0, none⟩))), (3, (.pointer (some ⟨b2, 0, none⟩))), (4, (.slice A_shares shares.length c_shares)), (10, (.slice A_l l.length c_l)), (11, (.int .i64 (l.length : Int))), (12, (.int .i64 ix))]) f_) _ ⟨0, 0, 0, 0, (-1), 0, none, 0, [], 0, by omega, by omega, rfl, rfl, rfl, rfl, rfl, (by simp), by omega, (by simp), hS4, rfl, Weak.cons rfl <| Weak.cons rfl <| Weak.cons rfl <| Weak.cons rfl <| Weak.cons rfl <| Weak.cons rfl <| Weak.cons rfl <| Weak.nil _⟩ ?_
  rintro m1 f1 w4 ⟨s0, s1, s2, s3, s4, s5, A_shares, c_shares, shares, ix, ixlo, ixhi, q1, q2, q3, q4, q5, q7, q6, q8, hL1, rfl, hw1⟩
  refine WC.weak hw1 ?_
  clear hw1
  refine WC.seq ?_
  refine WC.region ?_
  refine WL.lv rfl (LV.ltI rfl rfl) ?_
  refine WL.nil (thenQ.n ?_)
  refine WC.seq ?_
  refine WC.condP (p := ix < (l.length : Int)) rfl (fun hk => ?_) (fun hk => ?_)
  · have hpk_ := PKF_bd l ix.toNat
    rw [← q3] at hpk_
    have hpr_ : 0 ≤ s4 → 0 ≤ (l.getD (s4).toNat (0, 0)).1 ∧ (l.getD (s4).toNat (0, 0)).1 ≤ 2147483647 ∧ 0 ≤ (l.getD (s4).toNat (0, 0)).2 ∧ (l.getD (s4).toNat (0, 0)).2 ≤ 2147483647 := fun h_ => ⟨(hpk_.2.2 h_).1.1, (hpk_.2.2 h_).1.2, (hpk_.2.2 h_).2.1, (hpk_.2.2 h_).2.2⟩
    refine WC.skip (thenQ.n ?_)
    refine WC.seq ?_
    refine WC.block ?_
    refine WC.seq ?_
    refine WC.region ?_
    refine WL.lv rfl (LV.mv rfl) ?_
    obtain ⟨A1, c1, e1, g1⟩ := St.elt (SH.stN hL1 h_l) (0, 0) ix (by omega) (by omega)
    refine WL.lv rfl (LV.idxA Try.underlying25 ti30.sz rfl e1 rfl (by omega) (by omega)) ?_
    refine WL.lv rfl (LV.loadAgg (cs := [(.int .i64 ((l.getD (ix).toNat (0, 0)).1)), (.int .i64 ((l.getD (ix).toNat (0, 0)).2))]) Try.underlying30 rfl ti30 rfl rfl (fun j u hu => g1 _ (KB.refl No _) j u hu)) ?_
    refine WL.xe rfl (XE.alloc #[(.int .i64 0), (.int .i64 0)] hL1 ti30 rfl) ?_
    rintro _ w5 ⟨b3, rfl, hS5, hk4⟩
    refine WL.lv rfl (LV.asg rfl) ?_
    refine WL.xse rfl (XSE.blkAgg #[(.int .i64 ((l.getD (ix).toNat (0, 0)).1)), (.int .i64 ((l.getD (ix).toNat (0, 0)).2))] hS5 (by kernel_rfl) rfl (by kernel_rfl) rfl rfl) ?_
    rintro w6 ⟨hS6, hk5⟩
    refine WL.nil (thenQ.n ?_)
    refine WC.cut (fun f_ w_ => ∃ (t0 : Int), (t0 = SI (l.take (ix + 1).toNat)) ∧ (0 ≤ t0 ∧ t0 ≤ 2147483647 * (ix + 1)) ∧ SH w No w_ [blkE b3 30 #[(.int .i64 ((l.getD (ix).toNat (0, 0)).1)), (.int .i64 ((l.getD (ix).toNat (0, 0)).2))], rowE eF 34 (.slice A_shares shares.length c_shares) shares, blkE b2 38 #[(.int .i64 t0), (.int .i64 s1), (.float .f64 s2), (.float .f64 s3), (.int .i64 s4), (.int .i64 s5)], blkE b1 38 #[(.int .i64 0), (.int .i64 0), (.float .f64 0), (.float .f64 0), (.int .i64 0), (.int .i64 0)]] ∧ Weak (lit [(0, (.slice A_l l.length c_l)), (2, (.pointer (some ⟨b1, 0, none⟩))), (3, (.pointer (some ⟨b2, 0, none⟩))), (4, (.slice A_shares shares.length c_shares)), (5, (.int .i64 ix)), (6, (.pointer (some ⟨b3, 0, none⟩))), (10, (.slice A_l l.length c_l)), (11, (.int .i64 (l.length : Int))), (12, (.int .i64 ix))]) f_) ?_ ?_
    · refine WC.seq ?_
      refine WC.region ?_
      refine WL.lv rfl (LV.fieldA Try.underlying30 rfl ti3.sz rfl) ?_
      refine WL.lv rfl (LV.load1 Try.underlying3 rfl rfl (Blk.cellN (SH.at hS6 (.head _)) 0 rfl _ (KB.refl No _))) ?_
      refine WL.call rfl (XC.fn Try.func25 (by kernel_rfl) rfl rfl rfl) (number_calls (n := ((l.getD (ix).toNat (0, 0)).1)) ) ?_
      rintro v_ w7 ⟨rfl, hk6⟩
      have hS7 := SH.same hS6 hk6
      refine WL.nil (thenQ.n ?_)
      refine WC.condP (p := number ((l.getD (ix).toNat (0, 0)).1)) rfl (fun hn1 => ?_) (fun hn1 => ?_)
      · have hb1_ : 0 ≤ (l.getD (ix).toNat (0, 0)).1 ∧ (l.getD (ix).toNat (0, 0)).1 ≤ 2147483647 := hn1
        refine WC.region ?_
        refine WL.lv rfl (LV.fieldA Try.underlying38 rfl ti3.sz rfl) ?_
        refine WL.lv rfl (LV.load1 Try.underlying3 rfl rfl (Blk.cellN (SH.at hS7 (.tail _ (.tail _ (.head _)))) 0 rfl _ (KB.refl No _))) ?_
        refine WL.lv rfl (LV.fieldA Try.underlying30 rfl ti3.sz rfl) ?_
        refine WL.lv rfl (LV.load1 Try.underlying3 rfl rfl (Blk.cellN (SH.at hS7 (.head _)) 0 rfl _ (KB.refl No _))) ?_
        refine WL.lv rfl (LV.add rfl rfl (wr64 (by omega) (by omega))) ?_
        refine WL.lv rfl (LV.fieldA Try.underlying38 rfl ti3.sz rfl) ?_
        have hS9 : SH w No w7 [blkE b2 38 #[(.int .i64 s0), (.int .i64 s1), (.float .f64 s2), (.float .f64 s3), (.int .i64 s4), (.int .i64 s5)], blkE b3 30 #[(.int .i64 ((l.getD (ix).toNat (0, 0)).1)), (.int .i64 ((l.getD (ix).toNat (0, 0)).2))], rowE eF 34 (.slice A_shares shares.length c_shares) shares, blkE b1 38 #[(.int .i64 0), (.int .i64 0), (.float .f64 0), (.float .f64 0), (.int .i64 0), (.int .i64 0)]] := (SH.front [_, _] hS7)
        refine WL.xse rfl (XSE.blk #[(.int .i64 (s0 + ((l.getD (ix).toNat (0, 0)).1))), (.int .i64 s1), (.float .f64 s2), (.float .f64 s3), (.int .i64 s4), (.int .i64 s5)] hS9 (Nat.le_of_ble_eq_true rfl) ti3.sz rfl rfl rfl rfl) ?_
        rintro w8 ⟨hS8, hk7⟩
        refine WL.nil (thenQ.n ?_)
        have hS10 : SH w No w8 [blkE b3 30 #[(.int .i64 ((l.getD (ix).toNat (0, 0)).1)), (.int .i64 ((l.getD (ix).toNat (0, 0)).2))], rowE eF 34 (.slice A_shares shares.length c_shares) shares, blkE b2 38 #[(.int .i64 (s0 + ((l.getD (ix).toNat (0, 0)).1))), (.int .i64 s1), (.float .f64 s2), (.float .f64 s3), (.int .i64 s4), (.int .i64 s5)], blkE b1 38 #[(.int .i64 0), (.int .i64 0), (.float .f64 0), (.float .f64 0), (.int .i64 0), (.int .i64 0)]] := (SH.front [_, _, _] (SH.front [_, _, _] (SH.front [_] (SH.front [_, _, _] hS8))))
        exact ⟨s0 + ((l.getD (ix).toNat (0, 0)).1), (by rw [SI_at ixlo hk, ← q1]; first | (rw [if_pos hn1]; done) | (rw [if_neg hn1]; omega)), by omega, hS10, Weak.cons rfl <| Weak.cons rfl <| Weak.cons rfl <| Weak.cons rfl <| Weak.cons rfl <| Weak.cons rfl <| Weak.cons rfl <| Weak.cons rfl <| Weak.cons rfl <| Weak.nil _⟩
      · skip
        refine WC.skip (thenQ.n ?_)
        exact ⟨s0, (by rw [SI_at ixlo hk, ← q1]; first | (rw [if_pos hn1]; done) | (rw [if_neg hn1]; omega)), by omega, hS7, Weak.cons rfl <| Weak.cons rfl <| Weak.cons rfl <| Weak.cons rfl <| Weak.cons rfl <| Weak.cons rfl <| Weak.cons rfl <| Weak.cons rfl <| Weak.cons rfl <| Weak.nil _⟩
    · rintro f2 w9 ⟨t0, u1, u1b, hS11, hw2⟩
      refine WC.weak hw2 ?_
      clear hw2
      refine WC.cut (fun f_ w_ => ∃ (t1 : Int), (t1 = SO (l.take (ix + 1).toNat)) ∧ (0 ≤ t1 ∧ t1 ≤ 2147483647 * (ix + 1)) ∧ SH w No w_ [blkE b3 30 #[(.int .i64 ((l.getD (ix).toNat (0, 0)).1)), (.int .i64 ((l.getD (ix).toNat (0, 0)).2))], rowE eF 34 (.slice A_shares shares.length c_shares) shares, blkE b2 38 #[(.int .i64 t0), (.int .i64 t1), (.float .f64 s2), (.float .f64 s3), (.int .i64 s4), (.int .i64 s5)], blkE b1 38 #[(.int .i64 0), (.int .i64 0), (.float .f64 0), (.float .f64 0), (.int .i64 0), (.int .i64 0)]] ∧ Weak (lit [(0, (.slice A_l l.length c_l)), (2, (.pointer (some ⟨b1, 0, none⟩))), (3, (.pointer (some ⟨b2, 0, none⟩))), (4, (.slice A_shares shares.length c_shares)), (5, (.int .i64 ix)), (6, (.pointer (some ⟨b3, 0, none⟩))), (10, (.slice A_l l.length c_l)), (11, (.int .i64 (l.length : Int))), (12, (.int .i64 ix))]) f_) ?_ ?_
      · refine WC.seq ?_
        refine WC.region ?_
        refine WL.lv rfl (LV.fieldA Try.underlying30 rfl ti3.sz rfl) ?_
        refine WL.lv rfl (LV.load1 Try.underlying3 rfl rfl (Blk.cellN (SH.at hS11 (.head _)) 1 rfl _ (KB.refl No _))) ?_
        refine WL.call rfl (XC.fn Try.func25 (by kernel_rfl) rfl rfl rfl) (number_calls (n := ((l.getD (ix).toNat (0, 0)).2)) ) ?_
        rintro v_ w10 ⟨rfl, hk8⟩
        have hS12 := SH.same hS11 hk8
        refine WL.nil (thenQ.n ?_)
        refine WC.condP (p := number ((l.getD (ix).toNat (0, 0)).2)) rfl (fun hn2 => ?_) (fun hn2 => ?_)
        · have hb2_ : 0 ≤ (l.getD (ix).toNat (0, 0)).2 ∧ (l.getD (ix).toNat (0, 0)).2 ≤ 2147483647 := hn2
          refine WC.region ?_
          refine WL.lv rfl (LV.fieldA Try.underlying38 rfl ti3.sz rfl) ?_
          refine WL.lv rfl (LV.load1 Try.underlying3 rfl rfl (Blk.cellN (SH.at hS12 (.tail _ (.tail _ (.head _)))) 1 rfl _ (KB.refl No _))) ?_
          refine WL.lv rfl (LV.fieldA Try.underlying30 rfl ti3.sz rfl) ?_
          refine WL.lv rfl (LV.load1 Try.underlying3 rfl rfl (Blk.cellN (SH.at hS12 (.head _)) 1 rfl _ (KB.refl No _))) ?_
          refine WL.lv rfl (LV.add rfl rfl (wr64 (by omega) (by omega))) ?_
          refine WL.lv rfl (LV.fieldA Try.underlying38 rfl ti3.sz rfl) ?_
          have hS14 : SH w No w10 [blkE b2 38 #[(.int .i64 t0), (.int .i64 s1), (.float .f64 s2), (.float .f64 s3), (.int .i64 s4), (.int .i64 s5)], blkE b3 30 #[(.int .i64 ((l.getD (ix).toNat (0, 0)).1)), (.int .i64 ((l.getD (ix).toNat (0, 0)).2))], rowE eF 34 (.slice A_shares shares.length c_shares) shares, blkE b1 38 #[(.int .i64 0), (.int .i64 0), (.float .f64 0), (.float .f64 0), (.int .i64 0), (.int .i64 0)]] := (SH.front [_, _] hS12)
          refine WL.xse rfl (XSE.blk #[(.int .i64 t0), (.int .i64 (s1 + ((l.getD (ix).toNat (0, 0)).2))), (.float .f64 s2), (.float .f64 s3), (.int .i64 s4), (.int .i64 s5)] hS14 (Nat.le_of_ble_eq_true rfl) ti3.sz rfl rfl rfl rfl) ?_
          rintro w11 ⟨hS13, hk9⟩
          refine WL.nil (thenQ.n ?_)
          have hS15 : SH w No w11 [blkE b3 30 #[(.int .i64 ((l.getD (ix).toNat (0, 0)).1)), (.int .i64 ((l.getD (ix).toNat (0, 0)).2))], rowE eF 34 (.slice A_shares shares.length c_shares) shares, blkE b2 38 #[(.int .i64 t0), (.int .i64 (s1 + ((l.getD (ix).toNat (0, 0)).2))), (.float .f64 s2), (.float .f64 s3), (.int .i64 s4), (.int .i64 s5)], blkE b1 38 #[(.int .i64 0), (.int .i64 0), (.float .f64 0), (.float .f64 0), (.int .i64 0), (.int .i64 0)]] := (SH.front [_, _, _] (SH.front [_, _, _] (SH.front [_] (SH.front [_, _, _] hS13))))
          exact ⟨s1 + ((l.getD (ix).toNat (0, 0)).2), (by rw [SO_at ixlo hk, ← q2]; first | (rw [if_pos hn2]; done) | (rw [if_neg hn2]; omega)), by omega, hS15, Weak.cons rfl <| Weak.cons rfl <| Weak.cons rfl <| Weak.cons rfl <| Weak.cons rfl <| Weak.cons rfl <| Weak.cons rfl <| Weak.cons rfl <| Weak.cons rfl <| Weak.nil _⟩
        · skip
          refine WC.skip (thenQ.n ?_)
          exact ⟨s1, (by rw [SO_at ixlo hk, ← q2]; first | (rw [if_pos hn2]; done) | (rw [if_neg hn2]; omega)), by omega, hS12, Weak.cons rfl <| Weak.cons rfl <| Weak.cons rfl <| Weak.cons rfl <| Weak.cons rfl <| Weak.cons rfl <| Weak.cons rfl <| Weak.cons rfl <| Weak.cons rfl <| Weak.nil _⟩
      · rintro f3 w12 ⟨t1, u2, u2b, hS16, hw3⟩
        refine WC.weak hw3 ?_
        clear hw3
        refine WC.cut (fun f_ w_ => ∃ (t4 : Int), (t4 = PKF l (ix + 1).toNat) ∧ SH w No w_ [blkE b3 30 #[(.int .i64 ((l.getD (ix).toNat (0, 0)).1)), (.int .i64 ((l.getD (ix).toNat (0, 0)).2))], rowE eF 34 (.slice A_shares shares.length c_shares) shares, blkE b2 38 #[(.int .i64 t0), (.int .i64 t1), (.float .f64 s2), (.float .f64 s3), (.int .i64 t4), (.int .i64 s5)], blkE b1 38 #[(.int .i64 0), (.int .i64 0), (.float .f64 0), (.float .f64 0), (.int .i64 0), (.int .i64 0)]] ∧ Weak (lit [(0, (.slice A_l l.length c_l)), (2, (.pointer (some ⟨b1, 0, none⟩))), (3, (.pointer (some ⟨b2, 0, none⟩))), (4, (.slice A_shares shares.length c_shares)), (5, (.int .i64 ix)), (6, (.pointer (some ⟨b3, 0, none⟩))), (10, (.slice A_l l.length c_l)), (11, (.int .i64 (l.length : Int))), (12, (.int .i64 ix))]) f_) ?_ ?_
        · refine WC.seq ?_
          have hS17 := SH.drew hS16
          refine WC.regionD [] (fun w_ => KB No w12.drew w_) [(.look, 0), (.forced, 1), (.pure, 2), (.pure, 3), (.look, 4), (.pure, 5), (.pure, 6), (.pure, 7), (.look, 8), (.pure, 9), (.look, 10), (.pure, 11), (.pure, 12), (.pure, 13), (.look, 14), (.pure, 15), (.pure, 16), (.look, 17), (.pure, 18), (.pure, 19), (.look, 20), (.pure, 21), (.pure, 22), (.look, 23), (.pure, 24), (.pure, 25), (.pure, 26), (.pure, 27)] (by kernel_rfl) (by kernel_rfl) (KB.refl _ _) ?_
          refine WS.look rfl rfl (fun _ hk_ => LV.loadAgg (cs := [(.int .i64 ((l.getD (ix).toNat (0, 0)).1)), (.int .i64 ((l.getD (ix).toNat (0, 0)).2))]) Try.underlying30 rfl ti30 rfl rfl (Blk.agg (SH.at hS17 (.head _)) _ hk_)) ?_
          rcases Decidable.em (RGT (l.getD (ix).toNat (0, 0))) with hrg | hrg
          · refine WS.call rfl rfl (XC.fn Try.func21 (by kernel_rfl) rfl rfl rfl) (Calls.asB (right_calls (c := (l.getD (ix).toNat (0, 0))) ) (decide_eq_true (hrg))) ?_
            rintro v_ w13 ⟨rfl, hk10⟩
            have hS18 := SH.same hS17 hk10
            try have hrb_ : 0 ≤ (l.getD (ix).toNat (0, 0)).1 ∧ (l.getD (ix).toNat (0, 0)).1 ≤ 2147483647 ∧ 0 ≤ (l.getD (ix).toNat (0, 0)).2 ∧ (l.getD (ix).toNat (0, 0)).2 ≤ 2147483647 := ⟨hrg.1.1, hrg.1.2, hrg.2.1, hrg.2.2⟩
            refine ⟨fun h_ => (KB.transN (KB.refl _ _) hk10), ?_⟩
            refine WS.pure rfl rfl (fun _ => LV.mv rfl) ?_
            refine WS.pure rfl rfl (fun _ => LV.fieldA Try.underlying38 rfl ti3.sz rfl) ?_
            refine WS.look rfl rfl (fun _ hk_ => LV.load1 Try.underlying3 rfl rfl (Blk.cellN (SH.at hS17 (.tail _ (.tail _ (.head _)))) 4 rfl _ hk_)) ?_
            rcases Decidable.em (s4 < 0) with hg1 | hg1
            · refine WS.pure rfl rfl (fun _ => LV.as (LV.ltI rfl rfl) (decide_eq_true hg1)) ?_
              refine WS.pure rfl rfl (fun _ => LV.mv rfl) ?_
              refine WS.off rfl rfl ?_
              refine WS.offL rfl rfl ?_
              refine WS.off rfl rfl ?_
              refine WS.offL rfl rfl ?_
              iterate 3 refine WS.off rfl rfl ?_
              refine WS.offL rfl rfl ?_
              iterate 2 refine WS.off rfl rfl ?_
              refine WS.offL rfl rfl ?_
              iterate 2 refine WS.off rfl rfl ?_
              refine WS.offL rfl rfl ?_
              iterate 2 refine WS.off rfl rfl ?_
              refine WS.offL rfl rfl ?_
              iterate 2 refine WS.off rfl rfl ?_
              iterate 2 refine WS.pure rfl rfl (fun _ => LV.pickT rfl rfl) ?_
              refine WS.nil (thenQ.n ?_)
              refine WC.condT rfl ?_
              refine WC.region ?_
              refine WL.lv rfl (LV.mv rfl) ?_
              refine WL.lv rfl (LV.fieldA Try.underlying38 rfl ti3.sz rfl) ?_
              have hS20 : SH w No w13 [blkE b2 38 #[(.int .i64 t0), (.int .i64 t1), (.float .f64 s2), (.float .f64 s3), (.int .i64 s4), (.int .i64 s5)], blkE b3 30 #[(.int .i64 ((l.getD (ix).toNat (0, 0)).1)), (.int .i64 ((l.getD (ix).toNat (0, 0)).2))], rowE eF 34 (.slice A_shares shares.length c_shares) shares, blkE b1 38 #[(.int .i64 0), (.int .i64 0), (.float .f64 0), (.float .f64 0), (.int .i64 0), (.int .i64 0)]] := (SH.front [_, _] hS18)
              refine WL.xse rfl (XSE.blk #[(.int .i64 t0), (.int .i64 t1), (.float .f64 s2), (.float .f64 s3), (.int .i64 ix), (.int .i64 s5)] hS20 (Nat.le_of_ble_eq_true rfl) ti3.sz rfl rfl rfl rfl) ?_
              rintro w14 ⟨hS19, hk11⟩
              refine WL.nil (thenQ.n ?_)
              have hS21 : SH w No w14 [blkE b3 30 #[(.int .i64 ((l.getD (ix).toNat (0, 0)).1)), (.int .i64 ((l.getD (ix).toNat (0, 0)).2))], rowE eF 34 (.slice A_shares shares.length c_shares) shares, blkE b2 38 #[(.int .i64 t0), (.int .i64 t1), (.float .f64 s2), (.float .f64 s3), (.int .i64 ix), (.int .i64 s5)], blkE b1 38 #[(.int .i64 0), (.int .i64 0), (.float .f64 0), (.float .f64 0), (.int .i64 0), (.int .i64 0)]] := (SH.front [_, _, _] (SH.front [_, _, _] (SH.front [_] (SH.front [_, _, _] hS19))))
              exact ⟨ix, (by first | exact pk_yes ixlo q3 hrg (by omega) | exact pk_no ixlo q3 (.inl hrg) | exact pk_no ixlo q3 (.inr (by omega))), hS21, Weak.cons rfl <| Weak.cons rfl <| Weak.cons rfl <| Weak.cons rfl <| Weak.cons rfl <| Weak.cons rfl <| Weak.cons rfl <| Weak.cons rfl <| Weak.cons rfl <| Weak.nil _⟩
            · refine WS.pure rfl rfl (fun _ => LV.as (LV.ltI rfl rfl) (decide_eq_false hg1)) ?_
              refine WS.pure rfl rfl (fun _ => LV.mv rfl) ?_
              refine WS.pure rfl rfl (fun _ => LV.fieldA Try.underlying30 rfl ti3.sz rfl) ?_
              refine WS.look rfl rfl (fun _ hk_ => LV.load1 Try.underlying3 rfl rfl (Blk.cellN (SH.at hS17 (.head _)) 0 rfl _ hk_)) ?_
              refine WS.pure rfl rfl (fun _ => LV.fieldA Try.underlying30 rfl ti3.sz rfl) ?_
              refine WS.look rfl rfl (fun _ hk_ => LV.load1 Try.underlying3 rfl rfl (Blk.cellN (SH.at hS17 (.head _)) 1 rfl _ hk_)) ?_
              refine WS.pure rfl rfl (fun _ => LV.add rfl rfl (wr64 (by omega) (by omega))) ?_
              refine WS.pure rfl rfl (fun _ => LV.mv rfl) ?_
              refine WS.pure rfl rfl (fun _ => LV.fieldA Try.underlying38 rfl ti3.sz rfl) ?_
              refine WS.look rfl rfl (fun _ hk_ => LV.load1 Try.underlying3 rfl rfl (Blk.cellN (SH.at hS17 (.tail _ (.tail _ (.head _)))) 4 rfl _ hk_)) ?_
              obtain ⟨A2, c2, e2, g2⟩ := St.elt (SH.stN hS17 h_l) (0, 0) s4 (by omega) (by omega)
              refine WS.pure rfl rfl (fun _ => LV.idxA Try.underlying25 ti30.sz rfl e2 rfl (by omega) (by omega)) ?_
              refine WS.pure rfl rfl (fun _ => LV.fieldA Try.underlying30 rfl ti3.sz rfl) ?_
              refine WS.look rfl rfl (fun _ hk_ => LV.load1 (v := (.int .i64 ((l.getD (s4).toNat (0, 0)).1))) Try.underlying3 rfl rfl (g2 _ hk_ 0 _ rfl)) ?_
              refine WS.pure rfl rfl (fun _ => LV.mv rfl) ?_
              refine WS.pure rfl rfl (fun _ => LV.fieldA Try.underlying38 rfl ti3.sz rfl) ?_
              refine WS.look rfl rfl (fun _ hk_ => LV.load1 Try.underlying3 rfl rfl (Blk.cellN (SH.at hS17 (.tail _ (.tail _ (.head _)))) 4 rfl _ hk_)) ?_
              obtain ⟨A3, c3, e3, g3⟩ := St.elt (SH.stN hS17 h_l) (0, 0) s4 (by omega) (by omega)
              refine WS.pure rfl rfl (fun _ => LV.idxA Try.underlying25 ti30.sz rfl e3 rfl (by omega) (by omega)) ?_
              refine WS.pure rfl rfl (fun _ => LV.fieldA Try.underlying30 rfl ti3.sz rfl) ?_
              refine WS.look rfl rfl (fun _ hk_ => LV.load1 (v := (.int .i64 ((l.getD (s4).toNat (0, 0)).2))) Try.underlying3 rfl rfl (g3 _ hk_ 1 _ rfl)) ?_
              refine WS.pure rfl rfl (fun _ => LV.add rfl rfl (wr64 (by omega) (by omega))) ?_
              refine WS.pure rfl rfl (fun _ => LV.gtI rfl rfl) ?_
              refine WS.pure rfl rfl (fun _ => LV.pickF rfl rfl) ?_
              refine WS.pure rfl rfl (fun _ => LV.pickT rfl rfl) ?_
              refine WS.nil (thenQ.n ?_)
              refine WC.condP (p := (((l.getD (ix).toNat (0, 0)).1) + ((l.getD (ix).toNat (0, 0)).2)) > (((l.getD (s4).toNat (0, 0)).1) + ((l.getD (s4).toNat (0, 0)).2))) rfl (fun hc1 => ?_) (fun hc1 => ?_)
              · skip
                refine WC.region ?_
                refine WL.lv rfl (LV.mv rfl) ?_
                refine WL.lv rfl (LV.fieldA Try.underlying38 rfl ti3.sz rfl) ?_
                have hS23 : SH w No w13 [blkE b2 38 #[(.int .i64 t0), (.int .i64 t1), (.float .f64 s2), (.float .f64 s3), (.int .i64 s4), (.int .i64 s5)], blkE b3 30 #[(.int .i64 ((l.getD (ix).toNat (0, 0)).1)), (.int .i64 ((l.getD (ix).toNat (0, 0)).2))], rowE eF 34 (.slice A_shares shares.length c_shares) shares, blkE b1 38 #[(.int .i64 0), (.int .i64 0), (.float .f64 0), (.float .f64 0), (.int .i64 0), (.int .i64 0)]] := (SH.front [_, _] hS18)
                refine WL.xse rfl (XSE.blk #[(.int .i64 t0), (.int .i64 t1), (.float .f64 s2), (.float .f64 s3), (.int .i64 ix), (.int .i64 s5)] hS23 (Nat.le_of_ble_eq_true rfl) ti3.sz rfl rfl rfl rfl) ?_
                rintro w15 ⟨hS22, hk12⟩
                refine WL.nil (thenQ.n ?_)
                have hS24 : SH w No w15 [blkE b3 30 #[(.int .i64 ((l.getD (ix).toNat (0, 0)).1)), (.int .i64 ((l.getD (ix).toNat (0, 0)).2))], rowE eF 34 (.slice A_shares shares.length c_shares) shares, blkE b2 38 #[(.int .i64 t0), (.int .i64 t1), (.float .f64 s2), (.float .f64 s3), (.int .i64 ix), (.int .i64 s5)], blkE b1 38 #[(.int .i64 0), (.int .i64 0), (.float .f64 0), (.float .f64 0), (.int .i64 0), (.int .i64 0)]] := (SH.front [_, _, _] (SH.front [_, _, _] (SH.front [_] (SH.front [_, _, _] hS22))))
                exact ⟨ix, (by first | exact pk_yes ixlo q3 hrg (by omega) | exact pk_no ixlo q3 (.inl hrg) | exact pk_no ixlo q3 (.inr (by omega))), hS24, Weak.cons rfl <| Weak.cons rfl <| Weak.cons rfl <| Weak.cons rfl <| Weak.cons rfl <| Weak.cons rfl <| Weak.cons rfl <| Weak.cons rfl <| Weak.cons rfl <| Weak.nil _⟩
              · skip
                refine WC.skip (thenQ.n ?_)
                exact ⟨s4, (by first | exact pk_yes ixlo q3 hrg (by omega) | exact pk_no ixlo q3 (.inl hrg) | exact pk_no ixlo q3 (.inr (by omega))), hS18, Weak.cons rfl <| Weak.cons rfl <| Weak.cons rfl <| Weak.cons rfl <| Weak.cons rfl <| Weak.cons rfl <| Weak.cons rfl <| Weak.cons rfl <| Weak.cons rfl <| Weak.nil _⟩
          · refine WS.call rfl rfl (XC.fn Try.func21 (by kernel_rfl) rfl rfl rfl) (Calls.asB (right_calls (c := (l.getD (ix).toNat (0, 0))) ) (decide_eq_false (hrg))) ?_
            rintro v_ w16 ⟨rfl, hk13⟩
            have hS25 := SH.same hS17 hk13
            try have hrb_ : 0 ≤ (l.getD (ix).toNat (0, 0)).1 ∧ (l.getD (ix).toNat (0, 0)).1 ≤ 2147483647 ∧ 0 ≤ (l.getD (ix).toNat (0, 0)).2 ∧ (l.getD (ix).toNat (0, 0)).2 ≤ 2147483647 := ⟨hrg.1.1, hrg.1.2, hrg.2.1, hrg.2.2⟩
            refine ⟨fun h_ => (KB.transN (KB.refl _ _) hk13), ?_⟩
            refine WS.pure rfl rfl (fun _ => LV.mv rfl) ?_
            refine WS.off rfl rfl ?_
            refine WS.offL rfl rfl ?_
            iterate 3 refine WS.off rfl rfl ?_
            refine WS.offL rfl rfl ?_
            refine WS.off rfl rfl ?_
            refine WS.offL rfl rfl ?_
            iterate 3 refine WS.off rfl rfl ?_
            refine WS.offL rfl rfl ?_
            iterate 2 refine WS.off rfl rfl ?_
            refine WS.offL rfl rfl ?_
            iterate 2 refine WS.off rfl rfl ?_
            refine WS.offL rfl rfl ?_
            iterate 2 refine WS.off rfl rfl ?_
            refine WS.offL rfl rfl ?_
            iterate 3 refine WS.off rfl rfl ?_
            refine WS.pure rfl rfl (fun _ => LV.pickF rfl rfl) ?_
            refine WS.nil (thenQ.n ?_)
            refine WC.condF rfl ?_
            refine WC.skip (thenQ.n ?_)
            exact ⟨s4, (by first | exact pk_yes ixlo q3 hrg (by omega) | exact pk_no ixlo q3 (.inl hrg) | exact pk_no ixlo q3 (.inr (by omega))), hS25, Weak.cons rfl <| Weak.cons rfl <| Weak.cons rfl <| Weak.cons rfl <| Weak.cons rfl <| Weak.cons rfl <| Weak.cons rfl <| Weak.cons rfl <| Weak.cons rfl <| Weak.nil _⟩
        · rintro f4 w17 ⟨t4, u3, hS26, hw4⟩
          refine WC.weak hw4 ?_
          clear hw4
          refine WC.seq ?_
          refine WC.region ?_
          refine WL.lv rfl (LV.build (vs := []) (places := #[(0, 1), (1, 1)]) (cs := #[(.int .i64 0), (.int .i64 0)]) Try.underlying30 ti30 (fun _ => by kernel_rfl) rfl rfl) ?_
          refine WL.xe rfl (XE.alloc #[(.int .i64 0), (.int .i64 0)] hS26 ti30 rfl) ?_
          rintro _ w18 ⟨b4, rfl, hS27, hk14⟩
          refine WL.xse rfl (XSE.blkAgg #[(.int .i64 0), (.int .i64 0)] hS27 (by kernel_rfl) rfl (by kernel_rfl) rfl rfl) ?_
          rintro w19 ⟨hS28, hk15⟩
          refine WL.nil (thenQ.n ?_)
          refine WC.cut (fun f_ w_ => ∃ (t5 : Int), (t5 = QT (l.take (ix + 1).toNat)) ∧ (0 ≤ t5 ∧ t5 ≤ ix + 1) ∧ SH w No w_ [blkE b4 30 #[(.int .i64 0), (.int .i64 0)], blkE b3 30 #[(.int .i64 ((l.getD (ix).toNat (0, 0)).1)), (.int .i64 ((l.getD (ix).toNat (0, 0)).2))], rowE eF 34 (.slice A_shares shares.length c_shares) shares, blkE b2 38 #[(.int .i64 t0), (.int .i64 t1), (.float .f64 s2), (.float .f64 s3), (.int .i64 t4), (.int .i64 t5)], blkE b1 38 #[(.int .i64 0), (.int .i64 0), (.float .f64 0), (.float .f64 0), (.int .i64 0), (.int .i64 0)]] ∧ Weak (lit [(0, (.slice A_l l.length c_l)), (2, (.pointer (some ⟨b1, 0, none⟩))), (3, (.pointer (some ⟨b2, 0, none⟩))), (4, (.slice A_shares shares.length c_shares)), (5, (.int .i64 ix)), (6, (.pointer (some ⟨b3, 0, none⟩))), (7, (.pointer (some ⟨b4, 0, none⟩))), (10, (.slice A_l l.length c_l)), (11, (.int .i64 (l.length : Int))), (12, (.int .i64 ix))]) f_) ?_ ?_
          · refine WC.seq ?_
            refine WC.region ?_
            refine WL.lv rfl (LV.loadAgg (cs := [(.int .i64 ((l.getD (ix).toNat (0, 0)).1)), (.int .i64 ((l.getD (ix).toNat (0, 0)).2))]) Try.underlying30 rfl ti30 rfl rfl (Blk.agg (SH.at hS28 (.tail _ (.head _))) _ (KB.refl No _))) ?_
            refine WL.lv rfl (LV.loadAgg (cs := [(.int .i64 0), (.int .i64 0)]) Try.underlying30 rfl ti30 rfl rfl (Blk.agg (SH.at hS28 (.head _)) _ (KB.refl No _))) ?_
            refine WL.lv rfl (LV.eqG (by decide) (ae_s2 Try.underlying30 (by decide) (by kernel_rfl) (pt_int Try.underlying3 rfl) (pt_int Try.underlying3 rfl) (pt_int Try.underlying3 rfl) (pt_int Try.underlying3 rfl) (ae_int Try.underlying3) (ae_int Try.underlying3)) (by kernel_rfl) rfl rfl) ?_
            refine WL.nil (thenQ.n ?_)
            refine WC.condP (p := (((l.getD (ix).toNat (0, 0)).1) = 0) ∧ (((l.getD (ix).toNat (0, 0)).2) = 0)) rfl (fun hqz => ?_) (fun hqz => ?_)
            · skip
              refine WC.region ?_
              refine WL.lv rfl (LV.fieldA Try.underlying38 rfl ti3.sz rfl) ?_
              refine WL.lv rfl (LV.load1 Try.underlying3 rfl rfl (Blk.cellN (SH.at hS28 (.tail _ (.tail _ (.tail _ (.head _))))) 5 rfl _ (KB.refl No _))) ?_
              refine WL.lv rfl (LV.add rfl rfl (wr64 (by omega) (by omega))) ?_
              refine WL.lv rfl (LV.fieldA Try.underlying38 rfl ti3.sz rfl) ?_
              have hS30 : SH w No w19 [blkE b2 38 #[(.int .i64 t0), (.int .i64 t1), (.float .f64 s2), (.float .f64 s3), (.int .i64 t4), (.int .i64 s5)], blkE b4 30 #[(.int .i64 0), (.int .i64 0)], blkE b3 30 #[(.int .i64 ((l.getD (ix).toNat (0, 0)).1)), (.int .i64 ((l.getD (ix).toNat (0, 0)).2))], rowE eF 34 (.slice A_shares shares.length c_shares) shares, blkE b1 38 #[(.int .i64 0), (.int .i64 0), (.float .f64 0), (.float .f64 0), (.int .i64 0), (.int .i64 0)]] := (SH.front [_, _, _] hS28)
              refine WL.xse rfl (XSE.blk #[(.int .i64 t0), (.int .i64 t1), (.float .f64 s2), (.float .f64 s3), (.int .i64 t4), (.int .i64 (s5 + 1))] hS30 (Nat.le_of_ble_eq_true rfl) ti3.sz rfl rfl rfl rfl) ?_
              rintro w20 ⟨hS29, hk16⟩
              refine WL.nil (thenQ.n ?_)
              have hS31 : SH w No w20 [blkE b4 30 #[(.int .i64 0), (.int .i64 0)], blkE b3 30 #[(.int .i64 ((l.getD (ix).toNat (0, 0)).1)), (.int .i64 ((l.getD (ix).toNat (0, 0)).2))], rowE eF 34 (.slice A_shares shares.length c_shares) shares, blkE b2 38 #[(.int .i64 t0), (.int .i64 t1), (.float .f64 s2), (.float .f64 s3), (.int .i64 t4), (.int .i64 (s5 + 1))], blkE b1 38 #[(.int .i64 0), (.int .i64 0), (.float .f64 0), (.float .f64 0), (.int .i64 0), (.int .i64 0)]] := (SH.front [_, _, _, _] (SH.front [_, _, _, _] (SH.front [_, _, _, _] (SH.front [_] (SH.front [_, _, _, _] hS29)))))
              exact ⟨s5 + 1, (by first | exact qt_yes ixlo hk q4 hqz | exact qt_no ixlo hk q4 hqz), by omega, hS31, Weak.cons rfl <| Weak.cons rfl <| Weak.cons rfl <| Weak.cons rfl <| Weak.cons rfl <| Weak.cons rfl <| Weak.cons rfl <| Weak.cons rfl <| Weak.cons rfl <| Weak.cons rfl <| Weak.nil _⟩
            · skip
              refine WC.skip (thenQ.n ?_)
              exact ⟨s5, (by first | exact qt_yes ixlo hk q4 hqz | exact qt_no ixlo hk q4 hqz), by omega, hS28, Weak.cons rfl <| Weak.cons rfl <| Weak.cons rfl <| Weak.cons rfl <| Weak.cons rfl <| Weak.cons rfl <| Weak.cons rfl <| Weak.cons rfl <| Weak.cons rfl <| Weak.cons rfl <| Weak.nil _⟩
          · rintro f5 w21 ⟨t5, u4, u4b, hS32, hw5⟩
            refine WC.weak hw5 ?_
            clear hw5
            refine WC.seq ?_
            refine WC.region ?_
            refine WL.lv rfl (LV.loadAgg (cs := [(.int .i64 ((l.getD (ix).toNat (0, 0)).1)), (.int .i64 ((l.getD (ix).toNat (0, 0)).2))]) Try.underlying30 rfl ti30 rfl rfl (Blk.agg (SH.at hS32 (.tail _ (.head _))) _ (KB.refl No _))) ?_
            refine WL.call rfl (XC.fn Try.func11 (by kernel_rfl) rfl rfl rfl) (fresh_calls (c := (l.getD (ix).toNat (0, 0))) ) ?_
            rintro v_ w22 ⟨r1, rfl, hf1, hf2, hk17⟩
            have hS33 := SH.same hS32 hk17
            have hfr_ := hf1
            have hfw_ := hf2
            refine WL.lv rfl (LV.asg rfl) ?_
            refine WL.nil (thenQ.n ?_)
            refine WC.seq ?_
            refine WC.region ?_
            iterate 2 refine WL.lv rfl (LV.mv rfl) ?_
            refine WL.lv rfl (LV.eqF (a := r1) (b := r1) rfl rfl) ?_
            refine WL.nil (thenQ.n ?_)
            refine WC.condP (p := ((-9218868437227405312 ≤ sk r1 ∧ sk r1 ≤ 9218868437227405312) ∧ (-9218868437227405312 ≤ sk r1 ∧ sk r1 ≤ 9218868437227405312)) ∧ sk r1 = sk r1) rfl (fun hnn => ?_) (fun hnn => ?_)
            · skip
              refine WC.region ?_
              iterate 2 refine WL.lv rfl (LV.mv rfl) ?_
              refine WL.xe rfl (XE.buildSlice (E := eF) [(0, (.float .f64 r1))] #[(.float .f64 r1)] [r1] hS33 Try.underlying60 ti34 rfl (by decide) (by kernel_rfl) (.inr rfl) rfl rfl (by decide)) ?_
              rintro _ w23 ⟨b5, rfl, hS34, hk18⟩
              have hS35 : SH w No w23 [rowE eF 34 (.slice A_shares shares.length c_shares) shares, rowE eF 34 (.slice (some ⟨b5, 0, none⟩) 1 1) [r1], blkE b4 30 #[(.int .i64 0), (.int .i64 0)], blkE b3 30 #[(.int .i64 ((l.getD (ix).toNat (0, 0)).1)), (.int .i64 ((l.getD (ix).toNat (0, 0)).2))], blkE b2 38 #[(.int .i64 t0), (.int .i64 t1), (.float .f64 s2), (.float .f64 s3), (.int .i64 t4), (.int .i64 t5)], blkE b1 38 #[(.int .i64 0), (.int .i64 0), (.float .f64 0), (.float .f64 0), (.int .i64 0), (.int .i64 0)]] := (SH.front [_, _, _] hS34)
              refine WL.xe rfl (XE.append hS35 Try.underlying60 ti34 rfl (St.now (SH.rd hS35 (.tail _ (.head _)))) rfl rfl (by first | omega | simp only [List.length_append, List.length_cons, List.length_nil, List.length_take, List.length_reverse, List.length_drop] at *; omega) (by first | omega | simp only [List.length_append, List.length_cons, List.length_nil, List.length_take, List.length_reverse, List.length_drop] at *; omega)) ?_
              rintro _ w24 ⟨A4, c4, rfl, hS36, hk19⟩
              refine WL.lv rfl (LV.asg rfl) ?_
              refine WL.nil (blockQ.n <| thenQ.n ?_)
              refine WC.region ?_
              refine WL.lv rfl (LV.add rfl rfl (wr64 (by omega) (by omega))) ?_
              refine WL.lv rfl (LV.mv rfl) ?_
              refine WL.nil (thenQ.n ?_)
              have hS37 : SH w No w24 [rowE eF 34 (.slice A4 ((shares ++ [r1]).length) c4) (shares ++ [r1]), blkE b2 38 #[(.int .i64 t0), (.int .i64 t1), (.float .f64 s2), (.float .f64 s3), (.int .i64 t4), (.int .i64 t5)], blkE b1 38 #[(.int .i64 0), (.int .i64 0), (.float .f64 0), (.float .f64 0), (.int .i64 0), (.int .i64 0)]] := (SH.take 3 rfl (SH.front [_, _] (SH.front [_, _, _, _, _] (SH.front [_, _, _, _, _] hS36))))
              exact ⟨_, by omega, t0, t1, s2, s3, t4, t5, A4, c4, (shares ++ [r1]), ix + 1, by omega, by omega, u1, u2, u3, u4, (by first | exact shr_yes ixlo hk q5 hfr_ hnn.1.1 | exact shr_no ixlo hk q5 hfr_ (fun h_ => hnn ⟨⟨h_, h_⟩, rfl⟩)), (by first | omega | (simp; omega)), by omega, (by first | exact q8 | exact fun x h_ => (List.mem_append.1 h_).elim (q8 x) (fun h2_ => by rw [List.mem_singleton.1 h2_]; exact hfw_)), hS37, rfl, Weak.cons rfl <| Weak.cons rfl <| Weak.cons rfl <| Weak.cons rfl <| Weak.cons rfl <| Weak.cons rfl <| Weak.cons rfl <| Weak.nil _⟩
            · skip
              refine WC.skip (blockQ.n <| thenQ.n ?_)
              refine WC.region ?_
              refine WL.lv rfl (LV.add rfl rfl (wr64 (by omega) (by omega))) ?_
              refine WL.lv rfl (LV.mv rfl) ?_
              refine WL.nil (thenQ.n ?_)
              have hS38 : SH w No w22 [rowE eF 34 (.slice A_shares shares.length c_shares) shares, blkE b2 38 #[(.int .i64 t0), (.int .i64 t1), (.float .f64 s2), (.float .f64 s3), (.int .i64 t4), (.int .i64 t5)], blkE b1 38 #[(.int .i64 0), (.int .i64 0), (.float .f64 0), (.float .f64 0), (.int .i64 0), (.int .i64 0)]] := (SH.take 3 rfl (SH.front [_, _, _, _] (SH.front [_, _, _, _] (SH.front [_, _, _, _] hS33))))
              exact ⟨_, by omega, t0, t1, s2, s3, t4, t5, A_shares, c_shares, shares, ix + 1, by omega, by omega, u1, u2, u3, u4, (by first | exact shr_yes ixlo hk q5 hfr_ hnn.1.1 | exact shr_no ixlo hk q5 hfr_ (fun h_ => hnn ⟨⟨h_, h_⟩, rfl⟩)), (by first | omega | (simp; omega)), by omega, (by first | exact q8 | exact fun x h_ => (List.mem_append.1 h_).elim (q8 x) (fun h2_ => by rw [List.mem_singleton.1 h2_]; exact hfw_)), hS38, rfl, Weak.cons rfl <| Weak.cons rfl <| Weak.cons rfl <| Weak.cons rfl <| Weak.cons rfl <| Weak.cons rfl <| Weak.cons rfl <| Weak.nil _⟩
  · skip
    refine WC.exit (thenQ.x <| thenQ.x <| blockQ.hit <| thenQ.n ?_)
    refine WC.seq ?_
    refine WC.region ?_
    refine WL.lv rfl (LV.mv rfl) ?_
    have hq5_ : shares = SHR l := by rw [q5, List.take_of_length_le (by omega)]
    refine WL.call rfl (XC.fn Try.func26 (by kernel_rfl) rfl rfl rfl) (mean_calls  (SH.rd hL1 (.head _)) rfl ) ?_
    rintro v_ w25 ⟨r2, rfl, hf3, hf4, hk20⟩
    have hS39 := SH.same hL1 hk20
    have hmf_ := And.intro hf3 hf4
    refine WL.lv rfl (LV.mv rfl) ?_
    refine WL.call rfl (XC.fn Try.func27 (by kernel_rfl) rfl rfl rfl) (median_calls  (SH.rd hS39 (.head _)) rfl (q8) (by omega)) ?_
    rintro v_ w26 ⟨r3, rfl, hf5, hf6, hk21⟩
    have hS40 := SH.same hS39 hk21
    have hdf_ := And.intro hf5 hf6
    refine WL.lv rfl (LV.fieldA Try.underlying38 rfl ti34.sz rfl) ?_
    have hS42 : SH w No w26 [blkE b2 38 #[(.int .i64 s0), (.int .i64 s1), (.float .f64 s2), (.float .f64 s3), (.int .i64 s4), (.int .i64 s5)], rowE eF 34 (.slice A_shares shares.length c_shares) shares, blkE b1 38 #[(.int .i64 0), (.int .i64 0), (.float .f64 0), (.float .f64 0), (.int .i64 0), (.int .i64 0)]] := (SH.front [_] hS40)
    refine WL.xse rfl (XSE.blk #[(.int .i64 s0), (.int .i64 s1), (.float .f64 r2), (.float .f64 s3), (.int .i64 s4), (.int .i64 s5)] hS42 (Nat.le_of_ble_eq_true rfl) ti34.sz rfl rfl rfl rfl) ?_
    rintro w27 ⟨hS41, hk22⟩
    refine WL.lv rfl (LV.fieldA Try.underlying38 rfl ti34.sz rfl) ?_
    refine WL.xse rfl (XSE.blk #[(.int .i64 s0), (.int .i64 s1), (.float .f64 r2), (.float .f64 r3), (.int .i64 s4), (.int .i64 s5)] hS41 (Nat.le_of_ble_eq_true rfl) ti34.sz rfl rfl rfl rfl) ?_
    rintro w28 ⟨hS43, hk23⟩
    refine WL.nil (thenQ.n ?_)
    refine WC.seq ?_
    refine WC.region ?_
    refine WL.lv rfl (LV.loadAgg (cs := [(.int .i64 s0), (.int .i64 s1), (.float .f64 r2), (.float .f64 r3), (.int .i64 s4), (.int .i64 s5)]) Try.underlying38 rfl ti38 rfl rfl (Blk.agg (SH.at hS43 (.head _)) _ (KB.refl No _))) ?_
    have hS45 : SH w No w28 [blkE b1 38 #[(.int .i64 0), (.int .i64 0), (.float .f64 0), (.float .f64 0), (.int .i64 0), (.int .i64 0)], blkE b2 38 #[(.int .i64 s0), (.int .i64 s1), (.float .f64 r2), (.float .f64 r3), (.int .i64 s4), (.int .i64 s5)], rowE eF 34 (.slice A_shares shares.length c_shares) shares] := (SH.front [_, _] hS43)
    refine WL.xse rfl (XSE.blkAgg #[(.int .i64 s0), (.int .i64 s1), (.float .f64 r2), (.float .f64 r3), (.int .i64 s4), (.int .i64 s5)] hS45 (by kernel_rfl) rfl (by kernel_rfl) rfl rfl) ?_
    rintro w29 ⟨hS44, hk24⟩
    refine WL.nil (thenQ.n ?_)
    refine WC.ret (?_)
    exact ⟨_, fun a ha => resC rfl ha rfl Try.underlying38 rfl ti38 rfl (Blk.agg (SH.at hS44 (.head _)) _ (KB.refl No _)), r2, r3, (by rw [show s0 = SI l by rw [q1, List.take_of_length_le (by omega)], show s1 = SO l by rw [q2, List.take_of_length_le (by omega)], show s4 = PKF l l.length by rw [q3]; congr 1; omega, show s5 = QT l by rw [q4, List.take_of_length_le (by omega)]]), (by rw [← hq5_]; exact hmf_.1), hmf_.2, (by rw [← hq5_]; exact hdf_.1), hdf_.2, hS44.kb⟩

set_option maxHeartbeats 4000000 in
theorem rsum_calls {w : World} {A_l : Option Addr} {n_l c_l : Nat} {l : List (Int × Int)} (h_l : St No w (Rd eP (.slice A_l n_l c_l) l)) (hn_l : l.length = n_l) (hl : l.length ≤ 60) :
    Calls Try.prog 15 #[(.slice A_l n_l c_l)] w fun e w' => ∃ v, e = .returned v ∧ (fun v w' => ∃ (m' d' : Nat), v = .agg #[.int .i64 (SI l), .int .i64 (SO l), .float .f64 m', .float .f64 d', .int .i64 (PKF l l.length), .int .i64 (QT l)] ∧ cn m' = MEAN (SHR l) ∧ m' < 18446744073709551616 ∧ MEDN (SHR l) d' ∧ d' < 18446744073709551616 ∧ KB No w w') v w' := by
  subst hn_l
  have hS : SH w No w [] := SH.nil _ _
  refine calls (l := litOf [(.slice A_l l.length c_l)] 0) Try.func15 rfl (n := 125) rfl (Nat.le_of_ble_eq_true rfl) (lit_args _) ?_
  refine WC.seq ?_
  refine WC.region ?_
  refine WL.xe rfl (XE.alloc #[(.int .i64 0), (.int .i64 0), (.float .f64 0), (.float .f64 0), (.int .i64 0), (.int .i64 0)] hS ti38 rfl) ?_
  rintro _ w1 ⟨b1, rfl, hS1, hk1⟩
  refine WL.nil (thenQ.n ?_)
  refine WC.seq ?_
  refine WC.region ?_
  refine WL.lv rfl (LV.build (vs := [(4, (.int .i64 (-1)))]) (places := #[(0, 1), (1, 1), (2, 1), (3, 1), (4, 1), (5, 1)]) (cs := #[(.int .i64 0), (.int .i64 0), (.float .f64 0), (.float .f64 0), (.int .i64 (-1)), (.int .i64 0)]) Try.underlying38 ti38 (fun _ => by kernel_rfl) rfl rfl) ?_
  refine WL.xe rfl (XE.alloc #[(.int .i64 0), (.int .i64 0), (.float .f64 0), (.float .f64 0), (.int .i64 0), (.int .i64 0)] hS1 ti38 rfl) ?_
  rintro _ w2 ⟨b2, rfl, hS2, hk2⟩
  refine WL.xse rfl (XSE.blkAgg #[(.int .i64 0), (.int .i64 0), (.float .f64 0), (.float .f64 0), (.int .i64 (-1)), (.int .i64 0)] hS2 (by kernel_rfl) rfl (by kernel_rfl) rfl rfl) ?_
  rintro w3 ⟨hS3, hk3⟩
  refine WL.nil (thenQ.n ?_)
  refine WC.seq ?_
  refine WC.region ?_
  refine WL.xe rfl (XE.buildSlice (E := eF) [] #[] [] hS3 Try.underlying60 ti34 rfl (by decide) (by kernel_rfl) (.inr rfl) rfl rfl (by decide)) ?_
  rintro _ w4 ⟨b3, rfl, hS4, hk4⟩
  refine WL.lv rfl (LV.asg rfl) ?_
  refine WL.nil (thenQ.n ?_)
  refine WC.seq ?_
  refine WC.region ?_
  refine WL.lv rfl (LV.asg rfl) ?_
  refine WL.nil (thenQ.n ?_)
  iterate 2 refine WC.seq ?_
  refine WC.region ?_
  refine WL.lv rfl (LV.asg rfl) ?_
  refine WL.nil (thenQ.n ?_)
  refine WC.block ?_
  refine WC.loop (fun m_ f_ w_ => ∃ (s0 : Int) (s1 : Int) (s2 : Nat) (s3 : Nat) (s4 : Int) (s5 : Int) (A_shares : Option Addr) (c_shares : Nat) (shares : List Nat) (best_ : Int) (i : Int), (0 ≤ i) ∧ (i ≤ (l.length : Int)) ∧ (s0 = SI (l.take i.toNat)) ∧ (s1 = SO (l.take i.toNat)) ∧ (s4 = PKF l i.toNat) ∧ (s5 = QT (l.take i.toNat)) ∧ (shares = SHR (l.take i.toNat)) ∧ ((shares.length : Int) ≤ i) ∧ (best_ = BST l i.toNat) ∧ (0 ≤ s0 ∧ s0 ≤ 2147483647 * i ∧ 0 ≤ s1 ∧ s1 ≤ 2147483647 * i ∧ 0 ≤ s5 ∧ s5 ≤ i) ∧ (∀ x ∈ shares, x < 18446744073709551616) ∧ SH w No w_ [rowE eF 34 (.slice A_shares shares.length c_shares) shares, blkE b2 38 #[(.int .i64 s0), (.int .i64 s1), (.float .f64 s2), (.float .f64 s3), (.int .i64 s4), (.int .i64 s5)], blkE b1 38 #[(.int .i64 0), (.int .i64 0), (.float .f64 0), (.float .f64 0), (.int .i64 0), (.int .i64 0)]] ∧ m_ = (((l.length : Int) - i).toNat) ∧ Weak (lit [(0, (.slice A_l l.length c_l)), (2, (.pointer (some ⟨b1, 0, none⟩))), (3, (.pointer (some ⟨b2, 0, none⟩))), (4, (.slice A_shares shares.length c_shares)), (5, (.int .i64 best_)), (6, (.int .i64 i))]) f_) _ ⟨0, 0, 0, 0, (-1), 0, (some ⟨b3, 0, none⟩), 0, [], (-1), 0, by omega, by omega, rfl, rfl, rfl, rfl, rfl, (by simp), rfl, by omega, (by simp), hS4, rfl, Weak.cons rfl <| Weak.cons rfl <| Weak.cons rfl <| Weak.cons rfl <| Weak.cons rfl <| Weak.cons rfl <| Weak.nil _⟩ ?_
  rintro m1 f1 w5 ⟨s0, s1, s2, s3, s4, s5, A_shares, c_shares, shares, best_, i, ilo, ihi, q1, q2, q3, q4, q5, q7, qb, q6, q8, hL1, rfl, hw1⟩
  refine WC.weak hw1 ?_
  clear hw1
  iterate 2 refine WC.seq ?_
  refine WC.region ?_
  iterate 2 refine WL.lv rfl (LV.mv rfl) ?_
  refine WL.lv rfl (LV.lenL Try.underlying25 rfl) ?_
  refine WL.lv rfl (LV.ltI rfl rfl) ?_
  refine WL.nil (thenQ.n ?_)
  refine WC.condP (p := i < (l.length : Int)) rfl (fun hk => ?_) (fun hk => ?_)
  · have hbb_ := BST_bd l i.toNat
    rw [← qb] at hbb_
    refine WC.skip (thenQ.n ?_)
    refine WC.seq ?_
    refine WC.block ?_
    refine WC.cut (fun f_ w_ => ∃ (t0 : Int), (t0 = SI (l.take (i + 1).toNat)) ∧ (0 ≤ t0 ∧ t0 ≤ 2147483647 * (i + 1)) ∧ SH w No w_ [rowE eF 34 (.slice A_shares shares.length c_shares) shares, blkE b2 38 #[(.int .i64 t0), (.int .i64 s1), (.float .f64 s2), (.float .f64 s3), (.int .i64 s4), (.int .i64 s5)], blkE b1 38 #[(.int .i64 0), (.int .i64 0), (.float .f64 0), (.float .f64 0), (.int .i64 0), (.int .i64 0)]] ∧ Weak (lit [(0, (.slice A_l l.length c_l)), (2, (.pointer (some ⟨b1, 0, none⟩))), (3, (.pointer (some ⟨b2, 0, none⟩))), (4, (.slice A_shares shares.length c_shares)), (5, (.int .i64 best_)), (6, (.int .i64 i))]) f_) ?_ ?_
    · refine WC.seq ?_
      refine WC.region ?_
      iterate 2 refine WL.lv rfl (LV.mv rfl) ?_
      obtain ⟨A1, c1, e1, g1⟩ := St.elt (SH.stN hL1 h_l) (0, 0) i (by omega) (by omega)
      refine WL.lv rfl (LV.idxA Try.underlying25 ti30.sz rfl e1 rfl (by omega) (by omega)) ?_
      refine WL.lv rfl (LV.fieldA Try.underlying30 rfl ti3.sz rfl) ?_
      refine WL.lv rfl (LV.load1 (v := (.int .i64 ((l.getD (i).toNat (0, 0)).1))) Try.underlying3 rfl rfl (g1 _ (KB.refl No _) 0 _ rfl)) ?_
      refine WL.call rfl (XC.fn Try.func23 (by kernel_rfl) rfl rfl rfl) (rnumber_calls (n := ((l.getD (i).toNat (0, 0)).1)) ) ?_
      rintro v_ w6 ⟨rfl, hk5⟩
      have hS5 := SH.same hL1 hk5
      refine WL.nil (thenQ.n ?_)
      refine WC.condP (p := number ((l.getD (i).toNat (0, 0)).1)) rfl (fun hn1 => ?_) (fun hn1 => ?_)
      · have hb1_ : 0 ≤ (l.getD (i).toNat (0, 0)).1 ∧ (l.getD (i).toNat (0, 0)).1 ≤ 2147483647 := hn1
        have hS6 := SH.drew hS5
        refine WC.regionD [9] (fun w_ => KB No w6.drew w_) [(.pure, 0), (.look, 1), (.pure, 2), (.pure, 3), (.pure, 4), (.pure, 5), (.look, 6), (.pure, 7), (.pure, 8), (.forced, 9)] (by kernel_rfl) (by kernel_rfl) (KB.refl _ _) ?_
        refine WS.pure rfl rfl (fun _ => LV.fieldA Try.underlying38 rfl ti3.sz rfl) ?_
        refine WS.look rfl rfl (fun _ hk_ => LV.load1 Try.underlying3 rfl rfl (Blk.cellN (SH.at hS6 (.tail _ (.head _))) 0 rfl _ hk_)) ?_
        iterate 2 refine WS.pure rfl rfl (fun _ => LV.mv rfl) ?_
        obtain ⟨A2, c2, e2, g2⟩ := St.elt (SH.stN hS6 h_l) (0, 0) i (by omega) (by omega)
        refine WS.pure rfl rfl (fun _ => LV.idxA Try.underlying25 ti30.sz rfl e2 rfl (by omega) (by omega)) ?_
        refine WS.pure rfl rfl (fun _ => LV.fieldA Try.underlying30 rfl ti3.sz rfl) ?_
        refine WS.look rfl rfl (fun _ hk_ => LV.load1 (v := (.int .i64 ((l.getD (i).toNat (0, 0)).1))) Try.underlying3 rfl rfl (g2 _ hk_ 0 _ rfl)) ?_
        refine WS.pure rfl rfl (fun _ => LV.add rfl rfl (wr64 (by omega) (by omega))) ?_
        refine WS.pure rfl rfl (fun _ => LV.fieldA Try.underlying38 rfl ti3.sz rfl) ?_
        have hS8 : SH w No w6.drew [blkE b2 38 #[(.int .i64 s0), (.int .i64 s1), (.float .f64 s2), (.float .f64 s3), (.int .i64 s4), (.int .i64 s5)], rowE eF 34 (.slice A_shares shares.length c_shares) shares, blkE b1 38 #[(.int .i64 0), (.int .i64 0), (.float .f64 0), (.float .f64 0), (.int .i64 0), (.int .i64 0)]] := (SH.front [_] hS6)
        refine WS.xse rfl rfl (XSE.blk #[(.int .i64 (s0 + ((l.getD (i).toNat (0, 0)).1))), (.int .i64 s1), (.float .f64 s2), (.float .f64 s3), (.int .i64 s4), (.int .i64 s5)] hS8 (Nat.le_of_ble_eq_true rfl) ti3.sz rfl rfl rfl rfl) ?_
        rintro w7 ⟨hS7, hk6⟩
        refine ⟨fun h_ => (by cases h_), ?_⟩
        refine WS.nil (thenQ.n ?_)
        have hS9 : SH w No w7 [rowE eF 34 (.slice A_shares shares.length c_shares) shares, blkE b2 38 #[(.int .i64 (s0 + ((l.getD (i).toNat (0, 0)).1))), (.int .i64 s1), (.float .f64 s2), (.float .f64 s3), (.int .i64 s4), (.int .i64 s5)], blkE b1 38 #[(.int .i64 0), (.int .i64 0), (.float .f64 0), (.float .f64 0), (.int .i64 0), (.int .i64 0)]] := (SH.front [_, _] (SH.front [_] (SH.front [_, _] hS7)))
        exact ⟨s0 + ((l.getD (i).toNat (0, 0)).1), (by rw [SI_at ilo hk, ← q1]; first | (rw [if_pos hn1]; done) | (rw [if_neg hn1]; omega)), by omega, hS9, Weak.cons rfl <| Weak.cons rfl <| Weak.cons rfl <| Weak.cons rfl <| Weak.cons rfl <| Weak.cons rfl <| Weak.nil _⟩
      · skip
        refine WC.skip (thenQ.n ?_)
        exact ⟨s0, (by rw [SI_at ilo hk, ← q1]; first | (rw [if_pos hn1]; done) | (rw [if_neg hn1]; omega)), by omega, hS5, Weak.cons rfl <| Weak.cons rfl <| Weak.cons rfl <| Weak.cons rfl <| Weak.cons rfl <| Weak.cons rfl <| Weak.nil _⟩
    · rintro f2 w8 ⟨t0, u1, u1b, hS10, hw2⟩
      refine WC.weak hw2 ?_
      clear hw2
      refine WC.cut (fun f_ w_ => ∃ (t1 : Int), (t1 = SO (l.take (i + 1).toNat)) ∧ (0 ≤ t1 ∧ t1 ≤ 2147483647 * (i + 1)) ∧ SH w No w_ [rowE eF 34 (.slice A_shares shares.length c_shares) shares, blkE b2 38 #[(.int .i64 t0), (.int .i64 t1), (.float .f64 s2), (.float .f64 s3), (.int .i64 s4), (.int .i64 s5)], blkE b1 38 #[(.int .i64 0), (.int .i64 0), (.float .f64 0), (.float .f64 0), (.int .i64 0), (.int .i64 0)]] ∧ Weak (lit [(0, (.slice A_l l.length c_l)), (2, (.pointer (some ⟨b1, 0, none⟩))), (3, (.pointer (some ⟨b2, 0, none⟩))), (4, (.slice A_shares shares.length c_shares)), (5, (.int .i64 best_)), (6, (.int .i64 i))]) f_) ?_ ?_
      · refine WC.seq ?_
        refine WC.region ?_
        iterate 2 refine WL.lv rfl (LV.mv rfl) ?_
        obtain ⟨A3, c3, e3, g3⟩ := St.elt (SH.stN hS10 h_l) (0, 0) i (by omega) (by omega)
        refine WL.lv rfl (LV.idxA Try.underlying25 ti30.sz rfl e3 rfl (by omega) (by omega)) ?_
        refine WL.lv rfl (LV.fieldA Try.underlying30 rfl ti3.sz rfl) ?_
        refine WL.lv rfl (LV.load1 (v := (.int .i64 ((l.getD (i).toNat (0, 0)).2))) Try.underlying3 rfl rfl (g3 _ (KB.refl No _) 1 _ rfl)) ?_
        refine WL.call rfl (XC.fn Try.func23 (by kernel_rfl) rfl rfl rfl) (rnumber_calls (n := ((l.getD (i).toNat (0, 0)).2)) ) ?_
        rintro v_ w9 ⟨rfl, hk7⟩
        have hS11 := SH.same hS10 hk7
        refine WL.nil (thenQ.n ?_)
        refine WC.condP (p := number ((l.getD (i).toNat (0, 0)).2)) rfl (fun hn2 => ?_) (fun hn2 => ?_)
        · have hb2_ : 0 ≤ (l.getD (i).toNat (0, 0)).2 ∧ (l.getD (i).toNat (0, 0)).2 ≤ 2147483647 := hn2
          have hS12 := SH.drew hS11
          refine WC.regionD [9] (fun w_ => KB No w9.drew w_) [(.pure, 0), (.look, 1), (.pure, 2), (.pure, 3), (.pure, 4), (.pure, 5), (.look, 6), (.pure, 7), (.pure, 8), (.forced, 9)] (by kernel_rfl) (by kernel_rfl) (KB.refl _ _) ?_
          refine WS.pure rfl rfl (fun _ => LV.fieldA Try.underlying38 rfl ti3.sz rfl) ?_
          refine WS.look rfl rfl (fun _ hk_ => LV.load1 Try.underlying3 rfl rfl (Blk.cellN (SH.at hS12 (.tail _ (.head _))) 1 rfl _ hk_)) ?_
          iterate 2 refine WS.pure rfl rfl (fun _ => LV.mv rfl) ?_
          obtain ⟨A4, c4, e4, g4⟩ := St.elt (SH.stN hS12 h_l) (0, 0) i (by omega) (by omega)
          refine WS.pure rfl rfl (fun _ => LV.idxA Try.underlying25 ti30.sz rfl e4 rfl (by omega) (by omega)) ?_
          refine WS.pure rfl rfl (fun _ => LV.fieldA Try.underlying30 rfl ti3.sz rfl) ?_
          refine WS.look rfl rfl (fun _ hk_ => LV.load1 (v := (.int .i64 ((l.getD (i).toNat (0, 0)).2))) Try.underlying3 rfl rfl (g4 _ hk_ 1 _ rfl)) ?_
          refine WS.pure rfl rfl (fun _ => LV.add rfl rfl (wr64 (by omega) (by omega))) ?_
          refine WS.pure rfl rfl (fun _ => LV.fieldA Try.underlying38 rfl ti3.sz rfl) ?_
          have hS14 : SH w No w9.drew [blkE b2 38 #[(.int .i64 t0), (.int .i64 s1), (.float .f64 s2), (.float .f64 s3), (.int .i64 s4), (.int .i64 s5)], rowE eF 34 (.slice A_shares shares.length c_shares) shares, blkE b1 38 #[(.int .i64 0), (.int .i64 0), (.float .f64 0), (.float .f64 0), (.int .i64 0), (.int .i64 0)]] := (SH.front [_] hS12)
          refine WS.xse rfl rfl (XSE.blk #[(.int .i64 t0), (.int .i64 (s1 + ((l.getD (i).toNat (0, 0)).2))), (.float .f64 s2), (.float .f64 s3), (.int .i64 s4), (.int .i64 s5)] hS14 (Nat.le_of_ble_eq_true rfl) ti3.sz rfl rfl rfl rfl) ?_
          rintro w10 ⟨hS13, hk8⟩
          refine ⟨fun h_ => (by cases h_), ?_⟩
          refine WS.nil (thenQ.n ?_)
          have hS15 : SH w No w10 [rowE eF 34 (.slice A_shares shares.length c_shares) shares, blkE b2 38 #[(.int .i64 t0), (.int .i64 (s1 + ((l.getD (i).toNat (0, 0)).2))), (.float .f64 s2), (.float .f64 s3), (.int .i64 s4), (.int .i64 s5)], blkE b1 38 #[(.int .i64 0), (.int .i64 0), (.float .f64 0), (.float .f64 0), (.int .i64 0), (.int .i64 0)]] := (SH.front [_, _] (SH.front [_] (SH.front [_, _] hS13)))
          exact ⟨s1 + ((l.getD (i).toNat (0, 0)).2), (by rw [SO_at ilo hk, ← q2]; first | (rw [if_pos hn2]; done) | (rw [if_neg hn2]; omega)), by omega, hS15, Weak.cons rfl <| Weak.cons rfl <| Weak.cons rfl <| Weak.cons rfl <| Weak.cons rfl <| Weak.cons rfl <| Weak.nil _⟩
        · skip
          refine WC.skip (thenQ.n ?_)
          exact ⟨s1, (by rw [SO_at ilo hk, ← q2]; first | (rw [if_pos hn2]; done) | (rw [if_neg hn2]; omega)), by omega, hS11, Weak.cons rfl <| Weak.cons rfl <| Weak.cons rfl <| Weak.cons rfl <| Weak.cons rfl <| Weak.cons rfl <| Weak.nil _⟩
      · rintro f3 w11 ⟨t1, u2, u2b, hS16, hw3⟩
        refine WC.weak hw3 ?_
        clear hw3
        refine WC.cut (fun f_ w_ => ∃ (t4 : Int) (tb : Int), (t4 = PKF l (i + 1).toNat ∧ tb = BST l (i + 1).toNat) ∧ SH w No w_ [rowE eF 34 (.slice A_shares shares.length c_shares) shares, blkE b2 38 #[(.int .i64 t0), (.int .i64 t1), (.float .f64 s2), (.float .f64 s3), (.int .i64 t4), (.int .i64 s5)], blkE b1 38 #[(.int .i64 0), (.int .i64 0), (.float .f64 0), (.float .f64 0), (.int .i64 0), (.int .i64 0)]] ∧ Weak (lit [(0, (.slice A_l l.length c_l)), (2, (.pointer (some ⟨b1, 0, none⟩))), (3, (.pointer (some ⟨b2, 0, none⟩))), (4, (.slice A_shares shares.length c_shares)), (5, (.int .i64 tb)), (6, (.int .i64 i))]) f_) ?_ ?_
        · refine WC.seq ?_
          have hS17 := SH.drew hS16
          refine WC.regionD [] (fun w_ => KB No w11.drew w_) [(.pure, 0), (.pure, 1), (.pure, 2), (.pure, 3), (.look, 4), (.forced, 5), (.pure, 6), (.pure, 7), (.pure, 8), (.pure, 9), (.pure, 10), (.look, 11), (.forced, 12), (.pure, 13), (.pure, 14), (.pure, 15), (.pure, 16), (.pure, 17), (.pure, 18), (.look, 19), (.pure, 20), (.pure, 21), (.pure, 22), (.pure, 23), (.look, 24), (.pure, 25), (.pure, 26), (.pure, 27), (.pure, 28)] (by kernel_rfl) (by kernel_rfl) (KB.refl _ _) ?_
          iterate 2 refine WS.pure rfl rfl (fun _ => LV.mv rfl) ?_
          obtain ⟨A5, c5, e5, g5⟩ := St.elt (SH.stN hS17 h_l) (0, 0) i (by omega) (by omega)
          refine WS.pure rfl rfl (fun _ => LV.idxA Try.underlying25 ti30.sz rfl e5 rfl (by omega) (by omega)) ?_
          refine WS.pure rfl rfl (fun _ => LV.fieldA Try.underlying30 rfl ti3.sz rfl) ?_
          refine WS.look rfl rfl (fun _ hk_ => LV.load1 (v := (.int .i64 ((l.getD (i).toNat (0, 0)).1))) Try.underlying3 rfl rfl (g5 _ hk_ 0 _ rfl)) ?_
          rcases Decidable.em (number ((l.getD (i).toNat (0, 0)).1)) with hm1 | hm1
          · refine WS.call rfl rfl (XC.fn Try.func23 (by kernel_rfl) rfl rfl rfl) (Calls.asB (rnumber_calls (n := ((l.getD (i).toNat (0, 0)).1)) ) (decide_eq_true (hm1))) ?_
            rintro v_ w12 ⟨rfl, hk9⟩
            have hS18 := SH.same hS17 hk9
            try have hm1b_ : 0 ≤ (l.getD (i).toNat (0, 0)).1 ∧ (l.getD (i).toNat (0, 0)).1 ≤ 2147483647 := hm1
            refine ⟨fun h_ => (KB.transN (KB.refl _ _) hk9), ?_⟩
            iterate 3 refine WS.pure rfl rfl (fun _ => LV.mv rfl) ?_
            obtain ⟨A6, c6, e6, g6⟩ := St.elt (SH.stN hS17 h_l) (0, 0) i (by omega) (by omega)
            refine WS.pure rfl rfl (fun _ => LV.idxA Try.underlying25 ti30.sz rfl e6 rfl (by omega) (by omega)) ?_
            refine WS.pure rfl rfl (fun _ => LV.fieldA Try.underlying30 rfl ti3.sz rfl) ?_
            refine WS.look rfl rfl (fun _ hk_ => LV.load1 (v := (.int .i64 ((l.getD (i).toNat (0, 0)).2))) Try.underlying3 rfl rfl (g6 _ hk_ 1 _ rfl)) ?_
            rcases Decidable.em (number ((l.getD (i).toNat (0, 0)).2)) with hm2 | hm2
            · refine WS.call rfl rfl (XC.fn Try.func23 (by kernel_rfl) rfl rfl rfl) (Calls.asB (rnumber_calls (n := ((l.getD (i).toNat (0, 0)).2)) ) (decide_eq_true (hm2))) ?_
              rintro v_ w13 ⟨rfl, hk10⟩
              have hS19 := SH.same hS18 hk10
              try have hm2b_ : 0 ≤ (l.getD (i).toNat (0, 0)).2 ∧ (l.getD (i).toNat (0, 0)).2 ≤ 2147483647 := hm2
              refine ⟨fun h_ => (KB.transN (KB.transN (KB.refl _ _) hk9) hk10), ?_⟩
              refine WS.pure rfl rfl (fun _ => LV.pickT rfl rfl) ?_
              iterate 3 refine WS.pure rfl rfl (fun _ => LV.mv rfl) ?_
              obtain ⟨A7, c7, e7, g7⟩ := St.elt (SH.stN hS17 h_l) (0, 0) i (by omega) (by omega)
              refine WS.pure rfl rfl (fun _ => LV.idxA Try.underlying25 ti30.sz rfl e7 rfl (by omega) (by omega)) ?_
              refine WS.pure rfl rfl (fun _ => LV.fieldA Try.underlying30 rfl ti3.sz rfl) ?_
              refine WS.look rfl rfl (fun _ hk_ => LV.load1 (v := (.int .i64 ((l.getD (i).toNat (0, 0)).1))) Try.underlying3 rfl rfl (g7 _ hk_ 0 _ rfl)) ?_
              iterate 2 refine WS.pure rfl rfl (fun _ => LV.mv rfl) ?_
              obtain ⟨A8, c8, e8, g8⟩ := St.elt (SH.stN hS17 h_l) (0, 0) i (by omega) (by omega)
              refine WS.pure rfl rfl (fun _ => LV.idxA Try.underlying25 ti30.sz rfl e8 rfl (by omega) (by omega)) ?_
              refine WS.pure rfl rfl (fun _ => LV.fieldA Try.underlying30 rfl ti3.sz rfl) ?_
              refine WS.look rfl rfl (fun _ hk_ => LV.load1 (v := (.int .i64 ((l.getD (i).toNat (0, 0)).2))) Try.underlying3 rfl rfl (g8 _ hk_ 1 _ rfl)) ?_
              refine WS.pure rfl rfl (fun _ => LV.add rfl rfl (wr64 (by omega) (by omega))) ?_
              refine WS.pure rfl rfl (fun _ => LV.mv rfl) ?_
              refine WS.pure rfl rfl (fun _ => LV.gtI rfl rfl) ?_
              refine WS.pure rfl rfl (fun _ => LV.pickT rfl rfl) ?_
              refine WS.nil (thenQ.n ?_)
              refine WC.condP (p := (((l.getD (i).toNat (0, 0)).1) + ((l.getD (i).toNat (0, 0)).2)) > best_) rfl (fun hc1 => ?_) (fun hc1 => ?_)
              · skip
                refine WC.seq ?_
                have hS20 := SH.drew hS19
                refine WC.regionD [] (fun w_ => KB No w13.drew w_) [(.pure, 0), (.pure, 1), (.pure, 2), (.pure, 3), (.look, 4), (.pure, 5), (.pure, 6), (.pure, 7), (.pure, 8), (.look, 9), (.pure, 10), (.pure, 11)] (by kernel_rfl) (by kernel_rfl) (KB.refl _ _) ?_
                iterate 2 refine WS.pure rfl rfl (fun _ => LV.mv rfl) ?_
                obtain ⟨A9, c9, e9, g9⟩ := St.elt (SH.stN hS20 h_l) (0, 0) i (by omega) (by omega)
                refine WS.pure rfl rfl (fun _ => LV.idxA Try.underlying25 ti30.sz rfl e9 rfl (by omega) (by omega)) ?_
                refine WS.pure rfl rfl (fun _ => LV.fieldA Try.underlying30 rfl ti3.sz rfl) ?_
                refine WS.look rfl rfl (fun _ hk_ => LV.load1 (v := (.int .i64 ((l.getD (i).toNat (0, 0)).1))) Try.underlying3 rfl rfl (g9 _ hk_ 0 _ rfl)) ?_
                iterate 2 refine WS.pure rfl rfl (fun _ => LV.mv rfl) ?_
                obtain ⟨A10, c10, e10, g10⟩ := St.elt (SH.stN hS20 h_l) (0, 0) i (by omega) (by omega)
                refine WS.pure rfl rfl (fun _ => LV.idxA Try.underlying25 ti30.sz rfl e10 rfl (by omega) (by omega)) ?_
                refine WS.pure rfl rfl (fun _ => LV.fieldA Try.underlying30 rfl ti3.sz rfl) ?_
                refine WS.look rfl rfl (fun _ hk_ => LV.load1 (v := (.int .i64 ((l.getD (i).toNat (0, 0)).2))) Try.underlying3 rfl rfl (g10 _ hk_ 1 _ rfl)) ?_
                refine WS.pure rfl rfl (fun _ => LV.add rfl rfl (wr64 (by omega) (by omega))) ?_
                refine WS.pure rfl rfl (fun _ => LV.asg rfl) ?_
                refine WS.nil (thenQ.n ?_)
                refine WC.region ?_
                refine WL.lv rfl (LV.mv rfl) ?_
                refine WL.lv rfl (LV.fieldA Try.underlying38 rfl ti3.sz rfl) ?_
                have hS22 : SH w No w13.drew [blkE b2 38 #[(.int .i64 t0), (.int .i64 t1), (.float .f64 s2), (.float .f64 s3), (.int .i64 s4), (.int .i64 s5)], rowE eF 34 (.slice A_shares shares.length c_shares) shares, blkE b1 38 #[(.int .i64 0), (.int .i64 0), (.float .f64 0), (.float .f64 0), (.int .i64 0), (.int .i64 0)]] := (SH.front [_] hS20)
                refine WL.xse rfl (XSE.blk #[(.int .i64 t0), (.int .i64 t1), (.float .f64 s2), (.float .f64 s3), (.int .i64 i), (.int .i64 s5)] hS22 (Nat.le_of_ble_eq_true rfl) ti3.sz rfl rfl rfl rfl) ?_
                rintro w14 ⟨hS21, hk11⟩
                refine WL.nil (thenQ.n ?_)
                have hS23 : SH w No w14 [rowE eF 34 (.slice A_shares shares.length c_shares) shares, blkE b2 38 #[(.int .i64 t0), (.int .i64 t1), (.float .f64 s2), (.float .f64 s3), (.int .i64 i), (.int .i64 s5)], blkE b1 38 #[(.int .i64 0), (.int .i64 0), (.float .f64 0), (.float .f64 0), (.int .i64 0), (.int .i64 0)]] := (SH.front [_, _] (SH.front [_] (SH.front [_, _] hS21)))
                exact ⟨i, ((l.getD (i).toNat (0, 0)).1) + ((l.getD (i).toNat (0, 0)).2), (by first | exact bst_yes ilo qb hm1 hm2 (by omega) | exact bst_no ilo q3 qb (.inl hm1) | exact bst_no ilo q3 qb (.inr (.inl hm2)) | exact bst_no ilo q3 qb (.inr (.inr (by omega)))), hS23, Weak.cons rfl <| Weak.cons rfl <| Weak.cons rfl <| Weak.cons rfl <| Weak.cons rfl <| Weak.cons rfl <| Weak.nil _⟩
              · skip
                refine WC.skip (thenQ.n ?_)
                exact ⟨s4, best_, (by first | exact bst_yes ilo qb hm1 hm2 (by omega) | exact bst_no ilo q3 qb (.inl hm1) | exact bst_no ilo q3 qb (.inr (.inl hm2)) | exact bst_no ilo q3 qb (.inr (.inr (by omega)))), hS19, Weak.cons rfl <| Weak.cons rfl <| Weak.cons rfl <| Weak.cons rfl <| Weak.cons rfl <| Weak.cons rfl <| Weak.nil _⟩
            · refine WS.call rfl rfl (XC.fn Try.func23 (by kernel_rfl) rfl rfl rfl) (Calls.asB (rnumber_calls (n := ((l.getD (i).toNat (0, 0)).2)) ) (decide_eq_false (hm2))) ?_
              rintro v_ w15 ⟨rfl, hk12⟩
              have hS24 := SH.same hS18 hk12
              try have hm2b_ : 0 ≤ (l.getD (i).toNat (0, 0)).2 ∧ (l.getD (i).toNat (0, 0)).2 ≤ 2147483647 := hm2
              refine ⟨fun h_ => (KB.transN (KB.transN (KB.refl _ _) hk9) hk12), ?_⟩
              refine WS.pure rfl rfl (fun _ => LV.pickT rfl rfl) ?_
              refine WS.pure rfl rfl (fun _ => LV.mv rfl) ?_
              iterate 4 refine WS.off rfl rfl ?_
              refine WS.offL rfl rfl ?_
              iterate 4 refine WS.off rfl rfl ?_
              refine WS.offL rfl rfl ?_
              iterate 3 refine WS.off rfl rfl ?_
              refine WS.pure rfl rfl (fun _ => LV.pickF rfl rfl) ?_
              refine WS.nil (thenQ.n ?_)
              refine WC.condF rfl ?_
              refine WC.skip (thenQ.n ?_)
              exact ⟨s4, best_, (by first | exact bst_yes ilo qb hm1 hm2 (by omega) | exact bst_no ilo q3 qb (.inl hm1) | exact bst_no ilo q3 qb (.inr (.inl hm2)) | exact bst_no ilo q3 qb (.inr (.inr (by omega)))), hS24, Weak.cons rfl <| Weak.cons rfl <| Weak.cons rfl <| Weak.cons rfl <| Weak.cons rfl <| Weak.cons rfl <| Weak.nil _⟩
          · refine WS.call rfl rfl (XC.fn Try.func23 (by kernel_rfl) rfl rfl rfl) (Calls.asB (rnumber_calls (n := ((l.getD (i).toNat (0, 0)).1)) ) (decide_eq_false (hm1))) ?_
            rintro v_ w16 ⟨rfl, hk13⟩
            have hS25 := SH.same hS17 hk13
            try have hm1b_ : 0 ≤ (l.getD (i).toNat (0, 0)).1 ∧ (l.getD (i).toNat (0, 0)).1 ≤ 2147483647 := hm1
            refine ⟨fun h_ => (KB.transN (KB.refl _ _) hk13), ?_⟩
            refine WS.pure rfl rfl (fun _ => LV.mv rfl) ?_
            iterate 4 refine WS.off rfl rfl ?_
            refine WS.offL rfl rfl ?_
            refine WS.offF rfl rfl (fun h_ => (KB.transN (KB.refl _ _) hk13)) ?_
            refine WS.pure rfl rfl (fun _ => LV.pickF rfl rfl) ?_
            refine WS.pure rfl rfl (fun _ => LV.mv rfl) ?_
            iterate 4 refine WS.off rfl rfl ?_
            refine WS.offL rfl rfl ?_
            iterate 4 refine WS.off rfl rfl ?_
            refine WS.offL rfl rfl ?_
            iterate 3 refine WS.off rfl rfl ?_
            refine WS.pure rfl rfl (fun _ => LV.pickF rfl rfl) ?_
            refine WS.nil (thenQ.n ?_)
            refine WC.condF rfl ?_
            refine WC.skip (thenQ.n ?_)
            exact ⟨s4, best_, (by first | exact bst_yes ilo qb hm1 hm2 (by omega) | exact bst_no ilo q3 qb (.inl hm1) | exact bst_no ilo q3 qb (.inr (.inl hm2)) | exact bst_no ilo q3 qb (.inr (.inr (by omega)))), hS25, Weak.cons rfl <| Weak.cons rfl <| Weak.cons rfl <| Weak.cons rfl <| Weak.cons rfl <| Weak.cons rfl <| Weak.nil _⟩
        · rintro f4 w17 ⟨t4, tb, u3, hS26, hw4⟩
          refine WC.weak hw4 ?_
          clear hw4
          refine WC.cut (fun f_ w_ => ∃ (t5 : Int), (t5 = QT (l.take (i + 1).toNat)) ∧ (0 ≤ t5 ∧ t5 ≤ i + 1) ∧ SH w No w_ [rowE eF 34 (.slice A_shares shares.length c_shares) shares, blkE b2 38 #[(.int .i64 t0), (.int .i64 t1), (.float .f64 s2), (.float .f64 s3), (.int .i64 t4), (.int .i64 t5)], blkE b1 38 #[(.int .i64 0), (.int .i64 0), (.float .f64 0), (.float .f64 0), (.int .i64 0), (.int .i64 0)]] ∧ Weak (lit [(0, (.slice A_l l.length c_l)), (2, (.pointer (some ⟨b1, 0, none⟩))), (3, (.pointer (some ⟨b2, 0, none⟩))), (4, (.slice A_shares shares.length c_shares)), (5, (.int .i64 tb)), (6, (.int .i64 i))]) f_) ?_ ?_
          · refine WC.seq ?_
            refine WC.region ?_
            iterate 2 refine WL.lv rfl (LV.mv rfl) ?_
            obtain ⟨A11, c11, e11, g11⟩ := St.elt (SH.stN hS26 h_l) (0, 0) i (by omega) (by omega)
            refine WL.lv rfl (LV.idxA Try.underlying25 ti30.sz rfl e11 rfl (by omega) (by omega)) ?_
            refine WL.lv rfl (LV.fieldA Try.underlying30 rfl ti3.sz rfl) ?_
            refine WL.lv rfl (LV.load1 (v := (.int .i64 ((l.getD (i).toNat (0, 0)).1))) Try.underlying3 rfl rfl (g11 _ (KB.refl No _) 0 _ rfl)) ?_
            rcases Decidable.em (((l.getD (i).toNat (0, 0)).1) = 0) with hg1 | hg1
            · refine WL.lv rfl (LV.as (LV.eqI rfl rfl) (decide_eq_true hg1)) ?_
              iterate 3 refine WL.lv rfl (LV.mv rfl) ?_
              obtain ⟨A12, c12, e12, g12⟩ := St.elt (SH.stN hS26 h_l) (0, 0) i (by omega) (by omega)
              refine WL.lv rfl (LV.idxA Try.underlying25 ti30.sz rfl e12 rfl (by omega) (by omega)) ?_
              refine WL.lv rfl (LV.fieldA Try.underlying30 rfl ti3.sz rfl) ?_
              refine WL.lv rfl (LV.load1 (v := (.int .i64 ((l.getD (i).toNat (0, 0)).2))) Try.underlying3 rfl rfl (g12 _ (KB.refl No _) 1 _ rfl)) ?_
              refine WL.lv rfl (LV.eqI rfl rfl) ?_
              refine WL.lv rfl (LV.pickT rfl rfl) ?_
              refine WL.nil (thenQ.n ?_)
              refine WC.condP (p := ((l.getD (i).toNat (0, 0)).2) = 0) rfl (fun hqz => ?_) (fun hqz => ?_)
              · skip
                refine WC.region ?_
                refine WL.lv rfl (LV.fieldA Try.underlying38 rfl ti3.sz rfl) ?_
                refine WL.lv rfl (LV.load1 Try.underlying3 rfl rfl (Blk.cellN (SH.at hS26 (.tail _ (.head _))) 5 rfl _ (KB.refl No _))) ?_
                refine WL.lv rfl (LV.add rfl rfl (wr64 (by omega) (by omega))) ?_
                refine WL.lv rfl (LV.fieldA Try.underlying38 rfl ti3.sz rfl) ?_
                have hS28 : SH w No w17 [blkE b2 38 #[(.int .i64 t0), (.int .i64 t1), (.float .f64 s2), (.float .f64 s3), (.int .i64 t4), (.int .i64 s5)], rowE eF 34 (.slice A_shares shares.length c_shares) shares, blkE b1 38 #[(.int .i64 0), (.int .i64 0), (.float .f64 0), (.float .f64 0), (.int .i64 0), (.int .i64 0)]] := (SH.front [_] hS26)
                refine WL.xse rfl (XSE.blk #[(.int .i64 t0), (.int .i64 t1), (.float .f64 s2), (.float .f64 s3), (.int .i64 t4), (.int .i64 (s5 + 1))] hS28 (Nat.le_of_ble_eq_true rfl) ti3.sz rfl rfl rfl rfl) ?_
                rintro w18 ⟨hS27, hk14⟩
                refine WL.nil (thenQ.n ?_)
                have hS29 : SH w No w18 [rowE eF 34 (.slice A_shares shares.length c_shares) shares, blkE b2 38 #[(.int .i64 t0), (.int .i64 t1), (.float .f64 s2), (.float .f64 s3), (.int .i64 t4), (.int .i64 (s5 + 1))], blkE b1 38 #[(.int .i64 0), (.int .i64 0), (.float .f64 0), (.float .f64 0), (.int .i64 0), (.int .i64 0)]] := (SH.front [_, _] (SH.front [_] (SH.front [_, _] hS27)))
                exact ⟨s5 + 1, (by first | exact qt_yes ilo hk q4 (by first | exact hqz | omega) | exact qt_no ilo hk q4 (by first | exact hqz | omega)), by omega, hS29, Weak.cons rfl <| Weak.cons rfl <| Weak.cons rfl <| Weak.cons rfl <| Weak.cons rfl <| Weak.cons rfl <| Weak.nil _⟩
              · skip
                refine WC.skip (thenQ.n ?_)
                exact ⟨s5, (by first | exact qt_yes ilo hk q4 (by first | exact hqz | omega) | exact qt_no ilo hk q4 (by first | exact hqz | omega)), by omega, hS26, Weak.cons rfl <| Weak.cons rfl <| Weak.cons rfl <| Weak.cons rfl <| Weak.cons rfl <| Weak.cons rfl <| Weak.nil _⟩
            · refine WL.lv rfl (LV.as (LV.eqI rfl rfl) (decide_eq_false hg1)) ?_
              refine WL.lv rfl (LV.mv rfl) ?_
              iterate 6 refine WL.off rfl ?_
              refine WL.lv rfl (LV.pickF rfl rfl) ?_
              refine WL.nil (thenQ.n ?_)
              refine WC.condF rfl ?_
              refine WC.skip (thenQ.n ?_)
              exact ⟨s5, (by first | exact qt_yes ilo hk q4 (by first | exact hqz | omega) | exact qt_no ilo hk q4 (by first | exact hqz | omega)), by omega, hS26, Weak.cons rfl <| Weak.cons rfl <| Weak.cons rfl <| Weak.cons rfl <| Weak.cons rfl <| Weak.cons rfl <| Weak.nil _⟩
          · rintro f5 w19 ⟨t5, u4, u4b, hS30, hw5⟩
            refine WC.weak hw5 ?_
            clear hw5
            refine WC.seq ?_
            refine WC.region ?_
            iterate 2 refine WL.lv rfl (LV.mv rfl) ?_
            obtain ⟨A13, c13, e13, g13⟩ := St.elt (SH.stN hS30 h_l) (0, 0) i (by omega) (by omega)
            refine WL.lv rfl (LV.idxA Try.underlying25 ti30.sz rfl e13 rfl (by omega) (by omega)) ?_
            refine WL.lv rfl (LV.loadAgg (cs := [(.int .i64 ((l.getD (i).toNat (0, 0)).1)), (.int .i64 ((l.getD (i).toNat (0, 0)).2))]) Try.underlying30 rfl ti30 rfl rfl (fun j u hu => g13 _ (KB.refl No _) j u hu)) ?_
            refine WL.call rfl (XC.fn Try.func12 (by kernel_rfl) rfl rfl rfl) (rfresh_calls (c := (l.getD (i).toNat (0, 0))) ) ?_
            rintro v_ w20 ⟨r1, rfl, hf1, hf2, hk15⟩
            have hS31 := SH.same hS30 hk15
            have hfr_ := hf1
            have hfw_ := hf2
            refine WL.lv rfl (LV.asg rfl) ?_
            refine WL.nil (thenQ.n ?_)
            refine WC.seq ?_
            refine WC.region ?_
            iterate 2 refine WL.lv rfl (LV.mv rfl) ?_
            refine WL.lv rfl (LV.eqF (a := r1) (b := r1) rfl rfl) ?_
            refine WL.nil (thenQ.n ?_)
            refine WC.condP (p := ((-9218868437227405312 ≤ sk r1 ∧ sk r1 ≤ 9218868437227405312) ∧ (-9218868437227405312 ≤ sk r1 ∧ sk r1 ≤ 9218868437227405312)) ∧ sk r1 = sk r1) rfl (fun hnn => ?_) (fun hnn => ?_)
            · skip
              refine WC.region ?_
              iterate 2 refine WL.lv rfl (LV.mv rfl) ?_
              refine WL.xe rfl (XE.buildSlice (E := eF) [(0, (.float .f64 r1))] #[(.float .f64 r1)] [r1] hS31 Try.underlying60 ti34 rfl (by decide) (by kernel_rfl) (.inr rfl) rfl rfl (by decide)) ?_
              rintro _ w21 ⟨b4, rfl, hS32, hk16⟩
              have hS33 : SH w No w21 [rowE eF 34 (.slice A_shares shares.length c_shares) shares, rowE eF 34 (.slice (some ⟨b4, 0, none⟩) 1 1) [r1], blkE b2 38 #[(.int .i64 t0), (.int .i64 t1), (.float .f64 s2), (.float .f64 s3), (.int .i64 t4), (.int .i64 t5)], blkE b1 38 #[(.int .i64 0), (.int .i64 0), (.float .f64 0), (.float .f64 0), (.int .i64 0), (.int .i64 0)]] := (SH.front [_] hS32)
              refine WL.xe rfl (XE.append hS33 Try.underlying60 ti34 rfl (St.now (SH.rd hS33 (.tail _ (.head _)))) rfl rfl (by first | omega | simp only [List.length_append, List.length_cons, List.length_nil, List.length_take, List.length_reverse, List.length_drop] at *; omega) (by first | omega | simp only [List.length_append, List.length_cons, List.length_nil, List.length_take, List.length_reverse, List.length_drop] at *; omega)) ?_
              rintro _ w22 ⟨A14, c14, rfl, hS34, hk17⟩
              refine WL.lv rfl (LV.asg rfl) ?_
              refine WL.nil (blockQ.n <| thenQ.n ?_)
              refine WC.region ?_
              refine WL.lv rfl (LV.mv rfl) ?_
              refine WL.lv rfl (LV.add rfl rfl (wr64 (by omega) (by omega))) ?_
              refine WL.lv rfl (LV.asg rfl) ?_
              refine WL.nil (thenQ.n ?_)
              have hS35 : SH w No w22 [rowE eF 34 (.slice A14 ((shares ++ [r1]).length) c14) (shares ++ [r1]), blkE b2 38 #[(.int .i64 t0), (.int .i64 t1), (.float .f64 s2), (.float .f64 s3), (.int .i64 t4), (.int .i64 t5)], blkE b1 38 #[(.int .i64 0), (.int .i64 0), (.float .f64 0), (.float .f64 0), (.int .i64 0), (.int .i64 0)]] := (SH.take 3 rfl (SH.front [_, _] (SH.front [_, _, _] (SH.front [_, _, _] hS34))))
              exact ⟨_, by omega, t0, t1, s2, s3, t4, t5, A14, c14, (shares ++ [r1]), tb, i + 1, by omega, by omega, u1, u2, u3.1, u4, (by first | exact shr_yes ilo hk q5 hfr_ hnn.1.1 | exact shr_no ilo hk q5 hfr_ (fun h_ => hnn ⟨⟨h_, h_⟩, rfl⟩)), (by first | omega | (simp; omega)), u3.2, by omega, (by first | exact q8 | exact fun x h_ => (List.mem_append.1 h_).elim (q8 x) (fun h2_ => by rw [List.mem_singleton.1 h2_]; exact hfw_)), hS35, rfl, Weak.cons rfl <| Weak.cons rfl <| Weak.cons rfl <| Weak.cons rfl <| Weak.cons rfl <| Weak.cons rfl <| Weak.nil _⟩
            · skip
              refine WC.skip (blockQ.n <| thenQ.n ?_)
              refine WC.region ?_
              refine WL.lv rfl (LV.mv rfl) ?_
              refine WL.lv rfl (LV.add rfl rfl (wr64 (by omega) (by omega))) ?_
              refine WL.lv rfl (LV.asg rfl) ?_
              refine WL.nil (thenQ.n ?_)
              exact ⟨_, by omega, t0, t1, s2, s3, t4, t5, A_shares, c_shares, shares, tb, i + 1, by omega, by omega, u1, u2, u3.1, u4, (by first | exact shr_yes ilo hk q5 hfr_ hnn.1.1 | exact shr_no ilo hk q5 hfr_ (fun h_ => hnn ⟨⟨h_, h_⟩, rfl⟩)), (by first | omega | (simp; omega)), u3.2, by omega, (by first | exact q8 | exact fun x h_ => (List.mem_append.1 h_).elim (q8 x) (fun h2_ => by rw [List.mem_singleton.1 h2_]; exact hfw_)), hS31, rfl, Weak.cons rfl <| Weak.cons rfl <| Weak.cons rfl <| Weak.cons rfl <| Weak.cons rfl <| Weak.cons rfl <| Weak.nil _⟩
  · skip
    refine WC.exit (thenQ.x <| thenQ.x <| blockQ.hit <| thenQ.n ?_)
    refine WC.seq ?_
    refine WC.region ?_
    refine WL.lv rfl (LV.mv rfl) ?_
    have hq5_ : shares = SHR l := by rw [q5, List.take_of_length_le (by omega)]
    refine WL.call rfl (XC.fn Try.func28 (by kernel_rfl) rfl rfl rfl) (rmean_calls  (SH.rd hL1 (.head _)) rfl ) ?_
    rintro v_ w23 ⟨r2, rfl, hf3, hf4, hk18⟩
    have hS36 := SH.same hL1 hk18
    have hmf_ := And.intro hf3 hf4
    refine WL.lv rfl (LV.fieldA Try.underlying38 rfl ti34.sz rfl) ?_
    have hS38 : SH w No w23 [blkE b2 38 #[(.int .i64 s0), (.int .i64 s1), (.float .f64 s2), (.float .f64 s3), (.int .i64 s4), (.int .i64 s5)], rowE eF 34 (.slice A_shares shares.length c_shares) shares, blkE b1 38 #[(.int .i64 0), (.int .i64 0), (.float .f64 0), (.float .f64 0), (.int .i64 0), (.int .i64 0)]] := (SH.front [_] hS36)
    refine WL.xse rfl (XSE.blk #[(.int .i64 s0), (.int .i64 s1), (.float .f64 r2), (.float .f64 s3), (.int .i64 s4), (.int .i64 s5)] hS38 (Nat.le_of_ble_eq_true rfl) ti34.sz rfl rfl rfl rfl) ?_
    rintro w24 ⟨hS37, hk19⟩
    refine WL.nil (thenQ.n ?_)
    refine WC.seq ?_
    refine WC.region ?_
    refine WL.lv rfl (LV.mv rfl) ?_
    refine WL.call rfl (XC.fn Try.func29 (by kernel_rfl) rfl rfl rfl) (rmedian_calls  (SH.rd hS37 (.tail _ (.head _))) rfl (q8) (by omega)) ?_
    rintro v_ w25 ⟨r3, rfl, hf5, hf6, hk20⟩
    have hS39 := SH.same hS37 hk20
    have hdf_ := And.intro hf5 hf6
    refine WL.lv rfl (LV.fieldA Try.underlying38 rfl ti34.sz rfl) ?_
    refine WL.xse rfl (XSE.blk #[(.int .i64 s0), (.int .i64 s1), (.float .f64 r2), (.float .f64 r3), (.int .i64 s4), (.int .i64 s5)] hS39 (Nat.le_of_ble_eq_true rfl) ti34.sz rfl rfl rfl rfl) ?_
    rintro w26 ⟨hS40, hk21⟩
    refine WL.nil (thenQ.n ?_)
    refine WC.seq ?_
    refine WC.region ?_
    refine WL.lv rfl (LV.loadAgg (cs := [(.int .i64 s0), (.int .i64 s1), (.float .f64 r2), (.float .f64 r3), (.int .i64 s4), (.int .i64 s5)]) Try.underlying38 rfl ti38 rfl rfl (Blk.agg (SH.at hS40 (.head _)) _ (KB.refl No _))) ?_
    have hS42 : SH w No w26 [blkE b1 38 #[(.int .i64 0), (.int .i64 0), (.float .f64 0), (.float .f64 0), (.int .i64 0), (.int .i64 0)], blkE b2 38 #[(.int .i64 s0), (.int .i64 s1), (.float .f64 r2), (.float .f64 r3), (.int .i64 s4), (.int .i64 s5)], rowE eF 34 (.slice A_shares shares.length c_shares) shares] := (SH.front [_, _] hS40)
    refine WL.xse rfl (XSE.blkAgg #[(.int .i64 s0), (.int .i64 s1), (.float .f64 r2), (.float .f64 r3), (.int .i64 s4), (.int .i64 s5)] hS42 (by kernel_rfl) rfl (by kernel_rfl) rfl rfl) ?_
    rintro w27 ⟨hS41, hk22⟩
    refine WL.nil (thenQ.n ?_)
    refine WC.ret (?_)
    exact ⟨_, fun a ha => resC rfl ha rfl Try.underlying38 rfl ti38 rfl (Blk.agg (SH.at hS41 (.head _)) _ (KB.refl No _)), r2, r3, (by rw [show s0 = SI l by rw [q1, List.take_of_length_le (by omega)], show s1 = SO l by rw [q2, List.take_of_length_le (by omega)], show s4 = PKF l l.length by rw [q3]; congr 1; omega, show s5 = QT l by rw [q4, List.take_of_length_le (by omega)]]), (by rw [← hq5_]; exact hmf_.1), hmf_.2, (by rw [← hq5_]; exact hdf_.1), hdf_.2, hS41.kb⟩

theorem ssame_calls {w : World} {a0 : Int} {a1 : Int} {a2 : Nat} {a3 : Nat} {a4 : Int} {a5 : Int} {b0 : Int} {b1 : Int} {b2 : Nat} {b3 : Nat} {b4 : Int} {b5 : Int} (ha2 : a2 < 18446744073709551616) (ha3 : a3 < 18446744073709551616) (hb2 : b2 < 18446744073709551616) (hb3 : b3 < 18446744073709551616) :
    Calls Try.prog 13 #[(.agg #[(.int .i64 a0), (.int .i64 a1), (.float .f64 a2), (.float .f64 a3), (.int .i64 a4), (.int .i64 a5)]), (.agg #[(.int .i64 b0), (.int .i64 b1), (.float .f64 b2), (.float .f64 b3), (.int .i64 b4), (.int .i64 b5)])] w fun e w' => ∃ v, e = .returned v ∧ (fun v w' => (v = .bool (decide (a0 = b0 ∧ a1 = b1 ∧ a4 = b4 ∧ a5 = b5 ∧ tk a2 = tk b2 ∧ tk a3 = tk b3))) ∧ KB No w w') v w' := by
  have hS : SH w No w [] := SH.nil _ _
  refine calls (l := litOf [(.agg #[(.int .i64 a0), (.int .i64 a1), (.float .f64 a2), (.float .f64 a3), (.int .i64 a4), (.int .i64 a5)]), (.agg #[(.int .i64 b0), (.int .i64 b1), (.float .f64 b2), (.float .f64 b3), (.int .i64 b4), (.int .i64 b5)])] 0) Try.func13 rfl (n := 45) rfl (Nat.le_of_ble_eq_true rfl) (lit_args _) ?_
  refine WC.seq ?_
  refine WC.region ?_
  refine WL.xe rfl (XE.box #[(.int .i64 a0), (.int .i64 a1), (.float .f64 a2), (.float .f64 a3), (.int .i64 a4), (.int .i64 a5)] hS rfl rfl) ?_
  rintro _ w1 ⟨b6, rfl, hS1, hk1⟩
  refine WL.xe rfl (XE.box #[(.int .i64 b0), (.int .i64 b1), (.float .f64 b2), (.float .f64 b3), (.int .i64 b4), (.int .i64 b5)] hS1 rfl rfl) ?_
  rintro _ w2 ⟨b7, rfl, hS2, hk2⟩
  refine WL.lv rfl (LV.asg rfl) ?_
  refine WL.nil (thenQ.n ?_)
  refine WC.seq ?_
  refine WC.region ?_
  refine WL.lv rfl (LV.fieldA Try.underlying38 rfl ti3.sz rfl) ?_
  refine WL.lv rfl (LV.load1 Try.underlying3 rfl rfl (Blk.cellN (SH.at hS2 (.tail _ (.head _))) 0 rfl _ (KB.refl No _))) ?_
  refine WL.lv rfl (LV.fieldA Try.underlying38 rfl ti3.sz rfl) ?_
  refine WL.lv rfl (LV.load1 Try.underlying3 rfl rfl (Blk.cellN (SH.at hS2 (.head _)) 0 rfl _ (KB.refl No _))) ?_
  rcases Decidable.em (a0 = b0) with hg1 | hg1
  · refine WL.lv rfl (LV.as (LV.eqI rfl rfl) (decide_eq_true hg1)) ?_
    refine WL.lv rfl (LV.mv rfl) ?_
    refine WL.lv rfl (LV.fieldA Try.underlying38 rfl ti3.sz rfl) ?_
    refine WL.lv rfl (LV.load1 Try.underlying3 rfl rfl (Blk.cellN (SH.at hS2 (.tail _ (.head _))) 1 rfl _ (KB.refl No _))) ?_
    refine WL.lv rfl (LV.fieldA Try.underlying38 rfl ti3.sz rfl) ?_
    refine WL.lv rfl (LV.load1 Try.underlying3 rfl rfl (Blk.cellN (SH.at hS2 (.head _)) 1 rfl _ (KB.refl No _))) ?_
    rcases Decidable.em (a1 = b1) with hg2 | hg2
    · refine WL.lv rfl (LV.as (LV.eqI rfl rfl) (decide_eq_true hg2)) ?_
      refine WL.lv rfl (LV.pickT rfl rfl) ?_
      refine WL.lv rfl (LV.mv rfl) ?_
      refine WL.lv rfl (LV.fieldA Try.underlying38 rfl ti3.sz rfl) ?_
      refine WL.lv rfl (LV.load1 Try.underlying3 rfl rfl (Blk.cellN (SH.at hS2 (.tail _ (.head _))) 4 rfl _ (KB.refl No _))) ?_
      refine WL.lv rfl (LV.fieldA Try.underlying38 rfl ti3.sz rfl) ?_
      refine WL.lv rfl (LV.load1 Try.underlying3 rfl rfl (Blk.cellN (SH.at hS2 (.head _)) 4 rfl _ (KB.refl No _))) ?_
      rcases Decidable.em (a4 = b4) with hg3 | hg3
      · refine WL.lv rfl (LV.as (LV.eqI rfl rfl) (decide_eq_true hg3)) ?_
        refine WL.lv rfl (LV.pickT rfl rfl) ?_
        refine WL.lv rfl (LV.mv rfl) ?_
        refine WL.lv rfl (LV.fieldA Try.underlying38 rfl ti3.sz rfl) ?_
        refine WL.lv rfl (LV.load1 Try.underlying3 rfl rfl (Blk.cellN (SH.at hS2 (.tail _ (.head _))) 5 rfl _ (KB.refl No _))) ?_
        refine WL.lv rfl (LV.fieldA Try.underlying38 rfl ti3.sz rfl) ?_
        refine WL.lv rfl (LV.load1 Try.underlying3 rfl rfl (Blk.cellN (SH.at hS2 (.head _)) 5 rfl _ (KB.refl No _))) ?_
        rcases Decidable.em (a5 = b5) with hg4 | hg4
        · refine WL.lv rfl (LV.as (LV.eqI rfl rfl) (decide_eq_true hg4)) ?_
          refine WL.lv rfl (LV.pickT rfl rfl) ?_
          refine WL.lv rfl (LV.mv rfl) ?_
          refine WL.lv rfl (LV.fieldA Try.underlying38 rfl ti34.sz rfl) ?_
          refine WL.lv rfl (LV.load1 Try.underlying34 rfl rfl (Blk.cellN (SH.at hS2 (.tail _ (.head _))) 2 rfl _ (KB.refl No _))) ?_
          refine WL.lv rfl (LV.fieldA Try.underlying38 rfl ti34.sz rfl) ?_
          refine WL.lv rfl (LV.load1 Try.underlying34 rfl rfl (Blk.cellN (SH.at hS2 (.head _)) 2 rfl _ (KB.refl No _))) ?_
          rcases Decidable.em (tk a2 = tk b2) with hg5 | hg5
          · refine WL.call rfl (XC.fn Try.func10 (by kernel_rfl) rfl rfl rfl) (Calls.asB (fsame_calls (a := a2) (b := b2) (by first | assumption | omega | exact hp _ (getD_mem (by omega)) | exact hpz _ (getD_mem (by omega))) (by first | assumption | omega | exact hp _ (getD_mem (by omega)) | exact hpz _ (getD_mem (by omega)))) (decide_eq_true (hg5))) ?_
            rintro v_ w3 ⟨rfl, hk3⟩
            have hS3 := SH.same hS2 hk3
            refine WL.lv rfl (LV.pickT rfl rfl) ?_
            refine WL.lv rfl (LV.mv rfl) ?_
            refine WL.lv rfl (LV.fieldA Try.underlying38 rfl ti34.sz rfl) ?_
            refine WL.lv rfl (LV.load1 Try.underlying34 rfl rfl (Blk.cellN (SH.at hS3 (.tail _ (.head _))) 3 rfl _ (KB.refl No _))) ?_
            refine WL.lv rfl (LV.fieldA Try.underlying38 rfl ti34.sz rfl) ?_
            refine WL.lv rfl (LV.load1 Try.underlying34 rfl rfl (Blk.cellN (SH.at hS3 (.head _)) 3 rfl _ (KB.refl No _))) ?_
            refine WL.call rfl (XC.fn Try.func10 (by kernel_rfl) rfl rfl rfl) (fsame_calls (a := a3) (b := b3) (by first | assumption | omega | exact hp _ (getD_mem (by omega)) | exact hpz _ (getD_mem (by omega))) (by first | assumption | omega | exact hp _ (getD_mem (by omega)) | exact hpz _ (getD_mem (by omega)))) ?_
            rintro v_ w4 ⟨rfl, hk4⟩
            have hS4 := SH.same hS3 hk4
            refine WL.lv rfl (LV.pickT rfl rfl) ?_
            refine WL.lv rfl (LV.asg rfl) ?_
            refine WL.nil (thenQ.n ?_)
            refine WC.ret (?_)
            exact ⟨_, fun a ha => res1 rfl ha rfl, congrArg Value.bool (decide_eq_decide.2 (by omega)), hS4.kb⟩
          · refine WL.call rfl (XC.fn Try.func10 (by kernel_rfl) rfl rfl rfl) (Calls.asB (fsame_calls (a := a2) (b := b2) (by first | assumption | omega | exact hp _ (getD_mem (by omega)) | exact hpz _ (getD_mem (by omega))) (by first | assumption | omega | exact hp _ (getD_mem (by omega)) | exact hpz _ (getD_mem (by omega)))) (decide_eq_false (hg5))) ?_
            rintro v_ w5 ⟨rfl, hk5⟩
            have hS5 := SH.same hS2 hk5
            refine WL.lv rfl (LV.pickT rfl rfl) ?_
            refine WL.lv rfl (LV.mv rfl) ?_
            iterate 5 refine WL.off rfl ?_
            refine WL.lv rfl (LV.pickF rfl rfl) ?_
            refine WL.lv rfl (LV.asg rfl) ?_
            refine WL.nil (thenQ.n ?_)
            refine WC.ret (?_)
            exact ⟨_, fun a ha => res1 rfl ha rfl, congrArg Value.bool ((decide_eq_false (by omega)).symm), hS5.kb⟩
        · refine WL.lv rfl (LV.as (LV.eqI rfl rfl) (decide_eq_false hg4)) ?_
          refine WL.lv rfl (LV.pickT rfl rfl) ?_
          refine WL.lv rfl (LV.mv rfl) ?_
          iterate 5 refine WL.off rfl ?_
          refine WL.lv rfl (LV.pickF rfl rfl) ?_
          refine WL.lv rfl (LV.mv rfl) ?_
          iterate 5 refine WL.off rfl ?_
          refine WL.lv rfl (LV.pickF rfl rfl) ?_
          refine WL.lv rfl (LV.asg rfl) ?_
          refine WL.nil (thenQ.n ?_)
          refine WC.ret (?_)
          exact ⟨_, fun a ha => res1 rfl ha rfl, congrArg Value.bool ((decide_eq_false (by omega)).symm), hS2.kb⟩
      · refine WL.lv rfl (LV.as (LV.eqI rfl rfl) (decide_eq_false hg3)) ?_
        refine WL.lv rfl (LV.pickT rfl rfl) ?_
        refine WL.lv rfl (LV.mv rfl) ?_
        iterate 5 refine WL.off rfl ?_
        refine WL.lv rfl (LV.pickF rfl rfl) ?_
        refine WL.lv rfl (LV.mv rfl) ?_
        iterate 5 refine WL.off rfl ?_
        refine WL.lv rfl (LV.pickF rfl rfl) ?_
        refine WL.lv rfl (LV.mv rfl) ?_
        iterate 5 refine WL.off rfl ?_
        refine WL.lv rfl (LV.pickF rfl rfl) ?_
        refine WL.lv rfl (LV.asg rfl) ?_
        refine WL.nil (thenQ.n ?_)
        refine WC.ret (?_)
        exact ⟨_, fun a ha => res1 rfl ha rfl, congrArg Value.bool ((decide_eq_false (by omega)).symm), hS2.kb⟩
    · refine WL.lv rfl (LV.as (LV.eqI rfl rfl) (decide_eq_false hg2)) ?_
      refine WL.lv rfl (LV.pickT rfl rfl) ?_
      refine WL.lv rfl (LV.mv rfl) ?_
      iterate 5 refine WL.off rfl ?_
      refine WL.lv rfl (LV.pickF rfl rfl) ?_
      refine WL.lv rfl (LV.mv rfl) ?_
      iterate 5 refine WL.off rfl ?_
      refine WL.lv rfl (LV.pickF rfl rfl) ?_
      refine WL.lv rfl (LV.mv rfl) ?_
      iterate 5 refine WL.off rfl ?_
      refine WL.lv rfl (LV.pickF rfl rfl) ?_
      refine WL.lv rfl (LV.mv rfl) ?_
      iterate 5 refine WL.off rfl ?_
      refine WL.lv rfl (LV.pickF rfl rfl) ?_
      refine WL.lv rfl (LV.asg rfl) ?_
      refine WL.nil (thenQ.n ?_)
      refine WC.ret (?_)
      exact ⟨_, fun a ha => res1 rfl ha rfl, congrArg Value.bool ((decide_eq_false (by omega)).symm), hS2.kb⟩
  · refine WL.lv rfl (LV.as (LV.eqI rfl rfl) (decide_eq_false hg1)) ?_
    refine WL.lv rfl (LV.mv rfl) ?_
    iterate 5 refine WL.off rfl ?_
    refine WL.lv rfl (LV.pickF rfl rfl) ?_
    refine WL.lv rfl (LV.mv rfl) ?_
    iterate 5 refine WL.off rfl ?_
    refine WL.lv rfl (LV.pickF rfl rfl) ?_
    refine WL.lv rfl (LV.mv rfl) ?_
    iterate 5 refine WL.off rfl ?_
    refine WL.lv rfl (LV.pickF rfl rfl) ?_
    refine WL.lv rfl (LV.mv rfl) ?_
    iterate 5 refine WL.off rfl ?_
    refine WL.lv rfl (LV.pickF rfl rfl) ?_
    refine WL.lv rfl (LV.mv rfl) ?_
    iterate 5 refine WL.off rfl ?_
    refine WL.lv rfl (LV.pickF rfl rfl) ?_
    refine WL.lv rfl (LV.asg rfl) ?_
    refine WL.nil (thenQ.n ?_)
    refine WC.ret (?_)
    exact ⟨_, fun a ha => res1 rfl ha rfl, congrArg Value.bool ((decide_eq_false (by omega)).symm), hS2.kb⟩

theorem most_calls {w : World} {A_l : Option Addr} {n_l c_l : Nat} {l : List (Int × Int)} (h_l : St No w (Rd eP (.slice A_l n_l c_l) l)) (hn_l : l.length = n_l) (hw : ∀ c ∈ l, RGT c) :
    Calls Try.prog 34 #[(.slice A_l n_l c_l)] w fun e w' => ∃ v, e = .returned v ∧ (fun v w' => v = .int .i64 (MST l) ∧ KB No w w') v w' := by
  subst hn_l
  have hma := Rd.max h_l.now
  have hS : SH w No w [] := SH.nil _ _
  refine calls (l := litOf [(.slice A_l l.length c_l)] 0) Try.func34 rfl (n := 21) rfl (Nat.le_of_ble_eq_true rfl) (lit_args _) ?_
  refine WC.seq ?_
  refine WC.region ?_
  refine WL.lv rfl (LV.asg rfl) ?_
  refine WL.nil (thenQ.n ?_)
  refine WC.seq ?_
  refine WC.region ?_
  refine WL.lv rfl (LV.asg rfl) ?_
  refine WL.nil (thenQ.n ?_)
  iterate 2 refine WC.seq ?_
  refine WC.region ?_
  refine WL.lv rfl (LV.mv rfl) ?_
  refine WL.lv rfl (LV.lenL Try.underlying25 rfl) ?_
  refine WL.lv rfl (LV.mv rfl) ?_
  refine WL.nil (thenQ.n ?_)
  refine WC.block ?_
  refine WC.loop (fun m_ f_ w_ => ∃ (n : Int) (ix : Int), (0 ≤ ix) ∧ (ix ≤ (l.length : Int)) ∧ (n = MST (l.take ix.toNat)) ∧ (0 ≤ n ∧ n ≤ 4294967294) ∧ SH w No w_ [] ∧ m_ = (((l.length : Int) - ix).toNat) ∧ Weak (lit [(3, (.int .i64 n)), (6, (.slice A_l l.length c_l)), (7, (.int .i64 (l.length : Int))), (8, (.int .i64 ix))]) f_) _ ⟨0, 0, by omega, by omega, rfl, by omega, hS, rfl, Weak.cons rfl <| Weak.cons rfl <| Weak.cons rfl <| Weak.cons rfl <| Weak.nil _⟩ ?_
  rintro m1 f1 w1 ⟨n, ix, ixlo, ixhi, q1, q2, hL1, rfl, hw1⟩
  refine WC.weak hw1 ?_
  clear hw1
  refine WC.seq ?_
  refine WC.region ?_
  refine WL.lv rfl (LV.ltI rfl rfl) ?_
  refine WL.nil (thenQ.n ?_)
  refine WC.seq ?_
  refine WC.condP (p := ix < (l.length : Int)) rfl (fun hk => ?_) (fun hk => ?_)
  · have hwi_ := hw (l.getD ix.toNat (0, 0)) (getD_mem (by omega))
    have hr1_ := hwi_.1.1
    have hr2_ := hwi_.1.2
    have hr3_ := hwi_.2.1
    have hr4_ := hwi_.2.2
    refine WC.skip (thenQ.n ?_)
    refine WC.seq ?_
    refine WC.block ?_
    refine WC.seq ?_
    refine WC.region ?_
    obtain ⟨A1, c1, e1, g1⟩ := St.elt (SH.stN hL1 h_l) (0, 0) ix (by omega) (by omega)
    refine WL.lv rfl (LV.idxA Try.underlying25 ti30.sz rfl e1 rfl (by omega) (by omega)) ?_
    refine WL.lv rfl (LV.loadAgg (cs := [(.int .i64 ((l.getD (ix).toNat (0, 0)).1)), (.int .i64 ((l.getD (ix).toNat (0, 0)).2))]) Try.underlying30 rfl ti30 rfl rfl (fun j u hu => g1 _ (KB.refl No _) j u hu)) ?_
    refine WL.xe rfl (XE.alloc #[(.int .i64 0), (.int .i64 0)] hL1 ti30 rfl) ?_
    rintro _ w2 ⟨b1, rfl, hS1, hk1⟩
    refine WL.xse rfl (XSE.blkAgg #[(.int .i64 ((l.getD (ix).toNat (0, 0)).1)), (.int .i64 ((l.getD (ix).toNat (0, 0)).2))] hS1 (by kernel_rfl) rfl (by kernel_rfl) rfl rfl) ?_
    rintro w3 ⟨hS2, hk2⟩
    refine WL.nil (thenQ.n ?_)
    refine WC.region ?_
    refine WL.lv rfl (LV.mv rfl) ?_
    refine WL.lv rfl (LV.fieldA Try.underlying30 rfl ti3.sz rfl) ?_
    refine WL.lv rfl (LV.load1 Try.underlying3 rfl rfl (Blk.cellN (SH.at hS2 (.head _)) 0 rfl _ (KB.refl No _))) ?_
    refine WL.lv rfl (LV.fieldA Try.underlying30 rfl ti3.sz rfl) ?_
    refine WL.lv rfl (LV.load1 Try.underlying3 rfl rfl (Blk.cellN (SH.at hS2 (.head _)) 1 rfl _ (KB.refl No _))) ?_
    refine WL.lv rfl (LV.add rfl rfl (wr64 (by omega) (by omega))) ?_
    refine WL.lv rfl (LV.maxI rfl rfl) ?_
    refine WL.lv rfl (LV.asg rfl) ?_
    refine WL.nil (blockQ.n <| thenQ.n ?_)
    refine WC.region ?_
    refine WL.lv rfl (LV.add rfl rfl (wr64 (by omega) (by omega))) ?_
    refine WL.lv rfl (LV.mv rfl) ?_
    refine WL.nil (thenQ.n ?_)
    have hS3 : SH w No w3 [] := (SH.take 0 rfl hS2)
    exact ⟨_, by omega, max n (((l.getD (ix).toNat (0, 0)).1) + ((l.getD (ix).toNat (0, 0)).2)), ix + 1, by omega, by omega, (by rw [MST_at ixlo hk, ← q1]), by omega, hS3, rfl, Weak.cons rfl <| Weak.cons rfl <| Weak.cons rfl <| Weak.cons rfl <| Weak.nil _⟩
  · skip
    refine WC.exit (thenQ.x <| thenQ.x <| blockQ.hit <| thenQ.n ?_)
    refine WC.seq ?_
    refine WC.region ?_
    refine WL.lv rfl (LV.mv rfl) ?_
    refine WL.lv rfl (LV.asg rfl) ?_
    refine WL.nil (thenQ.n ?_)
    refine WC.ret (?_)
    exact ⟨_, fun a ha => res1 rfl ha rfl, congrArg (Value.int .i64) (by rw [q1, List.take_of_length_le (by omega)]), hL1.kb⟩

end Go.Proofs.Ytomeffnlmefnlaa
