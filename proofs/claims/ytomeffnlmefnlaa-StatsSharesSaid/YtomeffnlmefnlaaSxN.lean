/- One sign again and again. -/
import Derived.Test.YtomeffnlmefnlaaSxJ
import Derived.Test.YtomeffnlmefnlaaRpA
import Derived.Test.YtomeffnlmefnlaaScO
namespace Go.Proofs.Ytomeffnlmefnlaa
open Go Go.Gv Go.RowKit Go.Shelf Go.Rpt Go.Dec
set_option linter.unusedVariables false
set_option linter.unusedSimpArgs false

theorem grow_calls {w : World} {S : Nat → Prop} {b n : Nat} (hS0 : SH w S w [blkE b 91 #[(.pointer (some ⟨b, 0, none⟩)), (.slice none 0 0)]]) (hn : n ≤ 100000) :
    Calls Try.prog 70 #[(.pointer (some ⟨b, 0, none⟩)), (.int .i64 (n : Int))] w fun e w' => ∃ v, e = .returned v ∧ (fun v w' => ∃ (A' : Option Addr) (c' : Nat), v = .tuple #[] ∧ SH w S w' [blkE b 91 #[.pointer (some ⟨b, 0, none⟩), .slice A' 0 c'], rowE eU8 5 (.slice A' 0 c') []]) v w' := by
  have hS : SH w S w [blkE b 91 #[(.pointer (some ⟨b, 0, none⟩)), (.slice none 0 0)]] := hS0
  refine calls (l := litOf [(.pointer (some ⟨b, 0, none⟩)), (.int .i64 (n : Int))] 0) Try.func70 rfl (n := 30) rfl (Nat.le_of_ble_eq_true rfl) (lit_args _) ?_
  refine WC.seq ?_
  have hS1 := SH.drew hS
  refine WC.regionD [] (fun w_ => KB No w.drew w_) [(.pure, 0), (.pure, 1), (.pure, 2), (.look, 3), (.pure, 4), (.pure, 5), (.pure, 6), (.pure, 7), (.pure, 9), (.pure, 10), (.pure, 11), (.look, 12), (.pure, 13), (.forced, 8), (.pure, 14), (.pure, 15)] (by kernel_rfl) (by kernel_rfl) (KB.refl _ _) ?_
  refine WS.pure rfl rfl (fun _ => LV.mv rfl) ?_
  refine WS.pure rfl rfl (fun _ => LV.nilCheck rfl) ?_
  refine WS.pure rfl rfl (fun _ => LV.fieldA Try.underlying91 rfl ti53.sz rfl) ?_
  refine WS.look rfl rfl (fun _ hk_ => LV.load1 Try.underlying53 rfl rfl (Blk.cellN (SH.at hS1 (.head _)) 1 rfl _ hk_)) ?_
  refine WS.pure rfl rfl (fun _ => LV.capL Try.underlying53 rfl) ?_
  refine WS.pure rfl rfl (fun _ => LV.mul (c := 0) rfl rfl (by decide)) ?_
  refine WS.pure rfl rfl (fun _ => LV.mv rfl) ?_
  refine WS.pure rfl rfl (fun _ => LV.add rfl rfl (wr64 (by omega) (by omega))) ?_
  refine WS.pure rfl rfl (fun _ => LV.mv rfl) ?_
  refine WS.pure rfl rfl (fun _ => LV.nilCheck rfl) ?_
  refine WS.pure rfl rfl (fun _ => LV.fieldA Try.underlying91 rfl ti53.sz rfl) ?_
  refine WS.look rfl rfl (fun _ hk_ => LV.load1 Try.underlying53 rfl rfl (Blk.cellN (SH.at hS1 (.head _)) 1 rfl _ hk_)) ?_
  refine WS.pure rfl rfl (fun _ => LV.lenL Try.underlying53 rfl) ?_
  refine WS.xe rfl rfl (XE.mkNoZero (n := (0 + (n : Int)).toNat) (qs := #[3]) hS1 Try.func78 (by kernel_rfl) (by kernel_rfl) (by kernel_rfl) (by kernel_rfl) Try.underlying53 rfl (by rw [Int.toNat_of_nonneg (by omega)]; rfl) (by omega)) ?_
  rintro _ w1 ⟨b1, c1, rfl, hcp1, hS2, hk1⟩
  refine ⟨fun h_ => (KB.transN (KB.refl _ _) hk1), ?_⟩
  refine WS.pure rfl rfl (fun _ => LV.to (v := .slice (if c1 = 0 then ((some ⟨b1, 0, none⟩) : Option Addr) else Option.map (fun a_ : Addr => a_.add (0 * 1)) (some ⟨b1, 0, none⟩)) (0 - 0) (c1 - 0)) (v' := (.slice (some ⟨b1, 0, none⟩) 0 c1)) (by simp [Addr.add]) (LV.cut (h := 0) Try.underlying53 ti5.sz rfl rfl rfl rfl ⟨.inl ⟨rfl, rfl⟩, .inr ⟨.i64, rfl⟩, .inl ⟨rfl, rfl⟩⟩ (by omega) (by omega) (by omega))) ?_
  refine WS.pure rfl rfl (fun _ => LV.asg rfl) ?_
  refine WS.nil (thenQ.n ?_)
  refine WC.seq ?_
  refine WC.region ?_
  iterate 2 refine WL.lv rfl (LV.mv rfl) ?_
  refine WL.lv rfl (LV.nilCheck rfl) ?_
  refine WL.lv rfl (LV.fieldA Try.underlying91 rfl ti53.sz rfl) ?_
  refine WL.lv rfl (LV.load1 Try.underlying53 rfl rfl (Blk.cellN (SH.at hS2 (.tail _ (.head _))) 1 rfl _ (KB.refl No _))) ?_
  refine WL.xe rfl (XE.copy hS2 Try.underlying53 ti5.sz rfl (St.now (Rd.stN Rd.nil)) (by simp) rfl rfl) ?_
  rintro _ w2 ⟨rfl, hS3, hk2⟩
  refine WL.nil (thenQ.n ?_)
  refine WC.region ?_
  iterate 2 refine WL.lv rfl (LV.mv rfl) ?_
  refine WL.lv rfl (LV.nilCheck rfl) ?_
  refine WL.lv rfl (LV.fieldA Try.underlying91 rfl ti53.sz rfl) ?_
  have hS5 : SH w S w2 [blkE b 91 #[(.pointer (some ⟨b, 0, none⟩)), (.slice none 0 0)], rowE eU8 5 (.slice (some ⟨b1, 0, none⟩) 0 c1) []] := (SH.front [_] hS3)
  refine WL.xse rfl (XSE.blk #[(.pointer (some ⟨b, 0, none⟩)), (.slice (some ⟨b1, 0, none⟩) 0 c1)] hS5 (Nat.le_of_ble_eq_true rfl) ti53.sz rfl rfl rfl rfl) ?_
  rintro w3 ⟨hS4, hk3⟩
  refine WL.nil (?_)
  exact ⟨_, fun a ha => res0 rfl, _, _, rfl, hS4⟩

theorem Grow_calls {w : World} {S : Nat → Prop} {b n : Nat} {p : Value} (hp : BP p b) (hS0 : SH w S w [blkE b 91 #[p, (.slice none 0 0)]]) (hn0 : 0 < n) (hn : n ≤ 100000) :
    Calls Try.prog 50 #[(.pointer (some ⟨b, 0, none⟩)), (.int .i64 (n : Int))] w fun e w' => ∃ v, e = .returned v ∧ (fun v w' => ∃ (A' : Option Addr) (c' : Nat), v = .tuple #[] ∧ SH w S w' [blkE b 91 #[.pointer (some ⟨b, 0, none⟩), .slice A' 0 c'], rowE eU8 5 (.slice A' 0 c') []]) v w' := by
  have hS : SH w S w [blkE b 91 #[p, (.slice none 0 0)]] := hS0
  refine calls (l := litOf [(.pointer (some ⟨b, 0, none⟩)), (.int .i64 (n : Int))] 0) Try.func50 rfl (n := 25) rfl (Nat.le_of_ble_eq_true rfl) (lit_args _) ?_
  refine WC.seq ?_
  refine WC.region ?_
  refine WL.lv rfl (LV.mv rfl) ?_
  have hT1 := SH.sub (Es := [_]) hS
  refine WL.call rfl (XC.fn Try.func69 (by kernel_rfl) rfl rfl rfl) (ccT_calls (hp) hT1) ?_
  rintro v_ w1 ⟨rfl, hU1⟩
  have hS1 := SH.back (Es := [_]) hS hU1
  refine WL.nil (thenQ.n ?_)
  iterate 2 refine WC.seq ?_
  refine WC.region ?_
  refine WL.lv rfl (LV.mv rfl) ?_
  refine WL.lv rfl (LV.ltI rfl rfl) ?_
  refine WL.nil (thenQ.n ?_)
  refine WC.condP (p := (n : Int) < 0) rfl (fun hc1 => ?_) (fun hc1 => ?_)
  · exfalso; omega
  · skip
    refine WC.skip (thenQ.n ?_)
    refine WC.seq ?_
    have hS2 := SH.drew hS1
    refine WC.regionD [] (fun w_ => KB No w1.drew w_) [(.pure, 0), (.pure, 1), (.pure, 2), (.look, 3), (.pure, 4), (.pure, 5), (.pure, 6), (.pure, 7), (.look, 8), (.pure, 9), (.pure, 10), (.pure, 11), (.pure, 12)] (by kernel_rfl) (by kernel_rfl) (KB.refl _ _) ?_
    refine WS.pure rfl rfl (fun _ => LV.mv rfl) ?_
    refine WS.pure rfl rfl (fun _ => LV.nilCheck rfl) ?_
    refine WS.pure rfl rfl (fun _ => LV.fieldA Try.underlying91 rfl ti53.sz rfl) ?_
    refine WS.look rfl rfl (fun _ hk_ => LV.load1 Try.underlying53 rfl rfl (Blk.cellN (SH.at hS2 (.head _)) 1 rfl _ hk_)) ?_
    refine WS.pure rfl rfl (fun _ => LV.capL Try.underlying53 rfl) ?_
    refine WS.pure rfl rfl (fun _ => LV.mv rfl) ?_
    refine WS.pure rfl rfl (fun _ => LV.nilCheck rfl) ?_
    refine WS.pure rfl rfl (fun _ => LV.fieldA Try.underlying91 rfl ti53.sz rfl) ?_
    refine WS.look rfl rfl (fun _ hk_ => LV.load1 Try.underlying53 rfl rfl (Blk.cellN (SH.at hS2 (.head _)) 1 rfl _ hk_)) ?_
    refine WS.pure rfl rfl (fun _ => LV.lenL Try.underlying53 rfl) ?_
    refine WS.pure rfl rfl (fun _ => LV.sub (c := 0) rfl rfl (by decide)) ?_
    refine WS.pure rfl rfl (fun _ => LV.mv rfl) ?_
    refine WS.pure rfl rfl (fun _ => LV.ltI rfl rfl) ?_
    refine WS.nil (thenQ.n ?_)
    refine WC.condP (p := 0 < (n : Int)) rfl (fun hc2 => ?_) (fun hc2 => ?_)
    · skip
      refine WC.region ?_
      iterate 2 refine WL.lv rfl (LV.mv rfl) ?_
      have hT2 := SH.sub (Es := [_]) hS2
      refine WL.call rfl (XC.fn Try.func70 (by kernel_rfl) rfl rfl rfl) (grow_calls (n := n) hT2 (by omega)) ?_
      rintro v_ w2 ⟨A1, c1, rfl, hU2⟩
      have hS3 := SH.back (Es := [_]) hS2 hU2
      refine WL.nil (?_)
      exact ⟨_, fun a ha => res0 rfl, _, _, rfl, hS3⟩
    · exfalso; omega

theorem wsF_calls {w : World} {S : Nat → Prop} {b : Nat} {A : Option Addr} {c : Nat} {t s : ByteArray} (hS0 : SH w S w [blkE b 91 #[(.pointer (some ⟨b, 0, none⟩)), (.slice A ((bytesOf t).length) c)], rowF 5 (.slice A ((bytesOf t).length) c) (bytesOf t)]) (hl : t.size + s.size ≤ 100000000) :
    Calls Try.prog 51 #[(.pointer (some ⟨b, 0, none⟩)), (.string s)] w fun e w' => ∃ v, e = .returned v ∧ (fun v w' => ∃ (A' : Option Addr) (c' : Nat), v = .tuple #[.int .i64 s.size, .nilIface] ∧ SH w S w' [blkE b 91 #[(.pointer (some ⟨b, 0, none⟩)), (.slice A' ((bytesOf (t ++ s)).length) c')], rowF 5 (.slice A' ((bytesOf (t ++ s)).length) c') (bytesOf (t ++ s))]) v w' := by
  have hbl_ := bytesOf_len t
  have hS : SH w S w [blkE b 91 #[(.pointer (some ⟨b, 0, none⟩)), (.slice A ((bytesOf t).length) c)], rowF 5 (.slice A ((bytesOf t).length) c) (bytesOf t)] := hS0
  refine calls (l := litOf [(.pointer (some ⟨b, 0, none⟩)), (.string s)] 0) Try.func51 rfl (n := 19) rfl (Nat.le_of_ble_eq_true rfl) (lit_args _) ?_
  refine WC.seq ?_
  refine WC.region ?_
  iterate 2 refine WL.lv rfl (LV.asg rfl) ?_
  refine WL.nil (thenQ.n ?_)
  refine WC.seq ?_
  refine WC.region ?_
  refine WL.lv rfl (LV.mv rfl) ?_
  have hT1 := SH.sub (Es := [_]) hS
  refine WL.call rfl (XC.fn Try.func69 (by kernel_rfl) rfl rfl rfl) (ccT_calls (.inr rfl) hT1) ?_
  rintro v_ w1 ⟨rfl, hU1⟩
  have hS1 := SH.back (Es := [_]) hS hU1
  refine WL.nil (thenQ.n ?_)
  refine WC.seq ?_
  refine WC.region ?_
  iterate 2 refine WL.lv rfl (LV.mv rfl) ?_
  refine WL.lv rfl (LV.nilCheck rfl) ?_
  refine WL.lv rfl (LV.fieldA Try.underlying91 rfl ti53.sz rfl) ?_
  refine WL.lv rfl (LV.load1 Try.underlying53 rfl rfl (Blk.cellN (SH.at hS1 (.head _)) 1 rfl _ (KB.refl No _))) ?_
  refine WL.lv rfl (LV.mv rfl) ?_
  have hS2 : SH w S w1 [rowF 5 (.slice A ((bytesOf t).length) c) (bytesOf t), blkE b 91 #[(.pointer (some ⟨b, 0, none⟩)), (.slice A ((bytesOf t).length) c)]] := (SH.front [_] hS1)
  refine WL.xe rfl (XE.appendSF hS2 Try.underlying53 Try.underlying9 ti5 rfl rfl (by omega)) ?_
  rintro _ w2 ⟨A1, c1, rfl, hS3, hk1⟩
  refine WL.lv rfl (LV.nilCheck rfl) ?_
  refine WL.lv rfl (LV.fieldA Try.underlying91 rfl ti53.sz rfl) ?_
  have hS5 : SH w S w2 [blkE b 91 #[(.pointer (some ⟨b, 0, none⟩)), (.slice A ((bytesOf t).length) c)], rowF 5 (.slice A1 (((bytesOf t) ++ bytesOf s).length) c1) ((bytesOf t) ++ bytesOf s)] := (SH.front [_] hS3)
  refine WL.xse rfl (XSE.blk #[(.pointer (some ⟨b, 0, none⟩)), (.slice A1 (((bytesOf t) ++ bytesOf s).length) c1)] hS5 (Nat.le_of_ble_eq_true rfl) ti53.sz rfl rfl rfl rfl) ?_
  rintro w3 ⟨hS4, hk2⟩
  refine WL.nil (thenQ.n ?_)
  refine WC.seq ?_
  refine WC.region ?_
  refine WL.lv rfl (LV.mv rfl) ?_
  refine WL.lv rfl (LV.lenS Try.underlying9 rfl) ?_
  iterate 2 refine WL.lv rfl (LV.asg rfl) ?_
  refine WL.nil (thenQ.n ?_)
  refine WC.ret (?_)
  exact ⟨_, fun a ha => res2 rfl ha rfl rfl, (by rw [bytesOf_app]; exact ⟨_, _, rfl, hS4⟩)⟩

theorem lenF_calls {w : World} {S : Nat → Prop} {b : Nat} {A : Option Addr} {c : Nat} {t : ByteArray} (hS0 : SH w S w [blkE b 91 #[(.pointer (some ⟨b, 0, none⟩)), (.slice A ((bytesOf t).length) c)], rowF 5 (.slice A ((bytesOf t).length) c) (bytesOf t)]) :
    Calls Try.prog 52 #[(.pointer (some ⟨b, 0, none⟩))] w fun e w' => ∃ v, e = .returned v ∧ (fun v w' => v = .int .i64 t.size ∧ SH w S w' [blkE b 91 #[(.pointer (some ⟨b, 0, none⟩)), (.slice A ((bytesOf (t)).length) c)], rowF 5 (.slice A ((bytesOf (t)).length) c) (bytesOf t)]) v w' := by
  have hS : SH w S w [blkE b 91 #[(.pointer (some ⟨b, 0, none⟩)), (.slice A ((bytesOf t).length) c)], rowF 5 (.slice A ((bytesOf t).length) c) (bytesOf t)] := hS0
  refine calls (l := litOf [(.pointer (some ⟨b, 0, none⟩))] 0) Try.func52 rfl (n := 8) rfl (Nat.le_of_ble_eq_true rfl) (lit_args _) ?_
  refine WC.seq ?_
  refine WC.region ?_
  refine WL.lv rfl (LV.asg rfl) ?_
  refine WL.nil (thenQ.n ?_)
  refine WC.seq ?_
  refine WC.region ?_
  refine WL.lv rfl (LV.mv rfl) ?_
  refine WL.lv rfl (LV.nilCheck rfl) ?_
  refine WL.lv rfl (LV.fieldA Try.underlying91 rfl ti53.sz rfl) ?_
  refine WL.lv rfl (LV.load1 Try.underlying53 rfl rfl (Blk.cellN (SH.at hS (.head _)) 1 rfl _ (KB.refl No _))) ?_
  refine WL.lv rfl (LV.lenL Try.underlying53 rfl) ?_
  refine WL.lv rfl (LV.asg rfl) ?_
  refine WL.nil (thenQ.n ?_)
  refine WC.ret (?_)
  exact ⟨_, fun a ha => res1 rfl ha rfl, congrArg (fun n_ : Nat => Value.int .i64 n_) (bytesOf_len t), hS⟩

theorem bsF_calls {w : World} {S : Nat → Prop} {b : Nat} {A : Option Addr} {c : Nat} {t : ByteArray} (hS0 : SH w S w [blkE b 91 #[(.pointer (some ⟨b, 0, none⟩)), (.slice A ((bytesOf t).length) c)], rowF 5 (.slice A ((bytesOf t).length) c) (bytesOf t)]) (h0 : 0 < t.size) :
    Calls Try.prog 53 #[(.pointer (some ⟨b, 0, none⟩))] w fun e w' => ∃ v, e = .returned v ∧ (fun v w' => v = .string t ∧ SH w S w' [blkE b 91 #[(.pointer (some ⟨b, 0, none⟩)), (.slice A ((bytesOf (t)).length) c)], rowF 5 (.slice A ((bytesOf (t)).length) c) (bytesOf t)]) v w' := by
  have hbl_ := bytesOf_len t
  have hS : SH w S w [blkE b 91 #[(.pointer (some ⟨b, 0, none⟩)), (.slice A ((bytesOf t).length) c)], rowF 5 (.slice A ((bytesOf t).length) c) (bytesOf t)] := hS0
  refine calls (l := litOf [(.pointer (some ⟨b, 0, none⟩))] 0) Try.func53 rfl (n := 14) rfl (Nat.le_of_ble_eq_true rfl) (lit_args _) ?_
  refine WC.seq ?_
  refine WC.region ?_
  refine WL.lv rfl (LV.asg rfl) ?_
  refine WL.nil (thenQ.n ?_)
  refine WC.seq ?_
  have hS1 := SH.drew hS
  refine WC.regionD [] (fun _ => True) [(.pure, 0), (.pure, 1), (.pure, 2), (.pure, 5), (.pure, 6), (.pure, 7), (.fork, 0), (.fork, 0), (.fork, 0), (.fork, 0), (.fork, 0), (.fork, 0)] (by kernel_rfl) (by kernel_rfl) trivial ?_
  refine WS.pure rfl rfl (fun _ => LV.mv rfl) ?_
  refine WS.pure rfl rfl (fun _ => LV.nilCheck rfl) ?_
  refine WS.pure rfl rfl (fun _ => LV.fieldA Try.underlying91 rfl ti53.sz rfl) ?_
  refine WS.pure rfl rfl (fun _ => LV.mv rfl) ?_
  refine WS.pure rfl rfl (fun _ => LV.nilCheck rfl) ?_
  refine WS.pure rfl rfl (fun _ => LV.fieldA Try.underlying91 rfl ti53.sz rfl) ?_
  refine WS.fork (WSX.two 3 8 (by kernel_rfl) ?_ ?_)
  · refine WO.lvT rfl rfl (LV.load1 Try.underlying53 rfl rfl (Blk.cellN (SH.at hS1 (.head _)) 1 rfl _ (KB.refl No _))) ?_
    refine WSX.of [(.fork, 0), (.fork, 0), (.fork, 0), (.fork, 0), (.fork, 0)] (by kernel_rfl) rfl ?_
    refine WS.fork (WSX.two 4 8 (by kernel_rfl) ?_ ?_)
    · have hS2 : SH w S w.drew [rowF 5 (.slice A ((bytesOf t).length) c) (bytesOf t), blkE b 91 #[(.pointer (some ⟨b, 0, none⟩)), (.slice A ((bytesOf t).length) c)]] := (SH.front [_] hS1)
      refine WO.xe rfl rfl (XE.usdF (s := t) hS2 rfl Try.underlying115) ?_
      rintro _ w1 ⟨ad1, rfl, hu1, hS3, hk1⟩
      refine ⟨fun h_ => trivial, ?_⟩
      refine WSX.of [(.forced, 8), (.pure, 9), (.forced, 10), (.pure, 11)] (by kernel_rfl) rfl ?_
      refine WS.lvT rfl rfl (LV.load1 Try.underlying53 rfl rfl (Blk.cellN (SH.at hS3 (.tail _ (.head _))) 1 rfl _ (KB.refl No _))) ?_
      refine WS.pure rfl rfl (fun _ => LV.lenL Try.underlying53 rfl) ?_
      refine WS.xe rfl rfl (XE.usF (s := t) hS3 (bytesOf_len _) (by omega) rfl rfl hu1 Try.underlying115 (by kernel_rfl)) ?_
      rintro _ w2 ⟨rfl, hS4, hk2⟩
      refine ⟨fun h_ => trivial, ?_⟩
      refine WS.pure rfl rfl (fun _ => LV.asg rfl) ?_
      refine WS.nil (thenQ.n ?_)
      refine WC.ret (?_)
      have hS5 : SH w S w2 [blkE b 91 #[(.pointer (some ⟨b, 0, none⟩)), (.slice A ((bytesOf t).length) c)], rowF 5 (.slice A ((bytesOf t).length) c) (bytesOf t)] := (SH.front [_] hS4)
      exact ⟨_, fun a ha => res1 rfl ha rfl, rfl, hS5⟩
    · refine WO.lvT rfl rfl (LV.load1 Try.underlying53 rfl rfl (Blk.cellN (SH.at hS1 (.head _)) 1 rfl _ (KB.refl No _))) ?_
      refine WSX.of [(.pure, 9), (.forced, 4), (.forced, 10), (.pure, 11)] (by kernel_rfl) rfl ?_
      refine WS.pure rfl rfl (fun _ => LV.lenL Try.underlying53 rfl) ?_
      have hS6 : SH w S w.drew [rowF 5 (.slice A ((bytesOf t).length) c) (bytesOf t), blkE b 91 #[(.pointer (some ⟨b, 0, none⟩)), (.slice A ((bytesOf t).length) c)]] := (SH.front [_] hS1)
      refine WS.xe rfl rfl (XE.usdF (s := t) hS6 rfl Try.underlying115) ?_
      rintro _ w3 ⟨ad2, rfl, hu2, hS7, hk3⟩
      refine ⟨fun h_ => trivial, ?_⟩
      refine WS.xe rfl rfl (XE.usF (s := t) hS7 (bytesOf_len _) (by omega) rfl rfl hu2 Try.underlying115 (by kernel_rfl)) ?_
      rintro _ w4 ⟨rfl, hS8, hk4⟩
      refine ⟨fun h_ => trivial, ?_⟩
      refine WS.pure rfl rfl (fun _ => LV.asg rfl) ?_
      refine WS.nil (thenQ.n ?_)
      refine WC.ret (?_)
      have hS9 : SH w S w4 [blkE b 91 #[(.pointer (some ⟨b, 0, none⟩)), (.slice A ((bytesOf t).length) c)], rowF 5 (.slice A ((bytesOf t).length) c) (bytesOf t)] := (SH.front [_] hS8)
      exact ⟨_, fun a ha => res1 rfl ha rfl, rfl, hS9⟩
  · refine WO.lvT rfl rfl (LV.load1 Try.underlying53 rfl rfl (Blk.cellN (SH.at hS1 (.head _)) 1 rfl _ (KB.refl No _))) ?_
    refine WSX.of [(.pure, 9), (.forced, 3), (.forced, 4), (.forced, 10), (.pure, 11)] (by kernel_rfl) rfl ?_
    refine WS.pure rfl rfl (fun _ => LV.lenL Try.underlying53 rfl) ?_
    refine WS.lvT rfl rfl (LV.load1 Try.underlying53 rfl rfl (Blk.cellN (SH.at hS1 (.head _)) 1 rfl _ (KB.refl No _))) ?_
    have hS10 : SH w S w.drew [rowF 5 (.slice A ((bytesOf t).length) c) (bytesOf t), blkE b 91 #[(.pointer (some ⟨b, 0, none⟩)), (.slice A ((bytesOf t).length) c)]] := (SH.front [_] hS1)
    refine WS.xe rfl rfl (XE.usdF (s := t) hS10 rfl Try.underlying115) ?_
    rintro _ w5 ⟨ad3, rfl, hu3, hS11, hk5⟩
    refine ⟨fun h_ => trivial, ?_⟩
    refine WS.xe rfl rfl (XE.usF (s := t) hS11 (bytesOf_len _) (by omega) rfl rfl hu3 Try.underlying115 (by kernel_rfl)) ?_
    rintro _ w6 ⟨rfl, hS12, hk6⟩
    refine ⟨fun h_ => trivial, ?_⟩
    refine WS.pure rfl rfl (fun _ => LV.asg rfl) ?_
    refine WS.nil (thenQ.n ?_)
    refine WC.ret (?_)
    have hS13 : SH w S w6 [blkE b 91 #[(.pointer (some ⟨b, 0, none⟩)), (.slice A ((bytesOf t).length) c)], rowF 5 (.slice A ((bytesOf t).length) c) (bytesOf t)] := (SH.front [_] hS12)
    exact ⟨_, fun a ha => res1 rfl ha rfl, rfl, hS13⟩

theorem Grow_calls' {w : World} {S : Nat → Prop} {b : Nat} {n : Int} {p : Value} (hp : BP p b) (hS0 : SH w S w [blkE b 91 #[p, (.slice none 0 0)]]) (hn0 : 0 < n) (hn : n ≤ 100000) :
    Calls Try.prog 50 #[.pointer (some ⟨b, 0, none⟩), .int .i64 n] w fun e w' => ∃ v, e = .returned v ∧ (fun v w' => ∃ (A' : Option Addr) (c' : Nat), v = .tuple #[] ∧ SH w S w' [blkE b 91 #[.pointer (some ⟨b, 0, none⟩), .slice A' 0 c'], rowE eU8 5 (.slice A' 0 c') []]) v w' := by
  obtain ⟨m, rfl⟩ : ∃ m : Nat, n = (m : Int) := ⟨n.toNat, by omega⟩
  exact Grow_calls hp hS0 (by omega) (by omega)

set_option maxHeartbeats 2000000 in
theorem srep_calls {w : World} {n : Int} (h0 : 0 ≤ n) (h1 : n ≤ 200) :
    Calls Try.prog 36 #[(.string (⟨#[35]⟩ : ByteArray)), (.int .i64 n)] w fun e w' => ∃ v, e = .returned v ∧ (fun v w' => v = .string (RPB n.toNat) ∧ KB No w w') v w' := by
  have hS : SH w No w [] := SH.nil _ _
  refine calls (l := litOf [(.string (⟨#[35]⟩ : ByteArray)), (.int .i64 n)] 0) Try.func36 rfl (n := 125) rfl (Nat.le_of_ble_eq_true rfl) (lit_args _) ?_
  refine WC.seq ?_
  refine WC.region ?_
  refine WL.lv rfl (LV.asg rfl) ?_
  refine WL.nil (thenQ.n ?_)
  iterate 2 refine WC.seq ?_
  refine WC.region ?_
  refine WL.lv rfl (LV.mv rfl) ?_
  refine WL.nil (thenQ.n ?_)
  refine WC.block ?_
  refine WC.seq ?_
  refine WC.region ?_
  refine WL.lv rfl (LV.eqI rfl rfl) ?_
  refine WL.lv rfl (LV.asg rfl) ?_
  refine WL.nil (thenQ.n ?_)
  refine WC.condP (p := n = 0) rfl (fun hc1 => ?_) (fun hc1 => ?_)
  · skip
    refine WC.seq ?_
    refine WC.region ?_
    refine WL.lv rfl (LV.asg rfl) ?_
    refine WL.nil (thenQ.n ?_)
    refine WC.ret (blockQ.r <| thenQ.r <| ?_)
    exact ⟨_, fun a ha => res1 rfl ha rfl, congrArg Value.string (by rw [show n.toNat = 0 by omega]; rfl), hS.kb⟩
  · skip
    refine WC.seq ?_
    refine WC.region ?_
    refine WL.lv rfl (LV.eqI rfl rfl) ?_
    refine WL.lv rfl (LV.asg rfl) ?_
    refine WL.nil (thenQ.n ?_)
    refine WC.condP (p := n = 1) rfl (fun hc2 => ?_) (fun hc2 => ?_)
    · skip
      refine WC.seq ?_
      refine WC.region ?_
      refine WL.lv rfl (LV.mv rfl) ?_
      refine WL.lv rfl (LV.asg rfl) ?_
      refine WL.nil (thenQ.n ?_)
      refine WC.ret (blockQ.r <| thenQ.r <| ?_)
      exact ⟨_, fun a ha => res1 rfl ha rfl, congrArg Value.string (by rw [show n.toNat = 1 by omega]; rfl), hS.kb⟩
    · skip
      refine WC.skip (blockQ.n <| thenQ.n ?_)
      iterate 2 refine WC.seq ?_
      refine WC.region ?_
      refine WL.lv rfl (LV.mv rfl) ?_
      refine WL.lv rfl (LV.ltI rfl rfl) ?_
      refine WL.nil (thenQ.n ?_)
      refine WC.condP (p := n < 0) rfl (fun hc3 => ?_) (fun hc3 => ?_)
      · exfalso; omega
      · skip
        refine WC.skip (thenQ.n ?_)
        refine WC.seq ?_
        refine WC.region ?_
        refine WL.lv rfl (LV.mv rfl) ?_
        refine WL.lv rfl (LV.to (v' := (.int .i64 1)) (rfl) (LV.lenS (s := (⟨#[35]⟩ : ByteArray)) Try.underlying9 rfl)) ?_
        refine WL.lv rfl (LV.cvtI Try.underlying3 Try.underlying85 rfl (wrU64 (by omega) (by omega))) ?_
        refine WL.lv rfl (LV.mv rfl) ?_
        refine WL.lv rfl (LV.cvtI Try.underlying3 Try.underlying85 rfl (wrU64 (by omega) (by omega))) ?_
        refine WL.call rfl (XC.fn Try.func48 (by kernel_rfl) rfl rfl rfl) (mul_calls (n := n) (by omega) (by omega)) ?_
        rintro v_ w1 ⟨rfl, hk1⟩
        have hS1 := SH.same hS hk1
        refine WL.lv rfl (LV.mv rfl) ?_
        iterate 2 refine WL.lv rfl (LV.extract rfl rfl) ?_
        iterate 2 refine WL.lv rfl (LV.asg rfl) ?_
        refine WL.nil (thenQ.n ?_)
        iterate 2 refine WC.seq ?_
        refine WC.region ?_
        refine WL.lv rfl (LV.mv rfl) ?_
        refine WL.lv rfl (LV.as (c := false) (LV.gtI rfl rfl) (by decide)) ?_
        iterate 2 refine WL.lv rfl (LV.mv rfl) ?_
        refine WL.lv rfl (LV.gtI rfl rfl) ?_
        refine WL.lv rfl (LV.pickF rfl rfl) ?_
        refine WL.nil (thenQ.n ?_)
        refine WC.condP (p := n > 9223372036854775807) rfl (fun hc4 => ?_) (fun hc4 => ?_)
        · exfalso; omega
        · skip
          refine WC.skip (thenQ.n ?_)
          refine WC.seq ?_
          refine WC.region ?_
          refine WL.lv rfl (LV.mv rfl) ?_
          refine WL.lv rfl (LV.cvtI Try.underlying85 Try.underlying3 rfl (wr64 (by omega) (by omega))) ?_
          refine WL.lv rfl (LV.asg rfl) ?_
          refine WL.nil (thenQ.n ?_)
          iterate 2 refine WC.seq ?_
          refine WC.region ?_
          refine WL.lv rfl (LV.mv rfl) ?_
          refine WL.lv rfl (LV.to (v' := (.int .i64 1)) (rfl) (LV.lenS (s := (⟨#[35]⟩ : ByteArray)) Try.underlying9 rfl)) ?_
          refine WL.lv rfl (LV.as (c := false) (LV.eqI rfl rfl) (by decide)) ?_
          refine WL.nil (thenQ.n ?_)
          refine WC.condF rfl ?_
          refine WC.skip (thenQ.n ?_)
          iterate 2 refine WC.seq ?_
          refine WC.region ?_
          refine WL.lv rfl (LV.mv rfl) ?_
          refine WL.lv rfl (LV.to (v' := (.int .u8 35)) (rfl) (LV.idxS (s := (⟨#[35]⟩ : ByteArray)) (i := 0) (k := .i64) (c := 35) Try.underlying9 rfl rfl rfl)) ?_
          refine WL.nil (thenQ.n ?_)
          refine WC.block ?_
          iterate 2 refine WC.seq ?_
          refine WC.region ?_
          refine WL.lv rfl (LV.as (c := false) (LV.eqI rfl rfl) (by decide)) ?_
          refine WL.lv rfl (LV.asg rfl) ?_
          refine WL.nil (thenQ.n ?_)
          refine WC.condF rfl ?_
          refine WC.seq ?_
          refine WC.region ?_
          refine WL.lv rfl (LV.as (c := false) (LV.eqI rfl rfl) (by decide)) ?_
          refine WL.lv rfl (LV.asg rfl) ?_
          refine WL.nil (thenQ.n ?_)
          refine WC.condF rfl ?_
          refine WC.seq ?_
          refine WC.region ?_
          refine WL.lv rfl (LV.as (c := false) (LV.eqI rfl rfl) (by decide)) ?_
          refine WL.lv rfl (LV.asg rfl) ?_
          refine WL.nil (thenQ.n ?_)
          refine WC.condF rfl ?_
          refine WC.seq ?_
          refine WC.region ?_
          refine WL.lv rfl (LV.as (c := false) (LV.eqI rfl rfl) (by decide)) ?_
          refine WL.lv rfl (LV.asg rfl) ?_
          refine WL.nil (thenQ.n ?_)
          refine WC.condF rfl ?_
          refine WC.region ?_
          refine WL.lv rfl (LV.as (c := false) (LV.eqI rfl rfl) (by decide)) ?_
          refine WL.lv rfl (LV.asg rfl) ?_
          refine WL.nil (thenQ.n ?_)
          refine WC.condF rfl ?_
          refine WC.skip (blockQ.n <| thenQ.n ?_)
          refine WC.seq ?_
          refine WC.region ?_
          refine WL.lv rfl (LV.mv rfl) ?_
          refine WL.lv rfl (LV.asg rfl) ?_
          refine WL.nil (thenQ.n ?_)
          iterate 2 refine WC.seq ?_
          refine WC.region ?_
          refine WL.lv rfl (LV.mv rfl) ?_
          refine WL.lv rfl (LV.gtI rfl rfl) ?_
          refine WL.nil (thenQ.n ?_)
          refine WC.condP (p := n > 8192) rfl (fun hc5 => ?_) (fun hc5 => ?_)
          · exfalso; omega
          · skip
            refine WC.skip (thenQ.n ?_)
            refine WC.seq ?_
            refine WC.region ?_
            refine WL.xe rfl (XE.alloc #[(.pointer none), (.slice none 0 0)] hS1 ti91 rfl) ?_
            rintro _ w2 ⟨b1, rfl, hS2, hk2⟩
            refine WL.nil (thenQ.n ?_)
            refine WC.seq ?_
            refine WC.region ?_
            refine WL.lv rfl (LV.mv rfl) ?_
            have hT1 := SH.sub (Es := [_]) hS2
            refine WL.call rfl (XC.fn Try.func50 (by kernel_rfl) rfl rfl rfl) (Grow_calls' (n := n) (.inl rfl) hT1 (by omega) (by omega)) ?_
            rintro v_ w3 ⟨A1, c1, rfl, hU1⟩
            have hS3 := SH.back (Es := [_]) hS2 hU1
            refine WL.nil (thenQ.n ?_)
            refine WC.seq ?_
            refine WC.region ?_
            refine WL.lv rfl (LV.mv rfl) ?_
            have hS4 : SH w No w3 [rowE eU8 5 (.slice A1 0 c1) ([] : List Int), blkE b1 91 #[(.pointer (some ⟨b1, 0, none⟩)), (.slice A1 0 c1)]] := (SH.front [_] hS3)
            have hS5 := SH.rowF hS4
            have hS6 : SH w No w3 [blkE b1 91 #[(.pointer (some ⟨b1, 0, none⟩)), (.slice A1 0 c1)], rowF 5 (.slice A1 0 c1) ([] : List Int)] := (SH.front [_] hS5)
            have hT2 := SH.sub (Es := [_, _]) hS6
            have z1 := wsF_calls (t := (⟨#[]⟩ : ByteArray)) (s := (⟨#[35]⟩ : ByteArray)) hT2 (by decide)
            refine WL.call rfl (XC.fn Try.func51 (by kernel_rfl) rfl rfl rfl) (z1) ?_
            rintro v_ w4 ⟨A2, c2, rfl, hU2⟩
            have hS7 := SH.back (Es := [_, _]) hS6 hU2
            refine WL.nil (thenQ.n ?_)
            refine WC.seq ?_
            refine WC.block ?_
            refine WC.loop (fun m_ f_ w_ => ∃ (A_t : Option Addr) (c_t : Nat) (t : ByteArray), (t = RPB t.size) ∧ (1 ≤ t.size ∧ (t.size : Int) ≤ n) ∧ SH w No w_ [blkE b1 91 #[(.pointer (some ⟨b1, 0, none⟩)), (.slice A_t ((bytesOf t).length) c_t)], rowF 5 (.slice A_t ((bytesOf t).length) c_t) (bytesOf t)] ∧ m_ = ((n - t.size).toNat) ∧ Weak (lit [(7, (.int .i64 n)), (8, (.int .i64 n)), (9, (.pointer (some ⟨b1, 0, none⟩)))]) f_) _ ⟨A2, c2, ((⟨#[]⟩ : ByteArray) ++ (⟨#[35]⟩ : ByteArray)), rfl, (⟨Nat.le_refl _, by show ((1 : Nat) : Int) ≤ n; omega⟩), hS7, rfl, Weak.cons rfl <| Weak.cons rfl <| Weak.cons rfl <| Weak.nil _⟩ ?_
            rintro m1 f1 w5 ⟨A_t, c_t, t, q1, q2, hL1, rfl, hw1⟩
            refine WC.weak hw1 ?_
            clear hw1
            iterate 2 refine WC.seq ?_
            refine WC.region ?_
            have hS8 : SH w No w5 [rowF 5 (.slice A_t ((bytesOf t).length) c_t) (bytesOf t), blkE b1 91 #[(.pointer (some ⟨b1, 0, none⟩)), (.slice A_t ((bytesOf t).length) c_t)]] := (SH.front [_] hL1)
            have hS9 : SH w No w5 [blkE b1 91 #[(.pointer (some ⟨b1, 0, none⟩)), (.slice A_t ((bytesOf t).length) c_t)], rowF 5 (.slice A_t ((bytesOf t).length) c_t) (bytesOf t)] := (SH.front [_] hS8)
            have hT3 := SH.sub (Es := [_, _]) hS9
            refine WL.call rfl (XC.fn Try.func52 (by kernel_rfl) rfl rfl rfl) (lenF_calls (t := t) hT3) ?_
            rintro v_ w6 ⟨rfl, hU3⟩
            have hS10 := SH.back (Es := [_, _]) hS9 hU3
            refine WL.lv rfl (LV.mv rfl) ?_
            refine WL.lv rfl (LV.ltI rfl rfl) ?_
            refine WL.nil (thenQ.n ?_)
            refine WC.condP (p := (t.size : Int) < n) rfl (fun hc6 => ?_) (fun hc6 => ?_)
            · skip
              refine WC.skip (thenQ.n ?_)
              refine WC.block ?_
              refine WC.seq ?_
              refine WC.region ?_
              refine WL.lv rfl (LV.mv rfl) ?_
              have hS11 : SH w No w6 [rowF 5 (.slice A_t ((bytesOf (t)).length) c_t) (bytesOf t), blkE b1 91 #[(.pointer (some ⟨b1, 0, none⟩)), (.slice A_t ((bytesOf (t)).length) c_t)]] := (SH.front [_] hS10)
              have hS12 : SH w No w6 [blkE b1 91 #[(.pointer (some ⟨b1, 0, none⟩)), (.slice A_t ((bytesOf (t)).length) c_t)], rowF 5 (.slice A_t ((bytesOf (t)).length) c_t) (bytesOf t)] := (SH.front [_] hS11)
              have hT4 := SH.sub (Es := [_, _]) hS12
              refine WL.call rfl (XC.fn Try.func52 (by kernel_rfl) rfl rfl rfl) (lenF_calls (t := t) hT4) ?_
              rintro v_ w7 ⟨rfl, hU4⟩
              have hS13 := SH.back (Es := [_, _]) hS12 hU4
              refine WL.lv rfl (LV.sub rfl rfl (wr64 (by omega) (by omega))) ?_
              have hS14 : SH w No w7 [rowF 5 (.slice A_t ((bytesOf (t)).length) c_t) (bytesOf t), blkE b1 91 #[(.pointer (some ⟨b1, 0, none⟩)), (.slice A_t ((bytesOf (t)).length) c_t)]] := (SH.front [_] hS13)
              have hS15 : SH w No w7 [blkE b1 91 #[(.pointer (some ⟨b1, 0, none⟩)), (.slice A_t ((bytesOf (t)).length) c_t)], rowF 5 (.slice A_t ((bytesOf (t)).length) c_t) (bytesOf t)] := (SH.front [_] hS14)
              have hT5 := SH.sub (Es := [_, _]) hS15
              refine WL.call rfl (XC.fn Try.func52 (by kernel_rfl) rfl rfl rfl) (lenF_calls (t := t) hT5) ?_
              rintro v_ w8 ⟨rfl, hU5⟩
              have hS16 := SH.back (Es := [_, _]) hS15 hU5
              refine WL.lv rfl (LV.mv rfl) ?_
              refine WL.lv rfl (LV.min3 rfl rfl rfl) ?_
              refine WL.lv rfl (LV.asg rfl) ?_
              refine WL.nil (thenQ.n ?_)
              refine WC.region ?_
              have hS17 : SH w No w8 [rowF 5 (.slice A_t ((bytesOf (t)).length) c_t) (bytesOf t), blkE b1 91 #[(.pointer (some ⟨b1, 0, none⟩)), (.slice A_t ((bytesOf (t)).length) c_t)]] := (SH.front [_] hS16)
              have hS18 : SH w No w8 [blkE b1 91 #[(.pointer (some ⟨b1, 0, none⟩)), (.slice A_t ((bytesOf (t)).length) c_t)], rowF 5 (.slice A_t ((bytesOf (t)).length) c_t) (bytesOf t)] := (SH.front [_] hS17)
              have hT6 := SH.sub (Es := [_, _]) hS18
              refine WL.call rfl (XC.fn Try.func53 (by kernel_rfl) rfl rfl rfl) (bsF_calls (t := t) hT6 (by omega)) ?_
              rintro v_ w9 ⟨rfl, hU6⟩
              have hS19 := SH.back (Es := [_, _]) hS18 hU6
              refine WL.lv rfl (LV.mv rfl) ?_
              refine WL.lv rfl (LV.cutS (l := 0) (h := (min (min (n - (t.size : Int)) (t.size : Int)) n).toNat) Try.underlying9 rfl rfl rfl ⟨.inl ⟨rfl, rfl⟩, .inr ⟨.i64, by rw [Int.toNat_of_nonneg (a := min (min (n - (t.size : Int)) (t.size : Int)) n) (by omega)] <;> rfl⟩, .inl ⟨rfl, rfl⟩⟩ (by omega) (by omega)) ?_
              have hS20 : SH w No w9 [rowF 5 (.slice A_t ((bytesOf (t)).length) c_t) (bytesOf t), blkE b1 91 #[(.pointer (some ⟨b1, 0, none⟩)), (.slice A_t ((bytesOf (t)).length) c_t)]] := (SH.front [_] hS19)
              have hS21 : SH w No w9 [blkE b1 91 #[(.pointer (some ⟨b1, 0, none⟩)), (.slice A_t ((bytesOf (t)).length) c_t)], rowF 5 (.slice A_t ((bytesOf (t)).length) c_t) (bytesOf t)] := (SH.front [_] hS20)
              have hT7 := SH.sub (Es := [_, _]) hS21
              have z2 := wsF_calls (t := t) (s := (t.extract 0 ((min (min (n - (t.size : Int)) (t.size : Int)) n).toNat))) hT7 (by rw [ByteArray.size_extract]; omega)
              refine WL.call rfl (XC.fn Try.func51 (by kernel_rfl) rfl rfl rfl) (z2) ?_
              rintro v_ w10 ⟨A3, c3, rfl, hU7⟩
              have hS22 := SH.back (Es := [_, _]) hS21 hU7
              refine WL.nil (blockQ.n <| thenQ.n ?_)
              exact ⟨_, by rw [rpb_step (k := t.size) q1 (by omega), rpb_size]; omega, A3, c3, (t ++ (t.extract 0 ((min (min (n - (t.size : Int)) (t.size : Int)) n).toNat))), (by rw [rpb_step (k := t.size) q1 (by omega), rpb_size]), (by rw [rpb_step (k := t.size) q1 (by omega), rpb_size]; omega), hS22, rfl, Weak.cons rfl <| Weak.cons rfl <| Weak.cons rfl <| Weak.nil _⟩
            · skip
              refine WC.exit (thenQ.x <| thenQ.x <| blockQ.hit <| thenQ.n ?_)
              refine WC.seq ?_
              refine WC.region ?_
              have hS23 : SH w No w6 [rowF 5 (.slice A_t ((bytesOf (t)).length) c_t) (bytesOf t), blkE b1 91 #[(.pointer (some ⟨b1, 0, none⟩)), (.slice A_t ((bytesOf (t)).length) c_t)]] := (SH.front [_] hS10)
              have hS24 : SH w No w6 [blkE b1 91 #[(.pointer (some ⟨b1, 0, none⟩)), (.slice A_t ((bytesOf (t)).length) c_t)], rowF 5 (.slice A_t ((bytesOf (t)).length) c_t) (bytesOf t)] := (SH.front [_] hS23)
              have hT8 := SH.sub (Es := [_, _]) hS24
              refine WL.call rfl (XC.fn Try.func53 (by kernel_rfl) rfl rfl rfl) (bsF_calls (t := t) hT8 (by omega)) ?_
              rintro v_ w11 ⟨rfl, hU8⟩
              have hS25 := SH.back (Es := [_, _]) hS24 hU8
              refine WL.lv rfl (LV.asg rfl) ?_
              refine WL.nil (thenQ.n ?_)
              refine WC.ret (?_)
              exact ⟨_, fun a ha => res1 rfl ha rfl, congrArg Value.string (by rw [q1, show t.size = n.toNat by omega]), hS25.kb⟩

end Go.Proofs.Ytomeffnlmefnlaa
