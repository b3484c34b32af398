/- The finder. -/
import Derived.Test.YtjjilkibcomfcaaPaD
namespace Go.Proofs.Ytjjilkibcomfcaa
open Go Go.Gv Go.RowKit Go.Mys Go.Itn Go.Pat
set_option linter.unusedVariables false
set_option linter.unusedSimpArgs false

theorem add_calls {w : World} {S : Nat → Prop} {ob : Nat} {A : Option Addr} {c : Nat} {out : List (Int × Int)} {i j n : Int} (hS0 : SH w S w [blkE ob 73 #[(.slice A ((out).length) c)], rowE eP 65 (.slice A ((out).length) c) out]) (hl : out.length ≤ 1000000) (h0 : 0 ≤ n) (h1 : n ≤ 1000) (hi : 0 ≤ i ∧ i ≤ 1000000) (hj : 0 ≤ j ∧ j ≤ 1000000) :
    Calls Try.prog 49 #[(.pointer (some ⟨ob, 0, none⟩)), (.int .i64 i), (.int .i64 j), (.int .i64 n)] w fun e w' => ∃ v, e = .returned v ∧ (fun v w' => ∃ (A' : Option Addr) (c' : Nat) (o' : List (Int × Int)), v = .tuple #[] ∧ o' = out ++ run i j n.toNat ∧ (o'.length : Int) = out.length + n ∧ SH w S w' [blkE ob 73 #[(.slice A' ((o').length) c')], rowE eP 65 (.slice A' ((o').length) c') o']) v w' := by
  have hS : SH w S w [blkE ob 73 #[(.slice A ((out).length) c)], rowE eP 65 (.slice A ((out).length) c) out] := hS0
  refine calls (l := litOf [(.pointer (some ⟨ob, 0, none⟩)), (.int .i64 i), (.int .i64 j), (.int .i64 n)] 0) Try.func49 rfl (n := 30) rfl (Nat.le_of_ble_eq_true rfl) (lit_args _) ?_
  refine WC.seq ?_
  refine WC.region ?_
  iterate 2 refine WL.lv rfl (LV.mv rfl) ?_
  refine WL.nil (thenQ.n ?_)
  refine WC.block ?_
  refine WC.loop (fun m_ f_ w_ => ∃ (ix : Int) (Az : Option Addr) (cz : Nat) (o2 : List (Int × Int)), (0 ≤ ix) ∧ (ix ≤ n) ∧ (o2 = out ++ run i j ix.toNat) ∧ ((o2.length : Int) = out.length + ix) ∧ SH w S w_ [blkE ob 73 #[(.slice Az ((o2).length) cz)], rowE eP 65 (.slice Az ((o2).length) cz) o2] ∧ m_ = ((n - ix).toNat) ∧ Weak (lit [(0, (.pointer (some ⟨ob, 0, none⟩))), (1, (.int .i64 i)), (2, (.int .i64 j)), (3, (.int .i64 n)), (9, (.int .i64 n)), (10, (.int .i64 ix))]) f_) _ ⟨0, A, c, out, by omega, by omega, (by simp [run]), by omega, hS, rfl, Weak.cons rfl <| Weak.cons rfl <| Weak.cons rfl <| Weak.cons rfl <| Weak.cons rfl <| Weak.cons rfl <| Weak.nil _⟩ ?_
  rintro m1 f1 w1 ⟨ix, Az, cz, o2, q0, q1, q2, q3, hL1, rfl, hw1⟩
  refine WC.weak hw1 ?_
  clear hw1
  refine WC.seq ?_
  refine WC.region ?_
  refine WL.lv rfl (LV.ltI rfl rfl) ?_
  refine WL.nil (thenQ.n ?_)
  refine WC.seq ?_
  refine WC.condP (p := ix < n) rfl (fun hc1 => ?_) (fun hc1 => ?_)
  · skip
    refine WC.skip (thenQ.n ?_)
    refine WC.seq ?_
    refine WC.block ?_
    refine WC.seq ?_
    refine WC.region ?_
    refine WL.lv rfl (LV.mv rfl) ?_
    refine WL.lv rfl (LV.asg rfl) ?_
    refine WL.nil (thenQ.n ?_)
    refine WC.region ?_
    iterate 2 refine WL.lv rfl (LV.mv rfl) ?_
    refine WL.lv rfl (LV.nilCheck rfl) ?_
    refine WL.lv rfl (LV.fieldA Try.underlying73 rfl ti63.sz rfl) ?_
    refine WL.lv rfl (LV.load1 Try.underlying63 rfl rfl (Blk.cellN (SH.at hL1 (.head _)) 0 rfl _ (KB.refl No _))) ?_
    iterate 2 refine WL.lv rfl (LV.mv rfl) ?_
    refine WL.lv rfl (LV.add rfl rfl (wr64 (by omega) (by omega))) ?_
    iterate 2 refine WL.lv rfl (LV.mv rfl) ?_
    refine WL.lv rfl (LV.add rfl rfl (wr64 (by omega) (by omega))) ?_
    refine WL.lv rfl (LV.buildA (vs := [(0, (.int .i64 (i + ix))), (1, (.int .i64 (j + ix)))]) (cs := #[(.int .i64 (i + ix)), (.int .i64 (j + ix))]) Try.underlying65 ti65 ti3 rfl rfl) ?_
    refine WL.xe rfl (XE.buildSlice (E := eP) [(0, (.agg #[(.int .i64 (i + ix)), (.int .i64 (j + ix))]))] #[(.int .i64 (i + ix)), (.int .i64 (j + ix))] [(i + ix, j + ix)] hL1 Try.underlying63 ti65 rfl (by decide) (by kernel_rfl) (.inr rfl) rfl rfl (by decide)) ?_
    rintro _ w2 ⟨b1, rfl, hS1, hk1⟩
    have hS2 : SH w S w2 [rowE eP 65 (.slice Az ((o2).length) cz) o2, rowE eP 65 (.slice (some ⟨b1, 0, none⟩) 1 1) [(i + ix, j + ix)], blkE ob 73 #[(.slice Az ((o2).length) cz)]] := (SH.front [rowE eP 65 (.slice (some ⟨b1, 0, none⟩) 1 1) [(i + ix, j + ix)], blkE ob 73 #[(.slice Az ((o2).length) cz)]] hS1)
    refine WL.xe rfl (XE.append hS2 Try.underlying63 ti65 rfl (St.now (SH.rd hS2 (.tail _ (.head _)))) rfl rfl (by first | omega | simp only [List.length_append, List.length_cons, List.length_nil, List.length_take, List.length_reverse, List.length_drop] at *; omega) (by first | omega | simp only [List.length_append, List.length_cons, List.length_nil, List.length_take, List.length_reverse, List.length_drop] at *; omega)) ?_
    rintro _ w3 ⟨A1, c1, rfl, hS3, hk2⟩
    refine WL.lv rfl (LV.nilCheck rfl) ?_
    refine WL.lv rfl (LV.fieldA Try.underlying73 rfl ti63.sz rfl) ?_
    have hS5 : SH w S w3 [blkE ob 73 #[(.slice Az ((o2).length) cz)], rowE eP 65 (.slice A1 ((o2 ++ [(i + ix, j + ix)]).length) c1) (o2 ++ [(i + ix, j + ix)]), rowE eP 65 (.slice (some ⟨b1, 0, none⟩) 1 1) [(i + ix, j + ix)]] := (SH.front [rowE eP 65 (.slice A1 ((o2 ++ [(i + ix, j + ix)]).length) c1) (o2 ++ [(i + ix, j + ix)]), rowE eP 65 (.slice (some ⟨b1, 0, none⟩) 1 1) [(i + ix, j + ix)]] hS3)
    refine WL.xse rfl (XSE.blk #[(.slice A1 ((o2 ++ [(i + ix, j + ix)]).length) c1)] hS5 (Nat.le_of_ble_eq_true rfl) ti63.sz rfl rfl rfl rfl) ?_
    rintro w4 ⟨hS4, hk3⟩
    refine WL.nil (blockQ.n <| thenQ.n ?_)
    refine WC.region ?_
    refine WL.lv rfl (LV.add rfl rfl (wr64 (by omega) (by omega))) ?_
    refine WL.lv rfl (LV.mv rfl) ?_
    refine WL.nil (thenQ.n ?_)
    have hS6 : SH w S w4 [blkE ob 73 #[(.slice A1 ((o2 ++ [(i + ix, j + ix)]).length) c1)], rowE eP 65 (.slice A1 ((o2 ++ [(i + ix, j + ix)]).length) c1) (o2 ++ [(i + ix, j + ix)])] := (SH.take 2 rfl (SH.front [rowE eP 65 (.slice A1 ((o2 ++ [(i + ix, j + ix)]).length) c1) (o2 ++ [(i + ix, j + ix)])] (SH.front [blkE ob 73 #[(.slice A1 ((o2 ++ [(i + ix, j + ix)]).length) c1)]] hS4)))
    exact ⟨_, by omega, ix + 1, A1, c1, (o2 ++ [(i + ix, j + ix)]), by omega, by omega, (by rw [q2, List.append_assoc, run_snoc q0]), (by simp; omega), hS6, rfl, Weak.cons rfl <| Weak.cons rfl <| Weak.cons rfl <| Weak.cons rfl <| Weak.cons rfl <| Weak.cons rfl <| Weak.nil _⟩
  · skip
    refine WC.exit (thenQ.x <| thenQ.x <| blockQ.hit <| ?_)
    exact ⟨_, fun a ha => res0 rfl, _, _, _, rfl, (by rw [q2, show ix = n by omega]), by omega, hL1⟩

def FindN (N : Nat) : Prop := ∀ {w : World} {S : Nat → Prop} {ob : Nat} {A : Option Addr} {c : Nat} {out : List (Int × Int)} {A_a : Option Addr} {n_a c_a : Nat} {a : List Int} {A_b : Option Addr} {n_b c_b : Nat} {b : List Int} {i j : Int} (h_a : St S w (Rd eI (.slice A_a n_a c_a) a)) (hn_a : a.length = n_a) (h_b : St S w (Rd eI (.slice A_b n_b c_b) b)) (hn_b : b.length = n_b) (hS0 : SH w S w [blkE ob 73 #[(.slice A ((out).length) c)], rowE eP 65 (.slice A ((out).length) c) out]) (hl : out.length + a.length + b.length ≤ 100000) (ha4 : a.length ≤ 400) (hb4 : b.length ≤ 400) (hi : 0 ≤ i ∧ i + a.length ≤ 100000) (hj : 0 ≤ j ∧ j + b.length ≤ 100000) (hN : a.length + b.length < N), Calls Try.prog 44 #[(.pointer (some ⟨ob, 0, none⟩)), (.slice A_a n_a c_a), (.slice A_b n_b c_b), (.int .i64 i), (.int .i64 j)] w fun e w' => ∃ v, e = .returned v ∧ (fun v w' => ∃ (A' : Option Addr) (c' : Nat) (o' : List (Int × Int)), v = .tuple #[] ∧ o' = out ++ mvd (PR a b) i j ∧ 2 * o'.length ≤ 2 * out.length + a.length + b.length ∧ SH w S w' [blkE ob 73 #[(.slice A' ((o').length) c')], rowE eP 65 (.slice A' ((o').length) c') o']) v w'

def InnN (N : Nat) : Prop := ∀ {w : World} {S : Nat → Prop} {ob : Nat} {A : Option Addr} {c : Nat} {out : List (Int × Int)} {A_a : Option Addr} {n_a c_a : Nat} {a : List Int} {A_b : Option Addr} {n_b c_b : Nat} {b : List Int} {i j : Int} (h_a : St S w (Rd eI (.slice A_a n_a c_a) a)) (hn_a : a.length = n_a) (h_b : St S w (Rd eI (.slice A_b n_b c_b) b)) (hn_b : b.length = n_b) (hS0 : SH w S w [blkE ob 73 #[(.slice A ((out).length) c)], rowE eP 65 (.slice A ((out).length) c) out]) (hl : out.length + a.length + b.length ≤ 100000) (ha4 : a.length ≤ 400) (hb4 : b.length ≤ 400) (hi : 0 ≤ i ∧ i + a.length ≤ 100000) (hj : 0 ≤ j ∧ j + b.length ≤ 100000) (hap : Apart a b) (hN : a.length + b.length ≤ N), Calls Try.prog 50 #[(.pointer (some ⟨ob, 0, none⟩)), (.slice A_a n_a c_a), (.slice A_b n_b c_b), (.int .i64 i), (.int .i64 j)] w fun e w' => ∃ v, e = .returned v ∧ (fun v w' => ∃ (A' : Option Addr) (c' : Nat) (o' : List (Int × Int)), v = .tuple #[] ∧ o' = out ++ mvd (PR a b) i j ∧ 2 * o'.length ≤ 2 * out.length + a.length + b.length ∧ SH w S w' [blkE ob 73 #[(.slice A' ((o').length) c')], rowE eP 65 (.slice A' ((o').length) c') o']) v w'

set_option maxHeartbeats 1000000 in
theorem find_step {N : Nat} (IH : InnN N) {w : World} {S : Nat → Prop} {ob : Nat} {A : Option Addr} {c : Nat} {out : List (Int × Int)} {A_a : Option Addr} {n_a c_a : Nat} {a : List Int} {A_b : Option Addr} {n_b c_b : Nat} {b : List Int} {i j : Int} (h_a : St S w (Rd eI (.slice A_a n_a c_a) a)) (hn_a : a.length = n_a) (h_b : St S w (Rd eI (.slice A_b n_b c_b) b)) (hn_b : b.length = n_b) (hS0 : SH w S w [blkE ob 73 #[(.slice A ((out).length) c)], rowE eP 65 (.slice A ((out).length) c) out]) (hl : out.length + a.length + b.length ≤ 100000) (ha4 : a.length ≤ 400) (hb4 : b.length ≤ 400) (hi : 0 ≤ i ∧ i + a.length ≤ 100000) (hj : 0 ≤ j ∧ j + b.length ≤ 100000) (hN : a.length + b.length ≤ N) :
    Calls Try.prog 44 #[(.pointer (some ⟨ob, 0, none⟩)), (.slice A_a n_a c_a), (.slice A_b n_b c_b), (.int .i64 i), (.int .i64 j)] w fun e w' => ∃ v, e = .returned v ∧ (fun v w' => ∃ (A' : Option Addr) (c' : Nat) (o' : List (Int × Int)), v = .tuple #[] ∧ o' = out ++ mvd (PR a b) i j ∧ 2 * o'.length ≤ 2 * out.length + a.length + b.length ∧ SH w S w' [blkE ob 73 #[(.slice A' ((o').length) c')], rowE eP 65 (.slice A' ((o').length) c') o']) v w' := by
  subst hn_a hn_b
  have hel_ := elst_le a b
  have hS : SH w S w [blkE ob 73 #[(.slice A ((out).length) c)], rowE eP 65 (.slice A ((out).length) c) out] := hS0
  refine calls (l := litOf [(.pointer (some ⟨ob, 0, none⟩)), (.slice A_a a.length c_a), (.slice A_b b.length c_b), (.int .i64 i), (.int .i64 j)] 0) Try.func44 rfl (n := 68) rfl (Nat.le_of_ble_eq_true rfl) (lit_args _) ?_
  refine WC.seq ?_
  refine WC.region ?_
  iterate 2 refine WL.lv rfl (LV.mv rfl) ?_
  refine WL.call rfl (XC.fn Try.func48 (by kernel_rfl) rfl rfl rfl) (ends_calls  (SH.stN hS h_a) rfl (SH.stN hS h_b) rfl ) ?_
  rintro v_ w1 ⟨rfl, hk1⟩
  have hS1 := SH.same hS hk1
  refine WL.lv rfl (LV.mv rfl) ?_
  iterate 2 refine WL.lv rfl (LV.extract rfl rfl) ?_
  iterate 2 refine WL.lv rfl (LV.asg rfl) ?_
  refine WL.nil (thenQ.n ?_)
  refine WC.seq ?_
  refine WC.region ?_
  iterate 4 refine WL.lv rfl (LV.mv rfl) ?_
  have hS2 : SH w S w1 [rowE eP 65 (.slice A ((out).length) c) out, blkE ob 73 #[(.slice A ((out).length) c)]] := (SH.front [blkE ob 73 #[(.slice A ((out).length) c)]] hS1)
  have hS3 : SH w S w1 [blkE ob 73 #[(.slice A ((out).length) c)], rowE eP 65 (.slice A ((out).length) c) out] := (SH.front [rowE eP 65 (.slice A ((out).length) c) out] hS2)
  have hT1 := SH.sub (Es := [blkE ob 73 #[(.slice A ((out).length) c)], rowE eP 65 (.slice A ((out).length) c) out]) hS3
  refine WL.call rfl (XC.fn Try.func49 (by kernel_rfl) rfl rfl rfl) (add_calls (out := (out : List (Int × Int))) (i := i) (j := j) (n := (efst a b : Int)) hT1 (by omega) (by omega) (by omega) (by omega) (by omega)) ?_
  rintro v_ w2 ⟨A1, c1, o1, rfl, ho1, hol1, hU1⟩
  have hS4 := SH.back (Es := [blkE ob 73 #[(.slice A ((out).length) c)], rowE eP 65 (.slice A ((out).length) c) out]) hS3 hU1
  refine WL.nil (thenQ.n ?_)
  refine WC.seq ?_
  have hS5 := SH.drew hS4
  refine WC.regionD [29] (fun w_ => KB No w2.drew w_) [(.pure, 0), (.pure, 1), (.pure, 2), (.pure, 3), (.pure, 4), (.pure, 5), (.pure, 6), (.pure, 7), (.pure, 8), (.pure, 9), (.pure, 10), (.pure, 11), (.pure, 12), (.pure, 13), (.pure, 14), (.pure, 15), (.pure, 16), (.pure, 17), (.pure, 18), (.pure, 19), (.pure, 20), (.pure, 21), (.pure, 22), (.pure, 23), (.pure, 24), (.pure, 25), (.pure, 26), (.pure, 27), (.pure, 28), (.forced, 29)] (by kernel_rfl) (by kernel_rfl) (KB.refl _ _) ?_
  iterate 4 refine WS.pure rfl rfl (fun _ => LV.mv rfl) ?_
  refine WS.pure rfl rfl (fun _ => LV.lenL Try.underlying54 rfl) ?_
  refine WS.pure rfl rfl (fun _ => LV.mv rfl) ?_
  refine WS.pure rfl rfl (fun _ => LV.sub rfl rfl (wr64 (by omega) (by omega))) ?_
  refine WS.pure rfl rfl (fun _ => LV.mv rfl) ?_
  refine WS.pure rfl rfl (fun _ => LV.lenL Try.underlying54 rfl) ?_
  refine WS.pure rfl rfl (fun _ => LV.mv rfl) ?_
  refine WS.pure rfl rfl (fun _ => LV.sub rfl rfl (wr64 (by omega) (by omega))) ?_
  have hcap1 : a.length ≤ c_a := (Rd.cap (St.now (SH.stN hS5 h_a)))
  refine WS.pure rfl rfl (fun _ => LV.cut Try.underlying54 ti3.sz rfl rfl rfl rfl ⟨.inr ⟨.i64, by rw [Int.toNat_of_nonneg (a := (efst a b : Int)) (by omega)] <;> rfl⟩, .inr ⟨.i64, by rw [Int.toNat_of_nonneg (a := (a.length : Int) - (elst a b : Int)) (by omega)] <;> rfl⟩, .inr ⟨.i64, by rw [Int.toNat_of_nonneg (a := (a.length : Int) - (elst a b : Int)) (by omega)] <;> rfl⟩⟩ (by omega) (by omega) (by omega)) ?_
  iterate 3 refine WS.pure rfl rfl (fun _ => LV.mv rfl) ?_
  refine WS.pure rfl rfl (fun _ => LV.lenL Try.underlying54 rfl) ?_
  refine WS.pure rfl rfl (fun _ => LV.mv rfl) ?_
  refine WS.pure rfl rfl (fun _ => LV.sub rfl rfl (wr64 (by omega) (by omega))) ?_
  refine WS.pure rfl rfl (fun _ => LV.mv rfl) ?_
  refine WS.pure rfl rfl (fun _ => LV.lenL Try.underlying54 rfl) ?_
  refine WS.pure rfl rfl (fun _ => LV.mv rfl) ?_
  refine WS.pure rfl rfl (fun _ => LV.sub rfl rfl (wr64 (by omega) (by omega))) ?_
  have hcap2 : b.length ≤ c_b := (Rd.cap (St.now (SH.stN hS5 h_b)))
  refine WS.pure rfl rfl (fun _ => LV.cut Try.underlying54 ti3.sz rfl rfl rfl rfl ⟨.inr ⟨.i64, by rw [Int.toNat_of_nonneg (a := (efst a b : Int)) (by omega)] <;> rfl⟩, .inr ⟨.i64, by rw [Int.toNat_of_nonneg (a := (b.length : Int) - (elst a b : Int)) (by omega)] <;> rfl⟩, .inr ⟨.i64, by rw [Int.toNat_of_nonneg (a := (b.length : Int) - (elst a b : Int)) (by omega)] <;> rfl⟩⟩ (by omega) (by omega) (by omega)) ?_
  iterate 2 refine WS.pure rfl rfl (fun _ => LV.mv rfl) ?_
  refine WS.pure rfl rfl (fun _ => LV.add rfl rfl (wr64 (by omega) (by omega))) ?_
  iterate 2 refine WS.pure rfl rfl (fun _ => LV.mv rfl) ?_
  refine WS.pure rfl rfl (fun _ => LV.add rfl rfl (wr64 (by omega) (by omega))) ?_
  have hS6 : SH w S w2.drew [rowE eP 65 (.slice A1 ((o1).length) c1) o1, blkE ob 73 #[(.slice A1 ((o1).length) c1)]] := (SH.front [blkE ob 73 #[(.slice A1 ((o1).length) c1)]] hS5)
  have hS7 : SH w S w2.drew [blkE ob 73 #[(.slice A1 ((o1).length) c1)], rowE eP 65 (.slice A1 ((o1).length) c1) o1] := (SH.front [rowE eP 65 (.slice A1 ((o1).length) c1) o1] hS6)
  have hT2 := SH.sub (Es := [blkE ob 73 #[(.slice A1 ((o1).length) c1)], rowE eP 65 (.slice A1 ((o1).length) c1) o1]) hS7
  refine WS.call rfl rfl (XC.fn Try.func50 (by kernel_rfl) rfl rfl rfl) (IH (out := (o1 : List (Int × Int))) (i := (i + (efst a b : Int))) (j := (j + (efst a b : Int))) ((SH.stA (Es := [blkE ob 73 #[(.slice A1 ((o1).length) c1)], rowE eP 65 (.slice A1 ((o1).length) c1) o1]) hS7 h_a).imp fun _ h => Rd.cut h (by omega) (by omega) (by omega) (by omega)) (by first | rfl | (simp only [List.length_drop, List.length_take]; omega)) ((SH.stA (Es := [blkE ob 73 #[(.slice A1 ((o1).length) c1)], rowE eP 65 (.slice A1 ((o1).length) c1) o1]) hS7 h_b).imp fun _ h => Rd.cut h (by omega) (by omega) (by omega) (by omega)) (by first | rfl | (simp only [List.length_drop, List.length_take]; omega)) hT2 (by simp only [List.length_drop, List.length_take]; omega) (by simp only [List.length_drop, List.length_take]; omega) (by simp only [List.length_drop, List.length_take]; omega) (by simp only [List.length_drop, List.length_take]; omega) (by simp only [List.length_drop, List.length_take]; omega) (find_ap a b) (by simp only [List.length_drop, List.length_take]; omega)) ?_
  rintro v_ w3 ⟨A2, c2, o2, rfl, ho2, hol2, hU2⟩
  try simp only [List.length_drop, List.length_take] at hol2
  have hS8 := SH.back (Es := [blkE ob 73 #[(.slice A1 ((o1).length) c1)], rowE eP 65 (.slice A1 ((o1).length) c1) o1]) hS7 hU2
  refine ⟨fun h_ => (by cases h_), ?_⟩
  refine WS.nil (thenQ.n ?_)
  refine WC.region ?_
  iterate 3 refine WL.lv rfl (LV.mv rfl) ?_
  refine WL.lv rfl (LV.lenL Try.underlying54 rfl) ?_
  refine WL.lv rfl (LV.add rfl rfl (wr64 (by omega) (by omega))) ?_
  refine WL.lv rfl (LV.mv rfl) ?_
  refine WL.lv rfl (LV.sub rfl rfl (wr64 (by omega) (by omega))) ?_
  iterate 2 refine WL.lv rfl (LV.mv rfl) ?_
  refine WL.lv rfl (LV.lenL Try.underlying54 rfl) ?_
  refine WL.lv rfl (LV.add rfl rfl (wr64 (by omega) (by omega))) ?_
  refine WL.lv rfl (LV.mv rfl) ?_
  refine WL.lv rfl (LV.sub rfl rfl (wr64 (by omega) (by omega))) ?_
  refine WL.lv rfl (LV.mv rfl) ?_
  have hS9 : SH w S w3 [rowE eP 65 (.slice A2 ((o2).length) c2) o2, blkE ob 73 #[(.slice A2 ((o2).length) c2)]] := (SH.front [blkE ob 73 #[(.slice A2 ((o2).length) c2)]] hS8)
  have hS10 : SH w S w3 [blkE ob 73 #[(.slice A2 ((o2).length) c2)], rowE eP 65 (.slice A2 ((o2).length) c2) o2] := (SH.front [rowE eP 65 (.slice A2 ((o2).length) c2) o2] hS9)
  have hT3 := SH.sub (Es := [blkE ob 73 #[(.slice A2 ((o2).length) c2)], rowE eP 65 (.slice A2 ((o2).length) c2) o2]) hS10
  refine WL.call rfl (XC.fn Try.func49 (by kernel_rfl) rfl rfl rfl) (add_calls (out := (o2 : List (Int × Int))) (i := ((i + (a.length : Int)) - (elst a b : Int))) (j := ((j + (b.length : Int)) - (elst a b : Int))) (n := (elst a b : Int)) hT3 (by omega) (by omega) (by omega) (by omega) (by omega)) ?_
  rintro v_ w4 ⟨A3, c3, o3, rfl, ho3, hol3, hU3⟩
  have hS11 := SH.back (Es := [blkE ob 73 #[(.slice A2 ((o2).length) c2)], rowE eP 65 (.slice A2 ((o2).length) c2) o2]) hS10 hU3
  refine WL.nil (?_)
  exact ⟨_, fun a ha => res0 rfl, _, _, _, rfl, find_fin ho1 ho2 ho3, (by omega), hS11⟩

set_option maxHeartbeats 2000000 in
theorem inner_step0 {N : Nat} (IH : FindN N) {w : World} {S : Nat → Prop} {ob : Nat} {A : Option Addr} {c : Nat} {out : List (Int × Int)} {A_a : Option Addr} {n_a c_a : Nat} {a : List Int} {A_b : Option Addr} {n_b c_b : Nat} {b : List Int} {i j : Int} (h_a : St S w (Rd eI (.slice A_a n_a c_a) a)) (hn_a : a.length = n_a) (h_b : St S w (Rd eI (.slice A_b n_b c_b) b)) (hn_b : b.length = n_b) (hS0 : SH w S w [blkE ob 73 #[(.slice A ((out).length) c)], rowE eP 65 (.slice A ((out).length) c) out]) (hl : out.length + a.length + b.length ≤ 100000) (ha4 : a.length ≤ 400) (hb4 : b.length ≤ 400) (hi : 0 ≤ i ∧ i + a.length ≤ 100000) (hj : 0 ≤ j ∧ j + b.length ≤ 100000) (hap : Apart a b) (hN : a.length + b.length ≤ N) :
    Calls Try.prog 50 #[(.pointer (some ⟨ob, 0, none⟩)), (.slice A_a n_a c_a), (.slice A_b n_b c_b), (.int .i64 i), (.int .i64 j)] w fun e w' => ∃ v, e = .returned v ∧ (fun v w' => ∃ (A' : Option Addr) (c' : Nat) (o' : List (Int × Int)), v = .tuple #[] ∧ o' = out ++ mvd (PR a b) i j ∧ 2 * o'.length ≤ 2 * out.length + a.length + b.length ∧ SH w S w' [blkE ob 73 #[(.slice A' ((o').length) c')], rowE eP 65 (.slice A' ((o').length) c') o']) v w' := by
  subst hn_a hn_b
  have hup := ANC_up a b
  have hal_ := hup.len
  have hS : SH w S w [blkE ob 73 #[(.slice A ((out).length) c)], rowE eP 65 (.slice A ((out).length) c) out] := hS0
  refine calls (l := litOf [(.pointer (some ⟨ob, 0, none⟩)), (.slice A_a a.length c_a), (.slice A_b b.length c_b), (.int .i64 i), (.int .i64 j)] 0) Try.func50 rfl (n := 101) rfl (Nat.le_of_ble_eq_true rfl) (lit_args _) ?_
  refine WC.seq ?_
  refine WC.region ?_
  iterate 2 refine WL.lv rfl (LV.mv rfl) ?_
  refine WL.call rfl (XC.fn Try.func55 (by kernel_rfl) rfl rfl rfl) (anchors_calls  (SH.stN hS h_a) rfl (SH.stN hS h_b) rfl (by omega) (by omega)) ?_
  rintro v_ w1 ⟨A1, c1, rfl, hS1⟩
  have hS2 := SH.joinN hS hS1
  refine WL.lv rfl (LV.asg rfl) ?_
  refine WL.nil (thenQ.n ?_)
  iterate 2 refine WC.seq ?_
  refine WC.region ?_
  refine WL.lv rfl (LV.mv rfl) ?_
  refine WL.lv rfl (LV.lenL Try.underlying63 rfl) ?_
  refine WL.lv rfl (LV.eqI rfl rfl) ?_
  refine WL.nil (thenQ.n ?_)
  refine WC.condP (p := ((ANC a b).length : Int) = 0) rfl (fun hc1 => ?_) (fun hc1 => ?_)
  · have hpl_ := Prs_len (a := a) (b := b) (by omega) (by omega)
    have hdb_ := Dst_bd a b
    iterate 2 refine WC.seq ?_
    refine WC.region ?_
    iterate 2 refine WL.lv rfl (LV.mv rfl) ?_
    refine WL.call rfl (XC.fn Try.func56 (by kernel_rfl) rfl rfl rfl) (pairs7_eq rfl rfl (SH.stN hS2 h_a) (SH.stN hS2 h_b) rfl rfl) ?_
    rintro v_ w2 ⟨A2, c2, rfl, hS3⟩
    have hS4 := SH.joinN hS2 hS3
    refine WL.lv rfl (LV.lenL Try.underlying63 rfl) ?_
    refine WL.lv rfl (LV.mv rfl) ?_
    refine WL.nil (thenQ.n ?_)
    refine WC.block ?_
    have hS5 : SH w S w2 [blkE ob 73 #[(.slice A ((out).length) c)], rowE eP 65 (.slice A ((out).length) c) out, rowE eP 65 (.slice A2 ((Prs a b).length) c2) (Prs a b)] := (SH.take 3 rfl (SH.front [rowE eP 65 (.slice A ((out).length) c) out, rowE eP 65 (.slice A2 ((Prs a b).length) c2) (Prs a b), rowE eP 65 (.slice A1 ((ANC a b).length) c1) (ANC a b)] (SH.front [rowE eP 65 (.slice A2 ((Prs a b).length) c2) (Prs a b), rowE eP 65 (.slice A1 ((ANC a b).length) c1) (ANC a b), blkE ob 73 #[(.slice A ((out).length) c)]] hS4)))
    refine WC.loop (fun m_ f_ w_ => ∃ (ix : Int) (Az : Option Addr) (cz : Nat) (o2 : List (Int × Int)), (0 ≤ ix) ∧ (ix ≤ (Prs a b).length) ∧ (o2 = out ++ mvd ((Prs a b).take ix.toNat) i j) ∧ ((o2.length : Int) = out.length + ix) ∧ SH w S w_ [blkE ob 73 #[(.slice Az ((o2).length) cz)], rowE eP 65 (.slice Az ((o2).length) cz) o2, rowE eP 65 (.slice A2 ((Prs a b).length) c2) (Prs a b)] ∧ m_ = ((((Prs a b).length : Int) - ix).toNat) ∧ Weak (lit [(0, (.pointer (some ⟨ob, 0, none⟩))), (1, (.slice A_a a.length c_a)), (2, (.slice A_b b.length c_b)), (3, (.int .i64 i)), (4, (.int .i64 j)), (25, (.slice A2 ((Prs a b).length) c2)), (26, (.int .i64 ((Prs a b).length : Int))), (27, (.int .i64 ix))]) f_) _ ⟨0, A, c, out, by omega, by omega, (by simp [mvd]), by omega, hS5, rfl, Weak.cons rfl <| Weak.cons rfl <| Weak.cons rfl <| Weak.cons rfl <| Weak.cons rfl <| Weak.cons rfl <| Weak.cons rfl <| Weak.cons rfl <| Weak.nil _⟩ ?_
    rintro m1 f1 w3 ⟨ix, Az, cz, o2, q0, q1, q2, q3, hL1, rfl, hw1⟩
    refine WC.weak hw1 ?_
    clear hw1
    refine WC.seq ?_
    refine WC.region ?_
    refine WL.lv rfl (LV.ltI rfl rfl) ?_
    refine WL.nil (thenQ.n ?_)
    refine WC.seq ?_
    refine WC.condP (p := ix < ((Prs a b).length : Int)) rfl (fun hk => ?_) (fun hk => ?_)
    · have hpo_ := Prs_ok (a := a) (b := b) (by omega) (by omega) q0 hk
      refine WC.skip (thenQ.n ?_)
      refine WC.seq ?_
      refine WC.block ?_
      refine WC.seq ?_
      refine WC.region ?_
      obtain ⟨A3, c3, e1, g1⟩ := St.elt (SH.rd hL1 (.tail _ (.tail _ (.head _)))) (0, 0) ix (by omega) (by omega)
      refine WL.lv rfl (LV.idxA Try.underlying63 ti65.sz rfl e1 rfl (by omega) (by omega)) ?_
      refine WL.lv rfl (LV.loadAgg (cs := [(.int .i64 (((Prs a b).getD (ix).toNat (0, 0)).1)), (.int .i64 (((Prs a b).getD (ix).toNat (0, 0)).2))]) Try.underlying65 rfl ti65 rfl rfl (fun j u hu => g1 _ (KB.refl No _) j u hu)) ?_
      refine WL.xe rfl (XE.alloc #[(.int .i64 0), (.int .i64 0)] hL1 ti65 rfl) ?_
      rintro _ w4 ⟨b1, rfl, hS6, hk1⟩
      refine WL.xse rfl (XSE.blkAgg #[(.int .i64 (((Prs a b).getD (ix).toNat (0, 0)).1)), (.int .i64 (((Prs a b).getD (ix).toNat (0, 0)).2))] hS6 (by kernel_rfl) rfl (by kernel_rfl) rfl rfl) ?_
      rintro w5 ⟨hS7, hk2⟩
      refine WL.nil (thenQ.n ?_)
      refine WC.region ?_
      iterate 2 refine WL.lv rfl (LV.mv rfl) ?_
      refine WL.lv rfl (LV.idxArr Try.underlying65 ti3.sz rfl rfl (by decide) (by decide)) ?_
      refine WL.lv rfl (LV.load1 Try.underlying3 rfl rfl (Blk.cellN (SH.at hS7 (.head _)) 0 rfl _ (KB.refl No _))) ?_
      refine WL.lv rfl (LV.add rfl rfl (wr64 (by omega) (by omega))) ?_
      refine WL.lv rfl (LV.mv rfl) ?_
      refine WL.lv rfl (LV.idxArr Try.underlying65 ti3.sz rfl rfl (by decide) (by decide)) ?_
      refine WL.lv rfl (LV.load1 Try.underlying3 rfl rfl (Blk.cellN (SH.at hS7 (.head _)) 1 rfl _ (KB.refl No _))) ?_
      refine WL.lv rfl (LV.add rfl rfl (wr64 (by omega) (by omega))) ?_
      have hS8 : SH w S w5 [rowE eP 65 (.slice Az ((o2).length) cz) o2, blkE b1 65 #[(.int .i64 (((Prs a b).getD (ix).toNat (0, 0)).1)), (.int .i64 (((Prs a b).getD (ix).toNat (0, 0)).2))], blkE ob 73 #[(.slice Az ((o2).length) cz)], rowE eP 65 (.slice A2 ((Prs a b).length) c2) (Prs a b)] := (SH.front [blkE b1 65 #[(.int .i64 (((Prs a b).getD (ix).toNat (0, 0)).1)), (.int .i64 (((Prs a b).getD (ix).toNat (0, 0)).2))], blkE ob 73 #[(.slice Az ((o2).length) cz)]] hS7)
      have hS9 : SH w S w5 [blkE ob 73 #[(.slice Az ((o2).length) cz)], rowE eP 65 (.slice Az ((o2).length) cz) o2, blkE b1 65 #[(.int .i64 (((Prs a b).getD (ix).toNat (0, 0)).1)), (.int .i64 (((Prs a b).getD (ix).toNat (0, 0)).2))], rowE eP 65 (.slice A2 ((Prs a b).length) c2) (Prs a b)] := (SH.front [rowE eP 65 (.slice Az ((o2).length) cz) o2, blkE b1 65 #[(.int .i64 (((Prs a b).getD (ix).toNat (0, 0)).1)), (.int .i64 (((Prs a b).getD (ix).toNat (0, 0)).2))]] hS8)
      have hT1 := SH.sub (Es := [blkE ob 73 #[(.slice Az ((o2).length) cz)], rowE eP 65 (.slice Az ((o2).length) cz) o2]) hS9
      refine WL.call rfl (XC.fn Try.func49 (by kernel_rfl) rfl rfl rfl) (add_calls (out := (o2 : List (Int × Int))) (i := (i + (((Prs a b).getD (ix).toNat (0, 0)).1))) (j := (j + (((Prs a b).getD (ix).toNat (0, 0)).2))) (n := (1 : Int)) hT1 (by omega) (by omega) (by omega) (by omega) (by omega)) ?_
      rintro v_ w6 ⟨A4, c4, o1, rfl, ho1, hol1, hU1⟩
      have hS10 := SH.back (Es := [blkE ob 73 #[(.slice Az ((o2).length) cz)], rowE eP 65 (.slice Az ((o2).length) cz) o2]) hS9 hU1
      refine WL.nil (blockQ.n <| thenQ.n ?_)
      refine WC.region ?_
      refine WL.lv rfl (LV.add rfl rfl (wr64 (by omega) (by omega))) ?_
      refine WL.lv rfl (LV.mv rfl) ?_
      refine WL.nil (thenQ.n ?_)
      have hS11 : SH w S w6 [blkE ob 73 #[(.slice A4 ((o1).length) c4)], rowE eP 65 (.slice A4 ((o1).length) c4) o1, rowE eP 65 (.slice A2 ((Prs a b).length) c2) (Prs a b)] := (SH.take 3 rfl (SH.front [rowE eP 65 (.slice A4 ((o1).length) c4) o1, rowE eP 65 (.slice A2 ((Prs a b).length) c2) (Prs a b)] (SH.front [rowE eP 65 (.slice A2 ((Prs a b).length) c2) (Prs a b), blkE ob 73 #[(.slice A4 ((o1).length) c4)]] (SH.front [blkE ob 73 #[(.slice A4 ((o1).length) c4)], rowE eP 65 (.slice A4 ((o1).length) c4) o1, blkE b1 65 #[(.int .i64 (((Prs a b).getD (ix).toNat (0, 0)).1)), (.int .i64 (((Prs a b).getD (ix).toNat (0, 0)).2))]] hS10))))
      exact ⟨_, by omega, ix + 1, A4, c4, o1, by omega, by omega, (by rw [ho1, q2, List.append_assoc]; congr 1; exact mvd_snoc' q0 hk), by omega, hS11, rfl, Weak.cons rfl <| Weak.cons rfl <| Weak.cons rfl <| Weak.cons rfl <| Weak.cons rfl <| Weak.cons rfl <| Weak.cons rfl <| Weak.cons rfl <| Weak.nil _⟩
    · skip
      refine WC.exit (thenQ.x <| thenQ.x <| blockQ.hit <| thenQ.n ?_)
      refine WC.ret (thenQ.r <| ?_)
      have hS12 : SH w S w3 [blkE ob 73 #[(.slice Az ((o2).length) cz)], rowE eP 65 (.slice Az ((o2).length) cz) o2] := (SH.take 2 rfl (SH.front [rowE eP 65 (.slice Az ((o2).length) cz) o2] (SH.front [blkE ob 73 #[(.slice Az ((o2).length) cz)]] hL1)))
      exact ⟨_, fun a ha => res0 rfl, _, _, _, rfl, (by rw [q2, take_all (by omega), inner_none ha4 hb4 hap (by omega)]), (by have h_ := Prs_len (a := a) (b := b) (by omega) (by omega); have h2_ := Dst_bd a b; omega), hS12⟩
  · skip
    refine WC.skip (thenQ.n ?_)
    refine WC.seq ?_
    refine WC.region ?_
    iterate 2 refine WL.lv rfl (LV.asg rfl) ?_
    refine WL.nil (thenQ.n ?_)
    iterate 2 refine WC.seq ?_
    refine WC.region ?_
    refine WL.lv rfl (LV.mv rfl) ?_
    refine WL.lv rfl (LV.lenL Try.underlying63 rfl) ?_
    refine WL.lv rfl (LV.mv rfl) ?_
    refine WL.nil (thenQ.n ?_)
    refine WC.block ?_
    have hS13 : SH w S w1 [blkE ob 73 #[(.slice A ((out).length) c)], rowE eP 65 (.slice A ((out).length) c) out, rowE eP 65 (.slice A1 ((ANC a b).length) c1) (ANC a b)] := (SH.front [rowE eP 65 (.slice A ((out).length) c) out, rowE eP 65 (.slice A1 ((ANC a b).length) c1) (ANC a b)] (SH.front [rowE eP 65 (.slice A1 ((ANC a b).length) c1) (ANC a b), blkE ob 73 #[(.slice A ((out).length) c)]] hS2))
    refine WC.loop (fun m_ f_ w_ => ∃ (k x y : Int) (Az : Option Addr) (cz : Nat) (o2 : List (Int × Int)), (0 ≤ k) ∧ (k ≤ (ANC a b).length) ∧ (0 ≤ x ∧ (k = 0 ∨ 1 ≤ x)) ∧ (0 ≤ y) ∧ (x ≤ a.length) ∧ (y ≤ b.length) ∧ (∀ t : Int, k ≤ t → t < (ANC a b).length → x ≤ ((ANC a b).getD t.toNat (0, 0)).1 ∧ y ≤ ((ANC a b).getD t.toNat (0, 0)).2) ∧ (o2 ++ mvd (seg PR a b ((ANC a b).drop k.toNat) x y) i j = out ++ mvd (PR a b) i j) ∧ (2 * (o2.length : Int) ≤ 2 * out.length + x + y) ∧ SH w S w_ [blkE ob 73 #[(.slice Az ((o2).length) cz)], rowE eP 65 (.slice Az ((o2).length) cz) o2, rowE eP 65 (.slice A1 ((ANC a b).length) c1) (ANC a b)] ∧ m_ = ((((ANC a b).length : Int) - k).toNat) ∧ Weak (lit [(0, (.pointer (some ⟨ob, 0, none⟩))), (1, (.slice A_a a.length c_a)), (2, (.slice A_b b.length c_b)), (3, (.int .i64 i)), (4, (.int .i64 j)), (10, (.slice A1 ((ANC a b).length) c1)), (13, (.int .i64 x)), (14, (.int .i64 y)), (42, (.slice A1 ((ANC a b).length) c1)), (43, (.int .i64 ((ANC a b).length : Int))), (44, (.int .i64 k))]) f_) _ ⟨0, 0, 0, A, c, out, by omega, by omega, by omega, by omega, by omega, by omega, (fun t h1_ h2_ => by have h_ := hup.at (t := t) (by omega) h2_; omega), (inner_0 hap (by omega)), by omega, hS13, rfl, Weak.cons rfl <| Weak.cons rfl <| Weak.cons rfl <| Weak.cons rfl <| Weak.cons rfl <| Weak.cons rfl <| Weak.cons rfl <| Weak.cons rfl <| Weak.cons rfl <| Weak.cons rfl <| Weak.cons rfl <| Weak.nil _⟩ ?_
    rintro m2 f2 w7 ⟨k, x, y, Az, cz, o2, klo, khi, x0, y0, x1, y1, xk, s1, s2, hL2, rfl, hw2⟩
    refine WC.weak hw2 ?_
    clear hw2
    refine WC.seq ?_
    refine WC.region ?_
    refine WL.lv rfl (LV.ltI rfl rfl) ?_
    refine WL.nil (thenQ.n ?_)
    refine WC.seq ?_
    refine WC.condP (p := k < ((ANC a b).length : Int)) rfl (fun hk => ?_) (fun hk => ?_)
    · have hp_ := hup.at klo hk
      have hp0_ := hp_.1
      have hp1_ := hp_.2.1
      have hp2_ := hp_.2.2.1
      have hp3_ := hp_.2.2.2.1
      have hp4_ := hp_.2.2.2.2
      have hxk_ := xk k (by omega) hk
      refine WC.skip (thenQ.n ?_)
      refine WC.seq ?_
      refine WC.block ?_
      refine WC.seq ?_
      refine WC.region ?_
      obtain ⟨A5, c5, e2, g2⟩ := St.elt (SH.rd hL2 (.tail _ (.tail _ (.head _)))) (0, 0) k (by omega) (by omega)
      refine WL.lv rfl (LV.idxA Try.underlying63 ti65.sz rfl e2 rfl (by omega) (by omega)) ?_
      refine WL.lv rfl (LV.loadAgg (cs := [(.int .i64 (((ANC a b).getD (k).toNat (0, 0)).1)), (.int .i64 (((ANC a b).getD (k).toNat (0, 0)).2))]) Try.underlying65 rfl ti65 rfl rfl (fun j u hu => g2 _ (KB.refl No _) j u hu)) ?_
      refine WL.xe rfl (XE.alloc #[(.int .i64 0), (.int .i64 0)] hL2 ti65 rfl) ?_
      rintro _ w8 ⟨b2, rfl, hS14, hk3⟩
      refine WL.xse rfl (XSE.blkAgg #[(.int .i64 (((ANC a b).getD (k).toNat (0, 0)).1)), (.int .i64 (((ANC a b).getD (k).toNat (0, 0)).2))] hS14 (by kernel_rfl) rfl (by kernel_rfl) rfl rfl) ?_
      rintro w9 ⟨hS15, hk4⟩
      refine WL.nil (thenQ.n ?_)
      refine WC.seq ?_
      have hS16 := SH.drew hS15
      refine WC.regionD [21] (fun w_ => KB No w9.drew w_) [(.pure, 0), (.pure, 1), (.pure, 2), (.pure, 3), (.look, 4), (.pure, 5), (.look, 6), (.pure, 7), (.pure, 8), (.pure, 9), (.pure, 10), (.look, 11), (.pure, 12), (.look, 13), (.pure, 14), (.pure, 15), (.pure, 16), (.pure, 17), (.pure, 18), (.pure, 19), (.pure, 20), (.forced, 21)] (by kernel_rfl) (by kernel_rfl) (KB.refl _ _) ?_
      iterate 3 refine WS.pure rfl rfl (fun _ => LV.mv rfl) ?_
      refine WS.pure rfl rfl (fun _ => LV.idxArr Try.underlying65 ti3.sz rfl rfl (by decide) (by decide)) ?_
      refine WS.look rfl rfl (fun _ hk_ => LV.load1 Try.underlying3 rfl rfl (Blk.cellN (SH.at hS16 (.head _)) 0 rfl _ hk_)) ?_
      refine WS.pure rfl rfl (fun _ => LV.idxArr Try.underlying65 ti3.sz rfl rfl (by decide) (by decide)) ?_
      refine WS.look rfl rfl (fun _ hk_ => LV.load1 Try.underlying3 rfl rfl (Blk.cellN (SH.at hS16 (.head _)) 0 rfl _ hk_)) ?_
      have hcap1 : a.length ≤ c_a := (Rd.cap (St.now (SH.stN hS16 h_a)))
      refine WS.pure rfl rfl (fun _ => LV.cut Try.underlying54 ti3.sz rfl rfl rfl rfl ⟨.inr ⟨.i64, by rw [Int.toNat_of_nonneg (a := x) (by omega)] <;> rfl⟩, .inr ⟨.i64, by rw [Int.toNat_of_nonneg (a := ((ANC a b).getD (k).toNat (0, 0)).1) (by omega)] <;> rfl⟩, .inr ⟨.i64, by rw [Int.toNat_of_nonneg (a := ((ANC a b).getD (k).toNat (0, 0)).1) (by omega)] <;> rfl⟩⟩ (by omega) (by omega) (by omega)) ?_
      iterate 2 refine WS.pure rfl rfl (fun _ => LV.mv rfl) ?_
      refine WS.pure rfl rfl (fun _ => LV.idxArr Try.underlying65 ti3.sz rfl rfl (by decide) (by decide)) ?_
      refine WS.look rfl rfl (fun _ hk_ => LV.load1 Try.underlying3 rfl rfl (Blk.cellN (SH.at hS16 (.head _)) 1 rfl _ hk_)) ?_
      refine WS.pure rfl rfl (fun _ => LV.idxArr Try.underlying65 ti3.sz rfl rfl (by decide) (by decide)) ?_
      refine WS.look rfl rfl (fun _ hk_ => LV.load1 Try.underlying3 rfl rfl (Blk.cellN (SH.at hS16 (.head _)) 1 rfl _ hk_)) ?_
      have hcap2 : b.length ≤ c_b := (Rd.cap (St.now (SH.stN hS16 h_b)))
      refine WS.pure rfl rfl (fun _ => LV.cut Try.underlying54 ti3.sz rfl rfl rfl rfl ⟨.inr ⟨.i64, by rw [Int.toNat_of_nonneg (a := y) (by omega)] <;> rfl⟩, .inr ⟨.i64, by rw [Int.toNat_of_nonneg (a := ((ANC a b).getD (k).toNat (0, 0)).2) (by omega)] <;> rfl⟩, .inr ⟨.i64, by rw [Int.toNat_of_nonneg (a := ((ANC a b).getD (k).toNat (0, 0)).2) (by omega)] <;> rfl⟩⟩ (by omega) (by omega) (by omega)) ?_
      iterate 2 refine WS.pure rfl rfl (fun _ => LV.mv rfl) ?_
      refine WS.pure rfl rfl (fun _ => LV.add rfl rfl (wr64 (by omega) (by omega))) ?_
      iterate 2 refine WS.pure rfl rfl (fun _ => LV.mv rfl) ?_
      refine WS.pure rfl rfl (fun _ => LV.add rfl rfl (wr64 (by omega) (by omega))) ?_
      have hS17 : SH w S w9.drew [rowE eP 65 (.slice Az ((o2).length) cz) o2, blkE b2 65 #[(.int .i64 (((ANC a b).getD (k).toNat (0, 0)).1)), (.int .i64 (((ANC a b).getD (k).toNat (0, 0)).2))], blkE ob 73 #[(.slice Az ((o2).length) cz)], rowE eP 65 (.slice A1 ((ANC a b).length) c1) (ANC a b)] := (SH.front [blkE b2 65 #[(.int .i64 (((ANC a b).getD (k).toNat (0, 0)).1)), (.int .i64 (((ANC a b).getD (k).toNat (0, 0)).2))], blkE ob 73 #[(.slice Az ((o2).length) cz)]] hS16)
      have hS18 : SH w S w9.drew [blkE ob 73 #[(.slice Az ((o2).length) cz)], rowE eP 65 (.slice Az ((o2).length) cz) o2, blkE b2 65 #[(.int .i64 (((ANC a b).getD (k).toNat (0, 0)).1)), (.int .i64 (((ANC a b).getD (k).toNat (0, 0)).2))], rowE eP 65 (.slice A1 ((ANC a b).length) c1) (ANC a b)] := (SH.front [rowE eP 65 (.slice Az ((o2).length) cz) o2, blkE b2 65 #[(.int .i64 (((ANC a b).getD (k).toNat (0, 0)).1)), (.int .i64 (((ANC a b).getD (k).toNat (0, 0)).2))]] hS17)
      have hT2 := SH.sub (Es := [blkE ob 73 #[(.slice Az ((o2).length) cz)], rowE eP 65 (.slice Az ((o2).length) cz) o2]) hS18
      refine WS.call rfl rfl (XC.fn Try.func44 (by kernel_rfl) rfl rfl rfl) (IH (out := (o2 : List (Int × Int))) (i := (i + x)) (j := (j + y)) ((SH.stA (Es := [blkE ob 73 #[(.slice Az ((o2).length) cz)], rowE eP 65 (.slice Az ((o2).length) cz) o2]) hS18 h_a).imp fun _ h => Rd.cut h (by omega) (by omega) (by omega) (by omega)) (by first | rfl | (simp only [List.length_drop, List.length_take]; omega)) ((SH.stA (Es := [blkE ob 73 #[(.slice Az ((o2).length) cz)], rowE eP 65 (.slice Az ((o2).length) cz) o2]) hS18 h_b).imp fun _ h => Rd.cut h (by omega) (by omega) (by omega) (by omega)) (by first | rfl | (simp only [List.length_drop, List.length_take]; omega)) hT2 (by simp only [List.length_drop, List.length_take]; omega) (by simp only [List.length_drop, List.length_take]; omega) (by simp only [List.length_drop, List.length_take]; omega) (by simp only [List.length_drop, List.length_take]; omega) (by simp only [List.length_drop, List.length_take]; omega) (by simp only [List.length_drop, List.length_take]; omega)) ?_
      rintro v_ w10 ⟨A6, c6, o3, rfl, ho2, hol2, hU2⟩
      try simp only [List.length_drop, List.length_take] at hol2
      have hS19 := SH.back (Es := [blkE ob 73 #[(.slice Az ((o2).length) cz)], rowE eP 65 (.slice Az ((o2).length) cz) o2]) hS18 hU2
      refine ⟨fun h_ => (by cases h_), ?_⟩
      refine WS.nil (thenQ.n ?_)
      refine WC.seq ?_
      refine WC.region ?_
      iterate 2 refine WL.lv rfl (LV.mv rfl) ?_
      refine WL.lv rfl (LV.idxArr Try.underlying65 ti3.sz rfl rfl (by decide) (by decide)) ?_
      refine WL.lv rfl (LV.load1 Try.underlying3 rfl rfl (Blk.cellN (SH.at hS19 (.tail _ (.tail _ (.head _)))) 0 rfl _ (KB.refl No _))) ?_
      refine WL.lv rfl (LV.add rfl rfl (wr64 (by omega) (by omega))) ?_
      refine WL.lv rfl (LV.mv rfl) ?_
      refine WL.lv rfl (LV.idxArr Try.underlying65 ti3.sz rfl rfl (by decide) (by decide)) ?_
      refine WL.lv rfl (LV.load1 Try.underlying3 rfl rfl (Blk.cellN (SH.at hS19 (.tail _ (.tail _ (.head _)))) 1 rfl _ (KB.refl No _))) ?_
      refine WL.lv rfl (LV.add rfl rfl (wr64 (by omega) (by omega))) ?_
      have hS20 : SH w S w10 [rowE eP 65 (.slice A6 ((o3).length) c6) o3, blkE ob 73 #[(.slice A6 ((o3).length) c6)], blkE b2 65 #[(.int .i64 (((ANC a b).getD (k).toNat (0, 0)).1)), (.int .i64 (((ANC a b).getD (k).toNat (0, 0)).2))], rowE eP 65 (.slice A1 ((ANC a b).length) c1) (ANC a b)] := (SH.front [blkE ob 73 #[(.slice A6 ((o3).length) c6)]] hS19)
      have hS21 : SH w S w10 [blkE ob 73 #[(.slice A6 ((o3).length) c6)], rowE eP 65 (.slice A6 ((o3).length) c6) o3, blkE b2 65 #[(.int .i64 (((ANC a b).getD (k).toNat (0, 0)).1)), (.int .i64 (((ANC a b).getD (k).toNat (0, 0)).2))], rowE eP 65 (.slice A1 ((ANC a b).length) c1) (ANC a b)] := (SH.front [rowE eP 65 (.slice A6 ((o3).length) c6) o3] hS20)
      have hT3 := SH.sub (Es := [blkE ob 73 #[(.slice A6 ((o3).length) c6)], rowE eP 65 (.slice A6 ((o3).length) c6) o3]) hS21
      refine WL.call rfl (XC.fn Try.func49 (by kernel_rfl) rfl rfl rfl) (add_calls (out := (o3 : List (Int × Int))) (i := (i + (((ANC a b).getD (k).toNat (0, 0)).1))) (j := (j + (((ANC a b).getD (k).toNat (0, 0)).2))) (n := (1 : Int)) hT3 (by omega) (by omega) (by omega) (by omega) (by omega)) ?_
      rintro v_ w11 ⟨A7, c7, o4, rfl, ho3, hol3, hU3⟩
      have hS22 := SH.back (Es := [blkE ob 73 #[(.slice A6 ((o3).length) c6)], rowE eP 65 (.slice A6 ((o3).length) c6) o3]) hS21 hU3
      refine WL.nil (thenQ.n ?_)
      have hS23 := SH.drew hS22
      refine WC.regionD [] (fun w_ => KB No w11.drew w_) [(.pure, 0), (.look, 1), (.pure, 2), (.pure, 3), (.look, 4), (.pure, 5), (.pure, 6), (.pure, 7)] (by kernel_rfl) (by kernel_rfl) (KB.refl _ _) ?_
      refine WS.pure rfl rfl (fun _ => LV.idxArr Try.underlying65 ti3.sz rfl rfl (by decide) (by decide)) ?_
      refine WS.look rfl rfl (fun _ hk_ => LV.load1 Try.underlying3 rfl rfl (Blk.cellN (SH.at hS23 (.tail _ (.tail _ (.head _)))) 0 rfl _ hk_)) ?_
      refine WS.pure rfl rfl (fun _ => LV.add rfl rfl (wr64 (by omega) (by omega))) ?_
      refine WS.pure rfl rfl (fun _ => LV.idxArr Try.underlying65 ti3.sz rfl rfl (by decide) (by decide)) ?_
      refine WS.look rfl rfl (fun _ hk_ => LV.load1 Try.underlying3 rfl rfl (Blk.cellN (SH.at hS23 (.tail _ (.tail _ (.head _)))) 1 rfl _ hk_)) ?_
      refine WS.pure rfl rfl (fun _ => LV.add rfl rfl (wr64 (by omega) (by omega))) ?_
      iterate 2 refine WS.pure rfl rfl (fun _ => LV.asg rfl) ?_
      refine WS.nil (blockQ.n <| thenQ.n ?_)
      refine WC.region ?_
      refine WL.lv rfl (LV.add rfl rfl (wr64 (by omega) (by omega))) ?_
      refine WL.lv rfl (LV.mv rfl) ?_
      refine WL.nil (thenQ.n ?_)
      have hS24 : SH w S w11.drew [blkE ob 73 #[(.slice A7 ((o4).length) c7)], rowE eP 65 (.slice A7 ((o4).length) c7) o4, rowE eP 65 (.slice A1 ((ANC a b).length) c1) (ANC a b)] := (SH.take 3 rfl (SH.front [rowE eP 65 (.slice A7 ((o4).length) c7) o4, rowE eP 65 (.slice A1 ((ANC a b).length) c1) (ANC a b)] (SH.front [rowE eP 65 (.slice A1 ((ANC a b).length) c1) (ANC a b), blkE ob 73 #[(.slice A7 ((o4).length) c7)]] (SH.front [blkE ob 73 #[(.slice A7 ((o4).length) c7)], rowE eP 65 (.slice A7 ((o4).length) c7) o4, blkE b2 65 #[(.int .i64 (((ANC a b).getD (k).toNat (0, 0)).1)), (.int .i64 (((ANC a b).getD (k).toNat (0, 0)).2))]] hS23))))
      exact ⟨_, by omega, k + 1, (((ANC a b).getD (k).toNat (0, 0)).1) + 1, (((ANC a b).getD (k).toNat (0, 0)).2) + 1, A7, c7, o4, by omega, by omega, by omega, by omega, by omega, by omega, (fun t h1_ h2_ => by have h_ := hp4_ t (by omega) h2_; omega), (inner_step klo hk ho2 ho3 s1), by omega, hS24, rfl, Weak.cons rfl <| Weak.cons rfl <| Weak.cons rfl <| Weak.cons rfl <| Weak.cons rfl <| Weak.cons rfl <| Weak.cons rfl <| Weak.cons rfl <| Weak.cons rfl <| Weak.cons rfl <| Weak.cons rfl <| Weak.nil _⟩
    · skip
      refine WC.exit (thenQ.x <| thenQ.x <| blockQ.hit <| thenQ.n ?_)
      have hS25 := SH.drew hL2
      refine WC.regionD [13] (fun w_ => KB No w7.drew w_) [(.pure, 0), (.pure, 1), (.pure, 2), (.pure, 3), (.pure, 4), (.pure, 5), (.pure, 6), (.pure, 7), (.pure, 8), (.pure, 9), (.pure, 10), (.pure, 11), (.pure, 12), (.forced, 13)] (by kernel_rfl) (by kernel_rfl) (KB.refl _ _) ?_
      iterate 3 refine WS.pure rfl rfl (fun _ => LV.mv rfl) ?_
      have hcap3 : a.length ≤ c_a := (Rd.cap (St.now (SH.stN hS25 h_a)))
      refine WS.pure rfl rfl (fun _ => LV.cut Try.underlying54 ti3.sz rfl rfl rfl rfl ⟨.inr ⟨.i64, by rw [Int.toNat_of_nonneg (a := x) (by omega)] <;> rfl⟩, .inl ⟨rfl, rfl, rfl⟩, .inl ⟨rfl, rfl⟩⟩ (by omega) (by omega) (by omega)) ?_
      iterate 2 refine WS.pure rfl rfl (fun _ => LV.mv rfl) ?_
      have hcap4 : b.length ≤ c_b := (Rd.cap (St.now (SH.stN hS25 h_b)))
      refine WS.pure rfl rfl (fun _ => LV.cut Try.underlying54 ti3.sz rfl rfl rfl rfl ⟨.inr ⟨.i64, by rw [Int.toNat_of_nonneg (a := y) (by omega)] <;> rfl⟩, .inl ⟨rfl, rfl, rfl⟩, .inl ⟨rfl, rfl⟩⟩ (by omega) (by omega) (by omega)) ?_
      iterate 2 refine WS.pure rfl rfl (fun _ => LV.mv rfl) ?_
      refine WS.pure rfl rfl (fun _ => LV.add rfl rfl (wr64 (by omega) (by omega))) ?_
      iterate 2 refine WS.pure rfl rfl (fun _ => LV.mv rfl) ?_
      refine WS.pure rfl rfl (fun _ => LV.add rfl rfl (wr64 (by omega) (by omega))) ?_
      have hS26 : SH w S w7.drew [rowE eP 65 (.slice Az ((o2).length) cz) o2, blkE ob 73 #[(.slice Az ((o2).length) cz)], rowE eP 65 (.slice A1 ((ANC a b).length) c1) (ANC a b)] := (SH.front [blkE ob 73 #[(.slice Az ((o2).length) cz)]] hS25)
      have hS27 : SH w S w7.drew [blkE ob 73 #[(.slice Az ((o2).length) cz)], rowE eP 65 (.slice Az ((o2).length) cz) o2, rowE eP 65 (.slice A1 ((ANC a b).length) c1) (ANC a b)] := (SH.front [rowE eP 65 (.slice Az ((o2).length) cz) o2] hS26)
      have hT4 := SH.sub (Es := [blkE ob 73 #[(.slice Az ((o2).length) cz)], rowE eP 65 (.slice Az ((o2).length) cz) o2]) hS27
      refine WS.call rfl rfl (XC.fn Try.func44 (by kernel_rfl) rfl rfl rfl) (IH (out := (o2 : List (Int × Int))) (i := (i + x)) (j := (j + y)) ((SH.stA (Es := [blkE ob 73 #[(.slice Az ((o2).length) cz)], rowE eP 65 (.slice Az ((o2).length) cz) o2]) hS27 h_a).imp fun _ h => Rd.cut h (by omega) (by omega) (by omega) (by omega)) (by first | rfl | (simp only [List.length_drop, List.length_take]; omega)) ((SH.stA (Es := [blkE ob 73 #[(.slice Az ((o2).length) cz)], rowE eP 65 (.slice Az ((o2).length) cz) o2]) hS27 h_b).imp fun _ h => Rd.cut h (by omega) (by omega) (by omega) (by omega)) (by first | rfl | (simp only [List.length_drop, List.length_take]; omega)) hT4 (by simp only [List.length_drop, List.length_take]; omega) (by simp only [List.length_drop, List.length_take]; omega) (by simp only [List.length_drop, List.length_take]; omega) (by simp only [List.length_drop, List.length_take]; omega) (by simp only [List.length_drop, List.length_take]; omega) (by simp only [List.length_drop, List.length_take]; omega)) ?_
      rintro v_ w12 ⟨A8, c8, o5, rfl, ho4, hol4, hU4⟩
      try simp only [List.length_drop, List.length_take] at hol4
      have hS28 := SH.back (Es := [blkE ob 73 #[(.slice Az ((o2).length) cz)], rowE eP 65 (.slice Az ((o2).length) cz) o2]) hS27 hU4
      refine ⟨fun h_ => (by cases h_), ?_⟩
      refine WS.nil (?_)
      have hS29 : SH w S w12 [blkE ob 73 #[(.slice A8 ((o5).length) c8)], rowE eP 65 (.slice A8 ((o5).length) c8) o5] := (SH.take 2 rfl (SH.front [rowE eP 65 (.slice A8 ((o5).length) c8) o5] (SH.front [blkE ob 73 #[(.slice A8 ((o5).length) c8)]] hS28)))
      exact ⟨_, fun a ha => res0 rfl, _, _, _, rfl, inner_fin (by omega) ho4 s1, (by omega), hS29⟩

theorem inner_N {N : Nat} (IH : FindN N) : InnN N := by
  unfold InnN; intros; apply inner_step0 IH <;> assumption
theorem find_N : ∀ N : Nat, FindN N := by
  intro N; induction N with
  | zero => unfold FindN; intros; omega
  | succ N ih => unfold FindN; intros; apply find_step (N := N) (inner_N ih) <;> first | assumption | omega
theorem find_calls {w : World} {S : Nat → Prop} {ob : Nat} {A : Option Addr} {c : Nat} {out : List (Int × Int)} {A_a : Option Addr} {n_a c_a : Nat} {a : List Int} {A_b : Option Addr} {n_b c_b : Nat} {b : List Int} {i j : Int} (h_a : St S w (Rd eI (.slice A_a n_a c_a) a)) (hn_a : a.length = n_a) (h_b : St S w (Rd eI (.slice A_b n_b c_b) b)) (hn_b : b.length = n_b) (hS0 : SH w S w [blkE ob 73 #[(.slice A ((out).length) c)], rowE eP 65 (.slice A ((out).length) c) out]) (hl : out.length + a.length + b.length ≤ 100000) (ha4 : a.length ≤ 400) (hb4 : b.length ≤ 400) (hi : 0 ≤ i ∧ i + a.length ≤ 100000) (hj : 0 ≤ j ∧ j + b.length ≤ 100000) : Calls Try.prog 44 #[(.pointer (some ⟨ob, 0, none⟩)), (.slice A_a n_a c_a), (.slice A_b n_b c_b), (.int .i64 i), (.int .i64 j)] w fun e w' => ∃ v, e = .returned v ∧ (fun v w' => ∃ (A' : Option Addr) (c' : Nat) (o' : List (Int × Int)), v = .tuple #[] ∧ o' = out ++ mvd (PR a b) i j ∧ 2 * o'.length ≤ 2 * out.length + a.length + b.length ∧ SH w S w' [blkE ob 73 #[(.slice A' ((o').length) c')], rowE eP 65 (.slice A' ((o').length) c') o']) v w' := by
  exact find_N (a.length + b.length + 1) h_a hn_a h_b hn_b hS0 hl ha4 hb4 hi hj (by omega)

end Go.Proofs.Ytjjilkibcomfcaa
