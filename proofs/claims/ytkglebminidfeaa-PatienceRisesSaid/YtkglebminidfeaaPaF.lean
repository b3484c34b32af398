/- Pairs, and steps. -/
import Derived.Ground.Names8Prog
import Derived.Test.YtkglebminidfeaaProg
import Derived.Test.YtkglebminidfeaaPaE
import Derived.Test.YtkglebminidfeaaGvZ
namespace Go.Proofs.Ytkglebminidfeaa
open Go Go.Gv Go.RowKit Go.Mys Go.Itn Go.Pat Go.Shelf Go.Lib
set_option linter.unusedVariables false
set_option linter.unusedSimpArgs false
theorem ti33 : TI Try.prog 33 (.slice none 0 0) 1 24 := by unfold TI; kernel_rfl
theorem ti46 : TI Try.prog 46 (.agg #[(.slice none 0 0)]) 1 24 := by unfold TI; kernel_rfl

theorem pairs27_calls {w : World} {A_a : Option Addr} {n_a c_a : Nat} {a : List Int} {A_b : Option Addr} {n_b c_b : Nat} {b : List Int} (h_a : St No w (Rd eI (.slice A_a n_a c_a) a)) (hn_a : a.length = n_a) (h_b : St No w (Rd eI (.slice A_b n_b c_b) b)) (hn_b : b.length = n_b)  :
    Calls Try.prog 15 #[(.slice A_a n_a c_a), (.slice A_b n_b c_b)] w fun e w' => ∃ v, e = .returned v ∧ (fun v w' => ∃ (A0' : Option Addr) (c0' : Nat), v = .slice A0' (PRS a b).length c0' ∧ SH w No w' [rowE eP 37 (.slice A0' (PRS a b).length c0') (PRS a b)]) v w' := by
  subst hn_a hn_b
  have hS : SH w No w [] := SH.nil _ _
  refine calls (l := litOf [(.slice A_a a.length c_a), (.slice A_b b.length c_b)] 0) Try.func15 rfl (n := 19) rfl (Nat.le_of_ble_eq_true rfl) (lit_args _) ?_
  refine WC.seq ?_
  refine WC.region ?_
  refine WL.lv rfl (LV.asg rfl) ?_
  refine WL.nil (thenQ.n ?_)
  iterate 2 refine WC.seq ?_
  refine WC.region ?_
  iterate 2 refine WL.lv rfl (LV.mv rfl) ?_
  refine WL.call rfl (XC.fn Try.func25 (by kernel_rfl) rfl rfl rfl) (long_calls) ?_
  rintro v_ w1 ⟨rfl, hk1⟩
  have hS1 := SH.same hS hk1
  refine WL.nil (thenQ.n ?_)
  refine WC.condP (p := a.length > 400 ∨ b.length > 400) rfl (fun hlong => ?_) (fun hlong => ?_)
  · skip
    refine WC.seq ?_
    refine WC.region ?_
    refine WL.lv rfl (LV.asg rfl) ?_
    refine WL.nil (thenQ.n ?_)
    refine WC.ret (thenQ.r <| ?_)
    have hS2 := SH.nilRow (E := eP) (T := 37) hS1
    have hres1 : ([] : List (Int × Int)) = PRS a b := (if_pos hlong).symm
    exact ⟨_, fun a ha => res1 rfl ha rfl, (by rw [← hres1]; exact ⟨_, _, rfl, hS2⟩)⟩
  · skip
    refine WC.skip (thenQ.n ?_)
    refine WC.seq ?_
    refine WC.region ?_
    refine WL.lv rfl (LV.build (vs := []) (places := #[(0, 1)]) (cs := #[(.slice none 0 0)]) Try.underlying46 ti46 (fun _ => by kernel_rfl) rfl rfl) ?_
    refine WL.xe rfl (XE.box #[(.slice none 0 0)] hS1 rfl rfl) ?_
    rintro _ w2 ⟨b1, rfl, hS3, hk2⟩
    refine WL.lv rfl (LV.asg rfl) ?_
    refine WL.nil (thenQ.n ?_)
    refine WC.seq ?_
    refine WC.region ?_
    iterate 3 refine WL.lv rfl (LV.mv rfl) ?_
    have hS4 := SH.nilRow (E := eP) (T := 37) hS3
    have hS5 : SH w No w2 [blkE b1 46 #[(.slice none 0 0)], rowE eP 37 (.slice none 0 0) []] := (SH.front [rowE eP 37 (.slice none 0 0) []] hS4)
    have hT1 := SH.sub (Es := [blkE b1 46 #[(.slice none 0 0)], rowE eP 37 (.slice none 0 0) []]) hS5
    refine WL.call rfl (XC.fn Try.func26 (by kernel_rfl) rfl rfl rfl) (find_calls (out := ([] : List (Int × Int))) (i := (0 : Int)) (j := (0 : Int)) (SH.stA (Es := [blkE b1 46 #[(.slice none 0 0)], rowE eP 37 (.slice none 0 0) []]) hS5 h_a) rfl (SH.stA (Es := [blkE b1 46 #[(.slice none 0 0)], rowE eP 37 (.slice none 0 0) []]) hS5 h_b) rfl hT1 (by simp only [List.length_nil]; omega) (by omega) (by omega) (by omega) (by omega)) ?_
    rintro v_ w3 ⟨A1, c1, o1, rfl, ho1, hol1, hU1⟩
    try simp only [List.length_drop, List.length_take] at hol1
    have hS6 := SH.back (Es := [blkE b1 46 #[(.slice none 0 0)], rowE eP 37 (.slice none 0 0) []]) hS5 hU1
    refine WL.nil (thenQ.n ?_)
    refine WC.seq ?_
    refine WC.region ?_
    refine WL.lv rfl (LV.mv rfl) ?_
    refine WL.lv rfl (LV.nilCheck rfl) ?_
    refine WL.lv rfl (LV.fieldA Try.underlying46 rfl ti30.sz rfl) ?_
    refine WL.lv rfl (LV.load1 Try.underlying30 rfl rfl (Blk.cellN (SH.at hS6 (.head _)) 0 rfl _ (KB.refl No _))) ?_
    refine WL.lv rfl (LV.asg rfl) ?_
    refine WL.nil (thenQ.n ?_)
    refine WC.ret (?_)
    have hS7 : SH w No w3 [rowE eP 37 (.slice A1 ((o1).length) c1) o1] := (SH.take 1 rfl (SH.front [blkE b1 46 #[(.slice A1 ((o1).length) c1)]] hS6))
    have hres2 : (o1 : List (Int × Int)) = PRS a b := by rw [ho1, mvd_0]; exact (if_neg hlong).symm
    exact ⟨_, fun a ha => res1 rfl ha rfl, (by rw [← hres2]; exact ⟨_, _, rfl, hS7⟩)⟩

def growS_ren : Go.Shelf.Ren := ⟨fun | 4 => 38 | n => n, fun | 22 => 33 | 25 => 48 | 3 => 3 | 4 => 4 | 9 => 9 | 20 => 20 | 0 => 0 | n => n, fun | n => n⟩
theorem growS : Go.Proofs.Lays8.n4 Try.prog growS_ren := {
  mixed := by kernel_rfl
  f4 := ⟨Try.f38.name, by decide, Try.func38.trans (congrArg some (by kernel_rfl))⟩
  t0 := Try.underlying0
  a0 := Try.isAgg0
  z0 := Try.sizeOf0
  v0 := Try.zeroValue0
  t3 := Try.underlying3
  a3 := Try.isAgg3
  z3 := Try.sizeOf3
  v3 := Try.zeroValue3
  t4 := Try.underlying4
  a4 := Try.isAgg4
  z4 := Try.sizeOf4
  v4 := Try.zeroValue4
  t9 := Try.underlying9
  a9 := Try.isAgg9
  z9 := Try.sizeOf9
  v9 := Try.zeroValue9
  t20 := Try.underlying20
  a20 := Try.isAgg20
  z20 := Try.sizeOf20
  v20 := Try.zeroValue20
  t22 := Try.underlying33
  a22 := Try.isAgg33
  z22 := Try.sizeOf33
  v22 := Try.zeroValue33 }
theorem grow_calls {w : World} {n : Nat} (hn : n ≤ 1000000) : Calls Try.prog 38 #[.slice none 0 0, .int .i64 n] w fun e w' => ∃ v, e = .returned v ∧ ∃ A' c', v = .slice A' 0 c' ∧ SH w No w' [rowE eI 48 (.slice A' 0 c') []] :=
  growNil (E := eI) growS ti48 rfl (by decide) (by omega) (by omega)

set_option maxHeartbeats 1000000 in
theorem concat_calls {w : World} {A_sl : Option Addr} {n_sl c_sl : Nat} {sl : List (SV × List Int)} (h_sl : St No w (RdRR eI (.slice A_sl n_sl c_sl) sl)) (hn_sl : sl.length = n_sl) (hl : (sl.map (·.2)).flatten.length ≤ 1000000) (hm : sl.length ≤ 1000000) :
    Calls Try.prog 28 #[(.slice A_sl n_sl c_sl)] w fun e w' => ∃ v, e = .returned v ∧ (fun v w' => ∃ (A0' : Option Addr) (c0' : Nat), v = .slice A0' ((sl.map (·.2)).flatten).length c0' ∧ SH w No w' [rowE eI 48 (.slice A0' ((sl.map (·.2)).flatten).length c0') ((sl.map (·.2)).flatten)]) v w' := by
  subst hn_sl
  have hS : SH w No w [] := SH.nil _ _
  refine calls (l := litOf [(.slice A_sl sl.length c_sl)] 0) Try.func28 rfl (n := 36) rfl (Nat.le_of_ble_eq_true rfl) (lit_args _) ?_
  refine WC.seq ?_
  refine WC.region ?_
  refine WL.lv rfl (LV.asg rfl) ?_
  refine WL.nil (thenQ.n ?_)
  refine WC.seq ?_
  refine WC.region ?_
  refine WL.lv rfl (LV.asg rfl) ?_
  refine WL.nil (thenQ.n ?_)
  iterate 2 refine WC.seq ?_
  refine WC.region ?_
  refine WL.lv rfl (LV.mv rfl) ?_
  refine WL.lv rfl (LV.lenL Try.underlying56 rfl) ?_
  refine WL.lv rfl (LV.mv rfl) ?_
  refine WL.nil (thenQ.n ?_)
  refine WC.block ?_
  refine WC.loop (fun m_ f_ w_ => ∃ (size : Int) (ix : Int), (0 ≤ ix) ∧ (ix ≤ (sl.length : Int)) ∧ (size = (((sl.map (·.2)).take ix.toNat).flatten.length : Int)) ∧ (0 ≤ size ∧ size ≤ 1000000) ∧ SH w No w_ [] ∧ m_ = (((sl.length : Int) - ix).toNat) ∧ Weak (lit [(0, (.slice A_sl sl.length c_sl)), (3, (.int .i64 size)), (9, (.slice A_sl sl.length c_sl)), (10, (.int .i64 (sl.length : Int))), (11, (.int .i64 ix))]) f_) _ ⟨0, 0, by omega, by omega, rfl, by omega, hS, rfl, Weak.cons rfl <| Weak.cons rfl <| Weak.cons rfl <| Weak.cons rfl <| Weak.cons rfl <| Weak.nil _⟩ ?_
  rintro m1 f1 w1 ⟨size, ix, ixlo, ixhi, q1, q2, hL1, rfl, hw1⟩
  refine WC.weak hw1 ?_
  clear hw1
  refine WC.seq ?_
  refine WC.region ?_
  refine WL.lv rfl (LV.ltI rfl rfl) ?_
  refine WL.nil (thenQ.n ?_)
  refine WC.seq ?_
  refine WC.condP (p := ix < (sl.length : Int)) rfl (fun hk => ?_) (fun hk => ?_)
  · have hcs_ := cat_snoc (sl := sl) ixlo hk
    have hcl_ := cat_len (sl := sl) (ix + 1)
    rw [hcs_, List.length_append] at hcl_
    refine WC.skip (thenQ.n ?_)
    refine WC.seq ?_
    refine WC.block ?_
    refine WC.seq ?_
    refine WC.region ?_
    obtain ⟨A1, c1, A2, c2, e1, g1, e2, r2⟩ := St.eltRR (SH.stN hL1 h_sl) default ix (by omega) (by omega)
    refine WL.lv rfl (LV.idxA Try.underlying56 ti33.sz rfl e1 rfl (by omega) (by omega)) ?_
    refine WL.lv rfl (LV.load1 Try.underlying33 rfl rfl (g1 _ (KB.refl No _))) ?_
    refine WL.lv rfl (LV.asg rfl) ?_
    refine WL.nil (thenQ.n ?_)
    refine WC.seq ?_
    refine WC.region ?_
    iterate 2 refine WL.lv rfl (LV.mv rfl) ?_
    refine WL.lv rfl (LV.lenL Try.underlying33 rfl) ?_
    refine WL.lv rfl (LV.add rfl rfl (wr64 (by omega) (by omega))) ?_
    refine WL.lv rfl (LV.asg rfl) ?_
    refine WL.nil (thenQ.n ?_)
    refine WC.seq ?_
    refine WC.region ?_
    refine WL.lv rfl (LV.mv rfl) ?_
    refine WL.lv rfl (LV.ltI rfl rfl) ?_
    refine WL.nil (thenQ.n ?_)
    refine WC.condP (p := (size + ((sl.getD (ix).toNat default).2.length : Int)) < 0) rfl (fun hc1 => ?_) (fun hc1 => ?_)
    · exfalso; omega
    · skip
      refine WC.skip (blockQ.n <| thenQ.n ?_)
      refine WC.region ?_
      refine WL.lv rfl (LV.add rfl rfl (wr64 (by omega) (by omega))) ?_
      refine WL.lv rfl (LV.mv rfl) ?_
      refine WL.nil (thenQ.n ?_)
      exact ⟨_, by omega, size + ((sl.getD (ix).toNat default).2.length : Int), ix + 1, by omega, by omega, (by rw [hcs_, List.length_append, q1]; simp), by omega, hL1, rfl, Weak.cons rfl <| Weak.cons rfl <| Weak.cons rfl <| Weak.cons rfl <| Weak.cons rfl <| Weak.nil _⟩
  · skip
    refine WC.exit (thenQ.x <| thenQ.x <| blockQ.hit <| thenQ.n ?_)
    refine WC.seq ?_
    refine WC.region ?_
    refine WL.lv rfl (LV.mv rfl) ?_
    refine WL.call rfl (XC.fn Try.func38 (by kernel_rfl) rfl rfl rfl) ((show Calls Try.prog 38 #[.slice none 0 0, .int .i64 size] _ _ from (show (((size).toNat : Nat) : Int) = size by omega) ▸ grow_calls (n := (size).toNat) (by omega))) ?_
    rintro v_ w2 ⟨A3, c3, rfl, hS1⟩
    have hS2 := SH.joinN hL1 hS1
    refine WL.lv rfl (LV.asg rfl) ?_
    refine WL.nil (thenQ.n ?_)
    iterate 2 refine WC.seq ?_
    refine WC.region ?_
    refine WL.lv rfl (LV.mv rfl) ?_
    refine WL.lv rfl (LV.lenL Try.underlying56 rfl) ?_
    refine WL.lv rfl (LV.mv rfl) ?_
    refine WL.nil (thenQ.n ?_)
    refine WC.block ?_
    refine WC.loop (fun m_ f_ w_ => ∃ (A_newslice : Option Addr) (c_newslice : Nat) (newslice : List Int) (ix2 : Int), (0 ≤ ix2) ∧ (ix2 ≤ (sl.length : Int)) ∧ (newslice = ((sl.map (·.2)).take ix2.toNat).flatten) ∧ SH w No w_ [rowE eI 48 (.slice A_newslice newslice.length c_newslice) newslice] ∧ m_ = (((sl.length : Int) - ix2).toNat) ∧ Weak (lit [(6, (.slice A_newslice newslice.length c_newslice)), (25, (.slice A_sl sl.length c_sl)), (26, (.int .i64 (sl.length : Int))), (27, (.int .i64 ix2))]) f_) _ ⟨A3, c3, [], 0, by omega, by omega, rfl, hS2, rfl, Weak.cons rfl <| Weak.cons rfl <| Weak.cons rfl <| Weak.cons rfl <| Weak.nil _⟩ ?_
    rintro m2 f2 w3 ⟨A_newslice, c_newslice, newslice, ix2, ix2lo, ix2hi, r1, hL2, rfl, hw2⟩
    refine WC.weak hw2 ?_
    clear hw2
    refine WC.seq ?_
    refine WC.region ?_
    refine WL.lv rfl (LV.ltI rfl rfl) ?_
    refine WL.nil (thenQ.n ?_)
    refine WC.seq ?_
    refine WC.condP (p := ix2 < (sl.length : Int)) rfl (fun hk2 => ?_) (fun hk2 => ?_)
    · have hcs_ := cat_snoc (sl := sl) ix2lo hk2
      have hcl_ := cat_len (sl := sl) (ix2 + 1)
      rw [hcs_, List.length_append, ← r1] at hcl_
      refine WC.skip (thenQ.n ?_)
      refine WC.seq ?_
      refine WC.block ?_
      refine WC.seq ?_
      refine WC.region ?_
      obtain ⟨A4, c4, A5, c5, e3, g2, e4, r3⟩ := St.eltRR (SH.stN hL2 h_sl) default ix2 (by omega) (by omega)
      refine WL.lv rfl (LV.idxA Try.underlying56 ti33.sz rfl e3 rfl (by omega) (by omega)) ?_
      refine WL.lv rfl (LV.load1 Try.underlying33 rfl rfl (g2 _ (KB.refl No _))) ?_
      refine WL.lv rfl (LV.asg rfl) ?_
      refine WL.nil (thenQ.n ?_)
      refine WC.region ?_
      iterate 2 refine WL.lv rfl (LV.mv rfl) ?_
      refine WL.xe rfl (XE.append hL2 Try.underlying33 ti48 rfl (St.now (St.inner (SH.stN hL2 h_sl) (getD_mem (by omega)) e4)) rfl rfl (by first | omega | simp only [List.length_append, List.length_cons, List.length_nil, List.length_take, List.length_reverse, List.length_drop] at *; omega) (by first | omega | simp only [List.length_append, List.length_cons, List.length_nil, List.length_take, List.length_reverse, List.length_drop] at *; omega)) ?_
      rintro _ w4 ⟨A6, c6, rfl, hS3, hk1⟩
      refine WL.lv rfl (LV.asg rfl) ?_
      refine WL.nil (blockQ.n <| thenQ.n ?_)
      refine WC.region ?_
      refine WL.lv rfl (LV.add rfl rfl (wr64 (by omega) (by omega))) ?_
      refine WL.lv rfl (LV.mv rfl) ?_
      refine WL.nil (thenQ.n ?_)
      exact ⟨_, by omega, A6, c6, (newslice ++ ((sl.getD (ix2).toNat default).2)), ix2 + 1, by omega, by omega, (by rw [hcs_, ← r1]), hS3, rfl, Weak.cons rfl <| Weak.cons rfl <| Weak.cons rfl <| Weak.cons rfl <| Weak.nil _⟩
    · skip
      refine WC.exit (thenQ.x <| thenQ.x <| blockQ.hit <| thenQ.n ?_)
      refine WC.seq ?_
      refine WC.region ?_
      refine WL.lv rfl (LV.mv rfl) ?_
      refine WL.lv rfl (LV.asg rfl) ?_
      refine WL.nil (thenQ.n ?_)
      refine WC.ret (?_)
      have hres1 : (newslice : List Int) = (sl.map (·.2)).flatten := by rw [r1, take_all (by simp; omega)]
      exact ⟨_, fun a ha => res1 rfl ha rfl, (by rw [← hres1]; exact ⟨_, _, rfl, hL2⟩)⟩

theorem repS_calls {w : World} {A : Option Addr} {c N : Nat} {x : Int} (hx : St No w (Rd eI (.slice A 1 c) [x])) (h2 : N ≤ 100000) :
    Calls Try.prog 39 #[(.slice A 1 c), (.int .i64 (N : Int))] w fun e w' => ∃ v, e = .returned v ∧ (fun v w' => ∃ b, v = .slice (some ⟨b, 0, none⟩) N N ∧ SH w No w' [rowE eI 48 (.slice (some ⟨b, 0, none⟩) N N) (List.replicate N x)]) v w' := by
  have hS : SH w No w [] := SH.nil _ _
  refine calls (l := litOf [(.slice A 1 c), (.int .i64 (N : Int))] 0) Try.func39 rfl (n := 48) rfl (Nat.le_of_ble_eq_true rfl) (lit_args _) ?_
  refine WC.seq ?_
  refine WC.region ?_
  refine WL.lv rfl (LV.asg rfl) ?_
  refine WL.nil (thenQ.n ?_)
  iterate 2 refine WC.seq ?_
  refine WC.region ?_
  refine WL.lv rfl (LV.mv rfl) ?_
  refine WL.lv rfl (LV.ltI rfl rfl) ?_
  refine WL.nil (thenQ.n ?_)
  refine WC.condP (p := (N : Int) < 0) rfl (fun hc1 => ?_) (fun hc1 => ?_)
  · exfalso; omega
  · skip
    refine WC.skip (thenQ.n ?_)
    refine WC.seq ?_
    refine WC.region ?_
    refine WL.lv rfl (LV.mv rfl) ?_
    refine WL.lv rfl (LV.lenL Try.underlying33 rfl) ?_
    refine WL.lv rfl (LV.cvtI Try.underlying3 Try.underlying58 rfl (wrU64 (by omega) (by omega))) ?_
    refine WL.lv rfl (LV.mv rfl) ?_
    refine WL.lv rfl (LV.cvtI Try.underlying3 Try.underlying58 rfl (wrU64 (by omega) (by omega))) ?_
    refine WL.call rfl (XC.fn Try.func42 (by kernel_rfl) rfl rfl rfl) (mul_calls (n := (N : Int)) (by omega) (by omega)) ?_
    rintro v_ w1 ⟨rfl, hk1⟩
    have hS1 := SH.same hS hk1
    refine WL.lv rfl (LV.mv rfl) ?_
    iterate 2 refine WL.lv rfl (LV.extract rfl rfl) ?_
    iterate 2 refine WL.lv rfl (LV.asg rfl) ?_
    refine WL.nil (thenQ.n ?_)
    iterate 2 refine WC.seq ?_
    refine WC.region ?_
    refine WL.lv rfl (LV.mv rfl) ?_
    refine WL.lv rfl (LV.as (c := false) (LV.gtI rfl rfl) (by decide)) ?_
    iterate 2 refine WL.lv rfl (LV.mv rfl) ?_
    refine WL.lv rfl (LV.gtI rfl rfl) ?_
    refine WL.lv rfl (LV.pickF rfl rfl) ?_
    refine WL.nil (thenQ.n ?_)
    refine WC.condP (p := (N : Int) > 9223372036854775807) rfl (fun hc2 => ?_) (fun hc2 => ?_)
    · exfalso; omega
    · skip
      refine WC.skip (thenQ.n ?_)
      refine WC.seq ?_
      refine WC.region ?_
      refine WL.lv rfl (LV.mv rfl) ?_
      refine WL.lv rfl (LV.cvtI Try.underlying58 Try.underlying3 rfl (wr64 (by omega) (by omega))) ?_
      refine WL.xe rfl (XE.make (E := eI) (n := N) 0 hS1 Try.underlying33 ti48 rfl rfl rfl rfl rfl rfl (by omega) (by omega)) ?_
      rintro _ w2 ⟨b1, rfl, hS2, hk2⟩
      refine WL.lv rfl (LV.asg rfl) ?_
      refine WL.nil (thenQ.n ?_)
      refine WC.seq ?_
      refine WC.region ?_
      iterate 2 refine WL.lv rfl (LV.mv rfl) ?_
      refine WL.xe rfl (XE.copyAt (xs := (List.replicate N 0)) (ys := [x]) 0 N N hS2 Try.underlying33 ti48.sz rfl (St.now (SH.stN hS2 hx)) ⟨_, rfl, fun g_ h_ h0_ => by cases h_; rfl⟩ (by simp) rfl rfl) ?_
      rintro _ w3 ⟨rfl, hS3, hk3⟩
      refine WL.lv rfl (LV.asg rfl) ?_
      refine WL.nil (thenQ.n ?_)
      refine WC.seq ?_
      refine WC.block ?_
      refine WC.loop (fun m_ f_ w_ => ∃ (n : Int) (r : List Int), (0 ≤ n ∧ (1 ≤ n ∨ N = 0)) ∧ (n ≤ (N : Int)) ∧ (r.length = N) ∧ (r.take n.toNat = List.replicate n.toNat x) ∧ SH w No w_ [rowE eI 48 (.slice (some ⟨b1, 0, none⟩) N N) r] ∧ m_ = (((N : Int) - n).toNat) ∧ Weak (lit [(0, (.slice A 1 c)), (1, (.int .i64 (N : Int))), (4, (.slice none 0 0)), (5, (.int .u64 0)), (6, (.int .u64 (N : Int))), (7, (.slice (some ⟨b1, 0, none⟩) N N)), (8, (.int .i64 n))]) f_) _ ⟨((min ([x]).length N : Nat) : Int), (((List.replicate N 0)).take 0 ++ ([x]).take N ++ ((List.replicate N 0)).drop (0 + min ([x]).length N)), (by simp; omega), (by simp; omega), (by simp; omega), repG_init, hS3, rfl, Weak.cons rfl <| Weak.cons rfl <| Weak.cons rfl <| Weak.cons rfl <| Weak.cons rfl <| Weak.cons rfl <| Weak.cons rfl <| Weak.nil _⟩ ?_
      rintro m1 f1 w4 ⟨n, r, q0, q1, q2, q3, hL1, rfl, hw1⟩
      refine WC.weak hw1 ?_
      clear hw1
      iterate 2 refine WC.seq ?_
      refine WC.region ?_
      iterate 2 refine WL.lv rfl (LV.mv rfl) ?_
      refine WL.lv rfl (LV.lenL Try.underlying33 rfl) ?_
      refine WL.lv rfl (LV.ltI rfl rfl) ?_
      refine WL.nil (thenQ.n ?_)
      refine WC.condP (p := n < (N : Int)) rfl (fun hc3 => ?_) (fun hc3 => ?_)
      · skip
        refine WC.skip (thenQ.n ?_)
        refine WC.block ?_
        have hS4 := SH.drew hL1
        refine WC.regionD [7] (fun w_ => KB No w4.drew w_) [(.pure, 0), (.pure, 1), (.pure, 2), (.pure, 3), (.pure, 4), (.pure, 5), (.pure, 6), (.forced, 7), (.pure, 8), (.pure, 9)] (by kernel_rfl) (by kernel_rfl) (KB.refl _ _) ?_
        iterate 3 refine WS.pure rfl rfl (fun _ => LV.mv rfl) ?_
        have hcap1 : N ≤ N := (Rd.cap (St.now (SH.rd hS4 (.head _))))
        refine WS.pure rfl rfl (fun _ => LV.cut Try.underlying33 ti48.sz rfl rfl rfl rfl ⟨.inr ⟨.i64, by rw [Int.toNat_of_nonneg (a := n) (by omega)] <;> rfl⟩, .inl ⟨rfl, rfl, rfl⟩, .inl ⟨rfl, rfl⟩⟩ (by omega) (by omega) (by omega)) ?_
        iterate 2 refine WS.pure rfl rfl (fun _ => LV.mv rfl) ?_
        have hcap2 : N ≤ N := (Rd.cap (St.now (SH.rd hS4 (.head _))))
        refine WS.pure rfl rfl (fun _ => LV.cut Try.underlying33 ti48.sz rfl rfl rfl rfl ⟨.inl ⟨rfl, rfl⟩, .inr ⟨.i64, by rw [Int.toNat_of_nonneg (a := n) (by omega)] <;> rfl⟩, .inl ⟨rfl, rfl⟩⟩ (by omega) (by omega) (by omega)) ?_
        refine WS.xe rfl rfl (XE.copyAt (xs := r) (ys := ((r.take ((n).toNat)).drop 0)) ((n).toNat) (N - (n).toNat) (N - (n).toNat) hS4 Try.underlying33 ti48.sz rfl (St.now ((SH.rd hS4 (.head _)).imp fun _ h => Rd.cut h (by omega) (by omega) (by omega) (by omega))) ⟨_, rfl, fun g_ h_ h0_ => by cases h_; exact cut_at (by omega)⟩ (by omega) rfl rfl) ?_
        rintro _ w5 ⟨rfl, hS5, hk4⟩
        refine ⟨fun h_ => (by cases h_), ?_⟩
        refine WS.pure rfl rfl (fun _ => LV.add rfl rfl (wr64 (by omega) (by omega))) ?_
        refine WS.pure rfl rfl (fun _ => LV.asg rfl) ?_
        refine WS.nil (blockQ.n <| thenQ.n ?_)
        exact ⟨_, by simp; omega, n + ((min (((r.take ((n).toNat)).drop 0)).length (N - (n).toNat) : Nat) : Int), ((r).take ((n).toNat) ++ (((r.take ((n).toNat)).drop 0)).take (N - (n).toNat) ++ (r).drop ((n).toNat + min (((r.take ((n).toNat)).drop 0)).length (N - (n).toNat))), (by simp; omega), (by simp; omega), (by simp; omega), (repG_step (by omega) hc3 q2 q3), hS5, rfl, Weak.cons rfl <| Weak.cons rfl <| Weak.cons rfl <| Weak.cons rfl <| Weak.cons rfl <| Weak.cons rfl <| Weak.cons rfl <| Weak.nil _⟩
      · skip
        refine WC.exit (thenQ.x <| thenQ.x <| blockQ.hit <| thenQ.n ?_)
        refine WC.seq ?_
        refine WC.region ?_
        refine WL.lv rfl (LV.mv rfl) ?_
        refine WL.lv rfl (LV.asg rfl) ?_
        refine WL.nil (thenQ.n ?_)
        refine WC.ret (?_)
        exact ⟨_, fun a ha => res1 rfl ha rfl, _, rfl, repG_fin q1 hc3 q2 q3 ▸ hL1⟩

theorem repS_calls' {w : World} {A : Option Addr} {c N : Nat} {x : Int} {n : Int} (hn : n = N) (hx : St No w (Rd eI (.slice A 1 c) [x])) (h2 : N ≤ 100000) :
    Calls Try.prog 39 #[(.slice A 1 c), (.int .i64 n)] w fun e w' => ∃ v, e = .returned v ∧ (fun v w' => ∃ b, v = .slice (some ⟨b, 0, none⟩) N N ∧ SH w No w' [rowE eI 48 (.slice (some ⟨b, 0, none⟩) N N) (List.replicate N x)]) v w' := hn ▸ repS_calls hx h2

theorem some_calls {w : World} {s : Int} {n : Int} (h0 : 0 ≤ n) (h1 : n ≤ 100000) :
    Calls Try.prog 29 #[(.int .i64 s), (.int .i64 n)] w fun e w' => ∃ v, e = .returned v ∧ (fun v w' => ∃ (A0' : Option Addr) (c0' : Nat), v = .slice A0' (List.replicate n.toNat s).length c0' ∧ SH w No w' [rowE eI 48 (.slice A0' (List.replicate n.toNat s).length c0') (List.replicate n.toNat s)]) v w' := by
  have hS : SH w No w [] := SH.nil _ _
  refine calls (l := litOf [(.int .i64 s), (.int .i64 n)] 0) Try.func29 rfl (n := 9) rfl (Nat.le_of_ble_eq_true rfl) (lit_args _) ?_
  refine WC.seq ?_
  refine WC.region ?_
  refine WL.lv rfl (LV.asg rfl) ?_
  refine WL.nil (thenQ.n ?_)
  refine WC.seq ?_
  refine WC.region ?_
  refine WL.lv rfl (LV.mv rfl) ?_
  refine WL.xe rfl (XE.buildSlice (E := eI) [(0, (.int .i64 s))] #[(.int .i64 s)] [s] hS Try.underlying33 ti48 rfl (by decide) (by kernel_rfl) (.inr rfl) rfl rfl (by decide)) ?_
  rintro _ w1 ⟨b1, rfl, hS1, hk1⟩
  refine WL.lv rfl (LV.mv rfl) ?_
  refine WL.call rfl (XC.fn Try.func39 (by kernel_rfl) rfl rfl rfl) (repS_calls' (N := (n).toNat) (by omega) (SH.rd hS1 (.head _)) (by omega)) ?_
  rintro v_ w2 ⟨b2, rfl, hS2⟩
  have hS3 := SH.joinN hS1 hS2
  refine WL.lv rfl (LV.asg rfl) ?_
  refine WL.nil (thenQ.n ?_)
  refine WC.ret (?_)
  have hS4 : SH w No w2 [rowE eI 48 (.slice (some ⟨b2, 0, none⟩) ((n).toNat) ((n).toNat)) (List.replicate ((n).toNat) s)] := (SH.take 1 rfl hS3)
  have hres1 : ((List.replicate ((n).toNat) s) : List Int) = List.replicate n.toNat s := by first | rfl | assumption
  have hlen1 : (List.replicate ((n).toNat) s).length = ((n).toNat) := List.length_replicate
  exact ⟨_, fun a ha => res1 rfl ha rfl, (by rw [← hres1, hlen1]; exact ⟨_, _, rfl, hS4⟩)⟩

end Go.Proofs.Ytkglebminidfeaa
