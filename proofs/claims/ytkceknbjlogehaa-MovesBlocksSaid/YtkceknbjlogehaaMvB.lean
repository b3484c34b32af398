/- Blocks that stand elsewhere: what is asked first. -/
import Derived.Test.YtkceknbjlogehaaNr
import Derived.Test.YtkceknbjlogehaaMvA
import Derived.Test.YtkceknbjlogehaaMyT
import Derived.Test.YtkceknbjlogehaaGvT
import Derived.Test.YtkceknbjlogehaaScP
namespace Go.Proofs.Ytkceknbjlogehaa
open Go Go.Gv Go.RowKit Go.Mys Go.Num Go.Scr Go.Itn Go.Mov
set_option linter.unusedVariables false
set_option linter.unusedSimpArgs false
theorem ti4 : TI Try.prog 4 (.bool false) 1 1 := by unfold TI; kernel_rfl
theorem ti5 : TI Try.prog 5 (.int .u8 0) 1 1 := by unfold TI; kernel_rfl

theorem repB_calls {w : World} {A : Option Addr} {c N : Nat} {x : Bool} (hx : St No w (Rd eB (.slice A 1 c) [x])) (h2 : N ≤ 100000) :
    Calls Try.prog 31 #[(.slice A 1 c), (.int .i64 (N : Int))] w fun e w' => ∃ v, e = .returned v ∧ (fun v w' => ∃ b, v = .slice (some ⟨b, 0, none⟩) N N ∧ SH w No w' [rowE eB 4 (.slice (some ⟨b, 0, none⟩) N N) (List.replicate N x)]) v w' := by
  have hS : SH w No w [] := SH.nil _ _
  refine calls (l := litOf [(.slice A 1 c), (.int .i64 (N : Int))] 0) Try.func31 rfl (n := 48) rfl (Nat.le_of_ble_eq_true rfl) (lit_args _) ?_
  refine WC.seq ?_
  refine WC.region ?_
  refine WL.lv rfl (LV.asg rfl) ?_
  refine WL.nil (thenQ.n ?_)
  iterate 2 refine WC.seq ?_
  refine WC.region ?_
  refine WL.lv rfl (LV.mv rfl) ?_
  refine WL.lv rfl (LV.ltI rfl rfl) ?_
  refine WL.nil (thenQ.n ?_)
  refine WC.condP (p := (N : Int) < 0) rfl (fun hc1 => ?_) (fun hc1 => ?_)
  · exfalso; omega
  · skip
    refine WC.skip (thenQ.n ?_)
    refine WC.seq ?_
    refine WC.region ?_
    refine WL.lv rfl (LV.mv rfl) ?_
    refine WL.lv rfl (LV.lenL Try.underlying34 rfl) ?_
    refine WL.lv rfl (LV.cvtI Try.underlying3 Try.underlying68 rfl (wrU64 (by omega) (by omega))) ?_
    refine WL.lv rfl (LV.mv rfl) ?_
    refine WL.lv rfl (LV.cvtI Try.underlying3 Try.underlying68 rfl (wrU64 (by omega) (by omega))) ?_
    refine WL.call rfl (XC.fn Try.func34 (by kernel_rfl) rfl rfl rfl) (mul_calls (n := (N : Int)) (by omega) (by omega)) ?_
    rintro v_ w1 ⟨rfl, hk1⟩
    have hS1 := SH.same hS hk1
    refine WL.lv rfl (LV.mv rfl) ?_
    iterate 2 refine WL.lv rfl (LV.extract rfl rfl) ?_
    iterate 2 refine WL.lv rfl (LV.asg rfl) ?_
    refine WL.nil (thenQ.n ?_)
    iterate 2 refine WC.seq ?_
    refine WC.region ?_
    refine WL.lv rfl (LV.mv rfl) ?_
    refine WL.lv rfl (LV.as (c := false) (LV.gtI rfl rfl) (by decide)) ?_
    iterate 2 refine WL.lv rfl (LV.mv rfl) ?_
    refine WL.lv rfl (LV.gtI rfl rfl) ?_
    refine WL.lv rfl (LV.pickF rfl rfl) ?_
    refine WL.nil (thenQ.n ?_)
    refine WC.condP (p := (N : Int) > 9223372036854775807) rfl (fun hc2 => ?_) (fun hc2 => ?_)
    · exfalso; omega
    · skip
      refine WC.skip (thenQ.n ?_)
      refine WC.seq ?_
      refine WC.region ?_
      refine WL.lv rfl (LV.mv rfl) ?_
      refine WL.lv rfl (LV.cvtI Try.underlying68 Try.underlying3 rfl (wr64 (by omega) (by omega))) ?_
      refine WL.xe rfl (XE.make (E := eB) (n := N) false hS1 Try.underlying34 ti4 rfl rfl rfl rfl rfl rfl (by omega) (by omega)) ?_
      rintro _ w2 ⟨b1, rfl, hS2, hk2⟩
      refine WL.lv rfl (LV.asg rfl) ?_
      refine WL.nil (thenQ.n ?_)
      refine WC.seq ?_
      refine WC.region ?_
      iterate 2 refine WL.lv rfl (LV.mv rfl) ?_
      refine WL.xe rfl (XE.copyAt (xs := (List.replicate N false)) (ys := [x]) 0 N N hS2 Try.underlying34 ti4.sz rfl (St.now (SH.stN hS2 hx)) ⟨_, rfl, fun g_ h_ h0_ => by cases h_; rfl⟩ (by simp) rfl rfl) ?_
      rintro _ w3 ⟨rfl, hS3, hk3⟩
      refine WL.lv rfl (LV.asg rfl) ?_
      refine WL.nil (thenQ.n ?_)
      refine WC.seq ?_
      refine WC.block ?_
      refine WC.loop (fun m_ f_ w_ => ∃ (n : Int) (r : List Bool), (0 ≤ n ∧ (1 ≤ n ∨ N = 0)) ∧ (n ≤ (N : Int)) ∧ (r.length = N) ∧ (r.take n.toNat = List.replicate n.toNat x) ∧ SH w No w_ [rowE eB 4 (.slice (some ⟨b1, 0, none⟩) N N) r] ∧ m_ = (((N : Int) - n).toNat) ∧ Weak (lit [(0, (.slice A 1 c)), (1, (.int .i64 (N : Int))), (4, (.slice none 0 0)), (5, (.int .u64 0)), (6, (.int .u64 (N : Int))), (7, (.slice (some ⟨b1, 0, none⟩) N N)), (8, (.int .i64 n))]) f_) _ ⟨((min ([x]).length N : Nat) : Int), (((List.replicate N false)).take 0 ++ ([x]).take N ++ ((List.replicate N false)).drop (0 + min ([x]).length N)), (by simp; omega), (by simp; omega), (by simp; omega), repG_init, hS3, rfl, Weak.cons rfl <| Weak.cons rfl <| Weak.cons rfl <| Weak.cons rfl <| Weak.cons rfl <| Weak.cons rfl <| Weak.cons rfl <| Weak.nil _⟩ ?_
      rintro m1 f1 w4 ⟨n, r, q0, q1, q2, q3, hL1, rfl, hw1⟩
      refine WC.weak hw1 ?_
      clear hw1
      iterate 2 refine WC.seq ?_
      refine WC.region ?_
      iterate 2 refine WL.lv rfl (LV.mv rfl) ?_
      refine WL.lv rfl (LV.lenL Try.underlying34 rfl) ?_
      refine WL.lv rfl (LV.ltI rfl rfl) ?_
      refine WL.nil (thenQ.n ?_)
      refine WC.condP (p := n < (N : Int)) rfl (fun hc3 => ?_) (fun hc3 => ?_)
      · skip
        refine WC.skip (thenQ.n ?_)
        refine WC.block ?_
        have hS4 := SH.drew hL1
        refine WC.regionD [7] (fun w_ => KB No w4.drew w_) [(.pure, 0), (.pure, 1), (.pure, 2), (.pure, 3), (.pure, 4), (.pure, 5), (.pure, 6), (.forced, 7), (.pure, 8), (.pure, 9)] (by kernel_rfl) (by kernel_rfl) (KB.refl _ _) ?_
        iterate 3 refine WS.pure rfl rfl (fun _ => LV.mv rfl) ?_
        have hcap1 : N ≤ N := (Rd.cap (St.now (SH.rd hS4 (.head _))))
        refine WS.pure rfl rfl (fun _ => LV.cut Try.underlying34 ti4.sz rfl rfl rfl rfl ⟨.inr ⟨.i64, by rw [Int.toNat_of_nonneg (a := n) (by omega)] <;> rfl⟩, .inl ⟨rfl, rfl, rfl⟩, .inl ⟨rfl, rfl⟩⟩ (by omega) (by omega) (by omega)) ?_
        iterate 2 refine WS.pure rfl rfl (fun _ => LV.mv rfl) ?_
        have hcap2 : N ≤ N := (Rd.cap (St.now (SH.rd hS4 (.head _))))
        refine WS.pure rfl rfl (fun _ => LV.cut Try.underlying34 ti4.sz rfl rfl rfl rfl ⟨.inl ⟨rfl, rfl⟩, .inr ⟨.i64, by rw [Int.toNat_of_nonneg (a := n) (by omega)] <;> rfl⟩, .inl ⟨rfl, rfl⟩⟩ (by omega) (by omega) (by omega)) ?_
        refine WS.xe rfl rfl (XE.copyAt (xs := r) (ys := ((r.take ((n).toNat)).drop 0)) ((n).toNat) (N - (n).toNat) (N - (n).toNat) hS4 Try.underlying34 ti4.sz rfl (St.now ((SH.rd hS4 (.head _)).imp fun _ h => Rd.cut h (by omega) (by omega) (by omega) (by omega))) ⟨_, rfl, fun g_ h_ h0_ => by cases h_; exact cut_at (by omega)⟩ (by omega) rfl rfl) ?_
        rintro _ w5 ⟨rfl, hS5, hk4⟩
        refine ⟨fun h_ => (by cases h_), ?_⟩
        refine WS.pure rfl rfl (fun _ => LV.add rfl rfl (wr64 (by omega) (by omega))) ?_
        refine WS.pure rfl rfl (fun _ => LV.asg rfl) ?_
        refine WS.nil (blockQ.n <| thenQ.n ?_)
        exact ⟨_, by simp; omega, n + ((min (((r.take ((n).toNat)).drop 0)).length (N - (n).toNat) : Nat) : Int), ((r).take ((n).toNat) ++ (((r.take ((n).toNat)).drop 0)).take (N - (n).toNat) ++ (r).drop ((n).toNat + min (((r.take ((n).toNat)).drop 0)).length (N - (n).toNat))), (by simp; omega), (by simp; omega), (by simp; omega), (repG_step (by omega) hc3 q2 q3), hS5, rfl, Weak.cons rfl <| Weak.cons rfl <| Weak.cons rfl <| Weak.cons rfl <| Weak.cons rfl <| Weak.cons rfl <| Weak.cons rfl <| Weak.nil _⟩
      · skip
        refine WC.exit (thenQ.x <| thenQ.x <| blockQ.hit <| thenQ.n ?_)
        refine WC.seq ?_
        refine WC.region ?_
        refine WL.lv rfl (LV.mv rfl) ?_
        refine WL.lv rfl (LV.asg rfl) ?_
        refine WL.nil (thenQ.n ?_)
        refine WC.ret (?_)
        exact ⟨_, fun a ha => res1 rfl ha rfl, _, rfl, repG_fin q1 hc3 q2 q3 ▸ hL1⟩

theorem repB_calls' {w : World} {A : Option Addr} {c N : Nat} {x : Bool} {n : Int} (hn : n = N) (hx : St No w (Rd eB (.slice A 1 c) [x])) (h2 : N ≤ 100000) :
    Calls Try.prog 31 #[(.slice A 1 c), (.int .i64 n)] w fun e w' => ∃ v, e = .returned v ∧ (fun v w' => ∃ b, v = .slice (some ⟨b, 0, none⟩) N N ∧ SH w No w' [rowE eB 4 (.slice (some ⟨b, 0, none⟩) N N) (List.replicate N x)]) v w' := hn ▸ repB_calls hx h2

theorem rep8_calls {w : World} {A : Option Addr} {c N : Nat} {x : Int} (hx : St No w (Rd eU8 (.slice A 1 c) [x])) (h2 : N ≤ 100000) :
    Calls Try.prog 26 #[(.slice A 1 c), (.int .i64 (N : Int))] w fun e w' => ∃ v, e = .returned v ∧ (fun v w' => ∃ b, v = .slice (some ⟨b, 0, none⟩) N N ∧ SH w No w' [rowE eU8 5 (.slice (some ⟨b, 0, none⟩) N N) (List.replicate N x)]) v w' := by
  have hS : SH w No w [] := SH.nil _ _
  refine calls (l := litOf [(.slice A 1 c), (.int .i64 (N : Int))] 0) Try.func26 rfl (n := 48) rfl (Nat.le_of_ble_eq_true rfl) (lit_args _) ?_
  refine WC.seq ?_
  refine WC.region ?_
  refine WL.lv rfl (LV.asg rfl) ?_
  refine WL.nil (thenQ.n ?_)
  iterate 2 refine WC.seq ?_
  refine WC.region ?_
  refine WL.lv rfl (LV.mv rfl) ?_
  refine WL.lv rfl (LV.ltI rfl rfl) ?_
  refine WL.nil (thenQ.n ?_)
  refine WC.condP (p := (N : Int) < 0) rfl (fun hc1 => ?_) (fun hc1 => ?_)
  · exfalso; omega
  · skip
    refine WC.skip (thenQ.n ?_)
    refine WC.seq ?_
    refine WC.region ?_
    refine WL.lv rfl (LV.mv rfl) ?_
    refine WL.lv rfl (LV.lenL Try.underlying58 rfl) ?_
    refine WL.lv rfl (LV.cvtI Try.underlying3 Try.underlying68 rfl (wrU64 (by omega) (by omega))) ?_
    refine WL.lv rfl (LV.mv rfl) ?_
    refine WL.lv rfl (LV.cvtI Try.underlying3 Try.underlying68 rfl (wrU64 (by omega) (by omega))) ?_
    refine WL.call rfl (XC.fn Try.func34 (by kernel_rfl) rfl rfl rfl) (mul_calls (n := (N : Int)) (by omega) (by omega)) ?_
    rintro v_ w1 ⟨rfl, hk1⟩
    have hS1 := SH.same hS hk1
    refine WL.lv rfl (LV.mv rfl) ?_
    iterate 2 refine WL.lv rfl (LV.extract rfl rfl) ?_
    iterate 2 refine WL.lv rfl (LV.asg rfl) ?_
    refine WL.nil (thenQ.n ?_)
    iterate 2 refine WC.seq ?_
    refine WC.region ?_
    refine WL.lv rfl (LV.mv rfl) ?_
    refine WL.lv rfl (LV.as (c := false) (LV.gtI rfl rfl) (by decide)) ?_
    iterate 2 refine WL.lv rfl (LV.mv rfl) ?_
    refine WL.lv rfl (LV.gtI rfl rfl) ?_
    refine WL.lv rfl (LV.pickF rfl rfl) ?_
    refine WL.nil (thenQ.n ?_)
    refine WC.condP (p := (N : Int) > 9223372036854775807) rfl (fun hc2 => ?_) (fun hc2 => ?_)
    · exfalso; omega
    · skip
      refine WC.skip (thenQ.n ?_)
      refine WC.seq ?_
      refine WC.region ?_
      refine WL.lv rfl (LV.mv rfl) ?_
      refine WL.lv rfl (LV.cvtI Try.underlying68 Try.underlying3 rfl (wr64 (by omega) (by omega))) ?_
      refine WL.xe rfl (XE.make (E := eU8) (n := N) 0 hS1 Try.underlying58 ti5 rfl rfl rfl rfl rfl rfl (by omega) (by omega)) ?_
      rintro _ w2 ⟨b1, rfl, hS2, hk2⟩
      refine WL.lv rfl (LV.asg rfl) ?_
      refine WL.nil (thenQ.n ?_)
      refine WC.seq ?_
      refine WC.region ?_
      iterate 2 refine WL.lv rfl (LV.mv rfl) ?_
      refine WL.xe rfl (XE.copyAt (xs := (List.replicate N 0)) (ys := [x]) 0 N N hS2 Try.underlying58 ti5.sz rfl (St.now (SH.stN hS2 hx)) ⟨_, rfl, fun g_ h_ h0_ => by cases h_; rfl⟩ (by simp) rfl rfl) ?_
      rintro _ w3 ⟨rfl, hS3, hk3⟩
      refine WL.lv rfl (LV.asg rfl) ?_
      refine WL.nil (thenQ.n ?_)
      refine WC.seq ?_
      refine WC.block ?_
      refine WC.loop (fun m_ f_ w_ => ∃ (n : Int) (r : List Int), (0 ≤ n ∧ (1 ≤ n ∨ N = 0)) ∧ (n ≤ (N : Int)) ∧ (r.length = N) ∧ (r.take n.toNat = List.replicate n.toNat x) ∧ SH w No w_ [rowE eU8 5 (.slice (some ⟨b1, 0, none⟩) N N) r] ∧ m_ = (((N : Int) - n).toNat) ∧ Weak (lit [(0, (.slice A 1 c)), (1, (.int .i64 (N : Int))), (4, (.slice none 0 0)), (5, (.int .u64 0)), (6, (.int .u64 (N : Int))), (7, (.slice (some ⟨b1, 0, none⟩) N N)), (8, (.int .i64 n))]) f_) _ ⟨((min ([x]).length N : Nat) : Int), (((List.replicate N 0)).take 0 ++ ([x]).take N ++ ((List.replicate N 0)).drop (0 + min ([x]).length N)), (by simp; omega), (by simp; omega), (by simp; omega), repG_init, hS3, rfl, Weak.cons rfl <| Weak.cons rfl <| Weak.cons rfl <| Weak.cons rfl <| Weak.cons rfl <| Weak.cons rfl <| Weak.cons rfl <| Weak.nil _⟩ ?_
      rintro m1 f1 w4 ⟨n, r, q0, q1, q2, q3, hL1, rfl, hw1⟩
      refine WC.weak hw1 ?_
      clear hw1
      iterate 2 refine WC.seq ?_
      refine WC.region ?_
      iterate 2 refine WL.lv rfl (LV.mv rfl) ?_
      refine WL.lv rfl (LV.lenL Try.underlying58 rfl) ?_
      refine WL.lv rfl (LV.ltI rfl rfl) ?_
      refine WL.nil (thenQ.n ?_)
      refine WC.condP (p := n < (N : Int)) rfl (fun hc3 => ?_) (fun hc3 => ?_)
      · skip
        refine WC.skip (thenQ.n ?_)
        refine WC.block ?_
        have hS4 := SH.drew hL1
        refine WC.regionD [7] (fun w_ => KB No w4.drew w_) [(.pure, 0), (.pure, 1), (.pure, 2), (.pure, 3), (.pure, 4), (.pure, 5), (.pure, 6), (.forced, 7), (.pure, 8), (.pure, 9)] (by kernel_rfl) (by kernel_rfl) (KB.refl _ _) ?_
        iterate 3 refine WS.pure rfl rfl (fun _ => LV.mv rfl) ?_
        have hcap1 : N ≤ N := (Rd.cap (St.now (SH.rd hS4 (.head _))))
        refine WS.pure rfl rfl (fun _ => LV.cut Try.underlying58 ti5.sz rfl rfl rfl rfl ⟨.inr ⟨.i64, by rw [Int.toNat_of_nonneg (a := n) (by omega)] <;> rfl⟩, .inl ⟨rfl, rfl, rfl⟩, .inl ⟨rfl, rfl⟩⟩ (by omega) (by omega) (by omega)) ?_
        iterate 2 refine WS.pure rfl rfl (fun _ => LV.mv rfl) ?_
        have hcap2 : N ≤ N := (Rd.cap (St.now (SH.rd hS4 (.head _))))
        refine WS.pure rfl rfl (fun _ => LV.cut Try.underlying58 ti5.sz rfl rfl rfl rfl ⟨.inl ⟨rfl, rfl⟩, .inr ⟨.i64, by rw [Int.toNat_of_nonneg (a := n) (by omega)] <;> rfl⟩, .inl ⟨rfl, rfl⟩⟩ (by omega) (by omega) (by omega)) ?_
        refine WS.xe rfl rfl (XE.copyAt (xs := r) (ys := ((r.take ((n).toNat)).drop 0)) ((n).toNat) (N - (n).toNat) (N - (n).toNat) hS4 Try.underlying58 ti5.sz rfl (St.now ((SH.rd hS4 (.head _)).imp fun _ h => Rd.cut h (by omega) (by omega) (by omega) (by omega))) ⟨_, rfl, fun g_ h_ h0_ => by cases h_; exact cut_at (by omega)⟩ (by omega) rfl rfl) ?_
        rintro _ w5 ⟨rfl, hS5, hk4⟩
        refine ⟨fun h_ => (by cases h_), ?_⟩
        refine WS.pure rfl rfl (fun _ => LV.add rfl rfl (wr64 (by omega) (by omega))) ?_
        refine WS.pure rfl rfl (fun _ => LV.asg rfl) ?_
        refine WS.nil (blockQ.n <| thenQ.n ?_)
        exact ⟨_, by simp; omega, n + ((min (((r.take ((n).toNat)).drop 0)).length (N - (n).toNat) : Nat) : Int), ((r).take ((n).toNat) ++ (((r.take ((n).toNat)).drop 0)).take (N - (n).toNat) ++ (r).drop ((n).toNat + min (((r.take ((n).toNat)).drop 0)).length (N - (n).toNat))), (by simp; omega), (by simp; omega), (by simp; omega), (repG_step (by omega) hc3 q2 q3), hS5, rfl, Weak.cons rfl <| Weak.cons rfl <| Weak.cons rfl <| Weak.cons rfl <| Weak.cons rfl <| Weak.cons rfl <| Weak.cons rfl <| Weak.nil _⟩
      · skip
        refine WC.exit (thenQ.x <| thenQ.x <| blockQ.hit <| thenQ.n ?_)
        refine WC.seq ?_
        refine WC.region ?_
        refine WL.lv rfl (LV.mv rfl) ?_
        refine WL.lv rfl (LV.asg rfl) ?_
        refine WL.nil (thenQ.n ?_)
        refine WC.ret (?_)
        exact ⟨_, fun a ha => res1 rfl ha rfl, _, rfl, repG_fin q1 hc3 q2 q3 ▸ hL1⟩

theorem rep8_calls' {w : World} {A : Option Addr} {c N : Nat} {x : Int} {n : Int} (hn : n = N) (hx : St No w (Rd eU8 (.slice A 1 c) [x])) (h2 : N ≤ 100000) :
    Calls Try.prog 26 #[(.slice A 1 c), (.int .i64 n)] w fun e w' => ∃ v, e = .returned v ∧ (fun v w' => ∃ b, v = .slice (some ⟨b, 0, none⟩) N N ∧ SH w No w' [rowE eU8 5 (.slice (some ⟨b, 0, none⟩) N N) (List.replicate N x)]) v w' := hn ▸ rep8_calls hx h2

theorem few37_calls {w : World} {A0 : Option Addr} {a : List Ln} {c0 : Nat} (ha : St No w (Rd eL (.slice A0 a.length c0) a)) :
    Calls Try.prog 7 #[(.slice A0 a.length c0)] w fun e w' => ∃ v, e = .returned v ∧ (fun v w' => v = .slice (cutA A0 c0 2) (a.take 25).length c0 ∧ KB No w w') v w' := by
  have hS : SH w No w [] := SH.nil _ _
  refine calls (l := litOf [(.slice A0 a.length c0)] 0) Try.func7 rfl (n := 8) rfl (Nat.le_of_ble_eq_true rfl) (lit_args _) ?_
  refine WC.seq ?_
  refine WC.region ?_
  refine WL.lv rfl (LV.asg rfl) ?_
  refine WL.nil (thenQ.n ?_)
  refine WC.seq ?_
  refine WC.region ?_
  iterate 2 refine WL.lv rfl (LV.mv rfl) ?_
  refine WL.lv rfl (LV.lenL Try.underlying22 rfl) ?_
  refine WL.lv rfl (LV.minI rfl rfl) ?_
  have hcap1 : a.length ≤ c0 := (Rd.cap (St.now (SH.stN hS ha)))
  refine WL.lv rfl (LV.cut Try.underlying22 ti45.sz rfl rfl rfl rfl ⟨.inl ⟨rfl, rfl⟩, .inr ⟨.i64, by rw [Int.toNat_of_nonneg (a := min (a.length : Int) 25) (by omega)] <;> rfl⟩, .inl ⟨rfl, rfl⟩⟩ (by omega) (by omega) (by omega)) ?_
  refine WL.lv rfl (LV.asg rfl) ?_
  refine WL.nil (thenQ.n ?_)
  refine WC.ret (?_)
  exact ⟨_, fun a ha => res1 rfl ha rfl, congrArg (fun n => Value.slice (cutA A0 c0 2) n c0) (by rw [List.length_take]; omega), hS.kb⟩

theorem has_calls {w : World} {A_l : Option Addr} {n_l c_l : Nat} {l : List Bool} {i : Int} (h_l : St No w (Rd eB (.slice A_l n_l c_l) l)) (hn_l : l.length = n_l) (hi : 0 ≤ i) :
    Calls Try.prog 30 #[(.slice A_l n_l c_l), (.int .i64 i)] w fun e w' => ∃ v, e = .returned v ∧ (fun v w' => v = .bool (decide (hasB l i)) ∧ KB No w w') v w' := by
  subst hn_l
  have hS : SH w No w [] := SH.nil _ _
  refine calls (l := litOf [(.slice A_l l.length c_l), (.int .i64 i)] 0) Try.func30 rfl (n := 15) rfl (Nat.le_of_ble_eq_true rfl) (lit_args _) ?_
  refine WC.seq ?_
  refine WC.region ?_
  refine WL.lv rfl (LV.asg rfl) ?_
  refine WL.nil (thenQ.n ?_)
  refine WC.seq ?_
  refine WC.region ?_
  iterate 2 refine WL.lv rfl (LV.mv rfl) ?_
  refine WL.lv rfl (LV.lenL Try.underlying34 rfl) ?_
  rcases Decidable.em (i < (l.length : Int)) with hg1 | hg1
  · refine WL.lv rfl (LV.as (LV.ltI rfl rfl) (decide_eq_true hg1)) ?_
    iterate 3 refine WL.lv rfl (LV.mv rfl) ?_
    obtain ⟨A1, c1, e1, g1⟩ := St.elt (SH.stN hS h_l) false i (by omega) (by omega)
    refine WL.lv rfl (LV.idxA Try.underlying34 ti4.sz rfl e1 rfl (by omega) (by omega)) ?_
    refine WL.lv rfl (LV.load1 (v := (.bool (bI l (i)))) Try.underlying4 rfl rfl (g1 _ (KB.refl No _) 0 _ rfl)) ?_
    refine WL.lv rfl (LV.pickT rfl rfl) ?_
    refine WL.lv rfl (LV.asg rfl) ?_
    refine WL.nil (thenQ.n ?_)
    refine WC.ret (?_)
    exact ⟨_, fun a ha => res1 rfl ha rfl, congrArg Value.bool ((dec_hasB _ _).symm), hS.kb⟩
  · refine WL.lv rfl (LV.as (LV.ltI rfl rfl) (decide_eq_false hg1)) ?_
    refine WL.lv rfl (LV.mv rfl) ?_
    iterate 4 refine WL.off rfl ?_
    refine WL.lv rfl (LV.pickF rfl rfl) ?_
    refine WL.lv rfl (LV.asg rfl) ?_
    refine WL.nil (thenQ.n ?_)
    refine WC.ret (?_)
    exact ⟨_, fun a ha => res1 rfl ha rfl, congrArg Value.bool ((decide_eq_false (hasB_out (by omega))).symm), hS.kb⟩

theorem grow_calls {w : World} {A_x : Option Addr} {n_x c_x : Nat} {x : List Int} {A_y : Option Addr} {n_y c_y : Nat} {y : List Int} {A_used : Option Addr} {n_used c_used : Nat} {used : List Bool} {A_taken : Option Addr} {n_taken c_taken : Nat} {taken : List Bool} {i : Int} {j : Int} (h_x : St No w (Rd eI (.slice A_x n_x c_x) x)) (hn_x : x.length = n_x) (h_y : St No w (Rd eI (.slice A_y n_y c_y) y)) (hn_y : y.length = n_y) (h_used : St No w (Rd eB (.slice A_used n_used c_used) used)) (hn_used : used.length = n_used) (h_taken : St No w (Rd eB (.slice A_taken n_taken c_taken) taken)) (hn_taken : taken.length = n_taken)  :
    Calls Try.prog 16 #[(.slice A_x n_x c_x), (.slice A_y n_y c_y), (.slice A_used n_used c_used), (.slice A_taken n_taken c_taken), (.int .i64 i), (.int .i64 j)] w fun e w' => ∃ v, e = .returned v ∧ (fun v w' => v = .int .i64 (grw x y used taken i j) ∧ KB No w w') v w' := by
  subst hn_x hn_y hn_used hn_taken
  have hmx := Rd.max h_x.now
  have hmy := Rd.max h_y.now
  have hS : SH w No w [] := SH.nil _ _
  refine calls (l := litOf [(.slice A_x x.length c_x), (.slice A_y y.length c_y), (.slice A_used used.length c_used), (.slice A_taken taken.length c_taken), (.int .i64 i), (.int .i64 j)] 0) Try.func16 rfl (n := 68) rfl (Nat.le_of_ble_eq_true rfl) (lit_args _) ?_
  refine WC.seq ?_
  refine WC.region ?_
  refine WL.lv rfl (LV.asg rfl) ?_
  refine WL.nil (thenQ.n ?_)
  iterate 2 refine WC.seq ?_
  refine WC.region ?_
  refine WL.lv rfl (LV.mv rfl) ?_
  rcases Decidable.em (i < 0) with hg1 | hg1
  · refine WL.lv rfl (LV.as (LV.ltI rfl rfl) (decide_eq_true hg1)) ?_
    refine WL.lv rfl (LV.mv rfl) ?_
    iterate 2 refine WL.off rfl ?_
    refine WL.lv rfl (LV.pickT rfl rfl) ?_
    refine WL.nil (thenQ.n ?_)
    refine WC.condT rfl ?_
    refine WC.seq ?_
    refine WC.region ?_
    refine WL.lv rfl (LV.asg rfl) ?_
    refine WL.nil (thenQ.n ?_)
    refine WC.ret (thenQ.r <| ?_)
    exact ⟨_, fun a ha => res1 rfl ha rfl, congrArg (Value.int .i64) (grw_fin (Int.le_refl 0) (.inl rfl) (fun k h1_ h2_ => by omega) (fun h1_ h2_ => by omega)), hS.kb⟩
  · refine WL.lv rfl (LV.as (LV.ltI rfl rfl) (decide_eq_false hg1)) ?_
    iterate 2 refine WL.lv rfl (LV.mv rfl) ?_
    refine WL.lv rfl (LV.ltI rfl rfl) ?_
    refine WL.lv rfl (LV.pickF rfl rfl) ?_
    refine WL.nil (thenQ.n ?_)
    refine WC.condP (p := j < 0) rfl (fun hc1 => ?_) (fun hc1 => ?_)
    · skip
      refine WC.seq ?_
      refine WC.region ?_
      refine WL.lv rfl (LV.asg rfl) ?_
      refine WL.nil (thenQ.n ?_)
      refine WC.ret (thenQ.r <| ?_)
      exact ⟨_, fun a ha => res1 rfl ha rfl, congrArg (Value.int .i64) (grw_fin (Int.le_refl 0) (.inl rfl) (fun k h1_ h2_ => by omega) (fun h1_ h2_ => by omega)), hS.kb⟩
    · skip
      refine WC.skip (thenQ.n ?_)
      refine WC.seq ?_
      refine WC.region ?_
      refine WL.lv rfl (LV.asg rfl) ?_
      refine WL.nil (thenQ.n ?_)
      refine WC.seq ?_
      refine WC.block ?_
      refine WC.loop (fun m_ f_ w_ => ∃ (n : Int), (0 ≤ n) ∧ (n ≤ x.length) ∧ (∀ k : Int, 0 ≤ k → k < n → okG x y used taken (i + k) (j + k)) ∧ SH w No w_ [] ∧ m_ = (((x.length : Int) - n).toNat) ∧ Weak (lit [(0, (.slice A_x x.length c_x)), (1, (.slice A_y y.length c_y)), (2, (.slice A_used used.length c_used)), (3, (.slice A_taken taken.length c_taken)), (4, (.int .i64 i)), (5, (.int .i64 j)), (13, (.int .i64 n))]) f_) _ ⟨0, by omega, by omega, (fun k h1_ h2_ => by omega), hS, rfl, Weak.cons rfl <| Weak.cons rfl <| Weak.cons rfl <| Weak.cons rfl <| Weak.cons rfl <| Weak.cons rfl <| Weak.cons rfl <| Weak.nil _⟩ ?_
      rintro m1 f1 w1 ⟨n, nlo, nhi, q1, hL1, rfl, hw1⟩
      refine WC.weak hw1 ?_
      clear hw1
      iterate 2 refine WC.seq ?_
      have hS1 := SH.drew hL1
      refine WC.regionD [] (fun w_ => KB No w1.drew w_) [(.pure, 0), (.pure, 1), (.pure, 2), (.pure, 3), (.pure, 4), (.pure, 5), (.pure, 6), (.pure, 7), (.pure, 8), (.pure, 9), (.pure, 10), (.pure, 11), (.pure, 12), (.pure, 13), (.pure, 14), (.pure, 15), (.pure, 16), (.pure, 17), (.pure, 18), (.pure, 19), (.look, 20), (.pure, 21), (.pure, 22), (.pure, 23), (.pure, 24), (.pure, 25), (.look, 26), (.pure, 27), (.pure, 28), (.pure, 29), (.pure, 30), (.pure, 31), (.pure, 32), (.pure, 33), (.forced, 34), (.pure, 35), (.pure, 36), (.pure, 37), (.pure, 38), (.pure, 39), (.pure, 40), (.pure, 41), (.forced, 42), (.pure, 43), (.pure, 44)] (by kernel_rfl) (by kernel_rfl) (KB.refl _ _) ?_
      iterate 2 refine WS.pure rfl rfl (fun _ => LV.mv rfl) ?_
      refine WS.pure rfl rfl (fun _ => LV.lenL Try.underlying33 rfl) ?_
      refine WS.pure rfl rfl (fun _ => LV.mv rfl) ?_
      refine WS.pure rfl rfl (fun _ => LV.sub rfl rfl (wr64 (by omega) (by omega))) ?_
      rcases Decidable.em (i < ((x.length : Int) - n)) with hg2 | hg2
      · refine WS.pure rfl rfl (fun _ => LV.as (LV.ltI rfl rfl) (decide_eq_true hg2)) ?_
        iterate 3 refine WS.pure rfl rfl (fun _ => LV.mv rfl) ?_
        refine WS.pure rfl rfl (fun _ => LV.lenL Try.underlying33 rfl) ?_
        refine WS.pure rfl rfl (fun _ => LV.mv rfl) ?_
        refine WS.pure rfl rfl (fun _ => LV.sub rfl rfl (wr64 (by omega) (by omega))) ?_
        rcases Decidable.em (j < ((y.length : Int) - n)) with hg3 | hg3
        · refine WS.pure rfl rfl (fun _ => LV.as (LV.ltI rfl rfl) (decide_eq_true hg3)) ?_
          refine WS.pure rfl rfl (fun _ => LV.pickT rfl rfl) ?_
          iterate 4 refine WS.pure rfl rfl (fun _ => LV.mv rfl) ?_
          refine WS.pure rfl rfl (fun _ => LV.add rfl rfl (wr64 (by omega) (by omega))) ?_
          obtain ⟨A1, c1, e1, g1⟩ := St.elt (SH.stN hS1 h_x) 0 (i + n) (by omega) (by omega)
          refine WS.pure rfl rfl (fun _ => LV.idxA Try.underlying33 ti3.sz rfl e1 rfl (by omega) (by omega)) ?_
          refine WS.look rfl rfl (fun _ hk_ => LV.load1 (v := (.int .i64 (gI x (i + n)))) Try.underlying3 rfl rfl (g1 _ hk_ 0 _ rfl)) ?_
          iterate 3 refine WS.pure rfl rfl (fun _ => LV.mv rfl) ?_
          refine WS.pure rfl rfl (fun _ => LV.add rfl rfl (wr64 (by omega) (by omega))) ?_
          obtain ⟨A2, c2, e2, g2⟩ := St.elt (SH.stN hS1 h_y) 0 (j + n) (by omega) (by omega)
          refine WS.pure rfl rfl (fun _ => LV.idxA Try.underlying33 ti3.sz rfl e2 rfl (by omega) (by omega)) ?_
          refine WS.look rfl rfl (fun _ hk_ => LV.load1 (v := (.int .i64 (gI y (j + n)))) Try.underlying3 rfl rfl (g2 _ hk_ 0 _ rfl)) ?_
          rcases Decidable.em ((gI x (i + n)) = (gI y (j + n))) with he | he
          · refine WS.pure rfl rfl (fun _ => LV.as (LV.eqI rfl rfl) (decide_eq_true he)) ?_
            refine WS.pure rfl rfl (fun _ => LV.pickT rfl rfl) ?_
            iterate 4 refine WS.pure rfl rfl (fun _ => LV.mv rfl) ?_
            refine WS.pure rfl rfl (fun _ => LV.add rfl rfl (wr64 (by omega) (by omega))) ?_
            refine WS.call rfl rfl (XC.fn Try.func30 (by kernel_rfl) rfl rfl rfl) (has_calls (i := (i + n)) (SH.stN hS1 h_used) rfl (by omega)) ?_
            rintro v_ w2 ⟨rfl, hk1⟩
            have hS2 := SH.same hS1 hk1
            refine ⟨fun h_ => (KB.transN (KB.refl _ _) hk1), ?_⟩
            rcases Decidable.em (¬ (hasB used (i + n))) with hu | hu
            · refine WS.pure rfl rfl (fun _ => LV.as (LV.notP rfl) (decide_eq_true hu)) ?_
              refine WS.pure rfl rfl (fun _ => LV.pickT rfl rfl) ?_
              iterate 4 refine WS.pure rfl rfl (fun _ => LV.mv rfl) ?_
              refine WS.pure rfl rfl (fun _ => LV.add rfl rfl (wr64 (by omega) (by omega))) ?_
              refine WS.call rfl rfl (XC.fn Try.func30 (by kernel_rfl) rfl rfl rfl) (has_calls (i := (j + n)) (SH.stN hS2 h_taken) rfl (by omega)) ?_
              rintro v_ w3 ⟨rfl, hk2⟩
              have hS3 := SH.same hS2 hk2
              refine ⟨fun h_ => (KB.transN (KB.transN (KB.refl _ _) hk1) hk2), ?_⟩
              refine WS.pure rfl rfl (fun _ => LV.notP rfl) ?_
              refine WS.pure rfl rfl (fun _ => LV.pickT rfl rfl) ?_
              refine WS.nil (thenQ.n ?_)
              refine WC.condP (p := ¬ (hasB taken (j + n))) rfl (fun ht => ?_) (fun ht => ?_)
              · skip
                refine WC.skip (thenQ.n ?_)
                refine WC.block ?_
                refine WC.region ?_
                refine WL.lv rfl (LV.mv rfl) ?_
                refine WL.lv rfl (LV.add rfl rfl (wr64 (by omega) (by omega))) ?_
                refine WL.lv rfl (LV.asg rfl) ?_
                refine WL.nil (blockQ.n <| thenQ.n ?_)
                exact ⟨_, by omega, n + 1, by omega, by omega, (all_step (p := fun k => okG x y used taken (i + k) (j + k)) q1 ⟨by omega, by omega, he, hu, ht⟩), hS3, rfl, Weak.cons rfl <| Weak.cons rfl <| Weak.cons rfl <| Weak.cons rfl <| Weak.cons rfl <| Weak.cons rfl <| Weak.cons rfl <| Weak.nil _⟩
              · skip
                refine WC.exit (thenQ.x <| thenQ.x <| blockQ.hit <| thenQ.n ?_)
                refine WC.seq ?_
                refine WC.region ?_
                refine WL.lv rfl (LV.mv rfl) ?_
                refine WL.lv rfl (LV.asg rfl) ?_
                refine WL.nil (thenQ.n ?_)
                refine WC.ret (?_)
                exact ⟨_, fun a ha => res1 rfl ha rfl, congrArg (Value.int .i64) (grw_fin nlo (.inr (by omega)) q1 (fun _ _ h_ => by first | (obtain ⟨h1_, h2_, h3_, h4_, h5_⟩ := h_; first | omega | exact he h3_ | exact hu h4_ | exact ht h5_))), hS3.kb⟩
            · refine WS.pure rfl rfl (fun _ => LV.as (LV.notP rfl) (decide_eq_false hu)) ?_
              refine WS.pure rfl rfl (fun _ => LV.pickT rfl rfl) ?_
              refine WS.pure rfl rfl (fun _ => LV.mv rfl) ?_
              iterate 4 refine WS.off rfl rfl ?_
              refine WS.offF rfl rfl (fun h_ => (KB.transN (KB.refl _ _) hk1)) ?_
              refine WS.off rfl rfl ?_
              refine WS.pure rfl rfl (fun _ => LV.pickF rfl rfl) ?_
              refine WS.nil (thenQ.n ?_)
              refine WC.condF rfl ?_
              refine WC.exit (thenQ.x <| thenQ.x <| blockQ.hit <| thenQ.n ?_)
              refine WC.seq ?_
              refine WC.region ?_
              refine WL.lv rfl (LV.mv rfl) ?_
              refine WL.lv rfl (LV.asg rfl) ?_
              refine WL.nil (thenQ.n ?_)
              refine WC.ret (?_)
              exact ⟨_, fun a ha => res1 rfl ha rfl, congrArg (Value.int .i64) (grw_fin nlo (.inr (by omega)) q1 (fun _ _ h_ => by first | (obtain ⟨h1_, h2_, h3_, h4_, h5_⟩ := h_; first | omega | exact he h3_ | exact hu h4_ | exact ht h5_))), hS2.kb⟩
          · refine WS.pure rfl rfl (fun _ => LV.as (LV.eqI rfl rfl) (decide_eq_false he)) ?_
            refine WS.pure rfl rfl (fun _ => LV.pickT rfl rfl) ?_
            refine WS.pure rfl rfl (fun _ => LV.mv rfl) ?_
            iterate 4 refine WS.off rfl rfl ?_
            refine WS.offF rfl rfl (fun h_ => (KB.refl _ _)) ?_
            refine WS.off rfl rfl ?_
            refine WS.pure rfl rfl (fun _ => LV.pickF rfl rfl) ?_
            refine WS.pure rfl rfl (fun _ => LV.mv rfl) ?_
            iterate 4 refine WS.off rfl rfl ?_
            refine WS.offF rfl rfl (fun h_ => (KB.refl _ _)) ?_
            refine WS.off rfl rfl ?_
            refine WS.pure rfl rfl (fun _ => LV.pickF rfl rfl) ?_
            refine WS.nil (thenQ.n ?_)
            refine WC.condF rfl ?_
            refine WC.exit (thenQ.x <| thenQ.x <| blockQ.hit <| thenQ.n ?_)
            refine WC.seq ?_
            refine WC.region ?_
            refine WL.lv rfl (LV.mv rfl) ?_
            refine WL.lv rfl (LV.asg rfl) ?_
            refine WL.nil (thenQ.n ?_)
            refine WC.ret (?_)
            exact ⟨_, fun a ha => res1 rfl ha rfl, congrArg (Value.int .i64) (grw_fin nlo (.inr (by omega)) q1 (fun _ _ h_ => by first | (obtain ⟨h1_, h2_, h3_, h4_, h5_⟩ := h_; first | omega | exact he h3_ | exact hu h4_ | exact ht h5_))), hS1.kb⟩
        · refine WS.pure rfl rfl (fun _ => LV.as (LV.ltI rfl rfl) (decide_eq_false hg3)) ?_
          refine WS.pure rfl rfl (fun _ => LV.pickT rfl rfl) ?_
          refine WS.pure rfl rfl (fun _ => LV.mv rfl) ?_
          iterate 5 refine WS.off rfl rfl ?_
          refine WS.offL rfl rfl ?_
          iterate 5 refine WS.off rfl rfl ?_
          refine WS.offL rfl rfl ?_
          refine WS.off rfl rfl ?_
          refine WS.pure rfl rfl (fun _ => LV.pickF rfl rfl) ?_
          refine WS.pure rfl rfl (fun _ => LV.mv rfl) ?_
          iterate 4 refine WS.off rfl rfl ?_
          refine WS.offF rfl rfl (fun h_ => (KB.refl _ _)) ?_
          refine WS.off rfl rfl ?_
          refine WS.pure rfl rfl (fun _ => LV.pickF rfl rfl) ?_
          refine WS.pure rfl rfl (fun _ => LV.mv rfl) ?_
          iterate 4 refine WS.off rfl rfl ?_
          refine WS.offF rfl rfl (fun h_ => (KB.refl _ _)) ?_
          refine WS.off rfl rfl ?_
          refine WS.pure rfl rfl (fun _ => LV.pickF rfl rfl) ?_
          refine WS.nil (thenQ.n ?_)
          refine WC.condF rfl ?_
          refine WC.exit (thenQ.x <| thenQ.x <| blockQ.hit <| thenQ.n ?_)
          refine WC.seq ?_
          refine WC.region ?_
          refine WL.lv rfl (LV.mv rfl) ?_
          refine WL.lv rfl (LV.asg rfl) ?_
          refine WL.nil (thenQ.n ?_)
          refine WC.ret (?_)
          exact ⟨_, fun a ha => res1 rfl ha rfl, congrArg (Value.int .i64) (grw_fin nlo (.inr (by omega)) q1 (fun _ _ h_ => by first | (obtain ⟨h1_, h2_, h3_, h4_, h5_⟩ := h_; first | omega | exact he h3_ | exact hu h4_ | exact ht h5_))), hS1.kb⟩
      · refine WS.pure rfl rfl (fun _ => LV.as (LV.ltI rfl rfl) (decide_eq_false hg2)) ?_
        refine WS.pure rfl rfl (fun _ => LV.mv rfl) ?_
        iterate 6 refine WS.off rfl rfl ?_
        refine WS.pure rfl rfl (fun _ => LV.pickF rfl rfl) ?_
        refine WS.pure rfl rfl (fun _ => LV.mv rfl) ?_
        iterate 5 refine WS.off rfl rfl ?_
        refine WS.offL rfl rfl ?_
        iterate 5 refine WS.off rfl rfl ?_
        refine WS.offL rfl rfl ?_
        refine WS.off rfl rfl ?_
        refine WS.pure rfl rfl (fun _ => LV.pickF rfl rfl) ?_
        refine WS.pure rfl rfl (fun _ => LV.mv rfl) ?_
        iterate 4 refine WS.off rfl rfl ?_
        refine WS.offF rfl rfl (fun h_ => (KB.refl _ _)) ?_
        refine WS.off rfl rfl ?_
        refine WS.pure rfl rfl (fun _ => LV.pickF rfl rfl) ?_
        refine WS.pure rfl rfl (fun _ => LV.mv rfl) ?_
        iterate 4 refine WS.off rfl rfl ?_
        refine WS.offF rfl rfl (fun h_ => (KB.refl _ _)) ?_
        refine WS.off rfl rfl ?_
        refine WS.pure rfl rfl (fun _ => LV.pickF rfl rfl) ?_
        refine WS.nil (thenQ.n ?_)
        refine WC.condF rfl ?_
        refine WC.exit (thenQ.x <| thenQ.x <| blockQ.hit <| thenQ.n ?_)
        refine WC.seq ?_
        refine WC.region ?_
        refine WL.lv rfl (LV.mv rfl) ?_
        refine WL.lv rfl (LV.asg rfl) ?_
        refine WL.nil (thenQ.n ?_)
        refine WC.ret (?_)
        exact ⟨_, fun a ha => res1 rfl ha rfl, congrArg (Value.int .i64) (grw_fin nlo (.inr (by omega)) q1 (fun _ _ h_ => by first | (obtain ⟨h1_, h2_, h3_, h4_, h5_⟩ := h_; first | omega | exact he h3_ | exact hu h4_ | exact ht h5_))), hS1.kb⟩

theorem rgrow_calls {w : World} {A_x : Option Addr} {n_x c_x : Nat} {x : List Int} {A_y : Option Addr} {n_y c_y : Nat} {y : List Int} {A_used : Option Addr} {n_used c_used : Nat} {used : List Bool} {A_taken : Option Addr} {n_taken c_taken : Nat} {taken : List Bool} {i : Int} {j : Int} (h_x : St No w (Rd eI (.slice A_x n_x c_x) x)) (hn_x : x.length = n_x) (h_y : St No w (Rd eI (.slice A_y n_y c_y) y)) (hn_y : y.length = n_y) (h_used : St No w (Rd eB (.slice A_used n_used c_used) used)) (hn_used : used.length = n_used) (h_taken : St No w (Rd eB (.slice A_taken n_taken c_taken) taken)) (hn_taken : taken.length = n_taken)  :
    Calls Try.prog 17 #[(.slice A_x n_x c_x), (.slice A_y n_y c_y), (.slice A_used n_used c_used), (.slice A_taken n_taken c_taken), (.int .i64 i), (.int .i64 j)] w fun e w' => ∃ v, e = .returned v ∧ (fun v w' => v = .int .i64 (grw x y used taken i j) ∧ KB No w w') v w' := by
  subst hn_x hn_y hn_used hn_taken
  have hmx := Rd.max h_x.now
  have hmy := Rd.max h_y.now
  have hS : SH w No w [] := SH.nil _ _
  refine calls (l := litOf [(.slice A_x x.length c_x), (.slice A_y y.length c_y), (.slice A_used used.length c_used), (.slice A_taken taken.length c_taken), (.int .i64 i), (.int .i64 j)] 0) Try.func17 rfl (n := 73) rfl (Nat.le_of_ble_eq_true rfl) (lit_args _) ?_
  refine WC.seq ?_
  refine WC.region ?_
  refine WL.lv rfl (LV.asg rfl) ?_
  refine WL.nil (thenQ.n ?_)
  refine WC.seq ?_
  refine WC.region ?_
  refine WL.lv rfl (LV.asg rfl) ?_
  refine WL.nil (thenQ.n ?_)
  refine WC.seq ?_
  refine WC.block ?_
  refine WC.loop (fun m_ f_ w_ => ∃ (i2 : Int) (j2 : Int) (n : Int), (0 ≤ n) ∧ (n ≤ x.length) ∧ (n = 0 ∨ (0 ≤ i ∧ 0 ≤ j)) ∧ (i2 = i + n) ∧ (j2 = j + n) ∧ (∀ k : Int, 0 ≤ k → k < n → okG x y used taken (i + k) (j + k)) ∧ SH w No w_ [] ∧ m_ = (((x.length : Int) - n).toNat) ∧ Weak (lit [(0, (.slice A_x x.length c_x)), (1, (.slice A_y y.length c_y)), (2, (.slice A_used used.length c_used)), (3, (.slice A_taken taken.length c_taken)), (4, (.int .i64 i2)), (5, (.int .i64 j2)), (13, (.int .i64 n))]) f_) _ ⟨i, j, 0, by omega, by omega, by omega, by omega, by omega, (fun k h1_ h2_ => by omega), hS, rfl, Weak.cons rfl <| Weak.cons rfl <| Weak.cons rfl <| Weak.cons rfl <| Weak.cons rfl <| Weak.cons rfl <| Weak.cons rfl <| Weak.nil _⟩ ?_
  rintro m1 f1 w1 ⟨i2, j2, n, nlo, nhi, q0, e1, e2, q1, hL1, rfl, hw1⟩
  refine WC.weak hw1 ?_
  clear hw1
  iterate 2 refine WC.seq ?_
  refine WC.region ?_
  refine WL.lv rfl (LV.mv rfl) ?_
  rcases Decidable.em (i2 ≥ 0) with hg1 | hg1
  · refine WL.lv rfl (LV.as (LV.geI rfl rfl) (decide_eq_true hg1)) ?_
    iterate 2 refine WL.lv rfl (LV.mv rfl) ?_
    rcases Decidable.em (j2 ≥ 0) with hg2 | hg2
    · refine WL.lv rfl (LV.as (LV.geI rfl rfl) (decide_eq_true hg2)) ?_
      refine WL.lv rfl (LV.pickT rfl rfl) ?_
      iterate 3 refine WL.lv rfl (LV.mv rfl) ?_
      refine WL.lv rfl (LV.lenL Try.underlying33 rfl) ?_
      rcases Decidable.em (i2 < (x.length : Int)) with hg3 | hg3
      · refine WL.lv rfl (LV.as (LV.ltI rfl rfl) (decide_eq_true hg3)) ?_
        refine WL.lv rfl (LV.pickT rfl rfl) ?_
        iterate 3 refine WL.lv rfl (LV.mv rfl) ?_
        refine WL.lv rfl (LV.lenL Try.underlying33 rfl) ?_
        refine WL.lv rfl (LV.ltI rfl rfl) ?_
        refine WL.lv rfl (LV.pickT rfl rfl) ?_
        refine WL.nil (thenQ.n ?_)
        refine WC.condP (p := j2 < (y.length : Int)) rfl (fun hc1 => ?_) (fun hc1 => ?_)
        · skip
          refine WC.skip (thenQ.n ?_)
          refine WC.block ?_
          iterate 2 refine WC.seq ?_
          have hS1 := SH.drew hL1
          refine WC.regionD [] (fun w_ => KB No w1.drew w_) [(.pure, 0), (.pure, 1), (.pure, 2), (.look, 3), (.pure, 4), (.pure, 5), (.pure, 6), (.look, 7), (.pure, 8), (.pure, 9), (.pure, 10), (.pure, 11), (.pure, 12), (.pure, 13), (.pure, 14), (.pure, 15), (.pure, 16), (.pure, 17), (.look, 18), (.pure, 19), (.pure, 20), (.pure, 21), (.pure, 22), (.pure, 23), (.pure, 24), (.pure, 25), (.pure, 26), (.pure, 27), (.pure, 28), (.pure, 29), (.look, 30), (.pure, 31), (.pure, 32)] (by kernel_rfl) (by kernel_rfl) (KB.refl _ _) ?_
          iterate 2 refine WS.pure rfl rfl (fun _ => LV.mv rfl) ?_
          obtain ⟨A1, c1, e3, g1⟩ := St.elt (SH.stN hS1 h_x) 0 i2 (by omega) (by omega)
          refine WS.pure rfl rfl (fun _ => LV.idxA Try.underlying33 ti3.sz rfl e3 rfl (by omega) (by omega)) ?_
          refine WS.look rfl rfl (fun _ hk_ => LV.load1 (v := (.int .i64 (gI x (i2)))) Try.underlying3 rfl rfl (g1 _ hk_ 0 _ rfl)) ?_
          iterate 2 refine WS.pure rfl rfl (fun _ => LV.mv rfl) ?_
          obtain ⟨A2, c2, e4, g2⟩ := St.elt (SH.stN hS1 h_y) 0 j2 (by omega) (by omega)
          refine WS.pure rfl rfl (fun _ => LV.idxA Try.underlying33 ti3.sz rfl e4 rfl (by omega) (by omega)) ?_
          refine WS.look rfl rfl (fun _ hk_ => LV.load1 (v := (.int .i64 (gI y (j2)))) Try.underlying3 rfl rfl (g2 _ hk_ 0 _ rfl)) ?_
          rcases Decidable.em ((gI x (i2)) ≠ (gI y (j2))) with he | he
          · refine WS.pure rfl rfl (fun _ => LV.as (LV.neI rfl rfl) (decide_eq_true he)) ?_
            refine WS.pure rfl rfl (fun _ => LV.mv rfl) ?_
            iterate 8 refine WS.off rfl rfl ?_
            refine WS.offL rfl rfl ?_
            refine WS.off rfl rfl ?_
            refine WS.pure rfl rfl (fun _ => LV.pickT rfl rfl) ?_
            refine WS.pure rfl rfl (fun _ => LV.mv rfl) ?_
            iterate 8 refine WS.off rfl rfl ?_
            refine WS.offL rfl rfl ?_
            refine WS.off rfl rfl ?_
            refine WS.pure rfl rfl (fun _ => LV.pickT rfl rfl) ?_
            refine WS.nil (thenQ.n ?_)
            refine WC.condT rfl ?_
            refine WC.seq ?_
            refine WC.region ?_
            refine WL.lv rfl (LV.mv rfl) ?_
            refine WL.lv rfl (LV.asg rfl) ?_
            refine WL.nil (thenQ.n ?_)
            refine WC.ret (thenQ.r <| blockQ.r <| thenQ.r <| blockQ.r <| thenQ.r <| ?_)
            exact ⟨_, fun a ha => res1 rfl ha rfl, congrArg (Value.int .i64) (grw_fin nlo q0 q1 (fun h1_ h2_ h_ => by first | (obtain ⟨h1_, h2_, h3_, h4_, h5_⟩ := h_; rw [← e1, ← e2] at h3_; rw [← e1] at h4_; rw [← e2] at h5_; first | omega | exact he h3_ | exact h4_ hu | exact h5_ ht))), hS1.kb⟩
          · refine WS.pure rfl rfl (fun _ => LV.as (LV.neI rfl rfl) (decide_eq_false he)) ?_
            iterate 3 refine WS.pure rfl rfl (fun _ => LV.mv rfl) ?_
            refine WS.pure rfl rfl (fun _ => LV.lenL Try.underlying34 rfl) ?_
            rcases Decidable.em (i2 < (used.length : Int)) with hg4 | hg4
            · refine WS.pure rfl rfl (fun _ => LV.as (LV.ltI rfl rfl) (decide_eq_true hg4)) ?_
              iterate 3 refine WS.pure rfl rfl (fun _ => LV.mv rfl) ?_
              obtain ⟨A3, c3, e5, g3⟩ := St.elt (SH.stN hS1 h_used) false i2 (by omega) (by omega)
              refine WS.pure rfl rfl (fun _ => LV.idxA Try.underlying34 ti4.sz rfl e5 rfl (by omega) (by omega)) ?_
              rcases Bool.eq_false_or_eq_true (bI used (i2)) with hu | hu
              · refine WS.look rfl rfl (fun _ hk_ => LV.as (c := true) (LV.load1 (v := (.bool (bI used (i2)))) Try.underlying4 rfl rfl (g3 _ hk_ 0 _ rfl)) hu) ?_
                refine WS.pure rfl rfl (fun _ => LV.pickT rfl rfl) ?_
                refine WS.pure rfl rfl (fun _ => LV.pickF rfl rfl) ?_
                refine WS.pure rfl rfl (fun _ => LV.mv rfl) ?_
                iterate 8 refine WS.off rfl rfl ?_
                refine WS.offL rfl rfl ?_
                refine WS.off rfl rfl ?_
                refine WS.pure rfl rfl (fun _ => LV.pickT rfl rfl) ?_
                refine WS.nil (thenQ.n ?_)
                refine WC.condT rfl ?_
                refine WC.seq ?_
                refine WC.region ?_
                refine WL.lv rfl (LV.mv rfl) ?_
                refine WL.lv rfl (LV.asg rfl) ?_
                refine WL.nil (thenQ.n ?_)
                refine WC.ret (thenQ.r <| blockQ.r <| thenQ.r <| blockQ.r <| thenQ.r <| ?_)
                exact ⟨_, fun a ha => res1 rfl ha rfl, congrArg (Value.int .i64) (grw_fin nlo q0 q1 (fun h1_ h2_ h_ => by first | (obtain ⟨h1_, h2_, h3_, h4_, h5_⟩ := h_; rw [← e1, ← e2] at h3_; rw [← e1] at h4_; rw [← e2] at h5_; first | omega | exact he h3_ | exact h4_ hu | exact h5_ ht))), hS1.kb⟩
              · refine WS.look rfl rfl (fun _ hk_ => LV.as (c := false) (LV.load1 (v := (.bool (bI used (i2)))) Try.underlying4 rfl rfl (g3 _ hk_ 0 _ rfl)) hu) ?_
                refine WS.pure rfl rfl (fun _ => LV.pickT rfl rfl) ?_
                refine WS.pure rfl rfl (fun _ => LV.pickF rfl rfl) ?_
                iterate 3 refine WS.pure rfl rfl (fun _ => LV.mv rfl) ?_
                refine WS.pure rfl rfl (fun _ => LV.lenL Try.underlying34 rfl) ?_
                rcases Decidable.em (j2 < (taken.length : Int)) with hg5 | hg5
                · refine WS.pure rfl rfl (fun _ => LV.as (LV.ltI rfl rfl) (decide_eq_true hg5)) ?_
                  iterate 3 refine WS.pure rfl rfl (fun _ => LV.mv rfl) ?_
                  obtain ⟨A4, c4, e6, g4⟩ := St.elt (SH.stN hS1 h_taken) false j2 (by omega) (by omega)
                  refine WS.pure rfl rfl (fun _ => LV.idxA Try.underlying34 ti4.sz rfl e6 rfl (by omega) (by omega)) ?_
                  refine WS.look rfl rfl (fun _ hk_ => LV.load1 (v := (.bool (bI taken (j2)))) Try.underlying4 rfl rfl (g4 _ hk_ 0 _ rfl)) ?_
                  refine WS.pure rfl rfl (fun _ => LV.pickT rfl rfl) ?_
                  refine WS.pure rfl rfl (fun _ => LV.pickF rfl rfl) ?_
                  refine WS.nil (thenQ.n ?_)
                  refine WC.cond (b := bI taken (j2)) rfl (fun ht => ?_) (fun ht => ?_)
                  · skip
                    refine WC.seq ?_
                    refine WC.region ?_
                    refine WL.lv rfl (LV.mv rfl) ?_
                    refine WL.lv rfl (LV.asg rfl) ?_
                    refine WL.nil (thenQ.n ?_)
                    refine WC.ret (thenQ.r <| blockQ.r <| thenQ.r <| blockQ.r <| thenQ.r <| ?_)
                    exact ⟨_, fun a ha => res1 rfl ha rfl, congrArg (Value.int .i64) (grw_fin nlo q0 q1 (fun h1_ h2_ h_ => by first | (obtain ⟨h1_, h2_, h3_, h4_, h5_⟩ := h_; rw [← e1, ← e2] at h3_; rw [← e1] at h4_; rw [← e2] at h5_; first | omega | exact he h3_ | exact h4_ hu | exact h5_ ht))), hS1.kb⟩
                  · skip
                    refine WC.skip (thenQ.n ?_)
                    refine WC.seq ?_
                    refine WC.region ?_
                    refine WL.lv rfl (LV.mv rfl) ?_
                    refine WL.lv rfl (LV.add rfl rfl (wr64 (by omega) (by omega))) ?_
                    refine WL.lv rfl (LV.asg rfl) ?_
                    refine WL.nil (thenQ.n ?_)
                    refine WC.seq ?_
                    refine WC.region ?_
                    refine WL.lv rfl (LV.mv rfl) ?_
                    refine WL.lv rfl (LV.add rfl rfl (wr64 (by omega) (by omega))) ?_
                    refine WL.lv rfl (LV.asg rfl) ?_
                    refine WL.nil (thenQ.n ?_)
                    refine WC.region ?_
                    refine WL.lv rfl (LV.mv rfl) ?_
                    refine WL.lv rfl (LV.add rfl rfl (wr64 (by omega) (by omega))) ?_
                    refine WL.lv rfl (LV.asg rfl) ?_
                    refine WL.nil (blockQ.n <| thenQ.n ?_)
                    exact ⟨_, by omega, i2 + 1, j2 + 1, n + 1, by omega, by omega, by omega, by omega, by omega, (all_step (p := fun k => okG x y used taken (i + k) (j + k)) q1 ⟨by omega, by omega, by rw [← e1, ← e2]; exact Decidable.not_not.1 he, by rw [← e1]; first | exact hasB_out (by omega) | (intro h_; unfold hasB at h_; rw [hu] at h_; cases h_), by rw [← e2]; first | exact hasB_out (by omega) | (intro h_; unfold hasB at h_; rw [ht] at h_; cases h_)⟩), hS1, rfl, Weak.cons rfl <| Weak.cons rfl <| Weak.cons rfl <| Weak.cons rfl <| Weak.cons rfl <| Weak.cons rfl <| Weak.cons rfl <| Weak.nil _⟩
                · refine WS.pure rfl rfl (fun _ => LV.as (LV.ltI rfl rfl) (decide_eq_false hg5)) ?_
                  refine WS.pure rfl rfl (fun _ => LV.mv rfl) ?_
                  iterate 3 refine WS.off rfl rfl ?_
                  refine WS.offL rfl rfl ?_
                  iterate 2 refine WS.pure rfl rfl (fun _ => LV.pickF rfl rfl) ?_
                  refine WS.nil (thenQ.n ?_)
                  refine WC.condF rfl ?_
                  refine WC.skip (thenQ.n ?_)
                  refine WC.seq ?_
                  refine WC.region ?_
                  refine WL.lv rfl (LV.mv rfl) ?_
                  refine WL.lv rfl (LV.add rfl rfl (wr64 (by omega) (by omega))) ?_
                  refine WL.lv rfl (LV.asg rfl) ?_
                  refine WL.nil (thenQ.n ?_)
                  refine WC.seq ?_
                  refine WC.region ?_
                  refine WL.lv rfl (LV.mv rfl) ?_
                  refine WL.lv rfl (LV.add rfl rfl (wr64 (by omega) (by omega))) ?_
                  refine WL.lv rfl (LV.asg rfl) ?_
                  refine WL.nil (thenQ.n ?_)
                  refine WC.region ?_
                  refine WL.lv rfl (LV.mv rfl) ?_
                  refine WL.lv rfl (LV.add rfl rfl (wr64 (by omega) (by omega))) ?_
                  refine WL.lv rfl (LV.asg rfl) ?_
                  refine WL.nil (blockQ.n <| thenQ.n ?_)
                  exact ⟨_, by omega, i2 + 1, j2 + 1, n + 1, by omega, by omega, by omega, by omega, by omega, (all_step (p := fun k => okG x y used taken (i + k) (j + k)) q1 ⟨by omega, by omega, by rw [← e1, ← e2]; exact Decidable.not_not.1 he, by rw [← e1]; first | exact hasB_out (by omega) | (intro h_; unfold hasB at h_; rw [hu] at h_; cases h_), by rw [← e2]; first | exact hasB_out (by omega) | (intro h_; unfold hasB at h_; rw [ht] at h_; cases h_)⟩), hS1, rfl, Weak.cons rfl <| Weak.cons rfl <| Weak.cons rfl <| Weak.cons rfl <| Weak.cons rfl <| Weak.cons rfl <| Weak.cons rfl <| Weak.nil _⟩
            · refine WS.pure rfl rfl (fun _ => LV.as (LV.ltI rfl rfl) (decide_eq_false hg4)) ?_
              refine WS.pure rfl rfl (fun _ => LV.mv rfl) ?_
              iterate 3 refine WS.off rfl rfl ?_
              refine WS.offL rfl rfl ?_
              iterate 2 refine WS.pure rfl rfl (fun _ => LV.pickF rfl rfl) ?_
              iterate 3 refine WS.pure rfl rfl (fun _ => LV.mv rfl) ?_
              refine WS.pure rfl rfl (fun _ => LV.lenL Try.underlying34 rfl) ?_
              rcases Decidable.em (j2 < (taken.length : Int)) with hg6 | hg6
              · refine WS.pure rfl rfl (fun _ => LV.as (LV.ltI rfl rfl) (decide_eq_true hg6)) ?_
                iterate 3 refine WS.pure rfl rfl (fun _ => LV.mv rfl) ?_
                obtain ⟨A5, c5, e7, g5⟩ := St.elt (SH.stN hS1 h_taken) false j2 (by omega) (by omega)
                refine WS.pure rfl rfl (fun _ => LV.idxA Try.underlying34 ti4.sz rfl e7 rfl (by omega) (by omega)) ?_
                refine WS.look rfl rfl (fun _ hk_ => LV.load1 (v := (.bool (bI taken (j2)))) Try.underlying4 rfl rfl (g5 _ hk_ 0 _ rfl)) ?_
                refine WS.pure rfl rfl (fun _ => LV.pickT rfl rfl) ?_
                refine WS.pure rfl rfl (fun _ => LV.pickF rfl rfl) ?_
                refine WS.nil (thenQ.n ?_)
                refine WC.cond (b := bI taken (j2)) rfl (fun ht => ?_) (fun ht => ?_)
                · skip
                  refine WC.seq ?_
                  refine WC.region ?_
                  refine WL.lv rfl (LV.mv rfl) ?_
                  refine WL.lv rfl (LV.asg rfl) ?_
                  refine WL.nil (thenQ.n ?_)
                  refine WC.ret (thenQ.r <| blockQ.r <| thenQ.r <| blockQ.r <| thenQ.r <| ?_)
                  exact ⟨_, fun a ha => res1 rfl ha rfl, congrArg (Value.int .i64) (grw_fin nlo q0 q1 (fun h1_ h2_ h_ => by first | (obtain ⟨h1_, h2_, h3_, h4_, h5_⟩ := h_; rw [← e1, ← e2] at h3_; rw [← e1] at h4_; rw [← e2] at h5_; first | omega | exact he h3_ | exact h4_ hu | exact h5_ ht))), hS1.kb⟩
                · skip
                  refine WC.skip (thenQ.n ?_)
                  refine WC.seq ?_
                  refine WC.region ?_
                  refine WL.lv rfl (LV.mv rfl) ?_
                  refine WL.lv rfl (LV.add rfl rfl (wr64 (by omega) (by omega))) ?_
                  refine WL.lv rfl (LV.asg rfl) ?_
                  refine WL.nil (thenQ.n ?_)
                  refine WC.seq ?_
                  refine WC.region ?_
                  refine WL.lv rfl (LV.mv rfl) ?_
                  refine WL.lv rfl (LV.add rfl rfl (wr64 (by omega) (by omega))) ?_
                  refine WL.lv rfl (LV.asg rfl) ?_
                  refine WL.nil (thenQ.n ?_)
                  refine WC.region ?_
                  refine WL.lv rfl (LV.mv rfl) ?_
                  refine WL.lv rfl (LV.add rfl rfl (wr64 (by omega) (by omega))) ?_
                  refine WL.lv rfl (LV.asg rfl) ?_
                  refine WL.nil (blockQ.n <| thenQ.n ?_)
                  exact ⟨_, by omega, i2 + 1, j2 + 1, n + 1, by omega, by omega, by omega, by omega, by omega, (all_step (p := fun k => okG x y used taken (i + k) (j + k)) q1 ⟨by omega, by omega, by rw [← e1, ← e2]; exact Decidable.not_not.1 he, by rw [← e1]; first | exact hasB_out (by omega) | (intro h_; unfold hasB at h_; rw [hu] at h_; cases h_), by rw [← e2]; first | exact hasB_out (by omega) | (intro h_; unfold hasB at h_; rw [ht] at h_; cases h_)⟩), hS1, rfl, Weak.cons rfl <| Weak.cons rfl <| Weak.cons rfl <| Weak.cons rfl <| Weak.cons rfl <| Weak.cons rfl <| Weak.cons rfl <| Weak.nil _⟩
              · refine WS.pure rfl rfl (fun _ => LV.as (LV.ltI rfl rfl) (decide_eq_false hg6)) ?_
                refine WS.pure rfl rfl (fun _ => LV.mv rfl) ?_
                iterate 3 refine WS.off rfl rfl ?_
                refine WS.offL rfl rfl ?_
                iterate 2 refine WS.pure rfl rfl (fun _ => LV.pickF rfl rfl) ?_
                refine WS.nil (thenQ.n ?_)
                refine WC.condF rfl ?_
                refine WC.skip (thenQ.n ?_)
                refine WC.seq ?_
                refine WC.region ?_
                refine WL.lv rfl (LV.mv rfl) ?_
                refine WL.lv rfl (LV.add rfl rfl (wr64 (by omega) (by omega))) ?_
                refine WL.lv rfl (LV.asg rfl) ?_
                refine WL.nil (thenQ.n ?_)
                refine WC.seq ?_
                refine WC.region ?_
                refine WL.lv rfl (LV.mv rfl) ?_
                refine WL.lv rfl (LV.add rfl rfl (wr64 (by omega) (by omega))) ?_
                refine WL.lv rfl (LV.asg rfl) ?_
                refine WL.nil (thenQ.n ?_)
                refine WC.region ?_
                refine WL.lv rfl (LV.mv rfl) ?_
                refine WL.lv rfl (LV.add rfl rfl (wr64 (by omega) (by omega))) ?_
                refine WL.lv rfl (LV.asg rfl) ?_
                refine WL.nil (blockQ.n <| thenQ.n ?_)
                exact ⟨_, by omega, i2 + 1, j2 + 1, n + 1, by omega, by omega, by omega, by omega, by omega, (all_step (p := fun k => okG x y used taken (i + k) (j + k)) q1 ⟨by omega, by omega, by rw [← e1, ← e2]; exact Decidable.not_not.1 he, by rw [← e1]; first | exact hasB_out (by omega) | (intro h_; unfold hasB at h_; rw [hu] at h_; cases h_), by rw [← e2]; first | exact hasB_out (by omega) | (intro h_; unfold hasB at h_; rw [ht] at h_; cases h_)⟩), hS1, rfl, Weak.cons rfl <| Weak.cons rfl <| Weak.cons rfl <| Weak.cons rfl <| Weak.cons rfl <| Weak.cons rfl <| Weak.cons rfl <| Weak.nil _⟩
        · skip
          refine WC.exit (thenQ.x <| thenQ.x <| blockQ.hit <| thenQ.n ?_)
          refine WC.seq ?_
          refine WC.region ?_
          refine WL.lv rfl (LV.mv rfl) ?_
          refine WL.lv rfl (LV.asg rfl) ?_
          refine WL.nil (thenQ.n ?_)
          refine WC.ret (?_)
          exact ⟨_, fun a ha => res1 rfl ha rfl, congrArg (Value.int .i64) (grw_fin nlo q0 q1 (fun h1_ h2_ h_ => by first | (obtain ⟨h1_, h2_, h3_, h4_, h5_⟩ := h_; rw [← e1, ← e2] at h3_; rw [← e1] at h4_; rw [← e2] at h5_; first | omega | exact he h3_ | exact h4_ hu | exact h5_ ht))), hL1.kb⟩
      · refine WL.lv rfl (LV.as (LV.ltI rfl rfl) (decide_eq_false hg3)) ?_
        refine WL.lv rfl (LV.pickT rfl rfl) ?_
        refine WL.lv rfl (LV.mv rfl) ?_
        iterate 4 refine WL.off rfl ?_
        refine WL.lv rfl (LV.pickF rfl rfl) ?_
        refine WL.nil (thenQ.n ?_)
        refine WC.condF rfl ?_
        refine WC.exit (thenQ.x <| thenQ.x <| blockQ.hit <| thenQ.n ?_)
        refine WC.seq ?_
        refine WC.region ?_
        refine WL.lv rfl (LV.mv rfl) ?_
        refine WL.lv rfl (LV.asg rfl) ?_
        refine WL.nil (thenQ.n ?_)
        refine WC.ret (?_)
        exact ⟨_, fun a ha => res1 rfl ha rfl, congrArg (Value.int .i64) (grw_fin nlo q0 q1 (fun h1_ h2_ h_ => by first | (obtain ⟨h1_, h2_, h3_, h4_, h5_⟩ := h_; rw [← e1, ← e2] at h3_; rw [← e1] at h4_; rw [← e2] at h5_; first | omega | exact he h3_ | exact h4_ hu | exact h5_ ht))), hL1.kb⟩
    · refine WL.lv rfl (LV.as (LV.geI rfl rfl) (decide_eq_false hg2)) ?_
      refine WL.lv rfl (LV.pickT rfl rfl) ?_
      refine WL.lv rfl (LV.mv rfl) ?_
      iterate 4 refine WL.off rfl ?_
      refine WL.lv rfl (LV.pickF rfl rfl) ?_
      refine WL.lv rfl (LV.mv rfl) ?_
      iterate 4 refine WL.off rfl ?_
      refine WL.lv rfl (LV.pickF rfl rfl) ?_
      refine WL.nil (thenQ.n ?_)
      refine WC.condF rfl ?_
      refine WC.exit (thenQ.x <| thenQ.x <| blockQ.hit <| thenQ.n ?_)
      refine WC.seq ?_
      refine WC.region ?_
      refine WL.lv rfl (LV.mv rfl) ?_
      refine WL.lv rfl (LV.asg rfl) ?_
      refine WL.nil (thenQ.n ?_)
      refine WC.ret (?_)
      exact ⟨_, fun a ha => res1 rfl ha rfl, congrArg (Value.int .i64) (grw_fin nlo q0 q1 (fun h1_ h2_ h_ => by first | (obtain ⟨h1_, h2_, h3_, h4_, h5_⟩ := h_; rw [← e1, ← e2] at h3_; rw [← e1] at h4_; rw [← e2] at h5_; first | omega | exact he h3_ | exact h4_ hu | exact h5_ ht))), hL1.kb⟩
  · refine WL.lv rfl (LV.as (LV.geI rfl rfl) (decide_eq_false hg1)) ?_
    refine WL.lv rfl (LV.mv rfl) ?_
    iterate 2 refine WL.off rfl ?_
    refine WL.lv rfl (LV.pickF rfl rfl) ?_
    refine WL.lv rfl (LV.mv rfl) ?_
    iterate 4 refine WL.off rfl ?_
    refine WL.lv rfl (LV.pickF rfl rfl) ?_
    refine WL.lv rfl (LV.mv rfl) ?_
    iterate 4 refine WL.off rfl ?_
    refine WL.lv rfl (LV.pickF rfl rfl) ?_
    refine WL.nil (thenQ.n ?_)
    refine WC.condF rfl ?_
    refine WC.exit (thenQ.x <| thenQ.x <| blockQ.hit <| thenQ.n ?_)
    refine WC.seq ?_
    refine WC.region ?_
    refine WL.lv rfl (LV.mv rfl) ?_
    refine WL.lv rfl (LV.asg rfl) ?_
    refine WL.nil (thenQ.n ?_)
    refine WC.ret (?_)
    exact ⟨_, fun a ha => res1 rfl ha rfl, congrArg (Value.int .i64) (grw_fin nlo q0 q1 (fun h1_ h2_ h_ => by first | (obtain ⟨h1_, h2_, h3_, h4_, h5_⟩ := h_; rw [← e1, ← e2] at h3_; rw [← e1] at h4_; rw [← e2] at h5_; first | omega | exact he h3_ | exact h4_ hu | exact h5_ ht))), hL1.kb⟩

theorem with_calls {w : World} {A_l : Option Addr} {n_l c_l : Nat} {l : List Bool} {at_ : Int} {n : Int} (h_l : St No w (Rd eB (.slice A_l n_l c_l) l)) (hn_l : l.length = n_l) (h0 : 0 ≤ at_) (h1 : 0 ≤ n) (h2 : at_ + n ≤ l.length) (h3 : l.length ≤ 1000000) :
    Calls Try.prog 25 #[(.slice A_l n_l c_l), (.int .i64 at_), (.int .i64 n)] w fun e w' => ∃ v, e = .returned v ∧ (fun v w' => ∃ (A0' : Option Addr) (c0' : Nat), v = .slice A0' (mrk l at_ n).length c0' ∧ SH w No w' [rowE eB 4 (.slice A0' (mrk l at_ n).length c0') (mrk l at_ n)]) v w' := by
  subst hn_l
  have hml := Rd.max h_l.now
  have hS : SH w No w [] := SH.nil _ _
  refine calls (l := litOf [(.slice A_l l.length c_l), (.int .i64 at_), (.int .i64 n)] 0) Try.func25 rfl (n := 23) rfl (Nat.le_of_ble_eq_true rfl) (lit_args _) ?_
  refine WC.seq ?_
  refine WC.region ?_
  refine WL.lv rfl (LV.asg rfl) ?_
  refine WL.nil (thenQ.n ?_)
  refine WC.seq ?_
  refine WC.region ?_
  refine WL.xe rfl (XE.buildSlice (E := eB) [] #[] [] hS Try.underlying34 ti4 rfl (by decide) (by kernel_rfl) (.inr rfl) rfl rfl (by decide)) ?_
  rintro _ w1 ⟨b1, rfl, hS1, hk1⟩
  refine WL.lv rfl (LV.mv rfl) ?_
  refine WL.xe rfl (XE.append hS1 Try.underlying34 ti4 rfl (St.now (SH.stN hS1 h_l)) rfl rfl (by first | omega | simp only [List.length_append, List.length_cons, List.length_nil, List.length_take, List.length_reverse, List.length_drop] at *; omega) (by first | omega | simp only [List.length_append, List.length_cons, List.length_nil, List.length_take, List.length_reverse, List.length_drop] at *; omega)) ?_
  rintro _ w2 ⟨A1, c1, rfl, hS2, hk2⟩
  refine WL.lv rfl (LV.asg rfl) ?_
  refine WL.nil (thenQ.n ?_)
  iterate 2 refine WC.seq ?_
  refine WC.region ?_
  refine WL.lv rfl (LV.asg rfl) ?_
  refine WL.nil (thenQ.n ?_)
  refine WC.block ?_
  refine WC.loop (fun m_ f_ w_ => ∃ (out : List Bool) (i : Int), (0 ≤ i) ∧ (i ≤ n) ∧ (out = mrk l at_ i) ∧ (out.length = l.length) ∧ SH w No w_ [rowE eB 4 (.slice A1 ((([] : List Bool) ++ l).length) c1) out] ∧ m_ = ((n - i).toNat) ∧ Weak (lit [(1, (.int .i64 at_)), (2, (.int .i64 n)), (7, (.slice A1 ((([] : List Bool) ++ l).length) c1)), (8, (.int .i64 i))]) f_) _ ⟨(([] : List Bool) ++ l), 0, by omega, by omega, (by rw [mrk_0 h0]; rfl), (by simp), hS2, rfl, Weak.cons rfl <| Weak.cons rfl <| Weak.cons rfl <| Weak.cons rfl <| Weak.nil _⟩ ?_
  rintro m1 f1 w3 ⟨out, i, ilo, ihi, q1, q2, hL1, rfl, hw1⟩
  refine WC.weak hw1 ?_
  clear hw1
  iterate 2 refine WC.seq ?_
  refine WC.region ?_
  iterate 2 refine WL.lv rfl (LV.mv rfl) ?_
  refine WL.lv rfl (LV.ltI rfl rfl) ?_
  refine WL.nil (thenQ.n ?_)
  refine WC.condP (p := i < n) rfl (fun hc1 => ?_) (fun hc1 => ?_)
  · skip
    refine WC.skip (thenQ.n ?_)
    refine WC.seq ?_
    refine WC.block ?_
    refine WC.region ?_
    iterate 3 refine WL.lv rfl (LV.mv rfl) ?_
    refine WL.lv rfl (LV.add rfl rfl (wr64 (by omega) (by omega))) ?_
    obtain ⟨A2, c2, e1, g1⟩ := St.elt (SH.rd hL1 (.head _)) false (at_ + i) (by omega) (by omega)
    refine WL.lv rfl (LV.idxA Try.underlying34 ti4.sz rfl e1 rfl (by omega) (by omega)) ?_
    refine WL.xse rfl (XSE.row1 (i := at_ + i) (o := 0) (k := false) true hL1 e1 (by omega) (by omega) (by decide) ti4.sz rfl rfl rfl rfl) ?_
    rintro w4 ⟨hS3, hk3⟩
    refine WL.nil (blockQ.n <| thenQ.n ?_)
    refine WC.region ?_
    refine WL.lv rfl (LV.mv rfl) ?_
    refine WL.lv rfl (LV.add rfl rfl (wr64 (by omega) (by omega))) ?_
    refine WL.lv rfl (LV.asg rfl) ?_
    refine WL.nil (thenQ.n ?_)
    exact ⟨_, by omega, (out.set (at_ + i).toNat true), i + 1, by omega, by omega, (by rw [q1]; exact mrk_snoc h0 ilo (by omega)), (by rw [List.length_set]; exact q2), hS3, rfl, Weak.cons rfl <| Weak.cons rfl <| Weak.cons rfl <| Weak.cons rfl <| Weak.nil _⟩
  · skip
    refine WC.exit (thenQ.x <| thenQ.x <| blockQ.hit <| thenQ.n ?_)
    refine WC.seq ?_
    refine WC.region ?_
    refine WL.lv rfl (LV.mv rfl) ?_
    refine WL.lv rfl (LV.asg rfl) ?_
    refine WL.nil (thenQ.n ?_)
    refine WC.ret (?_)
    have hres1 : (out : List Bool) = mrk l at_ n := by rw [q1, show i = n by omega]
    have hlen1 : out.length = (([] : List Bool) ++ l).length := q2
    exact ⟨_, fun a ha => res1 rfl ha rfl, (by rw [← hres1, hlen1]; exact ⟨_, _, rfl, hL1⟩)⟩

theorem stay_calls {w : World} {A_a : Option Addr} {n_a c_a : Nat} {a : List Ln} {A_b : Option Addr} {n_b c_b : Nat} {b : List Ln} (h_a : St No w (Rd eL (.slice A_a n_a c_a) a)) (hn_a : a.length = n_a) (h_b : St No w (Rd eL (.slice A_b n_b c_b) b)) (hn_b : b.length = n_b)  :
    Calls Try.prog 14 #[(.slice A_a n_a c_a), (.slice A_b n_b c_b)] w fun e w' => ∃ v, e = .returned v ∧ (fun v w' => ∃ (A0' : Option Addr) (c0' : Nat), v = .tuple #[.slice A0' (STY a b).length c0', .int .i64 (STE a b)] ∧ SH w No w' [rowE eP 41 (.slice A0' (STY a b).length c0') (STY a b)]) v w' := by
  subst hn_a hn_b
  have hS : SH w No w [] := SH.nil _ _
  refine calls (l := litOf [(.slice A_a a.length c_a), (.slice A_b b.length c_b)] 0) Try.func14 rfl (n := 26) rfl (Nat.le_of_ble_eq_true rfl) (lit_args _) ?_
  refine WC.seq ?_
  refine WC.region ?_
  iterate 2 refine WL.lv rfl (LV.asg rfl) ?_
  refine WL.nil (thenQ.n ?_)
  iterate 2 refine WC.seq ?_
  refine WC.region ?_
  refine WL.lv rfl (LV.mv rfl) ?_
  refine WL.lv rfl (LV.lenL Try.underlying22 rfl) ?_
  rcases Decidable.em ((a.length : Int) > 400) with hg1 | hg1
  · refine WL.lv rfl (LV.as (LV.gtI rfl rfl) (decide_eq_true hg1)) ?_
    refine WL.lv rfl (LV.mv rfl) ?_
    iterate 3 refine WL.off rfl ?_
    refine WL.lv rfl (LV.pickT rfl rfl) ?_
    refine WL.nil (thenQ.n ?_)
    refine WC.condT rfl ?_
    refine WC.seq ?_
    refine WC.region ?_
    iterate 2 refine WL.lv rfl (LV.asg rfl) ?_
    refine WL.nil (thenQ.n ?_)
    refine WC.ret (thenQ.r <| ?_)
    have hS1 := SH.nilRow (E := eP) (T := 41) hS
    have hres1 : ([] : List (Int × Int)) = STY a b := (if_pos (by omega)).symm
    exact ⟨_, fun a ha => res2 rfl ha rfl rfl, (by rw [← hres1]; exact ⟨_, _, tup2 rfl (congrArg (Value.int .i64) ((if_pos (by omega)).symm)), hS1⟩)⟩
  · refine WL.lv rfl (LV.as (LV.gtI rfl rfl) (decide_eq_false hg1)) ?_
    iterate 2 refine WL.lv rfl (LV.mv rfl) ?_
    refine WL.lv rfl (LV.lenL Try.underlying22 rfl) ?_
    refine WL.lv rfl (LV.gtI rfl rfl) ?_
    refine WL.lv rfl (LV.pickF rfl rfl) ?_
    refine WL.nil (thenQ.n ?_)
    refine WC.condP (p := (b.length : Int) > 400) rfl (fun hc1 => ?_) (fun hc1 => ?_)
    · skip
      refine WC.seq ?_
      refine WC.region ?_
      iterate 2 refine WL.lv rfl (LV.asg rfl) ?_
      refine WL.nil (thenQ.n ?_)
      refine WC.ret (thenQ.r <| ?_)
      have hS2 := SH.nilRow (E := eP) (T := 41) hS
      have hres2 : ([] : List (Int × Int)) = STY a b := (if_pos (by omega)).symm
      exact ⟨_, fun a ha => res2 rfl ha rfl rfl, (by rw [← hres2]; exact ⟨_, _, tup2 rfl (congrArg (Value.int .i64) ((if_pos (by omega)).symm)), hS2⟩)⟩
    · skip
      refine WC.skip (thenQ.n ?_)
      refine WC.seq ?_
      refine WC.region ?_
      iterate 2 refine WL.lv rfl (LV.mv rfl) ?_
      refine WL.xe rfl (XE.buildSlice (E := eV) [(0, (.slice A_a a.length c_a)), (1, (.slice A_b b.length c_b))] #[(.slice A_a a.length c_a), (.slice A_b b.length c_b)] [(⟨A_a, a.length, c_a⟩ : SV), (⟨A_b, b.length, c_b⟩ : SV)] hS Try.underlying48 ti22 rfl (by decide) (by kernel_rfl) (.inr rfl) rfl rfl (by decide)) ?_
      rintro _ w1 ⟨b1, rfl, hS3, hk1⟩
      refine WL.call rfl (XC.fn Try.func27 (by kernel_rfl) rfl rfl rfl) (numbers_eq  (St.rrOf (rows := [((⟨A_a, a.length, c_a⟩ : SV), a), ((⟨A_b, b.length, c_b⟩ : SV), b)]) (SH.rd hS3 (.head _)) (St.inCons (r := (⟨A_a, a.length, c_a⟩ : SV)) rfl (SH.stN hS3 h_a) (St.inCons (r := (⟨A_b, b.length, c_b⟩ : SV)) rfl (SH.stN hS3 h_b) St.in0))) rfl (by simp) (by intro p hp; simp at hp; rcases hp with rfl | rfl <;> simp only [] <;> omega)) ?_
      rintro v_ w2 ⟨A1, c1, rows1, rfl, hq1, hS4⟩
      have hS5 := SH.joinN hS3 hS4
      have hmt := map_two (x := NA a) (y := NB a b) hq1
      have hra : (rows1.getD (0 : Int).toNat default).2 = NA a := hmt.2.1
      have hrb : (rows1.getD (1 : Int).toNat default).2 = NB a b := hmt.2.2
      have hla := NA_len a
      have hlb := NB_len a b
      have hl1 := hmt.1
      have hlra : (rows1.getD (0 : Int).toNat default).2.length = a.length := by rw [hra]; exact hla
      have hlrb : (rows1.getD (1 : Int).toNat default).2.length = b.length := by rw [hrb]; exact hlb
      refine WL.lv rfl (LV.asg rfl) ?_
      refine WL.nil (thenQ.n ?_)
      refine WC.seq ?_
      have hS6 := SH.drew hS5
      refine WC.regionD [] (fun w_ => KB No w2.drew w_) [(.pure, 0), (.pure, 1), (.look, 2), (.pure, 3), (.pure, 4), (.look, 5), (.forced, 6), (.pure, 7), (.pure, 8)] (by kernel_rfl) (by kernel_rfl) (KB.refl _ _) ?_
      refine WS.pure rfl rfl (fun _ => LV.mv rfl) ?_
      obtain ⟨A2, c2, A3, c3, e1, g1, e2, r1⟩ := St.eltRR (SH.rdRR hS6 (.head _)) default (0 : Int) (by omega) (by omega)
      refine WS.pure rfl rfl (fun _ => LV.idxA Try.underlying46 ti33.sz rfl e1 rfl (by omega) (by omega)) ?_
      refine WS.look rfl rfl (fun _ hk_ => LV.load1 Try.underlying33 rfl rfl (g1 _ hk_)) ?_
      refine WS.pure rfl rfl (fun _ => LV.mv rfl) ?_
      obtain ⟨A4, c4, A5, c5, e3, g2, e4, r2⟩ := St.eltRR (SH.rdRR hS6 (.head _)) default (1 : Int) (by omega) (by omega)
      refine WS.pure rfl rfl (fun _ => LV.idxA Try.underlying46 ti33.sz rfl e3 rfl (by omega) (by omega)) ?_
      refine WS.look rfl rfl (fun _ hk_ => LV.load1 Try.underlying33 rfl rfl (g2 _ hk_)) ?_
      refine WS.call rfl rfl (XC.fn Try.func28 (by kernel_rfl) rfl rfl rfl) (pairs7_eq rfl rfl (St.inner (SH.rdRR hS6 (.head _)) (getD_mem (by omega)) e2) (St.inner (SH.rdRR hS6 (.head _)) (getD_mem (by omega)) e4) rfl rfl) ?_
      rintro v_ w3 ⟨A6, c6, rfl, hS7⟩
      have hS8 := SH.joinN hS6 hS7
      refine ⟨fun h_ => (KB.transN (KB.refl _ _) hS7.kb), ?_⟩
      iterate 2 refine WS.pure rfl rfl (fun _ => LV.asg rfl) ?_
      refine WS.nil (thenQ.n ?_)
      refine WC.ret (?_)
      have hS9 : SH w No w3 [rowE eP 41 (.slice A6 ((Prs ((rows1.getD ((0 : Int)).toNat default).2) ((rows1.getD ((1 : Int)).toNat default).2)).length) c6) (Prs ((rows1.getD ((0 : Int)).toNat default).2) ((rows1.getD ((1 : Int)).toNat default).2))] := (SH.take 1 rfl hS8)
      have hres3 : ((Prs ((rows1.getD ((0 : Int)).toNat default).2) ((rows1.getD ((1 : Int)).toNat default).2)) : List (Int × Int)) = STY a b := by unfold STY; rw [if_neg (by omega), hra, hrb]
      exact ⟨_, fun a ha => res2 rfl ha rfl rfl, (by rw [← hres3]; exact ⟨_, _, tup2 rfl (congrArg (Value.int .i64) ((if_neg (by omega)).symm)), hS9⟩)⟩

theorem rstay_calls {w : World} {A_a : Option Addr} {n_a c_a : Nat} {a : List Ln} {A_b : Option Addr} {n_b c_b : Nat} {b : List Ln} (h_a : St No w (Rd eL (.slice A_a n_a c_a) a)) (hn_a : a.length = n_a) (h_b : St No w (Rd eL (.slice A_b n_b c_b) b)) (hn_b : b.length = n_b)  :
    Calls Try.prog 15 #[(.slice A_a n_a c_a), (.slice A_b n_b c_b)] w fun e w' => ∃ v, e = .returned v ∧ (fun v w' => ∃ (A0' : Option Addr) (c0' : Nat), v = .tuple #[.slice A0' (STY a b).length c0', .int .i64 (STE a b)] ∧ SH w No w' [rowE eP 41 (.slice A0' (STY a b).length c0') (STY a b)]) v w' := by
  subst hn_a hn_b
  have hS : SH w No w [] := SH.nil _ _
  refine calls (l := litOf [(.slice A_a a.length c_a), (.slice A_b b.length c_b)] 0) Try.func15 rfl (n := 26) rfl (Nat.le_of_ble_eq_true rfl) (lit_args _) ?_
  refine WC.seq ?_
  refine WC.region ?_
  iterate 2 refine WL.lv rfl (LV.asg rfl) ?_
  refine WL.nil (thenQ.n ?_)
  iterate 2 refine WC.seq ?_
  refine WC.region ?_
  refine WL.lv rfl (LV.mv rfl) ?_
  refine WL.lv rfl (LV.lenL Try.underlying22 rfl) ?_
  rcases Decidable.em ((a.length : Int) > 400) with hg1 | hg1
  · refine WL.lv rfl (LV.as (LV.gtI rfl rfl) (decide_eq_true hg1)) ?_
    refine WL.lv rfl (LV.mv rfl) ?_
    iterate 3 refine WL.off rfl ?_
    refine WL.lv rfl (LV.pickT rfl rfl) ?_
    refine WL.nil (thenQ.n ?_)
    refine WC.condT rfl ?_
    refine WC.seq ?_
    refine WC.region ?_
    iterate 2 refine WL.lv rfl (LV.asg rfl) ?_
    refine WL.nil (thenQ.n ?_)
    refine WC.ret (thenQ.r <| ?_)
    have hS1 := SH.nilRow (E := eP) (T := 41) hS
    have hres1 : ([] : List (Int × Int)) = STY a b := (if_pos (by omega)).symm
    exact ⟨_, fun a ha => res2 rfl ha rfl rfl, (by rw [← hres1]; exact ⟨_, _, tup2 rfl (congrArg (Value.int .i64) ((if_pos (by omega)).symm)), hS1⟩)⟩
  · refine WL.lv rfl (LV.as (LV.gtI rfl rfl) (decide_eq_false hg1)) ?_
    iterate 2 refine WL.lv rfl (LV.mv rfl) ?_
    refine WL.lv rfl (LV.lenL Try.underlying22 rfl) ?_
    refine WL.lv rfl (LV.gtI rfl rfl) ?_
    refine WL.lv rfl (LV.pickF rfl rfl) ?_
    refine WL.nil (thenQ.n ?_)
    refine WC.condP (p := (b.length : Int) > 400) rfl (fun hc1 => ?_) (fun hc1 => ?_)
    · skip
      refine WC.seq ?_
      refine WC.region ?_
      iterate 2 refine WL.lv rfl (LV.asg rfl) ?_
      refine WL.nil (thenQ.n ?_)
      refine WC.ret (thenQ.r <| ?_)
      have hS2 := SH.nilRow (E := eP) (T := 41) hS
      have hres2 : ([] : List (Int × Int)) = STY a b := (if_pos (by omega)).symm
      exact ⟨_, fun a ha => res2 rfl ha rfl rfl, (by rw [← hres2]; exact ⟨_, _, tup2 rfl (congrArg (Value.int .i64) ((if_pos (by omega)).symm)), hS2⟩)⟩
    · skip
      refine WC.skip (thenQ.n ?_)
      refine WC.seq ?_
      refine WC.region ?_
      iterate 2 refine WL.lv rfl (LV.mv rfl) ?_
      refine WL.xe rfl (XE.buildSlice (E := eV) [(0, (.slice A_a a.length c_a)), (1, (.slice A_b b.length c_b))] #[(.slice A_a a.length c_a), (.slice A_b b.length c_b)] [(⟨A_a, a.length, c_a⟩ : SV), (⟨A_b, b.length, c_b⟩ : SV)] hS Try.underlying48 ti22 rfl (by decide) (by kernel_rfl) (.inr rfl) rfl rfl (by decide)) ?_
      rintro _ w1 ⟨b1, rfl, hS3, hk1⟩
      refine WL.call rfl (XC.fn Try.func19 (by kernel_rfl) rfl rfl rfl) (rnumbers_calls  (St.rrOf (rows := [((⟨A_a, a.length, c_a⟩ : SV), a), ((⟨A_b, b.length, c_b⟩ : SV), b)]) (SH.rd hS3 (.head _)) (St.inCons (r := (⟨A_a, a.length, c_a⟩ : SV)) rfl (SH.stN hS3 h_a) (St.inCons (r := (⟨A_b, b.length, c_b⟩ : SV)) rfl (SH.stN hS3 h_b) St.in0))) rfl (by simp) (by intro p hp; simp at hp; rcases hp with rfl | rfl <;> simp only [] <;> omega)) ?_
      rintro v_ w2 ⟨A1, c1, rows1, rfl, hq1, hS4⟩
      have hS5 := SH.joinN hS3 hS4
      have hmt := map_two (x := NA a) (y := NB a b) hq1
      have hra : (rows1.getD (0 : Int).toNat default).2 = NA a := hmt.2.1
      have hrb : (rows1.getD (1 : Int).toNat default).2 = NB a b := hmt.2.2
      have hla := NA_len a
      have hlb := NB_len a b
      have hl1 := hmt.1
      have hlra : (rows1.getD (0 : Int).toNat default).2.length = a.length := by rw [hra]; exact hla
      have hlrb : (rows1.getD (1 : Int).toNat default).2.length = b.length := by rw [hrb]; exact hlb
      refine WL.lv rfl (LV.asg rfl) ?_
      refine WL.nil (thenQ.n ?_)
      refine WC.seq ?_
      have hS6 := SH.drew hS5
      refine WC.regionD [] (fun w_ => KB No w2.drew w_) [(.pure, 0), (.pure, 1), (.look, 2), (.pure, 3), (.pure, 4), (.look, 5), (.forced, 6), (.pure, 7), (.pure, 8)] (by kernel_rfl) (by kernel_rfl) (KB.refl _ _) ?_
      refine WS.pure rfl rfl (fun _ => LV.mv rfl) ?_
      obtain ⟨A2, c2, A3, c3, e1, g1, e2, r1⟩ := St.eltRR (SH.rdRR hS6 (.head _)) default (0 : Int) (by omega) (by omega)
      refine WS.pure rfl rfl (fun _ => LV.idxA Try.underlying46 ti33.sz rfl e1 rfl (by omega) (by omega)) ?_
      refine WS.look rfl rfl (fun _ hk_ => LV.load1 Try.underlying33 rfl rfl (g1 _ hk_)) ?_
      refine WS.pure rfl rfl (fun _ => LV.mv rfl) ?_
      obtain ⟨A4, c4, A5, c5, e3, g2, e4, r2⟩ := St.eltRR (SH.rdRR hS6 (.head _)) default (1 : Int) (by omega) (by omega)
      refine WS.pure rfl rfl (fun _ => LV.idxA Try.underlying46 ti33.sz rfl e3 rfl (by omega) (by omega)) ?_
      refine WS.look rfl rfl (fun _ hk_ => LV.load1 Try.underlying33 rfl rfl (g2 _ hk_)) ?_
      refine WS.call rfl rfl (XC.fn Try.func29 (by kernel_rfl) rfl rfl rfl) (rpairs_calls (St.inner (SH.rdRR hS6 (.head _)) (getD_mem (by omega)) e2) (St.inner (SH.rdRR hS6 (.head _)) (getD_mem (by omega)) e4)) ?_
      rintro v_ w3 ⟨A6, c6, rfl, hS7⟩
      have hS8 := SH.joinN hS6 hS7
      refine ⟨fun h_ => (KB.transN (KB.refl _ _) hS7.kb), ?_⟩
      iterate 2 refine WS.pure rfl rfl (fun _ => LV.asg rfl) ?_
      refine WS.nil (thenQ.n ?_)
      refine WC.ret (?_)
      have hS9 : SH w No w3 [rowE eP 41 (.slice A6 ((Prs ((rows1.getD ((0 : Int)).toNat default).2) ((rows1.getD ((1 : Int)).toNat default).2)).length) c6) (Prs ((rows1.getD ((0 : Int)).toNat default).2) ((rows1.getD ((1 : Int)).toNat default).2))] := (SH.take 1 rfl hS8)
      have hres3 : ((Prs ((rows1.getD ((0 : Int)).toNat default).2) ((rows1.getD ((1 : Int)).toNat default).2)) : List (Int × Int)) = STY a b := by unfold STY; rw [if_neg (by omega), hra, hrb]
      exact ⟨_, fun a ha => res2 rfl ha rfl rfl, (by rw [← hres3]; exact ⟨_, _, tup2 rfl (congrArg (Value.int .i64) ((if_neg (by omega)).symm)), hS9⟩)⟩

end Go.Proofs.Ytkceknbjlogehaa
