/- Up to 60 numbers sorted. -/
import Derived.Test.YtlnnfcbndelcnaaFlP
namespace Go.Proofs.Ytlnnfcbndelcnaa
open Go Go.Gv Go.RowKit Go.Flt
set_option linter.unusedVariables false
set_option linter.unusedSimpArgs false

set_option maxHeartbeats 2000000 in
theorem stable_calls {w : World} {S : Nat → Prop} {A : Option Addr} {c : Nat} {xs : List Nat} (hS0 : SH w S w [rowE eF 22 (.slice A xs.length c) xs]) (hp : ∀ x ∈ xs, W6 x) (hl : xs.length ≤ 60) :
    Calls Try.prog 43 #[(.slice A xs.length c), (.int .i64 (xs.length : Int)), (.func (.func 14) #[] #[])] w fun e w' => ∃ v, e = .returned v ∧ (fun v w' => ∃ ys : List Nat, v = .tuple #[] ∧ ys.Perm xs ∧ (ys.Pairwise fun a b => ¬ ORD b a < 0) ∧ SH w S w' [rowE eF 22 (.slice A xs.length c) ys]) v w' := by
  have hS : SH w S w [rowE eF 22 (.slice A xs.length c) xs] := hS0
  refine calls (l := litOf [(.slice A xs.length c), (.int .i64 (xs.length : Int)), (.func (.func 14) #[] #[])] 0) Try.func43 rfl (n := 63) rfl (Nat.le_of_ble_eq_true rfl) (lit_args _) ?_
  refine WC.seq ?_
  refine WC.region ?_
  refine WL.lv rfl (LV.asg rfl) ?_
  refine WL.nil (thenQ.n ?_)
  refine WC.seq ?_
  refine WC.region ?_
  refine WL.lv rfl (LV.mv rfl) ?_
  iterate 2 refine WL.lv rfl (LV.asg rfl) ?_
  refine WL.nil (thenQ.n ?_)
  refine WC.seq ?_
  refine WC.block ?_
  refine WC.loop (fun m_ f_ w_ => ∃ (a b : Int) (ys : List Nat), (0 ≤ a) ∧ (b = a + 20) ∧ (a % 20 = 0) ∧ (a ≤ xs.length) ∧ (ys.Perm xs) ∧ (RnI ys a) ∧ SH w S w_ [rowE eF 22 (.slice A xs.length c) ys] ∧ m_ = (((xs.length : Int) - a).toNat) ∧ Weak (lit [(0, (.slice A xs.length c)), (1, (.int .i64 (xs.length : Int))), (2, (.func (.func 14) #[] #[])), (6, (.int .i64 20)), (7, (.int .i64 a)), (8, (.int .i64 b))]) f_) _ ⟨0, 20, xs, by omega, by omega, by omega, by omega, (List.Perm.refl _), (RnI.z _), hS, rfl, Weak.cons rfl <| Weak.cons rfl <| Weak.cons rfl <| Weak.cons rfl <| Weak.cons rfl <| Weak.cons rfl <| Weak.nil _⟩ ?_
  rintro m1 f1 w1 ⟨a, b, ys, q0, q1, q2, q3, q4, q5, hL1, rfl, hw1⟩
  refine WC.weak hw1 ?_
  clear hw1
  have hyl_ := q4.length_eq
  have hpz : ∀ x ∈ ys, W6 x := fun x hx => hp x (q4.mem_iff.1 hx)
  iterate 2 refine WC.seq ?_
  refine WC.region ?_
  iterate 2 refine WL.lv rfl (LV.mv rfl) ?_
  refine WL.lv rfl (LV.leI rfl rfl) ?_
  refine WL.nil (thenQ.n ?_)
  refine WC.condP (p := b ≤ (xs.length : Int)) rfl (fun hc1 => ?_) (fun hc1 => ?_)
  · skip
    refine WC.skip (thenQ.n ?_)
    refine WC.block ?_
    refine WC.seq ?_
    refine WC.region ?_
    iterate 4 refine WL.lv rfl (LV.mv rfl) ?_
    have hT1 := SH.sub (Es := [rowE eF 22 (.slice A xs.length c) ys]) hL1
    refine WL.call rfl (XC.fn Try.func45 (by kernel_rfl) rfl rfl rfl) (insm_calls (xs := ys) (n := xs.length) (a := a) (b := b) (by first | assumption | omega) hT1 (by omega) (by omega) (by omega) (by omega) (hpz)) ?_
    rintro v_ w2 ⟨ys1, rfl, hz1, hz2, hU1⟩
    have hS1 := SH.back (Es := [rowE eF 22 (.slice A xs.length c) ys]) hL1 hU1
    refine WL.nil (thenQ.n ?_)
    refine WC.seq ?_
    refine WC.region ?_
    refine WL.lv rfl (LV.mv rfl) ?_
    refine WL.lv rfl (LV.asg rfl) ?_
    refine WL.nil (thenQ.n ?_)
    refine WC.region ?_
    iterate 2 refine WL.lv rfl (LV.mv rfl) ?_
    refine WL.lv rfl (LV.add rfl rfl (wr64 (by omega) (by omega))) ?_
    refine WL.lv rfl (LV.asg rfl) ?_
    refine WL.nil (blockQ.n <| thenQ.n ?_)
    exact ⟨_, by omega, b, b + 20, ys1, by omega, by omega, by omega, by omega, (hz1.pm.trans q4), (q5.step hz1 hz2 q2), hS1, rfl, Weak.cons rfl <| Weak.cons rfl <| Weak.cons rfl <| Weak.cons rfl <| Weak.cons rfl <| Weak.cons rfl <| Weak.nil _⟩
  · skip
    refine WC.exit (thenQ.x <| thenQ.x <| blockQ.hit <| thenQ.n ?_)
    refine WC.seq ?_
    refine WC.region ?_
    iterate 4 refine WL.lv rfl (LV.mv rfl) ?_
    have hT2 := SH.sub (Es := [rowE eF 22 (.slice A xs.length c) ys]) hL1
    refine WL.call rfl (XC.fn Try.func45 (by kernel_rfl) rfl rfl rfl) (insm_calls (xs := ys) (n := xs.length) (a := a) (b := (xs.length : Int)) (by first | assumption | omega) hT2 (by omega) (by omega) (by omega) (by omega) (hpz)) ?_
    rintro v_ w3 ⟨ys2, rfl, hz3, hz4, hU2⟩
    have hS2 := SH.back (Es := [rowE eF 22 (.slice A xs.length c) ys]) hL1 hU2
    refine WL.nil (thenQ.n ?_)
    refine WC.block ?_
    refine WC.loop (fun m_ f_ w_ => ∃ (k : Int) (zs : List Nat), (k = 20 ∨ k = 40 ∨ k = 80) ∧ (zs.Perm xs) ∧ (Rns zs k 0 xs.length) ∧ SH w S w_ [rowE eF 22 (.slice A xs.length c) zs] ∧ m_ = ((200 - k).toNat) ∧ Weak (lit [(0, (.slice A xs.length c)), (1, (.int .i64 (xs.length : Int))), (2, (.func (.func 14) #[] #[])), (6, (.int .i64 k))]) f_) _ ⟨20, ys2, by omega, (hz3.pm.trans q4), ((q5.step hz3 hz4 q2).fin), hS2, rfl, Weak.cons rfl <| Weak.cons rfl <| Weak.cons rfl <| Weak.cons rfl <| Weak.nil _⟩ ?_
    rintro m2 f2 w4 ⟨k, zs, u1, u2, u3, hL2, rfl, hw2⟩
    refine WC.weak hw2 ?_
    clear hw2
    have hzl_ := u2.length_eq
    iterate 2 refine WC.seq ?_
    refine WC.region ?_
    iterate 2 refine WL.lv rfl (LV.mv rfl) ?_
    refine WL.lv rfl (LV.ltI rfl rfl) ?_
    refine WL.nil (thenQ.n ?_)
    refine WC.condP (p := k < (xs.length : Int)) rfl (fun hc2 => ?_) (fun hc2 => ?_)
    · skip
      refine WC.skip (thenQ.n ?_)
      refine WC.block ?_
      refine WC.seq ?_
      refine WC.region ?_
      refine WL.lv rfl (LV.mv rfl) ?_
      have hkk_ : k = 20 ∨ k = 40 := by omega
      refine WL.lv rfl (LV.mul rfl rfl (wr64 (by omega) (by omega))) ?_
      iterate 2 refine WL.lv rfl (LV.asg rfl) ?_
      refine WL.nil (thenQ.n ?_)
      refine WC.seq ?_
      refine WC.block ?_
      refine WC.loop (fun m_ f_ w_ => ∃ (p q : Int) (ts : List Nat), (0 ≤ p) ∧ (q = p + 2 * k) ∧ (p % (2 * k) = 0) ∧ (p ≤ xs.length) ∧ (ts.Perm xs) ∧ (Rns ts k p xs.length) ∧ SH w S w_ [rowE eF 22 (.slice A xs.length c) ts] ∧ m_ = (((xs.length : Int) - p).toNat) ∧ Weak (lit [(0, (.slice A xs.length c)), (1, (.int .i64 (xs.length : Int))), (2, (.func (.func 14) #[] #[])), (6, (.int .i64 k)), (7, (.int .i64 p)), (8, (.int .i64 q))]) f_) _ ⟨0, 2 * k, zs, by omega, by omega, (Int.zero_emod _), by omega, u2, u3, hL2, rfl, Weak.cons rfl <| Weak.cons rfl <| Weak.cons rfl <| Weak.cons rfl <| Weak.cons rfl <| Weak.cons rfl <| Weak.nil _⟩ ?_
      rintro m3 f3 w5 ⟨p, q, ts, v0, v1, v2, v5, v3, v4, hL3, rfl, hw3⟩
      refine WC.weak hw3 ?_
      clear hw3
      have htl_ := v3.length_eq
      have hpz : ∀ x ∈ ts, W6 x := fun x hx => hp x (v3.mem_iff.1 hx)
      iterate 2 refine WC.seq ?_
      refine WC.region ?_
      iterate 2 refine WL.lv rfl (LV.mv rfl) ?_
      refine WL.lv rfl (LV.leI rfl rfl) ?_
      refine WL.nil (thenQ.n ?_)
      refine WC.condP (p := q ≤ (xs.length : Int)) rfl (fun hc3 => ?_) (fun hc3 => ?_)
      · skip
        refine WC.skip (thenQ.n ?_)
        refine WC.block ?_
        refine WC.seq ?_
        refine WC.region ?_
        iterate 4 refine WL.lv rfl (LV.mv rfl) ?_
        refine WL.lv rfl (LV.add rfl rfl (wr64 (by omega) (by omega))) ?_
        iterate 2 refine WL.lv rfl (LV.mv rfl) ?_
        have hT3 := SH.sub (Es := [rowE eF 22 (.slice A xs.length c) ts]) hL3
        refine WL.call rfl (XC.fn Try.func46 (by kernel_rfl) rfl rfl rfl) (sym_calls (xs := ts) (n := xs.length) (a := p) (m := (p + k)) (b := q) (by first | assumption | omega) hT3 (by omega) (by omega) (by omega) (by omega) (by omega) (hpz) (v4.srt1 hkk_ v0 v2 (by omega) (by omega)) (v4.srt2 hkk_ v0 v2 (by omega) (by omega))) ?_
        rintro v_ w6 ⟨ys3, rfl, hz5, hz6, hU3⟩
        have hS3 := SH.back (Es := [rowE eF 22 (.slice A xs.length c) ts]) hL3 hU3
        refine WL.nil (thenQ.n ?_)
        refine WC.seq ?_
        refine WC.region ?_
        refine WL.lv rfl (LV.mv rfl) ?_
        refine WL.lv rfl (LV.asg rfl) ?_
        refine WL.nil (thenQ.n ?_)
        refine WC.region ?_
        iterate 2 refine WL.lv rfl (LV.mv rfl) ?_
        refine WL.lv rfl (LV.mul rfl rfl (wr64 (by omega) (by omega))) ?_
        refine WL.lv rfl (LV.add rfl rfl (wr64 (by omega) (by omega))) ?_
        refine WL.lv rfl (LV.asg rfl) ?_
        refine WL.nil (blockQ.n <| thenQ.n ?_)
        exact ⟨_, by omega, q, q + (2 * k), ys3, by omega, by omega, (by rcases hkk_ with rfl | rfl <;> omega), by omega, (hz5.pm.trans v3), (by rw [v1]; exact v4.step hkk_ v0 v2 (v1 ▸ hz5) (v1 ▸ hz6)), hS3, rfl, Weak.cons rfl <| Weak.cons rfl <| Weak.cons rfl <| Weak.cons rfl <| Weak.cons rfl <| Weak.cons rfl <| Weak.nil _⟩
      · skip
        refine WC.exit (thenQ.x <| thenQ.x <| blockQ.hit <| thenQ.n ?_)
        iterate 2 refine WC.seq ?_
        refine WC.region ?_
        iterate 2 refine WL.lv rfl (LV.mv rfl) ?_
        refine WL.lv rfl (LV.add rfl rfl (wr64 (by omega) (by omega))) ?_
        refine WL.lv rfl (LV.asg rfl) ?_
        refine WL.nil (thenQ.n ?_)
        refine WC.seq ?_
        refine WC.region ?_
        iterate 2 refine WL.lv rfl (LV.mv rfl) ?_
        refine WL.lv rfl (LV.ltI rfl rfl) ?_
        refine WL.nil (thenQ.n ?_)
        refine WC.condP (p := (p + k) < (xs.length : Int)) rfl (fun hc4 => ?_) (fun hc4 => ?_)
        · skip
          refine WC.region ?_
          iterate 5 refine WL.lv rfl (LV.mv rfl) ?_
          have hT4 := SH.sub (Es := [rowE eF 22 (.slice A xs.length c) ts]) hL3
          refine WL.call rfl (XC.fn Try.func46 (by kernel_rfl) rfl rfl rfl) (sym_calls (xs := ts) (n := xs.length) (a := p) (m := (p + k)) (b := (xs.length : Int)) (by first | assumption | omega) hT4 (by omega) (by omega) (by omega) (by omega) (by omega) (hpz) (v4.srt1 hkk_ v0 v2 (by omega) (by omega)) (v4.srt2 hkk_ v0 v2 (by omega) (by omega))) ?_
          rintro v_ w7 ⟨ys4, rfl, hz7, hz8, hU4⟩
          have hS4 := SH.back (Es := [rowE eF 22 (.slice A xs.length c) ts]) hL3 hU4
          refine WL.nil (thenQ.n ?_)
          refine WC.region ?_
          refine WL.lv rfl (LV.mv rfl) ?_
          refine WL.lv rfl (LV.mul rfl rfl (wr64 (by omega) (by omega))) ?_
          refine WL.lv rfl (LV.asg rfl) ?_
          refine WL.nil (blockQ.n <| thenQ.n ?_)
          exact ⟨_, by omega, k * 2, ys4, by omega, (hz7.pm.trans v3), (v4.last hkk_ v0 v2 (by omega) hz7 hz8), hS4, rfl, Weak.cons rfl <| Weak.cons rfl <| Weak.cons rfl <| Weak.cons rfl <| Weak.nil _⟩
        · skip
          refine WC.skip (thenQ.n ?_)
          refine WC.region ?_
          refine WL.lv rfl (LV.mv rfl) ?_
          refine WL.lv rfl (LV.mul rfl rfl (wr64 (by omega) (by omega))) ?_
          refine WL.lv rfl (LV.asg rfl) ?_
          refine WL.nil (blockQ.n <| thenQ.n ?_)
          exact ⟨_, by omega, k * 2, ts, by omega, v3, (v4.last0 hkk_ v0 v2 (by omega) (by omega)), hL3, rfl, Weak.cons rfl <| Weak.cons rfl <| Weak.cons rfl <| Weak.cons rfl <| Weak.nil _⟩
    · skip
      refine WC.exit (thenQ.x <| thenQ.x <| blockQ.hit <| ?_)
      exact ⟨_, fun a ha => res0 rfl, _, rfl, u2, srt_pair ((u3.fin (by omega)).sub (by omega) (Int.le_refl _)) (by rw [u2.length_eq]), hL2⟩

theorem sortst_calls {w : World} {S : Nat → Prop} {A : Option Addr} {c : Nat} {xs : List Nat} (hS0 : SH w S w [rowE eF 22 (.slice A xs.length c) xs]) (hp : ∀ x ∈ xs, W6 x) (hl : xs.length ≤ 60) :
    Calls Try.prog 40 #[(.slice A xs.length c), (.func (.func 14) #[] #[])] w fun e w' => ∃ v, e = .returned v ∧ (fun v w' => ∃ ys : List Nat, v = .tuple #[] ∧ ys.Perm xs ∧ (ys.Pairwise fun a b => ¬ ORD b a < 0) ∧ SH w S w' [rowE eF 22 (.slice A xs.length c) ys]) v w' := by
  have hS : SH w S w [rowE eF 22 (.slice A xs.length c) xs] := hS0
  refine calls (l := litOf [(.slice A xs.length c), (.func (.func 14) #[] #[])] 0) Try.func40 rfl (n := 9) rfl (Nat.le_of_ble_eq_true rfl) (lit_args _) ?_
  refine WC.region ?_
  iterate 2 refine WL.lv rfl (LV.mv rfl) ?_
  refine WL.lv rfl (LV.lenL Try.underlying29 rfl) ?_
  refine WL.lv rfl (LV.mv rfl) ?_
  have hT1 := SH.sub (Es := [rowE eF 22 (.slice A xs.length c) xs]) hS
  refine WL.call rfl (XC.fn Try.func43 (by kernel_rfl) rfl rfl rfl) (stable_calls hT1 hp (by omega)) ?_
  rintro v_ w1 ⟨ys1, rfl, hpm1, hpw1, hU1⟩
  have hS1 := SH.back (Es := [rowE eF 22 (.slice A xs.length c) xs]) hS hU1
  refine WL.nil (?_)
  exact ⟨_, fun a ha => res0 rfl, _, rfl, hpm1, hpw1, hS1⟩

end Go.Proofs.Ytlnnfcbndelcnaa
