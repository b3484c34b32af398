/- Up to 20 numbers sorted. -/
import Derived.Test.YtlnnfcbndelcnaaFlF
namespace Go.Proofs.Ytlnnfcbndelcnaa
open Go Go.Gv Go.RowKit Go.Flt
set_option linter.unusedVariables false
set_option linter.unusedSimpArgs false

theorem stable_calls {w : World} {S : Nat → Prop} {A : Option Addr} {c : Nat} {xs : List Nat} (hS0 : SH w S w [rowE eF 22 (.slice A xs.length c) xs]) (hp : ∀ x ∈ xs, W6 x) (hl : xs.length < 20) :
    Calls Try.prog 43 #[(.slice A xs.length c), (.int .i64 (xs.length : Int)), (.func (.func 14) #[] #[])] w fun e w' => ∃ v, e = .returned v ∧ (fun v w' => ∃ ys : List Nat, v = .tuple #[] ∧ ys.Perm xs ∧ (ys.Pairwise fun a b => ¬ ORD b a < 0) ∧ SH w S w' [rowE eF 22 (.slice A xs.length c) ys]) v w' := by
  have hS : SH w S w [rowE eF 22 (.slice A xs.length c) xs] := hS0
  refine calls (l := litOf [(.slice A xs.length c), (.int .i64 (xs.length : Int)), (.func (.func 14) #[] #[])] 0) Try.func43 rfl (n := 63) rfl (Nat.le_of_ble_eq_true rfl) (lit_args _) ?_
  refine WC.seq ?_
  refine WC.region ?_
  refine WL.lv rfl (LV.asg rfl) ?_
  refine WL.nil (thenQ.n ?_)
  refine WC.seq ?_
  refine WC.region ?_
  refine WL.lv rfl (LV.mv rfl) ?_
  iterate 2 refine WL.lv rfl (LV.asg rfl) ?_
  refine WL.nil (thenQ.n ?_)
  refine WC.seq ?_
  refine WC.block ?_
  refine WC.loop (fun m_ f_ w_ => SH w S w_ [rowE eF 22 (.slice A xs.length c) xs] ∧ m_ = 0 ∧ Weak (lit [(0, (.slice A xs.length c)), (1, (.int .i64 (xs.length : Int))), (2, (.func (.func 14) #[] #[])), (6, (.int .i64 20)), (7, (.int .i64 0)), (8, (.int .i64 20))]) f_) _ ⟨hS, rfl, Weak.cons rfl <| Weak.cons rfl <| Weak.cons rfl <| Weak.cons rfl <| Weak.cons rfl <| Weak.cons rfl <| Weak.nil _⟩ ?_
  rintro m1 f1 w1 ⟨hL1, rfl, hw1⟩
  refine WC.weak hw1 ?_
  clear hw1
  iterate 2 refine WC.seq ?_
  refine WC.region ?_
  iterate 2 refine WL.lv rfl (LV.mv rfl) ?_
  refine WL.lv rfl (LV.leI rfl rfl) ?_
  refine WL.nil (thenQ.n ?_)
  refine WC.condP (p := 20 ≤ (xs.length : Int)) rfl (fun hc1 => ?_) (fun hc1 => ?_)
  · exfalso; omega
  · skip
    refine WC.exit (thenQ.x <| thenQ.x <| blockQ.hit <| thenQ.n ?_)
    refine WC.seq ?_
    refine WC.region ?_
    iterate 4 refine WL.lv rfl (LV.mv rfl) ?_
    refine WL.call rfl (XC.fn Try.func45 (by kernel_rfl) rfl rfl rfl) (ins_calls hL1 hp (by omega)) ?_
    rintro v_ w2 ⟨ys1, rfl, hpm1, hpw1, hS1, hk1⟩
    refine WL.nil (thenQ.n ?_)
    refine WC.block ?_
    refine WC.loop (fun m_ f_ w_ => SH w S w_ [rowE eF 22 (.slice A xs.length c) ys1] ∧ m_ = 0 ∧ Weak (lit [(0, (.slice A xs.length c)), (1, (.int .i64 (xs.length : Int))), (2, (.func (.func 14) #[] #[])), (6, (.int .i64 20)), (7, (.int .i64 0)), (8, (.int .i64 20))]) f_) _ ⟨hS1, rfl, Weak.cons rfl <| Weak.cons rfl <| Weak.cons rfl <| Weak.cons rfl <| Weak.cons rfl <| Weak.cons rfl <| Weak.nil _⟩ ?_
    rintro m2 f2 w3 ⟨hL2, rfl, hw2⟩
    refine WC.weak hw2 ?_
    clear hw2
    iterate 2 refine WC.seq ?_
    refine WC.region ?_
    iterate 2 refine WL.lv rfl (LV.mv rfl) ?_
    refine WL.lv rfl (LV.ltI rfl rfl) ?_
    refine WL.nil (thenQ.n ?_)
    refine WC.condP (p := 20 < (xs.length : Int)) rfl (fun hc2 => ?_) (fun hc2 => ?_)
    · exfalso; omega
    · skip
      refine WC.exit (thenQ.x <| thenQ.x <| blockQ.hit <| ?_)
      exact ⟨_, fun a ha => res0 rfl, _, rfl, hpm1, hpw1, hL2⟩

theorem sortst_calls {w : World} {S : Nat → Prop} {A : Option Addr} {c : Nat} {xs : List Nat} (hS0 : SH w S w [rowE eF 22 (.slice A xs.length c) xs]) (hp : ∀ x ∈ xs, W6 x) (hl : xs.length < 20) :
    Calls Try.prog 40 #[(.slice A xs.length c), (.func (.func 14) #[] #[])] w fun e w' => ∃ v, e = .returned v ∧ (fun v w' => ∃ ys : List Nat, v = .tuple #[] ∧ ys.Perm xs ∧ (ys.Pairwise fun a b => ¬ ORD b a < 0) ∧ SH w S w' [rowE eF 22 (.slice A xs.length c) ys]) v w' := by
  have hS : SH w S w [rowE eF 22 (.slice A xs.length c) xs] := hS0
  refine calls (l := litOf [(.slice A xs.length c), (.func (.func 14) #[] #[])] 0) Try.func40 rfl (n := 9) rfl (Nat.le_of_ble_eq_true rfl) (lit_args _) ?_
  refine WC.region ?_
  iterate 2 refine WL.lv rfl (LV.mv rfl) ?_
  refine WL.lv rfl (LV.lenL Try.underlying29 rfl) ?_
  refine WL.lv rfl (LV.mv rfl) ?_
  have hT1 := SH.sub (Es := [rowE eF 22 (.slice A xs.length c) xs]) hS
  refine WL.call rfl (XC.fn Try.func43 (by kernel_rfl) rfl rfl rfl) (stable_calls hT1 hp (by omega)) ?_
  rintro v_ w1 ⟨ys1, rfl, hpm1, hpw1, hU1⟩
  have hS1 := SH.back (Es := [rowE eF 22 (.slice A xs.length c) xs]) hS hU1
  refine WL.nil (?_)
  exact ⟨_, fun a ha => res0 rfl, _, rfl, hpm1, hpw1, hS1⟩

end Go.Proofs.Ytlnnfcbndelcnaa
