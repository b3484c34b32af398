/- The row of TallySums: what the statement says holds at every argument that a machine can hold. -/
import Derived.Test.YtannlhnjihielaaTlI
namespace Go.Proofs.Ytannlhnjihielaa.tallySums
open Go Go.Gv Go.Tly
open Go.ChangeShapes Go.WideShapes Go.ChangeAt Go.RowKit
open Go.ChangeMaps (open_string shut_string)
set_option linter.unusedVariables false
theorem own : ownKnob Try.prog.godebug = none := by kernel_rfl
theorem laidOut : laidOutB Try.prog = true := by kernel_rfl
set_option maxRecDepth 100000 in
theorem lifted (os : Os) (started : os.Started) (H : Type) (enc : TypeId × Value → H) :
    ReturnsInHanded {} Try.checked os 4 .any (Rows.tallySumsSpec.pre6 enc Try.prog Try.f4 Rows.tallySumsRow.domain false) (Rows.tallySumsSpec.post enc Try.prog Try.f4 false true false false) := by
  refine returnsInHanded_of_change_sized (C := Try.checked) own started (by kernel_rfl) Try.func4
    (ChangeSpec.witness6 (enc := enc) (C := Try.checked) false ⟨#[], #[.slice none 0 0, .agg #[(.int .i64 0), (.int .u64 0)], .agg #[(.int .i64 0), (.int .u64 0)], .agg #[(.int .i64 0), (.int .u64 0)]], []⟩ 8 (by kernel_rfl) (by kernel_rfl) (by kernel_rfl) (by kernel_rfl)) ?_
  intro W base args ds gs before hval0 hW hcnd hsz0 _
  have hsz : (DataW.weightsEach Try.prog (Try.f4.params.toList ++ Rows.tallySumsSpec.plain.varTypes Try.prog) (ds ++ gs)).all (· ≤ reachBytes) = true := hsz0
  have hval : ∀ (j : Nat) t v, Try.f4.params[j]? = some t → args[j]? = some v → Value.okWide Try.prog W .any base t v := hval0
  have hW' := hW
  obtain ⟨p, q, hA0, hV, rfl, hfz, hnd⟩ := hW
  have hA : DataW.TrodAll enc Try.prog W 0 (fun _ => true) true Try.f4.params.toList args.toList ds p := hA0
  rw [Try.params4] at hA hval hsz
  obtain ⟨v0, vs0, d0, ds0, p0, q0, hargs, rfl, rfl, h0, r0⟩ := trodAll_cons hA
  obtain ⟨v1, vs1, d1, ds1, p1, q1, rfl, rfl, rfl, h1, r1⟩ := trodAll_cons r0
  obtain ⟨v2, vs2, d2, ds2, p2, q2, rfl, rfl, rfl, h2, r2⟩ := trodAll_cons r1
  obtain ⟨v3, vs3, d3, ds3, p3, q3, rfl, rfl, rfl, h3, r3⟩ := trodAll_cons r2
  obtain ⟨rfl, rfl, rfl⟩ := trodAll_nil r3
  obtain rfl : args = #[v0, v1, v2, v3] := by cases args; simp_all
  obtain ⟨rfl, rfl⟩ := trodVars_none hV
  have hrb : reachBytes = 140737488351232 := by decide
  obtain ⟨a0, len0, cap0, rfl⟩ := okWide_slice Try.underlying22 (hval 0 22 v0 rfl rfl)
  have k0 := h0
  have lt0 : ∀ x ∈ p0, x.block < W.heap.size := by obtain ⟨m, hm⟩ := k0; exact DataW.trod_lt m _ _ _ hm
  obtain ⟨l0, rfl, hr0, hk0, hb0⟩ := open_arg (E := eIt) Try.underlying22 (by kernel_rfl) (opn_it Try.underlying38 Try.underlying3 Try.underlying25 Try.underlying3 Try.underlying23 Try.underlying4 Try.underlying36 Try.underlying9 Try.underlying4 (by refine ⟨?_, ?_, ?_, ?_, ?_, ?_, ?_, ?_, ?_⟩ <;> kernel_rfl) (by refine ⟨?_, ?_, ?_, ?_, ?_⟩ <;> kernel_rfl) (by refine ⟨?_, ?_, ?_, ?_, ?_⟩ <;> kernel_rfl)) h0 (weights_at (j := 0) hsz rfl rfl)
  rw [show Try.prog.bytesOf 38 = 56 by kernel_rfl] at hb0
  obtain ⟨c1, rfl, _⟩ := okWide_struct Try.underlying25 (hval 1 25 v1 rfl rfl)
  have k1 := h1
  have lt1 : ∀ x ∈ p1, x.block < W.heap.size := by obtain ⟨m, hm⟩ := k1; exact DataW.trod_lt m _ _ _ hm
  obtain ⟨x1, e1, hk1⟩ := open_val (opn_lb Try.underlying25 Try.underlying3 Try.underlying23 (by refine ⟨?_, ?_, ?_, ?_, ?_⟩ <;> kernel_rfl)) h1 (weights_at (j := 1) hsz rfl rfl)
  obtain rfl := Value.agg.inj (agg_of e1)
  obtain ⟨c2, rfl, _⟩ := okWide_struct Try.underlying25 (hval 2 25 v2 rfl rfl)
  have k2 := h2
  have lt2 : ∀ x ∈ p2, x.block < W.heap.size := by obtain ⟨m, hm⟩ := k2; exact DataW.trod_lt m _ _ _ hm
  obtain ⟨x2, e2, hk2⟩ := open_val (opn_lb Try.underlying25 Try.underlying3 Try.underlying23 (by refine ⟨?_, ?_, ?_, ?_, ?_⟩ <;> kernel_rfl)) h2 (weights_at (j := 2) hsz rfl rfl)
  obtain rfl := Value.agg.inj (agg_of e2)
  obtain ⟨c3, rfl, _⟩ := okWide_struct Try.underlying25 (hval 3 25 v3 rfl rfl)
  have k3 := h3
  have lt3 : ∀ x ∈ p3, x.block < W.heap.size := by obtain ⟨m, hm⟩ := k3; exact DataW.trod_lt m _ _ _ hm
  obtain ⟨x3, e3, hk3⟩ := open_val (opn_lb Try.underlying25 Try.underlying3 Try.underlying23 (by refine ⟨?_, ?_, ?_, ?_, ?_⟩ <;> kernel_rfl)) h3 (weights_at (j := 3) hsz rfl rfl)
  obtain rfl := Value.agg.inj (agg_of e3)
  clear hA0 hval0 hsz0 hsz
  refine (tallySums_law hr0 rfl hk0).mono fun e W' ⟨v, he, hv, kb⟩ => ?_
  have bel := KB.below kb
  subst he
  subst hv
  exact ⟨_, rfl, _, _, _, [], _, [], hW', trodAll_mk1 (shut_bool Try.underlying4 _), (trodAll_cons_mk (Below.trod laidOut (by kernel_rfl) (of_decide_eq_true (by kernel_rfl)) k0 bel lt0) (trodAll_cons_mk (Below.trod laidOut (by kernel_rfl) (of_decide_eq_true (by kernel_rfl)) k1 bel lt1) (trodAll_cons_mk (Below.trod laidOut (by kernel_rfl) (of_decide_eq_true (by kernel_rfl)) k2 bel lt2) (trodAll_cons_mk (Below.trod laidOut (by kernel_rfl) (of_decide_eq_true (by kernel_rfl)) k3 bel lt3) trodAll_mk0)))), rfl, bel.frame _, fun h => by cases h⟩
theorem over : Rows.tallySumsRow.holds Try.pinned (OpenSpec.ofChange Rows.tallySumsSpec) :=
  OpenClaim.holds_of_wide 4 Try.f4 rfl rfl rfl rfl rfl rfl rfl ⟨rfl, rfl, rfl, rfl, rfl⟩ rfl rfl rfl rfl rfl (by kernel_rfl) Try.func4 (by kernel_rfl)
    (of_decide_eq_true (by kernel_rfl)) (by unfold Func.isWrapper; first | (rw [if_pos (by decide +kernel)]; kernel_rfl) | (rw [if_neg (by decide +kernel)]; exact ⟨rfl, rfl⟩))
    (fun os started H enc _ => lifted os started H enc)
theorem proved : Rows.TallySumsSaid := over
end Go.Proofs.Ytannlhnjihielaa.tallySums
namespace Go.Proofs.Ytannlhnjihielaa
theorem tallySums_holds : Rows.TallySumsSaid := tallySums.proved
#print axioms tallySums_holds
end Go.Proofs.Ytannlhnjihielaa
