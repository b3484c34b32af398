/- The row of IndexTwice: what the statement says holds at every argument that a machine can hold. -/
import Derived.Test.YtigbphaimbhgjaaMg33
import Derived.Test.YtigbphaimbhgjaaMg31
namespace Go.Proofs.Ytigbphaimbhgjaa.indexTwice
open Go Go.Gv Go.Idx
open Go.ChangeShapes Go.WideShapes Go.ChangeAt Go.RowKit
open Go.ChangeMaps (open_string shut_string)
set_option linter.unusedVariables false
theorem own : ownKnob Try.prog.godebug = none := by kernel_rfl
theorem laidOut : laidOutB Try.prog = true := by kernel_rfl
set_option maxRecDepth 100000 in
theorem lifted (os : Os) (started : os.Started) (H : Type) (enc : TypeId × Value → H) :
    ReturnsInHanded {} Try.checked os 5 .any (Rows.indexTwiceSpec.pre6 enc Try.prog Try.f5 Rows.indexTwiceRow.domain false) (Rows.indexTwiceSpec.post enc Try.prog Try.f5 false true false false) := by
  refine returnsInHanded_of_change_sized (C := Try.checked) own started (by kernel_rfl) Try.func5
    (ChangeSpec.witness6 (enc := enc) (C := Try.checked) false ⟨#[], #[.slice none 0 0, .agg #[(.bool false), (.string ByteArray.empty), (.slice none 0 0)], .string ByteArray.empty, .agg #[(.int .i64 0), (.int .u64 0)]], []⟩ 8 (by kernel_rfl) (by kernel_rfl) (by kernel_rfl) (by kernel_rfl)) ?_
  intro W base args ds gs before hval0 hW hcnd hsz0 _
  have hsz : (DataW.weightsEach Try.prog (Try.f5.params.toList ++ Rows.indexTwiceSpec.plain.varTypes Try.prog) (ds ++ gs)).all (· ≤ reachBytes) = true := hsz0
  have hval : ∀ (j : Nat) t v, Try.f5.params[j]? = some t → args[j]? = some v → Value.okWide Try.prog W .any base t v := hval0
  have hW' := hW
  obtain ⟨p, q, hA0, hV, rfl, hfz, hnd⟩ := hW
  have hA : DataW.TrodAll enc Try.prog W 0 (fun _ => true) true Try.f5.params.toList args.toList ds p := hA0
  rw [Try.params5] at hA hval hsz
  obtain ⟨v0, vs0, d0, ds0, p0, q0, hargs, rfl, rfl, h0, r0⟩ := trodAll_cons hA
  obtain ⟨v1, vs1, d1, ds1, p1, q1, rfl, rfl, rfl, h1, r1⟩ := trodAll_cons r0
  obtain ⟨v2, vs2, d2, ds2, p2, q2, rfl, rfl, rfl, h2, r2⟩ := trodAll_cons r1
  obtain ⟨v3, vs3, d3, ds3, p3, q3, rfl, rfl, rfl, h3, r3⟩ := trodAll_cons r2
  obtain ⟨rfl, rfl, rfl⟩ := trodAll_nil r3
  obtain rfl : args = #[v0, v1, v2, v3] := by cases args; simp_all
  obtain ⟨rfl, rfl⟩ := trodVars_none hV
  have hrb : reachBytes = 140737488351232 := by decide
  obtain ⟨a0, len0, cap0, rfl⟩ := okWide_slice Try.underlying22 (hval 0 22 v0 rfl rfl)
  have k0 := h0
  have lt0 : ∀ x ∈ p0, x.block < W.heap.size := by obtain ⟨m, hm⟩ := k0; exact DataW.trod_lt m _ _ _ hm
  obtain ⟨l0, rfl, hr0, hk0, hb0⟩ := open_arg (E := eDd) Try.underlying22 (by kernel_rfl) (opn_dd Try.underlying34 Try.underlying4 Try.underlying9 Try.underlying30 (by refine ⟨?_, ?_, ?_, ?_, ?_, ?_, ?_⟩ <;> kernel_rfl) (by kernel_rfl) (opn_it Try.underlying64 Try.underlying3 Try.underlying25 Try.underlying3 Try.underlying23 Try.underlying4 Try.underlying62 Try.underlying9 Try.underlying4 (by refine ⟨?_, ?_, ?_, ?_, ?_, ?_, ?_, ?_, ?_⟩ <;> kernel_rfl) (by refine ⟨?_, ?_, ?_, ?_, ?_⟩ <;> kernel_rfl) (by refine ⟨?_, ?_, ?_, ?_, ?_⟩ <;> kernel_rfl))) h0 (weights_at (j := 0) hsz rfl rfl)
  rw [show Try.prog.bytesOf 34 = 48 by kernel_rfl] at hb0
  obtain ⟨in0, e0, hr0, hi0, hm0, hy0⟩ := dd_of hr0 hk0
  have hn0 : in0.length = l0.length := by rw [e0]; exact (List.length_map _).symm
  obtain ⟨c1, rfl, _⟩ := okWide_struct Try.underlying34 (hval 1 34 v1 rfl rfl)
  have k1 := h1
  have lt1 : ∀ x ∈ p1, x.block < W.heap.size := by obtain ⟨m, hm⟩ := k1; exact DataW.trod_lt m _ _ _ hm
  obtain ⟨x1, e1, hk1⟩ := open_val (opn_dd Try.underlying34 Try.underlying4 Try.underlying9 Try.underlying30 (by refine ⟨?_, ?_, ?_, ?_, ?_, ?_, ?_⟩ <;> kernel_rfl) (by kernel_rfl) (opn_it Try.underlying64 Try.underlying3 Try.underlying25 Try.underlying3 Try.underlying23 Try.underlying4 Try.underlying62 Try.underlying9 Try.underlying4 (by refine ⟨?_, ?_, ?_, ?_, ?_, ?_, ?_, ?_, ?_⟩ <;> kernel_rfl) (by refine ⟨?_, ?_, ?_, ?_, ?_⟩ <;> kernel_rfl) (by refine ⟨?_, ?_, ?_, ?_, ?_⟩ <;> kernel_rfl))) h1 (weights_at (j := 1) hsz rfl rfl)
  obtain ⟨db1, df1, dA1, dc1, dl1, de1, hr1, hz1, hy1⟩ := dd_one hk1
  rw [de1] at e1
  obtain rfl := Value.agg.inj (agg_of e1)
  obtain ⟨a2, rfl⟩ := okWide_string Try.underlying9 (hval 2 9 v2 rfl rfl)
  have k2 := h2
  have lt2 : ∀ x ∈ p2, x.block < W.heap.size := by obtain ⟨m, hm⟩ := k2; exact DataW.trod_lt m _ _ _ hm
  obtain ⟨x2, e2, hs2⟩ := open_val (opn_str Try.underlying9) h2 (weights_at (j := 2) hsz rfl rfl)
  have hz2 : a2.size ≤ reachBytes := (by have e_ : a2 = x2 := (by simpa [Value.cells] using e2); rw [e_]; exact hs2)
  obtain ⟨c3, rfl, _⟩ := okWide_struct Try.underlying25 (hval 3 25 v3 rfl rfl)
  have k3 := h3
  have lt3 : ∀ x ∈ p3, x.block < W.heap.size := by obtain ⟨m, hm⟩ := k3; exact DataW.trod_lt m _ _ _ hm
  obtain ⟨x3, e3, hk3⟩ := open_val (opn_lb Try.underlying25 Try.underlying3 Try.underlying23 (by refine ⟨?_, ?_, ?_, ?_, ?_⟩ <;> kernel_rfl)) h3 (weights_at (j := 3) hsz rfl rfl)
  obtain rfl := Value.agg.inj (agg_of e3)
  clear hA0 hval0 hsz0 hsz
  refine (indexTwice_law hr0 hi0 hn0 hm0 hy0 hr1 hz1 hy1 (by omega) hk3.2.2).mono fun e W' ⟨v, he, hv, kb⟩ => ?_
  have bel := KB.below kb
  subst he
  subst hv
  exact ⟨_, rfl, _, _, _, [], _, [], hW', trodAll_mk1 (shut_bool Try.underlying4 _), (trodAll_cons_mk (Below.trod laidOut (by kernel_rfl) (of_decide_eq_true (by kernel_rfl)) k0 bel lt0) (trodAll_cons_mk (Below.trod laidOut (by kernel_rfl) (of_decide_eq_true (by kernel_rfl)) k1 bel lt1) (trodAll_cons_mk (Below.trod laidOut (by kernel_rfl) (of_decide_eq_true (by kernel_rfl)) k2 bel lt2) (trodAll_cons_mk (Below.trod laidOut (by kernel_rfl) (of_decide_eq_true (by kernel_rfl)) k3 bel lt3) trodAll_mk0)))), rfl, bel.frame _, fun h => by cases h⟩
theorem over : Rows.indexTwiceRow.holds Try.pinned (OpenSpec.ofChange Rows.indexTwiceSpec) :=
  OpenClaim.holds_of_wide 5 Try.f5 rfl rfl rfl rfl rfl rfl rfl ⟨rfl, rfl, rfl, rfl, rfl⟩ rfl rfl rfl rfl rfl (by kernel_rfl) Try.func5 (by kernel_rfl)
    (of_decide_eq_true (by kernel_rfl)) (by unfold Func.isWrapper; first | (rw [if_pos (by decide +kernel)]; kernel_rfl) | (rw [if_neg (by decide +kernel)]; exact ⟨rfl, rfl⟩))
    (fun os started H enc _ => lifted os started H enc)
theorem proved : Rows.IndexTwiceSaid := over
end Go.Proofs.Ytigbphaimbhgjaa.indexTwice
namespace Go.Proofs.Ytigbphaimbhgjaa
theorem indexTwice_holds : Rows.IndexTwiceSaid := indexTwice.proved
#print axioms indexTwice_holds
end Go.Proofs.Ytigbphaimbhgjaa

