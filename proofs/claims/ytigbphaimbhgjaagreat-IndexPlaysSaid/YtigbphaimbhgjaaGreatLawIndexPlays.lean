/- The row of IndexPlays: what the statement says holds at every argument that a machine can hold. -/
import Derived.Test.YtigbphaimbhgjaaGreatMg35
import Derived.Test.YtigbphaimbhgjaaGreatMg30
namespace Go.Proofs.YtigbphaimbhgjaaGreat.indexPlays
open Go Go.Gv Go.Idx
open Go.ChangeShapes Go.WideShapes Go.ChangeAt Go.RowKit
open Go.ChangeMaps (open_string shut_string)
set_option linter.unusedVariables false
theorem own : ownKnob Tryz.prog.godebug = none := by kernel_rfl
theorem laidOut : laidOutB Tryz.prog = true := by kernel_rfl
set_option maxRecDepth 100000 in
theorem lifted (os : Os) (started : os.Started) (H : Type) (enc : TypeId × Value → H) :
    ReturnsInHanded {} Tryz.checked os 3 .any (Rows.indexPlaysSpec.pre6 enc Tryz.prog Tryz.f3 Rows.indexPlaysRow.domain false) (Rows.indexPlaysSpec.post enc Tryz.prog Tryz.f3 false true false false) := by
  refine returnsInHanded_of_change_sized (C := Tryz.checked) own started (by kernel_rfl) Tryz.func3
    (ChangeSpec.witness6 (enc := enc) (C := Tryz.checked) false ⟨#[], #[.slice none 0 0, .slice none 0 0, .agg #[(.int .i64 0), (.int .u64 0)]], []⟩ 8 (by kernel_rfl) (by kernel_rfl) (by kernel_rfl) (by kernel_rfl)) ?_
  intro W base args ds gs before hval0 hW hcnd hsz0 _
  have hsz : (DataW.weightsEach Tryz.prog (Tryz.f3.params.toList ++ Rows.indexPlaysSpec.plain.varTypes Tryz.prog) (ds ++ gs)).all (· ≤ reachBytes) = true := hsz0
  have hval : ∀ (j : Nat) t v, Tryz.f3.params[j]? = some t → args[j]? = some v → Value.okWide Tryz.prog W .any base t v := hval0
  have hW' := hW
  obtain ⟨p, q, hA0, hV, rfl, hfz, hnd⟩ := hW
  have hA : DataW.TrodAll enc Tryz.prog W 0 (fun _ => true) true Tryz.f3.params.toList args.toList ds p := hA0
  rw [Tryz.params3] at hA hval hsz
  obtain ⟨v0, vs0, d0, ds0, p0, q0, hargs, rfl, rfl, h0, r0⟩ := trodAll_cons hA
  obtain ⟨v1, vs1, d1, ds1, p1, q1, rfl, rfl, rfl, h1, r1⟩ := trodAll_cons r0
  obtain ⟨v2, vs2, d2, ds2, p2, q2, rfl, rfl, rfl, h2, r2⟩ := trodAll_cons r1
  obtain ⟨rfl, rfl, rfl⟩ := trodAll_nil r2
  obtain rfl : args = #[v0, v1, v2] := by cases args; simp_all
  obtain ⟨rfl, rfl⟩ := trodVars_none hV
  have hrb : reachBytes = 140737488351232 := by decide
  obtain ⟨a0, len0, cap0, rfl⟩ := okWide_slice Tryz.underlying22 (hval 0 22 v0 rfl rfl)
  have k0 := h0
  have lt0 : ∀ x ∈ p0, x.block < W.heap.size := by obtain ⟨m, hm⟩ := k0; exact DataW.trod_lt m _ _ _ hm
  obtain ⟨l0, rfl, hr0, hk0, hb0⟩ := open_arg (E := eDd) Tryz.underlying22 (by kernel_rfl) (opn_dd Tryz.underlying47 Tryz.underlying4 Tryz.underlying9 Tryz.underlying45 (by refine ⟨?_, ?_, ?_, ?_, ?_, ?_, ?_⟩ <;> kernel_rfl) (by kernel_rfl) (opn_it Tryz.underlying68 Tryz.underlying3 Tryz.underlying26 Tryz.underlying3 Tryz.underlying24 Tryz.underlying4 Tryz.underlying66 Tryz.underlying9 Tryz.underlying4 (by refine ⟨?_, ?_, ?_, ?_, ?_, ?_, ?_, ?_, ?_⟩ <;> kernel_rfl) (by refine ⟨?_, ?_, ?_, ?_, ?_⟩ <;> kernel_rfl) (by refine ⟨?_, ?_, ?_, ?_, ?_⟩ <;> kernel_rfl))) h0 (weights_at (j := 0) hsz rfl rfl)
  rw [show Tryz.prog.bytesOf 47 = 48 by kernel_rfl] at hb0
  obtain ⟨in0, e0, hr0, hi0, hm0, hy0⟩ := dd_of hr0 hk0
  have hn0 : in0.length = l0.length := by rw [e0]; exact (List.length_map _).symm
  obtain ⟨a1, len1, cap1, rfl⟩ := okWide_slice Tryz.underlying23 (hval 1 23 v1 rfl rfl)
  have k1 := h1
  have lt1 : ∀ x ∈ p1, x.block < W.heap.size := by obtain ⟨m, hm⟩ := k1; exact DataW.trod_lt m _ _ _ hm
  obtain ⟨l1, rfl, hr1, hk1, hb1⟩ := open_arg (E := eS) Tryz.underlying23 (by kernel_rfl) (opn_str Tryz.underlying9) h1 (weights_at (j := 1) hsz rfl rfl)
  rw [show Tryz.prog.bytesOf 9 = 16 by kernel_rfl] at hb1
  obtain ⟨c2, rfl, _⟩ := okWide_struct Tryz.underlying26 (hval 2 26 v2 rfl rfl)
  have k2 := h2
  have lt2 : ∀ x ∈ p2, x.block < W.heap.size := by obtain ⟨m, hm⟩ := k2; exact DataW.trod_lt m _ _ _ hm
  obtain ⟨x2, e2, hk2⟩ := open_val (opn_lb Tryz.underlying26 Tryz.underlying3 Tryz.underlying24 (by refine ⟨?_, ?_, ?_, ?_, ?_⟩ <;> kernel_rfl)) h2 (weights_at (j := 2) hsz rfl rfl)
  obtain rfl := Value.agg.inj (agg_of e2)
  clear hA0 hval0 hsz0 hsz
  refine (indexPlays_law hr0 hi0 hn0 hr1 rfl hm0 hy0 (fun q_ hq_ => by have h_ := hk1 q_ hq_; omega) hk2.2.2).mono fun e W' ⟨v, he, hv, kb⟩ => ?_
  have bel := KB.below kb
  subst he
  subst hv
  exact ⟨_, rfl, _, _, _, [], _, [], hW', trodAll_mk1 (shut_bool Tryz.underlying4 _), (trodAll_cons_mk (Below.trod laidOut (by kernel_rfl) (of_decide_eq_true (by kernel_rfl)) k0 bel lt0) (trodAll_cons_mk (Below.trod laidOut (by kernel_rfl) (of_decide_eq_true (by kernel_rfl)) k1 bel lt1) (trodAll_cons_mk (Below.trod laidOut (by kernel_rfl) (of_decide_eq_true (by kernel_rfl)) k2 bel lt2) trodAll_mk0))), rfl, bel.frame _, fun h => by cases h⟩
theorem over : Rows.indexPlaysRow.holds Tryz.pinned (OpenSpec.ofChange Rows.indexPlaysSpec) :=
  OpenClaim.holds_of_wide 3 Tryz.f3 rfl rfl rfl rfl rfl rfl rfl ⟨rfl, rfl, rfl, rfl, rfl⟩ rfl rfl rfl rfl rfl (by kernel_rfl) Tryz.func3 (by kernel_rfl)
    (of_decide_eq_true (by kernel_rfl)) (by unfold Func.isWrapper; first | (rw [if_pos (by decide +kernel)]; kernel_rfl) | (rw [if_neg (by decide +kernel)]; exact ⟨rfl, rfl⟩))
    (fun os started H enc _ => lifted os started H enc)
theorem proved : Rows.IndexPlaysSaid := over
end Go.Proofs.YtigbphaimbhgjaaGreat.indexPlays
namespace Go.Proofs.YtigbphaimbhgjaaGreat
theorem indexPlays_holds : Rows.IndexPlaysSaid := indexPlays.proved
#print axioms indexPlays_holds
end Go.Proofs.YtigbphaimbhgjaaGreat

