/- The row of RankCounts: what the statement says holds at every argument that a machine can hold. -/
import Derived.Test.YthmjieikbeemhaaRkM
import Derived.Test.YthmjieikbeemhaaGvO
namespace Go.Proofs.Ythmjieikbeemhaa.rankCounts
open Go Go.Gv Go.Rnk
open Go.ChangeShapes Go.WideShapes Go.ChangeAt Go.RowKit
open Go.ChangeMaps (open_string shut_string)
set_option linter.unusedVariables false
theorem own : ownKnob Try.prog.godebug = none := by kernel_rfl
theorem laidOut : laidOutB Try.prog = true := by kernel_rfl
set_option maxRecDepth 100000 in
theorem lifted (os : Os) (started : os.Started) (H : Type) (enc : TypeId × Value → H) :
    ReturnsInHanded {} Try.checked os 8 .any (Rows.rankCountsSpec.pre6 enc Try.prog Try.f8 Rows.rankCountsRow.domain false) (Rows.rankCountsSpec.post enc Try.prog Try.f8 false true false false) := by
  refine returnsInHanded_of_change_sized (C := Try.checked) own started (by kernel_rfl) Try.func8
    (ChangeSpec.witness6 (enc := enc) (C := Try.checked) false ⟨#[], #[.slice none 0 0, .slice none 0 0], []⟩ 8 (by kernel_rfl) (by kernel_rfl) (by kernel_rfl) (by kernel_rfl)) ?_
  intro W base args ds gs before hval0 hW hcnd hsz0 _
  have hsz : (DataW.weightsEach Try.prog (Try.f8.params.toList ++ Rows.rankCountsSpec.plain.varTypes Try.prog) (ds ++ gs)).all (· ≤ reachBytes) = true := hsz0
  have hval : ∀ (j : Nat) t v, Try.f8.params[j]? = some t → args[j]? = some v → Value.okWide Try.prog W .any base t v := hval0
  have hW' := hW
  obtain ⟨p, q, hA0, hV, rfl, hfz, hnd⟩ := hW
  have hA : DataW.TrodAll enc Try.prog W 0 (fun _ => true) true Try.f8.params.toList args.toList ds p := hA0
  rw [Try.params8] at hA hval hsz
  obtain ⟨v0, vs0, d0, ds0, p0, q0, hargs, rfl, rfl, h0, r0⟩ := trodAll_cons hA
  obtain ⟨v1, vs1, d1, ds1, p1, q1, rfl, rfl, rfl, h1, r1⟩ := trodAll_cons r0
  obtain ⟨rfl, rfl, rfl⟩ := trodAll_nil r1
  obtain rfl : args = #[v0, v1] := by cases args; simp_all
  obtain ⟨rfl, rfl⟩ := trodVars_none hV
  have hrb : reachBytes = 140737488351232 := by decide
  obtain ⟨a0, len0, cap0, rfl⟩ := okWide_slice Try.underlying30 (hval 0 30 v0 rfl rfl)
  have k0 := h0
  have lt0 : ∀ x ∈ p0, x.block < W.heap.size := by obtain ⟨m, hm⟩ := k0; exact DataW.trod_lt m _ _ _ hm
  obtain ⟨l0, rfl, hr0, hk0, hb0⟩ := open_arg (E := eV) Try.underlying30 (by kernel_rfl) (opn_sv Try.underlying22 (by kernel_rfl) (opn_line Try.underlying44 Try.underlying9 Try.underlying4 (by refine ⟨?_, ?_, ?_, ?_, ?_⟩ <;> kernel_rfl))) h0 (weights_at (j := 0) hsz rfl rfl)
  rw [show Try.prog.bytesOf 22 = 24 by kernel_rfl] at hb0
  obtain ⟨in0, e0, hr0, hj0⟩ := rr_of hr0 hk0
  have hn0 : in0.length = l0.length := by rw [e0, List.length_map]
  obtain ⟨a1, len1, cap1, rfl⟩ := okWide_slice Try.underlying22 (hval 1 22 v1 rfl rfl)
  have k1 := h1
  have lt1 : ∀ x ∈ p1, x.block < W.heap.size := by obtain ⟨m, hm⟩ := k1; exact DataW.trod_lt m _ _ _ hm
  obtain ⟨l1, rfl, hr1, hk1, hb1⟩ := open_arg (E := eL) Try.underlying22 (by kernel_rfl) (opn_line Try.underlying44 Try.underlying9 Try.underlying4 (by refine ⟨?_, ?_, ?_, ?_, ?_⟩ <;> kernel_rfl)) h1 (weights_at (j := 1) hsz rfl rfl)
  rw [show Try.prog.bytesOf 44 = 24 by kernel_rfl] at hb1
  clear hA0 hval0 hsz0 hsz
  refine (rankCounts_law hr0 hn0 hr1 rfl).mono fun e W' ⟨v, he, hv, kb⟩ => ?_
  have bel := KB.below kb
  subst he
  subst hv
  exact ⟨_, rfl, _, _, _, [], _, [], hW', trodAll_mk1 (shut_bool Try.underlying4 _), (trodAll_cons_mk (Below.trod laidOut (by kernel_rfl) (of_decide_eq_true (by kernel_rfl)) k0 bel lt0) (trodAll_cons_mk (Below.trod laidOut (by kernel_rfl) (of_decide_eq_true (by kernel_rfl)) k1 bel lt1) trodAll_mk0)), rfl, bel.frame _, fun h => by cases h⟩
theorem over : Rows.rankCountsRow.holds Try.pinned (OpenSpec.ofChange Rows.rankCountsSpec) :=
  OpenClaim.holds_of_wide 8 Try.f8 rfl rfl rfl rfl rfl rfl rfl ⟨rfl, rfl, rfl, rfl, rfl⟩ rfl rfl rfl rfl rfl (by kernel_rfl) Try.func8 (by kernel_rfl)
    (of_decide_eq_true (by kernel_rfl)) (by unfold Func.isWrapper; first | (rw [if_pos (by decide +kernel)]; kernel_rfl) | (rw [if_neg (by decide +kernel)]; exact ⟨rfl, rfl⟩))
    (fun os started H enc _ => lifted os started H enc)
theorem proved : Rows.RankCountsSaid := over
end Go.Proofs.Ythmjieikbeemhaa.rankCounts
namespace Go.Proofs.Ythmjieikbeemhaa
theorem rankCounts_holds : Rows.RankCountsSaid := rankCounts.proved
#print axioms rankCounts_holds
end Go.Proofs.Ythmjieikbeemhaa
