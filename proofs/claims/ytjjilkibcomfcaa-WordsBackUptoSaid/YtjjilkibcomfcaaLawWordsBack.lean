/- The row of WordsBack: what the statement says holds at every argument that a machine can hold. -/
import Derived.Deep.CondSized
import Derived.JoinedCond
import Derived.Test.YtjjilkibcomfcaaWdM
import Derived.Test.YtjjilkibcomfcaaGvP
namespace Go.Proofs.Ytjjilkibcomfcaa.wordsBack
open Go Go.Gv Go.Wds
open Go.ChangeShapes Go.WideShapes Go.ChangeAt Go.RowKit
open Go.ChangeMaps (open_string shut_string)
set_option linter.unusedVariables false
theorem own : ownKnob Try.prog.godebug = none := by kernel_rfl
theorem two_of {cs : List Value} (h : cs.length = 2) : ∃ u v, cs = [u, v] := by match cs, h with | [u, v], _ => exact ⟨u, v, rfl⟩
theorem bulk_part {H : Type} {d : DataW H} : ∀ {l : List (DataW H)}, d ∈ l → Rows.uptoBulk d ≤ Rows.uptoBulkAll l
  | [], h => by cases h
  | x :: r, h => by
    rw [Rows.uptoBulkAll]
    rcases List.mem_cons.1 h with rfl | h
    · exact Nat.le_add_right _ _
    · exact Nat.le_trans (bulk_part h) (Nat.le_add_left _ _)
theorem bit_open {H : Type} {enc : TypeId × Value → H} {w : World} (fuel : Nat) (cs : List Value) (d : DataW H) (ps : List MemPlace) (h : DataW.trod enc Try.prog w 0 (fun _ => true) true fuel 49 cs = some (d, ps)) : ∃ a, cs = eBt.enc a ∧ a.2.size ≤ Rows.uptoBulk d := by
  obtain ⟨y0, y1, n, hx, hl, h0, h1⟩ := Go.ChangeShapes.trod_struct2 Try.underlying49 h
  injection hx with hd _
  subst hd
  obtain ⟨k, e0, _, _⟩ := DataW.trod_int Try.underlying47 h0
  obtain ⟨s, e1, hy, _⟩ := DataW.trod_string Try.underlying9 h1
  have c0 : Try.prog.cellsOf 47 = 1 := by kernel_rfl
  have c1 : Try.prog.cellsOf 9 = 1 := by kernel_rfl
  rw [show Try.prog.cellsOf 49 = 2 by kernel_rfl] at hl
  obtain ⟨u, v, rfl⟩ := two_of hl
  have e0 : [u] = [Value.int .i64 k] := by rw [← e0]; show _ = (([u, v] : List Value).drop 0).take (Try.prog.cellsOf 47); rw [c0]; rfl
  have e1 : [v] = [Value.string s] := by rw [← e1]; show _ = (([u, v] : List Value).drop 1).take (Try.prog.cellsOf 9); rw [c1]; rfl
  refine ⟨(k, s), ?_, ?_⟩
  · have g0 := (List.cons.inj e0).1
    have g1 := (List.cons.inj e1).1
    rw [g0, g1]; rfl
  · subst hy
    simp only [Rows.uptoBulk, Rows.uptoBulkAll]
    have e : s.data.toList.length = s.size := by rw [Array.length_toList]; rfl
    omega
theorem few_bits {H : Type} {d0 d1 d : DataW H} {l : List (Int × ByteArray)} (hc : Rows.uptoSmall H [d0, d1, d] = true) (hk : ∀ x ∈ l, ∃ elems spare y, d = DataW.slice elems spare ∧ y ∈ elems ∧ x.2.size ≤ Rows.uptoBulk y) : ∀ x ∈ l, x.2.size ≤ 1048576 := fun x hx => by
  obtain ⟨el, sp, y, rfl, hy, hb⟩ := hk x hx
  have h1 : Rows.uptoBulkAll [d0, d1, DataW.slice el sp] ≤ 1048576 := of_decide_eq_true hc
  have h2 := bulk_part hy
  simp only [Rows.uptoBulkAll, Rows.uptoBulk] at h1
  omega
theorem laidOut : laidOutB Try.prog = true := by kernel_rfl
set_option maxRecDepth 100000 in
theorem lifted (os : Os) (started : os.Started) (H : Type) (enc : TypeId × Value → H) (F : Stop.Interp) :
    ReturnsInHanded {} Try.checked os 6 .any ((Rows.OpenSpec.upto Rows.wordsBackSpec).pre6 enc Try.prog Try.f6 Rows.wordsBackUptoRow.domain false) (((Rows.OpenSpec.upto Rows.wordsBackSpec).at F).post enc Try.prog Try.f6 false true false false) := by
  refine returnsInHanded_of_cond_sized (C := Try.checked) (s := (Rows.OpenSpec.upto Rows.wordsBackSpec)) (k := Rows.uptoSmall) rfl own started (by kernel_rfl) Try.func6
    (OpenSpec.witness (enc := enc) (C := Try.checked) (s := (Rows.OpenSpec.upto Rows.wordsBackSpec)) (k := Rows.uptoSmall) rfl false ⟨#[], #[.string ByteArray.empty, .string ByteArray.empty, .slice none 0 0], []⟩ 8 (by kernel_rfl) (by kernel_rfl) (by kernel_rfl)
      (x := ([.lit (.string []), .lit (.string []), .nil], [], [])) (by kernel_rfl) rfl (by kernel_rfl)) ?_
  intro W base args ds gs before hval0 hW hcnd hcap hsz0 _
  have hsz : (DataW.weightsEach Try.prog (Try.f6.params.toList ++ Rows.wordsBackSpec.plain.varTypes Try.prog) (ds ++ gs)).all (· ≤ reachBytes) = true := hsz0
  have hval : ∀ (j : Nat) t v, Try.f6.params[j]? = some t → args[j]? = some v → Value.okWide Try.prog W .any base t v := hval0
  have hW' := hW
  obtain ⟨p, q, hA0, hV, rfl, hfz, hnd⟩ := hW
  have hA : DataW.TrodAll enc Try.prog W 0 (fun _ => true) true Try.f6.params.toList args.toList ds p := hA0
  rw [Try.params6] at hA hval hsz
  obtain ⟨v0, vs0, d0, ds0, p0, q0, hargs, rfl, rfl, h0, r0⟩ := trodAll_cons hA
  obtain ⟨v1, vs1, d1, ds1, p1, q1, rfl, rfl, rfl, h1, r1⟩ := trodAll_cons r0
  obtain ⟨v2, vs2, d2, ds2, p2, q2, rfl, rfl, rfl, h2, r2⟩ := trodAll_cons r1
  obtain ⟨rfl, rfl, rfl⟩ := trodAll_nil r2
  obtain rfl : args = #[v0, v1, v2] := by cases args; simp_all
  obtain ⟨rfl, rfl⟩ := trodVars_none hV
  have hrb : reachBytes = 140737488351232 := by decide
  obtain ⟨a0, rfl⟩ := okWide_string Try.underlying9 (hval 0 9 v0 rfl rfl)
  have k0 := h0
  have lt0 : ∀ x ∈ p0, x.block < W.heap.size := by obtain ⟨m, hm⟩ := k0; exact DataW.trod_lt m _ _ _ hm
  obtain ⟨x0, e0, hs0⟩ := open_val (opn_str Try.underlying9) h0 (weights_at (j := 0) hsz rfl rfl)
  have hz0 : a0.size ≤ reachBytes := (by have e_ : a0 = x0 := (by simpa [Value.cells] using e0); rw [e_]; exact hs0)
  obtain ⟨a1, rfl⟩ := okWide_string Try.underlying9 (hval 1 9 v1 rfl rfl)
  have k1 := h1
  have lt1 : ∀ x ∈ p1, x.block < W.heap.size := by obtain ⟨m, hm⟩ := k1; exact DataW.trod_lt m _ _ _ hm
  obtain ⟨x1, e1, hs1⟩ := open_val (opn_str Try.underlying9) h1 (weights_at (j := 1) hsz rfl rfl)
  have hz1 : a1.size ≤ reachBytes := (by have e_ : a1 = x1 := (by simpa [Value.cells] using e1); rw [e_]; exact hs1)
  obtain ⟨a2, len2, cap2, rfl⟩ := okWide_slice Try.underlying29 (hval 2 29 v2 rfl rfl)
  have k2 := h2
  have lt2 : ∀ x ∈ p2, x.block < W.heap.size := by obtain ⟨m, hm⟩ := k2; exact DataW.trod_lt m _ _ _ hm
  obtain ⟨l2, rfl, hr2, hk2⟩ := open_argK (E := eBt) (Kd := fun d x => x.2.size ≤ Rows.uptoBulk d) Try.underlying29 (by kernel_rfl) bit_open h2
  clear hA0 hval0 hsz0 hsz
  refine (wordsBack_law hr2 rfl (few_bits hcap hk2)).mono fun e W' ⟨v, he, hv, kb⟩ => ?_
  have bel := KB.below kb
  subst he
  subst hv
  exact ⟨_, rfl, _, _, _, [], _, [], hW', trodAll_mk1 (shut_bool Try.underlying4 _), (trodAll_cons_mk (Below.trod laidOut (by kernel_rfl) (of_decide_eq_true (by kernel_rfl)) k0 bel lt0) (trodAll_cons_mk (Below.trod laidOut (by kernel_rfl) (of_decide_eq_true (by kernel_rfl)) k1 bel lt1) (trodAll_cons_mk (Below.trod laidOut (by kernel_rfl) (of_decide_eq_true (by kernel_rfl)) k2 bel lt2) trodAll_mk0))), rfl, bel.frame _, fun h => by cases h⟩
theorem proved : Rows.WordsBackUptoSaid :=
  OpenClaim.holds_of_cond 6 Try.f6 rfl rfl rfl rfl rfl rfl rfl ⟨rfl, rfl, rfl, rfl, rfl⟩ rfl rfl rfl rfl rfl (by kernel_rfl) Try.func6 (by kernel_rfl)
    (of_decide_eq_true (by kernel_rfl)) (by unfold Func.isWrapper; first | (rw [if_pos (by decide +kernel)]; kernel_rfl) | (rw [if_neg (by decide +kernel)]; exact ⟨rfl, rfl⟩))
    (fun os started H enc _ F => lifted os started H enc F)
end Go.Proofs.Ytjjilkibcomfcaa.wordsBack
namespace Go.Proofs.Ytjjilkibcomfcaa
theorem wordsBack_holds : Rows.WordsBackUptoSaid := wordsBack.proved
#print axioms wordsBack_holds
end Go.Proofs.Ytjjilkibcomfcaa
