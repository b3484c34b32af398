import Derived.Test.YtannlhnjihielaaTlM
import Derived.Test.YtannlhnjihielaaGvS

namespace Go.Proofs
open Go.RowKit Go.Maps Go.Sort Go.Shelf Go.Lib
open Go.Gv (kLb Lb eLb St Rd SH KB No Row rowE El)
set_option linter.unusedVariables false
attribute [local go_sem] Oper.semAt_some
set_option maxRecDepth 100000 in
set_option maxHeartbeats 4000000 in
theorem app_in {H : Type} (n : Nat) (hn : 6 ≤ n) {w : World} {Bm b nn : Nat} {D0 : DataW H} (hBm : Bm < w.heap.size) (hm : w.cell? ⟨Bm, 0, none⟩ = some (.map (some b))) (hown : w.ownsMap Try.prog 25 (plainElem Try.prog 3) b nn D0) (hsz : Maps.size D0 ≤ 1000000) :
    CallsIn Fence.wide n Try.prog 31 #[.slice none 0 0, .func (.func 27) #[] #[.pointer (some ⟨Bm, 0, none⟩)]] w fun e w' => ∃ v ss, e = .returned v ∧ KeysOfL D0 ss ∧ Below w.heap.size w w' ∧ w'.ownsRow w.heap.size 25 2 v ss.length (eLb.cells ss) := by
  obtain ⟨i0, hi, hz0, hz1, hz2⟩ := info_parts infoL
  have hml : (2000000 : Nat) ≤ maxLen := by unfold maxLen; omega
  refine callsIn_of_wp_marks Try.func31 rfl trivial ?_ rfl
  simp only [Try.ntmps31, List.size_toArray, List.length_cons, List.length_nil, Nat.reduceAdd, Nat.reduceSub, Array.replicate_succ, Array.replicate_zero, List.push_toArray, List.append_toArray, List.nil_append, List.cons_append]
  gi_wp2
  have bO := Boxed.new w 44 (.slice none 0 0)
  refine wpIn_rangeFunc_box rfl (by omega) (gf := 27) (lb := #[.pointer (some ⟨Bm, 0, none⟩)]) rfl trivial (enters_of Try.func27 (by kernel_rfl) rfl)
    (seqStopsA_iff.1 (keys_stops Fence.wide _ trivial rfl (by omega) Bm b _ D0 _ (by simp; omega) (((Below.refl _ w).alloc (Nat.le_refl _) (.cells #[.slice none 0 0] 44)).cell (p := ⟨Bm, 0, none⟩) hBm |>.trans hm) (hown.alloc _))) walksK_t walksK_b (Below.refl _ _) (fun _ => rfl)
    (fun pre W => (∃ v, Boxed W w.heap.size 44 v ∧ W.ownsRow w.heap.size 25 2 v pre.length (eLb.cells pre) ∧ True) ∧ Below w.heap.size w W)
    (OwnFrom.and (Own.from (holdsRow_own w.heap.size w.heap.size 44 25 2 (fun pre : List Lb => pre.length) (fun pre => eLb.cells pre) (fun _ _ => True)) _) (ownFrom_below (Nat.le_refl _) (by simp)))
    ⟨⟨_, bO, World.ownsRow_nil _ _ _ _, trivial⟩, (Below.refl _ w).alloc (Nat.le_refl _) _⟩ ?round ?done
  case round =>
    rintro l' pre x W hl' ⟨r, hr⟩ ⟨⟨v, hv, hrow, _⟩, hB⟩ hlt
    gi_wp2
    refine ⟨(KeepsOthers.alloc W _).from _, KeepsWalks.alloc W _, ⟨⟨v, hv.alloc _, hrow.alloc _, trivial⟩, hB.alloc hB.size _⟩, ?_⟩
    rintro r' ⟨⟨v, hv, hrow, _⟩, hB⟩
    have hWl : l' < W.heap.size := (Array.getElem?_eq_some_iff.1 hr).1
    have hx : ((W.alloc (.cells #[.int .i64 x.1, .int .u64 x.2] 25)).putObj l' (.loop r')).heap[W.heap.size]? = some (.cells #[.int .i64 x.1, .int .u64 x.2] 25 (0, 0)) := (World.putObj_heap_other (by omega)).trans (World.alloc_heap_new W _)
    generalize hW2 : (W.alloc (.cells #[.int .i64 x.1, .int .u64 x.2] 25)).putObj l' (.loop r') = W2 at hv hrow hB hx ⊢
    have hc := hv.cell
    have hx0 : W2.cell? ⟨W.heap.size, 0, none⟩ = some (.int .i64 x.1) := by simp [World.cell?, hx]
    have hx1 : W2.cell? ⟨W.heap.size, 1, none⟩ = some (.int .u64 x.2) := by simp [World.cell?, hx]
    gi_wp2_with (gi_at_builtin; refine wpListIn_append_own _ rfl _ _ 44 rfl w.heap.size 25 i0 (.agg #[.int .i64 0, .int .u64 0]) 2 16 Try.underlying44 hi hz0 hz1 hz2 rfl (by decide) _ _ _ rfl (hrow.alloc _) ⟨W2.heap.size, 0, none⟩ 1 1 [.int .i64 x.1, .int .u64 x.2] rfl rfl (cell_two_new _ _ _ _) (by simp [Value.oneCell']) (by omega) (by omega) (by have := hB.size; simp; omega) ?_; intro v' w2 hown' hgrow _; obtain ⟨g', cap', rfl⟩ := ownsRow_succ hown'; obtain ⟨hv1, hv2, hr2, hk2, hb2⟩ := hv.appended (by decide) hrow hB.size (Nat.le_refl _) hown' hgrow; have hc1 := hv1.cell; have hf1 := hv1.frozen)
    exact ⟨hk2.from _, hk2.walks, ⟨_, hv2, (by rw [El.cells_append]; exact hr2)⟩, hB.trans hb2⟩
  case done =>
    rintro D ys W hD hS ⟨⟨v, hv, hrow, _⟩, hB⟩ hK
    have hc := hv.cell
    gi_wp2
    refine ⟨by simp, .inl ⟨_, _, rfl, run_takeDeferred hK, ?_⟩⟩
    refine ⟨_, results_tmp rfl _ _ _, v, ys, rfl, hS, ?_, ?_⟩
    · exact hB.grown (grownBy_putObj' W D _) hB.size (fun k e => by cases e; simp at hD; omega)
    · exact ownsRow_putObj hrow _ hK rfl
set_option maxHeartbeats 1000000 in
theorem coll_in {H : Type} (n : Nat) (hn : 7 ≤ n) {w : World} {Bm b nn : Nat} {D0 : DataW H} (hBm : Bm < w.heap.size) (hm : w.cell? ⟨Bm, 0, none⟩ = some (.map (some b))) (hown : w.ownsMap Try.prog 25 (plainElem Try.prog 3) b nn D0) (hsz : Maps.size D0 ≤ 1000000) :
    CallsIn Fence.wide n Try.prog 25 #[.func (.func 27) #[] #[.pointer (some ⟨Bm, 0, none⟩)]] w fun e w' => ∃ v ss, e = .returned v ∧ KeysOfL D0 ss ∧ Below w.heap.size w w' ∧ w'.ownsRow w.heap.size 25 2 v ss.length (eLb.cells ss) := by
  refine callsIn_of_wp Try.func25 rfl trivial ?_ rfl
  simp only [Try.ntmps25, List.size_toArray, List.length_cons, List.length_nil, Nat.reduceAdd, Nat.reduceSub, Array.replicate_succ, Array.replicate_zero, List.push_toArray, List.append_toArray, List.nil_append, List.cons_append]
  gi_wp2_with ((first | refine ⟨trivial, fun _ => by omega, ?_⟩ | refine ⟨trivial, ?_⟩ | skip); gi_at_call 31; refine (app_in _ (by omega) hBm hm hown hsz).mono ?_; rintro e w1 ⟨v, ss, rfl, hS, hB, hrow⟩)
  go_ret
  exact ⟨v, ss, rfl, hS, hB, hrow⟩
theorem kbL_of {w W : World} (h : Below w.heap.size w W) : KB No w W := ⟨h.os, h.tape, h.output, fun d => (show False from d).elim, h.size, fun k hk _ => h.block k hk⟩
theorem coll_calls {w : World} {Bm b : Nat} {kv : List (Lb × Int)} (hm : w.heap[b]? = some (.map (Gv.entsFrom kLb Gv.kI 0 kv).toArray kv.length)) (hBm : w.heap[Bm]? = some (.cells #[.map (some b)] 42 (0, 0))) (hw : ∀ p ∈ kv, WfL p.1 ∧ (Lit.int .i64 p.2).wf = true) (hnd : (kv.map (·.1)).Nodup) (hl : kv.length ≤ 1000000) :
    Calls Try.prog 25 #[.func (.func 27) #[] #[.pointer (some ⟨Bm, 0, none⟩)]] w fun e w' => ∃ v, e = .returned v ∧ (fun v w' => ∃ (A : Option Addr) (c : Nat) (ys : List Lb), v = .slice A ys.length c ∧ (ys.Nodup ∧ ∀ a, a ∈ ys ↔ a ∈ kv.map (·.1)) ∧ SH w No w' [rowE eLb 25 (.slice A ys.length c) ys]) v w' := by
  refine (callsIn_wide (n := 8)).1 ?_
  obtain ⟨D0, hown, hhas, hsz⟩ := ownsL_of hm hw hnd (by unfold maxLen; omega)
  refine (coll_in 8 (by omega) (Array.getElem?_eq_some_iff.1 hBm).1 (by simp [World.cell?, hBm]) hown (by omega)).mono ?_
  rintro e w' ⟨v, ys, rfl, hS, hB, hrow⟩
  have hR : Gv.Row eLb 25 v ys w' := ⟨hrow.1, hrow.2.imp id fun ⟨g, cap, cur, a, _, rest⟩ => ⟨g, cap, cur, a, Nat.zero_le _, rest⟩⟩
  obtain ⟨A, c, rfl⟩ := (Gv.Row.rd hR).len
  have hkey : ∀ k ∈ Gv.Value.keys (.slice A ys.length c), w.heap.size ≤ k := fun k hk => by
    rcases hrow.2 with ⟨e, _⟩ | ⟨g, cap, cur, e, hb, _⟩
    · rw [e] at hk; simp [Gv.Value.keys, Value.ownBlock] at hk
    · rw [e] at hk; simp [Gv.Value.keys, Value.ownBlock] at hk; omega
  refine ⟨_, rfl, A, c, ys, rfl, ⟨hS.1, fun a => ⟨fun h => ?_, fun h => ?_⟩⟩, ⟨kbL_of hB, ?_, ?_, ?_⟩⟩
  · have wa := hS.2.1 a h
    exact (hhas a wa).1 ((hS.2.2 a wa).1 h)
  · obtain ⟨p, hp, rfl⟩ := List.mem_map.1 h
    have wa := (hw p hp).1
    exact (hS.2.2 _ wa).2 ((hhas _ wa).2 h)
  · intro e he
    rw [List.mem_singleton] at he
    subst he
    exact Gv.Row.ok hR
  · simpa [Gv.keys, rowE] using Gv.keys_nodup (.slice A ys.length c)
  · intro k hk hlt
    have := hkey k (by simpa [Gv.keys, rowE] using hk)
    omega
end Go.Proofs
