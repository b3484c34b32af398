import Derived.Test.YtannlhnjihielaaTlK

namespace Go.Proofs
open Go.RowKit Go.Maps Go.Sort Go.Shelf
open Go.Gv (kLb Lb)
set_option linter.unusedVariables false
set_option maxRecDepth 100000 in
set_option maxHeartbeats 1000000 in
theorem keys1S_in {H : Type} (F : Fence) (n : Nat) (h8 : F.fn 27) (hro : F.round = none) (hn : 1 ≤ n) (l Bm b nn : Nat) (D0 : DataW H) (J Jx : List Lb → World → Prop)
    (hY : ∀ pre x W, J pre W → pre.length < Maps.size D0 → YieldAt F (n - 1) Try.prog l (encsL x) W fun e W' =>
      (e = .returned (.bool true) ∧ J (pre ++ [x]) W' ∧ KeepsWalks W W') ∨ (e = .returned (.bool false) ∧ Jx (pre ++ [x]) W'))
    (W : World) (hJ : AbidesFrom W.heap.size J) (hm : W.cell? ⟨Bm, 0, none⟩ = some (.map (some b))) (hown : W.ownsMap Try.prog 25 (plainElem Try.prog 3) b nn D0) (h0 : J [] W) :
    CallsIn F n Try.prog 27 #[.func (.yield l) #[] #[], .pointer (some ⟨Bm, 0, none⟩)] W fun e W' => (∃ v, e = .returned v) ∧
      ((∃ ps, KeysOfL D0 ps ∧ J ps W') ∨ (∃ pre, True ∧ Jx pre W')) := by
  obtain ⟨i0, hi, hz0, hz1, hz2⟩ := info_parts infoL
  refine callsIn_of_wp Try.func27 rfl h8 ?_ hro
  simp only [Try.ntmps27, List.size_toArray, List.length_cons, List.length_nil, Nat.reduceAdd, Nat.reduceSub, Array.replicate_succ, Array.replicate_zero, List.push_toArray, List.append_toArray, List.nil_append, List.cons_append]
  gi_wp2_with (first
    | (gi_at_range; refine wpListIn_range_own _ rfl _ 42 rfl 25 3 lawL Try.underlying42 _ b nn _ rfl hown ?_; intro w0 hrg0 hg0 hs0)
    | gi_in)
  go_frame
  gi_loopw [3] (fun _ wr => ∃ (left : Lit → Bool) (cnt : Nat) (ps : List Lb), wr.ranges Try.prog 25 (plainElem Try.prog 3) b W.heap.size nn D0 left cnt ∧ ps.length + cnt ≤ Maps.size D0 ∧ CollL D0 left ps ∧ J ps wr)
    (fun _ wr => wr.rangeLeft b W.heap.size)
  case atStart =>
    exact ⟨_, _, [], hrg0, by simp, CollL.start D0, hJ [] W w0 none h0 hg0 (fun r e => by cases e)⟩
  case round =>
    obtain ⟨left, cnt, ps, hrg, hcs, hC, hJs⟩ := hrel
    gi_wp2_with (first
      | (gi_at_next; refine wpListIn_next_ranges _ rfl _ rfl 25 lawL (plainElem Try.prog 3) kLb id (fun key kl hk => by obtain ⟨x, hx, _⟩ := keyOf_lbI hk; exact ⟨x, hx⟩) (fun v _ _ => ⟨v, rfl⟩) b W.heap.size nn _ _ _ rfl hrg ?_ ?_)
      | gi_in)
    · intro hc0 hl0
      gi_wp2
      go_end0
      exact ⟨⟨_, rfl⟩, .inl ⟨ps, ⟨hC.1, hC.2.1, fun x hx => by rw [hC.2.2 x hx, hl0]; simp⟩, hJs⟩⟩
    · intro x1 x2 c kl yd yp w2 cnt2 hkey hlk hv hat hrg2 hlt hg2 hs2 hen
      obtain ⟨x, ex, rfl, hwx⟩ := keyOf_lbI hkey
      obtain rfl : (x1, x2) = x := by have e2 := Value.agg.inj ex; simp at e2; exact Prod.ext e2.1 e2.2
      have hJ2 : J ps w2 := hJ ps wr w2 (some W.heap.size) hJs hg2 (fun r e => by cases e; exact ⟨Nat.le_refl _, hrg.iter_walk⟩)
      clear hs2
      have hJ3 : J ps (w2.alloc (.cells #[.int .i64 x1, .int .u64 x2] 25)) := hJ ps w2 _ none hJ2 (World.grownBy_alloc _ _ _) (fun r e => by cases e)
      have hrg2' := hrg2.of_walks (KeepsWalks.alloc w2 (.cells #[.int .i64 x1, .int .u64 x2] 25))
      obtain ⟨fn, tmps, assign, body, hy, hR⟩ := hY ps (x1, x2) _ hJ3 (by omega)
      dsimp only [encsL] at hy
      gi_wp2
      refine hR.mono ?_
      have hC2 : CollL D0 (fun z => left z && !z.sameKey (klit (x1, x2))) (ps ++ [(x1, x2)]) := hC.step hwx hlk hat
      rintro e W3 (⟨rfl, hJ3, hk3⟩ | ⟨rfl, hJx3⟩)
      · gi_wp2
        have hrg3 := hrg2'.of_walks hk3
        go_roundw
        case rel => exact ⟨_, cnt2, ps ++ [(x1, x2)], hrg3, by simp; omega, hC2, hJ3⟩
        case measure => rw [hrg3.left_eq, hrg.left_eq]; exact hlt
      · gi_wp2
        refine bodyPost_ret (results_none rfl _ _ _) rfl ?_
        exact ⟨⟨_, rfl⟩, .inr ⟨ps ++ [(x1, x2)], trivial, hJx3⟩⟩
set_option maxHeartbeats 1000000 in
theorem keys_in (F : Fence) (n : Nat) (hf : F.fn 18) (hro : F.round = none) (mb : Option Nat) (w : World) :
    CallsIn F n Try.prog 18 #[.map mb] w fun e w' => e = .returned (.func (.func 27) #[] #[.pointer (some ⟨w.heap.size, 0, none⟩)]) ∧ w' = w.alloc (.cells #[.map mb] 42) := by
  refine callsIn_of_wp Try.func18 rfl hf ?_ hro
  simp only [Try.ntmps18, List.size_toArray, List.length_cons, List.length_nil, Nat.reduceAdd, Nat.reduceSub, Array.replicate_succ, Array.replicate_zero, List.push_toArray, List.append_toArray, List.nil_append, List.cons_append]
  gi_wp2
  go_ret
  exact ⟨rfl, rfl⟩
theorem keys_stops {H : Type} (F : Fence) (n : Nat) (h8 : F.fn 27) (hro : F.round = none) (hn : 1 ≤ n) (Bm b nn : Nat) (D0 : DataW H) (w : World) (hBm : Bm < w.heap.size)
    (hm : w.cell? ⟨Bm, 0, none⟩ = some (.map (some b))) (hown : w.ownsMap Try.prog 25 (plainElem Try.prog 3) b nn D0) :
    SeqStopsA F n Try.prog 27 #[.pointer (some ⟨Bm, 0, none⟩)] encsL (KeysOfL D0) (fun _ => True) (Maps.size D0) w := fun l J Jx W hW hJ _ hY h0 => by
  have hown' : W.ownsMap Try.prog 25 (plainElem Try.prog 3) b nn D0 := by
    have hbl := hown.lt
    obtain ⟨es, clock, hb, Ft, hs, hD⟩ := hown
    exact ⟨es, clock, (hW.block b hbl).trans hb, Ft, hs, hD⟩
  exact keys1S_in F n h8 hro hn l Bm b nn D0 J Jx hY W hJ ((hW.cell (p := ⟨Bm, 0, none⟩) hBm).trans hm) hown' h0
/-- A map of labels of one's own, as the library's words have it. -/
theorem ownsL_of {b : Nat} {kv : List (Lb × Int)} {w : World} (h : w.heap[b]? = some (.map (Gv.entsFrom kLb Gv.kI 0 kv).toArray kv.length)) (hw : ∀ p ∈ kv, WfL p.1 ∧ (Lit.int .i64 p.2).wf = true) (hnd : (kv.map (·.1)).Nodup) (hl : kv.length ≤ maxLen) :
    ∃ D : DataW Unit, w.ownsMap Try.prog 25 (plainElem Try.prog 3) b kv.length D ∧ (∀ x, WfL x → (has D (klit x) = true ↔ x ∈ kv.map (·.1))) ∧ Maps.size D ≤ kv.length := by
  have hrd : ∀ (n : Nat) (kv : List (Lb × Int)), (∀ p ∈ kv, WfL p.1 ∧ (Lit.int .i64 p.2).wf = true) → ∀ x ∈ Gv.entsFrom kLb Gv.kI n kv, ∃ p ∈ kv, WideElems.rd (H := Unit) Try.prog 25 (plainElem Try.prog 3) x = some (klit p.1, .lit (.int .i64 p.2)) := by
    intro n kv
    induction kv generalizing n with
    | nil => intro _ x hx; cases hx
    | cons p l ih =>
      intro hw x hx
      rcases List.mem_cons.1 hx with rfl | hx
      · have hp := hw p (.head _)
        exact ⟨p, .head _, WideElems.rd_mk (keyOf_lb hp.1) (plainElem_int Try.underlying3 hp.2)⟩
      · obtain ⟨q, hq, e⟩ := ih _ (fun p hp => hw p (.tail _ hp)) x hx
        exact ⟨q, .tail _ hq, e⟩
  have hmap : ∀ (n : Nat) (kv : List (Lb × Int)), (∀ p ∈ kv, WfL p.1 ∧ (Lit.int .i64 p.2).wf = true) → (Gv.entsFrom kLb Gv.kI n kv).map (WideElems.rg (H := Unit) Try.prog 25 (plainElem Try.prog 3)) = kv.map fun p => (klit p.1, DataW.lit (.int .i64 p.2)) := by
    intro n kv
    induction kv generalizing n with
    | nil => intro _; rfl
    | cons p l ih =>
      intro hw
      have hp := hw p (.head _)
      rw [Gv.entsFrom, List.map_cons, List.map_cons, ih _ (fun p hp => hw p (.tail _ hp))]
      congr 1
      exact WideElems.rg_of (WideElems.rd_mk (keyOf_lb hp.1) (plainElem_int Try.underlying3 hp.2))
  have hkeys : ∀ (n : Nat) (kv : List (Lb × Int)), (Gv.entsFrom kLb Gv.kI n kv).map (·.key) = kv.map fun p => kLb p.1 := by
    intro n kv
    induction kv generalizing n with
    | nil => rfl
    | cons p l ih => rw [Gv.entsFrom, List.map_cons, List.map_cons, ih]
  have hborn : ∀ (n : Nat) (kv : List (Lb × Int)), (Gv.entsFrom kLb Gv.kI n kv).map (·.born) = List.range' n kv.length := by
    intro n kv
    induction kv generalizing n with
    | nil => rfl
    | cons p l ih => rw [Gv.entsFrom, List.map_cons, ih, List.length_cons, List.range'_succ]
  have hst : MapKept.Stamped (Gv.entsFrom kLb Gv.kI 0 kv).toArray kv.length := by
    rw [MapKept.stamped_iff]
    refine ⟨fun x hx => ?_, ?_, ?_⟩
    · have : x.born ∈ (Gv.entsFrom kLb Gv.kI 0 kv).map (·.born) := List.mem_map.2 ⟨x, by simpa using hx, rfl⟩
      rw [hborn] at this
      simp [List.mem_range'] at this
      omega
    · show ((Gv.entsFrom kLb Gv.kI 0 kv).map (·.born)).Nodup
      rw [hborn]; exact List.nodup_range'
    · have h1 : ((Gv.entsFrom kLb Gv.kI 0 kv).map (·.key)).Nodup := by
        rw [hkeys]
        have : (kv.map fun p => kLb p.1) = (kv.map (·.1)).map kLb := by rw [List.map_map]; rfl
        rw [this]
        exact List.pairwise_map.2 (hnd.imp fun {a b} h e => h (by have e2 := Value.agg.inj e; simp at e2; exact Prod.ext e2.1 e2.2))
      exact List.pairwise_map.1 h1
  have hhas : ∀ x, WfL x → (has (H := Unit) (.map (((Gv.entsFrom kLb Gv.kI 0 kv).toArray.toList.map (WideElems.rg (H := Unit) Try.prog 25 (plainElem Try.prog 3))).foldr DataW.insert [])) (klit x) = true ↔ x ∈ kv.map (·.1)) := fun x hx => by
    rw [has_eq, List.any_eq_true]
    constructor
    · rintro ⟨p, hp, hs⟩
      rw [mem_sorted] at hp
      rw [show (Gv.entsFrom kLb Gv.kI 0 kv).toArray.toList = Gv.entsFrom kLb Gv.kI 0 kv from rfl, hmap 0 kv hw] at hp
      obtain ⟨q, hq, rfl⟩ := List.mem_map.1 hp
      have : q.1 = x := by
        have hs : (klit q.1).sameKey (klit x) = true := hs
        rw [same_lb (hw q hq).1 hx] at hs; simpa using hs
      exact List.mem_map.2 ⟨q, hq, this⟩
    · intro hx2
      obtain ⟨q, hq, rfl⟩ := List.mem_map.1 hx2
      refine ⟨(klit q.1, .lit (.int .i64 q.2)), ?_, by show (klit q.1).sameKey (klit q.1) = true; rw [same_lb hx hx]; simp⟩
      rw [mem_sorted, show (Gv.entsFrom kLb Gv.kI 0 kv).toArray.toList = Gv.entsFrom kLb Gv.kI 0 kv from rfl, hmap 0 kv hw]
      exact List.mem_map.2 ⟨q, hq, rfl⟩
  have hown : w.ownsMap (H := Unit) Try.prog 25 (plainElem Try.prog 3) b kv.length (.map (((Gv.entsFrom kLb Gv.kI 0 kv).toArray.toList.map (WideElems.rg (H := Unit) Try.prog 25 (plainElem Try.prog 3))).foldr DataW.insert [])) :=
    ⟨_, _, h, ⟨by simp [Gv.entsFrom_length]; exact hl, hst, fun x hx => by obtain ⟨p, _, e⟩ := hrd 0 kv hw x (by simpa using hx); exact ⟨_, e⟩⟩, by simp [Gv.entsFrom_length], rfl⟩
  refine ⟨_, hown, hhas, ?_⟩
  show (List.foldr DataW.insert [] _).length ≤ _
  rw [length_sorted]; simp [Gv.entsFrom_length]
end Go.Proofs
