import Derived.RangeFuncMany
import Derived.RangeFuncLeaves
import Derived.RangeFuncBox
import Derived.RangeFuncNested
import Derived.RangeFuncBound
import Derived.RangeFuncCalls
import Derived.Sort.MapsRangeIn
import Derived.Sort.KeysCollected
import Derived.WalkKit
import Derived.OwnWalkIn
import Derived.TacticsInMore
import Derived.RegionIn
import Derived.LoopNIn
import Derived.LoopIn
import Derived.Maps.AppendAt
import Derived.Maps.OwnIn
import Derived.Shelf.Abstract
import Derived.WalkSmall
import Derived.Test.YtpgpiljnmhpnhaaIn

namespace Go.Proofs
open Go.RowKit Go.Maps Go.Sort Go.Shelf
set_option linter.unusedVariables false
theorem keyOf_intI {P : Program} {k : TypeId} (hk : P.underlying k = some (.int .i64)) {key : Value} {kl : Lit} (h : keyOf P k key = some kl) : ∃ x : Int, key = .int .i64 x ∧ kl = .int .i64 x ∧ (Lit.int .i64 x).wf = true := by
  cases key <;> simp [keyOf, hk, mapKey] at h
  rename_i q n
  obtain ⟨⟨rfl, hw⟩, rfl⟩ := h
  exact ⟨n, rfl, rfl, hw⟩
theorem lawI : Keyed Try.prog 3 := int_keyed Try.underlying3
def CollI {H : Type} (D0 : DataW H) (left : Lit → Bool) (ss : List Int) : Prop := ss.Nodup ∧ ∀ x, x ∈ ss ↔ (has D0 (.int .i64 x) = true ∧ left (.int .i64 x) = false)
section
variable {H : Type} {D0 : DataW H} {left : Lit → Bool} {ss : List Int}
theorem CollI.start (D0 : DataW H) : CollI D0 (has D0) [] := ⟨List.nodup_nil, fun x => by cases has D0 (.int .i64 x) <;> simp⟩
theorem CollI.step (h : CollI D0 left ss) {x : Int} {y : DataW H} (hlk : left (.int .i64 x) = true) (hat : ∀ zd, D0.atKey (.int .i64 x) zd = y) : CollI D0 (fun z => left z && !z.sameKey (.int .i64 x)) (ss ++ [x]) := by
  have hhas : has D0 (.int .i64 x) = true := has_true_of_atKey hat
  have hnew : x ∉ ss := fun hx => by have := ((h.2 x).1 hx).2; rw [hlk] at this; cases this
  refine ⟨List.nodup_append.2 ⟨h.1, by simp, fun a ha b hb => by simp at hb; subst hb; exact fun e => hnew (e ▸ ha)⟩, fun y => ?_⟩
  by_cases hy : y = x
  · subst hy; simp [hhas, Lit.sameKey]
  · simp [h.2 y, hy, Lit.sameKey]
end
def ValAtI {H : Type} (D0 : DataW H) (p : Int × Int) : Prop := ∀ zd, D0.atKey (.int .i64 p.1) zd = .lit (.int .i64 p.2)
abbrev encsI (p : Int × Int) : Array Value := #[.int .i64 p.1, .int .i64 p.2]
def AllOfI {H : Type} (D0 : DataW H) (ps : List (Int × Int)) : Prop := (ps.map (·.1)).Nodup ∧ (∀ x, x ∈ ps.map (·.1) ↔ has D0 (.int .i64 x) = true) ∧ ∀ p ∈ ps, ValAtI D0 p
set_option maxRecDepth 100000 in
set_option maxHeartbeats 1000000 in
theorem all1S_in {H : Type} (F : Fence) (n : Nat) (h8 : F.fn 27) (hro : F.round = none) (hn : 1 ≤ n) (l Bm b nn : Nat) (D0 : DataW H) (J Jx : List (Int × Int) → World → Prop)
    (hY : ∀ pre x W, J pre W → pre.length < Maps.size D0 → YieldAt F (n - 1) Try.prog l (encsI x) W fun e W' =>
      (e = .returned (.bool true) ∧ J (pre ++ [x]) W' ∧ KeepsWalks W W') ∨ (e = .returned (.bool false) ∧ Jx (pre ++ [x]) W'))
    (W : World) (hJ : AbidesFrom W.heap.size J) (hm : W.cell? ⟨Bm, 0, none⟩ = some (.map (some b))) (hown : W.ownsMap Try.prog 3 (plainElem Try.prog 3) b nn D0) (h0 : J [] W) :
    CallsIn F n Try.prog 27 #[.func (.yield l) #[] #[], .pointer (some ⟨Bm, 0, none⟩)] W fun e W' => (∃ v, e = .returned v) ∧
      ((∃ ps, AllOfI D0 ps ∧ J ps W') ∨ (∃ pre, True ∧ Jx pre W')) := by
  refine callsIn_of_wp Try.func27 rfl h8 ?_ hro
  simp only [Try.ntmps27, List.size_toArray, List.length_cons, List.length_nil, Nat.reduceAdd, Nat.reduceSub, Array.replicate_succ, Array.replicate_zero, List.push_toArray, List.append_toArray, List.nil_append, List.cons_append]
  gi_wp2_with (first
    | (gi_at_range; refine wpListIn_range_own _ rfl _ 46 rfl 3 3 lawI Try.underlying46 _ b nn _ rfl hown ?_; intro w0 hrg0 hg0 hs0)
    | gi_in)
  go_frame
  gi_loopw [3, 4] (fun _ _ wr => ∃ (left : Lit → Bool) (cnt : Nat) (ps : List (Int × Int)), wr.ranges Try.prog 3 (plainElem Try.prog 3) b W.heap.size nn D0 left cnt ∧ ps.length + cnt ≤ Maps.size D0 ∧ CollI D0 left (ps.map (·.1)) ∧ (∀ p ∈ ps, ValAtI D0 p) ∧ J ps wr)
    (fun _ _ wr => wr.rangeLeft b W.heap.size)
  case atStart =>
    exact ⟨_, _, [], hrg0, by simp, CollI.start D0, by simp, hJ [] W w0 none h0 hg0 (fun r e => by cases e)⟩
  case round =>
    obtain ⟨left, cnt, ps, hrg, hcs, hC, hV, hJs⟩ := hrel
    gi_wp2_with (first
      | (gi_at_next; refine wpListIn_next_ranges _ rfl _ rfl 3 lawI (plainElem Try.prog 3) (Value.int .i64) (Value.int .i64) (fun key kl hk => by obtain ⟨x, hx, _⟩ := keyOf_intI Try.underlying3 hk; exact ⟨x, hx⟩) (fun v y hv => by obtain ⟨c, rfl, _⟩ := plainElem_int_inv Try.underlying3 hv; exact ⟨c, rfl⟩) b W.heap.size nn _ _ _ rfl hrg ?_ ?_)
      | gi_in)
    · intro hc0 hl0
      gi_wp2
      go_end0
      exact ⟨⟨_, rfl⟩, .inl ⟨ps, ⟨hC.1, fun x => by rw [hC.2 x, hl0]; simp, hV⟩, hJs⟩⟩
    · intro x c kl yd yp w2 cnt2 hkey hlk hv hat hrg2 hlt hg2 hs2 hen
      obtain ⟨x', ex, rfl, _⟩ := keyOf_intI Try.underlying3 hkey
      obtain rfl : x = x' := by simpa using ex
      obtain ⟨c', ec, ez, _⟩ := plainElem_int_inv Try.underlying3 hv
      obtain rfl : c = c' := by simpa using ec
      obtain rfl : yd = .lit (.int .i64 c) := (Prod.mk.inj ez).1
      have hJ2 : J ps w2 := hJ ps wr w2 (some W.heap.size) hJs hg2 (fun r e => by cases e; exact ⟨Nat.le_refl _, hrg.iter_walk⟩)
      obtain ⟨fn, tmps, assign, body, hy, hR⟩ := hY ps (x, c) w2 hJ2 (by omega)
      dsimp only [encsI] at hy
      clear hs2
      gi_wp2
      refine hR.mono ?_
      have hC2 : CollI D0 (fun z => left z && !z.sameKey (.int .i64 x)) ((ps ++ [(x, c)]).map (·.1)) := by simpa using hC.step hlk hat
      have hV2 : ∀ p ∈ ps ++ [(x, c)], ValAtI D0 p := fun p hp => (List.mem_append.1 hp).elim (hV p) (fun e => by simp at e; subst e; exact hat)
      rintro e W3 (⟨rfl, hJ3, hk3⟩ | ⟨rfl, hJx3⟩)
      · gi_wp2
        have hrg3 := hrg2.of_walks hk3
        go_roundw
        case rel => exact ⟨_, cnt2, ps ++ [(x, c)], hrg3, by simp; omega, hC2, hV2, hJ3⟩
        case measure => rw [hrg3.left_eq, hrg.left_eq]; exact hlt
      · gi_wp2
        refine bodyPost_ret (results_none rfl _ _ _) rfl ?_
        exact ⟨⟨_, rfl⟩, .inr ⟨ps ++ [(x, c)], trivial, hJx3⟩⟩
set_option maxHeartbeats 1000000 in
theorem all_in (F : Fence) (n : Nat) (hf : F.fn 20) (hro : F.round = none) (mb : Option Nat) (w : World) :
    CallsIn F n Try.prog 20 #[.map mb] w fun e w' => e = .returned (.func (.func 27) #[] #[.pointer (some ⟨w.heap.size, 0, none⟩)]) ∧ w' = w.alloc (.cells #[.map mb] 46) := by
  refine callsIn_of_wp Try.func20 rfl hf ?_ hro
  simp only [Try.ntmps20, List.size_toArray, List.length_cons, List.length_nil, Nat.reduceAdd, Nat.reduceSub, Array.replicate_succ, Array.replicate_zero, List.push_toArray, List.append_toArray, List.nil_append, List.cons_append]
  gi_wp2
  go_ret
  exact ⟨rfl, rfl⟩
theorem all_stops {H : Type} (F : Fence) (n : Nat) (h8 : F.fn 27) (hro : F.round = none) (hn : 1 ≤ n) (Bm b nn : Nat) (D0 : DataW H) (w : World) (hBm : Bm < w.heap.size)
    (hm : w.cell? ⟨Bm, 0, none⟩ = some (.map (some b))) (hown : w.ownsMap Try.prog 3 (plainElem Try.prog 3) b nn D0) :
    SeqStopsA F n Try.prog 27 #[.pointer (some ⟨Bm, 0, none⟩)] encsI (AllOfI D0) (fun _ => True) (Maps.size D0) w := fun l J Jx W hW hJ _ hY h0 => by
  have hown' : W.ownsMap Try.prog 3 (plainElem Try.prog 3) b nn D0 := by
    have hbl := hown.lt
    obtain ⟨es, clock, hb, Ft, hs, hD⟩ := hown
    exact ⟨es, clock, (hW.block b hbl).trans hb, Ft, hs, hD⟩
  exact all1S_in F n h8 hro hn l Bm b nn D0 J Jx hY W hJ ((hW.cell (p := ⟨Bm, 0, none⟩) hBm).trans hm) hown' h0
/-- A map of numbers of one's own, as the library's words have it. -/
theorem owns_of {b : Nat} {kv : List (Int × Int)} {w : World} (h : w.heap[b]? = some (.map (Gv.entsFrom Gv.kI Gv.kI 0 kv).toArray kv.length)) (hw : ∀ p ∈ kv, (Lit.int .i64 p.1).wf = true ∧ (Lit.int .i64 p.2).wf = true) (hnd : (kv.map (·.1)).Nodup) (hl : kv.length ≤ maxLen) :
    ∃ D : DataW Unit, w.ownsMap Try.prog 3 (plainElem Try.prog 3) b kv.length D ∧ (∀ x, has D (.int .i64 x) = true ↔ x ∈ kv.map (·.1)) ∧ (∀ p : Int × Int, ValAtI D p → p ∈ kv) ∧ Maps.size D ≤ kv.length := by
  have hrd : ∀ (n : Nat) (kv : List (Int × Int)), (∀ p ∈ kv, (Lit.int .i64 p.1).wf = true ∧ (Lit.int .i64 p.2).wf = true) → ∀ x ∈ Gv.entsFrom Gv.kI Gv.kI n kv, ∃ p ∈ kv, WideElems.rd (H := Unit) Try.prog 3 (plainElem Try.prog 3) x = some (.int .i64 p.1, .lit (.int .i64 p.2)) := by
    intro n kv
    induction kv generalizing n with
    | nil => intro _ x hx; cases hx
    | cons p l ih =>
      intro hw x hx
      rcases List.mem_cons.1 hx with rfl | hx
      · have hp := hw p (.head _)
        exact ⟨p, .head _, WideElems.rd_mk (keyOf_int_mk Try.underlying3 hp.1) (plainElem_int Try.underlying3 hp.2)⟩
      · obtain ⟨q, hq, e⟩ := ih _ (fun p hp => hw p (.tail _ hp)) x hx
        exact ⟨q, .tail _ hq, e⟩
  have hmap : ∀ (n : Nat) (kv : List (Int × Int)), (∀ p ∈ kv, (Lit.int .i64 p.1).wf = true ∧ (Lit.int .i64 p.2).wf = true) → (Gv.entsFrom Gv.kI Gv.kI n kv).map (WideElems.rg (H := Unit) Try.prog 3 (plainElem Try.prog 3)) = kv.map fun p => (Lit.int .i64 p.1, DataW.lit (.int .i64 p.2)) := by
    intro n kv
    induction kv generalizing n with
    | nil => intro _; rfl
    | cons p l ih =>
      intro hw
      have hp := hw p (.head _)
      rw [Gv.entsFrom, List.map_cons, List.map_cons, ih _ (fun p hp => hw p (.tail _ hp))]
      congr 1
      exact WideElems.rg_of (WideElems.rd_mk (keyOf_int_mk Try.underlying3 hp.1) (plainElem_int Try.underlying3 hp.2))
  have hkeys : ∀ (n : Nat) (kv : List (Int × Int)), (Gv.entsFrom Gv.kI Gv.kI n kv).map (·.key) = kv.map fun p => Value.int .i64 p.1 := by
    intro n kv
    induction kv generalizing n with
    | nil => rfl
    | cons p l ih => rw [Gv.entsFrom, List.map_cons, List.map_cons, ih]
  have hborn : ∀ (n : Nat) (kv : List (Int × Int)), (Gv.entsFrom Gv.kI Gv.kI n kv).map (·.born) = List.range' n kv.length := by
    intro n kv
    induction kv generalizing n with
    | nil => rfl
    | cons p l ih => rw [Gv.entsFrom, List.map_cons, ih, List.length_cons, List.range'_succ]
  have hst : MapKept.Stamped (Gv.entsFrom Gv.kI Gv.kI 0 kv).toArray kv.length := by
    rw [MapKept.stamped_iff]
    refine ⟨fun x hx => ?_, ?_, ?_⟩
    · have : x.born ∈ (Gv.entsFrom Gv.kI Gv.kI 0 kv).map (·.born) := List.mem_map.2 ⟨x, by simpa using hx, rfl⟩
      rw [hborn] at this
      simp [List.mem_range'] at this
      omega
    · show ((Gv.entsFrom Gv.kI Gv.kI 0 kv).map (·.born)).Nodup
      rw [hborn]; exact List.nodup_range'
    · have h1 : ((Gv.entsFrom Gv.kI Gv.kI 0 kv).map (·.key)).Nodup := by
        rw [hkeys]
        have : (kv.map fun p => Value.int .i64 p.1) = (kv.map (·.1)).map (Value.int .i64) := by rw [List.map_map]; rfl
        rw [this]
        exact List.pairwise_map.2 (hnd.imp fun h e => h (by simpa using e))
      exact List.pairwise_map.1 h1
  have hhas : ∀ x, has (H := Unit) (.map (((Gv.entsFrom Gv.kI Gv.kI 0 kv).toArray.toList.map (WideElems.rg (H := Unit) Try.prog 3 (plainElem Try.prog 3))).foldr DataW.insert [])) (.int .i64 x) = true ↔ x ∈ kv.map (·.1) := fun x => by
    rw [has_eq, List.any_eq_true]
    constructor
    · rintro ⟨p, hp, hs⟩
      rw [mem_sorted] at hp
      rw [show (Gv.entsFrom Gv.kI Gv.kI 0 kv).toArray.toList = Gv.entsFrom Gv.kI Gv.kI 0 kv from rfl, hmap 0 kv hw] at hp
      obtain ⟨q, hq, rfl⟩ := List.mem_map.1 hp
      have : q.1 = x := by simpa [Lit.sameKey] using hs
      exact List.mem_map.2 ⟨q, hq, this⟩
    · intro hx
      obtain ⟨q, hq, rfl⟩ := List.mem_map.1 hx
      refine ⟨(.int .i64 q.1, .lit (.int .i64 q.2)), ?_, by simp [Lit.sameKey]⟩
      rw [mem_sorted, show (Gv.entsFrom Gv.kI Gv.kI 0 kv).toArray.toList = Gv.entsFrom Gv.kI Gv.kI 0 kv from rfl, hmap 0 kv hw]
      exact List.mem_map.2 ⟨q, hq, rfl⟩
  have hown : w.ownsMap (H := Unit) Try.prog 3 (plainElem Try.prog 3) b kv.length (.map (((Gv.entsFrom Gv.kI Gv.kI 0 kv).toArray.toList.map (WideElems.rg (H := Unit) Try.prog 3 (plainElem Try.prog 3))).foldr DataW.insert [])) :=
    ⟨_, _, h, ⟨by simp [Gv.entsFrom_length]; exact hl, hst, fun x hx => by obtain ⟨p, _, e⟩ := hrd 0 kv hw x (by simpa using hx); exact ⟨_, e⟩⟩, by simp [Gv.entsFrom_length], rfl⟩
  refine ⟨_, hown, hhas, fun p hp => ?_, ?_⟩
  · have hh := has_true_of_atKey (D := DataW.map (((Gv.entsFrom Gv.kI Gv.kI 0 kv).toArray.toList.map (WideElems.rg (H := Unit) Try.prog 3 (plainElem Try.prog 3))).foldr DataW.insert [])) (k := .int .i64 p.1) (y := .lit (.int .i64 p.2)) hp
    have hx := (hhas p.1).1 hh
    obtain ⟨es, hD, hpw, hat⟩ : ∃ es, DataW.map (((Gv.entsFrom Gv.kI Gv.kI 0 kv).toArray.toList.map (WideElems.rg (H := Unit) Try.prog 3 (plainElem Try.prog 3))).foldr DataW.insert []) = .map es ∧ (∀ q, q ∈ es ↔ q ∈ kv.map fun p => (Lit.int .i64 p.1, DataW.lit (H := Unit) (.int .i64 p.2))) ∧ True := ⟨_, rfl, fun q => by rw [mem_sorted, show (Gv.entsFrom Gv.kI Gv.kI 0 kv).toArray.toList = Gv.entsFrom Gv.kI Gv.kI 0 kv from rfl, hmap 0 kv hw], trivial⟩
    have hp0 := hp (.nil)
    rw [hD] at hp0
    -- the entry that is found
    obtain ⟨q, hq, e⟩ : ∃ q ∈ es, q.1.sameKey (.int .i64 p.1) = true ∧ q.2 = .lit (.int .i64 p.2) := by
      unfold DataW.atKey at hp0
      simp only at hp0
      cases hf : es.find? (fun q => q.1.sameKey (.int .i64 p.1)) with
      | none => rw [hf] at hp0; simp at hp0
      | some q =>
        rw [hf] at hp0
        exact ⟨q, List.mem_of_find?_eq_some hf, by simpa using List.find?_some hf, by simpa using hp0⟩
    rw [hpw] at hq
    obtain ⟨r, hr, rfl⟩ := List.mem_map.1 hq
    have e1 : r.1 = p.1 := by simpa [Lit.sameKey] using e.1
    have e2 : r.2 = p.2 := by simpa using e.2
    have : r = p := Prod.ext e1 e2
    exact this ▸ hr
  · show (List.foldr DataW.insert [] _).length ≤ _
    rw [length_sorted]; simp [Gv.entsFrom_length]
end Go.Proofs
