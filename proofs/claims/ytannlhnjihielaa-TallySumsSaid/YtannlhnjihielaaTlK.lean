import Derived.RangeFuncMany
import Derived.RangeFuncLeaves
import Derived.RangeFuncBox
import Derived.RangeFuncNested
import Derived.RangeFuncBound
import Derived.RangeFuncCalls
import Derived.Sort.MapsRangeIn
import Derived.Sort.KeysCollected
import Derived.WalkKit
import Derived.OwnWalkIn
import Derived.TacticsInMore
import Derived.RegionIn
import Derived.LoopNIn
import Derived.LoopIn
import Derived.Maps.AppendAt
import Derived.Maps.OwnIn
import Derived.Shelf.Abstract
import Derived.WalkSmall
import Derived.DeepKeys4
import Derived.Test.YtannlhnjihielaaTlB
import Derived.Test.YtannlhnjihielaaTlR

namespace Go.Proofs
open Go.RowKit Go.Maps Go.Sort Go.Shelf
open Go.Gv (kLb Lb)
set_option linter.unusedVariables false
abbrev WfL (x : Lb) : Prop := (Lit.int .i64 x.1).wf = true ∧ (Lit.int .u64 x.2).wf = true
abbrev klit (x : Lb) : Lit := .string (keyBytes [.int .i64 x.1, .int .u64 x.2])
theorem laidT : laidOutB Try.prog = true := by kernel_rfl
theorem lawK : WideMaps.KeyLaw Try.prog 25 := deep_law_laid laidT (m := 2) (by omega) (of_decide_eq_true (by kernel_rfl)) (by kernel_rfl) (by rw [Try.underlying25])
theorem lawL : Keyed Try.prog 25 := Keyed.of_law lawK
theorem cells2 : Try.prog.cellsOf 25 = 2 := by kernel_rfl
theorem cellsF0 : Try.prog.cellsOf 3 = 1 := by kernel_rfl
theorem cellsF1 : Try.prog.cellsOf 23 = 1 := by kernel_rfl
theorem keyT : Try.prog.keyType 25 = true := by kernel_rfl
theorem sizeT : ∃ m, Try.prog.types.size = m + 1 := ⟨Try.prog.types.size - 1, (Nat.sub_add_cancel (Nat.le_of_ble_eq_true (by kernel_rfl))).symm⟩
theorem lits_lb (m : Nat) (a b : Value) : Try.prog.keyLits (m + 1 + 1) 25 [a, b] = (match Try.prog.keyLits (m + 1) 3 [a], Try.prog.keyLits (m + 1) 23 [b] with | some x, some y => some (x ++ y) | _, _ => none) := by
  conv => lhs; unfold Program.keyLits
  simp only [Try.underlying25]
  rw [if_pos ⟨by rw [cells2]; rfl, by simp⟩]
  simp only [List.mapM_cons, List.mapM_nil, cellsF0, cellsF1]
  simp only [List.drop_zero, List.drop_succ_cons, List.take_succ_cons, List.take_zero]
  cases Try.prog.keyLits (m + 1) 3 [a] <;> cases Try.prog.keyLits (m + 1) 23 [b] <;> simp
theorem lits_int (m : Nat) {t : TypeId} {q : IntKind} (ht : Try.prog.underlying t = some (.int q)) (a : Value) : ∀ l, Try.prog.keyLits (m + 1) t [a] = some l ↔ ∃ n, a = .int q n ∧ (Lit.int q n).wf = true ∧ l = [.int q n] := fun l => by
  unfold Program.keyLits
  simp only [ht]
  cases a <;> simp
  rename_i q' n
  constructor
  · rintro ⟨⟨rfl, h⟩, rfl⟩; exact ⟨n, ⟨rfl, rfl⟩, h, rfl⟩
  · rintro ⟨n', ⟨rfl, rfl⟩, h, rfl⟩; exact ⟨⟨rfl, h⟩, rfl⟩
theorem keyOf_lb {x : Lb} (h : WfL x) : keyOf Try.prog 25 (kLb x) = some (klit x) := by
  obtain ⟨m, hm⟩ := sizeT
  unfold keyOf
  simp only [Try.underlying25]
  rw [if_pos (by simp [keyT, Value.formed, Try.underlying25, cells2]), hm]
  show (Try.prog.keyLits (m + 1 + 1) 25 [.int .i64 x.1, .int .u64 x.2]).map _ = _
  rw [lits_lb, (lits_int m Try.underlying3 _ _).2 ⟨_, rfl, h.1, rfl⟩, (lits_int m Try.underlying23 _ _).2 ⟨_, rfl, h.2, rfl⟩]
  rfl
theorem keyOf_lbI {key : Value} {kl : Lit} (h : keyOf Try.prog 25 key = some kl) : ∃ x : Lb, key = kLb x ∧ kl = klit x ∧ WfL x := by
  obtain ⟨m, hm⟩ := sizeT
  unfold keyOf at h
  simp only [Try.underlying25] at h
  split at h
  · rename_i hf
    simp only [Bool.and_eq_true] at hf
    cases key <;> simp [Value.formed, Try.underlying25] at hf
    rename_i cs
    rw [cells2] at hf
    obtain ⟨a, b, rfl⟩ : ∃ a b, cs = #[a, b] := by
      obtain ⟨l⟩ := cs
      match l, hf.2 with
      | [a, b], _ => exact ⟨a, b, rfl⟩
    rw [hm] at h
    obtain ⟨ls, h1, h2⟩ := Option.map_eq_some_iff.1 h
    have h1 : Try.prog.keyLits (m + 1 + 1) 25 [a, b] = some ls := h1
    rw [lits_lb] at h1
    cases ha : Try.prog.keyLits (m + 1) 3 [a] with
    | none => rw [ha] at h1; simp at h1
    | some la =>
      cases hb : Try.prog.keyLits (m + 1) 23 [b] with
      | none => rw [ha, hb] at h1; simp at h1
      | some lb =>
        rw [ha, hb] at h1
        obtain ⟨x, rfl, wx, rfl⟩ := (lits_int m Try.underlying3 _ _).1 ha
        obtain ⟨y, rfl, wy, rfl⟩ := (lits_int m Try.underlying23 _ _).1 hb
        simp only [Option.some.injEq] at h1
        exact ⟨(x, y), rfl, by rw [← h2, ← h1]; rfl, wx, wy⟩
  · cases h
theorem klit_inj {x y : Lb} (hx : WfL x) (hy : WfL y) (h : klit x = klit y) : x = y := by
  have e := lawL.inj (keyOf_lb hx) (h ▸ keyOf_lb hy)
  have e2 : (#[Value.int .i64 x.1, .int .u64 x.2] : Array Value) = #[.int .i64 y.1, .int .u64 y.2] := Value.agg.inj e
  have e3 : [Value.int .i64 x.1, .int .u64 x.2] = [.int .i64 y.1, .int .u64 y.2] := by simpa using e2
  simp at e3
  exact Prod.ext e3.1 e3.2
theorem same_lb {x y : Lb} (hx : WfL x) (hy : WfL y) : (klit x).sameKey (klit y) = decide (x = y) := by
  by_cases h : x = y
  · subst h; simp [Lit.sameKey]
  · have : klit x ≠ klit y := fun e => h (klit_inj hx hy e)
    rw [decide_eq_false h]
    unfold klit at this ⊢
    simp only [Lit.sameKey]
    simpa using this
def CollL {H : Type} (D0 : DataW H) (left : Lit → Bool) (ss : List Lb) : Prop := ss.Nodup ∧ (∀ x ∈ ss, WfL x) ∧ ∀ x, WfL x → (x ∈ ss ↔ (has D0 (klit x) = true ∧ left (klit x) = false))
section
variable {H : Type} {D0 : DataW H} {left : Lit → Bool} {ss : List Lb}
theorem CollL.start (D0 : DataW H) : CollL D0 (has D0) [] := ⟨List.nodup_nil, fun x hx => (by cases hx), fun x _ => by cases has D0 (klit x) <;> simp⟩
theorem CollL.step (h : CollL D0 left ss) {x : Lb} {y : DataW H} (hw : WfL x) (hlk : left (klit x) = true) (hat : ∀ zd, D0.atKey (klit x) zd = y) : CollL D0 (fun z => left z && !z.sameKey (klit x)) (ss ++ [x]) := by
  have hhas : has D0 (klit x) = true := has_true_of_atKey hat
  have hnew : x ∉ ss := fun hx => by have := ((h.2.2 x hw).1 hx).2; rw [hlk] at this; cases this
  refine ⟨List.nodup_append.2 ⟨h.1, by simp, fun a ha b hb => by simp at hb; subst hb; exact fun e => hnew (e ▸ ha)⟩, fun y hy => ?_, fun y hy => ?_⟩
  · rcases List.mem_append.1 hy with hy | hy
    · exact h.2.1 y hy
    · rw [List.mem_singleton.1 hy]; exact hw
  · by_cases e : y = x
    · subst e; simp only [List.mem_append, List.mem_singleton, or_true, hhas, true_and, same_lb hy hy]; simp
    · simp only [List.mem_append, List.mem_singleton, e, or_false, h.2.2 y hy, same_lb hy hw]; simp [e]
end
abbrev encsL (x : Lb) : Array Value := #[kLb x]
def KeysOfL {H : Type} (D0 : DataW H) (ss : List Lb) : Prop := ss.Nodup ∧ (∀ x ∈ ss, WfL x) ∧ ∀ x, WfL x → (x ∈ ss ↔ has D0 (klit x) = true)
theorem infoL : (Try.prog.info? 25).map (fun i => (i.zero, i.size, i.bytes)) = some (some (.agg #[.int .i64 0, .int .u64 0]), 2, 16) := by kernel_rfl
end Go.Proofs
