/- How a law's row is opened. -/
import Derived.Test.YtomeffnlmefnlaaRows
import Derived.Test.YtomeffnlmefnlaaGvH
import Derived.WalkKit
import Derived.ProofKit
import Derived.OpenShut
import Derived.ShutString
import Derived.ChangeOld
import Derived.Below
import Derived.SizedLaws
namespace Go.Gv
open Go Go.RowKit
def IsRow (k : IntKind) (w : World) (a : Option Addr) (len cap : Nat) (zs : List Int) : Prop :=
  (a = none ∧ len = 0 ∧ cap = 0 ∧ zs = []) ∨
  ∃ x, a = some x ∧ len ≤ cap ∧ cap ≤ maxLen ∧ zs.length = cap ∧ (∀ i, i < zs.length → w.cell? (x.add i) = some (.int k (zs.getD i 0))) ∧ ∀ n ∈ zs, (Lit.int k n).wf = true
theorem eI_get (xs : List Int) (j : Nat) (u : Value) (h : (eI.cells xs)[j]? = some u) : ∃ x, xs[j]? = some x ∧ u = .int .i64 x := by
  have e : ∀ xs : List Int, eI.cells xs = xs.map (fun x => Value.int .i64 x) := fun xs => by
    induction xs with
    | nil => rfl
    | cons x xs ih => rw [El.cells_cons, ih]; rfl
  rw [e, List.getElem?_map] at h
  obtain ⟨x, hx, e⟩ := Option.map_eq_some_iff.1 h
  exact ⟨x, hx, e.symm⟩
theorem eU8_get (xs : List Int) (j : Nat) (u : Value) (h : (eU8.cells xs)[j]? = some u) : ∃ x, xs[j]? = some x ∧ u = .int .u8 x := by
  have e : ∀ xs : List Int, eU8.cells xs = xs.map (fun x => Value.int .u8 x) := fun xs => by
    induction xs with
    | nil => rfl
    | cons x xs ih => rw [El.cells_cons, ih]; rfl
  rw [e, List.getElem?_map] at h
  obtain ⟨x, hx, e⟩ := Option.map_eq_some_iff.1 h
  exact ⟨x, hx, e.symm⟩
theorem IsRow.rd {w : World} {a : Option Addr} {len cap : Nat} {zs : List Int} (h : IsRow .i64 w a len cap zs) : ∃ l : List Int, len = l.length ∧ St No w (Rd eI (.slice a l.length cap) l) ∧ ∀ n ∈ l, -9223372036854775808 ≤ n ∧ n ≤ 9223372036854775807 := by
  rcases h with ⟨rfl, rfl, rfl, rfl⟩ | ⟨x, rfl, h1, h2, h3, h4, h5⟩
  · exact ⟨[], rfl, Rd.stN Rd.nil, by simp⟩
  · have hl : (zs.take len).length = len := by rw [List.length_take]; omega
    refine ⟨zs.take len, hl.symm, Rd.stN ⟨some x, cap, rfl, by omega, h2, fun _ => ⟨x, rfl, fun j u hu => ?_⟩⟩, fun n hn => ?_⟩
    · obtain ⟨y, hy, rfl⟩ := eI_get _ _ _ hu
      rw [List.getElem?_take] at hy
      split at hy
      · have hj := (List.getElem?_eq_some_iff.1 hy).1
        rw [h4 j hj]
        simp [List.getD, hy]
      · simp at hy
    · have := h5 n (List.mem_of_mem_take hn)
      simp [Lit.wf, IntKind.min, IntKind.max, IntKind.signed, IntKind.bits] at this
      omega
theorem IsRow.rd8 {w : World} {a : Option Addr} {len cap : Nat} {zs : List Int} (h : IsRow .u8 w a len cap zs) : ∃ l : List Int, len = l.length ∧ St No w (Rd eU8 (.slice a l.length cap) l) ∧ ∀ n ∈ l, 0 ≤ n ∧ n ≤ 255 := by
  rcases h with ⟨rfl, rfl, rfl, rfl⟩ | ⟨x, rfl, h1, h2, h3, h4, h5⟩
  · exact ⟨[], rfl, Rd.stN Rd.nil, by simp⟩
  · have hl : (zs.take len).length = len := by rw [List.length_take]; omega
    refine ⟨zs.take len, hl.symm, Rd.stN ⟨some x, cap, rfl, by omega, h2, fun _ => ⟨x, rfl, fun j u hu => ?_⟩⟩, fun n hn => ?_⟩
    · obtain ⟨y, hy, rfl⟩ := eU8_get _ _ _ hu
      rw [List.getElem?_take] at hy
      split at hy
      · have hj := (List.getElem?_eq_some_iff.1 hy).1
        rw [h4 j hj]
        simp [List.getD, hy]
      · simp at hy
    · have := h5 n (List.mem_of_mem_take hn)
      simp [Lit.wf, IntKind.min, IntKind.max, IntKind.signed, IntKind.bits] at this
      omega
theorem int_bd {n : Int} (h : (Lit.int .i64 n).wf = true) : -9223372036854775808 ≤ n ∧ n ≤ 9223372036854775807 := by
  simp [Lit.wf, IntKind.min, IntKind.max, IntKind.signed, IntKind.bits] at h
  omega
theorem int_bd8 {n : Int} (h : (Lit.int .u8 n).wf = true) : 0 ≤ n ∧ n ≤ 255 := by
  simp [Lit.wf, IntKind.min, IntKind.max, IntKind.signed, IntKind.bits] at h
  omega
end Go.Gv
