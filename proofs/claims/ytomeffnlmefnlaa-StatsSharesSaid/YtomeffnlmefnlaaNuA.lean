/- Lines' numbers, plain. -/
import Derived.Test.YtomeffnlmefnlaaGvM
namespace Go.Num
open Go.Gv
abbrev KV := List (Ln × Int)
def nn (kv : KV) (x : Ln) : Int := (lookL kv x).getD kv.length
def nk (kv : KV) (x : Ln) : KV := if (lookL kv x).isSome then kv else updL kv x kv.length
def nkv : KV → List Ln → KV
  | kv, [] => kv
  | kv, x :: l => nkv (nk kv x) l
def nnum : KV → List Ln → List Int
  | _, [] => []
  | kv, x :: l => nn kv x :: nnum (nk kv x) l
def nkvs : KV → List (List Ln) → KV
  | kv, [] => kv
  | kv, l :: ls => nkvs (nkv kv l) ls
def nnums : KV → List (List Ln) → List (List Int)
  | _, [] => []
  | kv, l :: ls => nnum kv l :: nnums (nkv kv l) ls
theorem nkv_snoc (kv : KV) (l : List Ln) (x : Ln) : nkv kv (l ++ [x]) = nk (nkv kv l) x := by
  induction l generalizing kv with
  | nil => rfl
  | cons y l ih => exact ih _
theorem nnum_snoc (kv : KV) (l : List Ln) (x : Ln) : nnum kv (l ++ [x]) = nnum kv l ++ [nn (nkv kv l) x] := by
  induction l generalizing kv with
  | nil => rfl
  | cons y l ih => simp only [List.cons_append, nnum, nkv, ih]
theorem nkvs_snoc (kv : KV) (ls : List (List Ln)) (l : List Ln) : nkvs kv (ls ++ [l]) = nkv (nkvs kv ls) l := by
  induction ls generalizing kv with
  | nil => rfl
  | cons y l ih => exact ih _
theorem nnums_snoc (kv : KV) (ls : List (List Ln)) (l : List Ln) : nnums kv (ls ++ [l]) = nnums kv ls ++ [nnum (nkvs kv ls) l] := by
  induction ls generalizing kv with
  | nil => rfl
  | cons y l ih => simp only [List.cons_append, nnums, nkvs, ih]
theorem nnum_length (kv : KV) (l : List Ln) : (nnum kv l).length = l.length := by
  induction l generalizing kv with
  | nil => rfl
  | cons y l ih => simp [nnum, ih]
theorem take_more {β : Type} {l : List β} {j : Int} (d : β) (h0 : 0 ≤ j) (h1 : j < l.length) : l.take (j + 1).toNat = l.take j.toNat ++ [l.getD j.toNat d] := by
  have hlt : j.toNat < l.length := by omega
  rw [show (j + 1).toNat = j.toNat + 1 by omega, List.take_add_one, List.getElem?_eq_getElem hlt]
  simp [List.getD, hlt]
section
variable {kv kv1 : KV} {l : List Ln} {row : List Int} {j : Int}
theorem num_new1 (h0 : 0 ≤ j) (h1 : j < l.length) (e : kv1 = nkv kv (l.take j.toNat)) (h : (!(lookL kv1 (l.getD j.toNat lnD)).isSome) = true) :
    updL kv1 (l.getD j.toNat lnD) kv1.length = nkv kv (l.take (j + 1).toNat) := by
  rw [take_more lnD h0 h1, nkv_snoc, ← e, nk, if_neg (by simpa using h)]
theorem num_new2 (h0 : 0 ≤ j) (h1 : j < l.length) (e : kv1 = nkv kv (l.take j.toNat)) (er : row = nnum kv (l.take j.toNat)) (h : (!(lookL kv1 (l.getD j.toNat lnD)).isSome) = true) :
    row ++ [(kv1.length : Int)] = nnum kv (l.take (j + 1).toNat) := by
  rw [take_more lnD h0 h1, nnum_snoc, ← e, ← er, nn]
  cases hl : lookL kv1 (l.getD j.toNat lnD) with
  | none => rfl
  | some v => rw [hl] at h; simp at h
theorem num_old1 (h0 : 0 ≤ j) (h1 : j < l.length) (e : kv1 = nkv kv (l.take j.toNat)) (h : (!(lookL kv1 (l.getD j.toNat lnD)).isSome) = false) :
    kv1 = nkv kv (l.take (j + 1).toNat) := by
  rw [take_more lnD h0 h1, nkv_snoc, ← e, nk, if_pos]
  cases hx : (lookL kv1 (l.getD j.toNat lnD)).isSome with
  | true => rfl
  | false => rw [hx] at h; simp at h
theorem num_old2 (h0 : 0 ≤ j) (h1 : j < l.length) (e : kv1 = nkv kv (l.take j.toNat)) (er : row = nnum kv (l.take j.toNat)) (h : (!(lookL kv1 (l.getD j.toNat lnD)).isSome) = false) :
    row ++ [(lookL kv1 (l.getD j.toNat lnD)).getD 0] = nnum kv (l.take (j + 1).toNat) := by
  rw [take_more lnD h0 h1, nnum_snoc, ← e, ← er, nn]
  cases hl : lookL kv1 (l.getD j.toNat lnD) with
  | none => rw [hl] at h; simp at h
  | some v => rfl
end
section
variable {α : Type} [Inhabited α] {kv : KV} {inp : List (α × List Ln)} {i : Int}
theorem nums_step1 (h0 : 0 ≤ i) (h1 : i < inp.length) (e : kv = nkvs [] ((inp.map (·.2)).take i.toNat)) : nkv kv (inp.getD i.toNat default).2 = nkvs [] ((inp.map (·.2)).take (i + 1).toNat) := by
  rw [take_more (default : α × List Ln).2 h0 (by simpa using h1), nkvs_snoc, ← e]
  have hlt : i.toNat < inp.length := by omega
  simp [List.getD, hlt]
theorem nums_step2 {β : Type} {rows : List (β × List Int)} {sv : β} (h0 : 0 ≤ i) (h1 : i < inp.length) (e : kv = nkvs [] ((inp.map (·.2)).take i.toNat)) (er : rows.map (·.2) = nnums [] ((inp.map (·.2)).take i.toNat)) :
    (rows ++ [(sv, nnum kv (inp.getD i.toNat default).2)]).map (·.2) = nnums [] ((inp.map (·.2)).take (i + 1).toNat) := by
  rw [take_more (default : α × List Ln).2 h0 (by simpa using h1), nnums_snoc, ← e, ← er]
  have hlt : i.toNat < inp.length := by omega
  simp [List.getD, hlt]
end
end Go.Num
namespace Go.Num
open Go.Gv
theorem num_fin1 {kv kv1 : KV} {l : List Ln} {j : Int} (e : kv1 = nkv kv (l.take j.toNat)) (h : (l.length : Int) ≤ j) : kv1 = nkv kv l := by rw [e, List.take_of_length_le (by omega)]
theorem num_fin2 {kv : KV} {l : List Ln} {row : List Int} {j : Int} (e : row = nnum kv (l.take j.toNat)) (h : (l.length : Int) ≤ j) : row = nnum kv l := by rw [e, List.take_of_length_le (by omega)]
end Go.Num
