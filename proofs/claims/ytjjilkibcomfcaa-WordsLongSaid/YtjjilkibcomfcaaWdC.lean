/- Words: tokens' numbers, edits, their sides, marks: plain. -/
import Derived.Test.YtjjilkibcomfcaaWdA
import Derived.Test.YtjjilkibcomfcaaPaW
import Derived.Test.YtjjilkibcomfcaaGvM
import Derived.Test.YtjjilkibcomfcaaNuA
namespace Go.Wds
open Go Go.Gv Go.Mys Go.Pat Go.Itn
/-! ### numbers -/
def idx (x : ByteArray) : List ByteArray → Nat
  | [] => 0
  | y :: l => if y = x then 0 else idx x l + 1
theorem idx_le (x : ByteArray) : ∀ l, idx x l ≤ l.length
  | [] => Nat.le_refl _
  | y :: l => by
    have := idx_le x l
    rw [idx]; split <;> simp only [List.length_cons] <;> omega
theorem idx_in {x : ByteArray} : ∀ {l : List ByteArray}, idx x l < l.length ↔ x ∈ l
  | [] => by simp [idx]
  | y :: l => by
    rw [idx]
    by_cases h : y = x
    · rw [if_pos h]; simp [h]
    · rw [if_neg h, List.length_cons, List.mem_cons, ← idx_in (l := l)]
      constructor
      · intro h2; exact .inr (by omega)
      · rintro (h2 | h2)
        · exact absurd h2.symm h
        · omega
instance memDec (x : ByteArray) (l : List ByteArray) : Decidable (x ∈ l) := decidable_of_iff _ (idx_in (x := x) (l := l))
theorem idx_get {x : ByteArray} : ∀ {l : List ByteArray}, idx x l < l.length → l[idx x l]? = some x
  | [], h => by simp [idx] at h
  | y :: l, h => by
    rw [idx] at h ⊢
    by_cases h2 : y = x
    · rw [if_pos h2]; simp [h2]
    · rw [if_neg h2] at h ⊢
      rw [List.getElem?_cons_succ]
      exact idx_get (by simp only [List.length_cons] at h; omega)
theorem idx_of {x : ByteArray} : ∀ {l : List ByteArray} {n : Nat}, n ≤ l.length → (∀ t : Nat, t < n → l.getD t ByteArray.empty ≠ x) → (n < l.length → l.getD n ByteArray.empty = x) → idx x l = n
  | [], n, h, _, _ => by simp at h; subst h; rfl
  | y :: l, 0, _, _, h => by
    have := h (by simp)
    rw [idx, if_pos (by simpa using this)]
  | y :: l, n + 1, h0, h1, h2 => by
    have h3 := h1 0 (by omega)
    rw [idx, if_neg (by simpa using h3), idx_of (n := n) (by simp only [List.length_cons] at h0; omega) (fun t ht => by have := h1 (t + 1) (by omega); simpa using this) (fun hn => by have := h2 (by simp only [List.length_cons]; omega); simpa using this)]
theorem idx_app {x : ByteArray} {l : List ByteArray} (r : List ByteArray) (h : x ∈ l) : idx x (l ++ r) = idx x l := by
  induction l with
  | nil => cases h
  | cons y l ih =>
    rw [List.cons_append, idx, idx]
    by_cases h2 : y = x
    · rw [if_pos h2, if_pos h2]
    · rw [if_neg h2, if_neg h2, ih ((List.mem_cons.1 h).resolve_left fun e => h2 e.symm)]
theorem idx_new {x : ByteArray} {l : List ByteArray} (h : x ∉ l) : idx x (l ++ [x]) = l.length ∧ idx x l = l.length := by
  induction l with
  | nil => simp [idx]
  | cons y l ih =>
    have h1 : y ≠ x := fun e => h (e ▸ .head _)
    have := ih fun e => h (.tail _ e)
    rw [List.cons_append, idx, idx, if_neg h1, if_neg h1, List.length_cons]
    omega
def nk (kn : List ByteArray) (x : ByteArray) : List ByteArray := if x ∈ kn then kn else kn ++ [x]
def nkvL : List ByteArray → List ByteArray → List ByteArray
  | kn, [] => kn
  | kn, x :: l => nkvL (nk kn x) l
def nnumL : List ByteArray → List ByteArray → List Int
  | _, [] => []
  | kn, x :: l => (idx x kn : Int) :: nnumL (nk kn x) l
theorem nkvL_snoc (kn l : List ByteArray) (x : ByteArray) : nkvL kn (l ++ [x]) = nk (nkvL kn l) x := by
  induction l generalizing kn with
  | nil => rfl
  | cons y l ih => exact ih _
theorem nnumL_snoc (kn l : List ByteArray) (x : ByteArray) : nnumL kn (l ++ [x]) = nnumL kn l ++ [(idx x (nkvL kn l) : Int)] := by
  induction l generalizing kn with
  | nil => rfl
  | cons y l ih => simp only [List.cons_append, nnumL, nkvL, ih]
theorem nnumL_len (kn l : List ByteArray) : (nnumL kn l).length = l.length := by
  induction l generalizing kn with
  | nil => rfl
  | cons y l ih => simp [nnumL, ih]
theorem nk_ext (kn : List ByteArray) (x : ByteArray) : ∃ r, nk kn x = kn ++ r := by
  unfold nk
  split
  · exact ⟨[], by simp⟩
  · exact ⟨[x], rfl⟩
theorem nkvL_ext (kn l : List ByteArray) : ∃ r, nkvL kn l = kn ++ r := by
  induction l generalizing kn with
  | nil => exact ⟨[], by simp [nkvL]⟩
  | cons x l ih =>
    obtain ⟨r, e⟩ := nk_ext kn x
    obtain ⟨r2, e2⟩ := ih (nk kn x)
    exact ⟨r ++ r2, by rw [nkvL, e2, e, List.append_assoc]⟩
theorem nk_mem (kn : List ByteArray) (x : ByteArray) : x ∈ nk kn x := by
  unfold nk
  split
  · assumption
  · simp
theorem nkvL_mem {kn l : List ByteArray} {x : ByteArray} (h : x ∈ kn ∨ x ∈ l) : x ∈ nkvL kn l := by
  induction l generalizing kn with
  | nil => exact h.resolve_right (by simp)
  | cons y l ih =>
    rw [nkvL]
    refine ih ?_
    obtain ⟨r, e⟩ := nk_ext kn y
    rcases h with h | h
    · left; rw [e]; exact List.mem_append_left _ h
    · rcases List.mem_cons.1 h with rfl | h
      · exact .inl (nk_mem _ _)
      · exact .inr h
theorem nkvL_len (kn l : List ByteArray) : (nkvL kn l).length ≤ kn.length + l.length := by
  induction l generalizing kn with
  | nil => exact Nat.le_refl _
  | cons x l ih =>
    have := ih (nk kn x)
    have h2 : (nk kn x).length ≤ kn.length + 1 := by unfold nk; split <;> simp
    rw [nkvL, List.length_cons]; omega
theorem nnumL_map (kn l : List ByteArray) : nnumL kn l = l.map fun u => (idx u (nkvL kn l) : Int) := by
  induction l generalizing kn with
  | nil => rfl
  | cons x l ih =>
    rw [nnumL, ih, List.map_cons, nkvL]
    congr 1
    obtain ⟨r, e⟩ := nkvL_ext (nk kn x) l
    rw [e, idx_app r (nk_mem kn x)]
    unfold nk
    by_cases h : x ∈ kn
    · rw [if_pos h]
    · rw [if_neg h, (idx_new h).1, (idx_new h).2]
/-- Tokens of two texts have one number just if they are the same. -/
theorem nums_same {x y : List ByteArray} {i j : Int} (hi : 0 ≤ i) (hi' : i < x.length) (hj : 0 ≤ j) (hj' : j < y.length) (h : gI (nnumL [] x) i = gI (nnumL (nkvL [] x) y) j) : x.getD i.toNat ByteArray.empty = y.getD j.toNat ByteArray.empty := by
  have hx : i.toNat < x.length := by omega
  have hy : j.toNat < y.length := by omega
  unfold gI at h
  rw [nnumL_map, nnumL_map, List.getD_eq_getElem?_getD, List.getD_eq_getElem?_getD, List.getElem?_map, List.getElem?_map, List.getElem?_eq_getElem hx, List.getElem?_eq_getElem hy] at h
  rw [List.getD_eq_getElem?_getD, List.getD_eq_getElem?_getD, List.getElem?_eq_getElem hx, List.getElem?_eq_getElem hy]
  simp only [Option.map_some, Option.getD_some] at h ⊢
  obtain ⟨r, e⟩ := nkvL_ext (nkvL [] x) y
  have m1 : x[i.toNat] ∈ nkvL [] x := nkvL_mem (.inr (List.getElem_mem hx))
  have m2 : y[j.toNat] ∈ nkvL (nkvL [] x) y := nkvL_mem (.inr (List.getElem_mem hy))
  rw [← idx_app r m1, ← e] at h
  have e1 := idx_get (idx_in.2 (show x[i.toNat] ∈ nkvL (nkvL [] x) y by rw [e]; exact List.mem_append_left _ m1))
  have e2 := idx_get (idx_in.2 m2)
  have h' : idx x[i.toNat] (nkvL (nkvL [] x) y) = idx y[j.toNat] (nkvL (nkvL [] x) y) := by omega
  rw [h'] at e1
  exact Option.some.inj (e1.symm.trans e2)
theorem nkvL_id {kn l : List ByteArray} (h : ∀ x ∈ l, x ∈ kn) : nkvL kn l = kn := by
  induction l with
  | nil => rfl
  | cons x l ih =>
    rw [nkvL]
    unfold nk
    rw [if_pos (h x (.head _))]
    exact ih fun y hy => h y (.tail _ hy)
theorem nums_self (x : List ByteArray) : nnumL (nkvL [] x) x = nnumL [] x := by
  rw [nnumL_map, nnumL_map, nkvL_id fun u hu => nkvL_mem (.inr hu)]
/-! a map that holds them -/
def kvF : Nat → List ByteArray → List (ByteArray × Int)
  | _, [] => []
  | n, x :: l => (x, (n : Int)) :: kvF (n + 1) l
abbrev kvOf (kn : List ByteArray) : List (ByteArray × Int) := kvF 0 kn
theorem kvF_len (n : Nat) (l : List ByteArray) : (kvF n l).length = l.length := by
  induction l generalizing n with
  | nil => rfl
  | cons x l ih => simp [kvF, ih]
theorem kvF_snoc (n : Nat) (l : List ByteArray) (x : ByteArray) : kvF n (l ++ [x]) = kvF n l ++ [(x, ((n + l.length : Nat) : Int))] := by
  induction l generalizing n with
  | nil => rfl
  | cons y l ih => rw [List.cons_append, kvF, ih, kvF, List.cons_append, List.length_cons, show n + 1 + l.length = n + (l.length + 1) by omega]
theorem look_kv (n : Nat) (l : List ByteArray) (x : ByteArray) : lookL (kvF n l) x = if x ∈ l then some ((n + idx x l : Nat) : Int) else none := by
  induction l generalizing n with
  | nil => simp [kvF, lookL]
  | cons y l ih =>
    rw [kvF, lookL, idx]
    by_cases h : y = x
    · subst h; simp
    · have hm : (x ∈ y :: l) ↔ x ∈ l := by rw [List.mem_cons]; exact ⟨fun e => e.resolve_left fun e => h e.symm, .inr⟩
      rw [if_neg h, ih, if_neg h]
      by_cases h2 : x ∈ l
      · rw [if_pos h2, if_pos (hm.2 h2)]; congr 2; omega
      · rw [if_neg h2, if_neg fun e => h2 (hm.1 e)]
section
variable {kn l : List ByteArray} {kv : List (ByteArray × Int)} {out : List Int} {i : Int} {x : ByteArray}
theorem nw_new (h0 : 0 ≤ i) (h1 : i < l.length) (e : kv = kvOf (nkvL kn (l.take i.toNat))) (hx : x = l.getD i.toNat ByteArray.empty) (h : (!(lookL kv x).isSome) = true) : updL kv x kv.length = kvOf (nkvL kn (l.take (i + 1).toNat)) ∧ (lookL (updL kv x kv.length) x).getD 0 = (idx x (nkvL kn (l.take i.toNat)) : Int) := by
  subst hx
  have hl : lookL kv (l.getD i.toNat ByteArray.empty) = none := by simpa using h
  have hn : l.getD i.toNat ByteArray.empty ∉ nkvL kn (l.take i.toNat) := fun hm => by
    rw [e] at hl; unfold kvOf at hl; rw [look_kv, if_pos hm] at hl; cases hl
  refine ⟨?_, ?_⟩
  · rw [updL_new hl, Num.take_more ByteArray.empty h0 h1, nkvL_snoc, e]
    unfold nk kvOf
    rw [if_neg hn, kvF_snoc, kvF_len, Nat.zero_add]
  · rw [lookL_upd, if_pos rfl, Option.getD_some, e]
    unfold kvOf
    rw [kvF_len, (idx_new hn).2]
theorem nw_old (h0 : 0 ≤ i) (h1 : i < l.length) (e : kv = kvOf (nkvL kn (l.take i.toNat))) (hx : x = l.getD i.toNat ByteArray.empty) (h : (!(lookL kv x).isSome) = false) : kv = kvOf (nkvL kn (l.take (i + 1).toNat)) ∧ (lookL kv x).getD 0 = (idx x (nkvL kn (l.take i.toNat)) : Int) := by
  subst hx
  have hm : l.getD i.toNat ByteArray.empty ∈ nkvL kn (l.take i.toNat) := by
    refine Decidable.byContradiction fun hn => ?_
    rw [e] at h; unfold kvOf at h; rw [look_kv, if_neg hn] at h; simp at h
  refine ⟨?_, ?_⟩
  · rw [Num.take_more ByteArray.empty h0 h1, nkvL_snoc]
    unfold nk
    rw [if_pos hm]; exact e
  · rw [e]; unfold kvOf; rw [look_kv, if_pos hm]; simp
theorem nn_step (h0 : 0 ≤ i) (h1 : i < l.length) (e : out = nnumL kn (l.take i.toNat)) {z : Int} (hz : z = (idx (l.getD i.toNat ByteArray.empty) (nkvL kn (l.take i.toNat)) : Int)) : out ++ [z] = nnumL kn (l.take (i + 1).toNat) := by
  rw [Num.take_more ByteArray.empty h0 h1, nnumL_snoc, e, hz]
theorem nw_doc (h0 : 0 ≤ i) (h1 : i < l.length) {kn2 : List ByteArray} (e : kn2 = nkvL kn (l.take i.toNat)) {n : Int} (n0 : 0 ≤ n) (n1 : n ≤ kn2.length) (hno : ∀ t : Int, 0 ≤ t → t < n → ¬ kn2.getD t.toNat ByteArray.empty = l.getD i.toNat ByteArray.empty)
    (he : n < kn2.length → kn2.getD n.toNat ByteArray.empty = l.getD i.toNat ByteArray.empty) : n = (idx (l.getD i.toNat ByteArray.empty) (nkvL kn (l.take i.toNat)) : Int) ∧ (n = kn2.length → kn2 ++ [l.getD i.toNat ByteArray.empty] = nkvL kn (l.take (i + 1).toNat)) ∧ (¬ n = kn2.length → kn2 = nkvL kn (l.take (i + 1).toNat)) := by
  have hi : idx (l.getD i.toNat ByteArray.empty) kn2 = n.toNat := idx_of (by omega) (fun t ht => by have := hno t (by omega) (by omega); rwa [Int.toNat_natCast] at this) (fun hn => he (by omega))
  have hin := idx_in (x := l.getD i.toNat ByteArray.empty) (l := kn2)
  refine ⟨by rw [← e]; omega, fun hn => ?_, fun hn => ?_⟩
  · rw [Num.take_more ByteArray.empty h0 h1, nkvL_snoc, ← e]
    unfold nk
    rw [if_neg fun hm => by have := hin.2 hm; omega]
  · rw [Num.take_more ByteArray.empty h0 h1, nkvL_snoc, ← e]
    unfold nk
    rw [if_pos (hin.1 (by omega))]
end
/-! ### edits -/
abbrev Bt := Int × ByteArray
abbrev gB (l : List Bt) (i : Int) : Bt := l.getD i.toNat (0, ByteArray.empty)
/-- A token behind edits. -/
def LAYB (out : List Bt) (d : Int) (t : ByteArray) : List Bt :=
  if 0 < (out.length : Int) ∧ (gB out ((out.length : Int) - 1)).1 = d then out.set ((out.length : Int) - 1).toNat ((gB out ((out.length : Int) - 1)).1, (gB out ((out.length : Int) - 1)).2 ++ t) else out ++ [(d, t)]
theorem LAYB_len (out : List Bt) (d : Int) (t : ByteArray) : out.length ≤ (LAYB out d t).length ∧ (LAYB out d t).length ≤ out.length + 1 ∧ 0 < (LAYB out d t).length := by
  unfold LAYB
  split
  · rw [List.length_set]; omega
  · rw [List.length_append]; simp
theorem LAYB_last (out : List Bt) (d : Int) (t : ByteArray) : (gB (LAYB out d t) (((LAYB out d t).length : Int) - 1)).1 = d := by
  unfold LAYB
  split
  · next h =>
    rw [List.length_set]
    unfold gB
    rw [List.getD_eq_getElem?_getD, List.getElem?_set, if_pos rfl, if_pos (by omega)]
    exact h.2
  · rw [List.length_append]
    unfold gB
    rw [List.getD_eq_getElem?_getD, List.getElem?_append_right (by simp), show ((((out.length + [(d, t)].length : Nat) : Int) - 1).toNat - out.length) = 0 by simp]
    rfl
/-- How long all texts are together. -/
def szB (l : List Bt) : Nat := (l.map fun p => p.2.size).sum
theorem szB_snoc (l : List Bt) (p : Bt) : szB (l ++ [p]) = szB l + p.2.size := by unfold szB; rw [List.map_append, List.sum_append]; simp
theorem szB_mem {l : List Bt} {p : Bt} (h : p ∈ l) : p.2.size ≤ szB l := by
  unfold szB
  induction l with
  | nil => cases h
  | cons q l ih =>
    rw [List.map_cons, List.sum_cons]
    rcases List.mem_cons.1 h with rfl | h
    · omega
    · have := ih h; omega
theorem split_last {l : List Bt} (h : 0 < (l.length : Int)) : l = l.take ((l.length : Int) - 1).toNat ++ [gB l ((l.length : Int) - 1)] := by
  have := Num.take_more (l := l) (j := (l.length : Int) - 1) (0, ByteArray.empty) (by omega) (by omega)
  rw [← this, List.take_of_length_le (by omega)]
theorem set_last {l : List Bt} (h : 0 < (l.length : Int)) (p : Bt) : l.set ((l.length : Int) - 1).toNat p = l.take ((l.length : Int) - 1).toNat ++ [p] := by
  have e := split_last h
  have hl : (l.take ((l.length : Int) - 1).toNat).length = ((l.length : Int) - 1).toNat := by rw [List.length_take]; omega
  conv => lhs; rw [e]
  rw [List.length_append, hl, show (((((l.length : Int) - 1).toNat + [gB l ((l.length : Int) - 1)].length : Nat) : Int) - 1).toNat = ((l.length : Int) - 1).toNat by simp]
  rw [List.set_append_right _ _ (by rw [hl]; exact Nat.le_refl _), hl, Nat.sub_self]; rfl
theorem szB_lay (out : List Bt) (d : Int) (t : ByteArray) : szB (LAYB out d t) = szB out + t.size := by
  unfold LAYB
  split
  · next h =>
    rw [set_last h.1, szB_snoc]
    have := congrArg szB (split_last h.1)
    rw [szB_snoc] at this
    rw [this, ByteArray.size_append]; omega
  · exact szB_snoc _ _
/-- What goes on of steps, from two places on. -/
def EDF (x y : List ByteArray) : List Int → Int → Int → List Bt → List Bt
  | [], _, _, out => out
  | s :: r, i, j, out => if s = 3 then EDF x y r i (j + 1) (LAYB out s (y.getD j.toNat ByteArray.empty)) else EDF x y r (i + 1) (if s = 1 then j + 1 else j) (LAYB out s (x.getD i.toNat ByteArray.empty))
def EDT (a b : ByteArray) : List Bt := if (TOK a).length > 400 ∨ (TOK b).length > 400 then [] else EDF (TOK a) (TOK b) (STP (nnumL [] (TOK a)) (nnumL (nkvL [] (TOK a)) (TOK b))) 0 0 []
/-- Steps that lead from place to place, and keep what is alike. -/
def AL (p q : List Int) : List Int → Int → Int → Prop
  | [], i, j => i = p.length ∧ j = q.length
  | s :: r, i, j => (s = 1 ∧ i < p.length ∧ j < q.length ∧ gI p i = gI q j ∧ AL p q r (i + 1) (j + 1)) ∨ (s = 2 ∧ i < p.length ∧ AL p q r (i + 1) j) ∨ (s = 3 ∧ j < q.length ∧ AL p q r i (j + 1))
theorem al_rep2 {p q r : List Int} : ∀ (k : Nat) {i j : Int}, i + k ≤ p.length → AL p q r (i + k) j → AL p q (List.replicate k 2 ++ r) i j
  | 0, i, j, _, h => by simpa using h
  | k + 1, i, j, h0, h => by
    rw [List.replicate_succ, List.cons_append]
    exact .inr (.inl ⟨rfl, by omega, al_rep2 k (by omega) (by rw [show i + 1 + (k : Int) = i + ((k + 1 : Nat) : Int) by omega]; exact h)⟩)
theorem al_rep3 {p q r : List Int} : ∀ (k : Nat) {i j : Int}, j + k ≤ q.length → AL p q r i (j + k) → AL p q (List.replicate k 3 ++ r) i j
  | 0, i, j, _, h => by simpa using h
  | k + 1, i, j, h0, h => by
    rw [List.replicate_succ, List.cons_append]
    exact .inr (.inr ⟨rfl, by omega, al_rep3 k (by omega) (by rw [show j + 1 + (k : Int) = j + ((k + 1 : Nat) : Int) by omega]; exact h)⟩)
theorem stp_al {p q : List Int} : ∀ (l : List (Int × Int)) (x y : Int), 0 ≤ x → x ≤ p.length → 0 ≤ y → y ≤ q.length → (l.Pairwise fun a b => a.1 < b.1 ∧ a.2 < b.2) → (∀ c ∈ l, x ≤ c.1 ∧ c.1 < p.length ∧ y ≤ c.2 ∧ c.2 < q.length ∧ gI p c.1 = gI q c.2) → AL p q (stp p.length q.length l x y) x y
  | [], x, y, x0, x1, y0, y1, _, _ => by
    rw [stp]
    refine al_rep2 _ (by omega) ?_
    rw [← List.append_nil (List.replicate _ 3)]
    refine al_rep3 _ (by omega) ⟨by omega, by omega⟩
  | c :: l, x, y, x0, x1, y0, y1, hp, hm => by
    have hc := hm c (.head _)
    have hp' := List.pairwise_cons.1 hp
    rw [stp, List.append_assoc, List.append_assoc]
    refine al_rep2 _ (by omega) (al_rep3 _ (by omega) ?_)
    rw [show x + ((c.1 - x).toNat : Int) = c.1 by omega, show y + ((c.2 - y).toNat : Int) = c.2 by omega]
    refine .inl ⟨rfl, hc.2.1, hc.2.2.2.1, hc.2.2.2.2, stp_al l _ _ (by omega) (by omega) (by omega) (by omega) hp'.2 fun e he => ?_⟩
    have h1 := hp'.1 e he
    have h2 := hm e (.tail _ he)
    exact ⟨by omega, h2.2.1, by omega, h2.2.2.2⟩
/-! pairs are alike -/
theorem gI_td {a : List Int} {k x : Nat} {i : Int} (h0 : 0 ≤ i) (h1 : i < ((a.take k).drop x).length) : gI ((a.take k).drop x) i = gI a (i + x) := by
  rw [List.length_drop, List.length_take] at h1
  unfold gI
  rw [List.getD_eq_getElem?_getD, List.getElem?_drop, List.getElem?_take, if_pos (by omega), ← List.getD_eq_getElem?_getD, show x + i.toNat = (i + (x : Int)).toNat by omega]
theorem gI_d {a : List Int} {x : Nat} {i : Int} (h0 : 0 ≤ i) : gI (a.drop x) i = gI a (i + x) := by
  unfold gI
  rw [List.getD_eq_getElem?_getD, List.getElem?_drop, ← List.getD_eq_getElem?_getD, show x + i.toNat = (i + (x : Int)).toNat by omega]
theorem gI_t {a : List Int} {k : Nat} {i : Int} (h0 : 0 ≤ i) (h1 : i < (a.take k).length) : gI (a.take k) i = gI a i := by
  have := gI_td (a := a) (k := k) (x := 0) (i := i) h0 (by simpa using h1)
  simpa using this
theorem mem_mvd {l : List (Int × Int)} {i j : Int} {c : Int × Int} (h : c ∈ mvd l i j) : ∃ e ∈ l, c = (e.1 + i, e.2 + j) := by
  unfold mvd at h
  obtain ⟨e, he, rfl⟩ := List.mem_map.1 h
  exact ⟨e, he, rfl⟩
theorem seg_mt {P : PF} {a b : List Int} (hP : ∀ a' b' : List Int, Ub 0 a'.length 0 b'.length (P a' b') ∧ ∀ c ∈ P a' b', gI a' c.1 = gI b' c.2) : ∀ (l : List (Int × Int)) (x y : Int), 0 ≤ x → 0 ≤ y → (∀ c ∈ l, 0 ≤ c.1 ∧ 0 ≤ c.2 ∧ gI a c.1 = gI b c.2) → ∀ c ∈ seg P a b l x y, gI a c.1 = gI b c.2
  | [], x, y, x0, y0, _, c, hc => by
    rw [seg] at hc
    obtain ⟨e, he, rfl⟩ := mem_mvd hc
    have h := hP (a.drop x.toNat) (b.drop y.toNat)
    have h1 := h.1.bd e he
    have h2 := h.2 e he
    rw [gI_d h1.1, gI_d h1.2.2.1] at h2
    rw [show e.1 + x = e.1 + (x.toNat : Int) by omega, show e.2 + y = e.2 + (y.toNat : Int) by omega]; exact h2
  | d :: l, x, y, x0, y0, hl, c, hc => by
    have hd := hl d (.head _)
    rw [seg] at hc
    rcases List.mem_append.1 hc with hc | hc
    · obtain ⟨e, he, rfl⟩ := mem_mvd hc
      have h := hP ((a.take d.1.toNat).drop x.toNat) ((b.take d.2.toNat).drop y.toNat)
      have h1 := h.1.bd e he
      have h2 := h.2 e he
      rw [gI_td h1.1 h1.2.1, gI_td h1.2.2.1 h1.2.2.2] at h2
      rw [show e.1 + x = e.1 + (x.toNat : Int) by omega, show e.2 + y = e.2 + (y.toNat : Int) by omega]; exact h2
    · rcases List.mem_cons.1 hc with rfl | hc
      · exact hd.2.2
      · exact seg_mt hP l _ _ (by omega) (by omega) (fun e he => hl e (.tail _ he)) c hc
theorem prF_mt : ∀ (f : Nat) (a b : List Int), ∀ c ∈ prF f a b, gI a c.1 = gI b c.2
  | 0, a, b, c, hc => by rw [prF] at hc; cases hc
  | f + 1, a, b, c, hc => by
    have ih := prF_mt f
    have hub := PR_ub f
    rw [prF] at hc
    unfold pbody at hc
    split at hc
    · cases hc
    · split at hc
      · next h =>
        rcases List.mem_cons.1 hc with rfl | hc
        · exact h
        · obtain ⟨e, he, rfl⟩ := mem_mvd hc
          have h1 := (hub (a.drop 1) (b.drop 1)).bd e he
          have h2 := ih (a.drop 1) (b.drop 1) e he
          rw [gI_d h1.1, gI_d h1.2.2.1] at h2
          exact h2
      · split at hc
        · next h =>
          rcases List.mem_append.1 hc with hc | hc
          · have h1 := (hub (a.take (a.length - 1)) (b.take (b.length - 1))).bd c hc
            have h2 := ih _ _ c hc
            rw [gI_t h1.1 h1.2.1, gI_t h1.2.2.1 h1.2.2.2] at h2
            exact h2
          · rw [List.mem_singleton.1 hc]; exact h
        · split at hc
          · have h := prs_mem _ a b 0 0 (Nat.le_refl _) c hc
            have := h.2.2.2.2
            simpa using this
          · refine seg_mt (fun a' b' => ⟨hub a' b', ih a' b'⟩) _ _ _ (Int.le_refl _) (Int.le_refl _) (fun e he => ?_) c hc
            have hup := (ANC_up a b).bd e he
            refine ⟨hup.1, hup.2.2.1, ?_⟩
            unfold ANC at he
            obtain ⟨k, hk, rfl⟩ := List.mem_map.1 he
            have hr := (LNG_ris ((onc a b).map (·.2))).2 k hk
            rw [List.length_map] at hr
            exact (oncT_mem _ _ (getD_mem (l := onc a b) (i := k.toNat) (by omega))).2.2.2.2.2
theorem STP_al {p q : List Int} (hp : p.length ≤ 400) (hq : q.length ≤ 400) : AL p q (STP p q) 0 0 := by
  unfold STP
  rw [if_neg (by omega)]
  have hu := PR_up p q
  refine stp_al _ _ _ (Int.le_refl _) (by omega) (Int.le_refl _) (by omega) hu.pw fun c hc => ?_
  have h := hu.bd c hc
  exact ⟨h.1, h.2.1, h.2.2.1, h.2.2.2, prF_mt _ _ _ c hc⟩
theorem efst_self : ∀ a : List Int, efst a a = a.length
  | [] => rfl
  | x :: a => by rw [efst, if_pos rfl, efst_self a]; rfl
theorem stp_run (n : Nat) : ∀ (k : Nat) (i : Int), i + k = n → stp n n (run i i k) i i = List.replicate k 1
  | 0, i, h => by rw [run, stp, show ((n : Int) - i).toNat = 0 by omega]; rfl
  | k + 1, i, h => by
    rw [run_cons, stp, stp_run n k (i + 1) (by omega), Int.sub_self]; rfl
theorem STP_self {p : List Int} (hp : p.length ≤ 400) : STP p p = List.replicate p.length 1 := by
  unfold STP
  rw [if_neg (by omega), PR_front, efst_self, PR_nil (.inl (List.drop_eq_nil_of_le (Nat.le_refl _))), mvd_nil, List.append_nil]
  exact stp_run p.length p.length 0 (by omega)
/-! ### sides -/
def sid (no : Int) (l : List Bt) : ByteArray := l.foldl (fun s p => if p.1 ≠ no then s ++ p.2 else s) ⟨#[]⟩
theorem sid_snoc (no : Int) (l : List Bt) (p : Bt) : sid no (l ++ [p]) = if p.1 ≠ no then sid no l ++ p.2 else sid no l := by unfold sid; rw [List.foldl_append]; rfl
theorem sid_at {no : Int} {l : List Bt} {i : Int} (h0 : 0 ≤ i) (h1 : i < l.length) : sid no (l.take (i + 1).toNat) = if (gB l i).1 ≠ no then sid no (l.take i.toNat) ++ (gB l i).2 else sid no (l.take i.toNat) := by
  rw [Num.take_more (0, ByteArray.empty) h0 h1, sid_snoc]
theorem sid_lay (no : Int) (out : List Bt) (d : Int) (t : ByteArray) : sid no (LAYB out d t) = if d ≠ no then sid no out ++ t else sid no out := by
  unfold LAYB
  split
  · next h =>
    rw [set_last h.1, sid_snoc]
    have e := congrArg (sid no) (split_last h.1)
    rw [sid_snoc] at e
    simp only [h.2] at e ⊢
    by_cases hd : d ≠ no
    · rw [if_pos hd] at e ⊢
      rw [if_pos hd, e, ByteArray.append_assoc]
    · rw [if_neg hd] at e ⊢
      rw [if_neg hd, e]
  · exact sid_snoc _ _ _
theorem cat_cons (x : ByteArray) (l : List ByteArray) : cat (x :: l) = x ++ cat l := by
  have h : ∀ (l : List ByteArray) (s : ByteArray), l.foldl (· ++ ·) s = s ++ cat l := by
    intro l
    induction l with
    | nil => intro s; show s = s ++ ⟨#[]⟩; exact (ByteArray.append_empty (b := s)).symm
    | cons y l ih => intro s; unfold cat; rw [List.foldl_cons, List.foldl_cons, ih, ih, ByteArray.append_assoc]; congr 1
  show l.foldl (· ++ ·) (⟨#[]⟩ ++ x) = _
  rw [h]; congr 1
theorem cat_drop {x : List ByteArray} {i : Int} (h0 : 0 ≤ i) (h1 : i < x.length) : cat (x.drop i.toNat) = x.getD i.toNat ByteArray.empty ++ cat (x.drop (i + 1).toNat) := by
  rw [dropc ByteArray.empty h0 h1, cat_cons]
theorem cat_end {x : List ByteArray} {i : Int} (h : i = x.length) : cat (x.drop i.toNat) = ⟨#[]⟩ := by rw [List.drop_eq_nil_of_le (by omega)]; rfl
theorem sid_edf {x y : List ByteArray} {p q : List Int} (hp : p.length = x.length) (hq : q.length = y.length) (hpq : ∀ i j : Int, 0 ≤ i → i < x.length → 0 ≤ j → j < y.length → gI p i = gI q j → x.getD i.toNat ByteArray.empty = y.getD j.toNat ByteArray.empty) :
    ∀ (st : List Int) (i j : Int) (out : List Bt), 0 ≤ i → 0 ≤ j → AL p q st i j → sid 3 (EDF x y st i j out) = sid 3 out ++ cat (x.drop i.toNat) ∧ sid 2 (EDF x y st i j out) = sid 2 out ++ cat (y.drop j.toNat)
  | [], i, j, out, _, _, h => by
    rw [EDF, cat_end (by rw [h.1]; omega), cat_end (by rw [h.2]; omega)]
    exact ⟨(ByteArray.append_empty (b := _)).symm, (ByteArray.append_empty (b := _)).symm⟩
  | s :: r, i, j, out, i0, j0, h => by
    rw [EDF]
    rcases h with ⟨rfl, h1, h2, h3, h4⟩ | ⟨rfl, h1, h4⟩ | ⟨rfl, h2, h4⟩
    · rw [if_neg (by decide), if_pos rfl]
      obtain ⟨e1, e2⟩ := sid_edf hp hq hpq r (i + 1) (j + 1) (LAYB out 1 (x.getD i.toNat ByteArray.empty)) (by omega) (by omega) h4
      rw [sid_lay, if_pos (by decide)] at e1 e2
      refine ⟨?_, ?_⟩
      · rw [e1, cat_drop i0 (by omega), ByteArray.append_assoc]
      · rw [e2, cat_drop j0 (by omega), hpq i j i0 (by omega) j0 (by omega) h3, ByteArray.append_assoc]
    · rw [if_neg (by decide), if_neg (by decide)]
      obtain ⟨e1, e2⟩ := sid_edf hp hq hpq r (i + 1) j (LAYB out 2 (x.getD i.toNat ByteArray.empty)) (by omega) j0 h4
      rw [sid_lay] at e1 e2
      rw [if_pos (by decide)] at e1
      rw [if_neg (by decide)] at e2
      exact ⟨by rw [e1, cat_drop i0 (by omega), ByteArray.append_assoc], e2⟩
    · rw [if_pos rfl]
      obtain ⟨e1, e2⟩ := sid_edf hp hq hpq r i (j + 1) (LAYB out 3 (y.getD j.toNat ByteArray.empty)) i0 (by omega) h4
      rw [sid_lay] at e1 e2
      rw [if_neg (by decide)] at e1
      rw [if_pos (by decide)] at e2
      exact ⟨e1, by rw [e2, cat_drop j0 (by omega), ByteArray.append_assoc]⟩
theorem EDT_al {a b : ByteArray} (h : ¬ ((TOK a).length > 400 ∨ (TOK b).length > 400)) : AL (nnumL [] (TOK a)) (nnumL (nkvL [] (TOK a)) (TOK b)) (STP (nnumL [] (TOK a)) (nnumL (nkvL [] (TOK a)) (TOK b))) 0 0 := STP_al (by rw [nnumL_len]; omega) (by rw [nnumL_len]; omega)
theorem EDT_sides {a b : ByteArray} (h : ¬ ((TOK a).length > 400 ∨ (TOK b).length > 400)) : sid 3 (EDT a b) = a ∧ sid 2 (EDT a b) = b := by
  unfold EDT
  rw [if_neg h]
  obtain ⟨e1, e2⟩ := sid_edf (x := TOK a) (y := TOK b) (nnumL_len _ _) (nnumL_len _ _) (fun i j i0 i1 j0 j1 e => nums_same i0 i1 j0 j1 e) _ 0 0 [] (Int.le_refl _) (Int.le_refl _) (EDT_al h)
  have h1 : cat ((TOK a).drop (0 : Int).toNat) = a := TOK_cat a
  have h2 : cat ((TOK b).drop (0 : Int).toNat) = b := TOK_cat b
  rw [h1] at e1
  rw [h2] at e2
  exact ⟨e1.trans (ByteArray.empty_append (b := a)), e2.trans (ByteArray.empty_append (b := b))⟩
/-! ### marks around -/
def DECB (p : Bt) : ByteArray := if p.1 = 2 then (⟨#[91, 45]⟩ ++ p.2) ++ ⟨#[45, 93]⟩ else if p.1 = 3 then (⟨#[123, 43]⟩ ++ p.2) ++ ⟨#[43, 125]⟩ else p.2
def MRKB (l : List Bt) : ByteArray := l.foldl (fun s p => s ++ DECB p) ⟨#[]⟩
theorem MRKB_snoc (l : List Bt) (p : Bt) : MRKB (l ++ [p]) = MRKB l ++ DECB p := by unfold MRKB; rw [List.foldl_append]; rfl
theorem MRKB_at {l : List Bt} {i : Int} (h0 : 0 ≤ i) (h1 : i < l.length) : MRKB (l.take (i + 1).toNat) = MRKB (l.take i.toNat) ++ DECB (gB l i) := by rw [Num.take_more (0, ByteArray.empty) h0 h1, MRKB_snoc]
def WHL (a b : ByteArray) : List Bt := (if a = ⟨#[]⟩ then [] else [(2, a)]) ++ (if b = ⟨#[]⟩ then [] else [(3, b)])
def MARK (a b : ByteArray) : ByteArray := MRKB (if (TOK a).length > 400 ∨ (TOK b).length > 400 then WHL a b else EDT a b)
theorem lay_ones {out : List Bt} (h : ∀ p ∈ out, p.1 = 1) (t : ByteArray) : ∀ p ∈ LAYB out 1 t, p.1 = 1 := fun p hp => by
  unfold LAYB at hp
  split at hp
  · next hc =>
    rw [set_last hc.1] at hp
    rcases List.mem_append.1 hp with hp | hp
    · exact h p (List.mem_of_mem_take hp)
    · rw [List.mem_singleton.1 hp]; exact hc.2
  · rcases List.mem_append.1 hp with hp | hp
    · exact h p hp
    · rw [List.mem_singleton.1 hp]
theorem edf_ones {x y : List ByteArray} : ∀ (n : Nat) (i j : Int) (out : List Bt), (∀ p ∈ out, p.1 = 1) → ∀ p ∈ EDF x y (List.replicate n 1) i j out, p.1 = 1
  | 0, _, _, _, h => h
  | n + 1, i, j, out, h => by
    rw [List.replicate_succ, EDF, if_neg (by decide)]
    exact edf_ones n _ _ _ (lay_ones h _)
theorem mrk_ones : ∀ (l r : List Bt), (∀ p ∈ l, p.1 = 1) → MRKB r = sid 3 r → MRKB (r ++ l) = sid 3 (r ++ l)
  | [], r, _, e => by simpa using e
  | p :: l, r, h, e => by
    rw [show r ++ p :: l = (r ++ [p]) ++ l by simp]
    refine mrk_ones l _ (fun q hq => h q (.tail _ hq)) ?_
    have h1 := h p (.head _)
    rw [MRKB_snoc, sid_snoc, e, if_pos (by rw [h1]; decide)]
    unfold DECB
    rw [if_neg (by rw [h1]; decide), if_neg (by rw [h1]; decide)]
theorem MARK_self {a : ByteArray} (h : ¬ (TOK a).length > 400) : MARK a a = a := by
  have h2 : ¬ ((TOK a).length > 400 ∨ (TOK a).length > 400) := by omega
  unfold MARK
  rw [if_neg h2]
  have e := (EDT_sides h2).1
  have h3 : ∀ p ∈ EDT a a, p.1 = 1 := by
    unfold EDT
    rw [if_neg h2, nums_self, STP_self (by rw [nnumL_len]; omega)]
    exact edf_ones _ _ _ _ (by simp)
  have := mrk_ones (EDT a a) [] h3 rfl
  rw [List.nil_append] at this
  rw [this]; exact e
end Go.Wds

namespace Go.Wds
open Go Go.Gv Go.Mys Go.Pat Go.Itn
theorem doc_tok' {s s2 : ByteArray} {f : Nat} {n k : Int} {out : List ByteArray} (e : s2 = s.extract f s.size) (h : TKS s f = (out, f)) (hf : f ≤ s.size) (hn : 1 ≤ n) (hns : n ≤ (s2.size : Int)) (hk : ∀ t : Int, 0 ≤ t → t < n → KD (gI (bytesOf s2) t) = k) (h3 : k = 3 → n = 1)
    (he : n = (s2.size : Int) ∨ k = 3 ∨ KD (gI (bytesOf s2) n) ≠ k) : TKS s (f + n.toNat) = (out ++ [s2.extract 0 n.toNat], f + n.toNat) := by
  subst e; exact doc_tok h hf hn hns hk h3 he
theorem doc_rest' {s s2 : ByteArray} {f : Nat} {n : Int} (e : s2 = s.extract f s.size) (hf : f ≤ s.size) (hn : 1 ≤ n) (hns : n ≤ (s2.size : Int)) : s2.extract n.toNat s2.size = s.extract (f + n.toNat) s.size := by
  subst e; exact doc_rest hf hn hns
theorem doc_bd {s s2 : ByteArray} {f : Nat} {n : Int} (e : s2 = s.extract f s.size) (hf : f ≤ s.size) (hn : 1 ≤ n) (hns : n ≤ (s2.size : Int)) : f + n.toNat ≤ s.size := by
  have hz := ext_size s (l := f) (Nat.le_refl s.size)
  rw [← e] at hz; omega
theorem ext_gS {a b : List ByteArray} (hl : a.length = b.length) (h : ∀ t : Int, 0 ≤ t → t < a.length → a.getD t.toNat ByteArray.empty = b.getD t.toNat ByteArray.empty) : a = b := by
  apply List.ext_getElem hl
  intro i h1 h2
  have := h i (by omega) (by omega)
  rw [Int.toNat_natCast, List.getD_eq_getElem?_getD, List.getD_eq_getElem?_getD, List.getElem?_eq_getElem h1, List.getElem?_eq_getElem h2] at this
  exact this
theorem ext_gB {a b : List Bt} (hl : a.length = b.length) (h : ∀ t : Int, 0 ≤ t → t < a.length → (gB a t).1 = (gB b t).1 ∧ (gB a t).2 = (gB b t).2) : a = b := by
  apply List.ext_getElem hl
  intro i h1 h2
  have := h i (by omega) (by omega)
  unfold gB at this
  rw [Int.toNat_natCast, List.getD_eq_getElem?_getD, List.getD_eq_getElem?_getD, List.getElem?_eq_getElem h1, List.getElem?_eq_getElem h2] at this
  exact Prod.ext this.1 this.2
/-! the document's text without marks -/
theorem pl_two {s : ByteArray} (h : 1 < (s.size : Int)) : bytesOf s = gI (bytesOf s) 0 :: gI (bytesOf s) 1 :: (bytesOf s).drop 2 := by
  have a := drop1 (s := s) (i := 0) (by omega) (by omega)
  have b := drop1 (s := s) (i := 1) (by omega) h
  have e : bytesOf s = (bytesOf s).drop (0 : Int).toNat := rfl
  conv => lhs; rw [e, a]
  rw [show ((0 : Int) + 1).toNat = (1 : Int).toNat from rfl, b]; rfl
theorem bytes_rest (s : ByteArray) (k : Nat) : bytesOf (s.extract k s.size) = (bytesOf s).drop k := by rw [bytesOf_cut, List.take_of_length_le (by rw [bytesOf_len]; exact Nat.le_refl _)]
theorem pl_doc_yes {s : ByteArray} (h : 1 < (s.size : Int)) (hm : s.extract 0 2 = ⟨#[91, 45]⟩ ∨ s.extract 0 2 = ⟨#[45, 93]⟩ ∨ s.extract 0 2 = ⟨#[123, 43]⟩ ∨ s.extract 0 2 = ⟨#[43, 125]⟩) : PL (bytesOf s) = PL (bytesOf (s.extract 2 s.size)) := by
  rw [ext2 (by omega), ext2 (by omega), ext2 (by omega), ext2 (by omega)] at hm
  rw [bytes_rest]
  conv => lhs; rw [pl_two h]
  rw [PL, if_pos (show MK (gI (bytesOf s) 0) (gI (bytesOf s) 1) from hm)]
theorem pl_doc_no {s : ByteArray} (h0 : 0 < (s.size : Int)) (hm : ¬ (1 < (s.size : Int) ∧ (s.extract 0 2 = ⟨#[91, 45]⟩ ∨ s.extract 0 2 = ⟨#[45, 93]⟩ ∨ s.extract 0 2 = ⟨#[123, 43]⟩ ∨ s.extract 0 2 = ⟨#[43, 125]⟩))) : PL (bytesOf s) = bytesOf (s.extract 0 1) ++ PL (bytesOf (s.extract 1 s.size)) := by
  have h2 := pl_keep (s := s) (i := 0) (by omega) h0 (fun h => hm ⟨by omega, by
    rw [ext2 (by omega), ext2 (by omega), ext2 (by omega), ext2 (by omega)]; exact h.2⟩)
  have h3 : bytesOf (s.extract 0 1) = [gI (bytesOf s) 0] := by
    have a := drop1 (s := s) (i := 0) (by omega) h0
    rw [bytesOf_cut]
    have e : bytesOf s = (bytesOf s).drop (0 : Int).toNat := rfl
    conv => lhs; rw [e, a]
    rfl
  rw [bytes_rest, h3]
  exact h2
/-! steps taken one by one -/
section
variable {x y : List ByteArray} {p q st : List Int} {out : List Bt} {i j k : Int}
theorem al_step (h : AL p q (st.drop k.toNat) i j) (h0 : 0 ≤ k) (h1 : k < st.length) : (gI st k = 1 ∧ i < p.length ∧ j < q.length ∧ AL p q (st.drop (k + 1).toNat) (i + 1) (j + 1)) ∨ (gI st k = 2 ∧ i < p.length ∧ AL p q (st.drop (k + 1).toNat) (i + 1) j) ∨ (gI st k = 3 ∧ j < q.length ∧ AL p q (st.drop (k + 1).toNat) i (j + 1)) := by
  rw [drop_cons st h0 h1] at h
  rcases h with ⟨a, b, c, _, e⟩ | h | h
  · exact .inl ⟨a, b, c, e⟩
  · exact .inr (.inl h)
  · exact .inr (.inr h)
theorem al_in (h : AL p q (st.drop k.toNat) i j) (h0 : 0 ≤ k) (h1 : k < st.length) (hs : gI st k = 3) : AL p q (st.drop (k + 1).toNat) i (j + 1) := by
  rcases al_step h h0 h1 with ⟨a, _⟩ | ⟨a, _⟩ | ⟨_, _, a⟩
  · omega
  · omega
  · exact a
theorem al_keep (h : AL p q (st.drop k.toNat) i j) (h0 : 0 ≤ k) (h1 : k < st.length) (hs : gI st k = 1) : AL p q (st.drop (k + 1).toNat) (i + 1) (j + 1) := by
  rcases al_step h h0 h1 with ⟨_, _, _, a⟩ | ⟨a, _⟩ | ⟨a, _⟩
  · exact a
  · omega
  · omega
theorem al_out (h : AL p q (st.drop k.toNat) i j) (h0 : 0 ≤ k) (h1 : k < st.length) (hs : gI st k ≠ 3) (hs2 : gI st k ≠ 1) : AL p q (st.drop (k + 1).toNat) (i + 1) j := by
  rcases al_step h h0 h1 with ⟨a, _⟩ | ⟨_, _, a⟩ | ⟨a, _⟩
  · omega
  · exact a
  · omega
theorem edf_in (h0 : 0 ≤ k) (h1 : k < st.length) (hs : gI st k = 3) : EDF x y (st.drop k.toNat) i j out = EDF x y (st.drop (k + 1).toNat) i (j + 1) (LAYB out (gI st k) (y.getD j.toNat ByteArray.empty)) := by
  rw [drop_cons st h0 h1, EDF, if_pos hs]
theorem edf_keep (h0 : 0 ≤ k) (h1 : k < st.length) (hs : gI st k = 1) : EDF x y (st.drop k.toNat) i j out = EDF x y (st.drop (k + 1).toNat) (i + 1) (j + 1) (LAYB out (gI st k) (x.getD i.toNat ByteArray.empty)) := by
  rw [drop_cons st h0 h1, EDF, if_neg (by omega), if_pos hs]
theorem edf_out (h0 : 0 ≤ k) (h1 : k < st.length) (hs : gI st k ≠ 3) (hs2 : gI st k ≠ 1) : EDF x y (st.drop k.toNat) i j out = EDF x y (st.drop (k + 1).toNat) (i + 1) j (LAYB out (gI st k) (x.getD i.toNat ByteArray.empty)) := by
  rw [drop_cons st h0 h1, EDF, if_neg hs, if_neg hs2]
theorem edf_end (h1 : (st.length : Int) ≤ k) : EDF x y (st.drop k.toNat) i j out = out := by rw [List.drop_eq_nil_of_le (by omega), EDF]
theorem al_len : ∀ (st : List Int) (i j : Int), AL p q st i j → (st.length : Int) ≤ (p.length - i) + (q.length - j)
  | [], i, j, h => by obtain ⟨rfl, rfl⟩ := h; simp
  | s :: r, i, j, h => by
    rw [List.length_cons]
    rcases h with ⟨_, _, _, _, h⟩ | ⟨_, _, h⟩ | ⟨_, _, h⟩
    · have := al_len r _ _ h; omega
    · have := al_len r _ _ h; omega
    · have := al_len r _ _ h; omega
theorem edf_sz (hp : p.length = x.length) (hq : q.length = y.length) : ∀ (st : List Int) (i j : Int) (out : List Bt), 0 ≤ i → 0 ≤ j → AL p q st i j → szB (EDF x y st i j out) ≤ szB out + (cat (x.drop i.toNat)).size + (cat (y.drop j.toNat)).size ∧ (EDF x y st i j out).length ≤ out.length + st.length
  | [], i, j, out, _, _, _ => ⟨by rw [EDF]; omega, by rw [EDF]; simp⟩
  | s :: r, i, j, out, i0, j0, h => by
    have hl := fun t => LAYB_len out s t
    have hz := fun t => szB_lay out s t
    rw [EDF, List.length_cons]
    rcases h with ⟨rfl, h1, h2, _, h4⟩ | ⟨rfl, h1, h4⟩ | ⟨rfl, h2, h4⟩
    · rw [if_neg (by decide), if_pos rfl]
      have e := edf_sz hp hq r (i + 1) (j + 1) (LAYB out 1 (x.getD i.toNat ByteArray.empty)) (by omega) (by omega) h4
      rw [cat_drop i0 (by omega), cat_drop j0 (by omega), ByteArray.size_append, ByteArray.size_append]
      have := hl (x.getD i.toNat ByteArray.empty)
      have := hz (x.getD i.toNat ByteArray.empty)
      omega
    · rw [if_neg (by decide), if_neg (by decide)]
      have e := edf_sz hp hq r (i + 1) j (LAYB out 2 (x.getD i.toNat ByteArray.empty)) (by omega) j0 h4
      rw [cat_drop i0 (by omega), ByteArray.size_append]
      have := hl (x.getD i.toNat ByteArray.empty)
      have := hz (x.getD i.toNat ByteArray.empty)
      omega
    · rw [if_pos rfl]
      have e := edf_sz hp hq r i (j + 1) (LAYB out 3 (y.getD j.toNat ByteArray.empty)) i0 (by omega) h4
      rw [cat_drop j0 (by omega), ByteArray.size_append]
      have := hl (y.getD j.toNat ByteArray.empty)
      have := hz (y.getD j.toNat ByteArray.empty)
      omega
end
theorem EDT_sz (a b : ByteArray) : szB (EDT a b) ≤ a.size + b.size ∧ (EDT a b).length ≤ 800 := by
  by_cases h : (TOK a).length > 400 ∨ (TOK b).length > 400
  · unfold EDT; rw [if_pos h]; exact ⟨Nat.zero_le _, Nat.zero_le _⟩
  · have ha := EDT_al h
    have e := edf_sz (x := TOK a) (y := TOK b) (nnumL_len _ _) (nnumL_len _ _) _ 0 0 [] (Int.le_refl _) (Int.le_refl _) ha
    have h1 : cat ((TOK a).drop (0 : Int).toNat) = a := TOK_cat a
    have h2 : cat ((TOK b).drop (0 : Int).toNat) = b := TOK_cat b
    rw [h1, h2] at e
    have hl := al_len _ _ _ ha
    rw [nnumL_len, nnumL_len] at hl
    unfold EDT
    rw [if_neg h]
    have : szB ([] : List Bt) = 0 := rfl
    simp only [List.length_nil] at e
    omega
theorem WHL_sz (a b : ByteArray) : szB (WHL a b) ≤ a.size + b.size ∧ (WHL a b).length ≤ 2 := by
  unfold WHL szB
  split <;> split <;> simp
theorem sid_sz (no : Int) (l : List Bt) : (sid no l).size ≤ szB l := by
  have : ∀ n : Nat, n ≤ l.length → (sid no (l.take n)).size ≤ szB (l.take n) := by
    intro n
    induction n with
    | zero => intro _; simp [sid]; decide
    | succ n ih =>
      intro hn
      have e := Num.take_more (l := l) (j := (n : Int)) (0, ByteArray.empty) (by omega) (by omega)
      rw [show ((n : Int) + 1).toNat = n + 1 by omega, Int.toNat_natCast] at e
      have := ih (by omega)
      rw [e, sid_snoc, szB_snoc]
      split
      · rw [ByteArray.size_append]; omega
      · omega
  have h := this l.length (Nat.le_refl _)
  rwa [List.take_length] at h
theorem szB_take (l : List Bt) {k : Int} (h0 : 0 ≤ k) (h1 : k < l.length) : szB (l.take k.toNat) + (gB l k).2.size ≤ szB l := by
  show szB (l.take k.toNat) + (l.getD k.toNat (0, ByteArray.empty)).2.size ≤ szB l
  have e := congrArg szB (List.take_append_drop (k + 1).toNat l)
  have e2 := congrArg szB (Num.take_more (l := l) (j := k) (0, ByteArray.empty) h0 h1)
  rw [szB_snoc] at e2
  unfold szB at e e2 ⊢
  rw [List.map_append, List.sum_append] at e
  omega
theorem DECB_sz (p : Bt) : (DECB p).size ≤ p.2.size + 4 := by
  unfold DECB
  split
  · rw [ByteArray.size_append, ByteArray.size_append]; show 2 + p.2.size + 2 ≤ _; omega
  · split
    · rw [ByteArray.size_append, ByteArray.size_append]; show 2 + p.2.size + 2 ≤ _; omega
    · omega
theorem MRKB_sz (l : List Bt) {k : Int} (h0 : 0 ≤ k) (h1 : k ≤ l.length) : ((MRKB (l.take k.toNat)).size : Int) ≤ szB (l.take k.toNat) + 4 * k := by
  obtain ⟨n, rfl⟩ : ∃ n : Nat, k = (n : Int) := ⟨k.toNat, by omega⟩
  rw [Int.toNat_natCast]
  induction n with
  | zero => simp [MRKB]; decide
  | succ n ih =>
    have e := Num.take_more (l := l) (j := (n : Int)) (0, ByteArray.empty) (by omega) (by omega)
    rw [show ((n : Int) + 1).toNat = n + 1 by omega, Int.toNat_natCast] at e
    have := ih (by omega) (by omega)
    have := DECB_sz (l.getD n (0, ByteArray.empty))
    rw [e, MRKB_snoc, szB_snoc, ByteArray.size_append]
    omega
/-! first bytes -/
def FW (s : ByteArray) (k : Nat) : ByteArray := s.extract 0 (min s.size k)
theorem FW_sz (s : ByteArray) (k : Nat) : (FW s k).size ≤ k := by unfold FW; rw [ext_size s (by omega)]; omega
theorem fw_is {s : ByteArray} {k n : Nat} (h : n = min s.size k) : s.extract 0 n = FW s k := by unfold FW; rw [h]
end Go.Wds

namespace Go.Wds
open Go Go.Gv Go.Mys Go.Pat Go.Itn
theorem lay_set {out : List Bt} {d : Int} {t : ByteArray} (h0 : 0 < (out.length : Int)) (h : (gB out ((out.length : Int) - 1)).1 = d) : out.set ((out.length : Int) - 1).toNat ((gB out ((out.length : Int) - 1)).1, (gB out ((out.length : Int) - 1)).2 ++ t) = LAYB out d t := (if_pos ⟨h0, h⟩).symm
theorem lay_add {out : List Bt} {d : Int} {t : ByteArray} (h : 0 < (out.length : Int) → ¬ (gB out ((out.length : Int) - 1)).1 = d) : out ++ [(d, t)] = LAYB out d t := (if_neg fun h2 => h h2.1 h2.2).symm
/-- What the document knows of its last edit. -/
def LST (st : List Int) (out : List Bt) (k : Int) : Prop := (k = 0 → out.length = 0) ∧ (0 < k → 0 < (out.length : Int) ∧ (gB out ((out.length : Int) - 1)).1 = gI st (k - 1))
theorem LST.z (st : List Int) : LST st [] 0 := ⟨fun _ => rfl, fun h => by omega⟩
theorem LST.step {st : List Int} {out o2 : List Bt} {k : Int} {t : ByteArray} (h0 : 0 ≤ k) (e : o2 = LAYB out (gI st k) t) : LST st o2 (k + 1) := by
  subst e
  refine ⟨fun h => by omega, fun _ => ⟨by have := (LAYB_len out (gI st k) t).2.2; omega, ?_⟩⟩
  rw [show k + 1 - 1 = k by omega]; exact LAYB_last out (gI st k) t
theorem LST.set {st : List Int} {out : List Bt} {k : Int} {t : ByteArray} (h : LST st out k) (hk : k > 0) (he : gI st (k - 1) = gI st k) : out.set ((out.length : Int) - 1).toNat ((gB out ((out.length : Int) - 1)).1, (gB out ((out.length : Int) - 1)).2 ++ t) = LAYB out (gI st k) t := by
  have h1 := h.2 hk
  exact lay_set h1.1 (h1.2.trans he)
theorem LST.add {st : List Int} {out : List Bt} {k : Int} {t : ByteArray} (h : LST st out k) (h0 : 0 ≤ k) (he : ¬ (k > 0 ∧ gI st (k - 1) = gI st k)) : out ++ [(gI st k, t)] = LAYB out (gI st k) t := lay_add fun h1 h2 => by
  by_cases hk : k > 0
  · exact he ⟨hk, (h.2 hk).2.symm.trans h2⟩
  · have := h.1 (by omega); omega
theorem edt_fin {a b : ByteArray} {out : List Bt} {ix i j : Int} (hlg : ¬ ((TOK a).length > 400 ∨ (TOK b).length > 400)) (h : ((STP (nnumL [] (TOK a)) (nnumL (nkvL [] (TOK a)) (TOK b))).length : Int) ≤ ix)
    (q : EDF (TOK a) (TOK b) ((STP (nnumL [] (TOK a)) (nnumL (nkvL [] (TOK a)) (TOK b))).drop ix.toNat) i j out = EDF (TOK a) (TOK b) (STP (nnumL [] (TOK a)) (nnumL (nkvL [] (TOK a)) (TOK b))) 0 0 []) : out = EDT a b := by
  rw [edf_end h] at q
  unfold EDT
  rw [if_neg hlg]; exact q
theorem mark_long {a b : ByteArray} (h : (TOK a).length > 400 ∨ (TOK b).length > 400) : MARK a b = MRKB (WHL a b) := by unfold MARK; rw [if_pos h]
theorem mark_short {a b : ByteArray} (h : ¬ ((TOK a).length > 400 ∨ (TOK b).length > 400)) : MARK a b = MRKB (EDT a b) := by unfold MARK; rw [if_neg h]
theorem sz0 {a : ByteArray} (h : ¬ (a.size : Int) > 0) : a = ⟨#[]⟩ := bytesOf_inj (by
  have : bytesOf a = [] := List.eq_nil_of_length_eq_zero (by rw [bytesOf_len]; omega)
  rw [this]; rfl)
theorem sz1 {a : ByteArray} (h : (a.size : Int) > 0) : a ≠ ⟨#[]⟩ := fun e => by rw [e] at h; exact absurd h (by decide)
theorem dec2 (t : ByteArray) : DECB (2, t) = (⟨#[91, 45]⟩ ++ t) ++ ⟨#[45, 93]⟩ := rfl
theorem dec3 (t : ByteArray) : DECB (3, t) = (⟨#[123, 43]⟩ ++ t) ++ ⟨#[43, 125]⟩ := rfl
theorem nil_app (t : ByteArray) : (⟨#[]⟩ : ByteArray) ++ t = t := ByteArray.empty_append (b := t)
theorem whl_11 {a b : ByteArray} (ha : (a.size : Int) > 0) (hb : (b.size : Int) > 0) : MRKB (WHL a b) = ((((⟨#[91, 45]⟩ ++ a) ++ ⟨#[45, 93]⟩) ++ ⟨#[123, 43]⟩) ++ b) ++ ⟨#[43, 125]⟩ := by
  unfold WHL
  rw [if_neg (sz1 ha), if_neg (sz1 hb)]
  show (⟨#[]⟩ ++ DECB (2, a)) ++ DECB (3, b) = _
  rw [nil_app, dec2, dec3]; simp only [ByteArray.append_assoc]
theorem whl_10 {a b : ByteArray} (ha : (a.size : Int) > 0) (hb : ¬ (b.size : Int) > 0) : MRKB (WHL a b) = (⟨#[91, 45]⟩ ++ a) ++ ⟨#[45, 93]⟩ := by
  unfold WHL
  rw [if_neg (sz1 ha), if_pos (sz0 hb)]
  show ⟨#[]⟩ ++ DECB (2, a) = _
  rw [nil_app, dec2]
theorem whl_01 {a b : ByteArray} (ha : ¬ (a.size : Int) > 0) (hb : (b.size : Int) > 0) : MRKB (WHL a b) = ((⟨#[]⟩ ++ ⟨#[123, 43]⟩) ++ b) ++ ⟨#[43, 125]⟩ := by
  unfold WHL
  rw [if_pos (sz0 ha), if_neg (sz1 hb)]
  show ⟨#[]⟩ ++ DECB (3, b) = _
  rw [nil_app, dec3, nil_app]
theorem whl_00 {a b : ByteArray} (ha : ¬ (a.size : Int) > 0) (hb : ¬ (b.size : Int) > 0) : MRKB (WHL a b) = ⟨#[]⟩ := by
  unfold WHL
  rw [if_pos (sz0 ha), if_pos (sz0 hb)]; rfl
/-! ### what must be whatever is asked -/
theorem stp_live : STP [0, 1, 2, 1, 3] [0, 1, 2, 1, 4] = [1, 1, 1, 1, 2, 3] := by
  unfold STP
  have h4 : PR [3] [4] = [] := by
    rw [PR_apart (.inr (.inr ⟨by decide, by decide⟩)), if_pos (by decide +kernel)]
    exact List.eq_nil_of_length_eq_zero (by have := way_len _ [3] [4] 0 0 (Nat.le_refl _); simp [way, dist, prs] at this ⊢; try omega)
  rw [if_neg (by decide), PR_front, show efst [0, 1, 2, 1, 3] [0, 1, 2, 1, 4] = 4 by decide]
  show stp 5 5 (run 0 0 4 ++ mvd (PR [3] [4]) 4 4) 0 0 = _
  rw [h4]; decide
theorem mark_live : MARK ⟨#[120, 32, 61, 32, 49]⟩ ⟨#[120, 32, 61, 32, 50]⟩ = ⟨#[120, 32, 61, 32, 91, 45, 49, 45, 93, 123, 43, 50, 43, 125]⟩ := by
  have t1 : TOK ⟨#[120, 32, 61, 32, 49]⟩ = [⟨#[120]⟩, ⟨#[32]⟩, ⟨#[61]⟩, ⟨#[32]⟩, ⟨#[49]⟩] := by decide +kernel
  have t2 : TOK ⟨#[120, 32, 61, 32, 50]⟩ = [⟨#[120]⟩, ⟨#[32]⟩, ⟨#[61]⟩, ⟨#[32]⟩, ⟨#[50]⟩] := by decide +kernel
  rw [mark_short (by rw [t1, t2]; decide)]
  unfold EDT
  rw [t1, t2, if_neg (by decide)]
  rw [show nnumL [] [⟨#[120]⟩, ⟨#[32]⟩, ⟨#[61]⟩, ⟨#[32]⟩, ⟨#[49]⟩] = [0, 1, 2, 1, 3] by decide +kernel, show nnumL (nkvL [] [⟨#[120]⟩, ⟨#[32]⟩, ⟨#[61]⟩, ⟨#[32]⟩, ⟨#[49]⟩]) [⟨#[120]⟩, ⟨#[32]⟩, ⟨#[61]⟩, ⟨#[32]⟩, ⟨#[50]⟩] = [0, 1, 2, 1, 4] by decide +kernel, stp_live]
  decide +kernel
theorem tok_live : (TOK ⟨#[97, 98, 32, 32, 99, 59, 59]⟩).length = 5 := by decide +kernel
theorem pln_live : PLN ⟨#[97, 91, 45, 98, 45, 93]⟩ = ⟨#[97, 98]⟩ := by decide +kernel
end Go.Wds
