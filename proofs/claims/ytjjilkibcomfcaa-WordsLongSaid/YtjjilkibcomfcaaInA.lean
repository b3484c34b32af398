/- How often numbers are there, and where rows begin and end alike: plain. -/
import Derived.Test.YtjjilkibcomfcaaGvM
import Derived.Test.YtjjilkibcomfcaaGvG
namespace Go.Itn
open Go.Gv
theorem take_snoc {β : Type} {l : List β} {j : Int} (d : β) (h0 : 0 ≤ j) (h1 : j < l.length) : l.take (j + 1).toNat = l.take j.toNat ++ [l.getD j.toNat d] := by
  have hlt : j.toNat < l.length := by omega
  rw [show (j + 1).toNat = j.toNat + 1 by omega, List.take_add_one, List.getElem?_eq_getElem hlt]
  simp [List.getD, hlt]
theorem take_all {β : Type} {l : List β} {j : Int} (h : (l.length : Int) ≤ j) : l.take j.toNat = l := List.take_of_length_le (by omega)
abbrev KN := List (Int × Int)
def oft (l : List Int) : KN := l.foldl (fun kv n => updL kv n ((lookL kv n).getD 0 + 1)) []
theorem oft_snoc (l : List Int) (n : Int) : oft (l ++ [n]) = updL (oft l) n ((lookL (oft l) n).getD 0 + 1) := by unfold oft; rw [List.foldl_append]; rfl
theorem oft_gen (n : Int) : ∀ (l : List Int) (kv : KN), (lookL (l.foldl (fun kv n => updL kv n ((lookL kv n).getD 0 + 1)) kv) n).getD 0 = (lookL kv n).getD 0 + (l.count n : Int)
  | [], kv => by simp
  | x :: l, kv => by
    rw [List.foldl_cons, oft_gen n l, lookL_upd, List.count_cons]
    by_cases h : x = n
    · subst h; rw [if_pos rfl, Option.getD_some]; simp; omega
    · rw [if_neg h]; simp [h]
theorem oft_count (l : List Int) (n : Int) : (lookL (oft l) n).getD 0 = (l.count n : Int) := by
  have := oft_gen n l []
  simpa [oft, lookL] using this
theorem oft_le (l : List Int) (n : Int) : 0 ≤ (lookL (oft l) n).getD 0 ∧ (lookL (oft l) n).getD 0 ≤ l.length := by
  rw [oft_count]; have := List.count_le_length (a := n) (l := l); omega
theorem oft_step {l : List Int} {kv : KN} {i : Int} (h0 : 0 ≤ i) (h1 : i < l.length) (h : kv = oft (l.take i.toNat)) : updL kv (gI l i) ((lookL kv (gI l i)).getD 0 + 1) = oft (l.take (i + 1).toNat) := by
  rw [take_snoc 0 h0 h1, oft_snoc, ← h]
/-- A number's first place; -1: it is not there. -/
def idx (l : List Int) (n : Int) : Int := if n ∈ l then (l.idxOf n : Int) else -1
theorem idx_of {l : List Int} {n i : Int} (h0 : 0 ≤ i) (h1 : i < l.length) (h : n = gI l i) (hb : ∀ t, 0 ≤ t → t < i → ¬ n = gI l t) : i = idx l n := by
  have hlt : i.toNat < l.length := by omega
  have hmem : n ∈ l := by
    rw [h]; unfold gI; simp only [List.getD, hlt, List.getElem?_eq_getElem, Option.getD_some]; exact List.getElem_mem hlt
  unfold idx
  rw [if_pos hmem]
  have h2 : l.idxOf n = i.toNat := by
    have hle : l.idxOf n ≤ i.toNat := by
      rcases Nat.lt_or_ge i.toNat (l.idxOf n) with h' | h'
      · exfalso
        have := List.not_of_lt_findIdx (p := fun x => x == n) (xs := l) (i := i.toNat) h'
        have e : l[i.toNat] = n := by rw [h]; simp [gI, List.getD, hlt]
        simp [e] at this
      · exact h'
    rcases Nat.lt_or_ge (l.idxOf n) i.toNat with h' | h'
    · exfalso
      have hlt2 : l.idxOf n < l.length := by omega
      have e : l[l.idxOf n] = n := List.getElem_idxOf hlt2
      exact hb (l.idxOf n : Int) (by omega) (by omega) (by simp [gI, List.getD, hlt2, e])
    · omega
  omega
theorem idx_no {l : List Int} {n : Int} (hb : ∀ t, 0 ≤ t → t < (l.length : Int) → ¬ n = gI l t) : idx l n = -1 := by
  unfold idx
  rw [if_neg]
  intro h
  obtain ⟨k, hk, e⟩ := List.mem_iff_getElem.1 h
  exact hb k (by omega) (by omega) (by simp [gI, List.getD, hk, e])
theorem idx_bd {l : List Int} {n : Int} (h : l.count n = 1) : 0 ≤ idx l n ∧ idx l n < l.length ∧ gI l (idx l n) = n := by
  have hm : n ∈ l := List.count_pos_iff.1 (by omega)
  unfold idx
  rw [if_pos hm]
  have := List.idxOf_lt_length_of_mem hm
  refine ⟨by omega, by omega, ?_⟩
  simp [gI, List.getD, this]
/-- What is there once in both. -/
def onc1 (a b : List Int) (i : Int) : List (Int × Int) := if a.count (gI a i) = 1 ∧ b.count (gI a i) = 1 then [(i, idx b (gI a i))] else []
def oncT (a b : List Int) (k : Nat) : List (Int × Int) := (List.range k).flatMap fun (t : Nat) => onc1 a b (t : Int)
def onc (a b : List Int) : List (Int × Int) := oncT a b a.length
theorem oncT_snoc (a b : List Int) {i : Int} (h0 : 0 ≤ i) : oncT a b (i + 1).toNat = oncT a b i.toNat ++ onc1 a b i := by
  unfold oncT
  rw [show (i + 1).toNat = i.toNat + 1 by omega, List.range_succ, List.flatMap_append]
  simp [Int.toNat_of_nonneg h0]
theorem onc1_len (a b : List Int) (i : Int) : (onc1 a b i).length ≤ 1 := by unfold onc1; split <;> simp
theorem oncT_len (a b : List Int) (k : Nat) : (oncT a b k).length ≤ k := by
  induction k with
  | zero => simp [oncT]
  | succ k ih =>
    have := oncT_snoc a b (i := k) (by omega)
    rw [show ((k : Int) + 1).toNat = k + 1 by omega, show (k : Int).toNat = k by omega] at this
    rw [this, List.length_append]
    have := onc1_len a b k
    omega
section
variable {a b : List Int} {i k : Int} {out : List (Int × Int)}
theorem onc_yes (h0 : 0 ≤ i) (h : out = oncT a b i.toNat) (ha : a.count (gI a i) = 1) (hb : b.count (gI a i) = 1) : out ++ [(i, idx b (gI a i))] = oncT a b (i + 1).toNat := by
  rw [oncT_snoc a b h0, h, onc1, if_pos ⟨ha, hb⟩]
theorem onc_no (h0 : 0 ≤ i) (h : out = oncT a b i.toNat) (hn : ¬ (a.count (gI a i) = 1 ∧ b.count (gI a i) = 1)) : out = oncT a b (i + 1).toNat := by
  rw [oncT_snoc a b h0, h, onc1, if_neg hn, List.append_nil]
/-- Within one place of a: how far b has been searched. -/
def onc2 (a b : List Int) (i k : Int) : List (Int × Int) := if a.count (gI a i) = 1 ∧ b.count (gI a i) = 1 ∧ idx b (gI a i) < k then [(i, idx b (gI a i))] else []
theorem onc2_0 (a b : List Int) (i : Int) : onc2 a b i 0 = [] := by
  unfold onc2
  rw [if_neg]
  intro h
  have := (idx_bd h.2.1).1
  omega
theorem onc2_end (h : (b.length : Int) ≤ k) : onc2 a b i k = onc1 a b i := by
  unfold onc2 onc1
  by_cases h1 : a.count (gI a i) = 1 ∧ b.count (gI a i) = 1
  · rw [if_pos h1, if_pos ⟨h1.1, h1.2, by have := (idx_bd h1.2).2.1; omega⟩]
  · rw [if_neg h1, if_neg (fun h => h1 ⟨h.1, h.2.1⟩)]
theorem gI_mem_take {b : List Int} {p q : Int} (h0 : 0 ≤ p) (h1 : p < q) (h2 : q ≤ b.length) : gI b p ∈ b.take q.toNat := by
  have hlt : p.toNat < (b.take q.toNat).length := by rw [List.length_take]; omega
  have : gI b p = (b.take q.toNat)[p.toNat] := by simp [gI, List.getD, show p.toNat < b.length by omega]
  rw [this]; exact List.getElem_mem hlt
theorem gI_mem_drop {b : List Int} {q : Int} (h0 : 0 ≤ q) (h2 : q < b.length) : gI b q ∈ b.drop q.toNat := by
  have hlt : 0 < (b.drop q.toNat).length := by rw [List.length_drop]; omega
  have : gI b q = (b.drop q.toNat)[0] := by simp [gI, List.getD, show q.toNat < b.length by omega]
  rw [this]; exact List.getElem_mem hlt
theorem two_places {b : List Int} {n p q : Int} (h0 : 0 ≤ p) (h1 : p < q) (h2 : q < b.length) (hp : gI b p = n) (hq : gI b q = n) : 2 ≤ b.count n := by
  have e : b.count n = (b.take q.toNat).count n + (b.drop q.toNat).count n := by rw [← List.count_append, List.take_append_drop]
  have m1 := List.count_pos_iff.2 (hp ▸ gI_mem_take h0 h1 (by omega))
  have m2 := List.count_pos_iff.2 (hq ▸ gI_mem_drop (by omega) h2)
  omega
theorem once_at {b : List Int} {n k : Int} (h0 : 0 ≤ k) (h1 : k < b.length) (h : n = gI b k) (hc : b.count n = 1) : idx b n = k := by
  obtain ⟨p1, p2, p3⟩ := idx_bd hc
  rcases Int.lt_trichotomy (idx b n) k with h' | h' | h'
  · have := two_places p1 h' h1 p3 h.symm; omega
  · exact h'
  · have := two_places h0 h' p2 h.symm p3; omega
theorem onc2_yes (h0 : 0 ≤ k) (h1 : k < b.length) (he : gI a i = gI b k) (ha : a.count (gI a i) = 1) (hb : b.count (gI a i) = 1) : onc2 a b i k ++ [(i, k)] = onc2 a b i (k + 1) := by
  have hi := once_at h0 h1 he hb
  unfold onc2
  rw [if_neg (by omega), if_pos ⟨ha, hb, by omega⟩, hi]; rfl
theorem onc2_no (_h0 : 0 ≤ k) (_h1 : k < b.length) (hn : ¬ (gI a i = gI b k ∧ a.count (gI a i) = 1 ∧ b.count (gI a i) = 1)) : onc2 a b i k = onc2 a b i (k + 1) := by
  unfold onc2
  by_cases h : a.count (gI a i) = 1 ∧ b.count (gI a i) = 1 ∧ idx b (gI a i) < k
  · rw [if_pos h, if_pos ⟨h.1, h.2.1, by omega⟩]
  · rw [if_neg h, if_neg]
    rintro ⟨h2, h3, h4⟩
    have h5 : idx b (gI a i) = k := by
      rcases Decidable.em (idx b (gI a i) < k) with h' | h'
      · exact absurd ⟨h2, h3, h'⟩ h
      · omega
    have := (idx_bd h3).2.2
    rw [h5] at this
    exact hn ⟨this.symm, h2, h3⟩
theorem onc2_len (a b : List Int) (i k : Int) : (onc2 a b i k).length ≤ 1 := by unfold onc2; split <;> simp
theorem count_step {l : List Int} {i n c : Int} (h0 : 0 ≤ i) (h1 : i < l.length) (h : c = ((l.take i.toNat).count n : Int)) : (gI l i = n → c + 1 = ((l.take (i + 1).toNat).count n : Int)) ∧ (¬ gI l i = n → c = ((l.take (i + 1).toNat).count n : Int)) := by
  rw [take_snoc 0 h0 h1, List.count_append, List.count_singleton]
  refine ⟨fun e => ?_, fun e => ?_⟩
  · rw [show l.getD i.toNat 0 = n from e]; simp; omega
  · have : ¬ l.getD i.toNat 0 = n := e
    rw [if_neg (by simpa using this)]; simpa using h
end
/-! ### ends -/
def efst : List Int → List Int → Nat
  | x :: xs, y :: ys => if x = y then efst xs ys + 1 else 0
  | _, _ => 0
def elst (a b : List Int) : Nat := efst (a.drop (efst a b)).reverse (b.drop (efst a b)).reverse
theorem efst_le (a b : List Int) : efst a b ≤ a.length ∧ efst a b ≤ b.length := by
  induction a generalizing b with
  | nil => simp [efst]
  | cons x xs ih =>
    cases b with
    | nil => simp [efst]
    | cons y ys =>
      unfold efst
      have := ih ys
      split <;> simp <;> omega
theorem efst_of {a b : List Int} {k : Nat} (h1 : k ≤ a.length) (h2 : k ≤ b.length) (h : ∀ t : Nat, t < k → a.getD t 0 = b.getD t 0) (he : k < a.length → k < b.length → ¬ a.getD k 0 = b.getD k 0) : efst a b = k := by
  induction a generalizing b k with
  | nil => simp at h1; subst h1; cases b <;> rfl
  | cons x xs ih =>
    cases b with
    | nil => simp at h2; subst h2; rfl
    | cons y ys =>
      unfold efst
      cases k with
      | zero => rw [if_neg]; simpa using he (by simp) (by simp)
      | succ k =>
        rw [if_pos (by simpa using h 0 (by omega)), ih (k := k) (by simpa using h1) (by simpa using h2) (fun t ht => by simpa using h (t + 1) (by omega)) (fun q1 q2 => by simpa using he (by simpa using q1) (by simpa using q2))]
theorem efst_I {a b : List Int} {k : Int} (h0 : 0 ≤ k) (h1 : k ≤ a.length) (h2 : k ≤ b.length) (h : ∀ t, 0 ≤ t → t < k → gI a t = gI b t) (he : k < a.length → k < b.length → ¬ gI a k = gI b k) : k = efst a b := by
  have := efst_of (a := a) (b := b) (k := k.toNat) (by omega) (by omega) (fun t ht => by simpa [gI] using h t (by omega) (by omega)) (fun q1 q2 => he (by omega) (by omega))
  omega
theorem getD_rev {l : List Int} {t : Nat} (h : t < l.length) : l.reverse.getD t 0 = l.getD (l.length - 1 - t) 0 := by
  have h2 : l.length - 1 - t < l.length := by omega
  simp [List.getD, h, h2]
theorem elst_I {a b : List Int} {f k : Int} (hf : f = efst a b) (h0 : 0 ≤ k) (h1 : k ≤ a.length - f) (h2 : k ≤ b.length - f) (h : ∀ t, 0 ≤ t → t < k → gI a (a.length - 1 - t) = gI b (b.length - 1 - t))
    (he : k < a.length - f → k < b.length - f → ¬ gI a (a.length - 1 - k) = gI b (b.length - 1 - k)) : k = elst a b := by
  have hl := efst_le a b
  have g1 : ∀ t : Nat, t < a.length - efst a b → (a.drop (efst a b)).reverse.getD t 0 = gI a (a.length - 1 - t) := fun t ht => by
    rw [getD_rev (by rw [List.length_drop]; omega), List.length_drop]
    unfold gI
    simp only [List.getD, List.getElem?_drop]
    rw [show efst a b + (a.length - efst a b - 1 - t) = ((a.length : Int) - 1 - t).toNat by omega]
  have g2 : ∀ t : Nat, t < b.length - efst a b → (b.drop (efst a b)).reverse.getD t 0 = gI b (b.length - 1 - t) := fun t ht => by
    rw [getD_rev (by rw [List.length_drop]; omega), List.length_drop]
    unfold gI
    simp only [List.getD, List.getElem?_drop]
    rw [show efst a b + (b.length - efst a b - 1 - t) = ((b.length : Int) - 1 - t).toNat by omega]
  have := efst_of (a := (a.drop (efst a b)).reverse) (b := (b.drop (efst a b)).reverse) (k := k.toNat) (by simp; omega) (by simp; omega) (fun t ht => by rw [g1 t (by omega), g2 t (by omega)]; exact h t (by omega) (by omega))
    (fun q1 q2 => by
      simp only [List.length_reverse, List.length_drop] at q1 q2
      rw [g1 _ (by omega), g2 _ (by omega), show ((k.toNat : Nat) : Int) = k by omega]
      exact he (by omega) (by omega))
  unfold elst
  omega
end Go.Itn
namespace Go.Itn
open Go.Gv
theorem ends_get {a a2 : List Int} {f l : Int} (h : a2 = (a.take (a.length - l.toNat)).drop f.toNat) (h0 : 0 ≤ l) (h1 : 0 ≤ f) (h2 : f + l < a.length) : gI a2 ((a2.length : Int) - 1) = gI a ((a.length : Int) - 1 - l) := by
  have hl : a2.length = a.length - l.toNat - f.toNat := by rw [h, List.length_drop, List.length_take]; omega
  rw [h] at hl ⊢
  unfold gI
  simp only [List.getD, List.getElem?_drop, List.getElem?_take]
  rw [if_pos (by rw [hl]; omega), hl]
  congr 2
  omega
theorem ends_cut {a a2 : List Int} {f l : Int} {k : Nat} (h : a2 = (a.take (a.length - l.toNat)).drop f.toNat) (h0 : 0 ≤ l) (hk : (k : Int) = a2.length - 1) : (a2.take k).drop 0 = (a.take (a.length - (l + 1).toNat)).drop f.toNat := by
  have hl : a2.length = a.length - l.toNat - f.toNat := by rw [h, List.length_drop, List.length_take]; omega
  rw [List.drop_zero, h, List.take_drop, List.take_take]
  congr 2
  omega
end Go.Itn
