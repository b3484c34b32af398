/- Sorting by merging in place: what each part does: plain. -/
import Derived.Test.YtomeffnlmefnlaaFlB
namespace Go.Flt
open Go Go.Gv
def SWP (l : List Nat) (i j : Int) : List Nat := (l.set i.toNat (l.getD j.toNat 0)).set j.toNat (l.getD i.toNat 0)
def swp (i j t : Int) : Int := if t = i then j else if t = j then i else t
def sw2 (a b n t : Int) : Int := if a ≤ t ∧ t < a + n then t - a + b else if b ≤ t ∧ t < b + n then t - b + a else t
def rho (a m b t : Int) : Int := if a ≤ t ∧ t < a + (b - m) then t - a + m else if a + (b - m) ≤ t ∧ t < b then t - (b - m) else t
def shl (a k t : Int) : Int := if a ≤ t ∧ t < k then t + 1 else if t = k then a else t
def shr (m k t : Int) : Int := if k < t ∧ t ≤ m then t - 1 else if t = k then m else t
/-- ys holds what xs does, read through f. -/
def Re (xs ys : List Nat) (f : Int → Int) : Prop := ys.Perm xs ∧ ∀ t : Int, 0 ≤ t → ys.getD t.toNat 0 = xs.getD (f t).toNat 0
theorem Re.len {xs ys : List Nat} {f : Int → Int} (h : Re xs ys f) : ys.length = xs.length := h.1.length_eq
theorem Re.comp {xs ys zs : List Nat} {f g h : Int → Int} (h1 : Re xs ys f) (h2 : Re ys zs g) (hp : ∀ t, 0 ≤ t → 0 ≤ g t) (he : ∀ t, 0 ≤ t → f (g t) = h t) : Re xs zs h :=
  ⟨h2.1.trans h1.1, fun t h0 => by rw [h2.2 t h0, h1.2 _ (hp t h0), he t h0]⟩
theorem Re.id {xs : List Nat} {f : Int → Int} (h : ∀ t, 0 ≤ t → f t = t) : Re xs xs f := ⟨List.Perm.refl _, fun t h0 => by rw [h t h0]⟩
theorem SWP_re {l : List Nat} {i j : Int} (hi : 0 ≤ i) (hi' : i < l.length) (hj : 0 ≤ j) (hj' : j < l.length) : Re l (SWP l i j) (swp i j) := by
  have ei : l.getD i.toNat 0 = l[i.toNat]'(by omega) := by rw [List.getD_eq_getElem?_getD, List.getElem?_eq_getElem (by omega)]; rfl
  have ej : l.getD j.toNat 0 = l[j.toNat]'(by omega) := by rw [List.getD_eq_getElem?_getD, List.getElem?_eq_getElem (by omega)]; rfl
  refine ⟨?_, fun t h0 => ?_⟩
  · unfold SWP; rw [ei, ej]
    exact List.set_set_perm (by omega) (by omega)
  · unfold SWP swp
    simp only [List.getD_eq_getElem?_getD, List.getElem?_set, List.length_set]
    by_cases h1 : t = i
    · rw [if_pos h1]
      by_cases h2 : t = j
      · rw [if_pos (by omega), if_pos (by omega)]
        have : i = j := by omega
        subst this; simp
      · rw [if_neg (by omega), if_pos (by omega), if_pos (by omega)]; simp
    · rw [if_neg h1]
      by_cases h2 : t = j
      · rw [if_pos h2, if_pos (by omega), if_pos (by omega)]; simp
      · rw [if_neg h2, if_neg (by omega), if_neg (by omega)]
theorem SWP_len (l : List Nat) (i j : Int) : (SWP l i j).length = l.length := by simp [SWP]
/-! ### parts changed for one another -/
theorem sw2_0 (xs : List Nat) (a b : Int) : Re xs xs (sw2 a b 0) := Re.id fun t _ => by unfold sw2; rw [if_neg (by omega), if_neg (by omega)]
theorem sw2_step {xs ys : List Nat} {a b i : Int} (h : Re xs ys (sw2 a b i)) (h0 : 0 ≤ a) (hi : 0 ≤ i) (hab : a + i < b) (hb : b + i < xs.length) : Re xs (SWP ys (a + i) (b + i)) (sw2 a b (i + 1)) := by
  have hl := h.len
  refine h.comp (SWP_re (by omega) (by omega) (by omega) (by omega)) (fun t ht => by unfold swp; split <;> (try split) <;> omega) (fun t ht => ?_)
  unfold swp sw2
  by_cases h1 : t = a + i
  · rw [if_pos h1, if_neg (by omega), if_neg (by omega), if_pos (by omega)]; omega
  · rw [if_neg h1]
    by_cases h2 : t = b + i
    · rw [if_pos h2, if_neg (by omega), if_neg (by omega), if_neg (by omega), if_pos (by omega)]; omega
    · rw [if_neg h2]
      by_cases h3 : a ≤ t ∧ t < a + i
      · rw [if_pos h3, if_pos (by omega)]
      · rw [if_neg h3, if_neg (show ¬ (a ≤ t ∧ t < a + (i + 1)) by omega)]
        by_cases h4 : b ≤ t ∧ t < b + i
        · rw [if_pos h4, if_pos (by omega)]
        · rw [if_neg h4, if_neg (by omega)]
/-! ### turning -/
def RotTo (xs ys : List Nat) (a m b i j : Int) : Prop := ys.length = xs.length ∧ ∀ zs, Re ys zs (rho (m - i) m (m + j)) → Re xs zs (rho a m b)
theorem RotTo.z {xs : List Nat} {a m b i j : Int} (hi : i = m - a) (hj : j = b - m) : RotTo xs xs a m b i j := ⟨rfl, fun zs h => by rw [show m - i = a by omega, show m + j = b by omega] at h; exact h⟩
theorem rho_pos {a m b t : Int} (h0 : 0 ≤ a) (h1 : a ≤ m) (_ : m ≤ b) (ht : 0 ≤ t) : 0 ≤ rho a m b t := by
  unfold rho
  by_cases h3 : a ≤ t ∧ t < a + (b - m)
  · rw [if_pos h3]; omega
  · rw [if_neg h3]
    by_cases h4 : a + (b - m) ≤ t ∧ t < b
    · rw [if_pos h4]; omega
    · rw [if_neg h4]; omega
theorem RotTo.gt {xs ys ys' : List Nat} {a m b i j : Int} (h : RotTo xs ys a m b i j) (hi : j < i) (hj : 0 < j) (h0 : 0 ≤ m - i) (hs : Re ys ys' (sw2 (m - i) m j)) : RotTo xs ys' a m b (i - j) j :=
  ⟨hs.len.trans h.1, fun zs hz => h.2 zs (hs.comp hz (fun t ht => rho_pos (by omega) (by omega) (by omega) ht) fun t ht => by
    unfold rho
    by_cases h1 : m - i ≤ t ∧ t < m - i + j
    · rw [if_neg (by omega), if_neg (by omega), if_pos (by omega)]; unfold sw2; rw [if_pos (by omega)]
    · by_cases h2 : m - i + j ≤ t ∧ t < m
      · rw [if_neg (show ¬ (m - i ≤ t ∧ t < m - i + (m + j - m)) by omega), if_pos (show m - i + (m + j - m) ≤ t ∧ t < m + j by omega)]
        by_cases h3 : m - (i - j) ≤ t ∧ t < m - (i - j) + (m + j - m)
        · rw [if_pos h3]; unfold sw2; rw [if_neg (by omega), if_pos (by omega)]; omega
        · rw [if_neg h3, if_pos (by omega)]; unfold sw2; rw [if_neg (by omega), if_neg (by omega)]
      · by_cases h3 : m ≤ t ∧ t < m + j
        · rw [if_neg (show ¬ (m - i ≤ t ∧ t < m - i + (m + j - m)) by omega), if_pos (show m - i + (m + j - m) ≤ t ∧ t < m + j by omega)]
          by_cases h4 : m - (i - j) ≤ t ∧ t < m - (i - j) + (m + j - m)
          · rw [if_pos h4]; unfold sw2; rw [if_neg (by omega), if_pos (by omega)]; omega
          · rw [if_neg h4, if_pos (by omega)]; unfold sw2; rw [if_neg (by omega), if_neg (by omega)]
        · rw [if_neg (by omega), if_neg (by omega), if_neg (by omega), if_neg (by omega)]; unfold sw2; rw [if_neg (by omega), if_neg (by omega)])⟩
theorem RotTo.lt {xs ys ys' : List Nat} {a m b i j : Int} (h : RotTo xs ys a m b i j) (hi : i < j) (hj : 0 < i) (h0 : 0 ≤ m - i) (hs : Re ys ys' (sw2 (m - i) (m + j - i) i)) : RotTo xs ys' a m b i (j - i) :=
  ⟨hs.len.trans h.1, fun zs hz => h.2 zs (hs.comp hz (fun t ht => rho_pos (by omega) (by omega) (by omega) ht) fun t ht => by
    unfold rho
    by_cases h1 : m - i ≤ t ∧ t < m - i + (m + j - m)
    · rw [if_pos h1]
      by_cases h3 : m - i ≤ t ∧ t < m - i + (m + (j - i) - m)
      · rw [if_pos h3]; unfold sw2; rw [if_neg (by omega), if_neg (by omega)]
      · rw [if_neg h3]
        by_cases h4 : m - i + (m + (j - i) - m) ≤ t ∧ t < m + (j - i)
        · rw [if_pos h4]; unfold sw2; rw [if_pos (by omega)]; omega
        · omega
    · rw [if_neg h1]
      by_cases h2 : m - i + (m + j - m) ≤ t ∧ t < m + j
      · rw [if_pos h2, if_neg (by omega), if_neg (by omega)]; unfold sw2; rw [if_neg (by omega), if_pos (by omega)]; omega
      · rw [if_neg h2, if_neg (by omega), if_neg (by omega)]; unfold sw2; rw [if_neg (by omega), if_neg (by omega)])⟩
theorem RotTo.fin {xs ys ys' : List Nat} {a m b i j : Int} (h : RotTo xs ys a m b i j) (hi : i = j) (hs : Re ys ys' (sw2 (m - i) m i)) : Re xs ys' (rho a m b) := by
  subst hi
  refine h.2 ys' ⟨hs.1, fun t ht => ?_⟩
  rw [hs.2 t ht]
  congr 2
  unfold sw2 rho
  by_cases h1 : m - i ≤ t ∧ t < m - i + i
  · rw [if_pos h1, if_pos (by omega)]
  · rw [if_neg h1, if_neg (show ¬ (m - i ≤ t ∧ t < m - i + (m + i - m)) by omega)]
    by_cases h2 : m ≤ t ∧ t < m + i
    · rw [if_pos h2, if_pos (by omega)]; omega
    · rw [if_neg h2, if_neg (by omega)]
theorem rho_id {xs : List Nat} {a m b : Int} (h : a = m ∨ m = b) : Re xs xs (rho a m b) := Re.id fun t _ => by
  unfold rho
  by_cases h1 : a ≤ t ∧ t < a + (b - m)
  · rw [if_pos h1]; omega
  · rw [if_neg h1]
    by_cases h2 : a + (b - m) ≤ t ∧ t < b
    · rw [if_pos h2]; omega
    · rw [if_neg h2]
/-! ### shifts -/
theorem shl_0 (xs : List Nat) (a : Int) : Re xs xs (shl a a) := Re.id fun t _ => by
  unfold shl; rw [if_neg (by omega)]; split <;> omega
theorem shl_step {xs ys : List Nat} {a k : Int} (h : Re xs ys (shl a k)) (h0 : 0 ≤ a) (hk : a ≤ k) (hl : k + 1 < xs.length) : Re xs (SWP ys k (k + 1)) (shl a (k + 1)) := by
  have hl' := h.len
  refine h.comp (SWP_re (by omega) (by omega) (by omega) (by omega)) (fun t ht => by unfold swp; split <;> (try split) <;> omega) (fun t ht => ?_)
  unfold swp shl
  by_cases h1 : t = k
  · rw [if_pos h1, if_neg (by omega), if_neg (by omega), if_pos (by omega)]; omega
  · rw [if_neg h1]
    by_cases h2 : t = k + 1
    · rw [if_pos h2, if_neg (by omega), if_pos rfl, if_neg (by omega), if_pos h2]
    · rw [if_neg h2]
      by_cases h3 : a ≤ t ∧ t < k
      · rw [if_pos h3, if_pos (by omega)]
      · rw [if_neg h3, if_neg h1, if_neg (by omega), if_neg h2]
theorem shr_0 (xs : List Nat) (m : Int) : Re xs xs (shr m m) := Re.id fun t _ => by
  unfold shr; rw [if_neg (by omega)]; split <;> omega
theorem shr_step {xs ys : List Nat} {m k : Int} (h : Re xs ys (shr m k)) (h0 : 0 < k) (hk : k ≤ m) (hl : m < xs.length) : Re xs (SWP ys k (k - 1)) (shr m (k - 1)) := by
  have hl' := h.len
  refine h.comp (SWP_re (by omega) (by omega) (by omega) (by omega)) (fun t ht => by unfold swp; split <;> (try split) <;> omega) (fun t ht => ?_)
  unfold swp shr
  by_cases h1 : t = k
  · rw [if_pos h1, if_neg (by omega), if_neg (by omega), if_pos (by omega)]; omega
  · rw [if_neg h1]
    by_cases h2 : t = k - 1
    · rw [if_pos h2, if_neg (by omega), if_pos rfl, if_neg (by omega), if_pos h2]
    · rw [if_neg h2]
      by_cases h3 : k < t ∧ t ≤ m
      · rw [if_pos h3, if_pos (by omega)]
      · rw [if_neg h3, if_neg h1, if_neg (by omega), if_neg h2]
/-! ### in order -/
structure MG (xs ys : List Nat) (a b : Int) : Prop where
  pm : ys.Perm xs
  out : ∀ t : Int, 0 ≤ t → (t < a ∨ b ≤ t) → ys.getD t.toNat 0 = xs.getD t.toNat 0
  frm : ∀ t : Int, a ≤ t → t < b → ∃ u : Int, a ≤ u ∧ u < b ∧ ys.getD t.toNat 0 = xs.getD u.toNat 0
theorem MG.len {xs ys : List Nat} {a b : Int} (h : MG xs ys a b) : ys.length = xs.length := h.pm.length_eq
theorem MG.refl (xs : List Nat) (a b : Int) : MG xs xs a b := ⟨List.Perm.refl _, fun _ _ _ => rfl, fun t h1 h2 => ⟨t, h1, h2, rfl⟩⟩
theorem MG.trans {xs ys zs : List Nat} {a b : Int} (h : MG xs ys a b) (h' : MG ys zs a b) : MG xs zs a b :=
  ⟨h'.pm.trans h.pm, fun t h0 h1 => (h'.out t h0 h1).trans (h.out t h0 h1), fun t h1 h2 => by
    obtain ⟨u, u1, u2, e⟩ := h'.frm t h1 h2
    obtain ⟨v, v1, v2, e'⟩ := h.frm u u1 u2
    exact ⟨v, v1, v2, e.trans e'⟩⟩
theorem MG.wide {xs ys : List Nat} {a b a' b' : Int} (h : MG xs ys a b) (h0 : 0 ≤ a') (ha : a' ≤ a) (hb : b ≤ b') : MG xs ys a' b' :=
  ⟨h.pm, fun t h0 h1 => h.out t h0 (by omega), fun t h1 h2 => by
    by_cases hc : a ≤ t ∧ t < b
    · obtain ⟨u, u1, u2, e⟩ := h.frm t hc.1 hc.2
      exact ⟨u, by omega, by omega, e⟩
    · exact ⟨t, h1, h2, h.out t (by omega) (by omega)⟩⟩
theorem Re.mg {xs ys : List Nat} {f : Int → Int} {a b : Int} (h : Re xs ys f) (h0 : 0 ≤ a) (h1 : ∀ t, 0 ≤ t → (t < a ∨ b ≤ t) → f t = t) (h2 : ∀ t, a ≤ t → t < b → a ≤ f t ∧ f t < b) : MG xs ys a b :=
  ⟨h.1, fun t ht hc => by rw [h.2 t ht, h1 t ht hc], fun t t1 t2 => ⟨f t, (h2 t t1 t2).1, (h2 t t1 t2).2, h.2 t (by omega)⟩⟩
abbrev ky (l : List Nat) (t : Int) : Int := tk (l.getD t.toNat 0)
def SRT (l : List Nat) (a b : Int) : Prop := ∀ t u : Int, a ≤ t → t ≤ u → u < b → tk (l.getD t.toNat 0) ≤ tk (l.getD u.toNat 0)
theorem SRT.sub {l : List Nat} {a b a' b' : Int} (h : SRT l a b) (ha : a ≤ a') (hb : b' ≤ b) : SRT l a' b' := fun t u h1 h2 h3 => h t u (by omega) h2 (by omega)
theorem SRT.one (l : List Nat) {a b : Int} (h : b ≤ a + 1) : SRT l a b := fun t u h1 h2 h3 => by rw [show u = t by omega]; exact Int.le_refl _
theorem SRT.mg {xs ys : List Nat} {a b a' b' : Int} (h : SRT xs a b) (hm : MG xs ys a' b') (h0 : 0 ≤ a) (hd : b ≤ a' ∨ b' ≤ a) : SRT ys a b := fun t u h1 h2 h3 => by
  rw [hm.out t (by omega) (by omega), hm.out u (by omega) (by omega)]; exact h t u h1 h2 h3
/-- One is put in from the front. -/
theorem ins_l {xs ys : List Nat} {a m b i k : Int} (h0 : 0 ≤ a) (hm : m - a = 1) (hi : m ≤ i) (hib : i ≤ b) (hs : SRT xs m b) (h1 : ∀ t : Int, m ≤ t → t < i → tk (xs.getD t.toNat 0) < tk (xs.getD a.toNat 0)) (h2 : ∀ t : Int, i ≤ t → t < b → tk (xs.getD a.toNat 0) ≤ tk (xs.getD t.toNat 0)) (hk : k = i - 1) (h : Re xs ys (shl a k)) : MG xs ys a b ∧ SRT ys a b := by
  refine ⟨h.mg h0 (fun t ht hc => ?_) (fun t t1 t2 => ?_), fun t u t1 t2 t3 => ?_⟩
  · unfold shl; rw [if_neg (by omega), if_neg (by omega)]
  · unfold shl
    by_cases hc : a ≤ t ∧ t < k
    · rw [if_pos hc]; omega
    · rw [if_neg hc]; split <;> omega
  · rw [h.2 t (by omega), h.2 u (by omega)]
    unfold shl
    by_cases c1 : a ≤ t ∧ t < k
    · rw [if_pos c1]
      by_cases c2 : a ≤ u ∧ u < k
      · rw [if_pos c2]; exact hs _ _ (by omega) (by omega) (by omega)
      · rw [if_neg c2]
        by_cases c3 : u = k
        · rw [if_pos c3]; exact Int.le_of_lt (h1 _ (by omega) (by omega))
        · rw [if_neg c3]; exact hs _ _ (by omega) (by omega) (by omega)
    · rw [if_neg c1, if_neg (show ¬ (a ≤ u ∧ u < k) by omega)]
      by_cases c2 : t = k
      · rw [if_pos c2]
        by_cases c3 : u = k
        · rw [if_pos c3]; exact Int.le_refl _
        · rw [if_neg c3]; exact h2 _ (by omega) (by omega)
      · rw [if_neg c2, if_neg (by omega)]; exact hs _ _ (by omega) (by omega) (by omega)
/-- One is put in from behind. -/
theorem ins_r {xs ys : List Nat} {a m b i k : Int} (h0 : 0 ≤ a) (hb : b - m = 1) (hi : a ≤ i) (him : i ≤ m) (hs : SRT xs a m) (h1 : ∀ t : Int, a ≤ t → t < i → tk (xs.getD t.toNat 0) ≤ tk (xs.getD m.toNat 0)) (h2 : ∀ t : Int, i ≤ t → t < m → tk (xs.getD m.toNat 0) < tk (xs.getD t.toNat 0)) (hk : k = i) (h : Re xs ys (shr m k)) : MG xs ys a b ∧ SRT ys a b := by
  refine ⟨h.mg h0 (fun t ht hc => ?_) (fun t t1 t2 => ?_), fun t u t1 t2 t3 => ?_⟩
  · unfold shr; rw [if_neg (by omega), if_neg (by omega)]
  · unfold shr
    by_cases hc : k < t ∧ t ≤ m
    · rw [if_pos hc]; omega
    · rw [if_neg hc]; split <;> omega
  · rw [h.2 t (by omega), h.2 u (by omega)]
    unfold shr
    by_cases c1 : k < t ∧ t ≤ m
    · rw [if_pos c1, if_pos (by omega)]; exact hs _ _ (by omega) (by omega) (by omega)
    · rw [if_neg c1]
      by_cases c2 : t = k
      · rw [if_pos c2]
        by_cases c3 : k < u ∧ u ≤ m
        · rw [if_pos c3]; exact Int.le_of_lt (h2 _ (by omega) (by omega))
        · rw [if_neg c3, if_pos (by omega)]; exact Int.le_refl _
      · rw [if_neg c2]
        by_cases c3 : k < u ∧ u ≤ m
        · rw [if_pos c3]; exact hs _ _ (by omega) (by omega) (by omega)
        · rw [if_neg c3]
          by_cases c4 : u = k
          · rw [if_pos c4]; exact h1 _ (by omega) (by omega)
          · rw [if_neg c4]; exact hs _ _ (by omega) (by omega) (by omega)
/-- What is known when both parts have been turned. -/
theorem sym_pre {xs zs : List Nat} {a m b mid st e : Int} (h0 : 0 ≤ a) (h1 : SRT xs a m) (h2 : SRT xs m b) (ham : a < m) (hmb : m < b) (s0 : a ≤ st) (s1 : st ≤ m) (s2 : st ≤ mid) (s3 : mid + m - b ≤ st) (he : e = mid + m - st)
    (hA : st = a ∨ st = mid + m - b ∨ tk (xs.getD (st - 1).toNat 0) ≤ tk (xs.getD (mid + m - st).toNat 0)) (hB : st = m ∨ st = mid ∨ tk (xs.getD (mid + m - 1 - st).toNat 0) < tk (xs.getD st.toNat 0)) (hz : Re xs zs (rho st m e)) :
    SRT zs a st ∧ SRT zs st mid ∧ SRT zs mid e ∧ SRT zs e b ∧ (∀ t u : Int, a ≤ t → t < mid → mid ≤ u → u < b → tk (zs.getD t.toNat 0) ≤ tk (zs.getD u.toNat 0)) := by
  have r1 : ∀ t : Int, a ≤ t → t < st → zs.getD t.toNat 0 = xs.getD t.toNat 0 := fun t t1 t2 => by
    rw [hz.2 t (by omega)]; unfold rho; rw [if_neg (by omega), if_neg (by omega)]
  have r2 : ∀ t : Int, st ≤ t → t < mid → zs.getD t.toNat 0 = xs.getD (t - st + m).toNat 0 := fun t t1 t2 => by
    rw [hz.2 t (by omega)]; unfold rho; rw [if_pos (by omega)]
  have r3 : ∀ t : Int, mid ≤ t → t < e → zs.getD t.toNat 0 = xs.getD (t - (e - m)).toNat 0 := fun t t1 t2 => by
    rw [hz.2 t (by omega)]; unfold rho; rw [if_neg (by omega), if_pos (by omega)]
  have r4 : ∀ t : Int, e ≤ t → t < b → zs.getD t.toNat 0 = xs.getD t.toNat 0 := fun t t1 t2 => by
    rw [hz.2 t (by omega)]; unfold rho; rw [if_neg (by omega), if_neg (by omega)]
  refine ⟨fun t u t1 t2 t3 => ?_, fun t u t1 t2 t3 => ?_, fun t u t1 t2 t3 => ?_, fun t u t1 t2 t3 => ?_, fun t u t1 t2 t3 t4 => ?_⟩
  · rw [r1 t (by omega) (by omega), r1 u (by omega) (by omega)]; exact h1 _ _ (by omega) (by omega) (by omega)
  · rw [r2 t (by omega) (by omega), r2 u (by omega) (by omega)]; exact h2 _ _ (by omega) (by omega) (by omega)
  · rw [r3 t (by omega) (by omega), r3 u (by omega) (by omega)]; exact h1 _ _ (by omega) (by omega) (by omega)
  · rw [r4 t (by omega) (by omega), r4 u (by omega) (by omega)]; exact h2 _ _ (by omega) (by omega) (by omega)
  · by_cases c1 : t < st
    · rw [r1 t t1 c1]
      by_cases c2 : u < e
      · rw [r3 u t3 c2]; exact h1 _ _ (by omega) (by omega) (by omega)
      · rw [r4 u (by omega) t4]
        have q1 := h1 t (st - 1) (by omega) (by omega) (by omega)
        have q2 := h2 (mid + m - st) u (by omega) (by omega) (by omega)
        omega
    · rw [r2 t (by omega) t2]
      by_cases c2 : u < e
      · rw [r3 u t3 c2]
        have q1 := h2 (t - st + m) (mid + m - 1 - st) (by omega) (by omega) (by omega)
        have q2 := h1 st (u - (e - m)) (by omega) (by omega) (by omega)
        omega
      · rw [r4 u (by omega) t4]; exact h2 _ _ (by omega) (by omega) (by omega)
theorem rho_mg {xs zs : List Nat} {a m b st e : Int} (h0 : 0 ≤ a) (s0 : a ≤ st) (s1 : st ≤ m) (s2 : m ≤ e) (s3 : e ≤ b) (hz : Re xs zs (rho st m e)) : MG xs zs a b :=
  hz.mg h0 (fun t ht hc => by unfold rho; rw [if_neg (by omega), if_neg (by omega)]) fun t t1 t2 => by
    unfold rho
    by_cases c1 : st ≤ t ∧ t < st + (e - m)
    · rw [if_pos c1]; omega
    · rw [if_neg c1]; split <;> omega
theorem sym_fin {xs zs z1 z2 : List Nat} {a b mid : Int} (h0 : 0 ≤ a) (hm : a ≤ mid ∧ mid ≤ b) (hx : MG xs zs a b) (hc : ∀ t u : Int, a ≤ t → t < mid → mid ≤ u → u < b → tk (zs.getD t.toNat 0) ≤ tk (zs.getD u.toNat 0))
    (m1 : MG zs z1 a mid) (s1 : SRT z1 a mid) (m2 : MG z1 z2 mid b) (s2 : SRT z2 mid b) : MG xs z2 a b ∧ SRT z2 a b := by
  refine ⟨(hx.trans (m1.wide h0 (Int.le_refl _) hm.2)).trans (m2.wide h0 hm.1 (Int.le_refl _)), fun t u t1 t2 t3 => ?_⟩
  by_cases c1 : u < mid
  · rw [m2.out t (by omega) (by omega), m2.out u (by omega) (by omega)]; exact s1 t u t1 t2 c1
  · by_cases c2 : mid ≤ t
    · exact s2 t u c2 t2 t3
    · rw [m2.out t (by omega) (by omega)]
      obtain ⟨t', p1, p2, e1⟩ := m1.frm t t1 (by omega)
      obtain ⟨u', q1, q2, e2⟩ := m2.frm u (by omega) t3
      rw [e1, e2, m1.out u' (by omega) (by omega)]
      exact hc _ _ p1 p2 q1 q2
/-! ### put in one by one -/
/-- All but the one at j are in order from a to i; those behind j are above it. -/
def SrtX (l : List Nat) (a i j : Int) : Prop := (∀ t u : Int, a ≤ t → t ≤ u → u ≤ i → t ≠ j → u ≠ j → tk (l.getD t.toNat 0) ≤ tk (l.getD u.toNat 0)) ∧ ∀ u : Int, j < u → u ≤ i → tk (l.getD j.toNat 0) < tk (l.getD u.toNat 0)
theorem SrtX.z {l : List Nat} {a i : Int} (h : SRT l a i) : SrtX l a i i := ⟨fun t u h1 h2 h3 h4 h5 => h t u h1 h2 (by omega), fun u h1 h2 => by omega⟩
theorem SrtX.fin {l : List Nat} {a i j : Int} (h : SrtX l a i j) (_ : a ≤ j) (hji : j ≤ i) (he : j = a ∨ tk (l.getD (j - 1).toNat 0) ≤ tk (l.getD j.toNat 0)) : SRT l a (i + 1) := fun t u h1 h2 h3 => by
  by_cases c1 : t = j
  · by_cases c2 : u = j
    · rw [c1, c2]; exact Int.le_refl _
    · rw [c1]; exact Int.le_of_lt (h.2 u (by omega) (by omega))
  · by_cases c2 : u = j
    · rw [c2]
      have := h.1 t (j - 1) (by omega) (by omega) (by omega) c1 (by omega)
      omega
    · exact h.1 t u h1 h2 (by omega) c1 c2
theorem SrtX.step {l : List Nat} {a i j : Int} (h : SrtX l a i j) (h0 : 0 ≤ a) (hj : a < j) (hji : j ≤ i) (hl : i < l.length) (he : tk (l.getD j.toNat 0) < tk (l.getD (j - 1).toNat 0)) : SrtX (SWP l j (j - 1)) a i (j - 1) := by
  have hr := SWP_re (l := l) (i := j) (j := j - 1) (by omega) (by omega) (by omega) (by omega)
  have g1 : (SWP l j (j - 1)).getD j.toNat 0 = l.getD (j - 1).toNat 0 := by rw [hr.2 j (by omega)]; unfold swp; rw [if_pos rfl]
  have g2 : (SWP l j (j - 1)).getD (j - 1).toNat 0 = l.getD j.toNat 0 := by rw [hr.2 (j - 1) (by omega)]; unfold swp; rw [if_neg (by omega), if_pos rfl]
  have g3 : ∀ t : Int, 0 ≤ t → t ≠ j → t ≠ j - 1 → (SWP l j (j - 1)).getD t.toNat 0 = l.getD t.toNat 0 := fun t h1 h2 h3 => by rw [hr.2 t h1]; unfold swp; rw [if_neg h2, if_neg h3]
  refine ⟨fun t u h1 h2 h3 h4 h5 => ?_, fun u h1 h2 => ?_⟩
  · by_cases c1 : t = j
    · rw [c1, g1]
      by_cases c2 : u = j
      · rw [c2, g1]; exact Int.le_refl _
      · rw [g3 u (by omega) c2 h5]; exact h.1 _ _ (by omega) (by omega) h3 (by omega) c2
    · rw [g3 t (by omega) c1 h4]
      by_cases c2 : u = j
      · rw [c2, g1]; exact h.1 _ _ h1 (by omega) (by omega) c1 (by omega)
      · rw [g3 u (by omega) c2 h5]; exact h.1 _ _ h1 h2 h3 c1 c2
  · rw [g2]
    by_cases c1 : u = j
    · rw [c1, g1]; exact he
    · rw [g3 u (by omega) c1 (by omega)]; exact h.2 u (by omega) h2
theorem swp_mg {xs ys : List Nat} {a b i j : Int} (h : MG xs ys a b) (h0 : 0 ≤ a) (hb : b ≤ xs.length) (hi : a ≤ i) (hi' : i < b) (hj : a ≤ j) (hj' : j < b) : MG xs (SWP ys i j) a b := by
  have hl := h.len
  refine h.trans ((SWP_re (by omega) (by omega) (by omega) (by omega)).mg h0 (fun t ht hc => by unfold swp; rw [if_neg (by omega), if_neg (by omega)]) fun t t1 t2 => by unfold swp; split <;> (try split) <;> omega)
/-! ### runs -/
/-- Runs of k are in order up to n; ahead of p, runs of twice as many. -/
def Rns (l : List Nat) (k p n : Int) : Prop := ∀ t u : Int, 0 ≤ t → t ≤ u → u < n → ((u < p ∧ t / (2 * k) = u / (2 * k)) ∨ (p ≤ t ∧ t / k = u / k)) → tk (l.getD t.toNat 0) ≤ tk (l.getD u.toNat 0)
theorem Rns.srt1 {l : List Nat} {k p n e : Int} (hk : k = 20 ∨ k = 40) (h : Rns l k p n) (h0 : 0 ≤ p) (hp : p % (2 * k) = 0) (he : e ≤ p + k) (hn : e ≤ n) : SRT l p e := fun t u h1 h2 h3 =>
  h t u (by omega) h2 (by omega) (.inr ⟨h1, by rcases hk with rfl | rfl <;> omega⟩)
theorem Rns.srt2 {l : List Nat} {k p n e : Int} (hk : k = 20 ∨ k = 40) (h : Rns l k p n) (h0 : 0 ≤ p) (hp : p % (2 * k) = 0) (he : e ≤ p + 2 * k) (hn : e ≤ n) : SRT l (p + k) e := fun t u h1 h2 h3 =>
  h t u (by omega) h2 (by omega) (.inr ⟨by omega, by rcases hk with rfl | rfl <;> omega⟩)
theorem Rns.step {l l' : List Nat} {k p n : Int} (hk : k = 20 ∨ k = 40) (h : Rns l k p n) (_ : 0 ≤ p) (hp : p % (2 * k) = 0) (hm : MG l l' p (p + 2 * k)) (hs : SRT l' p (p + 2 * k)) : Rns l' k (p + 2 * k) n := fun t u h1 h2 h3 h4 => by
  by_cases c1 : u < p
  · rw [hm.out t h1 (by omega), hm.out u (by omega) (by omega)]
    exact h t u h1 h2 h3 (.inl ⟨c1, by rcases hk with rfl | rfl <;> omega⟩)
  · by_cases c2 : p + 2 * k ≤ t
    · rw [hm.out t h1 (by omega), hm.out u (by omega) (by omega)]
      exact h t u h1 h2 h3 (.inr ⟨by omega, by rcases hk with rfl | rfl <;> omega⟩)
    · have : p ≤ t ∧ u < p + 2 * k := by rcases hk with rfl | rfl <;> omega
      exact hs t u this.1 h2 this.2
theorem Rns.last {l l' : List Nat} {k p n : Int} (hk : k = 20 ∨ k = 40) (h : Rns l k p n) (_ : 0 ≤ p) (hp : p % (2 * k) = 0) (hn : n < p + 2 * k) (hm : MG l l' p n) (hs : SRT l' p n) : Rns l' (k * 2) 0 n := fun t u h1 h2 h3 h4 => by
  by_cases c1 : u < p
  · rw [hm.out t h1 (by omega), hm.out u (by omega) (by omega)]
    exact h t u h1 h2 h3 (.inl ⟨c1, by rcases hk with rfl | rfl <;> omega⟩)
  · have : p ≤ t := by rcases hk with rfl | rfl <;> omega
    exact hs t u this h2 h3
theorem Rns.last0 {l : List Nat} {k p n : Int} (hk : k = 20 ∨ k = 40) (h : Rns l k p n) (h0 : 0 ≤ p) (hp : p % (2 * k) = 0) (hn : n < p + 2 * k) (he : n ≤ p + k) : Rns l (k * 2) 0 n :=
  h.last hk h0 hp hn (MG.refl _ _ _) (h.srt1 hk h0 hp he (Int.le_refl _))
theorem Rns.fin {l : List Nat} {k n : Int} (h : Rns l k 0 n) (hn : n ≤ k) : SRT l 0 n := fun t u h1 h2 h3 =>
  h t u h1 h2 h3 (.inr ⟨h1, by rw [Int.ediv_eq_zero_of_lt h1 (by omega), Int.ediv_eq_zero_of_lt (by omega) (by omega)]⟩)
def RnI (l : List Nat) (a : Int) : Prop := ∀ t u : Int, 0 ≤ t → t ≤ u → u < a → t / 20 = u / 20 → tk (l.getD t.toNat 0) ≤ tk (l.getD u.toNat 0)
theorem RnI.z (l : List Nat) : RnI l 0 := fun t u h1 h2 h3 => by omega
theorem RnI.step {l l' : List Nat} {a b : Int} (h : RnI l a) (hm : MG l l' a b) (hs : SRT l' a b) (ha : a % 20 = 0) : RnI l' b := fun t u h1 h2 h3 h4 => by
  by_cases c1 : u < a
  · rw [hm.out t h1 (by omega), hm.out u (by omega) (by omega)]
    exact h t u h1 h2 c1 h4
  · exact hs t u (by omega) h2 h3
theorem RnI.fin {l : List Nat} {n : Int} (h : RnI l n) : Rns l 20 0 n := fun t u h1 h2 h3 h4 => h t u h1 h2 h3 (by omega)
theorem srt_pair {l : List Nat} {n : Int} (h : SRT l 0 n) (hn : n = l.length) : l.Pairwise fun a b => ¬ ORD b a < 0 := by
  rw [List.pairwise_iff_getElem]
  intro i j hi hj hij
  have := h (i : Int) (j : Int) (by omega) (by omega) (by omega)
  have e1 : l.getD (i : Int).toNat 0 = l[i] := by rw [List.getD_eq_getElem?_getD, Int.toNat_natCast, List.getElem?_eq_getElem hi]; rfl
  have e2 : l.getD (j : Int).toNat 0 = l[j] := by rw [List.getD_eq_getElem?_getD, Int.toNat_natCast, List.getElem?_eq_getElem hj]; rfl
  rw [e1, e2] at this
  have := ord_is' l[j] l[i]
  omega
end Go.Flt
