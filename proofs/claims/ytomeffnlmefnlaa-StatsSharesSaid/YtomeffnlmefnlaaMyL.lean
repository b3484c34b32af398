/- What the laws of myers say of the distance and of the way. -/
import Derived.Test.YtomeffnlmefnlaaMyB
namespace Go.Mys
open Go.Gv
theorem dist_reverse_le (a b : List Int) : dist a.reverse b.reverse ≤ dist a b := by
  obtain ⟨l, h1, h2, h3⟩ := dist_ex a b
  have := dist_le_of h1.reverse h2.reverse
  simp only [List.length_reverse] at this
  omega
theorem dist_reverse (a b : List Int) : dist a.reverse b.reverse = dist a b := by
  have h1 := dist_reverse_le a b
  have h2 := dist_reverse_le a.reverse b.reverse
  rw [List.reverse_reverse, List.reverse_reverse] at h2
  omega
theorem dist_pre : ∀ (f a b : List Int), dist (f ++ a) (f ++ b) = dist a b
  | [], _, _ => rfl
  | x :: f, a, b => by rw [List.cons_append, List.cons_append, dist_eq]; exact dist_pre f a b
theorem dist_post (a b l : List Int) : dist (a ++ l) (b ++ l) = dist a b := by
  rw [← dist_reverse, List.reverse_append, List.reverse_append, dist_pre, dist_reverse]
theorem ends_law {f a b l : List Int} (hf : f.length ≤ 40) (ha : a.length ≤ 40) (hb : b.length ≤ 40) (hl : l.length ≤ 40) : Dst ((([] ++ f) ++ a) ++ l) ((([] ++ f) ++ b) ++ l) = Dst a b := by
  rw [Dst_small (by simp only [List.length_append, List.nil_append]; omega) (by simp only [List.length_append, List.nil_append]; omega), Dst_small (by omega) (by omega), dist_post, List.nil_append, dist_pre]
theorem dist_cons_l' (x : Int) (xs ys : List Int) : dist xs ys ≤ 1 + dist (x :: xs) ys := by
  obtain ⟨l, h1, h2, h3⟩ := dist_ex (x :: xs) ys
  cases l with
  | nil =>
    have := dist_le_of (List.nil_sublist xs) (List.nil_sublist ys)
    simp only [List.length_cons, List.length_nil] at *
    omega
  | cons z l =>
    have := dist_le_of (tail_sub h1) ((List.sublist_cons_self z l).trans h2)
    simp only [List.length_cons] at *
    omega
theorem dist_par (a b : List Int) : (dist a b) % 2 = (a.length + b.length) % 2 := by
  obtain ⟨l, _, _, h3⟩ := dist_ex a b
  omega
theorem Dst_more {a b : List Int} (n : Int) (ha : a.length ≤ 40) (hb : b.length ≤ 40) : Dst (([] ++ a) ++ [n]) b = Dst a b + 1 ∨ Dst (([] ++ a) ++ [n]) b = Dst a b - 1 := by
  rw [Dst_small (by simp only [List.length_append, List.nil_append, List.length_singleton]; omega) (by omega), Dst_small (by omega) (by omega), List.nil_append]
  have e : dist (a ++ [n]) b = dist (n :: a.reverse) b.reverse := by rw [← dist_reverse, List.reverse_append]; rfl
  have h1 := dist_cons_l n a.reverse b.reverse
  have h2 := dist_cons_l' n a.reverse b.reverse
  have h3 := dist_par (n :: a.reverse) b.reverse
  have h4 := dist_par a b
  rw [dist_reverse] at h1 h2
  rw [e]
  simp only [List.length_cons, List.length_reverse] at h3
  omega
theorem Dst_reverse {a b : List Int} (ha : a.length ≤ 40) (hb : b.length ≤ 40) : Dst a.reverse b.reverse = Dst a b := by
  rw [Dst_small (by rw [List.length_reverse]; omega) (by rw [List.length_reverse]; omega), Dst_small (by omega) (by omega), dist_reverse]
theorem rev_step {a : List Int} {i : Int} (h0 : 0 ≤ i) (h1 : i < a.length) : (a.drop (i + 1).toNat).reverse ++ [gI a i] = (a.drop (i - 1 + 1).toNat).reverse := by
  rw [show i - 1 + 1 = i by omega, drop_cons a h0 h1, List.reverse_cons]
/-- Of a way: how much is kept, out, in. -/
theorem way_len : ∀ (n : Nat) (a b : List Int) (i j : Int), a.length + b.length ≤ n → 2 * (prs (way a b) i j).length + dist a b = a.length + b.length := by
  intro n
  induction n with
  | zero =>
    intro a b i j h
    have : a = [] := List.eq_nil_of_length_eq_zero (by omega)
    have : b = [] := List.eq_nil_of_length_eq_zero (by omega)
    subst_vars
    simp [way, prs, dist]
  | succ n ih =>
    intro a b i j h
    match a, b with
    | [], [] => simp [way, prs, dist]
    | x :: xs, [] =>
      have := ih xs [] (i + 1) j (by simp at h ⊢; omega)
      rw [way, prs]
      simp [dist_nil_r] at this ⊢
      omega
    | [], y :: ys =>
      have := ih [] ys i (j + 1) (by simp at h ⊢; omega)
      rw [way, prs]
      simp [dist_nil] at this ⊢
      omega
    | x :: xs, y :: ys =>
      simp only [List.length_cons] at h
      rw [way]
      by_cases hxy : x = y
      · subst hxy
        have := ih xs ys (i + 1) (j + 1) (by omega)
        rw [if_pos rfl, prs, if_pos rfl, dist_eq]
        simp only [List.length_cons]
        omega
      · rw [if_neg hxy]
        have hd := dist_ne hxy xs ys
        by_cases hd1 : dist xs (y :: ys) + 1 ≤ dist (x :: xs) (y :: ys)
        · have := ih xs (y :: ys) (i + 1) j (by simp; omega)
          rw [if_pos hd1, prs, if_neg (by decide), if_pos rfl]
          simp only [List.length_cons] at this ⊢
          omega
        · have := ih (x :: xs) ys i (j + 1) (by simp; omega)
          rw [if_neg hd1, prs, if_neg (by decide), if_neg (by decide)]
          simp only [List.length_cons] at this ⊢
          omega
theorem Prs_len {a b : List Int} (ha : a.length ≤ 400) (hb : b.length ≤ 400) : 2 * ((Prs a b).length : Int) + Dst a b = a.length + b.length := by
  have := way_len _ a b 0 0 (Nat.le_refl _)
  rw [Dst_small ha hb]
  unfold Prs
  rw [if_neg (by omega)]
  omega
theorem Prs_comm {a b : List Int} (ha : a.length ≤ 400) (hb : b.length ≤ 400) : ((Prs a b).length : Int) = ((Prs b a).length : Int) := by
  have h1 := Prs_len ha hb
  have h2 := Prs_len hb ha
  rw [Dst_comm b a] at h2
  omega
end Go.Mys
namespace Go.Mys
open Go.Gv
theorem Stp_small {a b : List Int} (ha : a.length ≤ 400) (hb : b.length ≤ 400) : Stp a b = way a b := by unfold Stp; rw [if_neg (by omega)]
theorem Prs_small {a b : List Int} (ha : a.length ≤ 400) (hb : b.length ≤ 400) : Prs a b = prs (way a b) 0 0 := by unfold Prs; rw [if_neg (by omega)]
section
variable {a b : List Int} {i j : Int}
theorem Wy_any (h0 : 0 ≤ i) (h1 : i ≤ a.length) (h2 : 0 ≤ j) (h3 : j ≤ b.length) :
    (Wy a b i j = [] ∧ i = a.length ∧ j = b.length) ∨ (i < a.length ∧ j < b.length ∧ gI a i = gI b j ∧ Wy a b i j = 1 :: Wy a b (i + 1) (j + 1)) ∨
      (i < a.length ∧ Wy a b i j = 2 :: Wy a b (i + 1) j) ∨ (j < b.length ∧ Wy a b i j = 3 :: Wy a b i (j + 1)) := by
  rcases Decidable.em (i < a.length ∨ j < b.length) with h4 | h4
  · rcases Decidable.em (i < a.length ∧ j < b.length ∧ gI a i = gI b j) with h5 | h5
    · exact .inr (.inl ⟨h5.1, h5.2.1, h5.2.2, Wy_keep h0 h5.1 h2 h5.2.1 h5.2.2⟩)
    · rcases Decidable.em (i < a.length ∧ D a b (i + 1) j + 1 ≤ D a b i j) with h6 | h6
      · exact .inr (.inr (.inl ⟨h6.1, (Wy_out h0 h6.1 h2 h3 (fun h e => h5 ⟨h6.1, h, e⟩) h6.2).1⟩))
      · obtain ⟨q1, q2, _⟩ := Wy_in h0 h1 h2 h3 h4 (fun h h' e => h5 ⟨h, h', e⟩) (fun h h' => h6 ⟨h, h'⟩)
        exact .inr (.inr (.inr ⟨q1, q2⟩))
  · exact .inl ⟨Wy_end (by omega) (by omega), by omega, by omega⟩
theorem makes_case {s : List Int} {k : Int} (h0 : 0 ≤ i) (h1 : i ≤ a.length) (h2 : 0 ≤ j) (h3 : j ≤ b.length) (h4 : 0 ≤ k) (h5 : k < s.length) (h : s.drop k.toNat = Wy a b i j) :
    (gI s k = 1 ∧ i < a.length ∧ j < b.length ∧ gI a i = gI b j ∧ s.drop (k + 1).toNat = Wy a b (i + 1) (j + 1)) ∨ (gI s k = 2 ∧ i < a.length ∧ s.drop (k + 1).toNat = Wy a b (i + 1) j) ∨
      (gI s k = 3 ∧ j < b.length ∧ s.drop (k + 1).toNat = Wy a b i (j + 1)) := by
  rw [drop_cons s h4 h5] at h
  rcases Wy_any h0 h1 h2 h3 with ⟨e, _⟩ | ⟨q1, q2, q3, e⟩ | ⟨q1, e⟩ | ⟨q1, e⟩
  · rw [e] at h; cases h
  · rw [e] at h; injection h with e1 e2; exact .inl ⟨e1, q1, q2, q3, e2⟩
  · rw [e] at h; injection h with e1 e2; exact .inr (.inl ⟨e1, q1, e2⟩)
  · rw [e] at h; injection h with e1 e2; exact .inr (.inr ⟨e1, q1, e2⟩)
theorem makes_end {s : List Int} {k : Int} (h0 : 0 ≤ i) (h1 : i ≤ a.length) (h2 : 0 ≤ j) (h3 : j ≤ b.length) (h5 : ¬ k < s.length) (h : s.drop k.toNat = Wy a b i j) : i = a.length ∧ j = b.length := by
  rw [List.drop_of_length_le (by omega)] at h
  rcases Wy_any h0 h1 h2 h3 with ⟨_, e1, e2⟩ | ⟨q1, q2, q3, e⟩ | ⟨q1, e⟩ | ⟨q1, e⟩
  · exact ⟨e1, e2⟩
  all_goals rw [e] at h; cases h
theorem take_step (h0 : 0 ≤ j) (h1 : j < b.length) : b.take j.toNat ++ [gI b j] = b.take (j + 1).toNat := by
  have hlt : j.toNat < b.length := by omega
  rw [show (j + 1).toNat = j.toNat + 1 by omega, List.take_add_one, List.getElem?_eq_getElem hlt]
  simp [gI, List.getD, hlt]
theorem sub_snoc {l m : List Int} {p k x : Int} (h : m.Sublist (l.take p.toNat)) (h0 : 0 ≤ p) (h1 : p ≤ k) (h2 : k < l.length) (e : gI l k = x) : (m ++ [x]).Sublist (l.take (k + 1).toNat) := by
  rw [← take_step (by omega) h2, ← e]
  refine List.Sublist.append (h.trans ?_) (List.Sublist.refl _)
  have : l.take p.toNat = (l.take k.toNat).take p.toNat := by rw [List.take_take, Nat.min_eq_left (by omega)]
  rw [this]
  exact List.take_sublist _ _
theorem gI_cons {x k : Int} {l : List Int} (h : 0 ≤ k) : gI (x :: l) (k + 1) = gI l k := by
  simp [gI, List.getD, show (k + 1).toNat = k.toNat + 1 by omega]
end
theorem prs_mem : ∀ (n : Nat) (a b : List Int) (i j : Int), a.length + b.length ≤ n → ∀ q ∈ prs (way a b) i j, i ≤ q.1 ∧ q.1 - i < a.length ∧ j ≤ q.2 ∧ q.2 - j < b.length ∧ gI a (q.1 - i) = gI b (q.2 - j) := by
  intro n
  induction n with
  | zero =>
    intro a b i j h q hq
    have : a = [] := List.eq_nil_of_length_eq_zero (by omega)
    have : b = [] := List.eq_nil_of_length_eq_zero (by omega)
    subst_vars
    simp [way, prs] at hq
  | succ n ih =>
    have step : ∀ (x : Int) (xs : List Int) (k q : Int), k + 1 ≤ q → gI (x :: xs) (q - k) = gI xs (q - (k + 1)) := fun x xs k q h => by
      rw [show q - k = q - (k + 1) + 1 by omega, gI_cons (by omega)]
    intro a b i j h q hq
    match a, b with
    | [], [] => simp [way, prs] at hq
    | x :: xs, [] =>
      rw [way, prs, if_neg (by decide), if_pos rfl] at hq
      have := ih xs [] (i + 1) j (by simp at h ⊢; omega) q hq
      simp at this
      omega
    | [], y :: ys =>
      rw [way, prs, if_neg (by decide), if_neg (by decide)] at hq
      have := ih [] ys i (j + 1) (by simp at h ⊢; omega) q hq
      simp at this
      omega
    | x :: xs, y :: ys =>
      simp only [List.length_cons] at h
      rw [way] at hq
      by_cases hxy : x = y
      · subst hxy
        rw [if_pos rfl, prs, if_pos rfl, List.mem_cons] at hq
        rcases hq with rfl | hq
        · refine ⟨by simp, by simp <;> omega, by simp, by simp <;> omega, ?_⟩
          simp [gI]
        · obtain ⟨h1, h2, h3, h4, h5⟩ := ih xs ys (i + 1) (j + 1) (by omega) q hq
          refine ⟨by omega, by simp only [List.length_cons]; omega, by omega, by simp only [List.length_cons]; omega, ?_⟩
          rw [step x xs i q.1 h1, step x ys j q.2 h3]
          exact h5
      · rw [if_neg hxy] at hq
        by_cases hd1 : dist xs (y :: ys) + 1 ≤ dist (x :: xs) (y :: ys)
        · rw [if_pos hd1, prs, if_neg (by decide), if_pos rfl] at hq
          obtain ⟨h1, h2, h3, h4, h5⟩ := ih xs (y :: ys) (i + 1) j (by simp; omega) q hq
          refine ⟨by omega, by simp only [List.length_cons]; omega, by omega, h4, ?_⟩
          rw [step x xs i q.1 h1]
          exact h5
        · rw [if_neg hd1, prs, if_neg (by decide), if_neg (by decide)] at hq
          obtain ⟨h1, h2, h3, h4, h5⟩ := ih (x :: xs) ys i (j + 1) (by simp; omega) q hq
          refine ⟨by omega, h2, by omega, by simp only [List.length_cons]; omega, ?_⟩
          rw [step y ys j q.2 h3]
          exact h5
theorem prs_ge : ∀ (l : List Int) (i j : Int), ∀ q ∈ prs l i j, i ≤ q.1 ∧ j ≤ q.2
  | [], _, _, q, h => by simp [prs] at h
  | s :: l, i, j, q, h => by
    rw [prs] at h
    split at h
    · rw [List.mem_cons] at h
      rcases h with rfl | h
      · simp
      · have := prs_ge l (i + 1) (j + 1) q h; omega
    · split at h
      · have := prs_ge l (i + 1) j q h; omega
      · have := prs_ge l i (j + 1) q h; omega
theorem prs_pair : ∀ (l : List Int) (i j : Int), (prs l i j).Pairwise fun p q => p.1 < q.1 ∧ p.2 < q.2
  | [], _, _ => by simp [prs]
  | s :: l, i, j => by
    rw [prs]
    split
    · refine List.pairwise_cons.2 ⟨fun q h => ?_, prs_pair l (i + 1) (j + 1)⟩
      have := prs_ge l (i + 1) (j + 1) q h
      simp only
      omega
    · split
      · exact prs_pair l (i + 1) j
      · exact prs_pair l i (j + 1)
theorem Prs_ok {a b : List Int} (ha : a.length ≤ 400) (hb : b.length ≤ 400) {t : Int} (h0 : 0 ≤ t) (h1 : t < (Prs a b).length) :
    0 ≤ ((Prs a b).getD t.toNat (0, 0)).1 ∧ ((Prs a b).getD t.toNat (0, 0)).1 < a.length ∧ 0 ≤ ((Prs a b).getD t.toNat (0, 0)).2 ∧ ((Prs a b).getD t.toNat (0, 0)).2 < b.length ∧
      gI a ((Prs a b).getD t.toNat (0, 0)).1 = gI b ((Prs a b).getD t.toNat (0, 0)).2 ∧
      (0 < t → ((Prs a b).getD (t - 1).toNat (0, 0)).1 < ((Prs a b).getD t.toNat (0, 0)).1 ∧ ((Prs a b).getD (t - 1).toNat (0, 0)).2 < ((Prs a b).getD t.toNat (0, 0)).2) := by
  rw [Prs_small ha hb] at h1 ⊢
  have hlt : t.toNat < (prs (way a b) 0 0).length := by omega
  have hm : (prs (way a b) 0 0).getD t.toNat (0, 0) ∈ prs (way a b) 0 0 := by
    simp only [List.getD, hlt, List.getElem?_eq_getElem, Option.getD_some]
    exact List.getElem_mem hlt
  obtain ⟨q1, q2, q3, q4, q5⟩ := prs_mem _ a b 0 0 (Nat.le_refl _) _ hm
  simp only [Int.sub_zero] at q1 q2 q3 q4 q5
  refine ⟨q1, q2, q3, q4, q5, fun ht => ?_⟩
  have hp := List.pairwise_iff_getElem.1 (prs_pair (way a b) 0 0) (t - 1).toNat t.toNat (by omega) hlt (by omega)
  have hlt2 : (t - 1).toNat < (prs (way a b) 0 0).length := by omega
  simp only [List.getD, hlt, hlt2, List.getElem?_eq_getElem, Option.getD_some]
  exact hp
end Go.Mys
namespace Go.Mys
open Go.Gv
theorem way_mem : ∀ (n : Nat) (a b : List Int), a.length + b.length ≤ n → (way a b).length ≤ a.length + b.length ∧ ∀ s ∈ way a b, s = 1 ∨ s = 2 ∨ s = 3 := by
  intro n
  induction n with
  | zero =>
    intro a b h
    have : a = [] := List.eq_nil_of_length_eq_zero (by omega)
    have : b = [] := List.eq_nil_of_length_eq_zero (by omega)
    subst_vars
    simp [way]
  | succ n ih =>
    have put : ∀ (k m : Nat) (x : Int) (l : List Int), (x = 1 ∨ x = 2 ∨ x = 3) → k + 1 ≤ m → l.length ≤ k ∧ (∀ s ∈ l, s = 1 ∨ s = 2 ∨ s = 3) → (x :: l).length ≤ m ∧ ∀ s ∈ x :: l, s = 1 ∨ s = 2 ∨ s = 3 := by
      intro k m x l hx hk hl
      refine ⟨by simp only [List.length_cons]; omega, fun s hs => ?_⟩
      rcases List.mem_cons.1 hs with rfl | hs
      · exact hx
      · exact hl.2 s hs
    intro a b h
    match a, b with
    | [], [] => simp [way]
    | x :: xs, [] => rw [way]; exact put (xs.length + ([] : List Int).length) _ 2 _ (by simp) (by simp) (ih xs [] (by simp at h ⊢; omega))
    | [], y :: ys => rw [way]; exact put (([] : List Int).length + ys.length) _ 3 _ (by simp) (by simp) (ih [] ys (by simp at h ⊢; omega))
    | x :: xs, y :: ys =>
      simp only [List.length_cons] at h
      rw [way]
      split
      · exact put (xs.length + ys.length) _ 1 _ (by simp) (by simp only [List.length_cons]; omega) (ih xs ys (by omega))
      · split
        · exact put (xs.length + (y :: ys).length) _ 2 _ (by simp) (by simp only [List.length_cons]; omega) (ih xs (y :: ys) (by simp only [List.length_cons]; omega))
        · exact put ((x :: xs).length + ys.length) _ 3 _ (by simp) (by simp only [List.length_cons]; omega) (ih (x :: xs) ys (by simp only [List.length_cons]; omega))
theorem Stp_len (a b : List Int) : (Stp a b).length ≤ 800 := by
  unfold Stp
  split
  · simp
  · have := (way_mem _ a b (Nat.le_refl _)).1
    omega
theorem Stp_mem {a b : List Int} {k : Int} (h0 : 0 ≤ k) (h : k < (Stp a b).length) : gI (Stp a b) k = 1 ∨ gI (Stp a b) k = 2 ∨ gI (Stp a b) k = 3 := by
  have hlt : k.toNat < (Stp a b).length := by omega
  have hm : gI (Stp a b) k ∈ Stp a b := by
    simp only [gI, List.getD, hlt, List.getElem?_eq_getElem, Option.getD_some]
    exact List.getElem_mem hlt
  generalize gI (Stp a b) k = s at hm
  unfold Stp at hm
  split at hm
  · simp at hm
  · exact (way_mem _ a b (Nat.le_refl _)).2 s hm
theorem Prs_Stp (a b : List Int) : Prs a b = prs (Stp a b) 0 0 := by
  unfold Prs Stp
  split
  · rfl
  · rfl
section
variable {s : List Int} {k i j : Int}
theorem prs1 (h0 : 0 ≤ k) (h1 : k < s.length) (h : gI s k = 1) : prs (s.drop k.toNat) i j = (i, j) :: prs (s.drop (k + 1).toNat) (i + 1) (j + 1) := by
  rw [drop_cons s h0 h1, prs, if_pos h]
theorem prs2 (h0 : 0 ≤ k) (h1 : k < s.length) (h : gI s k = 2) : prs (s.drop k.toNat) i j = prs (s.drop (k + 1).toNat) (i + 1) j := by
  rw [drop_cons s h0 h1, prs, if_neg (by omega), if_pos h]
theorem prs3 (h0 : 0 ≤ k) (h1 : k < s.length) (h : gI s k = 3) : prs (s.drop k.toNat) i j = prs (s.drop (k + 1).toNat) i (j + 1) := by
  rw [drop_cons s h0 h1, prs, if_neg (by omega), if_neg (by omega)]
end
end Go.Mys
