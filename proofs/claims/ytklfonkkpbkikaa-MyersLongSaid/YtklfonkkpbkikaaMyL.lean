/- What the laws of myers say of the distance and of the way. -/
import Derived.Test.YtklfonkkpbkikaaMyB
namespace Go.Mys
open Go.Gv
theorem dist_reverse_le (a b : List Int) : dist a.reverse b.reverse ≤ dist a b := by
  obtain ⟨l, h1, h2, h3⟩ := dist_ex a b
  have := dist_le_of h1.reverse h2.reverse
  simp only [List.length_reverse] at this
  omega
theorem dist_reverse (a b : List Int) : dist a.reverse b.reverse = dist a b := by
  have h1 := dist_reverse_le a b
  have h2 := dist_reverse_le a.reverse b.reverse
  rw [List.reverse_reverse, List.reverse_reverse] at h2
  omega
theorem dist_pre : ∀ (f a b : List Int), dist (f ++ a) (f ++ b) = dist a b
  | [], _, _ => rfl
  | x :: f, a, b => by rw [List.cons_append, List.cons_append, dist_eq]; exact dist_pre f a b
theorem dist_post (a b l : List Int) : dist (a ++ l) (b ++ l) = dist a b := by
  rw [← dist_reverse, List.reverse_append, List.reverse_append, dist_pre, dist_reverse]
theorem ends_law {f a b l : List Int} (hf : f.length ≤ 40) (ha : a.length ≤ 40) (hb : b.length ≤ 40) (hl : l.length ≤ 40) : Dst ((([] ++ f) ++ a) ++ l) ((([] ++ f) ++ b) ++ l) = Dst a b := by
  rw [Dst_small (by simp only [List.length_append, List.nil_append]; omega) (by simp only [List.length_append, List.nil_append]; omega), Dst_small (by omega) (by omega), dist_post, List.nil_append, dist_pre]
theorem dist_cons_l' (x : Int) (xs ys : List Int) : dist xs ys ≤ 1 + dist (x :: xs) ys := by
  obtain ⟨l, h1, h2, h3⟩ := dist_ex (x :: xs) ys
  cases l with
  | nil =>
    have := dist_le_of (List.nil_sublist xs) (List.nil_sublist ys)
    simp only [List.length_cons, List.length_nil] at *
    omega
  | cons z l =>
    have := dist_le_of (tail_sub h1) ((List.sublist_cons_self z l).trans h2)
    simp only [List.length_cons] at *
    omega
theorem dist_par (a b : List Int) : (dist a b) % 2 = (a.length + b.length) % 2 := by
  obtain ⟨l, _, _, h3⟩ := dist_ex a b
  omega
theorem Dst_more {a b : List Int} (n : Int) (ha : a.length ≤ 40) (hb : b.length ≤ 40) : Dst (([] ++ a) ++ [n]) b = Dst a b + 1 ∨ Dst (([] ++ a) ++ [n]) b = Dst a b - 1 := by
  rw [Dst_small (by simp only [List.length_append, List.nil_append, List.length_singleton]; omega) (by omega), Dst_small (by omega) (by omega), List.nil_append]
  have e : dist (a ++ [n]) b = dist (n :: a.reverse) b.reverse := by rw [← dist_reverse, List.reverse_append]; rfl
  have h1 := dist_cons_l n a.reverse b.reverse
  have h2 := dist_cons_l' n a.reverse b.reverse
  have h3 := dist_par (n :: a.reverse) b.reverse
  have h4 := dist_par a b
  rw [dist_reverse] at h1 h2
  rw [e]
  simp only [List.length_cons, List.length_reverse] at h3
  omega
theorem Dst_reverse {a b : List Int} (ha : a.length ≤ 40) (hb : b.length ≤ 40) : Dst a.reverse b.reverse = Dst a b := by
  rw [Dst_small (by rw [List.length_reverse]; omega) (by rw [List.length_reverse]; omega), Dst_small (by omega) (by omega), dist_reverse]
theorem rev_step {a : List Int} {i : Int} (h0 : 0 ≤ i) (h1 : i < a.length) : (a.drop (i + 1).toNat).reverse ++ [gI a i] = (a.drop (i - 1 + 1).toNat).reverse := by
  rw [show i - 1 + 1 = i by omega, drop_cons a h0 h1, List.reverse_cons]
/-- Of a way: how much is kept, out, in. -/
theorem way_len : ∀ (n : Nat) (a b : List Int) (i j : Int), a.length + b.length ≤ n → 2 * (prs (way a b) i j).length + dist a b = a.length + b.length := by
  intro n
  induction n with
  | zero =>
    intro a b i j h
    have : a = [] := List.eq_nil_of_length_eq_zero (by omega)
    have : b = [] := List.eq_nil_of_length_eq_zero (by omega)
    subst_vars
    simp [way, prs, dist]
  | succ n ih =>
    intro a b i j h
    match a, b with
    | [], [] => simp [way, prs, dist]
    | x :: xs, [] =>
      have := ih xs [] (i + 1) j (by simp at h ⊢; omega)
      rw [way, prs]
      simp [dist_nil_r] at this ⊢
      omega
    | [], y :: ys =>
      have := ih [] ys i (j + 1) (by simp at h ⊢; omega)
      rw [way, prs]
      simp [dist_nil] at this ⊢
      omega
    | x :: xs, y :: ys =>
      simp only [List.length_cons] at h
      rw [way]
      by_cases hxy : x = y
      · subst hxy
        have := ih xs ys (i + 1) (j + 1) (by omega)
        rw [if_pos rfl, prs, if_pos rfl, dist_eq]
        simp only [List.length_cons]
        omega
      · rw [if_neg hxy]
        have hd := dist_ne hxy xs ys
        by_cases hd1 : dist xs (y :: ys) + 1 ≤ dist (x :: xs) (y :: ys)
        · have := ih xs (y :: ys) (i + 1) j (by simp; omega)
          rw [if_pos hd1, prs, if_neg (by decide), if_pos rfl]
          simp only [List.length_cons] at this ⊢
          omega
        · have := ih (x :: xs) ys i (j + 1) (by simp; omega)
          rw [if_neg hd1, prs, if_neg (by decide), if_neg (by decide)]
          simp only [List.length_cons] at this ⊢
          omega
theorem Prs_len {a b : List Int} (ha : a.length ≤ 400) (hb : b.length ≤ 400) : 2 * ((Prs a b).length : Int) + Dst a b = a.length + b.length := by
  have := way_len _ a b 0 0 (Nat.le_refl _)
  rw [Dst_small ha hb]
  unfold Prs
  rw [if_neg (by omega)]
  omega
theorem Prs_comm {a b : List Int} (ha : a.length ≤ 400) (hb : b.length ≤ 400) : ((Prs a b).length : Int) = ((Prs b a).length : Int) := by
  have h1 := Prs_len ha hb
  have h2 := Prs_len hb ha
  rw [Dst_comm b a] at h2
  omega
end Go.Mys
