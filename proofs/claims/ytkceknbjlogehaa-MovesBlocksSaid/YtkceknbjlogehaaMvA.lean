/- Blocks that stand elsewhere, plain. -/
import Derived.Test.YtkceknbjlogehaaInA
import Derived.Test.YtkceknbjlogehaaScZ
import Derived.Test.YtkceknbjlogehaaMyL
namespace Go.Gv
open Go
/-- Three numbers. -/
def eB3 : El (Int × Int × Int) := ⟨3, fun x => [.int .i64 x.1, .int .i64 x.2.1, .int .i64 x.2.2], fun _ => rfl, fun _ u h => by
  simp at h
  rcases h with rfl | rfl | rfl <;> rfl⟩
abbrev bI (l : List Bool) (i : Int) : Bool := l.getD i.toNat false
def V3 (x : Int × Int × Int) : Value := .agg #[.int .i64 x.1, .int .i64 x.2.1, .int .i64 x.2.2]
end Go.Gv
namespace Go.Mov
open Go.Gv Go.Itn
abbrev B3 := Int × Int × Int
def hasB (u : List Bool) (i : Int) : Prop := bI u i = true
instance {u i} : Decidable (hasB u i) := inferInstanceAs (Decidable (_ = true))
theorem dec_hasB (l : List Bool) (i : Int) : decide (hasB l i) = bI l i := by
  cases h : bI l i
  · exact decide_eq_false (by unfold hasB; rw [h]; exact Bool.false_ne_true)
  · exact decide_eq_true h
theorem hasB_out {u : List Bool} {i : Int} (h : (u.length : Int) ≤ i) : ¬ hasB u i := by
  have : u.length ≤ i.toNat := by omega
  simp [hasB, bI, List.getD, this]
def okG (x y : List Int) (u t : List Bool) (i j : Int) : Prop := i < x.length ∧ j < y.length ∧ gI x i = gI y j ∧ ¬ hasB u i ∧ ¬ hasB t j
instance {x y u t i j} : Decidable (okG x y u t i j) := inferInstanceAs (Decidable (_ ∧ _))
def grwF (x y : List Int) (u t : List Bool) : Nat → Int → Int → Int
  | 0, _, _ => 0
  | f + 1, i, j => if okG x y u t i j then 1 + grwF x y u t f (i + 1) (j + 1) else 0
def grw (x y : List Int) (u t : List Bool) (i j : Int) : Int := if i < 0 ∨ j < 0 then 0 else grwF x y u t (x.length - i.toNat) i j
section
variable {x y : List Int} {u t : List Bool} {i j n : Int}
theorem grwF_nn : ∀ (f : Nat) (i j : Int), 0 ≤ grwF x y u t f i j
  | 0, _, _ => Int.le_refl _
  | f + 1, i, j => by
    rw [grwF]
    have := grwF_nn f (i + 1) (j + 1)
    split <;> omega
theorem grwF_ok : ∀ (f : Nat) (i j k : Int), 0 ≤ k → k < grwF x y u t f i j → okG x y u t (i + k) (j + k)
  | 0, _, _, k, h0, h => by rw [grwF] at h; omega
  | f + 1, i, j, k, h0, h => by
    rw [grwF] at h
    split at h
    · rename_i hk
      by_cases hz : k = 0
      · subst hz; simpa using hk
      · have := grwF_ok f (i + 1) (j + 1) (k - 1) (by omega) (by omega)
        rwa [show i + 1 + (k - 1) = i + k by omega, show j + 1 + (k - 1) = j + k by omega] at this
    · omega
theorem grwF_end : ∀ (f : Nat) (i j : Int), 0 ≤ i → x.length - i.toNat ≤ f → ¬ okG x y u t (i + grwF x y u t f i j) (j + grwF x y u t f i j)
  | 0, i, j, h0, h => by
    rw [grwF]
    intro hk
    have := hk.1
    omega
  | f + 1, i, j, h0, h => by
    rw [grwF]
    split
    · have := grwF_end f (i + 1) (j + 1) (by omega) (by omega)
      rwa [show i + 1 + grwF x y u t f (i + 1) (j + 1) = i + (1 + grwF x y u t f (i + 1) (j + 1)) by omega, show j + 1 + grwF x y u t f (i + 1) (j + 1) = j + (1 + grwF x y u t f (i + 1) (j + 1)) by omega] at this
    · rename_i hk
      simpa using hk
theorem grw_nn : 0 ≤ grw x y u t i j := by
  unfold grw
  split
  · omega
  · exact grwF_nn _ _ _
theorem grw_ok (hi : 0 ≤ i) (hj : 0 ≤ j) {k : Int} (h0 : 0 ≤ k) (h : k < grw x y u t i j) : okG x y u t (i + k) (j + k) := by
  unfold grw at h
  rw [if_neg (by omega)] at h
  exact grwF_ok _ _ _ _ h0 h
theorem grw_end (hi : 0 ≤ i) (hj : 0 ≤ j) : ¬ okG x y u t (i + grw x y u t i j) (j + grw x y u t i j) := by
  unfold grw
  rw [if_neg (by omega)]
  exact grwF_end _ _ _ hi (Nat.le_refl _)
theorem grw_fin (hn : 0 ≤ n) (q0 : n = 0 ∨ (0 ≤ i ∧ 0 ≤ j)) (q1 : ∀ k : Int, 0 ≤ k → k < n → okG x y u t (i + k) (j + k)) (hx : 0 ≤ i → 0 ≤ j → ¬ okG x y u t (i + n) (j + n)) : n = grw x y u t i j := by
  by_cases h : i < 0 ∨ j < 0
  · unfold grw
    rw [if_pos h]
    omega
  · have hi : 0 ≤ i := by omega
    have hj : 0 ≤ j := by omega
    have h1 := grw_end (x := x) (y := y) (u := u) (t := t) hi hj
    have h2 := grw_nn (x := x) (y := y) (u := u) (t := t) (i := i) (j := j)
    rcases Int.lt_trichotomy n (grw x y u t i j) with h3 | h3 | h3
    · exact absurd (grw_ok hi hj hn h3) (hx hi hj)
    · exact h3
    · exact absurd (q1 _ h2 h3) h1
theorem grw_congr {u' t' : List Bool} (hi : 0 ≤ i) (hj : 0 ≤ j) (hu : ∀ k : Int, 0 ≤ k → (hasB u k ↔ hasB u' k)) (ht : ∀ k : Int, 0 ≤ k → (hasB t k ↔ hasB t' k)) : grw x y u t i j = grw x y u' t' i j := by
  have hk : ∀ a b : Int, 0 ≤ a → 0 ≤ b → (okG x y u t a b ↔ okG x y u' t' a b) := fun a b ha hb => by
    unfold okG
    rw [hu a ha, ht b hb]
  have hn := grw_nn (x := x) (y := y) (u := u) (t := t) (i := i) (j := j)
  exact grw_fin hn (.inr ⟨hi, hj⟩) (fun k h0 h1 => (hk _ _ (by omega) (by omega)).1 (grw_ok hi hj h0 h1)) fun _ _ h => grw_end hi hj ((hk _ _ (by omega) (by omega)).2 h)
end
/-! ### The longest one -/
def bstJ (G : Int → Int → Int) (i : Int) (J : Nat) (b : B3) : B3 := (List.range J).foldl (fun b (j : Nat) => if G i j > b.2.2 then (i, (j : Int), G i j) else b) b
def bstI (G : Int → Int → Int) (J I : Nat) : B3 := (List.range I).foldl (fun b (i : Nat) => bstJ G i J b) (0, 0, 0)
section
variable {G : Int → Int → Int} {i j : Int} {b : B3} {J : Nat}
theorem bstJ_succ (n : Nat) : bstJ G i (n + 1) b = if G i n > (bstJ G i n b).2.2 then (i, (n : Int), G i n) else bstJ G i n b := by
  unfold bstJ
  rw [List.range_succ, List.foldl_append]
  rfl
theorem bstI_succ (n : Nat) : bstI G J (n + 1) = bstJ G n J (bstI G J n) := by
  unfold bstI
  rw [List.range_succ, List.foldl_append]
  rfl
theorem bstJ_yes {f0 f1 f2 : Int} (h0 : 0 ≤ j) (q : (f0, f1, f2) = bstJ G i j.toNat b) (h : G i j > f2) : (i, j, G i j) = bstJ G i (j + 1).toNat b := by
  rw [show (j + 1).toNat = j.toNat + 1 by omega, bstJ_succ, ← q, show ((j.toNat : Nat) : Int) = j by omega, if_pos h]
theorem bstJ_no {f0 f1 f2 : Int} (h0 : 0 ≤ j) (q : (f0, f1, f2) = bstJ G i j.toNat b) (h : ¬ G i j > f2) : (f0, f1, f2) = bstJ G i (j + 1).toNat b := by
  rw [show (j + 1).toNat = j.toNat + 1 by omega, bstJ_succ, ← q, show ((j.toNat : Nat) : Int) = j by omega, if_neg h]
theorem bstI_step {f0 f1 f2 g0 g1 g2 : Int} (h0 : 0 ≤ i) (q : (f0, f1, f2) = bstI G J i.toNat) (r : (g0, g1, g2) = bstJ G i j.toNat (f0, f1, f2)) (hj : ¬ j < (J : Int)) (hj2 : j ≤ (J : Int)) : (g0, g1, g2) = bstI G J (i + 1).toNat := by
  rw [show (i + 1).toNat = i.toNat + 1 by omega, bstI_succ, ← q, show ((i.toNat : Nat) : Int) = i by omega, r, show j.toNat = J by omega]
theorem bstJ_inv (J : Nat) : b.2.2 ≤ (bstJ G i J b).2.2 ∧ (∀ j : Nat, j < J → G i j ≤ (bstJ G i J b).2.2) ∧ (bstJ G i J b = b ∨ ∃ j : Nat, j < J ∧ bstJ G i J b = (i, (j : Int), G i j) ∧ b.2.2 < G i j) := by
  induction J with
  | zero => exact ⟨Int.le_refl _, fun j h => by omega, .inl rfl⟩
  | succ n ih =>
    obtain ⟨h1, h2, h3⟩ := ih
    rw [bstJ_succ]
    split
    · rename_i h
      refine ⟨by simp only; omega, fun j hj => ?_, .inr ⟨n, by omega, rfl, by omega⟩⟩
      rcases Nat.lt_succ_iff_lt_or_eq.1 hj with hj | rfl
      · have := h2 j hj; simp only; omega
      · exact Int.le_refl _
    · rename_i h
      refine ⟨h1, fun j hj => ?_, ?_⟩
      · rcases Nat.lt_succ_iff_lt_or_eq.1 hj with hj | rfl
        · exact h2 j hj
        · omega
      · rcases h3 with h3 | ⟨j, h4, h5, h6⟩
        · exact .inl h3
        · exact .inr ⟨j, by omega, h5, h6⟩
theorem bstI_inv (J I : Nat) : 0 ≤ (bstI G J I).2.2 ∧ (∀ i j : Nat, i < I → j < J → G i j ≤ (bstI G J I).2.2) ∧ (bstI G J I = (0, 0, 0) ∨ ∃ i j : Nat, i < I ∧ j < J ∧ bstI G J I = ((i : Int), (j : Int), G i j)) := by
  induction I with
  | zero => exact ⟨Int.le_refl _, fun i j h => by omega, .inl rfl⟩
  | succ n ih =>
    obtain ⟨h1, h2, h3⟩ := ih
    rw [bstI_succ]
    obtain ⟨k1, k2, k3⟩ := bstJ_inv (G := G) (i := n) (b := bstI G J n) J
    refine ⟨by omega, fun i j hi hj => ?_, ?_⟩
    · rcases Nat.lt_succ_iff_lt_or_eq.1 hi with hi | rfl
      · have := h2 i j hi hj; omega
      · exact k2 j hj
    · rcases k3 with k3 | ⟨j, k4, k5, _⟩
      · rw [k3]
        rcases h3 with h3 | ⟨i, j, h4, h5, h6⟩
        · exact .inl h3
        · exact .inr ⟨i, j, by omega, h5, h6⟩
      · exact .inr ⟨n, j, by omega, k4, k5⟩
end
def bst (x y : List Int) (u t : List Bool) : B3 := bstI (grw x y u t) y.length x.length
structure BOk (x y : List Int) (u t : List Bool) (b : B3) : Prop where
  f0 : 0 ≤ b.1
  f1 : b.1 + b.2.2 ≤ x.length
  t0 : 0 ≤ b.2.1
  t1 : b.2.1 + b.2.2 ≤ y.length
  ok : ∀ k : Int, 0 ≤ k → k < b.2.2 → okG x y u t (b.1 + k) (b.2.1 + k)
theorem bst_nn (x y : List Int) (u t : List Bool) : 0 ≤ (bst x y u t).2.2 := (bstI_inv _ _).1
theorem bst_ok {x y : List Int} {u t : List Bool} (h : 1 ≤ (bst x y u t).2.2) : BOk x y u t (bst x y u t) := by
  rcases (bstI_inv (G := grw x y u t) y.length x.length).2.2 with h1 | ⟨i, j, h2, h3, h4⟩
  · have : bst x y u t = (0, 0, 0) := h1
    rw [this] at h
    simp at h
  · have e : bst x y u t = ((i : Int), (j : Int), grw x y u t i j) := h4
    rw [e] at h ⊢
    simp only at h
    have hok : ∀ k : Int, 0 ≤ k → k < grw x y u t i j → okG x y u t (i + k) (j + k) := fun k h0 h1 => grw_ok (by omega) (by omega) h0 h1
    have hl := hok (grw x y u t i j - 1) (by omega) (by omega)
    exact ⟨by simp only; omega, by have := hl.1; simp only; omega, by simp only; omega, by have := hl.2.1; simp only; omega, hok⟩
theorem bst_max {x y : List Int} {u t : List Bool} {i j : Int} (hi : 0 ≤ i) (hi2 : i < x.length) (hj : 0 ≤ j) (hj2 : j < y.length) : grw x y u t i j ≤ (bst x y u t).2.2 := by
  have := (bstI_inv (G := grw x y u t) y.length x.length).2.1 i.toNat j.toNat (by omega) (by omega)
  rwa [show ((i.toNat : Nat) : Int) = i by omega, show ((j.toNat : Nat) : Int) = j by omega] at this
/-! ### Marks -/
def mrk (l : List Bool) (a n : Int) : List Bool := l.take a.toNat ++ (List.replicate n.toNat true ++ l.drop (a.toNat + n.toNat))
theorem mrk_len {l : List Bool} {a n : Int} (ha : 0 ≤ a) (hn : 0 ≤ n) (h : a + n ≤ l.length) : (mrk l a n).length = l.length := by
  simp [mrk]; omega
theorem hasB_mrk {l : List Bool} {a n i : Int} (ha : 0 ≤ a) (hn : 0 ≤ n) (h : a + n ≤ l.length) (hi : 0 ≤ i) : hasB (mrk l a n) i ↔ hasB l i ∨ (a ≤ i ∧ i < a + n) := by
  unfold hasB bI mrk
  simp only [List.getD_eq_getElem?_getD, List.getElem?_append, List.length_take, List.length_replicate, List.getElem?_take, List.getElem?_replicate, List.getElem?_drop]
  by_cases h1 : i < a
  · rw [if_pos (by omega), if_pos (by omega)]
    constructor
    · exact .inl
    · rintro (h | h)
      · exact h
      · omega
  · rw [if_neg (by omega)]
    by_cases h2 : i < a + n
    · rw [if_pos (by omega), if_pos (by omega)]
      simp; omega
    · rw [if_neg (by omega), show a.toNat + n.toNat + (i.toNat - min a.toNat l.length - n.toNat) = i.toNat by omega]
      constructor
      · exact .inl
      · rintro (h | h)
        · exact h
        · omega
theorem ext_bI {a b : List Bool} (hl : a.length = b.length) (h : ∀ i : Int, 0 ≤ i → (hasB a i ↔ hasB b i)) : a = b := by
  apply List.ext_getElem hl
  intro i h1 h2
  have := h i (by omega)
  simp only [hasB, bI, List.getD, Int.toNat_natCast, List.getElem?_eq_getElem h1, List.getElem?_eq_getElem h2, Option.getD_some] at this
  cases ha : a[i] <;> cases hb : b[i] <;> simp [ha, hb] at this <;> rfl
theorem hasB_set {l : List Bool} {j i : Int} (hj : 0 ≤ j) (h : j < l.length) (hi : 0 ≤ i) : hasB (l.set j.toNat true) i ↔ i = j ∨ hasB l i := by
  unfold hasB bI
  simp only [List.getD_eq_getElem?_getD, List.getElem?_set]
  by_cases e : j.toNat = i.toNat
  · rw [if_pos e, if_pos (by omega)]
    simp; left; omega
  · rw [if_neg e]
    constructor
    · exact .inr
    · rintro (h | h)
      · omega
      · exact h
theorem mrk_0 {l : List Bool} {a : Int} (_ : 0 ≤ a) : mrk l a 0 = l := by simp [mrk]
theorem mrk_snoc {l : List Bool} {a i : Int} (ha : 0 ≤ a) (hi : 0 ≤ i) (h : a + i < l.length) : (mrk l a i).set (a + i).toNat true = mrk l a (i + 1) := by
  have hl := mrk_len ha hi (show a + i ≤ l.length by omega)
  have hl2 := mrk_len ha (show 0 ≤ i + 1 by omega) (show a + (i + 1) ≤ l.length by omega)
  refine ext_bI (by rw [List.length_set, hl, hl2]) fun k hk => ?_
  rw [hasB_set (by omega) (by omega) hk, hasB_mrk ha hi (by omega) hk, hasB_mrk ha (by omega) (by omega) hk]
  constructor
  · rintro (h | h | h)
    · exact .inr (by omega)
    · exact .inl h
    · exact .inr (by omega)
  · rintro (h | h)
    · exact .inr (.inl h)
    · by_cases e : k = a + i
      · exact .inl e
      · exact .inr (.inr (by omega))
theorem set_mrk {l : List Bool} {a : Int} (ha : 0 ≤ a) (h : a < l.length) : l.set a.toNat true = mrk l a 1 := by
  have := mrk_snoc (l := l) ha (Int.le_refl 0) (by omega)
  rwa [mrk_0 ha, Int.add_zero] at this
theorem mrk_copy {l : List Bool} {a n : Int} (ha : 0 ≤ a) (hn : 0 ≤ n) : l.take a.toNat ++ (List.replicate n.toNat true).take ((a + n).toNat - a.toNat) ++ l.drop (a.toNat + min (List.replicate n.toNat true).length ((a + n).toNat - a.toNat)) = mrk l a n := by
  unfold mrk
  rw [List.take_of_length_le (l := List.replicate n.toNat true) (by rw [List.length_replicate]; omega), List.length_replicate, show min n.toNat ((a + n).toNat - a.toNat) = n.toNat by omega, List.append_assoc]
theorem cnt_mrk {l : List Bool} {a n : Int} (ha : 0 ≤ a) (hn : 1 ≤ n) (h : a + n ≤ l.length) (hf : ¬ hasB l a) : (mrk l a n).count false < l.count false := by
  have hl : a.toNat < l.length := by omega
  have e : l = l.take a.toNat ++ ((l.drop a.toNat).take n.toNat ++ l.drop (a.toNat + n.toNat)) := by
    rw [← List.drop_drop, List.take_append_drop, List.take_append_drop]
  have h0 : l[a.toNat] = false := by
    simp only [hasB, bI, List.getD, List.getElem?_eq_getElem hl, Option.getD_some] at hf
    simpa using hf
  have hm : false ∈ (l.drop a.toNat).take n.toNat := by
    rw [List.drop_eq_getElem_cons hl, h0]
    obtain ⟨k, hk⟩ : ∃ k, n.toNat = k + 1 := ⟨n.toNat - 1, by omega⟩
    rw [hk]
    simp
  have hp := List.count_pos_iff.2 hm
  have hr : (List.replicate n.toNat true).count false = 0 := List.count_replicate.trans (by simp)
  have e2 : l.count false = (l.take a.toNat).count false + (((l.drop a.toNat).take n.toNat).count false + (l.drop (a.toNat + n.toNat)).count false) := by
    conv => lhs; rw [e]
    rw [List.count_append, List.count_append]
  rw [e2, mrk, List.count_append, List.count_append, hr]
  omega
/-! ### One behind the other -/
def fnd (x y : List Int) (least : Int) (u t : List Bool) (out : List B3) : List Bool × List Bool × List B3 :=
  if h : least ≤ (bst x y u t).2.2 ∧ (mrk u (bst x y u t).1 (bst x y u t).2.2).count false < u.count false then
    fnd x y least (mrk u (bst x y u t).1 (bst x y u t).2.2) (mrk t (bst x y u t).2.1 (bst x y u t).2.2) (out ++ [bst x y u t])
  else (u, t, out)
termination_by u.count false
decreasing_by exact h.2
section
variable {x y : List Int} {u t : List Bool} {out : List B3} {least : Int}
theorem cnt_bst (hl : 1 ≤ (bst x y u t).2.2) (hu : u.length = x.length) : (mrk u (bst x y u t).1 (bst x y u t).2.2).count false < u.count false := by
  have hk := bst_ok hl
  have := (hk.ok 0 (Int.le_refl _) (by omega)).2.2.2.1
  rw [Int.add_zero] at this
  exact cnt_mrk hk.f0 hl (by have := hk.f1; omega) this
theorem fnd_more {b : B3} (hb : b = bst x y u t) (h1 : 1 ≤ least) (h : ¬ b.2.2 < least) (hu : u.length = x.length) : fnd x y least (mrk u b.1 b.2.2) (mrk t b.2.1 b.2.2) (out ++ [b]) = fnd x y least u t out := by
  subst hb
  conv => rhs; rw [fnd]
  rw [dif_pos ⟨by omega, cnt_bst (by omega) hu⟩]
theorem fnd_stop {b : B3} (hb : b = bst x y u t) (h : b.2.2 < least) : fnd x y least u t out = (u, t, out) := by
  subst hb
  rw [fnd, dif_neg (by omega)]
def dsj (p q : B3) : Prop := ∀ k l : Int, 0 ≤ k → k < p.2.2 → 0 ≤ l → l < q.2.2 → p.1 + k ≠ q.1 + l ∧ p.2.1 + k ≠ q.2.1 + l
structure Good (x y : List Int) (u0 t0 : List Bool) (least : Int) (u t : List Bool) (out : List B3) : Prop where
  hu : u.length = x.length
  ht : t.length = y.length
  blk : ∀ b ∈ out, least ≤ b.2.2 ∧ BOk x y u0 t0 b
  mu : ∀ i : Int, 0 ≤ i → (hasB u i ↔ hasB u0 i ∨ ∃ b ∈ out, b.1 ≤ i ∧ i < b.1 + b.2.2)
  mt : ∀ i : Int, 0 ≤ i → (hasB t i ↔ hasB t0 i ∨ ∃ b ∈ out, b.2.1 ≤ i ∧ i < b.2.1 + b.2.2)
  dj : out.Pairwise dsj
theorem Good.init {u0 t0 : List Bool} (hu : u0.length = x.length) (ht : t0.length = y.length) : Good x y u0 t0 least u0 t0 [] :=
  ⟨hu, ht, fun b h => by simp at h, fun i _ => by simp, fun i _ => by simp, List.Pairwise.nil⟩
theorem Good.step {u0 t0 : List Bool} (h : Good x y u0 t0 least u t out) (h1 : 1 ≤ least) (hl : least ≤ (bst x y u t).2.2) :
    Good x y u0 t0 least (mrk u (bst x y u t).1 (bst x y u t).2.2) (mrk t (bst x y u t).2.1 (bst x y u t).2.2) (out ++ [bst x y u t]) := by
  have hk := bst_ok (x := x) (y := y) (u := u) (t := t) (by omega)
  generalize bst x y u t = b at hk hl
  have a1 := hk.f0
  have a2 := hk.f1
  have a3 := hk.t0
  have a4 := hk.t1
  have lu := h.hu
  have lt := h.ht
  refine ⟨(mrk_len a1 (by omega) (by omega)).trans lu, (mrk_len a3 (by omega) (by omega)).trans lt, fun c hc => ?_, fun i hi => ?_, fun i hi => ?_, ?_⟩
  · rcases List.mem_append.1 hc with hc | hc
    · exact h.blk c hc
    · obtain rfl := List.mem_singleton.1 hc
      refine ⟨hl, a1, a2, a3, a4, fun k h0 h1 => ?_⟩
      obtain ⟨k1, k2, k3, k4, k5⟩ := hk.ok k h0 h1
      exact ⟨k1, k2, k3, fun hh => k4 ((h.mu _ (by omega)).2 (.inl hh)), fun hh => k5 ((h.mt _ (by omega)).2 (.inl hh))⟩
  · rw [hasB_mrk a1 (by omega) (by omega) hi, h.mu i hi]
    constructor
    · rintro ((h | ⟨c, hc, h⟩) | h)
      · exact .inl h
      · exact .inr ⟨c, List.mem_append_left _ hc, h⟩
      · exact .inr ⟨b, by simp, h⟩
    · rintro (h | ⟨c, hc, h⟩)
      · exact .inl (.inl h)
      · rcases List.mem_append.1 hc with hc | hc
        · exact .inl (.inr ⟨c, hc, h⟩)
        · obtain rfl := List.mem_singleton.1 hc
          exact .inr h
  · rw [hasB_mrk a3 (by omega) (by omega) hi, h.mt i hi]
    constructor
    · rintro ((h | ⟨c, hc, h⟩) | h)
      · exact .inl h
      · exact .inr ⟨c, List.mem_append_left _ hc, h⟩
      · exact .inr ⟨b, by simp, h⟩
    · rintro (h | ⟨c, hc, h⟩)
      · exact .inl (.inl h)
      · rcases List.mem_append.1 hc with hc | hc
        · exact .inl (.inr ⟨c, hc, h⟩)
        · obtain rfl := List.mem_singleton.1 hc
          exact .inr h
  · refine List.pairwise_append.2 ⟨h.dj, List.pairwise_singleton _ _, fun c hc d hd => ?_⟩
    obtain rfl := List.mem_singleton.1 hd
    intro k l hk0 hk1 hl0 hl1
    obtain ⟨_, _, _, k4, k5⟩ := hk.ok l hl0 hl1
    have := (h.blk c hc).2
    have c0 := this.f0
    have c1 := this.t0
    exact ⟨fun e => k4 ((h.mu _ (by omega)).2 (.inr ⟨c, hc, by omega, by omega⟩)), fun e => k5 ((h.mt _ (by omega)).2 (.inr ⟨c, hc, by omega, by omega⟩))⟩
theorem fnd_good {u0 t0 : List Bool} (h1 : 1 ≤ least) : ∀ (n : Nat) (u t : List Bool) (out : List B3), u.count false ≤ n → Good x y u0 t0 least u t out →
    Good x y u0 t0 least (fnd x y least u t out).1 (fnd x y least u t out).2.1 (fnd x y least u t out).2.2 ∧ (bst x y (fnd x y least u t out).1 (fnd x y least u t out).2.1).2.2 < least := by
  intro n
  induction n with
  | zero =>
    intro u t out hn h
    rw [fnd]
    split
    · rename_i hc; omega
    · rename_i hc
      refine ⟨h, ?_⟩
      rcases Int.lt_or_le (bst x y u t).2.2 least with hl | hl
      · exact hl
      · exact absurd ⟨hl, cnt_bst (by omega) h.hu⟩ hc
  | succ n ih =>
    intro u t out hn h
    rw [fnd]
    split
    · rename_i hc
      exact ih _ _ _ (by omega) (h.step h1 hc.1)
    · rename_i hc
      refine ⟨h, ?_⟩
      rcases Int.lt_or_le (bst x y u t).2.2 least with hl | hl
      · exact hl
      · exact absurd ⟨hl, cnt_bst (by omega) h.hu⟩ hc
end
/-! ### In order -/
def insB (b : B3) (l : List B3) : List B3 := l.takeWhile (fun c => decide (c.1 < b.1)) ++ b :: l.dropWhile (fun c => decide (c.1 < b.1))
def srt (l : List B3) : List B3 := l.foldl (fun acc b => insB b acc) []
theorem srt_snoc (l : List B3) (b : B3) : srt (l ++ [b]) = insB b (srt l) := by unfold srt; rw [List.foldl_append]; rfl
theorem insB_perm (b : B3) (l : List B3) : (insB b l).Perm (b :: l) := by
  unfold insB
  refine List.perm_middle.trans ?_
  rw [List.takeWhile_append_dropWhile]
theorem insB_len (b : B3) (l : List B3) : (insB b l).length = l.length + 1 := by simpa using (insB_perm b l).length_eq
theorem srt_perm (l : List B3) : (srt l).Perm l := by
  have : ∀ (l acc : List B3), (l.foldl (fun acc b => insB b acc) acc).Perm (acc ++ l) := by
    intro l
    induction l with
    | nil => intro acc; simp
    | cons b l ih =>
      intro acc
      rw [List.foldl_cons]
      refine (ih _).trans (((insB_perm b acc).append_right l).trans ?_)
      exact (List.perm_middle.symm : (b :: (acc ++ l)).Perm _)
  have h := this l []
  rwa [List.nil_append] at h
theorem take_dropWhile {b : B3} : ∀ {l : List B3} {k : Nat}, k ≤ l.length → (∀ c ∈ l.take k, c.1 < b.1) → (∀ h : k < l.length, ¬ (l[k].1 < b.1)) → l.takeWhile (fun c => decide (c.1 < b.1)) = l.take k ∧ l.dropWhile (fun c => decide (c.1 < b.1)) = l.drop k
  | [], k, _, _, _ => by simp
  | c :: l, 0, _, _, h => by
    have := h (by simp)
    simp only [List.getElem_cons_zero] at this
    simp [this]
  | c :: l, k + 1, hk, h1, h => by
    have hc : c.1 < b.1 := h1 c (by simp)
    have := take_dropWhile (b := b) (l := l) (k := k) (by simpa using hk) (fun d hd => h1 d (by simp [hd])) (fun hh => h (by simpa using hh))
    simp [hc, this]
theorem insB_at {b : B3} {l : List B3} {k : Int} (h0 : 0 ≤ k) (hk : k ≤ l.length) (h1 : ∀ i : Int, 0 ≤ i → i < k → (l.getD i.toNat (0, 0, 0)).1 < b.1) (h2 : k < l.length → ¬ (l.getD k.toNat (0, 0, 0)).1 < b.1) : insB b l = l.take k.toNat ++ b :: l.drop k.toNat := by
  have := take_dropWhile (b := b) (l := l) (k := k.toNat) (by omega) (fun c hc => by
    obtain ⟨i, hi, rfl⟩ := List.getElem_of_mem hc
    rw [List.length_take] at hi
    have hi' : i < k.toNat ∧ i < l.length := by omega
    have := h1 i (by omega) (by omega)
    simpa [List.getD, hi'.2] using this) (fun h => by
    have := h2 (by omega)
    simpa [List.getD, h] using this)
  unfold insB
  rw [this.1, this.2]
theorem mem_takeWhile {p : B3 → Bool} : ∀ {l : List B3}, ∀ c ∈ l.takeWhile p, p c = true
  | [], c, h => by simp at h
  | a :: l, c, h => by
    rw [List.takeWhile_cons] at h
    split at h
    · rename_i hp
      rcases List.mem_cons.1 h with rfl | h
      · exact hp
      · exact mem_takeWhile c h
    · simp at h
theorem insB_sorted {b : B3} : ∀ {l : List B3}, l.Pairwise (fun p q => p.1 ≤ q.1) → (insB b l).Pairwise (fun p q => p.1 ≤ q.1)
  | [], _ => by simp [insB]
  | c :: l, h => by
    obtain ⟨h1, h2⟩ := List.pairwise_cons.1 h
    by_cases hc : c.1 < b.1
    · have e : insB b (c :: l) = c :: insB b l := by simp [insB, hc]
      rw [e]
      refine List.pairwise_cons.2 ⟨fun d hd => ?_, insB_sorted h2⟩
      rcases List.mem_cons.1 ((insB_perm b l).mem_iff.1 hd) with rfl | hd
      · omega
      · exact h1 d hd
    · have e : insB b (c :: l) = b :: c :: l := by simp [insB, hc]
      rw [e]
      refine List.pairwise_cons.2 ⟨fun d hd => ?_, h⟩
      rcases List.mem_cons.1 hd with rfl | hd
      · omega
      · have := h1 d hd; omega
theorem srt_sorted (l : List B3) : (srt l).Pairwise (fun p q => p.1 ≤ q.1) := by
  have : ∀ (l acc : List B3), acc.Pairwise (fun p q => p.1 ≤ q.1) → (l.foldl (fun acc b => insB b acc) acc).Pairwise (fun p q => p.1 ≤ q.1) := by
    intro l
    induction l with
    | nil => intro acc h; exact h
    | cons b l ih => intro acc h; rw [List.foldl_cons]; exact ih _ (insB_sorted h)
  exact this l [] List.Pairwise.nil
theorem sorted_eq : ∀ {l1 l2 : List B3}, l1.Perm l2 → l1.Pairwise (fun p q => p.1 ≤ q.1) → l2.Pairwise (fun p q => p.1 ≤ q.1) → (∀ p ∈ l1, ∀ q ∈ l1, p.1 = q.1 → p = q) → l1 = l2
  | [], l2, hp, _, _, _ => (List.Perm.nil_eq hp)
  | a :: l1, [], hp, _, _, _ => absurd hp.length_eq (by simp)
  | a :: l1, b :: l2, hp, h1, h2, hd => by
    obtain ⟨a1, a2⟩ := List.pairwise_cons.1 h1
    obtain ⟨b1, b2⟩ := List.pairwise_cons.1 h2
    have hab : a = b := by
      have hb : b ∈ a :: l1 := hp.mem_iff.2 (by simp)
      have ha : a ∈ b :: l2 := hp.mem_iff.1 (by simp)
      rcases List.mem_cons.1 hb with e | hb
      · exact e.symm
      · rcases List.mem_cons.1 ha with e | ha
        · exact e
        · have := a1 b hb
          have := b1 a ha
          exact hd a (by simp) b (by simp [hb]) (by omega)
    subst hab
    rw [sorted_eq (List.Perm.cons_inv hp) a2 b2 fun p hp q hq => hd p (by simp [hp]) q (by simp [hq])]
theorem dsj_from {out : List B3} (hn : ∀ b ∈ out, 1 ≤ b.2.2) (h : out.Pairwise dsj) : ∀ p ∈ out, ∀ q ∈ out, p.1 = q.1 → p = q := by
  intro p hp q hq e
  obtain ⟨i, hi, rfl⟩ := List.getElem_of_mem hp
  obtain ⟨j, hj, rfl⟩ := List.getElem_of_mem hq
  have n1 := hn _ hp
  have n2 := hn _ hq
  rcases Nat.lt_trichotomy i j with h1 | h1 | h1
  · have := (List.pairwise_iff_getElem.1 h i j hi hj h1 0 0 (by omega) (by omega) (by omega) (by omega)).1
    omega
  · subst h1; rfl
  · have := (List.pairwise_iff_getElem.1 h j i hj hi h1 0 0 (by omega) (by omega) (by omega) (by omega)).1
    omega
/-- What is found, in order. -/
def FND (x y : List Int) (least : Int) (u t : List Bool) : List B3 := srt (fnd x y least u t []).2.2
theorem srt_of {x y : List Int} {least : Int} {u t u0 t0 : List Bool} {out ys : List B3} (h1 : 1 ≤ least) (hu : u0.length = x.length) (ht : t0.length = y.length) (q : fnd x y least u t out = fnd x y least u0 t0 []) (hs : fnd x y least u t out = (u, t, out)) (hp : ys.Perm out) (hd : ys.Pairwise fun a b => ¬ b.1 - a.1 < 0) : ys = FND x y least u0 t0 := by
  have hg := (fnd_good (least := least) h1 _ u0 t0 [] (Nat.le_refl _) (Good.init hu ht)).1
  have e : (fnd x y least u0 t0 []).2.2 = out := by rw [← q, hs]
  rw [e] at hg
  unfold FND
  rw [e]
  have hsort : ys.Pairwise (fun p q : B3 => p.1 ≤ q.1) := hd.imp fun {a b} h => by omega
  have hinj := dsj_from (fun b hb => by have := (hg.blk b hb).1; omega) hg.dj
  exact sorted_eq (hp.trans (srt_perm _).symm) hsort (srt_sorted _) fun p hp' q hq' => hinj p (hp.mem_iff.1 hp') q (hp.mem_iff.1 hq')
end Go.Mov
theorem ext_g3 {a b : List (Int × Int × Int)} (hl : a.length = b.length) (h : ∀ t : Int, 0 ≤ t → t < a.length → (a.getD t.toNat (0, 0, 0)).1 = (b.getD t.toNat (0, 0, 0)).1 ∧ (a.getD t.toNat (0, 0, 0)).2.1 = (b.getD t.toNat (0, 0, 0)).2.1 ∧ (a.getD t.toNat (0, 0, 0)).2.2 = (b.getD t.toNat (0, 0, 0)).2.2) : a = b := by
  apply List.ext_getElem hl
  intro i h1 h2
  have := h i (by omega) (by omega)
  simp [List.getD, h1, h2] at this
  exact Prod.ext this.1 (Prod.ext this.2.1 this.2.2)
/-! ### What stays -/
namespace Go.Mov
open Go.Gv Go.Itn Go.Scr Go.Mys
def STY (a b : List Ln) : List (Int × Int) := if a.length > 400 ∨ b.length > 400 then [] else Prs (NA a) (NB a b)
def STE (a b : List Ln) : Int := if a.length > 400 ∨ b.length > 400 then 4 else 0
def usd (n : Nat) (ps : List (Int × Int)) : List Bool := ps.foldl (fun u p => mrk u p.1 1) (List.replicate n false)
def tkn (n : Nat) (ps : List (Int × Int)) : List Bool := ps.foldl (fun u p => mrk u p.2 1) (List.replicate n false)
theorem STE_0 {a b : List Ln} (h : ¬ STE a b ≠ 0) : a.length ≤ 400 ∧ b.length ≤ 400 := by
  unfold STE at h
  split at h <;> omega
theorem STE_1 {a b : List Ln} (h : STE a b ≠ 0) : a.length > 400 ∨ b.length > 400 := by
  unfold STE at h
  split at h
  · assumption
  · omega
theorem STY_ok {a b : List Ln} (ha : a.length ≤ 400) (hb : b.length ≤ 400) {t : Int} (h0 : 0 ≤ t) (h1 : t < (STY a b).length) :
    0 ≤ ((STY a b).getD t.toNat (0, 0)).1 ∧ ((STY a b).getD t.toNat (0, 0)).1 < a.length ∧ 0 ≤ ((STY a b).getD t.toNat (0, 0)).2 ∧ ((STY a b).getD t.toNat (0, 0)).2 < b.length := by
  have e : STY a b = Prs (NA a) (NB a b) := if_neg (by omega)
  rw [e] at h1 ⊢
  have l1 := NA_len a
  have l2 := NB_len a b
  obtain ⟨q1, q2, q3, q4, _⟩ := Prs_ok (a := NA a) (b := NB a b) (by omega) (by omega) h0 h1
  omega
theorem STY_len {a b : List Ln} : (STY a b).length ≤ 400 := by
  unfold STY
  split
  · simp
  · have l1 := NA_len a
    have l2 := NB_len a b
    have := Prs_len (a := NA a) (b := NB a b) (by omega) (by omega)
    have := Dst_bd (NA a) (NB a b)
    omega
theorem usd_snoc {n : Nat} {ps : List (Int × Int)} {u : List Bool} {i : Int} (h0 : 0 ≤ i) (h1 : i < ps.length) (q : u = usd n (ps.take i.toNat)) : mrk u (ps.getD i.toNat (0, 0)).1 1 = usd n (ps.take (i + 1).toNat) := by
  rw [take_snoc (0, 0) h0 h1, q]
  unfold usd
  rw [List.foldl_append]
  rfl
theorem tkn_snoc {n : Nat} {ps : List (Int × Int)} {u : List Bool} {i : Int} (h0 : 0 ≤ i) (h1 : i < ps.length) (q : u = tkn n (ps.take i.toNat)) : mrk u (ps.getD i.toNat (0, 0)).2 1 = tkn n (ps.take (i + 1).toNat) := by
  rw [take_snoc (0, 0) h0 h1, q]
  unfold tkn
  rw [List.foldl_append]
  rfl
/-- What is found of two texts. -/
def FB (a b : List Ln) (least : Int) : List B3 := if STE a b ≠ 0 ∨ least < 1 ∨ least > 400 then [] else FND (NA a) (NB a b) least (usd a.length (STY a b)) (tkn b.length (STY a b))
def FE (a b : List Ln) (least : Int) : Int := if STE a b ≠ 0 then STE a b else if least < 1 ∨ least > 400 then 2 else 0
end Go.Mov
