/- What is kept of two rows by what is there once in both, and between by the shortest way: plain. -/
import Derived.Test.YtjjilkibcomfcaaPaA
namespace Go.Pat
open Go.Gv Go.Itn Go.Mys

/-! ### anchors -/
def ANC (a b : List Int) : List (Int × Int) := (LNG ((onc a b).map (·.2))).map fun i => (onc a b).getD i.toNat (0, 0)
theorem oncT_mem {a b : List Int} : ∀ (n : Nat), ∀ p ∈ oncT a b n, 0 ≤ p.1 ∧ p.1 < n ∧ 0 ≤ p.2 ∧ p.2 < b.length ∧ a.count (gI a p.1) = 1 ∧ gI a p.1 = gI b p.2 := by
  intro n p hp
  unfold oncT at hp
  obtain ⟨t, ht, hp⟩ := List.mem_flatMap.1 hp
  have ht := List.mem_range.1 ht
  unfold onc1 at hp
  split at hp
  · next hc =>
    rw [List.mem_singleton.1 hp]
    have hb := idx_bd hc.2
    exact ⟨by show (0 : Int) ≤ t; omega, by show (t : Int) < n; omega, hb.1, hb.2.1, hc.1, hb.2.2.symm⟩
  · cases hp
theorem oncT_pw {a b : List Int} : ∀ (n : Nat), (oncT a b n).Pairwise fun p q => p.1 < q.1
  | 0 => .nil
  | n + 1 => by
    have h := oncT_snoc a b (i := n) (by omega)
    rw [show ((n : Int) + 1).toNat = n + 1 by omega, show (n : Int).toNat = n by omega] at h
    rw [h, List.pairwise_append]
    refine ⟨oncT_pw n, ?_, fun p hp q hq => ?_⟩
    · unfold onc1; split
      · exact List.pairwise_singleton _ _
      · exact .nil
    · have h1 := (oncT_mem n p hp).2.1
      unfold onc1 at hq
      split at hq
      · rw [List.mem_singleton.1 hq]; exact h1
      · cases hq
/-- Pairs that lie within two rows, and rise in both. -/
structure Up (n m : Nat) (l : List (Int × Int)) : Prop where
  pw : l.Pairwise fun p q => p.1 < q.1 ∧ p.2 < q.2
  bd : ∀ p ∈ l, 0 ≤ p.1 ∧ p.1 < n ∧ 0 ≤ p.2 ∧ p.2 < m
theorem ANC_up (a b : List Int) : Up a.length b.length (ANC a b) := by
  have hr := LNG_ris ((onc a b).map (·.2))
  have hin : ∀ c ∈ LNG ((onc a b).map (·.2)), ∃ h : c.toNat < (onc a b).length, (onc a b).getD c.toNat (0, 0) = (onc a b)[c.toNat] ∧ gI ((onc a b).map (·.2)) c = ((onc a b)[c.toNat]).2 := fun c hc => by
    have h := hr.2 c hc
    rw [List.length_map] at h
    have hlt : c.toNat < (onc a b).length := by omega
    exact ⟨hlt, by simp [List.getD, hlt], by simp [gI, List.getD, hlt]⟩
  refine ⟨?_, fun p hp => ?_⟩
  · unfold ANC
    rw [List.pairwise_map]
    refine hr.1.imp_of_mem fun {c d} hc hd h => ?_
    obtain ⟨h1, e1, f1⟩ := hin c hc
    obtain ⟨h2, e2, f2⟩ := hin d hd
    rw [e1, e2]
    have hc0 := (hr.2 c hc).1
    rw [f1, f2] at h
    exact ⟨List.pairwise_iff_getElem.1 (oncT_pw (a := a) (b := b) a.length) _ _ h1 h2 (by omega), h.2⟩
  · unfold ANC at hp
    obtain ⟨c, hc, rfl⟩ := List.mem_map.1 hp
    obtain ⟨h1, e1, _⟩ := hin c hc
    rw [e1]
    have := oncT_mem (a := a) (b := b) a.length _ (List.getElem_mem h1)
    exact ⟨this.1, this.2.1, this.2.2.1, this.2.2.2.1⟩
/-! ### the pairs -/
def mvd (p : List (Int × Int)) (i j : Int) : List (Int × Int) := p.map fun q => (q.1 + i, q.2 + j)
theorem mvd_nil (i j : Int) : mvd [] i j = [] := rfl
theorem mvd_app (p q : List (Int × Int)) (i j : Int) : mvd (p ++ q) i j = mvd p i j ++ mvd q i j := List.map_append
theorem mvd_cons (x : Int × Int) (p : List (Int × Int)) (i j : Int) : mvd (x :: p) i j = (x.1 + i, x.2 + j) :: mvd p i j := rfl
theorem mvd_mvd (p : List (Int × Int)) (x y i j : Int) : mvd (mvd p x y) i j = mvd p (i + x) (j + y) := by
  unfold mvd; rw [List.map_map]; congr 1; funext q; simp; omega
theorem mvd_0 (p : List (Int × Int)) : mvd p 0 0 = p := by unfold mvd; simp
theorem mvd_len (p : List (Int × Int)) (i j : Int) : (mvd p i j).length = p.length := List.length_map ..
theorem mvd_snoc {p : List (Int × Int)} {k i j : Int} (h0 : 0 ≤ k) (h1 : k < p.length) : mvd (p.take k.toNat) i j ++ [((p.getD k.toNat (0, 0)).1 + i, (p.getD k.toNat (0, 0)).2 + j)] = mvd (p.take (k + 1).toNat) i j := by
  rw [take_snoc (0, 0) h0 h1, mvd_app]; rfl
/-- n pairs from two places on. -/
def run (i j : Int) : Nat → List (Int × Int)
  | 0 => []
  | n + 1 => run i j n ++ [(i + n, j + n)]
theorem run_len (i j : Int) (n : Nat) : (run i j n).length = n := by induction n with
  | zero => rfl
  | succ n ih => simp [run, ih]
theorem run_snoc {i j k : Int} (h : 0 ≤ k) : run i j k.toNat ++ [(i + k, j + k)] = run i j (k + 1).toNat := by
  rw [show (k + 1).toNat = k.toNat + 1 by omega]; show _ = _ ++ _; rw [show ((k.toNat : Nat) : Int) = k by omega]
theorem run_one (i j : Int) : run i j 1 = [(i, j)] := by simp [run]
theorem run_mvd (i j x y : Int) (n : Nat) : mvd (run i j n) x y = run (i + x) (j + y) n := by
  induction n with
  | zero => rfl
  | succ n ih => simp only [run]; rw [mvd_app, ih]; simp [mvd]; omega
theorem run_cons (i j : Int) (n : Nat) : run i j (n + 1) = (i, j) :: run (i + 1) (j + 1) n := by
  induction n with
  | zero => simp [run]
  | succ n ih => rw [run, ih, run]; simp; omega
abbrev PF := List Int → List Int → List (Int × Int)
def seg (P : PF) (a b : List Int) : List (Int × Int) → Int → Int → List (Int × Int)
  | [], x, y => mvd (P (a.drop x.toNat) (b.drop y.toNat)) x y
  | p :: ps, x, y => mvd (P ((a.take p.1.toNat).drop x.toNat) ((b.take p.2.toNat).drop y.toNat)) x y ++ p :: seg P a b ps (p.1 + 1) (p.2 + 1)
def pbody (P : PF) (a b : List Int) : List (Int × Int) :=
  if a = [] ∨ b = [] then [] else
  if gI a 0 = gI b 0 then (0, 0) :: mvd (P (a.drop 1) (b.drop 1)) 1 1 else
  if gI a (a.length - 1) = gI b (b.length - 1) then P (a.take (a.length - 1)) (b.take (b.length - 1)) ++ [((a.length : Int) - 1, (b.length : Int) - 1)] else
  if ANC a b = [] then prs (way a b) 0 0 else seg P a b (ANC a b) 0 0
def prF : Nat → PF
  | 0, _, _ => []
  | f + 1, a, b => pbody (prF f) a b
def PR (a b : List Int) : List (Int × Int) := prF (a.length + b.length + 1) a b
theorem seg_congr {P Q : PF} {a b : List Int} {N : Nat} (hN : a.length + b.length ≤ N + 1) (h : ∀ a' b' : List Int, a'.length + b'.length ≤ N → P a' b' = Q a' b') : ∀ (l : List (Int × Int)) (x y : Int), (∀ p ∈ l, p.1 < a.length ∧ p.2 < b.length) → (l = [] → 1 ≤ x ∧ 1 ≤ a.length) → 0 ≤ x → (∀ p ∈ l, 0 ≤ p.1) → seg P a b l x y = seg Q a b l x y
  | [], x, y, _, h2, _, _ => by
    have := h2 rfl
    unfold seg
    rw [h _ _ (by rw [List.length_drop, List.length_drop]; omega)]
  | p :: ps, x, y, h1, _, h3, h4 => by
    have h5 := h1 p (.head _)
    have h6 := h4 p (.head _)
    unfold seg
    rw [h _ _ (by rw [List.length_drop, List.length_drop, List.length_take, List.length_take]; omega), seg_congr hN h ps _ _ (fun q hq => h1 q (.tail _ hq)) (fun _ => by omega) (by omega) (fun q hq => h4 q (.tail _ hq))]
theorem pbody_congr {P Q : PF} {a b : List Int} {N : Nat} (hN : a.length + b.length ≤ N + 1) (h : ∀ a' b' : List Int, a'.length + b'.length ≤ N → P a' b' = Q a' b') : pbody P a b = pbody Q a b := by
  unfold pbody
  by_cases h0 : a = [] ∨ b = []
  · rw [if_pos h0, if_pos h0]
  · have ha : 1 ≤ a.length := by rcases Nat.eq_zero_or_pos a.length with e | e; exact absurd (.inl (List.eq_nil_of_length_eq_zero e)) h0; exact e
    have hb : 1 ≤ b.length := by rcases Nat.eq_zero_or_pos b.length with e | e; exact absurd (.inr (List.eq_nil_of_length_eq_zero e)) h0; exact e
    rw [if_neg h0, if_neg h0, h _ _ (by rw [List.length_drop, List.length_drop]; omega), h (a.take _) _ (by rw [List.length_take, List.length_take]; omega)]
    by_cases hA : ANC a b = []
    · rw [if_pos hA, if_pos hA]
    · have hu := ANC_up a b
      rw [if_neg hA, if_neg hA, seg_congr hN h _ _ _ (fun p hp => by have := hu.bd p hp; omega) (fun e => absurd e hA) (by omega) (fun p hp => (hu.bd p hp).1)]
theorem prF_eq : ∀ (f g : Nat) (a b : List Int), a.length + b.length < f → a.length + b.length < g → prF f a b = prF g a b
  | 0, _, _, _, h, _ => by omega
  | _, 0, _, _, _, h => by omega
  | f + 1, g + 1, a, b, h1, h2 => by
    show pbody _ a b = pbody _ a b
    by_cases h0 : a.length + b.length = 0
    · have : a = [] := List.eq_nil_of_length_eq_zero (by omega)
      unfold pbody; rw [if_pos (.inl this), if_pos (.inl this)]
    · exact pbody_congr (N := a.length + b.length - 1) (by omega) fun a' b' h => prF_eq f g a' b' (by omega) (by omega)
theorem PR_eq (a b : List Int) : PR a b = pbody PR a b := by
  show pbody _ a b = pbody _ a b
  by_cases h0 : a.length + b.length = 0
  · have : a = [] := List.eq_nil_of_length_eq_zero (by omega)
    unfold pbody; rw [if_pos (.inl this), if_pos (.inl this)]
  · exact pbody_congr (N := a.length + b.length - 1) (by omega) fun a' b' h => prF_eq _ _ a' b' (by omega) (by omega)
theorem PR_nil {a b : List Int} (h : a = [] ∨ b = []) : PR a b = [] := by rw [PR_eq]; unfold pbody; rw [if_pos h]
/-- Rows that neither begin nor end alike. -/
def Apart (a b : List Int) : Prop := a = [] ∨ b = [] ∨ (¬ gI a 0 = gI b 0 ∧ ¬ gI a (a.length - 1) = gI b (b.length - 1))
theorem ANC_e {a b : List Int} (h : a = [] ∨ b = []) : ANC a b = [] := by
  have hu := (ANC_up a b).bd
  cases e : ANC a b with
  | nil => rfl
  | cons p l =>
    have := hu p (by rw [e]; exact .head _)
    rcases h with h | h <;> subst h <;> simp at this <;> omega
theorem way_e {a b : List Int} (h : a = [] ∨ b = []) : prs (way a b) 0 0 = [] := by
  have := way_len _ a b 0 0 (Nat.le_refl _)
  have hd := dist_ex a b
  obtain ⟨l, h1, h2, h3⟩ := hd
  have : l = [] := by rcases h with h | h <;> subst h; exact List.sublist_nil.1 h1; exact List.sublist_nil.1 h2
  subst this
  exact List.eq_nil_of_length_eq_zero (by simp at h3; omega)
theorem PR_apart {a b : List Int} (h : Apart a b) : PR a b = if ANC a b = [] then prs (way a b) 0 0 else seg PR a b (ANC a b) 0 0 := by
  by_cases h0 : a = [] ∨ b = []
  · rw [PR_nil h0, if_pos (ANC_e h0), way_e h0]
  · have h1 := (h.resolve_left fun e => h0 (.inl e)).resolve_left fun e => h0 (.inr e)
    rw [PR_eq]; unfold pbody
    rw [if_neg h0, if_neg h1.1, if_neg h1.2]
theorem PR_front : ∀ (a b : List Int), PR a b = run 0 0 (efst a b) ++ mvd (PR (a.drop (efst a b)) (b.drop (efst a b))) (efst a b) (efst a b)
  | [], b => by rw [show efst [] b = 0 from by cases b <;> rfl]; simp [run, PR_nil, mvd]
  | x :: xs, [] => by rw [show efst (x :: xs) [] = 0 from rfl]; simp [run, PR_nil, mvd]
  | x :: xs, y :: ys => by
    by_cases h : x = y
    · have e : efst (x :: xs) (y :: ys) = efst xs ys + 1 := if_pos h
      rw [e, run_cons, PR_eq]; unfold pbody
      rw [if_neg (by simp), if_pos (by simpa [gI] using h)]
      show (0, 0) :: mvd (PR xs ys) 1 1 = _
      rw [PR_front xs ys, mvd_app, run_mvd, mvd_mvd]
      simp [List.drop_succ_cons]
      congr 1 <;> omega
    · have e : efst (x :: xs) (y :: ys) = 0 := if_neg h
      rw [e]; simp [run, mvd]
theorem efst_0 {a b : List Int} (h : efst a b = 0) : a = [] ∨ b = [] ∨ ¬ gI a 0 = gI b 0 := by
  cases a with
  | nil => exact .inl rfl
  | cons x xs =>
    cases b with
    | nil => exact .inr (.inl rfl)
    | cons y ys =>
      refine .inr (.inr fun e => ?_)
      have : x = y := by simpa [gI] using e
      unfold efst at h
      rw [if_pos this] at h; omega
theorem efst_r {a b : List Int} {x y : Int} : efst (a ++ [x]).reverse (b ++ [y]).reverse = if x = y then efst a.reverse b.reverse + 1 else 0 := by
  rw [List.reverse_append, List.reverse_append]; rfl
theorem gI_last {a : List Int} {x : Int} : gI (a ++ [x]) ((a ++ [x]).length - 1) = x := by
  have := gI_app2 (a := a) (x := x)
  rw [show (((a ++ [x]).length : Int) - 1) = a.length by simp]; exact this
theorem PR_back : ∀ (n : Nat) (a b : List Int), a.length ≤ n → (a = [] ∨ b = [] ∨ ¬ gI a 0 = gI b 0) →
    PR a b = PR (a.take (a.length - efst a.reverse b.reverse)) (b.take (b.length - efst a.reverse b.reverse)) ++ run (a.length - efst a.reverse b.reverse) (b.length - efst a.reverse b.reverse) (efst a.reverse b.reverse) ∧
    Apart (a.take (a.length - efst a.reverse b.reverse)) (b.take (b.length - efst a.reverse b.reverse)) := by
  intro n
  induction n with
  | zero =>
    intro a b hn h
    have : a = [] := List.eq_nil_of_length_eq_zero (by omega)
    subst this
    have e : efst ([] : List Int).reverse b.reverse = 0 := by cases b.reverse <;> rfl
    rw [e]; exact ⟨by simp [run, PR_nil], .inl rfl⟩
  | succ n ih =>
    intro a b hn h
    rcases List.eq_nil_or_concat a with ha | ⟨a, x, rfl⟩
    · subst ha
      have e : efst ([] : List Int).reverse b.reverse = 0 := by cases b.reverse <;> rfl
      rw [e]; exact ⟨by simp [run, PR_nil], .inl rfl⟩
    rcases List.eq_nil_or_concat b with hb | ⟨b, y, rfl⟩
    · subst hb
      have e : efst (a ++ [x]).reverse ([] : List Int).reverse = 0 := by cases (a ++ [x]).reverse <;> rfl
      rw [List.concat_eq_append] at *
      rw [e]; exact ⟨by simp [run, PR_nil], .inr (.inl rfl)⟩
    rw [List.concat_eq_append, List.concat_eq_append] at *
    have h0 := (h.resolve_left (by simp)).resolve_left (by simp)
    rw [efst_r]
    by_cases hxy : x = y
    · rw [if_pos hxy]
      have h3 : a = [] ∨ b = [] ∨ ¬ gI a 0 = gI b 0 := by
        rcases Nat.eq_zero_or_pos a.length with e | e
        · exact .inl (List.eq_nil_of_length_eq_zero e)
        rcases Nat.eq_zero_or_pos b.length with e' | e'
        · exact .inr (.inl (List.eq_nil_of_length_eq_zero e'))
        rw [gI_app1 (by omega) (by omega), gI_app1 (by omega) (by omega)] at h0
        exact .inr (.inr h0)
      have h1 := ih a b (by simp at hn; omega) h3
      have hl := efst_le a.reverse b.reverse
      simp only [List.length_reverse] at hl
      have e1 : (a ++ [x]).take ((a ++ [x]).length - (efst a.reverse b.reverse + 1)) = a.take (a.length - efst a.reverse b.reverse) := by
        rw [List.take_append_of_le_length (by simp)]; congr 1; simp
      have e2 : (b ++ [y]).take ((b ++ [y]).length - (efst a.reverse b.reverse + 1)) = b.take (b.length - efst a.reverse b.reverse) := by
        rw [List.take_append_of_le_length (by simp)]; congr 1; simp
      rw [e1, e2]
      refine ⟨?_, h1.2⟩
      rw [PR_eq]; unfold pbody
      rw [if_neg (by simp), if_neg h0, if_pos (by rw [gI_last, gI_last]; exact hxy)]
      rw [show (a ++ [x]).take ((a ++ [x]).length - 1) = a by simp, show (b ++ [y]).take ((b ++ [y]).length - 1) = b by simp, h1.1, List.append_assoc]
      congr 1
      simp only [run, List.length_append, List.length_cons, List.length_nil]
      congr 1
      · congr 1 <;> omega
      · congr 2 <;> omega
    · rw [if_neg hxy]
      have e1 : (a ++ [x]).take ((a ++ [x]).length - 0) = a ++ [x] := by rw [Nat.sub_zero, List.take_length]
      have e2 : (b ++ [y]).take ((b ++ [y]).length - 0) = b ++ [y] := by rw [Nat.sub_zero, List.take_length]
      rw [e1, e2]
      exact ⟨by simp [run], .inr (.inr ⟨h0, by rw [gI_last, gI_last]; exact hxy⟩)⟩
/-- The middle of two rows: what neither begins nor ends alike. -/
def mid (a b : List Int) : List Int := (a.take (a.length - elst a b)).drop (efst a b)
theorem elst_le (a b : List Int) : efst a b + elst a b ≤ a.length ∧ efst a b + elst a b ≤ b.length := by
  have h1 := efst_le a b
  have h2 := efst_le (a.drop (efst a b)).reverse (b.drop (efst a b)).reverse
  unfold elst
  simp only [List.length_reverse, List.length_drop] at h2
  omega
theorem drop_nil' {a : List Int} {n : Nat} (h : a.drop n = []) : a.length ≤ n := by have := congrArg List.length h; simp at this; omega
theorem efst_drop : ∀ (a b : List Int), efst (a.drop (efst a b)) (b.drop (efst a b)) = 0
  | [], b => by rw [show efst [] b = 0 from by cases b <;> rfl]; cases b <;> rfl
  | x :: xs, [] => rfl
  | x :: xs, y :: ys => by
    by_cases h : x = y
    · have e : efst (x :: xs) (y :: ys) = efst xs ys + 1 := if_pos h
      rw [e]; simpa using efst_drop xs ys
    · have e : efst (x :: xs) (y :: ys) = 0 := if_neg h
      rw [e]; exact e
theorem PR_find (a b : List Int) : PR a b = run 0 0 (efst a b) ++ mvd (PR ((a.take (a.length - elst a b)).drop (efst a b)) ((b.take (b.length - elst a b)).drop (efst a b))) (efst a b) (efst a b) ++ run (a.length - elst a b) (b.length - elst a b) (elst a b) ∧
    Apart ((a.take (a.length - elst a b)).drop (efst a b)) ((b.take (b.length - elst a b)).drop (efst a b)) := by
  have hb := PR_back _ (a.drop (efst a b)) (b.drop (efst a b)) (Nat.le_refl _) (efst_0 (efst_drop a b))
  have h1 := efst_le a b
  have h2 := elst_le a b
  have e1 : (a.drop (efst a b)).take ((a.drop (efst a b)).length - elst a b) = (a.take (a.length - elst a b)).drop (efst a b) := by
    rw [List.drop_take]; congr 1; rw [List.length_drop]; omega
  have e2 : (b.drop (efst a b)).take ((b.drop (efst a b)).length - elst a b) = (b.take (b.length - elst a b)).drop (efst a b) := by
    rw [List.drop_take]; congr 1; rw [List.length_drop]; omega
  change _ = PR (List.take (_ - elst a b) _) (List.take (_ - elst a b) _) ++ run (_ - (elst a b : Int)) (_ - (elst a b : Int)) (elst a b) ∧ Apart (List.take (_ - elst a b) _) (List.take (_ - elst a b) _) at hb
  rw [e1, e2] at hb
  refine ⟨?_, hb.2⟩
  rw [PR_front a b, hb.1, mvd_app, run_mvd, List.append_assoc]
  congr 3 <;> (rw [List.length_drop]; omega)
/-! ### how many -/
theorem seg_len {P : PF} {a b : List Int} {N : Nat} (hN : a.length + b.length ≤ N + 1) (h : ∀ a' b' : List Int, a'.length + b'.length ≤ N → 2 * (P a' b').length ≤ a'.length + b'.length) : ∀ (l : List (Int × Int)) (x y : Int), Up a.length b.length l → (l = [] → 1 ≤ x ∧ 1 ≤ a.length) → 0 ≤ x → 0 ≤ y → x ≤ a.length → y ≤ b.length → (∀ p ∈ l, x ≤ p.1 ∧ y ≤ p.2) → 2 * ((seg P a b l x y).length : Int) ≤ a.length - x + (b.length - y)
  | [], x, y, _, h2, h3, h4, h5, h6, _ => by
    have := h2 rfl
    unfold seg
    rw [mvd_len]
    have := h (a.drop x.toNat) (b.drop y.toNat) (by rw [List.length_drop, List.length_drop]; omega)
    rw [List.length_drop, List.length_drop] at this
    omega
  | p :: ps, x, y, hu, _, h3, h4, h5, h6, h7 => by
    have h8 := hu.bd p (.head _)
    have h9 := h7 p (.head _)
    have hp := List.pairwise_cons.1 hu.pw
    have i1 := seg_len hN h ps (p.1 + 1) (p.2 + 1) ⟨hp.2, fun q hq => hu.bd q (.tail _ hq)⟩ (fun _ => by omega) (by omega) (by omega) (by omega) (by omega) (fun q hq => by have := hp.1 q hq; omega)
    have i2 := h ((a.take p.1.toNat).drop x.toNat) ((b.take p.2.toNat).drop y.toNat) (by rw [List.length_drop, List.length_drop, List.length_take, List.length_take]; omega)
    rw [List.length_drop, List.length_drop, List.length_take, List.length_take] at i2
    unfold seg
    rw [List.length_append, mvd_len, List.length_cons]
    omega
theorem prF_len : ∀ (f : Nat) (a b : List Int), 2 * (prF f a b).length ≤ a.length + b.length := by
  intro f
  induction f with
  | zero => intro a b; simp [prF]
  | succ f ih =>
    intro a b
    show 2 * (pbody _ a b).length ≤ _
    unfold pbody
    by_cases h0 : a = [] ∨ b = []
    · rw [if_pos h0]; simp
    · have ha : 1 ≤ a.length := by rcases Nat.eq_zero_or_pos a.length with e | e; exact absurd (.inl (List.eq_nil_of_length_eq_zero e)) h0; exact e
      have hb : 1 ≤ b.length := by rcases Nat.eq_zero_or_pos b.length with e | e; exact absurd (.inr (List.eq_nil_of_length_eq_zero e)) h0; exact e
      rw [if_neg h0]
      split
      · have := ih (a.drop 1) (b.drop 1); rw [List.length_drop, List.length_drop] at this; rw [List.length_cons, mvd_len]; omega
      · split
        · have := ih (a.take (a.length - 1)) (b.take (b.length - 1)); rw [List.length_take, List.length_take] at this; rw [List.length_append]; simp; omega
        · split
          · have := way_len _ a b 0 0 (Nat.le_refl _); omega
          · next hA =>
            have := seg_len (N := a.length + b.length) (by omega) (fun a' b' _ => ih a' b') (ANC a b) 0 0 (ANC_up a b) (fun e => absurd e hA) (by omega) (by omega) (by omega) (by omega) (fun p hp => by have := (ANC_up a b).bd p hp; omega)
            omega
theorem PR_len (a b : List Int) : 2 * (PR a b).length ≤ a.length + b.length := prF_len _ a b
/-! ### what is there once is kept -/
theorem seg_mem {P : PF} {a b : List Int} : ∀ (l : List (Int × Int)) (x y : Int), ∀ p ∈ l, p ∈ seg P a b l x y
  | [], _, _, p, hp => by cases hp
  | q :: l, x, y, p, hp => by
    unfold seg
    rcases List.mem_cons.1 hp with e | e
    · subst e; exact List.mem_append_right _ (.head _)
    · exact List.mem_append_right _ (.tail _ (seg_mem l _ _ p e))
theorem ANC_all {a b : List Int} (h : ∀ t : Int, 0 < t → t < (onc a b).length → ((onc a b).getD (t - 1).toNat (0, 0)).2 < ((onc a b).getD t.toNat (0, 0)).2) : ANC a b = onc a b := by
  have hg : ∀ t : Int, 0 ≤ t → t < (onc a b).length → gI ((onc a b).map (·.2)) t = ((onc a b).getD t.toNat (0, 0)).2 := fun t h0 h1 => by
    have hlt : t.toNat < (onc a b).length := by omega
    simp [gI, List.getD, hlt]
  unfold ANC
  rw [LNG_all (l := (onc a b).map (·.2)) fun t h0 h1 => by rw [List.length_map] at h1; rw [hg _ (by omega) (by omega), hg _ (by omega) h1]; exact h t h0 h1]
  rw [List.map_map, List.length_map]
  refine List.ext_getElem (by simp) fun i h1 h2 => ?_
  simp [List.getD, h2]
theorem PR_once {a b : List Int} (h1 : efst a b = 0) (h2 : elst a b = 0) (h : ∀ t : Int, 0 < t → t < (onc a b).length → ((onc a b).getD (t - 1).toNat (0, 0)).2 < ((onc a b).getD t.toNat (0, 0)).2) : ∀ p ∈ onc a b, p ∈ PR a b := by
  intro p hp
  have hA := ANC_all h
  have hf := PR_find a b
  rw [h1, h2] at hf
  have ha := hf.2
  simp at ha
  rw [PR_apart ha, if_neg (by rw [hA]; exact List.ne_nil_of_mem hp)]
  exact seg_mem _ _ _ p (hA ▸ hp)
/-! ### steps -/
/-- What is done on the way along pairs, from two places on. -/
def stp (n m : Nat) : List (Int × Int) → Int → Int → List Int
  | [], x, y => List.replicate (n - x).toNat 2 ++ List.replicate (m - y).toNat 3
  | p :: ps, x, y => List.replicate (p.1 - x).toNat 2 ++ List.replicate (p.2 - y).toNat 3 ++ [1] ++ stp n m ps (p.1 + 1) (p.2 + 1)
end Go.Pat
namespace Go.Pat
open Go.Gv Go.Itn Go.Mys
/-! ### as the walks have it -/
theorem dropc {β : Type} {l : List β} {k : Int} (d : β) (h0 : 0 ≤ k) (h1 : k < l.length) : l.drop k.toNat = l.getD k.toNat d :: l.drop (k + 1).toNat := by
  have hlt : k.toNat < l.length := by omega
  rw [show (k + 1).toNat = k.toNat + 1 by omega, List.drop_eq_getElem_cons hlt]
  simp [List.getD, hlt]
theorem mvd_snoc' {p : List (Int × Int)} {k i j : Int} (h0 : 0 ≤ k) (h1 : k < p.length) : mvd (p.take k.toNat) i j ++ run (i + (p.getD k.toNat (0, 0)).1) (j + (p.getD k.toNat (0, 0)).2) 1 = mvd (p.take (k + 1).toNat) i j := by
  rw [run_one, ← mvd_snoc h0 h1, Int.add_comm i, Int.add_comm j]
theorem seg_at {P : PF} {a b : List Int} {l : List (Int × Int)} {k x y : Int} (h0 : 0 ≤ k) (h1 : k < l.length) : seg P a b (l.drop k.toNat) x y =
    mvd (P ((a.take (l.getD k.toNat (0, 0)).1.toNat).drop x.toNat) ((b.take (l.getD k.toNat (0, 0)).2.toNat).drop y.toNat)) x y ++ l.getD k.toNat (0, 0) :: seg P a b (l.drop (k + 1).toNat) ((l.getD k.toNat (0, 0)).1 + 1) ((l.getD k.toNat (0, 0)).2 + 1) := by
  rw [dropc (0, 0) h0 h1]; rfl
theorem seg_end {P : PF} {a b : List Int} {l : List (Int × Int)} {k x y : Int} (h1 : (l.length : Int) ≤ k) : seg P a b (l.drop k.toNat) x y = mvd (P (a.drop x.toNat) (b.drop y.toNat)) x y := by
  rw [List.drop_of_length_le (by omega)]; rfl
theorem Up.at {n m : Nat} {l : List (Int × Int)} (h : Up n m l) {t : Int} (h0 : 0 ≤ t) (h1 : t < l.length) : 0 ≤ (l.getD t.toNat (0, 0)).1 ∧ (l.getD t.toNat (0, 0)).1 < n ∧ 0 ≤ (l.getD t.toNat (0, 0)).2 ∧ (l.getD t.toNat (0, 0)).2 < m ∧
    ∀ u : Int, t < u → u < l.length → (l.getD t.toNat (0, 0)).1 < (l.getD u.toNat (0, 0)).1 ∧ (l.getD t.toNat (0, 0)).2 < (l.getD u.toNat (0, 0)).2 := by
  have hlt : t.toNat < l.length := by omega
  have e : l.getD t.toNat (0, 0) = l[t.toNat] := by simp [List.getD, hlt]
  have hb := h.bd _ (List.getElem_mem hlt)
  rw [e]
  refine ⟨hb.1, hb.2.1, hb.2.2.1, hb.2.2.2, fun u u0 u1 => ?_⟩
  have hlt2 : u.toNat < l.length := by omega
  rw [show l.getD u.toNat (0, 0) = l[u.toNat] by simp [List.getD, hlt2]]
  exact List.pairwise_iff_getElem.1 h.pw _ _ hlt hlt2 (by omega)
theorem Up.len {n m : Nat} {l : List (Int × Int)} (h : Up n m l) : l.length ≤ n := by
  have key : ∀ (l : List (Int × Int)) (x : Int), 0 ≤ x → x ≤ n → l.Pairwise (fun p q => p.1 < q.1 ∧ p.2 < q.2) → (∀ p ∈ l, x ≤ p.1 ∧ p.1 < n) → (l.length : Int) ≤ n - x := by
    intro l
    induction l with
    | nil => intro x _ hx _ _; simp; omega
    | cons p l ih =>
      intro x h0 hx hp hb
      have h1 := hb p (.head _)
      have hp := List.pairwise_cons.1 hp
      have := ih (p.1 + 1) (by omega) (by omega) hp.2 (fun q hq => by have := hp.1 q hq; have := hb q (.tail _ hq); omega)
      rw [List.length_cons]; omega
  have := key l 0 (Int.le_refl _) (by omega) h.pw (fun p hp => by have := h.bd p hp; omega)
  omega
/-! ### the pairs rise -/
/-- Rising pairs within bounds. -/
structure Ub (x n y m : Int) (l : List (Int × Int)) : Prop where
  pw : l.Pairwise fun p q => p.1 < q.1 ∧ p.2 < q.2
  bd : ∀ p ∈ l, x ≤ p.1 ∧ p.1 < n ∧ y ≤ p.2 ∧ p.2 < m
theorem Up.ub {n m : Nat} {l : List (Int × Int)} (h : Up n m l) : Ub 0 n 0 m l := ⟨h.pw, fun p hp => by have := h.bd p hp; omega⟩
theorem Ub.up {n m : Nat} {l : List (Int × Int)} (h : Ub 0 n 0 m l) : Up n m l := ⟨h.pw, fun p hp => by have := h.bd p hp; omega⟩
theorem Ub.nil {x n y m : Int} : Ub x n y m [] := ⟨.nil, fun _ h => by cases h⟩
theorem Ub.wide {x n y m x' n' y' m' : Int} {l : List (Int × Int)} (h : Ub x n y m l) (h1 : x' ≤ x) (h2 : n ≤ n') (h3 : y' ≤ y) (h4 : m ≤ m') : Ub x' n' y' m' l := ⟨h.pw, fun p hp => by have := h.bd p hp; omega⟩
theorem Ub.mvd {x n y m i j : Int} {l : List (Int × Int)} (h : Ub x n y m l) : Ub (x + i) (n + i) (y + j) (m + j) (mvd l i j) := by
  refine ⟨?_, fun p hp => ?_⟩
  · unfold Pat.mvd; rw [List.pairwise_map]; exact h.pw.imp fun {p q} hq => by simp only; omega
  · obtain ⟨q, hq, rfl⟩ := List.mem_map.1 hp; have := h.bd q hq; simp only; omega
theorem Ub.app {x n y m k l' : Int} {l q : List (Int × Int)} (h : Ub x k y l' l) (h2 : Ub k n l' m q) (h3 : x ≤ k) (h4 : k ≤ n) (h5 : y ≤ l') (h6 : l' ≤ m) : Ub x n y m (l ++ q) := by
  refine ⟨List.pairwise_append.2 ⟨h.pw, h2.pw, fun p hp r hr => ?_⟩, fun p hp => ?_⟩
  · have := h.bd p hp; have := h2.bd r hr; omega
  · rcases List.mem_append.1 hp with hp | hp
    · have := h.bd p hp; omega
    · have := h2.bd p hp; omega
theorem Ub.one {i j : Int} : Ub i (i + 1) j (j + 1) [(i, j)] := ⟨List.pairwise_singleton _ _, fun p hp => by rw [List.mem_singleton.1 hp]; simp only; omega⟩
theorem seg_ub {P : PF} {a b : List Int} {N : Nat} (hN : a.length + b.length ≤ N + 1) (h : ∀ a' b' : List Int, a'.length + b'.length ≤ N → Ub 0 a'.length 0 b'.length (P a' b')) : ∀ (l : List (Int × Int)) (x y : Int), Ub x a.length y b.length l → (l = [] → 1 ≤ x ∧ 1 ≤ a.length) → 0 ≤ x → 0 ≤ y → x ≤ a.length → y ≤ b.length → Ub x a.length y b.length (seg P a b l x y)
  | [], x, y, _, h2, h3, h4, h5, h6 => by
    have := h2 rfl
    unfold seg
    have := (h (a.drop x.toNat) (b.drop y.toNat) (by rw [List.length_drop, List.length_drop]; omega)).mvd (i := x) (j := y)
    rw [List.length_drop, List.length_drop] at this
    exact this.wide (by omega) (by omega) (by omega) (by omega)
  | p :: ps, x, y, hu, _, h3, h4, h5, h6 => by
    have h8 := hu.bd p (.head _)
    have hp := List.pairwise_cons.1 hu.pw
    have i1 := seg_ub hN h ps (p.1 + 1) (p.2 + 1) ⟨hp.2, fun q hq => by have := hu.bd q (.tail _ hq); have := hp.1 q hq; omega⟩ (fun _ => by omega) (by omega) (by omega) (by omega) (by omega)
    have i2 := (h ((a.take p.1.toNat).drop x.toNat) ((b.take p.2.toNat).drop y.toNat) (by rw [List.length_drop, List.length_drop, List.length_take, List.length_take]; omega)).mvd (i := x) (j := y)
    rw [List.length_drop, List.length_drop, List.length_take, List.length_take] at i2
    unfold seg
    have i3 : Ub p.1 a.length p.2 b.length (p :: seg P a b ps (p.1 + 1) (p.2 + 1)) := Ub.app (l := [p]) Ub.one i1 (by omega) (by omega) (by omega) (by omega)
    exact Ub.app (i2.wide (by omega) (show _ ≤ p.1 by omega) (by omega) (show _ ≤ p.2 by omega)) i3 (by omega) (by omega) (by omega) (by omega)
theorem prs_ub (a b : List Int) : Ub 0 a.length 0 b.length (prs (way a b) 0 0) := ⟨prs_pair _ 0 0, fun p hp => by have := prs_mem _ a b 0 0 (Nat.le_refl _) p hp; omega⟩
theorem PR_ub : ∀ (f : Nat) (a b : List Int), Ub 0 a.length 0 b.length (prF f a b) := by
  intro f
  induction f with
  | zero => intro a b; exact Ub.nil
  | succ f ih =>
    intro a b
    show Ub _ _ _ _ (pbody _ a b)
    unfold pbody
    by_cases h0 : a = [] ∨ b = []
    · rw [if_pos h0]; exact Ub.nil
    · have ha : 1 ≤ a.length := by rcases Nat.eq_zero_or_pos a.length with e | e; exact absurd (.inl (List.eq_nil_of_length_eq_zero e)) h0; exact e
      have hb : 1 ≤ b.length := by rcases Nat.eq_zero_or_pos b.length with e | e; exact absurd (.inr (List.eq_nil_of_length_eq_zero e)) h0; exact e
      rw [if_neg h0]
      split
      · have := (ih (a.drop 1) (b.drop 1)).mvd (i := 1) (j := 1); rw [List.length_drop, List.length_drop] at this
        exact Ub.app (l := [(0, 0)]) Ub.one (this.wide (by omega) (by omega) (by omega) (by omega)) (by omega) (by omega) (by omega) (by omega)
      · split
        · have := ih (a.take (a.length - 1)) (b.take (b.length - 1)); rw [List.length_take, List.length_take] at this
          exact Ub.app (this.wide (by omega) (by omega) (by omega) (by omega)) (Ub.one.wide (Int.le_refl _) (by omega) (Int.le_refl _) (by omega)) (by omega) (by omega) (by omega) (by omega)
        · split
          · exact prs_ub a b
          · next hA => exact seg_ub (N := a.length + b.length) (by omega) (fun a' b' _ => ih a' b') (ANC a b) 0 0 (ANC_up a b).ub (fun e => absurd e hA) (by omega) (by omega) (by omega) (by omega)
theorem PR_up (a b : List Int) : Up a.length b.length (PR a b) := (PR_ub _ a b).up
def PRS (a b : List Int) : List (Int × Int) := if a.length > 400 ∨ b.length > 400 then [] else PR a b
def STP (a b : List Int) : List Int := if a.length > 400 ∨ b.length > 400 then [] else stp a.length b.length (PR a b) 0 0
theorem stp_at {n m : Nat} {l : List (Int × Int)} {k x y : Int} (h0 : 0 ≤ k) (h1 : k < l.length) : stp n m (l.drop k.toNat) x y = List.replicate ((l.getD k.toNat (0, 0)).1 - x).toNat 2 ++ List.replicate ((l.getD k.toNat (0, 0)).2 - y).toNat 3 ++ [1] ++ stp n m (l.drop (k + 1).toNat) ((l.getD k.toNat (0, 0)).1 + 1) ((l.getD k.toNat (0, 0)).2 + 1) := by
  rw [dropc (0, 0) h0 h1]; rfl
theorem stp_end {n m : Nat} {l : List (Int × Int)} {k x y : Int} (h1 : (l.length : Int) ≤ k) : stp n m (l.drop k.toNat) x y = List.replicate ((n : Int) - x).toNat 2 ++ List.replicate ((m : Int) - y).toNat 3 := by
  rw [List.drop_of_length_le (by omega)]; rfl
end Go.Pat
namespace Go.Pat
open Go.Gv Go.Itn Go.Mys
section
variable {a b : List Int} {out o1 o2 o3 : List (Int × Int)} {i j k x y : Int}
theorem find_fin (h1 : o1 = out ++ run i j ((efst a b : Nat) : Int).toNat) (h2 : o2 = o1 ++ mvd (PR ((a.take ((a.length : Int) - (elst a b : Nat)).toNat).drop ((efst a b : Nat) : Int).toNat) ((b.take ((b.length : Int) - (elst a b : Nat)).toNat).drop ((efst a b : Nat) : Int).toNat)) (i + (efst a b : Nat)) (j + (efst a b : Nat)))
    (h3 : o3 = o2 ++ run (i + a.length - (elst a b : Nat)) (j + b.length - (elst a b : Nat)) ((elst a b : Nat) : Int).toNat) : o3 = out ++ mvd (PR a b) i j := by
  have hl := elst_le a b
  have e1 : ((a.length : Int) - (elst a b : Nat)).toNat = a.length - elst a b := by omega
  have e2 : ((b.length : Int) - (elst a b : Nat)).toNat = b.length - elst a b := by omega
  rw [e1, e2] at h2
  simp only [Int.toNat_natCast] at h1 h2 h3
  rw [h3, h2, h1, (PR_find a b).1, mvd_app, mvd_app, run_mvd, run_mvd, mvd_mvd, List.append_assoc, List.append_assoc, List.append_assoc]
  congr 2
  · congr 1 <;> omega
  · congr 1; congr 1 <;> omega
theorem find_ap (a b : List Int) : Apart ((a.take ((a.length : Int) - (elst a b : Nat)).toNat).drop ((efst a b : Nat) : Int).toNat) ((b.take ((b.length : Int) - (elst a b : Nat)).toNat).drop ((efst a b : Nat) : Int).toNat) := by
  have hl := elst_le a b
  have e1 : ((a.length : Int) - (elst a b : Nat)).toNat = a.length - elst a b := by omega
  have e2 : ((b.length : Int) - (elst a b : Nat)).toNat = b.length - elst a b := by omega
  rw [e1, e2]
  simp only [Int.toNat_natCast]
  exact (PR_find a b).2
theorem inner_none (ha : a.length ≤ 400) (hb : b.length ≤ 400) (hap : Apart a b) (h : (ANC a b).length = 0) : Prs a b = PR a b := by
  rw [PR_apart hap, if_pos (List.eq_nil_of_length_eq_zero h), Prs_small ha hb]
/-- What is still to be added, behind k anchors. -/
theorem inner_0 (hap : Apart a b) (h : ¬ (ANC a b).length = 0) : out ++ mvd (seg PR a b ((ANC a b).drop (0 : Int).toNat) 0 0) i j = out ++ mvd (PR a b) i j := by
  rw [PR_apart hap, if_neg (fun e => h (by rw [e]; rfl))]; rfl
theorem inner_step (h0 : 0 ≤ k) (h1 : k < (ANC a b).length) (h2 : o1 = out ++ mvd (PR ((a.take ((ANC a b).getD k.toNat (0, 0)).1.toNat).drop x.toNat) ((b.take ((ANC a b).getD k.toNat (0, 0)).2.toNat).drop y.toNat)) (i + x) (j + y))
    (h3 : o2 = o1 ++ run (i + ((ANC a b).getD k.toNat (0, 0)).1) (j + ((ANC a b).getD k.toNat (0, 0)).2) (1 : Int).toNat) {R : List (Int × Int)} (h : out ++ mvd (seg PR a b ((ANC a b).drop k.toNat) x y) i j = R) :
    o2 ++ mvd (seg PR a b ((ANC a b).drop (k + 1).toNat) (((ANC a b).getD k.toNat (0, 0)).1 + 1) (((ANC a b).getD k.toNat (0, 0)).2 + 1)) i j = R := by
  rw [← h, seg_at h0 h1, mvd_app, mvd_mvd, mvd_cons, h3, h2, List.append_assoc, List.append_assoc, show (1 : Int).toNat = 1 from rfl, run_one, Int.add_comm i, Int.add_comm j, Int.add_comm _ i, Int.add_comm _ j]
  simp [Int.add_comm]
theorem inner_fin (h1 : ((ANC a b).length : Int) ≤ k) (h2 : o1 = out ++ mvd (PR ((a.take a.length).drop x.toNat) ((b.take b.length).drop y.toNat)) (i + x) (j + y)) {R : List (Int × Int)} (h : out ++ mvd (seg PR a b ((ANC a b).drop k.toNat) x y) i j = R) : o1 = R := by
  rw [h2, ← h, seg_end h1, mvd_mvd, List.take_length, List.take_length]
end
end Go.Pat
namespace Go.Pat
open Go.Gv Go.Itn
section
variable {σ : Type} {sl : List (σ × List Int)} {k : Int}
theorem cat_snoc [Inhabited σ] (h0 : 0 ≤ k) (h1 : k < sl.length) : ((sl.map (·.2)).take (k + 1).toNat).flatten = ((sl.map (·.2)).take k.toNat).flatten ++ (sl.getD k.toNat default).2 := by
  rw [take_snoc [] h0 (by simpa using h1), List.flatten_append]
  congr 1
  have hlt : k.toNat < sl.length := by omega
  simp [List.getD, hlt]
theorem cat_len (k : Int) : (((sl.map (·.2)).take k.toNat).flatten).length ≤ (sl.map (·.2)).flatten.length := by
  conv => rhs; rw [← List.take_append_drop k.toNat (sl.map (·.2)), List.flatten_append, List.length_append]
  omega
end
end Go.Pat
