/- A longest row that rises; what is kept of two rows by what is there once in both: plain. -/
import Derived.Test.YtjjilkibcomfcaaInA
import Derived.Test.YtjjilkibcomfcaaMyL
namespace Go.Pat
open Go.Gv Go.Itn Go.Mys

/-- The first place ahead of n at which P holds; -1: none. -/
def fp (P : Int → Prop) [DecidablePred P] : Nat → Int
  | 0 => -1
  | n + 1 => if 0 ≤ fp P n then fp P n else if P n then n else -1
section
variable {P : Int → Prop} [DecidablePred P]
theorem fp_bd (n : Nat) : -1 ≤ fp P n ∧ fp P n < n := by
  induction n with
  | zero => simp [fp]
  | succ n ih => unfold fp; split <;> (try split) <;> omega
theorem fp_spec (n : Nat) : (0 ≤ fp P n → P (fp P n) ∧ ∀ t, 0 ≤ t → t < fp P n → ¬ P t) ∧ (fp P n < 0 → ∀ t : Int, 0 ≤ t → t < n → ¬ P t) := by
  induction n with
  | zero => refine ⟨fun h => ?_, fun _ t h1 h2 => ?_⟩ <;> (simp [fp] at *; try omega)
  | succ n ih =>
    have hb := fp_bd (P := P) n
    unfold fp
    by_cases h : 0 ≤ fp P n
    · rw [if_pos h]; exact ⟨ih.1, fun h' => by omega⟩
    · rw [if_neg h]
      by_cases h2 : P n
      · rw [if_pos h2]; exact ⟨fun _ => ⟨h2, fun t h3 h4 => ih.2 (by omega) t h3 h4⟩, fun h' => by omega⟩
      · rw [if_neg h2]
        refine ⟨fun h' => by omega, fun _ t h3 h4 => ?_⟩
        by_cases h5 : t = n
        · subst h5; exact h2
        · exact ih.2 (by omega) t h3 (by omega)
theorem fp_of {n : Nat} {k : Int} (h0 : 0 ≤ k) (h1 : k < n) (hk : P k) (hl : ∀ t, 0 ≤ t → t < k → ¬ P t) : fp P n = k := by
  have hb := fp_bd (P := P) n
  have hs := fp_spec (P := P) n
  rcases Decidable.em (0 ≤ fp P n) with h | h
  · have := hs.1 h
    rcases Int.lt_trichotomy (fp P n) k with h' | h' | h'
    · exact absurd this.1 (hl _ h h')
    · exact h'
    · exact absurd hk (this.2 k h0 h')
  · exact absurd hk (hs.2 (by omega) k h0 h1)
end
/-! ### how long -/
def bsT (l kn : List Int) (i : Int) : Nat → Int × Int
  | 0 => (1, -1)
  | j + 1 => if gI l j < gI l i ∧ (bsT l kn i j).1 < gI kn j + 1 then (gI kn j + 1, (j : Int)) else bsT l kn i j
def kns (l : List Int) : Nat → List Int
  | 0 => []
  | k + 1 => kns l k ++ [(bsT l (kns l k) k k).1]
theorem kns_len (l : List Int) (k : Nat) : (kns l k).length = k := by
  induction k with
  | zero => rfl
  | succ k ih => simp [kns, ih]
theorem gI_app1 {a b : List Int} {t : Int} (h0 : 0 ≤ t) (h : t < a.length) : gI (a ++ b) t = gI a t := by
  unfold gI; simp [List.getD, List.getElem?_append_left (show t.toNat < a.length by omega)]
theorem gI_app2 {a : List Int} {x : Int} : gI (a ++ [x]) a.length = x := by unfold gI; simp [List.getD]
theorem kns_pre {l : List Int} {t : Int} (h0 : 0 ≤ t) : ∀ (d m : Nat), t < m → gI (kns l (m + d)) t = gI (kns l m) t
  | 0, _, _ => rfl
  | d + 1, m, h => by
    rw [show m + (d + 1) = (m + d) + 1 by omega]
    show gI (kns l (m + d) ++ _) t = _
    rw [gI_app1 h0 (by rw [kns_len]; omega), kns_pre h0 d m h]
theorem bsT_congr {l kn kn' : List Int} {i : Int} : ∀ {j : Nat}, (∀ t : Int, 0 ≤ t → t < j → gI kn t = gI kn' t) → bsT l kn i j = bsT l kn' i j
  | 0, _ => rfl
  | j + 1, h => by
    unfold bsT
    rw [bsT_congr (j := j) fun t h0 h1 => h t h0 (by omega), h j (by omega) (by omega)]
def KN (l : List Int) : List Int := kns l l.length
def BS (l : List Int) (i : Int) : Int × Int := bsT l (KN l) i i.toNat
theorem KN_pre {l : List Int} {m : Nat} {t : Int} (hm : m ≤ l.length) (h0 : 0 ≤ t) (h1 : t < m) : gI (kns l m) t = gI (KN l) t := by
  unfold KN
  rw [show l.length = m + (l.length - m) by omega, kns_pre h0 _ _ h1]
theorem KN_at {l : List Int} {i : Int} (h0 : 0 ≤ i) (h1 : i < l.length) : gI (KN l) i = (BS l i).1 := by
  rw [← KN_pre (m := i.toNat + 1) (by omega) h0 (by omega)]
  show gI (kns l i.toNat ++ [_]) i = _
  have := gI_app2 (a := kns l i.toNat) (x := (bsT l (kns l i.toNat) (i.toNat : Int) i.toNat).1)
  rw [kns_len, show ((i.toNat : Nat) : Int) = i by omega] at this
  rw [show ((i.toNat : Nat) : Int) = i by omega, this]
  unfold BS
  rw [bsT_congr fun t h2 h3 => KN_pre (m := i.toNat) (by omega) h2 h3]
section
variable {l kn : List Int} {i : Int}
theorem bsT_spec (hk : ∀ t : Int, 0 ≤ t → t < l.length → 1 ≤ gI kn t) : ∀ (j : Nat), j ≤ l.length →
    1 ≤ (bsT l kn i j).1 ∧ (∀ t : Int, 0 ≤ t → t < j → gI l t < gI l i → gI kn t + 1 ≤ (bsT l kn i j).1) ∧ -1 ≤ (bsT l kn i j).2 ∧ (bsT l kn i j).2 < j ∧
    ((bsT l kn i j).2 < 0 → (bsT l kn i j).1 = 1) ∧ (0 ≤ (bsT l kn i j).2 → gI l (bsT l kn i j).2 < gI l i ∧ gI kn (bsT l kn i j).2 + 1 = (bsT l kn i j).1 ∧ ∀ t, 0 ≤ t → t < (bsT l kn i j).2 → gI l t < gI l i → gI kn t + 1 < (bsT l kn i j).1)
  | 0, _ => by simp [bsT]; exact fun t h1 h2 => by omega
  | j + 1, hj => by
    obtain ⟨h1, h2, h3, h4, h5, h6⟩ := bsT_spec hk j (by omega)
    have hkj := hk j (by omega) (by omega)
    unfold bsT
    by_cases h : gI l j < gI l i ∧ (bsT l kn i j).1 < gI kn j + 1
    · rw [if_pos h]
      refine ⟨by show 1 ≤ gI kn j + 1; omega, fun t t1 t2 t3 => ?_, by show (-1 : Int) ≤ j; omega, by show (j : Int) < _; omega, fun h' => absurd (show (j : Int) < 0 from h') (by omega), fun _ => ⟨h.1, rfl, fun t t1 t2 t3 => ?_⟩⟩
      · show gI kn t + 1 ≤ gI kn j + 1
        rcases Decidable.em (t = j) with e | e
        · subst e; omega
        · have := h2 t t1 (by omega) t3; omega
      · show gI kn t + 1 < gI kn j + 1
        have := h2 t t1 t2 t3; omega
    · rw [if_neg h]
      refine ⟨h1, fun t t1 t2 t3 => ?_, h3, by omega, h5, h6⟩
      rcases Decidable.em (t = j) with e | e
      · subst e
        rcases Decidable.em ((bsT l kn i j).1 < gI kn j + 1) with h' | h'
        · exact absurd ⟨t3, h'⟩ h
        · omega
      · exact h2 t t1 (by omega) t3
end
theorem KN_pos {l : List Int} : ∀ (n : Nat) (t : Int), t.toNat ≤ n → 0 ≤ t → t < l.length → 1 ≤ gI (KN l) t ∧ gI (KN l) t ≤ t + 1 := by
  have key : ∀ (kn : List Int) (i : Int) (j : Nat), (∀ t : Int, 0 ≤ t → t < j → gI kn t ≤ t + 1) → 1 ≤ (bsT l kn i j).1 ∧ (bsT l kn i j).1 ≤ j + 1 := fun kn i j => by
    induction j with
    | zero => intro _; simp [bsT]
    | succ j ih =>
      intro h
      have i1 := ih fun t h0 h1 => h t h0 (by omega)
      have i2 := h j (by omega) (by omega)
      unfold bsT
      split
      · next hh => show 1 ≤ gI kn j + 1 ∧ gI kn j + 1 ≤ _; omega
      · omega
  intro n
  induction n with
  | zero =>
    intro t hn h0 h1
    rw [KN_at h0 h1]
    unfold BS
    have := key (KN l) t t.toNat (fun s s0 s1 => by omega)
    omega
  | succ n ih =>
    intro t hn h0 h1
    rw [KN_at h0 h1]
    unfold BS
    have := key (KN l) t t.toNat (fun s s0 s1 => (ih s (by omega) s0 (by omega)).2)
    omega
structure BSok (l : List Int) (i : Int) : Prop where
  one : 1 ≤ (BS l i).1
  le : (BS l i).1 ≤ i + 1
  top : ∀ t : Int, 0 ≤ t → t < i → gI l t < gI l i → gI (KN l) t + 1 ≤ (BS l i).1
  lo : -1 ≤ (BS l i).2
  hi : (BS l i).2 < i
  no : (BS l i).2 < 0 → (BS l i).1 = 1
  yes : 0 ≤ (BS l i).2 → gI l (BS l i).2 < gI l i ∧ gI (KN l) (BS l i).2 + 1 = (BS l i).1 ∧ ∀ t, 0 ≤ t → t < (BS l i).2 → gI l t < gI l i → gI (KN l) t + 1 < (BS l i).1
theorem BS_ok {l : List Int} {i : Int} (h0 : 0 ≤ i) (h1 : i < l.length) : BSok l i := by
  obtain ⟨a, b, c, d, e, f⟩ := bsT_spec (l := l) (kn := KN l) (i := i) (fun t t0 t1 => (KN_pos _ t (Nat.le_refl _) t0 t1).1) i.toNat (by omega)
  have := KN_pos _ i (Nat.le_refl _) h0 h1
  rw [KN_at h0 h1] at this
  exact ⟨a, this.2, fun t t0 t1 t2 => b t t0 (by omega) t2, c, by unfold BS; omega, e, f⟩
/-! ### where it ends -/
def stT (l : List Int) : Nat → Int
  | 0 => -1
  | n + 1 => if stT l n < 0 ∨ gI (KN l) (stT l n) < gI (KN l) n then n else stT l n
theorem stT_spec (l : List Int) : ∀ (n : Nat), -1 ≤ stT l n ∧ stT l n < n ∧ (0 < n → 0 ≤ stT l n) ∧ (∀ t : Int, 0 ≤ t → t < n → gI (KN l) t ≤ gI (KN l) (stT l n)) ∧ (∀ t : Int, 0 ≤ t → t < stT l n → gI (KN l) t < gI (KN l) (stT l n))
  | 0 => by simp [stT]; exact ⟨fun t h1 h2 => by omega, fun t h1 h2 => by omega⟩
  | n + 1 => by
    obtain ⟨h1, h2, h3, h4, h5⟩ := stT_spec l n
    unfold stT
    by_cases h : stT l n < 0 ∨ gI (KN l) (stT l n) < gI (KN l) n
    · rw [if_pos h]
      refine ⟨by omega, by omega, fun _ => by omega, fun t t0 t1 => ?_, fun t t0 t1 => ?_⟩
      · rcases Decidable.em (t = n) with e | e
        · subst e; exact Int.le_refl _
        · have := h4 t t0 (by omega); have := h3 (by omega); omega
      · have := h4 t t0 (by omega); have := h3 (by omega); omega
    · rw [if_neg h]
      refine ⟨h1, by omega, fun _ => by omega, fun t t0 t1 => ?_, h5⟩
      rcases Decidable.em (t = n) with e | e
      · subst e; omega
      · exact h4 t t0 (by omega)
/-- The row that ends at c, ahead of what there is. -/
def bkF (l : List Int) : Nat → Int → List Int → List Int
  | 0, _, acc => acc
  | f + 1, c, acc => if c < 0 then acc else bkF l f (BS l c).2 (c :: acc)
def bk (l : List Int) (c : Int) (acc : List Int) : List Int := bkF l (c + 1).toNat c acc
theorem bkF_more {l : List Int} : ∀ (f : Nat) (c : Int) (acc : List Int), c < l.length → c + 1 ≤ f → bkF l f c acc = bk l c acc
  | 0, c, acc, _, h => by unfold bk; rw [show (c + 1).toNat = 0 by omega]
  | f + 1, c, acc, hc, h => by
    unfold bk
    by_cases h0 : c < 0
    · rw [show (c + 1).toNat = 0 by omega]; unfold bkF; rw [if_pos h0]
    · have hb := BS_ok (l := l) (i := c) (by omega) hc
      have hi := hb.hi
      rw [show (c + 1).toNat = c.toNat + 1 by omega]
      unfold bkF
      rw [if_neg h0, if_neg h0, bkF_more f _ _ (by omega) (by omega), bkF_more c.toNat _ _ (by omega) (by omega)]
termination_by f c => f + c.toNat
decreasing_by all_goals (simp_wf; omega)
theorem bk_neg {l : List Int} {c : Int} {acc : List Int} (h : c < 0) : bk l c acc = acc := by unfold bk; rw [show (c + 1).toNat = 0 by omega]; rfl
theorem bk_step {l : List Int} {c : Int} {acc : List Int} (h : 0 ≤ c) (h1 : c < l.length) : bk l c acc = bk l (BS l c).2 (c :: acc) := by
  have hi := (BS_ok h h1).hi
  rw [← bkF_more (c.toNat + 1) c acc h1 (by omega)]
  show (if c < 0 then acc else bkF l c.toNat (BS l c).2 (c :: acc)) = _
  rw [if_neg (by omega), bkF_more _ _ _ (by omega) (by omega)]
def ST (l : List Int) : Int := stT l l.length
/-- The places of a longest row that rises. -/
def LNG (l : List Int) : List Int := bk l (ST l) []
theorem bk_len {l : List Int} : ∀ (n : Nat) (c : Int) (acc : List Int), c.toNat ≤ n → 0 ≤ c → c < l.length → ((bk l c acc).length : Int) = gI (KN l) c + acc.length := by
  intro n
  induction n with
  | zero =>
    intro c acc hn h0 h1
    have hb := BS_ok h0 h1
    have h2 := hb.hi
    rw [bk_step h0 h1, bk_neg (by omega), KN_at h0 h1, hb.no (by omega)]; simp; omega
  | succ n ih =>
    intro c acc hn h0 h1
    have hb := BS_ok h0 h1
    have h2 := hb.hi
    rw [bk_step h0 h1, KN_at h0 h1]
    rcases Decidable.em (0 ≤ (BS l c).2) with h | h
    · rw [ih _ _ (by omega) h (by omega), List.length_cons]
      have := (hb.yes h).2.1; omega
    · rw [bk_neg (by omega), hb.no (by omega)]; simp; omega
def Ris (l p : List Int) : Prop := (p.Pairwise fun c d => c < d ∧ gI l c < gI l d) ∧ ∀ c ∈ p, 0 ≤ c ∧ c < l.length
theorem bk_ris {l : List Int} : ∀ (n : Nat) (c : Int) (acc : List Int), c.toNat ≤ n → c < l.length → (0 ≤ c → ∀ d ∈ acc, c < d ∧ gI l c < gI l d) → Ris l acc → Ris l (bk l c acc) := by
  intro n
  induction n with
  | zero =>
    intro c acc hn h1 h2 h3
    rcases Decidable.em (0 ≤ c) with h0 | h0
    · have hb := BS_ok h0 h1
      have h4 := hb.hi
      rw [bk_step h0 h1, bk_neg (by omega)]
      exact ⟨List.pairwise_cons.2 ⟨h2 h0, h3.1⟩, fun d hd => (List.mem_cons.1 hd).elim (fun e => by subst e; exact ⟨h0, h1⟩) (h3.2 d)⟩
    · rw [bk_neg (by omega)]; exact h3
  | succ n ih =>
    intro c acc hn h1 h2 h3
    rcases Decidable.em (0 ≤ c) with h0 | h0
    · have hb := BS_ok h0 h1
      have h4 := hb.hi
      rw [bk_step h0 h1]
      refine ih _ _ (by omega) (by omega) (fun h5 d hd => ?_) ⟨List.pairwise_cons.2 ⟨h2 h0, h3.1⟩, fun d hd => (List.mem_cons.1 hd).elim (fun e => by subst e; exact ⟨h0, h1⟩) (h3.2 d)⟩
      have h6 := (hb.yes h5).1
      rcases List.mem_cons.1 hd with e | hd
      · subst e; exact ⟨h4, h6⟩
      · have := h2 h0 d hd; omega
    · rw [bk_neg (by omega)]; exact h3
theorem LNG_ris (l : List Int) : Ris l (LNG l) := by
  have := stT_spec l l.length
  exact bk_ris _ _ _ (Nat.le_refl _) this.2.1 (fun _ d hd => by cases hd) ⟨.nil, fun d hd => by cases hd⟩
theorem LNG_len {l : List Int} {c : Int} (h0 : 0 ≤ c) (h1 : c < l.length) : gI (KN l) c ≤ ((LNG l).length : Int) := by
  have hs := stT_spec l l.length
  have := bk_len _ (ST l) [] (Nat.le_refl _) (hs.2.2.1 (by omega)) hs.2.1
  unfold LNG
  rw [this]
  have := hs.2.2.2.1 c h0 h1
  rw [show ST l = stT l l.length from rfl]; simp only [List.length_nil]; omega
theorem LNG_le (l : List Int) : (LNG l).length ≤ l.length := by
  have hs := stT_spec l l.length
  rcases Decidable.em (0 < l.length) with h | h
  · have h2 := hs.2.2.1 h
    have := bk_len _ (ST l) [] (Nat.le_refl _) h2 hs.2.1
    have h3 := (KN_pos _ (ST l) (Nat.le_refl _) h2 hs.2.1).2
    have h4 : ST l < l.length := hs.2.1
    have h5 : gI (KN l) (ST l) ≤ ST l + 1 := h3
    unfold LNG
    simp only [List.length_nil] at this
    omega
  · have : ST l = -1 := by have := hs.1; have := hs.2.1; unfold ST; omega
    unfold LNG; rw [this, bk_neg (by omega)]; simp
theorem LNG_nil {l : List Int} (h : LNG l = []) : l = [] := by
  rcases Decidable.em (0 < l.length) with h' | h'
  · have h2 := LNG_len (l := l) (c := 0) (by omega) (by omega)
    have h3 := (KN_pos (l := l) 0 0 (by simp) (by omega) (by omega)).1
    rw [h] at h2; simp only [List.length_nil] at h2; omega
  · exact List.eq_nil_of_length_eq_zero (by omega)
/-- A row of places that rises further. -/
theorem ris_step {l : List Int} {last k n : Int} (h : last < 0 → n = 0) (h' : 0 ≤ last → last < l.length ∧ n ≤ gI (KN l) last) (hk : last < k) (h1 : k < l.length) (h2 : last < 0 ∨ gI l last < gI l k) (h0 : 0 ≤ k) : n + 1 ≤ gI (KN l) k := by
  have hb := BS_ok h0 h1
  rw [KN_at h0 h1]
  rcases Decidable.em (0 ≤ last) with h3 | h3
  · have := hb.top last h3 hk (h2.resolve_left (by omega)); have := (h' h3).2; omega
  · have := hb.one; have := h (by omega); omega
theorem ris_fin {l : List Int} {last n : Int} (h : last < 0 → n = 0) (h' : 0 ≤ last → last < l.length ∧ n ≤ gI (KN l) last) : n ≤ (LNG l).length := by
  rcases Decidable.em (0 ≤ last) with h3 | h3
  · have := LNG_len h3 (h' h3).1; have := (h' h3).2; omega
  · have := h (by omega); omega
theorem Ris.at {l p : List Int} (h : Ris l p) {t : Int} (h0 : 0 ≤ t) (h1 : t < p.length) : 0 ≤ gI p t ∧ gI p t < l.length ∧ (0 < t → gI p (t - 1) < gI p t ∧ gI l (gI p (t - 1)) < gI l (gI p t)) := by
  have hlt : t.toNat < p.length := by omega
  have e : gI p t = p[t.toNat] := by unfold gI; simp [List.getD, hlt]
  have hm := h.2 _ (List.getElem_mem hlt)
  refine ⟨by rw [e]; exact hm.1, by rw [e]; exact hm.2, fun h2 => ?_⟩
  have hlt2 : (t - 1).toNat < p.length := by omega
  have e2 : gI p (t - 1) = p[(t - 1).toNat] := by unfold gI; rw [List.getD, List.getElem?_eq_getElem hlt2]; rfl
  rw [e, e2]
  exact List.pairwise_iff_getElem.1 h.1 _ _ hlt2 hlt (by omega)
/-! ### a row that rises throughout -/
theorem KN_all {l : List Int} (h : ∀ t : Int, 0 < t → t < l.length → gI l (t - 1) < gI l t) : ∀ (n : Nat) (t : Int), t.toNat ≤ n → 0 ≤ t → t < l.length → gI (KN l) t = t + 1 := by
  intro n
  induction n with
  | zero =>
    intro t hn h0 h1
    have := KN_pos _ t (Nat.le_refl _) h0 h1; omega
  | succ n ih =>
    intro t hn h0 h1
    have h2 := KN_pos _ t (Nat.le_refl _) h0 h1
    rcases Decidable.em (t = 0) with e | e
    · omega
    · have h3 := ih (t - 1) (by omega) (by omega) (by omega)
      have h4 := (BS_ok h0 h1).top (t - 1) (by omega) (by omega) (h t (by omega) h1)
      rw [KN_at h0 h1] at h2 ⊢; omega
theorem LNG_all {l : List Int} (h : ∀ t : Int, 0 < t → t < l.length → gI l (t - 1) < gI l t) : LNG l = (List.range l.length).map fun n : Nat => (n : Int) := by
  have hk := fun t h0 h1 => KN_all h _ t (Nat.le_refl _) h0 h1
  have hs := stT_spec l l.length
  have e : ST l = (l.length : Int) - 1 := by
    rcases Decidable.em (0 < l.length) with h' | h'
    · have h2 := hs.2.2.1 h'
      have h3 := hs.2.2.2.1 ((l.length : Int) - 1) (by omega) (by omega)
      rw [hk _ (by omega) (by omega), hk _ h2 hs.2.1] at h3
      have := hs.2.1; unfold ST; omega
    · have := hs.1; have := hs.2.1; unfold ST; omega
  have key : ∀ (c : Nat) (acc : List Int), c ≤ l.length → bk l ((c : Int) - 1) acc = (List.range c).map (fun n : Nat => (n : Int)) ++ acc := fun c => by
    induction c with
    | zero => intro acc _; rw [bk_neg (by omega)]; rfl
    | succ c ih =>
      intro acc hc
      rw [show ((c + 1 : Nat) : Int) - 1 = c by omega, bk_step (by omega) (by omega)]
      have hb := BS_ok (l := l) (i := c) (by omega) (by omega)
      have h2 : (BS l c).2 = (c : Int) - 1 := by
        have h3 := KN_at (l := l) (i := c) (by omega) (by omega)
        rw [hk _ (by omega) (by omega)] at h3
        rcases Decidable.em (0 ≤ (BS l c).2) with h' | h'
        · have h4 := (hb.yes h').2.1
          rw [hk _ h' (by have := hb.hi; omega)] at h4
          omega
        · have := hb.no (by omega); have := hb.lo; omega
      rw [h2, ih _ (by omega), List.range_succ, List.map_append]; simp
  unfold LNG
  rw [e, key _ _ (Nat.le_refl _), List.append_nil]
/-! ### as the walks have it -/
abbrev pI (l : List (Int × Int)) (t : Int) : Int × Int := l.getD t.toNat (0, 0)
section
variable {l last : List Int} {rows : List (Int × Int)} {i j t : Int} {v : Int × Int}
theorem gD_ne (h0 : 0 ≤ t) (h : t ≠ i) (hi : 0 ≤ i) : (rows.set i.toNat v).getD t.toNat (0, 0) = rows.getD t.toNat (0, 0) := by
  simp only [List.getD]; rw [List.getElem?_set_ne (by omega)]
theorem gD_eq (h0 : 0 ≤ i) (h : i < rows.length) : (rows.set i.toNat v).getD i.toNat (0, 0) = v := by
  simp only [List.getD]; rw [List.getElem?_set_self (by omega)]; rfl
theorem bsT_snoc {kn : List Int} (h : 0 ≤ j) : bsT l kn i (j + 1).toNat = if gI l j < gI l i ∧ (bsT l kn i j.toNat).1 < gI kn j + 1 then (gI kn j + 1, j) else bsT l kn i j.toNat := by
  rw [show (j + 1).toNat = j.toNat + 1 by omega]
  show (if gI l (j.toNat : Nat) < _ ∧ _ then _ else _) = _
  rw [show ((j.toNat : Nat) : Int) = j by omega]
theorem r1_set (hi : 0 ≤ i) (h : ∀ t : Int, 0 ≤ t → t < i → rows.getD t.toNat (0, 0) = BS l t) : ∀ t : Int, 0 ≤ t → t < i → (rows.set i.toNat v).getD t.toNat (0, 0) = BS l t := fun t h0 h1 => (gD_ne h0 (by omega) hi).trans (h t h0 h1)
theorem r1_next (h : ∀ t : Int, 0 ≤ t → t < i → rows.getD t.toNat (0, 0) = BS l t) (h2 : rows.getD i.toNat (0, 0) = bsT l (KN l) i j.toNat) (hj : j = i) : ∀ t : Int, 0 ≤ t → t < i + 1 → rows.getD t.toNat (0, 0) = BS l t := fun t h0 h1 => by
  rcases Decidable.em (t = i) with e | e
  · subst e; rw [h2, hj]; rfl
  · exact h t h0 (by omega)
theorem bs_yes (hj0 : 0 ≤ j) (hj : j < i) (hi : i < l.length) (hl : rows.length = l.length) (h : ∀ t : Int, 0 ≤ t → t < i → rows.getD t.toNat (0, 0) = BS l t) (h2 : rows.getD i.toNat (0, 0) = bsT l (KN l) i j.toNat)
    (c1 : gI l j < gI l i) (c2 : (rows.getD j.toNat (0, 0)).1 + 1 > (rows.getD i.toNat (0, 0)).1) : (rows.set i.toNat ((rows.getD j.toNat (0, 0)).1 + 1, j)).getD i.toNat (0, 0) = bsT l (KN l) i (j + 1).toNat := by
  rw [gD_eq (by omega) (by omega), bsT_snoc hj0, ← h2, KN_at hj0 (by omega), ← h j hj0 hj, if_pos ⟨c1, c2⟩]
theorem bs_no (hj0 : 0 ≤ j) (hj : j < i) (hi : i < l.length) (h : ∀ t : Int, 0 ≤ t → t < i → rows.getD t.toNat (0, 0) = BS l t) (h2 : rows.getD i.toNat (0, 0) = bsT l (KN l) i j.toNat)
    (c : ¬ (gI l j < gI l i ∧ (rows.getD j.toNat (0, 0)).1 + 1 > (rows.getD i.toNat (0, 0)).1)) : rows.getD i.toNat (0, 0) = bsT l (KN l) i (j + 1).toNat := by
  rw [bsT_snoc hj0, ← h2, KN_at hj0 (by omega), ← h j hj0 hj, if_neg c]
theorem stT_snoc (h : 0 ≤ i) : stT l (i + 1).toNat = if stT l i.toNat < 0 ∨ gI (KN l) (stT l i.toNat) < gI (KN l) i then i else stT l i.toNat := by
  rw [show (i + 1).toNat = i.toNat + 1 by omega]
  show (if _ ∨ _ < gI (KN l) (i.toNat : Nat) then ((i.toNat : Nat) : Int) else _) = _
  rw [show ((i.toNat : Nat) : Int) = i by omega]
theorem st_yes {s : Int} (h0 : 0 ≤ i) (hi : i < l.length) (hs : s = stT l i.toNat) (h : ∀ t : Int, 0 ≤ t → t < i + 1 → rows.getD t.toNat (0, 0) = BS l t) (c : s < 0 ∨ (rows.getD i.toNat (0, 0)).1 > (rows.getD s.toNat (0, 0)).1) : i = stT l (i + 1).toNat := by
  have hq := stT_spec l i.toNat
  rw [← hs] at hq
  rw [stT_snoc h0, ← hs, if_pos]
  rcases c with c | c
  · exact .inl c
  · rcases Decidable.em (0 ≤ s) with hs0 | hs0
    · rw [h i h0 (by omega), h s hs0 (by omega)] at c
      rw [KN_at h0 hi, KN_at hs0 (by omega)]; exact .inr c
    · exact .inl (by omega)
theorem st_no {s : Int} (h0 : 0 ≤ i) (hi : i < l.length) (hs : s = stT l i.toNat) (h : ∀ t : Int, 0 ≤ t → t < i + 1 → rows.getD t.toNat (0, 0) = BS l t) (c0 : ¬ s < 0) (c : ¬ (rows.getD i.toNat (0, 0)).1 > (rows.getD s.toNat (0, 0)).1) : s = stT l (i + 1).toNat := by
  have hq := stT_spec l i.toNat
  rw [← hs] at hq
  rw [stT_snoc h0, ← hs, if_neg]
  rw [h i h0 (by omega), h s (by omega) (by omega)] at c
  rw [KN_at h0 hi, KN_at (by omega) (by omega)]; omega
/-! rows turned round -/
theorem rev_fin {xs ys : List Int} (hl : ys.length = xs.length) (h : ∀ t : Int, 0 ≤ t → t < xs.length → gI ys t = gI xs (xs.length - 1 - t)) : ys = xs.reverse := by
  refine List.ext_getElem (by simp [hl]) fun n h1 h2 => ?_
  have := h n (by omega) (by omega)
  have h3 : ((xs.length : Int) - 1 - n).toNat = xs.length - 1 - n := by omega
  have h4 : xs.length - 1 - n < xs.length := by omega
  rw [List.getElem_reverse]
  unfold gI at this
  rw [h3] at this
  simpa [List.getD, h1, h4] using this
theorem gI_set {xs : List Int} {x : Int} (hi : 0 ≤ i) (ht : 0 ≤ t) (hi2 : i < xs.length) : gI (xs.set i.toNat x) t = if t = i then x else gI xs t := by
  unfold gI
  simp only [List.getD]
  by_cases e : t = i
  · subst e; rw [if_pos rfl, List.getElem?_set_self (by omega)]; rfl
  · rw [if_neg e, List.getElem?_set_ne (by omega)]
end
/-- Turned as far as i. -/
def Rvd (xs ys : List Int) (i : Int) : Prop := ys.length = xs.length ∧ ∀ t : Int, 0 ≤ t → t < xs.length → gI ys t = if t < i ∨ (xs.length : Int) - 1 - i < t then gI xs (xs.length - 1 - t) else gI xs t
theorem Rvd.z (xs : List Int) : Rvd xs xs 0 := ⟨rfl, fun t h0 h1 => by rw [if_neg (by omega)]⟩
theorem Rvd.step {xs ys : List Int} {i j : Int} (h : Rvd xs ys i) (h0 : 0 ≤ i) (hj : j = xs.length - 1 - i) (hij : i < j) : Rvd xs ((ys.set i.toNat (gI ys j)).set j.toNat (gI ys i)) (i + 1) := by
  refine ⟨by simp [h.1], fun t t0 t1 => ?_⟩
  have hl := h.1
  rw [gI_set (by omega) t0 (by rw [List.length_set]; omega), gI_set h0 t0 (by omega), h.2 i h0 (by omega), h.2 j (by omega) (by omega), h.2 t t0 t1, if_neg (show ¬ (i < i ∨ (xs.length : Int) - 1 - i < i) by omega), if_neg (show ¬ (j < i ∨ (xs.length : Int) - 1 - i < j) by omega)]
  by_cases e1 : t = j
  · subst e1; rw [if_pos rfl, if_pos (by omega)]; congr 1; omega
  · rw [if_neg e1]
    by_cases e2 : t = i
    · subst e2; rw [if_pos rfl, if_pos (by omega)]; congr 1
    · rw [if_neg e2]
      by_cases e3 : t < i ∨ (xs.length : Int) - 1 - i < t
      · rw [if_pos e3, if_pos (by omega)]
      · rw [if_neg e3, if_neg (by omega)]
theorem Rvd.fin {xs ys : List Int} {i j : Int} (h : Rvd xs ys i) (h0 : 0 ≤ i) (hj : j = xs.length - 1 - i) (hij : ¬ i < j) : ys = xs.reverse := rev_fin h.1 fun t t0 t1 => by
  rw [h.2 t t0 t1]
  by_cases e3 : t < i ∨ (xs.length : Int) - 1 - i < t
  · rw [if_pos e3]
  · rw [if_neg e3]; congr 1; omega
/-! the document's -/
def topT (l : List Int) (n : Nat) : Int := if stT l n < 0 then 0 else gI (KN l) (stT l n)
section
variable {l known known2 out : List Int} {i n top : Int}
theorem kns_snoc (h0 : 0 ≤ i) (hi : i < l.length) (hk : known = kns l i.toNat) : known ++ [(BS l i).1] = kns l (i + 1).toNat := by
  rw [show (i + 1).toNat = i.toNat + 1 by omega]
  show _ = kns l i.toNat ++ [_]
  rw [hk, show ((i.toNat : Nat) : Int) = i by omega]
  unfold BS
  rw [bsT_congr fun t h2 h3 => KN_pre (m := i.toNat) (by omega) h2 h3]
theorem top_bd (h0 : 0 ≤ i) (hi : i ≤ l.length) : 0 ≤ topT l i.toNat ∧ topT l i.toNat ≤ i ∧ (0 < i → 0 < topT l i.toNat) := by
  have hs := stT_spec l i.toNat
  unfold topT
  split
  · refine ⟨by omega, by omega, fun h => ?_⟩; have := hs.2.2.1 (by omega); omega
  · have := KN_pos (l := l) _ (stT l i.toNat) (Nat.le_refl _) (by omega) (by omega); omega
theorem top_step (h0 : 0 ≤ i) (hi : i < l.length) (hk : known = kns l (i + 1).toNat) (ht : top = topT l i.toNat) : (if top < gI known i then gI known i else top) = topT l (i + 1).toNat := by
  have hs := stT_spec l i.toNat
  have hp := (KN_pos (l := l) _ i (Nat.le_refl _) h0 hi).1
  rw [hk, KN_pre (by omega) h0 (by omega), ht]
  unfold topT
  rw [stT_snoc h0]
  by_cases h1 : stT l i.toNat < 0
  · rw [if_pos h1, if_pos (show stT l i.toNat < 0 ∨ _ from .inl h1), if_pos (by omega), if_neg (by omega)]
  · rw [if_neg h1]
    by_cases h2 : gI (KN l) (stT l i.toNat) < gI (KN l) i
    · rw [if_pos h2, if_pos (show _ ∨ _ from .inr h2), if_neg (by omega)]
    · rw [if_neg h2, if_neg (show ¬ (stT l i.toNat < 0 ∨ gI (KN l) (stT l i.toNat) < gI (KN l) i) from fun h => h.elim h1 h2), if_neg h1]
/-- What comes next, from behind. -/
def nxt (l out : List Int) : Int := if out = [] then ST l else (BS l (gI out 0)).2
structure Bck (l out : List Int) (n : Int) : Prop where
  eq : bk l (nxt l out) out = LNG l
  e : out = [] → n = topT l l.length
  ne : ¬ out = [] → 0 ≤ gI out 0 ∧ gI out 0 < l.length ∧ (BS l (gI out 0)).1 = n + 1
  len : (out.length : Int) ≤ l.length - n
theorem Bck.z : Bck l [] (topT l l.length) := ⟨by unfold nxt; rw [if_pos rfl]; rfl, fun _ => rfl, fun h => absurd rfl h, by have := top_bd (l := l) (i := l.length) (by omega) (by omega); rw [Int.toNat_natCast] at this; simp only [List.length_nil]; omega⟩
theorem ST_pos (h : 0 < topT l l.length) : 0 ≤ ST l ∧ ST l < l.length ∧ (BS l (ST l)).1 = topT l l.length ∧ ∀ t : Int, 0 ≤ t → t < ST l → (BS l t).1 < topT l l.length := by
  have hs := stT_spec l l.length
  unfold topT at h ⊢
  split at h
  · omega
  · next h1 =>
    rw [if_neg h1]
    have e : ST l = stT l l.length := rfl
    refine ⟨by omega, by omega, ?_, fun t t0 t1 => ?_⟩
    · rw [← KN_at (by omega) (by omega)]; rfl
    · rw [← KN_at t0 (by omega)]; exact hs.2.2.2.2 t t0 t1
theorem Bck.at (h : Bck l out n) (hn : 0 < n) : 0 ≤ nxt l out ∧ nxt l out < l.length ∧ (BS l (nxt l out)).1 = n ∧ (out = [] ∨ nxt l out < gI out 0 ∧ gI l (nxt l out) < gI l (gI out 0)) ∧
    ∀ t : Int, 0 ≤ t → t < nxt l out → ¬ ((BS l t).1 = n ∧ (out = [] ∨ t < gI out 0 ∧ gI l t < gI l (gI out 0))) := by
  unfold nxt
  by_cases e : out = []
  · rw [if_pos e]
    have hn' := h.e e
    have hs := ST_pos (l := l) (by omega)
    exact ⟨hs.1, hs.2.1, by omega, .inl e, fun t t0 t1 hq => by have := hs.2.2.2 t t0 t1; omega⟩
  · rw [if_neg e]
    obtain ⟨g0, g1, g2⟩ := h.ne e
    have hb := BS_ok g0 g1
    have h3 : 0 ≤ (BS l (gI out 0)).2 := by
      rcases Decidable.em (0 ≤ (BS l (gI out 0)).2) with h' | h'
      · exact h'
      · have := hb.no (by omega); omega
    obtain ⟨y1, y2, y3⟩ := hb.yes h3
    have h4 := hb.hi
    rw [KN_at h3 (by omega)] at y2
    refine ⟨h3, by omega, by omega, .inr ⟨h4, y1⟩, fun t t0 t1 hq => ?_⟩
    have h5 := hq.2.resolve_left e
    have := y3 t t0 t1 h5.2
    rw [KN_at t0 (by omega)] at this
    omega
theorem Bck.step (h : Bck l out n) (hn : 0 < n) (hi : i = nxt l out) : Bck l ([i] ++ out) (n - 1) := by
  have ha := h.at hn
  rw [← hi] at ha
  refine ⟨?_, fun e => by simp at e, fun _ => ⟨ha.1, ha.2.1, ?_⟩, ?_⟩
  · have : nxt l ([i] ++ out) = (BS l i).2 := by unfold nxt; rw [if_neg (by simp)]; rfl
    rw [this, ← h.eq, ← hi]
    exact (bk_step ha.1 ha.2.1).symm
  · show (BS l i).1 = _; omega
  · have := h.len; simp only [List.length_append, List.length_cons, List.length_nil]; omega
theorem Bck.fin (h : Bck l out n) (hn : n = 0) : out = LNG l := by
  rw [← h.eq]
  refine (bk_neg ?_).symm
  unfold nxt
  by_cases e : out = []
  · rw [if_pos e]
    have h1 := h.e e
    have hs := stT_spec l l.length
    have e2 : ST l = stT l l.length := rfl
    unfold topT at h1
    split at h1
    · omega
    · have := KN_pos (l := l) _ (stT l l.length) (Nat.le_refl _) (by omega) (by omega); omega
  · rw [if_neg e]
    obtain ⟨g0, g1, g2⟩ := h.ne e
    have hb := BS_ok g0 g1
    rcases Decidable.em (0 ≤ (BS l (gI out 0)).2) with h' | h'
    · have := (hb.yes h').2.1
      have := (KN_pos (l := l) _ (BS l (gI out 0)).2 (Nat.le_refl _) h' (by have := hb.hi; omega)).1
      omega
    · omega
/-- The inner search: no place so far. -/
theorem nil_iff : ((out.length : Int) = 0) ↔ out = [] := ⟨fun h => List.eq_nil_of_length_eq_zero (by omega), fun h => by rw [h]; rfl⟩
theorem Bck.none (h : Bck l out n) (hn : 0 < n) (hk : known = KN l) (hs : ∀ t : Int, 0 ≤ t → t < l.length → ¬ (gI known t = n ∧ ((out.length : Int) = 0 ∨ t < gI out 0 ∧ gI l t < gI l (gI out 0)))) : False := by
  obtain ⟨h0, h1, h2, h3, _⟩ := h.at hn
  rw [← nil_iff] at h3
  refine hs _ h0 h1 ⟨?_, h3⟩
  rw [hk, KN_at h0 h1]; exact h2
theorem Bck.found (h : Bck l out n) (hn : 0 < n) (hk : known = KN l) (h0 : 0 ≤ i) (hi : i < l.length) (hs : ∀ t : Int, 0 ≤ t → t < i → ¬ (gI known t = n ∧ ((out.length : Int) = 0 ∨ t < gI out 0 ∧ gI l t < gI l (gI out 0))))
    (c : gI known i = n ∧ ((out.length : Int) = 0 ∨ i < gI out 0 ∧ gI l i < gI l (gI out 0))) : i = nxt l out := by
  obtain ⟨h0', h1', h2, h3, h4⟩ := h.at hn
  rw [← nil_iff] at h3 h4
  rw [hk] at hs c
  rcases Int.lt_trichotomy i (nxt l out) with h' | h' | h'
  · rw [KN_at h0 hi] at c; exact absurd c (h4 i h0 h')
  · exact h'
  · refine absurd ⟨?_, h3⟩ (hs _ h0' h')
    rw [KN_at h0' h1']; exact h2
theorem Bck.ne' (h : Bck l out n) : ¬ (out.length : Int) = 0 → 0 ≤ gI out 0 ∧ gI out 0 < l.length := fun e => by
  have := h.ne (fun e' => e (nil_iff.2 e')); exact ⟨this.1, this.2.1⟩
end
end Go.Pat
