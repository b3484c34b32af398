/- Halves, thousandths, shares: plain. -/
import Derived.Test.YtomeffnlmefnlaaFlS
namespace Go.Flt
open Go Go.Gv
/-! ### a word by its sign and its rung -/
abbrev sg (x : Nat) : Nat := if x / 9223372036854775808 % 2 == 1 then 9223372036854775808 else 0
theorem sk_word {s : Bool} {R : Nat} (hR : R ≤ 9218868437227405312) : sk ((if s then 9223372036854775808 else 0) + R) = if s then -(R : Int) else (R : Int) := by
  cases s <;> simp only [Bool.false_eq_true, if_false, if_true] <;> unfold sk
  · rw [if_neg (by omega)]; omega
  · rw [if_pos (by omega)]; omega
theorem sk_cases (x : Nat) : (x / 9223372036854775808 % 2 = 1 ∧ sk x = -((x % 9223372036854775808 : Nat) : Int)) ∨ (x / 9223372036854775808 % 2 = 0 ∧ sk x = ((x % 9223372036854775808 : Nat) : Int)) := by
  unfold sk
  rcases Nat.mod_two_eq_zero_or_one (x / 9223372036854775808) with h | h
  · right; rw [if_neg (by omega)]; exact ⟨h, rfl⟩
  · left; rw [if_pos h]; exact ⟨h, rfl⟩
/-! ### halves -/
theorem hv_fin {x : Nat} (h : x % 9223372036854775808 < 9218868437227405312) : ∃ R, floatBits .quo .f64 x 4611686018427387904 = some ((if x / 9223372036854775808 % 2 == 1 then 9223372036854775808 else 0) + R) ∧ NR (vl (x % 9223372036854775808)) 2 R ∧ R ≤ x % 9223372036854775808 := by
  obtain ⟨m, a, e1, v1, hm⟩ := read_sgn h
  obtain ⟨s, hs⟩ : ∃ s, s = (x / 9223372036854775808 % 2 == 1) := ⟨_, rfl⟩
  obtain ⟨r, hr⟩ : ∃ r, r = x % 9223372036854775808 := ⟨_, rfl⟩
  rw [← hs] at e1 ⊢
  rw [← hr] at v1 h ⊢
  have hle : ∀ R, NR (vl r) 2 R → R ≤ r := fun R hR => NR.le (by omega) hR (by omega)
  suffices hq : ∃ R, floatBits .quo .f64 x 4611686018427387904 = some (Ieee.double.word s (min R 9218868437227405312)) ∧ NR (vl r) 2 R by
    obtain ⟨R, h1, h2⟩ := hq
    have := hle R h2
    refine ⟨R, ?_, h2, this⟩
    rw [h1, word_eq, Nat.min_eq_left (by omega)]
  show ∃ R, (((Ieee.double.read x).quotient (Ieee.double.fractionBits + 2) (Ieee.double.read 4611686018427387904)).map Ieee.double.write = some _) ∧ _
  rw [e1, two_read]
  simp only [Ieee.Datum.quotient, Bool.bne_false, Nat.shiftLeft_eq]
  rw [if_neg (by omega)]
  simp only [Option.map_some, Ieee.Format.write]
  have hl2 : (4503599627370496 : Nat).log2 = 52 := by decide +kernel
  have hf : Ieee.double.fractionBits = 52 := rfl
  obtain ⟨more, hmore⟩ : ∃ more, more = Ieee.double.fractionBits + 2 + (4503599627370496 : Nat).log2 - m.log2 := ⟨_, rfl⟩
  rw [← hmore]
  rcases Nat.eq_zero_or_pos m with h0 | h0
  · refine ⟨0, ?_, ?_⟩
    · rw [h0]; simp [Ieee.Format.nearest]
    · rw [← v1, h0, Nat.zero_mul]
      have := (NR.scale (V := 0) (K := 1) (c := 2) (R := 0) (by omega)).2 NR.zero
      simpa using this
  · have hlm : m.log2 ≤ 52 := by
      have h1 := Nat.log2_self_le (n := m) (by omega)
      have : (2 : Nat) ^ 53 = 9007199254740992 := by decide
      have := (Nat.pow_lt_pow_iff_right (a := 2) (n := m.log2) (m := 53) (by omega)).1 (by omega)
      omega
    have hD : m * 2 ^ more = (m * 2 ^ (more - 52)) * 4503599627370496 := by
      rw [show (4503599627370496 : Nat) = 2 ^ 52 by decide, Nat.mul_assoc, ← Nat.pow_add, show more - 52 + 52 = more by omega]
    rw [hD, Nat.mul_div_cancel _ (by omega), Nat.mul_mod_left]
    have hq : 2 * (m * 2 ^ (more - 52)) + ((0 : Nat) != 0).toNat = 2 * (m * 2 ^ (more - 52)) := by simp
    rw [hq]
    have hpl : Ieee.double.leastPlace + (a : Int) - -51 - (more : Int) - 1 = Ieee.double.leastPlace + ((a + 50 : Nat) : Int) - ((more : Nat) : Int) := by omega
    rw [hpl]
    have hz : 0 < 2 * (m * 2 ^ (more - 52)) := Nat.mul_pos (by omega) (Nat.mul_pos h0 (Nat.two_pow_pos _))
    obtain ⟨R, h1, h2, _⟩ := near_NR s hz (a + 50) more
    refine ⟨R, by rw [h2], ?_⟩
    refine (NR.scale (c := 2 ^ (more - 1)) (Nat.two_pow_pos _)).1 ?_
    have e2 : 2 * 2 ^ (more - 1) = 2 ^ more := by rw [Nat.mul_comm, ← Nat.pow_succ]; congr 1; omega
    have e3 : vl r * 2 ^ (more - 1) = 2 * (m * 2 ^ (more - 52)) * 2 ^ (a + 50) := by
      rw [← v1, Nat.mul_assoc, Nat.mul_assoc, ← Nat.pow_add, Nat.mul_assoc, ← Nat.pow_add, Nat.mul_left_comm, show 2 * 2 ^ (more - 52 + (a + 50)) = 2 ^ (more - 52 + (a + 50) + 1) by rw [Nat.pow_succ, Nat.mul_comm], show more - 52 + (a + 50) + 1 = a + (more - 1) by omega]
    rw [e2, e3]; exact h1
theorem hv_stop {x : Nat} (hx : x < 18446744073709551616) (h : ok x) (hs : sk x = 0 ∨ ¬ (-9218868437227405312 < sk x ∧ sk x < 9218868437227405312)) : hv x = x := by
  rw [ok_iff] at h
  have hc := sk_cases x
  rcases Nat.lt_or_ge (x % 9223372036854775808) 9218868437227405312 with h1 | h1
  · have h0 : x % 9223372036854775808 = 0 := by omega
    obtain ⟨R, e1, h2, h3⟩ := hv_fin h1
    unfold hv
    rw [e1, Option.getD_some]
    have : R = 0 := by omega
    subst this
    split <;> rename_i hq
    · simp at hq; omega
    · simp at hq; omega
  · have e := read_inf (w := x) (by omega)
    unfold hv
    have : floatBits .quo .f64 x 4611686018427387904 = some (Ieee.double.word (x / 9223372036854775808 % 2 == 1) Ieee.double.infRung) := by
      show ((Ieee.double.read x).quotient _ (Ieee.double.read 4611686018427387904)).map Ieee.double.write = _
      rw [e, two_read]
      simp [Ieee.Datum.quotient, Ieee.Format.write]
    rw [this, Option.getD_some, word_eq, show Ieee.double.infRung = 9218868437227405312 by decide]
    split <;> rename_i hq
    · simp at hq; omega
    · simp at hq; omega
theorem hv_ok {x : Nat} (hx : x < 18446744073709551616) (h : ok x) : ok (hv x) ∧ hv x < 18446744073709551616 ∧ hv x / 9223372036854775808 % 2 = x / 9223372036854775808 % 2 ∧ floatBits .quo .f64 x 4611686018427387904 = some (hv x) := by
  by_cases hs : sk x = 0 ∨ ¬ (-9218868437227405312 < sk x ∧ sk x < 9218868437227405312)
  · have e := hv_stop hx h hs
    obtain ⟨z, hz⟩ := quo2 h
    have : hv x = z := by unfold hv; rw [hz]; rfl
    refine ⟨by rw [e]; exact h, by rw [e]; exact hx, by rw [e], by rw [hz, this]⟩
  · have hc := sk_cases x
    have h1 : x % 9223372036854775808 < 9218868437227405312 := by omega
    obtain ⟨R, e1, h2, h3⟩ := hv_fin h1
    have e : hv x = (if x / 9223372036854775808 % 2 == 1 then 9223372036854775808 else 0) + R := by unfold hv; rw [e1]; rfl
    refine ⟨?_, ?_, ?_, by rw [e1, e]⟩
    · rw [ok_iff, e]; split <;> omega
    · rw [e]; split <;> omega
    · rw [e]
      rcases Nat.mod_two_eq_zero_or_one (x / 9223372036854775808) with hq | hq
      · simp only [hq]; simp; omega
      · simp only [hq]; simp; omega
theorem hlv_ok : ∀ (n : Nat) {x : Nat}, x < 18446744073709551616 → ok x → ok (hlv n x) ∧ hlv n x < 18446744073709551616 ∧ hlv n x / 9223372036854775808 % 2 = x / 9223372036854775808 % 2
  | 0, _, hx, h => ⟨h, hx, rfl⟩
  | n + 1, x, hx, h => by
    rw [hlv]
    split
    · exact ⟨h, hx, rfl⟩
    · obtain ⟨h1, h2, h3, _⟩ := hv_ok hx h
      obtain ⟨i1, i2, i3⟩ := hlv_ok n h2 h1
      exact ⟨i1, i2, i3.trans h3⟩
theorem hlv_add : ∀ (a b : Nat) (x : Nat), hlv (a + b) x = hlv b (hlv a x)
  | 0, b, x => by rw [Nat.zero_add]; rfl
  | a + 1, b, x => by
    by_cases hs : sk x = 0 ∨ ¬ (-9218868437227405312 < sk x ∧ sk x < 9218868437227405312)
    · rw [hlv_stop _ hs, hlv_stop _ hs, hlv_stop _ hs]
    · rw [show a + 1 + b = (a + b) + 1 by omega, hlv, if_neg hs, hlv, if_neg hs, hlv_add a b]
theorem hlv_one {x : Nat} (hx : x < 18446744073709551616) (h : ok x) : hlv 1 x = hv x := by
  by_cases hs : sk x = 0 ∨ ¬ (-9218868437227405312 < sk x ∧ sk x < 9218868437227405312)
  · rw [hlv_stop _ hs, hv_stop hx h hs]
  · rw [hlv, if_neg hs]; rfl
theorem HN_hlv {x : Nat} (hx : x < 18446744073709551616) (h : ok x) : ∀ k, HN k (some x) = some (hlv k x)
  | 0 => rfl
  | k + 1 => by
    obtain ⟨h1, h2, _⟩ := hlv_ok k hx h
    rw [HN, HN_hlv hx h k, hlv_add k 1, hlv_one h2 h1]
    exact (hv_ok h2 h1).2.2.2
theorem HN_none : ∀ k, HN k none = none
  | 0 => rfl
  | k + 1 => by rw [HN, HN_none k]; rfl
theorem two_rung (j : Nat) : ∃ t, vl t = 2 ^ j := by
  rcases Nat.lt_or_ge j 53 with h | h
  · refine ⟨2 ^ j, ?_⟩
    have h1 : (2 : Nat) ^ j ≤ 2 ^ 53 := Nat.pow_le_pow_right (by omega) (by omega)
    have h2 : (2 : Nat) ^ 53 = 9007199254740992 := by decide
    have := vl_at (e := 0) (k := 2 ^ j) (by omega) (.inl rfl)
    simpa using this
  · refine ⟨(j - 52) * 4503599627370496 + 4503599627370496, ?_⟩
    rw [vl_at (by omega) (.inr (by omega)), show (4503599627370496 : Nat) = 2 ^ 52 by decide, ← Nat.pow_add, show 52 + (j - 52) = j by omega]
theorem half_one {R : Nat} {V : Nat} (hV : V ≤ 1) (h : NR V 2 R) : R = 0 := by
  rcases Nat.eq_zero_or_pos R with h0 | h0
  · exact h0
  · exfalso
    have h1 := h.lo h0
    have h3 : vl 1 ≤ vl R := vl_le h0
    have h4 : vl 1 = 1 := by decide
    rcases Nat.lt_or_ge R 2 with h5 | h5
    · have hR : R = 1 := by omega
      subst hR
      have h6 : vl (1 - 1) = 0 := by decide
      have := h.lot (by omega) (by omega)
      omega
    · have h6 := vl_lt (show 1 < R by omega)
      omega
theorem hlv_zero : ∀ (j n : Nat) {x : Nat}, x < 18446744073709551616 → x % 9223372036854775808 < 9218868437227405312 → vl (x % 9223372036854775808) ≤ 2 ^ j → j + 1 ≤ n → sk (hlv n x) = 0
  | j, 0, _, _, _, _, h => by omega
  | j, n + 1, x, hx, hf, hv_, hn => by
    have hc := sk_cases x
    by_cases hs : sk x = 0 ∨ ¬ (-9218868437227405312 < sk x ∧ sk x < 9218868437227405312)
    · rw [hlv_stop _ hs]; omega
    · rw [hlv, if_neg hs]
      obtain ⟨R, e1, h2, h3⟩ := hv_fin hf
      have e : hv x = (if x / 9223372036854775808 % 2 == 1 then 9223372036854775808 else 0) + R := by unfold hv; rw [e1]; rfl
      have hR : hv x % 9223372036854775808 = R := by rw [e]; split <;> omega
      have hb : hv x < 18446744073709551616 := by rw [e]; split <;> omega
      cases j with
      | zero =>
        have h0 := half_one hv_ h2
        have hsk : sk (hv x) = 0 := by have := sk_cases (hv x); omega
        rw [hlv_stop _ (.inl hsk)]; exact hsk
      | succ j =>
        refine hlv_zero j n hb (by omega) ?_ (by omega)
        rw [hR]
        obtain ⟨t, ht⟩ := two_rung j
        rw [← ht]
        exact vl_le (NR.le (by omega) h2 (by rw [ht, ← Nat.pow_succ]; exact hv_))
set_option exponentiation.threshold 4000 in
theorem hlv_far {x : Nat} (hx : x < 18446744073709551616) (_ : ok x) {n : Nat} (hn : 2100 ≤ n) : sk (hlv n x) = 0 ∨ ¬ (-9218868437227405312 < sk (hlv n x) ∧ sk (hlv n x) < 9218868437227405312) := by
  by_cases hs : sk x = 0 ∨ ¬ (-9218868437227405312 < sk x ∧ sk x < 9218868437227405312)
  · rw [hlv_stop _ hs]; exact hs
  · have hc := sk_cases x
    have hf : x % 9223372036854775808 < 9218868437227405312 := by omega
    refine .inl (hlv_zero 2098 n hx hf ?_ (by omega))
    have h1 := vl_le (Nat.le_of_lt hf)
    have h2 := vl_at (e := 2046) (k := 4503599627370496) (by omega) (.inr (by omega))
    rw [show 2046 * 4503599627370496 + 4503599627370496 = 9218868437227405312 by decide, show (4503599627370496 : Nat) = 2 ^ 52 by decide, ← Nat.pow_add] at h2
    rw [h2] at h1
    exact h1
theorem hlv_same {x : Nat} (hx : x < 18446744073709551616) (h : ok x) {n m : Nat} (hn : 2100 ≤ n) (hm : 2100 ≤ m) : hlv n x = hlv m x := by
  have key : ∀ k, 2100 ≤ k → hlv k x = hlv 2100 x := fun k hk => by
    rw [show k = 2100 + (k - 2100) by omega, hlv_add, hlv_stop _ (hlv_far hx h (Nat.le_refl _))]
  rw [key n hn, key m hm]
/-- Both halve alike. -/
theorem halves_same {x r s : Nat} {n : Int} (hx : x < 18446744073709551616) (hr : r = hlv n.toNat x) (hs : cn s = HN (max 0 (min n 3000)).toNat (cn x)) : tk r = tk s := by
  by_cases h : ok x
  · rw [cn_ok h, HN_hlv hx h] at hs
    have e := (cn_some hs).2
    rcases Decidable.em (n ≤ 3000) with h1 | h1
    · rw [hr, e, show (max 0 (min n 3000)).toNat = n.toNat by omega]
    · rw [hr, e, hlv_same hx h (n := n.toNat) (m := (max 0 (min n 3000)).toNat) (by omega) (by omega)]
  · have hn := nan_op (op := .quo) (b := 0) h
    have hc : cn x = none := by
      cases hc : cn x with
      | none => rfl
      | some z => exact absurd (cn_some hc).1 h
    rw [hc, HN_none] at hs
    rw [hr, hlv_stop _ (.inr (fun h' => h ⟨by omega, by omega⟩)), tk_none hc, tk_none hs]
theorem halves_sign {x r : Nat} {n : Int} (hx : x < 18446744073709551616) (h : -9218868437227405312 ≤ sk x ∧ sk x ≤ 9218868437227405312) (hr : r = hlv n.toNat x) : (tk x < 0 ↔ tk r < 0) := by
  obtain ⟨h1, h2, h3⟩ := hlv_ok n.toNat hx h
  rw [← hr] at h1 h2 h3
  have c1 := sk_cases x
  have c2 := sk_cases r
  have t1 := tk_is x
  have t2 := tk_is r
  have h1' : -9218868437227405312 ≤ sk r ∧ sk r ≤ 9218868437227405312 := h1
  omega
/-! ### shares -/
theorem RAT_comm (c n m : Int) : RAT c n m = RAT c m n := by
  unfold RAT
  rw [Int.add_comm m n, Int.min_comm m n]
  by_cases h : n < 0 ∨ m < 0 ∨ n > 2147483647 ∨ m > 2147483647 ∨ c < 0 ∨ c > min n m ∨ n + m = 0
  · rw [if_pos h, if_pos (by omega)]
  · rw [if_neg h, if_neg (by omega)]
theorem tk_cn {a b : Nat} (h : cn a = cn b) : tk a = tk b := by
  cases hb : cn b with
  | none => rw [tk_none (h.trans hb), tk_none hb]
  | some z => rw [(cn_some (h.trans hb)).2, (cn_some hb).2]
set_option exponentiation.threshold 4000 in
theorem RAT_bd {c n m : Int} {r : Nat} (h : cn r = RAT c n m) : ¬ (-9218868437227405312 ≤ sk r ∧ sk r ≤ 9218868437227405312) ∨ (0 ≤ sk r ∧ sk r ≤ 4607182418800017408) := by
  unfold RAT at h
  split at h
  · exact .inl (cn_none h)
  · next hc =>
    right
    obtain ⟨p, hp⟩ : ∃ p : Nat, (p : Int) = 2 * c := ⟨(2 * c).toNat, by omega⟩
    obtain ⟨q, hq⟩ : ∃ q : Nat, (q : Int) = n + m := ⟨(n + m).toNat, by omega⟩
    rw [← hp, ← hq] at h
    have hF1 := FI_is (n := p) (by omega)
    have hF2 := FI_is (n := q) (by omega)
    have hlt : FI p ≤ FI q := by
      have : vl (FI p) ≤ vl (FI q) := by rw [hF1.1, hF2.1]; exact Nat.mul_le_mul_right _ (by omega)
      rcases Nat.lt_or_ge (FI q) (FI p) with h1 | h1
      · have := vl_lt h1; omega
      · exact h1
    have h0 : 0 < FI q := by
      rcases Nat.eq_zero_or_pos (FI q) with h1 | h1
      · have := hF2.1; rw [h1] at this
        have h2 : 0 < q * 2 ^ 1074 := Nat.mul_pos (by omega) (Nat.two_pow_pos _)
        have h3 : vl 0 = 0 := by decide
        omega
      · exact h1
    obtain ⟨R, e1, hR⟩ := quo_le (FI_lt (n := p) (by omega)) (FI_lt (n := q) (by omega)) h0 hlt
    rw [show floatBits .quo .f64 (floatOfInt .f64 (p : Int)) (floatOfInt .f64 (q : Int)) = some R from e1] at h
    have e := (cn_some h).2
    subst e
    have hR' : r ≤ 4607182418800017408 := hR
    have := sk_cases r
    omega
/-- The document's share. -/
theorem RAT_doc {c n m : Int} {s t r : Nat} (hb : ¬ (n < 0 ∨ n > 2147483647 ∨ m < 0 ∨ m > 2147483647 ∨ c < 0 ∨ c > n ∨ c > m)) (hs : cn s = floatBits .add .f64 (floatOfInt .f64 c) (floatOfInt .f64 c)) (ht : cn t = floatBits .add .f64 (floatOfInt .f64 n) (floatOfInt .f64 m)) (hr : cn r = floatBits .quo .f64 s t) : cn r = RAT c n m := by
  obtain ⟨p, hp⟩ : ∃ p : Nat, (p : Int) = c := ⟨c.toNat, by omega⟩
  obtain ⟨a, ha⟩ : ∃ a : Nat, (a : Int) = n := ⟨n.toNat, by omega⟩
  obtain ⟨b, hb'⟩ : ∃ b : Nat, (b : Int) = m := ⟨m.toNat, by omega⟩
  subst hp ha hb'
  rw [show floatBits .add .f64 (floatOfInt .f64 (p : Int)) (floatOfInt .f64 (p : Int)) = _ from add_FI (n := p) (m := p) (by omega)] at hs
  rw [show floatBits .add .f64 (floatOfInt .f64 (a : Int)) (floatOfInt .f64 (b : Int)) = _ from add_FI (n := a) (m := b) (by omega)] at ht
  have es := (cn_some hs).2
  have et := (cn_some ht).2
  rw [es, et] at hr
  rw [hr]
  unfold RAT
  by_cases h0 : (a : Int) + (b : Int) = 0
  · rw [if_pos (by omega)]
    have h1 : a = 0 ∧ b = 0 ∧ p = 0 := by omega
    obtain ⟨rfl, rfl, rfl⟩ := h1
    decide +kernel
  · rw [if_neg (by omega)]
    rw [show ((p + p : Nat) : Int) = 2 * (p : Int) by omega, show ((a + b : Nat) : Int) = (a : Int) + (b : Int) by omega]
theorem RAT_out {c n m : Int} (h : n < 0 ∨ n > 2147483647 ∨ m < 0 ∨ m > 2147483647 ∨ c < 0 ∨ c > n ∨ c > m) : RAT c n m = none := by
  unfold RAT; rw [if_pos (by omega)]
end Go.Flt
