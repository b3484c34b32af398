/- What the operations on words come to: whole numbers, sums, products, quotients, halves: plain. -/
import Derived.Test.YtomeffnlmefnlaaFlR
namespace Go.Flt
open Go Go.Gv
theorem NR.scale {V K c R : Nat} (hc : 0 < c) : NR (V * c) (K * c) R ↔ NR V K R := by
  have key : ∀ x : Nat, x * (K * c) = x * K * c := fun x => (Nat.mul_assoc _ _ _).symm
  have key2 : 2 * (V * c) = 2 * V * c := (Nat.mul_assoc _ _ _).symm
  constructor
  · rintro ⟨h1, h2, h3, h4⟩
    refine ⟨fun h => ?_, ?_, fun h e => h3 h (by rw [key, key2, e]), fun e => h4 (by rw [key, key2, e])⟩
    · have := h1 h; rw [key, key2] at this; exact Nat.le_of_mul_le_mul_right this hc
    · rw [key, key2] at h2; exact Nat.le_of_mul_le_mul_right h2 hc
  · rintro ⟨h1, h2, h3, h4⟩
    refine ⟨fun h => ?_, ?_, fun h e => h3 h ?_, fun e => h4 ?_⟩
    · rw [key, key2]; exact Nat.mul_le_mul_right _ (h1 h)
    · rw [key, key2]; exact Nat.mul_le_mul_right _ h2
    · rw [key, key2] at e; exact Nat.eq_of_mul_eq_mul_right hc e
    · rw [key, key2] at e; exact Nat.eq_of_mul_eq_mul_right hc e
theorem NR.of_eq {V K V' K' R : Nat} (hK : 0 < K) (hK' : 0 < K') (h : NR V K R) (e : V * K' = V' * K) : NR V' K' R := by
  rw [← NR.scale (c := K') hK'] at h
  rw [← NR.scale (c := K) hK, ← e, Nat.mul_comm K' K]; exact h
theorem NR.zero : NR 0 1 0 := by have := NR.self (K := 1) (by omega) 0; simpa [vl] using this
theorem word_eq (s : Bool) (r : Nat) : Ieee.double.word s r = (if s then 9223372036854775808 else 0) + r := by
  have h : Ieee.double.signWeight = 9223372036854775808 := by decide
  unfold Ieee.Format.word
  cases s
  · simp
  · simp [h]
theorem lp_eq : Ieee.double.leastPlace = -1074 := by decide
/-- A word without a sign, below infinity. -/
theorem read_pos {x : Nat} (h : x < 9218868437227405312) : ∃ m a, Ieee.double.read x = .number false m (Ieee.double.leastPlace + (a : Nat)) ∧ m * 2 ^ a = vl x ∧ m < 9007199254740992 := by
  rw [read_eq, show x / 9223372036854775808 = 0 by omega, show x % 9223372036854775808 = x by omega]
  by_cases h1 : x < 4503599627370496
  · refine ⟨x, 0, ?_, ?_, by omega⟩
    · rw [if_pos h1]; simp
    · unfold vl; rw [if_pos h1]; simp
  · refine ⟨4503599627370496 + x % 4503599627370496, x / 4503599627370496 - 1, ?_, ?_, by omega⟩
    · rw [if_neg h1, if_pos h]; rfl
    · unfold vl; rw [if_neg h1]
theorem read_sgn {x : Nat} (h : x % 9223372036854775808 < 9218868437227405312) : ∃ m a, Ieee.double.read x = .number (x / 9223372036854775808 % 2 == 1) m (Ieee.double.leastPlace + (a : Nat)) ∧ m * 2 ^ a = vl (x % 9223372036854775808) ∧ m < 9007199254740992 := by
  rw [read_eq]
  by_cases h1 : x % 9223372036854775808 < 4503599627370496
  · refine ⟨x % 9223372036854775808, 0, ?_, ?_, by omega⟩
    · rw [if_pos h1]; simp
    · unfold vl; rw [if_pos h1]; simp
  · refine ⟨4503599627370496 + x % 9223372036854775808 % 4503599627370496, x % 9223372036854775808 / 4503599627370496 - 1, ?_, ?_, by omega⟩
    · rw [if_neg h1, if_pos h]
    · unfold vl; rw [if_neg h1]
/-! ### whole numbers -/
abbrev FI (n : Int) : Nat := floatOfInt .f64 n
theorem FI_0 : FI 0 = 0 := by decide +kernel
theorem vl_nil (q : Nat) : vl 0 = 0 * q := by rw [Nat.zero_mul]; decide
theorem FI_is0 {q : Nat} : vl (FI ((0 : Nat) : Int)) = 0 * q ∧ FI ((0 : Nat) : Int) ≤ 1101 * 4503599627370496 := by
  rw [show ((0 : Nat) : Int) = 0 from rfl, FI_0]
  exact ⟨vl_nil q, by omega⟩
set_option exponentiation.threshold 4000 in
theorem FI_isZ {n : Nat} (h0 : n = 0) : vl (FI n) = n * 2 ^ 1074 ∧ FI n ≤ 1101 * 4503599627370496 := by
  rw [h0]; exact FI_is0 (q := 2 ^ 1074)
set_option exponentiation.threshold 4000 in
theorem pow_53 : 9007199254740992 * 2 ^ 1074 ≤ 4503599627370496 * 2 ^ 1100 := by
  rw [show (9007199254740992 : Nat) = 2 ^ 53 by decide, show (4503599627370496 : Nat) = 2 ^ 52 by decide, ← Nat.pow_add, ← Nat.pow_add]; exact Nat.pow_le_pow_right (by omega) (by omega)
theorem hle_k {n A B r : Nat} (h : n < 9007199254740992) (hB : 9007199254740992 * A ≤ B) (hv : vl r = B) : n * A ≤ vl r * 2 ^ 0 := by
  rw [hv, Nat.pow_zero, Nat.mul_one]
  exact Nat.le_trans (Nat.mul_le_mul_right A (Nat.le_of_lt h)) hB
theorem FI_is {n : Nat} (h : n < 9007199254740992) : vl (FI n) = n * 2 ^ 1074 ∧ FI n ≤ 1101 * 4503599627370496 := by
  rcases Nat.eq_zero_or_pos n with h0 | h0
  · exact FI_isZ h0
  · obtain ⟨R, h1, h2, h3⟩ := near_NR false h0 1074 0
    have e : FI n = Ieee.double.nearest false n (Ieee.double.leastPlace + ((1074 : Nat) : Int) - ((0 : Nat) : Int)) := by
      show Ieee.double.nearest (decide ((n : Int) < 0)) (n : Int).natAbs 0 = _
      rw [show decide ((n : Int) < 0) = false by simp, Int.natAbs_natCast, lp_eq]; rfl
    rw [e, h2, word_eq]
    have hR := h3 h rfl
    have hle : R ≤ 1101 * 4503599627370496 := by
      have hv := vl_at (e := 1100) (k := 4503599627370496) (by omega) (.inr (by omega))
      rw [show 1100 * 4503599627370496 + 4503599627370496 = 1101 * 4503599627370496 by omega] at hv
      exact NR.le (K := 2 ^ 0) (by decide) h1 (hle_k h pow_53 hv)
    rw [Nat.min_eq_left (by omega)]
    simp only [Bool.false_eq_true, if_false, Nat.zero_add]
    exact ⟨hR, hle⟩
theorem FI_lt {n : Nat} (h : n < 9007199254740992) : FI n < 9218868437227405312 := by have := (FI_is h).2; omega
/-! ### sums -/
theorem add_pos {x y : Nat} (hx : x < 9218868437227405312) (hy : y < 9218868437227405312) : ∃ R, floatBits .add .f64 x y = some (min R 9218868437227405312) ∧ NR (vl x + vl y) 1 R := by
  obtain ⟨m, a, e1, v1, _⟩ := read_pos hx
  obtain ⟨n, b, e2, v2, _⟩ := read_pos hy
  show ∃ R, (((Ieee.double.read x).sum (Ieee.double.read y)).map Ieee.double.write = some _) ∧ _
  rw [e1, e2]
  simp only [Ieee.Datum.sum, signed_eq, Bool.false_eq_true, if_false, Bool.and_false, Option.map_some, Ieee.Format.write]
  obtain ⟨c, hc⟩ : ∃ c, c = min a b := ⟨_, rfl⟩
  have hbase : min (Ieee.double.leastPlace + (a : Nat)) (Ieee.double.leastPlace + (b : Nat)) = Ieee.double.leastPlace + (c : Int) - ((0 : Nat) : Int) := by omega
  rw [hbase]
  have ea : (Ieee.double.leastPlace + (a : Int) - (Ieee.double.leastPlace + (c : Int) - ((0 : Nat) : Int))).toNat = a - c := by omega
  have eb : (Ieee.double.leastPlace + (b : Int) - (Ieee.double.leastPlace + (c : Int) - ((0 : Nat) : Int))).toNat = b - c := by omega
  rw [ea, eb]
  obtain ⟨t, ht⟩ : ∃ t, t = m * 2 ^ (a - c) + n * 2 ^ (b - c) := ⟨_, rfl⟩
  have htv : t * 2 ^ c = vl x + vl y := by
    rw [ht, Nat.add_mul, Nat.mul_assoc, Nat.mul_assoc, ← Nat.pow_add, ← Nat.pow_add, show a - c + c = a by omega, show b - c + c = b by omega, v1, v2]
  have e3 : ((m * 2 ^ (a - c) : Nat) : Int) + ((n * 2 ^ (b - c) : Nat) : Int) = (t : Int) := by rw [ht]; simp
  rw [e3, Int.natAbs_natCast]
  have hs : (if (t : Int) = 0 then false else decide ((t : Int) < 0)) = false := by split <;> simp
  rw [hs]
  rcases Nat.eq_zero_or_pos t with h0 | h0
  · refine ⟨0, ?_, ?_⟩
    · rw [h0]
      simp [Ieee.Format.nearest, word_eq]
    · rw [← htv, h0, Nat.zero_mul]; exact NR.zero
  · obtain ⟨R, h1, h2, _⟩ := near_NR false h0 c 0
    refine ⟨R, ?_, ?_⟩
    · rw [h2, word_eq]; simp
    · rw [htv] at h1; exact h1
theorem add_FI {n m : Nat} (h : n + m < 9007199254740992) : floatBits .add .f64 (FI n) (FI m) = some (FI ((n + m : Nat) : Int)) := by
  obtain ⟨R, h1, h2⟩ := add_pos (FI_lt (n := n) (by omega)) (FI_lt (n := m) (by omega))
  have e := FI_is h
  rw [(FI_is (n := n) (by omega)).1, (FI_is (n := m) (by omega)).1, ← Nat.add_mul, ← e.1] at h2
  have hR : R = FI ((n + m : Nat) : Int) := NR.uniq (K := 1) (K' := 1) (by omega) (by omega) h2 (NR.self (by omega) _) (by rw [Nat.mul_one, Nat.mul_one])
  rw [h1, hR, Nat.min_eq_left (by have := e.2; omega)]
/-! ### quotients -/
abbrev ONE : Nat := 4607182418800017408
theorem pj {e c : Nat} (h : 52 + e = c) : 4503599627370496 * 2 ^ e = 2 ^ c := by subst h; rw [Nat.pow_add]
set_option exponentiation.threshold 4000 in
theorem vl_ONE : vl ONE = 2 ^ 1074 := by
  have := vl_at (e := 1022) (k := 4503599627370496) (by omega) (.inr (by omega))
  rw [show 1022 * 4503599627370496 + 4503599627370496 = ONE by decide] at this
  exact this.trans (pj (by omega))
set_option exponentiation.threshold 4000 in
theorem quo_le {x y : Nat} (hx : x < 9218868437227405312) (hy : y < 9218868437227405312) (h0 : 0 < y) (hle : x ≤ y) : ∃ R, floatBits .quo .f64 x y = some R ∧ R ≤ ONE := by
  obtain ⟨m, a, e1, v1, hm⟩ := read_pos hx
  obtain ⟨n, b, e2, v2, hn⟩ := read_pos hy
  have hvy : 0 < vl y := by have := vl_lt h0; omega
  have hn0 : n ≠ 0 := fun e => by rw [e, Nat.zero_mul] at v2; omega
  show ∃ R, (((Ieee.double.read x).quotient (Ieee.double.fractionBits + 2) (Ieee.double.read y)).map Ieee.double.write = some R) ∧ _
  rw [e1, e2]
  simp only [Ieee.Datum.quotient, if_neg hn0, bne_self_eq_false, Option.map_some, Ieee.Format.write, Nat.shiftLeft_eq]
  obtain ⟨more, hmore⟩ : ∃ more, more = Ieee.double.fractionBits + 2 + n.log2 - m.log2 := ⟨_, rfl⟩
  rw [← hmore]
  obtain ⟨D, hD⟩ : ∃ D, D = m * 2 ^ more := ⟨_, rfl⟩
  rw [← hD]
  obtain ⟨q2, hq2⟩ : ∃ q2, q2 = 2 * (D / n) + (D % n != 0).toNat := ⟨_, rfl⟩
  rw [← hq2]
  rcases Nat.eq_zero_or_pos q2 with hz | hz
  · rw [hz]; exact ⟨_, rfl, by unfold Ieee.Format.nearest; rw [if_pos rfl, word_eq]; decide⟩
  · have hpl : Ieee.double.leastPlace + (a : Int) - (Ieee.double.leastPlace + (b : Int)) - (more : Int) - 1 = Ieee.double.leastPlace + ((1074 + a : Nat) : Int) - ((b + more + 1 : Nat) : Int) := by rw [lp_eq]; omega
    rw [hpl]
    obtain ⟨R, h1, h2, _⟩ := near_NR false hz (1074 + a) (b + more + 1)
    refine ⟨_, rfl, ?_⟩
    rw [h2, word_eq]
    simp only [Bool.false_eq_true, if_false, Nat.zero_add]
    have hR : R ≤ ONE := by
      refine NR.le (Nat.two_pow_pos _) h1 ?_
      rw [vl_ONE, Nat.pow_add, show q2 * (2 ^ 1074 * 2 ^ a) = 2 ^ 1074 * (q2 * 2 ^ a) from Nat.mul_left_comm _ _ _]
      refine Nat.mul_le_mul_left _ ?_
      -- D 2^a is not above n 2^(b + more)
      have hDn : D * 2 ^ a ≤ n * 2 ^ (b + more) := by
        rw [hD, Nat.mul_right_comm, v1, Nat.pow_add, ← Nat.mul_assoc, v2]
        exact Nat.mul_le_mul_right _ (vl_le hle)
      have hm0 : m ≠ 0 := fun e => by
        rw [e, Nat.zero_mul] at hD
        rw [hD] at hq2
        simp at hq2; omega
      have hlm : m.log2 ≤ 52 := by
        have h1 := Nat.log2_self_le hm0
        have : (2 : Nat) ^ 53 = 9007199254740992 := by decide
        have := (Nat.pow_lt_pow_iff_right (a := 2) (n := m.log2) (m := 53) (by omega)).1 (by omega)
        omega
      have hf : Ieee.double.fractionBits = 52 := rfl
      have hDbig : n < D := by
        have h1 := Nat.log2_self_le hm0
        have h2 := Nat.lt_log2_self (n := n)
        have h3 : 2 ^ m.log2 * 2 ^ more ≤ D := by rw [hD]; exact Nat.mul_le_mul_right _ h1
        rw [← Nat.pow_add] at h3
        have h4 : (2 : Nat) ^ (n.log2 + 1) ≤ 2 ^ (m.log2 + more) := Nat.pow_le_pow_right (by omega) (by omega)
        omega
      have hab : a ≤ b + more := by
        rcases Nat.lt_or_ge (b + more) a with hc | hc
        · exfalso
          have h3 : (2 : Nat) ^ (b + more) ≤ 2 ^ a := Nat.pow_le_pow_right (by omega) (by omega)
          have h4 : n * 2 ^ (b + more) < D * 2 ^ (b + more) := Nat.mul_lt_mul_of_pos_right hDbig (Nat.two_pow_pos _)
          have h5 : D * 2 ^ (b + more) ≤ D * 2 ^ a := Nat.mul_le_mul_left _ h3
          omega
        · exact hc
      obtain ⟨d, hd⟩ : ∃ d, b + more = a + d := ⟨b + more - a, by omega⟩
      rw [hd] at hDn ⊢
      have hDN : D ≤ n * 2 ^ d := by
        rw [Nat.pow_add, Nat.mul_left_comm, Nat.mul_comm (2 ^ a)] at hDn
        exact Nat.le_of_mul_le_mul_right hDn (Nat.two_pow_pos _)
      have hq : q2 ≤ 2 * 2 ^ d := by
        have hdm := Nat.div_add_mod D n
        have hml := Nat.mod_lt D (show 0 < n by omega)
        have hdle : D / n ≤ 2 ^ d := Nat.div_le_of_le_mul hDN
        rcases Nat.lt_or_ge (D / n) (2 ^ d) with hc | hc
        · rw [hq2]
          have : (D % n != 0).toNat ≤ 1 := by cases (D % n != 0) <;> decide
          omega
        · have he : D / n = 2 ^ d := by omega
          rw [he] at hdm
          have : D % n = 0 := by omega
          rw [hq2, he, this]; simp
      rw [show a + d + 1 = (d + 1) + a by omega, Nat.pow_add, Nat.pow_succ]
      exact Nat.mul_le_mul_right _ (by omega)
    rw [Nat.min_eq_left (by have : ONE < 9218868437227405312 := by decide
                            omega)]
    exact hR
end Go.Flt
