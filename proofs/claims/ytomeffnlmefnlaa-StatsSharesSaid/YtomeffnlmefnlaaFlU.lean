/- Thousandths: plain. -/
import Derived.Test.YtomeffnlmefnlaaFlT
namespace Go.Flt
open Go Go.Gv
/-- The whole part of a word that is not below 0. -/
def FLR (z : Nat) : Int := ((vl (z % 9223372036854775808) / 2 ^ 1074 : Nat) : Int)
theorem FLR_0 (z : Nat) : 0 ≤ FLR z := Int.natCast_nonneg _
theorem cut_zero (s : Bool) (n drop : Nat) : Ieee.Toward.zero.cut s n drop = n / 2 ^ drop := by
  unfold Ieee.Toward.cut
  simp only [Nat.shiftLeft_eq, Nat.one_mul, Bool.toNat_false, Nat.add_zero]
  rcases Nat.lt_or_ge (n.log2 + 2) drop with h | h
  · rw [Nat.min_eq_right (Nat.le_of_lt h)]
    have h1 := Nat.lt_log2_self (n := n)
    have h2 : (2 : Nat) ^ (n.log2 + 1) ≤ 2 ^ (n.log2 + 2) := Nat.pow_le_pow_right (by omega) (by omega)
    have h3 : (2 : Nat) ^ (n.log2 + 1) ≤ 2 ^ drop := Nat.pow_le_pow_right (by omega) (by omega)
    rw [Nat.div_eq_of_lt (by omega), Nat.div_eq_of_lt (by omega)]
  · rw [Nat.min_eq_left h]
theorem pow_cut (m a c : Nat) : m * 2 ^ (a - c) / 2 ^ (c - a) = m * 2 ^ a / 2 ^ c := by
  rcases Nat.le_total a c with h | h
  · rw [show a - c = 0 by omega, Nat.pow_zero, Nat.mul_one]
    obtain ⟨d, rfl⟩ : ∃ d, c = d + a := ⟨c - a, by omega⟩
    rw [show d + a - a = d by omega, Nat.pow_add, Nat.mul_div_mul_right _ _ (Nat.two_pow_pos _)]
  · rw [show c - a = 0 by omega, Nat.pow_zero, Nat.div_one]
    obtain ⟨d, rfl⟩ : ∃ d, a = d + c := ⟨a - c, by omega⟩
    rw [show d + c - c = d by omega, Nat.pow_add, ← Nat.mul_assoc, Nat.mul_div_cancel _ (Nat.two_pow_pos _)]
set_option exponentiation.threshold 4000 in
theorem fti_is {z : Nat} (hf : z % 9223372036854775808 < 9218868437227405312) (h0 : 0 ≤ sk z) (hb : FLR z ≤ 1000) : floatToIntVal .f64 z .i64 = some (FLR z) := by
  obtain ⟨m, a, e1, v1, _⟩ := read_sgn hf
  have hd : (FloatKind.f64.decode z).toInt .zero = some (FLR z) := by
    show (Ieee.double.read z).toInt .zero = _
    rw [e1]
    simp only [Ieee.Datum.toInt, Ieee.Datum.integral, cut_zero, signed_eq, Nat.shiftLeft_eq, lp_eq, Nat.pow_zero, Nat.mul_one]
    have t1 : (-1074 + (a : Int)).toNat = a - 1074 := by omega
    have t2 : (-(-1074 + (a : Int))).toNat = 1074 - a := by omega
    rw [t1, t2, pow_cut, v1]
    unfold FLR
    have hc := sk_cases z
    split
    · next hq =>
      have hz : z % 9223372036854775808 = 0 := by simp at hq; omega
      rw [hz]
      have : vl 0 = 0 := by decide
      rw [this]; simp
    · rfl
  unfold floatToIntVal
  rw [hd]
  have := FLR_0 z
  have m1 : IntKind.i64.min = -9223372036854775808 := by decide
  have m2 : IntKind.i64.max = 9223372036854775807 := by decide
  simp only [m1, m2]
  rw [if_pos (by omega)]
theorem thou_read : Ieee.double.read 4652007308841189376 = .number false (1000 * 2 ^ 43) (-43) := by decide +kernel
theorem FI_1000 : FI 1000 = 4652007308841189376 := by decide +kernel
set_option exponentiation.threshold 4000 in
theorem vl_thou : vl 4652007308841189376 = 1000 * 2 ^ 1074 := by
  have h := (FI_is (n := 1000) (by omega)).1
  rw [show ((1000 : Nat) : Int) = 1000 from rfl, FI_1000] at h; exact h
set_option exponentiation.threshold 4000 in
theorem mul_thou {x : Nat} (h0 : 0 ≤ sk x) (h1 : sk x < 4607182418800017408) : ∃ R, floatBits .mul .f64 4652007308841189376 x = some ((if x / 9223372036854775808 % 2 == 1 then 9223372036854775808 else 0) + R) ∧ NR (1000 * vl (x % 9223372036854775808)) 1 R ∧ R ≤ 4652007308841189376 ∧ (x / 9223372036854775808 % 2 = 1 → R = 0) := by
  have hc := sk_cases x
  have hlt : x % 9223372036854775808 < 4607182418800017408 := by omega
  obtain ⟨m, a, e1, v1, hm⟩ := read_sgn (x := x) (by omega)
  obtain ⟨s, hs⟩ : ∃ s, s = (x / 9223372036854775808 % 2 == 1) := ⟨_, rfl⟩
  obtain ⟨r, hr⟩ : ∃ r, r = x % 9223372036854775808 := ⟨_, rfl⟩
  have hone : x / 9223372036854775808 % 2 = 1 → r = 0 := fun h => by omega
  rw [← hs] at e1 ⊢
  rw [← hr] at v1 ⊢
  have hle : ∀ R, NR (1000 * vl r) 1 R → R ≤ 4652007308841189376 := fun R hR => by
    refine NR.le (by omega) hR ?_
    rw [vl_thou, Nat.mul_one, ← vl_ONE]
    exact Nat.mul_le_mul_left _ (vl_le (by have : ONE = 4607182418800017408 := rfl
                                           omega))
  have hz0 : ∀ R, NR (1000 * vl r) 1 R → x / 9223372036854775808 % 2 = 1 → R = 0 := fun R hR h => by
    have h2 : vl 0 = 0 := by decide
    rw [hone h, h2] at hR
    exact NR.uniq (by omega) (by omega) hR NR.zero rfl
  suffices hq : ∃ R, floatBits .mul .f64 4652007308841189376 x = some (Ieee.double.word s (min R 9218868437227405312)) ∧ NR (1000 * vl r) 1 R by
    obtain ⟨R, h1, h2⟩ := hq
    have := hle R h2
    refine ⟨R, ?_, h2, this, hz0 R h2⟩
    rw [h1, word_eq, Nat.min_eq_left (by omega)]
  show ∃ R, (((Ieee.double.read 4652007308841189376).product (Ieee.double.read x)).map Ieee.double.write = some _) ∧ _
  rw [e1, thou_read]
  simp only [Ieee.Datum.product, Bool.false_bne, Option.map_some, Ieee.Format.write]
  rcases Nat.eq_zero_or_pos m with hm0 | hm0
  · refine ⟨0, ?_, ?_⟩
    · rw [hm0]; simp [Ieee.Format.nearest]
    · rw [← v1, hm0, Nat.zero_mul, Nat.mul_zero]; exact NR.zero
  · have hp : 0 < 1000 * 2 ^ 43 * m := Nat.mul_pos (by decide) hm0
    have hpl : (-43 : Int) + (Ieee.double.leastPlace + (a : Int)) = Ieee.double.leastPlace + (a : Int) - ((43 : Nat) : Int) := by omega
    rw [hpl]
    obtain ⟨R, h1, h2, _⟩ := near_NR s hp a 43
    refine ⟨R, by rw [h2], ?_⟩
    refine NR.of_eq (Nat.two_pow_pos _) (by omega) h1 ?_
    rw [← v1, Nat.mul_one, Nat.mul_assoc, Nat.mul_assoc, Nat.mul_assoc, Nat.mul_comm (m * 2 ^ a)]
/-- How many thousandths. -/
def MIL (x : Nat) : Int := if ¬ (-9218868437227405312 ≤ sk x ∧ sk x ≤ 9218868437227405312) then -1 else if sk x < 0 then 0 else if sk x ≥ 4607182418800017408 then 1000 else FLR ((floatBits .mul .f64 4652007308841189376 x).getD 0)
set_option exponentiation.threshold 4000 in
theorem FLR_le {z n : Nat} : n ≤ vl (z % 9223372036854775808) / 2 ^ 1074 ↔ n * 2 ^ 1074 ≤ vl (z % 9223372036854775808) := Nat.le_div_iff_mul_le (Nat.two_pow_pos _)
set_option exponentiation.threshold 4000 in
theorem FI_cmp {z : Nat} (h0 : 0 ≤ sk z) {n : Int} (hn : 0 ≤ n) (h1 : n ≤ 1000) : (sk (FI n) ≤ sk z ↔ n ≤ FLR z) ∧ (-9218868437227405312 ≤ sk (FI n) ∧ sk (FI n) ≤ 9218868437227405312) := by
  obtain ⟨k, rfl⟩ : ∃ k : Nat, n = (k : Int) := ⟨n.toNat, by omega⟩
  have hF := FI_is (n := k) (by omega)
  have hc := sk_cases z
  have hcF := sk_cases (FI (k : Int))
  have hsF : sk (FI (k : Int)) = (FI (k : Int) : Nat) := by omega
  have hz : sk z = ((z % 9223372036854775808 : Nat) : Int) := by omega
  refine ⟨?_, by omega⟩
  rw [hsF, hz]
  unfold FLR
  rw [Int.ofNat_le, Int.ofNat_le, FLR_le, ← hF.1]
  constructor
  · exact fun h => vl_le h
  · intro h
    rcases Nat.lt_or_ge (z % 9223372036854775808) (FI (k : Int)) with h2 | h2
    · have := vl_lt h2; omega
    · exact h2
set_option exponentiation.threshold 4000 in
theorem mil_is {x r : Nat} (h0 : 0 ≤ sk x) (h1 : sk x < 4607182418800017408) (hr : cn r = floatBits .mul .f64 4652007308841189376 x) : FLR r = MIL x ∧ 0 ≤ FLR r ∧ FLR r ≤ 1000 ∧ floatToIntVal .f64 r .i64 = some (FLR r) ∧ 0 ≤ sk r ∧ sk r < 9218868437227405312 := by
  obtain ⟨R, e, hN, hR, hs⟩ := mul_thou h0 h1
  have hw : r = (if x / 9223372036854775808 % 2 == 1 then 9223372036854775808 else 0) + R := (cn_some (hr.trans e)).2
  have hm : MIL x = FLR r := by
    unfold MIL
    rw [if_neg (by omega), if_neg (by omega), if_neg (by omega), e, Option.getD_some, hw]
  have hmod : r % 9223372036854775808 = R := by rw [hw]; split <;> omega
  have hc := sk_cases r
  have hsk : 0 ≤ sk r ∧ sk r < 9218868437227405312 := by
    rcases Nat.mod_two_eq_zero_or_one (x / 9223372036854775808) with hq | hq
    · have : r = R := by rw [hw, hq]; simp
      omega
    · have := hs hq
      omega
  have hle : FLR r ≤ 1000 := by
    unfold FLR
    rw [hmod]
    have h2 := vl_le hR
    rw [vl_thou] at h2
    have h3 : vl R / 2 ^ 1074 ≤ 1000 := by
      have := Nat.div_le_div_right (c := 2 ^ 1074) h2
      rwa [Nat.mul_div_cancel _ (Nat.two_pow_pos _)] at this
    omega
  exact ⟨hm.symm, FLR_0 r, hle, fti_is (by omega) hsk.1 hle, hsk.1, hsk.2⟩
theorem mil_bd (x : Nat) : -1 ≤ MIL x ∧ MIL x ≤ 1000 := by
  by_cases h : 0 ≤ sk x ∧ sk x < 4607182418800017408
  · obtain ⟨R, e, _⟩ := mul_thou h.1 h.2
    have hcn : cn ((floatBits .mul .f64 4652007308841189376 x).getD 0) = floatBits .mul .f64 4652007308841189376 x := by
      rw [e, Option.getD_some]; exact bits_ok e
    have := mil_is h.1 h.2 hcn
    omega
  · unfold MIL
    split
    · omega
    · split
      · omega
      · rw [if_pos (by omega)]; omega
theorem mil_mono {a b : Nat} (ha : -9218868437227405312 ≤ sk a ∧ sk a ≤ 9218868437227405312) (hb : -9218868437227405312 ≤ sk b ∧ sk b ≤ 9218868437227405312) (h : sk a ≤ sk b) : MIL a ≤ MIL b := by
  rcases Int.lt_or_le (sk a) 0 with h1 | h1
  · have e : MIL a = 0 := by unfold MIL; rw [if_neg (by omega), if_pos h1]
    rw [e]
    unfold MIL
    rw [if_neg (by omega)]
    split
    · omega
    · split
      · omega
      · exact FLR_0 _
  · rcases Int.lt_or_le (sk b) 4607182418800017408 with h2 | h2
    · obtain ⟨R, e, hN, hR, hs⟩ := mul_thou h1 (by omega : sk a < 4607182418800017408)
      obtain ⟨R', e', hN', hR', hs'⟩ := mul_thou (by omega : 0 ≤ sk b) h2
      have ca := sk_cases a
      have cb := sk_cases b
      have hab : a % 9223372036854775808 ≤ b % 9223372036854775808 := by omega
      have hRR : R ≤ R' := NR.mono (by omega) (by omega) hN hN' (Nat.mul_le_mul_right _ (Nat.mul_le_mul_left _ (vl_le hab)))
      unfold MIL
      rw [if_neg (by omega), if_neg (by omega), if_neg (by omega), if_neg (by omega), if_neg (by omega), if_neg (by omega), e, e', Option.getD_some, Option.getD_some]
      unfold FLR
      have m1 : ((if a / 9223372036854775808 % 2 == 1 then 9223372036854775808 else 0) + R) % 9223372036854775808 = R := by split <;> omega
      have m2 : ((if b / 9223372036854775808 % 2 == 1 then 9223372036854775808 else 0) + R') % 9223372036854775808 = R' := by split <;> omega
      rw [m1, m2]
      exact Int.ofNat_le.2 (Nat.div_le_div_right (vl_le hRR))
    · have e : MIL b = 1000 := by unfold MIL; rw [if_neg (by omega), if_neg (by omega), if_pos (by omega)]
      rw [e]; exact (mil_bd a).2
theorem MIL_live : MIL 4598175219545276416 = 250 := by decide +kernel
theorem mil_if (x : Nat) {v : Int} (h : (¬ (-9218868437227405312 ≤ sk x ∧ sk x ≤ 9218868437227405312) ∧ v = -1) ∨ ((-9218868437227405312 ≤ sk x ∧ sk x ≤ 9218868437227405312) ∧ sk x < 0 ∧ v = 0) ∨ ((-9218868437227405312 ≤ sk x ∧ sk x ≤ 9218868437227405312) ∧ sk x ≥ 4607182418800017408 ∧ v = 1000)) : v = MIL x := by
  unfold MIL
  split
  · omega
  · split
    · omega
    · rw [if_pos (by omega)]; omega
theorem mul_negth {x : Nat} (h : -9218868437227405312 ≤ sk x) (h1 : sk x < 0) : ∃ R, R ≤ 9218868437227405312 ∧ floatBits .mul .f64 4652007308841189376 x = some (9223372036854775808 + R) := by
  have hc := sk_cases x
  have hs : (x / 9223372036854775808 % 2 == 1) = true := by simp; omega
  show ∃ R, R ≤ _ ∧ (((Ieee.double.read 4652007308841189376).product (Ieee.double.read x)).map Ieee.double.write = some _)
  rcases Nat.lt_or_ge (x % 9223372036854775808) 9218868437227405312 with h2 | h2
  · obtain ⟨m, a, e1, v1, hm⟩ := read_sgn (x := x) h2
    rw [e1, thou_read, hs]
    simp only [Ieee.Datum.product, Bool.false_bne, Option.map_some, Ieee.Format.write]
    rcases Nat.eq_zero_or_pos m with hm0 | hm0
    · refine ⟨0, by omega, ?_⟩
      rw [hm0]; simp [Ieee.Format.nearest, word_eq]
    · have hp : 0 < 1000 * 2 ^ 43 * m := Nat.mul_pos (by decide) hm0
      have hpl : (-43 : Int) + (Ieee.double.leastPlace + (a : Int)) = Ieee.double.leastPlace + (a : Int) - ((43 : Nat) : Int) := by omega
      rw [hpl]
      obtain ⟨R, _, e2, _⟩ := near_NR true hp a 43
      refine ⟨min R 9218868437227405312, Nat.min_le_right _ _, ?_⟩
      rw [e2, word_eq]; simp
  · have e := read_inf (w := x) (by omega)
    refine ⟨9218868437227405312, Nat.le_refl _, ?_⟩
    rw [e, thou_read, hs]
    have hi : Ieee.double.infRung = 9218868437227405312 := by decide
    simp only [Ieee.Datum.product]
    rw [if_neg (by decide)]
    simp only [Option.map_some, Ieee.Format.write]
    rw [word_eq, hi]; simp
theorem mil_doc {x r : Nat} (h : -9218868437227405312 ≤ sk x) (h1 : sk x < 4607182418800017408) (hr : cn r = floatBits .mul .f64 4652007308841189376 x) : (∀ n : Int, 0 ≤ n → n < 1000 → (-9218868437227405312 ≤ sk (floatOfInt .f64 (n + 1)) ∧ sk (floatOfInt .f64 (n + 1)) ≤ 9218868437227405312) ∧ (-9218868437227405312 ≤ sk r ∧ sk r ≤ 9218868437227405312) ∧ (sk (floatOfInt .f64 (n + 1)) ≤ sk r ↔ n + 1 ≤ MIL x)) ∧ 0 ≤ MIL x ∧ MIL x ≤ 1000 := by
  rcases Int.lt_or_le (sk x) 0 with h0 | h0
  · obtain ⟨R, hR, e⟩ := mul_negth h h0
    have hw := (cn_some (hr.trans e)).2
    have hc := sk_cases r
    have hm : MIL x = 0 := by unfold MIL; rw [if_neg (by omega), if_pos h0]
    refine ⟨fun n h2 h3 => ?_, by omega, by omega⟩
    have hF := FI_cmp (z := 0) (by decide +kernel) (n := n + 1) (by omega) (by omega)
    have hF0 : FLR 0 = 0 := by decide +kernel
    have hs0 : sk 0 = 0 := by decide +kernel
    have hF' : (sk (floatOfInt .f64 (n + 1)) ≤ sk 0 ↔ n + 1 ≤ FLR 0) ∧ (-9218868437227405312 ≤ sk (floatOfInt .f64 (n + 1)) ∧ sk (floatOfInt .f64 (n + 1)) ≤ 9218868437227405312) := hF
    exact ⟨hF'.2, by omega, by omega⟩
  · have hm := mil_is h0 h1 hr
    refine ⟨fun n h2 h3 => ?_, by omega, by omega⟩
    have hF' : (sk (floatOfInt .f64 (n + 1)) ≤ sk r ↔ n + 1 ≤ FLR r) ∧ (-9218868437227405312 ≤ sk (floatOfInt .f64 (n + 1)) ∧ sk (floatOfInt .f64 (n + 1)) ≤ 9218868437227405312) := FI_cmp (z := r) hm.2.2.2.2.1 (n := n + 1) (by omega) (by omega)
    exact ⟨hF'.2, by omega, by omega⟩
end Go.Flt
