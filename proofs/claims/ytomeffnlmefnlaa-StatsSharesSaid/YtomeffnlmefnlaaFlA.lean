/- Numbers with a point: their order, plain. -/
import Derived.Laws.FloatArith
namespace Go.Flt
open Go
/-- A word's rung, with its sign. -/
def sk (w : Nat) : Int := if w / 9223372036854775808 % 2 = 1 then -((w % 9223372036854775808 : Nat) : Int) else ((w % 9223372036854775808 : Nat) : Int)
/-- What a rung stands for, in the least unit. -/
def vl (r : Nat) : Nat := if r < 4503599627370496 then r else (4503599627370496 + r % 4503599627370496) * 2 ^ (r / 4503599627370496 - 1)
theorem vl_succ (r : Nat) : vl r < vl (r + 1) := by
  unfold vl
  by_cases h : r + 1 < 4503599627370496
  · rw [if_pos (by omega), if_pos h]; omega
  · rw [if_neg h]
    by_cases h2 : r < 4503599627370496
    · rw [if_pos h2]
      have e1 : (r + 1) % 4503599627370496 = 0 := by omega
      have e2 : (r + 1) / 4503599627370496 - 1 = 0 := by omega
      rw [e1, e2]
      simp
      omega
    · rw [if_neg h2]
      by_cases h3 : (r + 1) % 4503599627370496 = 0
      · have e1 : (r + 1) / 4503599627370496 - 1 = r / 4503599627370496 - 1 + 1 := by omega
        have e2 : r % 4503599627370496 = 4503599627370495 := by omega
        rw [h3, e1, e2, Nat.pow_succ]
        have hp : 0 < 2 ^ (r / 4503599627370496 - 1) := Nat.two_pow_pos _
        generalize 2 ^ (r / 4503599627370496 - 1) = p at *
        omega
      · have e1 : (r + 1) / 4503599627370496 = r / 4503599627370496 := by omega
        have e2 : (r + 1) % 4503599627370496 = r % 4503599627370496 + 1 := by omega
        rw [e1, e2]
        exact Nat.mul_lt_mul_of_pos_right (by omega) (Nat.two_pow_pos _)
theorem vl_lt {r s : Nat} (h : r < s) : vl r < vl s := by
  induction s with
  | zero => omega
  | succ n ih =>
    rcases Nat.lt_succ_iff_lt_or_eq.1 h with h | rfl
    · exact Nat.lt_trans (ih h) (vl_succ n)
    · exact vl_succ r
theorem vl_lt_iff {r s : Nat} : vl r < vl s ↔ r < s := by
  constructor
  · intro h
    rcases Nat.lt_trichotomy r s with h1 | h1 | h1
    · exact h1
    · subst h1; omega
    · have := vl_lt h1; omega
  · exact vl_lt
def sv (neg : Bool) (r : Nat) : Int := if neg then -(vl r : Int) else (vl r : Int)
def sr (neg : Bool) (r : Nat) : Int := if neg then -(r : Int) else (r : Int)
theorem vl_0 : vl 0 = 0 := rfl
theorem sr_bd (s : Bool) (p : Nat) : -(p : Int) ≤ sr s p ∧ sr s p ≤ p := by unfold sr; split <;> omega
theorem cmp_eq {a b c d : Int} (h1 : a < b ↔ c < d) (h2 : b < a ↔ d < c) : compare a b = compare c d := by
  have e : ∀ x y : Int, compare x y = if x < y then .lt else if x = y then .eq else .gt := fun x y => by
    simp only [compare, compareOfLessAndEq]
  rw [e, e]
  by_cases x1 : a < b
  · rw [if_pos x1, if_pos (h1.1 x1)]
  · rw [if_neg x1, if_neg (fun h => x1 (h1.2 h))]
    by_cases x2 : b < a
    · rw [if_neg (by omega), if_neg (by have := h2.1 x2; omega)]
    · rw [if_pos (by omega), if_pos (by have h3 := fun h => x1 (h1.2 h); have h4 := fun h => x2 (h2.2 h); omega)]
theorem sv_lt {s t : Bool} {p q : Nat} : sv s p < sv t q ↔ sr s p < sr t q := by
  have h1 := vl_lt_iff (r := p) (s := q)
  have h2 := vl_lt_iff (r := q) (s := p)
  have h3 := vl_lt_iff (r := 0) (s := p)
  have h4 := vl_lt_iff (r := 0) (s := q)
  rw [vl_0] at h3 h4
  cases s <;> cases t <;> simp only [sv, sr, if_true, if_false, Bool.false_eq_true] <;> omega
theorem sv_cmp {s t : Bool} {p q : Nat} : compare (sv s p) (sv t q) = compare (sr s p) (sr t q) := cmp_eq sv_lt sv_lt
/-- What a word stands for, by its rung. -/
theorem read_eq (w : Nat) : Ieee.double.read w = (if w % 9223372036854775808 < 4503599627370496 then .number (w / 9223372036854775808 % 2 == 1) (w % 9223372036854775808) Ieee.double.leastPlace
    else if w % 9223372036854775808 < 9218868437227405312 then .number (w / 9223372036854775808 % 2 == 1) (4503599627370496 + w % 9223372036854775808 % 4503599627370496) (Ieee.double.leastPlace + (w % 9223372036854775808 / 4503599627370496 - 1 : Nat))
    else if w % 9223372036854775808 = 9218868437227405312 then .infinity (w / 9223372036854775808 % 2 == 1) else .nan (w / 9223372036854775808 % 2 == 1) (w % 9223372036854775808 - 9218868437227405312)) := rfl
/-- A number among the least units: its place above the least one. -/
def Num (d : Ieee.Datum) (neg : Bool) (m a : Nat) : Prop := d = .number neg m (Ieee.double.leastPlace + (a : Nat))
theorem read_num {w : Nat} (h : w % 9223372036854775808 < 9218868437227405312) : ∃ m a, Ieee.double.read w = .number (w / 9223372036854775808 % 2 == 1) m (Ieee.double.leastPlace + (a : Nat)) ∧ m * 2 ^ a = vl (w % 9223372036854775808) := by
  rw [read_eq]
  by_cases h1 : w % 9223372036854775808 < 4503599627370496
  · refine ⟨w % 9223372036854775808, 0, ?_, ?_⟩
    · rw [if_pos h1]; simp
    · unfold vl; rw [if_pos h1]; simp
  · refine ⟨4503599627370496 + w % 9223372036854775808 % 4503599627370496, w % 9223372036854775808 / 4503599627370496 - 1, ?_, ?_⟩
    · rw [if_neg h1, if_pos h]
    · unfold vl; rw [if_neg h1]
theorem signed_eq (s : Bool) (m k : Nat) : Ieee.signed s m k = if s then -((m * 2 ^ k : Nat) : Int) else ((m * 2 ^ k : Nat) : Int) := by
  unfold Ieee.signed
  rw [Nat.shiftLeft_eq]
theorem signed_cmp {s t : Bool} {m n a b : Nat} {p q : Nat} (hp : m * 2 ^ a = vl p) (hq : n * 2 ^ b = vl q) (L : Int) :
    compare (Ieee.signed s m ((L + (a : Nat)) - min (L + (a : Nat)) (L + (b : Nat))).toNat) (Ieee.signed t n ((L + (b : Nat)) - min (L + (a : Nat)) (L + (b : Nat))).toNat) = compare (sr s p) (sr t q) := by
  rw [← sv_cmp]
  have e1 : ((L + (a : Nat)) - min (L + (a : Nat)) (L + (b : Nat))).toNat = a - min a b := by omega
  have e2 : ((L + (b : Nat)) - min (L + (a : Nat)) (L + (b : Nat))).toNat = b - min a b := by omega
  rw [e1, e2, signed_eq, signed_eq]
  unfold sv
  rw [← hp, ← hq]
  have k1 : m * 2 ^ a = m * 2 ^ (a - min a b) * 2 ^ min a b := by rw [Nat.mul_assoc, ← Nat.pow_add]; congr 2; omega
  have k2 : n * 2 ^ b = n * 2 ^ (b - min a b) * 2 ^ min a b := by rw [Nat.mul_assoc, ← Nat.pow_add]; congr 2; omega
  rw [k1, k2]
  have hpos : 0 < 2 ^ min a b := Nat.two_pow_pos _
  generalize m * 2 ^ (a - min a b) = x
  generalize n * 2 ^ (b - min a b) = y
  generalize 2 ^ min a b = z at hpos
  have m1 : x * z < y * z ↔ x < y := Nat.mul_lt_mul_right hpos
  have m2 : y * z < x * z ↔ y < x := Nat.mul_lt_mul_right hpos
  have m3 : 0 < x * z ↔ 0 < x := by rw [Nat.mul_pos_iff_of_pos_right hpos]
  have m4 : 0 < y * z ↔ 0 < y := by rw [Nat.mul_pos_iff_of_pos_right hpos]
  generalize x * z = u at *
  generalize y * z = v at *
  apply cmp_eq <;> cases s <;> cases t <;> simp only [if_true, if_false, Bool.false_eq_true] <;> omega
theorem sk_sr (w : Nat) : sk w = sr (w / 9223372036854775808 % 2 == 1) (w % 9223372036854775808) := by
  unfold sk sr
  by_cases h : w / 9223372036854775808 % 2 = 1 <;> simp [h]
/-- Is a word a number or an infinity? -/
def ok (w : Nat) : Prop := -9218868437227405312 ≤ sk w ∧ sk w ≤ 9218868437227405312
theorem ok_iff {w : Nat} : ok w ↔ w % 9223372036854775808 ≤ 9218868437227405312 := by
  unfold ok sk
  split <;> omega
theorem ord_nan {x y : Nat} (h : ¬ ok x ∨ ¬ ok y) : Ieee.double.order x y = none := by
  unfold Ieee.Format.order
  rw [read_eq x, read_eq y]
  rw [ok_iff, ok_iff] at h
  rcases h with h | h
  · rw [if_neg (by omega), if_neg (by omega), if_neg (by omega)]; rfl
  · rw [if_neg (c := y % 9223372036854775808 < 4503599627370496) (by omega), if_neg (c := y % 9223372036854775808 < 9218868437227405312) (by omega), if_neg (c := y % 9223372036854775808 = 9218868437227405312) (by omega)]
    split
    · rfl
    · split
      · rfl
      · split <;> rfl
theorem read_inf {w : Nat} (h : w % 9223372036854775808 = 9218868437227405312) : Ieee.double.read w = .infinity (w / 9223372036854775808 % 2 == 1) := by
  rw [read_eq, if_neg (by omega), if_neg (by omega), if_pos h]
theorem ord_eq {x y : Nat} (hx : ok x) (hy : ok y) : Ieee.double.order x y = some (compare (sk x) (sk y)) := by
  rw [ok_iff] at hx hy
  unfold Ieee.Format.order
  rw [sk_sr x, sk_sr y]
  rcases Nat.lt_or_ge (x % 9223372036854775808) 9218868437227405312 with h1 | h1
  · obtain ⟨m, a, e1, e2⟩ := read_num h1
    rcases Nat.lt_or_ge (y % 9223372036854775808) 9218868437227405312 with h2 | h2
    · obtain ⟨n, b, e3, e4⟩ := read_num h2
      rw [e1, e3]
      show some (compare _ _) = _
      rw [signed_cmp e2 e4]
    · rw [e1, read_inf (by omega)]
      have e : y % 9223372036854775808 = 9218868437227405312 := by omega
      rw [e]
      show some (if _ then Ordering.gt else Ordering.lt) = _
      cases (y / 9223372036854775808 % 2 == 1)
      · simp only [Bool.false_eq_true, if_false]
        congr 1
        symm
        show (if _ then Ordering.lt else _) = _
        rw [if_pos]
        have hx_ := sr_bd (x / 9223372036854775808 % 2 == 1) (x % 9223372036854775808)
        have hy_ := sr_bd (y / 9223372036854775808 % 2 == 1) (y % 9223372036854775808)
        first | (rw [show sr false 9218868437227405312 = (9218868437227405312 : Int) from rfl]; omega) | (rw [show sr true 9218868437227405312 = (-9218868437227405312 : Int) from rfl]; omega)
      · simp only [if_true]
        congr 1
        symm
        show (if _ then Ordering.lt else if _ then Ordering.eq else Ordering.gt) = _
        rw [if_neg, if_neg]
        · have hx_ := sr_bd (x / 9223372036854775808 % 2 == 1) (x % 9223372036854775808)
          have hy_ := sr_bd (y / 9223372036854775808 % 2 == 1) (y % 9223372036854775808)
          first | (rw [show sr false 9218868437227405312 = (9218868437227405312 : Int) from rfl]; omega) | (rw [show sr true 9218868437227405312 = (-9218868437227405312 : Int) from rfl]; omega)
        · have hx_ := sr_bd (x / 9223372036854775808 % 2 == 1) (x % 9223372036854775808)
          have hy_ := sr_bd (y / 9223372036854775808 % 2 == 1) (y % 9223372036854775808)
          first | (rw [show sr false 9218868437227405312 = (9218868437227405312 : Int) from rfl]; omega) | (rw [show sr true 9218868437227405312 = (-9218868437227405312 : Int) from rfl]; omega)
  · rw [read_inf (by omega)]
    have e : x % 9223372036854775808 = 9218868437227405312 := by omega
    rw [e]
    rcases Nat.lt_or_ge (y % 9223372036854775808) 9218868437227405312 with h2 | h2
    · obtain ⟨n, b, e3, e4⟩ := read_num h2
      rw [e3]
      show some (if _ then Ordering.lt else Ordering.gt) = _
      cases (x / 9223372036854775808 % 2 == 1)
      · simp only [Bool.false_eq_true, if_false]
        congr 1
        symm
        show (if _ then Ordering.lt else if _ then Ordering.eq else Ordering.gt) = _
        rw [if_neg, if_neg]
        · have hx_ := sr_bd (x / 9223372036854775808 % 2 == 1) (x % 9223372036854775808)
          have hy_ := sr_bd (y / 9223372036854775808 % 2 == 1) (y % 9223372036854775808)
          first | (rw [show sr false 9218868437227405312 = (9218868437227405312 : Int) from rfl]; omega) | (rw [show sr true 9218868437227405312 = (-9218868437227405312 : Int) from rfl]; omega)
        · have hx_ := sr_bd (x / 9223372036854775808 % 2 == 1) (x % 9223372036854775808)
          have hy_ := sr_bd (y / 9223372036854775808 % 2 == 1) (y % 9223372036854775808)
          first | (rw [show sr false 9218868437227405312 = (9218868437227405312 : Int) from rfl]; omega) | (rw [show sr true 9218868437227405312 = (-9218868437227405312 : Int) from rfl]; omega)
      · simp only [if_true]
        congr 1
        symm
        show (if _ then Ordering.lt else _) = _
        rw [if_pos]
        have hx_ := sr_bd (x / 9223372036854775808 % 2 == 1) (x % 9223372036854775808)
        have hy_ := sr_bd (y / 9223372036854775808 % 2 == 1) (y % 9223372036854775808)
        first | (rw [show sr false 9218868437227405312 = (9218868437227405312 : Int) from rfl]; omega) | (rw [show sr true 9218868437227405312 = (-9218868437227405312 : Int) from rfl]; omega)
    · rw [read_inf (by omega)]
      have e' : y % 9223372036854775808 = 9218868437227405312 := by omega
      rw [e']
      cases (x / 9223372036854775808 % 2 == 1) <;> cases (y / 9223372036854775808 % 2 == 1) <;> rfl
/-- Words that are alike, but for the sign of 0. -/
theorem sk_inj {x y : Nat} (hx : x < 18446744073709551616) (hy : y < 18446744073709551616) (h : sk x = sk y) (h0 : sk x ≠ 0) : x = y := by
  unfold sk at h h0
  split at h <;> split at h <;> omega
theorem sk_zero {x : Nat} (hx : x < 18446744073709551616) (h : sk x = 0) : x = 0 ∨ x = 9223372036854775808 := by
  unfold sk at h
  split at h <;> omega
end Go.Flt
