/- The middle and the mean: plain. -/
import Derived.Test.YtomeffnlmefnlaaFlU
namespace Go.Flt
open Go Go.Gv
/-- Is one of them no number? -/
def anyN (l : List Nat) : Bool := l.any fun x => decide (¬ (-9218868437227405312 ≤ sk x ∧ sk x ≤ 9218868437227405312))
theorem any_no {l : List Nat} (h : ∀ t : Int, 0 ≤ t → t < l.length → -9218868437227405312 ≤ sk (l.getD t.toNat 0) ∧ sk (l.getD t.toNat 0) ≤ 9218868437227405312) : anyN l = false := by
  unfold anyN
  rw [List.any_eq_false]
  intro x hx
  obtain ⟨i, hi, e⟩ := List.mem_iff_getElem.1 hx
  have := h (i : Int) (by omega) (by omega)
  rw [Int.toNat_natCast, List.getD_eq_getElem?_getD, List.getElem?_eq_getElem hi, Option.getD_some, e] at this
  simp only [decide_eq_true_eq, Decidable.not_not]; exact this
theorem any_yes {l : List Nat} {t : Int} (h0 : 0 ≤ t) (h1 : t < l.length) (h : ¬ (-9218868437227405312 ≤ sk (l.getD t.toNat 0) ∧ sk (l.getD t.toNat 0) ≤ 9218868437227405312)) : anyN l = true := by
  unfold anyN
  rw [List.any_eq_true]
  exact ⟨_, getD_mem (by omega), decide_eq_true h⟩
theorem any_all {l : List Nat} (h : anyN l = false) {x : Nat} (hx : x ∈ l) : -9218868437227405312 ≤ sk x ∧ sk x ≤ 9218868437227405312 := by
  unfold anyN at h
  rw [List.any_eq_false] at h
  have := h x hx
  simp only [decide_eq_true_eq, Decidable.not_not] at this; exact this
abbrev SRD (ys : List Nat) : Prop := ys.Pairwise fun a b => ¬ ORD b a < 0
/-- r is the middle one of l; of an even number of them the two in the middle, halved and summed. -/
def MEDN (l : List Nat) (r : Nat) : Prop := ((l.length = 0 ∨ anyN l = true) ∧ cn r = none) ∨ ((l.length ≠ 0 ∧ anyN l = false) ∧ ∃ ys : List Nat, ys.Perm l ∧ SRD ys ∧
  ((l.length % 2 = 1 ∧ r = ys.getD ((l.length : Int) / 2).toNat 0) ∨ (l.length % 2 = 0 ∧ ∃ a b, cn a = floatBits .quo .f64 (ys.getD ((l.length : Int) / 2 - 1).toNat 0) 4611686018427387904 ∧ cn b = floatBits .quo .f64 (ys.getD ((l.length : Int) / 2).toNat 0) 4611686018427387904 ∧ cn r = floatBits .add .f64 a b)))
theorem tk_inj {a b : Nat} (ha : a < 18446744073709551616) (hb : b < 18446744073709551616) (hoa : -9218868437227405312 ≤ sk a ∧ sk a ≤ 9218868437227405312) (h : tk a = tk b) : a = b := by
  have h1 := tk_is a
  have h2 := tk_is b
  have h3 := sk_cases a
  have h4 := sk_cases b
  omega
theorem MEDN.same {l : List Nat} {r s : Nat} (hp : ∀ x ∈ l, x < 18446744073709551616) (h1 : MEDN l r) (h2 : MEDN l s) : tk r = tk s := by
  rcases h1 with ⟨a1, c1⟩ | ⟨a1, ys, p1, w1, c1⟩ <;> rcases h2 with ⟨a2, c2⟩ | ⟨a2, zs, p2, w2, c2⟩
  · rw [tk_none c1, tk_none c2]
  · exact absurd a1 (by rintro (h | h); exact a2.1 h; rw [a2.2] at h; cases h)
  · exact absurd a2 (by rintro (h | h); exact a1.1 h; rw [a1.2] at h; cases h)
  · have hm := sort_tk p1 w1 p2 w2
    have hl1 := p1.length_eq
    have hl2 := p2.length_eq
    have key : ∀ i : Int, 0 ≤ i → i < l.length → ys.getD i.toNat 0 = zs.getD i.toNat 0 := fun i i0 i1 =>
      tk_inj (hp _ (p1.mem_iff.1 (getD_mem (by omega)))) (hp _ (p2.mem_iff.1 (getD_mem (by omega)))) (any_all a1.2 (p1.mem_iff.1 (getD_mem (by omega)))) (map_tk hm i0 (by omega))
    rcases c1 with ⟨o1, e1⟩ | ⟨o1, x1, y1, e1, f1, g1⟩ <;> rcases c2 with ⟨o2, e2⟩ | ⟨o2, x2, y2, e2, f2, g2⟩
    · rw [e1, e2, key _ (by omega) (by omega)]
    · omega
    · omega
    · have k1 := key ((l.length : Int) / 2 - 1) (by omega) (by omega)
      have k2 := key ((l.length : Int) / 2) (by omega) (by omega)
      have oz : ∀ i : Int, 0 ≤ i → i < l.length → ok (zs.getD i.toNat 0) := fun i i0 i1 => any_all a1.2 (p2.mem_iff.1 (getD_mem (by omega)))
      rw [k1] at e1
      rw [k2] at f1
      have q1 := hv_is (oz _ (by omega) (by omega)) e1
      have q2 := hv_is (oz _ (by omega) (by omega)) e2
      have q3 := hv_is (oz _ (by omega) (by omega)) f1
      have q4 := hv_is (oz _ (by omega) (by omega)) f2
      rw [q1, q3] at g1
      rw [q2, q4] at g2
      exact tk_cn (g1.trans g2.symm)
theorem MEDN.mid {l ys : List Nat} {m : Nat} (h : MEDN l m) (p : ys.Perm l) (w : SRD ys) : (-9218868437227405312 ≤ sk m ∧ sk m ≤ 9218868437227405312) → l.length % 2 = 1 → tk (ys.getD (0 : Int).toNat 0) ≤ tk m ∧ tk m ≤ tk (ys.getD ((l.length : Int) - 1).toNat 0) := fun hm ho => by
  rcases h with ⟨_, c1⟩ | ⟨a1, zs, p2, w2, c1⟩
  · exact absurd hm (cn_none c1)
  · rcases c1 with ⟨o1, e1⟩ | ⟨o1, _⟩
    · have hm := sort_tk p w p2 w2
      have hl1 := p.length_eq
      have hl2 := p2.length_eq
      rw [e1, ← map_tk hm (i := (l.length : Int) / 2) (by omega) (by omega)]
      have key : ∀ i j : Int, 0 ≤ i → i ≤ j → j < ys.length → tk (ys.getD i.toNat 0) ≤ tk (ys.getD j.toNat 0) := fun i j h0 h1 h2 => by
        rcases Int.lt_or_le i j with h3 | h3
        · have hw := (List.pairwise_iff_getElem.1 w) i.toNat j.toNat (by omega) (by omega) (by omega)
          rw [List.getD_eq_getElem?_getD, List.getD_eq_getElem?_getD, List.getElem?_eq_getElem (by omega), List.getElem?_eq_getElem (by omega), Option.getD_some, Option.getD_some]
          exact ord_le.1 hw
        · rw [show i = j by omega]; exact Int.le_refl _
      exact ⟨key _ _ (by omega) (by omega) (by omega), key _ _ (by omega) (by omega) (by omega)⟩
    · omega
theorem med_live {r : Nat} (h : MEDN M3 r) : ∃ ys : List Nat, ys.Perm M3 ∧ SRD ys ∧ r = ys.getD ((M3.length : Int) / 2).toNat 0 := by
  rcases h with ⟨h1, _⟩ | ⟨_, ys, p, w, h2⟩
  · rcases h1 with h1 | h1
    · cases h1
    · exact absurd h1 (by decide +kernel)
  · rcases h2 with ⟨_, h2⟩ | ⟨h2, _⟩
    · exact ⟨ys, p, w, h2⟩
    · cases h2
theorem turn_perm (l : List Nat) (k : Nat) : (([] ++ ((l.take l.length).drop k)) ++ (l.take k).drop 0).Perm l := by
  rw [List.nil_append, List.take_length, List.drop_zero]
  exact List.perm_append_comm.trans (by rw [List.take_append_drop])
/-! ### the mean of one and itself -/
theorem vl_pos {r : Nat} (h : 0 < r) : 0 < vl r := by
  have := vl_lt h
  have h2 : vl 0 = 0 := by decide
  omega
theorem twice {r : Nat} (h : r < 9218868437227405312) : ∃ R, vl R = vl r * 2 := by
  rcases Nat.lt_or_ge r 4503599627370496 with h1 | h1
  · have a1 := vl_at (e := 0) (k := r) (by omega) (.inl rfl)
    have a2 := vl_at (e := 0) (k := r * 2) (by omega) (.inl rfl)
    simp only [Nat.zero_mul, Nat.zero_add, Nat.pow_zero, Nat.mul_one] at a1 a2
    exact ⟨r * 2, by rw [a1, a2]⟩
  · obtain ⟨e, he⟩ : ∃ e, e = r / 4503599627370496 - 1 := ⟨_, rfl⟩
    obtain ⟨k, hk⟩ : ∃ k, k = 4503599627370496 + r % 4503599627370496 := ⟨_, rfl⟩
    have a1 := vl_at (e := e) (k := k) (by omega) (.inr (by omega))
    have a2 := vl_at (e := e + 1) (k := k) (by omega) (.inr (by omega))
    rw [show e * 4503599627370496 + k = r by omega] at a1
    exact ⟨(e + 1) * 4503599627370496 + k, by rw [a1, a2, Nat.pow_succ, ← Nat.mul_assoc]⟩
theorem NR.at {V R R' : Nat} (h : NR V 1 R) (e : vl R' = V) : R = R' :=
  NR.uniq (by omega) (by omega) h (by have := NR.self (K := 1) (by omega) R'; rwa [Nat.mul_one, e] at this) rfl
abbrev sgn (x : Nat) : Bool := x / 9223372036854775808 % 2 == 1
/-- A sum of two of the same sign. -/
theorem add_same {x y : Nat} (hx : x % 9223372036854775808 < 9218868437227405312) (hy : y % 9223372036854775808 < 9218868437227405312) (hs : sgn x = sgn y) (hn : 0 < vl (x % 9223372036854775808) + vl (y % 9223372036854775808)) :
    ∃ R, floatBits .add .f64 x y = some ((if sgn x then 9223372036854775808 else 0) + min R 9218868437227405312) ∧ NR (vl (x % 9223372036854775808) + vl (y % 9223372036854775808)) 1 R := by
  obtain ⟨m, a, e1, v1, _⟩ := read_sgn hx
  obtain ⟨n, b, e2, v2, _⟩ := read_sgn hy
  have hs' : (y / 9223372036854775808 % 2 == 1) = (x / 9223372036854775808 % 2 == 1) := hs.symm
  rw [hs'] at e2
  obtain ⟨s, hsx⟩ : ∃ s, s = (x / 9223372036854775808 % 2 == 1) := ⟨_, rfl⟩
  show ∃ R, (((Ieee.double.read x).sum (Ieee.double.read y)).map Ieee.double.write = some ((if (x / 9223372036854775808 % 2 == 1) then 9223372036854775808 else 0) + _)) ∧ _
  rw [← hsx] at e1 e2 ⊢
  rw [e1, e2]
  simp only [Ieee.Datum.sum, signed_eq, Option.map_some, Ieee.Format.write]
  obtain ⟨c, hc⟩ : ∃ c, c = min a b := ⟨_, rfl⟩
  have hbase : min (Ieee.double.leastPlace + (a : Nat)) (Ieee.double.leastPlace + (b : Nat)) = Ieee.double.leastPlace + (c : Int) - ((0 : Nat) : Int) := by omega
  rw [hbase]
  have ea : (Ieee.double.leastPlace + (a : Int) - (Ieee.double.leastPlace + (c : Int) - ((0 : Nat) : Int))).toNat = a - c := by omega
  have eb : (Ieee.double.leastPlace + (b : Int) - (Ieee.double.leastPlace + (c : Int) - ((0 : Nat) : Int))).toNat = b - c := by omega
  rw [ea, eb]
  obtain ⟨t, ht⟩ : ∃ t, t = m * 2 ^ (a - c) + n * 2 ^ (b - c) := ⟨_, rfl⟩
  have htv : t * 2 ^ c = vl (x % 9223372036854775808) + vl (y % 9223372036854775808) := by
    rw [ht, Nat.add_mul, Nat.mul_assoc, Nat.mul_assoc, ← Nat.pow_add, ← Nat.pow_add, show a - c + c = a by omega, show b - c + c = b by omega, v1, v2]
  have h0 : 0 < t := by
    rcases Nat.eq_zero_or_pos t with h | h
    · rw [h, Nat.zero_mul] at htv; omega
    · exact h
  obtain ⟨R, h1, h2, _⟩ := near_NR s h0 c 0
  refine ⟨R, ?_, ?_⟩
  · have htot : ((if s = true then -((m * 2 ^ (a - c) : Nat) : Int) else ((m * 2 ^ (a - c) : Nat) : Int)) + (if s = true then -((n * 2 ^ (b - c) : Nat) : Int) else ((n * 2 ^ (b - c) : Nat) : Int))) = if s = true then -(t : Int) else (t : Int) := by
      rw [ht]; split <;> simp <;> omega
    rw [htot]
    have hna : (if s = true then -(t : Int) else (t : Int)).natAbs = t := by split <;> omega
    have hsg : (if (if s = true then -(t : Int) else (t : Int)) = 0 then (s && s) else decide ((if s = true then -(t : Int) else (t : Int)) < 0)) = s := by
      cases s
      · simp
      · simp; omega
    rw [hna, hsg, h2, word_eq]
  · rw [htv] at h1
    simpa using h1
theorem add0 {x : Nat} (hx : x < 18446744073709551616) (hf : x % 9223372036854775808 < 9218868437227405312) (h0 : 0 < x % 9223372036854775808) : floatBits .add .f64 0 x = some x := by
  have hv0 : 0 < vl (x % 9223372036854775808) := vl_pos h0
  obtain ⟨m, a, e1, v1, _⟩ := read_sgn hf
  have hm : 0 < m := by
    rcases Nat.eq_zero_or_pos m with h | h
    · rw [h, Nat.zero_mul] at v1; omega
    · exact h
  have r0 : Ieee.double.read 0 = .number false 0 (-1074) := by decide +kernel
  obtain ⟨s, hs⟩ : ∃ s, s = (x / 9223372036854775808 % 2 == 1) := ⟨_, rfl⟩
  rw [← hs] at e1
  show ((Ieee.double.read 0).sum (Ieee.double.read x)).map Ieee.double.write = some x
  rw [e1, r0, ← lp_eq]
  simp only [Ieee.Datum.sum, signed_eq, Option.map_some, Ieee.Format.write]
  have hbase : min Ieee.double.leastPlace (Ieee.double.leastPlace + (a : Nat)) = Ieee.double.leastPlace + ((0 : Nat) : Int) - ((0 : Nat) : Int) := by omega
  rw [hbase]
  have ea : (Ieee.double.leastPlace + (a : Int) - (Ieee.double.leastPlace + ((0 : Nat) : Int) - ((0 : Nat) : Int))).toNat = a := by omega
  rw [ea, v1]
  have hp : 0 < vl (x % 9223372036854775808) := hv0
  obtain ⟨v, hv⟩ : ∃ v, v = vl (x % 9223372036854775808) := ⟨_, rfl⟩
  rw [← hv] at hp ⊢
  obtain ⟨R, h1, h2, _⟩ := near_NR s hp 0 0
  have hR : R = x % 9223372036854775808 := by
    rw [Nat.pow_zero, Nat.mul_one] at h1
    exact h1.at hv.symm
  have htot : ((if false = true then -((0 * 2 ^ (Ieee.double.leastPlace - (Ieee.double.leastPlace + ((0 : Nat) : Int) - ((0 : Nat) : Int))).toNat : Nat) : Int) else ((0 * 2 ^ (Ieee.double.leastPlace - (Ieee.double.leastPlace + ((0 : Nat) : Int) - ((0 : Nat) : Int))).toNat : Nat) : Int)) + (if s = true then -(v : Int) else (v : Int))) = if s = true then -(v : Int) else (v : Int) := by simp
  rw [htot]
  have hna : (if s = true then -(v : Int) else (v : Int)).natAbs = v := by split <;> omega
  have hsg : (if (if s = true then -(v : Int) else (v : Int)) = 0 then (false && s) else decide ((if s = true then -(v : Int) else (v : Int)) < 0)) = s := by
    cases s
    · simp
    · simp; omega
  rw [hna, hsg, h2, word_eq, hR, Nat.min_eq_left (by omega)]
  congr 1
  rcases Nat.mod_two_eq_zero_or_one (x / 9223372036854775808) with hq | hq
  · rw [hs, hq]; simp; omega
  · rw [hs, hq]; simp; omega
theorem FI_2 : floatOfInt .f64 2 = 4611686018427387904 := by decide +kernel
theorem mean2 {a x : Nat} (ha : a < 18446744073709551616) (h1 : -9094988921128908188 ≤ sk a) (h2 : sk a ≤ 9094988921128908188) (hx : cn x = MEAN [a, a]) : (-9218868437227405312 ≤ sk x ∧ sk x ≤ 9218868437227405312) ∧ sk x = sk a := by
  have hc := sk_cases a
  have hm : MEAN [a, a] = fop .quo (fop .add (floatBits .add .f64 0 a) a) 4611686018427387904 := by
    unfold MEAN fsum
    rw [← FI_2]; rfl
  rw [hm] at hx
  rcases Nat.eq_zero_or_pos (a % 9223372036854775808) with h0 | h0
  · have e : a = 0 ∨ a = 9223372036854775808 := by omega
    have hz : cn x = some 0 := by
      rw [hx]; rcases e with rfl | rfl <;> decide +kernel
    rw [(cn_some hz).2]
    have : sk 0 = 0 := by decide
    omega
  · rw [add0 ha (by omega) h0] at hx
    have hv0 : 0 < vl (a % 9223372036854775808) := vl_pos h0
    obtain ⟨R, e1, hR⟩ := add_same (x := a) (y := a) (by omega) (by omega) rfl (by omega)
    obtain ⟨T, hT⟩ := twice (r := a % 9223372036854775808) (by omega)
    have hRT : R = T := hR.at (by rw [hT]; omega)
    have hTb : T ≤ 9218868437227405311 := by
      rcases Nat.lt_or_ge T 9218868437227405312 with h | h
      · omega
      · exfalso
        have hv1 := vl_le h
        have hv2 := vl_le (show a % 9223372036854775808 ≤ 9094988921128908188 by omega)
        have hv3 : vl 9094988921128908188 * 2 < vl 9218868437227405312 := by decide +kernel
        omega
    rw [hRT, Nat.min_eq_left (by omega)] at e1
    have hx' : cn x = floatBits .quo .f64 ((if sgn a then 9223372036854775808 else 0) + T) 4611686018427387904 := by
      rw [hx]; show fop .quo (floatBits .add .f64 a a) 4611686018427387904 = _
      rw [e1]; rfl
    obtain ⟨b, hb⟩ : ∃ b, b = (if sgn a then 9223372036854775808 else 0) + T := ⟨_, rfl⟩
    rw [← hb] at hx'
    have hbm : b % 9223372036854775808 = T := by rw [hb]; split <;> omega
    have hbs : b / 9223372036854775808 % 2 = a / 9223372036854775808 % 2 := by
      rw [hb]
      rcases Nat.mod_two_eq_zero_or_one (a / 9223372036854775808) with hq | hq
      · rw [hq]; simp [sgn, hq]; omega
      · rw [hq]; simp [sgn, hq]; omega
    obtain ⟨Q, f1, f2, f3⟩ := hv_fin (x := b) (by omega)
    rw [f1, hbs] at hx'
    have hQ : Q = a % 9223372036854775808 := by
      rw [hbm, hT] at f2
      exact NR.uniq (by omega) (by omega) f2 (NR.self (by omega) _) rfl
    have hw := (cn_some hx').2
    have : x = a := by
      rw [hw, hQ]
      rcases Nat.mod_two_eq_zero_or_one (a / 9223372036854775808) with hq | hq
      · rw [hq]; simp; omega
      · rw [hq]; simp; omega
    rw [this]; omega
end Go.Flt
