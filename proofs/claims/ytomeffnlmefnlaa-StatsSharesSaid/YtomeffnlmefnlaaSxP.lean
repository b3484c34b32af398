/- Stats: shares that are turned, means between 0 and 1: plain. -/
import Derived.Test.YtomeffnlmefnlaaSxA
import Derived.Test.YtomeffnlmefnlaaFlW
import Derived.Test.YtomeffnlmefnlaaRpA
import Derived.Test.YtomeffnlmefnlaaDcA
import Derived.Test.YtomeffnlmefnlaaMyT0
namespace Go.Sts
open Go Go.Gv Go.Flt
theorem pow_ab (a b c d : Nat) (h : a + b = c + d) : 2 ^ a * 2 ^ b = 2 ^ c * 2 ^ d := by rw [← Nat.pow_add, ← Nat.pow_add, h]
/-- How near a quotient is told before it is cut. -/
theorem quo_near {x y T : Nat} (hT : T = 2 ^ 1074) (hx : x < 9218868437227405312) (hy : y < 9218868437227405312) (hx0 : 0 < x) (h0 : 0 < y) :
    ∃ R V K e, floatBits .quo .f64 x y = some (min R 9218868437227405312) ∧ NR V K R ∧ 0 < K ∧ V * vl y ≤ T * vl x * K + e ∧ T * vl x * K ≤ V * vl y + e ∧ e * 9007199254740992 ≤ T * vl x * K ∧ (x = y → e = 0) := by
  obtain ⟨m, a, e1, v1, hm⟩ := read_pos hx
  obtain ⟨n, b, e2, v2, hn⟩ := read_pos hy
  have hvy : 0 < vl y := by have := vl_lt h0; omega
  have hvx : 0 < vl x := by have := vl_lt hx0; omega
  have hn0 : n ≠ 0 := fun e => by rw [e, Nat.zero_mul] at v2; omega
  have hm0 : m ≠ 0 := fun e => by rw [e, Nat.zero_mul] at v1; omega
  have hxy : x = y → m = n ∧ a = b := fun h => by
    subst h
    rw [e1] at e2
    injection e2 with _ h1 h2
    exact ⟨h1, by omega⟩
  show ∃ R V K e, (((Ieee.double.read x).quotient (Ieee.double.fractionBits + 2) (Ieee.double.read y)).map Ieee.double.write = some _) ∧ _
  rw [e1, e2]
  simp only [Ieee.Datum.quotient, if_neg hn0, bne_self_eq_false, Option.map_some, Ieee.Format.write, Nat.shiftLeft_eq]
  obtain ⟨more, hmore⟩ : ∃ more, more = Ieee.double.fractionBits + 2 + n.log2 - m.log2 := ⟨_, rfl⟩
  rw [← hmore]
  obtain ⟨D, hD⟩ : ∃ D, D = m * 2 ^ more := ⟨_, rfl⟩
  rw [← hD]
  obtain ⟨q2, hq2⟩ : ∃ q2, q2 = 2 * (D / n) + (D % n != 0).toNat := ⟨_, rfl⟩
  rw [← hq2]
  have hlm : m.log2 ≤ 52 := by
    have h1 := Nat.log2_self_le hm0
    have : (2 : Nat) ^ 53 = 9007199254740992 := by decide
    have := (Nat.pow_lt_pow_iff_right (a := 2) (n := m.log2) (m := 53) (by omega)).1 (by omega)
    omega
  have hf : Ieee.double.fractionBits = 52 := rfl
  have hDbig : n * 9007199254740992 ≤ D := by
    have h1 := Nat.log2_self_le hm0
    have h2 := Nat.lt_log2_self (n := n)
    have h3 : 2 ^ m.log2 * 2 ^ more ≤ D := by rw [hD]; exact Nat.mul_le_mul_right _ h1
    rw [← Nat.pow_add, show m.log2 + more = n.log2 + 1 + 53 by omega, Nat.pow_add] at h3
    have h53 : (2 : Nat) ^ 53 = 9007199254740992 := by decide
    rw [h53] at h3
    have h4 : n * 9007199254740992 ≤ 2 ^ (n.log2 + 1) * 9007199254740992 := Nat.mul_le_mul_right _ (Nat.le_of_lt h2)
    exact Nat.le_trans h4 h3
  have hdm := Nat.div_add_mod D n
  have hml := Nat.mod_lt D (show 0 < n by omega)
  have hb1 : (D % n != 0).toNat ≤ 1 := by cases (D % n != 0) <;> decide
  have hb0 : D % n = 0 → (D % n != 0).toNat = 0 := fun h => by rw [h]; rfl
  have hqn : q2 * n = 2 * (n * (D / n)) + (D % n != 0).toNat * n := by rw [hq2, Nat.add_mul, Nat.mul_assoc, Nat.mul_comm (D / n) n]
  have hbn : (D % n != 0).toNat * n ≤ 1 * n := Nat.mul_le_mul_right _ hb1
  have hq2p : 0 < q2 := by
    rcases Nat.eq_zero_or_pos q2 with h | h
    · exfalso
      rw [h, Nat.zero_mul] at hqn
      omega
    · exact h
  have hpl : Ieee.double.leastPlace + (a : Int) - (Ieee.double.leastPlace + (b : Int)) - (more : Int) - 1 = Ieee.double.leastPlace + ((1074 + a : Nat) : Int) - ((b + more + 1 : Nat) : Int) := by rw [lp_eq]; omega
  rw [hpl]
  obtain ⟨R, h1, h2, _⟩ := near_NR false hq2p (1074 + a) (b + more + 1)
  obtain ⟨G, hG⟩ : ∃ G, G = T * 2 ^ a * 2 ^ b := ⟨_, rfl⟩
  have hV : q2 * 2 ^ (1074 + a) * vl y = G * (q2 * n) := by
    rw [← v2, hG, hT, Nat.pow_add]
    simp only [Nat.mul_assoc, Nat.mul_comm, Nat.mul_left_comm]
  have hX : T * vl x * 2 ^ (b + more + 1) = G * (2 * D) := by
    rw [← v1, hG, hD, Nat.pow_add, Nat.pow_add]
    simp only [Nat.mul_assoc, Nat.mul_comm, Nat.mul_left_comm, Nat.pow_one]
  obtain ⟨c, hc, hcn, hce⟩ : ∃ c, q2 * n ≤ 2 * D + c ∧ 2 * D ≤ q2 * n + c ∧ c ≤ n ∧ (D % n = 0 → c = 0) := by
    rcases Nat.eq_zero_or_pos (D % n) with h | h
    · have := hb0 h
      rw [this] at hqn
      exact ⟨0, by omega, by omega, by omega, fun _ => rfl⟩
    · refine ⟨n, ?_, ?_, Nat.le_refl _, fun h' => by omega⟩
      · omega
      · have : (D % n != 0).toNat = 1 := by
          have : (D % n != 0) = true := by simp; omega
          rw [this]; rfl
        rw [this] at hqn
        omega
  refine ⟨R, q2 * 2 ^ (1074 + a), 2 ^ (b + more + 1), G * c, ?_, h1, Nat.two_pow_pos _, ?_, ?_, ?_, ?_⟩
  · rw [h2, word_eq]; simp
  · rw [hV, hX, ← Nat.mul_add]; exact Nat.mul_le_mul_left _ hc
  · rw [hV, hX, ← Nat.mul_add]; exact Nat.mul_le_mul_left _ hcn
  · rw [hX, Nat.mul_assoc]
    refine Nat.mul_le_mul_left _ ?_
    have h5 : c * 9007199254740992 ≤ n * 9007199254740992 := Nat.mul_le_mul_right _ hce.1
    exact Nat.le_trans (Nat.le_trans h5 hDbig) (Nat.le_mul_of_pos_left _ (Nat.zero_lt_two))
  · intro h
    obtain ⟨h1, _⟩ := hxy h
    have : D % n = 0 := by rw [hD, h1]; exact Nat.mul_mod_right _ _
    rw [hce.2 this, Nat.mul_zero]
theorem t_pos {T n : Nat} (h : T = 2 ^ n) : 0 < T := by rw [h]; exact Nat.two_pow_pos n
theorem lin1 {A B e : Nat} (h4 : A ≤ B + e) (h6 : e * 9007199254740992 ≤ B) : 9007199254740992 * A ≤ 9007199254740993 * B := by omega
theorem lin2 {A B e : Nat} (h5 : B ≤ A + e) (h6 : e * 9007199254740992 ≤ B) : 9007199254740991 * B ≤ 9007199254740992 * A := by omega
theorem fi_pos {n : Nat} (hn : 0 < n) (h : n < 9007199254740992) : 0 < FI n := by
  rcases Nat.eq_zero_or_pos (FI n) with h1 | h1
  · exfalso
    have e := (FI_is h).1
    rw [h1, show vl 0 = 0 by decide] at e
    have := pp n 1074 hn
    rw [← e] at this
    exact absurd this (Nat.lt_irrefl 0)
  · exact h1
/-- A share of whole numbers: what is known of what is told. -/
theorem share_near {p q T : Nat} (hT : T = 2 ^ 1074) (hp : 0 < p) (hpq : p ≤ q) (hq : q ≤ 4294967294) :
    ∃ R V K, floatBits .quo .f64 (FI p) (FI q) = some (min R 9218868437227405312) ∧ NR V K R ∧ 0 < K ∧ 9007199254740992 * (V * q) ≤ 9007199254740993 * (T * p * K) ∧ 9007199254740991 * (T * p * K) ≤ 9007199254740992 * (V * q) ∧ (p = q → V * q = T * p * K) := by
  have b1 : p < 9007199254740992 := by clear hT; omega
  have b2 : q < 9007199254740992 := by clear hT; omega
  have b3 : 0 < q := by clear hT; omega
  have hF1 := FI_is b1
  have hF2 := FI_is b2
  have hTp : 0 < T := t_pos hT
  obtain ⟨R, V, K, e, h1, h2, h3, h4, h5, h6, h7⟩ := quo_near hT (FI_lt b1) (FI_lt b2) (fi_pos hp b1) (fi_pos b3 b2)
  rw [hF1.1, ← hT] at h4 h5 h6
  rw [hF2.1, ← hT] at h4 h5
  clear hF1 hF2
  have c1 : V * (q * T) = T * (V * q) := by rw [Nat.mul_comm q T, Nat.mul_left_comm]
  have c2 : T * (p * T) * K = T * (T * p * K) := by rw [Nat.mul_comm p T, Nat.mul_assoc]
  rw [c1, c2] at h4 h5
  rw [c2] at h6
  obtain ⟨A, hA⟩ : ∃ A, A = T * (V * q) := ⟨_, rfl⟩
  obtain ⟨B, hB⟩ : ∃ B, B = T * (T * p * K) := ⟨_, rfl⟩
  rw [← hA, ← hB] at h4 h5
  rw [← hB] at h6
  refine ⟨R, V, K, h1, h2, h3, ?_, ?_, fun he => ?_⟩
  · refine Nat.le_of_mul_le_mul_left ?_ hTp
    rw [Nat.mul_left_comm T 9007199254740992 (V * q), Nat.mul_left_comm T 9007199254740993 (T * p * K), ← hA, ← hB]
    exact lin1 h4 h6
  · refine Nat.le_of_mul_le_mul_left ?_ hTp
    rw [Nat.mul_left_comm T 9007199254740991 (T * p * K), Nat.mul_left_comm T 9007199254740992 (V * q), ← hA, ← hB]
    exact lin2 h5 h6
  · have e0 := h7 (by rw [he])
    rw [e0] at h4 h5
    clear hT
    refine Nat.eq_of_mul_eq_mul_left hTp ?_
    rw [← hA, ← hB]; exact Nat.le_antisymm h4 h5

/-- 2^1074, and what it is of. -/
theorem T_up (k j : Nat) (hk : k + j = 1074) {T : Nat} (hT : T = 2 ^ 1074) : T = 2 ^ k * 2 ^ j := by rw [← Nat.pow_add, hk, hT]
theorem pk19 {e c S : Nat} (h : 19 + e = c) (hS : S = 2 ^ c) : 9007199254216704 * 2 ^ e = 17179869183 * S := by
  subst h; rw [hS, Nat.pow_add, ← Nat.mul_assoc]
theorem pk17 {e c S : Nat} (h : 17 + e = c) (hS : S = 2 ^ c) : 4503599627501568 * 2 ^ e = 34359738369 * S := by
  subst h; rw [hS, Nat.pow_add, ← Nat.mul_assoc]
theorem vl_a {S : Nat} (hS : S = 2 ^ 1040) : vl (4607182418800017408 - 524288) = 17179869183 * S := by
  exact (congrArg vl (show (4607182418800017408 - 524288 : Nat) = 1021 * 4503599627370496 + 9007199254216704 by decide)).trans ((vl_at (e := 1021) (k := 9007199254216704) (by decide) (.inr (by decide))).trans (pk19 (e := 1021) (c := 1040) rfl hS))
theorem vl_b {S : Nat} (hS : S = 2 ^ 1039) : vl (4602678819172646912 - 524288) = 17179869183 * S := by
  exact (congrArg vl (show (4602678819172646912 - 524288 : Nat) = 1020 * 4503599627370496 + 9007199254216704 by decide)).trans ((vl_at (e := 1020) (k := 9007199254216704) (by decide) (.inr (by decide))).trans (pk19 (e := 1020) (c := 1039) rfl hS))
theorem vl_c {S : Nat} (hS : S = 2 ^ 1038) : vl (4602678819172646912 + 131072) = 34359738369 * S := by
  exact (congrArg vl (show (4602678819172646912 + 131072 : Nat) = 1021 * 4503599627370496 + 4503599627501568 by decide)).trans ((vl_at (e := 1021) (k := 4503599627501568) (by decide) (.inr (by decide))).trans (pk17 (e := 1021) (c := 1038) rfl hS))
theorem nl1 {V q p M : Nat} (hq : q ≤ 4294967294) (_ : 0 < M) (hpq : p + 1 ≤ q) (h : 9007199254740992 * (V * q) ≤ 9007199254740993 * (17179869184 * (p * M))) : V ≤ 17179869183 * M := by
  rcases Nat.lt_or_ge (17179869183 * M) V with hc | hc
  · exfalso
    have h1 : (17179869183 * M + 1) * q ≤ V * q := Nat.mul_le_mul_right _ hc
    have h2 : (p + 1) * M ≤ q * M := Nat.mul_le_mul_right _ hpq
    have h3 : q * M ≤ 4294967294 * M := Nat.mul_le_mul_right _ hq
    have h4 : (17179869183 * M + 1) * q = 17179869183 * (q * M) + q := by rw [Nat.add_mul, Nat.one_mul, Nat.mul_assoc, Nat.mul_comm M q]
    rw [Nat.add_mul, Nat.one_mul] at h2
    generalize q * M = A at *
    generalize p * M = B at *
    generalize V * q = C at *
    omega
  · exact hc
theorem nl2 {V q p M : Nat} (hq : q ≤ 4294967294) (_ : 0 < M) (hpq : q + 1 ≤ 2 * p) (h : 9007199254740991 * (68719476736 * (p * M)) ≤ 9007199254740992 * (V * q)) : 34359738369 * M ≤ V := by
  rcases Nat.lt_or_ge V (34359738369 * M) with hc | hc
  · exfalso
    have h1 : V * q ≤ 34359738369 * M * q := Nat.mul_le_mul_right _ (Nat.le_of_lt hc)
    have h2 : (q + 1) * M ≤ (2 * p) * M := Nat.mul_le_mul_right _ hpq
    have h3 : q * M ≤ 4294967294 * M := Nat.mul_le_mul_right _ hq
    rw [Nat.mul_assoc, Nat.mul_comm M q] at h1
    rw [Nat.add_mul, Nat.one_mul, Nat.mul_assoc] at h2
    generalize q * M = A at *
    generalize p * M = B at *
    generalize V * q = C at *
    omega
  · exact hc
theorem nl3 {V q p K : Nat} (hq : q ≤ 4294967294) (hK : 0 < K) (hp : 0 < p) (h : 9007199254740991 * (68719476736 * (p * K)) ≤ 9007199254740992 * (V * q)) : K ≤ V := by
  rcases Nat.lt_or_ge V K with hc | hc
  · exfalso
    have h1 : V * q ≤ K * q := Nat.mul_le_mul_right _ (Nat.le_of_lt hc)
    have h2 : 1 * K ≤ p * K := Nat.mul_le_mul_right _ hp
    have h3 : K * q ≤ K * 4294967294 := Nat.mul_le_mul_left _ hq
    generalize K * q = A at *
    generalize p * K = B at *
    generalize V * q = C at *
    omega
  · exact hc
theorem tpk (k j : Nat) (hk : k + j = 1074) {T S p K : Nat} (hT : T = 2 ^ 1074) (hS : S = 2 ^ j) : T * p * K = 2 ^ k * (p * (S * K)) := by
  rw [T_up k j hk hT, hS]
  simp only [Nat.mul_comm, Nat.mul_left_comm]
theorem tpk2 (k j : Nat) (hk : k + 1 + j = 1074) {T S p K : Nat} (hT : T = 2 ^ 1074) (hS : S = 2 ^ j) : T * p * K = 2 ^ k * (2 * p * (S * K)) := by
  rw [T_up (k + 1) j hk hT, hS, Nat.pow_succ]
  simp only [Nat.mul_comm, Nat.mul_left_comm, Nat.mul_assoc]
/-- What a share tells of its numbers. -/
theorem share_tells {p q r : Nat} (hpq : p ≤ q) (hq0 : 0 < q) (hq : q ≤ 4294967294) (h : floatBits .quo .f64 (FI p) (FI q) = some r) :
    (r = 0 → p = 0) ∧ (r = 4602678819172646912 → 2 * p = q) ∧ (r = 4607182418800017408 → p = q) ∧ (p = q → r = 4607182418800017408) ∧ (p = 0 → r = 0) := by
  rcases Nat.eq_zero_or_pos p with h0 | h0
  · subst h0
    have hb : q < 9007199254740992 := by omega
    obtain ⟨n, b, e2, v2, hn⟩ := read_pos (FI_lt hb)
    have hv : 0 < vl (FI q) := by have := vl_lt (fi_pos hq0 hb); omega
    have hn0 : n ≠ 0 := fun e => by rw [e, Nat.zero_mul] at v2; omega
    have hr : r = 0 := by
      have e1 : Ieee.double.read 0 = .number false 0 Ieee.double.leastPlace := by decide +kernel
      have h' : (((Ieee.double.read 0).quotient (Ieee.double.fractionBits + 2) (Ieee.double.read (FI q))).map Ieee.double.write = some r) := h
      rw [e1, e2] at h'
      simp [Ieee.Datum.quotient, if_neg hn0, Ieee.Format.write, Ieee.Format.nearest, word_eq] at h'
      exact h'.symm
    subst hr
    exact ⟨fun _ => rfl, fun h => absurd h (by decide), fun h => absurd h (by decide), fun h => absurd h (by omega), fun _ => rfl⟩
  · obtain ⟨T, hT⟩ : ∃ T : Nat, T = 2 ^ 1074 := ⟨_, rfl⟩
    obtain ⟨R, V, K, h1, h2, h3, h4, h5, h6⟩ := share_near hT h0 hpq hq
    rw [h1] at h
    have hr : r = min R 9218868437227405312 := (Option.some.inj h).symm
    clear h h1
    have p34 : (2 : Nat) ^ 34 = 17179869184 := by decide
    have p36 : (2 : Nat) ^ 36 = 68719476736 := by decide
    refine ⟨fun e => ?_, fun e => ?_, fun e => ?_, fun e => ?_, fun e => absurd e (Nat.pos_iff_ne_zero.1 h0)⟩
    · exfalso
      have hR : R = 0 := by clear hT h4 h5 h6; omega
      have hK : K ≤ V := by
        obtain ⟨S, hS⟩ : ∃ S : Nat, S = 2 ^ 1038 := ⟨_, rfl⟩
        rw [tpk 36 1038 rfl hT hS, p36] at h5
        have := nl3 (p := p) (K := S * K) hq (Nat.mul_pos (t_pos hS) h3) h0 h5
        exact Nat.le_trans (Nat.le_mul_of_pos_left _ (t_pos hS)) this
      have : 1 ≤ R := NR.ge h3 h2 (by rw [show vl 1 = 1 by decide, Nat.one_mul]; exact hK)
      clear hT h4 h5 h6; omega
    · have hR : R = 4602678819172646912 := by clear hT h4 h5 h6; omega
      rcases Nat.lt_trichotomy (2 * p) q with hc | hc | hc
      · exfalso
        have hle : R ≤ 4602678819172646912 - 524288 := by
          refine NR.le h3 h2 ?_
          obtain ⟨S, hS⟩ : ∃ S : Nat, S = 2 ^ 1039 := ⟨_, rfl⟩
          rw [vl_b hS, Nat.mul_assoc]
          rw [tpk2 34 1039 rfl hT hS, p34] at h4
          exact nl1 hq (Nat.mul_pos (t_pos hS) h3) hc h4
        clear hT h4 h5 h6; omega
      · exact hc
      · exfalso
        have hge : 4602678819172646912 + 131072 ≤ R := by
          refine NR.ge h3 h2 ?_
          obtain ⟨S, hS⟩ : ∃ S : Nat, S = 2 ^ 1038 := ⟨_, rfl⟩
          rw [vl_c hS, Nat.mul_assoc]
          rw [tpk 36 1038 rfl hT hS, p36] at h5
          exact nl2 hq (Nat.mul_pos (t_pos hS) h3) hc h5
        clear hT h4 h5 h6; omega
    · have hR : R = 4607182418800017408 := by clear hT h4 h5 h6; omega
      rcases Nat.lt_or_ge p q with hc | hc
      · exfalso
        have hle : R ≤ 4607182418800017408 - 524288 := by
          refine NR.le h3 h2 ?_
          obtain ⟨S, hS⟩ : ∃ S : Nat, S = 2 ^ 1040 := ⟨_, rfl⟩
          rw [vl_a hS, Nat.mul_assoc]
          rw [tpk 34 1040 rfl hT hS, p34] at h4
          exact nl1 hq (Nat.mul_pos (t_pos hS) h3) hc h4
        clear hT h4 h5 h6; omega
      · clear hT h4 h5 h6; omega
    · have h7 := h6 e
      have hR : R = ONE := by
        refine NR.uniq (K' := 1) h3 (by decide) h2 (NR.self (K := 1) (by decide) ONE) ?_
        rw [vl_ONE, ← hT, Nat.mul_one, Nat.mul_one]
        refine Nat.eq_of_mul_eq_mul_right h0 ?_
        rw [e] at h7 ⊢
        rw [h7]
        simp only [Nat.mul_comm, Nat.mul_left_comm]
      rw [hr, hR]; decide
end Go.Sts

namespace Go.Sts
open Go Go.Gv Go.Num Go.Scr Go.Flt Go.Mys Go.Dec
/-! ### the first texts -/
def TXT (L : List (List Ln)) : List (List Ln) := (L.take 8).map fun l => l.take 30
theorem txt_snoc {L : List (List Ln)} {i : Int} (h0 : 0 ≤ i) (hi : i < L.length) : (L.take i.toNat).map (fun l => l.take 30) ++ [(L.getD i.toNat []).take 30] = (L.take (i + 1).toNat).map (fun l => l.take 30) := by
  rw [Num.take_more [] h0 hi, List.map_append]; rfl
theorem txt_of {L : List (List Ln)} {i : Int} (h0 : 0 ≤ i) (h5 : i ≤ 8) (h : ¬ (i < L.length ∧ i < 8)) : (L.take i.toNat).map (fun l => l.take 30) = TXT L := by
  unfold TXT
  rcases Decidable.em (i < 8) with h1 | h1
  · rw [List.take_of_length_le (show L.length ≤ i.toNat by omega), List.take_of_length_le (show L.length ≤ 8 by omega)]
  · rw [show i.toNat = 8 by omega]
theorem txt_in {A : Option Addr} {c : Nat} {xs : List Ln} {w : World} (h : St No w (Rd eL (.slice A xs.length c) xs)) : St No w (Rd eL (.slice (if c = 0 then A else A.map (·.add (0 * 2))) ((min (xs.length : Int) 30).toNat - 0) (c - 0)) (xs.take 30)) := by
  have h2 := few_rd 30 h
  have e : (xs.take 30).length = (min (xs.length : Int) 30).toNat - 0 := by rw [List.length_take]; omega
  rw [e] at h2
  exact h2
theorem txt_bd {rows : List (SV × List Ln)} {L : List (List Ln)} (h : rows.map (·.2) = TXT L) : rows.length ≤ 8 ∧ ∀ p ∈ rows, p.2.length ≤ 30 := by
  refine ⟨?_, fun p hp => ?_⟩
  · have := congrArg List.length h
    unfold TXT at this
    rw [List.length_map, List.length_map, List.length_take] at this
    omega
  · have : p.2 ∈ TXT L := h ▸ List.mem_map.2 ⟨p, hp, rfl⟩
    unfold TXT at this
    obtain ⟨l, _, e⟩ := List.mem_map.1 this
    rw [← e, List.length_take]; omega
theorem rrat {rows : List (SV × List Ln)} {i : Int} (_ : 0 ≤ i) (_ : i < rows.length) : (rows.map (·.2)).getD i.toNat [] = (rows.getD i.toNat default).2 := by
  have hj : i.toNat < rows.length := by omega
  simp [List.getD, hj]
/-! ### what all changes come to -/
def CHD (l : List (Int × Int)) : Int := (l.map fun c => c.1 - c.2).sum
theorem CHD_at {l : List (Int × Int)} {i : Int} (h0 : 0 ≤ i) (h1 : i < l.length) : CHD (l.take (i + 1).toNat) = CHD (l.take i.toNat) + ((l.getD i.toNat (0, 0)).1 - (l.getD i.toNat (0, 0)).2) := by
  unfold CHD
  rw [Num.take_more (0, 0) h0 h1, List.map_append, List.sum_append]; simp
theorem CHD_chs : ∀ (L : List (List Ln)) (a : List Ln), (∀ t ∈ a :: L, t.length ≤ 400) → CHD (CHS (a :: L)) = (((a :: L).getLast?.getD []).length : Int) - a.length
  | [], a, _ => by simp [CHS, CHD]
  | b :: L, a, h => by
    have ih := CHD_chs L b (fun t ht => h t (.tail _ ht))
    have h1 := CHN_diff (a := a) (b := b) (h a (.head _)) (h b (.tail _ (.head _)))
    have e : CHD (CHS (a :: b :: L)) = ((CHN a b).1 - (CHN a b).2) + CHD (CHS (b :: L)) := by
      rw [CHS]; unfold CHD; rw [List.map_cons, List.sum_cons]
    rw [e, ih, h1, List.getLast?_cons_cons]
    omega
theorem chs_bd : ∀ (L : List (List Ln)), ∀ c ∈ CHS L, 0 ≤ c.1 ∧ c.1 ≤ 800 ∧ 0 ≤ c.2 ∧ c.2 ≤ 800
  | [], c, h => by cases h
  | [a], c, h => by cases h
  | a :: b :: L, c, h => by
    rw [CHS] at h
    rcases List.mem_cons.1 h with h | h
    · rw [h]; exact CHN_bd a b
    · exact chs_bd (b :: L) c h
theorem chr_bd {l : List (SV × List Ln)} : ∀ c ∈ CHR l, 0 ≤ c.1 ∧ c.1 ≤ 800 ∧ 0 ≤ c.2 ∧ c.2 ≤ 800 := fun c h => by
  unfold CHR at h
  split at h
  · cases h
  · exact chs_bd _ c h
theorem chr_len (l : List (SV × List Ln)) : (CHR l).length ≤ l.length := by
  unfold CHR
  split
  · simp
  · have := CHS_len (l.map (·.2)); rwa [List.length_map] at this
theorem che_cases (l : List (SV × List Ln)) : (LNG l ∧ CHE l = 4) ∨ (¬ LNG l ∧ CHE l = 0) := by
  unfold CHE
  by_cases h : LNG l
  · exact .inl ⟨h, if_pos h⟩
  · exact .inr ⟨h, if_neg h⟩
theorem chd_all {l : List (SV × List Ln)} (hn : ¬ LNG l) (h0 : 0 < l.length) : CHD (CHR l) = ((l.getD ((l.length : Int) - 1).toNat default).2.length : Int) - (l.getD (0 : Int).toNat default).2.length := by
  have hle : ∀ p ∈ l, p.2.length ≤ 400 := fun p hp => by
    obtain ⟨k, hk, e⟩ := List.mem_iff_getElem.1 hp
    refine Decidable.byContradiction fun hc => hn ⟨k, hk, ?_⟩
    rw [show l.getD k default = p by simp [List.getD, hk, e]]
    omega
  unfold CHR
  rw [if_neg hn]
  cases l with
  | nil => simp at h0
  | cons p r =>
    have h1 := CHD_chs (r.map (·.2)) p.2 (fun t ht => by
      rw [← List.map_cons (f := fun x : SV × List Ln => x.2)] at ht
      obtain ⟨q, hq, e⟩ := List.mem_map.1 ht
      rw [← e]; exact hle q hq)
    rw [List.map_cons, h1]
    have e1 : ((p :: r).getD (0 : Int).toNat default).2 = p.2 := rfl
    have e2 : ((p :: r).getD (((p :: r).length : Int) - 1).toNat default).2 = (p.2 :: r.map (·.2)).getLast?.getD [] := by
      rw [← List.map_cons (f := fun x : SV × List Ln => x.2), List.getLast?_map, List.getLast?_eq_getElem?]
      have : (((p :: r).length : Int) - 1).toNat = (p :: r).length - 1 := by omega
      rw [this, List.getD_eq_getElem?_getD]
      have hlt : (p :: r).length - 1 < (p :: r).length := by simp
      rw [List.getElem?_eq_getElem hlt]; rfl
    rw [e1, e2]
theorem chd_bd (l : List (Int × Int)) (h : ∀ c ∈ l, 0 ≤ c.1 ∧ c.1 ≤ 800 ∧ 0 ≤ c.2 ∧ c.2 ≤ 800) : -(800 * (l.length : Int)) ≤ CHD l ∧ CHD l ≤ 800 * l.length := by
  induction l with
  | nil => simp [CHD]
  | cons c l ih =>
    have := ih (fun c hc => h c (.tail _ hc))
    have h1 := h c (.head _)
    have e : CHD (c :: l) = (c.1 - c.2) + CHD l := by unfold CHD; rw [List.map_cons, List.sum_cons]
    rw [e, List.length_cons]
    omega
/-! ### bars -/
theorem MST_take_le (l : List (Int × Int)) : ∀ (_k : Nat) (n : Int), n ≤ l.foldl (fun n c => max n (c.1 + c.2)) n ∧ ∀ c ∈ l, c.1 + c.2 ≤ l.foldl (fun n c => max n (c.1 + c.2)) n := by
  intro _
  induction l with
  | nil => exact fun n => ⟨Int.le_refl _, fun c h => by cases h⟩
  | cons a l ih =>
    intro n
    have h := ih (max n (a.1 + a.2))
    rw [List.foldl_cons]
    refine ⟨by omega, fun c hc => ?_⟩
    rcases List.mem_cons.1 hc with hc | hc
    · subst hc; omega
    · exact h.2 c hc
theorem mst_ge {l : List (Int × Int)} {c : Int × Int} (h : c ∈ l) : c.1 + c.2 ≤ MST l := (MST_take_le l 0 0).2 c h
theorem mst_0 (l : List (Int × Int)) : 0 ≤ MST l := (MST_take_le l 0 0).1
def BARW (top : Int) (c : Int × Int) : Int := if top > 0 then 2 * (c.1 + c.2) / top else 0
theorem div_bd {x top : Int} (h0 : 0 ≤ x) (h1 : x ≤ top) (ht : 0 < top) : 0 ≤ 2 * x / top ∧ 2 * x / top ≤ 2 := by
  refine ⟨Int.ediv_nonneg (by omega) (by omega), ?_⟩
  exact Int.ediv_le_of_le_mul ht (by omega)
def BARL (top i : Int) (c : Int × Int) : ByteArray := DEC (i + 1) ++ ⟨#[32, 43]⟩ ++ DEC c.1 ++ ⟨#[32, 45]⟩ ++ DEC c.2 ++ ⟨#[32]⟩ ++ Rpt.RPB (BARW top c).toNat ++ ⟨#[10]⟩
def BARN (top : Int) (l : List (Int × Int)) : Nat → List Int
  | 0 => []
  | k + 1 => BARN top l k ++ bytesOf (BARL top k (l.getD k (0, 0)))
theorem BARN_at {top : Int} {l : List (Int × Int)} {i : Int} (h0 : 0 ≤ i) : BARN top l (i + 1).toNat = BARN top l i.toNat ++ bytesOf (BARL top i (l.getD i.toNat (0, 0))) := by
  rw [show (i + 1).toNat = i.toNat + 1 by omega]
  show BARN top l i.toNat ++ bytesOf (BARL top (i.toNat : Int) _) = _
  rw [Int.toNat_of_nonneg h0]
/-! ### shares -/
theorem frs_is {c : Int × Int} {r : Nat} (h : cn r = FRS c) (hr : RGT c) (h0 : ¬ c.1 + c.2 = 0) : ∃ p q : Nat, (p : Int) = c.1 ∧ (q : Int) = c.1 + c.2 ∧ floatBits .quo .f64 (FI p) (FI q) = some r ∧ r < 4607182418800017409 := by
  obtain ⟨⟨a0, a1⟩, b0, b1⟩ := hr
  obtain ⟨p, hp⟩ : ∃ p : Nat, (p : Int) = c.1 := ⟨c.1.toNat, by omega⟩
  obtain ⟨q, hq⟩ : ∃ q : Nat, (q : Int) = c.1 + c.2 := ⟨(c.1 + c.2).toNat, by omega⟩
  unfold FRS at h
  rw [if_pos ⟨⟨⟨a0, a1⟩, b0, b1⟩, h0⟩, ← hq, ← hp] at h
  have hF1 := FI_is (n := p) (by omega)
  have hF2 := FI_is (n := q) (by omega)
  have hlt : FI p ≤ FI q := by
    have : vl (FI p) ≤ vl (FI q) := by rw [hF1.1, hF2.1]; exact Nat.mul_le_mul_right _ (by omega)
    rcases Nat.lt_or_ge (FI q) (FI p) with h1 | h1
    · have := vl_lt h1; omega
    · exact h1
  have h0' : 0 < FI q := fi_pos (by omega) (by omega)
  obtain ⟨R, e1, hR⟩ := quo_le (FI_lt (n := p) (by omega)) (FI_lt (n := q) (by omega)) h0' hlt
  refine ⟨p, q, hp, hq, ?_, ?_⟩
  · rw [show floatBits .quo .f64 (floatOfInt .f64 (p : Int)) (floatOfInt .f64 (q : Int)) = some R from e1] at h
    rw [e1, (cn_some h).2]
  · rw [show floatBits .quo .f64 (floatOfInt .f64 (p : Int)) (floatOfInt .f64 (q : Int)) = some R from e1] at h
    have := (cn_some h).2
    have hR' : R ≤ 4607182418800017408 := hR
    omega
theorem shares_nan {c : Int × Int} {x y : Nat} (hx : cn x = FRS c) (hy : cn y = FRS (c.2, c.1)) : ((-9218868437227405312 ≤ sk x ∧ sk x ≤ 9218868437227405312) ↔ (-9218868437227405312 ≤ sk y ∧ sk y ≤ 9218868437227405312)) ∧ ((-9218868437227405312 ≤ sk x ∧ sk x ≤ 9218868437227405312) → 0 ≤ sk x ∧ sk x ≤ 4607182418800017408) := by
  have h1 := FRS_bd hx
  have h2 := FRS_bd hy
  unfold RGT at h1 h2
  simp only at h1 h2
  constructor
  · constructor
    · intro h; rcases h1 with h1 | h1
      · exact absurd h h1.2
      · rcases h2 with h2 | h2
        · exfalso; rcases h2.1 with h3 | h3
          · exact h3 ⟨h1.1.2, h1.1.1⟩
          · exact h1.2.1 (by omega)
        · omega
    · intro h; rcases h2 with h2 | h2
      · exact absurd h h2.2
      · rcases h1 with h1 | h1
        · exfalso; rcases h1.1 with h3 | h3
          · exact h3 ⟨h2.1.2, h2.1.1⟩
          · exact h2.2.1 (by omega)
        · omega
  · intro h; rcases h1 with h1 | h1
    · exact absurd h h1.2
    · omega
theorem sk_low {r : Nat} (h : r < 4607182418800017409) : sk r = r := by have := sk_cases r; omega
theorem shares_turn {c : Int × Int} {x y r : Nat} (hx : cn x = FRS c) (hy : cn y = FRS (c.2, c.1)) (h : sk x = 4602678819172646912 ∨ sk x = 0 ∨ sk x = 4607182418800017408) (hr : cn r = floatBits .add .f64 x y) : (-9218868437227405312 ≤ sk r ∧ sk r ≤ 9218868437227405312) ∧ sk r = 4607182418800017408 := by
  have h1 := FRS_bd hx
  have hok : RGT c ∧ ¬ c.1 + c.2 = 0 := by
    rcases h1 with h1 | h1
    · exact absurd (by omega) h1.2
    · exact ⟨h1.1, h1.2.1⟩
  obtain ⟨p, q, hp, hq, e1, l1⟩ := frs_is hx hok.1 hok.2
  obtain ⟨p', q', hp', hq', e2, l2⟩ := frs_is hy ⟨hok.1.2, hok.1.1⟩ (by simp only; omega)
  simp only at hp' hq'
  obtain ⟨⟨⟨a0, a1⟩, b0, b1⟩, h0⟩ := hok
  have t1 := share_tells (by omega) (by omega) (by omega) e1
  have t2 := share_tells (by omega) (by omega) (by omega) e2
  rw [sk_low l1] at h
  rcases h with h | h | h
  · have hx1 : x = 4602678819172646912 := by omega
    have h2 := t1.2.1 hx1
    have hpp : p = p' ∧ q = q' := by omega
    have hy1 : y = 4602678819172646912 := by
      rw [← hpp.1, ← hpp.2, e1] at e2
      rw [← Option.some.inj e2, hx1]
    subst hx1; subst hy1
    have := (cn_some (hr.trans (show floatBits .add .f64 4602678819172646912 4602678819172646912 = some 4607182418800017408 by decide +kernel))).2
    subst this; decide +kernel
  · have hx1 : x = 0 := by omega
    have h2 := t1.1 hx1
    have hy1 : y = 4607182418800017408 := t2.2.2.2.1 (by omega)
    subst hx1; subst hy1
    have := (cn_some (hr.trans (show floatBits .add .f64 0 4607182418800017408 = some 4607182418800017408 by decide +kernel))).2
    subst this; decide +kernel
  · have hx1 : x = 4607182418800017408 := by omega
    have h2 := t1.2.2.1 hx1
    have hy1 : y = 0 := t2.2.2.2.2 (by omega)
    subst hx1; subst hy1
    have := (cn_some (hr.trans (show floatBits .add .f64 4607182418800017408 0 = some 4607182418800017408 by decide +kernel))).2
    subst this; decide +kernel
theorem shr_mem {l : List (Int × Int)} {x : Nat} (h : x ∈ SHR l) : x < 4607182418800017409 := by
  unfold SHR at h
  obtain ⟨c, _, e⟩ := List.mem_filterMap.1 h
  have hc : cn x = FRS c := by
    rw [e]
    unfold FRS at e
    split at e
    · exact bits_ok e
    · cases e
  have h1 := FRS_bd hc
  rcases h1 with h1 | h1
  · have h2 : FRS c = none := by
      unfold FRS
      rw [if_neg (fun h3 => h1.1.elim (fun h4 => h4 h3.1) (fun h4 => h3.2 h4))]
    rw [h2] at e; cases e
  · exact (frs_is hc h1.1 h1.2.1).choose_spec.choose_spec.2.2.2
/-! ### means of what lies between 0 and 1 -/
theorem fsum_one {a b c d e n T : Nat} (h1 : b = n * T) (h2 : c = (n + 1) * T) (h3 : a ≤ b) (h4 : d ≤ e) (h5 : e = T) : a + d ≤ c * 1 := by
  rw [h2, Nat.mul_one, Nat.add_mul, Nat.one_mul, ← h1, ← h5]
  exact Nat.add_le_add h3 h4
theorem dbl {k e c : Nat} (h : e + 1 = c) : k * 2 ^ e * 2 = k * 2 ^ c := by subst h; rw [Nat.pow_succ, Nat.mul_assoc]
theorem vl_half2 : vl 4602678819172646912 * 2 = vl ONE :=
  (congrArg (fun t => t * 2) ((congrArg vl (show (4602678819172646912 : Nat) = 1021 * 4503599627370496 + 4503599627370496 by decide)).trans (vl_at (e := 1021) (k := 4503599627370496) (by decide) (.inr (by decide))))).trans ((dbl (k := 4503599627370496) (e := 1021) (c := 1022) rfl).trans
    ((congrArg vl (show (4607182418800017408 : Nat) = 1022 * 4503599627370496 + 4503599627370496 by decide)).trans (vl_at (e := 1022) (k := 4503599627370496) (by decide) (.inr (by decide)))).symm)
theorem fsum_in : ∀ (n : Nat) (l : List Nat), l.length = n → n ≤ 60 → (∀ x ∈ l, x < 4607182418800017409) → ∃ s, fsum l = some s ∧ s ≤ FI n
  | 0, l, h, _, _ => by
    obtain rfl := List.eq_nil_of_length_eq_zero h
    exact ⟨0, rfl, Nat.zero_le _⟩
  | n + 1, l, h, hn, hx => by
    have hne : l ≠ [] := fun e => by rw [e] at h; simp at h
    obtain ⟨l', x, rfl⟩ : ∃ l' x, l = l' ++ [x] := ⟨l.dropLast, l.getLast hne, (List.dropLast_concat_getLast hne).symm⟩
    obtain ⟨s, hs, hle⟩ := fsum_in n l' (by simpa using h) (by omega) (fun y hy => hx y (List.mem_append_left _ hy))
    have hxx := hx x (by simp)
    have hF := FI_is (n := n) (by omega)
    have hF1 := FI_is (n := n + 1) (by omega)
    have hFl := FI_lt (n := n) (by omega)
    have hFl1 := FI_lt (n := n + 1) (by omega)
    obtain ⟨R, e, hR⟩ := add_pos (x := s) (y := x) (Nat.lt_of_le_of_lt hle hFl) (Nat.lt_of_lt_of_le hxx (by decide))
    have hRle : R ≤ FI (n + 1 : Nat) := by
      refine NR.le (by decide) hR ?_
      exact fsum_one hF.1 hF1.1 (vl_le hle) (vl_le (show x ≤ ONE from Nat.lt_succ_iff.1 hxx)) vl_ONE
    refine ⟨min R 9218868437227405312, ?_, Nat.le_trans (Nat.min_le_left _ _) hRle⟩
    unfold fsum at hs ⊢
    rw [List.foldl_append, hs]
    exact e
theorem mean_none {m : Nat} {l : List Nat} (h0 : l = []) (h : cn m = MEAN l) : ¬ (-9218868437227405312 ≤ sk m ∧ sk m ≤ 9218868437227405312) := by
  subst h0
  exact cn_none (h.trans (by decide +kernel))
theorem mean_in {m : Nat} {l : List Nat} (hl : l.length ≤ 60) (h0 : l ≠ []) (hx : ∀ x ∈ l, x < 4607182418800017409) (h : cn m = MEAN l) : 0 ≤ sk m ∧ sk m ≤ 4607182418800017408 := by
  obtain ⟨s, hs, hle⟩ := fsum_in l.length l rfl hl hx
  have hp : 0 < l.length := List.length_pos_iff.2 h0
  have hFl := FI_lt (n := l.length) (by omega)
  obtain ⟨R, e, hR⟩ := quo_le (Nat.lt_of_le_of_lt hle hFl) hFl (fi_pos hp (by omega)) hle
  have e2 : MEAN l = some R := by unfold MEAN; rw [hs]; exact e
  have := (cn_some (h.trans e2)).2
  subst this
  have hR' : m < 4607182418800017409 := Nat.lt_succ_iff.2 hR
  rw [sk_low hR']; omega
theorem half_in {x a : Nat} (h : x < 4607182418800017409) (ha : cn a = floatBits .quo .f64 x 4611686018427387904) : a ≤ 4602678819172646912 := by
  obtain ⟨R, e, hR, _⟩ := hv_fin (x := x) (by omega)
  have hs : (x / 9223372036854775808 % 2 == 1) = false := by
    have : x / 9223372036854775808 = 0 := by omega
    rw [this]; rfl
  rw [hs] at e
  rw [Nat.mod_eq_of_lt (show x < 9223372036854775808 by omega)] at hR
  have := (cn_some (ha.trans e)).2
  rw [if_neg (by decide), Nat.zero_add] at this
  subst this
  refine NR.le (by decide) hR ?_
  have v := vl_le (show x ≤ ONE from Nat.lt_succ_iff.1 h)
  rw [vl_half2]; exact v
theorem med_in {m : Nat} {l : List Nat} (h0 : l ≠ []) (hx : ∀ x ∈ l, x < 4607182418800017409) (h : MEDN l m) : 0 ≤ sk m ∧ sk m ≤ 4607182418800017408 := by
  have hp : 0 < l.length := List.length_pos_iff.2 h0
  have hm : m < 4607182418800017409 → 0 ≤ sk m ∧ sk m ≤ 4607182418800017408 := fun h => by rw [sk_low h]; omega
  rcases h with ⟨h1, _⟩ | ⟨_, ys, hy, _, h2⟩
  · exfalso
    rcases h1 with h1 | h1
    · omega
    · obtain ⟨x, hx1, hx2⟩ := List.any_eq_true.1 h1
      have := sk_low (hx x hx1)
      have := hx x hx1
      have := of_decide_eq_true hx2
      omega
  · have hy' : ∀ y ∈ ys, y < 4607182418800017409 := fun y h => hx y (hy.mem_iff.1 h)
    have hln := hy.length_eq
    rcases h2 with ⟨h2, e⟩ | ⟨h2, a, b, ha, hb, hr⟩
    · exact hm (e ▸ hy' _ (getD_mem (by omega)))
    · have a1 := half_in (hy' _ (getD_mem (by omega))) ha
      have b1 := half_in (hy' _ (getD_mem (by omega))) hb
      obtain ⟨R, e, hR⟩ := add_pos (x := a) (y := b) (by omega) (by omega)
      have hRle : R ≤ ONE := by
        refine NR.le (by decide) hR ?_
        have v1 := vl_le a1
        have v2 := vl_le b1
        rw [Nat.mul_one, ← vl_half2, Nat.mul_two]; exact Nat.add_le_add v1 v2
      have := (cn_some (hr.trans e)).2
      have hmn : m < 4607182418800017409 := by
        rw [this]
        exact Nat.lt_succ_iff.2 (Nat.le_trans (Nat.min_le_left _ _) hRle)
      exact hm hmn
theorem med_none {m : Nat} {l : List Nat} (h0 : l = []) (h : MEDN l m) : ¬ (-9218868437227405312 ≤ sk m ∧ sk m ≤ 9218868437227405312) := by
  subst h0
  rcases h with ⟨_, h1⟩ | ⟨h1, _⟩
  · exact cn_none h1
  · exact absurd rfl h1.1
theorem shr_ne {l : List (Int × Int)} {i : Int} (h0 : 0 ≤ i) (h1 : i < l.length) {x : Nat} {s t : Bool} (hx : cn x = FRS (l.getD i.toNat (0, 0))) (q : s = true ↔ SHR (l.take i.toNat) ≠ []) (ht : t = true ↔ s = true ∨ (-9218868437227405312 ≤ sk x ∧ sk x ≤ 9218868437227405312)) : t = true ↔ SHR (l.take (i + 1).toNat) ≠ [] := by
  rw [SHR_at h0 h1, ht, q]
  show _ ↔ SHR (l.take i.toNat) ++ (FRS (l.getD i.toNat (0, 0))).toList ≠ []
  rw [← hx]
  by_cases hk : ok x
  · rw [cn_ok hk]
    simp only [Option.toList_some]
    exact ⟨fun _ => by simp, fun _ => .inr hk⟩
  · have hn : cn x = none := by
      cases hc : cn x with
      | none => rfl
      | some z => exact absurd (cn_some hc).1 hk
    rw [hn, Option.toList_none, List.append_nil]
    exact ⟨fun h => h.elim id (fun h => absurd h hk), .inl⟩
/-! ### what must be whatever is asked -/
abbrev L3 : List (List Ln) := [[(⟨#[97]⟩, false)], [(⟨#[97]⟩, false), (⟨#[98]⟩, false)], [(⟨#[98]⟩, false)]]
theorem live_chs : CHS L3 = [(1, 0), (0, 1)] := by decide +kernel
theorem live_chr {rows : List (SV × List Ln)} (h : rows.map (·.2) = L3) : CHR rows = [(1, 0), (0, 1)] ∧ CHE rows = 0 := by
  have hn : ¬ LNG rows := fun ⟨t, ht, hl⟩ => by
    have h1 : (rows.getD t default) ∈ rows := by
      rw [show rows.getD t default = rows[t] by simp [List.getD, ht]]
      exact List.getElem_mem ht
    have h2 : (rows.getD t default).2 ∈ L3 := h ▸ List.mem_map.2 ⟨_, h1, rfl⟩
    generalize (rows.getD t default).2 = z at *
    simp [L3] at h2
    rcases h2 with rfl | rfl | rfl <;> simp at hl
  unfold CHR CHE
  rw [if_neg hn, if_neg hn, h, live_chs]
  exact ⟨rfl, rfl⟩
theorem live_mean : MEAN (SHR [(1, 0), (0, 1)]) = some 4602678819172646912 := by decide +kernel
theorem dec0 : DEC 0 = strOfNums [48] := DEC_one (by omega) (by omega)
theorem dec1 : DEC 1 = strOfNums [49] := DEC_one (by omega) (by omega)
theorem dec2 : DEC 2 = strOfNums [50] := DEC_one (by omega) (by omega)
theorem live_bars : strOfNums (BARN 1 [(1, 0), (0, 1)] 2) = ⟨#[49, 32, 43, 49, 32, 45, 48, 32, 35, 35, 10, 50, 32, 43, 48, 32, 45, 49, 32, 35, 35, 10]⟩ := by
  have e : BARN 1 [(1, 0), (0, 1)] 2 = bytesOf (BARL 1 0 (1, 0)) ++ bytesOf (BARL 1 1 (0, 1)) := rfl
  rw [e]
  unfold BARL
  rw [show (0 : Int) + 1 = 1 by decide, show (1 : Int) + 1 = 2 by decide, dec0, dec1, dec2]
  decide +kernel
theorem live_mst : MST [(1, 0), (0, 1)] = 1 := by decide +kernel
end Go.Sts
