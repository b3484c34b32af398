/- Rounding to the nearest word: what a word that is written says: plain. -/
import Derived.Test.YtomeffnlmefnlaaFlH
namespace Go.Flt
open Go Go.Gv
theorem vl_le {r s : Nat} (h : r ≤ s) : vl r ≤ vl s := by
  rcases Nat.lt_or_ge r s with h' | h'
  · exact Nat.le_of_lt (vl_lt h')
  · have : r = s := by omega
    rw [this]; exact Nat.le_refl _
/-- The rung that is nearest to V / K; between two, the even one. -/
structure NR (V K r : Nat) : Prop where
  lo : 0 < r → (vl (r - 1) + vl r) * K ≤ 2 * V
  hi : 2 * V ≤ (vl r + vl (r + 1)) * K
  lot : 0 < r → (vl (r - 1) + vl r) * K = 2 * V → r % 2 = 0
  hit : 2 * V = (vl r + vl (r + 1)) * K → r % 2 = 0
theorem NR.mono {V K V' K' r r' : Nat} (hK : 0 < K) (hK' : 0 < K') (h : NR V K r) (h' : NR V' K' r') (hv : V * K' ≤ V' * K) : r ≤ r' := by
  rcases Nat.lt_or_ge r' r with hlt | hge
  · exfalso
    have h1 := h.lo (by omega)
    have h2 := h'.hi
    have e1 := vl_le (show r' ≤ r - 1 by omega)
    have e2 := vl_le (show r' + 1 ≤ r by omega)
    have a1 : (vl (r - 1) + vl r) * K * K' ≤ 2 * V * K' := Nat.mul_le_mul_right _ h1
    have a2 : 2 * V' * K ≤ (vl r' + vl (r' + 1)) * K' * K := Nat.mul_le_mul_right _ h2
    have a3 : 2 * V * K' ≤ 2 * V' * K := by rw [Nat.mul_assoc, Nat.mul_assoc]; exact Nat.mul_le_mul_left _ hv
    have a4 : (vl r' + vl (r' + 1)) * K' * K = (vl r' + vl (r' + 1)) * (K * K') := by rw [Nat.mul_assoc, Nat.mul_comm K' K]
    have a5 : (vl (r - 1) + vl r) * K * K' = (vl (r - 1) + vl r) * (K * K') := Nat.mul_assoc _ _ _
    have hKK : 0 < K * K' := Nat.mul_pos hK hK'
    have a6 : (vl (r - 1) + vl r) * (K * K') ≤ (vl r' + vl (r' + 1)) * (K * K') := by omega
    have a7 : vl (r - 1) + vl r ≤ vl r' + vl (r' + 1) := Nat.le_of_mul_le_mul_right a6 hKK
    have hr : r' + 1 = r := by
      rcases Nat.lt_or_ge (r' + 1) r with h3 | h3
      · have := vl_lt h3; omega
      · omega
    subst hr
    have a8 : (vl (r' + 1 - 1) + vl (r' + 1)) * (K * K') = (vl r' + vl (r' + 1)) * (K * K') := by simp
    have t1 : (vl (r' + 1 - 1) + vl (r' + 1)) * K = 2 * V := Nat.eq_of_mul_eq_mul_right hK' (by omega)
    have t2 : 2 * V' = (vl r' + vl (r' + 1)) * K' := Nat.eq_of_mul_eq_mul_right hK (by omega)
    have := h.lot (by omega) t1
    have := h'.hit t2
    omega
  · exact hge
theorem NR.self {K : Nat} (hK : 0 < K) (r : Nat) : NR (vl r * K) K r := by
  have h2 := vl_lt (show r < r + 1 by omega)
  have hlo : 0 < r → (vl (r - 1) + vl r) * K < 2 * (vl r * K) := fun h => by
    have h1 := vl_lt (show r - 1 < r by omega)
    rw [show 2 * (vl r * K) = (2 * vl r) * K by rw [Nat.mul_assoc]]
    exact Nat.mul_lt_mul_of_pos_right (by omega) hK
  have hhi : 2 * (vl r * K) < (vl r + vl (r + 1)) * K := by
    rw [show 2 * (vl r * K) = (2 * vl r) * K by rw [Nat.mul_assoc]]
    exact Nat.mul_lt_mul_of_pos_right (by omega) hK
  exact ⟨fun h => Nat.le_of_lt (hlo h), Nat.le_of_lt hhi, fun h e => by have := hlo h; omega, fun e => by omega⟩
theorem NR.ge {V K r s : Nat} (hK : 0 < K) (h : NR V K s) (hv : vl r * K ≤ V) : r ≤ s := NR.mono (K := K) hK hK (NR.self hK r) h (Nat.mul_le_mul_right _ hv)
theorem NR.le {V K r s : Nat} (hK : 0 < K) (h : NR V K s) (hv : V ≤ vl r * K) : s ≤ r := NR.mono (K := K) hK hK h (NR.self hK r) (Nat.mul_le_mul_right _ hv)
theorem NR.uniq {V K V' K' r r' : Nat} (hK : 0 < K) (hK' : 0 < K') (h : NR V K r) (h' : NR V' K' r') (hv : V * K' = V' * K) : r = r' :=
  Nat.le_antisymm (NR.mono hK hK' h h' (Nat.le_of_eq hv)) (NR.mono hK' hK h' h (Nat.le_of_eq hv.symm))
/-! ### the cut -/
/-- k is n / G, rounded; between two, even. -/
structure RE (n G k : Nat) : Prop where
  lo : 2 * k * G ≤ 2 * n + G
  hi : 2 * n ≤ (2 * k + 1) * G
  lot : 2 * k * G = 2 * n + G → k % 2 = 0
  hit : 2 * n = (2 * k + 1) * G → k % 2 = 0
theorem RE.one (n : Nat) : RE n 1 n := ⟨by omega, by omega, fun h => by omega, fun h => by omega⟩
theorem RE.of (n G : Nat) (hG : 0 < G) : RE n G (n / G + (decide (G < 2 * (n % G)) || (G == 2 * (n % G) && n / G % 2 == 1)).toNat) := by
  have hdm := Nat.div_add_mod n G
  have hml := Nat.mod_lt n hG
  obtain ⟨q, hq⟩ : ∃ q, q = n / G := ⟨_, rfl⟩
  obtain ⟨t, ht⟩ : ∃ t, t = n % G := ⟨_, rfl⟩
  rw [← hq, ← ht] at hdm ⊢
  rw [← ht] at hml
  have e1 : G * q = q * G := Nat.mul_comm _ _
  have e3 : 2 * (q + 1) * G = 2 * (q * G) + 2 * G := by rw [Nat.mul_assoc, Nat.add_mul, Nat.mul_add, Nat.one_mul]
  have e4 : (2 * (q + 1) + 1) * G = 2 * (q * G) + 3 * G := by rw [Nat.add_mul, e3, Nat.one_mul]; omega
  have e5 : 2 * q * G = 2 * (q * G) := Nat.mul_assoc _ _ _
  have e6 : (2 * q + 1) * G = 2 * (q * G) + G := by rw [Nat.add_mul, e5, Nat.one_mul]
  rcases Nat.lt_or_ge G (2 * t) with h | h
  · rw [show (decide (G < 2 * t) || (G == 2 * t && q % 2 == 1)) = true by simp [h]]
    show RE n G (q + 1)
    exact ⟨by omega, by omega, fun _ => by omega, fun _ => by omega⟩
  · rcases Nat.lt_or_ge (2 * t) G with h' | h'
    · rw [show (decide (G < 2 * t) || (G == 2 * t && q % 2 == 1)) = false by simp; omega]
      show RE n G (q + 0)
      rw [Nat.add_zero]
      exact ⟨by omega, by omega, fun _ => by omega, fun _ => by omega⟩
    · have he : G = 2 * t := by omega
      rcases Nat.mod_two_eq_zero_or_one q with hp | hp
      · rw [show (decide (G < 2 * t) || (G == 2 * t && q % 2 == 1)) = false by simp [hp]; omega]
        show RE n G (q + 0)
        rw [Nat.add_zero]
        exact ⟨by omega, by omega, fun _ => by omega, fun _ => by omega⟩
      · rw [show (decide (G < 2 * t) || (G == 2 * t && q % 2 == 1)) = true by simp [hp, he]]
        show RE n G (q + 1)
        exact ⟨by omega, by omega, fun _ => by omega, fun _ => by omega⟩
theorem cut_RE (neg : Bool) (n drop : Nat) (hn : 0 < n) : RE n (2 ^ drop) (Ieee.Toward.even.cut neg n drop) := by
  have hlog := Nat.lt_log2_self (n := n)
  unfold Ieee.Toward.cut
  simp only [Nat.shiftLeft_eq, Nat.one_mul]
  rcases Nat.lt_or_ge (n.log2 + 2) drop with h | h
  · rw [Nat.min_eq_right (Nat.le_of_lt h)]
    have hp : 2 ^ (n.log2 + 2) = 2 * 2 ^ (n.log2 + 1) := by rw [show n.log2 + 2 = (n.log2 + 1) + 1 by omega, Nat.pow_succ]; omega
    have hlt : n < 2 ^ (n.log2 + 2) := by omega
    rw [Nat.div_eq_of_lt hlt, Nat.mod_eq_of_lt hlt]
    rw [show (decide (2 ^ (n.log2 + 2) < 2 * n) || (2 ^ (n.log2 + 2) == 2 * n && 0 % 2 == 1)) = false by simp; omega]
    show RE n (2 ^ drop) (0 + 0)
    have hp2 : 2 ^ (n.log2 + 2) ≤ 2 ^ drop := Nat.pow_le_pow_right (by omega) (by omega)
    exact ⟨by omega, by omega, fun _ => by omega, fun _ => by omega⟩
  · rw [Nat.min_eq_left h]
    exact RE.of n (2 ^ drop) (Nat.two_pow_pos _)
/-! ### rungs -/
theorem vl_at {e k : Nat} (hk : k ≤ 9007199254740992) (h : e = 0 ∨ 4503599627370496 ≤ k) : vl (e * 4503599627370496 + k) = k * 2 ^ e := by
  unfold vl
  rcases Nat.eq_zero_or_pos e with h0 | h0
  · subst h0
    rw [Nat.zero_mul, Nat.zero_add, Nat.pow_zero, Nat.mul_one]
    rcases Nat.lt_or_ge k 4503599627370496 with h1 | h1
    · rw [if_pos h1]
    · rw [if_neg (by omega)]
      rcases Nat.lt_or_ge k 9007199254740992 with h2 | h2
      · rw [show k / 4503599627370496 = 1 by omega, show k % 4503599627370496 = k - 4503599627370496 by omega]; omega
      · have : k = 9007199254740992 := by omega
        subst this; decide
  · have hk1 := h.resolve_left (by omega)
    rw [if_neg (by omega)]
    rcases Nat.lt_or_ge k 9007199254740992 with h2 | h2
    · rw [show (e * 4503599627370496 + k) / 4503599627370496 = e + 1 by omega, show (e * 4503599627370496 + k) % 4503599627370496 = k - 4503599627370496 by omega, show 4503599627370496 + (k - 4503599627370496) = k by omega, show e + 1 - 1 = e by omega]
    · have : k = 9007199254740992 := by omega
      subst this
      rw [show (e * 4503599627370496 + 9007199254740992) / 4503599627370496 = e + 2 by omega, show (e * 4503599627370496 + 9007199254740992) % 4503599627370496 = 0 by omega, show e + 2 - 1 = e + 1 by omega, Nat.pow_succ]
      omega
theorem vl_next {e k : Nat} (hk : k ≤ 9007199254740992) (h : e = 0 ∨ 4503599627370496 ≤ k) : (k + 1) * 2 ^ e ≤ vl (e * 4503599627370496 + k + 1) := by
  rcases Nat.lt_or_ge k 9007199254740992 with h2 | h2
  · have := vl_at (e := e) (k := k + 1) (by omega) (h.imp id fun h => by omega)
    rw [Nat.add_assoc, this]; exact Nat.le_refl _
  · have : k = 9007199254740992 := by omega
    subst this
    have := vl_at (e := e + 1) (k := 4503599627370497) (by omega) (.inr (by omega))
    rw [show (e + 1) * 4503599627370496 + 4503599627370497 = e * 4503599627370496 + 9007199254740992 + 1 by omega] at this
    rw [this, Nat.pow_succ]
    have := Nat.two_pow_pos e
    omega
theorem vl_prev {e k : Nat} (hk : k ≤ 9007199254740992) (h0 : 0 < k) (h : e = 0 ∨ 4503599627370496 < k) : vl (e * 4503599627370496 + k - 1) = (k - 1) * 2 ^ e := by
  have := vl_at (e := e) (k := k - 1) (by omega) (h.imp id fun h => by omega)
  rw [show e * 4503599627370496 + k - 1 = e * 4503599627370496 + (k - 1) by omega, this]
theorem canc {V G n E x : Nat} (hG : 0 < G) (hE : 0 < E) (h : V * G = n * E) : (x * G ≤ 2 * n ↔ x * E ≤ 2 * V) ∧ (2 * n ≤ x * G ↔ 2 * V ≤ x * E) := by
  have e1 : x * G * E = x * E * G := Nat.mul_right_comm _ _ _
  have e2 : 2 * n * E = 2 * V * G := by rw [Nat.mul_assoc, Nat.mul_assoc, h]
  refine ⟨⟨fun h1 => ?_, fun h1 => ?_⟩, ⟨fun h1 => ?_, fun h1 => ?_⟩⟩
  · have := Nat.mul_le_mul_right E h1; exact Nat.le_of_mul_le_mul_right (by omega : x * E * G ≤ 2 * V * G) hG
  · have := Nat.mul_le_mul_right G h1; exact Nat.le_of_mul_le_mul_right (by omega : x * G * E ≤ 2 * n * E) hE
  · have := Nat.mul_le_mul_right E h1; exact Nat.le_of_mul_le_mul_right (by omega : 2 * V * G ≤ x * E * G) hG
  · have := Nat.mul_le_mul_right G h1; exact Nat.le_of_mul_le_mul_right (by omega : 2 * n * E ≤ x * G * E) hE
/-- What is told of a rung: its binade, what is kept, and how that is rounded. -/
theorem NR_of {V G n E K e kept : Nat} (hG : 0 < G) (hK : 0 < K) (hE : E = 2 ^ e * K) (h : V * G = n * E) (hr : RE n G kept) (h53 : kept ≤ 9007199254740992) (he : e = 0 ∨ 4503599627370496 ≤ kept) (hbig : 0 < e → 4503599627370496 * G ≤ n) : NR V K (e * 4503599627370496 + kept) := by
  have hEp : 0 < E := by rw [hE]; exact Nat.mul_pos (Nat.two_pow_pos _) hK
  have c1 := vl_at h53 he
  have c2 := vl_next h53 he
  have hx : ∀ x : Nat, x * 2 ^ e * K = x * E := fun x => by rw [hE, Nat.mul_assoc]
  have hpar : (e * 4503599627370496 + kept) % 2 = kept % 2 := by omega
  have hlo : 0 < e * 4503599627370496 + kept → (vl (e * 4503599627370496 + kept - 1) + vl (e * 4503599627370496 + kept)) * K ≤ 2 * V ∧ ((vl (e * 4503599627370496 + kept - 1) + vl (e * 4503599627370496 + kept)) * K = 2 * V → kept % 2 = 0) := fun h0 => by
    have hk0 : 0 < kept := by omega
    by_cases hs : e = 0 ∨ 4503599627370496 < kept
    · have c3 := vl_prev h53 hk0 hs
      have e1 : (vl (e * 4503599627370496 + kept - 1) + vl (e * 4503599627370496 + kept)) * K = (2 * kept - 1) * E := by
        rw [c3, c1, ← Nat.add_mul, show kept - 1 + kept = 2 * kept - 1 by omega, hx]
      have h1 := hr.lo
      have e2 : (2 * kept - 1) * G + G = 2 * kept * G := by rw [show 2 * kept = (2 * kept - 1) + 1 by omega, Nat.add_mul, Nat.one_mul]; simp
      have c := canc (x := 2 * kept - 1) hG hEp h
      rw [e1]
      refine ⟨c.1.1 (by omega), fun h2 => hr.lot ?_⟩
      have := c.2.2 (by omega)
      have := c.1.2 (by omega)
      omega
    · have hk : kept = 4503599627370496 ∧ 0 < e := by omega
      have h1 := hbig hk.2
      have c := (canc (x := 2 * kept) hG hEp h).1.1 (by rw [hk.1, Nat.mul_assoc]; omega)
      have h2 := vl_lt (show e * 4503599627370496 + kept - 1 < e * 4503599627370496 + kept by omega)
      have h3 : (vl (e * 4503599627370496 + kept - 1) + vl (e * 4503599627370496 + kept)) * K < (vl (e * 4503599627370496 + kept) + vl (e * 4503599627370496 + kept)) * K := Nat.mul_lt_mul_of_pos_right (by omega) hK
      have h4 : (vl (e * 4503599627370496 + kept) + vl (e * 4503599627370496 + kept)) * K = 2 * kept * E := by rw [c1, ← Nat.add_mul, show kept + kept = 2 * kept by omega, hx]
      exact ⟨by omega, fun h5 => by omega⟩
  have hhi : (2 * kept + 1) * E ≤ (vl (e * 4503599627370496 + kept) + vl (e * 4503599627370496 + kept + 1)) * K := by
    rw [← hx]
    refine Nat.mul_le_mul_right _ ?_
    rw [show 2 * kept + 1 = kept + (kept + 1) by omega, Nat.add_mul]
    omega
  have ch := (canc (x := 2 * kept + 1) hG hEp h).2
  refine ⟨fun h0 => (hlo h0).1, Nat.le_trans (ch.1 hr.hi) hhi, fun h0 h1 => by rw [hpar]; exact (hlo h0).2 h1, fun h1 => ?_⟩
  rw [hpar]
  refine hr.hit (Nat.le_antisymm hr.hi ?_)
  have h2 := (canc (x := 2 * kept + 1) hG hEp h).1.2 (by omega)
  exact h2
theorem near_NR (neg : Bool) {m : Nat} (hm : 0 < m) (a k : Nat) : ∃ R, NR (m * 2 ^ a) (2 ^ k) R ∧ Ieee.double.nearest neg m (Ieee.double.leastPlace + (a : Int) - (k : Int)) = Ieee.double.word neg (min R 9218868437227405312) ∧ (m < 9007199254740992 → k = 0 → vl R = m * 2 ^ a) := by
  have hb : Ieee.double.binade = 4503599627370496 := by decide
  have hi : Ieee.double.infRung = 9218868437227405312 := by decide
  have hf : Ieee.double.fractionBits = 52 := rfl
  have hl : Ieee.double.leastPlace = -1074 := by decide
  have hlog1 := Nat.lt_log2_self (n := m)
  have hlog2 := Nat.log2_self_le (n := m) (by omega)
  unfold Ieee.Format.nearest
  rw [if_neg (by omega)]
  simp only [hb, hi, hf, hl, Nat.shiftLeft_eq]
  obtain ⟨L, hL⟩ : ∃ L, L = m.log2 := ⟨_, rfl⟩
  rw [← hL] at hlog1 hlog2 ⊢
  obtain ⟨p, hp⟩ : ∃ p : Int, p = -1074 + (a : Int) - (k : Int) := ⟨_, rfl⟩
  rw [← hp]
  obtain ⟨last, hlast⟩ : ∃ last : Int, last = max (p + (L : Int) - ((52 : Nat) : Int)) (-1074) := ⟨_, rfl⟩
  rw [← hlast]
  obtain ⟨e, he⟩ : ∃ e, e = (last - -1074).toNat := ⟨_, rfl⟩
  obtain ⟨up, hup⟩ : ∃ up, up = (p - last).toNat := ⟨_, rfl⟩
  obtain ⟨drop, hdrop⟩ : ∃ drop, drop = (last - p).toNat := ⟨_, rfl⟩
  rw [← he, ← hup, ← hdrop]
  have hpos : 0 < m * 2 ^ up := Nat.mul_pos hm (Nat.two_pow_pos _)
  obtain ⟨kept, hkept⟩ : ∃ kept, kept = Ieee.Toward.even.cut neg (m * 2 ^ up) drop := ⟨_, rfl⟩
  rw [← hkept]
  have hRE : RE (m * 2 ^ up) (2 ^ drop) kept := hkept ▸ cut_RE neg _ drop hpos
  have hV : m * 2 ^ a * 2 ^ drop = m * 2 ^ up * (2 ^ e * 2 ^ k) := by
    rw [Nat.mul_assoc, Nat.mul_assoc, ← Nat.pow_add, ← Nat.pow_add, ← Nat.pow_add, show a + drop = up + (e + k) by omega]
  have h1 : m * 2 ^ up < 9007199254740992 * 2 ^ drop := by
    have q1 : m * 2 ^ up < 2 ^ (L + 1) * 2 ^ up := Nat.mul_lt_mul_of_pos_right hlog1 (Nat.two_pow_pos _)
    have q2 : 2 ^ (L + 1) * 2 ^ up ≤ 2 ^ 53 * 2 ^ drop := by
      rw [← Nat.pow_add, ← Nat.pow_add]; exact Nat.pow_le_pow_right (by omega) (by omega)
    have q3 : (2 : Nat) ^ 53 = 9007199254740992 := by decide
    rw [q3] at q2
    omega
  have hbig : 0 < e → 4503599627370496 * 2 ^ drop ≤ m * 2 ^ up := fun h0 => by
    have q1 : 2 ^ L * 2 ^ up ≤ m * 2 ^ up := Nat.mul_le_mul_right _ hlog2
    have q2 : 2 ^ 52 * 2 ^ drop ≤ 2 ^ L * 2 ^ up := by
      rw [← Nat.pow_add, ← Nat.pow_add]; exact Nat.pow_le_pow_right (by omega) (by omega)
    have q3 : (2 : Nat) ^ 52 = 4503599627370496 := by decide
    rw [q3] at q2
    omega
  have hGp : 0 < 2 ^ drop := Nat.two_pow_pos _
  have h53 : kept ≤ 9007199254740992 := by
    have q := hRE.lo
    rcases Nat.lt_or_ge 9007199254740992 kept with hc | hc
    · have : 2 * 9007199254740993 * 2 ^ drop ≤ 2 * kept * 2 ^ drop := Nat.mul_le_mul_right _ (by omega)
      have e1 : 2 * 9007199254740993 * 2 ^ drop = 2 * (9007199254740992 * 2 ^ drop) + 2 * 2 ^ drop := by omega
      omega
    · exact hc
  have hk52 : e = 0 ∨ 4503599627370496 ≤ kept := by
    rcases Nat.eq_zero_or_pos e with h0 | h0
    · exact .inl h0
    · refine .inr ?_
      have q := hRE.hi
      have q2 := hbig h0
      rcases Nat.lt_or_ge kept 4503599627370496 with hc | hc
      · exfalso
        have : (2 * kept + 1) * 2 ^ drop ≤ (2 * 4503599627370496 - 1) * 2 ^ drop := Nat.mul_le_mul_right _ (by omega)
        have e1 : (2 * 4503599627370496 - 1) * 2 ^ drop + 2 ^ drop = 2 * (4503599627370496 * 2 ^ drop) := by omega
        omega
      · exact hc
  refine ⟨e * 4503599627370496 + kept, NR_of hGp (Nat.two_pow_pos _) rfl hV hRE h53 hk52 hbig, rfl, fun hm53 hk0 => ?_⟩
  rw [vl_at h53 hk52]
  have hd : drop = 0 := by
    have h53' : (2 : Nat) ^ 53 = 9007199254740992 := by decide
    have : L < 53 := (Nat.pow_lt_pow_iff_right (a := 2) (by omega)).1 (by rw [h53']; omega)
    omega
  have hk : kept = m * 2 ^ up := by
    rw [hd, Nat.pow_zero] at hRE
    have := hRE.lo; have := hRE.hi; omega
  rw [hk, Nat.mul_assoc, ← Nat.pow_add, show up + e = a by omega]
end Go.Flt
