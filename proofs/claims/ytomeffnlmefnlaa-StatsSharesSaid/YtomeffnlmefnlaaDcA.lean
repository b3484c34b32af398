/- A number's digits: plain. -/
import Derived.Test.YtomeffnlmefnlaaGvN
namespace Go.Dec
open Go Go.Gv
/-- The digits of a number, as bytes. -/
def dig (n : Nat) : List Int := if _h : n < 10 then [48 + (n : Int)] else dig (n / 10) ++ [48 + ((n % 10 : Nat) : Int)]
termination_by n
decreasing_by omega
theorem dig_lt {n : Nat} (h : n < 10) : dig n = [48 + (n : Int)] := by rw [dig, dif_pos h]
theorem dig_ge {n : Nat} (h : ¬ n < 10) : dig n = dig (n / 10) ++ [48 + ((n % 10 : Nat) : Int)] := by rw [dig, dif_neg h]
/-- A number's text. -/
def DEC (n : Int) : ByteArray := if n < 0 ∨ n > 2147483647 then strOfNums [63] else strOfNums (dig n.toNat)
theorem DEC_out {n : Int} (h : n < 0 ∨ n > 2147483647) : DEC n = strOfNums [63] := if_pos h
theorem DEC_in {n : Int} (h : ¬ (n < 0 ∨ n > 2147483647)) : DEC n = strOfNums (dig n.toNat) := if_neg h
theorem dig_len : ∀ (k n : Nat), n < 10 ^ (k + 1) → (dig n).length ≤ k + 1
  | 0, n, h => by rw [dig_lt (by omega)]; simp
  | k + 1, n, h => by
    by_cases hn : n < 10
    · rw [dig_lt hn]; simp
    · rw [dig_ge hn, List.length_append]
      have := dig_len k (n / 10) (by rw [Nat.pow_succ] at h; omega)
      simp only [List.length_cons, List.length_nil]; omega
theorem DEC_size (n : Int) : (DEC n).size ≤ 10 := by
  by_cases h : n < 0 ∨ n > 2147483647
  · rw [DEC_out h, str_size]; simp
  · rw [DEC_in h, str_size]
    exact dig_len 9 n.toNat (by have : (10 : Nat) ^ (9 + 1) = 10000000000 := by decide
                                omega)
/-- What has been written from behind, and what is left. -/
structure Wr (N : Int) (i n : Int) (b : List Int) : Prop where
  len : b.length = 10
  i0 : 0 ≤ i
  i1 : i ≤ 10
  n0 : 0 ≤ n
  n1 : n ≤ 2147483647
  bd : n.toNat < 10 ^ i.toNat
  ip : 0 < i
  eq : dig N.toNat = dig n.toNat ++ b.drop i.toNat
theorem lt10 {n : Nat} (h : n < 10000000000) : n < 10 ^ (10 : Int).toNat := by
  have : (10 : Nat) ^ (10 : Int).toNat = 10000000000 := by decide
  omega
theorem Wr.z {N : Int} (h0 : 0 ≤ N) (h1 : N ≤ 2147483647) {b : List Int} (hb : b.length = 10) : Wr N 10 N b :=
  ⟨hb, by omega, by omega, h0, h1, lt10 (by omega), by omega, by rw [show (10 : Int).toNat = b.length by omega, List.drop_length, List.append_nil]⟩
theorem drop_set {b : List Int} {k : Nat} (v : Int) (h : k < b.length) : (b.set k v).drop k = v :: b.drop (k + 1) := by
  rw [List.drop_eq_getElem_cons (by rw [List.length_set]; exact h), List.getElem_set_self, List.drop_set_of_lt (by omega)]
theorem Wr.more {N i n : Int} {b : List Int} (h : Wr N i n b) (hn : ¬ n / 10 = 0) : Wr N (i - 1) (n / 10) (b.set (i - 1).toNat (48 + n % 10)) := by
  have h10 : ¬ n.toNat < 10 := by have := h.n0; omega
  have hi := h.ip
  have hbd := h.bd
  obtain ⟨k, hk⟩ : ∃ k : Nat, i = (k : Int) + 1 := ⟨(i - 1).toNat, by omega⟩
  subst hk
  rw [show ((k : Int) + 1).toNat = k + 1 by omega, Nat.pow_succ] at hbd
  have hk0 : 0 < k := by
    rcases Nat.eq_zero_or_pos k with h0 | h0
    · subst h0; simp at hbd; omega
    · exact h0
  have hl := h.len
  have h1 := h.i1
  have h2 := h.n0
  have h3 := h.n1
  refine ⟨by rw [List.length_set]; exact hl, by omega, by omega, by omega, by omega, ?_, by omega, ?_⟩
  · rw [show ((k : Int) + 1 - 1).toNat = k by omega, show (n / 10).toNat = n.toNat / 10 by omega]
    exact Nat.div_lt_of_lt_mul (by rw [Nat.mul_comm]; exact hbd)
  · rw [h.eq, dig_ge h10, show ((k : Int) + 1 - 1).toNat = k by omega, drop_set _ (by omega), show ((k : Int) + 1).toNat = k + 1 by omega, show (n / 10).toNat = n.toNat / 10 by omega, List.append_assoc, List.singleton_append, show ((n.toNat % 10 : Nat) : Int) = n % 10 by omega]
theorem Wr.fin {N i n : Int} {b : List Int} (h : Wr N i n b) (hn : n / 10 = 0) : dig N.toNat = (b.set (i - 1).toNat (48 + n % 10)).drop (i - 1).toNat := by
  have h10 : n.toNat < 10 := by have := h.n0; omega
  have hi := h.ip
  have hl := h.len
  have h1 := h.i1
  have h2 := h.n0
  rw [h.eq, dig_lt h10, drop_set _ (by omega), show (i - 1).toNat + 1 = i.toNat by omega, show (48 : Int) + n % 10 = 48 + (n.toNat : Int) by omega]; rfl
theorem DEC_one {n : Int} (h0 : ¬ (n < 0 ∨ n > 2147483647)) (h : n < 10) : DEC n = strOfNums [48 + n] := by
  rw [DEC_in h0, dig_lt (by omega), show ((n.toNat : Nat) : Int) = n by omega]
theorem DEC_two {n : Int} (h0 : ¬ (n < 0 ∨ n > 2147483647)) (h : ¬ n < 10) : DEC n = DEC (n / 10) ++ strOfNums [48 + n % 10] := by
  rw [DEC_in h0, DEC_in (by omega), str_app, dig_ge (by omega), show (n / 10).toNat = n.toNat / 10 by omega, show ((n.toNat % 10 : Nat) : Int) = n % 10 by omega]
end Go.Dec
