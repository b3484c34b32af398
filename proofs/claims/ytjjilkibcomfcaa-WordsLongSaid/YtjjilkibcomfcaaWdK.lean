/- Words: lengths of what is written, bytes that are tokens of their own: plain. -/
import Derived.Test.YtjjilkibcomfcaaWdC
import Derived.Test.YtjjilkibcomfcaaBuA
namespace Go.Wds
open Go Go.Gv Go.Mys Go.Pat Go.Itn
theorem lit2 (a b : UInt8) : (⟨#[a, b]⟩ : ByteArray).size = 2 := rfl
theorem lit0 : (⟨#[]⟩ : ByteArray).size = 0 := rfl
theorem cat_sz (l : List ByteArray) {k : Int} (h0 : 0 ≤ k) (h1 : k < l.length) : (cat (l.take k.toNat)).size + (l.getD k.toNat ByteArray.empty).size ≤ (cat l).size := by
  have e := cat_at (l := l) h0 h1
  have h : ∀ (r p : List ByteArray), (cat p).size ≤ (cat (p ++ r)).size := by
    intro r
    induction r with
    | nil => intro p; rw [List.append_nil]; exact Nat.le_refl _
    | cons x r ih =>
      intro p
      have := ih (p ++ [x])
      rw [cat_snoc, ByteArray.size_append, List.append_assoc] at this
      have e2 : p ++ x :: r = p ++ ([x] ++ r) := rfl
      rw [e2]; omega
  have := h (l.drop (k + 1).toNat) (l.take (k + 1).toNat)
  rw [List.take_append_drop, e, ByteArray.size_append] at this
  exact this
theorem whl_tt {a b : ByteArray} (ha : ¬ a = ⟨#[]⟩) (hb : ¬ b = ⟨#[]⟩) : [((2 : Int), a), (3, b)] = WHL a b := by unfold WHL; rw [if_neg ha, if_neg hb]; rfl
theorem whl_tf {a b : ByteArray} (ha : ¬ a = ⟨#[]⟩) (hb : b = ⟨#[]⟩) : [((2 : Int), a)] = WHL a b := by unfold WHL; rw [if_neg ha, if_pos hb]; rfl
theorem whl_ft {a b : ByteArray} (ha : a = ⟨#[]⟩) (hb : ¬ b = ⟨#[]⟩) : [((3 : Int), b)] = WHL a b := by unfold WHL; rw [if_pos ha, if_neg hb]; rfl
theorem whl_ff {a b : ByteArray} (ha : a = ⟨#[]⟩) (hb : b = ⟨#[]⟩) : ([] : List Bt) = WHL a b := by unfold WHL; rw [if_pos ha, if_pos hb]; rfl
theorem mrk2 {l : List Bt} {i : Int} (h0 : 0 ≤ i) (h1 : i < l.length) (h : (gB l i).1 = 2) : MRKB (l.take (i + 1).toNat) = MRKB (l.take i.toNat) ++ ((⟨#[91, 45]⟩ ++ (gB l i).2) ++ ⟨#[45, 93]⟩) := by rw [MRKB_at h0 h1]; unfold DECB; rw [if_pos h]
theorem mrk3 {l : List Bt} {i : Int} (h0 : 0 ≤ i) (h1 : i < l.length) (h2 : ¬ (gB l i).1 = 2) (h : (gB l i).1 = 3) : MRKB (l.take (i + 1).toNat) = MRKB (l.take i.toNat) ++ ((⟨#[123, 43]⟩ ++ (gB l i).2) ++ ⟨#[43, 125]⟩) := by rw [MRKB_at h0 h1]; unfold DECB; rw [if_neg h2, if_pos h]
theorem mrk1 {l : List Bt} {i : Int} (h0 : 0 ≤ i) (h1 : i < l.length) (h2 : ¬ (gB l i).1 = 2) (h : ¬ (gB l i).1 = 3) : MRKB (l.take (i + 1).toNat) = MRKB (l.take i.toNat) ++ (gB l i).2 := by rw [MRKB_at h0 h1]; unfold DECB; rw [if_neg h2, if_neg h]
theorem tks_many {s : ByteArray} {m : Nat} (h : ∀ j : Int, (m : Int) ≤ j → j < s.size → KD (gI (bytesOf s) j) = 3) : ∀ k : Nat, m + k ≤ s.size → k ≤ (TKS s (m + k)).1.length
  | 0, _ => Nat.zero_le _
  | k + 1, hk => by
    have ih := tks_many h k (by omega)
    have e := tks_yes (s := s) (i := ((m + k : Nat) : Int)) (fr := ((TKS s (m + k)).2 : Int)) (out := (TKS s (m + k)).1) (by omega) (.inr (.inl (h _ (by omega) (by omega)))) (by rw [Int.toNat_natCast, Int.toNat_natCast])
    rw [show (((m + k : Nat) : Int) + 1).toNat = m + (k + 1) by omega] at e
    rw [e]; simp only [List.length_append, List.length_cons, List.length_nil]; omega
/-- What is put behind, again and again. -/
def RPT (s : ByteArray) (m : Nat) (c : Int) (k : Int) : Prop := (s.size : Int) = m + k ∧ ∀ j : Int, (m : Int) ≤ j → j < s.size → gI (bytesOf s) j = c
theorem RPT.z (s : ByteArray) (c : Int) : RPT s s.size c 0 := ⟨by omega, fun j h h2 => by omega⟩
theorem RPT.step {s : ByteArray} {m : Nat} {c k : Int} (h : RPT s m c k) {t : ByteArray} (ht : bytesOf t = [c]) : RPT (s ++ t) m c (k + 1) := by
  have hz : t.size = 1 := by have := congrArg List.length ht; rwa [bytesOf_len] at this
  have hs := h.1
  refine ⟨by rw [ByteArray.size_append]; omega, fun j h0 h1 => ?_⟩
  rw [ByteArray.size_append] at h1
  unfold gI
  rw [bytesOf_app, List.getD_eq_getElem?_getD]
  by_cases hj : j < s.size
  · rw [List.getElem?_append_left (by rw [bytesOf_len]; omega), ← List.getD_eq_getElem?_getD]
    exact h.2 j h0 hj
  · rw [List.getElem?_append_right (by rw [bytesOf_len]; omega), ht, bytesOf_len, show j.toNat - s.size = 0 by omega]; rfl
theorem RPT.long {s : ByteArray} {m : Nat} {c k : Int} (h : RPT s m c k) (hk : KD c = 3) (h4 : 400 < k) : (TOK s).length > 400 := by
  have hs := h.1
  have := tks_many (s := s) (m := m) (fun j h0 h1 => by rw [h.2 j h0 h1]; exact hk) k.toNat (by omega)
  unfold TOK
  rw [show m + k.toNat = s.size by omega] at this
  omega
theorem strOf1 {c : Int} (h0 : 0 ≤ c) (h1 : c ≤ 255) : bytesOf (strOfNums [c]) = [c] := bytesOf_lit c h0 h1
theorem strOf_sz (c : Int) : (strOfNums [c]).size = 1 := rfl
theorem edt_long {a b : ByteArray} (h : (TOK a).length > 400 ∨ (TOK b).length > 400) : EDT a b = [] := by unfold EDT; rw [if_pos h]
end Go.Wds
