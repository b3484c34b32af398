/- As the walks of the document have it: plain. -/
import Derived.Test.YtjjilkibcomfcaaPaB
namespace Go.Pat
open Go.Gv Go.Itn Go.Mys
section
variable {a b : List Int} {out : List (Int × Int)} {i j k x y : Int}
theorem cut_all {a : List Int} {n : Nat} : (a.take a.length).drop n = a.drop n := by rw [List.take_length]
theorem pr_first (ha : 0 < a.length) (hb : 0 < b.length) (h : gI a 0 = gI b 0) : [(0, 0)] ++ mvd (PR ((a.take a.length).drop 1) ((b.take b.length).drop 1)) 1 1 = PR a b := by
  rw [cut_all, cut_all, PR_eq a b]; unfold pbody
  rw [if_neg (fun e => by rcases e with e | e <;> (subst e; simp at ha hb)), if_pos h]; rfl
theorem pr_last (ha : 0 < a.length) (hb : 0 < b.length) (h0 : ¬ gI a 0 = gI b 0) (h : gI a (a.length - 1) = gI b (b.length - 1)) : PR ((a.take ((a.length : Int) - 1).toNat).drop 0) ((b.take ((b.length : Int) - 1).toNat).drop 0) ++ [((a.length : Int) - 1, (b.length : Int) - 1)] = PR a b := by
  rw [List.drop_zero, List.drop_zero, PR_eq a b]; unfold pbody
  rw [if_neg (fun e => by rcases e with e | e <;> (subst e; simp at ha hb)), if_neg h0, if_pos h, show ((a.length : Int) - 1).toNat = a.length - 1 by omega, show ((b.length : Int) - 1).toNat = b.length - 1 by omega]
theorem apart_of (h0 : ¬ gI a 0 = gI b 0) (h : ¬ gI a (a.length - 1) = gI b (b.length - 1)) : Apart a b := .inr (.inr ⟨h0, h⟩)
theorem rs_0 (hap : Apart a b) (h : ¬ (ANC a b).length = 0) : ([] : List (Int × Int)) ++ seg PR a b ((ANC a b).drop (0 : Int).toNat) 0 0 = PR a b := by
  rw [PR_apart hap, if_neg (fun e => h (by rw [e]; rfl))]; rfl
theorem rs_step (h0 : 0 ≤ k) (h1 : k < (ANC a b).length) {R : List (Int × Int)} (h : out ++ seg PR a b ((ANC a b).drop k.toNat) x y = R) :
    ((out ++ mvd (PR ((a.take ((ANC a b).getD k.toNat (0, 0)).1.toNat).drop x.toNat) ((b.take ((ANC a b).getD k.toNat (0, 0)).2.toNat).drop y.toNat)) x y) ++ [(ANC a b).getD k.toNat (0, 0)]) ++ seg PR a b ((ANC a b).drop (k + 1).toNat) (((ANC a b).getD k.toNat (0, 0)).1 + 1) (((ANC a b).getD k.toNat (0, 0)).2 + 1) = R := by
  rw [← h, seg_at h0 h1]; simp [List.append_assoc]
theorem rs_fin (h1 : ((ANC a b).length : Int) ≤ k) {R : List (Int × Int)} (h : out ++ seg PR a b ((ANC a b).drop k.toNat) x y = R) : out ++ mvd (PR ((a.take a.length).drop x.toNat) ((b.take b.length).drop y.toNat)) x y = R := by
  rw [← h, seg_end h1, cut_all, cut_all]
variable {o : List Int} {n m : Nat} {p : List (Int × Int)}
theorem st_step (h0 : 0 ≤ k) (h1 : k < p.length) {R : List Int} (h : o ++ stp n m (p.drop k.toNat) x y = R) (hi : i = (p.getD k.toNat (0, 0)).1) (hj : j = (p.getD k.toNat (0, 0)).2) :
    (o ++ List.replicate (i - x).toNat 2 ++ List.replicate (j - y).toNat 3 ++ [1]) ++ stp n m (p.drop (k + 1).toNat) (i + 1) (j + 1) = R := by
  subst hi hj; rw [← h, stp_at h0 h1]; simp [List.append_assoc]
theorem st_fin (h1 : (p.length : Int) ≤ k) {R : List Int} (h : o ++ stp n m (p.drop k.toNat) x y = R) (hi : i = n) (hj : j = m) : o ++ List.replicate (i - x).toNat 2 ++ List.replicate (j - y).toNat 3 = R := by
  subst hi hj; rw [← h, stp_end h1, List.append_assoc]
theorem rep_snoc {c : Int} (h : 0 ≤ k) : List.replicate k.toNat c ++ [c] = List.replicate (k + 1).toNat c := by
  rw [show (k + 1).toNat = k.toNat + 1 by omega, List.replicate_succ']
end
theorem STP_len (a b : List Int) (ha : ¬ (a.length > 400 ∨ b.length > 400)) : STP a b = stp a.length b.length (PR a b) 0 0 := if_neg ha
end Go.Pat
namespace Go.Pat
open Go.Gv Go.Itn Go.Mys
theorem PRS_long {a b : List Int} (h : a.length > 400 ∨ b.length > 400) : PRS a b = [] := if_pos h
theorem STP_long {a b : List Int} (h : a.length > 400 ∨ b.length > 400) : STP a b = [] := if_pos h
theorem live27a : LNG [3, 1, 2] = [1, 2] := by decide +kernel
theorem live27b : PRS [1, 2] [2] = [(1, 0)] := by
  unfold PRS
  rw [if_neg (by decide), ← pr_last (a := [1, 2]) (b := [2]) (by decide) (by decide) (by decide) (by decide)]
  rw [PR_nil (.inr (by decide))]; rfl
theorem live27c : (STP [1] [2]).length = 2 := by
  unfold STP
  rw [if_neg (by decide), PR_apart (.inr (.inr ⟨by decide, by decide⟩)), if_pos (by decide +kernel)]
  have : prs (way [1] [2]) 0 0 = [] := List.eq_nil_of_length_eq_zero (by have := way_len _ [1] [2] 0 0 (Nat.le_refl _); simp [way, dist, prs] at this ⊢; try omega)
  rw [this]; rfl
/-! what is there once in both: its second places are not the same -/
theorem onc_at {a b : List Int} {t : Int} (h0 : 0 ≤ t) (h1 : t < (onc a b).length) : (onc a b).getD t.toNat (0, 0) ∈ onc a b := by
  have hlt : t.toNat < (onc a b).length := by omega
  simp only [List.getD, List.getElem?_eq_getElem hlt, Option.getD_some]; exact List.getElem_mem hlt
theorem onc_rise {a b : List Int} (h : ∀ t : Int, 1 ≤ t → t < (onc a b).length → ¬ ((onc a b).getD t.toNat (0, 0)).2 < ((onc a b).getD (t - 1).toNat (0, 0)).2) :
    ∀ t : Int, 0 < t → t < (onc a b).length → ((onc a b).getD (t - 1).toNat (0, 0)).2 < ((onc a b).getD t.toNat (0, 0)).2 := fun t h0 h1 => by
  have h2 := h t (by omega) h1
  have m1 := oncT_mem (a := a) (b := b) a.length _ (onc_at (t := t) (by omega) h1)
  have m2 := oncT_mem (a := a) (b := b) a.length _ (onc_at (t := t - 1) (by omega) (by omega))
  have hp : ((onc a b).getD (t - 1).toNat (0, 0)).1 < ((onc a b).getD t.toNat (0, 0)).1 := by
    have e1 : (t - 1).toNat < (onc a b).length := by omega
    have e2 : t.toNat < (onc a b).length := by omega
    simp only [List.getD, List.getElem?_eq_getElem e1, List.getElem?_eq_getElem e2, Option.getD_some]
    exact List.pairwise_iff_getElem.1 (oncT_pw (a := a) (b := b) a.length) _ _ e1 e2 (by omega)
  rcases Int.lt_trichotomy ((onc a b).getD (t - 1).toNat (0, 0)).2 ((onc a b).getD t.toNat (0, 0)).2 with h' | h' | h'
  · exact h'
  · exfalso
    have := two_places (b := a) (n := gI a ((onc a b).getD (t - 1).toNat (0, 0)).1) m2.1 hp m1.2.1 rfl (by rw [m1.2.2.2.2.2, ← h', m2.2.2.2.2.2])
    omega
  · exact absurd h' h2
theorem not_in {p : List (Int × Int)} {x : Int × Int} (h : ∀ t : Int, 0 ≤ t → t < p.length → ¬ ((p.getD t.toNat (0, 0)).1 = x.1 ∧ (p.getD t.toNat (0, 0)).2 = x.2)) : x ∉ p := fun hx => by
  obtain ⟨k, hk, e⟩ := List.mem_iff_getElem.1 hx
  refine h k (by omega) (by omega) ?_
  have e2 : p.getD (k : Int).toNat (0, 0) = x := by simp [List.getD, hk, e]
  rw [e2]; exact ⟨rfl, rfl⟩
theorem found_step {Q : Int → Prop} {k : Int} [Decidable (Q k)] (h : ∀ t : Int, 0 ≤ t → t < k → ¬ Q t) : decide (Q k) = true ∨ ∀ t : Int, 0 ≤ t → t < k + 1 → ¬ Q t := by
  by_cases hq : Q k
  · exact .inl (decide_eq_true hq)
  · exact .inr (all_step h hq)
theorem once_all {a b : List Int} (ha : a.length ≤ 400) (hb : b.length ≤ 400) (h1 : ¬ (efst a b : Int) + (elst a b : Int) > 0) (h : ∀ t : Int, 1 ≤ t → t < (onc a b).length → ¬ ((onc a b).getD t.toNat (0, 0)).2 < ((onc a b).getD (t - 1).toNat (0, 0)).2) {i : Int} (h0 : 0 ≤ i) (hi : i < (onc a b).length)
    (hn : ∀ t : Int, 0 ≤ t → t < (PRS a b).length → ¬ (((PRS a b).getD t.toNat (0, 0)).1 = ((onc a b).getD i.toNat (0, 0)).1 ∧ ((PRS a b).getD t.toNat (0, 0)).2 = ((onc a b).getD i.toNat (0, 0)).2)) : False := by
  have e : PRS a b = PR a b := if_neg (by omega)
  rw [e] at hn
  exact not_in hn (PR_once (by omega) (by omega) (onc_rise h) _ (onc_at h0 hi))
end Go.Pat
