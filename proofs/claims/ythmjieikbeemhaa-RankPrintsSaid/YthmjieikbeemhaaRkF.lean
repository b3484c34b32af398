/- Likenesses of texts: plain. -/
import Derived.Test.YthmjieikbeemhaaRkA
namespace Go.Rnk
open Go Go.Gv Go.Flt Go.Mys Go.Num Go.Scr Go.Dec
/-- The likenesses of the first n texts. -/
structure KLn (ls : List (List Ln)) (b : List Ln) (L : List (Int × Nat)) (n : Int) : Prop where
  len : (L.length : Int) = n
  at_ : ∀ t : Int, 0 ≤ t → t < n → (L.getD t.toNat (0, 0)).1 = t ∧ cn (L.getD t.toNat (0, 0)).2 = LIK (ls.getD t.toNat []) b ∧ (L.getD t.toNat (0, 0)).2 < 18446744073709551616
abbrev KL (ls : List (List Ln)) (b : List Ln) (L : List (Int × Nat)) : Prop := KLn ls b L ls.length
theorem KLn.z (ls : List (List Ln)) (b : List Ln) : KLn ls b [] 0 := ⟨rfl, fun t h0 h1 => by omega⟩
theorem KLn.snoc {ls : List (List Ln)} {b : List Ln} {L : List (Int × Nat)} {n : Int} {r : Nat} (h : KLn ls b L n) (h0 : 0 ≤ n) (_ : n < ls.length) (hr : cn r = LIK (ls.getD n.toNat []) b) (hw : r < 18446744073709551616) : KLn ls b (L ++ [(n, r)]) (n + 1) := by
  have hl := h.len
  refine ⟨by simp; omega, fun t t0 t1 => ?_⟩
  by_cases hc : t < n
  · have e : (L ++ [(n, r)]).getD t.toNat (0, 0) = L.getD t.toNat (0, 0) := by
      rw [List.getD_eq_getElem?_getD, List.getElem?_append_left (by omega), List.getD_eq_getElem?_getD]
    rw [e]; exact h.at_ t t0 hc
  · have ht : t = n := by omega
    subst ht
    have e : (L ++ [(t, r)]).getD t.toNat (0, 0) = (t, r) := by
      rw [List.getD_eq_getElem?_getD, List.getElem?_append_right (by omega), show t.toNat - L.length = 0 by omega]; rfl
    rw [e]; exact ⟨rfl, hr, hw⟩
theorem KLn.fin {ls : List (List Ln)} {b : List Ln} {L : List (Int × Nat)} {n : Int} (h : KLn ls b L n) (hn : n = ls.length) : KL ls b L := by subst hn; exact h
theorem mem_getD {β : Type} {l : List β} {x d : β} (h : x ∈ l) : ∃ t : Int, 0 ≤ t ∧ t < l.length ∧ l.getD t.toNat d = x := by
  obtain ⟨i, hi, e⟩ := List.mem_iff_getElem.1 h
  exact ⟨(i : Int), by omega, by omega, by rw [Int.toNat_natCast, List.getD_eq_getElem?_getD, List.getElem?_eq_getElem hi, Option.getD_some, e]⟩
theorem KLn.w6 {ls : List (List Ln)} {b : List Ln} {L : List (Int × Nat)} {n : Int} (h : KLn ls b L n) : ∀ x ∈ L, x.2 < 18446744073709551616 := fun x hx => by
  obtain ⟨t, t0, t1, e⟩ := mem_getD (d := (0, 0)) hx
  rw [← e]; exact (h.at_ t t0 (by have := h.len; omega)).2.2
theorem rr_at2 {rows : List (SV × List Ln)} {i : Int} (_ : i < rows.length) : (rows.map (·.2)).getD i.toNat [] = (rows.getD i.toNat default).2 := by
  rw [List.getD_eq_getElem?_getD, List.getElem?_map, List.getD_eq_getElem?_getD]
  cases rows[i.toNat]? with
  | none => rfl
  | some p => rfl
/-! ### one order -/
def kyK (p : Int × Nat) : Int := nkk p.2 * 1000000 + p.1
theorem nkk_tk {a b : Nat} (h : nkk a = nkk b) : tk a = tk b := by
  have h1 := nkk_is a
  have h2 := nkk_is b
  omega
theorem tk_nkk {a b : Nat} (h : tk a = tk b) : nkk a = nkk b := by unfold nkk; rw [h]
theorem ext_getD {β : Type} {l m : List β} (d : β) (hl : l.length = m.length) (h : ∀ t : Int, 0 ≤ t → t < l.length → l.getD t.toNat d = m.getD t.toNat d) : l = m := by
  apply List.ext_getElem hl
  intro i h1 h2
  have := h (i : Int) (by omega) (by omega)
  rw [Int.toNat_natCast, List.getD_eq_getElem?_getD, List.getD_eq_getElem?_getD, List.getElem?_eq_getElem h1, List.getElem?_eq_getElem h2, Option.getD_some, Option.getD_some] at this
  exact this
theorem getD_map {β γ : Type} (f : β → γ) {l : List β} {t : Int} (d : β) (h0 : 0 ≤ t) (h1 : t < l.length) : (l.map f).getD t.toNat (f d) = f (l.getD t.toNat d) := by
  rw [List.getD_eq_getElem?_getD, List.getElem?_map, List.getD_eq_getElem?_getD, List.getElem?_eq_getElem (show t.toNat < l.length by omega)]; rfl
theorem kl_ky {ls : List (List Ln)} {b : List Ln} {L L' : List (Int × Nat)} (h : KL ls b L) (h' : KL ls b L') : L.map kyK = L'.map kyK := by
  have l1 := h.len
  have l2 := h'.len
  refine ext_getD (kyK (0, 0)) (by rw [List.length_map, List.length_map]; omega) fun t t0 t1 => ?_
  rw [List.length_map] at t1
  rw [getD_map kyK (0, 0) t0 (by omega), getD_map kyK (0, 0) t0 (by omega)]
  have a1 := h.at_ t t0 (by omega)
  have a2 := h'.at_ t t0 (by omega)
  unfold kyK
  rw [a1.1, a2.1, tk_nkk (tk_cn (a1.2.1.trans a2.2.1.symm))]
theorem kl_bd {ls : List (List Ln)} {b : List Ln} {L ys : List (Int × Nat)} (h : KL ls b L) (hp : ys.Perm L) (hl : ls.length ≤ 1000) : ∀ x ∈ ys, 0 ≤ x.1 ∧ x.1 < 1000000 := fun x hx => by
  obtain ⟨t, t0, t1, e⟩ := mem_getD (d := (0, 0)) (hp.mem_iff.1 hx)
  have l1 := h.len
  have := (h.at_ t t0 (by omega)).1
  rw [e] at this; omega
theorem srk_ky {ys : List (Int × Nat)} (h : SRK ys) (hb : ∀ x ∈ ys, 0 ≤ x.1 ∧ x.1 < 1000000) : (ys.map kyK).Pairwise (· ≤ ·) := by
  rw [List.pairwise_map, List.pairwise_iff_getElem]
  intro i j hi hj hij
  have h1 := (List.pairwise_iff_getElem.1 h) i j hi hj hij
  have b1 := hb ys[i] (List.getElem_mem hi)
  have b2 := hb ys[j] (List.getElem_mem hj)
  have l1 := lcf_is ys[j] ys[i]
  have c1 := cmpi_is ys[j].1 ys[i].1
  unfold kyK
  omega
theorem srt_uniq {ls : List (List Ln)} {b : List Ln} {L L' ys zs : List (Int × Nat)} (hl : ls.length ≤ 1000) (h : KL ls b L) (h' : KL ls b L') (p : ys.Perm L) (p' : zs.Perm L') (s : SRK ys) (s' : SRK zs) :
    ys.length = zs.length ∧ ∀ t : Int, 0 ≤ t → t < ys.length → (ys.getD t.toNat (0, 0)).1 = (zs.getD t.toNat (0, 0)).1 ∧ tk (ys.getD t.toNat (0, 0)).2 = tk (zs.getD t.toNat (0, 0)).2 := by
  have b1 := kl_bd h p hl
  have b2 := kl_bd h' p' hl
  have e : ys.map kyK = zs.map kyK := isort_eq ((p.map kyK).trans (kl_ky h h' ▸ (p'.map kyK).symm)) (srk_ky s b1) (srk_ky s' b2)
  have le : ys.length = zs.length := by have := congrArg List.length e; rwa [List.length_map, List.length_map] at this
  refine ⟨le, fun t t0 t1 => ?_⟩
  have q := getD_map kyK (0, 0) t0 t1
  rw [e, getD_map kyK (0, 0) t0 (by omega)] at q
  have c1 := b1 (ys.getD t.toNat (0, 0)) (getD_mem (by omega))
  have c2 := b2 (zs.getD t.toNat (0, 0)) (getD_mem (by omega))
  unfold kyK at q
  exact ⟨by omega, nkk_tk (by omega)⟩
/-- The nearest one. -/
def NRS (ls : List (List Ln)) (b : List Ln) (k : Int) (is : Bool) : Prop := ∃ ys L : List (Int × Nat), KL ls b L ∧ ys.Perm L ∧ SRK ys ∧
  (((ys.length = 0 ∨ ¬ (-9218868437227405312 ≤ sk (ys.getD (0 : Int).toNat (0, 0)).2 ∧ sk (ys.getD (0 : Int).toNat (0, 0)).2 ≤ 9218868437227405312)) ∧ k = 0 ∧ is = false) ∨
   ((ys.length ≠ 0 ∧ (-9218868437227405312 ≤ sk (ys.getD (0 : Int).toNat (0, 0)).2 ∧ sk (ys.getD (0 : Int).toNat (0, 0)).2 ≤ 9218868437227405312)) ∧ k = (ys.getD (0 : Int).toNat (0, 0)).1 ∧ is = true))
theorem tk_ok {a b : Nat} (h : tk a = tk b) : (-9218868437227405312 ≤ sk a ∧ sk a ≤ 9218868437227405312) ↔ (-9218868437227405312 ≤ sk b ∧ sk b ≤ 9218868437227405312) := by
  have h1 := tk_is a
  have h2 := tk_is b
  omega
theorem NRS.val {ls : List (List Ln)} {b : List Ln} {k : Int} {is : Bool} {zs L' : List (Int × Nat)} (hn : NRS ls b k is) (hl : ls.length ≤ 1000) (h' : KL ls b L') (p' : zs.Perm L') (s' : SRK zs) :
    ((zs.length = 0 ∨ ¬ (-9218868437227405312 ≤ sk (zs.getD (0 : Int).toNat (0, 0)).2 ∧ sk (zs.getD (0 : Int).toNat (0, 0)).2 ≤ 9218868437227405312)) ∧ k = 0 ∧ is = false) ∨
   ((zs.length ≠ 0 ∧ (-9218868437227405312 ≤ sk (zs.getD (0 : Int).toNat (0, 0)).2 ∧ sk (zs.getD (0 : Int).toNat (0, 0)).2 ≤ 9218868437227405312)) ∧ k = (zs.getD (0 : Int).toNat (0, 0)).1 ∧ is = true) := by
  obtain ⟨ys, L, h, p, s, hh⟩ := hn
  obtain ⟨e, q⟩ := srt_uniq hl h h' p p' s s'
  rcases hh with ⟨h1, h2, h3⟩ | ⟨h1, h2, h3⟩
  · refine .inl ⟨?_, h2, h3⟩
    rcases Nat.eq_zero_or_pos zs.length with h4 | h4
    · exact .inl h4
    · have q0 := q 0 (by omega) (by omega)
      have := tk_ok q0.2
      exact .inr (fun h5 => (h1.resolve_left (by omega)) (this.2 h5))
  · have q0 := q 0 (by omega) (by omega)
    have := tk_ok q0.2
    exact .inr ⟨⟨by omega, this.1 h1.2⟩, h2.trans q0.1, h3⟩
end Go.Rnk
