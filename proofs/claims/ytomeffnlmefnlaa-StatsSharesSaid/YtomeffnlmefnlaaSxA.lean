/- Stats: how many lines a script puts in and takes out: plain. -/
import Derived.Test.YtomeffnlmefnlaaScZ
import Derived.Test.YtomeffnlmefnlaaFlU
namespace Go.Sts
open Go Go.Gv Go.Num Go.Scr Go.Mys
/-- How many lines stand in edits of one kind. -/
def cnt (d : Int) (s : List Ed) : Nat := (s.map fun e => if e.1 = d then e.2.length else 0).sum
theorem cnt_app (d : Int) (s t : List Ed) : cnt d (s ++ t) = cnt d s + cnt d t := by unfold cnt; rw [List.map_append, List.sum_append]
theorem cnt_one (d : Int) (e : Ed) : cnt d [e] = if e.1 = d then e.2.length else 0 := by unfold cnt; simp
theorem cnt_cons (d : Int) (e : Ed) (s : List Ed) : cnt d (e :: s) = (if e.1 = d then e.2.length else 0) + cnt d s := by unfold cnt; rw [List.map_cons, List.sum_cons]
theorem cnt_addS (d c : Int) (s : List Ed) (l : List Ln) : cnt d (addS s c l) = cnt d s + if c = d then l.length else 0 := by
  unfold addS
  split
  · subst_vars; simp
  · split
    · rename_i e he
      split
      · rename_i hd
        have e1 : s = s.dropLast ++ [e] := by
          have hne : s ≠ [] := fun h => by rw [h] at he; cases he
          rw [List.getLast?_eq_some_getLast hne] at he
          injection he with he
          rw [← he, List.dropLast_concat_getLast]
        have e2 := congrArg (cnt d) e1
        rw [cnt_app, cnt_one] at e2
        rw [cnt_app, cnt_one, e2]
        simp only [hd, List.length_append]
        split <;> omega
      · rw [cnt_app, cnt_one]
    · rw [cnt_app, cnt_one]
theorem cnt_takeS (x : List Ed × List Ln) (e : Ed) : cnt 3 (takeS x e).1 + (takeS x e).2.length = cnt 3 x.1 + x.2.length + (if e.1 = 3 then e.2.length else 0) ∧ cnt 2 (takeS x e).1 = cnt 2 x.1 + (if e.1 = 2 then e.2.length else 0) := by
  unfold takeS
  by_cases h : e.1 = 3
  · rw [if_pos h, if_pos h, if_neg (by omega)]
    simp only [List.length_append]; omega
  · rw [if_neg h, if_neg h]
    by_cases h2 : e.1 = 1 ∧ e.2.length > 0
    · rw [if_pos h2]
      simp only [cnt_addS, List.length_nil]
      rw [if_neg h]; simp [h2.1]
    · rw [if_neg h2]
      simp only [cnt_addS]
      rw [if_neg h]; simp
theorem cnt_fold (s : List Ed) (x : List Ed × List Ln) : cnt 3 (s.foldl takeS x).1 + (s.foldl takeS x).2.length = cnt 3 x.1 + x.2.length + cnt 3 s ∧ cnt 2 (s.foldl takeS x).1 = cnt 2 x.1 + cnt 2 s := by
  induction s generalizing x with
  | nil => exact ⟨rfl, rfl⟩
  | cons e s ih =>
    have h := cnt_takeS x e
    have h2 := ih (takeS x e)
    rw [List.foldl_cons, cnt_cons, cnt_cons]
    omega
theorem cnt_normP (s : List Ed) : cnt 3 (normP s) = cnt 3 s ∧ cnt 2 (normP s) = cnt 2 s := by
  have h := cnt_fold s ([], [])
  unfold normP
  simp only [cnt_addS]
  have h0 : cnt 3 ([] : List Ed) = 0 := rfl
  have h1 : cnt 2 ([] : List Ed) = 0 := rfl
  have h2 : ([] : List Ln).length = 0 := rfl
  rw [h0, h1, h2] at h
  refine ⟨by simp; omega, by simp; omega⟩
theorem cnt_mkE (a b : List Ln) : ∀ (s : List Int) (i j : Int), cnt 3 (mkE a b s i j) = s.count 3 ∧ cnt 2 (mkE a b s i j) = s.count 2
  | [], _, _ => ⟨rfl, rfl⟩
  | d :: s, i, j => by
    rw [mkE, List.count_cons, List.count_cons]
    split
    · rename_i h
      have ih := cnt_mkE a b s i (j + 1)
      rw [cnt_cons, cnt_cons, ih.1, ih.2]
      subst h; simp; omega
    · rename_i h
      have ih := cnt_mkE a b s (i + 1) (if d = 1 then j + 1 else j)
      rw [cnt_cons, cnt_cons, ih.1, ih.2]
      simp only [List.length_singleton]
      by_cases h2 : d = 2
      · subst h2; simp; omega
      · simp [h, h2]
/-- What a commit changes: put in, taken out. -/
def CHN (a b : List Ln) : Int × Int := (((Stp (NA a) (NB a b)).count 3 : Nat), ((Stp (NA a) (NB a b)).count 2 : Nat))
theorem CHN_is {a b : List Ln} (h : ¬ (a.length > 400 ∨ b.length > 400)) : ((cnt 3 (MKS a b) : Nat) : Int) = (CHN a b).1 ∧ ((cnt 2 (MKS a b) : Nat) : Int) = (CHN a b).2 := by
  unfold MKS
  rw [if_neg h]
  have h1 := cnt_normP (rawM a b)
  have h2 := cnt_mkE a b (Stp (NA a) (NB a b)) 0 0
  unfold rawM at h1 ⊢
  rw [h1.1, h1.2, h2.1, h2.2]; exact ⟨rfl, rfl⟩
theorem cnt_sides (s : List Ed) (h : okS s = true) : (sA s).length = cnt 1 s + cnt 2 s ∧ (sB s).length = cnt 1 s + cnt 3 s := by
  induction s with
  | nil => exact ⟨rfl, rfl⟩
  | cons e s ih =>
    have h' : okE e.1 = true ∧ okS s = true := by
      unfold okS at h ⊢
      rw [List.all_cons, Bool.and_eq_true] at h; exact h
    have hi := ih h'.2
    have he : 1 ≤ e.1 ∧ e.1 ≤ 3 := by have := h'.1; unfold okE at this; simpa using this
    have e1 : sA (e :: s) = (if e.1 = 1 ∨ e.1 = 2 then e.2 else []) ++ sA s := rfl
    have e2 : sB (e :: s) = (if e.1 = 2 then [] else e.2) ++ sB s := rfl
    rw [e1, e2, List.length_append, List.length_append, cnt_cons, cnt_cons, cnt_cons, hi.1, hi.2]
    rcases (by omega : e.1 = 1 ∨ e.1 = 2 ∨ e.1 = 3) with h1 | h1 | h1 <;> rw [h1] <;> simp <;> omega
theorem CHN_diff {a b : List Ln} (ha : a.length ≤ 400) (hb : b.length ≤ 400) : (CHN a b).1 - (CHN a b).2 = (b.length : Int) - a.length := by
  have h2 := cnt_mkE a b (Stp (NA a) (NB a b)) 0 0
  have hr := raw_sides ha hb
  have hk := chk_raw a b
  have hok : okS (rawM a b) = true := by
    unfold chk at hk
    split at hk
    · omega
    · split at hk
      · omega
      · split at hk
        · assumption
        · omega
  have hs := cnt_sides _ hok
  rw [hr.1, hr.2] at hs
  unfold CHN
  have e3 : cnt 3 (rawM a b) = (Stp (NA a) (NB a b)).count 3 := h2.1
  have e2 : cnt 2 (rawM a b) = (Stp (NA a) (NB a b)).count 2 := h2.2
  simp only
  omega
theorem CHN_bd (a b : List Ln) : 0 ≤ (CHN a b).1 ∧ (CHN a b).1 ≤ 800 ∧ 0 ≤ (CHN a b).2 ∧ (CHN a b).2 ≤ 800 := by
  have h := Stp_len (NA a) (NB a b)
  have h3 := List.count_le_length (a := (3 : Int)) (l := Stp (NA a) (NB a b))
  have h2 := List.count_le_length (a := (2 : Int)) (l := Stp (NA a) (NB a b))
  unfold CHN
  simp only
  omega
/-- All of them. -/
def CHS : List (List Ln) → List (Int × Int)
  | a :: b :: r => CHN a b :: CHS (b :: r)
  | _ => []
def LONG (l : List (List Ln)) : Prop := ∃ t ∈ l, t.length > 400
def number (n : Int) : Prop := 0 ≤ n ∧ n ≤ 2147483647
instance (n : Int) : Decidable (number n) := by unfold number; exact inferInstance
def RGT (c : Int × Int) : Prop := number c.1 ∧ number c.2
instance (c : Int × Int) : Decidable (RGT c) := by unfold RGT; exact inferInstance
end Go.Sts
namespace Go.Sts
open Go Go.Gv Go.Num Go.Scr Go.Mys
theorem cnt_more {ρ : Type} [Inhabited ρ] {inp : List ((Int × ρ) × List Ln)} {i : Int} (d : Int) (h0 : 0 ≤ i) (h1 : i < inp.length) : cnt d ((scr inp).take (i + 1).toNat) = cnt d ((scr inp).take i.toNat) + (if (inp.getD i.toNat default).1.1 = d then (inp.getD i.toNat default).2.length else 0) := by
  rw [scr_more h0 h1, cnt_app, cnt_one]
theorem cnt_le (d : Int) (s : List Ed) : cnt d s ≤ tot s := by
  induction s with
  | nil => exact Nat.le_refl _
  | cons e s ih =>
    rw [cnt_cons, show tot (e :: s) = e.2.length + tot s from rfl]
    split <;> omega
def OFS (s : List Ed) : Int × Int := (((cnt 3 s : Nat) : Int), ((cnt 2 s : Nat) : Int))
theorem OFS_chn {a b : List Ln} {s : List Ed} (h : ¬ (a.length > 400 ∨ b.length > 400)) (e : s = MKS a b) : OFS s = CHN a b := by
  subst e
  have := CHN_is h
  exact Prod.ext this.1 this.2
theorem CHS_one (l : List (List Ln)) : CHS (l.take 1) = [] := by
  cases l with
  | nil => rfl
  | cons a l => rfl
theorem CHS_app : ∀ (l : List (List Ln)) (a b : List Ln), CHS (l ++ [a] ++ [b]) = CHS (l ++ [a]) ++ [CHN a b]
  | [], a, b => rfl
  | [c], a, b => rfl
  | c :: d :: l, a, b => by
    have := CHS_app (d :: l) a b
    simp only [List.cons_append] at this ⊢
    rw [CHS, CHS, this]; rfl
theorem CHS_at {l : List (SV × List Ln)} {i : Int} (h0 : 1 ≤ i) (h1 : i < l.length) : CHS ((l.map (·.2)).take (i + 1).toNat) = CHS ((l.map (·.2)).take i.toNat) ++ [CHN (l.getD (i - 1).toNat default).2 (l.getD i.toNat default).2] := by
  have hl : (l.map (·.2)).length = l.length := List.length_map _
  have e1 := Num.take_more (l := l.map (·.2)) (j := i) ([] : List Ln) (by omega) (by omega)
  have e2 := Num.take_more (l := l.map (·.2)) (j := i - 1) ([] : List Ln) (by omega) (by omega)
  rw [show i - 1 + 1 = i by omega] at e2
  have g : ∀ j : Int, 0 ≤ j → j < l.length → (l.map (·.2)).getD j.toNat [] = (l.getD j.toNat default).2 := fun j j0 j1 => by
    have hj : j.toNat < l.length := by omega
    rw [List.getD_eq_getElem?_getD, List.getElem?_map, List.getD_eq_getElem?_getD, List.getElem?_eq_getElem hj]; rfl
  rw [e1, e2, CHS_app, g i (by omega) h1, g (i - 1) (by omega) (by omega)]
theorem CHS_len (l : List (List Ln)) : (CHS l).length ≤ l.length := by
  have : ∀ (n : Nat) (l : List (List Ln)), l.length ≤ n → (CHS l).length ≤ l.length := by
    intro n
    induction n with
    | zero => intro l h; cases l with | nil => exact Nat.le_refl _ | cons a l => simp at h
    | succ n ih =>
      intro l h
      match l with
      | [] => exact Nat.le_refl _
      | [a] => exact Nat.zero_le _
      | a :: b :: r =>
        have := ih (b :: r) (by simp only [List.length_cons] at h ⊢; omega)
        rw [CHS, List.length_cons, List.length_cons (a := a)]; omega
  exact this l.length l (Nat.le_refl _)
abbrev LNG (l : List (SV × List Ln)) : Prop := ∃ t : Nat, t < l.length ∧ (l.getD t default).2.length > 400
instance (l : List (SV × List Ln)) : Decidable (LNG l) := Nat.decidableExistsLT _
def CHR (l : List (SV × List Ln)) : List (Int × Int) := if LNG l then [] else CHS (l.map (·.2))
def CHE (l : List (SV × List Ln)) : Int := if LNG l then 4 else 0
theorem lng_yes {l : List (SV × List Ln)} {i : Int} (h0 : 0 ≤ i) (h1 : i < l.length) (h : (l.getD i.toNat default).2.length > 400) : LNG l := ⟨i.toNat, by omega, h⟩
theorem lng_no {l : List (SV × List Ln)} {i : Int} (h1 : (l.length : Int) ≤ i) (q : ∀ t : Int, 0 ≤ t → t < i → (l.getD t.toNat default).2.length ≤ 400) : ¬ LNG l := fun ⟨t, ht, h⟩ => by
  have := q t (by omega) (by omega)
  rw [Int.toNat_natCast] at this; omega
end Go.Sts
namespace Go.Sts
open Go Go.Gv Go.Num Go.Scr Go.Mys
theorem ct_at {s : List Int} {k : Int} (d : Int) (h0 : 0 ≤ k) (h1 : k < s.length) : (((s.take (k + 1).toNat).count d : Nat) : Int) = (((s.take k.toNat).count d : Nat) : Int) + (if gI s k = d then 1 else 0) := by
  rw [Num.take_more (0 : Int) h0 h1, List.count_append]
  show (((s.take k.toNat).count d + [gI s k].count d : Nat) : Int) = _
  rw [List.count_singleton]
  by_cases h : gI s k = d
  · rw [if_pos h, if_pos (by simpa using h)]; omega
  · rw [if_neg h, if_neg (by simpa using h)]; omega
theorem chn_of {a b : List Ln} {x y : List Int} {k c0 c1 : Int} (hx : x = NA a) (hy : y = NB a b) (hk : ((Stp x y).length : Int) ≤ k) (h0 : c0 = ((((Stp x y).take k.toNat).count 3 : Nat) : Int)) (h1 : c1 = ((((Stp x y).take k.toNat).count 2 : Nat) : Int)) : (c0, c1) = CHN a b := by
  rw [List.take_of_length_le (by omega)] at h0 h1
  subst hx; subst hy
  exact Prod.ext h0 h1
end Go.Sts

namespace Go.Sts
open Go Go.Gv Go.Flt
def FRS (c : Int × Int) : Option Nat := if RGT c ∧ ¬ c.1 + c.2 = 0 then floatBits .quo .f64 (floatOfInt .f64 c.1) (floatOfInt .f64 (c.1 + c.2)) else none
theorem FRS_in {c : Int × Int} {r : Nat} (h : RGT c) (h0 : ¬ c.1 + c.2 = 0) (e : cn r = floatBits .quo .f64 (floatOfInt .f64 c.1) (floatOfInt .f64 (c.1 + c.2))) : cn r = FRS c := by unfold FRS; rw [if_pos ⟨h, h0⟩]; exact e
theorem FRS_out {c : Int × Int} {r : Nat} (h : ¬ RGT c ∨ c.1 + c.2 = 0) (e : cn r = none) : cn r = FRS c := by
  unfold FRS
  rw [if_neg fun h2 => h.elim (fun h3 => h3 h2.1) h2.2]; exact e
theorem FRS_doc {c : Int × Int} {r t : Nat} (h : RGT c) (h0 : ¬ c.1 + c.2 = 0) (ht : cn t = floatBits .add .f64 (floatOfInt .f64 c.1) (floatOfInt .f64 c.2)) (hr : cn r = floatBits .quo .f64 (floatOfInt .f64 c.1) t) : cn r = FRS c := by
  refine FRS_in h h0 ?_
  obtain ⟨⟨a0, a1⟩, b0, b1⟩ := h
  obtain ⟨a, ha⟩ : ∃ a : Nat, (a : Int) = c.1 := ⟨c.1.toNat, by omega⟩
  obtain ⟨b, hb⟩ : ∃ b : Nat, (b : Int) = c.2 := ⟨c.2.toNat, by omega⟩
  rw [← ha, ← hb] at ht ⊢
  rw [← ha] at hr
  rw [show floatBits .add .f64 (floatOfInt .f64 (a : Int)) (floatOfInt .f64 (b : Int)) = _ from add_FI (n := a) (m := b) (by omega)] at ht
  have et := (cn_some ht).2
  rw [et] at hr
  rw [hr, show ((a + b : Nat) : Int) = (a : Int) + (b : Int) by omega]
theorem pp (q k : Nat) (h : 0 < q) : 0 < q * 2 ^ k := Nat.mul_pos h (Nat.two_pow_pos k)
theorem RAT_000 : RAT 0 0 0 = none := by unfold RAT; rw [if_pos (by omega)]
theorem FRS_bd {c : Int × Int} {r : Nat} (h : cn r = FRS c) : ((¬ RGT c ∨ c.1 + c.2 = 0) ∧ ¬ (-9218868437227405312 ≤ sk r ∧ sk r ≤ 9218868437227405312)) ∨ (RGT c ∧ ¬ c.1 + c.2 = 0 ∧ 0 ≤ sk r ∧ sk r ≤ 4607182418800017408) := by
  unfold FRS at h
  split at h
  · rename_i hc
    right
    obtain ⟨⟨⟨a0, a1⟩, b0, b1⟩, h0⟩ := hc
    refine ⟨⟨⟨a0, a1⟩, b0, b1⟩, h0, ?_⟩
    obtain ⟨p, hp⟩ : ∃ p : Nat, (p : Int) = c.1 := ⟨c.1.toNat, by omega⟩
    obtain ⟨q, hq⟩ : ∃ q : Nat, (q : Int) = c.1 + c.2 := ⟨(c.1 + c.2).toNat, by omega⟩
    rw [← hq, ← hp] at h
    have hF1 := FI_is (n := p) (by omega)
    have hF2 := FI_is (n := q) (by omega)
    have hlt : FI p ≤ FI q := by
      have : vl (FI p) ≤ vl (FI q) := by rw [hF1.1, hF2.1]; exact Nat.mul_le_mul_right _ (by omega)
      rcases Nat.lt_or_ge (FI q) (FI p) with h1 | h1
      · have := vl_lt h1; omega
      · exact h1
    have h0 : 0 < FI q := by
      rcases Nat.eq_zero_or_pos (FI q) with h1 | h1
      · have := hF2.1; rw [h1] at this
        have h2 := pp q 1074 (by omega)
        have h3 : vl 0 = 0 := by decide
        rw [← this, h3] at h2
        exact absurd h2 (Nat.lt_irrefl 0)
      · exact h1
    obtain ⟨R, e1, hR⟩ := quo_le (FI_lt (n := p) (by omega)) (FI_lt (n := q) (by omega)) h0 hlt
    rw [show floatBits .quo .f64 (floatOfInt .f64 (p : Int)) (floatOfInt .f64 (q : Int)) = some R from e1] at h
    have e := (cn_some h).2
    subst e
    have hR' : r ≤ 4607182418800017408 := hR
    have := sk_cases r
    omega
  · rename_i hc
    left
    refine ⟨?_, cn_none h⟩
    by_cases h1 : RGT c
    · right; exact Decidable.byContradiction fun h2 => hc ⟨h1, h2⟩
    · exact .inl h1
end Go.Sts

namespace Go.Sts
open Go Go.Gv Go.Flt
abbrev gC (l : List (Int × Int)) (i : Int) : Int × Int := l.getD i.toNat (0, 0)
def SI (l : List (Int × Int)) : Int := (l.map fun c => if number c.1 then c.1 else 0).sum
def SO (l : List (Int × Int)) : Int := (l.map fun c => if number c.2 then c.2 else 0).sum
def QT (l : List (Int × Int)) : Int := (l.map fun c => if c.1 = 0 ∧ c.2 = 0 then (1 : Int) else 0).sum
def SHR (l : List (Int × Int)) : List Nat := l.filterMap FRS
section
variable {l : List (Int × Int)} {i : Int}
theorem SI_at (h0 : 0 ≤ i) (h1 : i < l.length) : SI (l.take (i + 1).toNat) = SI (l.take i.toNat) + (if number (gC l i).1 then (gC l i).1 else 0) := by
  unfold SI; rw [Num.take_more (0, 0) h0 h1, List.map_append, List.sum_append]; simp
theorem SO_at (h0 : 0 ≤ i) (h1 : i < l.length) : SO (l.take (i + 1).toNat) = SO (l.take i.toNat) + (if number (gC l i).2 then (gC l i).2 else 0) := by
  unfold SO; rw [Num.take_more (0, 0) h0 h1, List.map_append, List.sum_append]; simp
theorem QT_at (h0 : 0 ≤ i) (h1 : i < l.length) : QT (l.take (i + 1).toNat) = QT (l.take i.toNat) + (if (gC l i).1 = 0 ∧ (gC l i).2 = 0 then 1 else 0) := by
  unfold QT; rw [Num.take_more (0, 0) h0 h1, List.map_append, List.sum_append]; simp
theorem SHR_at (h0 : 0 ≤ i) (h1 : i < l.length) : SHR (l.take (i + 1).toNat) = SHR (l.take i.toNat) ++ (FRS (gC l i)).toList := by
  unfold SHR; rw [Num.take_more (0, 0) h0 h1, List.filterMap_append]
  congr 1
theorem shr_yes {out : List Nat} {x : Nat} (h0 : 0 ≤ i) (h1 : i < l.length) (q : out = SHR (l.take i.toNat)) (hx : cn x = FRS (gC l i)) (hn : -9218868437227405312 ≤ sk x ∧ sk x ≤ 9218868437227405312) : out ++ [x] = SHR (l.take (i + 1).toNat) := by
  rw [SHR_at h0 h1, ← q]
  have : FRS (gC l i) = some x := by
    rw [← hx]; exact cn_ok hn
  rw [this]; rfl
theorem shr_no {out : List Nat} {x : Nat} (h0 : 0 ≤ i) (h1 : i < l.length) (q : out = SHR (l.take i.toNat)) (hx : cn x = FRS (gC l i)) (hn : ¬ (-9218868437227405312 ≤ sk x ∧ sk x ≤ 9218868437227405312)) : out = SHR (l.take (i + 1).toNat) := by
  rw [SHR_at h0 h1, ← q]
  have : FRS (gC l i) = none := by
    cases h : FRS (gC l i) with
    | none => rfl
    | some y =>
      rw [h] at hx
      exact absurd (cn_some hx).1 hn
  rw [this]; simp
end
/-- The commit that changed most, of the first n. -/
def PKF (l : List (Int × Int)) : Nat → Int
  | 0 => -1
  | n + 1 => if RGT (gC l n) ∧ (PKF l n < 0 ∨ (gC l n).1 + (gC l n).2 > (gC l (PKF l n)).1 + (gC l (PKF l n)).2) then n else PKF l n
theorem PKF_at {l : List (Int × Int)} {i : Int} (h0 : 0 ≤ i) : PKF l (i + 1).toNat = if RGT (gC l i) ∧ (PKF l i.toNat < 0 ∨ (gC l i).1 + (gC l i).2 > (gC l (PKF l i.toNat)).1 + (gC l (PKF l i.toNat)).2) then i else PKF l i.toNat := by
  rw [show (i + 1).toNat = i.toNat + 1 by omega, PKF, show ((i.toNat : Nat) : Int) = i by omega]
theorem PKF_bd (l : List (Int × Int)) (n : Nat) : -1 ≤ PKF l n ∧ PKF l n < n ∧ (0 ≤ PKF l n → RGT (gC l (PKF l n))) := by
  induction n with
  | zero => exact ⟨Int.le_refl _, by show (-1 : Int) < 0; omega, fun h => by have : PKF l 0 = -1 := rfl; omega⟩
  | succ n ih =>
    rw [PKF]
    split
    · rename_i h
      exact ⟨by omega, by omega, fun _ => h.1⟩
    · exact ⟨ih.1, by omega, ih.2.2⟩
end Go.Sts
namespace Go.Sts
open Go Go.Gv Go.Flt
theorem pk_yes {l : List (Int × Int)} {i s : Int} (h0 : 0 ≤ i) (q : s = PKF l i.toNat) (hr : RGT (l.getD i.toNat (0, 0))) (h : s < 0 ∨ (l.getD i.toNat (0, 0)).1 + (l.getD i.toNat (0, 0)).2 > (l.getD s.toNat (0, 0)).1 + (l.getD s.toNat (0, 0)).2) : i = PKF l (i + 1).toNat := by
  rw [PKF_at h0, ← q, if_pos ⟨hr, h⟩]
theorem pk_no {l : List (Int × Int)} {i s : Int} (h0 : 0 ≤ i) (q : s = PKF l i.toNat) (h : ¬ RGT (l.getD i.toNat (0, 0)) ∨ ¬ (s < 0 ∨ (l.getD i.toNat (0, 0)).1 + (l.getD i.toNat (0, 0)).2 > (l.getD s.toNat (0, 0)).1 + (l.getD s.toNat (0, 0)).2)) : s = PKF l (i + 1).toNat := by
  rw [PKF_at h0, ← q, if_neg fun h2 => h.elim (fun h3 => h3 h2.1) (fun h3 => h3 h2.2)]
end Go.Sts
namespace Go.Sts
open Go Go.Gv Go.Flt
theorem qt_yes {l : List (Int × Int)} {i s : Int} (h0 : 0 ≤ i) (h1 : i < l.length) (q : s = QT (l.take i.toNat)) (h : (l.getD i.toNat (0, 0)).1 = 0 ∧ (l.getD i.toNat (0, 0)).2 = 0) : s + 1 = QT (l.take (i + 1).toNat) := by rw [QT_at h0 h1, ← q, if_pos h]
theorem qt_no {l : List (Int × Int)} {i s : Int} (h0 : 0 ≤ i) (h1 : i < l.length) (q : s = QT (l.take i.toNat)) (h : ¬ ((l.getD i.toNat (0, 0)).1 = 0 ∧ (l.getD i.toNat (0, 0)).2 = 0)) : s = QT (l.take (i + 1).toNat) := by rw [QT_at h0 h1, ← q, if_neg h]; omega
end Go.Sts
namespace Go.Sts
open Go Go.Gv Go.Flt
def BST (l : List (Int × Int)) (n : Nat) : Int := if PKF l n < 0 then -1 else (gC l (PKF l n)).1 + (gC l (PKF l n)).2
theorem BST_bd (l : List (Int × Int)) (n : Nat) : -1 ≤ BST l n ∧ BST l n ≤ 4294967294 := by
  unfold BST
  split
  · omega
  · have h := (PKF_bd l n).2.2 (by omega)
    obtain ⟨⟨a0, a1⟩, b0, b1⟩ := h
    omega
theorem bst_yes {l : List (Int × Int)} {i b : Int} (h0 : 0 ≤ i) (q : b = BST l i.toNat) (h1 : number (l.getD i.toNat (0, 0)).1) (h2 : number (l.getD i.toNat (0, 0)).2) (h : (l.getD i.toNat (0, 0)).1 + (l.getD i.toNat (0, 0)).2 > b) : i = PKF l (i + 1).toNat ∧ (l.getD i.toNat (0, 0)).1 + (l.getD i.toNat (0, 0)).2 = BST l (i + 1).toNat := by
  have e : i = PKF l (i + 1).toNat := by
    refine pk_yes h0 rfl ⟨h1, h2⟩ ?_
    unfold BST at q
    split at q
    · left; assumption
    · right
      show _ > (gC l (PKF l i.toNat)).1 + (gC l (PKF l i.toNat)).2
      omega
  refine ⟨e, ?_⟩
  unfold BST
  rw [← e, if_neg (by omega)]
theorem bst_no {l : List (Int × Int)} {i b s : Int} (h0 : 0 ≤ i) (qs : s = PKF l i.toNat) (q : b = BST l i.toNat) (h : ¬ number (l.getD i.toNat (0, 0)).1 ∨ ¬ number (l.getD i.toNat (0, 0)).2 ∨ ¬ (l.getD i.toNat (0, 0)).1 + (l.getD i.toNat (0, 0)).2 > b) : s = PKF l (i + 1).toNat ∧ b = BST l (i + 1).toNat := by
  have e : PKF l i.toNat = PKF l (i + 1).toNat := by
    refine pk_no h0 rfl ?_
    by_cases hr : RGT (l.getD i.toNat (0, 0))
    · right
      have h3 : ¬ (l.getD i.toNat (0, 0)).1 + (l.getD i.toNat (0, 0)).2 > b := h.elim (fun h => absurd hr.1 h) fun h => h.elim (fun h => absurd hr.2 h) id
      obtain ⟨⟨a0, a1⟩, b0, b1⟩ := hr
      unfold BST at q
      split at q
      · omega
      · rintro (h4 | h4)
        · omega
        · have h4 : _ > (gC l (PKF l i.toNat)).1 + (gC l (PKF l i.toNat)).2 := h4
          omega
    · exact .inl hr
  refine ⟨qs.trans e, q.trans ?_⟩
  unfold BST
  rw [e]
end Go.Sts
namespace Go.Sts
open Go Go.Gv Go.Flt
/-- The most that one changed. -/
def MST (l : List (Int × Int)) : Int := l.foldl (fun n c => max n (c.1 + c.2)) 0
theorem MST_at {l : List (Int × Int)} {i : Int} (h0 : 0 ≤ i) (h1 : i < l.length) : MST (l.take (i + 1).toNat) = max (MST (l.take i.toNat)) ((l.getD i.toNat (0, 0)).1 + (l.getD i.toNat (0, 0)).2) := by
  unfold MST
  rw [Num.take_more (0, 0) h0 h1, List.foldl_append]; rfl
end Go.Sts
