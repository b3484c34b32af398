/- Scripts, plain. -/
import Derived.Test.YtomeffnlmefnlaaNuA
namespace Go.Scr
open Go.Gv Go.Num
abbrev Ed := Int × List Ln
def scr {ρ : Type} (inp : List ((Int × ρ) × List Ln)) : List Ed := inp.map fun p => (p.1.1, p.2)
def tot (s : List Ed) : Nat := (s.map fun e => e.2.length).sum
def okE (d : Int) : Bool := decide (1 ≤ d ∧ d ≤ 3)
def okS (s : List Ed) : Bool := s.all fun e => okE e.1
def chk (s : List Ed) : Int := if s.length > 800 then 4 else if tot s > 800 then 4 else if okS s then 0 else 3
def sA (s : List Ed) : List Ln := s.flatMap fun e => if e.1 = 1 ∨ e.1 = 2 then e.2 else []
def sB (s : List Ed) : List Ln := s.flatMap fun e => if e.1 = 2 then [] else e.2
def chg (s : List Ed) : Nat := (s.map fun e => if e.1 = 2 ∨ e.1 = 3 then e.2.length else 0).sum
section
variable {ρ : Type} [Inhabited ρ] {inp : List ((Int × ρ) × List Ln)} {i : Int}
omit [Inhabited ρ] in
theorem scr_length (inp : List ((Int × ρ) × List Ln)) : (scr inp).length = inp.length := by simp [scr]
theorem scr_more (h0 : 0 ≤ i) (h1 : i < inp.length) : (scr inp).take (i + 1).toNat = (scr inp).take i.toNat ++ [((inp.getD i.toNat default).1.1, (inp.getD i.toNat default).2)] := by
  rw [take_more (default : Ed) h0 (by rw [scr_length]; exact h1)]
  have hlt : i.toNat < inp.length := by omega
  simp [scr, List.getD, hlt]
omit [Inhabited ρ] in
theorem scr_all (h : (inp.length : Int) ≤ i) : (scr inp).take i.toNat = scr inp := List.take_of_length_le (by rw [scr_length]; omega)
theorem tot_more (h0 : 0 ≤ i) (h1 : i < inp.length) : tot ((scr inp).take (i + 1).toNat) = tot ((scr inp).take i.toNat) + (inp.getD i.toNat default).2.length := by
  rw [scr_more h0 h1]; simp [tot]
theorem okS_more (h0 : 0 ≤ i) (h1 : i < inp.length) : okS ((scr inp).take (i + 1).toNat) = (okS ((scr inp).take i.toNat) && okE (inp.getD i.toNat default).1.1) := by
  rw [scr_more h0 h1]; simp [okS]
theorem chg_more (h0 : 0 ≤ i) (h1 : i < inp.length) : chg ((scr inp).take (i + 1).toNat) = chg ((scr inp).take i.toNat) + (if (inp.getD i.toNat default).1.1 = 2 ∨ (inp.getD i.toNat default).1.1 = 3 then (inp.getD i.toNat default).2.length else 0) := by
  rw [scr_more h0 h1]; simp [chg]
theorem sA_more (h0 : 0 ≤ i) (h1 : i < inp.length) : sA ((scr inp).take (i + 1).toNat) = sA ((scr inp).take i.toNat) ++ (if (inp.getD i.toNat default).1.1 = 1 ∨ (inp.getD i.toNat default).1.1 = 2 then (inp.getD i.toNat default).2 else []) := by
  rw [scr_more h0 h1]; simp [sA]
theorem sB_more (h0 : 0 ≤ i) (h1 : i < inp.length) : sB ((scr inp).take (i + 1).toNat) = sB ((scr inp).take i.toNat) ++ (if (inp.getD i.toNat default).1.1 = 2 then [] else (inp.getD i.toNat default).2) := by
  rw [scr_more h0 h1]; simp [sB]
end
theorem tot_take (s : List Ed) (k : Nat) : tot (s.take k) ≤ tot s := by
  have h : tot s = tot (s.take k) + tot (s.drop k) := by
    conv => lhs; rw [← List.take_append_drop k s]
    unfold tot
    rw [List.map_append, List.sum_append]
  omega
theorem fm_len (f : Ed → List Ln) (hf : ∀ e, (f e).length ≤ e.2.length) (s : List Ed) : (s.flatMap f).length ≤ tot s := by
  induction s with
  | nil => simp [tot]
  | cons e s ih =>
    have := hf e
    rw [List.flatMap_cons, List.length_append, show tot (e :: s) = e.2.length + tot s from rfl]
    omega
theorem sA_len (s : List Ed) : (sA s).length ≤ tot s := fm_len _ (fun e => by split <;> simp) s
theorem sB_len (s : List Ed) : (sB s).length ≤ tot s := fm_len _ (fun e => by split <;> simp) s
theorem chg_le (s : List Ed) : chg s ≤ tot s := by
  induction s with
  | nil => simp [chg, tot]
  | cons e s ih =>
    simp only [chg, tot, List.map_cons, List.sum_cons] at ih ⊢
    split <;> omega
section
variable {ρ : Type} [Inhabited ρ] {inp : List ((Int × ρ) × List Ln)} {i n e : Int}
omit [Inhabited ρ] in
theorem chk_len (h : (inp.length : Int) > 800) : (4 : Int) = chk (scr inp) := by unfold chk; rw [if_pos (by rw [scr_length]; omega)]
theorem chk_tot (h0 : 0 ≤ i) (h1 : i < inp.length) (q : n = (tot ((scr inp).take i.toNat) : Int)) (h : min (n + ((inp.getD i.toNat default).2.length : Int)) 801 > 800) : (4 : Int) = chk (scr inp) := by
  have h2 := tot_more h0 h1
  have h3 := tot_take (scr inp) (i + 1).toNat
  have : tot (scr inp) > 800 := by omega
  unfold chk
  rw [if_pos this]
  split <;> rfl
omit [Inhabited ρ] in
theorem chk_end (hl : ¬ (inp.length : Int) > 800) (h : (inp.length : Int) ≤ i) (q : n = (tot ((scr inp).take i.toNat) : Int)) (qn : n ≤ 800) (q2 : e = if okS ((scr inp).take i.toNat) = true then 0 else 3) : e = chk (scr inp) := by
  rw [scr_all h] at q q2
  unfold chk
  rw [if_neg (by rw [scr_length]; omega), if_neg (by omega), q2]
theorem chk_ok (h0 : 0 ≤ i) (h1 : i < inp.length) (h : 1 ≤ (inp.getD i.toNat default).1.1 ∧ (inp.getD i.toNat default).1.1 ≤ 3) (q2 : e = if okS ((scr inp).take i.toNat) = true then 0 else 3) : e = if okS ((scr inp).take (i + 1).toNat) = true then 0 else 3 := by
  rw [okS_more h0 h1, okE, decide_eq_true h, Bool.and_true]; exact q2
theorem chk_bad (h0 : 0 ≤ i) (h1 : i < inp.length) (h : ¬ (1 ≤ (inp.getD i.toNat default).1.1 ∧ (inp.getD i.toNat default).1.1 ≤ 3)) : (3 : Int) = if okS ((scr inp).take (i + 1).toNat) = true then 0 else 3 := by
  rw [okS_more h0 h1, okE, decide_eq_false h, Bool.and_false]; rfl
end
end Go.Scr
namespace Go.Scr
open Go Go.Gv Go.Num
/-- How much is changed, as a machine counts. -/
def chgI (s : List Ed) : Int := s.foldl (fun n e => if e.1 = 2 ∨ e.1 = 3 then IntKind.i64.wrap (n + (e.2.length : Int)) else n) 0
theorem chgI_more {ρ : Type} [Inhabited ρ] {inp : List ((Int × ρ) × List Ln)} {i : Int} (h0 : 0 ≤ i) (h1 : i < inp.length) : chgI ((scr inp).take (i + 1).toNat) = if (inp.getD i.toNat default).1.1 = 2 ∨ (inp.getD i.toNat default).1.1 = 3 then IntKind.i64.wrap (chgI ((scr inp).take i.toNat) + ((inp.getD i.toNat default).2.length : Int)) else chgI ((scr inp).take i.toNat) := by
  rw [scr_more h0 h1]
  unfold chgI
  rw [List.foldl_append]
  rfl
end Go.Scr
namespace Go.Scr
open Go Go.Gv Go.Num
def SA (s : List Ed) : List Ln := if chk s = 0 then sA s else []
def SB (s : List Ed) : List Ln := if chk s = 0 then sB s else []
def sideL (but : Int) (s : List Ed) : List Ln := s.flatMap fun e => if e.1 ≠ but then e.2 else []
theorem chk0 {s : List Ed} (h : chk s = 0) : s.length ≤ 800 ∧ tot s ≤ 800 ∧ okS s = true := by
  unfold chk at h
  split at h
  · omega
  · split at h
    · omega
    · split at h
      · exact ⟨by omega, by omega, by assumption⟩
      · omega
theorem side3 {s : List Ed} (h : okS s = true) : sideL 3 s = sA s := by
  induction s with
  | nil => rfl
  | cons e s ih =>
    simp only [okS, List.all_cons, Bool.and_eq_true, okE, decide_eq_true_eq] at h ih ⊢
    simp only [sideL, sA, List.flatMap_cons] at ih ⊢
    rw [ih h.2]
    congr 1
    by_cases h3 : e.1 = 3
    · rw [if_neg (by omega), if_neg (by omega)]
    · rw [if_pos h3, if_pos (by omega)]
theorem side2 {s : List Ed} (h : okS s = true) : sideL 2 s = sB s := by
  induction s with
  | nil => rfl
  | cons e s ih =>
    simp only [okS, List.all_cons, Bool.and_eq_true, okE, decide_eq_true_eq] at h ih ⊢
    simp only [sideL, sB, List.flatMap_cons] at ih ⊢
    rw [ih h.2]
    congr 1
    by_cases h2 : e.1 = 2
    · rw [if_neg (by omega), if_pos h2]
    · rw [if_pos h2, if_neg h2]
theorem sideL_len (but : Int) (s : List Ed) : (sideL but s).length ≤ tot s := fm_len _ (fun e => by split <;> simp) s
section
variable {ρ : Type} [Inhabited ρ] {inp : List ((Int × ρ) × List Ln)} {i n e : Int}
theorem sideL_more (but : Int) (h0 : 0 ≤ i) (h1 : i < inp.length) : sideL but ((scr inp).take (i + 1).toNat) = sideL but ((scr inp).take i.toNat) ++ (if (inp.getD i.toNat default).1.1 ≠ but then (inp.getD i.toNat default).2 else []) := by
  rw [scr_more h0 h1]; simp [sideL]
theorem rchk_tot (h0 : 0 ≤ i) (h1 : i < inp.length) (q : n = (tot ((scr inp).take i.toNat) : Int)) (h : ((inp.getD i.toNat default).2.length : Int) > 800 - n) : (4 : Int) = chk (scr inp) := by
  have h2 := tot_more h0 h1
  have h3 := tot_take (scr inp) (i + 1).toNat
  have : tot (scr inp) > 800 := by omega
  unfold chk
  rw [if_pos this]
  split <;> rfl
theorem rchk_bad (hl : ¬ (inp.length : Int) > 800) (ht : tot (scr inp) ≤ 800) (h0 : 0 ≤ i) (h1 : i < inp.length) (h : ¬ (1 ≤ (inp.getD i.toNat default).1.1 ∧ (inp.getD i.toNat default).1.1 ≤ 3)) : (3 : Int) = chk (scr inp) := by
  have h2 : okS ((scr inp).take (i + 1).toNat) = false := by rw [okS_more h0 h1, okE, decide_eq_false h, Bool.and_false]
  have h3 : okS (scr inp) = false := by
    cases h4 : okS (scr inp) with
    | false => rfl
    | true =>
      unfold okS at h2 h4
      rw [List.all_eq_true] at h4
      rw [List.all_eq_false] at h2
      obtain ⟨x, hx, hx2⟩ := h2
      exact absurd (h4 x (List.mem_of_mem_take hx)) hx2
  unfold chk
  rw [if_neg (by rw [scr_length]; omega), if_neg (by omega), h3]
  rfl
omit [Inhabited ρ] in
theorem rchk_ok (hl : ¬ (inp.length : Int) > 800) (ht : tot (scr inp) ≤ 800) (h1 : (inp.length : Int) ≤ i) (h : okS ((scr inp).take i.toNat) = true) : (0 : Int) = chk (scr inp) := by
  rw [scr_all h1] at h
  unfold chk
  rw [if_neg (by rw [scr_length]; omega), if_neg (by omega), h]
  rfl
theorem okS_step (h0 : 0 ≤ i) (h1 : i < inp.length) (h : okS ((scr inp).take i.toNat) = true) (h2 : 1 ≤ (inp.getD i.toNat default).1.1 ∧ (inp.getD i.toNat default).1.1 ≤ 3) : okS ((scr inp).take (i + 1).toNat) = true := by
  rw [okS_more h0 h1, h, okE, decide_eq_true h2]; rfl
end
theorem ext_gL {a b : List Ln} (hl : a.length = b.length) (h : ∀ t : Int, 0 ≤ t → t < a.length → (a.getD t.toNat lnD).1 = (b.getD t.toNat lnD).1 ∧ (a.getD t.toNat lnD).2 = (b.getD t.toNat lnD).2) : a = b := by
  apply List.ext_getElem hl
  intro i h1 h2
  have := h i (by omega) (by omega)
  simp only [List.getD, Int.toNat_natCast, h1, h2, List.getElem?_eq_getElem, Option.getD_some] at this
  exact Prod.ext this.1 this.2
theorem ext_scr {a b : List (ED × List Ln)} (hl : a.length = b.length) (h : ∀ t : Int, 0 ≤ t → t < a.length → (a.getD t.toNat default).1.1 = (b.getD t.toNat default).1.1 ∧ (a.getD t.toNat default).2 = (b.getD t.toNat default).2) : scr a = scr b := by
  apply List.ext_getElem (by rw [scr_length, scr_length]; exact hl)
  intro i h1 h2
  have h1' : i < a.length := by rwa [scr_length] at h1
  have h2' : i < b.length := by rwa [scr_length] at h2
  have := h i (by omega) (by omega)
  simp only [List.getD, Int.toNat_natCast, h1', h2', List.getElem?_eq_getElem, Option.getD_some] at this
  simp only [scr, List.getElem_map]
  exact Prod.ext this.1 this.2
end Go.Scr
namespace Go.Scr
open Go Go.Gv Go.Num
def addS (s : List Ed) (d : Int) (l : List Ln) : List Ed :=
  if l = [] then s else match s.getLast? with
    | some e => if e.1 = d then s.dropLast ++ [(d, e.2 ++ l)] else s ++ [(d, l)]
    | none => s ++ [(d, l)]
theorem addS_nil (s : List Ed) (d : Int) {l : List Ln} (h : l = []) : addS s d l = s := by unfold addS; rw [if_pos h]
theorem scr_snoc (rows : List (ED × List Ln)) (r : ED) (xs : List Ln) : scr (rows ++ [(r, xs)]) = scr rows ++ [(r.1, xs)] := by simp [scr]
section
variable {rows : List (ED × List Ln)} {d : Int} {l : List Ln} {sv : SV}
theorem scr_last (h : 0 < rows.length) : (scr rows).getLast? = some ((rows.getD ((rows.length : Int) - 1).toNat default).1.1, (rows.getD ((rows.length : Int) - 1).toNat default).2) := by
  have hlt : rows.length - 1 < rows.length := by omega
  rw [List.getLast?_eq_getElem?, scr_length, show ((rows.length : Int) - 1).toNat = rows.length - 1 by omega]
  simp [scr, List.getD, hlt]
theorem addS_new (hl : l ≠ []) (h : ¬ (0 < rows.length ∧ (rows.getD ((rows.length : Int) - 1).toNat default).1.1 = d)) : scr (rows ++ [((d, sv), l)]) = addS (scr rows) d l := by
  rw [scr_snoc]
  unfold addS
  rw [if_neg hl]
  rcases Nat.eq_zero_or_pos rows.length with h0 | h0
  · have : rows = [] := List.eq_nil_of_length_eq_zero h0
    subst this
    rfl
  · rw [scr_last h0]
    simp only
    rw [if_neg (fun e => h ⟨h0, e⟩)]
theorem addS_more (hl : l ≠ []) (h0 : 0 < rows.length) (h : (rows.getD ((rows.length : Int) - 1).toNat default).1.1 = d) :
    scr (rows.set ((rows.length : Int) - 1).toNat ((((rows.map (·.1)).getD ((rows.length : Int) - 1).toNat default).1, sv), (rows.getD ((rows.length : Int) - 1).toNat default).2 ++ l)) = addS (scr rows) d l := by
  have hlt : rows.length - 1 < rows.length := by omega
  have hk : ((rows.length : Int) - 1).toNat = rows.length - 1 := by omega
  unfold addS
  rw [if_neg hl, scr_last h0]
  simp only
  rw [if_pos h, hk] at *
  have e1 : ((rows.map (·.1)).getD (rows.length - 1) default).1 = d := by
    rw [← h]
    simp [List.getD, hlt]
  rw [e1]
  have e2 : rows.set (rows.length - 1) ((d, sv), (rows.getD (rows.length - 1) default).2 ++ l) = rows.dropLast ++ [((d, sv), (rows.getD (rows.length - 1) default).2 ++ l)] := by
    rw [List.set_eq_take_append_cons_drop, if_pos hlt, List.drop_of_length_le (by omega), List.dropLast_eq_take]
  rw [e2, scr_snoc]
  congr 1
  simp [scr, List.dropLast_eq_take, List.map_take]
end
end Go.Scr
namespace Go.Scr
open Go Go.Gv Go.Num
theorem tot_append (s t : List Ed) : tot (s ++ t) = tot s + tot t := by unfold tot; rw [List.map_append, List.sum_append]
theorem tot_addS (s : List Ed) (d : Int) (l : List Ln) : tot (addS s d l) = tot s + l.length := by
  unfold addS
  split
  · subst_vars; simp
  · split
    · rename_i e he
      split
      · have hs : s = s.dropLast ++ [e] := by
          obtain ⟨ys, rfl⟩ := List.getLast?_eq_some_iff.1 he
          simp
        conv => rhs; rw [hs]
        rw [tot_append, tot_append]
        simp [tot]
        omega
      · rw [tot_append]; simp [tot]
    · rw [tot_append]; simp [tot]
theorem tot_mem {rows : List (ED × List Ln)} {p : ED × List Ln} (h : p ∈ rows) : p.2.length ≤ tot (scr rows) := by
  induction rows with
  | nil => cases h
  | cons q rows ih =>
    rw [show tot (scr (q :: rows)) = q.2.length + tot (scr rows) from rfl]
    rcases List.mem_cons.1 h with rfl | h
    · omega
    · have := ih h; omega
def takeS (x : List Ed × List Ln) (e : Ed) : List Ed × List Ln :=
  if e.1 = 3 then (x.1, x.2 ++ e.2) else if e.1 = 1 ∧ e.2.length > 0 then (addS (addS x.1 3 x.2) e.1 e.2, []) else (addS x.1 e.1 e.2, x.2)
def normP (s : List Ed) : List Ed := let x := s.foldl takeS ([], []); addS x.1 3 x.2
theorem tot_takeS (x : List Ed × List Ln) (e : Ed) : tot (takeS x e).1 + (takeS x e).2.length = tot x.1 + x.2.length + e.2.length := by
  unfold takeS
  split
  · simp; omega
  · split
    · simp only [tot_addS, List.length_nil]; omega
    · simp only [tot_addS]; omega
theorem takeS_in {s : List Ed} {w l : List Ln} {d : Int} (h : d = 3) : (s, w ++ l) = takeS (s, w) (d, l) := by unfold takeS; rw [if_pos h]
theorem takeS_keep {s : List Ed} {w l : List Ln} {d : Int} (h : d = 1) (hl : l.length > 0) : (addS (addS s 3 w) d l, []) = takeS (s, w) (d, l) := by unfold takeS; rw [if_neg (by simp only; omega), if_pos ⟨h, hl⟩]
theorem takeS_out {s : List Ed} {w l : List Ln} {d : Int} (h3 : d ≠ 3) (h : ¬ (d = 1 ∧ l.length > 0)) : (addS s d l, w) = takeS (s, w) (d, l) := by unfold takeS; rw [if_neg h3, if_neg h]
theorem tot_fold (s : List Ed) (x : List Ed × List Ln) : tot (s.foldl takeS x).1 + (s.foldl takeS x).2.length = tot x.1 + x.2.length + tot s := by
  induction s generalizing x with
  | nil => simp [tot]
  | cons e s ih => rw [List.foldl_cons, ih, tot_takeS, show tot (e :: s) = e.2.length + tot s from rfl]; omega
theorem fold_more {ρ : Type} [Inhabited ρ] {inp : List ((Int × ρ) × List Ln)} {i : Int} {x : List Ed × List Ln} (h0 : 0 ≤ i) (h1 : i < inp.length) :
    ((scr inp).take (i + 1).toNat).foldl takeS x = takeS (((scr inp).take i.toNat).foldl takeS x) ((inp.getD i.toNat default).1.1, (inp.getD i.toNat default).2) := by
  rw [scr_more h0 h1, List.foldl_append]; rfl
end Go.Scr
namespace Go.Scr
open Go Go.Gv Go.Num
def NF (s : List Ed) : List Ed := if chk s = 0 then normP s else []
end Go.Scr
namespace Go.Scr
open Go Go.Gv Go.Num
def invE (e : Ed) : Ed := (if e.1 = 2 then 3 else if e.1 = 3 then 2 else e.1, e.2)
def invS (s : List Ed) : List Ed := s.map invE
def IVS (s : List Ed) : List Ed := if chk s = 0 then normP (invS s) else []
theorem tot_inv (s : List Ed) : tot (invS s) = tot s := by unfold tot invS; rw [List.map_map]; rfl
theorem inv_more {ρ : Type} [Inhabited ρ] {inp : List ((Int × ρ) × List Ln)} {out : List (ED × List Ln)} {i d : Int} {sv : SV} (h0 : 0 ≤ i) (h1 : i < inp.length) (h : scr out = invS ((scr inp).take i.toNat))
    (hd : d = if (inp.getD i.toNat default).1.1 = 2 then 3 else if (inp.getD i.toNat default).1.1 = 3 then 2 else (inp.getD i.toNat default).1.1) :
    scr (out ++ [((d, sv), (inp.getD i.toNat default).2)]) = invS ((scr inp).take (i + 1).toNat) := by
  rw [scr_snoc, scr_more h0 h1, h, hd]
  simp [invS, invE]
end Go.Scr
namespace Go.Scr
open Go Go.Gv Go.Num
def apT (s : List Ed) (a : List Ln) : List Ln := if chk s = 0 ∧ SA s = a then SB s else []
def apE (s : List Ed) (a : List Ln) : Int := if chk s ≠ 0 then chk s else if SA s = a then 0 else 8
end Go.Scr
namespace Go.Scr
open Go Go.Gv Go.Num
theorem scr_inj {a b : List (ED × List Ln)} {t : Int} (h : scr a = scr b) (h0 : 0 ≤ t) (ht : t < a.length) : (a.getD t.toNat default).1.1 = (b.getD t.toNat default).1.1 ∧ (a.getD t.toNat default).2 = (b.getD t.toNat default).2 := by
  have hl : a.length = b.length := by have := congrArg List.length h; rwa [scr_length, scr_length] at this
  have h1 : t.toNat < a.length := by omega
  have h2 : t.toNat < b.length := by omega
  have := congrArg (fun s => s[t.toNat]?) h
  simp only [scr, List.getElem?_map, h1, h2, List.getElem?_eq_getElem, Option.map_some, Option.some.injEq, Prod.mk.injEq] at this
  simp only [List.getD, h1, h2, List.getElem?_eq_getElem, Option.getD_some]
  exact this
end Go.Scr
namespace Go.Scr
open Go Go.Gv Go.Num
def layS (s : List Ed) (d : Int) (l : List Ln) : List Ed := if l = [] then s else s ++ [(d, l)]
end Go.Scr
