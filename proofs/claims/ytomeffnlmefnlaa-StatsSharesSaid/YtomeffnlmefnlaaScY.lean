/- What scripts keep, plain. -/
import Derived.Test.YtomeffnlmefnlaaScN2
namespace Go.Scr
open Go Go.Gv Go.Num
/-! ### sides and changes of what grows -/
theorem sA_append (s t : List Ed) : sA (s ++ t) = sA s ++ sA t := by simp [sA]
theorem sB_append (s t : List Ed) : sB (s ++ t) = sB s ++ sB t := by simp [sB]
theorem chg_append (s t : List Ed) : chg (s ++ t) = chg s + chg t := by simp [chg]
theorem addS_split {s : List Ed} {d : Int} {l : List Ln} (f : List Ed → List Ln) (_ : f [] = []) (ha : ∀ s t, f (s ++ t) = f s ++ f t) (h1 : ∀ k l, f [(d, k ++ l)] = f [(d, k)] ++ f [(d, l)]) (hn : f [(d, [])] = []) : f (addS s d l) = f s ++ f [(d, l)] := by
  unfold addS
  split
  · subst_vars; rw [hn, List.append_nil]
  · split
    · rename_i e he
      split
      · rename_i hd
        obtain ⟨ys, rfl⟩ := List.getLast?_eq_some_iff.1 he
        have : e = (d, e.2) := by rw [← hd]
        rw [List.dropLast_concat, ha, h1, ha, ← List.append_assoc]
        congr 2
        rw [← this]
      · rw [ha]
    · rw [ha]
theorem sA_addS (s : List Ed) (d : Int) (l : List Ln) : sA (addS s d l) = sA s ++ (if d = 1 ∨ d = 2 then l else []) := by
  rw [addS_split sA rfl sA_append (fun k l => by simp only [sA, List.flatMap_cons, List.flatMap_nil, List.append_nil]; split <;> simp) (by simp [sA])]
  simp [sA]
theorem sB_addS (s : List Ed) (d : Int) (l : List Ln) : sB (addS s d l) = sB s ++ (if d = 2 then [] else l) := by
  rw [addS_split sB rfl sB_append (fun k l => by simp only [sB, List.flatMap_cons, List.flatMap_nil, List.append_nil]; split <;> simp) (by simp [sB])]
  simp [sB]
theorem chg_addS (s : List Ed) (d : Int) (l : List Ln) : chg (addS s d l) = chg s + (if d = 2 ∨ d = 3 then l.length else 0) := by
  unfold addS
  split
  · subst_vars; simp
  · split
    · rename_i e he
      split
      · rename_i hd
        obtain ⟨ys, rfl⟩ := List.getLast?_eq_some_iff.1 he
        rw [List.dropLast_concat, chg_append, chg_append]
        subst hd
        simp only [chg, List.map_cons, List.map_nil, List.sum_cons, List.sum_nil, List.length_append]
        split <;> omega
      · rw [chg_append]; simp [chg]
    · rw [chg_append]; simp [chg]
def Full (s : List Ed) : Prop := ∀ e ∈ s, e.2 ≠ []
theorem Full.addS {s : List Ed} (h : Full s) (d : Int) (l : List Ln) : Full (addS s d l) := by
  unfold Scr.addS
  split
  · exact h
  · rename_i hl
    split
    · rename_i e he
      split
      · intro x hx
        rcases List.mem_append.1 hx with hx | hx
        · exact h x ((List.dropLast_sublist s).subset hx)
        · simp at hx; subst hx; simp [hl]
      · intro x hx
        rcases List.mem_append.1 hx with hx | hx
        · exact h x hx
        · simp at hx; subst hx; exact hl
    · intro x hx
      rcases List.mem_append.1 hx with hx | hx
      · exact h x hx
      · simp at hx; subst hx; exact hl
theorem Full.len {s : List Ed} (h : Full s) : s.length ≤ tot s := by
  induction s with
  | nil => simp
  | cons e s ih =>
    have h1 := List.length_pos_iff.2 (h e (by simp))
    have h2 := ih (fun x hx => h x (by simp [hx]))
    rw [show tot (e :: s) = e.2.length + tot s from rfl, List.length_cons]
    omega
theorem okS_append (s t : List Ed) : okS (s ++ t) = (okS s && okS t) := by simp [okS]
theorem okS_addS {s : List Ed} {d : Int} {l : List Ln} (h : okS s = true) (hd : okE d = true) : okS (addS s d l) = true := by
  have h1 : ∀ x : List Ln, okS [(d, x)] = true := fun x => by simp [okS, hd]
  unfold addS
  split
  · exact h
  · split
    · rename_i e he
      split
      · obtain ⟨ys, rfl⟩ := List.getLast?_eq_some_iff.1 he
        rw [List.dropLast_concat, okS_append, h1, Bool.and_true]
        rw [okS_append] at h
        simp at h
        exact h.1
      · rw [okS_append, h, h1]; rfl
    · rw [okS_append, h, h1]; rfl
/-! ### the normal form keeps all -/
structure Kept (p : List Ed) (x : List Ed × List Ln) : Prop where
  a : sA x.1 = sA p
  b : sB x.1 ++ x.2 = sB p
  c : chg x.1 + x.2.length = chg p
  t : tot x.1 + x.2.length = tot p
  f : Full x.1
  o : okS x.1 = true
theorem Kept.take {p : List Ed} {x : List Ed × List Ln} (h : Kept p x) {e : Ed} (he : okE e.1 = true) : Kept (p ++ [e]) (takeS x e) := by
  obtain ⟨d, l⟩ := e
  simp only [okE, decide_eq_true_eq] at he
  have hA : sA (p ++ [(d, l)]) = sA p ++ (if d = 1 ∨ d = 2 then l else []) := by rw [sA_append]; simp [sA]
  have hB : sB (p ++ [(d, l)]) = sB p ++ (if d = 2 then [] else l) := by rw [sB_append]; simp [sB]
  have hC : chg (p ++ [(d, l)]) = chg p + (if d = 2 ∨ d = 3 then l.length else 0) := by rw [chg_append]; simp [chg]
  have hT : tot (p ++ [(d, l)]) = tot p + l.length := by rw [tot_append]; simp [tot]
  have okd : okE d = true := by simp [okE]; omega
  unfold takeS
  simp only
  by_cases h3 : d = 3
  · rw [if_pos h3]
    refine ⟨?_, ?_, ?_, ?_, h.f, h.o⟩
    · rw [hA, if_neg (by omega), List.append_nil]; exact h.a
    · rw [hB, if_neg (by omega), ← h.b]; simp
    · rw [hC, if_pos (by omega), ← h.c]; simp only [List.length_append]; omega
    · rw [hT, ← h.t]; simp only [List.length_append]; omega
  · rw [if_neg h3]
    by_cases h1 : d = 1 ∧ l.length > 0
    · rw [if_pos h1]
      obtain ⟨rfl, hl⟩ := h1
      refine ⟨?_, ?_, ?_, ?_, (h.f.addS _ _).addS _ _, okS_addS (okS_addS h.o rfl) rfl⟩
      · simp only [sA_addS, hA, h.a]; simp
      · simp only [sB_addS, hB]; rw [← h.b]; simp
      · simp only [chg_addS, hC]; rw [← h.c]; simp
      · simp only [tot_addS, hT]; rw [← h.t]; simp
    · rw [if_neg h1]
      have hd : d = 2 ∨ l = [] := by
        by_cases hl : l = []
        · exact .inr hl
        · have := List.length_pos_iff.2 hl; left; omega
      refine ⟨?_, ?_, ?_, ?_, h.f.addS _ _, okS_addS h.o okd⟩
      · simp only [sA_addS, hA, h.a]
      · simp only [sB_addS, hB]
        rcases hd with rfl | rfl
        · simp; exact h.b
        · simp; exact h.b
      · simp only [chg_addS, hC]; rw [← h.c]
        rcases hd with rfl | rfl
        · simp; omega
        · simp
      · simp only [tot_addS, hT]; rw [← h.t]; omega
theorem kept_fold (s p : List Ed) (x : List Ed × List Ln) (h : Kept p x) (hs : okS s = true) : Kept (p ++ s) (s.foldl takeS x) := by
  induction s generalizing p x with
  | nil => simpa using h
  | cons e s ih =>
    have hs' : okE e.1 = true ∧ okS s = true := by simpa [okS] using hs
    have := ih (p ++ [e]) (takeS x e) (h.take hs'.1) hs'.2
    simpa using this
theorem normP_kept {s : List Ed} (hs : okS s = true) : sA (normP s) = sA s ∧ sB (normP s) = sB s ∧ chg (normP s) = chg s ∧ tot (normP s) = tot s ∧ Full (normP s) ∧ okS (normP s) = true := by
  have h := kept_fold s [] ([], []) ⟨rfl, rfl, rfl, rfl, (fun _ h => by cases h), rfl⟩ hs
  rw [List.nil_append] at h
  unfold normP
  refine ⟨?_, ?_, ?_, ?_, h.f.addS _ _, okS_addS h.o rfl⟩
  · rw [sA_addS, if_neg (by omega), List.append_nil]; exact h.a
  · rw [sB_addS, if_neg (by omega)]; exact h.b
  · rw [chg_addS, if_pos (by omega)]; exact h.c
  · rw [tot_addS]; exact h.t
theorem chk_normP {s : List Ed} (h : chk s = 0) : chk (normP s) = 0 := by
  obtain ⟨_, h2, h3⟩ := chk0 h
  obtain ⟨_, _, _, k4, k5, k6⟩ := normP_kept h3
  exact chk_of (by have := k5.len; omega) (by omega) k6
theorem okS_inv (s : List Ed) : okS (invS s) = okS s := by
  unfold okS invS
  rw [List.all_map]
  congr 1
  funext e
  show okE (invE e).1 = okE e.1
  simp only [okE, invE]
  refine decide_eq_decide.2 ?_
  split
  · omega
  · split <;> omega
theorem inv_one {e : Ed} (h : 1 ≤ e.1 ∧ e.1 ≤ 3) : invE (invE e) = e := by
  obtain ⟨d, l⟩ := e
  simp only at h
  have : d = 1 ∨ d = 2 ∨ d = 3 := by omega
  rcases this with rfl | rfl | rfl <;> simp [invE]
theorem inv_side {e : Ed} (h : 1 ≤ e.1 ∧ e.1 ≤ 3) : (if (invE e).1 = 1 ∨ (invE e).1 = 2 then (invE e).2 else []) = (if e.1 = 2 then [] else e.2) := by
  obtain ⟨d, l⟩ := e
  simp only at h
  have : d = 1 ∨ d = 2 ∨ d = 3 := by omega
  rcases this with rfl | rfl | rfl <;> simp [invE]
theorem inv_inv {s : List Ed} (h : okS s = true) : invS (invS s) = s := by
  unfold invS
  rw [List.map_map]
  conv => rhs; rw [← List.map_id s]
  refine List.map_congr_left fun e he => ?_
  have h1 : okE e.1 = true := by unfold okS at h; rw [List.all_eq_true] at h; exact h e he
  simp only [okE, decide_eq_true_eq] at h1
  exact inv_one h1
theorem sA_inv {s : List Ed} (h : okS s = true) : sA (invS s) = sB s := by
  induction s with
  | nil => rfl
  | cons e s ih =>
    simp only [okS, List.all_cons, Bool.and_eq_true, okE, decide_eq_true_eq] at h ih
    have := ih h.2
    simp only [sA, sB, invS, List.map_cons, List.flatMap_cons] at this ⊢
    rw [this, inv_side h.1]
theorem sB_inv {s : List Ed} (h : okS s = true) : sB (invS s) = sA s := by
  have h1 := sA_inv (s := invS s) (by rw [okS_inv]; exact h)
  rw [inv_inv h] at h1
  exact h1.symm
theorem chg_inv (s : List Ed) : chg (invS s) = chg s := by
  unfold chg invS
  rw [List.map_map]
  congr 1
  refine List.map_congr_left fun e _ => ?_
  simp only [Function.comp, invE]
  split
  · rw [if_pos (by omega), if_pos (by omega)]
  · split
    · rw [if_pos (by omega), if_pos (by omega)]
    · rfl
theorem chk_NF (s : List Ed) : chk (NF s) = 0 := by
  unfold NF
  split
  · exact chk_normP ‹_›
  · rfl
theorem chk_IVS (s : List Ed) : chk (IVS s) = 0 := by rw [← NF_inv]; exact chk_NF _
theorem SA_NF (s : List Ed) : SA (NF s) = SA s := by
  unfold SA
  rw [if_pos (chk_NF s)]
  unfold NF
  split
  · rename_i h; exact (normP_kept (chk0 h).2.2).1
  · rfl
theorem SB_NF (s : List Ed) : SB (NF s) = SB s := by
  unfold SB
  rw [if_pos (chk_NF s)]
  unfold NF
  split
  · rename_i h; exact (normP_kept (chk0 h).2.2).2.1
  · rfl
theorem SA_IVS (s : List Ed) : SA (IVS s) = SB s := by
  rw [← NF_inv, SA_NF]
  unfold SA SB
  rw [chk_inv]
  split
  · rename_i h; exact sA_inv (chk0 h).2.2
  · rfl
theorem SB_IVS (s : List Ed) : SB (IVS s) = SA s := by
  rw [← NF_inv, SB_NF]
  unfold SA SB
  rw [chk_inv]
  split
  · rename_i h; exact sB_inv (chk0 h).2.2
  · rfl
theorem chgI_chg {s : List Ed} (h : tot s ≤ 1000) : chgI s = chg s := by
  have gen : ∀ (s : List Ed) (n : Nat), n + tot s ≤ 1000 → s.foldl (fun (n : Int) (e : Ed) => if e.1 = 2 ∨ e.1 = 3 then IntKind.i64.wrap (n + (e.2.length : Int)) else n) (n : Int) = ((n + chg s : Nat) : Int) := by
    intro s
    induction s with
    | nil => intro n _; simp [chg]
    | cons e s ih =>
      intro n hn
      rw [show tot (e :: s) = e.2.length + tot s from rfl] at hn
      have hc : chg (e :: s) = (if e.1 = 2 ∨ e.1 = 3 then e.2.length else 0) + chg s := rfl
      rw [List.foldl_cons, hc]
      split
      · rw [wr64 (by omega) (by omega)]
        have := ih (n + e.2.length) (by omega)
        rw [show ((n : Int) + (e.2.length : Int)) = ((n + e.2.length : Nat) : Int) by omega, this]
        congr 1
        omega
      · rw [ih n (by omega)]; simp
  have := gen s 0 (by omega)
  simpa [chgI] using this
theorem chgI_NF {s : List Ed} (h : chk s = 0) : chgI (NF s) = chgI s := by
  obtain ⟨_, h2, h3⟩ := chk0 h
  have k := normP_kept h3
  rw [show NF s = normP s from if_pos h, chgI_chg (by omega), chgI_chg (by omega), k.2.2.1]
theorem chgI_IVS {s : List Ed} (h : chk s = 0) : chgI (IVS s) = chgI s := by
  rw [← NF_inv, chgI_NF (by rw [chk_inv]; exact h)]
  obtain ⟨_, h2, _⟩ := chk0 h
  rw [chgI_chg (by rw [tot_inv]; omega), chgI_chg (by omega), chg_inv]
/-! ### the normal form out of segments -/
abbrev Sg := List Ln × List Ln × List Ln
def segE (x : Sg) : List Ed := layS (layS (layS [] 1 x.1) 2 x.2.1) 3 x.2.2
def segStep (x : List Sg × Sg) (e : Ed) : List Sg × Sg :=
  if e.1 = 1 then (if e.2 ≠ [] ∧ (x.2.2.1 ≠ [] ∨ x.2.2.2 ≠ []) then (x.1 ++ [x.2], (e.2, [], [])) else (x.1, (x.2.1 ++ e.2, x.2.2)))
  else if e.1 = 2 then (x.1, (x.2.1, x.2.2.1 ++ e.2, x.2.2.2)) else (x.1, (x.2.1, x.2.2.1, x.2.2.2 ++ e.2))
def seg (s : List Ed) : List Sg × Sg := s.foldl segStep ([], ([], [], []))
def unseg (x : List Sg × Sg) : List Ed := x.1.flatMap segE ++ segE x.2
theorem layS_app (o : List Ed) (d : Int) (l : List Ln) : layS o d l = o ++ layS [] d l := by unfold layS; split <;> simp
theorem seg_lay (o : List Ed) (x : Sg) : layS (layS (layS o 1 x.1) 2 x.2.1) 3 x.2.2 = o ++ segE x := by
  unfold segE
  rw [layS_app (layS (layS o 1 x.1) 2 x.2.1), layS_app (layS o 1 x.1), layS_app o, layS_app (layS (layS [] 1 x.1) 2 x.2.1), layS_app (layS [] 1 x.1)]
  simp
structure SegInv (s : List Ed) (x : List Sg × Sg) : Prop where
  fold : s.foldl takeS ([], []) = NS (x.1.flatMap segE) x.2.1 x.2.2.1 x.2.2.2
  ni : NI (x.1.flatMap segE) x.2.1
  full : ∀ y ∈ x.1, y.2.1 ≠ [] ∨ y.2.2 ≠ []
  ks : ∀ (i : Nat) y, (x.1 ++ [x.2])[i]? = some y → 0 < i → y.1 ≠ []
theorem seg_inv {s : List Ed} (hs : okS s = true) : SegInv s (seg s) := by
  have gen : ∀ (s p : List Ed) (x : List Sg × Sg), okS s = true → SegInv p x → SegInv (p ++ s) (s.foldl segStep x) := by
    intro s
    induction s with
    | nil => intro p x _ h; simpa using h
    | cons e s ih =>
      intro p x hs h
      have hs' : okE e.1 = true ∧ okS s = true := by simpa [okS] using hs
      have key : SegInv (p ++ [e]) (segStep x e) := by
        obtain ⟨d, l⟩ := e
        have hd := hs'.1
        simp only [okE, decide_eq_true_eq] at hd
        have hf : (p ++ [(d, l)]).foldl takeS ([], []) = takeS (p.foldl takeS ([], [])) (d, l) := by rw [List.foldl_append]; rfl
        obtain ⟨dn, k, g, m⟩ := x
        have hks : ∀ (y' : Sg), (dn = [] ∨ y'.1 ≠ []) → ∀ (i : Nat) y, (dn ++ [y'])[i]? = some y → 0 < i → y.1 ≠ [] := fun y' hy' i y hi h0 => by
          rcases Nat.lt_or_ge i dn.length with hlt | hge
          · rw [List.getElem?_append_left hlt] at hi
            exact h.ks i y (by rw [List.getElem?_append_left hlt]; exact hi) h0
          · rcases Nat.eq_or_lt_of_le hge with he | hgt
            · subst he
              rw [List.getElem?_append_right (Nat.le_refl _)] at hi
              simp at hi
              subst hi
              rcases hy' with h' | h'
              · subst h'; simp at h0
              · exact h'
            · rw [List.getElem?_eq_none (by simp; omega)] at hi; cases hi
        have hk0 : dn = [] ∨ k ≠ [] := by
          by_cases hdn : dn = []
          · exact .inl hdn
          · exact .inr (h.ks dn.length (k, g, m) (by simp) (List.length_pos_iff.2 hdn))
        unfold segStep
        simp only
        by_cases h1 : d = 1
        · rw [if_pos h1]
          by_cases hc : l ≠ [] ∧ (g ≠ [] ∨ m ≠ [])
          · rw [if_pos hc]
            have hl : (l.length : Int) > 0 := by have := List.length_pos_iff.2 hc.1; omega
            have hgm : (g.length : Int) + (m.length : Int) > 0 := by
              rcases hc.2 with h' | h' <;> (have := List.length_pos_iff.2 h'; omega)
            have e1 : (dn ++ [(k, g, m)]).flatMap segE = layS (layS (layS (dn.flatMap segE) 1 k) 2 g) 3 m := by
              rw [List.flatMap_append]
              simp only [List.flatMap_cons, List.flatMap_nil, List.append_nil]
              exact (seg_lay _ (k, g, m)).symm
            refine ⟨?_, ?_, ?_, ?_⟩
            · rw [hf, ns_flush h.fold h.ni h1 hl]; simp only [e1, List.nil_append]
            · have := ni_flush (l := l) h.ni hl hgm; simp only [e1]; simpa using this
            · intro y hy
              simp only [List.mem_append, List.mem_singleton] at hy
              rcases hy with hy | rfl
              · exact h.full y hy
              · exact hc.2
            · intro i y hi h0
              simp only at hi
              rcases Nat.lt_or_ge i (dn ++ [(k, g, m)]).length with hlt | hge
              · rw [List.getElem?_append_left hlt] at hi
                exact h.ks i y hi h0
              · rcases Nat.eq_or_lt_of_le hge with he | hgt
                · subst he
                  rw [List.getElem?_append_right (Nat.le_refl _)] at hi
                  simp at hi
                  subst hi
                  exact hc.1
                · rw [List.getElem?_eq_none (by simp at hgt ⊢; omega)] at hi; cases hi
          · rw [if_neg hc]
            refine ⟨?_, ni_keep h.ni, h.full, hks _ ?_⟩
            · rw [hf]
              by_cases hl : l = []
              · exact ns_keep0 h.fold h1 (by subst hl; simp)
              · refine ns_keep1 h.fold h1 (by have := List.length_pos_iff.2 hl; omega) ?_
                have h2 : g = [] := Classical.byContradiction fun h' => hc ⟨hl, .inl h'⟩
                have h3 : m = [] := Classical.byContradiction fun h' => hc ⟨hl, .inr h'⟩
                subst h2 h3
                simp
            · rcases hk0 with h' | h'
              · exact .inl h'
              · exact .inr (by simp [h'])
        · rw [if_neg h1]
          by_cases h2 : d = 2
          · rw [if_pos h2]
            exact ⟨by rw [hf]; exact ns_out h.fold h2, h.ni, h.full, hks _ hk0⟩
          · rw [if_neg h2]
            exact ⟨by rw [hf]; exact ns_in h.fold (by omega), h.ni, h.full, hks _ hk0⟩
      have := ih (p ++ [e]) (segStep x e) hs'.2 key
      simpa using this
  have := gen s [] ([], ([], [], [])) hs ⟨rfl, .inl rfl, (fun _ h => by cases h), (fun i y hi h0 => by rw [show ([] : List Sg) ++ [([], [], [])] = [([], [], [])] from rfl, List.getElem?_eq_none (by simp; omega)] at hi; cases hi)⟩
  simpa [seg] using this
theorem normP_seg {s : List Ed} (hs : okS s = true) : normP s = unseg (seg s) := by
  have h := seg_inv hs
  unfold normP
  simp only [h.fold]
  have := lay3 (g := (seg s).2.2.1) (m := (seg s).2.2.2) h.ni
  unfold NS
  simp only
  rw [← this, seg_lay]
  rfl
theorem fold_lay (x : List Sg × Sg) (d : Int) (l : List Ln) (s : List Ed) : (layS [] d l ++ s).foldl segStep x = s.foldl segStep (if l = [] then x else segStep x (d, l)) := by
  unfold layS; split <;> simp
theorem segE_eq (x : Sg) : segE x = layS [] 1 x.1 ++ (layS [] 2 x.2.1 ++ (layS [] 3 x.2.2 ++ [])) := by
  unfold segE
  rw [layS_app (layS (layS [] 1 x.1) 2 x.2.1), layS_app (layS [] 1 x.1)]
  simp
/-- A segment's edits, read behind what ends a segment or is nothing. -/
theorem seg_one (dn : List Sg) (c y : Sg) (h : (dn = [] ∧ c = ([], [], [])) ∨ ((c.2.1 ≠ [] ∨ c.2.2 ≠ []) ∧ y.1 ≠ [])) :
    (segE y).foldl segStep (dn, c) = (if dn = [] ∧ c = ([], [], []) then [] else dn ++ [c], y) := by
  obtain ⟨k, g, m⟩ := y
  rw [segE_eq, fold_lay, fold_lay, fold_lay]
  simp only [List.foldl_nil]
  have h1 : (if k = [] then (dn, c) else segStep (dn, c) (1, k)) = (if dn = [] ∧ c = ([], [], []) then [] else dn ++ [c], (k, [], [])) := by
    rcases h with ⟨rfl, rfl⟩ | ⟨h1, h2⟩
    · rw [show (if ([] : List Sg) = [] ∧ (([] : List Ln), ([] : List Ln), ([] : List Ln)) = ([], [], []) then ([] : List Sg) else [] ++ [([], [], [])]) = [] from if_pos ⟨rfl, rfl⟩]
      split
      · subst_vars; rfl
      · unfold segStep; rw [if_pos rfl, if_neg (by simp)]; simp
    · have hne : ¬ (dn = [] ∧ c = ([], [], [])) := fun h' => by rw [h'.2] at h1; simp at h1
      simp only at h2
      rw [if_neg hne, if_neg h2]
      unfold segStep
      rw [if_pos rfl, if_pos ⟨h2, h1⟩]
  rw [h1]
  generalize (if dn = [] ∧ c = ([], [], []) then [] else dn ++ [c]) = D
  have h2 : (if g = [] then (D, (k, ([] : List Ln), ([] : List Ln))) else segStep (D, (k, [], [])) (2, g)) = (D, (k, g, [])) := by
    split
    · subst_vars; rfl
    · unfold segStep; rw [if_neg (by simp), if_pos rfl]; simp
  rw [h2]
  split
  · subst_vars; rfl
  · unfold segStep; rw [if_neg (by simp), if_neg (by simp)]; simp
theorem seg_unseg {x : List Sg × Sg} (hf : ∀ y ∈ x.1, y.2.1 ≠ [] ∨ y.2.2 ≠ []) (hk : ∀ (i : Nat) y, (x.1 ++ [x.2])[i]? = some y → 0 < i → y.1 ≠ []) : seg (unseg x) = x := by
  have gen : ∀ (l dn : List Sg) (c : Sg), (∀ y ∈ (dn ++ [c] ++ l).dropLast, y.2.1 ≠ [] ∨ y.2.2 ≠ []) → (∀ y ∈ l, y.1 ≠ []) → (l.flatMap segE).foldl segStep (dn, c) = ((dn ++ [c] ++ l).dropLast, l.getLastD c) := by
    intro l
    induction l with
    | nil => intro dn c _ _; simp
    | cons y l ih =>
      intro dn c h1 h2
      have hc : c.2.1 ≠ [] ∨ c.2.2 ≠ [] := h1 c (by
        have : (dn ++ [c] ++ y :: l).dropLast = dn ++ [c] ++ (y :: l).dropLast := by rw [List.dropLast_append_of_ne_nil (by simp)]
        rw [this]; simp)
      have hne : ¬ (dn = [] ∧ c = ([], [], [])) := fun h' => by rw [h'.2] at hc; simp at hc
      rw [List.flatMap_cons, List.foldl_append, seg_one dn c y (.inr ⟨hc, h2 y (by simp)⟩), if_neg hne, ih (dn ++ [c]) y (by simpa using h1) (fun z hz => h2 z (by simp [hz])), List.getLastD_cons]
      simp
  obtain ⟨dn, c⟩ := x
  simp only at hf hk
  have e0 : unseg (dn, c) = (dn ++ [c]).flatMap segE := by simp [unseg]
  unfold seg
  rw [e0]
  cases dn with
  | nil =>
    simp only [List.nil_append, List.flatMap_cons, List.flatMap_nil, List.append_nil]
    rw [seg_one [] ([], [], []) c (.inl ⟨rfl, rfl⟩), if_pos ⟨rfl, rfl⟩]
  | cons y dn =>
    rw [List.cons_append, List.flatMap_cons, List.foldl_append, seg_one [] ([], [], []) y (.inl ⟨rfl, rfl⟩), if_pos ⟨rfl, rfl⟩, gen (dn ++ [c]) [] y]
    · have h3 : ([] ++ [y] ++ (dn ++ [c])).dropLast = y :: dn := by
        rw [← List.append_assoc, List.dropLast_concat]; rfl
      rw [h3, List.getLastD_concat]
    · have h3 : ([] ++ [y] ++ (dn ++ [c])).dropLast = y :: dn := by
        rw [← List.append_assoc, List.dropLast_concat]; rfl
      rw [h3]
      exact hf
    · intro z hz
      obtain ⟨i, hi⟩ := List.mem_iff_getElem?.1 hz
      exact hk (i + 1) z (by simpa using hi) (by omega)
def swp (x : Sg) : Sg := (x.1, x.2.2, x.2.1)
def swS (x : List Sg × Sg) : List Sg × Sg := (x.1.map swp, swp x.2)
theorem seg1 (dn : List Sg) (k g m l : List Ln) : segStep (dn, (k, g, m)) (1, l) = if l ≠ [] ∧ (g ≠ [] ∨ m ≠ []) then (dn ++ [(k, g, m)], (l, [], [])) else (dn, (k ++ l, (g, m))) := if_pos rfl
theorem seg_swap {s : List Ed} (hs : okS s = true) : seg (invS s) = swS (seg s) := by
  have gen : ∀ (s : List Ed) (x : List Sg × Sg), okS s = true → (invS s).foldl segStep (swS x) = swS (s.foldl segStep x) := by
    intro s
    induction s with
    | nil => intro x _; rfl
    | cons e s ih =>
      intro x hs
      have hs' : okE e.1 = true ∧ okS s = true := by simpa [okS] using hs
      have key : segStep (swS x) (invE e) = swS (segStep x e) := by
        obtain ⟨d, l⟩ := e
        have hd := hs'.1
        simp only [okE, decide_eq_true_eq] at hd
        obtain ⟨dn, k, g, m⟩ := x
        have : d = 1 ∨ d = 2 ∨ d = 3 := by omega
        rcases this with rfl | rfl | rfl
        · have e1 : invE (1, l) = (1, l) := by simp [invE]
          rw [e1]
          show segStep (dn.map swp, (k, m, g)) (1, l) = _
          rw [seg1, seg1]
          by_cases hc : l ≠ [] ∧ (g ≠ [] ∨ m ≠ [])
          · rw [if_pos ⟨hc.1, hc.2.symm⟩, if_pos hc]; simp [swS, swp]
          · rw [if_neg (fun h => hc ⟨h.1, h.2.symm⟩), if_neg hc]; rfl
        · have e1 : invE (2, l) = (3, l) := by simp [invE]
          rw [e1]
          simp [segStep, swS, swp]
        · have e1 : invE (3, l) = (2, l) := by simp [invE]
          rw [e1]
          simp [segStep, swS, swp]
      show ((invE e) :: invS s).foldl segStep (swS x) = _
      rw [List.foldl_cons, List.foldl_cons, key]
      exact ih _ hs'.2
  exact gen s ([], ([], [], [])) hs
theorem seg_norm {s : List Ed} (hs : okS s = true) : seg (normP s) = seg s := by
  have h := seg_inv hs
  rw [normP_seg hs]
  exact seg_unseg h.full h.ks
/-- The normal form's normal form. -/
theorem norm_norm {s : List Ed} (hs : okS s = true) : normP (normP s) = normP s := by
  rw [normP_seg (normP_kept hs).2.2.2.2.2, seg_norm hs, ← normP_seg hs]
theorem norm_inv_norm {s : List Ed} (hs : okS s = true) : normP (invS (normP s)) = normP (invS s) := by
  have h1 := (normP_kept hs).2.2.2.2.2
  rw [normP_seg (by rw [okS_inv]; exact h1), seg_swap h1, seg_norm hs, ← seg_swap hs, ← normP_seg (by rw [okS_inv]; exact hs)]
theorem NF_NF {s : List Ed} (h : chk s = 0) : NF (NF s) = NF s := by
  have h3 := (chk0 h).2.2
  rw [show NF s = normP s from if_pos h, show NF (normP s) = normP (normP s) from if_pos (chk_normP h), norm_norm h3]
theorem IVS_IVS {s : List Ed} (h : chk s = 0) : IVS (IVS s) = NF s := by
  have h3 := (chk0 h).2.2
  have h4 : okS (invS s) = true := by rw [okS_inv]; exact h3
  have hi : chk (invS s) = 0 := by rw [chk_inv]; exact h
  rw [show IVS s = normP (invS s) from if_pos h, show IVS (normP (invS s)) = normP (invS (normP (invS s))) from if_pos (chk_normP hi), norm_inv_norm h4, inv_inv h3]
  exact (if_pos h).symm
end Go.Scr
