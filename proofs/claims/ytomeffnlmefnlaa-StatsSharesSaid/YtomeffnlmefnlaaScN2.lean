/- The document's normal form is the program's, plain. -/
import Derived.Test.YtomeffnlmefnlaaScP
namespace Go.Scr
open Go Go.Gv Go.Num
theorem addS_last {s : List Ed} {d : Int} {l : List Ln} (hl : l ≠ []) : ∃ e, (addS s d l).getLast? = some e ∧ e.1 = d := by
  unfold addS
  rw [if_neg hl]
  split
  · split <;> simp
  · simp
theorem addS_nil' (s : List Ed) (d : Int) : addS s d [] = s := addS_nil s d rfl
theorem addS_addS (s : List Ed) (d : Int) (k l : List Ln) : addS (addS s d k) d l = addS s d (k ++ l) := by
  by_cases hk : k = []
  · subst hk; rw [addS_nil', List.nil_append]
  by_cases hl : l = []
  · subst hl; rw [addS_nil', List.append_nil]
  have hkl : k ++ l ≠ [] := by simp [hk]
  have e1 : addS s d k = (match s.getLast? with | some e => if e.1 = d then s.dropLast ++ [(d, e.2 ++ k)] else s ++ [(d, k)] | none => s ++ [(d, k)]) := if_neg hk
  have e2 : addS s d (k ++ l) = (match s.getLast? with | some e => if e.1 = d then s.dropLast ++ [(d, e.2 ++ (k ++ l))] else s ++ [(d, k ++ l)] | none => s ++ [(d, k ++ l)]) := if_neg hkl
  rw [e2, e1]
  cases hs : s.getLast? with
  | none => simp only; unfold addS; rw [if_neg hl]; simp
  | some e =>
    simp only
    by_cases he : e.1 = d
    · rw [if_pos he, if_pos he]; unfold addS; rw [if_neg hl]; simp
    · rw [if_neg he, if_neg he]; unfold addS; rw [if_neg hl]; simp
theorem addS_lay {s : List Ed} {d : Int} {l : List Ln} (h : ∀ e, s.getLast? = some e → e.1 ≠ d) : layS s d l = addS s d l := by
  unfold layS addS
  by_cases hl : l = []
  · rw [if_pos hl, if_pos hl]
  · rw [if_neg hl, if_neg hl]
    cases hs : s.getLast? with
    | none => rfl
    | some e => simp only; rw [if_neg (h e hs)]
theorem tot_lay (s : List Ed) (d : Int) (l : List Ln) : tot (layS s d l) = tot s + l.length := by
  unfold layS
  split
  · subst_vars; simp
  · rw [tot_append]; simp [tot]
def NI (o : List Ed) (k : List Ln) : Prop := o = [] ∨ (∃ e, o.getLast? = some e ∧ e.1 ≠ 1) ∧ k ≠ []
def NS (o : List Ed) (k g m : List Ln) : List Ed × List Ln := (addS (addS o 1 k) 2 g, m)
theorem lay3 {o : List Ed} {k g m : List Ln} (h : NI o k) : layS (layS (layS o 1 k) 2 g) 3 m = addS (addS (addS o 1 k) 2 g) 3 m := by
  have h1 : layS o 1 k = addS o 1 k := addS_lay fun e he => by
    rcases h with h | ⟨⟨e', h1, h2⟩, _⟩
    · subst h; simp at he
    · rw [h1] at he; injection he with he; subst he; exact h2
  rw [h1]
  have l1 : ∀ e, (addS o 1 k).getLast? = some e → e.1 = 1 := fun e he => by
    by_cases hk : k = []
    · subst hk
      rw [addS_nil'] at he
      rcases h with h | ⟨_, h⟩
      · subst h; simp at he
      · exact absurd rfl h
    · obtain ⟨e', h3, h4⟩ := addS_last (s := o) (d := 1) hk
      rw [h3] at he; injection he with he; subst he; exact h4
  have h2 : layS (addS o 1 k) 2 g = addS (addS o 1 k) 2 g := addS_lay fun e he => by rw [l1 e he]; omega
  rw [h2]
  refine addS_lay fun e he => ?_
  by_cases hg : g = []
  · subst hg; rw [addS_nil'] at he; rw [l1 e he]; omega
  · obtain ⟨e', h3, h4⟩ := addS_last (s := addS o 1 k) (d := 2) hg
    rw [h3] at he; injection he with he; subst he; rw [h4]; omega
section
variable {o : List Ed} {k g m l : List Ln} {x : List Ed × List Ln}
theorem ns_out (h : x = NS o k g m) {d : Int} (hd : d = 2) : takeS x (d, l) = NS o k (g ++ l) m := by
  subst h hd; unfold takeS NS; rw [if_neg (by simp), if_neg (by simp)]; simp only; rw [addS_addS]
theorem ns_in (h : x = NS o k g m) {d : Int} (hd : d = 3) : takeS x (d, l) = NS o k g (m ++ l) := by
  subst h hd; unfold takeS NS; rw [if_pos rfl]
theorem ns_keep0 (h : x = NS o k g m) {d : Int} (hd : d = 1) (hl : ¬ (l.length : Int) > 0) : takeS x (d, l) = NS o (k ++ l) g m := by
  have : l = [] := List.eq_nil_of_length_eq_zero (by omega)
  subst this h hd; unfold takeS NS; rw [if_neg (by simp), if_neg (by simp)]; simp only [addS_nil', List.append_nil]
theorem ns_keep1 (h : x = NS o k g m) {d : Int} (hd : d = 1) (hl : (l.length : Int) > 0) (hg : ¬ (g.length : Int) + (m.length : Int) > 0) : takeS x (d, l) = NS o (k ++ l) g m := by
  have h1 : g = [] := List.eq_nil_of_length_eq_zero (by omega)
  have h2 : m = [] := List.eq_nil_of_length_eq_zero (by omega)
  subst h1 h2 h hd; unfold takeS NS; rw [if_neg (by simp), if_pos ⟨rfl, by simp only; omega⟩]; simp only [addS_nil', addS_addS]
theorem ns_flush (h : x = NS o k g m) (hi : NI o k) {d : Int} (hd : d = 1) (hl : (l.length : Int) > 0) : takeS x (d, l) = NS (layS (layS (layS o 1 k) 2 g) 3 m) (([] : List Ln) ++ l) [] [] := by
  subst h hd; unfold takeS NS; rw [if_neg (by simp), if_pos ⟨rfl, by simp only; omega⟩, lay3 hi]; simp only [addS_nil', List.nil_append]
theorem ni_keep (h : NI o k) : NI o (k ++ l) := by
  rcases h with h | ⟨h1, h2⟩
  · exact .inl h
  · exact .inr ⟨h1, by simp [h2]⟩
theorem ni_flush (hi : NI o k) (hl : (l.length : Int) > 0) (hg : (g.length : Int) + (m.length : Int) > 0) : NI (layS (layS (layS o 1 k) 2 g) 3 m) (([] : List Ln) ++ l) := by
  refine .inr ⟨?_, fun h => by simp at h; subst h; simp at hl⟩
  rw [lay3 hi]
  by_cases hm : m = []
  · subst hm
    have hg' : g ≠ [] := fun h => by subst h; simp at hg
    rw [addS_nil']
    obtain ⟨e, h1, h2⟩ := addS_last (s := addS o 1 k) (d := 2) hg'
    exact ⟨e, h1, by omega⟩
  · obtain ⟨e, h1, h2⟩ := addS_last (s := addS (addS o 1 k) 2 g) (d := 3) hm
    exact ⟨e, h1, by omega⟩
end
theorem okS_at {inp : List (ED × List Ln)} {i : Int} (h : chk (scr inp) = 0) (h0 : 0 ≤ i) (h1 : i < inp.length) : 1 ≤ (inp.getD i.toNat default).1.1 ∧ (inp.getD i.toNat default).1.1 ≤ 3 := by
  have h2 := (chk0 h).2.2
  unfold okS at h2
  rw [List.all_eq_true] at h2
  have := h2 ((inp.getD i.toNat default).1.1, (inp.getD i.toNat default).2) (List.mem_map.2 ⟨inp.getD i.toNat default, getD_mem (by omega), rfl⟩)
  simpa [okE] using this
theorem chk_inv (s : List Ed) : chk (invS s) = chk s := by
  have h1 : (invS s).length = s.length := by simp [invS]
  have h2 : okS (invS s) = okS s := by
    unfold okS invS
    rw [List.all_map]
    congr 1
    funext e
    show okE (invE e).1 = okE e.1
    simp only [okE, invE]
    refine decide_eq_decide.2 ?_
    split
    · omega
    · split <;> omega
  unfold chk
  rw [h1, h2, tot_inv]
theorem NF_inv (s : List Ed) : NF (invS s) = IVS s := by unfold NF IVS; rw [chk_inv]
theorem inv_hm {inp out : List (ED × List Ln)} {K : Nat} (h : scr out = invS (scr inp)) (hm : ∀ p ∈ inp, p.2.length ≤ K) : ∀ p ∈ out, p.2.length ≤ K := fun p hp => by
  have h1 : (p.1.1, p.2) ∈ scr out := List.mem_map.2 ⟨p, hp, rfl⟩
  rw [h] at h1
  obtain ⟨e, he, h2⟩ := List.mem_map.1 h1
  obtain ⟨q, hq, h3⟩ := List.mem_map.1 he
  have : p.2 = q.2 := by rw [← h3] at h2; exact (congrArg Prod.snd h2).symm
  rw [this]; exact hm q hq
theorem mkE_ok (a b : List Ln) (s : List Int) (i j : Int) (h : ∀ x ∈ s, x = 1 ∨ x = 2 ∨ x = 3) : okS (mkE a b s i j) = true := by
  induction s generalizing i j with
  | nil => rfl
  | cons x s ih =>
    have h1 := h x (by simp)
    have h2 := fun i j => ih i j (fun y hy => h y (by simp [hy]))
    have cons : ∀ (e : Ed) (l : List Ed), okS (e :: l) = (okE e.1 && okS l) := fun e l => rfl
    unfold mkE
    split
    · rw [cons, h2]; rfl
    · rw [cons, h2, Bool.and_true]; exact decide_eq_true (by simp only []; omega)
theorem Stp_all (a b : List Int) : ∀ x ∈ Mys.Stp a b, x = 1 ∨ x = 2 ∨ x = 3 := fun x hx => by
  unfold Mys.Stp at hx
  split at hx
  · cases hx
  · exact (Mys.way_mem _ a b (Nat.le_refl _)).2 x hx
theorem chk_of {s : List Ed} (h1 : s.length ≤ 800) (h2 : tot s ≤ 800) (h3 : okS s = true) : chk s = 0 := by
  unfold chk; rw [if_neg (by omega), if_neg (by omega), h3]; rfl
theorem chk_raw (a b : List Ln) : chk (rawM a b) = 0 := chk_of (by unfold rawM; rw [mkE_length]; exact Mys.Stp_len _ _) (by unfold rawM; rw [mkE_tot]; exact Mys.Stp_len _ _) (mkE_ok _ _ _ _ _ (Stp_all _ _))
theorem NF_raw {a b : List Ln} (h : ¬ (a.length > 400 ∨ b.length > 400)) : NF (rawM a b) = MKS a b := by unfold NF MKS; rw [if_pos (chk_raw a b), if_neg h]
end Go.Scr
