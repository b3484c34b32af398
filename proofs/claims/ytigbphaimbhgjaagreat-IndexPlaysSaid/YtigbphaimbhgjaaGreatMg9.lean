/- Entries, files, hits: plain. -/
import Derived.Test.YtigbphaimbhgjaaGreatMg7
import Derived.Test.YtigbphaimbhgjaaGreatMg8
import Derived.Test.YtigbphaimbhgjaaGreatMg3
import Derived.Deep.MidRow
namespace Go.Idx
open Go Go.Gv Go.Wds Go.Tly
abbrev Fl := ByteArray × List Itm
/-! ### entries -/
/-- Has a line a word? (anchors have none) -/
def HW (y : Itm) (q : ByteArray) : Prop := y.2.2.1 = false ∧ q ∈ OF y.2.2.2.1
instance (y : Itm) (q : ByteArray) : Decidable (HW y q) := by unfold HW; exact inferInstance
def ENI (f q : ByteArray) : Int → List Itm → List En
  | _, [] => []
  | i, y :: l => (if HW y q then [(f, i)] else []) ++ ENI f q (i + 1) l
theorem ENI_app (f q : ByteArray) : ∀ (i : Int) (l m : List Itm), ENI f q i (l ++ m) = ENI f q i l ++ ENI f q (i + l.length) m
  | i, [], m => by simp [ENI]
  | i, y :: l, m => by
    rw [List.cons_append, ENI, ENI, ENI_app f q (i + 1) l m, List.append_assoc, List.length_cons]
    congr 3; omega
theorem ENI_at {f q : ByteArray} {l : List Itm} {i : Int} (h0 : 0 ≤ i) (h1 : i < l.length) : ENI f q 0 (l.take (i + 1).toNat) = ENI f q 0 (l.take i.toNat) ++ (if HW (l.getD i.toNat dI) q then [(f, i)] else []) := by
  rw [Num.take_more dI h0 h1, ENI_app, ENI, ENI, List.append_nil]
  have : (0 : Int) + ((l.take i.toNat).length : Int) = i := by rw [List.length_take]; omega
  rw [this]
theorem ENI_mem {f q : ByteArray} : ∀ {i : Int} {l : List Itm} {e : En}, e ∈ ENI f q i l → e.1 = f ∧ i ≤ e.2 ∧ e.2 < i + l.length ∧ HW (l.getD (e.2 - i).toNat dI) q
  | i, [], e, h => by cases h
  | i, y :: l, e, h => by
    rw [ENI] at h
    rcases List.mem_append.1 h with h | h
    · split at h
      · rename_i hw
        have := List.mem_singleton.1 h
        subst this
        refine ⟨rfl, by simp, by simp only [List.length_cons]; omega, ?_⟩
        simpa using hw
      · cases h
    · obtain ⟨h1, h2, h3, h4⟩ := ENI_mem h
      refine ⟨h1, by omega, by simp only [List.length_cons]; omega, ?_⟩
      rw [show (e.2 - i).toNat = (e.2 - (i + 1)).toNat + 1 by omega]
      simpa using h4
theorem ENI_len (f q : ByteArray) : ∀ (i : Int) (l : List Itm), (ENI f q i l).length ≤ l.length
  | _, [] => Nat.le_refl _
  | i, y :: l => by
    have := ENI_len f q (i + 1) l
    rw [ENI, List.length_append, List.length_cons]
    split <;> simp <;> omega
def EN (F : List Fl) (q : ByteArray) : List En := F.flatMap fun f => ENI f.1 q 0 f.2
def WOF (F : List Fl) (file : ByteArray) : List Fl := F.filter fun f => decide (f.1 ≠ file)
theorem ENI_filter (f q file : ByteArray) (i : Int) (l : List Itm) : (ENI f q i l).filter (fun e => decide (e.1 ≠ file)) = if f = file then [] else ENI f q i l := by
  split
  · rename_i h
    refine List.filter_eq_nil_iff.2 fun e he => ?_
    rw [(ENI_mem he).1]; simp [h]
  · rename_i h
    refine List.filter_eq_self.2 fun e he => ?_
    rw [(ENI_mem he).1]; simp [h]
theorem EN_wof (F : List Fl) (file q : ByteArray) : EN (WOF F file) q = (EN F q).filter fun e => decide (e.1 ≠ file) := by
  unfold EN WOF
  induction F with
  | nil => rfl
  | cons f F ih =>
    rw [List.flatMap_cons, List.filter_append, ENI_filter, List.filter_cons]
    by_cases h : f.1 = file
    · rw [if_neg (by simp [h]), if_pos h, ih]; rfl
    · rw [if_pos (by simp [h]), if_neg h, List.flatMap_cons, ih]
theorem EN_mem {F : List Fl} {q : ByteArray} {e : En} (h : e ∈ EN F q) : ∃ f ∈ F, e.1 = f.1 ∧ 0 ≤ e.2 ∧ e.2 < f.2.length ∧ HW (f.2.getD e.2.toNat dI) q := by
  obtain ⟨f, hf, he⟩ := List.mem_flatMap.1 h
  obtain ⟨h1, h2, h3, h4⟩ := ENI_mem he
  exact ⟨f, hf, h1, h2, by omega, by simpa using h4⟩
theorem EN_len : ∀ (F : List Fl) (q : ByteArray) (n : Nat), (∀ f ∈ F, f.2.length ≤ n) → (EN F q).length ≤ n * F.length
  | [], _, _, _ => by simp [EN]
  | f :: F, q, n, h => by
    have := EN_len F q n fun g hg => h g (.tail _ hg)
    have h1 := ENI_len f.1 q 0 f.2
    have h2 := h f (.head _)
    unfold EN at this ⊢
    rw [List.flatMap_cons, List.length_append, List.length_cons, Nat.mul_add]
    omega
/-! ### files by their names -/
def PUTF (f : ByteArray) (l : List Itm) : List Fl → List Fl
  | [] => [(f, l)]
  | g :: F => if ltB g.1 f then g :: PUTF f l F else if g.1 = f then (f, l) :: F else (f, l) :: g :: F
theorem PUTF_names (f : ByteArray) (l : List Itm) (F : List Fl) : (PUTF f l F).map (·.1) = INSB f (F.map (·.1)) := by
  induction F with
  | nil => rfl
  | cons g F ih =>
    unfold PUTF
    rw [List.map_cons, INSB]
    split
    · rw [List.map_cons, ih]
    · split
      · rename_i h; rw [List.map_cons, ← h]
      · rfl
abbrev NS (F : List Fl) : Prop := SS (F.map (·.1))
theorem PUTF_ns {f : ByteArray} {l : List Itm} {F : List Fl} (h : NS F) : NS (PUTF f l F) := by unfold NS; rw [PUTF_names]; exact INSB_ss f h
theorem NS.tail {g : Fl} {F : List Fl} (h : NS (g :: F)) : NS F := (List.pairwise_cons.1 h).2
theorem NS.lt {g : Fl} {F : List Fl} (h : NS (g :: F)) : ∀ f ∈ F, ltB g.1 f.1 := fun f hf => (List.pairwise_cons.1 h).1 f.1 (List.mem_map.2 ⟨f, hf, rfl⟩)
theorem NS.nd {F : List Fl} (h : NS F) : (F.map (·.1)).Nodup := ss_nodup h
theorem wof_self {F : List Fl} {file : ByteArray} (h : file ∉ F.map (·.1)) : WOF F file = F := by
  unfold WOF
  refine List.filter_eq_self.2 fun f hf => ?_
  simp only [decide_eq_true_eq]
  exact fun e => h (List.mem_map.2 ⟨f, hf, e⟩)
theorem wof_ns {F : List Fl} {file : ByteArray} (h : NS F) : NS (WOF F file) := by
  unfold NS SS WOF
  exact List.Pairwise.sublist (List.Sublist.map _ List.filter_sublist) h
theorem PUTF_perm {f : ByteArray} {l : List Itm} : ∀ {F : List Fl}, NS F → (PUTF f l F).Perm ((f, l) :: WOF F f)
  | [], _ => List.Perm.refl _
  | g :: F, h => by
    have ih := PUTF_perm (f := f) (l := l) h.tail
    unfold PUTF
    by_cases h1 : ltB g.1 f
    · rw [if_pos h1]
      have : WOF (g :: F) f = g :: WOF F f := by unfold WOF; rw [List.filter_cons, if_pos (by simp; exact fun e => ltB_irr _ (e ▸ h1))]
      rw [this]
      exact (ih.cons g).trans (List.Perm.swap _ _ _)
    · rw [if_neg h1]
      by_cases h2 : g.1 = f
      · rw [if_pos h2]
        have : WOF (g :: F) f = F := by
          unfold WOF
          rw [List.filter_cons, if_neg (by simp [h2])]
          refine wof_self fun hm => ?_
          obtain ⟨x, hx, e⟩ := List.mem_map.1 hm
          exact ltB_irr f (by have := h.lt x hx; rwa [e, h2] at this)
        rw [this]
      · rw [if_neg h2]
        have : WOF (g :: F) f = g :: F := by
          refine wof_self fun hm => ?_
          obtain ⟨x, hx, e⟩ := List.mem_map.1 hm
          rcases List.mem_cons.1 hx with e' | e'
          · exact h2 (by rw [← e, e'])
          · exact h1 (by have := h.lt x e'; rwa [e] at this)
        rw [this]
theorem EN_put {f q : ByteArray} {l : List Itm} {F : List Fl} (h : NS F) : (EN (PUTF f l F) q).Perm (EN (WOF F f) q ++ ENI f q 0 l) := by
  unfold EN
  refine ((PUTF_perm h).flatMap_right _).trans ?_
  rw [List.flatMap_cons]
  exact List.perm_append_comm
theorem look_put {f g : ByteArray} {l : List Itm} : ∀ {F : List Fl}, NS F → lookL (PUTF f l F) g = if f = g then some l else lookL F g
  | [], _ => by simp [PUTF, lookL]
  | x :: F, h => by
    unfold PUTF
    by_cases h1 : ltB x.1 f
    · rw [if_pos h1, lookL, lookL, look_put h.tail]
      have hne : ¬ x.1 = f := fun e => ltB_irr f (e ▸ h1)
      by_cases h2 : f = g
      · subst h2; simp [hne]
      · simp [h2]
    · rw [if_neg h1]
      by_cases h2 : x.1 = f
      · rw [if_pos h2, lookL, lookL]
        by_cases h3 : f = g
        · rw [if_pos h3, if_pos h3]
        · rw [if_neg h3, if_neg h3, if_neg (by rw [h2]; exact h3)]
      · rw [if_neg h2, lookL]
theorem look_wof {F : List Fl} {file g : ByteArray} : lookL (WOF F file) g = if file = g then none else lookL F g := by
  unfold WOF
  induction F with
  | nil => simp [lookL]
  | cons x F ih =>
    rw [List.filter_cons]
    by_cases h : x.1 = file
    · rw [if_neg (by simp [h]), ih]
      by_cases h2 : file = g
      · rw [if_pos h2, if_pos h2]
      · rw [if_neg h2, if_neg h2, lookL, if_neg (by rw [h]; exact h2)]
    · rw [if_pos (by simp [h]), lookL, lookL, ih]
      by_cases h2 : file = g
      · subst h2; simp [h]
      · simp [h2]
theorem PUTF_len {f : ByteArray} {l : List Itm} {F : List Fl} : (PUTF f l F).length ≤ F.length + 1 ∧ F.length ≤ (PUTF f l F).length := by
  induction F with
  | nil => simp [PUTF]
  | cons g F ih =>
    unfold PUTF
    split
    · simp only [List.length_cons]; omega
    · split <;> simp only [List.length_cons] <;> omega
/-- What the document's Put lays. -/
theorem putf_at {f : ByteArray} {l : List Itm} : ∀ {F : List Fl} {k : Nat}, NS F → k ≤ F.length → (∀ t : Nat, t < k → ltB (F.getD t default).1 f) → (k < F.length → ¬ ltB (F.getD k default).1 f) →
    F.take k ++ ((f, l) :: (if k < F.length ∧ (F.getD k default).1 = f then F.drop (k + 1) else F.drop k)) = PUTF f l F
  | [], k, _, hk, _, _ => by
    obtain rfl : k = 0 := by simpa using hk
    simp [PUTF]
  | g :: F, 0, _, _, _, h2 => by
    have h3 : ¬ ltB g.1 f := h2 (by simp)
    unfold PUTF
    rw [if_neg h3]
    by_cases h4 : g.1 = f
    · rw [if_pos h4, if_pos ⟨by simp, h4⟩]; rfl
    · rw [if_neg h4, if_neg (fun h => h4 h.2)]; rfl
  | g :: F, k + 1, h, hk, h1, h2 => by
    have h3 : ltB g.1 f := h1 0 (by omega)
    have ih := putf_at (f := f) (l := l) (F := F) (k := k) h.tail (by simpa using hk) (fun t ht => by simpa using h1 (t + 1) (by omega)) (fun hk' => by simpa using h2 (by simpa using hk'))
    unfold PUTF
    rw [if_pos h3, ← ih, List.take_succ_cons, List.cons_append]
    simp
theorem wof_at {F : List Fl} {file : ByteArray} {k : Nat} (h : (F.map (·.1)).Nodup) (hk : k < F.length) (e : (F.getD k default).1 = file) : F.take k ++ F.drop (k + 1) = WOF F file := by
  induction F generalizing k with
  | nil => simp at hk
  | cons g F ih =>
    rw [List.map_cons, List.nodup_cons] at h
    cases k with
    | zero =>
      have e' : g.1 = file := by simpa using e
      have : WOF (g :: F) file = F := by
        unfold WOF
        rw [List.filter_cons, if_neg (by simp [e'])]
        exact wof_self (e' ▸ h.1)
      rw [this]; simp
    | succ k =>
      have hk' : k < F.length := by simpa using hk
      have e' : (F.getD k default).1 = file := by simpa using e
      have hm : file ∈ F.map (·.1) := List.mem_map.2 ⟨F.getD k default, by rw [List.getD_eq_getElem?_getD, List.getElem?_eq_getElem hk']; exact List.getElem_mem hk', e'⟩
      have hne : ¬ g.1 = file := fun x => h.1 (x ▸ hm)
      have : WOF (g :: F) file = g :: WOF F file := by unfold WOF; rw [List.filter_cons, if_pos (by simp [hne])]
      rw [this, ← ih h.2 hk' e']; simp
/-! ### what an index keeps -/
def FILES (kv : List (ByteArray × SV)) (P : List (SV × List Itm)) (F : List Fl) : Prop := ∀ q, (lookL kv q = none ∧ lookL F q = none) ∨ ∃ sv l, lookL kv q = some sv ∧ lookL F q = some l ∧ (sv, l) ∈ P
def ROWS (kv : List (ByteArray × SV)) (P : List (SV × List En)) (G : ByteArray → List En) : Prop := ∀ q, (lookL kv q = none ∧ G q = []) ∨ ∃ sv es, lookL kv q = some sv ∧ (sv, es) ∈ P ∧ es ≠ [] ∧ es.Perm (G q)
def SMALL (F : List Fl) : Prop := ∀ f ∈ F, f.2.length ≤ 20 ∧ ∀ y ∈ f.2, y.2.2.2.1.size ≤ 60 ∧ 0 ≤ y.2.1.2 ∧ y.2.1.2 < 18446744073709551616
structure IXS where
  b : Nat
  m1 : Nat
  m2 : Nat
  kv1 : List (ByteArray × SV)
  kv2 : List (ByteArray × SV)
  P1 : List (SV × List Itm)
  P2 : List (SV × List En)
  F : List Fl
structure IXW (n : Nat) (X : IXS) : Prop where
  fs : FILES X.kv1 X.P1 X.F
  rs : ROWS X.kv2 X.P2 (EN X.F)
  n1 : (X.kv1.map (·.1)).Nodup
  n2 : (X.kv2.map (·.1)).Nodup
  ns : NS X.F
  sm : SMALL X.F
  ln : X.F.length ≤ n
  nm : ∀ f ∈ X.F, f.1.size ≤ 64
theorem ROWS.congr {kv : List (ByteArray × SV)} {P : List (SV × List En)} {G G' : ByteArray → List En} (h : ROWS kv P G) (hg : ∀ q, (G q).Perm (G' q)) : ROWS kv P G' := fun q => by
  rcases h q with ⟨h1, h2⟩ | ⟨sv, es, h1, h2, h3, h4⟩
  · left; exact ⟨h1, by have := hg q; rw [h2] at this; exact this.nil_eq.symm⟩
  · exact .inr ⟨sv, es, h1, h2, h3, h4.trans (hg q)⟩
/-- What stands at a word. -/
theorem ROWS.at {kv : List (ByteArray × SV)} {P : List (SV × List En)} {G : ByteArray → List En} (h : ROWS kv P G) (q : ByteArray) : ∃ es : List En, es.Perm (G q) ∧ ((lookL kv q = none ∧ es = []) ∨ ∃ sv, lookL kv q = some sv ∧ (sv, es) ∈ P) := by
  rcases h q with ⟨h1, h2⟩ | ⟨sv, es, h1, h2, _, h4⟩
  · exact ⟨[], by rw [h2], .inl ⟨h1, rfl⟩⟩
  · exact ⟨es, h4, .inr ⟨sv, h1, h2⟩⟩
theorem FILES.at {kv : List (ByteArray × SV)} {P : List (SV × List Itm)} {F : List Fl} (h : FILES kv P F) (q : ByteArray) : ((lookL kv q = none ∧ (lookL F q).getD [] = []) ∨ ∃ sv, lookL kv q = some sv ∧ (sv, (lookL F q).getD []) ∈ P) := by
  rcases h q with ⟨h1, h2⟩ | ⟨sv, l, h1, h2, h3⟩
  · exact .inl ⟨h1, by rw [h2]; rfl⟩
  · exact .inr ⟨sv, h1, by rw [h2]; exact h3⟩
theorem rows_set {kv : List (ByteArray × SV)} {P : List (SV × List En)} {G : ByteArray → List En} (h : ROWS kv P G) {w : ByteArray} {sv : SV} {es : List En} {g : List En} (hne : es ≠ []) (hp : es.Perm g) : ROWS (updL kv w sv) (P ++ [(sv, es)]) (fun q => if q = w then g else G q) := fun q => by
  by_cases hq : q = w
  · subst hq
    right
    exact ⟨sv, es, by rw [lookL_upd, if_pos rfl], List.mem_append_right _ (.head _), hne, by show es.Perm (if q = q then g else G q); rw [if_pos rfl]; exact hp⟩
  · show (_ ∧ (if q = w then g else G q) = []) ∨ ∃ (sv' : SV) (es' : List En), _ ∧ _ ∧ _ ∧ es'.Perm (if q = w then g else G q)
    rw [lookL_upd, if_neg (fun e => hq e.symm), if_neg hq]
    rcases h q with h1 | ⟨sv', es', h1, h2, h3, h4⟩
    · exact .inl h1
    · exact .inr ⟨sv', es', h1, List.mem_append_left _ h2, h3, h4⟩
theorem rows_out {kv : List (ByteArray × SV)} (hn : (kv.map (·.1)).Nodup) {P : List (SV × List En)} {G : ByteArray → List En} (h : ROWS kv P G) {w : ByteArray} {sv : SV} {es : List En} : ROWS (delL (updL kv w sv) w) (P ++ [(sv, es)]) (fun q => if q = w then [] else G q) := fun q => by
  have hn2 : ((updL kv w sv).map (·.1)).Nodup := by
    rw [Gv.updL_keys]
    split
    · exact hn
    · rename_i hm
      exact List.nodup_append.2 ⟨hn, by simp, fun a ha b hb e => hm (by rw [← List.mem_singleton.1 hb, ← e]; exact ha)⟩
  rw [lookL_del hn2]
  by_cases hq : q = w
  · subst hq
    left; exact ⟨by rw [if_pos rfl], by show (if q = q then [] else G q) = []; rw [if_pos rfl]⟩
  · show (_ ∧ (if q = w then [] else G q) = []) ∨ ∃ (sv' : SV) (es' : List En), _ ∧ _ ∧ _ ∧ es'.Perm (if q = w then [] else G q)
    rw [if_neg (fun e => hq e.symm), lookL_upd, if_neg (fun e => hq e.symm), if_neg hq]
    rcases h q with h1 | ⟨sv', es', h1, h2, h3, h4⟩
    · exact .inl h1
    · exact .inr ⟨sv', es', h1, List.mem_append_left _ h2, h3, h4⟩
theorem upd_nodup {kv : List (ByteArray × SV)} (hn : (kv.map (·.1)).Nodup) (w : ByteArray) (sv : SV) : ((updL kv w sv).map (·.1)).Nodup := by
  rw [Gv.updL_keys]
  split
  · exact hn
  · rename_i hm
    exact List.nodup_append.2 ⟨hn, by simp, fun a ha b hb e => hm (by rw [← List.mem_singleton.1 hb, ← e]; exact ha)⟩
theorem del_nodup {kv : List (ByteArray × SV)} (hn : (kv.map (·.1)).Nodup) (w : ByteArray) : ((delL kv w).map (·.1)).Nodup := (List.Sublist.map _ (del_sub kv w)).nodup hn
/-! #### a file goes -/
def GD (F : List Fl) (file : ByteArray) (D : List ByteArray) : ByteArray → List En := fun q => if q ∈ D then EN (WOF F file) q else EN F q
def NF (file : ByteArray) (es : List En) : List En := es.filter fun e => decide (e.1 ≠ file)
theorem gd_nf (F : List Fl) (file : ByteArray) (D : List ByteArray) (w : ByteArray) : NF file (GD F file D w) = EN (WOF F file) w := by
  unfold GD NF
  split
  · rw [EN_wof, List.filter_filter]; simp
  · rw [EN_wof]
theorem gd_step {F : List Fl} {file : ByteArray} {D : List ByteArray} {w q : ByteArray} : (if q = w then NF file (GD F file D w) else GD F file D q) = GD F file (D ++ [w]) q := by
  by_cases h : q = w
  · subst h
    rw [if_pos rfl, gd_nf]
    unfold GD; rw [if_pos (by simp)]
  · rw [if_neg h]
    unfold GD
    have : (q ∈ D ++ [w]) = (q ∈ D) := by simp [h]
    simp only [this]
theorem gd_keep {kv : List (ByteArray × SV)} {P : List (SV × List En)} {F : List Fl} {file w : ByteArray} {D : List ByteArray} {sv : SV} {es : List En} (h : ROWS kv P (GD F file D)) (hp : es.Perm (GD F file D w)) (hne : NF file es ≠ []) :
    ROWS (updL kv w sv) (P ++ [(sv, NF file es)]) (GD F file (D ++ [w])) :=
  (rows_set h hne (hp.filter _)).congr fun q => by
    rw [← gd_step]; exact List.Perm.refl _
theorem gd_drop {kv : List (ByteArray × SV)} (hn : (kv.map (·.1)).Nodup) {P : List (SV × List En)} {F : List Fl} {file w : ByteArray} {D : List ByteArray} {sv : SV} {es : List En} (h : ROWS kv P (GD F file D)) (hp : es.Perm (GD F file D w)) (h0 : NF file es = []) :
    ROWS (delL (updL kv w sv) w) (P ++ [(sv, NF file es)]) (GD F file (D ++ [w])) :=
  (rows_out hn h).congr fun q => by
    rw [← gd_step]
    by_cases hq : q = w
    · rw [if_pos hq, if_pos hq]
      have := hp.filter fun e => decide (e.1 ≠ file)
      rw [show es.filter (fun e => decide (e.1 ≠ file)) = [] from h0] at this
      exact this
    · rw [if_neg hq, if_neg hq]
/-- The words of lines. -/
def WLS (l : List Itm) : List ByteArray := l.flatMap fun y => OF y.2.2.2.1
theorem WLS_at {l : List Itm} {i : Int} (h0 : 0 ≤ i) (h1 : i < l.length) : WLS (l.take (i + 1).toNat) = WLS (l.take i.toNat) ++ OF (l.getD i.toNat dI).2.2.2.1 := by
  unfold WLS; rw [Num.take_more dI h0 h1, List.flatMap_append]; simp
theorem gd_0 {kv : List (ByteArray × SV)} {P : List (SV × List En)} {F : List Fl} {file : ByteArray} (h : ROWS kv P (EN F)) : ROWS kv P (GD F file []) := h.congr fun q => by unfold GD; rw [if_neg (by simp)]
theorem gd_end {kv : List (ByteArray × SV)} {P : List (SV × List En)} {F : List Fl} {file : ByteArray} (hn : (F.map (·.1)).Nodup) (h : ROWS kv P (GD F file (WLS ((lookL F file).getD [])))) : ROWS kv P (EN (WOF F file)) := h.congr fun q => by
  unfold GD
  split
  · exact List.Perm.refl _
  · rename_i hq
    rw [EN_wof]
    rw [List.filter_eq_self.2]
    intro e he
    simp only [decide_eq_true_eq]
    intro hf
    obtain ⟨f, hfm, e1, e2, e3, e4⟩ := EN_mem he
    have hl : lookL F file = some f.2 := lookL_of_mem hn (by rw [← hf, e1]; exact hfm)
    apply hq
    rw [hl]
    have e3' : e.2.toNat < f.2.length := by omega
    exact List.mem_flatMap.2 ⟨_, getD_mem (d := dI) e3', e4.2⟩
theorem files_out {kv : List (ByteArray × SV)} (hn : (kv.map (·.1)).Nodup) {P : List (SV × List Itm)} {F : List Fl} (h : FILES kv P F) (file : ByteArray) : FILES (delL kv file) P (WOF F file) := fun q => by
  rw [lookL_del hn, look_wof]
  by_cases hq : file = q
  · rw [if_pos hq, if_pos hq]; exact .inl ⟨rfl, rfl⟩
  · rw [if_neg hq, if_neg hq]; exact h q
theorem files_in {kv : List (ByteArray × SV)} {P : List (SV × List Itm)} {F : List Fl} (hF : NS F) {file : ByteArray} (h : FILES kv P (WOF F file)) (sv : SV) (l : List Itm) : FILES (updL kv file sv) (P ++ [(sv, l)]) (PUTF file l F) := fun q => by
  rw [lookL_upd, look_put hF]
  by_cases hq : file = q
  · rw [if_pos hq, if_pos hq]; exact .inr ⟨sv, l, rfl, rfl, List.mem_append_right _ (.head _)⟩
  · rw [if_neg hq, if_neg hq]
    have := h q
    rw [look_wof, if_neg hq] at this
    rcases this with h1 | ⟨sv', l', h1, h2, h3⟩
    · exact .inl h1
    · exact .inr ⟨sv', l', h1, h2, List.mem_append_left _ h3⟩
theorem files_known {kv : List (ByteArray × SV)} {P : List (SV × List Itm)} {F : List Fl} (h : FILES kv P F) (q : ByteArray) : (lookL kv q).isSome = (lookL F q).isSome := by
  rcases h q with ⟨h1, h2⟩ | ⟨sv, l, h1, h2, _⟩ <;> rw [h1, h2] <;> rfl
theorem files_len {kv : List (ByteArray × SV)} (hn : (kv.map (·.1)).Nodup) {P : List (SV × List Itm)} {F : List Fl} (hF : (F.map (·.1)).Nodup) (h : FILES kv P F) : kv.length = F.length := by
  have hm : ∀ q, q ∈ kv.map (·.1) ↔ q ∈ F.map (·.1) := fun q => by rw [← lookL_key, ← lookL_key, files_known h q]
  have h1 := nodup_len hn fun q hq => (hm q).1 hq
  have h2 := nodup_len hF fun q hq => (hm q).2 hq
  simp only [List.length_map] at h1 h2
  omega
/-! #### a file comes -/
def GP (F : List Fl) (file : ByteArray) (l : List Itm) (i : Int) (D : List ByteArray) : ByteArray → List En := fun q => EN F q ++ (ENI file q 0 (l.take i.toNat) ++ if q ∈ D then [(file, i)] else [])
theorem gp_0 {kv : List (ByteArray × SV)} {P : List (SV × List En)} {F : List Fl} {file : ByteArray} {l : List Itm} (h : ROWS kv P (EN F)) : ROWS kv P (GP F file l 0 []) := h.congr fun q => by
  unfold GP; simp [ENI]
theorem gp_step {kv : List (ByteArray × SV)} {P : List (SV × List En)} {F : List Fl} {file w : ByteArray} {l : List Itm} {i : Int} {D : List ByteArray} {sv : SV} {es : List En} (h : ROWS kv P (GP F file l i D)) (hp : es.Perm (GP F file l i D w)) (hw : w ∉ D) :
    ROWS (updL kv w sv) (P ++ [(sv, es ++ [(file, i)])]) (GP F file l i (D ++ [w])) :=
  (rows_set h (g := GP F file l i D w ++ [(file, i)]) (by simp) (hp.append_right _)).congr fun q => by
    by_cases hq : q = w
    · subst hq
      rw [if_pos rfl]
      unfold GP
      rw [if_neg hw, if_pos (by simp), List.append_nil, List.append_assoc]
    · rw [if_neg hq]
      unfold GP
      have : (q ∈ D ++ [w]) = (q ∈ D) := by simp [hq]
      simp only [this]
      exact List.Perm.refl _
theorem gp_line {kv : List (ByteArray × SV)} {P : List (SV × List En)} {F : List Fl} {file : ByteArray} {l : List Itm} {i : Int} (h0 : 0 ≤ i) (h1 : i < l.length) (ha : (l.getD i.toNat dI).2.2.1 = false) (h : ROWS kv P (GP F file l i (OF (l.getD i.toNat dI).2.2.2.1))) : ROWS kv P (GP F file l (i + 1) []) :=
  h.congr fun q => by
    unfold GP
    rw [ENI_at h0 h1, if_neg (show ¬ q ∈ ([] : List ByteArray) by simp), List.append_nil]
    have : HW (l.getD i.toNat dI) q ↔ q ∈ OF (l.getD i.toNat dI).2.2.2.1 := ⟨fun h => h.2, fun h => ⟨ha, h⟩⟩
    by_cases hq : q ∈ OF (l.getD i.toNat dI).2.2.2.1
    · rw [if_pos hq, if_pos (this.2 hq)]
    · rw [if_neg hq, if_neg (fun h => hq (this.1 h))]
theorem gp_skip {kv : List (ByteArray × SV)} {P : List (SV × List En)} {F : List Fl} {file : ByteArray} {l : List Itm} {i : Int} (h0 : 0 ≤ i) (h1 : i < l.length) (ha : (l.getD i.toNat dI).2.2.1 = true) (h : ROWS kv P (GP F file l i [])) : ROWS kv P (GP F file l (i + 1) []) :=
  h.congr fun q => by
    unfold GP
    have hn : ¬ HW (l.getD i.toNat dI) q := fun h => by have := h.1; rw [ha] at this; cases this
    rw [ENI_at h0 h1, if_neg hn]
    simp
theorem gp_end {kv : List (ByteArray × SV)} {P : List (SV × List En)} {F : List Fl} (hF : NS F) {file : ByteArray} {l : List Itm} {i : Int} (hi : (l.length : Int) ≤ i) (h : ROWS kv P (GP (WOF F file) file l i [])) : ROWS kv P (EN (PUTF file l F)) :=
  h.congr fun q => by
    unfold GP
    rw [List.take_of_length_le (by omega), if_neg (by simp), List.append_nil]
    exact (EN_put hF).symm
theorem small_put {F : List Fl} {file : ByteArray} {l : List Itm} (hF : NS F) (h : SMALL F) (hl : l.length ≤ 20) (hy : ∀ y ∈ l, y.2.2.2.1.size ≤ 60 ∧ 0 ≤ y.2.1.2 ∧ y.2.1.2 < 18446744073709551616) : SMALL (PUTF file l F) := fun f hf => by
  rcases List.mem_cons.1 ((PUTF_perm hF).mem_iff.1 hf) with e | e
  · subst e; exact ⟨hl, hy⟩
  · exact h f ((List.mem_filter.1 e).1)
theorem small_wof {F : List Fl} (file : ByteArray) (h : SMALL F) : SMALL (WOF F file) := fun f hf => h f ((List.mem_filter.1 hf).1)
theorem wof_len (F : List Fl) (file : ByteArray) : (WOF F file).length ≤ F.length := List.length_filter_le _ _
/-! ### hits -/
def CNTB (l : List Itm) (o : Lb) : Int := ((l.filter fun y => decide (BEL y.2.1 o)).length : Int)
theorem CNTB_at {l : List Itm} {i : Int} {o : Lb} (h0 : 0 ≤ i) (h1 : i < l.length) : CNTB (l.take (i + 1).toNat) o = CNTB (l.take i.toNat) o + (if BEL (l.getD i.toNat dI).2.1 o then 1 else 0) := by
  unfold CNTB
  rw [Num.take_more dI h0 h1, List.filter_append, List.length_append, List.filter_cons]
  by_cases h : BEL (l.getD i.toNat dI).2.1 o
  · rw [if_pos (by simpa using h), if_pos h]; simp
  · rw [if_neg (by simpa using h), if_neg h]; simp
theorem CNTB_bd (l : List Itm) (o : Lb) : 0 ≤ CNTB l o ∧ CNTB l o ≤ l.length := by
  unfold CNTB
  have := List.length_filter_le (fun y : Itm => decide (BEL y.2.1 o)) l
  omega
def HITF (F : List Fl) (o : Lb) (e : En) : Option En := if BEL (((lookL F e.1).getD []).getD e.2.toNat dI).2.1 o then some (e.1, CNTB (((lookL F e.1).getD []).take (e.2 + 1).toNat) o) else none
def FNI (f q : ByteArray) (o : Lb) : Int → List Itm → List En
  | _, [] => []
  | n, y :: l => if BEL y.2.1 o then (if HW y q then [(f, n + 1)] else []) ++ FNI f q o (n + 1) l else FNI f q o n l
def FIND (F : List Fl) (q : ByteArray) (o : Lb) : List En := F.flatMap fun f => FNI f.1 q o 0 f.2
theorem FNI_app (f q : ByteArray) (o : Lb) : ∀ (n : Int) (l m : List Itm), FNI f q o n (l ++ m) = FNI f q o n l ++ FNI f q o (n + CNTB l o) m
  | n, [], m => by simp [FNI, CNTB]
  | n, y :: l, m => by
    rw [List.cons_append, FNI, FNI]
    by_cases h : BEL y.2.1 o
    · rw [if_pos h, if_pos h, FNI_app f q o (n + 1) l m, List.append_assoc]
      have : CNTB (y :: l) o = 1 + CNTB l o := by unfold CNTB; rw [List.filter_cons, if_pos (by simpa using h)]; simp; omega
      rw [this, Int.add_assoc]
    · rw [if_neg h, if_neg h, FNI_app f q o n l m]
      have : CNTB (y :: l) o = CNTB l o := by unfold CNTB; rw [List.filter_cons, if_neg (by simpa using h)]
      rw [this]
theorem FNI_at {f q : ByteArray} {o : Lb} {l : List Itm} {i : Int} (h0 : 0 ≤ i) (h1 : i < l.length) : FNI f q o 0 (l.take (i + 1).toNat) = FNI f q o 0 (l.take i.toNat) ++ (if BEL (l.getD i.toNat dI).2.1 o ∧ HW (l.getD i.toNat dI) q then [(f, CNTB (l.take i.toNat) o + 1)] else []) := by
  rw [Num.take_more dI h0 h1, FNI_app, FNI, FNI, FNI]
  by_cases h : BEL (l.getD i.toNat dI).2.1 o
  · rw [if_pos h]
    by_cases h2 : HW (l.getD i.toNat dI) q
    · rw [if_pos h2, if_pos ⟨h, h2⟩]; simp
    · rw [if_neg h2, if_neg (fun h3 => h2 h3.2)]; simp
  · rw [if_neg h, if_neg (fun h3 => h h3.1)]
theorem FNI_len (f q : ByteArray) (o : Lb) : ∀ (n : Int) (l : List Itm), (FNI f q o n l).length ≤ l.length
  | _, [] => Nat.le_refl _
  | n, y :: l => by
    have h1 := FNI_len f q o (n + 1) l
    have h2 := FNI_len f q o n l
    rw [FNI, List.length_cons]
    split
    · rw [List.length_append]; split <;> simp <;> omega
    · omega
theorem FIND_len : ∀ (F : List Fl) (q : ByteArray) (o : Lb) (n : Nat), (∀ f ∈ F, f.2.length ≤ n) → (FIND F q o).length ≤ n * F.length
  | [], _, _, _, _ => by simp [FIND]
  | f :: F, q, o, n, h => by
    have := FIND_len F q o n fun g hg => h g (.tail _ hg)
    have h1 := FNI_len f.1 q o 0 f.2
    have h2 := h f (.head _)
    unfold FIND at this ⊢
    rw [List.flatMap_cons, List.length_append, List.length_cons, Nat.mul_add]
    omega
theorem FIND_at {F : List Fl} {q : ByteArray} {o : Lb} {i : Int} (h0 : 0 ≤ i) (h1 : i < F.length) : FIND (F.take (i + 1).toNat) q o = FIND (F.take i.toNat) q o ++ FNI (F.getD i.toNat default).1 q o 0 (F.getD i.toNat default).2 := by
  unfold FIND; rw [Num.take_more default h0 h1, List.flatMap_append]; simp
theorem eni_hits {F : List Fl} {o : Lb} {f q : ByteArray} : ∀ (l pre : List Itm), lookL F f = some (pre ++ l) → (ENI f q (pre.length : Int) l).filterMap (HITF F o) = FNI f q o (CNTB pre o) l
  | [], _, _ => rfl
  | y :: l, pre, h => by
    have ih := eni_hits (F := F) (o := o) (f := f) (q := q) l (pre ++ [y]) (by rw [h]; simp)
    have hl : ((pre ++ [y]).length : Int) = (pre.length : Int) + 1 := by simp
    rw [hl] at ih
    have hc : CNTB (pre ++ [y]) o = CNTB pre o + (if BEL y.2.1 o then 1 else 0) := by
      unfold CNTB
      rw [List.filter_append, List.length_append, List.filter_cons]
      by_cases h : BEL y.2.1 o
      · rw [if_pos (by simpa using h), if_pos h]; simp
      · rw [if_neg (by simpa using h), if_neg h]; simp
    have hg : ((pre ++ y :: l).getD ((pre.length : Int)).toNat dI) = y := by simp [List.getD]
    have ht : (pre ++ y :: l).take ((pre.length : Int) + 1).toNat = pre ++ [y] := by
      rw [show ((pre.length : Int) + 1).toNat = pre.length + 1 by omega, List.take_append, List.take_of_length_le (by omega)]; simp
    have hx : HITF F o (f, (pre.length : Int)) = if BEL y.2.1 o then some (f, CNTB (pre ++ [y]) o) else none := by
      unfold HITF
      simp only [h, Option.getD_some, hg, ht]
    rw [ENI, FNI, List.filterMap_append, ih, hc]
    by_cases hb : BEL y.2.1 o
    · rw [if_pos hb] at hx
      rw [if_pos hb, if_pos hb]
      by_cases hw : HW y q
      · rw [if_pos hw, if_pos hw]
        simp only [List.filterMap_cons, List.filterMap_nil, hx, hc, if_pos hb]
      · rw [if_neg hw, if_neg hw]; rfl
    · rw [if_neg hb] at hx
      rw [if_neg hb, if_neg hb, Int.add_zero]
      by_cases hw : HW y q
      · rw [if_pos hw]
        simp only [List.filterMap_cons, List.filterMap_nil, hx, List.nil_append]
      · rw [if_neg hw]; rfl
theorem find_hits {F : List Fl} {q : ByteArray} {o : Lb} (hn : (F.map (·.1)).Nodup) : (EN F q).filterMap (HITF F o) = FIND F q o := by
  have : ∀ G : List Fl, (∀ f ∈ G, f ∈ F) → (EN G q).filterMap (HITF F o) = FIND G q o := by
    intro G
    induction G with
    | nil => intro _; rfl
    | cons f G ih =>
      intro h
      have h1 := ih fun g hg => h g (.tail _ hg)
      have h2 := eni_hits (F := F) (o := o) (f := f.1) (q := q) f.2 [] (lookL_of_mem hn (h f (.head _)))
      unfold EN FIND at h1 ⊢
      rw [List.flatMap_cons, List.filterMap_append, h1, List.flatMap_cons]
      congr 1
  exact this F fun f hf => hf
/-- The order of hits. -/
def LTE (a b : En) : Prop := ltB a.1 b.1 ∨ (a.1 = b.1 ∧ a.2 < b.2)
theorem lte_irr (a : En) : ¬ LTE a a := fun h => h.elim (ltB_irr _) (fun h => by have := h.2; omega)
theorem lte_trans {a b c : En} (h : LTE a b) (k : LTE b c) : LTE a c := by
  rcases h with h | ⟨h1, h2⟩ <;> rcases k with k | ⟨k1, k2⟩
  · exact .inl (ltB_trans h k)
  · exact .inl (k1 ▸ h)
  · exact .inl (h1 ▸ k)
  · exact .inr ⟨h1.trans k1, by omega⟩
theorem lte_tri (a b : En) : LTE a b ∨ a = b ∨ LTE b a := by
  rcases ltB_tri a.1 b.1 with h | h | h
  · exact .inl (.inl h)
  · rcases Int.lt_trichotomy a.2 b.2 with k | k | k
    · exact .inl (.inr ⟨h, k⟩)
    · exact .inr (.inl (Prod.ext h k))
    · exact .inr (.inr (.inr ⟨h.symm, k⟩))
  · exact .inr (.inr (.inl h))
def ORDH (a b : En) : Int := Cm.ORL [CMPB a.1 b.1, Cm.CMPI a.2 b.2]
theorem ordh_lt (a b : En) : ORDH a b < 0 ↔ LTE a b := by
  unfold ORDH LTE
  have h1 := Cm.orl2 (CMPB a.1 b.1) (Cm.CMPI a.2 b.2)
  have h2 := cmpb_is a.1 b.1
  have h3 := Cm.cmpi_is a.2 b.2
  rcases h2 with ⟨h, e⟩ | ⟨h, e⟩ | ⟨h, e⟩
  · exact ⟨fun _ => .inl h, fun _ => by omega⟩
  · constructor
    · intro hl; exact .inr ⟨h, by omega⟩
    · intro hl; rcases hl with hl | hl
      · exact absurd (h ▸ hl) (ltB_irr _)
      · have := hl.2; omega
  · constructor
    · intro hl; omega
    · intro hl; rcases hl with hl | hl
      · exact absurd h (ltB_asym hl)
      · exact absurd (hl.1 ▸ h) (ltB_irr _)
theorem ordh_swo : Go.Sort.SWO (Go.Proofs.ltOf fun x y : En => ORDH x y) := ⟨fun x => by simp only [Go.Proofs.ltOf, decide_eq_false_iff_not]; rw [ordh_lt]; exact lte_irr x,
  fun x y z => by simp only [Go.Proofs.ltOf, decide_eq_true_eq]; rw [ordh_lt, ordh_lt, ordh_lt]; exact lte_trans,
  fun x y z => by
    simp only [Go.Proofs.ltOf, decide_eq_false_iff_not]; rw [ordh_lt, ordh_lt, ordh_lt]
    intro h1 h2 h3
    rcases lte_tri x y with h | h | h
    · exact h1 h
    · subst h; exact h2 h3
    · exact h2 (lte_trans h h3)⟩
theorem FNI_mem {f q : ByteArray} {o : Lb} : ∀ {n : Int} {l : List Itm} {e : En}, e ∈ FNI f q o n l → e.1 = f ∧ n < e.2
  | n, [], e, h => by cases h
  | n, y :: l, e, h => by
    rw [FNI] at h
    split at h
    · rcases List.mem_append.1 h with h | h
      · split at h
        · have := List.mem_singleton.1 h; subst this; exact ⟨rfl, by simp only; omega⟩
        · cases h
      · have := FNI_mem h; exact ⟨this.1, by omega⟩
    · exact FNI_mem h
theorem FNI_sorted {f q : ByteArray} {o : Lb} : ∀ (n : Int) (l : List Itm), (FNI f q o n l).Pairwise LTE
  | _, [] => List.Pairwise.nil
  | n, y :: l => by
    rw [FNI]
    split
    · refine List.pairwise_append.2 ⟨by split <;> simp, FNI_sorted (n + 1) l, fun a ha b hb => ?_⟩
      split at ha
      · have := List.mem_singleton.1 ha; subst this
        have hb' := FNI_mem hb
        exact .inr ⟨hb'.1.symm, hb'.2⟩
      · cases ha
    · exact FNI_sorted n l
theorem FIND_sorted {q : ByteArray} {o : Lb} : ∀ {F : List Fl}, NS F → (FIND F q o).Pairwise LTE
  | [], _ => List.Pairwise.nil
  | f :: F, h => by
    have ih := FIND_sorted (q := q) (o := o) h.tail
    unfold FIND at ih ⊢
    rw [List.flatMap_cons]
    refine List.pairwise_append.2 ⟨FNI_sorted 0 f.2, ih, fun a ha b hb => ?_⟩
    obtain ⟨g, hg, hb'⟩ := List.mem_flatMap.1 hb
    left
    rw [(FNI_mem ha).1, (FNI_mem hb').1]
    exact h.lt g hg
theorem find_sorted {F : List Fl} {q : ByteArray} {o : Lb} {ys : List En} (h : NS F) (hp : ys.Perm (FIND F q o)) (hs : ys.Pairwise fun a b => ¬ ORDH b a < 0) : ys = FIND F q o := by
  have hf := FIND_sorted (q := q) (o := o) h
  have hnd : ys.Nodup := hp.symm.nodup (hf.imp fun {a b} hab e => by subst e; exact lte_irr _ hab)
  refine strict_uniq lte_irr lte_trans ?_ hf fun a => hp.mem_iff
  refine (List.Pairwise.and hs hnd).imp fun {a b} hab => ?_
  rw [ordh_lt] at hab
  rcases lte_tri a b with h | h | h
  · exact h
  · exact absurd h hab.2
  · exact absurd h hab.1
end Go.Idx

namespace Go.Gv
open Go Go.RowKit
theorem set_parts {β : Type} {l : List β} {o : Nat} {v : β} {r : List β} (h : o < l.length) : (l.set o v).take (o + 1) ++ r ++ (l.set o v).drop (o + 1 + r.length) = l.take o ++ (v :: r) ++ l.drop (o + (r.length + 1)) := by
  have e1 : (l.set o v).take (o + 1) = l.take o ++ [v] := by
    rw [List.set_eq_take_append_cons_drop, if_pos h, List.take_append, List.take_of_length_le (by rw [List.length_take]; omega), List.length_take, show o + 1 - min o l.length = 1 by omega]; rfl
  have e2 : (l.set o v).drop (o + 1 + r.length) = l.drop (o + (r.length + 1)) := by
    rw [List.drop_set_of_lt (by omega)]; congr 1; omega
  rw [e1, e2]; simp
theorem take_mid {β : Type} {l r : List β} {o N : Nat} (h1 : o + r.length ≤ N) (h2 : N ≤ l.length) : (l.take o ++ r ++ l.drop (o + r.length)).take N = (l.take N).take o ++ r ++ (l.take N).drop (o + r.length) := by
  rw [List.take_append, List.take_of_length_le (l := l.take o ++ r) (by simp; omega), List.take_take, Nat.min_eq_left (by omega), List.drop_take]
  congr 2
  simp; omega
theorem setCells_heap (b : Nat) (T : TypeId) : ∀ (l : List Value) (o : Nat) (w : World) (cur : Array Value), w.heap[b]? = some (.cells cur T (0, 0)) → o + l.length ≤ cur.size →
    (w.setCells b o l).heap[b]? = some (.cells (cur.toList.take o ++ l ++ cur.toList.drop (o + l.length)).toArray T (0, 0)) ∧ KB (· = b) w (w.setCells b o l)
  | [], o, w, cur, h, _ => by
    refine ⟨?_, KB.refl _ _⟩
    show w.heap[b]? = _
    rw [h]; simp
  | v :: l, o, w, cur, h, hl => by
    have h1 : (w.setCell ⟨b, o, none⟩ v).heap[b]? = some (.cells (cur.setIfInBounds o v) T (0, 0)) := heap_setCell_same w b _ cur T v h
    obtain ⟨h2, h3⟩ := setCells_heap b T l (o + 1) (w.setCell ⟨b, o, none⟩ v) (cur.setIfInBounds o v) h1 (by simp at hl ⊢; omega)
    refine ⟨?_, ((KB.setCell w ⟨b, o, none⟩ v).mono fun _ h => h).trans h3 fun _ _ h => h⟩
    show ((w.setCell ⟨b, o, none⟩ v).setCells b (o + 1) l).heap[b]? = _
    rw [h2, Array.toList_setIfInBounds, set_parts (by simp at hl ⊢; omega)]
    rfl
theorem El.cells_set {α : Type} (E : El α) {xs : List α} {i : Nat} (x : α) (h : i < xs.length) : E.cells (xs.set i x) = (E.cells xs).take (i * E.sz) ++ E.enc x ++ (E.cells xs).drop (i * E.sz + (E.enc x).length) := by
  rw [List.set_eq_take_append_cons_drop, if_pos h, E.cells_append, E.cells_cons, E.cells_take, E.cells_drop, E.len, Nat.succ_mul, List.append_assoc]
section
variable {P : Program} {f : Env} {w : World} {d : Option Tmp} {ty : TypeId} {ps : String} {af : Array Edge} {gd : Option (Nat × Bool)} {w0 : World} {S : Nat → Prop} {L : List Ent}
theorem El.cells_repl {α : Type} (E : El α) (n : Nat) (x : α) : E.cells (List.replicate n x) = (List.replicate n (E.enc x)).flatten := by
  induction n with
  | zero => rfl
  | succ n ih => rw [List.replicate_succ, El.cells_cons, ih, List.replicate_succ, List.flatten_cons]
theorem XSE.rowN {α : Type} {E : El α} {T e : TypeId} {x y : Operand} {A : Addr} {v0 : Value} {n c : Nat} {i : Int} {cs : Array Value} {xs : List α} (x2 : α) (h : SH w0 S w (rowE E e v0 xs :: L)) (hv0 : v0 = .slice (some A) n c) (h0 : 0 ≤ i) (h1 : i < xs.length)
    (hz : (P.info? T).map (·.size) = some cs.size) (hx : ev f x = some (.pointer (some (A.add (i.toNat * E.sz))))) (hy : ev f y = some (.agg cs)) (he : E.enc x2 = cs.toList) :
    XSE P ⟨d, .store T x y, ty, ps, af, gd⟩ f w (fun w' => SH w0 S w' (rowE E e v0 (xs.set i.toNat x2) :: L) ∧ KB (· ∈ Value.keys v0) w w') := by
  subst hv0
  have hlt : i.toNat < xs.length := by omega
  have hR : Row E e (.slice (some A) n c) xs w := h.hd
  rcases hR.2 with ⟨h2, h3⟩ | ⟨g, cap, cur, h2, hbg, hg, hnc, hcm, hcs, htake⟩
  · omega
  · injection h2 with e1 e2 e3
    injection e1 with e1
    subst e1; subst e3; subst e2
    have hel : cs.toList.length = E.sz := by rw [← he, E.len]
    have hcsz : cs.size = E.sz := by rw [← Array.length_toList, hel]
    have hle : i.toNat * E.sz + E.sz ≤ xs.length * E.sz := by rw [← Nat.succ_mul]; exact Nat.mul_le_mul_right _ hlt
    have hle2 : xs.length * E.sz ≤ cur.size := by rw [hcs]; exact Nat.mul_le_mul_right _ hnc
    have hth : w.there g (i.toNat * E.sz) cs.size := fun j hj => by
      have hc := cell_of_row w g (i.toNat * E.sz + j) cur e (0, 0) hg
      refine ⟨by rw [hc, Array.getElem?_eq_getElem (by omega)]; rfl, by simp [World.frozen?, hg]⟩
    have hone : cs.all (·.oneCell') = true := by
      rw [Array.all_eq_true_iff_forall_mem]
      intro v hv
      exact E.one x2 v (by rw [he]; simpa using hv)
    have hr := run_storeAt_mid (P := P) w g (i.toNat * E.sz) T cs hth hz hone
    obtain ⟨b1, b2⟩ := setCells_heap g e cs.toList (i.toNat * E.sz) w cur hg (by rw [hel]; omega)
    have hk : KB (· ∈ Value.keys (.slice (some ⟨g, 0, none⟩) xs.length c)) w (w.setCells g (i.toNat * E.sz) cs.toList) := b2.mono fun k hk => by simp [Value.keys, Value.ownBlock, hk]
    have hcl : cur.toList.length = cur.size := Array.length_toList
    have hR' : Row E e (.slice (some ⟨g, 0, none⟩) xs.length c) (xs.set i.toNat x2) (w.setCells g (i.toNat * E.sz) cs.toList) := by
      refine ⟨E.cells_length _, .inr ⟨g, c, _, by rw [List.length_set], hbg, b1, by rw [List.length_set]; exact hnc, hcm, ?_, ?_⟩⟩
      · simp only [List.size_toArray, List.length_append, List.length_take, List.length_drop, hcl, hel]; omega
      · simp only [List.length_set]
        rw [E.cells_set x2 hlt, he, ← htake]
        exact take_mid (by rw [hel]; exact hle) (by rw [hcl]; exact hle2)
    refine ⟨w.setCells g (i.toNat * E.sz) cs.toList, fun a ha => ?_, h.upd hk (Row.ok hR') (keys_nodup (.slice (some ⟨g, 0, none⟩) xs.length c)) (fun k hk => .inl hk), hk⟩
    have hx' : ev f x = some (.pointer (some ⟨g, i.toNat * E.sz, none⟩)) := by rw [hx, addr0]
    simp only [execOp, ev_eval ha hx', ev_eval ha hy, Sem.run_bind, hr, Result.andThen_ok, Sem.run_pure]
/-- 'make' of elements of whatever size. -/
theorem flat_made (z : Array Value) (n : Nat) (hz : 0 < z.size) : (madeCells z (n * z.size)).toList = (List.replicate n z.toList).flatten := by
  induction n with
  | zero => simp [madeCells]
  | succ n ih =>
    rw [List.replicate_succ', List.flatten_append, ← ih]
    apply List.ext_getElem
    · simp [madeCells, Nat.succ_mul]
    · intro i h1 h2
      simp only [madeCells, Array.length_toList, Array.size_map, Array.size_range] at h1
      rcases Nat.lt_or_ge i (n * z.size) with h | h
      · rw [List.getElem_append_left (by simpa [madeCells] using h)]
        simp [madeCells]
      · rw [List.getElem_append_right (by simpa [madeCells] using h)]
        have hlt : i - n * z.size < z.size := by rw [Nat.succ_mul] at h1; omega
        have hm : i % z.size = i - n * z.size := by
          have hc_ : z.size * n = n * z.size := Nat.mul_comm _ _
          have : i = (i - n * z.size) + z.size * n := by omega
          conv => lhs; rw [this]
          rw [Nat.add_mul_mod_self_left, Nat.mod_eq_of_lt hlt]
        simp only [madeCells, Array.getElem_toList, Array.getElem_map, Array.getElem_range, List.flatten_cons, List.flatten_nil, List.append_nil, Array.length_toList, Array.size_map, Array.size_range, hm]
        rw [getElem!_pos z _ hlt]
theorem XE.makeN {α : Type} {E : El α} {t e : TypeId} {z : Value} {bytes n : Nat} {k1 k2 : IntKind} {x y : Operand} {N M : Int} (z1 : α) (h : SH w0 S w L) (ht : P.underlying t = some (.slice e)) (hi : TI P e z E.sz bytes) (hz : E.enc z1 = z.cells.toList) (hp : 0 < E.sz)
    (hx : ev f x = some (.int k1 N)) (hy : ev f y = some (.int k2 M)) (hN : N = n) (hM : M = n) (hb : n * bytes ≤ 281474976710656) (hb2 : n ≤ 140737488355328) :
    XE P ⟨d, .makeSlice t x y, ty, ps, af, gd⟩ f w (fun v' w' => ∃ b, v' = .slice (some ⟨b, 0, none⟩) n n ∧ SH w0 S w' (rowE E e (.slice (some ⟨b, 0, none⟩) n n) (List.replicate n z1) :: L) ∧ KB No w w') := by
  subst hN
  subst hM
  obtain ⟨i, hj, hz0, hs, hby⟩ := hi.get
  subst hby
  have hbb : (i.bytes : Int) * (n : Int) ≤ 281474976710656 := by
    have h : ((n * i.bytes : Nat) : Int) ≤ 281474976710656 := by omega
    rw [Int.natCast_mul] at h
    rw [Int.mul_comm]; exact h
  have hr := run_make (P := P) w t e i z ht hj hz0 k1 k2 n n (by omega) (Int.le_refl _) hbb (by omega)
  have hzs : z.cells.size = E.sz := by rw [← Array.length_toList, ← hz, E.len]
  have hm : (madeCells z.cells (n * i.size)).toList = E.cells (List.replicate n z1) := by
    rw [hs, ← hzs, flat_made _ _ (by omega), E.cells_repl, hz]
  simp only [Int.toNat_natCast] at hr
  refine ⟨_, w.alloc (.cells (madeCells z.cells (n * i.size)) e), fun a ha => ?_, w.heap.size, rfl, h.more (KB.alloc w _) (Row.ok (Row.new _ n _ (by simp) (by unfold maxLen; omega) hm)) (keys_nodup (.slice (some ⟨w.heap.size, 0, none⟩) n n)) (fun k hk => by simp [rowE, Value.keys, Value.ownBlock] at hk; omega), KB.alloc w _⟩
  simp [execOp, ev_eval ha hx, ev_eval ha hy, hr]
end
end Go.Gv

