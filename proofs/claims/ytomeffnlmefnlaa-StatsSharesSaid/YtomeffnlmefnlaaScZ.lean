/- The script of two texts, plain. -/
import Derived.Test.YtomeffnlmefnlaaScY
namespace Go.Num
open Go.Gv
theorem look_app {kv r : KV} {x : Ln} {v : Int} (h : lookL kv x = some v) : lookL (kv ++ r) x = some v := by
  induction kv with
  | nil => cases h
  | cons p kv ih =>
    unfold lookL at h
    rw [List.cons_append, lookL]
    split at h
    · rename_i e; rw [if_pos e]; exact h
    · rename_i e; rw [if_neg e]; exact ih h
theorem nk_app (kv : KV) (x : Ln) : ∃ r, nk kv x = kv ++ r := by
  unfold nk
  split
  · exact ⟨[], by simp⟩
  · rename_i h
    refine ⟨[(x, kv.length)], updL_new ?_⟩
    cases hl : lookL kv x with
    | none => rfl
    | some v => rw [hl] at h; simp at h
theorem nkv_app (kv : KV) (l : List Ln) : ∃ r, nkv kv l = kv ++ r := by
  induction l generalizing kv with
  | nil => exact ⟨[], by simp [nkv]⟩
  | cons x l ih =>
    obtain ⟨r, h⟩ := nk_app kv x
    obtain ⟨r2, h2⟩ := ih (nk kv x)
    exact ⟨r ++ r2, by rw [nkv, h2, h]; simp⟩
theorem nk_look (kv : KV) (x : Ln) : lookL (nk kv x) x = some (nn kv x) := by
  unfold nk nn
  cases h : lookL kv x with
  | none => simp [lookL_upd]
  | some v => simp [h]
theorem nkv_mono {kv : KV} {l : List Ln} {x : Ln} {v : Int} (h : lookL kv x = some v) : lookL (nkv kv l) x = some v := by
  obtain ⟨r, e⟩ := nkv_app kv l
  rw [e]; exact look_app h
/-- A line's number, when all is known. -/
def phi (kv : KV) (x : Ln) : Int := (lookL kv x).getD 0
theorem nnum_phi (kv : KV) (l : List Ln) : ∀ (l2 : List Ln), nnum kv l = l.map (phi (nkv (nkv kv l) l2)) := by
  induction l generalizing kv with
  | nil => intro _; rfl
  | cons x l ih =>
    intro l2
    rw [nnum, List.map_cons, nkv, ih (nk kv x) l2]
    congr 1
    have := nkv_mono (l := l2) (nkv_mono (l := l) (nk_look kv x))
    unfold phi
    rw [this]; rfl
theorem nkv_known (kv : KV) (l : List Ln) : ∀ x ∈ l, ∃ v, lookL (nkv kv l) x = some v := by
  induction l generalizing kv with
  | nil => intro x hx; cases hx
  | cons y l ih =>
    intro x hx
    rcases List.mem_cons.1 hx with rfl | hx
    · exact ⟨_, nkv_mono (l := l) (nk_look kv x)⟩
    · exact ih _ x hx
/-- Each number is its own place. -/
def Own (kv : KV) : Prop := ∀ (i : Nat) p, kv[i]? = some p → p.2 = i
theorem own_nk {kv : KV} (h : Own kv) (x : Ln) : Own (nk kv x) := by
  unfold nk
  split
  · exact h
  · rename_i hn
    have e : updL kv x kv.length = kv ++ [(x, (kv.length : Int))] := updL_new (by
      cases hl : lookL kv x with
      | none => rfl
      | some v => rw [hl] at hn; simp at hn)
    rw [e]
    intro i p hp
    rcases Nat.lt_or_ge i kv.length with hlt | hge
    · rw [List.getElem?_append_left hlt] at hp; exact h i p hp
    · rw [List.getElem?_append_right hge] at hp
      rcases Nat.eq_or_lt_of_le hge with he | hgt
      · subst he; simp at hp; subst hp; rfl
      · rw [List.getElem?_eq_none (by simp; omega)] at hp; cases hp
theorem own_nkv {kv : KV} (h : Own kv) (l : List Ln) : Own (nkv kv l) := by
  induction l generalizing kv with
  | nil => exact h
  | cons x l ih => exact ih (own_nk h x)
theorem look_mem {kv : KV} {x : Ln} {v : Int} (h : lookL kv x = some v) : ∃ i : Nat, kv[i]? = some (x, v) := by
  induction kv with
  | nil => cases h
  | cons p kv ih =>
    unfold lookL at h
    split at h
    · rename_i e
      injection h with h
      exact ⟨0, by simp; exact Prod.ext e h⟩
    · obtain ⟨i, hi⟩ := ih h
      exact ⟨i + 1, by simpa using hi⟩
theorem own_inj {kv : KV} (h : Own kv) {x y : Ln} {v : Int} (hx : lookL kv x = some v) (hy : lookL kv y = some v) : x = y := by
  obtain ⟨i, hi⟩ := look_mem hx
  obtain ⟨j, hj⟩ := look_mem hy
  have h1 := h i _ hi
  have h2 := h j _ hj
  simp only at h1 h2
  have : i = j := by omega
  subst this
  rw [hi] at hj
  injection hj with hj
  exact (Prod.mk.inj hj).1
end Go.Num
namespace Go.Scr
open Go Go.Gv Go.Num Go.Mys
def kvAB (a b : List Ln) : KV := nkv (nkv [] a) b
theorem NA_phi (a b : List Ln) : NA a = a.map (phi (kvAB a b)) := nnum_phi [] a b
theorem NB_phi (a b : List Ln) : NB a b = b.map (phi (kvAB a b)) := by
  have := nnum_phi (nkv [] a) b []
  simpa [NB, kvAB, nkv] using this
theorem phi_inj {a b : List Ln} {x y : Ln} (hx : x ∈ a ∨ x ∈ b) (hy : y ∈ a ∨ y ∈ b) (h : phi (kvAB a b) x = phi (kvAB a b) y) : x = y := by
  have own : Own (kvAB a b) := own_nkv (own_nkv (fun i p h => by simp at h) a) b
  have kn : ∀ z, z ∈ a ∨ z ∈ b → ∃ v, lookL (kvAB a b) z = some v := fun z hz => by
    rcases hz with hz | hz
    · obtain ⟨v, hv⟩ := nkv_known [] a z hz
      exact ⟨v, nkv_mono hv⟩
    · exact nkv_known _ b z hz
  obtain ⟨v, hv⟩ := kn x hx
  obtain ⟨u, hu⟩ := kn y hy
  unfold phi at h
  rw [hv, hu] at h
  simp at h
  subst h
  exact own_inj own hv hu
theorem gI_map (f : Ln → Int) {l : List Ln} {i : Int} (h0 : 0 ≤ i) (h1 : i < l.length) : gI (l.map f) i = f (l.getD i.toNat lnD) := by
  have hlt : i.toNat < l.length := by omega
  simp [gI, List.getD, hlt]
theorem lines_alike {a b : List Ln} {i j : Int} (hi0 : 0 ≤ i) (hi : i < a.length) (hj0 : 0 ≤ j) (hj : j < b.length) (h : gI (NA a) i = gI (NB a b) j) : a.getD i.toNat lnD = b.getD j.toNat lnD := by
  rw [NA_phi a b, NB_phi, gI_map _ hi0 hi, gI_map _ hj0 hj] at h
  exact phi_inj (.inl (getD_mem (by omega))) (.inr (getD_mem (by omega))) h
theorem drop_one {l : List Ln} {i : Int} (h0 : 0 ≤ i) (h1 : i < l.length) : l.drop i.toNat = l.getD i.toNat lnD :: l.drop (i + 1).toNat := by
  have hlt : i.toNat < l.length := by omega
  rw [show (i + 1).toNat = i.toNat + 1 by omega, List.drop_eq_getElem_cons hlt]
  simp [List.getD, hlt]
theorem mkE_sides {a b : List Ln} : ∀ (n : Nat) (i j : Int), 0 ≤ i → i ≤ a.length → 0 ≤ j → j ≤ b.length → (((a.length : Int) - i) + ((b.length : Int) - j)).toNat ≤ n →
    sA (mkE a b (Wy (NA a) (NB a b) i j) i j) = a.drop i.toNat ∧ sB (mkE a b (Wy (NA a) (NB a b) i j) i j) = b.drop j.toNat ∧
      2 * (((Wy (NA a) (NB a b) i j).length : Int) - chg (mkE a b (Wy (NA a) (NB a b) i j) i j)) + (chg (mkE a b (Wy (NA a) (NB a b) i j) i j) : Int) = (a.length : Int) - i + ((b.length : Int) - j) := by
  intro n
  induction n with
  | zero =>
    intro i j h0 h1 h2 h3 hn
    have e1 : i = a.length := by omega
    have e2 : j = b.length := by omega
    rw [Wy_end (by rw [NA_len]; omega) (by rw [NB_len]; omega)]
    refine ⟨?_, ?_, ?_⟩
    · rw [List.drop_of_length_le (by omega)]; rfl
    · rw [List.drop_of_length_le (by omega)]; rfl
    · simp [mkE, chg]; omega
  | succ n ih =>
    intro i j h0 h1 h2 h3 hn
    rcases Wy_any (a := NA a) (b := NB a b) h0 (by rw [NA_len]; exact h1) h2 (by rw [NB_len]; exact h3) with ⟨e, e1, e2⟩ | ⟨q1, q2, q3, e⟩ | ⟨q1, e⟩ | ⟨q1, e⟩
    · rw [NA_len] at e1; rw [NB_len] at e2
      rw [e]
      refine ⟨?_, ?_, ?_⟩
      · rw [List.drop_of_length_le (by omega)]; rfl
      · rw [List.drop_of_length_le (by omega)]; rfl
      · simp [mkE, chg]; omega
    · rw [NA_len] at q1; rw [NB_len] at q2
      obtain ⟨k1, k2, k3⟩ := ih (i + 1) (j + 1) (by omega) (by omega) (by omega) (by omega) (by omega)
      rw [e, mkE, if_neg (by omega), if_pos rfl]
      have hc : ∀ (x : List Ln) (s : List Ed), chg ((1, x) :: s) = chg s := fun x s => by simp [chg]
      have ha : ∀ (x : List Ln) (s : List Ed), sA ((1, x) :: s) = x ++ sA s := fun x s => by simp [sA]
      have hb : ∀ (x : List Ln) (s : List Ed), sB ((1, x) :: s) = x ++ sB s := fun x s => by simp [sB]
      rw [ha, hb, hc, k1, k2]
      refine ⟨?_, ?_, ?_⟩
      · rw [drop_one h0 q1]; rfl
      · rw [drop_one h2 q2, ← lines_alike h0 q1 h2 q2 q3]; rfl
      · simp only [List.length_cons]; omega
    · rw [NA_len] at q1
      obtain ⟨k1, k2, k3⟩ := ih (i + 1) j (by omega) (by omega) (by omega) (by omega) (by omega)
      rw [e, mkE, if_neg (by omega), if_neg (by omega)]
      have hc : ∀ (x : List Ln) (s : List Ed), chg ((2, x) :: s) = x.length + chg s := fun x s => by simp [chg]
      have ha : ∀ (x : List Ln) (s : List Ed), sA ((2, x) :: s) = x ++ sA s := fun x s => by simp [sA]
      have hb : ∀ (x : List Ln) (s : List Ed), sB ((2, x) :: s) = sB s := fun x s => by simp [sB]
      rw [ha, hb, hc, k1, k2]
      refine ⟨?_, rfl, ?_⟩
      · rw [drop_one h0 q1]; rfl
      · simp only [List.length_cons, List.length_nil]; omega
    · rw [NB_len] at q1
      obtain ⟨k1, k2, k3⟩ := ih i (j + 1) (by omega) (by omega) (by omega) (by omega) (by omega)
      rw [e, mkE, if_pos rfl]
      have hc : ∀ (x : List Ln) (s : List Ed), chg ((3, x) :: s) = x.length + chg s := fun x s => by simp [chg]
      have ha : ∀ (x : List Ln) (s : List Ed), sA ((3, x) :: s) = sA s := fun x s => by simp [sA]
      have hb : ∀ (x : List Ln) (s : List Ed), sB ((3, x) :: s) = x ++ sB s := fun x s => by simp [sB]
      rw [ha, hb, hc, k1, k2]
      refine ⟨rfl, ?_, ?_⟩
      · rw [drop_one h2 q1]; rfl
      · simp only [List.length_cons, List.length_nil]; omega
section
variable {a b : List Ln}
theorem raw_wy (ha : a.length ≤ 400) (hb : b.length ≤ 400) : rawM a b = mkE a b (Wy (NA a) (NB a b) 0 0) 0 0 := by
  unfold rawM
  rw [Stp_small (by rw [NA_len]; exact ha) (by rw [NB_len]; exact hb), Wy_00]
theorem raw_sides (ha : a.length ≤ 400) (hb : b.length ≤ 400) : sA (rawM a b) = a ∧ sB (rawM a b) = b := by
  have h := mkE_sides (a := a) (b := b) _ 0 0 (Int.le_refl _) (by omega) (Int.le_refl _) (by omega) (Nat.le_refl _)
  rw [raw_wy ha hb]
  exact ⟨by simpa using h.1, by simpa using h.2.1⟩
theorem MKS_small (ha : a.length ≤ 400) (hb : b.length ≤ 400) : MKS a b = NF (rawM a b) := (NF_raw (by omega)).symm
theorem chk_MKS (a b : List Ln) : chk (MKS a b) = 0 := by
  unfold MKS
  split
  · rfl
  · exact chk_normP (chk_raw a b)
theorem SA_MKS (ha : a.length ≤ 400) (hb : b.length ≤ 400) : SA (MKS a b) = a := by
  rw [MKS_small ha hb, SA_NF]
  exact (if_pos (chk_raw a b)).trans (raw_sides ha hb).1
theorem SB_MKS (ha : a.length ≤ 400) (hb : b.length ≤ 400) : SB (MKS a b) = b := by
  rw [MKS_small ha hb, SB_NF]
  exact (if_pos (chk_raw a b)).trans (raw_sides ha hb).2
theorem MKE_small (ha : a.length ≤ 400) (hb : b.length ≤ 400) : MKE a b = 0 := if_neg (by omega)
/-- Lines that a script keeps. -/
def kept (s : List Ed) : List Ln := s.flatMap fun e => if e.1 = 1 then e.2 else []
theorem kept_subA (s : List Ed) : (kept s).Sublist (sA s) := by
  induction s with
  | nil => exact List.Sublist.refl _
  | cons e s ih =>
    simp only [kept, sA, List.flatMap_cons] at ih ⊢
    refine List.Sublist.append ?_ ih
    by_cases h : e.1 = 1
    · rw [if_pos h, if_pos (.inl h)]; exact List.Sublist.refl _
    · rw [if_neg h]; exact List.nil_sublist _
theorem kept_subB (s : List Ed) : (kept s).Sublist (sB s) := by
  induction s with
  | nil => exact List.Sublist.refl _
  | cons e s ih =>
    simp only [kept, sB, List.flatMap_cons] at ih ⊢
    refine List.Sublist.append ?_ ih
    by_cases h : e.1 = 1
    · rw [if_pos h, if_neg (by omega)]; exact List.Sublist.refl _
    · rw [if_neg h]; exact List.nil_sublist _
theorem kept_count {s : List Ed} (h : okS s = true) : (sA s).length + (sB s).length = chg s + 2 * (kept s).length := by
  induction s with
  | nil => rfl
  | cons e s ih =>
    have h' : okE e.1 = true ∧ okS s = true := by simpa [okS] using h
    have h1 := h'.1
    simp only [okE, decide_eq_true_eq] at h1
    have h2 := ih h'.2
    obtain ⟨d, l⟩ := e
    simp only at h1
    have hd : d = 1 ∨ d = 2 ∨ d = 3 := by omega
    simp only [sA, sB, chg, kept, List.flatMap_cons, List.map_cons, List.sum_cons, List.length_append] at h2 ⊢
    rcases hd with rfl | rfl | rfl <;> simp at h2 ⊢ <;> omega
theorem chg_raw (ha : a.length ≤ 400) (hb : b.length ≤ 400) : (chg (rawM a b) : Int) = dist (NA a) (NB a b) := by
  have h := (mkE_sides (a := a) (b := b) _ 0 0 (Int.le_refl _) (by omega) (Int.le_refl _) (by omega) (Nat.le_refl _)).2.2
  rw [← raw_wy ha hb, Wy_00] at h
  have h2 := way_len _ (NA a) (NB a b) 0 0 (Nat.le_refl _)
  have h3 : ∀ (s : List Int) (i j i' j' : Int), (∀ x ∈ s, x = 1 ∨ x = 2 ∨ x = 3) → s.length = (prs s i j).length + chg (mkE a b s i' j') := by
    intro s
    induction s with
    | nil => intros; rfl
    | cons x s ih =>
      intro i j i' j' hs
      have hx := hs x (by simp)
      have hs' : ∀ y ∈ s, y = 1 ∨ y = 2 ∨ y = 3 := fun y hy => hs y (by simp [hy])
      have hc : ∀ (d : Int) (y : Ln) (t : List Ed), chg ((d, [y]) :: t) = (if d = 2 ∨ d = 3 then 1 else 0) + chg t := fun d y t => by simp [chg]
      rcases hx with rfl | rfl | rfl
      · rw [prs, if_pos rfl, mkE, if_neg (by omega), if_pos rfl, hc, if_neg (by omega)]
        have := ih (i + 1) (j + 1) (i' + 1) (j' + 1) hs'
        simp only [List.length_cons]; omega
      · rw [prs, if_neg (by omega), if_pos rfl, mkE, if_neg (by omega), if_neg (by omega), hc, if_pos (by omega)]
        have := ih (i + 1) j (i' + 1) j' hs'
        simp only [List.length_cons]; omega
      · rw [prs, if_neg (by omega), if_neg (by omega), mkE, if_pos rfl, hc, if_pos (by omega)]
        have := ih i (j + 1) i' (j' + 1) hs'
        simp only [List.length_cons]; omega
  have h4 := h3 (way (NA a) (NB a b)) 0 0 0 0 (way_mem _ _ _ (Nat.le_refl _)).2
  rw [← Wy_00, ← raw_wy ha hb, Wy_00] at h4
  rw [NA_len, NB_len] at h2
  omega
/-- No script changes fewer lines. -/
theorem shortest {s : List Ed} (h : chk s = 0) (ha : (sA s).length ≤ 40) (hb : (sB s).length ≤ 40) : chgI (MKS (sA s) (sB s)) ≤ chgI s := by
  obtain ⟨_, h2, h3⟩ := chk0 h
  rw [MKS_small (by omega) (by omega), chgI_NF (chk_raw _ _), chgI_chg (by have := (chk0 (chk_raw (sA s) (sB s))).2.1; omega), chgI_chg (by omega), chg_raw (by omega) (by omega)]
  have k1 := kept_count h3
  have k2 : 2 * ((kept s).map (phi (kvAB (sA s) (sB s)))).length + dist (NA (sA s)) (NB (sA s) (sB s)) ≤ (NA (sA s)).length + (NB (sA s) (sB s)).length := by
    refine dist_le_of ?_ ?_
    · rw [NA_phi (sA s) (sB s)]; exact (kept_subA s).map _
    · rw [NB_phi]; exact (kept_subB s).map _
  rw [NA_len, NB_len, List.length_map] at k2
  omega
/-- Forth and back. -/
theorem apply_make (ha : a.length ≤ 400) (hb : b.length ≤ 400) : apT (MKS a b) a = b ∧ apE (MKS a b) a = 0 := by
  have h1 := SA_MKS ha hb
  have h2 := SB_MKS ha hb
  have h3 := chk_MKS a b
  exact ⟨(if_pos ⟨h3, h1⟩).trans h2, by unfold apE; rw [if_neg (by omega), if_pos h1]⟩
theorem apply_back (ha : a.length ≤ 400) (hb : b.length ≤ 400) : apT (IVS (MKS a b)) b = a ∧ apE (IVS (MKS a b)) b = 0 := by
  have h1 : SA (IVS (MKS a b)) = b := by rw [SA_IVS]; exact SB_MKS ha hb
  have h2 : SB (IVS (MKS a b)) = a := by rw [SB_IVS]; exact SA_MKS ha hb
  have h3 := chk_IVS (MKS a b)
  exact ⟨(if_pos ⟨h3, h1⟩).trans h2, by unfold apE; rw [if_neg (by omega), if_pos h1]⟩
end
/-! ### what must be whatever is asked -/
def l97 : Ln := (⟨#[97]⟩, false)
def l98 : Ln := (⟨#[98]⟩, false)
def l99 : Ln := (⟨#[99]⟩, false)
theorem live8 : MKS [(⟨#[97]⟩, false), (⟨#[98]⟩, false)] [(⟨#[97]⟩, false), (⟨#[99]⟩, false)] = [(1, [(⟨#[97]⟩, false)]), (2, [(⟨#[98]⟩, false)]), (3, [(⟨#[99]⟩, false)])] := by
  have h1 : NA [l97, l98] = [0, 1] := by decide
  have h2 : NB [l97, l98] [l97, l99] = [0, 2] := by decide
  have h3 : Stp [0, 1] [0, 2] = [1, 2, 3] := by simp [Stp, way, dist]
  have h4 : rawM [l97, l98] [l97, l99] = [(1, [l97]), (2, [l98]), (3, [l99])] := by
    unfold rawM; rw [h1, h2, h3]; rfl
  show MKS [l97, l98] [l97, l99] = [(1, [l97]), (2, [l98]), (3, [l99])]
  unfold MKS
  rw [if_neg (by decide), h4]
  decide
theorem hm_of {rows : List (ED × List Ln)} (h : chk (scr rows) = 0) : ∀ p ∈ rows, p.2.length ≤ 140737488355328 := fun p hp => Nat.le_trans (tot_mem hp) (by have := (chk0 h).2.1; omega)
theorem shortest' {s : List Ed} (h : chk s = 0) (ha : ¬ ((SA s).length : Int) > 40) (hb : ¬ ((SB s).length : Int) > 40) : chgI (MKS (SA s) (SB s)) ≤ chgI s := by
  have h1 : SA s = sA s := if_pos h
  have h2 : SB s = sB s := if_pos h
  rw [h1] at ha ⊢
  rw [h2] at hb ⊢
  exact shortest h (by omega) (by omega)
theorem NF_none {rows : List (ED × List Ln)} {s : List Ed} (h : chk s ≠ 0) (hq : scr rows = NF s) : (rows.length : Int) = 0 := by
  have h1 : NF s = [] := if_neg h
  rw [h1] at hq
  have := congrArg List.length hq
  rw [scr_length] at this
  simp at this
  simp [this]
theorem SA_len (s : List Ed) : (SA s).length ≤ 800 := by
  unfold SA
  split
  · rename_i h; have := sA_len s; have := (chk0 h).2.1; omega
  · simp
end Go.Scr
