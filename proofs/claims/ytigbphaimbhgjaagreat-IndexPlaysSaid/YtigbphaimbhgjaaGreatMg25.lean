/- The document's index: rows of files; what a deed does: plain. -/
import Derived.Test.YtigbphaimbhgjaaGreatMg22
namespace Go.Idx
open Go Go.Gv Go.Wds Go.Tly
abbrev RWS := List (ByteArray × SV)
def FOFR (R : List ((ByteArray × SV) × List Itm)) : List Fl := R.map fun r => (r.1.1, r.2)
def DOCR (rs : RWS) (P : PLI) (F : List Fl) : Prop := ∃ R : List ((ByteArray × SV) × List Itm), rs = R.map (·.1) ∧ F = FOFR R ∧ ∀ r ∈ R, (r.1.2, r.2) ∈ P
abbrev dSV : ByteArray × SV := (ByteArray.empty, svZ)
section
variable {rs rs' : RWS} {P : PLI} {F : List Fl} {file : ByteArray} {l : List Itm} {sv : SV} {k : Int}
theorem DOCR.len (h : DOCR rs P F) : rs.length = F.length := by
  obtain ⟨R, rfl, rfl, _⟩ := h
  simp [FOFR]
theorem DOCR.name (h : DOCR rs P F) (i : Nat) (hi : i < rs.length) : (rs.getD i dSV).1 = (F.getD i default).1 := by
  obtain ⟨R, rfl, rfl, _⟩ := h
  have hi' : i < R.length := by simpa using hi
  simp [FOFR, List.getD_eq_getElem?_getD, List.getElem?_eq_getElem hi']
theorem DOCR.nil : DOCR [] [] [] := ⟨[], rfl, rfl, fun r hr => (by cases hr)⟩
theorem docr_put (h : DOCR rs P F) (hF : NS F) (h0 : 0 ≤ k) (hk : k ≤ rs.length) (h1 : ∀ t : Int, 0 ≤ t → t < k → ltB (rs.getD t.toNat dSV).1 file) (h2 : k < rs.length → ¬ ltB (rs.getD k.toNat dSV).1 file)
    (e : rs' = rs.take k.toNat ++ (file, sv) :: (if k < rs.length ∧ (rs.getD k.toNat dSV).1 = file then rs.drop (k + 1).toNat else rs.drop k.toNat)) : DOCR rs' (P ++ [(sv, l)]) (PUTF file l F) := by
  have hlen := h.len
  have hn := h.name
  have key := putf_at (f := file) (l := l) (F := F) (k := k.toNat) hF (by omega) (fun t ht => by
    rw [← hn t (by omega)]
    have := h1 (t : Int) (by omega) (by omega)
    rwa [Int.toNat_natCast] at this) (fun hk' => by rw [← hn _ (by omega)]; exact h2 (by omega))
  obtain ⟨R, rfl, rfl, hP⟩ := h
  refine ⟨R.take k.toNat ++ ((file, sv), l) :: (if k < (R.map (·.1)).length ∧ ((R.map (·.1)).getD k.toNat dSV).1 = file then R.drop (k + 1).toNat else R.drop k.toNat), ?_, ?_, ?_⟩
  · rw [e]
    by_cases hc : k < (R.map (·.1)).length ∧ ((R.map (·.1)).getD k.toNat dSV).1 = file
    · rw [if_pos hc, if_pos hc]; simp [List.map_take, List.map_drop]
    · rw [if_neg hc, if_neg hc]; simp [List.map_take, List.map_drop]
  · rw [← key]
    have hkk : (k + 1).toNat = k.toNat + 1 := by omega
    by_cases hc : k < (R.map (·.1)).length ∧ ((R.map (·.1)).getD k.toNat dSV).1 = file
    · rw [if_pos hc, if_pos ⟨by omega, by rw [← hn _ (by omega)]; exact hc.2⟩, hkk]
      simp [FOFR, List.map_take, List.map_drop]
    · rw [if_neg hc, if_neg (fun hc' => hc ⟨by omega, by rw [hn _ (by omega)]; exact hc'.2⟩)]
      simp [FOFR, List.map_take, List.map_drop]
  · intro r hr
    rcases List.mem_append.1 hr with hr | hr
    · exact List.mem_append_left _ (hP r (List.mem_of_mem_take hr))
    · rcases List.mem_cons.1 hr with hr | hr
      · subst hr; exact List.mem_append_right _ (.head _)
      · refine List.mem_append_left _ (hP r ?_)
        split at hr
        · exact List.mem_of_mem_drop hr
        · exact List.mem_of_mem_drop hr
theorem docr_drop (h : DOCR rs P F) (hF : NS F) (h0 : 0 ≤ k) (hk : k < rs.length) (he : (rs.getD k.toNat dSV).1 = file) (e : rs' = rs.take k.toNat ++ rs.drop (k + 1).toNat) : DOCR rs' P (WOF F file) := by
  have hlen := h.len
  have hn := h.name
  have key := wof_at (F := F) (file := file) (k := k.toNat) hF.nd (by omega) (by rw [← hn _ (by omega)]; exact he)
  obtain ⟨R, rfl, rfl, hP⟩ := h
  refine ⟨R.take k.toNat ++ R.drop (k + 1).toNat, ?_, ?_, ?_⟩
  · rw [e]; simp [List.map_take, List.map_drop]
  · rw [← key, show (k + 1).toNat = k.toNat + 1 by omega]
    simp [FOFR, List.map_take, List.map_drop]
  · intro r hr
    rcases List.mem_append.1 hr with hr | hr
    · exact hP r (List.mem_of_mem_take hr)
    · exact hP r (List.mem_of_mem_drop hr)
/-- A file's name is there. -/
theorem docr_some (h : DOCR rs P F) (h0 : 0 ≤ k) (hk : k < rs.length) (he : (rs.getD k.toNat dSV).1 = file) : (lookL F file).isSome = true := by
  have hn := h.name k.toNat (by omega)
  have hlen := h.len
  rw [lookL_key, ← he, hn]
  exact List.mem_map.2 ⟨_, getD_mem (by omega), rfl⟩
theorem docr_none (h : DOCR rs P F) (q : ∀ t : Int, 0 ≤ t → t < rs.length → ¬ (rs.getD t.toNat dSV).1 = file) : (lookL F file).isSome = false := by
  have hn := h.name
  have hlen := h.len
  rcases hb : (lookL F file).isSome with _ | _
  · rfl
  · rw [lookL_key] at hb
    obtain ⟨f, hf, e⟩ := List.mem_map.1 hb
    obtain ⟨i, hi, e2⟩ := List.mem_iff_getElem.1 hf
    refine absurd ?_ (q (i : Int) (by omega) (by omega))
    rw [Int.toNat_natCast, hn i (by omega), List.getD_eq_getElem?_getD, List.getElem?_eq_getElem hi]
    show (F[i]).1 = file
    rw [e2, e]
end
/-! ### deeds -/
def DO (F : List Fl) (dr : Bool) (fl : ByteArray) (it : List Itm) : List Fl := if FINE it then (if dr then WOF F fl else if NAM fl then PUTF fl (it.take 20) F else F) else F
theorem do_bad {F : List Fl} {dr : Bool} {fl : ByteArray} {it : List Itm} (h : ¬ FINE it) : DO F dr fl it = F := if_neg h
theorem do_drop {F : List Fl} {dr : Bool} {fl : ByteArray} {it : List Itm} (h : FINE it) (hd : dr = true) : DO F dr fl it = WOF F fl := by unfold DO; rw [if_pos h, if_pos hd]
theorem do_put {F : List Fl} {dr : Bool} {fl : ByteArray} {it : List Itm} (h : FINE it) (hd : dr = false) (hN : NAM fl) : DO F dr fl it = PUTF fl (it.take 20) F := by unfold DO; rw [if_pos h, if_neg (by rw [hd]; simp), if_pos hN]
theorem do_name {F : List Fl} {dr : Bool} {fl : ByteArray} {it : List Itm} (h : FINE it) (hd : dr = false) (hN : ¬ NAM fl) : DO F dr fl it = F := by unfold DO; rw [if_pos h, if_neg (by rw [hd]; simp), if_neg hN]
theorem wof_gone {F : List Fl} {fl : ByteArray} (h : (lookL F fl).isSome = false) : WOF F fl = F := wof_self fun hm => by
  rw [← lookL_key, h] at hm; cases hm
end Go.Idx
/-! ### deeds in a row -/
namespace Go.Gv
open Go
abbrev DD := Bool × ByteArray × SV
def eDd : El DD := ⟨3, fun x => [.bool x.1, .string x.2.1, x.2.2.v], fun _ => rfl, fun _ u h => by simp at h; rcases h with rfl | rfl | rfl <;> rfl⟩
abbrev dDd : DD := (false, ByteArray.empty, svZ)
abbrev ddS : DD → SV := fun d => d.2.2
end Go.Gv
namespace Go.Idx
open Go Go.Gv Go.Wds Go.Tly
abbrev DDS := List (DD × List Itm)
instance : Inhabited DD := ⟨dDd⟩
abbrev dDI : DD × List Itm := (dDd, [])
abbrev DLS (l : DDS) : List DD := l.map fun d : DD × List Itm => d.1
theorem dd_get (l : DDS) (i : Nat) : (DLS l).getD i dDd = (l.getD i dDI).1 := by
  unfold DLS
  rw [List.getD_eq_getElem?_getD, List.getD_eq_getElem?_getD, List.getElem?_map]
  cases l[i]? <;> rfl
theorem dd_at {S : Nat → Prop} {w : World} {l : DDS} {i : Nat} (h : St S w (RdIn ddS eIt l)) (hi : i < l.length) : ∃ A c, ((DLS l).getD i dDd).2.2.v = .slice A (l.getD i dDI).2.length c ∧ St S w (Rd eIt (.slice A (l.getD i dDI).2.length c) (l.getD i dDI).2) := by
  have hm := getD_mem (l := l) (d := dDI) hi
  obtain ⟨A, c, e⟩ := (h.now _ hm).len
  refine ⟨A, c, ?_, h.imp fun w' hw => e ▸ hw _ hm⟩
  rw [dd_get]; exact e
def DOD (F : List Fl) (d : DD × List Itm) : List Fl := DO F d.1.1 d.1.2.1 d.2
def DOS (l : DDS) : List Fl := l.foldl DOD []
theorem DOS_at {l : DDS} {i : Int} (h0 : 0 ≤ i) (h1 : i < l.length) : DOS (l.take (i + 1).toNat) = DO (DOS (l.take i.toNat)) ((DLS l).getD i.toNat dDd).1 ((DLS l).getD i.toNat dDd).2.1 (l.getD i.toNat dDI).2 := by
  rw [Num.take_more dDI h0 h1, dd_get]
  unfold DOS
  rw [List.foldl_append]; rfl
theorem ixw_step {i : Int} {X : IXS} (h0 : 0 ≤ i) (h : IXW (i.toNat + 1) X) : IXW (i + 1).toNat X := by rwa [show (i + 1).toNat = i.toNat + 1 by omega]
end Go.Idx
namespace Go.Idx
open Go Go.Gv Go.Wds Go.Tly
abbrev aN : ByteArray := ⟨#[97]⟩
abbrev liveI : Itm := (0, (0, 0), false, (⟨#[71, 101, 116, 32, 120]⟩, false))
abbrev liveF : List Fl := PUTF aN [liveI] []
theorem live_find : FIND liveF (LOW ⟨#[103, 101, 116]⟩) ((0, 0) : Lb) = [(aN, 1)] := by decide +kernel
theorem live_words : (WRDS liveF ((0, 0) : Lb)).length = 2 := by decide +kernel
theorem live_files : (FLS liveF ((0, 0) : Lb)).length = 1 := by decide +kernel
theorem live_of : (OF ⟨#[98, 32, 97, 32, 98]⟩).length = 2 := by decide +kernel
theorem live_nam : NAM aN := by decide +kernel
end Go.Idx
namespace Go.Idx
open Go Go.Gv Go.Wds Go.Tly
section
variable {F : List Fl} {o : Lb} {p q : ByteArray} {h : En} {known : Bool} {l : List ByteArray} {i : Int}
theorem all2_mem : h ∈ ALLF F o [p, q] ↔ h ∈ FIND F (LOW p) o ∧ h ∈ FIND F (LOW q) o := by
  show h ∈ List.filter _ (List.filter _ _) ↔ _
  rw [List.mem_filter, List.mem_filter, decide_eq_true_iff, decide_eq_true_iff]
  exact ⟨fun h => ⟨h.1.1, h.2⟩, fun h => ⟨⟨h.1, h.1⟩, h.2⟩⟩
theorem kn_yes (h0 : 0 ≤ i) (h1 : i < l.length) (q1 : known = true ↔ q ∈ l.take i.toNat) (hk : known = true) : true = true ↔ q ∈ l.take (i + 1).toNat :=
  ⟨fun _ => by rw [Num.take_more ByteArray.empty h0 h1]; exact List.mem_append_left _ (q1.1 hk), fun _ => rfl⟩
theorem kn_no (h0 : 0 ≤ i) (h1 : i < l.length) (q1 : known = true ↔ q ∈ l.take i.toNat) (hk : known = false) : decide (l.getD i.toNat ByteArray.empty = q) = true ↔ q ∈ l.take (i + 1).toNat := by
  rw [decide_eq_true_iff, Num.take_more ByteArray.empty h0 h1, List.mem_append, List.mem_singleton, ← q1, hk]
  constructor
  · intro h; exact .inr h.symm
  · intro h; rcases h with h | h
    · cases h
    · exact h.symm
theorem ss_at (h : SS l) (h0 : 0 < i) (h1 : i < l.length) : ltB (l.getD (i - 1).toNat ByteArray.empty) (l.getD i.toNat ByteArray.empty) := by
  have := (List.pairwise_iff_getElem.1 h) (i - 1).toNat i.toNat (by omega) (by omega) (by omega)
  rw [List.getD_eq_getElem?_getD, List.getD_eq_getElem?_getD, List.getElem?_eq_getElem (by omega), List.getElem?_eq_getElem (by omega)]
  exact this
theorem kn_end (hi : (l.length : Int) ≤ i) (q1 : known = true ↔ p ∈ l.take i.toNat) (hl : l = WRDS F o) : (known == decide (((FIND F p o).length : Int) > 0)) = true := by
  rw [List.take_of_length_le (by omega), hl, wrds_mem] at q1
  have : (((FIND F p o).length : Int) > 0) ↔ FIND F p o ≠ [] := by
    rw [← List.length_pos_iff]; omega
  rw [beq_iff_eq, Bool.eq_iff_iff, decide_eq_true_iff, this]
  exact q1
theorem wrds_len {n : Nat} {X : IXS} (h : IXW n X) (hn : n ≤ 100) (o : Lb) : (WRDS X.F o).length ≤ 120000 := by
  have h1 : (WRDS X.F o).length ≤ (SRTB (WALL X.F)).length := List.length_filter_le _ _
  have h2 := SRTB_len (WALL X.F)
  have h3 := wall_len h.sm
  have h4 : 1200 * X.F.length ≤ 1200 * 100 := Nat.mul_le_mul_left _ (Nat.le_trans h.ln hn)
  omega
end
end Go.Idx

