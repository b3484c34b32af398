/- Deeds as an argument of a law. -/
import Derived.Test.YtigbphaimbhgjaaGreatMg29
import Derived.Test.YtigbphaimbhgjaaGreatMg25
import Derived.Test.YtigbphaimbhgjaaGreatMg5
namespace Go.Gv
open Go Go.RowKit Go.Idx
section
variable {H : Type} {enc : TypeId × Value → H} {P : Program} {w : World}
theorem opn_dd {t tl : TypeId} {f0 f1 f2 : Field} {K : Itm → Prop} (ht : P.underlying t = some (.struct #[f0, f1, f2])) (h0 : P.underlying f0.type = some .bool) (h1 : P.underlying f1.type = some .string) (h2 : P.underlying f2.type = some (.slice tl))
    (hc : P.cellsOf f0.type = 1 ∧ P.cellsOf f1.type = 1 ∧ P.cellsOf f2.type = 1 ∧ P.cellsOf t = 3 ∧ f0.offset = 0 ∧ f1.offset = 1 ∧ f2.offset = 2) (hl : P.cellsOf tl = 6) (h : Opn enc P w tl eIt.enc K) :
    Opn enc P w t eDd.enc (fun x : DD => x.2.1.size ≤ reachBytes ∧ ∃ l : List Itm, Rd eIt x.2.2.v l w ∧ ∀ y ∈ l, K y) :=
  opn_imp (opn_map (f := fun p : Bool × (ByteArray × (SV × List Itm)) => [.bool p.1] ++ ([.string p.2.1] ++ [p.2.2.1.v])) (g := eDd.enc) (fun p : Bool × (ByteArray × (SV × List Itm)) => (p.1, p.2.1, p.2.2.1))
    (opn_struct ht (by simp [hc.1, hc.2.1, hc.2.2.1, hc.2.2.2.1]) (opnF_cons (f := fun x : Bool => [.bool x]) (g := fun p : ByteArray × (SV × List Itm) => [.string p.1] ++ [p.2.1.v]) hc.2.2.2.2.1 hc.1 (opn_bool h0)
      (opnF_cons (f := fun x : ByteArray => [.string x]) (g := fun p : SV × List Itm => [p.1.v]) hc.2.2.2.2.2.1 hc.2.1 (opn_str h1) (opnF_one hc.2.2.2.2.2.2 (opn_slice h2 hl h))))) fun _ => rfl)
    fun x ⟨a, e, h⟩ => ⟨by subst e; exact h.2.1, a.2.2.2, by subst e; exact h.2.2.2.1, h.2.2.2.2.1⟩
theorem dd_of {v : Value} {xs : List DD} (h : St No w (Rd eDd v xs)) (hx : ∀ x ∈ xs, x.2.1.size ≤ reachBytes ∧ ∃ l : List Itm, Rd eIt x.2.2.v l w ∧ ∀ y ∈ l, Go.Tly.WLB y.2.1) :
    ∃ inp : DDS, xs = DLS inp ∧ St No w (Rd eDd v (DLS inp)) ∧ St No w (RdIn ddS eIt inp) ∧ (∀ p ∈ inp, p.1.2.1.size ≤ 140737488355328) ∧ ∀ p ∈ inp, ∀ y ∈ p.2, 0 ≤ y.2.1.2 ∧ y.2.1.2 < 18446744073709551616 := by
  obtain ⟨rows, e, hj⟩ := rows_of (J := fun (x : DD) l => x.2.1.size ≤ reachBytes ∧ Rd eIt x.2.2.v l w ∧ ∀ y ∈ l, Go.Tly.WLB y.2.1) fun x hm => (hx x hm).2.elim fun l hl => ⟨l, (hx x hm).1, hl⟩
  refine ⟨rows, e.symm, (show DLS rows = xs from e) ▸ h, fun w' hk p hp => Rd.stN (hj p hp).2.1 w' hk, fun p hp => ?_, fun p hp y hy => ((hj p hp).2.2 y hy).2.2⟩
  have h1 := (hj p hp).1
  have : reachBytes = 0x7ffffffff000 := rfl
  omega
end
end Go.Gv

namespace Go.Wds
open Go Go.Gv
theorem doc_tok' {s s2 : ByteArray} {f : Nat} {n k : Int} {out : List ByteArray} (e : s2 = s.extract f s.size) (h : TKS s f = (out, f)) (hf : f ≤ s.size) (hn : 1 ≤ n) (hns : n ≤ (s2.size : Int)) (hk : ∀ t : Int, 0 ≤ t → t < n → KD (gI (bytesOf s2) t) = k) (h3 : k = 3 → n = 1)
    (he : n = (s2.size : Int) ∨ k = 3 ∨ KD (gI (bytesOf s2) n) ≠ k) : TKS s (f + n.toNat) = (out ++ [s2.extract 0 n.toNat], f + n.toNat) := by
  subst e; exact doc_tok h hf hn hns hk h3 he
theorem doc_rest' {s s2 : ByteArray} {f : Nat} {n : Int} (e : s2 = s.extract f s.size) (hf : f ≤ s.size) (hn : 1 ≤ n) (hns : n ≤ (s2.size : Int)) : s2.extract n.toNat s2.size = s.extract (f + n.toNat) s.size := by
  subst e; exact doc_rest hf hn hns
theorem doc_bd {s s2 : ByteArray} {f : Nat} {n : Int} (e : s2 = s.extract f s.size) (hf : f ≤ s.size) (hn : 1 ≤ n) (hns : n ≤ (s2.size : Int)) : f + n.toNat ≤ s.size := by
  have hz := ext_size s (l := f) (Nat.le_refl s.size)
  rw [← e] at hz; omega
end Go.Wds
namespace Go.Idx
open Go Go.Gv Go.Wds Go.Tly
/-! ### words in order -/
theorem INSB_len (x : ByteArray) (l : List ByteArray) : (INSB x l).length ≤ l.length + 1 := by
  induction l with
  | nil => simp [INSB]
  | cons y l ih =>
    unfold INSB
    split
    · simp only [List.length_cons]; omega
    · split <;> simp
theorem insb_at {s : ByteArray} : ∀ {l : List ByteArray} {k : Nat}, k ≤ l.length → (∀ t : Nat, t < k → ltB (l.getD t ByteArray.empty) s) → (k < l.length → ¬ ltB (l.getD k ByteArray.empty) s) →
    INSB s l = if k < l.length ∧ l.getD k ByteArray.empty = s then l else l.take k ++ s :: l.drop k
  | [], k, hk, _, _ => by
    obtain rfl : k = 0 := by simpa using hk
    simp [INSB]
  | y :: l, 0, _, _, h2 => by
    have h3 : ¬ ltB y s := h2 (by simp)
    unfold INSB
    rw [if_neg h3]
    by_cases h : y = s
    · rw [if_pos h, if_pos ⟨by simp, h⟩]
    · rw [if_neg h, if_neg (fun hx => h hx.2)]; rfl
  | y :: l, k + 1, hk, h1, h2 => by
    have h3 : ltB y s := h1 0 (by omega)
    have ih := insb_at (s := s) (l := l) (k := k) (by simpa using hk) (fun t ht => by simpa using h1 (t + 1) (by omega)) (fun hx => by simpa using h2 (by simpa using hx))
    unfold INSB
    rw [if_pos h3, ih]
    by_cases h : k < l.length ∧ l.getD k ByteArray.empty = s
    · rw [if_pos h, if_pos ⟨by simpa using h.1, by simpa using h.2⟩]
    · rw [if_neg h, if_neg (fun hx => h ⟨by simpa using hx.1, by simpa using hx.2⟩)]; simp
section
variable {l : List ByteArray} {s : ByteArray} {k : Int}
theorem insb_in (h0 : 0 ≤ k) (hk : k < l.length) (q : ∀ t : Int, 0 ≤ t → t < k → ltB (l.getD t.toNat ByteArray.empty) s) (e : l.getD k.toNat ByteArray.empty = s) : INSB s l = l := by
  rw [insb_at (k := k.toNat) (by omega) (fun t ht => by simpa using q (t : Int) (by omega) (by omega)) (fun _ => by rw [e]; exact ltB_irr s), if_pos ⟨by omega, e⟩]
theorem insb_new (h0 : 0 ≤ k) (hk : k ≤ l.length) (q : ∀ t : Int, 0 ≤ t → t < k → ltB (l.getD t.toNat ByteArray.empty) s) (h1 : k < l.length → ¬ ltB (l.getD k.toNat ByteArray.empty) s) (h2 : k < l.length → ¬ l.getD k.toNat ByteArray.empty = s) : l.take k.toNat ++ s :: l.drop k.toNat = INSB s l := by
  rw [insb_at (k := k.toNat) (by omega) (fun t ht => by simpa using q (t : Int) (by omega) (by omega)) (fun hx => h1 (by omega)), if_neg (fun hx => h2 (by omega) hx.2)]
theorem inS_yes {h : ByteArray} (h0 : 0 ≤ k) (h1 : k < l.length) (e : l.getD k.toNat ByteArray.empty = h) : h ∈ l := e ▸ getD_mem (l := l) (d := ByteArray.empty) (show k.toNat < l.length by omega)
theorem inS_no {h : ByteArray} (q : ∀ t : Int, 0 ≤ t → t < l.length → ¬ l.getD t.toNat ByteArray.empty = h) : ¬ h ∈ l := fun hm => by
  obtain ⟨j, hj, e⟩ := List.mem_iff_getElem.1 hm
  refine q j (by omega) (by omega) ?_
  rw [Int.toNat_natCast, List.getD_eq_getElem?_getD, List.getElem?_eq_getElem hj]
  exact e
/-- The document's words, one more token. -/
theorem ofd_yes (h0 : 0 ≤ k) (h1 : k < l.length) (hw : ISW (l.getD k.toNat ByteArray.empty)) : SRTB (WDL (l.take (k + 1).toNat)) = INSB (LOW (l.getD k.toNat ByteArray.empty)) (SRTB (WDL (l.take k.toNat))) := by rw [WDL_at h0 h1, if_pos hw, SRTB_snoc]
theorem ofd_no (h0 : 0 ≤ k) (h1 : k < l.length) (hw : ¬ ISW (l.getD k.toNat ByteArray.empty)) : SRTB (WDL (l.take (k + 1).toNat)) = SRTB (WDL (l.take k.toNat)) := by rw [WDL_at h0 h1, if_neg hw]
end
/-! ### the document's index as it is read -/
structure DCS where
  b : Nat
  A : Option Addr
  c : Nat
  rs : RWS
  P : PLI
  F : List Fl
structure DCW (Y : DCS) : Prop where
  dr : DOCR Y.rs Y.P Y.F
  ns : NS Y.F
  sm : SMALL Y.F
  ln : Y.F.length ≤ 30
theorem DCW.len {Y : DCS} (h : DCW Y) : Y.rs.length ≤ 30 ∧ Y.rs.length = Y.F.length := by have := h.dr.len; have := h.ln; omega
theorem DCW.at {Y : DCS} (h : DCW Y) {i : Nat} (hi : i < Y.rs.length) : (Y.F.getD i default).2.length ≤ 20 ∧ (∀ y ∈ (Y.F.getD i default).2, y.2.2.2.1.size ≤ 60 ∧ 0 ≤ y.2.1.2 ∧ y.2.1.2 < 18446744073709551616) ∧ (Y.rs.getD i dSV).1 = (Y.F.getD i default).1 := by
  have hl := h.len.2
  have hm := h.sm _ (getD_mem (l := Y.F) (d := default) (i := i) (by omega))
  exact ⟨hm.1, hm.2, h.dr.name i hi⟩
theorem docr_at {S : Nat → Prop} {w : World} {rs : RWS} {P : PLI} {F : List Fl} {i : Nat} (h : St S w (RdIn (fun s : SV => s) eIt P)) (hD : DOCR rs P F) (hi : i < rs.length) : ∃ A c, (rs.getD i dSV).2.v = .slice A (F.getD i default).2.length c ∧ St S w (Rd eIt (.slice A (F.getD i default).2.length c) (F.getD i default).2) := by
  obtain ⟨R, rfl, rfl, hP⟩ := hD
  have hi' : i < R.length := by simpa using hi
  have hm := hP _ (List.getElem_mem hi')
  have e1 : ((R.map (·.1)).getD i dSV) = (R[i]).1 := by simp [List.getD_eq_getElem?_getD, List.getElem?_eq_getElem hi']
  have e2 : ((FOFR R).getD i default) = ((R[i]).1.1, (R[i]).2) := by simp [FOFR, List.getD_eq_getElem?_getD, List.getElem?_eq_getElem hi']
  obtain ⟨A, c, e⟩ := (h.now _ hm).len
  refine ⟨A, c, ?_, ?_⟩
  · rw [e1, e2]; exact e
  · rw [e2]; exact h.imp fun w' hw => e ▸ hw _ hm
section
variable {F : List Fl} {q : ByteArray} {o : Lb} {i k n : Int} {f : ByteArray} {L : List Itm} {out : List En}
theorem dfind_no (h0 : 0 ≤ k) (h1 : k < L.length) (hb : ¬ BEL (L.getD k.toNat dI).2.1 o) (q2 : out = FIND F q o ++ FNI f q o 0 (L.take k.toNat)) : out = FIND F q o ++ FNI f q o 0 (L.take (k + 1).toNat) := by
  rw [FNI_at h0 h1, if_neg (fun h => hb h.1), List.append_nil]; exact q2
theorem dfind_nw (h0 : 0 ≤ k) (h1 : k < L.length) (hw : ¬ HW (L.getD k.toNat dI) q) (q2 : out = FIND F q o ++ FNI f q o 0 (L.take k.toNat)) : out = FIND F q o ++ FNI f q o 0 (L.take (k + 1).toNat) := by
  rw [FNI_at h0 h1, if_neg (fun h => hw h.2), List.append_nil]; exact q2
theorem dfind_yes (h0 : 0 ≤ k) (h1 : k < L.length) (hb : BEL (L.getD k.toNat dI).2.1 o) (hw : HW (L.getD k.toNat dI) q) (hn : n = CNTB (L.take k.toNat) o) (q2 : out = FIND F q o ++ FNI f q o 0 (L.take k.toNat)) : out ++ [((f, n + 1) : En)] = FIND F q o ++ FNI f q o 0 (L.take (k + 1).toNat) := by
  rw [FNI_at h0 h1, if_pos ⟨hb, hw⟩, ← List.append_assoc, ← q2, hn]
theorem dcnt_no (h0 : 0 ≤ k) (h1 : k < L.length) (hb : ¬ BEL (L.getD k.toNat dI).2.1 o) (hn : n = CNTB (L.take k.toNat) o) : n = CNTB (L.take (k + 1).toNat) o := by rw [CNTB_at h0 h1, if_neg hb, Int.add_zero]; exact hn
theorem dcnt_yes (h0 : 0 ≤ k) (h1 : k < L.length) (hb : BEL (L.getD k.toNat dI).2.1 o) (hn : n = CNTB (L.take k.toNat) o) : n + 1 = CNTB (L.take (k + 1).toNat) o := by rw [CNTB_at h0 h1, if_pos hb, hn]
theorem dfind_0 (q1 : out = FIND F q o) : out = FIND F q o ++ FNI f q o 0 (L.take (0 : Int).toNat) := by simpa [FNI] using q1
theorem dfind_end (h0 : 0 ≤ i) (h1 : i < F.length) (hf : f = (F.getD i.toNat default).1) (hk : ((F.getD i.toNat default).2.length : Int) ≤ k) (q2 : out = FIND (F.take i.toNat) q o ++ FNI f q o 0 ((F.getD i.toNat default).2.take k.toNat)) : out = FIND (F.take (i + 1).toNat) q o := by
  rw [FIND_at h0 h1, ← hf, q2, List.take_of_length_le (l := (F.getD i.toNat default).2) (by omega)]
/-! ### words -/
def VL (o : Lb) (l : List Itm) : List ByteArray := l.flatMap fun y => if y.2.2.1 = false ∧ BEL y.2.1 o then OF y.2.2.2.1 else []
def VW (F : List Fl) (o : Lb) : List ByteArray := F.flatMap fun f => VL o f.2
theorem VL_at (h0 : 0 ≤ k) (h1 : k < L.length) : VL o (L.take (k + 1).toNat) = VL o (L.take k.toNat) ++ (if (L.getD k.toNat dI).2.2.1 = false ∧ BEL (L.getD k.toNat dI).2.1 o then OF (L.getD k.toNat dI).2.2.2.1 else []) := by
  unfold VL; rw [Num.take_more dI h0 h1, List.flatMap_append]; simp
theorem VW_at (h0 : 0 ≤ i) (h1 : i < F.length) : VW (F.take (i + 1).toNat) o = VW (F.take i.toNat) o ++ VL o (F.getD i.toNat default).2 := by
  unfold VW; rw [Num.take_more default h0 h1, List.flatMap_append]; simp
theorem wrds_doc (F : List Fl) (o : Lb) : SRTB (VW F o) = WRDS F o := wrds_of (SRTB_ss _) fun a => by
  rw [SRTB_mem, find_ne]
  unfold VW VL
  constructor
  · intro h
    obtain ⟨f, hf, h1⟩ := List.mem_flatMap.1 h
    obtain ⟨y, hy, h2⟩ := List.mem_flatMap.1 h1
    split at h2
    · rename_i hc; exact ⟨f, hf, y, hy, ⟨hc.1, h2⟩, hc.2⟩
    · cases h2
  · rintro ⟨f, hf, y, hy, hw, hb⟩
    exact List.mem_flatMap.2 ⟨f, hf, List.mem_flatMap.2 ⟨y, hy, by rw [if_pos ⟨hw.1, hb⟩]; exact hw.2⟩⟩
variable {ws W1 W2 T : List ByteArray}
theorem dw_0 (q1 : ws = SRTB (VW F o)) : ws = SRTB (VW F o ++ VL o (L.take (0 : Int).toNat)) := by simpa [VL] using q1
theorem dw_end (h0 : 0 ≤ i) (h1 : i < F.length) (hk : ((F.getD i.toNat default).2.length : Int) ≤ k) (q2 : ws = SRTB (VW (F.take i.toNat) o ++ VL o ((F.getD i.toNat default).2.take k.toNat))) : ws = SRTB (VW (F.take (i + 1).toNat) o) := by
  rw [VW_at h0 h1, q2, List.take_of_length_le (l := (F.getD i.toNat default).2) (by omega)]
theorem dw_no (h0 : 0 ≤ k) (h1 : k < L.length) (hb : ¬ ((L.getD k.toNat dI).2.2.1 = false ∧ BEL (L.getD k.toNat dI).2.1 o)) (q2 : ws = SRTB (W1 ++ VL o (L.take k.toNat))) : ws = SRTB (W1 ++ VL o (L.take (k + 1).toNat)) := by
  rw [VL_at h0 h1, if_neg hb, List.append_nil]; exact q2
theorem dw_yes {j : Int} (h0 : 0 ≤ k) (h1 : k < L.length) (hb : (L.getD k.toNat dI).2.2.1 = false ∧ BEL (L.getD k.toNat dI).2.1 o) (hj : ((OF (L.getD k.toNat dI).2.2.2.1).length : Int) ≤ j) (q3 : ws = SRTB (W1 ++ VL o (L.take k.toNat) ++ (OF (L.getD k.toNat dI).2.2.2.1).take j.toNat)) : ws = SRTB (W1 ++ VL o (L.take (k + 1).toNat)) := by
  rw [VL_at h0 h1, if_pos hb, ← List.append_assoc, q3, List.take_of_length_le (l := OF (L.getD k.toNat dI).2.2.2.1) (by omega)]
theorem dw_word {j : Int} (h0 : 0 ≤ j) (h1 : j < T.length) (q3 : ws = SRTB (W1 ++ T.take j.toNat)) : INSB (T.getD j.toNat ByteArray.empty) ws = SRTB (W1 ++ T.take (j + 1).toNat) := by
  rw [Num.take_more ByteArray.empty h0 h1, ← List.append_assoc, SRTB_snoc, q3]
/-! ### files -/
theorem FLS_at (h0 : 0 ≤ i) (h1 : i < F.length) : FLS (F.take (i + 1).toNat) o = FLS (F.take i.toNat) o ++ (if ∃ y ∈ (F.getD i.toNat default).2, BEL y.2.1 o then [(F.getD i.toNat default).1] else []) := by
  unfold FLS
  rw [Num.take_more default h0 h1, List.filter_append, List.map_append, List.filter_cons]
  by_cases h : ∃ y ∈ (F.getD i.toNat default).2, BEL y.2.1 o
  · rw [if_pos (by simpa using h), if_pos h]; rfl
  · rw [if_neg (by simpa using h), if_neg h]; rfl
variable {some_ : Bool}
theorem ds_0 : false = true ↔ ∃ y ∈ L.take (0 : Int).toNat, BEL y.2.1 o := ⟨fun h => (by cases h), fun ⟨y, hy, _⟩ => (by simp at hy)⟩
theorem ds_yes (h0 : 0 ≤ k) (h1 : k < L.length) (q : some_ = true ↔ ∃ y ∈ L.take k.toNat, BEL y.2.1 o) (h : some_ = true) : true = true ↔ ∃ y ∈ L.take (k + 1).toNat, BEL y.2.1 o :=
  ⟨fun _ => (q.1 h).elim fun y hy => ⟨y, by rw [Num.take_more dI h0 h1]; exact List.mem_append_left _ hy.1, hy.2⟩, fun _ => rfl⟩
theorem ds_no (h0 : 0 ≤ k) (h1 : k < L.length) (q : some_ = true ↔ ∃ y ∈ L.take k.toNat, BEL y.2.1 o) (h : some_ = false) : decide (BEL (L.getD k.toNat dI).2.1 o) = true ↔ ∃ y ∈ L.take (k + 1).toNat, BEL y.2.1 o := by
  rw [decide_eq_true_iff, Num.take_more dI h0 h1]
  constructor
  · intro hb; exact ⟨_, List.mem_append_right _ (.head _), hb⟩
  · rintro ⟨y, hy, hb⟩
    rcases List.mem_append.1 hy with hy | hy
    · have := q.2 ⟨y, hy, hb⟩; rw [h] at this; cases this
    · rw [← List.mem_singleton.1 hy]; exact hb
theorem ds_end {b : Bool} (hk : (L.length : Int) ≤ k) (q : b = true ↔ ∃ y ∈ L.take k.toNat, BEL y.2.1 o) : b = true ↔ ∃ y ∈ L, BEL y.2.1 o := by rw [List.take_of_length_le (by omega)] at q; exact q
/-! ### all -/
theorem allf_doc {l : List ByteArray} (h : 0 < l.length) : ALLF F o l = (FIND F (LOW (l.getD 0 ByteArray.empty)) o).filter fun h => decide (∀ v ∈ l.drop 1, h ∈ FIND F (LOW v) o) := by
  cases l with
  | nil => simp at h
  | cons w l =>
    have key : ∀ (l : List ByteArray) (out : List En), l.foldl (fun out v => out.filter fun h => decide (h ∈ FIND F (LOW v) o)) out = out.filter fun h => decide (∀ v ∈ l, h ∈ FIND F (LOW v) o) := by
      intro l
      induction l with
      | nil => intro out; exact (List.filter_eq_self.2 fun x _ => by simp).symm
      | cons v l ih =>
        intro out
        rw [List.foldl_cons, ih, List.filter_filter]
        refine List.filter_congr fun x _ => ?_
        rw [Bool.eq_iff_iff]
        simp only [Bool.and_eq_true, decide_eq_true_eq, List.mem_cons, forall_eq_or_imp]
        exact ⟨fun ⟨a, b⟩ => ⟨b, a⟩, fun ⟨a, b⟩ => ⟨b, a⟩⟩
    show List.foldl _ _ (w :: l) = _
    rw [key]
    refine List.filter_congr fun x hx => ?_
    rw [Bool.eq_iff_iff, decide_eq_true_iff, decide_eq_true_iff]
    have hx' : x ∈ FIND F (LOW w) o := hx
    exact ⟨fun hv v h1 => hv v (.tail _ h1), fun hv v h1 => by
      rcases List.mem_cons.1 h1 with e | e
      · rw [e]; exact hx'
      · exact hv v e⟩
variable {l : List ByteArray} {fs : List En} {all : Bool} {h : En}
theorem da_0 : true = true ↔ ∀ t : Int, 1 ≤ t → t < 1 → h ∈ FIND F (LOW (l.getD t.toNat ByteArray.empty)) o := ⟨fun _ t h1 h2 => (by omega), fun _ => rfl⟩
theorem da_yes (h1 : 1 ≤ k) (q : all = true ↔ ∀ t : Int, 1 ≤ t → t < k → h ∈ FIND F (LOW (l.getD t.toNat ByteArray.empty)) o) (ha : all = true) : decide (h ∈ FIND F (LOW (l.getD k.toNat ByteArray.empty)) o) = true ↔ ∀ t : Int, 1 ≤ t → t < k + 1 → h ∈ FIND F (LOW (l.getD t.toNat ByteArray.empty)) o := by
  rw [decide_eq_true_iff]
  refine ⟨fun hk t ht1 ht2 => ?_, fun hk => hk k h1 (by omega)⟩
  by_cases e : t = k
  · rw [e]; exact hk
  · exact q.1 ha t ht1 (by omega)
theorem da_no (q : all = true ↔ ∀ t : Int, 1 ≤ t → t < k → h ∈ FIND F (LOW (l.getD t.toNat ByteArray.empty)) o) (ha : all = false) : false = true ↔ ∀ t : Int, 1 ≤ t → t < k + 1 → h ∈ FIND F (LOW (l.getD t.toNat ByteArray.empty)) o :=
  ⟨fun h => (by cases h), fun hk => by rw [← ha]; exact q.2 fun t ht1 ht2 => hk t ht1 (by omega)⟩
theorem da_end (hk : (l.length : Int) ≤ k) (q : all = true ↔ ∀ t : Int, 1 ≤ t → t < k → h ∈ FIND F (LOW (l.getD t.toNat ByteArray.empty)) o) (hkl : k ≤ l.length) : all = true ↔ ∀ v ∈ l.drop 1, h ∈ FIND F (LOW v) o := by
  rw [q]
  constructor
  · intro hx v hv
    obtain ⟨t, ht, e⟩ := List.mem_iff_getElem.1 hv
    rw [List.length_drop] at ht
    have := hx ((t : Int) + 1) (by omega) (by omega)
    rw [show ((t : Int) + 1).toNat = t + 1 by omega, List.getD_eq_getElem?_getD, List.getElem?_eq_getElem (by omega)] at this
    have e2 : (List.drop 1 l)[t] = l[t + 1]'(by omega) := by simp [Nat.add_comm]
    rw [← e, e2]; simpa using this
  · intro hx t h1 h2
    refine hx _ ?_
    obtain ⟨m, hm⟩ : ∃ m, t.toNat = m + 1 := ⟨t.toNat - 1, by omega⟩
    rw [hm, List.getD_eq_getElem?_getD, List.getElem?_eq_getElem (by omega), Option.getD_some]
    exact List.mem_iff_getElem.2 ⟨m, by rw [List.length_drop]; omega, by simp [Nat.add_comm]⟩
theorem dall_at (h0 : 0 ≤ i) (h1 : i < fs.length) {p : En → Bool} : (fs.take (i + 1).toNat).filter p = (fs.take i.toNat).filter p ++ (if p (fs.getD i.toNat (ByteArray.empty, 0)) then [fs.getD i.toNat (ByteArray.empty, 0)] else []) := by
  rw [Num.take_more (ByteArray.empty, 0) h0 h1, List.filter_append, List.filter_cons, List.filter_nil]
end
end Go.Idx
namespace Go.Gv
open Go Go.RowKit Go.Idx
/-- What is read of the document's index. -/
def DCRD (T : TypeId) (Y : DCS) (w : World) : Prop := w.heap[Y.b]? = some (.cells #[.slice Y.A Y.rs.length Y.c] T (0, 0)) ∧ Rd eSV (.slice Y.A Y.rs.length Y.c) Y.rs w ∧ RdIn idS eIt Y.P w
theorem SH.dcr3 {T T1 T2 : TypeId} {b : Nat} {A : Option Addr} {c : Nat} {rs : RWS} {P : PLI} {F : List Fl} {w0 w : World} {S : Nat → Prop} {L : List Ent} (h : SH w0 S w L) (h1 : blkE b T #[.slice A rs.length c] ∈ L) (h2 : rowE eSV T1 (.slice A rs.length c) rs ∈ L) (h3 : insE idS eIt T2 P ∈ L) : St No w (DCRD T ⟨b, A, c, rs, P, F⟩) := fun w' hk =>
  ⟨h.steN h1 w' hk, Row.rd (h.steN h2 w' hk), fun p hp => Row.rd (h.steN h3 w' hk p hp)⟩
end Go.Gv
namespace Go.Idx
open Go Go.Gv Go.Wds Go.Tly
theorem dfind_len {Y : DCS} (h : DCW Y) (q : ByteArray) (o : Lb) : (FIND Y.F q o).length ≤ 600 := by
  have := FIND_len Y.F q o 20 fun f hf => (h.sm f hf).1
  have h2 : 20 * Y.F.length ≤ 20 * 30 := Nat.mul_le_mul_left _ h.ln
  omega
end Go.Idx

namespace Go.Proofs.YtigbphaimbhgjaaGreat
open Go Go.Gv Go.RowKit Go.Tly Go.Wds Go.Idx
set_option linter.unusedVariables false
set_option linter.unusedSimpArgs false

theorem rlower_calls {w : World} {s : ByteArray} (hs : s.size ≤ 140737488355328) :
    Calls Tryz.prog 38 #[(.string s)] w fun e w' => ∃ v, e = .returned v ∧ (fun v w' => v = .string (LOW s) ∧ KB No w w') v w' := by
  have hS : SH w No w [] := SH.nil _ _
  refine calls (l := litOf [(.string s)] 0) Tryz.func38 rfl (n := 37) rfl (Nat.le_of_ble_eq_true rfl) (lit_args _) ?_
  refine WC.seq ?_
  refine WC.region ?_
  refine WL.lv rfl (LV.asg rfl) ?_
  refine WL.nil (thenQ.n ?_)
  refine WC.seq ?_
  refine WC.region ?_
  refine WL.xe rfl (XE.buildSlice (E := eU8) [] #[] [] hS Tryz.underlying94 ti5 rfl (by decide) (by kernel_rfl) (.inr rfl) rfl rfl (by decide)) ?_
  rintro _ w1 ⟨b1, rfl, hS1, hk1⟩
  refine WL.lv rfl (LV.asg rfl) ?_
  refine WL.nil (thenQ.n ?_)
  iterate 2 refine WC.seq ?_
  refine WC.region ?_
  refine WL.lv rfl (LV.asg rfl) ?_
  refine WL.nil (thenQ.n ?_)
  refine WC.block ?_
  refine WC.loop (fun m_ f_ w_ => ∃ (A_out : Option Addr) (c_out : Nat) (out : List Int) (i : Int), (0 ≤ i) ∧ (i ≤ (s.size : Int)) ∧ (out = ((bytesOf s).take i.toNat).map low1) ∧ SH w No w_ [rowE eU8 5 (.slice A_out out.length c_out) out] ∧ m_ = (((s.size : Int) - i).toNat) ∧ Weak (lit [(0, (.string s)), (3, (.slice A_out out.length c_out)), (4, (.int .i64 i))]) f_) _ ⟨(some ⟨b1, 0, none⟩), 0, [], 0, by omega, by omega, rfl, hS1, rfl, Weak.cons rfl <| Weak.cons rfl <| Weak.cons rfl <| Weak.nil _⟩ ?_
  rintro m1 f1 w2 ⟨A_out, c_out, out, i, ilo, ihi, q1, hL1, rfl, hw1⟩
  refine WC.weak hw1 ?_
  clear hw1
  iterate 2 refine WC.seq ?_
  refine WC.region ?_
  iterate 2 refine WL.lv rfl (LV.mv rfl) ?_
  refine WL.lv rfl (LV.lenS Tryz.underlying9 rfl) ?_
  refine WL.lv rfl (LV.ltI rfl rfl) ?_
  refine WL.nil (thenQ.n ?_)
  refine WC.condP (p := i < (s.size : Int)) rfl (fun hk => ?_) (fun hk => ?_)
  · have hbd_ : 0 ≤ gI (bytesOf s) i ∧ gI (bytesOf s) i ≤ 255 := byte_bd s i
    have hbf_ : gI (bytesOf s) i = (bytesOf s).getD i.toNat 0 := rfl
    have hol_ := congrArg List.length q1
    rw [List.length_map, List.length_take, bytesOf_len] at hol_
    refine WC.skip (thenQ.n ?_)
    refine WC.seq ?_
    refine WC.block ?_
    refine WC.seq ?_
    refine WC.region ?_
    iterate 2 refine WL.lv rfl (LV.mv rfl) ?_
    refine WL.lv rfl (LV.idxSi (i := i) Tryz.underlying9 rfl rfl (by omega) (by omega)) ?_
    rcases Decidable.em ((gI (bytesOf s) (i)) ≥ 65) with hg1 | hg1
    · refine WL.lv rfl (LV.as (LV.geI rfl rfl) (decide_eq_true hg1)) ?_
      iterate 3 refine WL.lv rfl (LV.mv rfl) ?_
      refine WL.lv rfl (LV.idxSi (i := i) Tryz.underlying9 rfl rfl (by omega) (by omega)) ?_
      refine WL.lv rfl (LV.leI rfl rfl) ?_
      refine WL.lv rfl (LV.pickT rfl rfl) ?_
      refine WL.nil (thenQ.n ?_)
      refine WC.condP (p := (gI (bytesOf s) (i)) ≤ 90) rfl (fun hc => ?_) (fun hc => ?_)
      · skip
        refine WC.region ?_
        iterate 3 refine WL.lv rfl (LV.mv rfl) ?_
        refine WL.lv rfl (LV.idxSi (i := i) Tryz.underlying9 rfl rfl (by omega) (by omega)) ?_
        refine WL.lv rfl (LV.add rfl rfl (wrU8 (by omega) (by omega))) ?_
        refine WL.xe rfl (XE.buildSlice (E := eU8) [(0, (.int .u8 ((gI (bytesOf s) (i)) + 32)))] #[(.int .u8 ((gI (bytesOf s) (i)) + 32))] [(gI (bytesOf s) (i)) + 32] hL1 Tryz.underlying94 ti5 rfl (by decide) (by kernel_rfl) (.inr rfl) rfl rfl (by decide)) ?_
        rintro _ w3 ⟨b2, rfl, hS2, hk2⟩
        have hS3 : SH w No w3 [rowE eU8 5 (.slice A_out out.length c_out) out, rowE eU8 5 (.slice (some ⟨b2, 0, none⟩) 1 1) [(gI (bytesOf s) (i)) + 32]] := (SH.front [_] hS2)
        refine WL.xe rfl (XE.append hS3 Tryz.underlying94 ti5 rfl (St.now (SH.rd hS3 (.tail _ (.head _)))) rfl rfl (by first | omega | simp only [List.length_append, List.length_cons, List.length_nil, List.length_take, List.length_reverse, List.length_drop] at *; omega) (by first | omega | simp only [List.length_append, List.length_cons, List.length_nil, List.length_take, List.length_reverse, List.length_drop] at *; omega)) ?_
        rintro _ w4 ⟨A1, c1, rfl, hS4, hk3⟩
        refine WL.lv rfl (LV.asg rfl) ?_
        refine WL.nil (blockQ.n <| thenQ.n ?_)
        refine WC.region ?_
        refine WL.lv rfl (LV.mv rfl) ?_
        refine WL.lv rfl (LV.add rfl rfl (wr64 (by omega) (by omega))) ?_
        refine WL.lv rfl (LV.asg rfl) ?_
        refine WL.nil (thenQ.n ?_)
        have hS5 : SH w No w4 [rowE eU8 5 (.slice A1 ((out ++ [(gI (bytesOf s) (i)) + 32]).length) c1) (out ++ [(gI (bytesOf s) (i)) + 32])] := (SH.take 1 rfl hS4)
        exact ⟨_, by omega, A1, c1, (out ++ [(gI (bytesOf s) (i)) + 32]), i + 1, by omega, by omega, (lowr_step q1 ilo hk (by first | exact (low_yes (by omega)).symm | exact (low_no (by omega)).symm)), hS5, rfl, Weak.cons rfl <| Weak.cons rfl <| Weak.cons rfl <| Weak.nil _⟩
      · skip
        refine WC.region ?_
        iterate 3 refine WL.lv rfl (LV.mv rfl) ?_
        refine WL.lv rfl (LV.idxSi (i := i) Tryz.underlying9 rfl rfl (by omega) (by omega)) ?_
        refine WL.xe rfl (XE.buildSlice (E := eU8) [(0, (.int .u8 (gI (bytesOf s) (i))))] #[(.int .u8 (gI (bytesOf s) (i)))] [gI (bytesOf s) (i)] hL1 Tryz.underlying94 ti5 rfl (by decide) (by kernel_rfl) (.inr rfl) rfl rfl (by decide)) ?_
        rintro _ w5 ⟨b3, rfl, hS6, hk4⟩
        have hS7 : SH w No w5 [rowE eU8 5 (.slice A_out out.length c_out) out, rowE eU8 5 (.slice (some ⟨b3, 0, none⟩) 1 1) [gI (bytesOf s) (i)]] := (SH.front [_] hS6)
        refine WL.xe rfl (XE.append hS7 Tryz.underlying94 ti5 rfl (St.now (SH.rd hS7 (.tail _ (.head _)))) rfl rfl (by first | omega | simp only [List.length_append, List.length_cons, List.length_nil, List.length_take, List.length_reverse, List.length_drop] at *; omega) (by first | omega | simp only [List.length_append, List.length_cons, List.length_nil, List.length_take, List.length_reverse, List.length_drop] at *; omega)) ?_
        rintro _ w6 ⟨A2, c2, rfl, hS8, hk5⟩
        refine WL.lv rfl (LV.asg rfl) ?_
        refine WL.nil (blockQ.n <| thenQ.n ?_)
        refine WC.region ?_
        refine WL.lv rfl (LV.mv rfl) ?_
        refine WL.lv rfl (LV.add rfl rfl (wr64 (by omega) (by omega))) ?_
        refine WL.lv rfl (LV.asg rfl) ?_
        refine WL.nil (thenQ.n ?_)
        have hS9 : SH w No w6 [rowE eU8 5 (.slice A2 ((out ++ [gI (bytesOf s) (i)]).length) c2) (out ++ [gI (bytesOf s) (i)])] := (SH.take 1 rfl hS8)
        exact ⟨_, by omega, A2, c2, (out ++ [gI (bytesOf s) (i)]), i + 1, by omega, by omega, (lowr_step q1 ilo hk (by first | exact (low_yes (by omega)).symm | exact (low_no (by omega)).symm)), hS9, rfl, Weak.cons rfl <| Weak.cons rfl <| Weak.cons rfl <| Weak.nil _⟩
    · refine WL.lv rfl (LV.as (LV.geI rfl rfl) (decide_eq_false hg1)) ?_
      refine WL.lv rfl (LV.mv rfl) ?_
      iterate 4 refine WL.off rfl ?_
      refine WL.lv rfl (LV.pickF rfl rfl) ?_
      refine WL.nil (thenQ.n ?_)
      refine WC.condF rfl ?_
      refine WC.region ?_
      iterate 3 refine WL.lv rfl (LV.mv rfl) ?_
      refine WL.lv rfl (LV.idxSi (i := i) Tryz.underlying9 rfl rfl (by omega) (by omega)) ?_
      refine WL.xe rfl (XE.buildSlice (E := eU8) [(0, (.int .u8 (gI (bytesOf s) (i))))] #[(.int .u8 (gI (bytesOf s) (i)))] [gI (bytesOf s) (i)] hL1 Tryz.underlying94 ti5 rfl (by decide) (by kernel_rfl) (.inr rfl) rfl rfl (by decide)) ?_
      rintro _ w7 ⟨b4, rfl, hS10, hk6⟩
      have hS11 : SH w No w7 [rowE eU8 5 (.slice A_out out.length c_out) out, rowE eU8 5 (.slice (some ⟨b4, 0, none⟩) 1 1) [gI (bytesOf s) (i)]] := (SH.front [_] hS10)
      refine WL.xe rfl (XE.append hS11 Tryz.underlying94 ti5 rfl (St.now (SH.rd hS11 (.tail _ (.head _)))) rfl rfl (by first | omega | simp only [List.length_append, List.length_cons, List.length_nil, List.length_take, List.length_reverse, List.length_drop] at *; omega) (by first | omega | simp only [List.length_append, List.length_cons, List.length_nil, List.length_take, List.length_reverse, List.length_drop] at *; omega)) ?_
      rintro _ w8 ⟨A3, c3, rfl, hS12, hk7⟩
      refine WL.lv rfl (LV.asg rfl) ?_
      refine WL.nil (blockQ.n <| thenQ.n ?_)
      refine WC.region ?_
      refine WL.lv rfl (LV.mv rfl) ?_
      refine WL.lv rfl (LV.add rfl rfl (wr64 (by omega) (by omega))) ?_
      refine WL.lv rfl (LV.asg rfl) ?_
      refine WL.nil (thenQ.n ?_)
      have hS13 : SH w No w8 [rowE eU8 5 (.slice A3 ((out ++ [gI (bytesOf s) (i)]).length) c3) (out ++ [gI (bytesOf s) (i)])] := (SH.take 1 rfl hS12)
      exact ⟨_, by omega, A3, c3, (out ++ [gI (bytesOf s) (i)]), i + 1, by omega, by omega, (lowr_step q1 ilo hk (by first | exact (low_yes (by omega)).symm | exact (low_no (by omega)).symm)), hS13, rfl, Weak.cons rfl <| Weak.cons rfl <| Weak.cons rfl <| Weak.nil _⟩
  · skip
    refine WC.exit (thenQ.x <| thenQ.x <| blockQ.hit <| thenQ.n ?_)
    refine WC.seq ?_
    refine WC.region ?_
    refine WL.lv rfl (LV.mv rfl) ?_
    refine WL.lv rfl (LV.strOf Tryz.underlying94 Tryz.underlying5 Tryz.underlying9 rfl ((SH.rd hL1 (.head _)) _ (KB.refl No _))) ?_
    refine WL.lv rfl (LV.asg rfl) ?_
    refine WL.nil (thenQ.n ?_)
    refine WC.ret (?_)
    exact ⟨_, fun a ha => res1 rfl ha rfl, congrArg Value.string (by rw [q1, List.take_of_length_le (by rw [bytesOf_len]; omega)]; rfl), hL1.kb⟩

end Go.Proofs.YtigbphaimbhgjaaGreat

