/- Words: a text's tokens; a text without marks: plain. -/
import Derived.Test.YtjjilkibcomfcaaGvW
import Derived.Test.YtjjilkibcomfcaaGvG
import Derived.Test.YtjjilkibcomfcaaGvT
namespace Go.Gv
/-- A number and a text. -/
def eBt : El (Int × ByteArray) := ⟨2, fun x => [.int .i64 x.1, .string x.2], fun _ => rfl, fun _ u h => by simp at h; rcases h with rfl | rfl <;> rfl⟩
end Go.Gv
namespace Go.Wds
open Go Go.Gv
/-- A byte's kind. -/
def KD (c : Int) : Int := if (48 ≤ c ∧ c ≤ 57) ∨ (65 ≤ c ∧ c ≤ 90) ∨ (97 ≤ c ∧ c ≤ 122) ∨ c = 95 then 1 else if c = 32 ∨ c = 9 then 2 else 3
theorem kd_is (c : Int) : (((48 ≤ c ∧ c ≤ 57) ∨ (65 ≤ c ∧ c ≤ 90) ∨ (97 ≤ c ∧ c ≤ 122) ∨ c = 95) ∧ KD c = 1) ∨ (¬ ((48 ≤ c ∧ c ≤ 57) ∨ (65 ≤ c ∧ c ≤ 90) ∨ (97 ≤ c ∧ c ≤ 122) ∨ c = 95) ∧ (((c = 32 ∨ c = 9) ∧ KD c = 2) ∨ (¬ (c = 32 ∨ c = 9) ∧ KD c = 3))) := by
  unfold KD
  by_cases h : (48 ≤ c ∧ c ≤ 57) ∨ (65 ≤ c ∧ c ≤ 90) ∨ (97 ≤ c ∧ c ≤ 122) ∨ c = 95
  · rw [if_pos h]; exact .inl ⟨h, rfl⟩
  · rw [if_neg h]
    by_cases h2 : c = 32 ∨ c = 9
    · rw [if_pos h2]; exact .inr ⟨h, .inl ⟨h2, rfl⟩⟩
    · rw [if_neg h2]; exact .inr ⟨h, .inr ⟨h2, rfl⟩⟩
/-- Does a token end at place i? -/
abbrev EDGE (s : ByteArray) (i : Int) : Prop := i + 1 = s.size ∨ KD (gI (bytesOf s) i) = 3 ∨ KD (gI (bytesOf s) (i + 1)) ≠ KD (gI (bytesOf s) i)
def TKS (s : ByteArray) : Nat → List ByteArray × Nat
  | 0 => ([], 0)
  | i + 1 => if EDGE s i then ((TKS s i).1 ++ [s.extract (TKS s i).2 (i + 1)], i + 1) else TKS s i
def TOK (s : ByteArray) : List ByteArray := (TKS s s.size).1
theorem tks_yes {s : ByteArray} {i fr : Int} {out : List ByteArray} (h0 : 0 ≤ i) (hE : EDGE s i) (q : TKS s i.toNat = (out, fr.toNat)) : TKS s (i + 1).toNat = (out ++ [s.extract fr.toNat (i + 1).toNat], (i + 1).toNat) := by
  obtain ⟨n, rfl⟩ : ∃ n : Nat, i = (n : Int) := ⟨i.toNat, by omega⟩
  rw [show ((n : Int) + 1).toNat = n + 1 by omega, Int.toNat_natCast] at *
  rw [TKS, if_pos hE, q]
theorem tks_no {s : ByteArray} {i fr : Int} {out : List ByteArray} (h0 : 0 ≤ i) (hE : ¬ EDGE s i) (q : TKS s i.toNat = (out, fr.toNat)) : TKS s (i + 1).toNat = (out, fr.toNat) := by
  obtain ⟨n, rfl⟩ : ∃ n : Nat, i = (n : Int) := ⟨i.toNat, by omega⟩
  rw [show ((n : Int) + 1).toNat = n + 1 by omega, Int.toNat_natCast] at *
  rw [TKS, if_neg hE, q]
theorem tks_fin {s : ByteArray} {i : Int} {fr : Int} {out : List ByteArray} (h : i = s.size) (q : TKS s i.toNat = (out, fr.toNat)) : out = TOK s := by
  unfold TOK
  rw [show s.size = i.toNat by omega, q]
/-! ### together they are the text -/
def cat (l : List ByteArray) : ByteArray := l.foldl (· ++ ·) ⟨#[]⟩
theorem cat_snoc (l : List ByteArray) (x : ByteArray) : cat (l ++ [x]) = cat l ++ x := by unfold cat; rw [List.foldl_append]; rfl
theorem cat_at {l : List ByteArray} {i : Int} (h0 : 0 ≤ i) (h1 : i < l.length) : cat (l.take (i + 1).toNat) = cat (l.take i.toNat) ++ l.getD i.toNat ByteArray.empty := by
  have hlt : i.toNat < l.length := by omega
  rw [show (i + 1).toNat = i.toNat + 1 by omega, List.take_add_one, List.getElem?_eq_getElem hlt, List.getD_eq_getElem?_getD, List.getElem?_eq_getElem hlt]
  exact cat_snoc _ _
theorem tks_cat (s : ByteArray) : ∀ n : Nat, n ≤ s.size → (TKS s n).2 ≤ n ∧ cat (TKS s n).1 = s.extract 0 (TKS s n).2 ∧ (∀ t ∈ (TKS s n).1, 0 < t.size ∧ t.size ≤ s.size) ∧ (TKS s n).1.length ≤ n
  | 0, _ => ⟨Nat.le_refl _, by apply bytesOf_inj; rw [bytesOf_cut]; rfl, by simp [TKS], Nat.le_refl _⟩
  | n + 1, h => by
    obtain ⟨h1, h2, h3, h4⟩ := tks_cat s n (by omega)
    rw [TKS]
    split
    · refine ⟨Nat.le_refl _, ?_, fun t ht => ?_, by rw [List.length_append]; simp; omega⟩
      · rw [cat_snoc, h2]; exact cut_app s (Nat.zero_le _) (by omega) h
      · rcases List.mem_append.1 ht with ht | ht
        · exact h3 t ht
        · rw [List.mem_singleton.1 ht, ext_size s h]; omega
    · exact ⟨by omega, h2, h3, by omega⟩
theorem tks_end (s : ByteArray) : (TKS s s.size).2 = s.size := by
  cases hn : s.size with
  | zero => rfl
  | succ n => rw [TKS, if_pos (.inl (by omega))]
theorem TOK_cat (s : ByteArray) : cat (TOK s) = s := by
  have h := (tks_cat s s.size (Nat.le_refl _)).2.1
  rw [tks_end] at h
  exact h.trans (cut_all s)
theorem TOK_pos {s t : ByteArray} (h : t ∈ TOK s) : 0 < t.size ∧ t.size ≤ s.size := (tks_cat s s.size (Nat.le_refl _)).2.2.1 t h
theorem TOK_len (s : ByteArray) : (TOK s).length ≤ s.size := (tks_cat s s.size (Nat.le_refl _)).2.2.2
/-! ### token by token -/
theorem tks_run {s : ByteArray} {f n : Nat} {out : List ByteArray} (h : TKS s f = (out, f)) (hno : ∀ j : Nat, f ≤ j → j + 1 < f + n → ¬ EDGE s j) : ∀ m : Nat, m < n → TKS s (f + m) = (out, f)
  | 0, _ => h
  | m + 1, hm => by
    rw [show f + (m + 1) = (f + m) + 1 by omega, TKS, if_neg (hno (f + m) (by omega) (by omega))]
    exact tks_run h hno m (by omega)
theorem tks_tok {s : ByteArray} {f n : Nat} {out : List ByteArray} (h : TKS s f = (out, f)) (hn : 0 < n) (hno : ∀ j : Nat, f ≤ j → j + 1 < f + n → ¬ EDGE s j) (hE : EDGE s ((f + n - 1 : Nat) : Int)) : TKS s (f + n) = (out ++ [s.extract f (f + n)], f + n) := by
  obtain ⟨m, rfl⟩ : ∃ m, n = m + 1 := ⟨n - 1, by omega⟩
  have h1 := tks_run h hno m (by omega)
  rw [show f + (m + 1) - 1 = f + m by omega] at hE
  rw [show f + (m + 1) = (f + m) + 1 by omega, TKS, if_pos hE, h1]
theorem g_cut {s : ByteArray} {f : Nat} {i : Int} (h0 : 0 ≤ i) : gI (bytesOf (s.extract f s.size)) i = gI (bytesOf s) (f + i) := by
  unfold gI
  rw [bytesOf_cut, List.take_of_length_le (by rw [bytesOf_len]; exact Nat.le_refl _), List.getD_eq_getElem?_getD, List.getElem?_drop, ← List.getD_eq_getElem?_getD, show f + i.toNat = ((f : Int) + i).toNat by omega]
/-- What is found at the begin of the rest is the next token. -/
theorem doc_tok {s : ByteArray} {f : Nat} {n k : Int} {out : List ByteArray} (h : TKS s f = (out, f)) (hf : f ≤ s.size) (hn : 1 ≤ n) (hns : n ≤ ((s.extract f s.size).size : Int)) (hk : ∀ t : Int, 0 ≤ t → t < n → KD (gI (bytesOf (s.extract f s.size)) t) = k) (h3 : k = 3 → n = 1)
    (he : n = ((s.extract f s.size).size : Int) ∨ k = 3 ∨ KD (gI (bytesOf (s.extract f s.size)) n) ≠ k) : TKS s (f + n.toNat) = (out ++ [(s.extract f s.size).extract 0 n.toNat], f + n.toNat) := by
  have hz := ext_size s (l := f) (Nat.le_refl s.size)
  rw [cut_cut s hf (Nat.le_refl _) (Nat.zero_le _) (by omega)]
  refine tks_tok h (by omega) (fun j j0 j1 => ?_) ?_
  · have a := hk (j - f) (by omega) (by omega)
    have b := hk (j - f + 1) (by omega) (by omega)
    rw [g_cut (by omega)] at a b
    rw [show (f : Int) + (j - f) = j by omega] at a
    rw [show (f : Int) + (j - f + 1) = j + 1 by omega] at b
    rintro (h1 | h1 | h1)
    · omega
    · have := h3 (by omega); omega
    · omega
  · have a := hk (n - 1) (by omega) (by omega)
    rw [g_cut (by omega)] at a
    rw [show ((f + n.toNat - 1 : Nat) : Int) = f + (n - 1) by omega]
    rcases he with h1 | h1 | h1
    · exact .inl (by omega)
    · exact .inr (.inl (by omega))
    · refine .inr (.inr ?_)
      rw [g_cut (by omega)] at h1
      rw [show (f : Int) + (n - 1) + 1 = f + n by omega, a]; exact h1
theorem doc_rest {s : ByteArray} {f : Nat} {n : Int} (hf : f ≤ s.size) (hn : 1 ≤ n) (hns : n ≤ ((s.extract f s.size).size : Int)) : (s.extract f s.size).extract n.toNat (s.extract f s.size).size = s.extract (f + n.toNat) s.size := by
  have hz := ext_size s (l := f) (Nat.le_refl s.size)
  rw [cut_cut s hf (Nat.le_refl _) (by omega) (by omega), hz, show f + (s.size - f) = s.size by omega]
theorem doc_fin {s s2 : ByteArray} {f : Nat} {out : List ByteArray} (h : TKS s f = (out, f)) (hf : f ≤ s.size) (e : s2 = s.extract f s.size) (h2 : ¬ (s2.size : Int) > 0) : out = TOK s := by
  have hz := ext_size s (l := f) (Nat.le_refl s.size)
  rw [← e] at hz
  unfold TOK
  rw [show s.size = f by omega, h]
/-! ### marks -/
abbrev MK (a b : Int) : Prop := (a = 91 ∧ b = 45) ∨ (a = 45 ∧ b = 93) ∨ (a = 123 ∧ b = 43) ∨ (a = 43 ∧ b = 125)
def PL : List Int → List Int
  | [] => []
  | [a] => [a]
  | a :: b :: r => if MK a b then PL r else a :: PL (b :: r)
def HPX (s p : ByteArray) : Prop := p.size ≤ s.size ∧ s.extract 0 p.size = p
instance (s p : ByteArray) : Decidable (HPX s p) := inferInstanceAs (Decidable (_ ∧ _))
theorem two_is {s : ByteArray} (h : 2 ≤ s.size) : bytesOf (s.extract 0 2) = [gI (bytesOf s) 0, gI (bytesOf s) 1] := by
  rw [bytesOf_cut]
  have hl := bytesOf_len s
  match hb : bytesOf s, hl with
  | [], hl => simp at hl; omega
  | [x], hl => simp at hl; omega
  | x :: y :: r, _ => rfl
theorem two_lit (a b : UInt8) : bytesOf ⟨#[a, b]⟩ = [(a.toNat : Int), (b.toNat : Int)] := rfl
theorem ext2 {s : ByteArray} (h : 2 ≤ s.size) (a b : UInt8) : s.extract 0 2 = ⟨#[a, b]⟩ ↔ gI (bytesOf s) 0 = a.toNat ∧ gI (bytesOf s) 1 = b.toNat := by
  constructor
  · intro e
    have := congrArg bytesOf e
    rw [two_is h, two_lit] at this
    injection this with h1 h2
    injection h2 with h2 _
    exact ⟨h1, h2⟩
  · rintro ⟨h1, h2⟩
    apply bytesOf_inj
    rw [two_is h, two_lit, h1, h2]
def MKS (s : ByteArray) : Prop := HPX s ⟨#[91, 45]⟩ ∨ HPX s ⟨#[45, 93]⟩ ∨ HPX s ⟨#[123, 43]⟩ ∨ HPX s ⟨#[43, 125]⟩
instance (s : ByteArray) : Decidable (MKS s) := inferInstanceAs (Decidable (_ ∨ _))
theorem hpx2 (s : ByteArray) (a b : UInt8) : HPX s ⟨#[a, b]⟩ ↔ 2 ≤ s.size ∧ gI (bytesOf s) 0 = a.toNat ∧ gI (bytesOf s) 1 = b.toNat := by
  constructor
  · rintro ⟨h1, h2⟩
    exact ⟨h1, (ext2 h1 a b).1 h2⟩
  · rintro ⟨h1, h2⟩
    exact ⟨h1, (ext2 h1 a b).2 h2⟩
theorem mks_is (s : ByteArray) : MKS s ↔ 2 ≤ s.size ∧ MK (gI (bytesOf s) 0) (gI (bytesOf s) 1) := by
  unfold MKS
  rw [hpx2, hpx2, hpx2, hpx2]
  simp only [show (91 : UInt8).toNat = 91 from rfl, show (45 : UInt8).toNat = 45 from rfl, show (93 : UInt8).toNat = 93 from rfl, show (123 : UInt8).toNat = 123 from rfl, show (43 : UInt8).toNat = 43 from rfl, show (125 : UInt8).toNat = 125 from rfl]
  omega
theorem drop1 {s : ByteArray} {i : Int} (h0 : 0 ≤ i) (h1 : i < s.size) : (bytesOf s).drop i.toNat = gI (bytesOf s) i :: (bytesOf s).drop (i + 1).toNat := by
  have hlt : i.toNat < (bytesOf s).length := by rw [bytesOf_len]; omega
  rw [List.drop_eq_getElem_cons hlt, show (i + 1).toNat = i.toNat + 1 by omega]
  unfold gI
  rw [List.getD_eq_getElem?_getD, List.getElem?_eq_getElem hlt]; rfl
theorem drop_end {s : ByteArray} {i : Int} (h1 : (s.size : Int) ≤ i) : (bytesOf s).drop i.toNat = [] := List.drop_eq_nil_of_le (by rw [bytesOf_len]; omega)
theorem pl_mark {s : ByteArray} {i : Int} (h0 : 0 ≤ i) (h1 : i + 1 < s.size) (hm : MK (gI (bytesOf s) i) (gI (bytesOf s) (i + 1))) : PL ((bytesOf s).drop i.toNat) = PL ((bytesOf s).drop (i + 2).toNat) := by
  rw [drop1 h0 (by omega), drop1 (by omega) h1, PL, if_pos hm, show i + 1 + 1 = i + 2 by omega]
theorem pl_keep {s : ByteArray} {i : Int} (h0 : 0 ≤ i) (h1 : i < s.size) (hm : ¬ (i + 1 < s.size ∧ MK (gI (bytesOf s) i) (gI (bytesOf s) (i + 1)))) : PL ((bytesOf s).drop i.toNat) = gI (bytesOf s) i :: PL ((bytesOf s).drop (i + 1).toNat) := by
  rw [drop1 h0 h1]
  by_cases h2 : i + 1 < s.size
  · rw [drop1 (by omega) h2, PL, if_neg (fun h => hm ⟨h2, h⟩)]
  · rw [drop_end (i := i + 1) (by omega)]; rfl
theorem mks_at {s : ByteArray} {i : Int} (h0 : 0 ≤ i) (h1 : i < s.size) : MKS (s.extract i.toNat s.size) ↔ i + 1 < s.size ∧ MK (gI (bytesOf s) i) (gI (bytesOf s) (i + 1)) := by
  rw [mks_is, ext_size s (Nat.le_refl _), g_cut (by omega), g_cut (by omega), show ((i.toNat : Nat) : Int) + 0 = i by omega, show ((i.toNat : Nat) : Int) + 1 = i + 1 by omega]
  omega
theorem PL_len : ∀ (n : Nat) (l : List Int), l.length ≤ n → (PL l).length ≤ l.length
  | _, [], _ => Nat.le_refl _
  | _, [a], _ => Nat.le_refl _
  | 0, a :: b :: r, h => by simp at h
  | n + 1, a :: b :: r, h => by
    simp only [List.length_cons] at h
    rw [PL]
    split
    · have := PL_len n r (by omega); simp only [List.length_cons]; omega
    · have := PL_len n (b :: r) (by simp only [List.length_cons]; omega); simp only [List.length_cons] at this ⊢; omega
theorem PL_none : PL [] = [] := rfl
/-- A text without marks. -/
def PLN (s : ByteArray) : ByteArray := strOfNums (PL (bytesOf s))
theorem PL_byte : ∀ (n : Nat) (l : List Int), l.length ≤ n → (∀ x ∈ l, 0 ≤ x ∧ x ≤ 255) → ∀ x ∈ PL l, 0 ≤ x ∧ x ≤ 255
  | _, [], _, _ => by simp [PL]
  | _, [a], _, h => by simpa [PL] using h
  | 0, a :: b :: r, h, _ => by simp at h
  | n + 1, a :: b :: r, h, hb => by
    simp only [List.length_cons] at h
    rw [PL]
    split
    · exact PL_byte n r (by omega) fun x hx => hb x (.tail _ (.tail _ hx))
    · intro x hx
      rcases List.mem_cons.1 hx with rfl | hx
      · exact hb _ (.head _)
      · exact PL_byte n (b :: r) (by simp only [List.length_cons]; omega) (fun y hy => hb y (.tail _ hy)) x hx
theorem pln_of {t s : ByteArray} (h : bytesOf t = PL (bytesOf s)) : t = PLN s := by unfold PLN; rw [← h, str_bytes]
end Go.Wds
