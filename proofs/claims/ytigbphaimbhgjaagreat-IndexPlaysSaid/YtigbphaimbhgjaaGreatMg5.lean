/- Words: a text's tokens; a text without marks: plain. -/
import Derived.Test.YtigbphaimbhgjaaGreatMg4
import Derived.Test.YtigbphaimbhgjaaGreatMg3
namespace Go.Gv
/-- A number and a text. -/
def eBt : El (Int × ByteArray) := ⟨2, fun x => [.int .i64 x.1, .string x.2], fun _ => rfl, fun _ u h => by simp at h; rcases h with rfl | rfl <;> rfl⟩
end Go.Gv
namespace Go.Wds
open Go Go.Gv
/-- A byte's kind. -/
def KD (c : Int) : Int := if (48 ≤ c ∧ c ≤ 57) ∨ (65 ≤ c ∧ c ≤ 90) ∨ (97 ≤ c ∧ c ≤ 122) ∨ c = 95 then 1 else if c = 32 ∨ c = 9 then 2 else 3
theorem kd_is (c : Int) : (((48 ≤ c ∧ c ≤ 57) ∨ (65 ≤ c ∧ c ≤ 90) ∨ (97 ≤ c ∧ c ≤ 122) ∨ c = 95) ∧ KD c = 1) ∨ (¬ ((48 ≤ c ∧ c ≤ 57) ∨ (65 ≤ c ∧ c ≤ 90) ∨ (97 ≤ c ∧ c ≤ 122) ∨ c = 95) ∧ (((c = 32 ∨ c = 9) ∧ KD c = 2) ∨ (¬ (c = 32 ∨ c = 9) ∧ KD c = 3))) := by
  unfold KD
  by_cases h : (48 ≤ c ∧ c ≤ 57) ∨ (65 ≤ c ∧ c ≤ 90) ∨ (97 ≤ c ∧ c ≤ 122) ∨ c = 95
  · rw [if_pos h]; exact .inl ⟨h, rfl⟩
  · rw [if_neg h]
    by_cases h2 : c = 32 ∨ c = 9
    · rw [if_pos h2]; exact .inr ⟨h, .inl ⟨h2, rfl⟩⟩
    · rw [if_neg h2]; exact .inr ⟨h, .inr ⟨h2, rfl⟩⟩
/-- Does a token end at place i? -/
abbrev EDGE (s : ByteArray) (i : Int) : Prop := i + 1 = s.size ∨ KD (gI (bytesOf s) i) = 3 ∨ KD (gI (bytesOf s) (i + 1)) ≠ KD (gI (bytesOf s) i)
def TKS (s : ByteArray) : Nat → List ByteArray × Nat
  | 0 => ([], 0)
  | i + 1 => if EDGE s i then ((TKS s i).1 ++ [s.extract (TKS s i).2 (i + 1)], i + 1) else TKS s i
def TOK (s : ByteArray) : List ByteArray := (TKS s s.size).1
theorem tks_yes {s : ByteArray} {i fr : Int} {out : List ByteArray} (h0 : 0 ≤ i) (hE : EDGE s i) (q : TKS s i.toNat = (out, fr.toNat)) : TKS s (i + 1).toNat = (out ++ [s.extract fr.toNat (i + 1).toNat], (i + 1).toNat) := by
  obtain ⟨n, rfl⟩ : ∃ n : Nat, i = (n : Int) := ⟨i.toNat, by omega⟩
  rw [show ((n : Int) + 1).toNat = n + 1 by omega, Int.toNat_natCast] at *
  rw [TKS, if_pos hE, q]
theorem tks_no {s : ByteArray} {i fr : Int} {out : List ByteArray} (h0 : 0 ≤ i) (hE : ¬ EDGE s i) (q : TKS s i.toNat = (out, fr.toNat)) : TKS s (i + 1).toNat = (out, fr.toNat) := by
  obtain ⟨n, rfl⟩ : ∃ n : Nat, i = (n : Int) := ⟨i.toNat, by omega⟩
  rw [show ((n : Int) + 1).toNat = n + 1 by omega, Int.toNat_natCast] at *
  rw [TKS, if_neg hE, q]
theorem tks_fin {s : ByteArray} {i : Int} {fr : Int} {out : List ByteArray} (h : i = s.size) (q : TKS s i.toNat = (out, fr.toNat)) : out = TOK s := by
  unfold TOK
  rw [show s.size = i.toNat by omega, q]
/-! ### together they are the text -/
def cat (l : List ByteArray) : ByteArray := l.foldl (· ++ ·) ⟨#[]⟩
theorem cat_snoc (l : List ByteArray) (x : ByteArray) : cat (l ++ [x]) = cat l ++ x := by unfold cat; rw [List.foldl_append]; rfl
theorem cat_at {l : List ByteArray} {i : Int} (h0 : 0 ≤ i) (h1 : i < l.length) : cat (l.take (i + 1).toNat) = cat (l.take i.toNat) ++ l.getD i.toNat ByteArray.empty := by
  have hlt : i.toNat < l.length := by omega
  rw [show (i + 1).toNat = i.toNat + 1 by omega, List.take_add_one, List.getElem?_eq_getElem hlt, List.getD_eq_getElem?_getD, List.getElem?_eq_getElem hlt]
  exact cat_snoc _ _
theorem tks_cat (s : ByteArray) : ∀ n : Nat, n ≤ s.size → (TKS s n).2 ≤ n ∧ cat (TKS s n).1 = s.extract 0 (TKS s n).2 ∧ (∀ t ∈ (TKS s n).1, 0 < t.size ∧ t.size ≤ s.size) ∧ (TKS s n).1.length ≤ n
  | 0, _ => ⟨Nat.le_refl _, by apply bytesOf_inj; rw [bytesOf_cut]; rfl, by simp [TKS], Nat.le_refl _⟩
  | n + 1, h => by
    obtain ⟨h1, h2, h3, h4⟩ := tks_cat s n (by omega)
    rw [TKS]
    split
    · refine ⟨Nat.le_refl _, ?_, fun t ht => ?_, by rw [List.length_append]; simp; omega⟩
      · rw [cat_snoc, h2]; exact cut_app s (Nat.zero_le _) (by omega) h
      · rcases List.mem_append.1 ht with ht | ht
        · exact h3 t ht
        · rw [List.mem_singleton.1 ht, ext_size s h]; omega
    · exact ⟨by omega, h2, h3, by omega⟩
theorem tks_end (s : ByteArray) : (TKS s s.size).2 = s.size := by
  cases hn : s.size with
  | zero => rfl
  | succ n => rw [TKS, if_pos (.inl (by omega))]
theorem TOK_cat (s : ByteArray) : cat (TOK s) = s := by
  have h := (tks_cat s s.size (Nat.le_refl _)).2.1
  rw [tks_end] at h
  exact h.trans (cut_all s)
theorem TOK_pos {s t : ByteArray} (h : t ∈ TOK s) : 0 < t.size ∧ t.size ≤ s.size := (tks_cat s s.size (Nat.le_refl _)).2.2.1 t h
theorem TOK_len (s : ByteArray) : (TOK s).length ≤ s.size := (tks_cat s s.size (Nat.le_refl _)).2.2.2
/-! ### token by token -/
theorem tks_run {s : ByteArray} {f n : Nat} {out : List ByteArray} (h : TKS s f = (out, f)) (hno : ∀ j : Nat, f ≤ j → j + 1 < f + n → ¬ EDGE s j) : ∀ m : Nat, m < n → TKS s (f + m) = (out, f)
  | 0, _ => h
  | m + 1, hm => by
    rw [show f + (m + 1) = (f + m) + 1 by omega, TKS, if_neg (hno (f + m) (by omega) (by omega))]
    exact tks_run h hno m (by omega)
theorem tks_tok {s : ByteArray} {f n : Nat} {out : List ByteArray} (h : TKS s f = (out, f)) (hn : 0 < n) (hno : ∀ j : Nat, f ≤ j → j + 1 < f + n → ¬ EDGE s j) (hE : EDGE s ((f + n - 1 : Nat) : Int)) : TKS s (f + n) = (out ++ [s.extract f (f + n)], f + n) := by
  obtain ⟨m, rfl⟩ : ∃ m, n = m + 1 := ⟨n - 1, by omega⟩
  have h1 := tks_run h hno m (by omega)
  rw [show f + (m + 1) - 1 = f + m by omega] at hE
  rw [show f + (m + 1) = (f + m) + 1 by omega, TKS, if_pos hE, h1]
theorem g_cut {s : ByteArray} {f : Nat} {i : Int} (h0 : 0 ≤ i) : gI (bytesOf (s.extract f s.size)) i = gI (bytesOf s) (f + i) := by
  unfold gI
  rw [bytesOf_cut, List.take_of_length_le (by rw [bytesOf_len]; exact Nat.le_refl _), List.getD_eq_getElem?_getD, List.getElem?_drop, ← List.getD_eq_getElem?_getD, show f + i.toNat = ((f : Int) + i).toNat by omega]
/-- What is found at the begin of the rest is the next token. -/
theorem doc_tok {s : ByteArray} {f : Nat} {n k : Int} {out : List ByteArray} (h : TKS s f = (out, f)) (hf : f ≤ s.size) (hn : 1 ≤ n) (hns : n ≤ ((s.extract f s.size).size : Int)) (hk : ∀ t : Int, 0 ≤ t → t < n → KD (gI (bytesOf (s.extract f s.size)) t) = k) (h3 : k = 3 → n = 1)
    (he : n = ((s.extract f s.size).size : Int) ∨ k = 3 ∨ KD (gI (bytesOf (s.extract f s.size)) n) ≠ k) : TKS s (f + n.toNat) = (out ++ [(s.extract f s.size).extract 0 n.toNat], f + n.toNat) := by
  have hz := ext_size s (l := f) (Nat.le_refl s.size)
  rw [cut_cut s hf (Nat.le_refl _) (Nat.zero_le _) (by omega)]
  refine tks_tok h (by omega) (fun j j0 j1 => ?_) ?_
  · have a := hk (j - f) (by omega) (by omega)
    have b := hk (j - f + 1) (by omega) (by omega)
    rw [g_cut (by omega)] at a b
    rw [show (f : Int) + (j - f) = j by omega] at a
    rw [show (f : Int) + (j - f + 1) = j + 1 by omega] at b
    rintro (h1 | h1 | h1)
    · omega
    · have := h3 (by omega); omega
    · omega
  · have a := hk (n - 1) (by omega) (by omega)
    rw [g_cut (by omega)] at a
    rw [show ((f + n.toNat - 1 : Nat) : Int) = f + (n - 1) by omega]
    rcases he with h1 | h1 | h1
    · exact .inl (by omega)
    · exact .inr (.inl (by omega))
    · refine .inr (.inr ?_)
      rw [g_cut (by omega)] at h1
      rw [show (f : Int) + (n - 1) + 1 = f + n by omega, a]; exact h1
theorem doc_rest {s : ByteArray} {f : Nat} {n : Int} (hf : f ≤ s.size) (hn : 1 ≤ n) (hns : n ≤ ((s.extract f s.size).size : Int)) : (s.extract f s.size).extract n.toNat (s.extract f s.size).size = s.extract (f + n.toNat) s.size := by
  have hz := ext_size s (l := f) (Nat.le_refl s.size)
  rw [cut_cut s hf (Nat.le_refl _) (by omega) (by omega), hz, show f + (s.size - f) = s.size by omega]
theorem doc_fin {s s2 : ByteArray} {f : Nat} {out : List ByteArray} (h : TKS s f = (out, f)) (hf : f ≤ s.size) (e : s2 = s.extract f s.size) (h2 : ¬ (s2.size : Int) > 0) : out = TOK s := by
  have hz := ext_size s (l := f) (Nat.le_refl s.size)
  rw [← e] at hz
  unfold TOK
  rw [show s.size = f by omega, h]
/-! ### marks -/
abbrev MK (a b : Int) : Prop := (a = 91 ∧ b = 45) ∨ (a = 45 ∧ b = 93) ∨ (a = 123 ∧ b = 43) ∨ (a = 43 ∧ b = 125)
def PL : List Int → List Int
  | [] => []
  | [a] => [a]
  | a :: b :: r => if MK a b then PL r else a :: PL (b :: r)
def HPX (s p : ByteArray) : Prop := p.size ≤ s.size ∧ s.extract 0 p.size = p
instance (s p : ByteArray) : Decidable (HPX s p) := inferInstanceAs (Decidable (_ ∧ _))
theorem two_is {s : ByteArray} (h : 2 ≤ s.size) : bytesOf (s.extract 0 2) = [gI (bytesOf s) 0, gI (bytesOf s) 1] := by
  rw [bytesOf_cut]
  have hl := bytesOf_len s
  match hb : bytesOf s, hl with
  | [], hl => simp at hl; omega
  | [x], hl => simp at hl; omega
  | x :: y :: r, _ => rfl
theorem two_lit (a b : UInt8) : bytesOf ⟨#[a, b]⟩ = [(a.toNat : Int), (b.toNat : Int)] := rfl
theorem ext2 {s : ByteArray} (h : 2 ≤ s.size) (a b : UInt8) : s.extract 0 2 = ⟨#[a, b]⟩ ↔ gI (bytesOf s) 0 = a.toNat ∧ gI (bytesOf s) 1 = b.toNat := by
  constructor
  · intro e
    have := congrArg bytesOf e
    rw [two_is h, two_lit] at this
    injection this with h1 h2
    injection h2 with h2 _
    exact ⟨h1, h2⟩
  · rintro ⟨h1, h2⟩
    apply bytesOf_inj
    rw [two_is h, two_lit, h1, h2]
def MKS (s : ByteArray) : Prop := HPX s ⟨#[91, 45]⟩ ∨ HPX s ⟨#[45, 93]⟩ ∨ HPX s ⟨#[123, 43]⟩ ∨ HPX s ⟨#[43, 125]⟩
instance (s : ByteArray) : Decidable (MKS s) := inferInstanceAs (Decidable (_ ∨ _))
theorem hpx2 (s : ByteArray) (a b : UInt8) : HPX s ⟨#[a, b]⟩ ↔ 2 ≤ s.size ∧ gI (bytesOf s) 0 = a.toNat ∧ gI (bytesOf s) 1 = b.toNat := by
  constructor
  · rintro ⟨h1, h2⟩
    exact ⟨h1, (ext2 h1 a b).1 h2⟩
  · rintro ⟨h1, h2⟩
    exact ⟨h1, (ext2 h1 a b).2 h2⟩
theorem mks_is (s : ByteArray) : MKS s ↔ 2 ≤ s.size ∧ MK (gI (bytesOf s) 0) (gI (bytesOf s) 1) := by
  unfold MKS
  rw [hpx2, hpx2, hpx2, hpx2]
  simp only [show (91 : UInt8).toNat = 91 from rfl, show (45 : UInt8).toNat = 45 from rfl, show (93 : UInt8).toNat = 93 from rfl, show (123 : UInt8).toNat = 123 from rfl, show (43 : UInt8).toNat = 43 from rfl, show (125 : UInt8).toNat = 125 from rfl]
  omega
theorem drop1 {s : ByteArray} {i : Int} (h0 : 0 ≤ i) (h1 : i < s.size) : (bytesOf s).drop i.toNat = gI (bytesOf s) i :: (bytesOf s).drop (i + 1).toNat := by
  have hlt : i.toNat < (bytesOf s).length := by rw [bytesOf_len]; omega
  rw [List.drop_eq_getElem_cons hlt, show (i + 1).toNat = i.toNat + 1 by omega]
  unfold gI
  rw [List.getD_eq_getElem?_getD, List.getElem?_eq_getElem hlt]; rfl
theorem drop_end {s : ByteArray} {i : Int} (h1 : (s.size : Int) ≤ i) : (bytesOf s).drop i.toNat = [] := List.drop_eq_nil_of_le (by rw [bytesOf_len]; omega)
theorem pl_mark {s : ByteArray} {i : Int} (h0 : 0 ≤ i) (h1 : i + 1 < s.size) (hm : MK (gI (bytesOf s) i) (gI (bytesOf s) (i + 1))) : PL ((bytesOf s).drop i.toNat) = PL ((bytesOf s).drop (i + 2).toNat) := by
  rw [drop1 h0 (by omega), drop1 (by omega) h1, PL, if_pos hm, show i + 1 + 1 = i + 2 by omega]
theorem pl_keep {s : ByteArray} {i : Int} (h0 : 0 ≤ i) (h1 : i < s.size) (hm : ¬ (i + 1 < s.size ∧ MK (gI (bytesOf s) i) (gI (bytesOf s) (i + 1)))) : PL ((bytesOf s).drop i.toNat) = gI (bytesOf s) i :: PL ((bytesOf s).drop (i + 1).toNat) := by
  rw [drop1 h0 h1]
  by_cases h2 : i + 1 < s.size
  · rw [drop1 (by omega) h2, PL, if_neg (fun h => hm ⟨h2, h⟩)]
  · rw [drop_end (i := i + 1) (by omega)]; rfl
theorem mks_at {s : ByteArray} {i : Int} (h0 : 0 ≤ i) (h1 : i < s.size) : MKS (s.extract i.toNat s.size) ↔ i + 1 < s.size ∧ MK (gI (bytesOf s) i) (gI (bytesOf s) (i + 1)) := by
  rw [mks_is, ext_size s (Nat.le_refl _), g_cut (by omega), g_cut (by omega), show ((i.toNat : Nat) : Int) + 0 = i by omega, show ((i.toNat : Nat) : Int) + 1 = i + 1 by omega]
  omega
theorem PL_len : ∀ (n : Nat) (l : List Int), l.length ≤ n → (PL l).length ≤ l.length
  | _, [], _ => Nat.le_refl _
  | _, [a], _ => Nat.le_refl _
  | 0, a :: b :: r, h => by simp at h
  | n + 1, a :: b :: r, h => by
    simp only [List.length_cons] at h
    rw [PL]
    split
    · have := PL_len n r (by omega); simp only [List.length_cons]; omega
    · have := PL_len n (b :: r) (by simp only [List.length_cons]; omega); simp only [List.length_cons] at this ⊢; omega
theorem PL_none : PL [] = [] := rfl
/-- A text without marks. -/
def PLN (s : ByteArray) : ByteArray := strOfNums (PL (bytesOf s))
theorem PL_byte : ∀ (n : Nat) (l : List Int), l.length ≤ n → (∀ x ∈ l, 0 ≤ x ∧ x ≤ 255) → ∀ x ∈ PL l, 0 ≤ x ∧ x ≤ 255
  | _, [], _, _ => by simp [PL]
  | _, [a], _, h => by simpa [PL] using h
  | 0, a :: b :: r, h, _ => by simp at h
  | n + 1, a :: b :: r, h, hb => by
    simp only [List.length_cons] at h
    rw [PL]
    split
    · exact PL_byte n r (by omega) fun x hx => hb x (.tail _ (.tail _ hx))
    · intro x hx
      rcases List.mem_cons.1 hx with rfl | hx
      · exact hb _ (.head _)
      · exact PL_byte n (b :: r) (by simp only [List.length_cons]; omega) (fun y hy => hb y (.tail _ hy)) x hx
theorem pln_of {t s : ByteArray} (h : bytesOf t = PL (bytesOf s)) : t = PLN s := by unfold PLN; rw [← h, str_bytes]
end Go.Wds

namespace Go.Gv
open Go Go.RowKit
section
variable {P : Program} {f : Env} {w : World} {d : Option Tmp} {ty : TypeId} {ps : String} {af : Array Edge} {gd : Option (Nat × Bool)}
/-- Two values are the same just if p. -/
def AE (P : Program) (k : Nat) (t : TypeId) (x y : Value) (p : Prop) [Decidable p] : Prop := ∀ (e : Nat) (w : World), (Op.equalIn (e + k) t x y).run P w = .ok (decide p) w
theorem ae_int {t : TypeId} {k : IntKind} {a b : Int} (ht : P.underlying t = some (.int k)) : AE P 1 t (.int k a) (.int k b) (a = b) := fun e w => by
  unfold Op.equalIn
  simp [run_underlying ht]
  rfl
theorem ae_str {t : TypeId} {a b : ByteArray} (ht : P.underlying t = some .string) : AE P 1 t (.string a) (.string b) (a = b) := fun e w => by
  unfold Op.equalIn
  simp [run_underlying ht, beq_bytes]
theorem ae_bool {t : TypeId} {a b : Bool} (ht : P.underlying t = some .bool) : AE P 1 t (.bool a) (.bool b) (a = b) := fun e w => by
  unfold Op.equalIn
  simp [run_underlying ht]
  rfl
/-- A field is read off its struct. -/
def PT1 (P : Program) (t : TypeId) (cs : Array Value) (o : Nat) (v : Value) : Prop := ∀ w, (part t cs o).run P w = .ok v w
theorem pt_int {t : TypeId} {k : IntKind} {cs : Array Value} {o : Nat} {v : Value} (ht : P.underlying t = some (.int k)) (h : cs[o]? = some v) : PT1 P t cs o v := fun w => by simp [part, isAgg, run_underlying ht, h]
theorem pt_str {t : TypeId} {cs : Array Value} {o : Nat} {v : Value} (ht : P.underlying t = some .string) (h : cs[o]? = some v) : PT1 P t cs o v := fun w => by simp [part, isAgg, run_underlying ht, h]
theorem pt_bool {t : TypeId} {cs : Array Value} {o : Nat} {v : Value} (ht : P.underlying t = some .bool) (h : cs[o]? = some v) : PT1 P t cs o v := fun w => by simp [part, isAgg, run_underlying ht, h]
theorem pt_struct {t : TypeId} {fs : Array Field} {cs ds : Array Value} {o sz : Nat} (ht : P.underlying t = some (.struct fs)) (hz : (P.info? t).map (·.size) = some sz) (h : cs.extract o (o + sz) = ds) : PT1 P t cs o (.agg ds) := fun w => by
  obtain ⟨i, hi, hs⟩ := Option.map_eq_some_iff.1 hz
  simp [part, isAgg, run_underlying ht, sizeOf, typeInfo, hi, hs, h]
theorem ae_s2 {k : Nat} {t : TypeId} {f0 f1 : Field} {cs cs' : Array Value} {x0 x1 y0 y1 : Value} {p q : Prop} [Decidable p] [Decidable q] (ht : P.underlying t = some (.struct #[f0, f1])) (hn : f0.name ≠ "_" ∧ f1.name ≠ "_") (hp : P.stoodInHeld t = false)
    (a0 : PT1 P f0.type cs f0.offset x0) (b0 : PT1 P f0.type cs' f0.offset y0) (a1 : PT1 P f1.type cs f1.offset x1) (b1 : PT1 P f1.type cs' f1.offset y1) (h0 : AE P k f0.type x0 y0 p) (h1 : AE P k f1.type x1 y1 q) : AE P (k + 1) t (.agg cs) (.agg cs') (p ∧ q) := fun e w => by
  have hf : P.fieldsOf t = #[f0, f1] := by unfold Program.fieldsOf; rw [ht]
  show (Op.equalIn ((e + k) + 1) t _ _).run P w = _
  rw [run_equalIn_struct w (e + k) t _ _ (by rw [hf]; exact ht) hp, hf]
  simp only [Op.eqFields, Sem.run_bind, Sem.run_ite, hn.1, hn.2, ne_eq, not_false_eq_true, if_true, a0 w, b0 w, a1 w, b1 w, h0 e w, h1 e w, Result.andThen_ok]
  by_cases hp : p <;> by_cases hq : q <;> simp [hp, hq]
theorem AE.up {k : Nat} {t : TypeId} {x y : Value} {p : Prop} [Decidable p] (h : AE P k t x y p) : AE P (k + 1) t x y p := fun e w => by
  have := h (e + 1) w
  rwa [show e + 1 + k = e + (k + 1) by omega] at this
theorem LV.eqG {k : Nat} {t t2 : TypeId} {x y : Operand} {u v : Array Value} {p : Prop} [Decidable p] (hk : k ≤ 10000) (h : AE P k t (.agg u) (.agg v) p) (hg : P.eqGuardType P.depth t = false) (hx : ev f x = some (.agg u)) (hy : ev f y = some (.agg v)) :
    LV P ⟨d, .binOp .eql t x y t2, ty, ps, af, gd⟩ f w (.bool (decide p)) := fun a ha => by
  have h1 : (Op.equal t (.agg u) (.agg v)).run P w = .ok (decide p) w := by
    have := h (10000 - k) w
    rwa [Nat.sub_add_cancel hk] at this
  have h2 : (binOp .eql t (.agg u) (.agg v)).run P w = .ok (.bool (decide p)) w := by
    unfold binOp
    simp only [Sem.run_bind, h1, Result.andThen_ok, Sem.run_pure]
  simp only [execOp, ev_eval ha hx, ev_eval ha hy]
  simp [eqGuard, hg, h2]
theorem LV.neG {k : Nat} {t t2 : TypeId} {x y : Operand} {u v : Array Value} {p : Prop} [Decidable p] (hk : k ≤ 10000) (h : AE P k t (.agg u) (.agg v) p) (hg : P.eqGuardType P.depth t = false) (hx : ev f x = some (.agg u)) (hy : ev f y = some (.agg v)) :
    LV P ⟨d, .binOp .neq t x y t2, ty, ps, af, gd⟩ f w (.bool (decide (¬ p))) := fun a ha => by
  have h1 : (Op.equal t (.agg u) (.agg v)).run P w = .ok (decide p) w := by
    have := h (10000 - k) w
    rwa [Nat.sub_add_cancel hk] at this
  have h2 : (binOp .neq t (.agg u) (.agg v)).run P w = .ok (.bool (decide (¬ p))) w := by
    unfold binOp
    simp only [Sem.run_bind, h1, Result.andThen_ok, Sem.run_pure, decide_not]
  simp only [execOp, ev_eval ha hx, ev_eval ha hy]
  simp [eqGuard, hg, h2]
end
end Go.Gv

namespace Go.Gv
open Go Go.RowKit
section
variable {κ ν : Type} [DecidableEq κ] {K : κ → Value} {V : ν → Value}
theorem updL_twice (l : List (κ × ν)) (k : κ) (u v : ν) : updL (updL l k u) k v = updL l k v := by
  induction l with
  | nil => simp [updL]
  | cons p l ih =>
    by_cases h : p.1 = k
    · rw [show updL (p :: l) k u = (k, u) :: l by rw [updL, if_pos h], show updL (p :: l) k v = (k, v) :: l by rw [updL, if_pos h], updL, if_pos rfl]
    · rw [show updL (p :: l) k u = p :: updL l k u by rw [updL, if_neg h], show updL (p :: l) k v = p :: updL l k v by rw [updL, if_neg h], updL, if_neg h, ih]
theorem spot_put (l : List (κ × ν)) (k : κ) (u : ν) (j : Nat) : ∃ i, spot (updL l k u) k j = some (i, u) := by
  induction l generalizing j with
  | nil => exact ⟨j, by simp [updL, spot]⟩
  | cons p l ih =>
    unfold updL
    by_cases h : p.1 = k
    · rw [if_pos h]; exact ⟨j, by simp [spot]⟩
    · rw [if_neg h]
      obtain ⟨i, e⟩ := ih (j + 1)
      exact ⟨i, by rw [spot, if_neg h]; exact e⟩
theorem spot_set (l : List (κ × ν)) (k : κ) (v : ν) (n j : Nat) {p : Nat × ν} (h : spot l k j = some p) : j ≤ p.1 ∧ p.1 - j < l.length ∧ (updL l k v).length = l.length ∧ entsFrom K V n (updL l k v) = (entsFrom K V n l).modify (p.1 - j) (fun e => { e with val := V v }) := by
  induction l generalizing n j with
  | nil => simp [spot] at h
  | cons q l ih =>
    unfold spot at h
    unfold updL
    by_cases hk : q.1 = k
    · subst hk
      rw [if_pos rfl] at h
      injection h with h
      subst h
      simp [entsFrom]
    · rw [if_neg hk] at h ⊢
      obtain ⟨h1, h2, h3, h4⟩ := ih (n + 1) (j + 1) h
      have e : p.1 - j = (p.1 - (j + 1)) + 1 := by omega
      refine ⟨by omega, by simp only [List.length_cons]; omega, by simp [h3], ?_⟩
      rw [entsFrom, entsFrom, h4, e]; rfl
omit [DecidableEq κ] in
theorem born_at (l : List (κ × ν)) : ∀ (m i : Nat), i < l.length → (entsFrom K V m l).findIdx? (fun e => (e.born : Int) == ((m + i : Nat) : Int)) = some i := by
  induction l with
  | nil => intro m i h; simp at h
  | cons p l ih =>
    intro m i h
    rw [entsFrom, List.findIdx?_cons]
    cases i with
    | zero => simp
    | succ i =>
      have := ih (m + 1) i (by simpa using h)
      rw [show m + 1 + i = m + (i + 1) by omega] at this
      rw [this]
      have hne : ((m : Int) == ((m + (i + 1) : Nat) : Int)) = false := by simp; omega
      rw [hne]; rfl
omit [DecidableEq κ] in
theorem born_get (l : List (κ × ν)) : ∀ (m i : Nat), i < l.length → ((entsFrom K V m l)[i]?).map (·.born) = some (m + i) := by
  induction l with
  | nil => intro m i h; simp at h
  | cons p l ih =>
    intro m i h
    rw [entsFrom]
    cases i with
    | zero => simp
    | succ i =>
      have := ih (m + 1) i (by simpa using h)
      rw [List.getElem?_cons_succ, this]
      congr 1; omega
end
section
variable {κ ν : Type} [DecidableEq κ] {P : Program} {f : Env} {w : World} {d : Option Tmp} {ty : TypeId} {ps : String} {af : Array Edge} {gd : Option (Nat × Bool)} {w0 : World} {S : Nat → Prop} {L : List Ent} {K : κ → Value} {V : ν → Value} {r : Nat} {kv : List (κ × ν)}
theorem upd_same (l : List (κ × ν)) (k : κ) {p : Nat × ν} {j : Nat} (h : spot l k j = some p) (hn : ∀ x ∈ l, True) : updL l k p.2 = l := by
  induction l generalizing j with
  | nil => simp [spot] at h
  | cons q l ih =>
    unfold spot at h
    unfold updL
    by_cases hk : q.1 = k
    · rw [if_pos hk] at h ⊢
      injection h with h
      subst h; subst hk; rfl
    · rw [if_neg hk] at h ⊢
      rw [ih h fun _ _ => trivial]
theorem key_same {E : MapEntry} {v : Value} (h : E.key = v) : ({ E with key := v } : MapEntry) = E := by subst h; rfl
theorem XE.mapEntry {t k e : TypeId} {x y : Operand} {q : κ} {z : ν} {size bytes : Nat} (hk : KeyOK P k K) (h : SH w0 S w (mapE K V r kv :: L)) (ht : P.underlying t = some (.map k e)) (hi : TI P e (V z) size bytes) (hx : ev f x = some (.map (some r))) (hy : ev f y = some (K q)) :
    XE P ⟨d, .mapEntry t x y, ty, ps, af, gd⟩ f w (fun v' w' => ∃ n : Nat, v' = .tuple #[V ((lookL kv q).getD z), .int .i64 n] ∧ (∃ u, spot (updL kv q ((lookL kv q).getD z)) q 0 = some (n, u)) ∧ SH w0 S w' (mapE K V r (updL kv q ((lookL kv q).getD z)) :: L) ∧ KB (· = r) w w') := by
  have hm : w.heap[r]? = some (.map (entsFrom K V 0 kv).toArray kv.length) := h.hd
  have hlt := (Array.getElem?_eq_some_iff.1 hm).1
  obtain ⟨i, hj, hz, _, _⟩ := hi.get
  have kb : ∀ o, KB (· = r) w { w with heap := w.heap.setIfInBounds r o } := fun o => ⟨rfl, rfl, rfl, fun _ => Nat.le_refl _, by simp, fun i _ hi => by
    show (w.heap.setIfInBounds r o)[i]? = _
    rw [Array.getElem?_setIfInBounds, if_neg (fun e => hi e.symm)]⟩
  have put : ∀ o kv', o = Obj.map (entsFrom K V 0 kv').toArray kv'.length → SH w0 S { w with heap := w.heap.setIfInBounds r o } (mapE K V r kv' :: L) := fun o kv' ho =>
    h.upd (e' := mapE K V r kv') ((kb o).mono fun i hi => by simp [mapE, hi]) (map_ok (by subst ho; show (w.heap.setIfInBounds r _)[r]? = _; simp [hlt])) (by simp [mapE]) (fun k hk => .inl hk)
  have hl := spot_look kv q 0
  cases hs : spot kv q 0 with
  | none =>
    rw [hs] at hl
    have hu := spot_upd (K := K) (V := V) kv q z 0 0
    rw [hs] at hu
    simp only [Nat.zero_add] at hu
    have hll : lookL kv q = none := hl.symm
    have hn : updL kv q z = kv ++ [(q, z)] := updL_new hll
    rw [hll]
    simp only [Option.getD_none]
    have hlen : (updL kv q z).length = kv.length + 1 := by rw [hn]; simp
    have hsp : ∀ (l : List (κ × ν)) (j : Nat), spot l q j = none → spot (l ++ [(q, z)]) q j = some (j + l.length, z) := by
      intro l
      induction l with
      | nil => intro j _; simp [spot]
      | cons p l ih =>
        intro j hj
        unfold spot at hj
        by_cases hp : p.1 = q
        · rw [if_pos hp] at hj; cases hj
        · rw [if_neg hp] at hj
          rw [List.cons_append, spot, if_neg hp, ih _ hj, List.length_cons]
          congr 2; omega
    refine ⟨.tuple #[V z, .int .i64 kv.length], { w with heap := w.heap.setIfInBounds r (.map ((entsFrom K V 0 kv).toArray.push { key := K q, val := V z, born := kv.length }) (kv.length + 1)) }, fun a ha => ?_, kv.length, rfl, ⟨z, by rw [hn]; have := hsp kv 0 hs; rwa [Nat.zero_add] at this⟩, put _ _ ?_, kb _⟩
    · simp only [execOp, ev_eval ha hx, ev_eval ha hy, Instr.mapEntry, Sem.run_bind, run_underlying ht, Result.andThen_ok, getM hm, hk.chk, run_findKey hk, hs, Option.map_none, zeroValue, typeInfo, run_program, hj, hz, setM _ hm, Sem.run_pure, goInt]
    · rw [hu, hlen]; simp
  | some p =>
    rw [hs] at hl
    have hll : lookL kv q = some p.2 := hl.symm
    have hu := spot_upd (K := K) (V := V) kv q p.2 0 0
    rw [hs] at hu
    simp only [Nat.sub_zero, Nat.zero_le, true_and] at hu
    obtain ⟨h1, h2, h3, h4⟩ := hu
    have hb := born_get (K := K) (V := V) kv 0 p.1 h1
    have hsame := upd_same kv q hs fun _ _ => trivial
    rw [hll]
    simp only [Option.getD_some]
    rw [hsame]
    have h5 : (((entsFrom K V 0 kv).toArray[p.1]?).map (·.key)).getD (K q) = K q := by
      have : (entsFrom K V 0 kv).toArray[p.1]? = (entsFrom K V 0 kv)[p.1]? := by simp
      rw [this, h2]; rfl
    have h6 : (((entsFrom K V 0 kv).toArray[p.1]?).map (fun x => (x.born : Int))).getD 0 = (p.1 : Int) := by
      have h : (entsFrom K V 0 kv).toArray[p.1]? = (entsFrom K V 0 kv)[p.1]? := by simp
      rw [h]
      cases hE : (entsFrom K V 0 kv)[p.1]? with
      | none => rw [hE] at hb; simp at hb
      | some E => rw [hE] at hb; simp only [Option.map_some, Option.some.injEq] at hb; simp only [Option.map_some, Option.getD_some]; omega
    have h7 : (entsFrom K V 0 kv).toArray.modify p.1 (fun e => { e with key := K q }) = (entsFrom K V 0 kv).toArray := by
      apply Array.ext
      · simp
      · intro i hi1 hi2
        rw [Array.getElem_modify]
        split
        · rename_i he
          subst he
          have hk2 : (entsFrom K V 0 kv)[p.1]?.map (·.key) = some (K q) := h2
          have hi3 : p.1 < (entsFrom K V 0 kv).length := by simpa using hi2
          rw [List.getElem?_eq_getElem hi3] at hk2
          have hk3 : ((entsFrom K V 0 kv)[p.1]).key = K q := by simpa using hk2
          exact key_same hk3
        · rfl
    refine ⟨.tuple #[V p.2, .int .i64 p.1], { w with heap := w.heap.setIfInBounds r (.map (entsFrom K V 0 kv).toArray kv.length) }, fun a ha => ?_, p.1, rfl, ⟨p.2, hs⟩, put _ _ rfl, kb _⟩
    simp only [execOp, ev_eval ha hx, ev_eval ha hy, Instr.mapEntry, Sem.run_bind, run_underlying ht, Result.andThen_ok, getM hm, hk.chk, run_findKey hk, hs, Option.map_some, h5, h6, h7, Instr.keyThatStays, hk.bits, if_true, setM _ hm, Sem.run_pure, goInt]
theorem XSE.entryStore {t : TypeId} {x y s : Operand} {q : κ} {v : ν} {n : Nat} (h : SH w0 S w (mapE K V r kv :: L)) (hs : ∃ u, spot kv q 0 = some (n, u)) (hx : ev f x = some (.map (some r))) (hy : ev f s = some (.int .i64 n)) (hz : ev f y = some (V v)) :
    XSE P ⟨d, .entryStore t x s y, ty, ps, af, gd⟩ f w (fun w' => SH w0 S w' (mapE K V r (updL kv q v) :: L) ∧ KB (· = r) w w') := by
  have hm : w.heap[r]? = some (.map (entsFrom K V 0 kv).toArray kv.length) := h.hd
  have hlt := (Array.getElem?_eq_some_iff.1 hm).1
  obtain ⟨u, hs⟩ := hs
  obtain ⟨_, h1, h2, h3⟩ := spot_set (K := K) (V := V) kv q v 0 0 hs
  simp only [Nat.sub_zero] at h1 h3
  have hb := born_at (K := K) (V := V) kv 0 n h1
  rw [Nat.zero_add] at hb
  have kb : ∀ o, KB (· = r) w { w with heap := w.heap.setIfInBounds r o } := fun o => ⟨rfl, rfl, rfl, fun _ => Nat.le_refl _, by simp, fun i _ hi => by
    show (w.heap.setIfInBounds r o)[i]? = _
    rw [Array.getElem?_setIfInBounds, if_neg (fun e => hi e.symm)]⟩
  refine ⟨{ w with heap := w.heap.setIfInBounds r (.map ((entsFrom K V 0 kv).toArray.modify n fun e => { e with val := V v }) kv.length) }, fun a ha => ?_, ?_, kb _⟩
  · have hb2 : (entsFrom K V 0 kv).toArray.findIdx? (fun e => (e.born : Int) == (n : Int)) = some n := by simpa using hb
    simp only [execOp, ev_eval ha hx, ev_eval ha hy, ev_eval ha hz, Instr.entryStore, Sem.run_bind, Result.andThen_ok, getM hm, asInt, asIntOf, Sem.run_pure, hb2, setM _ hm]
  · refine h.upd (e' := mapE K V r (updL kv q v)) ((kb _).mono fun i hi => by simp [mapE, hi]) (map_ok ?_) (by simp [mapE]) (fun k hk => .inl hk)
    show (w.heap.setIfInBounds r _)[r]? = _
    rw [Array.getElem?_setIfInBounds, if_pos rfl, if_pos hlt, h2, h3]; simp
end
/-! #### keys of two whole numbers -/
abbrev kLb (x : Int × Int) : Value := .agg #[.int .i64 x.1, .int .u64 x.2]
theorem key_lb {P : Program} {t : TypeId} {f0 f1 : Field} (ht : P.underlying t = some (.struct #[f0, f1])) (h0 : P.underlying f0.type = some (.int .i64)) (h1 : P.underlying f1.type = some (.int .u64))
    (hn : (f0.name ≠ "_" ∧ f1.name ≠ "_") ∧ f0.offset = 0 ∧ f1.offset = 1) (hp : P.stoodInHeld t = false) : KeyOK P t kLb :=
  ⟨fun b k w => by
      have p0 : (part f0.type #[.int .i64 k.1, .int .u64 k.2] 0).run P w = .ok (.int .i64 k.1) w := by simp [part, isAgg, run_underlying h0]
      have p1 : (part f1.type #[.int .i64 k.1, .int .u64 k.2] 1).run P w = .ok (.int .u64 k.2) w := by simp [part, isAgg, run_underlying h1]
      have c0 : (Instr.checkKey b 9999 f0.type (.int .i64 k.1)).run P w = .ok () w := by
        show (Instr.checkKey b (9998 + 1) _ _).run P w = _
        unfold Instr.checkKey
        simp [run_underlying h0]
      have c1 : (Instr.checkKey b 9999 f1.type (.int .u64 k.2)).run P w = .ok () w := by
        show (Instr.checkKey b (9998 + 1) _ _).run P w = _
        unfold Instr.checkKey
        simp [run_underlying h1]
      show (Instr.checkKey b (9999 + 1) _ _).run P w = _
      unfold Instr.checkKey
      simp only [Sem.run_bind, run_underlying ht, Result.andThen_ok]
      rw [← Array.forIn_toList]
      simp [hn.1.1, hn.1.2, hn.2.1, hn.2.2, p0, p1, c0, c1],
    ⟨_, ht, .inr fun a b => rfl⟩,
    fun a b w => by
      have h := ae_s2 (k := 1) (cs := #[.int .i64 a.1, .int .u64 a.2]) (cs' := #[.int .i64 b.1, .int .u64 b.2]) ht hn.1 hp (pt_int h0 (by rw [hn.2.1]; rfl)) (pt_int h0 (by rw [hn.2.1]; rfl)) (pt_int h1 (by rw [hn.2.2]; rfl)) (pt_int h1 (by rw [hn.2.2]; rfl)) (ae_int h0 (a := a.1) (b := b.1)) (ae_int h1 (a := a.2) (b := b.2))
      have h2 := h 9998 w
      have e : decide (a.1 = b.1 ∧ a.2 = b.2) = decide (a = b) := decide_eq_decide.2 Prod.ext_iff.symm
      rw [e] at h2
      exact h2,
    fun a => by
      unfold Instr.sameBits
      unfold Instr.sameBits
      simp⟩
end Go.Gv

namespace Go.Cm
open Go Go.Gv
def CMPI (x y : Int) : Int := if x < y then -1 else if x > y then 1 else 0
theorem cmpi_is (x y : Int) : (x < y ∧ CMPI x y = -1) ∨ (x = y ∧ CMPI x y = 0) ∨ (x > y ∧ CMPI x y = 1) := by
  unfold CMPI
  rcases Int.lt_trichotomy x y with h | h | h
  · rw [if_pos h]; omega
  · rw [if_neg (by omega), if_neg (by omega)]; omega
  · rw [if_neg (by omega), if_pos (by omega)]; omega
/-- The first that is not 0. -/
def ORL : List Int → Int
  | [] => 0
  | x :: l => if x ≠ 0 then x else ORL l
theorem ORL_at {l : List Int} {i : Int} (h0 : 0 ≤ i) (h1 : i < l.length) : ORL (l.drop i.toNat) = if gI l i ≠ 0 then gI l i else ORL (l.drop (i + 1).toNat) := by
  have hlt : i.toNat < l.length := by omega
  rw [List.drop_eq_getElem_cons hlt, ORL, show (i + 1).toNat = i.toNat + 1 by omega]
  unfold gI
  rw [List.getD_eq_getElem?_getD, List.getElem?_eq_getElem hlt]; rfl
theorem ORL_end {l : List Int} {i : Int} (h : ¬ i < l.length) : ORL (l.drop i.toNat) = 0 := by rw [List.drop_eq_nil_of_le (by omega), ORL]
theorem orl2 (x y : Int) : (x ≠ 0 ∧ ORL [x, y] = x) ∨ (x = 0 ∧ ORL [x, y] = y) := by
  by_cases h : x = 0
  · right; refine ⟨h, ?_⟩
    rw [ORL, if_neg (by simp [h]), ORL]
    by_cases h2 : y = 0
    · rw [if_neg (by simp [h2]), ORL, h2]
    · rw [if_pos h2]
  · left; exact ⟨h, by rw [ORL, if_pos h]⟩
end Go.Cm

namespace Go.Num
open Go.Gv
abbrev KV := List (Ln × Int)
def nn (kv : KV) (x : Ln) : Int := (lookL kv x).getD kv.length
def nk (kv : KV) (x : Ln) : KV := if (lookL kv x).isSome then kv else updL kv x kv.length
def nkv : KV → List Ln → KV
  | kv, [] => kv
  | kv, x :: l => nkv (nk kv x) l
def nnum : KV → List Ln → List Int
  | _, [] => []
  | kv, x :: l => nn kv x :: nnum (nk kv x) l
def nkvs : KV → List (List Ln) → KV
  | kv, [] => kv
  | kv, l :: ls => nkvs (nkv kv l) ls
def nnums : KV → List (List Ln) → List (List Int)
  | _, [] => []
  | kv, l :: ls => nnum kv l :: nnums (nkv kv l) ls
theorem nkv_snoc (kv : KV) (l : List Ln) (x : Ln) : nkv kv (l ++ [x]) = nk (nkv kv l) x := by
  induction l generalizing kv with
  | nil => rfl
  | cons y l ih => exact ih _
theorem nnum_snoc (kv : KV) (l : List Ln) (x : Ln) : nnum kv (l ++ [x]) = nnum kv l ++ [nn (nkv kv l) x] := by
  induction l generalizing kv with
  | nil => rfl
  | cons y l ih => simp only [List.cons_append, nnum, nkv, ih]
theorem nkvs_snoc (kv : KV) (ls : List (List Ln)) (l : List Ln) : nkvs kv (ls ++ [l]) = nkv (nkvs kv ls) l := by
  induction ls generalizing kv with
  | nil => rfl
  | cons y l ih => exact ih _
theorem nnums_snoc (kv : KV) (ls : List (List Ln)) (l : List Ln) : nnums kv (ls ++ [l]) = nnums kv ls ++ [nnum (nkvs kv ls) l] := by
  induction ls generalizing kv with
  | nil => rfl
  | cons y l ih => simp only [List.cons_append, nnums, nkvs, ih]
theorem nnum_length (kv : KV) (l : List Ln) : (nnum kv l).length = l.length := by
  induction l generalizing kv with
  | nil => rfl
  | cons y l ih => simp [nnum, ih]
theorem take_more {β : Type} {l : List β} {j : Int} (d : β) (h0 : 0 ≤ j) (h1 : j < l.length) : l.take (j + 1).toNat = l.take j.toNat ++ [l.getD j.toNat d] := by
  have hlt : j.toNat < l.length := by omega
  rw [show (j + 1).toNat = j.toNat + 1 by omega, List.take_add_one, List.getElem?_eq_getElem hlt]
  simp [List.getD, hlt]
section
variable {kv kv1 : KV} {l : List Ln} {row : List Int} {j : Int}
theorem num_new1 (h0 : 0 ≤ j) (h1 : j < l.length) (e : kv1 = nkv kv (l.take j.toNat)) (h : (!(lookL kv1 (l.getD j.toNat lnD)).isSome) = true) :
    updL kv1 (l.getD j.toNat lnD) kv1.length = nkv kv (l.take (j + 1).toNat) := by
  rw [take_more lnD h0 h1, nkv_snoc, ← e, nk, if_neg (by simpa using h)]
theorem num_new2 (h0 : 0 ≤ j) (h1 : j < l.length) (e : kv1 = nkv kv (l.take j.toNat)) (er : row = nnum kv (l.take j.toNat)) (h : (!(lookL kv1 (l.getD j.toNat lnD)).isSome) = true) :
    row ++ [(kv1.length : Int)] = nnum kv (l.take (j + 1).toNat) := by
  rw [take_more lnD h0 h1, nnum_snoc, ← e, ← er, nn]
  cases hl : lookL kv1 (l.getD j.toNat lnD) with
  | none => rfl
  | some v => rw [hl] at h; simp at h
theorem num_old1 (h0 : 0 ≤ j) (h1 : j < l.length) (e : kv1 = nkv kv (l.take j.toNat)) (h : (!(lookL kv1 (l.getD j.toNat lnD)).isSome) = false) :
    kv1 = nkv kv (l.take (j + 1).toNat) := by
  rw [take_more lnD h0 h1, nkv_snoc, ← e, nk, if_pos]
  cases hx : (lookL kv1 (l.getD j.toNat lnD)).isSome with
  | true => rfl
  | false => rw [hx] at h; simp at h
theorem num_old2 (h0 : 0 ≤ j) (h1 : j < l.length) (e : kv1 = nkv kv (l.take j.toNat)) (er : row = nnum kv (l.take j.toNat)) (h : (!(lookL kv1 (l.getD j.toNat lnD)).isSome) = false) :
    row ++ [(lookL kv1 (l.getD j.toNat lnD)).getD 0] = nnum kv (l.take (j + 1).toNat) := by
  rw [take_more lnD h0 h1, nnum_snoc, ← e, ← er, nn]
  cases hl : lookL kv1 (l.getD j.toNat lnD) with
  | none => rw [hl] at h; simp at h
  | some v => rfl
end
section
variable {α : Type} [Inhabited α] {kv : KV} {inp : List (α × List Ln)} {i : Int}
theorem nums_step1 (h0 : 0 ≤ i) (h1 : i < inp.length) (e : kv = nkvs [] ((inp.map (·.2)).take i.toNat)) : nkv kv (inp.getD i.toNat default).2 = nkvs [] ((inp.map (·.2)).take (i + 1).toNat) := by
  rw [take_more (default : α × List Ln).2 h0 (by simpa using h1), nkvs_snoc, ← e]
  have hlt : i.toNat < inp.length := by omega
  simp [List.getD, hlt]
theorem nums_step2 {β : Type} {rows : List (β × List Int)} {sv : β} (h0 : 0 ≤ i) (h1 : i < inp.length) (e : kv = nkvs [] ((inp.map (·.2)).take i.toNat)) (er : rows.map (·.2) = nnums [] ((inp.map (·.2)).take i.toNat)) :
    (rows ++ [(sv, nnum kv (inp.getD i.toNat default).2)]).map (·.2) = nnums [] ((inp.map (·.2)).take (i + 1).toNat) := by
  rw [take_more (default : α × List Ln).2 h0 (by simpa using h1), nnums_snoc, ← e, ← er]
  have hlt : i.toNat < inp.length := by omega
  simp [List.getD, hlt]
end
end Go.Num
namespace Go.Num
open Go.Gv
theorem num_fin1 {kv kv1 : KV} {l : List Ln} {j : Int} (e : kv1 = nkv kv (l.take j.toNat)) (h : (l.length : Int) ≤ j) : kv1 = nkv kv l := by rw [e, List.take_of_length_le (by omega)]
theorem num_fin2 {kv : KV} {l : List Ln} {row : List Int} {j : Int} (e : row = nnum kv (l.take j.toNat)) (h : (l.length : Int) ≤ j) : row = nnum kv l := by rw [e, List.take_of_length_le (by omega)]
end Go.Num

