/- Strings: cut, looked at byte by byte, compared; a part of an element; pointers compared with none. -/
import Derived.Test.YtomeffnlmefnlaaGvV
import Derived.Test.YtomeffnlmefnlaaGvN
import Derived.Test.YtomeffnlmefnlaaGvM
namespace Go.Gv
open Go Go.RowKit
section
variable {P : Program} {f : Env} {w w0 : World} {S : Nat → Prop} {L : List Ent} {d : Option Tmp} {ty : TypeId} {ps : String} {af : Array Edge} {gd : Option (Nat × Bool)}
theorem LV.cutS {t : TypeId} {x : Operand} {lo hi : Option Operand} {vl vh : Option Value} {s : ByteArray} {l h : Nat} (ht : P.underlying t = some .string) (hx : ev f x = some (.string s))
    (h1 : evOpt f lo = some vl) (h2 : evOpt f hi = some vh) (hc : cutOf vl vh none s.size s.size l h s.size) (hlh : l ≤ h) (hh : h ≤ s.size) :
    LV P ⟨d, .slice t x lo hi none, ty, ps, af, gd⟩ f w (.string (s.extract l h)) := fun a ha => by
  have e1 := evOpt_eval ha h1
  have e2 := evOpt_eval ha h2
  simp only [execOp, ev_eval ha hx, e1, e2]
  have hl' : (0 : Int) ≤ (l : Int) ∧ (l : Int) ≤ (h : Int) := by omega
  have hh' : (0 : Int) ≤ (h : Int) ∧ (h : Int) ≤ (s.size : Int) := by omega
  obtain ⟨c1, c2, _⟩ := hc
  rcases c1 with ⟨rfl, rfl⟩ | ⟨k1, rfl⟩ <;> rcases c2 with ⟨rfl, rfl, _⟩ | ⟨k2, rfl⟩ <;>
    simp [Instr.sliceAt, Instr.slice, run_underlying ht, Instr.sliceBounds, Instr.sliceBound, asIntOf, hl', hh', hlh, hh]
theorem bytes_at {s : ByteArray} {i : Int} (h0 : 0 ≤ i) (h1 : i < s.size) : ∃ c : UInt8, s[i.toNat]? = some c ∧ (bytesOf s).getD i.toNat 0 = c.toNat := by
  have hlt : i.toNat < s.size := by omega
  refine ⟨s[i.toNat], by simp [hlt], ?_⟩
  have hl : i.toNat < s.data.toList.length := by rw [Array.length_toList]; exact hlt
  unfold bytesOf
  rw [List.getD_eq_getElem?_getD, List.getElem?_map, List.getElem?_eq_getElem hl]
  rfl
theorem byte_bd (s : ByteArray) (i : Int) : 0 ≤ (bytesOf s).getD i.toNat 0 ∧ (bytesOf s).getD i.toNat 0 ≤ 255 := by
  rcases Nat.lt_or_ge i.toNat s.size with h | h
  · obtain ⟨c, _, e⟩ := bytes_at (s := s) (i := (i.toNat : Int)) (by omega) (by omega)
    rw [Int.toNat_natCast] at e
    rw [e]
    have := c.toNat_lt
    omega
  · rw [List.getD_eq_getElem?_getD, List.getElem?_eq_none (by rw [bytesOf_len]; exact h)]; simp
theorem LV.idxSi {t : TypeId} {x y : Operand} {s : ByteArray} {i : Int} {k : IntKind} (ht : P.underlying t = some .string) (hx : ev f x = some (.string s)) (hy : ev f y = some (.int k i)) (h0 : 0 ≤ i) (h1 : i < s.size) :
    LV P ⟨d, .index t x y, ty, ps, af, gd⟩ f w (.int .u8 ((bytesOf s).getD i.toNat 0)) := by
  obtain ⟨c, hc, e⟩ := bytes_at h0 h1
  rw [e]
  exact LV.idxS ht hx (by rw [hy, show i = (i.toNat : Int) by omega]; rfl) hc
theorem LV.eqSP {t t2 : TypeId} {x y : Operand} {a b : ByteArray} (hx : ev f x = some (.string a)) (hy : ev f y = some (.string b)) :
    LV P ⟨d, .binOp .eql t x y t2, ty, ps, af, gd⟩ f w (.bool (decide (a = b))) := by
  have h := LV.eqS (P := P) (w := w) (d := d) (ty := ty) (ps := ps) (af := af) (gd := gd) (t := t) (t2 := t2) hx hy
  have e : (a.toList == b.toList) = decide (a = b) := by
    rw [Bool.eq_iff_iff, beq_iff_eq, decide_eq_true_iff]
    exact ⟨fun h => by have := congrArg (fun l : List UInt8 => (⟨l.toArray⟩ : ByteArray)) h; exact ByteArray.ext (by simpa [ByteArray.toList_eq] using this), fun h => h ▸ rfl⟩
  rwa [e] at h
theorem LV.neSP {t t2 : TypeId} {x y : Operand} {a b : ByteArray} (hx : ev f x = some (.string a)) (hy : ev f y = some (.string b)) :
    LV P ⟨d, .binOp .neq t x y t2, ty, ps, af, gd⟩ f w (.bool (decide (¬ a = b))) := fun e he => by
  have h := (LV.eqSP (P := P) (w := w) (d := d) (ty := ty) (ps := ps) (af := af) (gd := gd) (t := t) (t2 := t2) hx hy) e he
  simp only [execOp, ev_eval he hx, ev_eval he hy, eqGuard] at h ⊢
  simp [binOp, Op.stringOp] at h ⊢
  exact h
/-- The row of a string. -/
theorem bytesOf_cut (s : ByteArray) (l h : Nat) : bytesOf (s.extract l h) = ((bytesOf s).take h).drop l := by
  unfold bytesOf
  rw [← List.map_take, ← List.map_drop]
  congr 1
  show (s.extract l h).data.toList = _
  rw [ByteArray.data_extract, Array.toList_extract, List.extract_eq_take_drop, List.drop_take]
theorem bytesOf_inj {a b : ByteArray} (h : bytesOf a = bytesOf b) : a = b := by
  rw [← str_bytes a, ← str_bytes b, h]
theorem ext_size (s : ByteArray) {l h : Nat} (hh : h ≤ s.size) : (s.extract l h).size = h - l := by
  rw [ByteArray.size_extract]; omega
theorem cut_all (s : ByteArray) : s.extract 0 s.size = s := bytesOf_inj (by rw [bytesOf_cut, List.take_of_length_le (by rw [bytesOf_len]; omega)]; rfl)
theorem cut_cut (s : ByteArray) {a b c e : Nat} (_h : a ≤ b) (_ : b ≤ s.size) (_hc : c ≤ e) (he : e ≤ b - a) : (s.extract a b).extract c e = s.extract (a + c) (a + e) := bytesOf_inj (by
  rw [bytesOf_cut, bytesOf_cut, bytesOf_cut]
  rw [List.take_drop, List.drop_drop, List.take_take, Nat.min_eq_left (by omega)])
theorem cut_app (s : ByteArray) {a b c : Nat} (h1 : a ≤ b) (h2 : b ≤ c) (hc : c ≤ s.size) : s.extract a b ++ s.extract b c = s.extract a c := bytesOf_inj (by
  rw [bytesOf_app, bytesOf_cut, bytesOf_cut, bytesOf_cut]
  have hl := bytesOf_len s
  have e : (bytesOf s).take c = (bytesOf s).take b ++ ((bytesOf s).take c).drop b := by
    conv => lhs; rw [← List.take_append_drop b ((bytesOf s).take c), List.take_take, Nat.min_eq_left h2]
  conv => rhs; rw [e]
  rw [List.drop_append_of_le_length (by rw [List.length_take]; omega)])
/-! #### keys that are strings -/
abbrev kS (s : ByteArray) : Value := .string s
theorem key_str {P : Program} {t : TypeId} (ht : P.underlying t = some .string) : KeyOK P t kS :=
  ⟨fun b k w => by
      show (Instr.checkKey b (9999 + 1) _ _).run P w = _
      unfold Instr.checkKey
      simp [run_underlying ht], ⟨_, ht, .inl fun a b => by simp [Instr.sameNow, beq_bytes]⟩,
    fun a b w => by
      show (Op.equalIn (9999 + 1) t _ _).run P w = _
      unfold Op.equalIn
      simp [run_underlying ht, beq_bytes],
    fun a => by show (a == a) = true; rw [beq_bytes]; simp⟩
/-! #### a part of an element -/
theorem part_get {l m : List Value} {off n j : Nat} {u : Value} (h : (l.drop off).take n = m) (hu : m[j]? = some u) : l[off + j]? = some u := by
  subst h
  rw [List.getElem?_take] at hu
  split at hu
  · rwa [List.getElem?_drop] at hu
  · cases hu
theorem elt_part {a : Addr} {l m : List Value} {off n : Nat} (hg : ∀ w', KB No w w' → ∀ (t : Nat) (u : Value), l[t]? = some u → w'.cell? (a.add t) = some u) (h : (l.drop off).take n = m) :
    ∀ w', KB No w w' → ∀ (j : Nat) (u : Value), m[j]? = some u → w'.cell? ((a.add off).add j) = some u := fun w' hk j u hu => by
  rw [addr_add']; exact hg w' hk (off + j) u (part_get h hu)
end
end Go.Gv
namespace Go.Gv
open Go Go.RowKit
theorem Blk.part {w : World} {b : Nat} {T : TypeId} {cs : Array Value} {m : List Value} (off n : Nat) (h : w.heap[b]? = some (.cells cs T (0, 0))) (hm : (cs.toList.drop off).take n = m) :
    ∀ w', KB No w w' → ∀ (j : Nat) (u : Value), m[j]? = some u → w'.cell? ((⟨b, off, none⟩ : Addr).add j) = some u := fun w' hk j u hu => by
  have h1 := part_get hm hu
  have h2 : w'.cell? ⟨b, off + j, none⟩ = some u := by
    refine hk.cell ((Blk.cell h (off + j)).trans ?_) fun h => h
    rw [← Array.getElem?_toList]; exact h1
  have h3 : (⟨b, off, none⟩ : Addr).add j = ⟨b, off + j, none⟩ := by
    unfold Addr.add; by_cases hj : j = 0
    · subst hj; simp
    · rw [if_neg hj]
  rw [h3]; exact h2
end Go.Gv
