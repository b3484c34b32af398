/- Blocks that stand elsewhere: letters, and what the laws ask, plain. -/
import Derived.Test.YtkceknbjlogehaaMvA
import Derived.Test.YtkceknbjlogehaaGvT
namespace Go.Mov
open Go Go.Gv Go.Itn Go.Scr Go.Mys Go.Num
def pX (ps : List (Int × Int)) : List Int := ps.map fun p => p.1
def pY (ps : List (Int × Int)) : List Int := ps.map fun p => p.2
def bX (l : List B3) : List (Int × Int) := l.map fun b => (b.1, b.2.2)
def bY (l : List B3) : List (Int × Int) := l.map fun b => (b.2.1, b.2.2)
def inB (B : List (Int × Int)) (i : Int) : Prop := ∃ b ∈ B, b.1 ≤ i ∧ i < b.1 + b.2
instance {B i} : Decidable (inB B i) := inferInstanceAs (Decidable (∃ b ∈ B, b.1 ≤ i ∧ i < b.1 + b.2))
def sg (c : Int) (P : List Int) (B : List (Int × Int)) (i : Int) : Int := if inB B i then 126 else if i ∈ P then 61 else c
def sgl (c : Int) (P : List Int) (B : List (Int × Int)) (n : Nat) : List Int := (List.range n).map fun (i : Nat) => sg c P B i
def chr (z : Int) : ByteArray := strOfNums [z]
theorem inB_nil {i : Int} : ¬ inB [] i := fun ⟨b, h, _⟩ => by simp at h
theorem inB_app {B : List (Int × Int)} {f k i : Int} : inB (B ++ [(f, k)]) i ↔ inB B i ∨ (f ≤ i ∧ i < f + k) := by
  unfold inB
  constructor
  · rintro ⟨b, hb, h⟩
    rcases List.mem_append.1 hb with hb | hb
    · exact .inl ⟨b, hb, h⟩
    · obtain rfl := List.mem_singleton.1 hb
      exact .inr h
  · rintro (⟨b, hb, h⟩ | h)
    · exact ⟨b, List.mem_append_left _ hb, h⟩
    · exact ⟨(f, k), by simp, h⟩
theorem sgl_len {c : Int} {P : List Int} {B : List (Int × Int)} {n : Nat} : (sgl c P B n).length = n := by simp [sgl]
theorem sgl_0 (c : Int) (n : Nat) : List.replicate n c = sgl c [] [] n := by
  apply List.ext_getElem (by simp [sgl])
  intro i h1 h2
  simp [sgl, sg, inB_nil]
theorem sgl_ext {c c' : Int} {P P' : List Int} {B B' : List (Int × Int)} {n : Nat} (h : ∀ i : Int, 0 ≤ i → i < n → sg c P B i = sg c' P' B' i) : sgl c P B n = sgl c' P' B' n := by
  apply List.ext_getElem (by simp [sgl])
  intro i h1 h2
  have hi : i < n := by simpa [sgl] using h1
  simp only [sgl, List.getElem_map, List.getElem_range]
  exact h i (by omega) (by omega)
theorem sgl_set {c : Int} {P P' : List Int} {B B' : List (Int × Int)} {n : Nat} {j z : Int} (hj : 0 ≤ j) (hz : sg c P' B' j = z) (h : ∀ i : Int, 0 ≤ i → i ≠ j → sg c P B i = sg c P' B' i) : (sgl c P B n).set j.toNat z = sgl c P' B' n := by
  apply List.ext_getElem (by simp [sgl])
  intro i h1 h2
  simp only [sgl, List.getElem_set, List.getElem_map, List.getElem_range]
  split
  · rename_i e
    rw [← hz]
    congr 1
    omega
  · rename_i e
    exact h i (by omega) (by omega)
theorem sgX_pair {c : Int} {n : Nat} {x : List Int} {ps : List (Int × Int)} {i : Int} (h0 : 0 ≤ i) (h1 : i < ps.length) (q : x = sgl c (pX (ps.take i.toNat)) [] n) (hp : 0 ≤ (ps.getD i.toNat (0, 0)).1) : x.set (ps.getD i.toNat (0, 0)).1.toNat 61 = sgl c (pX (ps.take (i + 1).toNat)) [] n := by
  rw [q, take_snoc (0, 0) h0 h1]
  generalize ps.getD i.toNat (0, 0) = p at hp
  have e : pX (ps.take i.toNat ++ [p]) = pX (ps.take i.toNat) ++ [p.1] := by simp [pX]
  rw [e]
  refine sgl_set hp (by unfold sg; rw [if_neg inB_nil, if_pos (by simp)]) fun k _ hk => ?_
  unfold sg
  rw [if_neg inB_nil, if_neg inB_nil]
  simp [hk]
theorem sgY_pair {c : Int} {n : Nat} {x : List Int} {ps : List (Int × Int)} {i : Int} (h0 : 0 ≤ i) (h1 : i < ps.length) (q : x = sgl c (pY (ps.take i.toNat)) [] n) (hp : 0 ≤ (ps.getD i.toNat (0, 0)).2) : x.set (ps.getD i.toNat (0, 0)).2.toNat 61 = sgl c (pY (ps.take (i + 1).toNat)) [] n := by
  rw [q, take_snoc (0, 0) h0 h1]
  generalize ps.getD i.toNat (0, 0) = p at hp
  have e : pY (ps.take i.toNat ++ [p]) = pY (ps.take i.toNat) ++ [p.2] := by simp [pY]
  rw [e]
  refine sgl_set hp (by unfold sg; rw [if_neg inB_nil, if_pos (by simp)]) fun k _ hk => ?_
  unfold sg
  rw [if_neg inB_nil, if_neg inB_nil]
  simp [hk]
theorem sg_zero {c f : Int} {P : List Int} {B : List (Int × Int)} {i : Int} : sg c P (B ++ [(f, 0)]) i = sg c P B i := by
  have : inB (B ++ [(f, 0)]) i ↔ inB B i := by
    rw [inB_app]
    constructor
    · rintro (h | h)
      · exact h
      · omega
    · exact .inl
  unfold sg
  by_cases h : inB B i
  · rw [if_pos h, if_pos (this.2 h)]
  · rw [if_neg h, if_neg (fun h' => h (this.1 h'))]
theorem sgl_zero {c f : Int} {P : List Int} {B : List (Int × Int)} {n : Nat} : sgl c P B n = sgl c P (B ++ [(f, 0)]) n := sgl_ext fun _ _ _ => sg_zero.symm
theorem sgl_blk {c f k : Int} {P : List Int} {B : List (Int × Int)} {n : Nat} (hf : 0 ≤ f) (hk : 0 ≤ k) : (sgl c P (B ++ [(f, k)]) n).set (f + k).toNat 126 = sgl c P (B ++ [(f, k + 1)]) n := by
  refine sgl_set (by omega) (by unfold sg; rw [if_pos (inB_app.2 (.inr (by omega)))]) fun i _ hi => ?_
  have : inB (B ++ [(f, k)]) i ↔ inB (B ++ [(f, k + 1)]) i := by
    rw [inB_app, inB_app]
    constructor
    · rintro (h | h)
      · exact .inl h
      · exact .inr (by omega)
    · rintro (h | h)
      · exact .inl h
      · exact .inr (by omega)
  unfold sg
  by_cases h : inB (B ++ [(f, k)]) i
  · rw [if_pos h, if_pos (this.1 h)]
  · rw [if_neg h, if_neg (fun h' => h (this.2 h'))]
theorem bX_snoc {l : List B3} {i : Int} (h0 : 0 ≤ i) (h1 : i < l.length) : bX (l.take (i + 1).toNat) = bX (l.take i.toNat) ++ [((l.getD i.toNat (0, 0, 0)).1, (l.getD i.toNat (0, 0, 0)).2.2)] := by
  rw [take_snoc (0, 0, 0) h0 h1]; simp [bX]
theorem bY_snoc {l : List B3} {i : Int} (h0 : 0 ≤ i) (h1 : i < l.length) : bY (l.take (i + 1).toNat) = bY (l.take i.toNat) ++ [((l.getD i.toNat (0, 0, 0)).2.1, (l.getD i.toNat (0, 0, 0)).2.2)] := by
  rw [take_snoc (0, 0, 0) h0 h1]; simp [bY]
/-! ### letter by letter -/
theorem sg_init {c i : Int} {ps : List (Int × Int)} : chr c = chr (sg c (pX (ps.take (0 : Int).toNat)) [] i) ∧ chr c = chr (sg c (pY (ps.take (0 : Int).toNat)) [] i) := by
  constructor <;> (unfold sg; rw [if_neg inB_nil]; simp [pX, pY])
theorem sg_pX {c i k : Int} {ps : List (Int × Int)} (h0 : 0 ≤ k) (h1 : k < ps.length) : ((ps.getD k.toNat (0, 0)).1 = i → 61 = sg c (pX (ps.take (k + 1).toNat)) [] i) ∧ (¬ (ps.getD k.toNat (0, 0)).1 = i → sg c (pX (ps.take k.toNat)) [] i = sg c (pX (ps.take (k + 1).toNat)) [] i) := by
  rw [take_snoc (0, 0) h0 h1]
  unfold sg
  rw [if_neg inB_nil, if_neg inB_nil]
  refine ⟨fun h => ?_, fun h => ?_⟩
  · rw [if_pos (by simp only [pX, List.map_append, List.map_cons, List.map_nil, h]; exact List.mem_append_right _ (List.mem_singleton.2 rfl))]
  · have : i ∈ pX (ps.take k.toNat ++ [ps.getD k.toNat (0, 0)]) ↔ i ∈ pX (ps.take k.toNat) := by
      simp only [pX, List.map_append, List.map_cons, List.map_nil, List.mem_append, List.mem_singleton]
      exact or_iff_left fun e => h e.symm
    by_cases h' : i ∈ pX (ps.take k.toNat)
    · rw [if_pos h', if_pos (this.2 h')]
    · rw [if_neg h', if_neg (fun x => h' (this.1 x))]
theorem sg_pY {c i k : Int} {ps : List (Int × Int)} (h0 : 0 ≤ k) (h1 : k < ps.length) : ((ps.getD k.toNat (0, 0)).2 = i → 61 = sg c (pY (ps.take (k + 1).toNat)) [] i) ∧ (¬ (ps.getD k.toNat (0, 0)).2 = i → sg c (pY (ps.take k.toNat)) [] i = sg c (pY (ps.take (k + 1).toNat)) [] i) := by
  rw [take_snoc (0, 0) h0 h1]
  unfold sg
  rw [if_neg inB_nil, if_neg inB_nil]
  refine ⟨fun h => ?_, fun h => ?_⟩
  · rw [if_pos (by simp only [pY, List.map_append, List.map_cons, List.map_nil, h]; exact List.mem_append_right _ (List.mem_singleton.2 rfl))]
  · have : i ∈ pY (ps.take k.toNat ++ [ps.getD k.toNat (0, 0)]) ↔ i ∈ pY (ps.take k.toNat) := by
      simp only [pY, List.map_append, List.map_cons, List.map_nil, List.mem_append, List.mem_singleton]
      exact or_iff_left fun e => h e.symm
    by_cases h' : i ∈ pY (ps.take k.toNat)
    · rw [if_pos h', if_pos (this.2 h')]
    · rw [if_neg h', if_neg (fun x => h' (this.1 x))]
theorem sg_in {c f n i : Int} {P : List Int} {B : List (Int × Int)} : (f ≤ i ∧ i < f + n → 126 = sg c P (B ++ [(f, n)]) i) ∧ (¬ (f ≤ i ∧ i < f + n) → sg c P B i = sg c P (B ++ [(f, n)]) i) := by
  refine ⟨fun h => ?_, fun h => ?_⟩
  · unfold sg; rw [if_pos (inB_app.2 (.inr h))]
  · have : inB (B ++ [(f, n)]) i ↔ inB B i := by rw [inB_app]; exact or_iff_left h
    unfold sg
    by_cases h' : inB B i
    · rw [if_pos h', if_pos (this.2 h')]
    · rw [if_neg h', if_neg (fun x => h' (this.1 x))]
theorem str_snoc {c i : Int} {P : List Int} {B : List (Int × Int)} (h : 0 ≤ i) : strOfNums (sgl c P B i.toNat) ++ chr (sg c P B i) = strOfNums (sgl c P B (i + 1).toNat) := by
  unfold chr
  rw [str_app, show (i + 1).toNat = i.toNat + 1 by omega]
  unfold sgl
  rw [List.range_succ, List.map_append]
  congr 2
  simp [show ((i.toNat : Nat) : Int) = i by omega]
theorem chr_size (z : Int) : (chr z).size = 1 := by unfold chr; rw [str_size]; rfl
def SGX (a b : List Ln) (least : Int) : ByteArray := if FE a b least ≠ 0 then ⟨#[]⟩ else strOfNums (sgl 45 (pX (STY a b)) (bX (FB a b least)) a.length)
def SGY (a b : List Ln) (least : Int) : ByteArray := if FE a b least ≠ 0 then ⟨#[]⟩ else strOfNums (sgl 43 (pY (STY a b)) (bY (FB a b least)) b.length)
/-! ### What was found is good -/
structure GoodL (x y : List Int) (u0 t0 : List Bool) (least : Int) (l : List B3) : Prop where
  blk : ∀ b ∈ l, least ≤ b.2.2 ∧ BOk x y u0 t0 b
  dj : l.Pairwise dsj
  fin : ∃ u t, (∀ i : Int, 0 ≤ i → (hasB u i ↔ hasB u0 i ∨ inB (bX l) i)) ∧ (∀ i : Int, 0 ≤ i → (hasB t i ↔ hasB t0 i ∨ inB (bY l) i)) ∧ (bst x y u t).2.2 < least
theorem dsj_symm {p q : B3} (h : dsj p q) : dsj q p := fun k l h0 h1 h2 h3 => ⟨fun e => (h l k h2 h3 h0 h1).1 e.symm, fun e => (h l k h2 h3 h0 h1).2 e.symm⟩
theorem FND_good {x y : List Int} {u0 t0 : List Bool} {least : Int} (h1 : 1 ≤ least) (hu : u0.length = x.length) (ht : t0.length = y.length) : GoodL x y u0 t0 least (FND x y least u0 t0) ∧ (FND x y least u0 t0).length ≤ x.length := by
  obtain ⟨hg, hb⟩ := fnd_good (least := least) h1 _ u0 t0 [] (Nat.le_refl _) (Good.init hu ht)
  have hp := srt_perm (fnd x y least u0 t0 []).2.2
  have hm : ∀ b, b ∈ FND x y least u0 t0 ↔ b ∈ (fnd x y least u0 t0 []).2.2 := fun b => hp.mem_iff
  refine ⟨⟨fun b h => hg.blk b ((hm b).1 h), ?_, _, _, fun i hi => ?_, fun i hi => ?_, hb⟩, ?_⟩
  · exact (hp.pairwise_iff fun h => dsj_symm h).2 hg.dj
  · rw [hg.mu i hi]
    apply or_congr Iff.rfl
    unfold inB bX
    constructor
    · rintro ⟨b, hb, h⟩
      exact ⟨(b.1, b.2.2), List.mem_map.2 ⟨b, (hm b).2 hb, rfl⟩, h⟩
    · rintro ⟨c, hc, h⟩
      obtain ⟨b, hb, rfl⟩ := List.mem_map.1 hc
      exact ⟨b, (hm b).1 hb, h⟩
  · rw [hg.mt i hi]
    apply or_congr Iff.rfl
    unfold inB bY
    constructor
    · rintro ⟨b, hb, h⟩
      exact ⟨(b.2.1, b.2.2), List.mem_map.2 ⟨b, (hm b).2 hb, rfl⟩, h⟩
    · rintro ⟨c, hc, h⟩
      obtain ⟨b, hb, rfl⟩ := List.mem_map.1 hc
      exact ⟨b, (hm b).1 hb, h⟩
  · have e : (FND x y least u0 t0).length = (fnd x y least u0 t0 []).2.2.length := hp.length_eq
    rw [e]
    have key : ∀ (n : Nat) (u t : List Bool) (out : List B3), u.count false ≤ n → Good x y u0 t0 least u t out → out.length + u.count false ≤ x.length → (fnd x y least u t out).2.2.length ≤ x.length := by
      intro n
      induction n with
      | zero =>
        intro u t out hn h hl
        rw [fnd]
        split
        · rename_i hc; omega
        · simp only; omega
      | succ n ih =>
        intro u t out hn h hl
        rw [fnd]
        split
        · rename_i hc
          refine ih _ _ _ (by omega) (h.step h1 hc.1) ?_
          rw [List.length_append]
          simp only [List.length_cons, List.length_nil]
          omega
        · simp only; omega
    refine key _ u0 t0 [] (Nat.le_refl _) (Good.init hu ht) ?_
    have := List.count_le_length (a := false) (l := u0)
    simp only [List.length_nil]
    omega
theorem usd_len {n : Nat} : ∀ {ps : List (Int × Int)}, (∀ p ∈ ps, 0 ≤ p.1 ∧ p.1 < n) → (usd n ps).length = n := by
  intro ps
  unfold usd
  have : ∀ (ps : List (Int × Int)) (u : List Bool), u.length = n → (∀ p ∈ ps, 0 ≤ p.1 ∧ p.1 < n) → (ps.foldl (fun u p => mrk u p.1 1) u).length = n := by
    intro ps
    induction ps with
    | nil => intro u h _; exact h
    | cons p ps ih =>
      intro u h hp
      have h0 := hp p (by simp)
      rw [List.foldl_cons]
      exact ih _ ((mrk_len h0.1 (by omega) (by omega)).trans h) fun q hq => hp q (by simp [hq])
  exact this ps _ (by simp)
theorem tkn_len {n : Nat} {ps : List (Int × Int)} : (∀ p ∈ ps, 0 ≤ p.2 ∧ p.2 < n) → (tkn n ps).length = n := by
  unfold tkn
  have : ∀ (ps : List (Int × Int)) (u : List Bool), u.length = n → (∀ p ∈ ps, 0 ≤ p.2 ∧ p.2 < n) → (ps.foldl (fun u p => mrk u p.2 1) u).length = n := by
    intro ps
    induction ps with
    | nil => intro u h _; exact h
    | cons p ps ih =>
      intro u h hp
      have h0 := hp p (by simp)
      rw [List.foldl_cons]
      exact ih _ ((mrk_len h0.1 (by omega) (by omega)).trans h) fun q hq => hp q (by simp [hq])
  exact this ps _ (by simp)
theorem STY_mem {a b : List Ln} (ha : a.length ≤ 400) (hb : b.length ≤ 400) : ∀ p ∈ STY a b, 0 ≤ p.1 ∧ p.1 < a.length ∧ 0 ≤ p.2 ∧ p.2 < b.length := fun p hp => by
  obtain ⟨i, hi, rfl⟩ := List.getElem_of_mem hp
  have := STY_ok ha hb (t := (i : Int)) (by omega) (by omega)
  simpa [List.getD, hi] using this
theorem STE_z {a b : List Ln} (ha : a.length ≤ 400) (hb : b.length ≤ 400) : STE a b = 0 := if_neg (by omega)
theorem FE_z {a b : List Ln} {least : Int} (ha : a.length ≤ 400) (hb : b.length ≤ 400) (h1 : 1 ≤ least) (h2 : least ≤ 400) : FE a b least = 0 := by
  unfold FE
  rw [STE_z ha hb, if_neg (by omega), if_neg (by omega)]
theorem FB_good {a b : List Ln} {least : Int} (ha : a.length ≤ 400) (hb : b.length ≤ 400) (h1 : 1 ≤ least) (h2 : least ≤ 400) : GoodL (NA a) (NB a b) (usd a.length (STY a b)) (tkn b.length (STY a b)) least (FB a b least) ∧ (FB a b least).length ≤ a.length := by
  have l1 := NA_len a
  have l2 := NB_len a b
  have hm := STY_mem ha hb
  have := FND_good (x := NA a) (y := NB a b) (least := least) h1 ((usd_len fun p hp => ⟨(hm p hp).1, (hm p hp).2.1⟩).trans l1.symm) ((tkn_len fun p hp => ⟨(hm p hp).2.2.1, (hm p hp).2.2.2⟩).trans l2.symm)
  unfold FB
  rw [STE_z ha hb, if_neg (by omega)]
  rw [l1] at this
  exact this
theorem FB_at {a b : List Ln} {least : Int} (ha : a.length ≤ 400) (hb : b.length ≤ 400) (h1 : 1 ≤ least) (h2 : least ≤ 400) {t : Int} (h0 : 0 ≤ t) (ht : t < (FB a b least).length) :
    least ≤ ((FB a b least).getD t.toNat (0, 0, 0)).2.2 ∧ BOk (NA a) (NB a b) (usd a.length (STY a b)) (tkn b.length (STY a b)) ((FB a b least).getD t.toNat (0, 0, 0)) := by
  have hlt : t.toNat < (FB a b least).length := by omega
  refine (FB_good ha hb h1 h2).1.blk _ ?_
  simp only [List.getD, hlt, List.getElem?_eq_getElem, Option.getD_some]
  exact List.getElem_mem hlt
/-! ### The laws' marks -/
def MK (u u0 : List Bool) (B : List (Int × Int)) : Prop := ∀ i : Int, 0 ≤ i → (hasB u i ↔ hasB u0 i ∨ inB B i)
theorem MK_0 {u : List Bool} : MK u u [] := fun i _ => ⟨.inl, fun h => h.elim id fun h => absurd h inB_nil⟩
theorem MK_zero {u u0 : List Bool} {B : List (Int × Int)} {f : Int} (h : MK u u0 B) : MK u u0 (B ++ [(f, 0)]) := fun i hi => by
  rw [h i hi, inB_app]
  constructor
  · rintro (h | h)
    · exact .inl h
    · exact .inr (.inl h)
  · rintro (h | h | h)
    · exact .inl h
    · exact .inr h
    · omega
theorem MK_set {u u0 : List Bool} {B : List (Int × Int)} {f k : Int} (h : MK u u0 (B ++ [(f, k)])) (hf : 0 ≤ f) (hk : 0 ≤ k) (hl : f + k < u.length) : MK (u.set (f + k).toNat true) u0 (B ++ [(f, k + 1)]) := fun i hi => by
  rw [hasB_set (by omega) hl hi, h i hi, inB_app, inB_app]
  constructor
  · rintro (h | h | h | h)
    · exact .inr (.inr (by omega))
    · exact .inl h
    · exact .inr (.inl h)
    · exact .inr (.inr (by omega))
  · rintro (h | h | h)
    · exact .inr (.inl h)
    · exact .inr (.inr (.inl h))
    · by_cases e : i = f + k
      · exact .inl e
      · exact .inr (.inr (.inr (by omega)))
section
variable {x y : List Int} {u0 t0 u t : List Bool} {least : Int} {l : List B3}
theorem MK_newX (h : GoodL x y u0 t0 least l) {i k : Int} (h0 : 0 ≤ i) (h1 : i < l.length) (k0 : 0 ≤ k) (k1 : k < (l.getD i.toNat (0, 0, 0)).2.2) (hm : MK u u0 (bX (l.take i.toNat) ++ [((l.getD i.toNat (0, 0, 0)).1, k)])) : ¬ hasB u ((l.getD i.toNat (0, 0, 0)).1 + k) := by
  have hlt : i.toNat < l.length := by omega
  have e : l.getD i.toNat (0, 0, 0) = l[i.toNat] := by simp [List.getD, hlt]
  rw [e] at hm k1 ⊢
  have hb := (h.blk l[i.toNat] (List.getElem_mem hlt)).2
  have := hb.f0
  intro hh
  rcases (hm _ (by omega)).1 hh with h2 | h2
  · exact (hb.ok k k0 k1).2.2.2.1 h2
  · rcases inB_app.1 h2 with ⟨c, hc, h3⟩ | h3
    · obtain ⟨d, hd, rfl⟩ := List.mem_map.1 hc
      obtain ⟨j, hj, rfl⟩ := List.getElem_of_mem hd
      have hj2 : j < i.toNat := by rw [List.length_take] at hj; omega
      simp only [List.getElem_take] at h3
      have := (List.pairwise_iff_getElem.1 h.dj j i.toNat (by omega) hlt hj2 (l[i.toNat].1 + k - l[j].1) k (by omega) (by omega) k0 k1).1
      omega
    · omega
theorem MK_newY (h : GoodL x y u0 t0 least l) {i k : Int} (h0 : 0 ≤ i) (h1 : i < l.length) (k0 : 0 ≤ k) (k1 : k < (l.getD i.toNat (0, 0, 0)).2.2) (hm : MK t t0 (bY (l.take i.toNat) ++ [((l.getD i.toNat (0, 0, 0)).2.1, k)])) : ¬ hasB t ((l.getD i.toNat (0, 0, 0)).2.1 + k) := by
  have hlt : i.toNat < l.length := by omega
  have e : l.getD i.toNat (0, 0, 0) = l[i.toNat] := by simp [List.getD, hlt]
  rw [e] at hm k1 ⊢
  have hb := (h.blk l[i.toNat] (List.getElem_mem hlt)).2
  have := hb.t0
  intro hh
  rcases (hm _ (by omega)).1 hh with h2 | h2
  · exact (hb.ok k k0 k1).2.2.2.2 h2
  · rcases inB_app.1 h2 with ⟨c, hc, h3⟩ | h3
    · obtain ⟨d, hd, rfl⟩ := List.mem_map.1 hc
      obtain ⟨j, hj, rfl⟩ := List.getElem_of_mem hd
      have hj2 : j < i.toNat := by rw [List.length_take] at hj; omega
      simp only [List.getElem_take] at h3
      have := (List.pairwise_iff_getElem.1 h.dj j i.toNat (by omega) hlt hj2 (l[i.toNat].2.1 + k - l[j].2.1) k (by omega) (by omega) k0 k1).2
      omega
    · omega
theorem MK_fin (h : GoodL x y u0 t0 least l) (hu : MK u u0 (bX l)) (ht : MK t t0 (bY l)) {i j : Int} (h0 : 0 ≤ i) (h1 : i < x.length) (h2 : 0 ≤ j) (h3 : j < y.length) : ¬ grw x y u t i j ≥ least := by
  obtain ⟨uF, tF, e1, e2, e3⟩ := h.fin
  rw [grw_congr (u' := uF) (t' := tF) h0 h2 (fun k hk => (hu k hk).trans (e1 k hk).symm) (fun k hk => (ht k hk).trans (e2 k hk).symm)]
  have := bst_max (x := x) (y := y) (u := uF) (t := tF) h0 h1 h2 h3
  omega
end
theorem line_eq {a b : List Ln} {i j : Int} (h0 : 0 ≤ i) (h1 : i < a.length) (h2 : 0 ≤ j) (h3 : j < b.length) (h : gI (NA a) i = gI (NB a b) j) : a.getD i.toNat lnD = b.getD j.toNat lnD := by
  have hi : i.toNat < a.length := by omega
  have hj : j.toNat < b.length := by omega
  rw [NA_phi a b, NB_phi a b] at h
  simp only [gI, List.getD, List.getElem?_map, List.getElem?_eq_getElem hi, List.getElem?_eq_getElem hj, Option.map_some, Option.getD_some] at h ⊢
  exact phi_inj (.inl (List.getElem_mem hi)) (.inr (List.getElem_mem hj)) h
/-! ### Of a text and itself -/
theorem NB_self (a : List Ln) : NB a a = NA a := by rw [NA_phi a a, NB_phi a a]
theorem Prs_self {x : List Int} (hx : x.length ≤ 400) {k : Nat} (hk : k < x.length) : ∃ h : k < (Prs x x).length, (Prs x x)[k].1 = k ∧ (Prs x x)[k].2 = k := by
  have hd := metric0 x x hx hx
  have hd0 : Dst x x = 0 := by simpa using hd
  have hl := Prs_len hx hx
  have hlen : (Prs x x).length = x.length := by omega
  have hok := fun (t : Nat) (ht : t < x.length) => Prs_ok (a := x) (b := x) hx hx (t := (t : Int)) (by omega) (by omega)
  have hg : ∀ t : Nat, (ht : t < x.length) → (Prs x x).getD ((t : Int)).toNat (0, 0) = (Prs x x)[t] := fun t ht => by simp [List.getD, hlen, ht]
  have lo : ∀ t : Nat, (ht : t < x.length) → (t : Int) ≤ (Prs x x)[t].1 ∧ (t : Int) ≤ (Prs x x)[t].2 := by
    intro t
    induction t with
    | zero =>
      intro ht
      have := hok 0 ht
      rw [hg 0 ht] at this
      exact ⟨this.1, this.2.2.1⟩
    | succ n ih =>
      intro ht
      have h1 := ih (by omega)
      have := (hok (n + 1) ht).2.2.2.2.2 (by omega)
      rw [hg (n + 1) ht, show ((n + 1 : Nat) : Int) - 1 = (n : Int) by omega, hg n (by omega)] at this
      omega
  have hi : ∀ m t : Nat, (ht : t < x.length) → x.length - 1 - t ≤ m → (Prs x x)[t].1 ≤ t ∧ (Prs x x)[t].2 ≤ t := by
    intro m
    induction m with
    | zero =>
      intro t ht hm
      have := hok t ht
      rw [hg t ht] at this
      omega
    | succ n ih =>
      intro t ht hm
      by_cases e : t + 1 < x.length
      · have h1 := ih (t + 1) e (by omega)
        have := (hok (t + 1) e).2.2.2.2.2 (by omega)
        rw [hg (t + 1) e, show ((t + 1 : Nat) : Int) - 1 = (t : Int) by omega, hg t ht] at this
        omega
      · have := hok t ht
        rw [hg t ht] at this
        omega
  have h1 := lo k hk
  have h2 := hi (x.length - 1 - k) k hk (Nat.le_refl _)
  exact ⟨by omega, by omega, by omega⟩
theorem usd_has {n : Nat} {i : Int} (hi : 0 ≤ i) : ∀ {ps : List (Int × Int)}, (∀ p ∈ ps, 0 ≤ p.1 ∧ p.1 < n) → (∃ p ∈ ps, p.1 = i) → hasB (usd n ps) i := by
  intro ps
  unfold usd
  have : ∀ (ps : List (Int × Int)) (u : List Bool), u.length = n → (∀ p ∈ ps, 0 ≤ p.1 ∧ p.1 < n) → (hasB u i ∨ ∃ p ∈ ps, p.1 = i) → hasB (ps.foldl (fun u p => mrk u p.1 1) u) i := by
    intro ps
    induction ps with
    | nil =>
      intro u h _ hh
      rcases hh with hh | ⟨p, hp, _⟩
      · exact hh
      · simp at hp
    | cons p ps ih =>
      intro u h hp hh
      have h0 := hp p (by simp)
      rw [List.foldl_cons]
      refine ih _ ((mrk_len h0.1 (by omega) (by omega)).trans h) (fun q hq => hp q (by simp [hq])) ?_
      rcases hh with hh | ⟨q, hq, e⟩
      · exact .inl ((hasB_mrk h0.1 (by omega) (by omega) hi).2 (.inl hh))
      · rcases List.mem_cons.1 hq with rfl | hq
        · exact .inl ((hasB_mrk h0.1 (by omega) (by omega) hi).2 (.inr (by omega)))
        · exact .inr ⟨q, hq, e⟩
  exact fun hp hh => this ps _ (by simp) hp (.inr hh)
theorem FB_self {a : List Ln} {least : Int} (ha : a.length ≤ 400) (h1 : 1 ≤ least) : FB a a least = [] := by
  unfold FB
  rw [STE_z ha ha]
  by_cases h : least > 400
  · rw [if_pos (.inr (.inr h))]
  · rw [if_neg (by omega)]
    have l1 := NA_len a
    have hm := STY_mem ha ha
    have hs : ¬ 1 ≤ (bst (NA a) (NB a a) (usd a.length (STY a a)) (tkn a.length (STY a a))).2.2 := fun hb => by
      have hk := bst_ok hb
      have h2 := hk.ok 0 (Int.le_refl _) (by omega)
      rw [Int.add_zero, Int.add_zero] at h2
      refine h2.2.2.2.1 (usd_has hk.f0 (fun p hp => ⟨(hm p hp).1, (hm p hp).2.1⟩) ?_)
      have f0 := hk.f0
      have hz : (bst (NA a) (NB a a) (usd a.length (STY a a)) (tkn a.length (STY a a))).1 < (NA a).length := by have := hk.f1; omega
      generalize (bst (NA a) (NB a a) (usd a.length (STY a a)) (tkn a.length (STY a a))).1 = z at f0 hz ⊢
      have e : STY a a = Prs (NA a) (NA a) := by unfold STY; rw [if_neg (by omega), NB_self]
      rw [e]
      obtain ⟨k1, k2, _⟩ := Prs_self (x := NA a) (by omega) (k := z.toNat) (by omega)
      exact ⟨_, List.getElem_mem k1, by rw [k2]; omega⟩
    unfold FND
    rw [fnd_stop rfl (by omega)]
    rfl
theorem dist_ren {f g : Ln → Int} : ∀ (n : Nat) (a b : List Ln), a.length + b.length ≤ n → (∀ x ∈ a, ∀ y ∈ b, (f x = f y ↔ g x = g y)) → dist (a.map f) (b.map f) = dist (a.map g) (b.map g) := by
  intro n
  induction n with
  | zero =>
    intro a b hn _
    obtain rfl : a = [] := List.eq_nil_of_length_eq_zero (by omega)
    obtain rfl : b = [] := List.eq_nil_of_length_eq_zero (by omega)
    rfl
  | succ n ih =>
    intro a b hn h
    cases a with
    | nil => cases b <;> simp [dist]
    | cons x a =>
      cases b with
      | nil => simp [dist]
      | cons y b =>
        simp only [List.length_cons] at hn
        have h1 := ih a b (by omega) fun p hp q hq => h p (by simp [hp]) q (by simp [hq])
        have h2 := ih a (y :: b) (by simp only [List.length_cons]; omega) fun p hp q hq => h p (by simp [hp]) q hq
        have h3 := ih (x :: a) b (by simp only [List.length_cons]; omega) fun p hp q hq => h p hp q (by simp [hq])
        have h4 := h x (by simp) y (by simp)
        simp only [List.map_cons] at h2 h3 ⊢
        unfold dist
        by_cases e : f x = f y
        · rw [if_pos e, if_pos (h4.1 e), h1]
        · rw [if_neg e, if_neg (fun e' => e (h4.2 e')), h2, h3]
theorem STY_comm {a b : List Ln} (ha : a.length ≤ 400) (hb : b.length ≤ 400) : (STY a b).length = (STY b a).length := by
  have l1 := NA_len a
  have l2 := NB_len a b
  have l3 := NA_len b
  have l4 := NB_len b a
  unfold STY
  rw [if_neg (by omega), if_neg (by omega)]
  have p1 := Prs_len (a := NA a) (b := NB a b) (by omega) (by omega)
  have p2 := Prs_len (a := NB b a) (b := NA b) (by omega) (by omega)
  have p3 := Prs_comm (a := NA b) (b := NB b a) (by omega) (by omega)
  have : Dst (NA a) (NB a b) = Dst (NB b a) (NA b) := by
    rw [Dst_small (by omega) (by omega), Dst_small (by omega) (by omega), NA_phi a b, NB_phi a b, NA_phi b a, NB_phi b a]
    rw [dist_ren (f := phi (kvAB a b)) (g := phi (kvAB b a)) _ a b (Nat.le_refl _)]
    intro x hx y hy
    constructor
    · intro e; rw [phi_inj (.inl hx) (.inr hy) e]
    · intro e; rw [phi_inj (.inr hx) (.inl hy) e]
  omega
end Go.Mov
namespace Go.Mov
open Go Go.Gv Go.Itn Go.Scr Go.Mys Go.Num
theorem FE_0 {a b : List Ln} {least : Int} (h : ¬ FE a b least ≠ 0) : a.length ≤ 400 ∧ b.length ≤ 400 ∧ 1 ≤ least ∧ least ≤ 400 := by
  unfold FE at h
  by_cases e : STE a b ≠ 0
  · rw [if_pos e] at h; exact absurd e h
  · rw [if_neg e] at h
    have := STE_0 e
    by_cases e2 : least < 1 ∨ least > 400
    · rw [if_pos e2] at h; omega
    · omega
theorem FE_long {a b : List Ln} {least : Int} (h : a.length > 400) : FE a b least = 4 := by
  unfold FE
  have : STE a b = 4 := if_pos (.inl h)
  rw [this, if_pos (by decide)]
theorem SGX_size {a b : List Ln} {least : Int} (h : FE a b least = 0) : (SGX a b least).size = a.length := by
  unfold SGX
  rw [if_neg (by omega), str_size, sgl_len]
theorem SGY_size {a b : List Ln} {least : Int} (h : FE a b least = 0) : (SGY a b least).size = b.length := by
  unfold SGY
  rw [if_neg (by omega), str_size, sgl_len]
theorem lit45 : (⟨#[45]⟩ : ByteArray) = chr 45 := rfl
theorem lit43 : (⟨#[43]⟩ : ByteArray) = chr 43 := rfl
theorem lit61 : (⟨#[61]⟩ : ByteArray) = chr 61 := rfl
theorem lit126 : (⟨#[126]⟩ : ByteArray) = chr 126 := rfl
abbrev LV1 : List Ln := [(⟨#[49]⟩, false), (⟨#[50]⟩, false), (⟨#[51]⟩, false), (⟨#[52]⟩, false)]
abbrev LV2 : List Ln := [(⟨#[51]⟩, false), (⟨#[52]⟩, false), (⟨#[49]⟩, false), (⟨#[50]⟩, false)]
theorem live37 : FB LV1 LV2 2 = [(0, 2, 2)] := by
  have e1 : NA LV1 = [0, 1, 2, 3] := by decide +kernel
  have e2 : NB LV1 LV2 = [2, 3, 0, 1] := by decide +kernel
  have e3 : STY LV1 LV2 = [(2, 0), (3, 1)] := by
    unfold STY
    rw [if_neg (by decide), e1, e2]
    simp [Prs, way, dist, prs]
  have e4 : usd 4 [(2, 0), (3, 1)] = [false, false, true, true] := by decide +kernel
  have e5 : tkn 4 [(2, 0), (3, 1)] = [true, true, false, false] := by decide +kernel
  have h1 : ((0, 2, 2) : B3) = bst [0, 1, 2, 3] [2, 3, 0, 1] [false, false, true, true] [true, true, false, false] := by decide +kernel
  have q1 := fnd_more (least := 2) (out := []) h1 (by decide) (by decide) rfl
  have h2 : ((0, 0, 0) : B3) = bst [0, 1, 2, 3] [2, 3, 0, 1] (mrk [false, false, true, true] 0 2) (mrk [true, true, false, false] 2 2) := by decide +kernel
  have q2 := fnd_stop (least := 2) (out := [] ++ [((0, 2, 2) : B3)]) h2 (by decide)
  unfold FB
  rw [if_neg (by rw [STE_z (by decide) (by decide)]; decide), e1, e2, e3]
  show FND _ _ _ (usd 4 _) (tkn 4 _) = _
  rw [e4, e5]
  unfold FND
  rw [← q1]
  show srt (fnd _ _ _ (mrk _ 0 2) (mrk _ 2 2) _).2.2 = _
  rw [q2]
  rfl
end Go.Mov
