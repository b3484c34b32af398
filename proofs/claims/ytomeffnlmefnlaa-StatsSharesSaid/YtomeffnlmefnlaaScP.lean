/- Scripts made of texts, plain. -/
import Derived.Test.YtomeffnlmefnlaaScA
import Derived.Test.YtomeffnlmefnlaaGvX
import Derived.Test.YtomeffnlmefnlaaMyL
namespace Go.Gv
open Go
section
variable {P : Program} {f : Env} {w : World} {d : Option Tmp} {ty : TypeId} {ps : String} {af : Array Edge} {gd : Option (Nat × Bool)} {w0 : World} {S : Nat → Prop} {L : List Ent}
theorem map_set_fst {α β : Type} {l : List (α × β)} {i : Nat} {x : β} [Inhabited α] [Inhabited β] (h : i < l.length) : (l.set i ((l.getD i default).1, x)).map (·.1) = l.map (·.1) := by
  apply List.ext_getElem (by simp)
  intro j h1 h2
  simp only [List.getElem_map, List.getElem_set]
  split
  · subst_vars; simp [List.getD, h]
  · rfl
/-- A store into an inner row. -/
theorem XSE.nest1 {ρ α : Type} [Inhabited ρ] {sv : ρ → SV} {E : El α} {E2 : El ρ} {T T1 e2 : TypeId} {x y : Operand} {A : Addr} {v2 : Value} {n c o : Nat} {i j : Int} {v : Value} {rows : List (ρ × List α)} {k : α} (x2 : α)
    (h : SH w0 S w (insE sv E T1 rows :: rowE E2 e2 v2 (rows.map (·.1)) :: L)) (hi0 : 0 ≤ i) (hi1 : i < rows.length) (hv0 : (sv (rows.getD i.toNat default).1).v = .slice (some A) n c) (h0 : 0 ≤ j) (h1 : j < (rows.getD i.toNat default).2.length) (ho : o < E.sz)
    (hz : (P.info? T).map (·.size) = some 1) (hv : v.oneCell' = true) (hx : ev f x = some (.pointer (some ((A.add (j.toNat * E.sz)).add o)))) (hy : ev f y = some v) (he : E.enc x2 = (E.enc ((rows.getD i.toNat default).2.getD j.toNat k)).set o v) :
    XSE P ⟨d, .store T x y, ty, ps, af, gd⟩ f w (fun w' => SH w0 S w' (insE sv E T1 (rows.set i.toNat ((rows.getD i.toNat default).1, (rows.getD i.toNat default).2.set j.toNat x2)) :: rowE E2 e2 v2 ((rows.set i.toNat ((rows.getD i.toNat default).1, (rows.getD i.toNat default).2.set j.toNat x2)).map (·.1)) :: L) ∧
      KB (· ∈ Value.keys (sv (rows.getD i.toNat default).1).v) w w') := by
  have hlt : i.toNat < rows.length := by omega
  rw [map_set_fst hlt]
  have h2 := SH.insAt h hlt
  obtain ⟨w', q1, q2, q3⟩ := XSE.row1 (d := d) (ty := ty) (ps := ps) (af := af) (gd := gd) x2 h2 hv0 h0 h1 ho hz hv hx hy he
  refine ⟨w', q1, ?_, q3⟩
  have h3 := SH.insIn (sv := sv) (r := (rows.getD i.toNat default).1) rfl q2
  rw [List.set_eq_take_append_cons_drop, if_pos hlt]
  exact h3
theorem set_lens {α : Type} {rows : List (ED × List α)} {i : Nat} {j : Nat} {x : α} (t : Nat) : ((rows.set i ((rows.getD i default).1, (rows.getD i default).2.set j x)).getD t default).2.length = (rows.getD t default).2.length := by
  rcases Nat.lt_or_ge i rows.length with h | h
  · by_cases e : i = t
    · subst e; simp [List.getD, h]
    · simp [List.getD, e]
  · rw [List.set_eq_of_length_le h]
end
end Go.Gv
namespace Go.Num
open Go.Gv
/-- Keys in a row, each with its place. -/
def zipO (o : Int) : List Ln → KV
  | [] => []
  | x :: l => (x, o) :: zipO (o + 1) l
theorem zipO_len (o : Int) (l : List Ln) : (zipO o l).length = l.length := by
  induction l generalizing o with
  | nil => rfl
  | cons x l ih => simp [zipO, ih]
theorem zipO_snoc (o : Int) (l : List Ln) (x : Ln) : zipO o (l ++ [x]) = zipO o l ++ [(x, o + l.length)] := by
  induction l generalizing o with
  | nil => simp [zipO]
  | cons y l ih => simp only [List.cons_append, zipO, ih, List.length_cons]; rw [show o + 1 + (l.length : Int) = o + ((l.length + 1 : Nat) : Int) by omega]
theorem look_zip {l : List Ln} {x : Ln} {n : Nat} (o : Int) (h0 : ∀ t : Nat, t < n → l.getD t lnD ≠ x) (hn : n ≤ l.length) (h1 : n < l.length → l.getD n lnD = x) : lookL (zipO o l) x = if n = l.length then none else some (o + n) := by
  induction l generalizing o n with
  | nil => simp at hn; subst hn; rfl
  | cons y l ih =>
    cases n with
    | zero =>
      have := h1 (by simp)
      simp at this
      subst this
      simp [zipO, lookL]
    | succ n =>
      have hy : y ≠ x := by have := h0 0 (by omega); simpa using this
      have := ih (n := n) (o + 1) (fun t ht => by have := h0 (t + 1) (by omega); simpa using this) (by simpa using hn) (fun h => by have := h1 (by simpa using h); simpa using this)
      rw [zipO, lookL, if_neg hy, this]
      by_cases e : n = l.length
      · rw [if_pos e, if_pos (by simp [e])]
      · rw [if_neg e, if_neg (by simpa using e)]
        congr 1; omega
theorem zip_nn {l : List Ln} {x : Ln} {n : Int} (h0 : ∀ t : Int, 0 ≤ t → t < n → ¬ (l.getD t.toNat lnD = x)) (hz : 0 ≤ n) (hn : n ≤ l.length) (h1 : n < l.length → l.getD n.toNat lnD = x) :
    nn (zipO 0 l) x = n ∧ nk (zipO 0 l) x = zipO 0 (if n = l.length then l ++ [x] else l) := by
  have h := look_zip (l := l) (x := x) (n := n.toNat) 0 (fun t ht => h0 t (by omega) (by omega)) (by omega) (fun h => h1 (by omega))
  unfold nn nk
  rw [h, zipO_len]
  by_cases e : n = l.length
  · rw [if_pos (by omega), if_pos e]
    refine ⟨by simp; omega, ?_⟩
    rw [if_neg (by simp), updL_new (by rw [h, if_pos (by omega)]), zipO_snoc]; simp
  · rw [if_neg (by omega), if_neg e]
    refine ⟨by simp; omega, by simp⟩
section
variable {kv : KV} {known row l : List Ln} {j n : Int} {r : List Int}
/-- A number more: what is known, and the row. -/
theorem rn_step (h0 : 0 ≤ j) (h1 : j < l.length) (e : zipO 0 known = nkv kv (l.take j.toNat)) (er : r = nnum kv (l.take j.toNat)) (hn0 : ∀ t : Int, 0 ≤ t → t < n → ¬ (known.getD t.toNat lnD = l.getD j.toNat lnD)) (hz : 0 ≤ n) (hn : n ≤ known.length) (hn1 : n < known.length → known.getD n.toNat lnD = l.getD j.toNat lnD) :
    zipO 0 (if n = known.length then known ++ [l.getD j.toNat lnD] else known) = nkv kv (l.take (j + 1).toNat) ∧ r ++ [n] = nnum kv (l.take (j + 1).toNat) := by
  obtain ⟨h2, h3⟩ := zip_nn hn0 hz hn hn1
  rw [take_more lnD h0 h1, nkv_snoc, nnum_snoc, ← e, ← er, h2, h3]
  exact ⟨rfl, rfl⟩
theorem nkvs_two (a b : List Ln) : nnums [] [a, b] = [nnum [] a, nnum (nkv [] a) b] := rfl
end
theorem map_two {α : Type} {rows : List (α × List Int)} [Inhabited α] {x y : List Int} (h : rows.map (·.2) = [x, y]) : rows.length = 2 ∧ (rows.getD 0 default).2 = x ∧ (rows.getD 1 default).2 = y := by
  match rows with
  | [] => simp at h
  | [p] => simp at h
  | [p, q] => simp at h; simp [h]
  | p :: q :: r :: l => simp at h
end Go.Num
namespace Go.Scr
open Go Go.Gv Go.Num Go.Mys
/-- The edits of steps. -/
def mkE (a b : List Ln) : List Int → Int → Int → List Ed
  | [], _, _ => []
  | s :: l, i, j => if s = 3 then (3, [b.getD j.toNat lnD]) :: mkE a b l i (j + 1) else (s, [a.getD i.toNat lnD]) :: mkE a b l (i + 1) (if s = 1 then j + 1 else j)
def NA (a : List Ln) : List Int := nnum [] a
def NB (a b : List Ln) : List Int := nnum (nkv [] a) b
def rawM (a b : List Ln) : List Ed := mkE a b (Stp (NA a) (NB a b)) 0 0
def MKS (a b : List Ln) : List Ed := if a.length > 400 ∨ b.length > 400 then [] else normP (rawM a b)
def MKE (a b : List Ln) : Int := if a.length > 400 ∨ b.length > 400 then 4 else 0
theorem NA_len (a : List Ln) : (NA a).length = a.length := nnum_length _ _
theorem NB_len (a b : List Ln) : (NB a b).length = b.length := nnum_length _ _
theorem mkE_length (a b : List Ln) (s : List Int) (i j : Int) : (mkE a b s i j).length = s.length := by
  induction s generalizing i j with
  | nil => rfl
  | cons x s ih => unfold mkE; split <;> simp [ih]
theorem mkE_tot (a b : List Ln) (s : List Int) (i j : Int) : tot (mkE a b s i j) = s.length := by
  induction s generalizing i j with
  | nil => rfl
  | cons x s ih =>
    have := ih
    unfold tot at this
    unfold mkE
    split <;> simp [tot, this] <;> omega
theorem one_cut {l : List Ln} {i : Int} (h0 : 0 ≤ i) (h1 : i < l.length) : (l.take (i + 1).toNat).drop i.toNat = [l.getD i.toNat lnD] := by
  rw [take_more lnD h0 h1, List.drop_append, List.drop_of_length_le (by simp; omega), List.length_take, show i.toNat - min i.toNat l.length = 0 by omega]
  rfl
section
variable {a b : List Ln} {st : List Int} {k i j x : Int} {out : List (ED × List Ln)} {sv : SV}
theorem mk_in (h0 : 0 ≤ k) (hk : k < st.length) (hx : gI st k = x) (h3 : x = 3) (_ : 0 ≤ j) (_ : j < b.length) (h : scr out ++ mkE a b (st.drop k.toNat) i j = mkE a b st 0 0) :
    scr (out ++ [((x, sv), [b.getD j.toNat lnD])]) ++ mkE a b (st.drop (k + 1).toNat) i (j + 1) = mkE a b st 0 0 := by
  subst h3
  rw [← h, drop_cons st h0 hk, hx, scr_snoc, mkE, if_pos rfl]; simp
theorem mk_no (h0 : 0 ≤ k) (hk : k < st.length) (hx : gI st k = x) (h3 : x ≠ 3) (_ : 0 ≤ i) (_ : i < a.length) (h : scr out ++ mkE a b (st.drop k.toNat) i j = mkE a b st 0 0) :
    scr (out ++ [((x, sv), [a.getD i.toNat lnD])]) ++ mkE a b (st.drop (k + 1).toNat) (i + 1) (if x = 1 then j + 1 else j) = mkE a b st 0 0 := by
  rw [← h, drop_cons st h0 hk, hx, scr_snoc, mkE, if_neg h3]; simp
theorem mk_keep (h0 : 0 ≤ k) (hk : k < st.length) (hx : gI st k = x) (h1 : x = 1) (hi0 : 0 ≤ i) (hi : i < a.length) (h : scr out ++ mkE a b (st.drop k.toNat) i j = mkE a b st 0 0) :
    scr (out ++ [((x, sv), [a.getD i.toNat lnD])]) ++ mkE a b (st.drop (k + 1).toNat) (i + 1) (j + 1) = mkE a b st 0 0 := by
  have := mk_no (sv := sv) h0 hk hx (by omega) hi0 hi h; rwa [if_pos h1] at this
theorem mk_out (h0 : 0 ≤ k) (hk : k < st.length) (hx : gI st k = x) (h3 : x ≠ 3) (h1 : x ≠ 1) (hi0 : 0 ≤ i) (hi : i < a.length) (h : scr out ++ mkE a b (st.drop k.toNat) i j = mkE a b st 0 0) :
    scr (out ++ [((x, sv), [a.getD i.toNat lnD])]) ++ mkE a b (st.drop (k + 1).toNat) (i + 1) j = mkE a b st 0 0 := by
  have := mk_no (sv := sv) h0 hk hx h3 hi0 hi h; rwa [if_neg h1] at this
theorem mk_fin (hk : (st.length : Int) ≤ k) (h : scr out ++ mkE a b (st.drop k.toNat) i j = mkE a b st 0 0) : scr out = mkE a b st 0 0 := by
  rw [List.drop_of_length_le (by omega)] at h; simpa [mkE] using h
end
end Go.Scr
