/- Texts compared; a row's end set to nothing; texts sorted by the library. -/
import Derived.Test.YtigbphaimbhgjaaGreatMg9
import Derived.Laws.CopyRow
namespace Go.Gv
open Go Go.RowKit Go.Idx
section
variable {P : Program} {f : Env} {w : World} {d : Option Tmp} {ty : TypeId} {ps : String} {af : Array Edge} {gd : Option (Nat × Bool)} {w0 : World} {S : Nat → Prop} {L : List Ent}
/-- 'clear' of a row's end. -/
theorem XE.clearCut {α : Type} {E : El α} {t e : TypeId} {z : Value} {bytes : Nat} {A : Option Addr} {n c i : Nat} {xs : List α} {x : Operand} (dd : α) (hE0 : 0 < E.sz) (h : SH w0 S w (rowE E e (.slice A n c) xs :: L)) (ht : P.underlying t = some (.slice e)) (hi : TI P e z E.sz bytes) (hz : z.cells.toList = E.enc dd) (hn : n = xs.length) (hin : i ≤ n)
    (hx : ev f x = some (.slice (if c = i then A else A.map (·.add (i * E.sz))) (n - i) (c - i))) :
    XE P ⟨d, .call { callee := .builtin .clear, args := #[x], argTypes := #[t] }, ty, ps, af, gd⟩ f w (fun v' w' => v' = .tuple #[] ∧ SH w0 S w' (rowE E e (.slice A n c) (xs.take i ++ List.replicate (n - i) dd) :: L) ∧ KB (· ∈ Value.keys (.slice A n c)) w w') := by
  obtain ⟨j, hj, hz0, hs, _⟩ := hi.get
  have hR : Row E e (.slice A n c) xs w := h.hd
  by_cases h0 : n - i = 0
  · have e1 : xs.take i ++ List.replicate (n - i) dd = xs := by rw [h0, List.take_of_length_le (by omega)]; simp
    rw [e1]
    refine ⟨.tuple #[], w, fun a ha => ?_, rfl, h, KB.refl _ _⟩
    rw [h0] at hx
    simp only [execOp, resolve, invoke, builtin, Sem.run_bind, Sem.run_pure, Result.andThen_ok, List.map_toArray, List.map_cons, List.map_nil, ev_eval ha hx]
    generalize (if c = i then A else A.map (·.add (i * E.sz))) = B
    cases B <;> simp [Builtin.clear_, run_underlying ht]
  · rcases hR.2 with ⟨h1, h2⟩ | ⟨g, cap, cur, h1, hbg, hg, hnc, hcm, hcs, htake⟩
    · injection h1 with _ h3 _
      omega
    · injection h1 with h1 h3 h4
      subst h1; subst h4
      have hci : ¬ c = i := by omega
      have hA : (if c = i then some (⟨g, 0, none⟩ : Addr) else Option.map (fun a : Addr => a.add (i * E.sz)) (some ⟨g, 0, none⟩)) = some ⟨g, i * E.sz, none⟩ := by
        rw [if_neg hci]
        simp only [Option.map, Addr.add]
        split
        · rename_i h; simp only [h]
        · simp
      rw [hA] at hx
      have hzc : (Builtin.zeroCells z.cells (n - i)).toList = E.cells (List.replicate (n - i) dd) := by
        have hsz : z.cells.size = E.sz := by rw [← Array.length_toList, hz, E.len]
        have hm := flat_made z.cells (n - i) (by omega)
        rw [El.cells_repl, ← hz]
        exact hm
      have hlen : (E.cells (List.replicate (n - i) dd)).length = (n - i) * E.sz := by rw [E.cells_length, List.length_replicate]
      have hfit : i * E.sz + 0 + (E.cells (List.replicate (n - i) dd)).length ≤ cur.size := by
        rw [hlen, hcs, Nat.add_zero, ← Nat.add_mul]; exact Nat.mul_le_mul_right _ (by omega)
      have hst := run_storeCells_at P g (i * E.sz) e (E.cells (List.replicate (n - i) dd)) 0 cur w hg hfit (E.cells_one _)
      have hne : n - i ≠ 0 := h0
      obtain ⟨m, hm⟩ : ∃ m, n - i = m + 1 := ⟨n - i - 1, by omega⟩
      refine ⟨.tuple #[], w.setRow g (cur.toList.take (i * E.sz) ++ E.cells (List.replicate (n - i) dd) ++ cur.toList.drop (i * E.sz + (E.cells (List.replicate (n - i) dd)).length)).toArray, fun a ha => ?_, rfl, ?_, ?_⟩
      · simp only [execOp, resolve, invoke, builtin, Sem.run_bind, Sem.run_pure, Result.andThen_ok, List.map_toArray, List.map_cons, List.map_nil, ev_eval ha hx]
        simp only [Nat.add_zero] at hst
        rw [← hzc, hm] at hst
        rw [← hzc, hm]
        simp [Builtin.clear_, run_underlying ht, zeroValue, typeInfo, hj, hz0, hst]
      · have hcut : (xs.take i ++ List.replicate (n - i) dd).length = n := by rw [List.length_append, List.length_take, List.length_replicate]; omega
        refine h.upd (e' := rowE E e (.slice (some ⟨g, 0, none⟩) n c) _) ⟨rfl, rfl, rfl, fun _ => Nat.le_refl _, by simp, fun k _ hk => setRow_other w g k _ (fun e => hk (by simp [rowE, Value.keys, Value.ownBlock, e]))⟩ (Row.ok ?_) (keys_nodup (.slice (some ⟨g, 0, none⟩) n c)) (fun k hk => .inl hk)
        refine ⟨E.cells_length _, .inr ⟨g, c, _, by rw [hcut], hbg, setRow_heap w g cur _ e _ hg, by rw [hcut]; omega, hcm, ?_, ?_⟩⟩
        · simp only [List.size_toArray, List.length_append, List.length_drop, List.length_take, Array.length_toList, hlen]
          have : i * E.sz + (n - i) * E.sz ≤ cur.size := by rw [← hlen]; simpa using hfit
          omega
        · have hi2 : i * E.sz ≤ cur.toList.length := by rw [Array.length_toList, hcs]; exact Nat.mul_le_mul_right _ (by omega)
          have ht2 : cur.toList.take (i * E.sz) = E.cells (xs.take i) := by
            have e5 : cur.toList.take (i * E.sz) = (cur.toList.take (xs.length * E.sz)).take (i * E.sz) := by
              rw [List.take_take, Nat.min_eq_left (Nat.mul_le_mul_right _ (by omega))]
            rw [e5, htake, E.cells_take]
          rw [ht2, E.cells_append, hcut]
          have hl2 : (E.cells (xs.take i) ++ E.cells (List.replicate (n - i) dd)).length = n * E.sz := by
            rw [← E.cells_append, E.cells_length, hcut]
          show List.take (n * E.sz) ((E.cells (xs.take i) ++ E.cells (List.replicate (n - i) dd)) ++ _) = _
          rw [List.take_append_of_le_length (by omega), List.take_of_length_le (by omega)]
      · exact ⟨rfl, rfl, rfl, fun _ => Nat.le_refl _, by simp, fun k _ hk => setRow_other w g k _ (fun e => hk (by simp [Value.keys, Value.ownBlock, e]))⟩
end
end Go.Gv

/-! ### marks taken out of marks -/
namespace Go.Gv
open Go
def ANDN (a b : Int) : Int := IntKind.u64.wrap ((BitVec.ofInt IntKind.u64.bits a &&& ~~~ BitVec.ofInt IntKind.u64.bits b).toNat)
theorem LV.bandN {P : Program} {f : Env} {w : World} {d : Option Tmp} {ty : TypeId} {ps : String} {af : Array Edge} {gd : Option (Nat × Bool)} {t t2 : TypeId} {x y : Operand} {a b : Int} (hx : ev f x = some (.int .u64 a)) (hy : ev f y = some (.int .u64 b)) :
    LV P ⟨d, .binOp .andNot t x y t2, ty, ps, af, gd⟩ f w (.int .u64 (ANDN a b)) := fun e he => by
  simp only [execOp, ev_eval he hx, ev_eval he hy, eqGuard, binOp, Op.intBits]
  simp [ANDN]
theorem ofInt_bit {x : Int} (h0 : 0 ≤ x) {i : Nat} (hi : i < 64) : (BitVec.ofInt 64 x).getLsbD i = x.toNat.testBit i := by
  obtain ⟨n, rfl⟩ : ∃ n : Nat, x = (n : Int) := ⟨x.toNat, by omega⟩
  rw [BitVec.ofInt_natCast, BitVec.getLsbD_ofNat, Int.toNat_natCast]
  simp [hi]
theorem andn_zero {a b : Int} (ha : 0 ≤ a) (hb : 0 ≤ b) : ANDN a b = 0 ↔ ∀ i : Nat, i < 64 → a.toNat.testBit i = true → b.toNat.testBit i = true := by
  have hw : ANDN a b = ((BitVec.ofInt 64 a &&& ~~~ BitVec.ofInt 64 b).toNat : Int) := by
    unfold ANDN
    have := (BitVec.ofInt 64 a &&& ~~~ BitVec.ofInt 64 b).isLt
    exact wrU64 (by omega) (by show (((BitVec.ofInt 64 a &&& ~~~ BitVec.ofInt 64 b).toNat : Nat) : Int) ≤ _; omega)
  rw [hw]
  constructor
  · intro h i hi ha'
    have h0 : (BitVec.ofInt 64 a &&& ~~~ BitVec.ofInt 64 b) = 0#64 := BitVec.eq_of_toNat_eq (by simpa using h)
    have h1 := congrArg (fun v : BitVec 64 => v.getLsbD i) h0
    simp only [BitVec.getLsbD_and, BitVec.getLsbD_not, ofInt_bit ha hi, ofInt_bit hb hi, ha', hi] at h1
    simpa using h1
  · intro h
    have h0 : (BitVec.ofInt 64 a &&& ~~~ BitVec.ofInt 64 b) = 0#64 := by
      refine BitVec.eq_of_getLsbD_eq fun i hi => ?_
      simp only [BitVec.getLsbD_and, BitVec.getLsbD_not, ofInt_bit ha hi, ofInt_bit hb hi]
      cases hA : a.toNat.testBit i
      · simp
      · simp [h i hi hA]
    rw [h0]; rfl
theorem has_bit {x : Int} (h0 : 0 ≤ x) {t : Nat} (ht : t < 64) : (x.fdiv (2 ^ (min ((t : Int)).toNat IntKind.u64.bits))) % 2 = 1 ↔ x.toNat.testBit t = true := by
  obtain ⟨n, rfl⟩ : ∃ n : Nat, x = (n : Int) := ⟨x.toNat, by omega⟩
  have e : min ((t : Int)).toNat IntKind.u64.bits = t := by
    show min ((t : Int)).toNat 64 = t
    rw [Int.toNat_natCast]; omega
  rw [e, Int.fdiv_eq_ediv_of_nonneg _ (Int.pow_nonneg (by decide)), Int.toNat_natCast, Nat.testBit_eq_decide_div_mod_eq]
  have h2 : (2 : Int) ^ t = ((2 ^ t : Nat) : Int) := by simp
  rw [h2, ← Int.natCast_ediv]
  simp only [decide_eq_true_eq]
  omega
open Go.Tly in
theorem bel_andn {a b : Lb} (ha : 0 ≤ a.2) (hb : 0 ≤ b.2) : BEL a b ↔ a.1 ≤ b.1 ∧ ANDN a.2 b.2 = 0 := by
  unfold BEL
  rw [andn_zero ha hb]
  refine and_congr_right fun _ => ⟨fun h i hi h1 => ?_, fun h c hc h1 => ?_⟩
  · refine Decidable.byContradiction fun h2 => h i hi ⟨⟨by omega, by omega, (has_bit ha hi).2 h1⟩, fun h3 => h2 ((has_bit hb hi).1 h3.2.2)⟩
  · exact h1.2 ⟨h1.1.1, h1.1.2.1, (has_bit hb hc).2 (h c hc ((has_bit ha hc).1 h1.1.2.2))⟩
end Go.Gv
/-! ### what is read at a key -/
namespace Go.Gv
open Go Go.RowKit
abbrev svZ : SV := ⟨none, 0, 0⟩
abbrev kV (s : SV) : Value := s.v
section
variable {κ α : Type} [DecidableEq κ] {E : El α} {kv : List (κ × SV)} {P : List (SV × List α)} {q : κ} {xs : List α} {w : World} {S : Nat → Prop}
theorem look_at (h : (lookL kv q = none ∧ xs = []) ∨ ∃ sv, lookL kv q = some sv ∧ (sv, xs) ∈ P) (hr : St S w (RdIn (fun s : SV => s) E P)) : ∃ A c, kV ((lookL kv q).getD svZ) = .slice A xs.length c ∧ St S w (Rd E (.slice A xs.length c) xs) := by
  rcases h with ⟨h1, h2⟩ | ⟨sv, h1, h2⟩
  · subst h2
    rw [h1]
    exact ⟨none, 0, rfl, fun _ _ => Rd.nil⟩
  · rw [h1]
    obtain ⟨A, c, e⟩ := (hr.now _ h2).len
    exact ⟨A, c, e, hr.imp fun w' hw => e ▸ hw _ h2⟩
theorem look_st {P' : List (SV × List α)} {A : Option Addr} {c : Nat} (h : (lookL kv q = none ∧ xs = []) ∨ ∃ sv, lookL kv q = some sv ∧ (sv, xs) ∈ P) (hv : kV ((lookL kv q).getD svZ) = .slice A xs.length c) (hs : ∀ p ∈ P, p ∈ P') (hr : St S w (RdIn (fun s : SV => s) E P')) : St S w (Rd E (.slice A xs.length c) xs) := by
  rcases h with ⟨h1, h2⟩ | ⟨sv, h1, h2⟩
  · subst h2
    rw [h1] at hv
    rw [← hv]
    exact fun _ _ => Rd.nil
  · rw [h1] at hv
    rw [← hv]
    exact hr.imp fun w' hw => hw _ (hs _ h2)
end
end Go.Gv

/-! ### rows thinned out in place -/
namespace Go.Gv
section
variable {α : Type} {p : α → Bool} {xs ys : List α} {i j : Int} {d : α}
theorem flt_init (h0 : 0 ≤ i) (h1 : i < xs.length) (hk : ∀ t : Int, 0 ≤ t → t < i → p (xs.getD t.toNat d) = true) (hi : p (xs.getD i.toNat d) = false) : xs.take i.toNat = (xs.take (i + 1).toNat).filter p := by
  rw [Num.take_more d h0 h1, List.filter_append, List.filter_cons, if_neg (by rw [hi]; simp), List.filter_nil, List.append_nil]
  refine (List.filter_eq_self.2 fun a ha => ?_).symm
  obtain ⟨k, hk', e⟩ := List.mem_iff_getElem.1 ha
  rw [List.length_take] at hk'
  have := hk (k : Int) (by omega) (by omega)
  rw [Int.toNat_natCast, List.getD_eq_getElem?_getD, List.getElem?_eq_getElem (by omega)] at this
  rw [← e, List.getElem_take]; exact this
theorem flt_all (hk : ∀ t : Int, 0 ≤ t → t < xs.length → p (xs.getD t.toNat d) = true) : xs = xs.filter p := by
  refine (List.filter_eq_self.2 fun a ha => ?_).symm
  obtain ⟨k, hk', e⟩ := List.mem_iff_getElem.1 ha
  have := hk (k : Int) (by omega) (by omega)
  rw [Int.toNat_natCast, List.getD_eq_getElem?_getD, List.getElem?_eq_getElem (by omega)] at this
  rw [← e]; exact this
theorem flt_get (h0 : 0 ≤ j) (h1 : j < xs.length) (hl : ys.length = xs.length) (q2 : ys.drop j.toNat = xs.drop j.toNat) : ys.getD j.toNat d = xs.getD j.toNat d := by
  have := congrArg (fun l => l[0]?) q2
  simp only [List.getElem?_drop, Nat.add_zero] at this
  rw [List.getD_eq_getElem?_getD, List.getD_eq_getElem?_getD, this]
theorem flt_keep (hi : 0 ≤ i) (hij : i < j) (h1 : j < xs.length) (hl : ys.length = xs.length) (q1 : ys.take i.toNat = (xs.take j.toNat).filter p) (q2 : ys.drop j.toNat = xs.drop j.toNat) (hp : p (xs.getD j.toNat d) = true) :
    (ys.set i.toNat (xs.getD j.toNat d)).take (i + 1).toNat = (xs.take (j + 1).toNat).filter p ∧ (ys.set i.toNat (xs.getD j.toNat d)).drop (j + 1).toNat = xs.drop (j + 1).toNat := by
  constructor
  · rw [Num.take_more d (by omega) h1, List.filter_append, List.filter_cons, if_pos hp, List.filter_nil, ← q1, Num.take_more d hi (by rw [List.length_set]; omega), List.take_set_of_le (Nat.le_refl _)]
    congr 1
    rw [List.getD_eq_getElem?_getD, List.getElem?_set_self (by omega)]; rfl
  · rw [List.drop_set_of_lt (by omega)]
    have := congrArg (List.drop 1) q2
    rw [List.drop_drop, List.drop_drop] at this
    rw [show (j + 1).toNat = j.toNat + 1 by omega]; exact this
theorem flt_drop (h0 : 0 ≤ j) (h1 : j < xs.length) (q1 : ys.take i.toNat = (xs.take j.toNat).filter p) (q2 : ys.drop j.toNat = xs.drop j.toNat) (hp : p (xs.getD j.toNat d) = false) :
    ys.take i.toNat = (xs.take (j + 1).toNat).filter p ∧ ys.drop (j + 1).toNat = xs.drop (j + 1).toNat := by
  constructor
  · rw [Num.take_more d h0 h1, List.filter_append, List.filter_cons, if_neg (by rw [hp]; simp), List.filter_nil, List.append_nil]; exact q1
  · have := congrArg (List.drop 1) q2
    rw [List.drop_drop, List.drop_drop] at this
    rw [show (j + 1).toNat = j.toNat + 1 by omega]; exact this
theorem flt_end {n k : Nat} (hk : k ≤ ys.length) (q1 : ys.take k = xs.filter p) : (ys.take k ++ List.replicate n d).take k = xs.filter p := by
  rw [List.take_append_of_le_length (by rw [List.length_take]; omega), List.take_take, Nat.min_self]; exact q1
end
end Go.Gv
/-! ### what a function finds; a row that is kept in part -/
namespace Go.Idx
def FOUND {α : Type} (p : α → Prop) (s : List α) (d : α) (i : Int) : Prop :=
  (i = -1 ∧ ∀ t : Int, 0 ≤ t → t < s.length → ¬ p (s.getD t.toNat d)) ∨ (0 ≤ i ∧ i < s.length ∧ p (s.getD i.toNat d) ∧ ∀ t : Int, 0 ≤ t → t < i → ¬ p (s.getD t.toNat d))
theorem FOUND.none {α : Type} {p : α → Prop} {s : List α} {d : α} {i : Int} (h : FOUND p s d i) (hi : i = -1) : ∀ t : Int, 0 ≤ t → t < s.length → ¬ p (s.getD t.toNat d) := h.elim (fun h => h.2) (fun h => by have := h.1; omega)
theorem FOUND.some {α : Type} {p : α → Prop} {s : List α} {d : α} {i : Int} (h : FOUND p s d i) (hi : ¬ i = -1) : 0 ≤ i ∧ i < s.length ∧ p (s.getD i.toNat d) ∧ ∀ t : Int, 0 ≤ t → t < i → ¬ p (s.getD t.toNat d) := h.elim (fun h => absurd h.1 hi) id
theorem FOUND.iff {α : Type} {p : α → Prop} {s : List α} {d : α} {i : Int} (h : FOUND p s d i) : i ≥ 0 ↔ ∃ y ∈ s, p y := by
  constructor
  · intro h0
    rcases h with h | ⟨h1, h2, h3, _⟩
    · have := h.1; omega
    · exact ⟨_, Gv.getD_mem (by omega), h3⟩
  · rintro ⟨y, hy, hp⟩
    rcases h with ⟨_, h⟩ | ⟨h1, _⟩
    · obtain ⟨k, hk, e⟩ := List.mem_iff_getElem.1 hy
      have := h (k : Int) (by omega) (by omega)
      rw [Int.toNat_natCast, List.getD_eq_getElem?_getD, List.getElem?_eq_getElem hk] at this
      exact absurd (e ▸ hp) this
    · exact h1
end Go.Idx
namespace Go.Gv
open Go
theorem cut_id {A : Option Addr} {c k i : Nat} : Value.slice (if c = 0 then A else A.map fun a : Addr => a.add (0 * k)) (i - 0) (c - 0) = .slice A i c := by
  have e : (A.map fun a : Addr => a.add (0 * k)) = A := by
    cases A with
    | none => rfl
    | some a => simp [Addr.add]
  rw [e, Nat.sub_zero, Nat.sub_zero]
  split <;> rfl
end Go.Gv

namespace Go.Gv
open Go Go.RowKit Go.Idx
abbrev idS : SV → SV := fun s => s
/-- What is read of an index. -/
def IXR (T : TypeId) (X : IXS) (w : World) : Prop := w.heap[X.b]? = some (.cells #[.map (some X.m1), .map (some X.m2)] T (0, 0)) ∧ MapG kS kV X.m1 X.kv1 w ∧ MapG kS kV X.m2 X.kv2 w ∧ RdIn idS eIt X.P1 w ∧ RdIn idS eSI X.P2 w
/-- An index of one's own. -/
abbrev ixL (T T1 T2 : TypeId) (X : IXS) : List Ent := [blkE X.b T #[.map (some X.m1), .map (some X.m2)], mapG kS kV X.m1 X.kv1, mapG kS kV X.m2 X.kv2, insE idS eIt T1 X.P1, insE idS eSI T2 X.P2]
def ixE (T T1 T2 : TypeId) (X : IXS) : Ent := packE (ixL T T1 T2 X)
section
variable {T T1 T2 : TypeId} {X : IXS} {w0 w : World} {S : Nat → Prop} {L : List Ent}
theorem SH.ixOpen (h : SH w0 S w (ixE T T1 T2 X :: L)) : SH w0 S w (ixL T T1 T2 X ++ L) := SH.unpack h
theorem SH.ixShut (h : SH w0 S w (ixL T T1 T2 X ++ L)) : SH w0 S w (ixE T T1 T2 X :: L) := SH.pack h
theorem ixr_of (h : (ixE T T1 T2 X).p w) : IXR T X w := by
  have h : ∀ e ∈ ixL T T1 T2 X, e.Ok w := h
  refine ⟨(h _ (.head _)).now, (h (mapG kS kV X.m1 X.kv1) (by simp)).now, (h (mapG kS kV X.m2 X.kv2) (by simp)).now, fun p hp => ?_, fun p hp => ?_⟩
  · exact Row.rd ((h (insE idS eIt T1 X.P1) (by simp)).now p hp)
  · exact Row.rd ((h (insE idS eSI T2 X.P2) (by simp)).now p hp)
theorem SH.ixr (h : SH w0 S w L) (he : ixE T T1 T2 X ∈ L) : St No w (IXR T X) := (h.steN he).imp fun _ h => ixr_of h
/-- The rows of a pack stay rows where other blocks turn. -/
theorem SH.ixrE {Es : List Ent} (h : SH w0 S w (Es ++ L)) (he : ixE T T1 T2 X ∈ L) : St (· ∈ keys Es) w (IXR T X) := (SH.stE h he).imp fun _ h => ixr_of h
end
end Go.Gv
namespace Go.Gv
open Go Go.RowKit Go.Idx
/-- An index whose parts lie among one's own. -/
theorem SH.ixr5 {T T1 T2 : TypeId} {X : IXS} {w0 w : World} {S : Nat → Prop} {L : List Ent} (h : SH w0 S w L) (h1 : blkE X.b T #[.map (some X.m1), .map (some X.m2)] ∈ L) (h2 : mapG kS kV X.m1 X.kv1 ∈ L) (h3 : mapG kS kV X.m2 X.kv2 ∈ L) (h4 : insE idS eIt T1 X.P1 ∈ L) (h5 : insE idS eSI T2 X.P2 ∈ L) : St No w (IXR T X) := fun w' hk =>
  ⟨h.steN h1 w' hk, h.steN h2 w' hk, h.steN h3 w' hk, fun p hp => Row.rd (h.steN h4 w' hk p hp), fun p hp => Row.rd (h.steN h5 w' hk p hp)⟩
end Go.Gv

namespace Go.Idx
open Go Go.Gv
theorem ext_gS {a b : List ByteArray} (hl : a.length = b.length) (h : ∀ t : Int, 0 ≤ t → t < a.length → a.getD t.toNat ByteArray.empty = b.getD t.toNat ByteArray.empty) : a = b := by
  apply List.ext_getElem hl
  intro i h1 h2
  have := h i (by omega) (by omega)
  rw [Int.toNat_natCast, List.getD_eq_getElem?_getD, List.getD_eq_getElem?_getD, List.getElem?_eq_getElem h1, List.getElem?_eq_getElem h2] at this
  exact this
theorem ext_gSI {a b : List En} (hl : a.length = b.length) (h : ∀ t : Int, 0 ≤ t → t < a.length → (a.getD t.toNat (ByteArray.empty, 0)).1 = (b.getD t.toNat (ByteArray.empty, 0)).1 ∧ (a.getD t.toNat (ByteArray.empty, 0)).2 = (b.getD t.toNat (ByteArray.empty, 0)).2) : a = b := by
  apply List.ext_getElem hl
  intro i h1 h2
  have := h i (by omega) (by omega)
  rw [Int.toNat_natCast, List.getD_eq_getElem?_getD, List.getD_eq_getElem?_getD, List.getElem?_eq_getElem h1, List.getElem?_eq_getElem h2] at this
  exact Prod.ext this.1 this.2
theorem in_yes {l : List En} {h : En} {i : Int} (h0 : 0 ≤ i) (h1 : i < l.length) (e : (l.getD i.toNat (ByteArray.empty, 0)).1 = h.1 ∧ (l.getD i.toNat (ByteArray.empty, 0)).2 = h.2) : h ∈ l := by
  have := getD_mem (l := l) (d := (ByteArray.empty, 0)) (show i.toNat < l.length by omega)
  rwa [show l.getD i.toNat (ByteArray.empty, 0) = h from Prod.ext e.1 e.2] at this
theorem in_no {l : List En} {h : En} (q : ∀ t : Int, 0 ≤ t → t < l.length → ¬ ((l.getD t.toNat (ByteArray.empty, 0)).1 = h.1 ∧ (l.getD t.toNat (ByteArray.empty, 0)).2 = h.2)) : ¬ h ∈ l := fun hm => by
  obtain ⟨k, hk, e⟩ := List.mem_iff_getElem.1 hm
  refine q k (by omega) (by omega) ?_
  rw [Int.toNat_natCast, List.getD_eq_getElem?_getD, List.getElem?_eq_getElem hk]
  exact ⟨congrArg Prod.fst e, congrArg Prod.snd e⟩
end Go.Idx

