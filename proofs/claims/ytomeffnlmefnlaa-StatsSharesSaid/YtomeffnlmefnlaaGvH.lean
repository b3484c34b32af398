/- More operations: parts of rows that are copied, unsigned numbers' bits. -/
import Derived.Test.YtomeffnlmefnlaaGvF
namespace Go.Gv
open Go Go.RowKit
section
variable {P : Program} {f : Env} {w : World} {d : Option Tmp} {ty : TypeId} {ps : String} {af : Array Edge} {gd : Option (Nat × Bool)} {w0 : World} {S : Nat → Prop} {L : List Ent}
theorem LV.shr {t t2 : TypeId} {x y : Operand} {k k2 : IntKind} {a b c : Int} (hx : ev f x = some (.int k a)) (hy : ev f y = some (.int k2 b)) (hb : 0 ≤ b) (hc : a.fdiv (2 ^ (min b.toNat k.bits)) = c) :
    LV P ⟨d, .binOp .shr t x y t2, ty, ps, af, gd⟩ f w (.int k c) := fun e he => by
  have : ¬ b < 0 := by omega
  simp [execOp, ev_eval he hx, ev_eval he hy, eqGuard, binOp, Op.shift, this, hc]
theorem LV.band {t t2 : TypeId} {x y : Operand} {k : IntKind} {a b c : Int} (hx : ev f x = some (.int k a)) (hy : ev f y = some (.int k b)) (hc : k.wrap ((BitVec.ofInt k.bits a &&& BitVec.ofInt k.bits b).toNat) = c) :
    LV P ⟨d, .binOp .and t x y t2, ty, ps, af, gd⟩ f w (.int k c) := fun e he => by
  simp only [execOp, ev_eval he hx, ev_eval he hy, eqGuard, binOp, Op.intBits, hc]
  simp
theorem LV.notP {t : TypeId} {x : Operand} {p : Prop} [Decidable p] (hx : ev f x = some (.bool (decide p))) : LV P ⟨d, .unOp .not t x, ty, ps, af, gd⟩ f w (.bool (decide (¬ p))) :=
  LV.as (LV.notB hx) (decide_not).symm
theorem wrU64 {x : Int} (h1 : 0 ≤ x) (h2 : x ≤ 18446744073709551615) : IntKind.u64.wrap x = x := by simp [IntKind.wrap, IntKind.bits, IntKind.signed]; omega
theorem band32 {a : Int} (h0 : 0 ≤ a) (h1 : a ≤ 4294967295) : IntKind.u64.wrap ((BitVec.ofInt IntKind.u64.bits a &&& BitVec.ofInt IntKind.u64.bits 4294967295).toNat) = a := by
  have e : (BitVec.ofInt IntKind.u64.bits a &&& BitVec.ofInt IntKind.u64.bits 4294967295).toNat = a.toNat := by
    show (BitVec.ofInt 64 a &&& BitVec.ofInt 64 4294967295).toNat = a.toNat
    rw [BitVec.toNat_and, BitVec.toNat_ofInt, BitVec.toNat_ofInt]
    have h2 : (a % ((2 ^ 64 : Nat) : Int)).toNat = a.toNat := by omega
    have h3 : ((4294967295 : Int) % ((2 ^ 64 : Nat) : Int)).toNat = 2 ^ 32 - 1 := by decide
    rw [h2, h3, Nat.and_two_pow_sub_one_eq_mod]
    omega
  rw [e]
  exact (wrU64 (by omega) (by omega)).trans (by omega)
theorem shr1 {a : Int} (_ : 0 ≤ a) : a.fdiv (2 ^ (min (1 : Int).toNat IntKind.u64.bits)) = a / 2 := by
  rw [show (2 : Int) ^ (min (1 : Int).toNat IntKind.u64.bits) = 2 by decide, Int.fdiv_eq_ediv_of_nonneg _ (by decide)]
theorem shr32 {a : Int} (h0 : 0 ≤ a) (h1 : a ≤ 4294967295) : a.fdiv (2 ^ (min (32 : Int).toNat IntKind.u64.bits)) = 0 := by
  show a.fdiv 4294967296 = 0
  rw [Int.fdiv_eq_ediv_of_nonneg _ (by decide)]
  omega

theorem run_eqA2 {t e : TypeId} {a b a' b' : Int} (ht : P.underlying t = some (.array 2 e)) (he : P.underlying e = some (.int .i64)) (hz : (P.info? e).map (·.size) = some 1) :
    (Op.equal t (.agg #[.int .i64 a, .int .i64 b]) (.agg #[.int .i64 a', .int .i64 b'])).run P w = .ok (decide (a = a' ∧ b = b')) w := by
  obtain ⟨inf, hi, hsz⟩ := Option.map_eq_some_iff.1 hz
  have h1 : ∀ (x y : Int), (Op.equalIn 9999 e (.int .i64 x) (.int .i64 y)).run P w = .ok (x == y) w := fun x y => run_equalIn_int w 9998 e .i64 .i64 x y he
  have hp : ∀ (x y : Int) (i : Nat), i < 2 → (part e #[.int .i64 x, .int .i64 y] (i * 1)).run P w = .ok (if i = 0 then .int .i64 x else .int .i64 y) w := by
    intro x y i hi
    match i, hi with
    | 0, _ => simp [part, isAgg, run_underlying he]
    | 1, _ => simp [part, isAgg, run_underlying he]
  show (Op.equalIn (9999 + 1) t _ _).run P w = _
  unfold Op.equalIn
  simp only [Sem.run_bind, run_underlying ht, Result.andThen_ok, sizeOf, typeInfo]
  simp [hi, hsz, Std.Legacy.Range.forIn_eq_forIn_range', Std.Legacy.Range.size, List.range']
  have e1 := hp a b 0 (by omega)
  have e2 := hp a b 1 (by omega)
  have e3 := hp a' b' 0 (by omega)
  have e4 := hp a' b' 1 (by omega)
  simp at e1 e2 e3 e4
  simp [e1, e2, e3, e4, h1]
  by_cases hab : a = a'
  · by_cases hbb : b = b' <;> simp [hab, hbb]
  · simp [hab]
theorem LV.eqA2 {t t2 e : TypeId} {x y : Operand} {a b a' b' : Int} (ht : P.underlying t = some (.array 2 e)) (he : P.underlying e = some (.int .i64)) (hz : (P.info? e).map (·.size) = some 1) (hg : P.eqGuardType P.depth t = false) (hx : ev f x = some (.agg #[.int .i64 a, .int .i64 b])) (hy : ev f y = some (.agg #[.int .i64 a', .int .i64 b'])) :
    LV P ⟨d, .binOp .eql t x y t2, ty, ps, af, gd⟩ f w (.bool (decide (a = a' ∧ b = b'))) := fun u hu => by
  have h : (binOp .eql t (.agg #[.int .i64 a, .int .i64 b]) (.agg #[.int .i64 a', .int .i64 b'])).run P w = .ok (.bool (decide (a = a' ∧ b = b'))) w := by
    unfold binOp
    simp only [Sem.run_bind, run_eqA2 ht he hz, Result.andThen_ok, Sem.run_pure]
  simp only [execOp, ev_eval hu hx, ev_eval hu hy]
  simp [eqGuard, hg, h]
theorem LV.neA2 {t t2 e : TypeId} {x y : Operand} {a b a' b' : Int} (ht : P.underlying t = some (.array 2 e)) (he : P.underlying e = some (.int .i64)) (hz : (P.info? e).map (·.size) = some 1) (hg : P.eqGuardType P.depth t = false) (hx : ev f x = some (.agg #[.int .i64 a, .int .i64 b])) (hy : ev f y = some (.agg #[.int .i64 a', .int .i64 b'])) :
    LV P ⟨d, .binOp .neq t x y t2, ty, ps, af, gd⟩ f w (.bool (decide (¬ (a = a' ∧ b = b')))) := fun u hu => by
  have h : (binOp .neq t (.agg #[.int .i64 a, .int .i64 b]) (.agg #[.int .i64 a', .int .i64 b'])).run P w = .ok (.bool (decide (¬ (a = a' ∧ b = b')))) w := by
    unfold binOp
    simp only [Sem.run_bind, run_eqA2 ht he hz, Result.andThen_ok, Sem.run_pure, decide_not]
  simp only [execOp, ev_eval hu hx, ev_eval hu hy]
  simp [eqGuard, hg, h]
theorem cut_at {g l c : Nat} (h : l < c) : (if c = l then some (⟨g, 0, none⟩ : Addr) else Option.map (fun a : Addr => a.add (l * 1)) (some ⟨g, 0, none⟩)) = some ⟨g, l, none⟩ := by
  rw [if_neg (by omega)]
  simp only [Option.map, Addr.add, Nat.mul_one]
  split
  · subst_vars; rfl
  · simp
/-- 'copy' into a part of a row of one's own. -/
theorem XE.copyAt {α : Type} {E : El α} {t t2 e : TypeId} {v v2 vd : Value} {xs ys : List α} {x y : Operand} (l dl dc : Nat) (h : SH w0 S w (rowE E e v xs :: L)) (ht : P.underlying t = some (.slice e)) (hz : (P.info? e).map (·.size) = some 1) (hE : E.sz = 1)
    (hy : Rd E v2 ys w) (hd : ∃ A' , vd = .slice A' dl dc ∧ ∀ g, v.ownBlock = some g → 0 < dl → A' = some ⟨g, l, none⟩) (hl : l + dl ≤ xs.length) (hx1 : ev f x = some vd) (hx2 : ev f y = some v2) :
    XE P ⟨d, .call { callee := .builtin .copy, args := #[x, y], argTypes := #[t, t2] }, ty, ps, af, gd⟩ f w (fun v' w' => v' = .int .i64 (min ys.length dl : Nat) ∧
      SH w0 S w' (rowE E e v (xs.take l ++ ys.take dl ++ xs.drop (l + min ys.length dl)) :: L) ∧ KB (· ∈ Value.keys v) w w') := by
  have hR : Row E e v xs w := h.hd
  obtain ⟨A2, c2, rfl, _, _, hc2⟩ := hy
  obtain ⟨A', rfl, hA⟩ := hd
  by_cases h0 : min ys.length dl = 0
  · have e1 : xs.take l ++ ys.take dl ++ xs.drop (l + min ys.length dl) = xs := by
      have : ys.take dl = [] := by
        rcases Nat.le_total ys.length dl with h' | h'
        · have : ys = [] := List.eq_nil_of_length_eq_zero (by omega)
          simp [this]
        · have : dl = 0 := by omega
          simp [this]
      rw [h0, this, List.append_nil, Nat.add_zero, List.take_append_drop]
    rw [e1]
    refine ⟨.int .i64 ((min ys.length dl : Nat) : Int), w, fun a ha => ?_, rfl, h, KB.refl _ _⟩
    have hr := run_copy_none (P := P) w t t2 ty e A' A2 dl dc ys.length c2 ht hz h0
    simp [execOp, resolve, invoke, builtin, ev_eval ha hx1, ev_eval ha hx2, hr, goInt, h0]
  · obtain ⟨ad, rfl, hnews⟩ := hc2 (by omega)
    rcases hR.2 with ⟨h1, h2⟩ | ⟨g, cap, cur, h1, hbg, hg, hnc, hcm, hcs, htake⟩
    · omega
    · subst h1
      obtain rfl := hA g rfl (by omega)
      have hcl : (E.cells (ys.take dl)).length = min ys.length dl := by rw [E.cells_length, hE, Nat.mul_one, List.length_take, Nat.min_comm]
      have hsz : cur.size = cap := by rw [hcs, hE, Nat.mul_one]
      have hr := run_copy_row (P := P) w t t2 ty e g l dl dc ad ys.length c2 cur e (E.cells (ys.take dl)) ht hz hg hcl (fun j u hu => hnews j u (by
        rw [E.cells_take, List.getElem?_take] at hu
        split at hu
        · exact hu
        · simp at hu)) (by rw [hcl, hsz]; omega) (E.cells_one _)
      have hxl : (E.cells xs).length = xs.length := by rw [E.cells_length, hE, Nat.mul_one]
      have hnl : (xs.take l ++ ys.take dl ++ xs.drop (l + min ys.length dl)).length = xs.length := by
        simp only [List.length_append, List.length_take, List.length_drop]; omega
      refine ⟨goInt ((E.cells (ys.take dl)).length : Nat), w.setRow g (cur.toList.take l ++ E.cells (ys.take dl) ++ cur.toList.drop (l + (E.cells (ys.take dl)).length)).toArray, fun a ha => ?_, ?_, ?_, ?_⟩
      · simp only [execOp, resolve, invoke, builtin, Sem.run_bind, Sem.run_pure, Result.andThen_ok, List.map_toArray, List.map_cons, List.map_nil, ev_eval ha hx1, ev_eval ha hx2, hr]
      · show goInt _ = _
        rw [hcl]; rfl
      · refine h.upd (e' := rowE E e (.slice (some ⟨g, 0, none⟩) xs.length cap) _) ⟨rfl, rfl, rfl, fun _ => Nat.le_refl _, by simp, fun k _ hk => setRow_other w g k _ (fun e => hk (by simp [rowE, Value.keys, Value.ownBlock, e]))⟩ (Row.ok ?_) (keys_nodup (.slice (some ⟨g, 0, none⟩) xs.length cap)) (fun k hk => .inl hk)
        refine ⟨E.cells_length _, .inr ⟨g, cap, _, by rw [hnl], hbg, setRow_heap w g cur _ e _ hg, by omega, hcm, ?_, ?_⟩⟩
        · simp only [List.size_toArray, List.length_append, List.length_drop, List.length_take, Array.length_toList, hcl, hE, Nat.mul_one]
          omega
        · have hct : cur.toList.take xs.length = E.cells xs := by rw [← htake, hE, Nat.mul_one]
          rw [hnl, hE, Nat.mul_one, E.cells_append, E.cells_append, E.cells_take xs l, E.cells_drop xs, hE, Nat.mul_one, Nat.mul_one, ← hct, hcl]
          have hlt : l + min ys.length dl ≤ xs.length := by omega
          have hcl2 : cur.toList.length = cap := by rw [Array.length_toList, hsz]
          rw [List.take_append, List.take_append, List.take_take, List.take_of_length_le (l := E.cells (ys.take dl)) (by rw [hcl, List.length_take, hcl2]; omega), List.length_append, List.length_take, hcl, hcl2]
          simp only [List.take_take, List.drop_take, Nat.min_eq_left (show l ≤ xs.length by omega), Nat.min_eq_right (show l ≤ xs.length by omega), Nat.min_eq_left (show l ≤ cap by omega)]
      · exact ⟨rfl, rfl, rfl, fun _ => Nat.le_refl _, by simp, fun k _ hk => setRow_other w g k _ (fun e => hk (by simp [Value.keys, Value.ownBlock, e]))⟩
end
theorem SH.nilRow {α : Type} {E : El α} {T : TypeId} {w0 w : World} {S : Nat → Prop} {L : List Ent} (h : SH w0 S w L) : SH w0 S w (rowE E T (.slice none 0 0) ([] : List α) :: L) :=
  SH.more h (KB.refl No _) (Row.ok (E := E) (T := T) (xs := []) Row.nil) (keys_nodup (.slice none 0 0)) (fun _ h_ => by cases h_)
theorem Rd.max {α : Type} {E : El α} {v : Value} {xs : List α} {w : World} (h : Rd E v xs w) : xs.length ≤ 9223372036854775807 := by
  obtain ⟨A, c, e, h1, h2, _⟩ := h
  have : maxLen = 9223372036854775807 := by decide
  omega
/-! ### A slice's first ones -/
def cutA (A : Option Addr) (c sz : Nat) : Option Addr := if c = 0 then A else A.map (fun a => a.add (0 * sz))
theorem few_rd {α : Type} {E : El α} {A : Option Addr} {c : Nat} {xs : List α} {S : Nat → Prop} {w : World} (k : Nat) (h : St S w (Rd E (.slice A xs.length c) xs)) : St S w (Rd E (.slice (cutA A c E.sz) (xs.take k).length c) (xs.take k)) :=
  h.imp fun w' h' => by
    have hc := Rd.cap h'
    have h2 := Rd.cut (l := 0) (h := min k xs.length) (m := c) h' (by omega) (by omega) (by omega) (by omega)
    have e : (xs.take (min k xs.length)).drop 0 = xs.take k := by
      rw [List.drop_zero]
      rcases Nat.le_total k xs.length with h3 | h3
      · rw [Nat.min_eq_left h3]
      · rw [Nat.min_eq_right h3, List.take_of_length_le (Nat.le_refl _), List.take_of_length_le h3]
    rw [e, show min k xs.length - 0 = (xs.take k).length by rw [List.length_take]; rfl] at h2
    exact h2
end Go.Gv
