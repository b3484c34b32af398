/- More operations: parts of rows that are copied, unsigned numbers' bits. -/
import Derived.Test.YtigbphaimbhgjaaGreatMg2
import Derived.Laws.StructEq
import Derived.Laws.Tables
import Derived.Laws.BytesArg
namespace Go.Gv
open Go Go.RowKit
section
variable {P : Program} {f : Env} {w : World} {d : Option Tmp} {ty : TypeId} {ps : String} {af : Array Edge} {gd : Option (Nat × Bool)} {w0 : World} {S : Nat → Prop} {L : List Ent}
theorem LV.shr {t t2 : TypeId} {x y : Operand} {k k2 : IntKind} {a b c : Int} (hx : ev f x = some (.int k a)) (hy : ev f y = some (.int k2 b)) (hb : 0 ≤ b) (hc : a.fdiv (2 ^ (min b.toNat k.bits)) = c) :
    LV P ⟨d, .binOp .shr t x y t2, ty, ps, af, gd⟩ f w (.int k c) := fun e he => by
  have : ¬ b < 0 := by omega
  simp [execOp, ev_eval he hx, ev_eval he hy, eqGuard, binOp, Op.shift, this, hc]
theorem LV.band {t t2 : TypeId} {x y : Operand} {k : IntKind} {a b c : Int} (hx : ev f x = some (.int k a)) (hy : ev f y = some (.int k b)) (hc : k.wrap ((BitVec.ofInt k.bits a &&& BitVec.ofInt k.bits b).toNat) = c) :
    LV P ⟨d, .binOp .and t x y t2, ty, ps, af, gd⟩ f w (.int k c) := fun e he => by
  simp only [execOp, ev_eval he hx, ev_eval he hy, eqGuard, binOp, Op.intBits, hc]
  simp
theorem LV.notP {t : TypeId} {x : Operand} {p : Prop} [Decidable p] (hx : ev f x = some (.bool (decide p))) : LV P ⟨d, .unOp .not t x, ty, ps, af, gd⟩ f w (.bool (decide (¬ p))) :=
  LV.as (LV.notB hx) (decide_not).symm
theorem wrU64 {x : Int} (h1 : 0 ≤ x) (h2 : x ≤ 18446744073709551615) : IntKind.u64.wrap x = x := by simp [IntKind.wrap, IntKind.bits, IntKind.signed]; omega
theorem band32 {a : Int} (h0 : 0 ≤ a) (h1 : a ≤ 4294967295) : IntKind.u64.wrap ((BitVec.ofInt IntKind.u64.bits a &&& BitVec.ofInt IntKind.u64.bits 4294967295).toNat) = a := by
  have e : (BitVec.ofInt IntKind.u64.bits a &&& BitVec.ofInt IntKind.u64.bits 4294967295).toNat = a.toNat := by
    show (BitVec.ofInt 64 a &&& BitVec.ofInt 64 4294967295).toNat = a.toNat
    rw [BitVec.toNat_and, BitVec.toNat_ofInt, BitVec.toNat_ofInt]
    have h2 : (a % ((2 ^ 64 : Nat) : Int)).toNat = a.toNat := by omega
    have h3 : ((4294967295 : Int) % ((2 ^ 64 : Nat) : Int)).toNat = 2 ^ 32 - 1 := by decide
    rw [h2, h3, Nat.and_two_pow_sub_one_eq_mod]
    omega
  rw [e]
  exact (wrU64 (by omega) (by omega)).trans (by omega)
theorem shr1 {a : Int} (_ : 0 ≤ a) : a.fdiv (2 ^ (min (1 : Int).toNat IntKind.u64.bits)) = a / 2 := by
  rw [show (2 : Int) ^ (min (1 : Int).toNat IntKind.u64.bits) = 2 by decide, Int.fdiv_eq_ediv_of_nonneg _ (by decide)]
theorem shr32 {a : Int} (h0 : 0 ≤ a) (h1 : a ≤ 4294967295) : a.fdiv (2 ^ (min (32 : Int).toNat IntKind.u64.bits)) = 0 := by
  show a.fdiv 4294967296 = 0
  rw [Int.fdiv_eq_ediv_of_nonneg _ (by decide)]
  omega

theorem run_eqA2 {t e : TypeId} {a b a' b' : Int} (ht : P.underlying t = some (.array 2 e)) (he : P.underlying e = some (.int .i64)) (hz : (P.info? e).map (·.size) = some 1) :
    (Op.equal t (.agg #[.int .i64 a, .int .i64 b]) (.agg #[.int .i64 a', .int .i64 b'])).run P w = .ok (decide (a = a' ∧ b = b')) w := by
  obtain ⟨inf, hi, hsz⟩ := Option.map_eq_some_iff.1 hz
  have h1 : ∀ (x y : Int), (Op.equalIn 9999 e (.int .i64 x) (.int .i64 y)).run P w = .ok (x == y) w := fun x y => run_equalIn_int w 9998 e .i64 .i64 x y he
  have hp : ∀ (x y : Int) (i : Nat), i < 2 → (part e #[.int .i64 x, .int .i64 y] (i * 1)).run P w = .ok (if i = 0 then .int .i64 x else .int .i64 y) w := by
    intro x y i hi
    match i, hi with
    | 0, _ => simp [part, isAgg, run_underlying he]
    | 1, _ => simp [part, isAgg, run_underlying he]
  show (Op.equalIn (9999 + 1) t _ _).run P w = _
  unfold Op.equalIn
  simp only [Sem.run_bind, run_underlying ht, Result.andThen_ok, sizeOf, typeInfo]
  simp [hi, hsz, Std.Legacy.Range.forIn_eq_forIn_range', Std.Legacy.Range.size, List.range']
  have e1 := hp a b 0 (by omega)
  have e2 := hp a b 1 (by omega)
  have e3 := hp a' b' 0 (by omega)
  have e4 := hp a' b' 1 (by omega)
  simp at e1 e2 e3 e4
  simp [e1, e2, e3, e4, h1]
  by_cases hab : a = a'
  · by_cases hbb : b = b' <;> simp [hab, hbb]
  · simp [hab]
theorem LV.eqA2 {t t2 e : TypeId} {x y : Operand} {a b a' b' : Int} (ht : P.underlying t = some (.array 2 e)) (he : P.underlying e = some (.int .i64)) (hz : (P.info? e).map (·.size) = some 1) (hg : P.eqGuardType P.depth t = false) (hx : ev f x = some (.agg #[.int .i64 a, .int .i64 b])) (hy : ev f y = some (.agg #[.int .i64 a', .int .i64 b'])) :
    LV P ⟨d, .binOp .eql t x y t2, ty, ps, af, gd⟩ f w (.bool (decide (a = a' ∧ b = b'))) := fun u hu => by
  have h : (binOp .eql t (.agg #[.int .i64 a, .int .i64 b]) (.agg #[.int .i64 a', .int .i64 b'])).run P w = .ok (.bool (decide (a = a' ∧ b = b'))) w := by
    unfold binOp
    simp only [Sem.run_bind, run_eqA2 ht he hz, Result.andThen_ok, Sem.run_pure]
  simp only [execOp, ev_eval hu hx, ev_eval hu hy]
  simp [eqGuard, hg, h]
theorem LV.neA2 {t t2 e : TypeId} {x y : Operand} {a b a' b' : Int} (ht : P.underlying t = some (.array 2 e)) (he : P.underlying e = some (.int .i64)) (hz : (P.info? e).map (·.size) = some 1) (hg : P.eqGuardType P.depth t = false) (hx : ev f x = some (.agg #[.int .i64 a, .int .i64 b])) (hy : ev f y = some (.agg #[.int .i64 a', .int .i64 b'])) :
    LV P ⟨d, .binOp .neq t x y t2, ty, ps, af, gd⟩ f w (.bool (decide (¬ (a = a' ∧ b = b')))) := fun u hu => by
  have h : (binOp .neq t (.agg #[.int .i64 a, .int .i64 b]) (.agg #[.int .i64 a', .int .i64 b'])).run P w = .ok (.bool (decide (¬ (a = a' ∧ b = b')))) w := by
    unfold binOp
    simp only [Sem.run_bind, run_eqA2 ht he hz, Result.andThen_ok, Sem.run_pure, decide_not]
  simp only [execOp, ev_eval hu hx, ev_eval hu hy]
  simp [eqGuard, hg, h]
theorem cut_at {g l c : Nat} (h : l < c) : (if c = l then some (⟨g, 0, none⟩ : Addr) else Option.map (fun a : Addr => a.add (l * 1)) (some ⟨g, 0, none⟩)) = some ⟨g, l, none⟩ := by
  rw [if_neg (by omega)]
  simp only [Option.map, Addr.add, Nat.mul_one]
  split
  · subst_vars; rfl
  · simp
/-- 'copy' into a part of a row of one's own. -/
theorem XE.copyAt {α : Type} {E : El α} {t t2 e : TypeId} {v v2 vd : Value} {xs ys : List α} {x y : Operand} (l dl dc : Nat) (h : SH w0 S w (rowE E e v xs :: L)) (ht : P.underlying t = some (.slice e)) (hz : (P.info? e).map (·.size) = some 1) (hE : E.sz = 1)
    (hy : Rd E v2 ys w) (hd : ∃ A' , vd = .slice A' dl dc ∧ ∀ g, v.ownBlock = some g → 0 < dl → A' = some ⟨g, l, none⟩) (hl : l + dl ≤ xs.length) (hx1 : ev f x = some vd) (hx2 : ev f y = some v2) :
    XE P ⟨d, .call { callee := .builtin .copy, args := #[x, y], argTypes := #[t, t2] }, ty, ps, af, gd⟩ f w (fun v' w' => v' = .int .i64 (min ys.length dl : Nat) ∧
      SH w0 S w' (rowE E e v (xs.take l ++ ys.take dl ++ xs.drop (l + min ys.length dl)) :: L) ∧ KB (· ∈ Value.keys v) w w') := by
  have hR : Row E e v xs w := h.hd
  obtain ⟨A2, c2, rfl, _, _, hc2⟩ := hy
  obtain ⟨A', rfl, hA⟩ := hd
  by_cases h0 : min ys.length dl = 0
  · have e1 : xs.take l ++ ys.take dl ++ xs.drop (l + min ys.length dl) = xs := by
      have : ys.take dl = [] := by
        rcases Nat.le_total ys.length dl with h' | h'
        · have : ys = [] := List.eq_nil_of_length_eq_zero (by omega)
          simp [this]
        · have : dl = 0 := by omega
          simp [this]
      rw [h0, this, List.append_nil, Nat.add_zero, List.take_append_drop]
    rw [e1]
    refine ⟨.int .i64 ((min ys.length dl : Nat) : Int), w, fun a ha => ?_, rfl, h, KB.refl _ _⟩
    have hr := run_copy_none (P := P) w t t2 ty e A' A2 dl dc ys.length c2 ht hz h0
    simp [execOp, resolve, invoke, builtin, ev_eval ha hx1, ev_eval ha hx2, hr, goInt, h0]
  · obtain ⟨ad, rfl, hnews⟩ := hc2 (by omega)
    rcases hR.2 with ⟨h1, h2⟩ | ⟨g, cap, cur, h1, hbg, hg, hnc, hcm, hcs, htake⟩
    · omega
    · subst h1
      obtain rfl := hA g rfl (by omega)
      have hcl : (E.cells (ys.take dl)).length = min ys.length dl := by rw [E.cells_length, hE, Nat.mul_one, List.length_take, Nat.min_comm]
      have hsz : cur.size = cap := by rw [hcs, hE, Nat.mul_one]
      have hr := run_copy_row (P := P) w t t2 ty e g l dl dc ad ys.length c2 cur e (E.cells (ys.take dl)) ht hz hg hcl (fun j u hu => hnews j u (by
        rw [E.cells_take, List.getElem?_take] at hu
        split at hu
        · exact hu
        · simp at hu)) (by rw [hcl, hsz]; omega) (E.cells_one _)
      have hxl : (E.cells xs).length = xs.length := by rw [E.cells_length, hE, Nat.mul_one]
      have hnl : (xs.take l ++ ys.take dl ++ xs.drop (l + min ys.length dl)).length = xs.length := by
        simp only [List.length_append, List.length_take, List.length_drop]; omega
      refine ⟨goInt ((E.cells (ys.take dl)).length : Nat), w.setRow g (cur.toList.take l ++ E.cells (ys.take dl) ++ cur.toList.drop (l + (E.cells (ys.take dl)).length)).toArray, fun a ha => ?_, ?_, ?_, ?_⟩
      · simp only [execOp, resolve, invoke, builtin, Sem.run_bind, Sem.run_pure, Result.andThen_ok, List.map_toArray, List.map_cons, List.map_nil, ev_eval ha hx1, ev_eval ha hx2, hr]
      · show goInt _ = _
        rw [hcl]; rfl
      · refine h.upd (e' := rowE E e (.slice (some ⟨g, 0, none⟩) xs.length cap) _) ⟨rfl, rfl, rfl, fun _ => Nat.le_refl _, by simp, fun k _ hk => setRow_other w g k _ (fun e => hk (by simp [rowE, Value.keys, Value.ownBlock, e]))⟩ (Row.ok ?_) (keys_nodup (.slice (some ⟨g, 0, none⟩) xs.length cap)) (fun k hk => .inl hk)
        refine ⟨E.cells_length _, .inr ⟨g, cap, _, by rw [hnl], hbg, setRow_heap w g cur _ e _ hg, by omega, hcm, ?_, ?_⟩⟩
        · simp only [List.size_toArray, List.length_append, List.length_drop, List.length_take, Array.length_toList, hcl, hE, Nat.mul_one]
          omega
        · have hct : cur.toList.take xs.length = E.cells xs := by rw [← htake, hE, Nat.mul_one]
          rw [hnl, hE, Nat.mul_one, E.cells_append, E.cells_append, E.cells_take xs l, E.cells_drop xs, hE, Nat.mul_one, Nat.mul_one, ← hct, hcl]
          have hlt : l + min ys.length dl ≤ xs.length := by omega
          have hcl2 : cur.toList.length = cap := by rw [Array.length_toList, hsz]
          rw [List.take_append, List.take_append, List.take_take, List.take_of_length_le (l := E.cells (ys.take dl)) (by rw [hcl, List.length_take, hcl2]; omega), List.length_append, List.length_take, hcl, hcl2]
          simp only [List.take_take, List.drop_take, Nat.min_eq_left (show l ≤ xs.length by omega), Nat.min_eq_right (show l ≤ xs.length by omega), Nat.min_eq_left (show l ≤ cap by omega)]
      · exact ⟨rfl, rfl, rfl, fun _ => Nat.le_refl _, by simp, fun k _ hk => setRow_other w g k _ (fun e => hk (by simp [Value.keys, Value.ownBlock, e]))⟩
end
theorem SH.nilRow {α : Type} {E : El α} {T : TypeId} {w0 w : World} {S : Nat → Prop} {L : List Ent} (h : SH w0 S w L) : SH w0 S w (rowE E T (.slice none 0 0) ([] : List α) :: L) :=
  SH.more h (KB.refl No _) (Row.ok (E := E) (T := T) (xs := []) Row.nil) (keys_nodup (.slice none 0 0)) (fun _ h_ => by cases h_)
theorem Rd.max {α : Type} {E : El α} {v : Value} {xs : List α} {w : World} (h : Rd E v xs w) : xs.length ≤ 9223372036854775807 := by
  obtain ⟨A, c, e, h1, h2, _⟩ := h
  have : maxLen = 9223372036854775807 := by decide
  omega
/-! ### A slice's first ones -/
def cutA (A : Option Addr) (c sz : Nat) : Option Addr := if c = 0 then A else A.map (fun a => a.add (0 * sz))
theorem few_rd {α : Type} {E : El α} {A : Option Addr} {c : Nat} {xs : List α} {S : Nat → Prop} {w : World} (k : Nat) (h : St S w (Rd E (.slice A xs.length c) xs)) : St S w (Rd E (.slice (cutA A c E.sz) (xs.take k).length c) (xs.take k)) :=
  h.imp fun w' h' => by
    have hc := Rd.cap h'
    have h2 := Rd.cut (l := 0) (h := min k xs.length) (m := c) h' (by omega) (by omega) (by omega) (by omega)
    have e : (xs.take (min k xs.length)).drop 0 = xs.take k := by
      rw [List.drop_zero]
      rcases Nat.le_total k xs.length with h3 | h3
      · rw [Nat.min_eq_left h3]
      · rw [Nat.min_eq_right h3, List.take_of_length_le (Nat.le_refl _), List.take_of_length_le h3]
    rw [e, show min k xs.length - 0 = (xs.take k).length by rw [List.length_take]; rfl] at h2
    exact h2
end Go.Gv

namespace Go.Gv
open Go
theorem LV.to {P : Program} {o : Oper} {f : Env} {w : World} {v v' : Value} (h : v = v') (l : LV P o f w v) : LV P o f w v' := h ▸ l
end Go.Gv

namespace Go.Gv
open Go Go.RowKit
theorem split_at {β : Type} {l : List β} {i : Nat} {d : β} (h : i < l.length) : l = l.take i ++ l.getD i d :: l.drop (i + 1) := by
  have : l.getD i d = l[i] := by simp [List.getD, h]
  rw [this, List.getElem_cons_drop, List.take_append_drop]
section
variable {P : Program} {f : Env} {w : World} {d : Option Tmp} {ty : TypeId} {ps : String} {af : Array Edge} {gd : Option (Nat × Bool)} {w0 : World} {S : Nat → Prop} {L : List Ent}
theorem XSE.rr1 {α : Type} {E : El α} {T T2 e : TypeId} {x y : Operand} {A : Addr} {v0 : Value} {n c o : Nat} {i j : Int} {v : Value} {rows : List (SV × List α)} {k : α} (x2 : α)
    (h : SH w0 S w (rrE E T2 e v0 rows :: L)) (hi0 : 0 ≤ i) (hi1 : i < rows.length) (hv0 : (rows.getD i.toNat default).1.v = .slice (some A) n c) (h0 : 0 ≤ j) (h1 : j < (rows.getD i.toNat default).2.length) (ho : o < E.sz)
    (hz : (P.info? T).map (·.size) = some 1) (hv : v.oneCell' = true) (hx : ev f x = some (.pointer (some ((A.add (j.toNat * E.sz)).add o)))) (hy : ev f y = some v) (he : E.enc x2 = (E.enc ((rows.getD i.toNat default).2.getD j.toNat k)).set o v) :
    XSE P ⟨d, .store T x y, ty, ps, af, gd⟩ f w (fun w' => SH w0 S w' (rrE E T2 e v0 (rows.set i.toNat ((rows.getD i.toNat default).1, (rows.getD i.toNat default).2.set j.toNat x2)) :: L) ∧
      KB (· ∈ Value.keys (rows.getD i.toNat default).1.v) w w') := by
  have hlt : i.toNat < rows.length := by omega
  generalize hp : rows.getD i.toNat default = p at *
  have hs : rows = rows.take i.toNat ++ p :: rows.drop (i.toNat + 1) := hp ▸ split_at hlt
  have hs2 : rows.set i.toNat (p.1, p.2.set j.toNat x2) = rows.take i.toNat ++ (p.1, p.2.set j.toNat x2) :: rows.drop (i.toNat + 1) := by
    rw [List.set_eq_take_append_cons_drop, if_pos hlt]
  have h1' := h.unrr
  have e1 : rows.map (inE E e) = (rows.take i.toNat).map (inE E e) ++ rowE E e p.1.v p.2 :: (rows.drop (i.toNat + 1)).map (inE E e) := by
    conv => lhs; rw [hs]
    rw [List.map_append, List.map_cons]
    rfl
  rw [e1, List.append_assoc, List.cons_append] at h1'
  have h2 := SH.front (rowE eV T2 v0 (rows.map (·.1)) :: (rows.take i.toNat).map (inE E e)) h1'
  obtain ⟨w', q1, q2, q3⟩ := XSE.row1 (d := d) (ty := ty) (ps := ps) (af := af) (gd := gd) x2 h2 hv0 h0 h1 ho hz hv hx hy he
  refine ⟨w', q1, ?_, q3⟩
  refine SH.rr ?_
  have e2 : (rows.set i.toNat (p.1, p.2.set j.toNat x2)).map (·.1) = rows.map (·.1) := by
    rw [hs2]
    conv => rhs; rw [hs]
    simp
  rw [e2, hs2, List.map_append, List.map_cons, List.append_assoc, List.cons_append]
  refine q2.perm ?_
  exact (List.perm_middle (l₁ := rowE eV T2 v0 (rows.map (·.1)) :: (rows.take i.toNat).map (inE E e))).symm
end
end Go.Gv

namespace Go.Gv
open Go Go.RowKit
/-- A line: its text, and whether it is bare. -/
abbrev Ln := ByteArray × Bool
def lnD : Ln := (ByteArray.empty, false)
def eL : El Ln := ⟨2, fun x => [.string x.1, .bool x.2], fun _ => rfl, fun _ u h => by simp at h; rcases h with rfl | rfl <;> rfl⟩
/-- A number and a slice. -/
abbrev ED := Int × SV
def eE : El ED := ⟨2, fun x => [.int .i64 x.1, x.2.v], fun _ => rfl, fun _ u h => by simp at h; rcases h with rfl | rfl <;> rfl⟩
theorem beq_bytes (a b : ByteArray) : (a == b) = decide (a = b) := by
  obtain ⟨x⟩ := a
  obtain ⟨y⟩ := b
  show (x == y) = _
  by_cases h : x = y <;> simp [h]
section
variable {P : Program} {f : Env} {w : World} {d : Option Tmp} {ty : TypeId} {ps : String} {af : Array Edge} {gd : Option (Nat × Bool)} {w0 : World} {S : Nat → Prop} {L : List Ent}
/-! #### lines compared -/
theorem run_eqLn {t : TypeId} {f0 f1 : Field} {a c : ByteArray} {b e : Bool} (ht : P.underlying t = some (.struct #[f0, f1])) (h0 : P.underlying f0.type = some .string) (h1 : P.underlying f1.type = some .bool)
    (hn0 : f0.name ≠ "_") (hn1 : f1.name ≠ "_") (ho0 : f0.offset = 0) (ho1 : f1.offset = 1) (hp : P.stoodInHeld t = false) :
    (Op.equal t (.agg #[.string a, .bool b]) (.agg #[.string c, .bool e])).run P w = .ok (decide (a = c ∧ b = e)) w := by
  have hf : P.fieldsOf t = #[f0, f1] := by unfold Program.fieldsOf; rw [ht]
  show (Op.equalIn (9999 + 1) t _ _).run P w = _
  rw [run_equalIn_struct w 9999 t _ _ (by rw [hf]; exact ht) hp, hf]
  have p0 : ∀ (x : ByteArray) (y : Bool), (part f0.type #[.string x, .bool y] 0).run P w = .ok (.string x) w := fun x y => by simp [part, isAgg, run_underlying h0]
  have p1 : ∀ (x : ByteArray) (y : Bool), (part f1.type #[.string x, .bool y] 1).run P w = .ok (.bool y) w := fun x y => by simp [part, isAgg, run_underlying h1]
  have q0 : (Op.equalIn 9999 f0.type (.string a) (.string c)).run P w = .ok (a == c) w := by
    show (Op.equalIn (9998 + 1) f0.type _ _).run P w = _
    unfold Op.equalIn
    simp [run_underlying h0]
  have q1 : (Op.equalIn 9999 f1.type (.bool b) (.bool e)).run P w = .ok (b == e) w := by
    show (Op.equalIn (9998 + 1) f1.type _ _).run P w = _
    unfold Op.equalIn
    simp [run_underlying h1]
  simp only [Op.eqFields, Sem.run_bind, Sem.run_ite, hn0, hn1, ne_eq, not_false_eq_true, if_true, ho0, ho1, p0, p1, q0, q1, Result.andThen_ok]
  rw [beq_bytes]
  by_cases h : a = c <;> by_cases h' : b = e <;> simp [h, h']
theorem LV.eqLn {t t2 : TypeId} {x y : Operand} {f0 f1 : Field} {a c : ByteArray} {b e : Bool} (ht : P.underlying t = some (.struct #[f0, f1])) (h0 : P.underlying f0.type = some .string) (h1 : P.underlying f1.type = some .bool)
    (hn : (f0.name ≠ "_" ∧ f1.name ≠ "_") ∧ f0.offset = 0 ∧ f1.offset = 1) (hp : P.stoodInHeld t = false) (hg : P.eqGuardType P.depth t = false) (hx : ev f x = some (.agg #[.string a, .bool b])) (hy : ev f y = some (.agg #[.string c, .bool e])) :
    LV P ⟨d, .binOp .eql t x y t2, ty, ps, af, gd⟩ f w (.bool (decide (a = c ∧ b = e))) := fun u hu => by
  have h : (binOp .eql t (.agg #[.string a, .bool b]) (.agg #[.string c, .bool e])).run P w = .ok (.bool (decide (a = c ∧ b = e))) w := by
    unfold binOp
    simp only [Sem.run_bind, run_eqLn ht h0 h1 hn.1.1 hn.1.2 hn.2.1 hn.2.2 hp, Result.andThen_ok, Sem.run_pure]
  simp only [execOp, ev_eval hu hx, ev_eval hu hy]
  simp [eqGuard, hg, h]
theorem LV.neLn {t t2 : TypeId} {x y : Operand} {f0 f1 : Field} {a c : ByteArray} {b e : Bool} (ht : P.underlying t = some (.struct #[f0, f1])) (h0 : P.underlying f0.type = some .string) (h1 : P.underlying f1.type = some .bool)
    (hn : (f0.name ≠ "_" ∧ f1.name ≠ "_") ∧ f0.offset = 0 ∧ f1.offset = 1) (hp : P.stoodInHeld t = false) (hg : P.eqGuardType P.depth t = false) (hx : ev f x = some (.agg #[.string a, .bool b])) (hy : ev f y = some (.agg #[.string c, .bool e])) :
    LV P ⟨d, .binOp .neq t x y t2, ty, ps, af, gd⟩ f w (.bool (decide (¬ (a = c ∧ b = e)))) := fun u hu => by
  have h : (binOp .neq t (.agg #[.string a, .bool b]) (.agg #[.string c, .bool e])).run P w = .ok (.bool (decide (¬ (a = c ∧ b = e)))) w := by
    unfold binOp
    simp only [Sem.run_bind, run_eqLn ht h0 h1 hn.1.1 hn.1.2 hn.2.1 hn.2.2 hp, Result.andThen_ok, Sem.run_pure, decide_not]
  simp only [execOp, ev_eval hu hx, ev_eval hu hy]
  simp [eqGuard, hg, h]
/-! #### a struct into a variable -/
theorem XSE.blkAgg {T : TypeId} {x y : Operand} {b : Nat} {cs : Array Value} {B : TypeId} (cs' : Array Value) (h : SH w0 S w (blkE b B cs :: L)) (hz : (P.info? T).map (·.size) = some cs'.size) (hs : cs.size = cs'.size) (h1 : cs'.all (·.oneCell') = true)
    (hx : ev f x = some (.pointer (some ⟨b, 0, none⟩))) (hy : ev f y = some (.agg cs')) :
    XSE P ⟨d, .store T x y, ty, ps, af, gd⟩ f w (fun w' => SH w0 S w' (blkE b B cs' :: L) ∧ KB (· = b) w w') := by
  have hg : w.heap[b]? = some (.cells cs B (0, 0)) := h.hd
  have hr := run_storeVar_row (P := P) w b B T cs cs' hg hz hs h1
  have hk : KB (· = b) w (w.setRow b cs') := ⟨rfl, rfl, rfl, fun _ => Nat.le_refl _, by simp, fun k _ hk => setRow_other w b k cs' (fun e => hk e)⟩
  refine ⟨w.setRow b cs', fun a ha => ?_, ?_, hk⟩
  · simp only [execOp, ev_eval ha hx, ev_eval ha hy, Instr.storeAt, Instr.sureAddr, Sem.run_bind, Sem.run_pure, Result.andThen_ok, hr]
  · exact h.upd (e' := blkE b B cs') (hk.mono fun k hk => by simp [blkE, hk]) (Blk.ok (setRow_heap w b cs cs' B (0, 0) hg)) (by simp [blkE]) (fun k hk => .inl hk)
end
/-! ### Nested rows: the inner ones -/
section
variable {ρ α : Type} {sv : ρ → SV} {E : El α} {T1 : TypeId} {rows A B : List (ρ × List α)} {r : ρ} {xs : List α} {w0 w w' : World} {S : Nat → Prop} {L : List Ent}
def insE (sv : ρ → SV) (E : El α) (T1 : TypeId) (rows : List (ρ × List α)) : Ent :=
  ⟨rows.flatMap (fun p => Value.keys (sv p.1).v), fun w => ∀ p ∈ rows, Row E T1 (sv p.1).v p.2 w⟩
theorem ins_ok (h : ∀ p ∈ rows, Row E T1 (sv p.1).v p.2 w) : (insE sv E T1 rows).Ok w := by
  refine ⟨h, fun k hk => ?_, fun w' hk hs p hp => ?_⟩
  · simp only [insE, List.mem_flatMap] at hk
    obtain ⟨p, hp, hk⟩ := hk
    exact Row.lt (h p hp) k hk
  · exact (Row.ok (h p hp)).loc w' (fun k hk' => hk k (by simp only [insE, List.mem_flatMap]; exact ⟨p, hp, hk'⟩)) hs
/-- No inner rows. -/
theorem SH.ins0 (h : SH w0 S w L) : SH w0 S w (insE sv E T1 ([] : List (ρ × List α)) :: L) :=
  SH.more h (KB.refl No _) (ins_ok (by simp)) (by simp [insE]) (fun k hk => by simp [insE] at hk)
theorem keys_ins (A B : List (ρ × List α)) (r : ρ) (xs : List α) : (keys (insE sv E T1 (A ++ (r, xs) :: B) :: L)).Perm (keys (rowE E T1 (sv r).v xs :: insE sv E T1 (A ++ B) :: L)) := by
  rw [keys_cons, keys_cons, keys_cons, ← List.append_assoc]
  refine List.Perm.append_right _ ?_
  simp only [insE, rowE, List.flatMap_append, List.flatMap_cons]
  exact List.perm_append_comm_assoc _ _ _
/-- One inner row by itself. -/
theorem SH.insOut (h : SH w0 S w (insE sv E T1 (A ++ (r, xs) :: B) :: L)) : SH w0 S w (rowE E T1 (sv r).v xs :: insE sv E T1 (A ++ B) :: L) := by
  have hp : ∀ p ∈ A ++ (r, xs) :: B, Row E T1 (sv p.1).v p.2 w := h.hd
  have hk := keys_ins (sv := sv) (E := E) (T1 := T1) (L := L) A B r xs
  refine ⟨h.kb, fun e he => ?_, hk.nodup_iff.1 h.nd, fun k hk' => h.new k (hk.mem_iff.2 hk')⟩
  rcases List.mem_cons.1 he with rfl | he
  · exact Row.ok (hp (r, xs) (by simp))
  · rcases List.mem_cons.1 he with rfl | he
    · exact ins_ok fun p hpm => hp p (by simp only [List.mem_append, List.mem_cons] at hpm ⊢; rcases hpm with h | h <;> simp [h])
    · exact h.ok e (List.mem_cons_of_mem _ he)
/-- And back. -/
theorem SH.insIn {v : Value} (hv : (sv r).v = v) (h : SH w0 S w (rowE E T1 v xs :: insE sv E T1 (A ++ B) :: L)) : SH w0 S w (insE sv E T1 (A ++ (r, xs) :: B) :: L) := by
  subst hv
  have hk := keys_ins (sv := sv) (E := E) (T1 := T1) (L := L) A B r xs
  have h1 : Row E T1 (sv r).v xs w := h.hd
  have h2 : ∀ p ∈ A ++ B, Row E T1 (sv p.1).v p.2 w := (h.ok (insE sv E T1 (A ++ B)) (by simp)).now
  refine ⟨h.kb, fun e he => ?_, hk.nodup_iff.2 h.nd, fun k hk' => h.new k (hk.mem_iff.1 hk')⟩
  rcases List.mem_cons.1 he with rfl | he
  · refine ins_ok fun p hpm => ?_
    simp only [List.mem_append, List.mem_cons] at hpm
    rcases hpm with hpm | rfl | hpm
    · exact h2 p (by simp [hpm])
    · exact h1
    · exact h2 p (by simp [hpm])
  · exact h.ok e (List.mem_cons_of_mem _ (List.mem_cons_of_mem _ he))
theorem SH.insMore {v : Value} (hv : (sv r).v = v) (h : SH w0 S w (rowE E T1 v xs :: insE sv E T1 A :: L)) : SH w0 S w (insE sv E T1 (A ++ [(r, xs)]) :: L) :=
  SH.insIn (B := []) hv (by rw [List.append_nil]; exact h)
/-! #### nested rows that are read -/
def RdIn (sv : ρ → SV) (E : El α) (rows : List (ρ × List α)) (w : World) : Prop := ∀ p ∈ rows, Rd E (sv p.1).v p.2 w
theorem SH.rdIn (h : SH w0 S w L) (he : insE sv E T1 rows ∈ L) : St No w (RdIn sv E rows) := (h.steN he).imp fun _ h p hp => Row.rd (h p hp)
theorem St.in0 : St S w (RdIn sv E ([] : List (ρ × List α))) := fun _ _ p hp => by cases hp
theorem St.inCons {v : Value} (hv : (sv r).v = v) (h : St S w (Rd E v xs)) (hr : St S w (RdIn sv E rows)) : St S w (RdIn sv E ((r, xs) :: rows)) := fun w' hk p hp => by
  subst hv
  rcases List.mem_cons.1 hp with rfl | hp
  · exact h w' hk
  · exact hr w' hk p hp
theorem St.inSnoc {v : Value} (hv : (sv r).v = v) (h : St S w (Rd E v xs)) (hr : St S w (RdIn sv E rows)) : St S w (RdIn sv E (rows ++ [(r, xs)])) := fun w' hk p hp => by
  subst hv
  rcases List.mem_append.1 hp with hp | hp
  · exact hr w' hk p hp
  · simp at hp; subst hp; exact h w' hk
end
/-- Element i of a row of edits: its cells, and its lines. -/
theorem St.eltE {α : Type} {E : El α} {w : World} {v : Value} {rows : List (ED × List α)} (h : St No w (Rd eE v (rows.map (·.1)))) (hr : St No w (RdIn (·.2) E rows)) (d : ED × List α) (i : Int) (h0 : 0 ≤ i) (h1 : i < rows.length) :
    ∃ A c A1 c1, v = .slice (some A) rows.length c ∧ (∀ w', KB No w w' → ∀ (t : Nat) u, [Value.int .i64 (rows.getD i.toNat d).1.1, .slice A1 (rows.getD i.toNat d).2.length c1][t]? = some u → w'.cell? ((A.add (i.toNat * 2)).add t) = some u) ∧
      (rows.getD i.toNat d).1.2.v = .slice A1 (rows.getD i.toNat d).2.length c1 ∧ St No w (Rd E (.slice A1 (rows.getD i.toNat d).2.length c1) (rows.getD i.toNat d).2) := by
  have hlt : i.toNat < rows.length := by omega
  have hm := getD_mem (d := d) hlt
  obtain ⟨A, c, e, g⟩ := St.elt h d.1 i h0 (by simpa using h1)
  obtain ⟨A1, c1, e1⟩ := (hr.now _ hm).len
  have hd : (rows.map (·.1)).getD i.toNat d.1 = (rows.getD i.toNat d).1 := by simp [List.getD, hlt]
  refine ⟨A, c, A1, c1, by rw [e, List.length_map], fun w' hk t u hu => ?_, e1, hr.imp fun w' hw => by rw [← e1]; exact hw _ hm⟩
  refine g w' hk t u ?_
  rw [hd]
  show [Value.int .i64 (rows.getD i.toNat d).1.1, (rows.getD i.toNat d).1.2.v][t]? = some u
  rw [e1]
  exact hu
theorem St.innerQ {ρ α : Type} {sv : ρ → SV} {E : El α} {rows : List (ρ × List α)} {p : ρ × List α} {v' : Value} {S : Nat → Prop} {w : World} (h : St S w (RdIn sv E rows)) (hm : p ∈ rows) (e : (sv p.1).v = v') : St S w (Rd E v' p.2) := h.imp fun _ hw => e ▸ hw p hm
section
variable {P : Program} {f : Env} {w : World} {d : Option Tmp} {ty : TypeId} {ps : String} {af : Array Edge} {gd : Option (Nat × Bool)} {w0 : World} {S : Nat → Prop} {L : List Ent}
/-- 'append(s, edit)', the outer row one's own. -/
theorem XE.appendQ {ρ α : Type} {E2 : El ρ} {t e : TypeId} {z : Value} {bytes : Nat} {v vb : Value} {rows : List (ρ × List α)} {r : ρ} (ys : List α) {x y : Operand}
    (h : SH w0 S w (rowE E2 e v (rows.map (·.1)) :: L)) (ht : P.underlying t = some (.slice e)) (hi : TI P e z E2.sz bytes) (hzs : z.cells.size = E2.sz) (hy : Rd E2 vb [r] w) (hx1 : ev f x = some v) (hx2 : ev f y = some vb)
    (hb : (rows.length + 1) * bytes ≤ 140737488355328) (hb2 : rows.length + 1 ≤ 140737488355328) :
    XE P ⟨d, .call { callee := .builtin .append, args := #[x, y], argTypes := #[t, t] }, ty, ps, af, gd⟩ f w (fun v' w' =>
      ∃ A c, v' = .slice A (rows ++ [(r, ys)]).length c ∧ SH w0 S w' (rowE E2 e (.slice A (rows ++ [(r, ys)]).length c) ((rows ++ [(r, ys)]).map (·.1)) :: L) ∧ KB (· ∈ Value.keys v) w w') := by
  obtain ⟨v', w', h1, A, c, e1, h2, h3⟩ := XE.append (d := d) (ty := ty) (ps := ps) (af := af) (gd := gd) h ht hi hzs hy hx1 hx2 (by simpa using hb) (by simpa using hb2)
  have hl : (rows.map (·.1) ++ [r]).length = (rows ++ [(r, ys)]).length := by simp
  have hm : rows.map (·.1) ++ [r] = (rows ++ [(r, ys)]).map (·.1) := by simp
  rw [hl] at e1
  rw [hl, hm] at h2
  exact ⟨v', w', h1, A, c, e1, h2, h3⟩
end
theorem Blk.agg {w : World} {b : Nat} {T : TypeId} {cs : List Value} (h : w.heap[b]? = some (.cells cs.toArray T (0, 0))) : ∀ w', KB No w w' → ∀ (j : Nat) u, cs[j]? = some u → w'.cell? ((⟨b, 0, none⟩ : Addr).add j) = some u := fun w' hk j u hu => by
  have e : (⟨b, 0, none⟩ : Addr).add j = ⟨b, j, none⟩ := by unfold Addr.add; split <;> simp_all
  rw [e]
  exact Blk.cellN h j (by simpa using hu) w' hk
section
variable {P : Program} {f : Env} {w : World} {d : Option Tmp} {ty : TypeId} {ps : String} {af : Array Edge} {gd : Option (Nat × Bool)}
theorem LV.eqNil {t t2 e : TypeId} {x y : Operand} {A : Option Addr} {n c : Nat} (ht : P.underlying t = some (.slice e)) (hx : ev f x = some (.slice A n c)) (hy : ev f y = some (.slice none 0 0)) :
    LV P ⟨d, .binOp .eql t x y t2, ty, ps, af, gd⟩ f w (.bool A.isNone) := fun u hu => by
  have h1 : (Op.equal t (.slice A n c) (.slice none 0 0)).run P w = .ok A.isNone w := by
    show (Op.equalIn (9999 + 1) t _ _).run P w = _
    unfold Op.equalIn
    cases A <;> simp [run_underlying ht]
  have h : (binOp .eql t (.slice A n c) (.slice none 0 0)).run P w = .ok (.bool A.isNone) w := by
    unfold binOp
    simp [h1]
  simp only [execOp, ev_eval hu hx, ev_eval hu hy]
  simp [eqGuard, h]
end
theorem Rd.isNone {α : Type} {E : El α} {A : Option Addr} {n c : Nat} {xs : List α} {w : World} (h : Rd E (.slice A n c) xs w) (hn : A.isNone = true) : xs = [] := by
  obtain ⟨A', c', e, _, _, h3⟩ := h
  injection e with e1 _ _
  subst e1
  rcases Nat.lt_or_ge 0 xs.length with h4 | h4
  · obtain ⟨ad, ha, _⟩ := h3 h4
    subst ha
    simp at hn
  · exact List.eq_nil_of_length_eq_zero (by omega)
section
variable {ρ α : Type} [Inhabited ρ] {sv : ρ → SV} {E : El α} {T1 : TypeId} {rows : List (ρ × List α)} {r : ρ} {xs : List α} {w0 w : World} {S : Nat → Prop} {L : List Ent} {k : Nat}
theorem SH.insAt (h : SH w0 S w (insE sv E T1 rows :: L)) (hk : k < rows.length) : SH w0 S w (rowE E T1 (sv (rows.getD k default).1).v (rows.getD k default).2 :: insE sv E T1 (rows.take k ++ rows.drop (k + 1)) :: L) := by
  have hs : rows = rows.take k ++ ((rows.getD k default).1, (rows.getD k default).2) :: rows.drop (k + 1) := split_at hk
  rw [hs] at h
  exact SH.insOut h
omit [Inhabited ρ] in
theorem SH.nestSet {E2 : El ρ} {e : TypeId} {v v' : Value} (hk : k < rows.length) (hv : (sv r).v = v') (h : SH w0 S w (rowE E2 e v ((rows.map (·.1)).set k r) :: rowE E T1 v' xs :: insE sv E T1 (rows.take k ++ rows.drop (k + 1)) :: L)) :
    SH w0 S w (rowE E2 e v ((rows.set k (r, xs)).map (·.1)) :: insE sv E T1 (rows.set k (r, xs)) :: L) := by
  have e1 : (rows.set k (r, xs)).map (·.1) = (rows.map (·.1)).set k r := by rw [List.map_set]
  have e2 : rows.set k (r, xs) = rows.take k ++ (r, xs) :: rows.drop (k + 1) := by rw [List.set_eq_take_append_cons_drop, if_pos hk]
  rw [e1, e2]
  exact (SH.insIn hv (h.perm ((List.Perm.swap _ _ _).trans ((List.Perm.swap _ _ _).cons _)))).perm (List.Perm.swap _ _ _)
end
/-! ### Reading while an own row may turn -/
theorem St.eltS {α : Type} {E : El α} {v : Value} {xs : List α} {w : World} {S : Nat → Prop} (h : St S w (Rd E v xs)) (d : α) (i : Int) (h0 : 0 ≤ i) (h1 : i < xs.length) :
    ∃ A c, v = .slice (some A) xs.length c ∧ ∀ w', KB S w w' → ∀ (t : Nat) u, (E.enc (xs.getD i.toNat d))[t]? = some u → w'.cell? ((A.add (i.toNat * E.sz)).add t) = some u := by
  obtain ⟨A, c, e, h2, h3, h4⟩ := h.now
  obtain ⟨ad, ha, hc⟩ := h4 (by omega)
  subst ha
  refine ⟨ad, c, e, fun w' hk t u hu => ?_⟩
  obtain ⟨A', c', e', _, _, h4'⟩ := h w' hk
  obtain ⟨ad', ha', hc'⟩ := h4' (by omega)
  rw [e] at e'
  injection e' with e1 _ _
  rw [ha'] at e1
  injection e1 with e1
  subst e1
  rw [addr_add']
  refine hc' _ u (E.cells_get xs i.toNat (xs.getD i.toNat d) t u ?_ hu)
  have : i.toNat < xs.length := by omega
  simp [List.getD, this]
theorem SH.stF {w0 w : World} {S : Nat → Prop} {L : List Ent} {e e' : Ent} (h : SH w0 S w (e :: L)) (he : e' ∈ L) : St (· ∈ e.ks) w e'.p :=
  SH.ste h (List.mem_cons_of_mem _ he) (SH.ne h he)
theorem Blk.cellS {w : World} {b : Nat} {T : TypeId} {cs : Array Value} {S : Nat → Prop} (h : St S w (fun w => w.heap[b]? = some (.cells cs T (0, 0)))) (o : Nat) {v : Value} (hv : cs[o]? = some v) : ∀ w', KB S w w' → w'.cell? ⟨b, o, none⟩ = some v := fun w' hk =>
  (Blk.cell (h w' hk) o).trans hv
theorem SH.insAtM {ρ α : Type} [Inhabited ρ] {sv : ρ → SV} {E : El α} {T1 : TypeId} {rows : List (ρ × List α)} {w0 w : World} {S : Nat → Prop} {L : List Ent} {k : Nat} (h : SH w0 S w (insE sv E T1 rows :: L)) (hk : k < rows.length) :
    SH w0 S w (rowE E T1 (.slice (sv ((rows.map (·.1)).getD k default)).A (sv ((rows.map (·.1)).getD k default)).n (sv ((rows.map (·.1)).getD k default)).c) (rows.getD k default).2 :: insE sv E T1 (rows.take k ++ rows.drop (k + 1)) :: L) := by
  have e : (rows.getD k default).1 = (rows.map (·.1)).getD k default := by simp [List.getD, hk]
  have h2 := SH.insAt h hk
  rw [e] at h2
  exact h2
end Go.Gv

namespace Go.Gv
open Go
theorem tup2 {a b a' b' : Value} (h : a = a') (k : b = b') : Value.tuple #[a, b] = .tuple #[a', b'] := by rw [h, k]
theorem tup3 {a b c a' b' c' : Value} (h : a = a') (k : b = b') (l : c = c') : Value.tuple #[a, b, c] = .tuple #[a', b', c'] := by rw [h, k, l]
theorem St.rrOf {α : Type} {E : El α} {v : Value} {rows : List (SV × List α)} {S : Nat → Prop} {w : World} (h : St S w (Rd eV v (rows.map (·.1)))) (hi : St S w (RdIn (fun s : SV => s) E rows)) : St S w (RdRR E v rows) := fun w' hk => ⟨h w' hk, hi w' hk⟩
theorem St.norm {α : Type} {E : El α} {A : Option Addr} {n c : Nat} {xs : List α} {S : Nat → Prop} {w : World} (h : St S w (Rd E (.slice A n c) xs)) : St S w (Rd E (.slice A xs.length c) xs) := by
  obtain ⟨A', c', e, _⟩ := h.now
  injection e with _ e2 _
  subst e2
  exact h
theorem Calls.asB {P : Program} {g : FuncId} {args : Array Value} {w : World} {b c : Bool} {K : World → Prop} (h : Calls P g args w fun e w' => ∃ v, e = .returned v ∧ (fun v w' => v = .bool c ∧ K w') v w') (hc : c = b) :
    Calls P g args w fun e w' => ∃ v, e = .returned v ∧ (fun v w' => v = .bool b ∧ K w') v w' := hc ▸ h
theorem Calls.asI {P : Program} {g : FuncId} {args : Array Value} {w : World} {k : IntKind} {b c : Int} {K : World → Prop} (h : Calls P g args w fun e w' => ∃ v, e = .returned v ∧ (fun v w' => v = .int k c ∧ K w') v w') (hc : c = b) :
    Calls P g args w fun e w' => ∃ v, e = .returned v ∧ (fun v w' => v = .int k b ∧ K w') v w' := hc ▸ h
def LNV (x : Ln) : Value := .agg #[.string x.1, .bool x.2]
end Go.Gv

namespace Go.Gv
open Go
section
variable {P : Program} {f : Env} {w : World} {d : Option Tmp} {ty : TypeId} {ps : String} {af : Array Edge} {gd : Option (Nat × Bool)}
theorem resC {fn : Func} {t : Tmp} {tt : TypeId} {ad : Addr} {a : Act} {u : TypeDesc} {z : Value} {size bytes : Nat} {cs : List Value} (h : fn.results = #[.cell t tt]) (ha : FG a f) (hv : f t = some (.pointer (some ad)))
    (ht : P.underlying tt = some u) (hu : (match u with | .struct _ | .array _ _ => true | _ => false) = true) (hi : TI P tt z size bytes) (hl : cs.length = size) (hc : ∀ (j : Nat) u, cs[j]? = some u → w.cell? (ad.add j) = some u) :
    (results fn a.tmps).run P w = .ok (.agg cs.toArray) w := by
  obtain ⟨i, hj, _, hs, _⟩ := hi.get
  have hrun := run_loadCells_list (P := P) (w := w) ad cs hc
  rw [hl] at hrun
  have h1 := ha t _ hv
  cases u <;> simp at hu <;> simp [results, h, h1, asAddr, loadVar, isAgg, run_underlying ht, sizeOf, typeInfo, hj, hs, hrun]
theorem cells_u8 (xs : List Int) : eU8.cells xs = xs.map (Value.int .u8) := by
  induction xs with
  | nil => rfl
  | cons x l ih => rw [El.cells_cons, ih]; rfl
theorem LV.strOf {src e dst : TypeId} {x : Operand} {A : Option Addr} {n c : Nat} {xs : List Int} (hs : P.underlying src = some (.slice e)) (he : P.underlying e = some (.int .u8)) (hd : P.underlying dst = some .string) (hx : ev f x = some (.slice A n c)) (hR : Rd eU8 (.slice A n c) xs w) :
    LV P ⟨d, .convert src dst x, ty, ps, af, gd⟩ f w (.string (strOfNums xs)) := fun b hb => by
  obtain ⟨A', c', e1, _, _, h3⟩ := hR
  injection e1 with e2 e3 e4
  subst e2 e3 e4
  have key : (Conv.bytesToString (.slice A xs.length c)).run P w = .ok (.string (strOfNums xs)) w := by
    rcases A with _ | ad
    · have hz : xs = [] := by
        rcases Nat.eq_zero_or_pos xs.length with h | h
        · exact List.eq_nil_of_length_eq_zero h
        · obtain ⟨ad, h4, _⟩ := h3 h; cases h4
      subst hz
      rfl
    · have hl : (loadCells ad xs.length).run P w = .ok (xs.map (Value.int .u8)).toArray w := by
        have := run_loadCells_list (P := P) w ad (xs.map (Value.int .u8)) (fun j v hj => by
          have hjl : j < xs.length := by
            rcases Nat.lt_or_ge j xs.length with h | h
            · exact h
            · simp [List.getElem?_eq_none (show (xs.map (Value.int .u8)).length ≤ j by simpa using h)] at hj
          obtain ⟨ad2, h4, h5⟩ := h3 (by omega)
          injection h4 with h4
          subst h4
          exact h5 j v (by rw [cells_u8]; exact hj))
        simpa using this
      rw [run_bytesToString w _ _ c xs hl, foldl_push_bytes]
      simp [strOfNums, ByteArray.empty, ByteArray.emptyWithCapacity]
      rfl
  simp [execOp, ev_eval hb hx, run_convert_bytes_string w src dst e _ _ c hs he hd, key]
end
section
variable {P : Program} {f : Env} {w : World} {d : Option Tmp} {ty : TypeId} {ps : String} {af : Array Edge} {gd : Option (Nat × Bool)} {w0 : World} {S : Nat → Prop} {L : List Ent}
theorem run_eq3 {t : TypeId} {f0 f1 f2 : Field} {a b c a' b' c' : Int} (ht : P.underlying t = some (.struct #[f0, f1, f2])) (h0 : P.underlying f0.type = some (.int .i64)) (h1 : P.underlying f1.type = some (.int .i64)) (h2 : P.underlying f2.type = some (.int .i64))
    (hn0 : f0.name ≠ "_") (hn1 : f1.name ≠ "_") (hn2 : f2.name ≠ "_") (ho0 : f0.offset = 0) (ho1 : f1.offset = 1) (ho2 : f2.offset = 2) (hp : P.stoodInHeld t = false) :
    (Op.equal t (.agg #[.int .i64 a, .int .i64 b, .int .i64 c]) (.agg #[.int .i64 a', .int .i64 b', .int .i64 c'])).run P w = .ok (decide (a = a' ∧ b = b' ∧ c = c')) w := by
  have hf : P.fieldsOf t = #[f0, f1, f2] := by unfold Program.fieldsOf; rw [ht]
  show (Op.equalIn (9999 + 1) t _ _).run P w = _
  rw [run_equalIn_struct w 9999 t _ _ (by rw [hf]; exact ht) hp, hf]
  have p0 : ∀ x y z : Int, (part f0.type #[.int .i64 x, .int .i64 y, .int .i64 z] 0).run P w = .ok (.int .i64 x) w := fun x y z => by simp [part, isAgg, run_underlying h0]
  have p1 : ∀ x y z : Int, (part f1.type #[.int .i64 x, .int .i64 y, .int .i64 z] 1).run P w = .ok (.int .i64 y) w := fun x y z => by simp [part, isAgg, run_underlying h1]
  have p2 : ∀ x y z : Int, (part f2.type #[.int .i64 x, .int .i64 y, .int .i64 z] 2).run P w = .ok (.int .i64 z) w := fun x y z => by simp [part, isAgg, run_underlying h2]
  have q : ∀ {ft : TypeId}, P.underlying ft = some (.int .i64) → ∀ x y : Int, (Op.equalIn 9999 ft (.int .i64 x) (.int .i64 y)).run P w = .ok (x == y) w := fun h x y => by
    show (Op.equalIn (9998 + 1) _ _ _).run P w = _
    unfold Op.equalIn
    simp [run_underlying h]
  simp only [Op.eqFields, Sem.run_bind, Sem.run_ite, hn0, hn1, hn2, ne_eq, not_false_eq_true, if_true, ho0, ho1, ho2, p0, p1, p2, q h0, q h1, q h2, Result.andThen_ok]
  by_cases e0 : a = a' <;> by_cases e1 : b = b' <;> by_cases e2 : c = c' <;> simp [e0, e1, e2]
theorem LV.ne3 {t t2 : TypeId} {x y : Operand} {f0 f1 f2 : Field} {a b c a' b' c' : Int} (ht : P.underlying t = some (.struct #[f0, f1, f2])) (h0 : P.underlying f0.type = some (.int .i64)) (h1 : P.underlying f1.type = some (.int .i64)) (h2 : P.underlying f2.type = some (.int .i64))
    (hn : (f0.name ≠ "_" ∧ f1.name ≠ "_" ∧ f2.name ≠ "_") ∧ f0.offset = 0 ∧ f1.offset = 1 ∧ f2.offset = 2) (hp : P.stoodInHeld t = false) (hg : P.eqGuardType P.depth t = false) (hx : ev f x = some (.agg #[.int .i64 a, .int .i64 b, .int .i64 c])) (hy : ev f y = some (.agg #[.int .i64 a', .int .i64 b', .int .i64 c'])) :
    LV P ⟨d, .binOp .neq t x y t2, ty, ps, af, gd⟩ f w (.bool (decide (¬ (a = a' ∧ b = b' ∧ c = c')))) := fun u hu => by
  have h : (binOp .neq t (.agg #[.int .i64 a, .int .i64 b, .int .i64 c]) (.agg #[.int .i64 a', .int .i64 b', .int .i64 c'])).run P w = .ok (.bool (decide (¬ (a = a' ∧ b = b' ∧ c = c')))) w := by
    unfold binOp
    simp only [Sem.run_bind, run_eq3 ht h0 h1 h2 hn.1.1 hn.1.2.1 hn.1.2.2 hn.2.1 hn.2.2.1 hn.2.2.2 hp, Result.andThen_ok, Sem.run_pure, decide_not]
  simp only [execOp, ev_eval hu hx, ev_eval hu hy]
  simp [eqGuard, hg, h]
/-- A copy into a cut of one's own row, wherever that one lies. -/
theorem XE.copyCut {α : Type} {E : El α} {t t2 e : TypeId} {A : Option Addr} {n c m : Nat} {v2 : Value} {xs ys : List α} {x y : Operand} (l dl dc : Nat) (h : SH w0 S w (rowE E e (.slice A n c) xs :: L)) (ht : P.underlying t = some (.slice e)) (hz : (P.info? e).map (·.size) = some 1) (hE : E.sz = 1)
    (hy : Rd E v2 ys w) (hm : 0 < dl → l < m) (hl : l + dl ≤ xs.length) (hx1 : ev f x = some (.slice (if m = l then A else A.map (·.add (l * 1))) dl dc)) (hx2 : ev f y = some v2) :
    XE P ⟨d, .call { callee := .builtin .copy, args := #[x, y], argTypes := #[t, t2] }, ty, ps, af, gd⟩ f w (fun v' w' => v' = .int .i64 (min ys.length dl : Nat) ∧
      SH w0 S w' (rowE E e (.slice A n c) (xs.take l ++ ys.take dl ++ xs.drop (l + min ys.length dl)) :: L) ∧ KB (· ∈ Value.keys (.slice A n c)) w w') := by
  have hR : Row E e (.slice A n c) xs w := h.hd
  refine XE.copyAt l dl dc h ht hz hE hy ⟨_, rfl, fun g hg h0 => ?_⟩ hl hx1 hx2
  rcases hR.2 with ⟨h1, hn⟩ | ⟨g2, cap, cur, h1, _⟩
  · injection h1 with h1 _ _
    subst h1
    cases hg
  · injection h1 with h1 _ _
    subst h1
    cases hg
    exact cut_at (hm h0)
end
theorem str_app (a b : List Int) : strOfNums a ++ strOfNums b = strOfNums (a ++ b) := by
  apply ByteArray.ext
  simp [strOfNums]
theorem str_size (a : List Int) : (strOfNums a).size = a.length := by simp [strOfNums, ByteArray.size]
/-! ### A row of one thing, doubled till it is full -/
section
variable {α : Type} {N : Nat} {n : Int} {x d : α} {r : List α}
theorem repG_init : ((List.replicate N d).take 0 ++ [x].take N ++ (List.replicate N d).drop (0 + min [x].length N)).take ((min [x].length N : Nat) : Int).toNat = List.replicate ((min [x].length N : Nat) : Int).toNat x := by
  cases N <;> simp
theorem repG_step (q0 : 1 ≤ n) (h : n < (N : Int)) (q2 : r.length = N) (q3 : r.take n.toNat = List.replicate n.toNat x) :
    (r.take n.toNat ++ ((r.take n.toNat).drop 0).take (N - n.toNat) ++ r.drop (n.toNat + min ((r.take n.toNat).drop 0).length (N - n.toNat))).take (n + ((min ((r.take n.toNat).drop 0).length (N - n.toNat) : Nat) : Int)).toNat =
      List.replicate (n + ((min ((r.take n.toNat).drop 0).length (N - n.toNat) : Nat) : Int)).toNat x := by
  rw [q3]
  simp only [List.drop_zero, List.length_replicate, List.take_replicate]
  rw [show (n + ((min n.toNat (N - n.toNat) : Nat) : Int)).toNat = n.toNat + min n.toNat (N - n.toNat) by omega, List.take_append_of_le_length (by simp; omega), List.take_of_length_le (by simp; omega), List.replicate_append_replicate, Nat.min_comm (N - n.toNat)]
theorem repG_fin (q1 : n ≤ (N : Int)) (h : ¬ n < (N : Int)) (q2 : r.length = N) (q3 : r.take n.toNat = List.replicate n.toNat x) : r = List.replicate N x := by
  have e : n.toNat = N := by omega
  rw [e, List.take_of_length_le (by omega)] at q3
  exact q3
end
end Go.Gv

