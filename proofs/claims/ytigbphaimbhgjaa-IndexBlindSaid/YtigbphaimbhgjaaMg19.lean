/- More operations: parts of rows that are copied, unsigned numbers' bits. -/
import Derived.Test.YtigbphaimbhgjaaMg18
import Derived.Test.YtigbphaimbhgjaaMg17
import Derived.Test.YtigbphaimbhgjaaMg7
import Derived.Sort.Walk0
import Derived.Test.YtigbphaimbhgjaaProg
import Derived.Test.YtigbphaimbhgjaaMg15
import Derived.Shelf.SlSortCmp.NoneTotal
import Derived.Shelf.Lay
import Derived.Ground.SlsfProg
import Derived.Ground.GgzProg
import Derived.Ground.SlmcProg
namespace Go.Gw
open Go Go.RowKit
section
variable {P : Program} {f : Env} {w : World} {d : Option Tmp} {ty : TypeId} {ps : String} {af : Array Edge} {gd : Option (Nat × Bool)} {w0 : World} {S : Nat → Prop} {L : List Ent}
theorem LV.shr {t t2 : TypeId} {x y : Operand} {k k2 : IntKind} {a b c : Int} (hx : ev f x = some (.int k a)) (hy : ev f y = some (.int k2 b)) (hb : 0 ≤ b) (hc : a.fdiv (2 ^ (min b.toNat k.bits)) = c) :
    LV P ⟨d, .binOp .shr t x y t2, ty, ps, af, gd⟩ f w (.int k c) := fun e he => by
  have : ¬ b < 0 := by omega
  simp [execOp, ev_eval he hx, ev_eval he hy, eqGuard, binOp, Op.shift, this, hc]
theorem LV.band {t t2 : TypeId} {x y : Operand} {k : IntKind} {a b c : Int} (hx : ev f x = some (.int k a)) (hy : ev f y = some (.int k b)) (hc : k.wrap ((BitVec.ofInt k.bits a &&& BitVec.ofInt k.bits b).toNat) = c) :
    LV P ⟨d, .binOp .and t x y t2, ty, ps, af, gd⟩ f w (.int k c) := fun e he => by
  simp only [execOp, ev_eval he hx, ev_eval he hy, eqGuard, binOp, Op.intBits, hc]
  simp
theorem LV.notP {t : TypeId} {x : Operand} {p : Prop} [Decidable p] (hx : ev f x = some (.bool (decide p))) : LV P ⟨d, .unOp .not t x, ty, ps, af, gd⟩ f w (.bool (decide (¬ p))) :=
  LV.as (LV.notB hx) (decide_not).symm
theorem wrU64 {x : Int} (h1 : 0 ≤ x) (h2 : x ≤ 18446744073709551615) : IntKind.u64.wrap x = x := by simp [IntKind.wrap, IntKind.bits, IntKind.signed]; omega
theorem band32 {a : Int} (h0 : 0 ≤ a) (h1 : a ≤ 4294967295) : IntKind.u64.wrap ((BitVec.ofInt IntKind.u64.bits a &&& BitVec.ofInt IntKind.u64.bits 4294967295).toNat) = a := by
  have e : (BitVec.ofInt IntKind.u64.bits a &&& BitVec.ofInt IntKind.u64.bits 4294967295).toNat = a.toNat := by
    show (BitVec.ofInt 64 a &&& BitVec.ofInt 64 4294967295).toNat = a.toNat
    rw [BitVec.toNat_and, BitVec.toNat_ofInt, BitVec.toNat_ofInt]
    have h2 : (a % ((2 ^ 64 : Nat) : Int)).toNat = a.toNat := by omega
    have h3 : ((4294967295 : Int) % ((2 ^ 64 : Nat) : Int)).toNat = 2 ^ 32 - 1 := by decide
    rw [h2, h3, Nat.and_two_pow_sub_one_eq_mod]
    omega
  rw [e]
  exact (wrU64 (by omega) (by omega)).trans (by omega)
theorem shr1 {a : Int} (_ : 0 ≤ a) : a.fdiv (2 ^ (min (1 : Int).toNat IntKind.u64.bits)) = a / 2 := by
  rw [show (2 : Int) ^ (min (1 : Int).toNat IntKind.u64.bits) = 2 by decide, Int.fdiv_eq_ediv_of_nonneg _ (by decide)]
theorem shr32 {a : Int} (h0 : 0 ≤ a) (h1 : a ≤ 4294967295) : a.fdiv (2 ^ (min (32 : Int).toNat IntKind.u64.bits)) = 0 := by
  show a.fdiv 4294967296 = 0
  rw [Int.fdiv_eq_ediv_of_nonneg _ (by decide)]
  omega

theorem run_eqA2 {t e : TypeId} {a b a' b' : Int} (ht : P.underlying t = some (.array 2 e)) (he : P.underlying e = some (.int .i64)) (hz : (P.info? e).map (·.size) = some 1) :
    (Op.equal t (.agg #[.int .i64 a, .int .i64 b]) (.agg #[.int .i64 a', .int .i64 b'])).run P w = .ok (decide (a = a' ∧ b = b')) w := by
  obtain ⟨inf, hi, hsz⟩ := Option.map_eq_some_iff.1 hz
  have h1 : ∀ (x y : Int), (Op.equalIn 9999 e (.int .i64 x) (.int .i64 y)).run P w = .ok (x == y) w := fun x y => run_equalIn_int w 9998 e .i64 .i64 x y he
  have hp : ∀ (x y : Int) (i : Nat), i < 2 → (part e #[.int .i64 x, .int .i64 y] (i * 1)).run P w = .ok (if i = 0 then .int .i64 x else .int .i64 y) w := by
    intro x y i hi
    match i, hi with
    | 0, _ => simp [part, isAgg, run_underlying he]
    | 1, _ => simp [part, isAgg, run_underlying he]
  show (Op.equalIn (9999 + 1) t _ _).run P w = _
  unfold Op.equalIn
  simp only [Sem.run_bind, run_underlying ht, Result.andThen_ok, sizeOf, typeInfo]
  simp [hi, hsz, Std.Legacy.Range.forIn_eq_forIn_range', Std.Legacy.Range.size, List.range']
  have e1 := hp a b 0 (by omega)
  have e2 := hp a b 1 (by omega)
  have e3 := hp a' b' 0 (by omega)
  have e4 := hp a' b' 1 (by omega)
  simp at e1 e2 e3 e4
  simp [e1, e2, e3, e4, h1]
  by_cases hab : a = a'
  · by_cases hbb : b = b' <;> simp [hab, hbb]
  · simp [hab]
theorem LV.eqA2 {t t2 e : TypeId} {x y : Operand} {a b a' b' : Int} (ht : P.underlying t = some (.array 2 e)) (he : P.underlying e = some (.int .i64)) (hz : (P.info? e).map (·.size) = some 1) (hg : P.eqGuardType P.depth t = false) (hx : ev f x = some (.agg #[.int .i64 a, .int .i64 b])) (hy : ev f y = some (.agg #[.int .i64 a', .int .i64 b'])) :
    LV P ⟨d, .binOp .eql t x y t2, ty, ps, af, gd⟩ f w (.bool (decide (a = a' ∧ b = b'))) := fun u hu => by
  have h : (binOp .eql t (.agg #[.int .i64 a, .int .i64 b]) (.agg #[.int .i64 a', .int .i64 b'])).run P w = .ok (.bool (decide (a = a' ∧ b = b'))) w := by
    unfold binOp
    simp only [Sem.run_bind, run_eqA2 ht he hz, Result.andThen_ok, Sem.run_pure]
  simp only [execOp, ev_eval hu hx, ev_eval hu hy]
  simp [eqGuard, hg, h]
theorem LV.neA2 {t t2 e : TypeId} {x y : Operand} {a b a' b' : Int} (ht : P.underlying t = some (.array 2 e)) (he : P.underlying e = some (.int .i64)) (hz : (P.info? e).map (·.size) = some 1) (hg : P.eqGuardType P.depth t = false) (hx : ev f x = some (.agg #[.int .i64 a, .int .i64 b])) (hy : ev f y = some (.agg #[.int .i64 a', .int .i64 b'])) :
    LV P ⟨d, .binOp .neq t x y t2, ty, ps, af, gd⟩ f w (.bool (decide (¬ (a = a' ∧ b = b')))) := fun u hu => by
  have h : (binOp .neq t (.agg #[.int .i64 a, .int .i64 b]) (.agg #[.int .i64 a', .int .i64 b'])).run P w = .ok (.bool (decide (¬ (a = a' ∧ b = b')))) w := by
    unfold binOp
    simp only [Sem.run_bind, run_eqA2 ht he hz, Result.andThen_ok, Sem.run_pure, decide_not]
  simp only [execOp, ev_eval hu hx, ev_eval hu hy]
  simp [eqGuard, hg, h]
theorem cut_at {g l c : Nat} (h : l < c) : (if c = l then some (⟨g, 0, none⟩ : Addr) else Option.map (fun a : Addr => a.add (l * 1)) (some ⟨g, 0, none⟩)) = some ⟨g, l, none⟩ := by
  rw [if_neg (by omega)]
  simp only [Option.map, Addr.add, Nat.mul_one]
  split
  · subst_vars; rfl
  · simp
/-- 'copy' into a part of a row of one's own. -/
theorem XE.copyAt {α : Type} {E : El α} {t t2 e : TypeId} {v v2 vd : Value} {xs ys : List α} {x y : Operand} (l dl dc : Nat) (h : SH w0 S w (rowE E e v xs :: L)) (ht : P.underlying t = some (.slice e)) (hz : (P.info? e).map (·.size) = some 1) (hE : E.sz = 1)
    (hy : Rd E v2 ys w) (hd : ∃ A' , vd = .slice A' dl dc ∧ ∀ g, v.ownBlock = some g → 0 < dl → A' = some ⟨g, l, none⟩) (hl : l + dl ≤ xs.length) (hx1 : ev f x = some vd) (hx2 : ev f y = some v2) :
    XE P ⟨d, .call { callee := .builtin .copy, args := #[x, y], argTypes := #[t, t2] }, ty, ps, af, gd⟩ f w (fun v' w' => v' = .int .i64 (min ys.length dl : Nat) ∧
      SH w0 S w' (rowE E e v (xs.take l ++ ys.take dl ++ xs.drop (l + min ys.length dl)) :: L) ∧ KB (· ∈ Value.keys v) w w') := by
  have hR : Row E e v xs w := h.hd
  obtain ⟨A2, c2, rfl, _, _, hc2⟩ := hy
  obtain ⟨A', rfl, hA⟩ := hd
  by_cases h0 : min ys.length dl = 0
  · have e1 : xs.take l ++ ys.take dl ++ xs.drop (l + min ys.length dl) = xs := by
      have : ys.take dl = [] := by
        rcases Nat.le_total ys.length dl with h' | h'
        · have : ys = [] := List.eq_nil_of_length_eq_zero (by omega)
          simp [this]
        · have : dl = 0 := by omega
          simp [this]
      rw [h0, this, List.append_nil, Nat.add_zero, List.take_append_drop]
    rw [e1]
    refine ⟨.int .i64 ((min ys.length dl : Nat) : Int), w, fun a ha => ?_, rfl, h, KB.refl _ _⟩
    have hr := run_copy_none (P := P) w t t2 ty e A' A2 dl dc ys.length c2 ht hz h0
    simp [execOp, resolve, invoke, builtin, ev_eval ha hx1, ev_eval ha hx2, hr, goInt, h0]
  · obtain ⟨ad, rfl, hnews⟩ := hc2 (by omega)
    rcases hR.2 with ⟨h1, h2⟩ | ⟨g, cap, cur, h1, hbg, hg, hnc, hcm, hcs, htake⟩
    · omega
    · subst h1
      obtain rfl := hA g rfl (by omega)
      have hcl : (E.cells (ys.take dl)).length = min ys.length dl := by rw [E.cells_length, hE, Nat.mul_one, List.length_take, Nat.min_comm]
      have hsz : cur.size = cap := by rw [hcs, hE, Nat.mul_one]
      have hr := run_copy_row (P := P) w t t2 ty e g l dl dc ad ys.length c2 cur e (E.cells (ys.take dl)) ht hz hg hcl (fun j u hu => hnews j u (by
        rw [E.cells_take, List.getElem?_take] at hu
        split at hu
        · exact hu
        · simp at hu)) (by rw [hcl, hsz]; omega) (E.cells_one _)
      have hxl : (E.cells xs).length = xs.length := by rw [E.cells_length, hE, Nat.mul_one]
      have hnl : (xs.take l ++ ys.take dl ++ xs.drop (l + min ys.length dl)).length = xs.length := by
        simp only [List.length_append, List.length_take, List.length_drop]; omega
      refine ⟨goInt ((E.cells (ys.take dl)).length : Nat), w.setRow g (cur.toList.take l ++ E.cells (ys.take dl) ++ cur.toList.drop (l + (E.cells (ys.take dl)).length)).toArray, fun a ha => ?_, ?_, ?_, ?_⟩
      · simp only [execOp, resolve, invoke, builtin, Sem.run_bind, Sem.run_pure, Result.andThen_ok, List.map_toArray, List.map_cons, List.map_nil, ev_eval ha hx1, ev_eval ha hx2, hr]
      · show goInt _ = _
        rw [hcl]; rfl
      · refine h.upd (e' := rowE E e (.slice (some ⟨g, 0, none⟩) xs.length cap) _) ⟨rfl, rfl, rfl, fun _ => Nat.le_refl _, by simp, fun k _ hk => setRow_other w g k _ (fun e => hk (by simp [rowE, Value.keys, Value.ownBlock, e]))⟩ (Row.ok ?_) (keys_nodup (.slice (some ⟨g, 0, none⟩) xs.length cap)) (fun k hk => .inl hk)
        refine ⟨E.cells_length _, .inr ⟨g, cap, _, by rw [hnl], hbg, setRow_heap w g cur _ e _ hg, by omega, hcm, ?_, ?_⟩⟩
        · simp only [List.size_toArray, List.length_append, List.length_drop, List.length_take, Array.length_toList, hcl, hE, Nat.mul_one]
          omega
        · have hct : cur.toList.take xs.length = E.cells xs := by rw [← htake, hE, Nat.mul_one]
          rw [hnl, hE, Nat.mul_one, E.cells_append, E.cells_append, E.cells_take xs l, E.cells_drop xs, hE, Nat.mul_one, Nat.mul_one, ← hct, hcl]
          have hlt : l + min ys.length dl ≤ xs.length := by omega
          have hcl2 : cur.toList.length = cap := by rw [Array.length_toList, hsz]
          rw [List.take_append, List.take_append, List.take_take, List.take_of_length_le (l := E.cells (ys.take dl)) (by rw [hcl, List.length_take, hcl2]; omega), List.length_append, List.length_take, hcl, hcl2]
          simp only [List.take_take, List.drop_take, Nat.min_eq_left (show l ≤ xs.length by omega), Nat.min_eq_right (show l ≤ xs.length by omega), Nat.min_eq_left (show l ≤ cap by omega)]
      · exact ⟨rfl, rfl, rfl, fun _ => Nat.le_refl _, by simp, fun k _ hk => setRow_other w g k _ (fun e => hk (by simp [Value.keys, Value.ownBlock, e]))⟩
end
theorem SH.nilRow {α : Type} {E : El α} {T : TypeId} {w0 w : World} {S : Nat → Prop} {L : List Ent} (h : SH w0 S w L) : SH w0 S w (rowE E T (.slice none 0 0) ([] : List α) :: L) :=
  SH.more h (KB.refl No _) (Row.ok (E := E) (T := T) (xs := []) Row.nil) (keys_nodup (.slice none 0 0)) (fun _ h_ => by cases h_)
theorem Rd.max {α : Type} {E : El α} {v : Value} {xs : List α} {w : World} (h : Rd E v xs w) : xs.length ≤ 9223372036854775807 := by
  obtain ⟨A, c, e, h1, h2, _⟩ := h
  have : maxLen = 9223372036854775807 := by decide
  omega
/-! ### A slice's first ones -/
def cutA (A : Option Addr) (c sz : Nat) : Option Addr := if c = 0 then A else A.map (fun a => a.add (0 * sz))
theorem few_rd {α : Type} {E : El α} {A : Option Addr} {c : Nat} {xs : List α} {S : Nat → Prop} {w : World} (k : Nat) (h : St S w (Rd E (.slice A xs.length c) xs)) : St S w (Rd E (.slice (cutA A c E.sz) (xs.take k).length c) (xs.take k)) :=
  h.imp fun w' h' => by
    have hc := Rd.cap h'
    have h2 := Rd.cut (l := 0) (h := min k xs.length) (m := c) h' (by omega) (by omega) (by omega) (by omega)
    have e : (xs.take (min k xs.length)).drop 0 = xs.take k := by
      rw [List.drop_zero]
      rcases Nat.le_total k xs.length with h3 | h3
      · rw [Nat.min_eq_left h3]
      · rw [Nat.min_eq_right h3, List.take_of_length_le (Nat.le_refl _), List.take_of_length_le h3]
    rw [e, show min k xs.length - 0 = (xs.take k).length by rw [List.length_take]; rfl] at h2
    exact h2
end Go.Gw

namespace Go.Gw
open Go Go.Idx
/-- A text and a number. -/
abbrev En := ByteArray × Int
def eSI : El En := ⟨2, fun x => [.string x.1, .int .i64 x.2], fun _ => rfl, fun _ u h => by simp at h; rcases h with rfl | rfl <;> rfl⟩
section
variable {P : Program} {f : Env} {w : World} {d : Option Tmp} {ty : TypeId} {ps : String} {af : Array Edge} {gd : Option (Nat × Bool)}
theorem LV.ltS {t t2 : TypeId} {x y : Operand} {a b : ByteArray} (hx : ev f x = some (.string a)) (hy : ev f y = some (.string b)) : LV P ⟨d, .binOp .lss t x y t2, ty, ps, af, gd⟩ f w (.bool (decide (ltB a b))) := fun e he => by
  have h : Op.bytesLess a.toList b.toList = decide (ltB a b) := by rw [Proofs.bytesLess_eq, Lib.toList_data, Lib.toList_data]; rfl
  simp [execOp, ev_eval he hx, ev_eval he hy, eqGuard, binOp, Op.stringOp, h]
theorem LV.geS {t t2 : TypeId} {x y : Operand} {a b : ByteArray} (hx : ev f x = some (.string a)) (hy : ev f y = some (.string b)) : LV P ⟨d, .binOp .geq t x y t2, ty, ps, af, gd⟩ f w (.bool (decide (¬ ltB a b))) := fun e he => by
  have h : Op.bytesLess a.toList b.toList = decide (ltB a b) := by rw [Proofs.bytesLess_eq, Lib.toList_data, Lib.toList_data]; rfl
  simp [execOp, ev_eval he hx, ev_eval he hy, eqGuard, binOp, Op.stringOp, h]
theorem LV.gtS {t t2 : TypeId} {x y : Operand} {a b : ByteArray} (hx : ev f x = some (.string a)) (hy : ev f y = some (.string b)) : LV P ⟨d, .binOp .gtr t x y t2, ty, ps, af, gd⟩ f w (.bool (decide (ltB b a))) := fun e he => by
  have h1 : Op.bytesLess a.toList b.toList = decide (ltB a b) := by rw [Proofs.bytesLess_eq, Lib.toList_data, Lib.toList_data]; rfl
  have h : (!(decide (ltB a b) || (a.toList == b.toList))) = decide (ltB b a) := by
    rw [Lib.toList_data, Lib.toList_data]
    rcases ltB_tri a b with h | h | h
    · rw [decide_eq_true h, decide_eq_false (ltB_asym h)]; rfl
    · subst h; rw [decide_eq_false (ltB_irr a)]; simp
    · have hne : ¬ a.data.toList = b.data.toList := fun e => ltB_irr a (bytes_ext e ▸ h)
      rw [decide_eq_false (ltB_asym h), decide_eq_true h, beq_eq_false_iff_ne.2 hne]; rfl
  simp [execOp, ev_eval he hx, ev_eval he hy, eqGuard, binOp, Op.stringOp, h1]
  simpa using h
end
end Go.Gw

namespace Go.Proofs.Ytigbphaimbhgjaa.W
open Go Go.Gw Go.RowKit Go.Idx
set_option linter.unusedVariables false
set_option linter.unusedSimpArgs false
theorem ti3 : TI Try.prog 3 (.int .i64 0) 1 8 := by unfold TI; kernel_rfl
theorem ti9 : TI Try.prog 9 (.string ⟨#[]⟩) 1 16 := by unfold TI; kernel_rfl

theorem cnan_calls {w : World} {x : Int}  :
    Calls Try.prog 80 #[(.int .i64 x)] w fun e w' => ∃ v, e = .returned v ∧ (fun v w' => v = .bool false ∧ KB No w w') v w' := by
  have hS : SH w No w [] := SH.nil _ _
  refine calls (l := litOf [(.int .i64 x)] 0) Try.func80 rfl (n := 6) rfl (Nat.le_of_ble_eq_true rfl) (lit_args _) ?_
  refine WC.seq ?_
  refine WC.region ?_
  refine WL.lv rfl (LV.asg rfl) ?_
  refine WL.nil (thenQ.n ?_)
  refine WC.seq ?_
  refine WC.region ?_
  iterate 2 refine WL.lv rfl (LV.mv rfl) ?_
  refine WL.lv rfl (LV.neI rfl rfl) ?_
  refine WL.lv rfl (LV.asg rfl) ?_
  refine WL.nil (thenQ.n ?_)
  refine WC.ret (?_)
  exact ⟨_, fun a ha => res1 rfl ha rfl, congrArg Value.bool (decide_eq_false (fun h_ => h_ rfl)), hS.kb⟩

theorem ccmp_calls {w : World} {x : Int} {y : Int}  :
    Calls Try.prog 56 #[(.int .i64 x), (.int .i64 y)] w fun e w' => ∃ v, e = .returned v ∧ (fun v w' => v = .int .i64 (Cw.CMPI x y) ∧ KB No w w') v w' := by
  have hS : SH w No w [] := SH.nil _ _
  refine calls (l := litOf [(.int .i64 x), (.int .i64 y)] 0) Try.func56 rfl (n := 20) rfl (Nat.le_of_ble_eq_true rfl) (lit_args _) ?_
  refine WC.seq ?_
  refine WC.region ?_
  refine WL.lv rfl (LV.asg rfl) ?_
  refine WL.nil (thenQ.n ?_)
  refine WC.seq ?_
  refine WC.region ?_
  refine WL.lv rfl (LV.mv rfl) ?_
  refine WL.call rfl (XC.fn Try.func80 (by kernel_rfl) rfl rfl rfl) (cnan_calls (x := x) ) ?_
  rintro v_ w1 ⟨rfl, hk1⟩
  have hS1 := SH.same hS hk1
  refine WL.lv rfl (LV.asg rfl) ?_
  refine WL.nil (thenQ.n ?_)
  refine WC.seq ?_
  refine WC.region ?_
  refine WL.lv rfl (LV.mv rfl) ?_
  refine WL.call rfl (XC.fn Try.func80 (by kernel_rfl) rfl rfl rfl) (cnan_calls (x := y) ) ?_
  rintro v_ w2 ⟨rfl, hk2⟩
  have hS2 := SH.same hS1 hk2
  refine WL.lv rfl (LV.asg rfl) ?_
  refine WL.nil (thenQ.n ?_)
  iterate 2 refine WC.seq ?_
  refine WC.region ?_
  refine WL.lv rfl (LV.mv rfl) ?_
  refine WL.nil (thenQ.n ?_)
  refine WC.condF rfl ?_
  refine WC.skip (thenQ.n ?_)
  iterate 2 refine WC.seq ?_
  refine WC.region ?_
  refine WL.lv rfl (LV.mv rfl) ?_
  refine WL.nil (thenQ.n ?_)
  refine WC.condF rfl ?_
  refine WC.skip (thenQ.n ?_)
  iterate 2 refine WC.seq ?_
  refine WC.region ?_
  iterate 2 refine WL.lv rfl (LV.mv rfl) ?_
  refine WL.lv rfl (LV.ltI rfl rfl) ?_
  refine WL.nil (thenQ.n ?_)
  refine WC.condP (p := x < y) rfl (fun hc1 => ?_) (fun hc1 => ?_)
  · skip
    refine WC.seq ?_
    refine WC.region ?_
    refine WL.lv rfl (LV.asg rfl) ?_
    refine WL.nil (thenQ.n ?_)
    refine WC.ret (thenQ.r <| ?_)
    exact ⟨_, fun a ha => res1 rfl ha rfl, congrArg (Value.int .i64) (by have h_ := Cw.cmpi_is x y; omega), hS2.kb⟩
  · skip
    refine WC.skip (thenQ.n ?_)
    iterate 2 refine WC.seq ?_
    refine WC.region ?_
    iterate 2 refine WL.lv rfl (LV.mv rfl) ?_
    refine WL.lv rfl (LV.gtI rfl rfl) ?_
    refine WL.nil (thenQ.n ?_)
    refine WC.condP (p := x > y) rfl (fun hc2 => ?_) (fun hc2 => ?_)
    · skip
      refine WC.seq ?_
      refine WC.region ?_
      refine WL.lv rfl (LV.asg rfl) ?_
      refine WL.nil (thenQ.n ?_)
      refine WC.ret (thenQ.r <| ?_)
      exact ⟨_, fun a ha => res1 rfl ha rfl, congrArg (Value.int .i64) (by have h_ := Cw.cmpi_is x y; omega), hS2.kb⟩
    · skip
      refine WC.skip (thenQ.n ?_)
      refine WC.seq ?_
      refine WC.region ?_
      refine WL.lv rfl (LV.asg rfl) ?_
      refine WL.nil (thenQ.n ?_)
      refine WC.ret (?_)
      exact ⟨_, fun a ha => res1 rfl ha rfl, congrArg (Value.int .i64) (by have h_ := Cw.cmpi_is x y; omega), hS2.kb⟩

theorem cor_calls {w : World} {A_vals : Option Addr} {n_vals c_vals : Nat} {vals : List Int} (h_vals : St No w (Rd eI (.slice A_vals n_vals c_vals) vals)) (hn_vals : vals.length = n_vals)  :
    Calls Try.prog 54 #[(.slice A_vals n_vals c_vals)] w fun e w' => ∃ v, e = .returned v ∧ (fun v w' => v = .int .i64 (Cw.ORL vals) ∧ KB No w w') v w' := by
  subst hn_vals
  have hma := Rd.max h_vals.now
  have hS : SH w No w [] := SH.nil _ _
  refine calls (l := litOf [(.slice A_vals vals.length c_vals)] 0) Try.func54 rfl (n := 18) rfl (Nat.le_of_ble_eq_true rfl) (lit_args _) ?_
  refine WC.seq ?_
  refine WC.region ?_
  refine WL.lv rfl (LV.asg rfl) ?_
  refine WL.nil (thenQ.n ?_)
  refine WC.seq ?_
  refine WC.region ?_
  refine WL.lv rfl (LV.asg rfl) ?_
  refine WL.nil (thenQ.n ?_)
  iterate 2 refine WC.seq ?_
  refine WC.region ?_
  refine WL.lv rfl (LV.mv rfl) ?_
  refine WL.lv rfl (LV.lenL Try.underlying122 rfl) ?_
  refine WL.lv rfl (LV.mv rfl) ?_
  refine WL.nil (thenQ.n ?_)
  refine WC.block ?_
  refine WC.loop (fun m_ f_ w_ => ∃ (ix : Int), (0 ≤ ix) ∧ (ix ≤ (vals.length : Int)) ∧ (Cw.ORL (vals.drop ix.toNat) = Cw.ORL vals) ∧ SH w No w_ [] ∧ m_ = (((vals.length : Int) - ix).toNat) ∧ Weak (lit [(3, (.int .i64 0)), (6, (.slice A_vals vals.length c_vals)), (7, (.int .i64 (vals.length : Int))), (8, (.int .i64 ix))]) f_) _ ⟨0, by omega, by omega, rfl, hS, rfl, Weak.cons rfl <| Weak.cons rfl <| Weak.cons rfl <| Weak.cons rfl <| Weak.nil _⟩ ?_
  rintro m1 f1 w1 ⟨ix, ixlo, ixhi, q1, hL1, rfl, hw1⟩
  refine WC.weak hw1 ?_
  clear hw1
  refine WC.seq ?_
  refine WC.region ?_
  refine WL.lv rfl (LV.ltI rfl rfl) ?_
  refine WL.nil (thenQ.n ?_)
  refine WC.seq ?_
  refine WC.condP (p := ix < (vals.length : Int)) rfl (fun hk => ?_) (fun hk => ?_)
  · skip
    refine WC.skip (thenQ.n ?_)
    refine WC.seq ?_
    refine WC.block ?_
    refine WC.seq ?_
    refine WC.region ?_
    obtain ⟨A1, c1, e1, g1⟩ := St.elt (SH.stN hL1 h_vals) 0 ix (by omega) (by omega)
    refine WL.lv rfl (LV.idxA Try.underlying122 ti3.sz rfl e1 rfl (by omega) (by omega)) ?_
    refine WL.lv rfl (LV.load1 (v := (.int .i64 (gI vals (ix)))) Try.underlying3 rfl rfl (g1 _ (KB.refl No _) 0 _ rfl)) ?_
    refine WL.lv rfl (LV.asg rfl) ?_
    refine WL.nil (thenQ.n ?_)
    refine WC.seq ?_
    refine WC.region ?_
    iterate 2 refine WL.lv rfl (LV.mv rfl) ?_
    refine WL.lv rfl (LV.neI rfl rfl) ?_
    refine WL.nil (thenQ.n ?_)
    refine WC.condP (p := (gI vals (ix)) ≠ 0) rfl (fun hc1 => ?_) (fun hc1 => ?_)
    · skip
      refine WC.seq ?_
      refine WC.region ?_
      refine WL.lv rfl (LV.mv rfl) ?_
      refine WL.lv rfl (LV.asg rfl) ?_
      refine WL.nil (thenQ.n ?_)
      refine WC.ret (blockQ.r <| thenQ.r <| thenQ.r <| blockQ.r <| thenQ.r <| ?_)
      exact ⟨_, fun a ha => res1 rfl ha rfl, congrArg (Value.int .i64) (by first | (rw [← q1, Cw.ORL_end (by omega)]; done) | (rw [← q1, Cw.ORL_at ixlo hk, if_pos (by omega)])), hL1.kb⟩
    · skip
      refine WC.skip (blockQ.n <| thenQ.n ?_)
      refine WC.region ?_
      refine WL.lv rfl (LV.add rfl rfl (wr64 (by omega) (by omega))) ?_
      refine WL.lv rfl (LV.mv rfl) ?_
      refine WL.nil (thenQ.n ?_)
      exact ⟨_, by omega, ix + 1, by omega, by omega, (by rw [← q1, Cw.ORL_at ixlo hk, if_neg (by omega)]), hL1, rfl, Weak.cons rfl <| Weak.cons rfl <| Weak.cons rfl <| Weak.cons rfl <| Weak.nil _⟩
  · skip
    refine WC.exit (thenQ.x <| thenQ.x <| blockQ.hit <| thenQ.n ?_)
    refine WC.seq ?_
    refine WC.region ?_
    refine WL.lv rfl (LV.mv rfl) ?_
    refine WL.lv rfl (LV.asg rfl) ?_
    refine WL.nil (thenQ.n ?_)
    refine WC.ret (?_)
    exact ⟨_, fun a ha => res1 rfl ha rfl, congrArg (Value.int .i64) (by first | (rw [← q1, Cw.ORL_end (by omega)]; done) | (rw [← q1, Cw.ORL_at ixlo hk, if_pos (by omega)])), hL1.kb⟩

theorem cnans_calls {w : World} {x : ByteArray}  :
    Calls Try.prog 79 #[(.string x)] w fun e w' => ∃ v, e = .returned v ∧ (fun v w' => v = .bool false ∧ KB No w w') v w' := by
  have hS : SH w No w [] := SH.nil _ _
  refine calls (l := litOf [(.string x)] 0) Try.func79 rfl (n := 6) rfl (Nat.le_of_ble_eq_true rfl) (lit_args _) ?_
  refine WC.seq ?_
  refine WC.region ?_
  refine WL.lv rfl (LV.asg rfl) ?_
  refine WL.nil (thenQ.n ?_)
  refine WC.seq ?_
  refine WC.region ?_
  iterate 2 refine WL.lv rfl (LV.mv rfl) ?_
  refine WL.lv rfl (LV.neS rfl rfl) ?_
  refine WL.lv rfl (LV.asg rfl) ?_
  refine WL.nil (thenQ.n ?_)
  refine WC.ret (?_)
  exact ⟨_, fun a ha => res1 rfl ha rfl, congrArg Value.bool (by simp), hS.kb⟩

theorem ccmps_calls {w : World} {x : ByteArray} {y : ByteArray}  :
    Calls Try.prog 55 #[(.string x), (.string y)] w fun e w' => ∃ v, e = .returned v ∧ (fun v w' => v = .int .i64 (Idx.CMPB x y) ∧ KB No w w') v w' := by
  have hS : SH w No w [] := SH.nil _ _
  refine calls (l := litOf [(.string x), (.string y)] 0) Try.func55 rfl (n := 20) rfl (Nat.le_of_ble_eq_true rfl) (lit_args _) ?_
  refine WC.seq ?_
  refine WC.region ?_
  refine WL.lv rfl (LV.asg rfl) ?_
  refine WL.nil (thenQ.n ?_)
  refine WC.seq ?_
  refine WC.region ?_
  refine WL.lv rfl (LV.mv rfl) ?_
  refine WL.call rfl (XC.fn Try.func79 (by kernel_rfl) rfl rfl rfl) (cnans_calls (x := x) ) ?_
  rintro v_ w1 ⟨rfl, hk1⟩
  have hS1 := SH.same hS hk1
  refine WL.lv rfl (LV.asg rfl) ?_
  refine WL.nil (thenQ.n ?_)
  refine WC.seq ?_
  refine WC.region ?_
  refine WL.lv rfl (LV.mv rfl) ?_
  refine WL.call rfl (XC.fn Try.func79 (by kernel_rfl) rfl rfl rfl) (cnans_calls (x := y) ) ?_
  rintro v_ w2 ⟨rfl, hk2⟩
  have hS2 := SH.same hS1 hk2
  refine WL.lv rfl (LV.asg rfl) ?_
  refine WL.nil (thenQ.n ?_)
  iterate 2 refine WC.seq ?_
  refine WC.region ?_
  refine WL.lv rfl (LV.mv rfl) ?_
  refine WL.nil (thenQ.n ?_)
  refine WC.condF rfl ?_
  refine WC.skip (thenQ.n ?_)
  iterate 2 refine WC.seq ?_
  refine WC.region ?_
  refine WL.lv rfl (LV.mv rfl) ?_
  refine WL.nil (thenQ.n ?_)
  refine WC.condF rfl ?_
  refine WC.skip (thenQ.n ?_)
  iterate 2 refine WC.seq ?_
  refine WC.region ?_
  iterate 2 refine WL.lv rfl (LV.mv rfl) ?_
  refine WL.lv rfl (LV.ltS (a := x) (b := y) rfl rfl) ?_
  refine WL.nil (thenQ.n ?_)
  refine WC.condP (p := ltB x y) rfl (fun hc1 => ?_) (fun hc1 => ?_)
  · skip
    refine WC.seq ?_
    refine WC.region ?_
    refine WL.lv rfl (LV.asg rfl) ?_
    refine WL.nil (thenQ.n ?_)
    refine WC.ret (thenQ.r <| ?_)
    exact ⟨_, fun a ha => res1 rfl ha rfl, congrArg (Value.int .i64) (by unfold Idx.CMPB; first | (rw [if_pos (by assumption)]; done) | (rw [if_neg (by assumption), if_pos (by assumption)]; done) | (rw [if_neg (by assumption), if_neg (by assumption)]; done)), hS2.kb⟩
  · skip
    refine WC.skip (thenQ.n ?_)
    iterate 2 refine WC.seq ?_
    refine WC.region ?_
    iterate 2 refine WL.lv rfl (LV.mv rfl) ?_
    refine WL.lv rfl (LV.gtS (a := x) (b := y) rfl rfl) ?_
    refine WL.nil (thenQ.n ?_)
    refine WC.condP (p := ltB y x) rfl (fun hc2 => ?_) (fun hc2 => ?_)
    · skip
      refine WC.seq ?_
      refine WC.region ?_
      refine WL.lv rfl (LV.asg rfl) ?_
      refine WL.nil (thenQ.n ?_)
      refine WC.ret (thenQ.r <| ?_)
      exact ⟨_, fun a ha => res1 rfl ha rfl, congrArg (Value.int .i64) (by unfold Idx.CMPB; first | (rw [if_pos (by assumption)]; done) | (rw [if_neg (by assumption), if_pos (by assumption)]; done) | (rw [if_neg (by assumption), if_neg (by assumption)]; done)), hS2.kb⟩
    · skip
      refine WC.skip (thenQ.n ?_)
      refine WC.seq ?_
      refine WC.region ?_
      refine WL.lv rfl (LV.asg rfl) ?_
      refine WL.nil (thenQ.n ?_)
      refine WC.ret (?_)
      exact ⟨_, fun a ha => res1 rfl ha rfl, congrArg (Value.int .i64) (by unfold Idx.CMPB; first | (rw [if_pos (by assumption)]; done) | (rw [if_neg (by assumption), if_pos (by assumption)]; done) | (rw [if_neg (by assumption), if_neg (by assumption)]; done)), hS2.kb⟩

theorem orderw_calls {w : World} {a : (ByteArray × Int)} {b : (ByteArray × Int)}  :
    Calls Try.prog 28 #[(.agg #[(.string ((a).1)), (.int .i64 ((a).2))]), (.agg #[(.string ((b).1)), (.int .i64 ((b).2))])] w fun e w' => ∃ v, e = .returned v ∧ (fun v w' => v = .int .i64 (Cw.ORL [Idx.CMPB a.1 b.1, Cw.CMPI a.2 b.2]) ∧ KB No w w') v w' := by
  have hS : SH w No w [] := SH.nil _ _
  refine calls (l := litOf [(.agg #[(.string ((a).1)), (.int .i64 ((a).2))]), (.agg #[(.string ((b).1)), (.int .i64 ((b).2))])] 0) Try.func28 rfl (n := 17) rfl (Nat.le_of_ble_eq_true rfl) (lit_args _) ?_
  refine WC.seq ?_
  refine WC.region ?_
  refine WL.xe rfl (XE.box #[(.string ((a).1)), (.int .i64 ((a).2))] hS rfl rfl) ?_
  rintro _ w1 ⟨b1, rfl, hS1, hk1⟩
  refine WL.xe rfl (XE.box #[(.string ((b).1)), (.int .i64 ((b).2))] hS1 rfl rfl) ?_
  rintro _ w2 ⟨b2, rfl, hS2, hk2⟩
  refine WL.lv rfl (LV.asg rfl) ?_
  refine WL.nil (thenQ.n ?_)
  refine WC.seq ?_
  have hS3 := SH.drew hS2
  refine WC.regionD [] (fun w_ => KB No w2.drew w_) [(.pure, 0), (.look, 1), (.pure, 2), (.look, 3), (.pure, 5), (.look, 6), (.pure, 7), (.look, 8), (.forced, 4), (.forced, 9), (.forced, 10), (.forced, 11), (.pure, 12)] (by kernel_rfl) (by kernel_rfl) (KB.refl _ _) ?_
  refine WS.pure rfl rfl (fun _ => LV.fieldA Try.underlying48 rfl ti9.sz rfl) ?_
  refine WS.look rfl rfl (fun _ hk_ => LV.load1 Try.underlying9 rfl rfl (Blk.cellN (SH.at hS3 (.tail _ (.head _))) 0 rfl _ hk_)) ?_
  refine WS.pure rfl rfl (fun _ => LV.fieldA Try.underlying48 rfl ti9.sz rfl) ?_
  refine WS.look rfl rfl (fun _ hk_ => LV.load1 Try.underlying9 rfl rfl (Blk.cellN (SH.at hS3 (.head _)) 0 rfl _ hk_)) ?_
  refine WS.pure rfl rfl (fun _ => LV.fieldA Try.underlying48 rfl ti3.sz rfl) ?_
  refine WS.look rfl rfl (fun _ hk_ => LV.load1 Try.underlying3 rfl rfl (Blk.cellN (SH.at hS3 (.tail _ (.head _))) 1 rfl _ hk_)) ?_
  refine WS.pure rfl rfl (fun _ => LV.fieldA Try.underlying48 rfl ti3.sz rfl) ?_
  refine WS.look rfl rfl (fun _ hk_ => LV.load1 Try.underlying3 rfl rfl (Blk.cellN (SH.at hS3 (.head _)) 1 rfl _ hk_)) ?_
  refine WS.call rfl rfl (XC.fn Try.func55 (by kernel_rfl) rfl rfl rfl) (ccmps_calls (x := ((a).1)) (y := ((b).1)) ) ?_
  rintro v_ w3 ⟨rfl, hk3⟩
  have hS4 := SH.same hS3 hk3
  refine ⟨fun h_ => (KB.transN (KB.refl _ _) hk3), ?_⟩
  refine WS.call rfl rfl (XC.fn Try.func56 (by kernel_rfl) rfl rfl rfl) (ccmp_calls (x := ((a).2)) (y := ((b).2)) ) ?_
  rintro v_ w4 ⟨rfl, hk4⟩
  have hS5 := SH.same hS4 hk4
  refine ⟨fun h_ => (KB.transN (KB.transN (KB.refl _ _) hk3) hk4), ?_⟩
  refine WS.xe rfl rfl (XE.buildSlice (E := eI) [(0, (.int .i64 (Idx.CMPB ((a).1) ((b).1)))), (1, (.int .i64 (Cw.CMPI ((a).2) ((b).2))))] #[(.int .i64 (Idx.CMPB ((a).1) ((b).1))), (.int .i64 (Cw.CMPI ((a).2) ((b).2)))] [Idx.CMPB ((a).1) ((b).1), Cw.CMPI ((a).2) ((b).2)] hS5 Try.underlying122 ti3 rfl (by decide) (by kernel_rfl) (.inr rfl) rfl rfl (by decide)) ?_
  rintro _ w5 ⟨b3, rfl, hS6, hk5⟩
  refine ⟨fun h_ => (KB.transN (KB.transN (KB.transN (KB.refl _ _) hk3) hk4) hk5), ?_⟩
  refine WS.call rfl rfl (XC.fn Try.func54 (by kernel_rfl) rfl rfl rfl) (cor_calls  (SH.rd hS6 (.head _)) rfl ) ?_
  rintro v_ w6 ⟨rfl, hk6⟩
  have hS7 := SH.same hS6 hk6
  refine ⟨fun h_ => (KB.transN (KB.transN (KB.transN (KB.transN (KB.refl _ _) hk3) hk4) hk5) hk6), ?_⟩
  refine WS.pure rfl rfl (fun _ => LV.asg rfl) ?_
  refine WS.nil (thenQ.n ?_)
  refine WC.ret (?_)
  exact ⟨_, fun a ha => res1 rfl ha rfl, congrArg (Value.int .i64) (by omega), hS7.kb⟩

end Go.Proofs.Ytigbphaimbhgjaa.W


namespace Go.Proofs.Ytigbphaimbhgjaa
open Go Go.RowKit Go.Sort Go.Shelf Go.Lib Go.Maps Go.Gv Go.Idx
set_option linter.unusedVariables false
theorem orl_cw (x y : Int) : Cw.ORL [x, y] = Cm.ORL [x, y] := by
  have h1 := Cw.orl2 x y
  have h2 := Cm.orl2 x y
  omega
theorem cmpi_cw (x y : Int) : Cw.CMPI x y = Cm.CMPI x y := by
  have h1 := Cw.cmpi_is x y
  have h2 := Cm.cmpi_is x y
  omega
theorem order_drawn (W : World) (x y : En) : Calls Try.prog 28 #[.agg #[.string x.1, .int .i64 x.2], .agg #[.string y.1, .int .i64 y.2]] W fun e w' => e = .returned (.int .i64 (ORDH x y)) ∧ KB No W w' ∧ W.drawn ≤ w'.drawn :=
  (Go.Proofs.Ytigbphaimbhgjaa.W.orderw_calls (w := W) (a := x) (b := y)).mono fun e w' ⟨v, he, hv, hk⟩ => ⟨by rw [he, hv, cmpi_cw, orl_cw]; rfl, ⟨hk.os, hk.tape, hk.output, fun d => (show False from d).elim, hk.size, hk.blk⟩, hk.dr (by unfold Gw.DR; trivial)⟩
def sortH_ren : Go.Shelf.Ren := ⟨fun | 6 => 27 | 15 => 53 | 14 => 52 | 28 => 77 | 29 => 78 | 20 => 69 | 21 => 70 | 22 => 71 | 23 => 72 | 24 => 73 | 25 => 74 | 26 => 75 | 27 => 76 | 46 => 92 | 47 => 93 | 48 => 94 | 49 => 95 | 50 => 96 | 57 => 100 | n => n, fun | 22 => 38 | 24 => 48 | 25 => 77 | 3 => 3 | 39 => 100 | 0 => 0 | 53 => 120 | 55 => 23 | 4 => 4 | 46 => 114 | 45 => 113 | 50 => 74 | 5 => 5 | 9 => 9 | 66 => 132 | 70 => 136 | 76 => 140 | 77 => 141 | n => n, fun | n => n⟩
theorem sortH : Go.Proofs.SlLaysF0.n6 Try.prog sortH_ren := {
  mixed := by kernel_rfl
  f6 := ⟨Try.f27.name, by decide, Try.func27.trans (congrArg some (by kernel_rfl))⟩
  f14 := ⟨Try.f52.name, by decide, Try.func52.trans (congrArg some (by kernel_rfl))⟩
  f15 := Try.func53.trans (congrArg some (by kernel_rfl))
  f20 := ⟨Try.f69.name, by decide, Try.func69.trans (congrArg some (by kernel_rfl))⟩
  f21 := ⟨Try.f70.name, by decide, Try.func70.trans (congrArg some (by kernel_rfl))⟩
  f22 := ⟨Try.f71.name, by decide, Try.func71.trans (congrArg some (by kernel_rfl))⟩
  f23 := ⟨Try.f72.name, by decide, Try.func72.trans (congrArg some (by kernel_rfl))⟩
  f24 := ⟨Try.f73.name, by decide, Try.func73.trans (congrArg some (by kernel_rfl))⟩
  f25 := ⟨Try.f74.name, by decide, Try.func74.trans (congrArg some (by kernel_rfl))⟩
  f26 := ⟨Try.f75.name, by decide, Try.func75.trans (congrArg some (by kernel_rfl))⟩
  f27 := ⟨Try.f76.name, by decide, Try.func76.trans (congrArg some (by kernel_rfl))⟩
  f28 := Try.func77.trans (congrArg some (by kernel_rfl))
  f29 := Try.func78.trans (congrArg some (by kernel_rfl))
  f46 := ⟨Try.f92.name, by decide, Try.func92.trans (congrArg some (by kernel_rfl))⟩
  f47 := Try.func93.trans (congrArg some (by kernel_rfl))
  f48 := Try.func94.trans (congrArg some (by kernel_rfl))
  f49 := ⟨Try.f95.name, by decide, Try.func95.trans (congrArg some (by kernel_rfl))⟩
  f50 := ⟨Try.f96.name, by decide, Try.func96.trans (congrArg some (by kernel_rfl))⟩
  f57 := ⟨Try.f100.name, by decide, Try.func100.trans (congrArg some (by kernel_rfl))⟩
  t0 := Try.underlying0
  a0 := Try.isAgg0
  z0 := Try.sizeOf0
  v0 := Try.zeroValue0
  t3 := Try.underlying3
  a3 := Try.isAgg3
  z3 := Try.sizeOf3
  v3 := Try.zeroValue3
  t4 := Try.underlying4
  a4 := Try.isAgg4
  z4 := Try.sizeOf4
  v4 := Try.zeroValue4
  t5 := Try.underlying5
  a5 := Try.isAgg5
  z5 := Try.sizeOf5
  v5 := Try.zeroValue5
  t9 := Try.underlying9
  a9 := Try.isAgg9
  z9 := Try.sizeOf9
  v9 := Try.zeroValue9
  t22 := Try.underlying38
  a22 := Try.isAgg38
  z22 := Try.sizeOf38
  v22 := Try.zeroValue38
  t25 := Try.underlying77
  a25 := Try.isAgg77
  z25 := Try.sizeOf77
  v25 := Try.zeroValue77
  t39 := Try.underlying100
  a39 := Try.isAgg100
  z39 := Try.sizeOf100
  v39 := Try.zeroValue100
  t45 := Try.underlying113
  a45 := Try.isAgg113
  z45 := Try.sizeOf113
  v45 := Try.zeroValue113
  t46 := Try.underlying114
  a46 := Try.isAgg114
  z46 := Try.sizeOf114
  v46 := Try.zeroValue114
  t50 := Try.underlying74
  a50 := Try.isAgg74
  z50 := Try.sizeOf74
  v50 := Try.zeroValue74
  t53 := Try.underlying120
  a53 := Try.isAgg120
  z53 := Try.sizeOf120
  v53 := Try.zeroValue120
  t55 := Try.underlying23
  a55 := Try.isAgg23
  z55 := Try.sizeOf23
  v55 := Try.zeroValue23
  t66 := Try.underlying132
  a66 := Try.isAgg132
  z66 := Try.sizeOf132
  v66 := Try.zeroValue132
  t70 := Try.underlying136
  a70 := Try.isAgg136
  z70 := Try.sizeOf136
  v70 := Try.zeroValue136
  t76 := Try.underlying140
  a76 := Try.isAgg140
  z76 := Try.sizeOf140
  v76 := Try.zeroValue140
  t77 := Try.underlying141
  a77 := Try.isAgg141
  z77 := Try.sizeOf141
  v77 := Try.zeroValue141 }
theorem sortN_h {c : FuncId} {cb : Array Value} : SortsN Try.prog 27 c cb := fun p cap w => by
  have h := AnyF.slices_SortFunc_none sortH p cap (.func (.func c) #[] cb) w
  exact h
theorem tiHit : Gv.TI Try.prog 48 (.agg #[(.string ⟨#[]⟩), (.int .i64 0)]) 2 24 := by unfold Gv.TI; kernel_rfl
theorem sortK_h : SortsK Try.prog 27 28 #[] eSI ORDH := fun blk cap d w hc hH hb hs => by
  have h := AnyQ.slices_SortFunc sortH 2 (Gv.isAgg_of Try.underlying48 rfl) (Gv.sizeOf_of tiHit) eSI.enc eSI.len eSI.one ORDH ordh_swo 28 #[] blk 0 cap d w (enters_of Try.func28 (by kernel_rfl) rfl) hc hH hb hs
  exact h
def sortedL_ren : Go.Shelf.Ren := ⟨fun | 6 => 29 | 8 => 57 | 9 => 50 | 11 => 81 | 13 => 53 | 12 => 68 | 23 => 77 | 24 => 78 | 14 => 83 | 15 => 84 | 16 => 85 | 17 => 86 | 18 => 87 | 19 => 88 | 20 => 89 | 21 => 90 | 22 => 91 | 25 => 97 | 26 => 93 | 27 => 94 | 28 => 98 | 29 => 99 | 30 => 79 | 31 => 101 | n => n, fun | 26 => 9 | 28 => 80 | 24 => 41 | 0 => 0 | 3 => 3 | 37 => 100 | 48 => 120 | 50 => 23 | 4 => 4 | 40 => 114 | 39 => 113 | 45 => 74 | 5 => 5 | 9 => 9 | 51 => 132 | 55 => 136 | 57 => 140 | 58 => 141 | 33 => 91 | n => n, fun | n => n⟩
theorem sortedL : Go.Proofs.SlLaysZ.n6 Try.prog sortedL_ren := {
  mixed := by kernel_rfl
  f6 := ⟨Try.f29.name, by decide, Try.func29.trans (congrArg some (by kernel_rfl))⟩
  f8 := ⟨Try.f57.name, by decide, Try.func57.trans (congrArg some (by kernel_rfl))⟩
  f11 := ⟨Try.f81.name, by decide, Try.func81.trans (congrArg some (by kernel_rfl))⟩
  t0 := Try.underlying0
  a0 := Try.isAgg0
  z0 := Try.sizeOf0
  v0 := Try.zeroValue0
  t24 := Try.underlying41
  a24 := Try.isAgg41
  z24 := Try.sizeOf41
  v24 := Try.zeroValue41
  t26 := Try.underlying9
  a26 := Try.isAgg9
  z26 := Try.sizeOf9
  v26 := Try.zeroValue9
  t28 := Try.underlying80
  a28 := Try.isAgg80
  z28 := Try.sizeOf80
  v28 := Try.zeroValue80
  i26 := by kernel_rfl }
theorem sortsL (m : Nat) : AnyZ.SortsIn Try.prog sortedL_ren Fence.wide m :=
  ⟨fun blk off cap ss W hH hblk hsz => callsIn_wide.2 (AnyM.slices_Sort_string sortT blk off cap ss W hH hblk hsz),
   fun p cap W => callsIn_wide.2 (AnyM.slices_Sort_string_none sortT p cap W)⟩

def keysR_ren : Go.Shelf.Ren := ⟨fun | 7 => 30 | 10 => 58 | n => n, fun | 23 => 69 | 26 => 9 | 3 => 67 | 28 => 80 | 0 => 0 | 27 => 79 | 33 => 91 | 4 => 4 | n => n, fun | n => n⟩
theorem keysR : Go.Proofs.SlLaysZ.n7 Try.prog keysR_ren := {
  mixed := by kernel_rfl
  f7 := ⟨Try.f30.name, by decide, Try.func30.trans (congrArg some (by kernel_rfl))⟩
  f10 := ⟨Try.f58.name, by decide, Try.func58.trans (congrArg some (by kernel_rfl))⟩
  t0 := Try.underlying0
  a0 := Try.isAgg0
  z0 := Try.sizeOf0
  v0 := Try.zeroValue0
  t4 := Try.underlying4
  a4 := Try.isAgg4
  z4 := Try.sizeOf4
  v4 := Try.zeroValue4
  t23 := Try.underlying69
  a23 := Try.isAgg69
  z23 := Try.sizeOf69
  v23 := Try.zeroValue69
  t26 := Try.underlying9
  a26 := Try.isAgg9
  z26 := Try.sizeOf9
  v26 := Try.zeroValue9
  t27 := Try.underlying79
  a27 := Try.isAgg79
  z27 := Try.sizeOf79
  v27 := Try.zeroValue79
  t28 := Try.underlying80
  a28 := Try.isAgg80
  z28 := Try.sizeOf80
  v28 := Try.zeroValue80
  t33 := Try.underlying91
  a33 := Try.isAgg91
  z33 := Try.sizeOf91
  v33 := Try.zeroValue91 }
theorem sortedR : SortedKeys Try.prog 29 58 69 9 := fun Bm b nn D0 w hB hown hsz => by
  have hml : (1000000 : Nat) ≤ maxLen := by unfold maxLen; omega
  refine (callsIn_wide (n := 5)).1 ?_
  have hseq : SeqGives Fence.wide 2 Try.prog 58 #[.pointer (some ⟨Bm, 0, none⟩)] encStr (fun ss => ss.Perm (strKeys D0)) (Maps.size D0) w :=
    AnyZ.keys_gives (ρ := keysR_ren) { keysR with } Fence.wide _ trivial rfl (by omega) Bm b nn D0 _ (Array.getElem?_eq_some_iff.1 hB).1 (by simp [World.cell?, hB]) hown
  have cS := AnyZ.sorted_in sortedL Fence.wide 5 trivial trivial trivial trivial rfl (by omega) (sortsL _) (enters_of Try.func50 (by kernel_rfl) rfl) 58 #[.pointer (some ⟨Bm, 0, none⟩)] trivial (enters_of Try.func58 (by kernel_rfl) rfl) _ _ (by omega) (by omega) _ hseq
  exact cS.mono fun e w' ⟨v, ss, h1, h2, h3, _, h4⟩ => ⟨v, ss, h1, h2, h3, h4⟩
theorem keysKR (mb : Option Nat) (w : World) : Calls Try.prog 30 #[.map mb] w fun e w' => e = .returned (.func (.func 58) #[] #[.pointer (some ⟨w.heap.size, 0, none⟩)]) ∧ w' = w.alloc (.cells #[.map mb] 69) :=
  (callsIn_wide (n := 5)).1 (AnyZ.keys_in keysR Fence.wide 5 trivial rfl mb w)

def keysF_ren : Go.Shelf.Ren := ⟨fun | 7 => 31 | 10 => 59 | n => n, fun | 23 => 68 | 26 => 9 | 3 => 30 | 28 => 80 | 0 => 0 | 27 => 79 | 33 => 91 | 4 => 4 | n => n, fun | n => n⟩
theorem keysF : Go.Proofs.SlLaysZ.n7 Try.prog keysF_ren := {
  mixed := by kernel_rfl
  f7 := ⟨Try.f31.name, by decide, Try.func31.trans (congrArg some (by kernel_rfl))⟩
  f10 := ⟨Try.f59.name, by decide, Try.func59.trans (congrArg some (by kernel_rfl))⟩
  t0 := Try.underlying0
  a0 := Try.isAgg0
  z0 := Try.sizeOf0
  v0 := Try.zeroValue0
  t4 := Try.underlying4
  a4 := Try.isAgg4
  z4 := Try.sizeOf4
  v4 := Try.zeroValue4
  t23 := Try.underlying68
  a23 := Try.isAgg68
  z23 := Try.sizeOf68
  v23 := Try.zeroValue68
  t26 := Try.underlying9
  a26 := Try.isAgg9
  z26 := Try.sizeOf9
  v26 := Try.zeroValue9
  t27 := Try.underlying79
  a27 := Try.isAgg79
  z27 := Try.sizeOf79
  v27 := Try.zeroValue79
  t28 := Try.underlying80
  a28 := Try.isAgg80
  z28 := Try.sizeOf80
  v28 := Try.zeroValue80
  t33 := Try.underlying91
  a33 := Try.isAgg91
  z33 := Try.sizeOf91
  v33 := Try.zeroValue91 }
theorem sortedF : SortedKeys Try.prog 29 59 68 9 := fun Bm b nn D0 w hB hown hsz => by
  have hml : (1000000 : Nat) ≤ maxLen := by unfold maxLen; omega
  refine (callsIn_wide (n := 5)).1 ?_
  have hseq : SeqGives Fence.wide 2 Try.prog 59 #[.pointer (some ⟨Bm, 0, none⟩)] encStr (fun ss => ss.Perm (strKeys D0)) (Maps.size D0) w :=
    AnyZ.keys_gives (ρ := keysF_ren) { keysF with } Fence.wide _ trivial rfl (by omega) Bm b nn D0 _ (Array.getElem?_eq_some_iff.1 hB).1 (by simp [World.cell?, hB]) hown
  have cS := AnyZ.sorted_in sortedL Fence.wide 5 trivial trivial trivial trivial rfl (by omega) (sortsL _) (enters_of Try.func50 (by kernel_rfl) rfl) 59 #[.pointer (some ⟨Bm, 0, none⟩)] trivial (enters_of Try.func59 (by kernel_rfl) rfl) _ _ (by omega) (by omega) _ hseq
  exact cS.mono fun e w' ⟨v, ss, h1, h2, h3, _, h4⟩ => ⟨v, ss, h1, h2, h3, h4⟩
theorem keysKF (mb : Option Nat) (w : World) : Calls Try.prog 31 #[.map mb] w fun e w' => e = .returned (.func (.func 59) #[] #[.pointer (some ⟨w.heap.size, 0, none⟩)]) ∧ w' = w.alloc (.cells #[.map mb] 68) :=
  (callsIn_wide (n := 5)).1 (AnyZ.keys_in keysF Fence.wide 5 trivial rfl mb w)

def cloneR_ren : Go.Shelf.Ren := ⟨fun | 5 => 40 | 7 => 63 | n => n, fun | 23 => 69 | 25 => 9 | 3 => 67 | 4 => 4 | 20 => 20 | n => n, fun | n => n⟩
theorem cloneR : Go.Proofs.SlLaysW.n5 Try.prog cloneR_ren := {
  mixed := by kernel_rfl
  f5 := ⟨Try.f40.name, by decide, Try.func40.trans (congrArg some (by kernel_rfl))⟩
  f7 := Try.func63.trans (congrArg some (by kernel_rfl))
  t4 := Try.underlying4
  a4 := Try.isAgg4
  z4 := Try.sizeOf4
  v4 := Try.zeroValue4
  t20 := Try.underlying20
  a20 := Try.isAgg20
  z20 := Try.sizeOf20
  v20 := Try.zeroValue20
  t23 := Try.underlying69
  a23 := Try.isAgg69
  z23 := Try.sizeOf69
  v23 := Try.zeroValue69 }
def cloneF_ren : Go.Shelf.Ren := ⟨fun | 5 => 39 | 7 => 63 | n => n, fun | 23 => 68 | 25 => 9 | 3 => 30 | 4 => 4 | 20 => 20 | n => n, fun | n => n⟩
theorem cloneF : Go.Proofs.SlLaysW.n5 Try.prog cloneF_ren := {
  mixed := by kernel_rfl
  f5 := ⟨Try.f39.name, by decide, Try.func39.trans (congrArg some (by kernel_rfl))⟩
  f7 := Try.func63.trans (congrArg some (by kernel_rfl))
  t4 := Try.underlying4
  a4 := Try.isAgg4
  z4 := Try.sizeOf4
  v4 := Try.zeroValue4
  t20 := Try.underlying20
  a20 := Try.isAgg20
  z20 := Try.sizeOf20
  v20 := Try.zeroValue20
  t23 := Try.underlying68
  a23 := Try.isAgg68
  z23 := Try.sizeOf68
  v23 := Try.zeroValue68 }
theorem cloneKR (b : Nat) (es : Array MapEntry) (clock : Nat) (w : World) (hb : w.heap[b]? = some (.map es clock)) : Calls Try.prog 40 #[.map (some b)] w fun e w' => e = .returned (.map (some w.heap.size)) ∧ w' = w.alloc (.map es clock) := AnyW.maps_Clone cloneR b es clock w hb
theorem cloneKF (b : Nat) (es : Array MapEntry) (clock : Nat) (w : World) (hb : w.heap[b]? = some (.map es clock)) : Calls Try.prog 39 #[.map (some b)] w fun e w' => e = .returned (.map (some w.heap.size)) ∧ w' = w.alloc (.map es clock) := AnyW.maps_Clone cloneF b es clock w hb

end Go.Proofs.Ytigbphaimbhgjaa

