/- What each operation yields, on frames told slot by slot. -/
import Derived.Test.YtomeffnlmefnlaaGvA
import Derived.WalkSpells
import Derived.WalkLawsBesides
import Derived.Laws.OwnMore
namespace Go.Gv
open Go

section
variable {P : Program} {f : Env} {w : World} {d : Option Tmp} {ty : TypeId} {ps : String} {af : Array Edge} {gd : Option (Nat × Bool)}

theorem LV.mv {x : Operand} {v : Value} (hx : ev f x = some v) : LV P ⟨d, .move x, ty, ps, af, gd⟩ f w v := fun a ha => by
  simp [execOp, ev_eval ha hx]
theorem LV.asg {x : Operand} {v : Value} (hx : ev f x = some v) : LV P ⟨d, .assign x, ty, ps, af, gd⟩ f w v := fun a ha => by
  simp [execOp, ev_eval ha hx]
theorem LV.pickT {c x y : Operand} {v : Value} (hc : ev f c = some (.bool true)) (hx : ev f x = some v) : LV P ⟨d, .pick c x y, ty, ps, af, gd⟩ f w v := fun a ha => by
  simp [execOp, ev_eval ha hx, ev_eval ha hc, asBool]
theorem LV.pickF {c x y : Operand} {v : Value} (hc : ev f c = some (.bool false)) (hy : ev f y = some v) : LV P ⟨d, .pick c x y, ty, ps, af, gd⟩ f w v := fun a ha => by
  simp [execOp, ev_eval ha hy, ev_eval ha hc, asBool]
theorem LV.nilCheck {x : Operand} {a : Addr} (hx : ev f x = some (.pointer (some a))) : LV P ⟨d, .nilCheck x, ty, ps, af, gd⟩ f w (.pointer (some a)) := fun b hb => by
  simp [execOp, ev_eval hb hx]

/-! #### numbers -/
theorem LV.add {t t2 : TypeId} {x y : Operand} {k : IntKind} {a b c : Int} (hx : ev f x = some (.int k a)) (hy : ev f y = some (.int k b)) (hc : k.wrap (a + b) = c) :
    LV P ⟨d, .binOp .add t x y t2, ty, ps, af, gd⟩ f w (.int k c) := fun e he => by
  simp [execOp, ev_eval he hx, ev_eval he hy, eqGuard, binOp, Op.intArith, hc]
theorem LV.sub {t t2 : TypeId} {x y : Operand} {k : IntKind} {a b c : Int} (hx : ev f x = some (.int k a)) (hy : ev f y = some (.int k b)) (hc : k.wrap (a - b) = c) :
    LV P ⟨d, .binOp .sub t x y t2, ty, ps, af, gd⟩ f w (.int k c) := fun e he => by
  simp [execOp, ev_eval he hx, ev_eval he hy, eqGuard, binOp, Op.intArith, hc]
theorem LV.mul {t t2 : TypeId} {x y : Operand} {k : IntKind} {a b c : Int} (hx : ev f x = some (.int k a)) (hy : ev f y = some (.int k b)) (hc : k.wrap (a * b) = c) :
    LV P ⟨d, .binOp .mul t x y t2, ty, ps, af, gd⟩ f w (.int k c) := fun e he => by
  simp [execOp, ev_eval he hx, ev_eval he hy, eqGuard, binOp, Op.intArith, hc]
theorem LV.quo {t t2 : TypeId} {x y : Operand} {k : IntKind} {a b c : Int} (hx : ev f x = some (.int k a)) (hy : ev f y = some (.int k b)) (hb : b ≠ 0) (hc : k.wrap (a.tdiv b) = c) :
    LV P ⟨d, .binOp .quo t x y t2, ty, ps, af, gd⟩ f w (.int k c) := fun e he => by
  simp [execOp, ev_eval he hx, ev_eval he hy, eqGuard, binOp, Op.intDiv, hb, hc]
theorem LV.rem {t t2 : TypeId} {x y : Operand} {k : IntKind} {a b c : Int} (hx : ev f x = some (.int k a)) (hy : ev f y = some (.int k b)) (hb : b ≠ 0) (hc : a.tmod b = c) :
    LV P ⟨d, .binOp .rem t x y t2, ty, ps, af, gd⟩ f w (.int k c) := fun e he => by
  simp [execOp, ev_eval he hx, ev_eval he hy, eqGuard, binOp, Op.intDiv, hb, hc]
theorem LV.neg {t : TypeId} {x : Operand} {k : IntKind} {a c : Int} (hx : ev f x = some (.int k a)) (hc : k.wrap (0 - a) = c) :
    LV P ⟨d, .unOp .neg t x, ty, ps, af, gd⟩ f w (.int k c) := fun e he => by
  simp only [Int.zero_sub] at hc
  simp [execOp, ev_eval he hx, Op.unary, Op.intArith, hc]
theorem LV.eqI {t t2 : TypeId} {x y : Operand} {k : IntKind} {a b : Int} (hx : ev f x = some (.int k a)) (hy : ev f y = some (.int k b)) :
    LV P ⟨d, .binOp .eql t x y t2, ty, ps, af, gd⟩ f w (.bool (decide (a = b))) := fun e he => by
  simp [execOp, ev_eval he hx, ev_eval he hy, eqGuard, binOp, Op.intCmp]
  rfl
theorem LV.neI {t t2 : TypeId} {x y : Operand} {k : IntKind} {a b : Int} (hx : ev f x = some (.int k a)) (hy : ev f y = some (.int k b)) :
    LV P ⟨d, .binOp .neq t x y t2, ty, ps, af, gd⟩ f w (.bool (decide (a ≠ b))) := fun e he => by
  simp [execOp, ev_eval he hx, ev_eval he hy, eqGuard, binOp, Op.intCmp]
  rfl
theorem LV.ltI {t t2 : TypeId} {x y : Operand} {k : IntKind} {a b : Int} (hx : ev f x = some (.int k a)) (hy : ev f y = some (.int k b)) :
    LV P ⟨d, .binOp .lss t x y t2, ty, ps, af, gd⟩ f w (.bool (decide (a < b))) := fun e he => by
  simp [execOp, ev_eval he hx, ev_eval he hy, eqGuard, binOp, Op.intCmp]
theorem LV.leI {t t2 : TypeId} {x y : Operand} {k : IntKind} {a b : Int} (hx : ev f x = some (.int k a)) (hy : ev f y = some (.int k b)) :
    LV P ⟨d, .binOp .leq t x y t2, ty, ps, af, gd⟩ f w (.bool (decide (a ≤ b))) := fun e he => by
  simp [execOp, ev_eval he hx, ev_eval he hy, eqGuard, binOp, Op.intCmp]
theorem LV.gtI {t t2 : TypeId} {x y : Operand} {k : IntKind} {a b : Int} (hx : ev f x = some (.int k a)) (hy : ev f y = some (.int k b)) :
    LV P ⟨d, .binOp .gtr t x y t2, ty, ps, af, gd⟩ f w (.bool (decide (a > b))) := fun e he => by
  simp [execOp, ev_eval he hx, ev_eval he hy, eqGuard, binOp, Op.intCmp]
theorem LV.geI {t t2 : TypeId} {x y : Operand} {k : IntKind} {a b : Int} (hx : ev f x = some (.int k a)) (hy : ev f y = some (.int k b)) :
    LV P ⟨d, .binOp .geq t x y t2, ty, ps, af, gd⟩ f w (.bool (decide (a ≥ b))) := fun e he => by
  simp [execOp, ev_eval he hx, ev_eval he hy, eqGuard, binOp, Op.intCmp]
theorem LV.cvtI {s t : TypeId} {x : Operand} {k k2 : IntKind} {a c : Int} {u : TypeDesc} (hs : P.underlying s = some u) (ht : P.underlying t = some (.int k)) (hx : ev f x = some (.int k2 a)) (hc : k.wrap a = c) :
    LV P ⟨d, .convert s t x, ty, ps, af, gd⟩ f w (.int k c) := fun e he => by
  cases u <;> simp [execOp, ev_eval he hx, convert, run_underlying hs, run_underlying ht, Conv.intToInt, hc]
theorem LV.minI {t0 t1 : TypeId} {x y : Operand} {k : IntKind} {a b : Int} (hx : ev f x = some (.int k a)) (hy : ev f y = some (.int k b)) :
    LV P ⟨d, .call { callee := .builtin .min, args := #[x, y], argTypes := #[t0, t1] }, ty, ps, af, gd⟩ f w (.int k (min a b)) := fun e he => by
  have h : (if b < a then b else a) = min a b := by omega
  simp [execOp, resolve, invoke, builtin, ev_eval he hx, ev_eval he hy, Builtin.min_, Builtin.min2, h]
theorem LV.maxI {t0 t1 : TypeId} {x y : Operand} {k : IntKind} {a b : Int} (hx : ev f x = some (.int k a)) (hy : ev f y = some (.int k b)) :
    LV P ⟨d, .call { callee := .builtin .max, args := #[x, y], argTypes := #[t0, t1] }, ty, ps, af, gd⟩ f w (.int k (max a b)) := fun e he => by
  have h : (if a < b then b else a) = max a b := by omega
  simp [execOp, resolve, invoke, builtin, ev_eval he hx, ev_eval he hy, Builtin.max_, Builtin.max2, h]

/-! #### bools -/
theorem LV.notB {t : TypeId} {x : Operand} {b : Bool} (hx : ev f x = some (.bool b)) : LV P ⟨d, .unOp .not t x, ty, ps, af, gd⟩ f w (.bool !b) := fun e he => by
  simp [execOp, ev_eval he hx, Op.unary]
theorem run_equalIn_bool {t : TypeId} (n : Nat) (a b : Bool) (ht : P.underlying t = some .bool) : (Op.equalIn (n + 1) t (.bool a) (.bool b)).run P w = .ok (a == b) w := by
  simp [Op.equalIn, run_underlying ht]
theorem run_equal_bool {t : TypeId} (a b : Bool) (ht : P.underlying t = some .bool) : (Op.equal t (.bool a) (.bool b)).run P w = .ok (a == b) w := run_equalIn_bool 9999 a b ht
theorem LV.eqB {t t2 : TypeId} {x y : Operand} {a b : Bool} (ht : P.underlying t = some .bool) (hx : ev f x = some (.bool a)) (hy : ev f y = some (.bool b)) :
    LV P ⟨d, .binOp .eql t x y t2, ty, ps, af, gd⟩ f w (.bool (a == b)) := fun e he => by
  simp only [execOp, ev_eval he hx, ev_eval he hy]
  have h : (binOp .eql t (.bool a) (.bool b)).run P w = .ok (.bool (a == b)) w := by
    unfold binOp
    simp [run_equal_bool a b ht]
  simp [eqGuard, h]
theorem LV.neB {t t2 : TypeId} {x y : Operand} {a b : Bool} (ht : P.underlying t = some .bool) (hx : ev f x = some (.bool a)) (hy : ev f y = some (.bool b)) :
    LV P ⟨d, .binOp .neq t x y t2, ty, ps, af, gd⟩ f w (.bool (a != b)) := fun e he => by
  simp only [execOp, ev_eval he hx, ev_eval he hy]
  have h : (binOp .neq t (.bool a) (.bool b)).run P w = .ok (.bool (a != b)) w := by
    unfold binOp
    simp [run_equal_bool a b ht]
    cases a <;> cases b <;> rfl
  simp [eqGuard, h]

/-! #### the same, decided -/
theorem LV.as {o : Oper} {b c : Bool} (h : LV P o f w (.bool b)) (e : b = c) : LV P o f w (.bool c) := e ▸ h

/-! #### strings -/
theorem LV.eqS {t t2 : TypeId} {x y : Operand} {a b : ByteArray} (hx : ev f x = some (.string a)) (hy : ev f y = some (.string b)) :
    LV P ⟨d, .binOp .eql t x y t2, ty, ps, af, gd⟩ f w (.bool (a.toList == b.toList)) := fun e he => by
  simp [execOp, ev_eval he hx, ev_eval he hy, eqGuard, binOp, Op.stringOp]
theorem LV.neS {t t2 : TypeId} {x y : Operand} {a b : ByteArray} (hx : ev f x = some (.string a)) (hy : ev f y = some (.string b)) :
    LV P ⟨d, .binOp .neq t x y t2, ty, ps, af, gd⟩ f w (.bool !(a.toList == b.toList)) := fun e he => by
  simp [execOp, ev_eval he hx, ev_eval he hy, eqGuard, binOp, Op.stringOp]
theorem LV.addS {t t2 : TypeId} {x y : Operand} {a b : ByteArray} (hx : ev f x = some (.string a)) (hy : ev f y = some (.string b)) (hs : a.size + b.size ≤ 9223372036854775807) :
    LV P ⟨d, .binOp .add t x y t2, ty, ps, af, gd⟩ f w (.string (a ++ b)) := fun e he => by
  have h : (a.size : Int) + (b.size : Int) ≤ 9223372036854775807 := by omega
  simp [execOp, ev_eval he hx, ev_eval he hy, eqGuard, binOp, Op.stringOp, h]
theorem LV.lenS {t : TypeId} {x : Operand} {s : ByteArray} (ht : P.underlying t = some .string) (hx : ev f x = some (.string s)) :
    LV P ⟨d, .call { callee := .builtin .len, args := #[x], argTypes := #[t] }, ty, ps, af, gd⟩ f w (.int .i64 s.size) := fun e he => by
  simp [execOp, resolve, invoke, builtin, ev_eval he hx, Builtin.len_, run_underlying ht, goInt]
theorem LV.idxS {t : TypeId} {x y : Operand} {s : ByteArray} {i : Nat} {k : IntKind} {c : UInt8} (ht : P.underlying t = some .string) (hx : ev f x = some (.string s)) (hy : ev f y = some (.int k i)) (hc : s[i]? = some c) :
    LV P ⟨d, .index t x y, ty, ps, af, gd⟩ f w (.int .u8 c.toNat) := fun e he => by
  simp [execOp, ev_eval he hx, ev_eval he hy, Instr.index, asIntOf, run_underlying ht, hc]

/-! #### slices' values -/
theorem LV.lenL {t e : TypeId} {x : Operand} {A : Option Addr} {n c : Nat} (ht : P.underlying t = some (.slice e)) (hx : ev f x = some (.slice A n c)) :
    LV P ⟨d, .call { callee := .builtin .len, args := #[x], argTypes := #[t] }, ty, ps, af, gd⟩ f w (.int .i64 n) := fun b hb => by
  simp [execOp, resolve, invoke, builtin, ev_eval hb hx, Builtin.len_, run_underlying ht, goInt]
theorem LV.idxA {t e : TypeId} {x y : Operand} {A : Addr} {n c sz : Nat} {i : Int} {k : IntKind} (ht : P.underlying t = some (.slice e)) (hsz : (P.info? e).map (·.size) = some sz) {v : Value} (hx : ev f x = some v) (hv : v = .slice (some A) n c)
    (hy : ev f y = some (.int k i)) (h0 : 0 ≤ i) (h1 : i < n) : LV P ⟨d, .indexAddr t x y, ty, ps, af, gd⟩ f w (.pointer (some (A.add (i.toNat * sz)))) := fun b hb => by
  subst hv
  obtain ⟨inf, hi, hs⟩ := Option.map_eq_some_iff.1 hsz
  simp [execOp, ev_eval hb hx, ev_eval hb hy, Instr.indexAt, asIntOf, run_underlying ht, h0, h1, sizeOf, typeInfo, hi, hs]
/-- A field's address. -/
theorem LV.fieldAddr {s : TypeId} {x : Operand} {i : Nat} {fs : Array Field} {fl : Field} {g o : Nat} (hs : P.underlying s = some (.struct fs)) (hf : fs[i]? = some fl) (hx : ev f x = some (.pointer (some ⟨g, o, none⟩)))
    (hp : ∀ w, (fieldPlace ⟨g, o, none⟩ fl).run P w = .ok ⟨g, o + fl.offset, none⟩ w) : LV P ⟨d, .fieldAddr s x i, ty, ps, af, gd⟩ f w (.pointer (some ⟨g, o + fl.offset, none⟩)) := fun b hb => by
  simp [execOp, ev_eval hb hx, Instr.fieldAt, Instr.sureAddr, run_underlying hs, hf, hp]
theorem LV.load1 {t : TypeId} {x : Operand} {a : Addr} {v : Value} {u : TypeDesc} (ht : P.underlying t = some u) (hu : (match u with | .struct _ | .array _ _ => false | _ => true) = true) (hx : ev f x = some (.pointer (some a))) (hc : w.cell? a = some v) :
    LV P ⟨d, .load t x, ty, ps, af, gd⟩ f w v := fun b hb => by
  cases u <;> simp at hu <;> simp [execOp, ev_eval hb hx, Instr.loadAt, Instr.sureAddr, loadVar, isAgg, run_underlying ht, hc]
theorem LV.extract {x : Operand} {i : Nat} {vs : Array Value} {v : Value} (hx : ev f x = some (.tuple vs)) (hv : vs[i]? = some v) : LV P ⟨d, .extract x i, ty, ps, af, gd⟩ f w v := fun b hb => by
  simp [execOp, ev_eval hb hx, Instr.extract, hv]
theorem LV.mkFunc {fn : Fn} {x : Operand} {v : Value} (hx : ev f x = some v) : LV P ⟨d, .makeFunc fn #[] #[x], ty, ps, af, gd⟩ f w (.func fn #[] #[v]) := fun b hb => by
  simp [execOp, ev_eval hb hx, Instr.makeFunc]
end
end Go.Gv
