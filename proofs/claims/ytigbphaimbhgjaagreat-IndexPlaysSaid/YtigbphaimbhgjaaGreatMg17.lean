/- What each operation yields, on frames told slot by slot. -/
import Derived.Test.YtigbphaimbhgjaaGreatMg16
import Derived.WalkSpells
import Derived.WalkLawsBesides
import Derived.Laws.OwnMore
import Derived.Laws.MakeOwn
namespace Go.Gw
open Go

section
variable {P : Program} {f : Env} {w : World} {d : Option Tmp} {ty : TypeId} {ps : String} {af : Array Edge} {gd : Option (Nat × Bool)}

theorem LV.mv {x : Operand} {v : Value} (hx : ev f x = some v) : LV P ⟨d, .move x, ty, ps, af, gd⟩ f w v := fun a ha => by
  simp [execOp, ev_eval ha hx]
theorem LV.asg {x : Operand} {v : Value} (hx : ev f x = some v) : LV P ⟨d, .assign x, ty, ps, af, gd⟩ f w v := fun a ha => by
  simp [execOp, ev_eval ha hx]
theorem LV.pickT {c x y : Operand} {v : Value} (hc : ev f c = some (.bool true)) (hx : ev f x = some v) : LV P ⟨d, .pick c x y, ty, ps, af, gd⟩ f w v := fun a ha => by
  simp [execOp, ev_eval ha hx, ev_eval ha hc, asBool]
theorem LV.pickF {c x y : Operand} {v : Value} (hc : ev f c = some (.bool false)) (hy : ev f y = some v) : LV P ⟨d, .pick c x y, ty, ps, af, gd⟩ f w v := fun a ha => by
  simp [execOp, ev_eval ha hy, ev_eval ha hc, asBool]
theorem LV.nilCheck {x : Operand} {a : Addr} (hx : ev f x = some (.pointer (some a))) : LV P ⟨d, .nilCheck x, ty, ps, af, gd⟩ f w (.pointer (some a)) := fun b hb => by
  simp [execOp, ev_eval hb hx]

/-! #### numbers -/
theorem LV.add {t t2 : TypeId} {x y : Operand} {k : IntKind} {a b c : Int} (hx : ev f x = some (.int k a)) (hy : ev f y = some (.int k b)) (hc : k.wrap (a + b) = c) :
    LV P ⟨d, .binOp .add t x y t2, ty, ps, af, gd⟩ f w (.int k c) := fun e he => by
  simp [execOp, ev_eval he hx, ev_eval he hy, eqGuard, binOp, Op.intArith, hc]
theorem LV.sub {t t2 : TypeId} {x y : Operand} {k : IntKind} {a b c : Int} (hx : ev f x = some (.int k a)) (hy : ev f y = some (.int k b)) (hc : k.wrap (a - b) = c) :
    LV P ⟨d, .binOp .sub t x y t2, ty, ps, af, gd⟩ f w (.int k c) := fun e he => by
  simp [execOp, ev_eval he hx, ev_eval he hy, eqGuard, binOp, Op.intArith, hc]
theorem LV.mul {t t2 : TypeId} {x y : Operand} {k : IntKind} {a b c : Int} (hx : ev f x = some (.int k a)) (hy : ev f y = some (.int k b)) (hc : k.wrap (a * b) = c) :
    LV P ⟨d, .binOp .mul t x y t2, ty, ps, af, gd⟩ f w (.int k c) := fun e he => by
  simp [execOp, ev_eval he hx, ev_eval he hy, eqGuard, binOp, Op.intArith, hc]
theorem LV.quo {t t2 : TypeId} {x y : Operand} {k : IntKind} {a b c : Int} (hx : ev f x = some (.int k a)) (hy : ev f y = some (.int k b)) (hb : b ≠ 0) (hc : k.wrap (a.tdiv b) = c) :
    LV P ⟨d, .binOp .quo t x y t2, ty, ps, af, gd⟩ f w (.int k c) := fun e he => by
  simp [execOp, ev_eval he hx, ev_eval he hy, eqGuard, binOp, Op.intDiv, hb, hc]
theorem LV.rem {t t2 : TypeId} {x y : Operand} {k : IntKind} {a b c : Int} (hx : ev f x = some (.int k a)) (hy : ev f y = some (.int k b)) (hb : b ≠ 0) (hc : a.tmod b = c) :
    LV P ⟨d, .binOp .rem t x y t2, ty, ps, af, gd⟩ f w (.int k c) := fun e he => by
  simp [execOp, ev_eval he hx, ev_eval he hy, eqGuard, binOp, Op.intDiv, hb, hc]
theorem LV.neg {t : TypeId} {x : Operand} {k : IntKind} {a c : Int} (hx : ev f x = some (.int k a)) (hc : k.wrap (0 - a) = c) :
    LV P ⟨d, .unOp .neg t x, ty, ps, af, gd⟩ f w (.int k c) := fun e he => by
  simp only [Int.zero_sub] at hc
  simp [execOp, ev_eval he hx, Op.unary, Op.intArith, hc]
theorem LV.eqI {t t2 : TypeId} {x y : Operand} {k : IntKind} {a b : Int} (hx : ev f x = some (.int k a)) (hy : ev f y = some (.int k b)) :
    LV P ⟨d, .binOp .eql t x y t2, ty, ps, af, gd⟩ f w (.bool (decide (a = b))) := fun e he => by
  simp [execOp, ev_eval he hx, ev_eval he hy, eqGuard, binOp, Op.intCmp]
  rfl
theorem LV.neI {t t2 : TypeId} {x y : Operand} {k : IntKind} {a b : Int} (hx : ev f x = some (.int k a)) (hy : ev f y = some (.int k b)) :
    LV P ⟨d, .binOp .neq t x y t2, ty, ps, af, gd⟩ f w (.bool (decide (a ≠ b))) := fun e he => by
  simp [execOp, ev_eval he hx, ev_eval he hy, eqGuard, binOp, Op.intCmp]
  rfl
theorem LV.ltI {t t2 : TypeId} {x y : Operand} {k : IntKind} {a b : Int} (hx : ev f x = some (.int k a)) (hy : ev f y = some (.int k b)) :
    LV P ⟨d, .binOp .lss t x y t2, ty, ps, af, gd⟩ f w (.bool (decide (a < b))) := fun e he => by
  simp [execOp, ev_eval he hx, ev_eval he hy, eqGuard, binOp, Op.intCmp]
theorem LV.leI {t t2 : TypeId} {x y : Operand} {k : IntKind} {a b : Int} (hx : ev f x = some (.int k a)) (hy : ev f y = some (.int k b)) :
    LV P ⟨d, .binOp .leq t x y t2, ty, ps, af, gd⟩ f w (.bool (decide (a ≤ b))) := fun e he => by
  simp [execOp, ev_eval he hx, ev_eval he hy, eqGuard, binOp, Op.intCmp]
theorem LV.gtI {t t2 : TypeId} {x y : Operand} {k : IntKind} {a b : Int} (hx : ev f x = some (.int k a)) (hy : ev f y = some (.int k b)) :
    LV P ⟨d, .binOp .gtr t x y t2, ty, ps, af, gd⟩ f w (.bool (decide (a > b))) := fun e he => by
  simp [execOp, ev_eval he hx, ev_eval he hy, eqGuard, binOp, Op.intCmp]
theorem LV.geI {t t2 : TypeId} {x y : Operand} {k : IntKind} {a b : Int} (hx : ev f x = some (.int k a)) (hy : ev f y = some (.int k b)) :
    LV P ⟨d, .binOp .geq t x y t2, ty, ps, af, gd⟩ f w (.bool (decide (a ≥ b))) := fun e he => by
  simp [execOp, ev_eval he hx, ev_eval he hy, eqGuard, binOp, Op.intCmp]
theorem LV.cvtI {s t : TypeId} {x : Operand} {k k2 : IntKind} {a c : Int} {u : TypeDesc} (hs : P.underlying s = some u) (ht : P.underlying t = some (.int k)) (hx : ev f x = some (.int k2 a)) (hc : k.wrap a = c) :
    LV P ⟨d, .convert s t x, ty, ps, af, gd⟩ f w (.int k c) := fun e he => by
  cases u <;> simp [execOp, ev_eval he hx, convert, run_underlying hs, run_underlying ht, Conv.intToInt, hc]
theorem LV.minI {t0 t1 : TypeId} {x y : Operand} {k : IntKind} {a b : Int} (hx : ev f x = some (.int k a)) (hy : ev f y = some (.int k b)) :
    LV P ⟨d, .call { callee := .builtin .min, args := #[x, y], argTypes := #[t0, t1] }, ty, ps, af, gd⟩ f w (.int k (min a b)) := fun e he => by
  have h : (if b < a then b else a) = min a b := by omega
  simp [execOp, resolve, invoke, builtin, ev_eval he hx, ev_eval he hy, Builtin.min_, Builtin.min2, h]
theorem LV.maxI {t0 t1 : TypeId} {x y : Operand} {k : IntKind} {a b : Int} (hx : ev f x = some (.int k a)) (hy : ev f y = some (.int k b)) :
    LV P ⟨d, .call { callee := .builtin .max, args := #[x, y], argTypes := #[t0, t1] }, ty, ps, af, gd⟩ f w (.int k (max a b)) := fun e he => by
  have h : (if a < b then b else a) = max a b := by omega
  simp [execOp, resolve, invoke, builtin, ev_eval he hx, ev_eval he hy, Builtin.max_, Builtin.max2, h]

/-! #### bools -/
theorem LV.notB {t : TypeId} {x : Operand} {b : Bool} (hx : ev f x = some (.bool b)) : LV P ⟨d, .unOp .not t x, ty, ps, af, gd⟩ f w (.bool !b) := fun e he => by
  simp [execOp, ev_eval he hx, Op.unary]
theorem run_equalIn_bool {t : TypeId} (n : Nat) (a b : Bool) (ht : P.underlying t = some .bool) : (Op.equalIn (n + 1) t (.bool a) (.bool b)).run P w = .ok (a == b) w := by
  simp [Op.equalIn, run_underlying ht]
theorem run_equal_bool {t : TypeId} (a b : Bool) (ht : P.underlying t = some .bool) : (Op.equal t (.bool a) (.bool b)).run P w = .ok (a == b) w := run_equalIn_bool 9999 a b ht
theorem LV.eqB {t t2 : TypeId} {x y : Operand} {a b : Bool} (ht : P.underlying t = some .bool) (hx : ev f x = some (.bool a)) (hy : ev f y = some (.bool b)) :
    LV P ⟨d, .binOp .eql t x y t2, ty, ps, af, gd⟩ f w (.bool (a == b)) := fun e he => by
  simp only [execOp, ev_eval he hx, ev_eval he hy]
  have h : (binOp .eql t (.bool a) (.bool b)).run P w = .ok (.bool (a == b)) w := by
    unfold binOp
    simp [run_equal_bool a b ht]
  simp [eqGuard, h]
theorem LV.neB {t t2 : TypeId} {x y : Operand} {a b : Bool} (ht : P.underlying t = some .bool) (hx : ev f x = some (.bool a)) (hy : ev f y = some (.bool b)) :
    LV P ⟨d, .binOp .neq t x y t2, ty, ps, af, gd⟩ f w (.bool (a != b)) := fun e he => by
  simp only [execOp, ev_eval he hx, ev_eval he hy]
  have h : (binOp .neq t (.bool a) (.bool b)).run P w = .ok (.bool (a != b)) w := by
    unfold binOp
    simp [run_equal_bool a b ht]
    cases a <;> cases b <;> rfl
  simp [eqGuard, h]

/-! #### the same, decided -/
theorem LV.as {o : Oper} {b c : Bool} (h : LV P o f w (.bool b)) (e : b = c) : LV P o f w (.bool c) := e ▸ h

/-! #### strings -/
theorem LV.eqS {t t2 : TypeId} {x y : Operand} {a b : ByteArray} (hx : ev f x = some (.string a)) (hy : ev f y = some (.string b)) :
    LV P ⟨d, .binOp .eql t x y t2, ty, ps, af, gd⟩ f w (.bool (a.toList == b.toList)) := fun e he => by
  simp [execOp, ev_eval he hx, ev_eval he hy, eqGuard, binOp, Op.stringOp]
theorem LV.neS {t t2 : TypeId} {x y : Operand} {a b : ByteArray} (hx : ev f x = some (.string a)) (hy : ev f y = some (.string b)) :
    LV P ⟨d, .binOp .neq t x y t2, ty, ps, af, gd⟩ f w (.bool !(a.toList == b.toList)) := fun e he => by
  simp [execOp, ev_eval he hx, ev_eval he hy, eqGuard, binOp, Op.stringOp]
theorem LV.addS {t t2 : TypeId} {x y : Operand} {a b : ByteArray} (hx : ev f x = some (.string a)) (hy : ev f y = some (.string b)) (hs : a.size + b.size ≤ 9223372036854775807) :
    LV P ⟨d, .binOp .add t x y t2, ty, ps, af, gd⟩ f w (.string (a ++ b)) := fun e he => by
  have h : (a.size : Int) + (b.size : Int) ≤ 9223372036854775807 := by omega
  simp [execOp, ev_eval he hx, ev_eval he hy, eqGuard, binOp, Op.stringOp, h]
theorem LV.lenS {t : TypeId} {x : Operand} {s : ByteArray} (ht : P.underlying t = some .string) (hx : ev f x = some (.string s)) :
    LV P ⟨d, .call { callee := .builtin .len, args := #[x], argTypes := #[t] }, ty, ps, af, gd⟩ f w (.int .i64 s.size) := fun e he => by
  simp [execOp, resolve, invoke, builtin, ev_eval he hx, Builtin.len_, run_underlying ht, goInt]
theorem LV.idxS {t : TypeId} {x y : Operand} {s : ByteArray} {i : Nat} {k : IntKind} {c : UInt8} (ht : P.underlying t = some .string) (hx : ev f x = some (.string s)) (hy : ev f y = some (.int k i)) (hc : s[i]? = some c) :
    LV P ⟨d, .index t x y, ty, ps, af, gd⟩ f w (.int .u8 c.toNat) := fun e he => by
  simp [execOp, ev_eval he hx, ev_eval he hy, Instr.index, asIntOf, run_underlying ht, hc]

/-! #### slices' values -/
theorem LV.lenL {t e : TypeId} {x : Operand} {A : Option Addr} {n c : Nat} (ht : P.underlying t = some (.slice e)) (hx : ev f x = some (.slice A n c)) :
    LV P ⟨d, .call { callee := .builtin .len, args := #[x], argTypes := #[t] }, ty, ps, af, gd⟩ f w (.int .i64 n) := fun b hb => by
  simp [execOp, resolve, invoke, builtin, ev_eval hb hx, Builtin.len_, run_underlying ht, goInt]
theorem LV.idxA {t e : TypeId} {x y : Operand} {A : Addr} {n c sz : Nat} {i : Int} {k : IntKind} (ht : P.underlying t = some (.slice e)) (hsz : (P.info? e).map (·.size) = some sz) {v : Value} (hx : ev f x = some v) (hv : v = .slice (some A) n c)
    (hy : ev f y = some (.int k i)) (h0 : 0 ≤ i) (h1 : i < n) : LV P ⟨d, .indexAddr t x y, ty, ps, af, gd⟩ f w (.pointer (some (A.add (i.toNat * sz)))) := fun b hb => by
  subst hv
  obtain ⟨inf, hi, hs⟩ := Option.map_eq_some_iff.1 hsz
  simp [execOp, ev_eval hb hx, ev_eval hb hy, Instr.indexAt, asIntOf, run_underlying ht, h0, h1, sizeOf, typeInfo, hi, hs]
/-- A field's address. -/
theorem LV.fieldAddr {s : TypeId} {x : Operand} {i : Nat} {fs : Array Field} {fl : Field} {g o : Nat} (hs : P.underlying s = some (.struct fs)) (hf : fs[i]? = some fl) (hx : ev f x = some (.pointer (some ⟨g, o, none⟩)))
    (hp : ∀ w, (fieldPlace ⟨g, o, none⟩ fl).run P w = .ok ⟨g, o + fl.offset, none⟩ w) : LV P ⟨d, .fieldAddr s x i, ty, ps, af, gd⟩ f w (.pointer (some ⟨g, o + fl.offset, none⟩)) := fun b hb => by
  simp [execOp, ev_eval hb hx, Instr.fieldAt, Instr.sureAddr, run_underlying hs, hf, hp]
theorem LV.load1 {t : TypeId} {x : Operand} {a : Addr} {v : Value} {u : TypeDesc} (ht : P.underlying t = some u) (hu : (match u with | .struct _ | .array _ _ => false | _ => true) = true) (hx : ev f x = some (.pointer (some a))) (hc : w.cell? a = some v) :
    LV P ⟨d, .load t x, ty, ps, af, gd⟩ f w v := fun b hb => by
  cases u <;> simp at hu <;> simp [execOp, ev_eval hb hx, Instr.loadAt, Instr.sureAddr, loadVar, isAgg, run_underlying ht, hc]
theorem LV.extract {x : Operand} {i : Nat} {vs : Array Value} {v : Value} (hx : ev f x = some (.tuple vs)) (hv : vs[i]? = some v) : LV P ⟨d, .extract x i, ty, ps, af, gd⟩ f w v := fun b hb => by
  simp [execOp, ev_eval hb hx, Instr.extract, hv]
theorem LV.mkFunc {fn : Fn} {x : Operand} {v : Value} (hx : ev f x = some v) : LV P ⟨d, .makeFunc fn #[] #[x], ty, ps, af, gd⟩ f w (.func fn #[] #[v]) := fun b hb => by
  simp [execOp, ev_eval hb hx, Instr.makeFunc]
end
end Go.Gw

namespace Go.Gw
open Go Go.RowKit

/-! ### Kept but S -/
/-- Are the draws told? (a seat's own word: True, but where a range over a function would not tell them) -/
def DR : Prop := True
structure KB (S : Nat → Prop) (w w' : World) : Prop where
  os : w'.os = w.os
  tape : w'.tape = w.tape
  output : w'.output = w.output
  dr : DR → w.drawn ≤ w'.drawn
  size : w.heap.size ≤ w'.heap.size
  blk : ∀ k, k < w.heap.size → ¬ S k → w'.heap[k]? = w.heap[k]?
abbrev No : Nat → Prop := fun _ => False
theorem KB.refl (S : Nat → Prop) (w : World) : KB S w w := ⟨rfl, rfl, rfl, fun _ => Nat.le_refl _, Nat.le_refl _, fun _ _ _ => rfl⟩
theorem KB.trans {S S' : Nat → Prop} {a b c : World} (h : KB S a b) (k : KB S' b c) (hs : ∀ i, i < a.heap.size → S' i → S i) : KB S a c :=
  ⟨k.os.trans h.os, k.tape.trans h.tape, k.output.trans h.output, fun d => Nat.le_trans (h.dr d) (k.dr d), Nat.le_trans h.size k.size, fun i hi hn => (k.blk i (Nat.lt_of_lt_of_le hi h.size) fun h' => hn (hs i hi h')).trans (h.blk i hi hn)⟩
theorem KB.mono {S S' : Nat → Prop} {a b : World} (h : KB S a b) (hs : ∀ i, S i → S' i) : KB S' a b := ⟨h.os, h.tape, h.output, h.dr, h.size, fun i hi hn => h.blk i hi fun h' => hn (hs i h')⟩
theorem KB.no {S : Nat → Prop} {a b : World} (h : KB No a b) : KB S a b := h.mono fun _ h => h.elim
theorem KB.transN {S : Nat → Prop} {a b c : World} (h : KB S a b) (k : KB No b c) : KB S a c := h.trans k fun _ _ h => h.elim
theorem KB.drew {S : Nat → Prop} (w : World) : KB S w w.drew := ⟨rfl, rfl, rfl, fun _ => Nat.le_succ _, Nat.le_refl _, fun _ _ _ => rfl⟩
theorem KB.drewN {S : Nat → Prop} (w : World) (n : Nat) : KB S w (w.drewN n) := ⟨rfl, rfl, rfl, fun _ => Nat.le_add_right _ _, Nat.le_refl _, fun _ _ _ => rfl⟩
theorem KB.alloc {S : Nat → Prop} (w : World) (o : Obj) : KB S w (w.alloc o) := ⟨rfl, rfl, rfl, fun _ => Nat.le_refl _, by simp, fun k hk _ => Below.heap_alloc w o k hk⟩
theorem KB.setCell (w : World) (a : Addr) (v : Value) : KB (· = a.block) w (w.setCell a v) :=
  ⟨rfl, rfl, rfl, fun _ => Nat.le_refl _, by simp [World.setCell], fun k _ hn => Below.heap_setCell w a v k hn⟩
theorem KB.below {w w' : World} (h : KB No w w') : Below w.heap.size w w' := ⟨h.os, h.tape, h.output, h.size, fun k hk => h.blk k hk fun h => h⟩
theorem KB.cell {S : Nat → Prop} {w w' : World} (h : KB S w w') {a : Addr} {v : Value} (hc : w.cell? a = some v) (hn : ¬ S a.block) : w'.cell? a = some v :=
  (World.cell?_of_block (h.blk a.block (World.block_lt_of_cell? w a hc) hn)).trans hc

/-! ### What stays true as long as the blocks of S alone change -/
def St (S : Nat → Prop) (w : World) (p : World → Prop) : Prop := ∀ w', KB S w w' → p w'
theorem St.now {S : Nat → Prop} {w : World} {p : World → Prop} (h : St S w p) : p w := h w (KB.refl S w)
theorem St.mono {S S' : Nat → Prop} {w : World} {p : World → Prop} (h : St S w p) (hs : ∀ i, S' i → S i) : St S' w p := fun w' hk => h w' (hk.mono hs)
theorem St.imp {S : Nat → Prop} {w : World} {p q : World → Prop} (h : St S w p) (hpq : ∀ w, p w → q w) : St S w q := fun w' hk => hpq w' (h w' hk)

/-! ### Entries -/
structure Ent where
  ks : List Nat
  p : World → Prop
structure Ent.Ok (e : Ent) (w : World) : Prop where
  now : e.p w
  lt : ∀ k ∈ e.ks, k < w.heap.size
  loc : ∀ w', (∀ k ∈ e.ks, w'.heap[k]? = w.heap[k]?) → w.heap.size ≤ w'.heap.size → e.p w'
theorem Ent.Ok.kept {e : Ent} {w w' : World} {S : Nat → Prop} (h : e.Ok w) (hk : KB S w w') (hn : ∀ k ∈ e.ks, ¬ S k) : e.Ok w' := by
  have hb : ∀ k ∈ e.ks, w'.heap[k]? = w.heap[k]? := fun k h' => hk.blk k (h.lt k h') (hn k h')
  exact ⟨h.loc w' hb hk.size, fun k h' => Nat.lt_of_lt_of_le (h.lt k h') hk.size, fun v hv hs => h.loc v (fun k h' => (hv k h').trans (hb k h')) (Nat.le_trans hk.size hs)⟩
def keys (L : List Ent) : List Nat := L.flatMap Ent.ks
theorem keys_append (A B : List Ent) : keys (A ++ B) = keys A ++ keys B := by simp [keys]
theorem keys_cons (e : Ent) (L : List Ent) : keys (e :: L) = e.ks ++ keys L := by simp [keys]
theorem mem_keys {e : Ent} {L : List Ent} {k : Nat} (he : e ∈ L) (hk : k ∈ e.ks) : k ∈ keys L := List.mem_flatMap.2 ⟨e, he, hk⟩

structure SH (w0 : World) (S : Nat → Prop) (w : World) (L : List Ent) : Prop where
  kb : KB S w0 w
  ok : ∀ e ∈ L, e.Ok w
  nd : (keys L).Nodup
  new : ∀ k ∈ keys L, k < w0.heap.size → S k

section
variable {w0 w w' : World} {S : Nat → Prop} {L A B Es Es' : List Ent} {e e' : Ent}
theorem SH.nil (S : Nat → Prop) (w : World) : SH w S w [] := ⟨KB.refl S w, fun _ h => (by cases h), List.nodup_nil, fun _ h => (by cases h)⟩
theorem SH.step (h : SH w0 S w (Es ++ L)) (hk : KB (· ∈ keys Es) w w') (ho : ∀ e ∈ Es', e.Ok w') (hn : (keys Es').Nodup)
    (hs : ∀ k ∈ keys Es', k ∈ keys Es ∨ w.heap.size ≤ k) : SH w0 S w' (Es' ++ L) := by
  have hnd := h.nd
  rw [keys_append, List.nodup_append] at hnd
  obtain ⟨n1, n2, n3⟩ := hnd
  have hL : ∀ e ∈ L, e.Ok w' := fun e he => (h.ok e (List.mem_append_right _ he)).kept hk fun k hk' hm => n3 k hm k (mem_keys he hk') rfl
  have hlt : ∀ k ∈ keys L, k < w.heap.size := fun k hk' => by
    obtain ⟨e, he, hke⟩ := List.mem_flatMap.1 hk'
    exact (h.ok e (List.mem_append_right _ he)).lt k hke
  refine ⟨h.kb.trans hk fun i hi hm => h.new i (by rw [keys_append]; exact List.mem_append_left _ hm) hi, fun e he => ?_, ?_, fun k hk' hlt' => ?_⟩
  · rcases List.mem_append.1 he with he | he
    · exact ho e he
    · exact hL e he
  · rw [keys_append, List.nodup_append]
    refine ⟨hn, n2, fun a ha b hb hab => ?_⟩
    subst hab
    rcases hs a ha with h' | h'
    · exact n3 a h' a hb rfl
    · have := hlt a hb; omega
  · rw [keys_append] at hk'
    rcases List.mem_append.1 hk' with h' | h'
    · rcases hs k h' with h'' | h''
      · exact h.new k (by rw [keys_append]; exact List.mem_append_left _ h'') hlt'
      · have := h.kb.size; omega
    · exact h.new k (by rw [keys_append]; exact List.mem_append_right _ h') hlt'
/-- One entry takes another one's place. -/
theorem SH.upd (h : SH w0 S w (e :: L)) (hk : KB (· ∈ e.ks) w w') (ho : e'.Ok w') (hn : e'.ks.Nodup) (hs : ∀ k ∈ e'.ks, k ∈ e.ks ∨ w.heap.size ≤ k) : SH w0 S w' (e' :: L) :=
  SH.step (Es := [e]) (Es' := [e']) h (by simpa [keys] using hk) (by simpa using ho) (by simpa [keys] using hn) (by simpa [keys] using hs)
/-- What is new. -/
theorem SH.more (h : SH w0 S w L) (hk : KB No w w') (ho : e'.Ok w') (hn : e'.ks.Nodup) (hs : ∀ k ∈ e'.ks, w.heap.size ≤ k) : SH w0 S w' (e' :: L) :=
  SH.step (Es := []) (Es' := [e']) h (hk.mono fun _ h => h.elim) (by simpa using ho) (by simpa [keys] using hn) (by simpa [keys] using hs)
theorem SH.same (h : SH w0 S w L) (hk : KB No w w') : SH w0 S w' L := SH.step (Es := []) (Es' := []) h (hk.mono fun _ h => h.elim) (by simp) (by simp [keys]) (by simp [keys])
theorem SH.drew (h : SH w0 S w L) : SH w0 S w.drew L := h.same (KB.drew w)
theorem SH.front (A : List Ent) (h : SH w0 S w (A ++ e :: B)) : SH w0 S w (e :: (A ++ B)) := by
  refine ⟨h.kb, fun x hx => h.ok x ?_, ?_, fun k hk => h.new k ?_⟩
  · simp only [List.mem_cons, List.mem_append] at hx ⊢; rcases hx with h | h | h <;> simp [h]
  · have := h.nd
    rw [keys_append, keys_cons] at this
    rw [keys_cons, keys_append]
    exact (List.perm_append_comm_assoc _ _ _).nodup_iff.1 this
  · rw [keys_cons, keys_append] at hk
    rw [keys_append, keys_cons]
    simp only [List.mem_append] at hk ⊢; rcases hk with h | h | h <;> simp [h]
theorem SH.tail (h : SH w0 S w (e :: L)) : SH w0 S w L :=
  ⟨h.kb, fun x hx => h.ok x (List.mem_cons_of_mem _ hx), (by have := h.nd; rw [keys_cons] at this; exact (List.nodup_append.1 this).2.1), fun k hk => h.new k (by rw [keys_cons]; exact List.mem_append_right _ hk)⟩
theorem SH.at (h : SH w0 S w L) (he : e ∈ L) : e.p w := (h.ok e he).now
theorem SH.hd (h : SH w0 S w (e :: L)) : e.p w := (h.ok e (.head _)).now
/-- What was known at the begin, and hangs on no block that is told here. -/
theorem SH.arg {p : World → Prop} (h : SH w0 S w L) (hp : St S w0 p) : p w := hp w h.kb
theorem SH.st {p : World → Prop} {S' : Nat → Prop} (h : SH w0 S w L) (hp : St S w0 p) (hs : ∀ k, S' k → k ∈ keys L) : St S' w p := fun w' hk =>
  hp w' (h.kb.trans hk fun i hi hs' => h.new i (hs i hs') hi)
theorem SH.stN {p : World → Prop} (h : SH w0 S w L) (hp : St S w0 p) : St No w p := h.st hp fun _ h => h.elim
/-- An entry's fact holds as long as other entries' blocks alone change. -/
theorem SH.ste (h : SH w0 S w L) (he : e ∈ L) {S' : Nat → Prop} (hs : ∀ k ∈ e.ks, ¬ S' k) : St S' w e.p := fun _ hk => ((h.ok e he).kept hk hs).now
theorem SH.steN (h : SH w0 S w L) (he : e ∈ L) : St No w e.p := h.ste he fun _ _ h => h
theorem SH.ne (h : SH w0 S w (e :: L)) (he : e' ∈ L) : ∀ k ∈ e'.ks, k ∉ e.ks := fun k hk hk' => by
  have := h.nd
  rw [keys_cons, List.nodup_append] at this
  exact this.2.2 k hk' k (mem_keys he hk) rfl
theorem SH.lt (h : SH w0 S w L) : ∀ k ∈ keys L, k < w.heap.size := fun k hk' => by
  obtain ⟨e, he, hke⟩ := List.mem_flatMap.1 hk'
  exact (h.ok e he).lt k hke
end

/-! ### Elements, as cells -/
structure El (α : Type) where
  sz : Nat
  enc : α → List Value
  len : ∀ x, (enc x).length = sz
  one : ∀ x, ∀ u ∈ enc x, u.oneCell' = true
def El.cells {α : Type} (E : El α) (xs : List α) : List Value := xs.flatMap E.enc
section
variable {α : Type} (E : El α)
theorem El.cells_nil : E.cells [] = [] := rfl
theorem El.cells_cons (x : α) (xs : List α) : E.cells (x :: xs) = E.enc x ++ E.cells xs := by simp [El.cells]
theorem El.cells_append (xs ys : List α) : E.cells (xs ++ ys) = E.cells xs ++ E.cells ys := by simp [El.cells]
theorem El.cells_length (xs : List α) : (E.cells xs).length = xs.length * E.sz := by
  induction xs with
  | nil => simp [El.cells]
  | cons x xs ih => rw [El.cells_cons, List.length_append, ih, E.len, List.length_cons, Nat.succ_mul]; omega
theorem El.cells_get : ∀ (xs : List α) (i : Nat) (x : α) (t : Nat) (u : Value), xs[i]? = some x → (E.enc x)[t]? = some u → (E.cells xs)[i * E.sz + t]? = some u
  | [], i, _, _, _, h, _ => by simp at h
  | y :: xs, 0, x, t, u, h, hu => by
    simp at h
    subst h
    have : t < (E.enc y).length := (List.getElem?_eq_some_iff.1 hu).1
    rw [El.cells_cons, Nat.zero_mul, Nat.zero_add, List.getElem?_append_left this]
    exact hu
  | y :: xs, i + 1, x, t, u, h, hu => by
    rw [El.cells_cons, List.getElem?_append_right (by rw [E.len, Nat.succ_mul]; omega), E.len, show (i + 1) * E.sz + t - E.sz = i * E.sz + t by rw [Nat.succ_mul]; omega]
    exact El.cells_get xs i x t u (by simpa using h) hu
theorem El.cells_take (xs : List α) (i : Nat) : E.cells (xs.take i) = (E.cells xs).take (i * E.sz) := by
  induction xs generalizing i with
  | nil => simp [El.cells]
  | cons x xs ih =>
    cases i with
    | zero => simp [El.cells]
    | succ i => rw [List.take_succ_cons, El.cells_cons, El.cells_cons, ih, Nat.succ_mul, Nat.add_comm, List.take_append, E.len, show E.sz + i * E.sz - E.sz = i * E.sz by omega, List.take_of_length_le (l := E.enc x) (by rw [E.len]; omega)]
theorem El.cells_drop (xs : List α) (i : Nat) : E.cells (xs.drop i) = (E.cells xs).drop (i * E.sz) := by
  induction xs generalizing i with
  | nil => simp [El.cells]
  | cons x xs ih =>
    cases i with
    | zero => simp [El.cells]
    | succ i => rw [List.drop_succ_cons, El.cells_cons, ih, Nat.succ_mul, Nat.add_comm, List.drop_append, E.len, show E.sz + i * E.sz - E.sz = i * E.sz by omega, List.drop_of_length_le (l := E.enc x) (by rw [E.len]; omega), List.nil_append]
theorem El.cells_replicate (n : Nat) (x : α) (v : Value) (h : E.enc x = [v]) : E.cells (List.replicate n x) = List.replicate n v := by
  induction n with
  | zero => rfl
  | succ n ih => rw [List.replicate_succ, El.cells_cons, ih, h]; rfl
end
theorem El.cells_one {α : Type} (E : El α) (xs : List α) : ∀ u ∈ E.cells xs, u.oneCell' = true := fun u hu => by
  obtain ⟨x, _, hx⟩ := List.mem_flatMap.1 hu
  exact E.one x u hx
theorem one_mem {u v : Value} (h : u ∈ [v]) (hv : v.oneCell' = true) : u.oneCell' = true := by simp at h; subst h; exact hv
def eI : El Int := ⟨1, fun x => [.int .i64 x], fun _ => rfl, fun _ _ h => one_mem h rfl⟩
def eU8 : El Int := ⟨1, fun x => [.int .u8 x], fun _ => rfl, fun _ _ h => one_mem h rfl⟩
def eB : El Bool := ⟨1, fun x => [.bool x], fun _ => rfl, fun _ _ h => one_mem h rfl⟩
def eS : El ByteArray := ⟨1, fun x => [.string x], fun _ => rfl, fun _ _ h => one_mem h rfl⟩
/-- Two numbers ('[2]int'). -/
def eP : El (Int × Int) := ⟨2, fun x => [.int .i64 x.1, .int .i64 x.2], fun _ => rfl, fun _ u h => by
  simp at h
  rcases h with rfl | rfl <;> rfl⟩
/-- Slices' values. -/
structure SV where
  A : Option Addr
  n : Nat
  c : Nat
instance : Inhabited SV := ⟨⟨none, 0, 0⟩⟩
def SV.v (s : SV) : Value := .slice s.A s.n s.c
def eV : El SV := ⟨1, fun x => [x.v], fun _ => rfl, fun _ _ h => one_mem h rfl⟩

/-! ### A slice that is read -/
def Rd {α : Type} (E : El α) (v : Value) (xs : List α) (w : World) : Prop :=
  ∃ A c, v = .slice A xs.length c ∧ xs.length ≤ c ∧ c ≤ maxLen ∧ (0 < xs.length → ∃ ad, A = some ad ∧ ∀ j u, (E.cells xs)[j]? = some u → w.cell? (ad.add j) = some u)
section
variable {α : Type} {E : El α} {v : Value} {xs : List α} {w w' : World}
theorem Rd.stN (h : Rd E v xs w) : St No w (Rd E v xs) := fun w' hk => by
  obtain ⟨A, c, e, h1, h2, h3⟩ := h
  exact ⟨A, c, e, h1, h2, fun hp => by
    obtain ⟨ad, ha, hc⟩ := h3 hp
    exact ⟨ad, ha, fun j u hu => hk.cell (hc j u hu) fun h => h⟩⟩
theorem Rd.len (h : Rd E v xs w) : ∃ A c, v = .slice A xs.length c := let ⟨A, c, e, _⟩ := h; ⟨A, c, e⟩
theorem addr_add (a : Addr) (i j : Nat) (hj : 0 < j) (_hi : a.spot = none) : a.add (i + j) = (a.add i).add j := by
  unfold Addr.add
  by_cases hi : i = 0
  · subst hi; simp
  · rw [if_neg (by omega), if_neg hi, if_neg (by omega)]; simp [Nat.add_assoc]
theorem addr_add' (a : Addr) (i j : Nat) : (a.add i).add j = a.add (i + j) := by
  unfold Addr.add
  by_cases hi : i = 0
  · subst hi; simp
  · by_cases hj : j = 0
    · subst hj; simp [hi]
    · rw [if_neg hi, if_neg hj, if_neg (by omega)]; simp [Nat.add_assoc]
/-- Element i: where it lies, and that its cells read so in every world in which no block of old has turned. -/
theorem St.elt (h : St No w (Rd E v xs)) (d : α) (i : Int) (h0 : 0 ≤ i) (h1 : i < xs.length) :
    ∃ A c, v = .slice (some A) xs.length c ∧ ∀ w', KB No w w' → ∀ t u, (E.enc (xs.getD i.toNat d))[t]? = some u → w'.cell? ((A.add (i.toNat * E.sz)).add t) = some u := by
  obtain ⟨A, c, e, h2, h3, h4⟩ := h.now
  obtain ⟨ad, ha, hc⟩ := h4 (by omega)
  subst ha
  refine ⟨ad, c, e, fun w' hk t u hu => ?_⟩
  obtain ⟨A', c', e', _, _, h4'⟩ := h w' hk
  obtain ⟨ad', ha', hc'⟩ := h4' (by omega)
  rw [e] at e'
  injection e' with e1 _ _
  rw [ha'] at e1
  injection e1 with e1
  subst e1
  rw [addr_add']
  refine hc' _ u (E.cells_get xs i.toNat (xs.getD i.toNat d) t u ?_ hu)
  have : i.toNat < xs.length := by omega
  simp [List.getD, this]
end

/-! ### A row of one's own -/
def Value.keys (v : Value) : List Nat := v.ownBlock.toList
def Row {α : Type} (E : El α) (T : TypeId) (v : Value) (xs : List α) (w : World) : Prop := w.ownsRow 0 T E.sz v xs.length (E.cells xs)
def rowE {α : Type} (E : El α) (T : TypeId) (v : Value) (xs : List α) : Ent := ⟨Value.keys v, Row E T v xs⟩
section
variable {α : Type} {E : El α} {T : TypeId} {v : Value} {xs : List α} {w w' : World}
theorem keys_nodup (v : Value) : (Value.keys v).Nodup := by unfold Value.keys; cases v.ownBlock <;> simp
theorem Row.lt (h : Row E T v xs w) : ∀ k ∈ Value.keys v, k < w.heap.size := fun k hk => by
  have : v.ownBlock = some k := by unfold Value.keys at hk; cases hv : v.ownBlock <;> rw [hv] at hk <;> simp at hk; rw [hk]
  exact (World.ownsRow.lt h k this).2
theorem Row.ok (h : Row E T v xs w) : (rowE E T v xs).Ok w := ⟨h, Row.lt h, fun w' hk _ => by
  obtain ⟨h1, h2⟩ := h
  refine ⟨h1, ?_⟩
  rcases h2 with h2 | ⟨g, cap, cur, rfl, hb, hg, hr⟩
  · exact .inl h2
  · exact .inr ⟨g, cap, cur, rfl, hb, (hk g (by simp [rowE, Value.keys, Value.ownBlock])).trans hg, hr⟩⟩
theorem Row.rd (h : Row E T v xs w) : Rd E v xs w := by
  obtain ⟨h1, h2⟩ := h
  rcases h2 with ⟨rfl, hn⟩ | ⟨g, cap, cur, rfl, _, hg, hc, hm, hs, ht⟩
  · exact ⟨none, 0, by rw [hn], by omega, by simp [maxLen], fun hp => absurd hp (by omega)⟩
  · refine ⟨some ⟨g, 0, none⟩, cap, rfl, hc, hm, fun _ => ⟨_, rfl, fun j u hu => ?_⟩⟩
    have hlt : j < (E.cells xs).length := (List.getElem?_eq_some_iff.1 hu).1
    have hj : j < xs.length * E.sz := by rwa [h1] at hlt
    have : w.cell? ⟨g, j, none⟩ = cur[j]? := cell_of_row w g j cur T (0, 0) hg
    have ha : (⟨g, 0, none⟩ : Addr).add j = ⟨g, j, none⟩ := by unfold Addr.add; split <;> simp_all
    rw [ha, this, ← Array.getElem?_toList]
    rw [← ht, List.getElem?_take, if_pos hj] at hu
    exact hu
theorem Row.new (cs : Array Value) (n : Nat) (xs : List α) (hn : xs.length = n) (hm : n ≤ maxLen) (hc : cs.toList = E.cells xs) : Row E T (.slice (some ⟨w.heap.size, 0, none⟩) n n) xs (w.alloc (.cells cs T)) := by
  subst hn
  have hz : cs.size = xs.length * E.sz := by rw [← Array.length_toList, hc, E.cells_length]
  refine ⟨E.cells_length xs, .inr ⟨w.heap.size, xs.length, cs, rfl, by omega, (by show (w.heap.push _)[w.heap.size]? = _; simp), Nat.le_refl _, hm, hz, ?_⟩⟩
  rw [hc, List.take_of_length_le (by rw [E.cells_length]; omega)]
theorem Row.nil : Row E T (.slice none 0 0) ([] : List α) w := ⟨by simp [El.cells], .inl ⟨rfl, rfl⟩⟩
end
theorem SH.rd {α : Type} {E : El α} {T : TypeId} {v : Value} {xs : List α} {w0 w : World} {S : Nat → Prop} {L : List Ent} (h : SH w0 S w L) (he : rowE E T v xs ∈ L) : St No w (Rd E v xs) :=
  (h.steN he).imp fun _ h => Row.rd h
end Go.Gw

namespace Go.Gw
open Go Go.RowKit

/-- What the table says of an element's type: its zero value, its cells, its bytes. -/
def TI (P : Program) (e : TypeId) (z : Value) (size bytes : Nat) : Prop := (P.info? e).map (fun i => (i.zero, i.size, i.bytes)) = some (some z, size, bytes)
theorem TI.get {P : Program} {e : TypeId} {z : Value} {size bytes : Nat} (h : TI P e z size bytes) : ∃ i, P.info? e = some i ∧ i.zero = some z ∧ i.size = size ∧ i.bytes = bytes := by
  unfold TI at h
  cases hi : P.info? e with
  | none => rw [hi] at h; cases h
  | some i =>
    rw [hi] at h
    simp only [Option.map_some, Option.some.injEq, Prod.mk.injEq] at h
    exact ⟨i, rfl, h.1, h.2.1, h.2.2⟩
theorem TI.sz {P : Program} {e : TypeId} {z : Value} {size bytes : Nat} (h : TI P e z size bytes) : (P.info? e).map (·.size) = some size := by
  obtain ⟨i, hi, _, hs, _⟩ := h.get
  rw [hi, Option.map_some, hs]

section
variable {P : Program} {f : Env} {w : World} {d : Option Tmp} {ty : TypeId} {ps : String} {af : Array Edge} {gd : Option (Nat × Bool)}

/-! #### append -/
theorem append_row {α : Type} {E : El α} {t e : TypeId} {z : Value} {bytes : Nat} {v v2 : Value} {xs ys : List α} (ty : TypeId) (ht : P.underlying t = some (.slice e)) (hi : TI P e z E.sz bytes)
    (hz : z.cells.size = E.sz) (hR : Row E e v xs w) (hy : Rd E v2 ys w) (h63 : xs.length + ys.length ≤ maxLen) (hb : (xs.length + ys.length) * bytes ≤ 140737488355328) :
    ∃ A c w', (Builtin.append_ #[t, t] ty #[v, v2]).run P w = .ok (.slice A (xs ++ ys).length c) w' ∧ Row E e (.slice A (xs ++ ys).length c) (xs ++ ys) w' ∧ KB (· ∈ Value.keys v) w w' ∧
      ∀ k ∈ Value.keys (.slice A (xs ++ ys).length c), k ∈ Value.keys v ∨ w.heap.size ≤ k := by
  obtain ⟨i, hj, hz0, hs, hby⟩ := hi.get
  subst hby
  have h63' : xs.length + ys.length ≤ 9223372036854775807 := by simpa [maxLen] using h63
  obtain ⟨A2, c2, rfl, _, _, hc2⟩ := hy
  by_cases hy0 : ys = []
  · -- nothing is appended
    subst hy0
    obtain ⟨A, c, rfl⟩ := (Row.rd hR).len
    refine ⟨A, c, w, ?_, by simpa using hR, KB.refl _ _, fun k hk => .inl (by simpa using hk)⟩
    rcases hR.2 with ⟨h1, h2⟩ | ⟨g, cap, cur, h1, _, _, hnc, _⟩
    · injection h1 with h1 _ h3
      subst h1; subst h3
      rw [h2]
      simp [Builtin.append_, run_underlying ht, sizeOf, typeInfo, hj, Builtin.lenOf, Builtin.firstCells]
      cases A2 <;> simp [loadCells, loadCellsFrom, h2]
    · injection h1 with h1 _ h3
      subst h1; subst h3
      cases A2 <;> simp [Builtin.append_, run_underlying ht, sizeOf, typeInfo, hj, Builtin.lenOf, Builtin.firstCells, hnc, storeCells, loadCells, loadCellsFrom]
  · have hyp : 0 < ys.length := List.length_pos_iff.2 hy0
    obtain ⟨ad, rfl, hnews⟩ := hc2 hyp
    have hl : (E.cells ys).length = ys.length * i.size := by rw [E.cells_length, hs]
    have hlen : (E.cells (xs ++ ys)).length = (xs ++ ys).length * E.sz := E.cells_length _
    rcases hR.2 with ⟨rfl, hn⟩ | ⟨g, cap, cur, rfl, hbg, hg, hnc, hcm, hcs, htake⟩
    · have hx : xs = [] := List.eq_nil_of_length_eq_zero hn
      subst hx
      have hr := run_append_nil (P := P) w t ty e i z ht hj hz0 ad ys.length c2 (E.cells ys) hl hnews hyp (by omega) (by simp only [List.length_nil, Nat.zero_add] at hb; omega)
      refine ⟨_, _, _, hr, ?_, ?_, ?_⟩
      · refine ⟨hlen, .inr ⟨w.heap.size, _, _, rfl, by omega, heap_alloc_new w.drew _, grownCap_ge w _ 0 e, grownCap_le_maxLen w _ 0 e (by simpa using h63), ?_, ?_⟩⟩
        · simp only [Array.size_append, List.size_toArray, size_zeroCells, hz, hl, hs, ← Nat.add_mul]
          congr 1
          have := grownCap_ge w ys.length 0 e
          omega
        · simp only [List.nil_append, Array.toList_append]
          rw [List.take_append_of_le_length (Nat.le_of_eq (by rw [hl, hs])), List.take_of_length_le (Nat.le_of_eq (by rw [hl, hs]))]
      · exact ⟨rfl, rfl, rfl, fun _ => Nat.le_succ _, by simp, fun k hk _ => Below.heap_alloc w.drew _ k hk⟩
      · intro k hk
        right
        simp [Value.keys, Value.ownBlock] at hk
        omega
    · by_cases hroom : xs.length + ys.length ≤ cap
      · have hfit : xs.length * i.size + (E.cells ys).length ≤ cur.size := by rw [hl, hcs, hs, ← Nat.add_mul]; exact Nat.mul_le_mul_right _ hroom
        have hr := run_append_room (P := P) w t ty e i ht hj g xs.length cap cur hg ad ys.length c2 (E.cells ys) hl hnews (E.cells_one ys) hroom hfit
        rw [← List.length_append] at hr
        refine ⟨_, _, _, hr, ?_, ?_, ?_⟩
        · refine ⟨hlen, .inr ⟨g, cap, _, rfl, hbg, setRow_heap w g cur _ e _ hg, by rw [List.length_append]; exact hroom, hcm, ?_, ?_⟩⟩
          · simp only [List.size_toArray, List.length_append, List.length_take, List.length_drop, Array.length_toList]
            omega
          · rw [hs, htake, E.cells_append]
            simp only []
            rw [List.take_append_of_le_length (by simp [E.cells_length, Nat.add_mul]), List.take_of_length_le (by simp [E.cells_length, Nat.add_mul])]
        · exact ⟨rfl, rfl, rfl, fun _ => Nat.le_refl _, by simp, fun k _ hk => setRow_other w g k _ (fun e => hk (by simp [Value.keys, Value.ownBlock, e]))⟩
        · intro k hk
          exact .inl (by simpa [Value.keys, Value.ownBlock] using hk)
      · have holds : ∀ j u, (E.cells xs)[j]? = some u → w.cell? ((⟨g, 0, none⟩ : Addr).add j) = some u := World.ownsRow.cells hR (g := g) rfl
        have hr := run_append_grow (P := P) w t ty e i z ht hj hz0 ⟨g, 0, none⟩ xs.length cap (E.cells xs) (by rw [E.cells_length, hs]) holds ad ys.length c2 (E.cells ys) hl hnews (by omega) (by omega) (growslice_fits (by omega) hb)
        rw [← List.length_append] at hr
        refine ⟨_, _, _, hr, ?_, ?_, ?_⟩
        · refine ⟨hlen, .inr ⟨w.heap.size, _, _, rfl, by omega, heap_alloc_new w.drew _, grownCap_ge w _ cap e, grownCap_le_maxLen w _ cap e (by rw [List.length_append]; exact h63), ?_, ?_⟩⟩
          · simp only [Array.size_append, List.size_toArray, size_zeroCells, hz, E.cells_length, ← Nat.add_mul]
            congr 1
            have := grownCap_ge w (xs ++ ys).length cap e
            rw [List.length_append] at *
            omega
          · simp only [Array.toList_append, List.append_assoc]
            rw [← List.append_assoc, ← E.cells_append, List.take_append_of_le_length (by rw [hlen]; exact Nat.le_refl _), List.take_of_length_le (by rw [hlen]; exact Nat.le_refl _)]
        · exact ⟨rfl, rfl, rfl, fun _ => Nat.le_succ _, by simp, fun k hk _ => Below.heap_alloc w.drew _ k hk⟩
        · intro k hk
          right
          simp [Value.keys, Value.ownBlock] at hk
          omega

/-- 'append(s, x...)' as an operation: the row, and what is known of memory. -/
theorem XE.append {α : Type} {E : El α} {t e : TypeId} {z : Value} {bytes : Nat} {v v2 : Value} {xs ys : List α} {w0 : World} {S : Nat → Prop} {L : List Ent} {x y : Operand}
    (h : SH w0 S w (rowE E e v xs :: L)) (ht : P.underlying t = some (.slice e)) (hi : TI P e z E.sz bytes) (hz : z.cells.size = E.sz) (hy : Rd E v2 ys w) (hx1 : ev f x = some v) (hx2 : ev f y = some v2)
    (hb : (xs.length + ys.length) * bytes ≤ 140737488355328) (hb2 : xs.length + ys.length ≤ 140737488355328) :
    XE P ⟨d, .call { callee := .builtin .append, args := #[x, y], argTypes := #[t, t] }, ty, ps, af, gd⟩ f w (fun v' w' =>
      ∃ A c, v' = .slice A (xs ++ ys).length c ∧ SH w0 S w' (rowE E e (.slice A (xs ++ ys).length c) (xs ++ ys) :: L) ∧ KB (· ∈ Value.keys v) w w') := by
  obtain ⟨A, c, w', hr, hR, hk, hn⟩ := append_row ty ht hi hz (h.hd) hy (by unfold maxLen; omega) hb
  refine ⟨.slice A (xs ++ ys).length c, w', fun a ha => ?_, A, c, rfl, h.upd hk (Row.ok hR) (keys_nodup _) hn, hk⟩
  simp [execOp, resolve, invoke, builtin, ev_eval ha hx1, ev_eval ha hx2, hr]

/-! #### literals -/
def evParts (f : Env) : List (Nat × Operand) → Option (List (Nat × Value))
  | [] => some []
  | (i, x) :: l => match ev f x, evParts f l with | some v, some vs => some ((i, v) :: vs) | _, _ => none
theorem evParts_eval {a : Act} (ha : FG a f) : ∀ (l : List (Nat × Operand)) (vs : List (Nat × Value)), evParts f l = some vs → l.map (fun p => (p.1, a.eval p.2)) = vs
  | [], vs, h => by simp [evParts] at h; subst h; rfl
  | (i, x) :: l, vs, h => by
    unfold evParts at h
    cases hx : ev f x with
    | none => rw [hx] at h; simp at h
    | some v =>
      cases hl : evParts f l with
      | none => rw [hx, hl] at h; simp at h
      | some us =>
        rw [hx, hl] at h
        simp at h
        subst h
        simp [ev_eval ha hx, evParts_eval ha l us hl]
/-- A slice literal of n elements. -/
theorem XV.buildSlice {α : Type} {E : El α} {t e : TypeId} {z : Value} {bytes n : Nat} {parts : Array (Nat × Operand)} {vs : List (Nat × Value)} {cs : Array Value} {xs : List α} {w0 : World} {S : Nat → Prop} {L : List Ent}
    (h : SH w0 S w L) (ht : P.underlying t = some (.slice e)) (hi : TI P e z E.sz bytes) (hv : evParts f parts.toList = some vs)
    (hn : n * E.sz ≤ 16777216) (hf : Instr.fill (fun i => some (i * E.sz, E.sz)) (if n * E.sz = 0 then #[] else Builtin.zeroCells z.cells n) vs = some cs) (hzs : n * E.sz = 0 ∨ z.cells.size = E.sz)
    (hcs : cs.toList = E.cells xs) (hl : xs.length = n) (hE : 0 < E.sz) :
    XV P ⟨d, .buildSlice t n parts, ty, ps, af, gd⟩ f w (.slice (some ⟨w.heap.size, 0, none⟩) n n) (w.alloc (.cells cs e)) ∧
      SH w0 S (w.alloc (.cells cs e)) (rowE E e (.slice (some ⟨w.heap.size, 0, none⟩) n n) xs :: L) := by
  obtain ⟨i, hj, hz0, hs, hby⟩ := hi.get
  constructor
  · intro a ha
    have hp : List.map (fun p => (p.1, a.eval p.2)) parts.toList = vs := evParts_eval ha _ _ hv
    have hnn : ¬ (16777216 < n * E.sz) := by omega
    by_cases h0 : n * E.sz = 0
    · rw [if_pos h0] at hf
      have e0 : (Array.map (fun x => (#[] : Array Value)[x % 0]!) (Array.range 0)) = #[] := by simp [Array.range_zero']
      simp only [execOp, Sem.run_bind, Sem.run_pure, Instr.buildSlice, run_underlying ht]
      simp [sizeOf, typeInfo, hj, hs, h0, newRow, hp]
      simp [Array.range_zero', hf]
    · rw [if_neg h0] at hf
      have hzz : z.cells.size = E.sz := hzs.resolve_left h0
      have e1 : (Array.map (fun x => z.cells[x % z.cells.size]!) (Array.range (n * E.sz))) = Builtin.zeroCells z.cells n := by unfold Builtin.zeroCells; rw [hzz]
      simp only [execOp, Sem.run_bind, Sem.run_pure, Instr.buildSlice, run_underlying ht]
      simp [sizeOf, typeInfo, zeroValue, hj, hz0, hs, hnn, hp, newRow, e1]
      rw [if_neg h0, hf]
      simp
  · refine h.more (KB.alloc w _) (Row.ok (Row.new cs n xs hl (by unfold maxLen; have : n * 1 ≤ n * E.sz := Nat.mul_le_mul_left _ hE; omega) hcs)) (keys_nodup (.slice (some ⟨w.heap.size, 0, none⟩) n n)) ?_
    intro k hk
    simp [rowE, Value.keys, Value.ownBlock] at hk
    omega
theorem XE.buildSlice {α : Type} {E : El α} {t e : TypeId} {z : Value} {bytes n : Nat} {parts : Array (Nat × Operand)} {w0 : World} {S : Nat → Prop} {L : List Ent} (vs : List (Nat × Value)) (cs : Array Value) (xs : List α)
    (h : SH w0 S w L) (ht : P.underlying t = some (.slice e)) (hi : TI P e z E.sz bytes) (hv : evParts f parts.toList = some vs)
    (hn : n * E.sz ≤ 16777216) (hf : Instr.fill (fun i => some (i * E.sz, E.sz)) (if n * E.sz = 0 then #[] else Builtin.zeroCells z.cells n) vs = some cs) (hzs : n * E.sz = 0 ∨ z.cells.size = E.sz)
    (hcs : cs.toList = E.cells xs) (hl : xs.length = n) (hE : 0 < E.sz) :
    XE P ⟨d, .buildSlice t n parts, ty, ps, af, gd⟩ f w (fun v' w' => ∃ b, v' = .slice (some ⟨b, 0, none⟩) n n ∧ SH w0 S w' (rowE E e (.slice (some ⟨b, 0, none⟩) n n) xs :: L) ∧ KB No w w') :=
  have h1 := XV.buildSlice (d := d) (ty := ty) (ps := ps) (af := af) (gd := gd) h ht hi hv hn hf hzs hcs hl hE
  ⟨_, _, h1.1, _, rfl, h1.2, KB.alloc _ _⟩
end
end Go.Gw

