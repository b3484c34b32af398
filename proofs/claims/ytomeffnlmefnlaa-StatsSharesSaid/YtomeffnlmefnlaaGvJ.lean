/- Structs compared, field by field. -/
import Derived.Test.YtomeffnlmefnlaaGvQ
namespace Go.Gv
open Go Go.RowKit
section
variable {P : Program} {f : Env} {w : World} {d : Option Tmp} {ty : TypeId} {ps : String} {af : Array Edge} {gd : Option (Nat × Bool)}
/-- Two values are the same just if p. -/
def AE (P : Program) (k : Nat) (t : TypeId) (x y : Value) (p : Prop) [Decidable p] : Prop := ∀ (e : Nat) (w : World), (Op.equalIn (e + k) t x y).run P w = .ok (decide p) w
theorem ae_int {t : TypeId} {k : IntKind} {a b : Int} (ht : P.underlying t = some (.int k)) : AE P 1 t (.int k a) (.int k b) (a = b) := fun e w => by
  unfold Op.equalIn
  simp [run_underlying ht]
  rfl
theorem ae_str {t : TypeId} {a b : ByteArray} (ht : P.underlying t = some .string) : AE P 1 t (.string a) (.string b) (a = b) := fun e w => by
  unfold Op.equalIn
  simp [run_underlying ht, beq_bytes]
theorem ae_bool {t : TypeId} {a b : Bool} (ht : P.underlying t = some .bool) : AE P 1 t (.bool a) (.bool b) (a = b) := fun e w => by
  unfold Op.equalIn
  simp [run_underlying ht]
  rfl
/-- A field is read off its struct. -/
def PT1 (P : Program) (t : TypeId) (cs : Array Value) (o : Nat) (v : Value) : Prop := ∀ w, (part t cs o).run P w = .ok v w
theorem pt_int {t : TypeId} {k : IntKind} {cs : Array Value} {o : Nat} {v : Value} (ht : P.underlying t = some (.int k)) (h : cs[o]? = some v) : PT1 P t cs o v := fun w => by simp [part, isAgg, run_underlying ht, h]
theorem pt_str {t : TypeId} {cs : Array Value} {o : Nat} {v : Value} (ht : P.underlying t = some .string) (h : cs[o]? = some v) : PT1 P t cs o v := fun w => by simp [part, isAgg, run_underlying ht, h]
theorem pt_bool {t : TypeId} {cs : Array Value} {o : Nat} {v : Value} (ht : P.underlying t = some .bool) (h : cs[o]? = some v) : PT1 P t cs o v := fun w => by simp [part, isAgg, run_underlying ht, h]
theorem pt_struct {t : TypeId} {fs : Array Field} {cs ds : Array Value} {o sz : Nat} (ht : P.underlying t = some (.struct fs)) (hz : (P.info? t).map (·.size) = some sz) (h : cs.extract o (o + sz) = ds) : PT1 P t cs o (.agg ds) := fun w => by
  obtain ⟨i, hi, hs⟩ := Option.map_eq_some_iff.1 hz
  simp [part, isAgg, run_underlying ht, sizeOf, typeInfo, hi, hs, h]
theorem ae_s2 {k : Nat} {t : TypeId} {f0 f1 : Field} {cs cs' : Array Value} {x0 x1 y0 y1 : Value} {p q : Prop} [Decidable p] [Decidable q] (ht : P.underlying t = some (.struct #[f0, f1])) (hn : f0.name ≠ "_" ∧ f1.name ≠ "_") (hp : P.stoodInHeld t = false)
    (a0 : PT1 P f0.type cs f0.offset x0) (b0 : PT1 P f0.type cs' f0.offset y0) (a1 : PT1 P f1.type cs f1.offset x1) (b1 : PT1 P f1.type cs' f1.offset y1) (h0 : AE P k f0.type x0 y0 p) (h1 : AE P k f1.type x1 y1 q) : AE P (k + 1) t (.agg cs) (.agg cs') (p ∧ q) := fun e w => by
  have hf : P.fieldsOf t = #[f0, f1] := by unfold Program.fieldsOf; rw [ht]
  show (Op.equalIn ((e + k) + 1) t _ _).run P w = _
  rw [run_equalIn_struct w (e + k) t _ _ (by rw [hf]; exact ht) hp, hf]
  simp only [Op.eqFields, Sem.run_bind, Sem.run_ite, hn.1, hn.2, ne_eq, not_false_eq_true, if_true, a0 w, b0 w, a1 w, b1 w, h0 e w, h1 e w, Result.andThen_ok]
  by_cases hp : p <;> by_cases hq : q <;> simp [hp, hq]
theorem AE.up {k : Nat} {t : TypeId} {x y : Value} {p : Prop} [Decidable p] (h : AE P k t x y p) : AE P (k + 1) t x y p := fun e w => by
  have := h (e + 1) w
  rwa [show e + 1 + k = e + (k + 1) by omega] at this
theorem LV.eqG {k : Nat} {t t2 : TypeId} {x y : Operand} {u v : Array Value} {p : Prop} [Decidable p] (hk : k ≤ 10000) (h : AE P k t (.agg u) (.agg v) p) (hg : P.eqGuardType P.depth t = false) (hx : ev f x = some (.agg u)) (hy : ev f y = some (.agg v)) :
    LV P ⟨d, .binOp .eql t x y t2, ty, ps, af, gd⟩ f w (.bool (decide p)) := fun a ha => by
  have h1 : (Op.equal t (.agg u) (.agg v)).run P w = .ok (decide p) w := by
    have := h (10000 - k) w
    rwa [Nat.sub_add_cancel hk] at this
  have h2 : (binOp .eql t (.agg u) (.agg v)).run P w = .ok (.bool (decide p)) w := by
    unfold binOp
    simp only [Sem.run_bind, h1, Result.andThen_ok, Sem.run_pure]
  simp only [execOp, ev_eval ha hx, ev_eval ha hy]
  simp [eqGuard, hg, h2]
theorem LV.neG {k : Nat} {t t2 : TypeId} {x y : Operand} {u v : Array Value} {p : Prop} [Decidable p] (hk : k ≤ 10000) (h : AE P k t (.agg u) (.agg v) p) (hg : P.eqGuardType P.depth t = false) (hx : ev f x = some (.agg u)) (hy : ev f y = some (.agg v)) :
    LV P ⟨d, .binOp .neq t x y t2, ty, ps, af, gd⟩ f w (.bool (decide (¬ p))) := fun a ha => by
  have h1 : (Op.equal t (.agg u) (.agg v)).run P w = .ok (decide p) w := by
    have := h (10000 - k) w
    rwa [Nat.sub_add_cancel hk] at this
  have h2 : (binOp .neq t (.agg u) (.agg v)).run P w = .ok (.bool (decide (¬ p))) w := by
    unfold binOp
    simp only [Sem.run_bind, h1, Result.andThen_ok, Sem.run_pure, decide_not]
  simp only [execOp, ev_eval ha hx, ev_eval ha hy]
  simp [eqGuard, hg, h2]
end
end Go.Gv
