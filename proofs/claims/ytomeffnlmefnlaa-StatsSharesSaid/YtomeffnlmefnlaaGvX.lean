/- Small words that the printed walks lean on. -/
import Derived.Test.YtomeffnlmefnlaaGvQ
namespace Go.Gv
open Go
theorem tup2 {a b a' b' : Value} (h : a = a') (k : b = b') : Value.tuple #[a, b] = .tuple #[a', b'] := by rw [h, k]
theorem tup3 {a b c a' b' c' : Value} (h : a = a') (k : b = b') (l : c = c') : Value.tuple #[a, b, c] = .tuple #[a', b', c'] := by rw [h, k, l]
theorem St.rrOf {α : Type} {E : El α} {v : Value} {rows : List (SV × List α)} {S : Nat → Prop} {w : World} (h : St S w (Rd eV v (rows.map (·.1)))) (hi : St S w (RdIn (fun s : SV => s) E rows)) : St S w (RdRR E v rows) := fun w' hk => ⟨h w' hk, hi w' hk⟩
theorem St.norm {α : Type} {E : El α} {A : Option Addr} {n c : Nat} {xs : List α} {S : Nat → Prop} {w : World} (h : St S w (Rd E (.slice A n c) xs)) : St S w (Rd E (.slice A xs.length c) xs) := by
  obtain ⟨A', c', e, _⟩ := h.now
  injection e with _ e2 _
  subst e2
  exact h
theorem Calls.asB {P : Program} {g : FuncId} {args : Array Value} {w : World} {b c : Bool} {K : World → Prop} (h : Calls P g args w fun e w' => ∃ v, e = .returned v ∧ (fun v w' => v = .bool c ∧ K w') v w') (hc : c = b) :
    Calls P g args w fun e w' => ∃ v, e = .returned v ∧ (fun v w' => v = .bool b ∧ K w') v w' := hc ▸ h
theorem Calls.asI {P : Program} {g : FuncId} {args : Array Value} {w : World} {k : IntKind} {b c : Int} {K : World → Prop} (h : Calls P g args w fun e w' => ∃ v, e = .returned v ∧ (fun v w' => v = .int k c ∧ K w') v w') (hc : c = b) :
    Calls P g args w fun e w' => ∃ v, e = .returned v ∧ (fun v w' => v = .int k b ∧ K w') v w' := hc ▸ h
def LNV (x : Ln) : Value := .agg #[.string x.1, .bool x.2]
end Go.Gv
