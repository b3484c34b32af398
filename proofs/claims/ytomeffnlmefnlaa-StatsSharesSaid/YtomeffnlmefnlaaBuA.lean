/- strings.Builder: pointers compared, its check, its bytes as a string. -/
import Derived.Test.YtomeffnlmefnlaaGvV
import Derived.Test.YtomeffnlmefnlaaGvN
import Derived.Shelf.Strings.Builder1
import Derived.Shelf.Lay
namespace Go.Gv
open Go Go.RowKit Go.Proofs Go.Shelf
section
variable {P : Program} {f : Env} {w w0 : World} {S : Nat → Prop} {L : List Ent} {d : Option Tmp} {ty : TypeId} {ps : String} {af : Array Edge} {gd : Option (Nat × Bool)}
/-- A builder's own place, as it holds it: none yet, or where it is. -/
def BP (p : Value) (b : Nat) : Prop := p = .pointer none ∨ p = .pointer (some ⟨b, 0, none⟩)
theorem LV.eqPN {t t2 te : TypeId} {x y : Operand} (ht : P.underlying t = some (.pointer te)) (hx : ev f x = some (.pointer none)) (hy : ev f y = some (.pointer none)) : LV P ⟨d, .binOp .eql t x y t2, ty, ps, af, gd⟩ f w (.bool true) := fun a ha => by
  have h : ∀ k : Nat, (Op.equalIn (k + 1) t (.pointer none) (.pointer none)).run P w = .ok true w := fun k => by simp [Op.equalIn, run_underlying ht]
  simp [execOp, ev_eval ha hx, ev_eval ha hy, eqGuard, binOp, Op.equal, Op.maxDepth, h 9999]
theorem LV.eqPS {t t2 te : TypeId} {x y : Operand} {p : Addr} (ht : P.underlying t = some (.pointer te)) (hx : ev f x = some (.pointer (some p))) (hy : ev f y = some (.pointer none)) : LV P ⟨d, .binOp .eql t x y t2, ty, ps, af, gd⟩ f w (.bool false) := fun a ha => by
  have h : ∀ k : Nat, (Op.equalIn (k + 1) t (.pointer (some p)) (.pointer none)).run P w = .ok false w := fun k => by simp [Op.equalIn, run_underlying ht]
  simp [execOp, ev_eval ha hx, ev_eval ha hy, eqGuard, binOp, Op.equal, Op.maxDepth, h 9999]
theorem LV.nePP {t t2 te : TypeId} {x y : Operand} {p : Addr} {z : Value} {sz by_ : Nat} (ht : P.underlying t = some (.pointer te)) (hi : TI P te z sz by_) (hx : ev f x = some (.pointer (some p))) (hy : ev f y = some (.pointer (some p))) : LV P ⟨d, .binOp .neq t x y t2, ty, ps, af, gd⟩ f w (.bool false) := fun a ha => by
  obtain ⟨j, hj, _⟩ := hi.get
  have h := Lib.run_neq_ptr_same (P := P) w p ht hj
  simp [execOp, ev_eval ha hx, ev_eval ha hy, eqGuard, h]
theorem LV.toUns {src dst T U : TypeId} {x : Operand} {b sz by_ : Nat} {z : Value} {cs : Array Value} (hs : P.underlying src = some (.pointer T)) (hd : P.underlying dst = some .unsafePointer) (hi : TI P T z sz by_) (hz : sz ≠ 0) (hb : w.heap[b]? = some (.cells cs U (0, 0))) (h0 : 0 < cs.size)
    (hx : ev f x = some (.pointer (some ⟨b, 0, none⟩))) : LV P ⟨d, .convert src dst x, ty, ps, af, gd⟩ f w (.pointer (some ⟨b, 0, none⟩)) := fun a ha => by
  obtain ⟨j, hj, _, hs2, _⟩ := hi.get
  have h := Lib.run_to_unsafe (P := P) w ⟨b, 0, none⟩ hs hd hj (by omega) (show w.shape? b = some (U, cs.size) by simp [World.shape?, hb]) h0
  simp [execOp, ev_eval ha hx, h]
theorem LV.fromUns {src dst T : TypeId} {x : Operand} {b sz by_ : Nat} {z : Value} {cs : Array Value} (hs : P.underlying src = some .unsafePointer) (hd : P.underlying dst = some (.pointer T)) (hi : TI P T z sz by_) (hb : w.heap[b]? = some (.cells cs T (0, 0)))
    (hl : liesAt P P.depth T (cs.size / P.cellsOf T) 0 T 1 = true) (hx : ev f x = some (.pointer (some ⟨b, 0, none⟩))) : LV P ⟨d, .convert src dst x, ty, ps, af, gd⟩ f w (.pointer (some ⟨b, 0, none⟩)) := fun a ha => by
  obtain ⟨j, hj, _⟩ := hi.get
  have h := Lib.run_from_unsafe (P := P) w ⟨b, 0, none⟩ hs hd hj (show w.shape? b = some (T, cs.size) by simp [World.shape?, hb]) hl
  simp [execOp, ev_eval ha hx, h]
theorem LV.noEsc {g : FuncId} {fn : Func} {c x : Operand} {ats : Array TypeId} {v : Value} (hf : P.funcs[g]? = some fn) (hname : (fn.name == "runtime.NumGoroutine") = false) (hb : fn.body.isNone = true) (hn : Extern.findNext fn = none) (he : Extern.find fn = some Extern.AbiNoEscape.same)
    (hc : ev f c = some (.func (.func g) #[] #[])) (hx : ev f x = some v) : LV P ⟨d, .call { callee := .value c, args := #[x], argTypes := ats }, ty, ps, af, gd⟩ f w v := fun a ha => by
  have h := run_callFunc_extern hf hname hb hn he #[v] w
  have h2 : (Extern.AbiNoEscape.same #[v]).run P w = .ok v w := Lib.run_noEscape w v
  rw [h2] at h
  have h3 : (callFunc g #[v]).run P w = .ok (.value v) w := h
  simp [execOp, resolve, Deferred.ofValue, ev_eval ha hc, ev_eval ha hx, invoke, h3]
theorem keys_row1 {α : Type} {E : El α} {T : TypeId} {v : Value} {xs : List α} : keys [rowE E T v xs] = Value.keys v := by simp [keys, rowE]
theorem kb_freeze (w : World) (p : Addr) (n : Nat) : KB (· = p.block) w (w.freeze p n) := by
  unfold World.freeze
  split
  · exact KB.refl _ _
  · exact ⟨rfl, rfl, rfl, fun _ => Nat.le_refl _, by simp, fun k hk hn => by
      simp only [Array.getElem?_modify]
      rw [if_neg (fun e => hn e.symm)]⟩
/-- Where a slice's elements begin, if it has some. -/
def UD (v : Value) (ad : Option Addr) : Prop := ∀ A n c, v = .slice A n c → n ≠ 0 → ad = A
theorem XE.usd {t e e2 : TypeId} {x : Operand} {v : Value} {s : ByteArray} (h : SH w0 S w (rowE eU8 e v (bytesOf s) :: L)) (hx : ev f x = some v) (hty : P.underlying ty = some (.pointer e2)) :
    XE P ⟨d, .call { callee := .builtin .unsafeSliceData, args := #[x], argTypes := #[t] }, ty, ps, af, gd⟩ f w (fun v' w' => ∃ ad, v' = .pointer ad ∧ UD v ad ∧ SH w0 S w' (rowE eU8 e v (bytesOf s) :: L) ∧ KB No w w') := by
  have hR : Row eU8 e v (bytesOf s) w := h.hd
  rcases hR.2 with ⟨rfl, hn⟩ | ⟨g, cap, cur, rfl, _, hg, hnc, hcm, hcs, ht⟩
  · refine ⟨.pointer none, w, fun a ha => ?_, none, rfl, fun A n c e h0 => by cases e; exact absurd rfl h0, h, KB.refl _ _⟩
    have hr := Lib.run_unsafeSliceData_nil (P := P) w #[t] ty 0 0
    simp [execOp, resolve, invoke, builtin, ev_eval ha hx, hr]
  · by_cases hc : cap = 0
    · subst hc
      refine ⟨_, _, fun a ha => ?_, some ⟨w.heap.size, 0, none⟩, rfl, fun A n c e h0 => ?_, h.same (KB.alloc w (.view ⟨g, 0, none⟩ e2)), KB.alloc w _⟩
      · have hr := Lib.run_unsafeSliceData_zero (P := P) w #[t] ty e2 hty ⟨g, 0, none⟩ (bytesOf s).length (e, cur.size) (by simp [World.shape?, hg])
        simp [execOp, resolve, invoke, builtin, ev_eval ha hx, hr]
      · injection e with _ e2 _
        omega
    · refine ⟨_, w, fun a ha => ?_, some ⟨g, 0, none⟩, rfl, fun A n c e _ => by cases e; rfl, h, KB.refl _ _⟩
      have hr := Lib.run_unsafeSliceData_row (P := P) w #[t] ty ⟨g, 0, none⟩ (bytesOf s).length cap hc
      simp [execOp, resolve, invoke, builtin, ev_eval ha hx, hr]
theorem cells_byte (s : ByteArray) (j : Nat) (x : UInt8) (h : s.data.toList[j]? = some x) : (eU8.cells (bytesOf s))[j]? = some (.int .u8 x.toNat) := by
  have h2 := eU8.cells_get (bytesOf s) j (x.toNat : Int) 0 (.int .u8 x.toNat) (by unfold bytesOf; rw [List.getElem?_map, h]; rfl) rfl
  simpa [eU8] using h2
theorem addr_at (g j : Nat) : (⟨g, 0, none⟩ : Addr).add j = ⟨g, j, none⟩ := by unfold Addr.add; split <;> simp_all
theorem XE.us {pt it e : TypeId} {x y : Operand} {A : Option Addr} {n c : Nat} {ad : Option Addr} {s : ByteArray} (h : SH w0 S w (rowE eU8 e (.slice A n c) (bytesOf s) :: L)) (hn : n = s.size) (hx : ev f x = some (.pointer ad)) (hy : ev f y = some (.int .i64 n))
    (hu : UD (.slice A n c) ad) (hp : P.underlying pt = some (.pointer e)) (hc : P.cellsOf e = 1) :
    XE P ⟨d, .call { callee := .builtin .unsafeString, args := #[x, y], argTypes := #[pt, it] }, ty, ps, af, gd⟩ f w (fun v' w' => v' = .string s ∧ SH w0 S w' L ∧ KB (· ∈ Value.keys (.slice A n c)) w w') := by
  have hR : Row eU8 e (.slice A n c) (bytesOf s) w := h.hd
  have hl := bytesOf_len s
  by_cases h0 : n = 0
  · subst h0
    have hs : s = ByteArray.empty := by
      have h2 : s.data.toList = [] := List.eq_nil_of_length_eq_zero (by rw [Array.length_toList]; exact hn.symm)
      have : s.data = #[] := by simpa using h2
      exact ByteArray.ext this
    subst hs
    refine ⟨_, w, fun a ha => ?_, rfl, h.tail, KB.refl _ _⟩
    have hr := Lib.run_unsafeString_none (P := P) w pt it ty ad
    have hy' : ev f y = some (.int .i64 0) := hy
    simp [execOp, resolve, invoke, builtin, ev_eval ha hx, ev_eval ha hy', hr]
  · have had := hu A n c rfl h0
    subst had
    rcases hR.2 with ⟨he, hz⟩ | ⟨g, cap, cur, he, _, hg, hnc, hcm, hcs, ht⟩
    · omega
    · injection he with e1 e2 e3
      subst e1 e3
      have hsz : s.data.toList.length = s.size := by rw [Array.length_toList]; rfl
      have h63 : cur.size ≤ maxLen := by rw [hcs]; show c * 1 ≤ maxLen; omega
      have hmx : maxLen ≤ 9223372036854775807 := by unfold maxLen; omega
      have hcw : c = cur.size := by rw [hcs]; exact (Nat.mul_one c).symm
      refine ⟨_, _, fun a ha => ?_, rfl, ?_, (kb_freeze w ⟨g, 0, none⟩ s.size).mono fun i hi => by simp [Value.keys, Value.ownBlock, hi]⟩
      · have hr := Lib.run_unsafeString_row (P := P) w pt it ty e hp hc g cur.size (by simp [World.shape?, hg]) s.data.toList (by intro h2; rw [h2] at hsz; simp at hsz; omega) (by omega) (by omega) (fun j x hj => by
          have hlt : j < s.data.toList.length := (List.getElem?_eq_some_iff.1 hj).1
          have h3 := cells_byte s j x hj
          rw [← ht, List.getElem?_take, if_pos (by show j < (bytesOf s).length * 1; omega), Array.getElem?_toList] at h3
          rw [addr_at g j, cell_of_row w g j cur e (0, 0) hg]
          exact h3)
        have hy' : ev f y = some (.int .i64 s.size) := by rw [← hn]; exact hy
        have hs2 : (⟨s.data.toList.toArray⟩ : ByteArray) = s := by simp
        rw [hs2, hsz] at hr
        simp [execOp, resolve, invoke, builtin, ev_eval ha hx, ev_eval ha hy', hr]
      · exact SH.step (Es := [rowE eU8 e (.slice (some ⟨g, 0, none⟩) n c) (bytesOf s)]) (Es' := []) h ((kb_freeze w ⟨g, 0, none⟩ _).mono fun i hi => by rw [keys_row1]; simp [Value.keys, Value.ownBlock, hi]) (by simp) (by simp [keys]) (by simp [keys])
theorem bytesOf_lit (c : Int) (h0 : 0 ≤ c) (h1 : c ≤ 255) : bytesOf ⟨#[c.toNat.toUInt8]⟩ = [c] := by
  unfold bytesOf
  simp
  omega
end
end Go.Gv
