/- Operations on memory: new rows, append, make, store. -/
import Derived.Test.YtomeffnlmefnlaaGvC
import Derived.Laws.MakeOwn
import Derived.Laws.OwnMore
namespace Go.Gv
open Go Go.RowKit

/-- What the table says of an element's type: its zero value, its cells, its bytes. -/
def TI (P : Program) (e : TypeId) (z : Value) (size bytes : Nat) : Prop := (P.info? e).map (fun i => (i.zero, i.size, i.bytes)) = some (some z, size, bytes)
theorem TI.get {P : Program} {e : TypeId} {z : Value} {size bytes : Nat} (h : TI P e z size bytes) : ∃ i, P.info? e = some i ∧ i.zero = some z ∧ i.size = size ∧ i.bytes = bytes := by
  unfold TI at h
  cases hi : P.info? e with
  | none => rw [hi] at h; cases h
  | some i =>
    rw [hi] at h
    simp only [Option.map_some, Option.some.injEq, Prod.mk.injEq] at h
    exact ⟨i, rfl, h.1, h.2.1, h.2.2⟩
theorem TI.sz {P : Program} {e : TypeId} {z : Value} {size bytes : Nat} (h : TI P e z size bytes) : (P.info? e).map (·.size) = some size := by
  obtain ⟨i, hi, _, hs, _⟩ := h.get
  rw [hi, Option.map_some, hs]

section
variable {P : Program} {f : Env} {w : World} {d : Option Tmp} {ty : TypeId} {ps : String} {af : Array Edge} {gd : Option (Nat × Bool)}

/-! #### append -/
theorem append_row {α : Type} {E : El α} {t e : TypeId} {z : Value} {bytes : Nat} {v v2 : Value} {xs ys : List α} (ty : TypeId) (ht : P.underlying t = some (.slice e)) (hi : TI P e z E.sz bytes)
    (hz : z.cells.size = E.sz) (hR : Row E e v xs w) (hy : Rd E v2 ys w) (h63 : xs.length + ys.length ≤ maxLen) (hb : (xs.length + ys.length) * bytes ≤ 140737488355328) :
    ∃ A c w', (Builtin.append_ #[t, t] ty #[v, v2]).run P w = .ok (.slice A (xs ++ ys).length c) w' ∧ Row E e (.slice A (xs ++ ys).length c) (xs ++ ys) w' ∧ KB (· ∈ Value.keys v) w w' ∧
      ∀ k ∈ Value.keys (.slice A (xs ++ ys).length c), k ∈ Value.keys v ∨ w.heap.size ≤ k := by
  obtain ⟨i, hj, hz0, hs, hby⟩ := hi.get
  subst hby
  have h63' : xs.length + ys.length ≤ 9223372036854775807 := by simpa [maxLen] using h63
  obtain ⟨A2, c2, rfl, _, _, hc2⟩ := hy
  by_cases hy0 : ys = []
  · -- nothing is appended
    subst hy0
    obtain ⟨A, c, rfl⟩ := (Row.rd hR).len
    refine ⟨A, c, w, ?_, by simpa using hR, KB.refl _ _, fun k hk => .inl (by simpa using hk)⟩
    rcases hR.2 with ⟨h1, h2⟩ | ⟨g, cap, cur, h1, _, _, hnc, _⟩
    · injection h1 with h1 _ h3
      subst h1; subst h3
      rw [h2]
      simp [Builtin.append_, run_underlying ht, sizeOf, typeInfo, hj, Builtin.lenOf, Builtin.firstCells]
      cases A2 <;> simp [loadCells, loadCellsFrom, h2]
    · injection h1 with h1 _ h3
      subst h1; subst h3
      cases A2 <;> simp [Builtin.append_, run_underlying ht, sizeOf, typeInfo, hj, Builtin.lenOf, Builtin.firstCells, hnc, storeCells, loadCells, loadCellsFrom]
  · have hyp : 0 < ys.length := List.length_pos_iff.2 hy0
    obtain ⟨ad, rfl, hnews⟩ := hc2 hyp
    have hl : (E.cells ys).length = ys.length * i.size := by rw [E.cells_length, hs]
    have hlen : (E.cells (xs ++ ys)).length = (xs ++ ys).length * E.sz := E.cells_length _
    rcases hR.2 with ⟨rfl, hn⟩ | ⟨g, cap, cur, rfl, hbg, hg, hnc, hcm, hcs, htake⟩
    · have hx : xs = [] := List.eq_nil_of_length_eq_zero hn
      subst hx
      have hr := run_append_nil (P := P) w t ty e i z ht hj hz0 ad ys.length c2 (E.cells ys) hl hnews hyp (by omega) (by simp only [List.length_nil, Nat.zero_add] at hb; omega)
      refine ⟨_, _, _, hr, ?_, ?_, ?_⟩
      · refine ⟨hlen, .inr ⟨w.heap.size, _, _, rfl, by omega, heap_alloc_new w.drew _, grownCap_ge w _ 0 e, grownCap_le_maxLen w _ 0 e (by simpa using h63), ?_, ?_⟩⟩
        · simp only [Array.size_append, List.size_toArray, size_zeroCells, hz, hl, hs, ← Nat.add_mul]
          congr 1
          have := grownCap_ge w ys.length 0 e
          omega
        · simp only [List.nil_append, Array.toList_append]
          rw [List.take_append_of_le_length (Nat.le_of_eq (by rw [hl, hs])), List.take_of_length_le (Nat.le_of_eq (by rw [hl, hs]))]
      · exact ⟨rfl, rfl, rfl, fun _ => Nat.le_succ _, by simp, fun k hk _ => Below.heap_alloc w.drew _ k hk⟩
      · intro k hk
        right
        simp [Value.keys, Value.ownBlock] at hk
        omega
    · by_cases hroom : xs.length + ys.length ≤ cap
      · have hfit : xs.length * i.size + (E.cells ys).length ≤ cur.size := by rw [hl, hcs, hs, ← Nat.add_mul]; exact Nat.mul_le_mul_right _ hroom
        have hr := run_append_room (P := P) w t ty e i ht hj g xs.length cap cur hg ad ys.length c2 (E.cells ys) hl hnews (E.cells_one ys) hroom hfit
        rw [← List.length_append] at hr
        refine ⟨_, _, _, hr, ?_, ?_, ?_⟩
        · refine ⟨hlen, .inr ⟨g, cap, _, rfl, hbg, setRow_heap w g cur _ e _ hg, by rw [List.length_append]; exact hroom, hcm, ?_, ?_⟩⟩
          · simp only [List.size_toArray, List.length_append, List.length_take, List.length_drop, Array.length_toList]
            omega
          · rw [hs, htake, E.cells_append]
            simp only []
            rw [List.take_append_of_le_length (by simp [E.cells_length, Nat.add_mul]), List.take_of_length_le (by simp [E.cells_length, Nat.add_mul])]
        · exact ⟨rfl, rfl, rfl, fun _ => Nat.le_refl _, by simp, fun k _ hk => setRow_other w g k _ (fun e => hk (by simp [Value.keys, Value.ownBlock, e]))⟩
        · intro k hk
          exact .inl (by simpa [Value.keys, Value.ownBlock] using hk)
      · have holds : ∀ j u, (E.cells xs)[j]? = some u → w.cell? ((⟨g, 0, none⟩ : Addr).add j) = some u := World.ownsRow.cells hR (g := g) rfl
        have hr := run_append_grow (P := P) w t ty e i z ht hj hz0 ⟨g, 0, none⟩ xs.length cap (E.cells xs) (by rw [E.cells_length, hs]) holds ad ys.length c2 (E.cells ys) hl hnews (by omega) (by omega) (growslice_fits (by omega) hb)
        rw [← List.length_append] at hr
        refine ⟨_, _, _, hr, ?_, ?_, ?_⟩
        · refine ⟨hlen, .inr ⟨w.heap.size, _, _, rfl, by omega, heap_alloc_new w.drew _, grownCap_ge w _ cap e, grownCap_le_maxLen w _ cap e (by rw [List.length_append]; exact h63), ?_, ?_⟩⟩
          · simp only [Array.size_append, List.size_toArray, size_zeroCells, hz, E.cells_length, ← Nat.add_mul]
            congr 1
            have := grownCap_ge w (xs ++ ys).length cap e
            rw [List.length_append] at *
            omega
          · simp only [Array.toList_append, List.append_assoc]
            rw [← List.append_assoc, ← E.cells_append, List.take_append_of_le_length (by rw [hlen]; exact Nat.le_refl _), List.take_of_length_le (by rw [hlen]; exact Nat.le_refl _)]
        · exact ⟨rfl, rfl, rfl, fun _ => Nat.le_succ _, by simp, fun k hk _ => Below.heap_alloc w.drew _ k hk⟩
        · intro k hk
          right
          simp [Value.keys, Value.ownBlock] at hk
          omega

/-- 'append(s, x...)' as an operation: the row, and what is known of memory. -/
theorem XE.append {α : Type} {E : El α} {t e : TypeId} {z : Value} {bytes : Nat} {v v2 : Value} {xs ys : List α} {w0 : World} {S : Nat → Prop} {L : List Ent} {x y : Operand}
    (h : SH w0 S w (rowE E e v xs :: L)) (ht : P.underlying t = some (.slice e)) (hi : TI P e z E.sz bytes) (hz : z.cells.size = E.sz) (hy : Rd E v2 ys w) (hx1 : ev f x = some v) (hx2 : ev f y = some v2)
    (hb : (xs.length + ys.length) * bytes ≤ 140737488355328) (hb2 : xs.length + ys.length ≤ 140737488355328) :
    XE P ⟨d, .call { callee := .builtin .append, args := #[x, y], argTypes := #[t, t] }, ty, ps, af, gd⟩ f w (fun v' w' =>
      ∃ A c, v' = .slice A (xs ++ ys).length c ∧ SH w0 S w' (rowE E e (.slice A (xs ++ ys).length c) (xs ++ ys) :: L) ∧ KB (· ∈ Value.keys v) w w') := by
  obtain ⟨A, c, w', hr, hR, hk, hn⟩ := append_row ty ht hi hz (h.hd) hy (by unfold maxLen; omega) hb
  refine ⟨.slice A (xs ++ ys).length c, w', fun a ha => ?_, A, c, rfl, h.upd hk (Row.ok hR) (keys_nodup _) hn, hk⟩
  simp [execOp, resolve, invoke, builtin, ev_eval ha hx1, ev_eval ha hx2, hr]

/-! #### literals -/
def evParts (f : Env) : List (Nat × Operand) → Option (List (Nat × Value))
  | [] => some []
  | (i, x) :: l => match ev f x, evParts f l with | some v, some vs => some ((i, v) :: vs) | _, _ => none
theorem evParts_eval {a : Act} (ha : FG a f) : ∀ (l : List (Nat × Operand)) (vs : List (Nat × Value)), evParts f l = some vs → l.map (fun p => (p.1, a.eval p.2)) = vs
  | [], vs, h => by simp [evParts] at h; subst h; rfl
  | (i, x) :: l, vs, h => by
    unfold evParts at h
    cases hx : ev f x with
    | none => rw [hx] at h; simp at h
    | some v =>
      cases hl : evParts f l with
      | none => rw [hx, hl] at h; simp at h
      | some us =>
        rw [hx, hl] at h
        simp at h
        subst h
        simp [ev_eval ha hx, evParts_eval ha l us hl]
/-- A slice literal of n elements. -/
theorem XV.buildSlice {α : Type} {E : El α} {t e : TypeId} {z : Value} {bytes n : Nat} {parts : Array (Nat × Operand)} {vs : List (Nat × Value)} {cs : Array Value} {xs : List α} {w0 : World} {S : Nat → Prop} {L : List Ent}
    (h : SH w0 S w L) (ht : P.underlying t = some (.slice e)) (hi : TI P e z E.sz bytes) (hv : evParts f parts.toList = some vs)
    (hn : n * E.sz ≤ 16777216) (hf : Instr.fill (fun i => some (i * E.sz, E.sz)) (if n * E.sz = 0 then #[] else Builtin.zeroCells z.cells n) vs = some cs) (hzs : n * E.sz = 0 ∨ z.cells.size = E.sz)
    (hcs : cs.toList = E.cells xs) (hl : xs.length = n) (hE : 0 < E.sz) :
    XV P ⟨d, .buildSlice t n parts, ty, ps, af, gd⟩ f w (.slice (some ⟨w.heap.size, 0, none⟩) n n) (w.alloc (.cells cs e)) ∧
      SH w0 S (w.alloc (.cells cs e)) (rowE E e (.slice (some ⟨w.heap.size, 0, none⟩) n n) xs :: L) := by
  obtain ⟨i, hj, hz0, hs, hby⟩ := hi.get
  constructor
  · intro a ha
    have hp : List.map (fun p => (p.1, a.eval p.2)) parts.toList = vs := evParts_eval ha _ _ hv
    have hnn : ¬ (16777216 < n * E.sz) := by omega
    by_cases h0 : n * E.sz = 0
    · rw [if_pos h0] at hf
      have e0 : (Array.map (fun x => (#[] : Array Value)[x % 0]!) (Array.range 0)) = #[] := by simp [Array.range_zero']
      simp only [execOp, Sem.run_bind, Sem.run_pure, Instr.buildSlice, run_underlying ht]
      simp [sizeOf, typeInfo, hj, hs, h0, newRow, hp]
      simp [Array.range_zero', hf]
    · rw [if_neg h0] at hf
      have hzz : z.cells.size = E.sz := hzs.resolve_left h0
      have e1 : (Array.map (fun x => z.cells[x % z.cells.size]!) (Array.range (n * E.sz))) = Builtin.zeroCells z.cells n := by unfold Builtin.zeroCells; rw [hzz]
      simp only [execOp, Sem.run_bind, Sem.run_pure, Instr.buildSlice, run_underlying ht]
      simp [sizeOf, typeInfo, zeroValue, hj, hz0, hs, hnn, hp, newRow, e1]
      rw [if_neg h0, hf]
      simp
  · refine h.more (KB.alloc w _) (Row.ok (Row.new cs n xs hl (by unfold maxLen; have : n * 1 ≤ n * E.sz := Nat.mul_le_mul_left _ hE; omega) hcs)) (keys_nodup (.slice (some ⟨w.heap.size, 0, none⟩) n n)) ?_
    intro k hk
    simp [rowE, Value.keys, Value.ownBlock] at hk
    omega
theorem XE.buildSlice {α : Type} {E : El α} {t e : TypeId} {z : Value} {bytes n : Nat} {parts : Array (Nat × Operand)} {w0 : World} {S : Nat → Prop} {L : List Ent} (vs : List (Nat × Value)) (cs : Array Value) (xs : List α)
    (h : SH w0 S w L) (ht : P.underlying t = some (.slice e)) (hi : TI P e z E.sz bytes) (hv : evParts f parts.toList = some vs)
    (hn : n * E.sz ≤ 16777216) (hf : Instr.fill (fun i => some (i * E.sz, E.sz)) (if n * E.sz = 0 then #[] else Builtin.zeroCells z.cells n) vs = some cs) (hzs : n * E.sz = 0 ∨ z.cells.size = E.sz)
    (hcs : cs.toList = E.cells xs) (hl : xs.length = n) (hE : 0 < E.sz) :
    XE P ⟨d, .buildSlice t n parts, ty, ps, af, gd⟩ f w (fun v' w' => ∃ b, v' = .slice (some ⟨b, 0, none⟩) n n ∧ SH w0 S w' (rowE E e (.slice (some ⟨b, 0, none⟩) n n) xs :: L) ∧ KB No w w') :=
  have h1 := XV.buildSlice (d := d) (ty := ty) (ps := ps) (af := af) (gd := gd) h ht hi hv hn hf hzs hcs hl hE
  ⟨_, _, h1.1, _, rfl, h1.2, KB.alloc _ _⟩
end
end Go.Gv
