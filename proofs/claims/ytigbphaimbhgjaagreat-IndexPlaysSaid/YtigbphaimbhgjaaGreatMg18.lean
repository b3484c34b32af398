/- More operations on memory: variables' blocks, stores, make, cuts, copies, calls, results. -/
import Derived.Test.YtigbphaimbhgjaaGreatMg17
import Derived.Laws.CopyRow
import Derived.Laws.IdiomCopy
namespace Go.Gw
open Go Go.RowKit

theorem addr0 (g j : Nat) : (⟨g, 0, none⟩ : Addr).add j = ⟨g, j, none⟩ := by unfold Addr.add; split <;> simp_all
theorem addrO (g o j : Nat) : (⟨g, o, none⟩ : Addr).add j = ⟨g, o + j, none⟩ := by unfold Addr.add; split <;> simp_all

/-! ### A variable's block -/
def blkE (b : Nat) (T : TypeId) (cs : Array Value) : Ent := ⟨[b], fun w => w.heap[b]? = some (.cells cs T (0, 0))⟩
section
variable {w : World} {b : Nat} {T : TypeId} {cs : Array Value}
theorem Blk.ok (h : w.heap[b]? = some (.cells cs T (0, 0))) : (blkE b T cs).Ok w :=
  ⟨h, fun k hk => by simp [blkE] at hk; subst hk; exact (Array.getElem?_eq_some_iff.1 h).1, fun _ hk _ => (hk b (by simp [blkE])).trans h⟩
theorem Blk.cell (h : w.heap[b]? = some (.cells cs T (0, 0))) (o : Nat) : w.cell? ⟨b, o, none⟩ = cs[o]? := cell_of_row w b o cs T (0, 0) h
theorem Blk.st {w : World} {b : Nat} {o : Obj} (h : w.heap[b]? = some o) : St No w (fun w => w.heap[b]? = some o) := fun _ hk => (hk.blk b (Array.getElem?_eq_some_iff.1 h).1 fun h => h).trans h
theorem Blk.cellN {w : World} {b : Nat} {T : TypeId} {cs : Array Value} (h : w.heap[b]? = some (.cells cs T (0, 0))) (o : Nat) {v : Value} (hv : cs[o]? = some v) : ∀ w', KB No w w' → w'.cell? ⟨b, o, none⟩ = some v := fun _ hk =>
  hk.cell ((Blk.cell h o).trans hv) fun h => h
end

section
variable {P : Program} {f : Env} {w : World} {d : Option Tmp} {ty : TypeId} {ps : String} {af : Array Edge} {gd : Option (Nat × Bool)} {w0 : World} {S : Nat → Prop} {L : List Ent}

/-! #### new variables -/
theorem XV.box {T : TypeId} {x : Operand} {v : Value} {cs : Array Value} (h : SH w0 S w L) (hx : ev f x = some v) (hc : v.cells = cs) :
    XV P ⟨d, .box T x, ty, ps, af, gd⟩ f w (.pointer (some ⟨w.heap.size, 0, none⟩)) (w.alloc (.cells cs T)) ∧ SH w0 S (w.alloc (.cells cs T)) (blkE w.heap.size T cs :: L) := by
  refine ⟨fun a ha => ?_, h.more (KB.alloc w _) (Blk.ok (by show (w.heap.push _)[w.heap.size]? = _; simp)) (by simp [blkE]) (fun k hk => by simp [blkE] at hk; omega)⟩
  simp [execOp, ev_eval ha hx, Instr.box, newVar, newRow, hc]
theorem XV.alloc {T : TypeId} {z : Value} {cs : Array Value} {size bytes : Nat} (h : SH w0 S w L) (hi : TI P T z size bytes) (hc : z.cells = cs) :
    XV P ⟨d, .alloc T, ty, ps, af, gd⟩ f w (.pointer (some ⟨w.heap.size, 0, none⟩)) (w.alloc (.cells cs T)) ∧ SH w0 S (w.alloc (.cells cs T)) (blkE w.heap.size T cs :: L) := by
  obtain ⟨i, hj, hz0, _, _⟩ := hi.get
  refine ⟨fun a ha => ?_, h.more (KB.alloc w _) (Blk.ok (by show (w.heap.push _)[w.heap.size]? = _; simp)) (by simp [blkE]) (fun k hk => by simp [blkE] at hk; omega)⟩
  simp [execOp, Instr.alloc, zeroValue, typeInfo, hj, hz0, newVar, newRow, hc]

theorem XE.box {T : TypeId} {x : Operand} {v : Value} (cs : Array Value) (h : SH w0 S w L) (hx : ev f x = some v) (hc : v.cells = cs) :
    XE P ⟨d, .box T x, ty, ps, af, gd⟩ f w (fun v' w' => ∃ b, v' = .pointer (some ⟨b, 0, none⟩) ∧ SH w0 S w' (blkE b T cs :: L) ∧ KB No w w') :=
  have h1 := XV.box (d := d) (ty := ty) (ps := ps) (af := af) (gd := gd) (T := T) h hx hc
  ⟨_, _, h1.1, _, rfl, h1.2, KB.alloc _ _⟩
theorem XE.alloc {T : TypeId} {z : Value} (cs : Array Value) {size bytes : Nat} (h : SH w0 S w L) (hi : TI P T z size bytes) (hc : z.cells = cs) :
    XE P ⟨d, .alloc T, ty, ps, af, gd⟩ f w (fun v' w' => ∃ b, v' = .pointer (some ⟨b, 0, none⟩) ∧ SH w0 S w' (blkE b T cs :: L) ∧ KB No w w') :=
  have h1 := XV.alloc (f := f) (d := d) (ty := ty) (ps := ps) (af := af) (gd := gd) h hi hc
  ⟨_, _, h1.1, _, rfl, h1.2, KB.alloc _ _⟩

/-! #### structs as values -/
theorem LV.build {t : TypeId} {parts : Array (Nat × Operand)} {vs : List (Nat × Value)} {z : Value} {size bytes : Nat} {fs : Array Field} {places : Array (Nat × Nat)} {cs : Array Value} (ht : P.underlying t = some (.struct fs)) (hi : TI P t z size bytes)
    (hp : ∀ w, (fs.mapM fun (f : Field) => (do pure (f.offset, ← sizeOf f.type) : Sem (Nat × Nat))).run P w = .ok places w) (hv : evParts f parts.toList = some vs) (hf : Instr.fill (places[·]?) z.cells vs = some cs) :
    LV P ⟨d, .build t parts, ty, ps, af, gd⟩ f w (.agg cs) := fun a ha => by
  obtain ⟨i, hj, hz0, _, _⟩ := hi.get
  have hl : (parts.map fun p => (p.1, a.eval p.2)).toList = vs := by rw [Array.toList_map]; exact evParts_eval ha _ _ hv
  simp only [execOp, Instr.build, Sem.run_bind, zeroValue, typeInfo, Sem.run_pure]
  simp only [run_program, Result.andThen_ok, hj, Sem.run_pure, hz0, run_underlying ht, Sem.run_bind, hp]
  rw [hl, hf]
  simp
theorem LV.buildA {t e : TypeId} {n : Nat} {parts : Array (Nat × Operand)} {vs : List (Nat × Value)} {z z1 : Value} {size bytes size1 bytes1 : Nat} {cs : Array Value} (ht : P.underlying t = some (.array n e)) (hi : TI P t z size bytes) (he : TI P e z1 size1 bytes1)
    (hv : evParts f parts.toList = some vs) (hf : Instr.fill (fun i => some (i * size1, size1)) z.cells vs = some cs) :
    LV P ⟨d, .build t parts, ty, ps, af, gd⟩ f w (.agg cs) := fun a ha => by
  obtain ⟨i, hj, hz0, _, _⟩ := hi.get
  obtain ⟨i1, hj1, _, hs1, _⟩ := he.get
  have hl : (parts.map fun p => (p.1, a.eval p.2)).toList = vs := by rw [Array.toList_map]; exact evParts_eval ha _ _ hv
  simp only [execOp, Instr.build, Sem.run_bind, zeroValue, sizeOf, typeInfo, Sem.run_pure]
  simp only [run_program, Result.andThen_ok, hj, hj1, Sem.run_pure, hz0, run_underlying ht, Sem.run_bind, hs1]
  rw [hl, hf]
  simp
theorem LV.loadAgg {t : TypeId} {x : Operand} {a : Addr} {u : TypeDesc} {z : Value} {size bytes : Nat} {cs : List Value} (ht : P.underlying t = some u) (hu : (match u with | .struct _ | .array _ _ => true | _ => false) = true) (hi : TI P t z size bytes) (hx : ev f x = some (.pointer (some a)))
    (hl : cs.length = size) (hc : ∀ j u, cs[j]? = some u → w.cell? (a.add j) = some u) :
    LV P ⟨d, .load t x, ty, ps, af, gd⟩ f w (.agg cs.toArray) := fun b hb => by
  obtain ⟨i, hj, _, hs, _⟩ := hi.get
  have hrun := run_loadCells_list (P := P) (w := w) a cs hc
  rw [hl] at hrun
  cases u <;> simp at hu <;> simp [execOp, ev_eval hb hx, Instr.loadAt, Instr.sureAddr, loadVar, isAgg, run_underlying ht, sizeOf, typeInfo, hj, hs, hrun]
theorem LV.field1 {t : TypeId} {x : Operand} {i : Nat} {fs : Array Field} {fl : Field} {u : TypeDesc} {cs : Array Value} {v : Value} (ht : P.underlying t = some (.struct fs)) (hf : fs[i]? = some fl) (hu : P.underlying fl.type = some u)
    (hu2 : (match u with | .struct _ | .array _ _ => false | _ => true) = true) (hx : ev f x = some (.agg cs)) (hc : cs[fl.offset]? = some v) : LV P ⟨d, .field t x i, ty, ps, af, gd⟩ f w v := fun b hb => by
  cases u <;> simp at hu2 <;> simp [execOp, ev_eval hb hx, Instr.field, run_underlying ht, hf, part, isAgg, run_underlying hu, asAgg, hc]
theorem LV.fieldA {s : TypeId} {x : Operand} {i size : Nat} {fs : Array Field} {fl : Field} {A : Addr} (hs : P.underlying s = some (.struct fs)) (hf : fs[i]? = some fl) (hz : (P.info? fl.type).map (·.size) = some (size + 1)) (hx : ev f x = some (.pointer (some A))) :
    LV P ⟨d, .fieldAddr s x i, ty, ps, af, gd⟩ f w (.pointer (some (A.add fl.offset))) := fun b hb => by
  obtain ⟨inf, hi, hsz⟩ := Option.map_eq_some_iff.1 hz
  simp [execOp, ev_eval hb hx, Instr.fieldAt, Instr.sureAddr, run_underlying hs, hf, fieldPlace, sizeOf, typeInfo, hi, hsz]
theorem LV.idxArr {t e : TypeId} {x y : Operand} {n size : Nat} {i : Int} {k : IntKind} {A : Addr} (ht : P.underlying t = some (.array n e)) (hz : (P.info? e).map (·.size) = some size) (hx : ev f x = some (.pointer (some A))) (hy : ev f y = some (.int k i)) (h0 : 0 ≤ i) (h1 : i < n) :
    LV P ⟨d, .indexAddr t x y, ty, ps, af, gd⟩ f w (.pointer (some (A.add (i.toNat * size)))) := fun b hb => by
  obtain ⟨inf, hi, hsz⟩ := Option.map_eq_some_iff.1 hz
  simp [execOp, ev_eval hb hx, ev_eval hb hy, Instr.indexAt, asIntOf, run_underlying ht, Instr.sureAddr, h0, h1, sizeOf, typeInfo, hi, hsz]
theorem LV.idxArrV {t e : TypeId} {x y : Operand} {n : Nat} {i : Int} {k : IntKind} {cs : Array Value} {u : TypeDesc} {v : Value} (ht : P.underlying t = some (.array n e)) (hz : (P.info? e).map (·.size) = some 1) (hu : P.underlying e = some u) (hu2 : (match u with | .struct _ | .array _ _ => false | _ => true) = true)
    (hx : ev f x = some (.agg cs)) (hy : ev f y = some (.int k i)) (h0 : 0 ≤ i) (h1 : i < n) (hc : cs[i.toNat]? = some v) :
    LV P ⟨d, .index t x y, ty, ps, af, gd⟩ f w v := fun b hb => by
  obtain ⟨inf, hi, hsz⟩ := Option.map_eq_some_iff.1 hz
  cases u <;> simp at hu2 <;> simp [execOp, ev_eval hb hx, ev_eval hb hy, Instr.index, asIntOf, run_underlying ht, h0, h1, sizeOf, typeInfo, hi, hsz, part, isAgg, run_underlying hu, hc]

/-! #### stores -/
theorem run_store1 {T : TypeId} {b o : Nat} {v : Value} {cs : Array Value} {B : TypeId} (hb : w.heap[b]? = some (.cells cs B (0, 0))) (ho : o < cs.size) (hz : (P.info? T).map (·.size) = some 1) (hv : v.oneCell' = true) :
    (storeVar T ⟨b, o, none⟩ v).run P w = .ok () (w.setCell ⟨b, o, none⟩ v) := by
  obtain ⟨inf, hi, hsz⟩ := Option.map_eq_some_iff.1 hz
  have hcell : w.cell? ⟨b, o, none⟩ = some cs[o] := by simp [World.cell?, hb, ho]
  have hfro : w.frozen? ⟨b, o, none⟩ = false := by simp [World.frozen?, hb]
  have hst : (store ⟨b, o, none⟩ v).run P w = .ok () (w.setCell ⟨b, o, none⟩ v) := by
    rw [run_store P w _ v _ hv, hcell]
    simp [hfro]
  cases v <;> simp [Value.oneCell'] at hv <;> simp [storeVar, Value.cells, sizeOf, typeInfo, hi, hsz, storeCells, Addr.add, hst]
/-- A store into a variable's block. -/
theorem XS.blk {T : TypeId} {x y : Operand} {b o : Nat} {v : Value} {cs : Array Value} {B : TypeId} (h : SH w0 S w (blkE b B cs :: L)) (ho : o < cs.size) (hz : (P.info? T).map (·.size) = some 1) (hv : v.oneCell' = true)
    (hx : ev f x = some (.pointer (some ⟨b, o, none⟩))) (hy : ev f y = some v) :
    XS P ⟨d, .store T x y, ty, ps, af, gd⟩ f w (w.setCell ⟨b, o, none⟩ v) ∧ SH w0 S (w.setCell ⟨b, o, none⟩ v) (blkE b B (cs.setIfInBounds o v) :: L) := by
  have hb : w.heap[b]? = some (.cells cs B (0, 0)) := h.hd
  refine ⟨fun a ha => ?_, h.upd ((KB.setCell w _ v).mono fun i hi => by simp [blkE, hi]) (Blk.ok (heap_setCell_same w b o cs B v hb)) (by simp [blkE]) (fun k hk => .inl hk)⟩
  simp [execOp, ev_eval ha hx, ev_eval ha hy, Instr.storeAt, Instr.sureAddr, run_store1 hb ho hz hv]
/-- A store of one cell of an element of a row. -/
theorem XS.row1 {α : Type} {E : El α} {T e : TypeId} {x y : Operand} {A : Addr} {n c o i : Nat} {v : Value} {xs : List α} {x1 x2 : α} (h : SH w0 S w (rowE E e (.slice (some A) n c) xs :: L)) (hi : xs[i]? = some x1) (ho : o < E.sz)
    (hz : (P.info? T).map (·.size) = some 1) (hv : v.oneCell' = true) (hx : ev f x = some (.pointer (some ((A.add (i * E.sz)).add o)))) (hy : ev f y = some v) (he : E.enc x2 = (E.enc x1).set o v) :
    ∃ w', XS P ⟨d, .store T x y, ty, ps, af, gd⟩ f w w' ∧ SH w0 S w' (rowE E e (.slice (some A) n c) (xs.set i x2) :: L) ∧ KB (· ∈ Value.keys (.slice (some A) n c)) w w' := by
  have hR : Row E e (.slice (some A) n c) xs w := h.hd
  have hlt : i < xs.length := (List.getElem?_eq_some_iff.1 hi).1
  have hR2 := hR.2
  rcases hR2 with ⟨h1, _⟩ | ⟨g, cap, cur, h1, hbg, hg, hnc, hcm, hcs, htake⟩
  · simp at h1
  · injection h1 with h1 h2 h3
    injection h1 with h1
    subst h1
    subst h3
    have hj : i * E.sz + o < xs.length * E.sz := by
      have : i * E.sz + E.sz ≤ xs.length * E.sz := by rw [← Nat.succ_mul]; exact Nat.mul_le_mul_right _ hlt
      omega
    have hcur : i * E.sz + o < cur.size := by rw [hcs]; exact Nat.lt_of_lt_of_le hj (Nat.mul_le_mul_right _ hnc)
    rw [addr_add', addr0] at hx
    have hset : (E.cells xs).set (i * E.sz + o) v = E.cells (xs.set i x2) := by
      apply List.ext_getElem?
      intro j
      have hlen : (E.cells xs).length = xs.length * E.sz := E.cells_length xs
      rw [List.getElem?_set]
      by_cases hjl : j < xs.length * E.sz
      · have hsz : 0 < E.sz := by omega
        have hq : j / E.sz < xs.length := Nat.div_lt_of_lt_mul (by rw [Nat.mul_comm]; exact hjl)
        have hdm : j / E.sz * E.sz + j % E.sz = j := by rw [Nat.mul_comm]; exact Nat.div_add_mod j E.sz
        have hml : j % E.sz < E.sz := Nat.mod_lt _ hsz
        have hgq : xs[j / E.sz]? = some xs[j / E.sz] := List.getElem?_eq_getElem hq
        have hR1 : (E.cells xs)[j]? = (E.enc xs[j / E.sz])[j % E.sz]? := by
          have := E.cells_get xs (j / E.sz) _ (j % E.sz) _ hgq (List.getElem?_eq_getElem (by rw [E.len]; exact hml))
          rw [hdm] at this
          rw [this, List.getElem?_eq_getElem (by rw [E.len]; exact hml)]
        by_cases hqi : j / E.sz = i
        · have hgi : (xs.set i x2)[j / E.sz]? = some x2 := by rw [hqi, List.getElem?_set, if_pos rfl, if_pos hlt]
          have hR2 : (E.cells (xs.set i x2))[j]? = (E.enc x2)[j % E.sz]? := by
            have := E.cells_get (xs.set i x2) (j / E.sz) _ (j % E.sz) _ hgi (List.getElem?_eq_getElem (by rw [E.len]; exact hml))
            rw [hdm] at this
            rw [this, List.getElem?_eq_getElem (by rw [E.len]; exact hml)]
          rw [hR2, he, List.getElem?_set, hR1]
          have hx1 : xs[j / E.sz] = x1 := by
            have := hi
            rw [← hqi, hgq] at this
            exact Option.some.inj this
          rw [hx1, E.len]
          subst hqi
          by_cases ho2 : o = j % E.sz
          · rw [if_pos (by omega), if_pos ho2, if_pos (by omega), if_pos ho]
          · rw [if_neg (by omega), if_neg ho2]
        · have hgi : (xs.set i x2)[j / E.sz]? = some xs[j / E.sz] := by rw [List.getElem?_set, if_neg (Ne.symm hqi), hgq]
          have hR2 : (E.cells (xs.set i x2))[j]? = (E.enc xs[j / E.sz])[j % E.sz]? := by
            have := E.cells_get (xs.set i x2) (j / E.sz) _ (j % E.sz) _ hgi (List.getElem?_eq_getElem (by rw [E.len]; exact hml))
            rw [hdm] at this
            rw [this, List.getElem?_eq_getElem (by rw [E.len]; exact hml)]
          rw [hR2, hR1, if_neg]
          intro hj2
          apply hqi
          rw [← hj2]
          rw [Nat.add_comm, Nat.mul_comm, Nat.add_mul_div_left _ _ hsz, Nat.div_eq_of_lt ho, Nat.zero_add]
      · rw [if_neg (by omega), List.getElem?_eq_none (by rw [hlen]; omega), List.getElem?_eq_none (by rw [E.cells_length, List.length_set]; omega)]
    have hR' : Row E e (.slice (some ⟨g, 0, none⟩) n c) (xs.set i x2) (w.setCell ⟨g, i * E.sz + o, none⟩ v) := by
      refine ⟨E.cells_length _, .inr ⟨g, c, cur.setIfInBounds (i * E.sz + o) v, by rw [List.length_set, h2], hbg, heap_setCell_same w g _ cur e v hg, by rw [List.length_set]; exact hnc, hcm, by simpa using hcs, ?_⟩⟩
      rw [Array.toList_setIfInBounds, List.length_set, ← hset, ← htake, List.take_set]
    refine ⟨w.setCell ⟨g, i * E.sz + o, none⟩ v, fun a ha => ?_, h.upd ((KB.setCell w _ v).mono fun k hk => by simp [rowE, Value.keys, Value.ownBlock, hk]) (Row.ok hR') (keys_nodup (.slice (some ⟨g, 0, none⟩) n c)) (fun k hk => .inl hk), (KB.setCell w _ v).mono fun k hk => by simp [Value.keys, Value.ownBlock, hk]⟩
    simp [execOp, ev_eval ha hx, ev_eval ha hy, Instr.storeAt, Instr.sureAddr, run_store1 hg hcur hz hv]

theorem XSE.blk {T : TypeId} {x y : Operand} {b o : Nat} {v : Value} {cs : Array Value} {B : TypeId} (cs' : Array Value) (h : SH w0 S w (blkE b B cs :: L)) (ho : o < cs.size) (hz : (P.info? T).map (·.size) = some 1) (hv : v.oneCell' = true)
    (hx : ev f x = some (.pointer (some ⟨b, o, none⟩))) (hy : ev f y = some v) (hc : cs.setIfInBounds o v = cs') :
    XSE P ⟨d, .store T x y, ty, ps, af, gd⟩ f w (fun w' => SH w0 S w' (blkE b B cs' :: L) ∧ KB (· = b) w w') :=
  have h1 := XS.blk (d := d) (ty := ty) (ps := ps) (af := af) (gd := gd) h ho hz hv hx hy
  ⟨_, h1.1, hc ▸ h1.2, (KB.setCell w ⟨b, o, none⟩ v).mono fun _ h => h⟩
theorem XSE.row1 {α : Type} {E : El α} {T e : TypeId} {x y : Operand} {A : Addr} {v0 : Value} {n c o : Nat} {i : Int} {v : Value} {xs : List α} {k : α} (x2 : α) (h : SH w0 S w (rowE E e v0 xs :: L)) (hv0 : v0 = .slice (some A) n c) (h0 : 0 ≤ i) (h1 : i < xs.length) (ho : o < E.sz)
    (hz : (P.info? T).map (·.size) = some 1) (hv : v.oneCell' = true) (hx : ev f x = some (.pointer (some ((A.add (i.toNat * E.sz)).add o)))) (hy : ev f y = some v) (he : E.enc x2 = (E.enc (xs.getD i.toNat k)).set o v) :
    XSE P ⟨d, .store T x y, ty, ps, af, gd⟩ f w (fun w' => SH w0 S w' (rowE E e v0 (xs.set i.toNat x2) :: L) ∧ KB (· ∈ Value.keys v0) w w') := by
  subst hv0
  have hi : xs[i.toNat]? = some (xs.getD i.toNat k) := by
    have : i.toNat < xs.length := by omega
    simp [List.getD, this]
  obtain ⟨w', h2, h3, h4⟩ := XS.row1 (d := d) (ty := ty) (ps := ps) (af := af) (gd := gd) h hi ho hz hv hx hy he
  exact ⟨w', h2, h3, h4⟩

/-! #### make -/
theorem XV.make {α : Type} {E : El α} {t e : TypeId} {z : Value} {bytes n : Nat} {k1 k2 : IntKind} {x y : Operand} {z1 : α} (h : SH w0 S w L) (ht : P.underlying t = some (.slice e)) (hi : TI P e z 1 bytes) (hzz : z.cells = #[z]) (hz : E.enc z1 = [z])
    (hx : ev f x = some (.int k1 n)) (hy : ev f y = some (.int k2 n)) (hb : n * bytes ≤ 281474976710656) (hb2 : n ≤ 140737488355328) :
    XV P ⟨d, .makeSlice t x y, ty, ps, af, gd⟩ f w (.slice (some ⟨w.heap.size, 0, none⟩) n n) (w.alloc (.cells (List.replicate n z).toArray e)) ∧
      SH w0 S (w.alloc (.cells (List.replicate n z).toArray e)) (rowE E e (.slice (some ⟨w.heap.size, 0, none⟩) n n) (List.replicate n z1) :: L) := by
  obtain ⟨i, hj, hz0, hs, hby⟩ := hi.get
  subst hby
  have hbb : (i.bytes : Int) * (n : Int) ≤ 281474976710656 := by
    have h : ((n * i.bytes : Nat) : Int) ≤ 281474976710656 := by omega
    rw [Int.natCast_mul] at h
    rw [Int.mul_comm]; exact h
  have hr := run_make (P := P) w t e i z ht hj hz0 k1 k2 n n (by omega) (Int.le_refl _) hbb (by omega)
  have hm : madeCells z.cells (n * i.size) = (List.replicate n z).toArray := by
    apply Array.ext'
    rw [hzz, hs, Nat.mul_one, toList_madeCells_one]
  simp only [Int.toNat_natCast, hm] at hr
  refine ⟨fun a ha => ?_, h.more (KB.alloc w _) (Row.ok (Row.new _ n _ (by simp) (by unfold maxLen; omega) ?_)) (keys_nodup (.slice (some ⟨w.heap.size, 0, none⟩) n n)) (fun k hk => by simp [rowE, Value.keys, Value.ownBlock] at hk; omega)⟩
  · simp [execOp, ev_eval ha hx, ev_eval ha hy, hr]
  · rw [E.cells_replicate n z1 z hz]

theorem XE.make {α : Type} {E : El α} {t e : TypeId} {z : Value} {bytes n : Nat} {k1 k2 : IntKind} {x y : Operand} {N M : Int} (z1 : α) (h : SH w0 S w L) (ht : P.underlying t = some (.slice e)) (hi : TI P e z 1 bytes) (hzz : z.cells = #[z]) (hz : E.enc z1 = [z])
    (hx : ev f x = some (.int k1 N)) (hy : ev f y = some (.int k2 M)) (hN : N = n) (hM : M = n) (hb : n * bytes ≤ 281474976710656) (hb2 : n ≤ 140737488355328) :
    XE P ⟨d, .makeSlice t x y, ty, ps, af, gd⟩ f w (fun v' w' => ∃ b, v' = .slice (some ⟨b, 0, none⟩) n n ∧ SH w0 S w' (rowE E e (.slice (some ⟨b, 0, none⟩) n n) (List.replicate n z1) :: L) ∧ KB No w w') := by
  subst hN
  subst hM
  have h1 := XV.make (d := d) (ty := ty) (ps := ps) (af := af) (gd := gd) h ht hi hzz hz hx hy hb hb2
  exact ⟨_, _, h1.1, _, rfl, h1.2, KB.alloc _ _⟩

/-! #### cuts -/
def evOpt (f : Env) : Option Operand → Option (Option Value)
  | none => some none
  | some x => (ev f x).map some
theorem evOpt_eval {a : Act} (ha : FG a f) {x : Option Operand} {v : Option Value} (h : evOpt f x = some v) : x.map a.eval = v := by
  cases x with
  | none => simpa [evOpt] using h
  | some x =>
    simp [evOpt] at h
    obtain ⟨u, hu, rfl⟩ := h
    simp [ev_eval ha hu]
/-- Where a cut begins, ends, and how much it may hold. -/
def cutOf (lo hi mx : Option Value) (n c : Nat) (l h m : Nat) : Prop :=
  (lo = none ∧ l = 0 ∨ ∃ k, lo = some (.int k l)) ∧ (hi = none ∧ h = n ∧ mx = none ∨ ∃ k, hi = some (.int k h)) ∧ (mx = none ∧ m = c ∨ ∃ k, mx = some (.int k m))
theorem LV.cut {t e : TypeId} {x : Operand} {lo hi mx : Option Operand} {vl vh vm : Option Value} {A : Option Addr} {n c l h m sz : Nat} (ht : P.underlying t = some (.slice e)) (hz : (P.info? e).map (·.size) = some sz) (hx : ev f x = some (.slice A n c))
    (h1 : evOpt f lo = some vl) (h2 : evOpt f hi = some vh) (h3 : evOpt f mx = some vm) (hc : cutOf vl vh vm n c l h m) (hlh : l ≤ h) (hhm : h ≤ m) (hmc : m ≤ c) :
    LV P ⟨d, .slice t x lo hi mx, ty, ps, af, gd⟩ f w (.slice (if m = l then A else A.map (·.add (l * sz))) (h - l) (m - l)) := fun a ha => by
  obtain ⟨inf, hi', hsz⟩ := Option.map_eq_some_iff.1 hz
  have e1 := evOpt_eval ha h1
  have e2 := evOpt_eval ha h2
  have e3 := evOpt_eval ha h3
  simp only [execOp, ev_eval ha hx, e1, e2, e3]
  have hl' : (0 : Int) ≤ (l : Int) ∧ (l : Int) ≤ (h : Int) := by omega
  have hh' : (0 : Int) ≤ (h : Int) ∧ (h : Int) ≤ (m : Int) := by omega
  have hm' : (0 : Int) ≤ (m : Int) ∧ (m : Int) ≤ (c : Int) := by omega
  obtain ⟨c1, c2, c3⟩ := hc
  rcases c1 with ⟨rfl, rfl⟩ | ⟨k1, rfl⟩ <;> rcases c2 with ⟨rfl, rfl, rfl⟩ | ⟨k2, rfl⟩ <;> rcases c3 with ⟨hv, rfl⟩ | ⟨k3, hv⟩ <;> (try subst hv) <;> (try cases hv) <;>
    simp [Instr.sliceAt, Instr.slice, run_underlying ht, Instr.sliceBounds, Instr.sliceBound, asIntOf, sizeOf, typeInfo, hi', hsz, hl', hh', hm', hhm, hmc, hlh]
theorem Rd.cut {α : Type} {E : El α} {A : Option Addr} {n c l h m : Nat} {xs : List α} (hr : Rd E (.slice A n c) xs w) (hlh : l ≤ h) (hh : h ≤ n) (hhm : h ≤ m) (hmc : m ≤ c) :
    Rd E (.slice (if m = l then A else A.map (·.add (l * E.sz))) (h - l) (m - l)) ((xs.take h).drop l) w := by
  obtain ⟨A', c', e, h1, h2, h3⟩ := hr
  injection e with e1 e2 e3
  subst e1; subst e3; subst e2
  have hlen : ((xs.take h).drop l).length = h - l := by simp; omega
  refine ⟨_, _, by rw [hlen], by rw [hlen]; omega, by omega, fun hp => ?_⟩
  rw [hlen] at hp
  obtain ⟨ad, rfl, hc⟩ := h3 (by omega)
  rw [if_neg (by omega)]
  refine ⟨_, rfl, fun j u hu => ?_⟩
  rw [addr_add']
  refine hc _ u ?_
  rw [E.cells_drop, E.cells_take, List.getElem?_drop, List.getElem?_take] at hu
  split at hu
  · exact hu
  · cases hu

/-! #### calls -/
def evAll (f : Env) : List Operand → Option (List Value)
  | [] => some []
  | x :: l => match ev f x, evAll f l with | some v, some vs => some (v :: vs) | _, _ => none
theorem evAll_eval {a : Act} (ha : FG a f) : ∀ (l : List Operand) (vs : List Value), evAll f l = some vs → l.map a.eval = vs
  | [], vs, h => by simp [evAll] at h; subst h; rfl
  | x :: l, vs, h => by
    unfold evAll at h
    cases hx : ev f x with
    | none => rw [hx] at h; simp at h
    | some v =>
      cases hl : evAll f l with
      | none => rw [hx, hl] at h; simp at h
      | some us =>
        rw [hx, hl] at h
        simp at h
        subst h
        simp [ev_eval ha hx, evAll_eval ha l us hl]
theorem XC.fn {g : FuncId} {fn : Func} {args : Array Operand} {ats : Array TypeId} {vs : List Value} {x : Operand} {caps first : Array Value} (hf : P.funcs[g]? = some fn) (hn : (fn.name == "runtime.NumGoroutine") = false) (hb : fn.body.isNone = false)
    (hx : ev f x = some (.func (.func g) first caps)) (hv : evAll f args.toList = some vs) :
    XC P ⟨d, .call { callee := .value x, args, argTypes := ats }, ty, ps, af, gd⟩ f w g (first ++ vs.toArray ++ caps) := fun a ha => by
  have h1 : args.map a.eval = vs.toArray := by apply Array.ext'; rw [Array.toList_map]; exact evAll_eval ha _ _ hv
  have hn' : ¬ fn.name = "runtime.NumGoroutine" := by simpa using hn
  have hb' : ¬ fn.body = none := by intro h; rw [h] at hb; simp at hb
  simp [execOp, resolve, Deferred.ofValue, ev_eval ha hx, h1, invoke, callFunc, hf, hn', hb']

/-! #### results -/
theorem res0 {fn : Func} {a : Act} (h : fn.results = #[]) : (results fn a.tmps).run P w = .ok (.tuple #[]) w := by simp [results, h]
theorem res1 {fn : Func} {t : Tmp} {v : Value} {a : Act} (h : fn.results = #[.tmp t]) (ha : FG a f) (hv : f t = some v) : (results fn a.tmps).run P w = .ok v w := by
  have := ha t v hv
  simp [results, h, this]
theorem res2 {fn : Func} {t u : Tmp} {v x : Value} {a : Act} (h : fn.results = #[.tmp t, .tmp u]) (ha : FG a f) (hv : f t = some v) (hx : f u = some x) : (results fn a.tmps).run P w = .ok (.tuple #[v, x]) w := by
  have h1 := ha t v hv
  have h2 := ha u x hx
  simp [results, h, h1, h2]
theorem res3 {fn : Func} {t u s : Tmp} {v x y : Value} {a : Act} (h : fn.results = #[.tmp t, .tmp u, .tmp s]) (ha : FG a f) (hv : f t = some v) (hx : f u = some x) (hy : f s = some y) : (results fn a.tmps).run P w = .ok (.tuple #[v, x, y]) w := by
  have h1 := ha t v hv
  have h2 := ha u x hx
  have h3 := ha s y hy
  simp [results, h, h1, h2, h3]
end
end Go.Gw
namespace Go.Gw
open Go Go.RowKit
section
variable {w0 w w' : World} {S S' : Nat → Prop} {L Es Es' : List Ent} {e : Ent}
/-- A call's own account of memory joins the caller's. -/
theorem SH.join (h : SH w0 S w (Es ++ L)) (k : SH w S' w' Es') (hs : ∀ k, S' k → k ∈ keys Es) : SH w0 S w' (Es' ++ L) :=
  h.step (k.kb.mono hs) k.ok k.nd fun i hi => by
    by_cases hlt : i < w.heap.size
    · exact .inl (hs i (k.new i hi hlt))
    · exact .inr (by omega)
theorem SH.joinN (h : SH w0 S w L) (k : SH w No w' Es') : SH w0 S w' (Es' ++ L) := SH.join (Es := []) h k fun _ h => h.elim
theorem SH.init (h : e.Ok w) (hn : e.ks.Nodup) (hs : ∀ k ∈ e.ks, S k) : SH w S w [e] :=
  ⟨KB.refl _ _, by simpa using h, by simpa [keys] using hn, fun k hk _ => hs k (by simpa [keys] using hk)⟩
theorem SH.wk (h : SH w0 S w L) (hs : ∀ k, k < w0.heap.size → S k → S' k) : SH w0 S' w L :=
  ⟨⟨h.kb.os, h.kb.tape, h.kb.output, h.kb.dr, h.kb.size, fun k hk hn => h.kb.blk k hk fun h' => hn (hs k hk h')⟩, h.ok, h.nd, fun k hk hl => hs k hl (h.new k hk hl)⟩
end
theorem SH.take {w0 w : World} {S : Nat → Prop} {L A : List Ent} (k : Nat) (hk : L.take k = A) (h : SH w0 S w L) : SH w0 S w A := by
  subst hk
  refine ⟨h.kb, fun e he => h.ok e (List.mem_of_mem_take he), ?_, fun i hi => h.new i ?_⟩
  · have := h.nd
    rw [← List.take_append_drop k L, keys_append] at this
    exact (List.nodup_append.1 this).1
  · rw [← List.take_append_drop k L, keys_append]
    exact List.mem_append_left _ hi
theorem Rd.cap {α : Type} {E : El α} {A : Option Addr} {n c : Nat} {xs : List α} {w : World} (h : Rd E (.slice A n c) xs w) : n ≤ c := by
  obtain ⟨A', c', e, h1, _, _⟩ := h
  injection e with _ e2 e3
  omega
theorem Rd.nil {α : Type} {E : El α} {w : World} : Rd E (.slice none 0 0) ([] : List α) w := ⟨none, 0, rfl, by simp, by simp [maxLen], fun h => absurd h (by simp)⟩
theorem wr64 {x : Int} (h1 : -9223372036854775808 ≤ x) (h2 : x ≤ 9223372036854775807) : IntKind.i64.wrap x = x := by
  rw [IntKind.wrap_i64]; omega
theorem quo64 {a b c : Int} (h0 : 0 ≤ a) (h1 : a ≤ 9223372036854775807) (hb : 0 < b) (hc : a / b = c) : IntKind.i64.wrap (a.tdiv b) = c := by
  rw [Int.tdiv_eq_ediv_of_nonneg h0, hc]
  have h2 : 0 ≤ a / b := Int.ediv_nonneg h0 (by omega)
  have h3 : a / b ≤ a := Int.ediv_le_self b h0
  exact wr64 (by omega) (by omega)
theorem rem64 {a b c : Int} (h0 : 0 ≤ a) (hc : a % b = c) : a.tmod b = c := by
  rw [Int.tmod_eq_emod_of_nonneg h0, hc]
theorem wr64e {x y : Int} (h1 : -9223372036854775808 ≤ x) (h2 : x ≤ 9223372036854775807) (h : x = y) : IntKind.i64.wrap x = y := by
  rw [wr64 h1 h2, h]
end Go.Gw

namespace Go.Gw
open Go Go.RowKit

section
variable {w0 w w' : World} {S S' : Nat → Prop} {L L' Es Es' A B : List Ent} {e : Ent}
theorem keys_perm (h : L.Perm L') : (keys L).Perm (keys L') := h.flatMap_right _
theorem SH.perm (h : SH w0 S w L) (hp : L.Perm L') : SH w0 S w L' :=
  ⟨h.kb, fun e he => h.ok e (hp.mem_iff.2 he), (keys_perm hp).nodup_iff.1 h.nd, fun k hk => h.new k ((keys_perm hp).mem_iff.2 hk)⟩
/-- What a call gets: its own entries, whose blocks it may change. -/
theorem SH.sub (h : SH w0 S w (Es ++ L)) : SH w (· ∈ keys Es) w Es :=
  ⟨KB.refl _ _, fun e he => h.ok e (List.mem_append_left _ he), (by have := h.nd; rw [keys_append] at this; exact (List.nodup_append.1 this).1), fun _ hk _ => hk⟩
theorem SH.back (h : SH w0 S w (Es ++ L)) (k : SH w (· ∈ keys Es) w' Es') : SH w0 S w' (Es' ++ L) := h.join k fun _ h => h
theorem SH.stA {p : World → Prop} (h : SH w0 S w (Es ++ L)) (hp : St S w0 p) : St (· ∈ keys Es) w p := h.st hp fun k hk => by rw [keys_append]; exact List.mem_append_left _ hk
theorem SH.stE (h : SH w0 S w (Es ++ L)) (he : e ∈ L) : St (· ∈ keys Es) w e.p := fun w' hk => ((h.ok e (List.mem_append_right _ he)).kept hk fun k hk' hm => by
  have := h.nd
  rw [keys_append, List.nodup_append] at this
  exact this.2.2 k hm k (mem_keys he hk') rfl).now
end

/-! ### Rows of rows -/
def rrE {α : Type} (E : El α) (T2 T1 : TypeId) (v : Value) (rows : List (SV × List α)) : Ent :=
  ⟨Value.keys v ++ rows.flatMap (fun p => Value.keys p.1.v), fun w => Row eV T2 v (rows.map (·.1)) w ∧ ∀ p ∈ rows, Row E T1 p.1.v p.2 w⟩
def inE {α : Type} (E : El α) (T1 : TypeId) (p : SV × List α) : Ent := rowE E T1 p.1.v p.2
section
variable {α : Type} {E : El α} {T2 T1 : TypeId} {v : Value} {rows : List (SV × List α)} {w0 w w' : World} {S : Nat → Prop} {L : List Ent}
theorem keys_in (rows : List (SV × List α)) : keys (rows.map (inE E T1)) = rows.flatMap (fun p => Value.keys p.1.v) := by
  induction rows with
  | nil => rfl
  | cons p rows ih => rw [List.map_cons, keys_cons, ih]; simp [inE, rowE]
theorem SH.unrr (h : SH w0 S w (rrE E T2 T1 v rows :: L)) : SH w0 S w (rowE eV T2 v (rows.map (·.1)) :: (rows.map (inE E T1) ++ L)) := by
  have hk : keys (rowE eV T2 v (rows.map (·.1)) :: (rows.map (inE E T1) ++ L)) = keys (rrE E T2 T1 v rows :: L) := by
    rw [keys_cons, keys_append, keys_in, keys_cons]
    simp [rowE, rrE]
  have hp : Row eV T2 v (rows.map (·.1)) w ∧ ∀ p ∈ rows, Row E T1 p.1.v p.2 w := h.hd
  refine ⟨h.kb, fun e he => ?_, hk ▸ h.nd, fun k hk' => h.new k (hk ▸ hk')⟩
  simp only [List.mem_cons, List.mem_append, List.mem_map] at he
  rcases he with rfl | ⟨p, hpm, rfl⟩ | he
  · exact Row.ok hp.1
  · exact Row.ok (hp.2 p hpm)
  · exact h.ok e (List.mem_cons_of_mem _ he)
theorem rr_ok (h1 : Row eV T2 v (rows.map (·.1)) w) (h2 : ∀ p ∈ rows, Row E T1 p.1.v p.2 w) : (rrE E T2 T1 v rows).Ok w := by
  refine ⟨⟨h1, h2⟩, fun k hk => ?_, fun w' hk hs => ⟨?_, fun p hp => ?_⟩⟩
  · simp only [rrE, List.mem_append, List.mem_flatMap] at hk
    rcases hk with hk | ⟨p, hp, hk⟩
    · exact Row.lt h1 k hk
    · exact Row.lt (h2 p hp) k hk
  · exact (Row.ok h1).loc w' (fun k hk' => hk k (by simp only [rrE, List.mem_append]; exact .inl hk')) hs
  · exact (Row.ok (h2 p hp)).loc w' (fun k hk' => hk k (by simp only [rrE, List.mem_append, List.mem_flatMap]; exact .inr ⟨p, hp, hk'⟩)) hs
theorem SH.rr (h : SH w0 S w (rowE eV T2 v (rows.map (·.1)) :: (rows.map (inE E T1) ++ L))) : SH w0 S w (rrE E T2 T1 v rows :: L) := by
  have hk : keys (rowE eV T2 v (rows.map (·.1)) :: (rows.map (inE E T1) ++ L)) = keys (rrE E T2 T1 v rows :: L) := by
    rw [keys_cons, keys_append, keys_in, keys_cons]
    simp [rowE, rrE]
  refine ⟨h.kb, fun e he => ?_, hk ▸ h.nd, fun k hk' => h.new k (hk ▸ hk')⟩
  simp only [List.mem_cons] at he
  rcases he with rfl | he
  · exact rr_ok h.hd fun p hp => (h.ok (inE E T1 p) (List.mem_cons_of_mem _ (List.mem_append_left _ (List.mem_map_of_mem hp)))).now
  · exact h.ok e (List.mem_cons_of_mem _ (List.mem_append_right _ he))
/-- One row more. -/
theorem SH.rrMore {v' : Value} {sv : SV} {xs : List α} {vx : Value} (hv : sv.v = vx) (h : SH w0 S w (rowE eV T2 v' (rows.map (·.1) ++ [sv]) :: (rows.map (inE E T1) ++ rowE E T1 vx xs :: L))) : SH w0 S w (rrE E T2 T1 v' (rows ++ [(sv, xs)]) :: L) := by
  subst hv
  refine SH.rr ?_
  simp only [List.map_append, List.map_cons, List.map_nil, List.append_assoc, List.cons_append, List.nil_append]
  exact h
theorem SH.rr0 (h : SH w0 S w (rowE eV T2 v [] :: L)) : SH w0 S w (rrE E T2 T1 v ([] : List (SV × List α)) :: L) := SH.rr (rows := []) h

/-! #### rows of rows that are read -/
def RdRR {α : Type} (E : El α) (v : Value) (rows : List (SV × List α)) (w : World) : Prop := Rd eV v (rows.map (·.1)) w ∧ ∀ p ∈ rows, Rd E p.1.v p.2 w
theorem rr_rd (h : Row eV T2 v (rows.map (·.1)) w ∧ ∀ p ∈ rows, Row E T1 p.1.v p.2 w) : RdRR E v rows w := ⟨Row.rd h.1, fun p hp => Row.rd (h.2 p hp)⟩
theorem SH.rdRR (h : SH w0 S w L) (he : rrE E T2 T1 v rows ∈ L) : St No w (RdRR E v rows) := (h.steN he).imp fun _ h => rr_rd h
theorem RdRR.stN (h : RdRR E v rows w) : St No w (RdRR E v rows) := fun w' hk => ⟨Rd.stN h.1 w' hk, fun p hp => Rd.stN (h.2 p hp) w' hk⟩
theorem getD_mem {β : Type} {l : List β} {i : Nat} {d : β} (h : i < l.length) : l.getD i d ∈ l := by
  simp only [List.getD, h, List.getElem?_eq_getElem, Option.getD_some]
  exact List.getElem_mem h
theorem St.eltRR (h : St S w (RdRR E v rows)) (d : SV × List α) (i : Int) (h0 : 0 ≤ i) (h1 : i < rows.length) :
    ∃ A c A1 c1, v = .slice (some A) rows.length c ∧ (∀ w', KB No w w' → w'.cell? (A.add (i.toNat * 1)) = some (.slice A1 (rows.getD i.toNat d).2.length c1)) ∧
      (rows.getD i.toNat d).1.v = .slice A1 (rows.getD i.toNat d).2.length c1 ∧ St S w (Rd E (.slice A1 (rows.getD i.toNat d).2.length c1) (rows.getD i.toNat d).2) := by
  have hlt : i.toNat < rows.length := by omega
  have hm := getD_mem (d := d) hlt
  obtain ⟨A, c, e, g⟩ := St.elt ((h.mono fun _ h => h.elim).imp fun _ h => h.1) d.1 i h0 (by simpa using h1)
  obtain ⟨A1, c1, e1⟩ := (h.now.2 _ hm).len
  have hd : (rows.map (·.1)).getD i.toNat d.1 = (rows.getD i.toNat d).1 := by simp [List.getD, hlt]
  refine ⟨A, c, A1, c1, by rw [e, List.length_map], fun w' hk => ?_, e1, h.imp fun w' hw => by rw [← e1]; exact hw.2 _ hm⟩
  have := g w' hk 0 _ (by rw [hd]; rfl)
  rw [← e1]
  exact this
end

section
variable {P : Program} {f : Env} {w : World} {d : Option Tmp} {ty : TypeId} {ps : String} {af : Array Edge} {gd : Option (Nat × Bool)} {w0 : World} {S : Nat → Prop} {L : List Ent}
/-- 'append(rows, row)', the row one's own: it goes into the rows. -/
theorem XE.appendRR {α : Type} {E : El α} {t e T1 : TypeId} {bytes : Nat} {v vb vx : Value} {rows : List (SV × List α)} {sv : SV} {xs : List α} {x y : Operand}
    (h : SH w0 S w (rrE E e T1 v rows :: rowE E T1 vx xs :: L)) (hv : sv.v = vx) (ht : P.underlying t = some (.slice e)) (hi : TI P e (.slice none 0 0) 1 bytes) (hy : Rd eV vb [sv] w) (hx1 : ev f x = some v) (hx2 : ev f y = some vb)
    (hb : (rows.length + 1) * bytes ≤ 140737488355328) (hb2 : rows.length + 1 ≤ 140737488355328) :
    XE P ⟨d, .call { callee := .builtin .append, args := #[x, y], argTypes := #[t, t] }, ty, ps, af, gd⟩ f w (fun v' w' =>
      ∃ A c, v' = .slice A (rows ++ [(sv, xs)]).length c ∧ SH w0 S w' (rrE E e T1 (.slice A (rows ++ [(sv, xs)]).length c) (rows ++ [(sv, xs)]) :: L) ∧ KB (· ∈ Value.keys v) w w') := by
  obtain ⟨v', w', h1, A, c, e1, h2, h3⟩ := XE.append (d := d) (ty := ty) (ps := ps) (af := af) (gd := gd) (h.unrr) ht hi rfl hy hx1 hx2 (by simpa using hb) (by simpa using hb2)
  refine ⟨v', w', h1, A, c, by rw [e1]; simp, ?_, h3⟩
  have hl : (rows.map (·.1) ++ [sv]).length = (rows ++ [(sv, xs)]).length := by simp
  rw [hl] at h2
  exact SH.rrMore hv h2

/-- 'copy' of one whole row into another one of the same length. -/
theorem XE.copy {α : Type} {E : El α} {t t2 e : TypeId} {v v2 : Value} {xs ys : List α} {x y : Operand} (h : SH w0 S w (rowE E e v xs :: L)) (ht : P.underlying t = some (.slice e)) (hz : (P.info? e).map (·.size) = some 1) (hE : E.sz = 1)
    (hy : Rd E v2 ys w) (hl : xs.length = ys.length) (hx1 : ev f x = some v) (hx2 : ev f y = some v2) :
    XE P ⟨d, .call { callee := .builtin .copy, args := #[x, y], argTypes := #[t, t2] }, ty, ps, af, gd⟩ f w (fun v' w' => v' = .int .i64 ys.length ∧ SH w0 S w' (rowE E e v ys :: L) ∧ KB (· ∈ Value.keys v) w w') := by
  have hR : Row E e v xs w := h.hd
  obtain ⟨A2, c2, rfl, _, _, hc2⟩ := hy
  by_cases h0 : ys.length = 0
  · have hy0 : ys = [] := List.eq_nil_of_length_eq_zero h0
    have hx0 : xs = [] := List.eq_nil_of_length_eq_zero (by omega)
    subst hy0
    subst hx0
    obtain ⟨A, c, e1⟩ := (Row.rd hR).len
    refine ⟨.int .i64 0, w, fun a ha => ?_, rfl, h, KB.refl _ _⟩
    have hr := run_copy_none (P := P) w t t2 ty e A A2 0 c 0 c2 ht hz (by simp)
    simp only [List.length_nil] at e1
    simp [execOp, resolve, invoke, builtin, ev_eval ha hx1, ev_eval ha hx2, e1, hr, goInt]
  · obtain ⟨ad, rfl, hnews⟩ := hc2 (by omega)
    rcases hR.2 with ⟨h1, h2⟩ | ⟨g, cap, cur, h1, hbg, hg, hnc, hcm, hcs, htake⟩
    · omega
    · subst h1
      have hcl : (E.cells ys).length = ys.length := by rw [E.cells_length, hE, Nat.mul_one]
      have hsz : cur.size = cap := by rw [hcs, hE, Nat.mul_one]
      have hr := run_copy_row (P := P) w t t2 ty e g 0 xs.length cap ad ys.length c2 cur e (E.cells ys) ht hz hg (by rw [hcl, hl]; simp) hnews (by rw [hcl, hsz]; omega) (E.cells_one ys)
      refine ⟨goInt ((E.cells ys).length : Nat), w.setRow g (cur.toList.take 0 ++ E.cells ys ++ cur.toList.drop (0 + (E.cells ys).length)).toArray, fun a ha => ?_, ?_, ?_, ?_⟩
      · simp only [execOp, resolve, invoke, builtin, Sem.run_bind, Sem.run_pure, Result.andThen_ok, List.map_toArray, List.map_cons, List.map_nil, ev_eval ha hx1, ev_eval ha hx2, hr]
      · show goInt _ = _
        rw [hcl]; rfl
      · refine h.upd (e' := rowE E e (.slice (some ⟨g, 0, none⟩) xs.length cap) ys) ⟨rfl, rfl, rfl, fun _ => Nat.le_refl _, by simp, fun k _ hk => setRow_other w g k _ (fun e => hk (by simp [rowE, Value.keys, Value.ownBlock, e]))⟩ (Row.ok ?_) (keys_nodup (.slice (some ⟨g, 0, none⟩) xs.length cap)) (fun k hk => .inl hk)
        refine ⟨E.cells_length _, .inr ⟨g, cap, _, by rw [hl], hbg, setRow_heap w g cur _ e _ hg, by omega, hcm, ?_, ?_⟩⟩
        · simp only [List.take_zero, List.nil_append, List.size_toArray, List.length_append, List.length_drop, Array.length_toList, hcl, hE, Nat.mul_one]
          omega
        · simp only [List.take_zero, List.nil_append, hE, Nat.mul_one]
          rw [List.take_append_of_le_length (by omega), List.take_of_length_le (by omega)]
      · exact ⟨rfl, rfl, rfl, fun _ => Nat.le_refl _, by simp, fun k _ hk => setRow_other w g k _ (fun e => hk (by simp [Value.keys, Value.ownBlock, e]))⟩
end
end Go.Gw
namespace Go.Gw
open Go Go.RowKit
theorem St.inner {α : Type} {E : El α} {v v' : Value} {rows : List (SV × List α)} {p : SV × List α} {S : Nat → Prop} {w : World} (h : St S w (RdRR E v rows)) (hm : p ∈ rows) (e : p.1.v = v') : St S w (Rd E v' p.2) := h.imp fun _ hw => e ▸ hw.2 p hm
theorem wrid8 {x : Int} (h1 : 0 ≤ x) (h2 : x ≤ 255) : IntKind.u8.wrap x = x := by simp [IntKind.wrap, IntKind.bits, IntKind.signed]; omega
end Go.Gw

