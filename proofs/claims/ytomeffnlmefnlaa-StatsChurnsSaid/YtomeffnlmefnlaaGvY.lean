/- Elements of several cells: made, and stored as a whole. -/
import Derived.Test.YtomeffnlmefnlaaGvQ
import Derived.Deep.MidRow
namespace Go.Gv
open Go Go.RowKit
theorem set_parts {β : Type} {l : List β} {o : Nat} {v : β} {r : List β} (h : o < l.length) : (l.set o v).take (o + 1) ++ r ++ (l.set o v).drop (o + 1 + r.length) = l.take o ++ (v :: r) ++ l.drop (o + (r.length + 1)) := by
  have e1 : (l.set o v).take (o + 1) = l.take o ++ [v] := by
    rw [List.set_eq_take_append_cons_drop, if_pos h, List.take_append, List.take_of_length_le (by rw [List.length_take]; omega), List.length_take, show o + 1 - min o l.length = 1 by omega]; rfl
  have e2 : (l.set o v).drop (o + 1 + r.length) = l.drop (o + (r.length + 1)) := by
    rw [List.drop_set_of_lt (by omega)]; congr 1; omega
  rw [e1, e2]; simp
theorem take_mid {β : Type} {l r : List β} {o N : Nat} (h1 : o + r.length ≤ N) (h2 : N ≤ l.length) : (l.take o ++ r ++ l.drop (o + r.length)).take N = (l.take N).take o ++ r ++ (l.take N).drop (o + r.length) := by
  rw [List.take_append, List.take_of_length_le (l := l.take o ++ r) (by simp; omega), List.take_take, Nat.min_eq_left (by omega), List.drop_take]
  congr 2
  simp; omega
theorem setCells_heap (b : Nat) (T : TypeId) : ∀ (l : List Value) (o : Nat) (w : World) (cur : Array Value), w.heap[b]? = some (.cells cur T (0, 0)) → o + l.length ≤ cur.size →
    (w.setCells b o l).heap[b]? = some (.cells (cur.toList.take o ++ l ++ cur.toList.drop (o + l.length)).toArray T (0, 0)) ∧ KB (· = b) w (w.setCells b o l)
  | [], o, w, cur, h, _ => by
    refine ⟨?_, KB.refl _ _⟩
    show w.heap[b]? = _
    rw [h]; simp
  | v :: l, o, w, cur, h, hl => by
    have h1 : (w.setCell ⟨b, o, none⟩ v).heap[b]? = some (.cells (cur.setIfInBounds o v) T (0, 0)) := heap_setCell_same w b _ cur T v h
    obtain ⟨h2, h3⟩ := setCells_heap b T l (o + 1) (w.setCell ⟨b, o, none⟩ v) (cur.setIfInBounds o v) h1 (by simp at hl ⊢; omega)
    refine ⟨?_, ((KB.setCell w ⟨b, o, none⟩ v).mono fun _ h => h).trans h3 fun _ _ h => h⟩
    show ((w.setCell ⟨b, o, none⟩ v).setCells b (o + 1) l).heap[b]? = _
    rw [h2, Array.toList_setIfInBounds, set_parts (by simp at hl ⊢; omega)]
    rfl
theorem El.cells_set {α : Type} (E : El α) {xs : List α} {i : Nat} (x : α) (h : i < xs.length) : E.cells (xs.set i x) = (E.cells xs).take (i * E.sz) ++ E.enc x ++ (E.cells xs).drop (i * E.sz + (E.enc x).length) := by
  rw [List.set_eq_take_append_cons_drop, if_pos h, E.cells_append, E.cells_cons, E.cells_take, E.cells_drop, E.len, Nat.succ_mul, List.append_assoc]
section
variable {P : Program} {f : Env} {w : World} {d : Option Tmp} {ty : TypeId} {ps : String} {af : Array Edge} {gd : Option (Nat × Bool)} {w0 : World} {S : Nat → Prop} {L : List Ent}
theorem El.cells_repl {α : Type} (E : El α) (n : Nat) (x : α) : E.cells (List.replicate n x) = (List.replicate n (E.enc x)).flatten := by
  induction n with
  | zero => rfl
  | succ n ih => rw [List.replicate_succ, El.cells_cons, ih, List.replicate_succ, List.flatten_cons]
theorem XSE.rowN {α : Type} {E : El α} {T e : TypeId} {x y : Operand} {A : Addr} {v0 : Value} {n c : Nat} {i : Int} {cs : Array Value} {xs : List α} (x2 : α) (h : SH w0 S w (rowE E e v0 xs :: L)) (hv0 : v0 = .slice (some A) n c) (h0 : 0 ≤ i) (h1 : i < xs.length)
    (hz : (P.info? T).map (·.size) = some cs.size) (hx : ev f x = some (.pointer (some (A.add (i.toNat * E.sz))))) (hy : ev f y = some (.agg cs)) (he : E.enc x2 = cs.toList) :
    XSE P ⟨d, .store T x y, ty, ps, af, gd⟩ f w (fun w' => SH w0 S w' (rowE E e v0 (xs.set i.toNat x2) :: L) ∧ KB (· ∈ Value.keys v0) w w') := by
  subst hv0
  have hlt : i.toNat < xs.length := by omega
  have hR : Row E e (.slice (some A) n c) xs w := h.hd
  rcases hR.2 with ⟨h2, h3⟩ | ⟨g, cap, cur, h2, hbg, hg, hnc, hcm, hcs, htake⟩
  · omega
  · injection h2 with e1 e2 e3
    injection e1 with e1
    subst e1; subst e3; subst e2
    have hel : cs.toList.length = E.sz := by rw [← he, E.len]
    have hcsz : cs.size = E.sz := by rw [← Array.length_toList, hel]
    have hle : i.toNat * E.sz + E.sz ≤ xs.length * E.sz := by rw [← Nat.succ_mul]; exact Nat.mul_le_mul_right _ hlt
    have hle2 : xs.length * E.sz ≤ cur.size := by rw [hcs]; exact Nat.mul_le_mul_right _ hnc
    have hth : w.there g (i.toNat * E.sz) cs.size := fun j hj => by
      have hc := cell_of_row w g (i.toNat * E.sz + j) cur e (0, 0) hg
      refine ⟨by rw [hc, Array.getElem?_eq_getElem (by omega)]; rfl, by simp [World.frozen?, hg]⟩
    have hone : cs.all (·.oneCell') = true := by
      rw [Array.all_eq_true_iff_forall_mem]
      intro v hv
      exact E.one x2 v (by rw [he]; simpa using hv)
    have hr := run_storeAt_mid (P := P) w g (i.toNat * E.sz) T cs hth hz hone
    obtain ⟨b1, b2⟩ := setCells_heap g e cs.toList (i.toNat * E.sz) w cur hg (by rw [hel]; omega)
    have hk : KB (· ∈ Value.keys (.slice (some ⟨g, 0, none⟩) xs.length c)) w (w.setCells g (i.toNat * E.sz) cs.toList) := b2.mono fun k hk => by simp [Value.keys, Value.ownBlock, hk]
    have hcl : cur.toList.length = cur.size := Array.length_toList
    have hR' : Row E e (.slice (some ⟨g, 0, none⟩) xs.length c) (xs.set i.toNat x2) (w.setCells g (i.toNat * E.sz) cs.toList) := by
      refine ⟨E.cells_length _, .inr ⟨g, c, _, by rw [List.length_set], hbg, b1, by rw [List.length_set]; exact hnc, hcm, ?_, ?_⟩⟩
      · simp only [List.size_toArray, List.length_append, List.length_take, List.length_drop, hcl, hel]; omega
      · simp only [List.length_set]
        rw [E.cells_set x2 hlt, he, ← htake]
        exact take_mid (by rw [hel]; exact hle) (by rw [hcl]; exact hle2)
    refine ⟨w.setCells g (i.toNat * E.sz) cs.toList, fun a ha => ?_, h.upd hk (Row.ok hR') (keys_nodup (.slice (some ⟨g, 0, none⟩) xs.length c)) (fun k hk => .inl hk), hk⟩
    have hx' : ev f x = some (.pointer (some ⟨g, i.toNat * E.sz, none⟩)) := by rw [hx, addr0]
    simp only [execOp, ev_eval ha hx', ev_eval ha hy, Sem.run_bind, hr, Result.andThen_ok, Sem.run_pure]
/-- 'make' of elements of whatever size. -/
theorem flat_made (z : Array Value) (n : Nat) (hz : 0 < z.size) : (madeCells z (n * z.size)).toList = (List.replicate n z.toList).flatten := by
  induction n with
  | zero => simp [madeCells]
  | succ n ih =>
    rw [List.replicate_succ', List.flatten_append, ← ih]
    apply List.ext_getElem
    · simp [madeCells, Nat.succ_mul]
    · intro i h1 h2
      simp only [madeCells, Array.length_toList, Array.size_map, Array.size_range] at h1
      rcases Nat.lt_or_ge i (n * z.size) with h | h
      · rw [List.getElem_append_left (by simpa [madeCells] using h)]
        simp [madeCells]
      · rw [List.getElem_append_right (by simpa [madeCells] using h)]
        have hlt : i - n * z.size < z.size := by rw [Nat.succ_mul] at h1; omega
        have hm : i % z.size = i - n * z.size := by
          have hc_ : z.size * n = n * z.size := Nat.mul_comm _ _
          have : i = (i - n * z.size) + z.size * n := by omega
          conv => lhs; rw [this]
          rw [Nat.add_mul_mod_self_left, Nat.mod_eq_of_lt hlt]
        simp only [madeCells, Array.getElem_toList, Array.getElem_map, Array.getElem_range, List.flatten_cons, List.flatten_nil, List.append_nil, Array.length_toList, Array.size_map, Array.size_range, hm]
        rw [getElem!_pos z _ hlt]
theorem XE.makeN {α : Type} {E : El α} {t e : TypeId} {z : Value} {bytes n : Nat} {k1 k2 : IntKind} {x y : Operand} {N M : Int} (z1 : α) (h : SH w0 S w L) (ht : P.underlying t = some (.slice e)) (hi : TI P e z E.sz bytes) (hz : E.enc z1 = z.cells.toList) (hp : 0 < E.sz)
    (hx : ev f x = some (.int k1 N)) (hy : ev f y = some (.int k2 M)) (hN : N = n) (hM : M = n) (hb : n * bytes ≤ 281474976710656) (hb2 : n ≤ 140737488355328) :
    XE P ⟨d, .makeSlice t x y, ty, ps, af, gd⟩ f w (fun v' w' => ∃ b, v' = .slice (some ⟨b, 0, none⟩) n n ∧ SH w0 S w' (rowE E e (.slice (some ⟨b, 0, none⟩) n n) (List.replicate n z1) :: L) ∧ KB No w w') := by
  subst hN
  subst hM
  obtain ⟨i, hj, hz0, hs, hby⟩ := hi.get
  subst hby
  have hbb : (i.bytes : Int) * (n : Int) ≤ 281474976710656 := by
    have h : ((n * i.bytes : Nat) : Int) ≤ 281474976710656 := by omega
    rw [Int.natCast_mul] at h
    rw [Int.mul_comm]; exact h
  have hr := run_make (P := P) w t e i z ht hj hz0 k1 k2 n n (by omega) (Int.le_refl _) hbb (by omega)
  have hzs : z.cells.size = E.sz := by rw [← Array.length_toList, ← hz, E.len]
  have hm : (madeCells z.cells (n * i.size)).toList = E.cells (List.replicate n z1) := by
    rw [hs, ← hzs, flat_made _ _ (by omega), E.cells_repl, hz]
  simp only [Int.toNat_natCast] at hr
  refine ⟨_, w.alloc (.cells (madeCells z.cells (n * i.size)) e), fun a ha => ?_, w.heap.size, rfl, h.more (KB.alloc w _) (Row.ok (Row.new _ n _ (by simp) (by unfold maxLen; omega) hm)) (keys_nodup (.slice (some ⟨w.heap.size, 0, none⟩) n n)) (fun k hk => by simp [rowE, Value.keys, Value.ownBlock] at hk; omega), KB.alloc w _⟩
  simp [execOp, ev_eval ha hx, ev_eval ha hy, hr]
end
end Go.Gv
