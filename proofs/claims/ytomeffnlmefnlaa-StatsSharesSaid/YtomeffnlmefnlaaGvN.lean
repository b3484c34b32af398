/- Arrays of bytes as rows, strings' bytes put behind a row, bytes of a string. -/
import Derived.Test.YtomeffnlmefnlaaGvT
import Derived.Lib.AppendStr
import Derived.Lib.ConvBytes
namespace Go.Gv
open Go Go.RowKit Go.Lib
section
variable {P : Program} {f : Env} {w : World} {d : Option Tmp} {ty : TypeId} {ps : String} {af : Array Edge} {gd : Option (Nat × Bool)} {w0 : World} {S : Nat → Prop} {L : List Ent}
/-- A block of like parts is a row. -/
theorem SH.arr {α : Type} {E : El α} {T : TypeId} {b n : Nat} {cs : Array Value} (xs : List α) (h : SH w0 S w (blkE b T cs :: L)) (hc : cs.toList = E.cells xs) (hn : xs.length = n) (hm : n ≤ maxLen) : SH w0 S w (rowE E T (.slice (some ⟨b, 0, none⟩) n n) xs :: L) := by
  subst hn
  have hz : cs.size = xs.length * E.sz := by rw [← Array.length_toList, hc, E.cells_length]
  refine h.upd (KB.refl _ _) (Row.ok ⟨E.cells_length xs, .inr ⟨b, xs.length, cs, rfl, by omega, h.hd, Nat.le_refl _, hm, hz, ?_⟩⟩) (keys_nodup (.slice (some ⟨b, 0, none⟩) xs.length xs.length)) (fun k hk => .inl (by simpa [blkE, rowE, Value.keys, Value.ownBlock] using hk))
  rw [hc, List.take_of_length_le (by rw [E.cells_length]; omega)]
theorem LV.cutArr {t e : TypeId} {x : Operand} {lo hi mx : Option Operand} {vl vh vm : Option Value} {A : Addr} {n l h m sz : Nat} (ht : P.underlying t = some (.array n e)) (hz : (P.info? e).map (·.size) = some sz) (hx : ev f x = some (.pointer (some A)))
    (h1 : evOpt f lo = some vl) (h2 : evOpt f hi = some vh) (h3 : evOpt f mx = some vm) (hc : cutOf vl vh vm n n l h m) (hlh : l ≤ h) (hhm : h ≤ m) (hmc : m ≤ n) :
    LV P ⟨d, .slice t x lo hi mx, ty, ps, af, gd⟩ f w (.slice (if m = l then (some A) else (some A).map (·.add (l * sz))) (h - l) (m - l)) := fun a ha => by
  obtain ⟨inf, hi', hsz⟩ := Option.map_eq_some_iff.1 hz
  have e1 := evOpt_eval ha h1
  have e2 := evOpt_eval ha h2
  have e3 := evOpt_eval ha h3
  simp only [execOp, ev_eval ha hx, e1, e2, e3]
  have hl' : (0 : Int) ≤ (l : Int) ∧ (l : Int) ≤ (h : Int) := by omega
  have hh' : (0 : Int) ≤ (h : Int) ∧ (h : Int) ≤ (m : Int) := by omega
  have hm' : (0 : Int) ≤ (m : Int) ∧ (m : Int) ≤ (n : Int) := by omega
  have hif : (if m = l then some A else some (A.add (l * sz))) = some (if m = l then A else A.add (l * sz)) := by split <;> rfl
  obtain ⟨c1, c2, c3⟩ := hc
  rcases c1 with ⟨rfl, rfl⟩ | ⟨k1, rfl⟩ <;> rcases c2 with ⟨rfl, rfl, rfl⟩ | ⟨k2, rfl⟩ <;> rcases c3 with ⟨hv, rfl⟩ | ⟨k3, hv⟩ <;> (try subst hv) <;> (try cases hv) <;>
    simp [Instr.sliceAt, Instr.sureAddr, run_underlying ht, Instr.sliceBounds, Instr.sliceBound, asIntOf, sizeOf, typeInfo, hi', hsz, hl', hh', hm', hhm, hmc, hlh] <;> split <;> rfl
/-- A string's bytes. -/
def bytesOf (s : ByteArray) : List Int := s.data.toList.map fun b => (b.toNat : Int)
theorem bytesOf_len (s : ByteArray) : (bytesOf s).length = s.size := by unfold bytesOf; rw [List.length_map, Array.length_toList]; rfl
theorem bytesOf_app (s t : ByteArray) : bytesOf (s ++ t) = bytesOf s ++ bytesOf t := by
  unfold bytesOf; simp
theorem strCells_eq (s : ByteArray) : strCells s = eU8.cells (bytesOf s) := by rw [cells_u8]; unfold strCells bytesOf; rw [List.map_map]; rfl
theorem str_bytes (s : ByteArray) : strOfNums (bytesOf s) = s := by
  unfold strOfNums bytesOf
  rw [List.map_map]
  have : ((fun n : Int => UInt8.ofNat n.toNat) ∘ fun b : UInt8 => (b.toNat : Int)) = id := by funext b; simp
  rw [this, List.map_id]
theorem append_str {t u e : TypeId} {v : Value} {xs : List Int} (s : ByteArray) (ty : TypeId) (ht : P.underlying t = some (.slice e)) (hu : P.underlying u = some .string) (hi : TI P e (.int .u8 0) 1 1)
    (hR : Row eU8 e v xs w) (h63 : xs.length + s.size ≤ maxLen) (hb : (xs.length + s.size) ≤ 140737488355328) :
    ∃ A c w', (Builtin.append_ #[t, u] ty #[v, .string s]).run P w = .ok (.slice A (xs ++ bytesOf s).length c) w' ∧ Row eU8 e (.slice A (xs ++ bytesOf s).length c) (xs ++ bytesOf s) w' ∧ KB (· ∈ Value.keys v) w w' ∧
      ∀ k ∈ Value.keys (.slice A (xs ++ bytesOf s).length c), k ∈ Value.keys v ∨ w.heap.size ≤ k := by
  obtain ⟨i, hj, hz0, hs, hby⟩ := hi.get
  have h63' : xs.length + s.size ≤ 9223372036854775807 := by simpa [maxLen] using h63
  have hel : (xs ++ bytesOf s).length = xs.length + s.size := by rw [List.length_append, bytesOf_len]
  have hcl : ∀ l : List Int, (eU8.cells l).length = l.length := fun l => by rw [eU8.cells_length]; show l.length * 1 = _; omega
  rw [hel]
  have hlen : (eU8.cells (xs ++ bytesOf s)).length = (xs ++ bytesOf s).length * 1 := by rw [hcl]; omega
  have hsl : (strCells s).length = s.size := strCells_length s
  have hca : eU8.cells (xs ++ bytesOf s) = eU8.cells xs ++ strCells s := by rw [eU8.cells_append, strCells_eq]
  rcases hR.2 with ⟨rfl, hn⟩ | ⟨g, cap, cur, rfl, hbg, hg, hnc, hcm, hcs, htake⟩
  · have hx : xs = [] := List.eq_nil_of_length_eq_zero hn
    subst hx
    by_cases hm : s.size = 0
    · have hb0 : bytesOf s = [] := List.eq_nil_of_length_eq_zero (by rw [bytesOf_len]; exact hm)
      refine ⟨none, 0, w, ?_, ?_, KB.refl _ _, fun k hk => .inl ?_⟩
      · have hf := run_firstCells_string (P := P) w 1 s
        rw [hm] at hf
        simp [Builtin.append_, run_underlying ht, run_underlying hu, sizeOf, typeInfo, hj, hs, Builtin.lenOf, hm, hf]
      · rw [hb0, hm]; exact hR
      · simp [Value.keys, Value.ownBlock] at hk
    · have hr := run_append_nil_string (P := P) w t u ty e i (.int .u8 0) ht hu hj hz0 s (by omega) (by simp only [List.length_nil] at h63'; omega) (by rw [hby]; simp only [List.length_nil] at hb; omega)
      have e1 : (s.data.map fun b => Value.int .u8 b.toNat) = (strCells s).toArray := by apply Array.ext'; simp [strCells]
      rw [e1] at hr
      have hge := grownCap_ge w s.size 0 e
      have hz0 : ([] : List Int).length + s.size = s.size := by simp
      rw [hz0]
      refine ⟨some ⟨w.heap.size, 0, none⟩, grownCap w s.size 0 e, _, hr, ⟨hlen, .inr ⟨w.heap.size, grownCap w s.size 0 e, _, ?_, by omega, heap_alloc_new w.drew _, ?_, grownCap_le_maxLen w s.size 0 e (by simpa using h63), ?_, ?_⟩⟩, ⟨rfl, rfl, rfl, fun _ => Nat.le_succ _, by simp, fun k hk _ => Below.heap_alloc w.drew _ k hk⟩, ?_⟩
      · simp only [List.nil_append, bytesOf_len]
      · simp only [List.nil_append, bytesOf_len]; exact hge
      · have hz1 : (Value.int IntKind.u8 0).cells.size = 1 := rfl
        simp only [Array.size_append, List.size_toArray, size_zeroCells, hz1, hsl]
        show _ = _ * 1
        omega
      · simp only [Array.toList_append]
        rw [hca]
        show List.take ((([] : List Int) ++ bytesOf s).length * 1) _ = _
        rw [List.nil_append, bytesOf_len]
        show List.take (s.size * 1) ((strCells s) ++ _) = [] ++ strCells s
        rw [List.nil_append, Nat.mul_one, ← hsl, List.take_left]
      · intro k hk
        right
        simp [Value.keys, Value.ownBlock] at hk
        omega
  · by_cases hroom : xs.length + s.size ≤ cap
    · have hcs' : cur.size = cap := (show cur.size = cap * 1 from hcs).trans (Nat.mul_one _)
      have hr := run_append_room_string (P := P) w t u ty e i ht hu hj hs g xs.length cap cur hg s hroom (by omega)
      refine ⟨some ⟨g, 0, none⟩, cap, _, hr, ⟨hlen, .inr ⟨g, cap, _, by rw [hel], hbg, setRow_heap w g cur _ e _ hg, by rw [hel]; exact hroom, hcm, ?_, ?_⟩⟩, ⟨rfl, rfl, rfl, fun _ => Nat.le_refl _, by simp, fun k _ hk => setRow_other w g k _ (fun e => hk (by simp [Value.keys, Value.ownBlock, e]))⟩, fun k hk => .inl (by simpa [Value.keys, Value.ownBlock] using hk)⟩
      · simp only [List.size_toArray, List.length_append, List.length_take, List.length_drop, Array.length_toList, hsl]
        show _ = cap * 1
        omega
      · have ht' : cur.toList.take xs.length = eU8.cells xs := (congrArg (fun k => List.take k cur.toList) (Nat.mul_one xs.length).symm).trans htake
        show List.take ((xs ++ bytesOf s).length * 1) (_ ++ _ ++ _) = _
        rw [ht', hca, ← hlen, hca, List.take_left]
    · have holds : ∀ j u, (eU8.cells xs)[j]? = some u → w.cell? ((⟨g, 0, none⟩ : Addr).add j) = some u := World.ownsRow.cells hR (g := g) rfl
      have hr := run_append_grow_string (P := P) w t u ty e i (.int .u8 0) ht hu hj hz0 ⟨g, 0, none⟩ xs.length cap (eU8.cells xs) (by rw [hs, hcl]; omega) holds s (by omega) (by omega) (by rw [hby]; exact growslice_fits (by omega) (by omega))
      have hge := grownCap_ge w (xs.length + s.size) cap e
      refine ⟨some ⟨w.heap.size, 0, none⟩, grownCap w (xs.length + s.size) cap e, _, hr, ⟨hlen, .inr ⟨w.heap.size, grownCap w (xs.length + s.size) cap e, _, by rw [hel], by omega, heap_alloc_new w.drew _, by rw [hel]; exact hge, grownCap_le_maxLen w _ cap e h63, ?_, ?_⟩⟩, ⟨rfl, rfl, rfl, fun _ => Nat.le_succ _, by simp, fun k hk _ => Below.heap_alloc w.drew _ k hk⟩, ?_⟩
      · have hz1 : (Value.int IntKind.u8 0).cells.size = 1 := rfl
        simp only [Array.size_append, List.size_toArray, size_zeroCells, hz1, hcl, hsl]
        show _ = _ * 1
        omega
      · simp only [Array.toList_append]
        show List.take ((xs ++ bytesOf s).length * 1) (eU8.cells xs ++ strCells s ++ _) = _
        rw [← hlen, hca, List.take_left]
      · intro k hk
        right
        simp [Value.keys, Value.ownBlock] at hk
        omega
/-- 'append(b, s...)' of a string. -/
theorem XE.appendS {t u e : TypeId} {v : Value} {xs : List Int} {s : ByteArray} {x y : Operand} (h : SH w0 S w (rowE eU8 e v xs :: L)) (ht : P.underlying t = some (.slice e)) (hu : P.underlying u = some .string) (hi : TI P e (.int .u8 0) 1 1) (hx1 : ev f x = some v) (hx2 : ev f y = some (.string s))
    (hb2 : xs.length + s.size ≤ 140737488355328) :
    XE P ⟨d, .call { callee := .builtin .append, args := #[x, y], argTypes := #[t, u] }, ty, ps, af, gd⟩ f w (fun v' w' =>
      ∃ A c, v' = .slice A (xs ++ bytesOf s).length c ∧ SH w0 S w' (rowE eU8 e (.slice A (xs ++ bytesOf s).length c) (xs ++ bytesOf s) :: L) ∧ KB (· ∈ Value.keys v) w w') := by
  obtain ⟨A, c, w', hr, hR, hk, hn⟩ := append_str s ty ht hu hi (h.hd) (by unfold maxLen; omega) hb2
  refine ⟨.slice A (xs ++ bytesOf s).length c, w', fun a ha => ?_, A, c, rfl, h.upd hk (Row.ok hR) (keys_nodup _) hn, hk⟩
  simp [execOp, resolve, invoke, builtin, ev_eval ha hx1, ev_eval ha hx2, hr]
/-- '[]byte(s)': a row that is read. -/
theorem XE.bytes {src dst e : TypeId} {s : ByteArray} {x : Operand} (h : SH w0 S w L) (hs : P.underlying src = some .string) (hd : P.underlying dst = some (.slice e)) (he : P.underlying e = some (.int .u8)) (hx : ev f x = some (.string s)) (hb2 : s.size ≤ 140737488355328) :
    XE P ⟨d, .convert src dst x, ty, ps, af, gd⟩ f w (fun v' w' => ∃ A c, v' = .slice A s.size c ∧ Rd eU8 (.slice A s.size c) (bytesOf s) w' ∧ SH w0 S w' L ∧ KB No w w') := by
  have hk : KB No w (bytesWorld w e s) := ⟨rfl, rfl, rfl, fun _ => Nat.le_succ _, by rw [bytesWorld_size]; omega, fun k hk _ => bytesWorld_at_old w e s k hk⟩
  refine ⟨_, _, fun a ha => ?_, some ⟨w.heap.size, 0, none⟩, grownCap w s.size 0 e, rfl, ?_, h.same hk, hk⟩
  · have hr := Lib.run_convert_string_bytes (P := P) w src dst e s hs hd he
    simp [execOp, ev_eval ha hx, hr]
  · refine ⟨_, _, by rw [bytesOf_len], by rw [bytesOf_len]; exact grownCap_ge w s.size 0 e, grownCap_le_maxLen w s.size 0 e (by unfold maxLen; omega), fun _ => ⟨_, rfl, fun j u hu => ?_⟩⟩
    rw [← strCells_eq] at hu
    have hj : j < s.size := by have := (List.getElem?_eq_some_iff.1 hu).1; rwa [strCells_length] at this
    have ha : (⟨w.heap.size, 0, none⟩ : Addr).add j = ⟨w.heap.size, j, none⟩ := by unfold Addr.add; split <;> simp_all
    rw [ha, bytesWorld_cell w e s j hj]
    unfold strCells at hu
    rw [List.getElem?_map] at hu
    have hjl : j < s.data.toList.length := by rw [Array.length_toList]; exact hj
    rw [List.getElem?_eq_getElem hjl, Option.map_some] at hu
    rw [← hu, List.getD_eq_getElem?_getD, List.getElem?_eq_getElem hjl]; rfl
theorem lit1 (a : UInt8) : (⟨#[a]⟩ : ByteArray).size = 1 := rfl
theorem wrU8 {x : Int} (h1 : 0 ≤ x) (h2 : x ≤ 255) : IntKind.u8.wrap x = x := by simp [IntKind.wrap, IntKind.bits, IntKind.signed]; omega
end
end Go.Gv
