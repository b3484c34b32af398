/- Arrays of bytes as rows, strings' bytes put behind a row, bytes of a string. -/
import Derived.Test.YtigbphaimbhgjaaGreatMg3
import Derived.Lib.AppendStr
import Derived.Lib.ConvBytes
import Derived.MapKept
namespace Go.Gv
open Go Go.RowKit Go.Lib
section
variable {P : Program} {f : Env} {w : World} {d : Option Tmp} {ty : TypeId} {ps : String} {af : Array Edge} {gd : Option (Nat × Bool)} {w0 : World} {S : Nat → Prop} {L : List Ent}
/-- A block of like parts is a row. -/
theorem SH.arr {α : Type} {E : El α} {T : TypeId} {b n : Nat} {cs : Array Value} (xs : List α) (h : SH w0 S w (blkE b T cs :: L)) (hc : cs.toList = E.cells xs) (hn : xs.length = n) (hm : n ≤ maxLen) : SH w0 S w (rowE E T (.slice (some ⟨b, 0, none⟩) n n) xs :: L) := by
  subst hn
  have hz : cs.size = xs.length * E.sz := by rw [← Array.length_toList, hc, E.cells_length]
  refine h.upd (KB.refl _ _) (Row.ok ⟨E.cells_length xs, .inr ⟨b, xs.length, cs, rfl, by omega, h.hd, Nat.le_refl _, hm, hz, ?_⟩⟩) (keys_nodup (.slice (some ⟨b, 0, none⟩) xs.length xs.length)) (fun k hk => .inl (by simpa [blkE, rowE, Value.keys, Value.ownBlock] using hk))
  rw [hc, List.take_of_length_le (by rw [E.cells_length]; omega)]
theorem LV.cutArr {t e : TypeId} {x : Operand} {lo hi mx : Option Operand} {vl vh vm : Option Value} {A : Addr} {n l h m sz : Nat} (ht : P.underlying t = some (.array n e)) (hz : (P.info? e).map (·.size) = some sz) (hx : ev f x = some (.pointer (some A)))
    (h1 : evOpt f lo = some vl) (h2 : evOpt f hi = some vh) (h3 : evOpt f mx = some vm) (hc : cutOf vl vh vm n n l h m) (hlh : l ≤ h) (hhm : h ≤ m) (hmc : m ≤ n) :
    LV P ⟨d, .slice t x lo hi mx, ty, ps, af, gd⟩ f w (.slice (if m = l then (some A) else (some A).map (·.add (l * sz))) (h - l) (m - l)) := fun a ha => by
  obtain ⟨inf, hi', hsz⟩ := Option.map_eq_some_iff.1 hz
  have e1 := evOpt_eval ha h1
  have e2 := evOpt_eval ha h2
  have e3 := evOpt_eval ha h3
  simp only [execOp, ev_eval ha hx, e1, e2, e3]
  have hl' : (0 : Int) ≤ (l : Int) ∧ (l : Int) ≤ (h : Int) := by omega
  have hh' : (0 : Int) ≤ (h : Int) ∧ (h : Int) ≤ (m : Int) := by omega
  have hm' : (0 : Int) ≤ (m : Int) ∧ (m : Int) ≤ (n : Int) := by omega
  have hif : (if m = l then some A else some (A.add (l * sz))) = some (if m = l then A else A.add (l * sz)) := by split <;> rfl
  obtain ⟨c1, c2, c3⟩ := hc
  rcases c1 with ⟨rfl, rfl⟩ | ⟨k1, rfl⟩ <;> rcases c2 with ⟨rfl, rfl, rfl⟩ | ⟨k2, rfl⟩ <;> rcases c3 with ⟨hv, rfl⟩ | ⟨k3, hv⟩ <;> (try subst hv) <;> (try cases hv) <;>
    simp [Instr.sliceAt, Instr.sureAddr, run_underlying ht, Instr.sliceBounds, Instr.sliceBound, asIntOf, sizeOf, typeInfo, hi', hsz, hl', hh', hm', hhm, hmc, hlh] <;> split <;> rfl
/-- A string's bytes. -/
def bytesOf (s : ByteArray) : List Int := s.data.toList.map fun b => (b.toNat : Int)
theorem bytesOf_len (s : ByteArray) : (bytesOf s).length = s.size := by unfold bytesOf; rw [List.length_map, Array.length_toList]; rfl
theorem bytesOf_app (s t : ByteArray) : bytesOf (s ++ t) = bytesOf s ++ bytesOf t := by
  unfold bytesOf; simp
theorem strCells_eq (s : ByteArray) : strCells s = eU8.cells (bytesOf s) := by rw [cells_u8]; unfold strCells bytesOf; rw [List.map_map]; rfl
theorem str_bytes (s : ByteArray) : strOfNums (bytesOf s) = s := by
  unfold strOfNums bytesOf
  rw [List.map_map]
  have : ((fun n : Int => UInt8.ofNat n.toNat) ∘ fun b : UInt8 => (b.toNat : Int)) = id := by funext b; simp
  rw [this, List.map_id]
theorem append_str {t u e : TypeId} {v : Value} {xs : List Int} (s : ByteArray) (ty : TypeId) (ht : P.underlying t = some (.slice e)) (hu : P.underlying u = some .string) (hi : TI P e (.int .u8 0) 1 1)
    (hR : Row eU8 e v xs w) (h63 : xs.length + s.size ≤ maxLen) (hb : (xs.length + s.size) ≤ 140737488355328) :
    ∃ A c w', (Builtin.append_ #[t, u] ty #[v, .string s]).run P w = .ok (.slice A (xs ++ bytesOf s).length c) w' ∧ Row eU8 e (.slice A (xs ++ bytesOf s).length c) (xs ++ bytesOf s) w' ∧ KB (· ∈ Value.keys v) w w' ∧
      ∀ k ∈ Value.keys (.slice A (xs ++ bytesOf s).length c), k ∈ Value.keys v ∨ w.heap.size ≤ k := by
  obtain ⟨i, hj, hz0, hs, hby⟩ := hi.get
  have h63' : xs.length + s.size ≤ 9223372036854775807 := by simpa [maxLen] using h63
  have hel : (xs ++ bytesOf s).length = xs.length + s.size := by rw [List.length_append, bytesOf_len]
  have hcl : ∀ l : List Int, (eU8.cells l).length = l.length := fun l => by rw [eU8.cells_length]; show l.length * 1 = _; omega
  rw [hel]
  have hlen : (eU8.cells (xs ++ bytesOf s)).length = (xs ++ bytesOf s).length * 1 := by rw [hcl]; omega
  have hsl : (strCells s).length = s.size := strCells_length s
  have hca : eU8.cells (xs ++ bytesOf s) = eU8.cells xs ++ strCells s := by rw [eU8.cells_append, strCells_eq]
  rcases hR.2 with ⟨rfl, hn⟩ | ⟨g, cap, cur, rfl, hbg, hg, hnc, hcm, hcs, htake⟩
  · have hx : xs = [] := List.eq_nil_of_length_eq_zero hn
    subst hx
    by_cases hm : s.size = 0
    · have hb0 : bytesOf s = [] := List.eq_nil_of_length_eq_zero (by rw [bytesOf_len]; exact hm)
      refine ⟨none, 0, w, ?_, ?_, KB.refl _ _, fun k hk => .inl ?_⟩
      · have hf := run_firstCells_string (P := P) w 1 s
        rw [hm] at hf
        simp [Builtin.append_, run_underlying ht, run_underlying hu, sizeOf, typeInfo, hj, hs, Builtin.lenOf, hm, hf]
      · rw [hb0, hm]; exact hR
      · simp [Value.keys, Value.ownBlock] at hk
    · have hr := run_append_nil_string (P := P) w t u ty e i (.int .u8 0) ht hu hj hz0 s (by omega) (by simp only [List.length_nil] at h63'; omega) (by rw [hby]; simp only [List.length_nil] at hb; omega)
      have e1 : (s.data.map fun b => Value.int .u8 b.toNat) = (strCells s).toArray := by apply Array.ext'; simp [strCells]
      rw [e1] at hr
      have hge := grownCap_ge w s.size 0 e
      have hz0 : ([] : List Int).length + s.size = s.size := by simp
      rw [hz0]
      refine ⟨some ⟨w.heap.size, 0, none⟩, grownCap w s.size 0 e, _, hr, ⟨hlen, .inr ⟨w.heap.size, grownCap w s.size 0 e, _, ?_, by omega, heap_alloc_new w.drew _, ?_, grownCap_le_maxLen w s.size 0 e (by simpa using h63), ?_, ?_⟩⟩, ⟨rfl, rfl, rfl, fun _ => Nat.le_succ _, by simp, fun k hk _ => Below.heap_alloc w.drew _ k hk⟩, ?_⟩
      · simp only [List.nil_append, bytesOf_len]
      · simp only [List.nil_append, bytesOf_len]; exact hge
      · have hz1 : (Value.int IntKind.u8 0).cells.size = 1 := rfl
        simp only [Array.size_append, List.size_toArray, size_zeroCells, hz1, hsl]
        show _ = _ * 1
        omega
      · simp only [Array.toList_append]
        rw [hca]
        show List.take ((([] : List Int) ++ bytesOf s).length * 1) _ = _
        rw [List.nil_append, bytesOf_len]
        show List.take (s.size * 1) ((strCells s) ++ _) = [] ++ strCells s
        rw [List.nil_append, Nat.mul_one, ← hsl, List.take_left]
      · intro k hk
        right
        simp [Value.keys, Value.ownBlock] at hk
        omega
  · by_cases hroom : xs.length + s.size ≤ cap
    · have hcs' : cur.size = cap := (show cur.size = cap * 1 from hcs).trans (Nat.mul_one _)
      have hr := run_append_room_string (P := P) w t u ty e i ht hu hj hs g xs.length cap cur hg s hroom (by omega)
      refine ⟨some ⟨g, 0, none⟩, cap, _, hr, ⟨hlen, .inr ⟨g, cap, _, by rw [hel], hbg, setRow_heap w g cur _ e _ hg, by rw [hel]; exact hroom, hcm, ?_, ?_⟩⟩, ⟨rfl, rfl, rfl, fun _ => Nat.le_refl _, by simp, fun k _ hk => setRow_other w g k _ (fun e => hk (by simp [Value.keys, Value.ownBlock, e]))⟩, fun k hk => .inl (by simpa [Value.keys, Value.ownBlock] using hk)⟩
      · simp only [List.size_toArray, List.length_append, List.length_take, List.length_drop, Array.length_toList, hsl]
        show _ = cap * 1
        omega
      · have ht' : cur.toList.take xs.length = eU8.cells xs := (congrArg (fun k => List.take k cur.toList) (Nat.mul_one xs.length).symm).trans htake
        show List.take ((xs ++ bytesOf s).length * 1) (_ ++ _ ++ _) = _
        rw [ht', hca, ← hlen, hca, List.take_left]
    · have holds : ∀ j u, (eU8.cells xs)[j]? = some u → w.cell? ((⟨g, 0, none⟩ : Addr).add j) = some u := World.ownsRow.cells hR (g := g) rfl
      have hr := run_append_grow_string (P := P) w t u ty e i (.int .u8 0) ht hu hj hz0 ⟨g, 0, none⟩ xs.length cap (eU8.cells xs) (by rw [hs, hcl]; omega) holds s (by omega) (by omega) (by rw [hby]; exact growslice_fits (by omega) (by omega))
      have hge := grownCap_ge w (xs.length + s.size) cap e
      refine ⟨some ⟨w.heap.size, 0, none⟩, grownCap w (xs.length + s.size) cap e, _, hr, ⟨hlen, .inr ⟨w.heap.size, grownCap w (xs.length + s.size) cap e, _, by rw [hel], by omega, heap_alloc_new w.drew _, by rw [hel]; exact hge, grownCap_le_maxLen w _ cap e h63, ?_, ?_⟩⟩, ⟨rfl, rfl, rfl, fun _ => Nat.le_succ _, by simp, fun k hk _ => Below.heap_alloc w.drew _ k hk⟩, ?_⟩
      · have hz1 : (Value.int IntKind.u8 0).cells.size = 1 := rfl
        simp only [Array.size_append, List.size_toArray, size_zeroCells, hz1, hcl, hsl]
        show _ = _ * 1
        omega
      · simp only [Array.toList_append]
        show List.take ((xs ++ bytesOf s).length * 1) (eU8.cells xs ++ strCells s ++ _) = _
        rw [← hlen, hca, List.take_left]
      · intro k hk
        right
        simp [Value.keys, Value.ownBlock] at hk
        omega
/-- 'append(b, s...)' of a string. -/
theorem XE.appendS {t u e : TypeId} {v : Value} {xs : List Int} {s : ByteArray} {x y : Operand} (h : SH w0 S w (rowE eU8 e v xs :: L)) (ht : P.underlying t = some (.slice e)) (hu : P.underlying u = some .string) (hi : TI P e (.int .u8 0) 1 1) (hx1 : ev f x = some v) (hx2 : ev f y = some (.string s))
    (hb2 : xs.length + s.size ≤ 140737488355328) :
    XE P ⟨d, .call { callee := .builtin .append, args := #[x, y], argTypes := #[t, u] }, ty, ps, af, gd⟩ f w (fun v' w' =>
      ∃ A c, v' = .slice A (xs ++ bytesOf s).length c ∧ SH w0 S w' (rowE eU8 e (.slice A (xs ++ bytesOf s).length c) (xs ++ bytesOf s) :: L) ∧ KB (· ∈ Value.keys v) w w') := by
  obtain ⟨A, c, w', hr, hR, hk, hn⟩ := append_str s ty ht hu hi (h.hd) (by unfold maxLen; omega) hb2
  refine ⟨.slice A (xs ++ bytesOf s).length c, w', fun a ha => ?_, A, c, rfl, h.upd hk (Row.ok hR) (keys_nodup _) hn, hk⟩
  simp [execOp, resolve, invoke, builtin, ev_eval ha hx1, ev_eval ha hx2, hr]
/-- '[]byte(s)': a row that is read. -/
theorem XE.bytes {src dst e : TypeId} {s : ByteArray} {x : Operand} (h : SH w0 S w L) (hs : P.underlying src = some .string) (hd : P.underlying dst = some (.slice e)) (he : P.underlying e = some (.int .u8)) (hx : ev f x = some (.string s)) (hb2 : s.size ≤ 140737488355328) :
    XE P ⟨d, .convert src dst x, ty, ps, af, gd⟩ f w (fun v' w' => ∃ A c, v' = .slice A s.size c ∧ Rd eU8 (.slice A s.size c) (bytesOf s) w' ∧ SH w0 S w' L ∧ KB No w w') := by
  have hk : KB No w (bytesWorld w e s) := ⟨rfl, rfl, rfl, fun _ => Nat.le_succ _, by rw [bytesWorld_size]; omega, fun k hk _ => bytesWorld_at_old w e s k hk⟩
  refine ⟨_, _, fun a ha => ?_, some ⟨w.heap.size, 0, none⟩, grownCap w s.size 0 e, rfl, ?_, h.same hk, hk⟩
  · have hr := Lib.run_convert_string_bytes (P := P) w src dst e s hs hd he
    simp [execOp, ev_eval ha hx, hr]
  · refine ⟨_, _, by rw [bytesOf_len], by rw [bytesOf_len]; exact grownCap_ge w s.size 0 e, grownCap_le_maxLen w s.size 0 e (by unfold maxLen; omega), fun _ => ⟨_, rfl, fun j u hu => ?_⟩⟩
    rw [← strCells_eq] at hu
    have hj : j < s.size := by have := (List.getElem?_eq_some_iff.1 hu).1; rwa [strCells_length] at this
    have ha : (⟨w.heap.size, 0, none⟩ : Addr).add j = ⟨w.heap.size, j, none⟩ := by unfold Addr.add; split <;> simp_all
    rw [ha, bytesWorld_cell w e s j hj]
    unfold strCells at hu
    rw [List.getElem?_map] at hu
    have hjl : j < s.data.toList.length := by rw [Array.length_toList]; exact hj
    rw [List.getElem?_eq_getElem hjl, Option.map_some] at hu
    rw [← hu, List.getD_eq_getElem?_getD, List.getElem?_eq_getElem hjl]; rfl
theorem lit1 (a : UInt8) : (⟨#[a]⟩ : ByteArray).size = 1 := rfl
theorem wrU8 {x : Int} (h1 : 0 ≤ x) (h2 : x ≤ 255) : IntKind.u8.wrap x = x := by simp [IntKind.wrap, IntKind.bits, IntKind.signed]; omega
end
end Go.Gv

namespace Go.Gv
open Go Go.RowKit
section
variable {κ ν : Type} [DecidableEq κ]
def lookL : List (κ × ν) → κ → Option ν
  | [], _ => none
  | p :: l, k => if p.1 = k then some p.2 else lookL l k
def updL : List (κ × ν) → κ → ν → List (κ × ν)
  | [], k, v => [(k, v)]
  | p :: l, k, v => if p.1 = k then (k, v) :: l else p :: updL l k v
theorem lookL_upd (l : List (κ × ν)) (k k' : κ) (v : ν) : lookL (updL l k v) k' = if k = k' then some v else lookL l k' := by
  induction l with
  | nil => simp [updL, lookL]
  | cons p l ih =>
    unfold updL
    by_cases h : p.1 = k
    · rw [if_pos h, lookL]
      by_cases h' : k = k'
      · rw [if_pos h', if_pos h']
      · rw [if_neg h', if_neg h', lookL, if_neg (by rw [h]; exact h')]
    · rw [if_neg h, lookL, lookL, ih]
      by_cases h' : p.1 = k'
      · rw [if_pos h', if_neg (fun e => h (h'.trans e.symm)), if_pos h']
      · rw [if_neg h', if_neg h']
theorem updL_new {l : List (κ × ν)} {k : κ} {v : ν} (h : lookL l k = none) : updL l k v = l ++ [(k, v)] := by
  induction l with
  | nil => rfl
  | cons p l ih =>
    unfold lookL at h
    split at h
    · cases h
    · rename_i hne
      rw [updL, if_neg hne, ih h]; rfl
end
/-- What a key must be for a map to be read as a row. -/
structure KeyOK {κ : Type} [DecidableEq κ] (P : Program) (t : TypeId) (K : κ → Value) : Prop where
  chk : ∀ (b : Bool) (k : κ) (w : World), (Instr.checkKey b 10000 t (K k)).run P w = .ok () w
  und : ∃ u, P.underlying t = some u ∧ ((∀ a b : κ, Instr.sameNow u (K a) (K b) = some (decide (a = b))) ∨ (∀ a b : κ, Instr.sameNow u (K a) (K b) = none))
  eq : ∀ (a b : κ) (w : World), (Op.equal t (K a) (K b)).run P w = .ok (decide (a = b)) w
  bits : ∀ a : κ, Instr.sameBits 10000 (K a) (K a) = true
section
variable {κ ν : Type} [DecidableEq κ] {P : Program} {t : TypeId} {K : κ → Value} {V : ν → Value}
theorem getM {w : World} {r : Nat} {es : Array MapEntry} {clock : Nat} (hb : w.heap[r]? = some (.map es clock)) : (getObj r).run P w = .ok (.map es clock) w := by simp [getObj, Sem.run, hb]
theorem setM {w : World} {r : Nat} {es : Array MapEntry} {clock : Nat} (o : Obj) (hb : w.heap[r]? = some (.map es clock)) : (setObj r o).run P w = .ok () { w with heap := w.heap.setIfInBounds r o } := by simp [setObj, Sem.run, hb]
def entsFrom (K : κ → Value) (V : ν → Value) : Nat → List (κ × ν) → List MapEntry
  | _, [] => []
  | n, p :: l => { key := K p.1, val := V p.2, born := n } :: entsFrom K V (n + 1) l
omit [DecidableEq κ] in
theorem entsFrom_length (n : Nat) (l : List (κ × ν)) : (entsFrom K V n l).length = l.length := by
  induction l generalizing n with
  | nil => rfl
  | cons p l ih => simp [entsFrom, ih]
omit [DecidableEq κ] in
theorem entsFrom_append (n : Nat) (l m : List (κ × ν)) : entsFrom K V n (l ++ m) = entsFrom K V n l ++ entsFrom K V (n + l.length) m := by
  induction l generalizing n with
  | nil => rfl
  | cons p l ih => simp [entsFrom, ih, Nat.add_assoc, Nat.add_comm 1]
/-- Where a key is, and what is there. -/
def spot : List (κ × ν) → κ → Nat → Option (Nat × ν)
  | [], _, _ => none
  | p :: l, k, i => if p.1 = k then some (i, p.2) else spot l k (i + 1)
theorem spot_look (l : List (κ × ν)) (k : κ) (i : Nat) : (spot l k i).map (·.2) = lookL l k := by
  induction l generalizing i with
  | nil => rfl
  | cons p l ih => unfold spot lookL; split <;> simp_all
theorem run_findAsking (hk : KeyOK P t K) (w : World) (l : List (κ × ν)) (k : κ) (n i : Nat) : (Instr.findAsking t (K k) (entsFrom K V n l) i).run P w = .ok ((spot l k i).map fun q => (q.1, V q.2)) w := by
  induction l generalizing n i with
  | nil => simp [entsFrom, Instr.findAsking, spot]
  | cons p l ih =>
    simp only [entsFrom, Instr.findAsking, Sem.run_bind, hk.eq, Result.andThen_ok, spot]
    by_cases h : p.1 = k
    · simp [h]
    · have h' : ¬ k = p.1 := fun e => h e.symm
      simp [h, h', ih]
theorem run_findKey (hk : KeyOK P t K) (w : World) (l : List (κ × ν)) (k : κ) : (Instr.findKey t (K k) (entsFrom K V 0 l)).run P w = .ok ((spot l k 0).map fun q => (q.1, V q.2)) w := by
  obtain ⟨u, hu, h⟩ := hk.und
  unfold Instr.findKey
  simp only [Sem.run_bind, run_underlying hu, Result.andThen_ok]
  rcases h with h | h
  · have : ∀ (l : List (κ × ν)) (n i : Nat), Instr.findNow u (K k) (entsFrom K V n l) i = some ((spot l k i).map fun q => (q.1, V q.2)) := by
      intro l
      induction l with
      | nil => intro n i; rfl
      | cons p l ih =>
        intro n i
        simp only [entsFrom, Instr.findNow, h, spot]
        by_cases e : p.1 = k
        · simp [e]
        · have e' : ¬ k = p.1 := fun q => e q.symm
          simp [e, e', ih]
    rw [this]
    rfl
  · cases l with
    | nil => rfl
    | cons p l =>
      have : Instr.findNow u (K k) (entsFrom K V 0 (p :: l)) 0 = none := by simp only [entsFrom, Instr.findNow, h]
      rw [this]
      exact run_findAsking hk w (p :: l) k 0 0
/-- A map of one's own. -/
def mapE (K : κ → Value) (V : ν → Value) (r : Nat) (kv : List (κ × ν)) : Ent := ⟨[r], fun w => w.heap[r]? = some (.map (entsFrom K V 0 kv).toArray kv.length)⟩
omit [DecidableEq κ] in
theorem map_ok {r : Nat} {kv : List (κ × ν)} {w : World} (h : w.heap[r]? = some (.map (entsFrom K V 0 kv).toArray kv.length)) : (mapE K V r kv).Ok w :=
  ⟨h, fun k hk => by simp [mapE] at hk; subst hk; exact (Array.getElem?_eq_some_iff.1 h).1, fun _ hk _ => (hk r (by simp [mapE])).trans h⟩
end
section
variable {κ ν : Type} [DecidableEq κ] {P : Program} {f : Env} {w : World} {d : Option Tmp} {ty : TypeId} {ps : String} {af : Array Edge} {gd : Option (Nat × Bool)} {w0 : World} {S : Nat → Prop} {L : List Ent} {K : κ → Value} {V : ν → Value} {r : Nat} {kv : List (κ × ν)}
omit [DecidableEq κ] in
theorem XE.makeMap (K : κ → Value) (V : ν → Value) {t : TypeId} (h : SH w0 S w L) :
    XE P ⟨d, .makeMap t none, ty, ps, af, gd⟩ f w (fun v' w' => ∃ b, v' = .map (some b) ∧ SH w0 S w' (mapE K V b ([] : List (κ × ν)) :: L) ∧ KB No w w') := by
  refine ⟨.map (some w.heap.size), w.alloc (.map #[] 0), fun a ha => ?_, _, rfl, h.more (KB.alloc w _) (map_ok (kv := ([] : List (κ × ν))) (by show (w.heap.push _)[w.heap.size]? = _; simp [entsFrom])) (by simp [mapE]) (fun k hk => by simp [mapE] at hk; omega), KB.alloc w _⟩
  simp [execOp, Instr.makeMap]
omit [DecidableEq κ] in
theorem LV.lenM {t : TypeId} {x : Operand} {k e : TypeId} (ht : P.underlying t = some (.map k e)) (hm : w.heap[r]? = some (.map (entsFrom K V 0 kv).toArray kv.length)) (hx : ev f x = some (.map (some r))) :
    LV P ⟨d, .call { callee := .builtin .len, args := #[x], argTypes := #[t] }, ty, ps, af, gd⟩ f w (.int .i64 kv.length) := fun a ha => by
  simp [execOp, resolve, invoke, builtin, ev_eval ha hx, Builtin.len_, run_underlying ht, getM hm, goInt, entsFrom_length]
theorem LV.look {t k e : TypeId} {x y : Operand} {q : κ} {z : ν} {size bytes : Nat} (hk : KeyOK P k K) (ht : P.underlying t = some (.map k e)) (hi : TI P e (V z) size bytes) (hm : w.heap[r]? = some (.map (entsFrom K V 0 kv).toArray kv.length)) (hx : ev f x = some (.map (some r))) (hy : ev f y = some (K q)) :
    LV P ⟨d, .lookup t x y false, ty, ps, af, gd⟩ f w (V ((lookL kv q).getD z)) := fun a ha => by
  obtain ⟨i, hj, hz, _, _⟩ := hi.get
  simp only [execOp, ev_eval ha hx, ev_eval ha hy, Instr.lookup, Sem.run_bind, run_underlying ht, Result.andThen_ok, getM hm, Sem.run_pure, hk.chk, run_findKey hk]
  rw [← spot_look kv q 0]
  cases hs : spot kv q 0 with
  | none => simp [zeroValue, typeInfo, hj, hz]
  | some p => simp
theorem LV.lookOk {t k e : TypeId} {x y : Operand} {q : κ} {z : ν} {size bytes : Nat} (hk : KeyOK P k K) (ht : P.underlying t = some (.map k e)) (hi : TI P e (V z) size bytes) (hm : w.heap[r]? = some (.map (entsFrom K V 0 kv).toArray kv.length)) (hx : ev f x = some (.map (some r))) (hy : ev f y = some (K q)) :
    LV P ⟨d, .lookup t x y true, ty, ps, af, gd⟩ f w (.tuple #[V ((lookL kv q).getD z), .bool (lookL kv q).isSome]) := fun a ha => by
  obtain ⟨i, hj, hz, _, _⟩ := hi.get
  simp only [execOp, ev_eval ha hx, ev_eval ha hy, Instr.lookup, Sem.run_bind, run_underlying ht, Result.andThen_ok, getM hm, Sem.run_pure, hk.chk, run_findKey hk]
  rw [← spot_look kv q 0]
  cases hs : spot kv q 0 with
  | none => simp [zeroValue, typeInfo, hj, hz]
  | some p => simp
theorem spot_upd (l : List (κ × ν)) (k : κ) (v : ν) (n : Nat) (j : Nat) : match spot l k j with
    | none => entsFrom K V n (updL l k v) = entsFrom K V n l ++ [{ key := K k, val := V v, born := n + l.length }]
    | some p => j ≤ p.1 ∧ p.1 - j < l.length ∧ ((entsFrom K V n l)[p.1 - j]?).map (·.key) = some (K k) ∧ (updL l k v).length = l.length ∧ entsFrom K V n (updL l k v) = (entsFrom K V n l).modify (p.1 - j) fun e => { e with key := K k, val := V v } := by
  induction l generalizing n j with
  | nil => simp [spot, updL, entsFrom]
  | cons p l ih =>
    unfold spot
    by_cases h : p.1 = k
    · subst h
      simp [updL, entsFrom]
    · rw [if_neg h]
      have := ih (n + 1) (j + 1)
      cases hs : spot l k (j + 1) with
      | none =>
        rw [hs] at this
        simp only at this ⊢
        rw [updL, if_neg h, entsFrom, entsFrom, this]
        simp [Nat.add_assoc, Nat.add_comm 1]
      | some q =>
        rw [hs] at this
        simp only at this ⊢
        obtain ⟨h1, h2, h3, h4, h5⟩ := this
        have e : q.1 - j = (q.1 - (j + 1)) + 1 := by omega
        refine ⟨by omega, by simp only [List.length_cons]; omega, ?_, ?_, ?_⟩
        · rw [e]; simpa [entsFrom] using h3
        · rw [updL, if_neg h]; simp [h4]
        · rw [updL, if_neg h, entsFrom, entsFrom, h5, e]; simp
theorem XSE.mapUpd {t k e : TypeId} {x y z : Operand} {q : κ} {v : ν} (hk : KeyOK P k K) (h : SH w0 S w (mapE K V r kv :: L)) (ht : P.underlying t = some (.map k e)) (hx : ev f x = some (.map (some r))) (hy : ev f y = some (K q)) (hz : ev f z = some (V v)) :
    XSE P ⟨d, .mapUpdate t x y z, ty, ps, af, gd⟩ f w (fun w' => SH w0 S w' (mapE K V r (updL kv q v) :: L) ∧ KB (· = r) w w') := by
  have hm : w.heap[r]? = some (.map (entsFrom K V 0 kv).toArray kv.length) := h.hd
  have hlt := (Array.getElem?_eq_some_iff.1 hm).1
  have hu := spot_upd (K := K) (V := V) kv q v 0 0
  have kb : ∀ o, KB (· = r) w { w with heap := w.heap.setIfInBounds r o } := fun o => ⟨rfl, rfl, rfl, fun _ => Nat.le_refl _, by simp, fun i _ hi => by
    show (w.heap.setIfInBounds r o)[i]? = _
    rw [Array.getElem?_setIfInBounds, if_neg (fun e => hi e.symm)]⟩
  have put : ∀ o, o = Obj.map (entsFrom K V 0 (updL kv q v)).toArray (updL kv q v).length → SH w0 S { w with heap := w.heap.setIfInBounds r o } (mapE K V r (updL kv q v) :: L) := fun o ho =>
    h.upd (e' := mapE K V r (updL kv q v)) ((kb o).mono fun i hi => by simp [mapE, hi]) (map_ok (by subst ho; show (w.heap.setIfInBounds r _)[r]? = _; simp [hlt])) (by simp [mapE]) (fun k hk => .inl hk)
  cases hs : spot kv q 0 with
  | none =>
    rw [hs] at hu
    simp only at hu
    have hl : (updL kv q v).length = kv.length + 1 := by
      have := congrArg List.length hu
      simp only [entsFrom_length, List.length_append, List.length_singleton] at this
      exact this
    refine ⟨{ w with heap := w.heap.setIfInBounds r (.map ((entsFrom K V 0 kv).toArray.push { key := K q, val := V v, born := kv.length }) (kv.length + 1)) }, fun a ha => ?_, put _ ?_, kb _⟩
    · simp only [execOp, ev_eval ha hx, ev_eval ha hy, ev_eval ha hz, Instr.mapUpdate, Sem.run_bind, run_underlying ht, Result.andThen_ok, getM hm, hk.chk, run_findKey hk, hs, Option.map_none, setM _ hm, Sem.run_pure]
    · rw [hu, hl]; simp
  | some p =>
    rw [hs] at hu
    simp only [Nat.sub_zero, Nat.zero_le, true_and] at hu
    obtain ⟨h1, h2, h3, h4⟩ := hu
    refine ⟨{ w with heap := w.heap.setIfInBounds r (.map ((entsFrom K V 0 kv).toArray.modify p.1 fun e => { e with key := K q, val := V v }) kv.length) }, fun a ha => ?_, put _ ?_, kb _⟩
    · have h5 : (((entsFrom K V 0 kv).toArray[p.1]?).map (·.key)).getD (K q) = K q := by
        have : (entsFrom K V 0 kv).toArray[p.1]? = (entsFrom K V 0 kv)[p.1]? := by simp
        rw [this, h2]; rfl
      simp only [execOp, ev_eval ha hx, ev_eval ha hy, ev_eval ha hz, Instr.mapUpdate, Sem.run_bind, run_underlying ht, Result.andThen_ok, getM hm, hk.chk, run_findKey hk, hs, Option.map_some, h5, Instr.keyThatStays, hk.bits, if_true, setM _ hm, Sem.run_pure]
    · rw [h4, h3]; simp
end
/-! #### keys -/
abbrev kI (n : Int) : Value := .int .i64 n
abbrev kL (x : Ln) : Value := .agg #[.string x.1, .bool x.2]
theorem key_int {P : Program} {t : TypeId} (ht : P.underlying t = some (.int .i64)) : KeyOK P t kI :=
  ⟨fun b k w => by
      show (Instr.checkKey b (9999 + 1) _ _).run P w = _
      unfold Instr.checkKey
      simp [run_underlying ht], ⟨_, ht, .inl fun a b => by simp [Instr.sameNow]; exact Bool.eq_iff_iff.2 (by simp)⟩,
    fun a b w => by
      show (Op.equalIn (9999 + 1) t _ _).run P w = _
      rw [run_equalIn_int w 9999 t .i64 .i64 a b ht]
      congr 1,
    fun a => by show ((IntKind.i64 == IntKind.i64) && (a == a)) = true; simp⟩
theorem key_ln {P : Program} {t : TypeId} {f0 f1 : Field} (ht : P.underlying t = some (.struct #[f0, f1])) (h0 : P.underlying f0.type = some .string) (h1 : P.underlying f1.type = some .bool)
    (hn : (f0.name ≠ "_" ∧ f1.name ≠ "_") ∧ f0.offset = 0 ∧ f1.offset = 1) (hp : P.stoodInHeld t = false) : KeyOK P t kL :=
  ⟨fun b k w => by
      have p0 : (part f0.type #[.string k.1, .bool k.2] 0).run P w = .ok (.string k.1) w := by simp [part, isAgg, run_underlying h0]
      have p1 : (part f1.type #[.string k.1, .bool k.2] 1).run P w = .ok (.bool k.2) w := by simp [part, isAgg, run_underlying h1]
      have c0 : (Instr.checkKey b 9999 f0.type (.string k.1)).run P w = .ok () w := by
        show (Instr.checkKey b (9998 + 1) _ _).run P w = _
        unfold Instr.checkKey
        simp [run_underlying h0]
      have c1 : (Instr.checkKey b 9999 f1.type (.bool k.2)).run P w = .ok () w := by
        show (Instr.checkKey b (9998 + 1) _ _).run P w = _
        unfold Instr.checkKey
        simp [run_underlying h1]
      show (Instr.checkKey b (9999 + 1) _ _).run P w = _
      unfold Instr.checkKey
      simp only [Sem.run_bind, run_underlying ht, Result.andThen_ok]
      rw [← Array.forIn_toList]
      simp [hn.1.1, hn.1.2, hn.2.1, hn.2.2, p0, p1, c0, c1],
    ⟨_, ht, .inr fun a b => rfl⟩,
    fun a b w => by
      rw [run_eqLn ht h0 h1 hn.1.1 hn.1.2 hn.2.1 hn.2.2 hp]
      congr 1
      exact decide_eq_decide.2 Prod.ext_iff.symm,
    fun a => by
      unfold Instr.sameBits
      unfold Instr.sameBits
      simp [beq_bytes]⟩
end Go.Gv

namespace Go.Gv
open Go Go.RowKit
section
variable {P : Program} {f : Env} {w w0 : World} {S : Nat → Prop} {L : List Ent} {d : Option Tmp} {ty : TypeId} {ps : String} {af : Array Edge} {gd : Option (Nat × Bool)}
theorem LV.cutS {t : TypeId} {x : Operand} {lo hi : Option Operand} {vl vh : Option Value} {s : ByteArray} {l h : Nat} (ht : P.underlying t = some .string) (hx : ev f x = some (.string s))
    (h1 : evOpt f lo = some vl) (h2 : evOpt f hi = some vh) (hc : cutOf vl vh none s.size s.size l h s.size) (hlh : l ≤ h) (hh : h ≤ s.size) :
    LV P ⟨d, .slice t x lo hi none, ty, ps, af, gd⟩ f w (.string (s.extract l h)) := fun a ha => by
  have e1 := evOpt_eval ha h1
  have e2 := evOpt_eval ha h2
  simp only [execOp, ev_eval ha hx, e1, e2]
  have hl' : (0 : Int) ≤ (l : Int) ∧ (l : Int) ≤ (h : Int) := by omega
  have hh' : (0 : Int) ≤ (h : Int) ∧ (h : Int) ≤ (s.size : Int) := by omega
  obtain ⟨c1, c2, _⟩ := hc
  rcases c1 with ⟨rfl, rfl⟩ | ⟨k1, rfl⟩ <;> rcases c2 with ⟨rfl, rfl, _⟩ | ⟨k2, rfl⟩ <;>
    simp [Instr.sliceAt, Instr.slice, run_underlying ht, Instr.sliceBounds, Instr.sliceBound, asIntOf, hl', hh', hlh, hh]
theorem bytes_at {s : ByteArray} {i : Int} (h0 : 0 ≤ i) (h1 : i < s.size) : ∃ c : UInt8, s[i.toNat]? = some c ∧ (bytesOf s).getD i.toNat 0 = c.toNat := by
  have hlt : i.toNat < s.size := by omega
  refine ⟨s[i.toNat], by simp [hlt], ?_⟩
  have hl : i.toNat < s.data.toList.length := by rw [Array.length_toList]; exact hlt
  unfold bytesOf
  rw [List.getD_eq_getElem?_getD, List.getElem?_map, List.getElem?_eq_getElem hl]
  rfl
theorem byte_bd (s : ByteArray) (i : Int) : 0 ≤ (bytesOf s).getD i.toNat 0 ∧ (bytesOf s).getD i.toNat 0 ≤ 255 := by
  rcases Nat.lt_or_ge i.toNat s.size with h | h
  · obtain ⟨c, _, e⟩ := bytes_at (s := s) (i := (i.toNat : Int)) (by omega) (by omega)
    rw [Int.toNat_natCast] at e
    rw [e]
    have := c.toNat_lt
    omega
  · rw [List.getD_eq_getElem?_getD, List.getElem?_eq_none (by rw [bytesOf_len]; exact h)]; simp
theorem LV.idxSi {t : TypeId} {x y : Operand} {s : ByteArray} {i : Int} {k : IntKind} (ht : P.underlying t = some .string) (hx : ev f x = some (.string s)) (hy : ev f y = some (.int k i)) (h0 : 0 ≤ i) (h1 : i < s.size) :
    LV P ⟨d, .index t x y, ty, ps, af, gd⟩ f w (.int .u8 ((bytesOf s).getD i.toNat 0)) := by
  obtain ⟨c, hc, e⟩ := bytes_at h0 h1
  rw [e]
  exact LV.idxS ht hx (by rw [hy, show i = (i.toNat : Int) by omega]; rfl) hc
theorem LV.eqSP {t t2 : TypeId} {x y : Operand} {a b : ByteArray} (hx : ev f x = some (.string a)) (hy : ev f y = some (.string b)) :
    LV P ⟨d, .binOp .eql t x y t2, ty, ps, af, gd⟩ f w (.bool (decide (a = b))) := by
  have h := LV.eqS (P := P) (w := w) (d := d) (ty := ty) (ps := ps) (af := af) (gd := gd) (t := t) (t2 := t2) hx hy
  have e : (a.toList == b.toList) = decide (a = b) := by
    rw [Bool.eq_iff_iff, beq_iff_eq, decide_eq_true_iff]
    exact ⟨fun h => by have := congrArg (fun l : List UInt8 => (⟨l.toArray⟩ : ByteArray)) h; exact ByteArray.ext (by simpa [ByteArray.toList_eq] using this), fun h => h ▸ rfl⟩
  rwa [e] at h
theorem LV.neSP {t t2 : TypeId} {x y : Operand} {a b : ByteArray} (hx : ev f x = some (.string a)) (hy : ev f y = some (.string b)) :
    LV P ⟨d, .binOp .neq t x y t2, ty, ps, af, gd⟩ f w (.bool (decide (¬ a = b))) := fun e he => by
  have h := (LV.eqSP (P := P) (w := w) (d := d) (ty := ty) (ps := ps) (af := af) (gd := gd) (t := t) (t2 := t2) hx hy) e he
  simp only [execOp, ev_eval he hx, ev_eval he hy, eqGuard] at h ⊢
  simp [binOp, Op.stringOp] at h ⊢
  exact h
/-- The row of a string. -/
theorem bytesOf_cut (s : ByteArray) (l h : Nat) : bytesOf (s.extract l h) = ((bytesOf s).take h).drop l := by
  unfold bytesOf
  rw [← List.map_take, ← List.map_drop]
  congr 1
  show (s.extract l h).data.toList = _
  rw [ByteArray.data_extract, Array.toList_extract, List.extract_eq_take_drop, List.drop_take]
theorem bytesOf_inj {a b : ByteArray} (h : bytesOf a = bytesOf b) : a = b := by
  rw [← str_bytes a, ← str_bytes b, h]
theorem ext_size (s : ByteArray) {l h : Nat} (hh : h ≤ s.size) : (s.extract l h).size = h - l := by
  rw [ByteArray.size_extract]; omega
theorem cut_all (s : ByteArray) : s.extract 0 s.size = s := bytesOf_inj (by rw [bytesOf_cut, List.take_of_length_le (by rw [bytesOf_len]; omega)]; rfl)
theorem cut_cut (s : ByteArray) {a b c e : Nat} (_h : a ≤ b) (_ : b ≤ s.size) (_hc : c ≤ e) (he : e ≤ b - a) : (s.extract a b).extract c e = s.extract (a + c) (a + e) := bytesOf_inj (by
  rw [bytesOf_cut, bytesOf_cut, bytesOf_cut]
  rw [List.take_drop, List.drop_drop, List.take_take, Nat.min_eq_left (by omega)])
theorem cut_app (s : ByteArray) {a b c : Nat} (h1 : a ≤ b) (h2 : b ≤ c) (hc : c ≤ s.size) : s.extract a b ++ s.extract b c = s.extract a c := bytesOf_inj (by
  rw [bytesOf_app, bytesOf_cut, bytesOf_cut, bytesOf_cut]
  have hl := bytesOf_len s
  have e : (bytesOf s).take c = (bytesOf s).take b ++ ((bytesOf s).take c).drop b := by
    conv => lhs; rw [← List.take_append_drop b ((bytesOf s).take c), List.take_take, Nat.min_eq_left h2]
  conv => rhs; rw [e]
  rw [List.drop_append_of_le_length (by rw [List.length_take]; omega)])
/-! #### keys that are strings -/
abbrev kS (s : ByteArray) : Value := .string s
theorem key_str {P : Program} {t : TypeId} (ht : P.underlying t = some .string) : KeyOK P t kS :=
  ⟨fun b k w => by
      show (Instr.checkKey b (9999 + 1) _ _).run P w = _
      unfold Instr.checkKey
      simp [run_underlying ht], ⟨_, ht, .inl fun a b => by simp [Instr.sameNow, beq_bytes]⟩,
    fun a b w => by
      show (Op.equalIn (9999 + 1) t _ _).run P w = _
      unfold Op.equalIn
      simp [run_underlying ht, beq_bytes],
    fun a => by show (a == a) = true; rw [beq_bytes]; simp⟩
/-! #### a part of an element -/
theorem part_get {l m : List Value} {off n j : Nat} {u : Value} (h : (l.drop off).take n = m) (hu : m[j]? = some u) : l[off + j]? = some u := by
  subst h
  rw [List.getElem?_take] at hu
  split at hu
  · rwa [List.getElem?_drop] at hu
  · cases hu
theorem elt_part {a : Addr} {l m : List Value} {off n : Nat} (hg : ∀ w', KB No w w' → ∀ (t : Nat) (u : Value), l[t]? = some u → w'.cell? (a.add t) = some u) (h : (l.drop off).take n = m) :
    ∀ w', KB No w w' → ∀ (j : Nat) (u : Value), m[j]? = some u → w'.cell? ((a.add off).add j) = some u := fun w' hk j u hu => by
  rw [addr_add']; exact hg w' hk (off + j) u (part_get h hu)
end
end Go.Gv
namespace Go.Gv
open Go Go.RowKit
theorem Blk.part {w : World} {b : Nat} {T : TypeId} {cs : Array Value} {m : List Value} (off n : Nat) (h : w.heap[b]? = some (.cells cs T (0, 0))) (hm : (cs.toList.drop off).take n = m) :
    ∀ w', KB No w w' → ∀ (j : Nat) (u : Value), m[j]? = some u → w'.cell? ((⟨b, off, none⟩ : Addr).add j) = some u := fun w' hk j u hu => by
  have h1 := part_get hm hu
  have h2 : w'.cell? ⟨b, off + j, none⟩ = some u := by
    refine hk.cell ((Blk.cell h (off + j)).trans ?_) fun h => h
    rw [← Array.getElem?_toList]; exact h1
  have h3 : (⟨b, off, none⟩ : Addr).add j = ⟨b, off + j, none⟩ := by
    unfold Addr.add; by_cases hj : j = 0
    · subst hj; simp
    · rw [if_neg hj]
  rw [h3]; exact h2
end Go.Gv

namespace Go.Gv
/-- A number of a row, 0 behind its ends. -/
abbrev gI (l : List Int) (i : Int) : Int := l.getD i.toNat 0
theorem gI_set {l : List Int} {i j v : Int} (h0 : 0 ≤ i) (h1 : i < l.length) (hj : 0 ≤ j) : gI (l.set i.toNat v) j = if i = j then v else gI l j := by
  have hlt : i.toNat < l.length := by omega
  by_cases h : i = j
  · subst h; simp [gI, List.getD, hlt]
  · rw [if_neg h]
    have : i.toNat ≠ j.toNat := by omega
    simp [gI, List.getD, this]
/-! ### A row that is doubled till it is full -/
theorem rep_init {N : Nat} {x : Int} (h1 : 1 ≤ N) : ((List.replicate N (0 : Int)).take 0 ++ [x].take N ++ (List.replicate N (0 : Int)).drop (0 + min [x].length N)).take ((min [x].length N : Nat) : Int).toNat = List.replicate ((min [x].length N : Nat) : Int).toNat x := by
  obtain ⟨k, rfl⟩ : ∃ k, N = k + 1 := ⟨N - 1, by omega⟩
  simp
theorem rep_step {N : Nat} {n x : Int} {r : List Int} (q0 : 1 ≤ n) (_q1 : n ≤ (N : Int)) (h : n < (N : Int)) (q2 : r.length = N) (q3 : r.take n.toNat = List.replicate n.toNat x) :
    (r.take n.toNat ++ ((r.take n.toNat).drop 0).take (N - n.toNat) ++ r.drop (n.toNat + min ((r.take n.toNat).drop 0).length (N - n.toNat))).take (n + ((min ((r.take n.toNat).drop 0).length (N - n.toNat) : Nat) : Int)).toNat =
      List.replicate (n + ((min ((r.take n.toNat).drop 0).length (N - n.toNat) : Nat) : Int)).toNat x := by
  rw [q3]
  simp only [List.drop_zero, List.length_replicate, List.take_replicate]
  rw [show (n + ((min n.toNat (N - n.toNat) : Nat) : Int)).toNat = n.toNat + min n.toNat (N - n.toNat) by omega, List.take_append_of_le_length (by simp; omega), List.take_of_length_le (by simp; omega), List.replicate_append_replicate, Nat.min_comm (N - n.toNat)]
theorem rep_fin {N : Nat} {n x : Int} {r : List Int} (_q0 : 1 ≤ n) (q1 : n ≤ (N : Int)) (h : ¬ n < (N : Int)) (q2 : r.length = N) (q3 : r.take n.toNat = List.replicate n.toNat x) : r = List.replicate N x := by
  have e : n.toNat = N := by omega
  rw [e, List.take_of_length_le (by omega)] at q3
  exact q3
theorem ext_gI {a b : List Int} (hl : a.length = b.length) (h : ∀ t : Int, 0 ≤ t → t < a.length → gI a t = gI b t) : a = b := by
  apply List.ext_getElem hl
  intro i h1 h2
  have := h i (by omega) (by omega)
  simpa [gI, List.getD, h1, h2] using this
theorem all_step {p : Int → Prop} {i : Int} (h : ∀ t, 0 ≤ t → t < i → p t) (hi : p i) : ∀ t, 0 ≤ t → t < i + 1 → p t := fun t h0 h1 => by
  rcases Decidable.em (t = i) with rfl | hne
  · exact hi
  · exact h t h0 (by omega)
theorem ext_gP {a b : List (Int × Int)} (hl : a.length = b.length) (h : ∀ t : Int, 0 ≤ t → t < a.length → (a.getD t.toNat (0, 0)).1 = (b.getD t.toNat (0, 0)).1 ∧ (a.getD t.toNat (0, 0)).2 = (b.getD t.toNat (0, 0)).2) : a = b := by
  apply List.ext_getElem hl
  intro i h1 h2
  have := h i (by omega) (by omega)
  simp [List.getD, h1, h2] at this
  exact Prod.ext this.1 this.2
end Go.Gv

