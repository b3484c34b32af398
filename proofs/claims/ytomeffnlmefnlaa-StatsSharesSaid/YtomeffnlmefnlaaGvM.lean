/- Maps as rows of keys and values. -/
import Derived.Test.YtomeffnlmefnlaaGvQ
import Derived.MapKept
namespace Go.Gv
open Go Go.RowKit
section
variable {κ ν : Type} [DecidableEq κ]
def lookL : List (κ × ν) → κ → Option ν
  | [], _ => none
  | p :: l, k => if p.1 = k then some p.2 else lookL l k
def updL : List (κ × ν) → κ → ν → List (κ × ν)
  | [], k, v => [(k, v)]
  | p :: l, k, v => if p.1 = k then (k, v) :: l else p :: updL l k v
theorem lookL_upd (l : List (κ × ν)) (k k' : κ) (v : ν) : lookL (updL l k v) k' = if k = k' then some v else lookL l k' := by
  induction l with
  | nil => simp [updL, lookL]
  | cons p l ih =>
    unfold updL
    by_cases h : p.1 = k
    · rw [if_pos h, lookL]
      by_cases h' : k = k'
      · rw [if_pos h', if_pos h']
      · rw [if_neg h', if_neg h', lookL, if_neg (by rw [h]; exact h')]
    · rw [if_neg h, lookL, lookL, ih]
      by_cases h' : p.1 = k'
      · rw [if_pos h', if_neg (fun e => h (h'.trans e.symm)), if_pos h']
      · rw [if_neg h', if_neg h']
theorem updL_new {l : List (κ × ν)} {k : κ} {v : ν} (h : lookL l k = none) : updL l k v = l ++ [(k, v)] := by
  induction l with
  | nil => rfl
  | cons p l ih =>
    unfold lookL at h
    split at h
    · cases h
    · rename_i hne
      rw [updL, if_neg hne, ih h]; rfl
end
/-- What a key must be for a map to be read as a row. -/
structure KeyOK {κ : Type} [DecidableEq κ] (P : Program) (t : TypeId) (K : κ → Value) : Prop where
  chk : ∀ (b : Bool) (k : κ) (w : World), (Instr.checkKey b 10000 t (K k)).run P w = .ok () w
  und : ∃ u, P.underlying t = some u ∧ ((∀ a b : κ, Instr.sameNow u (K a) (K b) = some (decide (a = b))) ∨ (∀ a b : κ, Instr.sameNow u (K a) (K b) = none))
  eq : ∀ (a b : κ) (w : World), (Op.equal t (K a) (K b)).run P w = .ok (decide (a = b)) w
  bits : ∀ a : κ, Instr.sameBits 10000 (K a) (K a) = true
section
variable {κ ν : Type} [DecidableEq κ] {P : Program} {t : TypeId} {K : κ → Value} {V : ν → Value}
theorem getM {w : World} {r : Nat} {es : Array MapEntry} {clock : Nat} (hb : w.heap[r]? = some (.map es clock)) : (getObj r).run P w = .ok (.map es clock) w := by simp [getObj, Sem.run, hb]
theorem setM {w : World} {r : Nat} {es : Array MapEntry} {clock : Nat} (o : Obj) (hb : w.heap[r]? = some (.map es clock)) : (setObj r o).run P w = .ok () { w with heap := w.heap.setIfInBounds r o } := by simp [setObj, Sem.run, hb]
def entsFrom (K : κ → Value) (V : ν → Value) : Nat → List (κ × ν) → List MapEntry
  | _, [] => []
  | n, p :: l => { key := K p.1, val := V p.2, born := n } :: entsFrom K V (n + 1) l
omit [DecidableEq κ] in
theorem entsFrom_length (n : Nat) (l : List (κ × ν)) : (entsFrom K V n l).length = l.length := by
  induction l generalizing n with
  | nil => rfl
  | cons p l ih => simp [entsFrom, ih]
omit [DecidableEq κ] in
theorem entsFrom_append (n : Nat) (l m : List (κ × ν)) : entsFrom K V n (l ++ m) = entsFrom K V n l ++ entsFrom K V (n + l.length) m := by
  induction l generalizing n with
  | nil => rfl
  | cons p l ih => simp [entsFrom, ih, Nat.add_assoc, Nat.add_comm 1]
/-- Where a key is, and what is there. -/
def spot : List (κ × ν) → κ → Nat → Option (Nat × ν)
  | [], _, _ => none
  | p :: l, k, i => if p.1 = k then some (i, p.2) else spot l k (i + 1)
theorem spot_look (l : List (κ × ν)) (k : κ) (i : Nat) : (spot l k i).map (·.2) = lookL l k := by
  induction l generalizing i with
  | nil => rfl
  | cons p l ih => unfold spot lookL; split <;> simp_all
theorem run_findAsking (hk : KeyOK P t K) (w : World) (l : List (κ × ν)) (k : κ) (n i : Nat) : (Instr.findAsking t (K k) (entsFrom K V n l) i).run P w = .ok ((spot l k i).map fun q => (q.1, V q.2)) w := by
  induction l generalizing n i with
  | nil => simp [entsFrom, Instr.findAsking, spot]
  | cons p l ih =>
    simp only [entsFrom, Instr.findAsking, Sem.run_bind, hk.eq, Result.andThen_ok, spot]
    by_cases h : p.1 = k
    · simp [h]
    · have h' : ¬ k = p.1 := fun e => h e.symm
      simp [h, h', ih]
theorem run_findKey (hk : KeyOK P t K) (w : World) (l : List (κ × ν)) (k : κ) : (Instr.findKey t (K k) (entsFrom K V 0 l)).run P w = .ok ((spot l k 0).map fun q => (q.1, V q.2)) w := by
  obtain ⟨u, hu, h⟩ := hk.und
  unfold Instr.findKey
  simp only [Sem.run_bind, run_underlying hu, Result.andThen_ok]
  rcases h with h | h
  · have : ∀ (l : List (κ × ν)) (n i : Nat), Instr.findNow u (K k) (entsFrom K V n l) i = some ((spot l k i).map fun q => (q.1, V q.2)) := by
      intro l
      induction l with
      | nil => intro n i; rfl
      | cons p l ih =>
        intro n i
        simp only [entsFrom, Instr.findNow, h, spot]
        by_cases e : p.1 = k
        · simp [e]
        · have e' : ¬ k = p.1 := fun q => e q.symm
          simp [e, e', ih]
    rw [this]
    rfl
  · cases l with
    | nil => rfl
    | cons p l =>
      have : Instr.findNow u (K k) (entsFrom K V 0 (p :: l)) 0 = none := by simp only [entsFrom, Instr.findNow, h]
      rw [this]
      exact run_findAsking hk w (p :: l) k 0 0
/-- A map of one's own. -/
def mapE (K : κ → Value) (V : ν → Value) (r : Nat) (kv : List (κ × ν)) : Ent := ⟨[r], fun w => w.heap[r]? = some (.map (entsFrom K V 0 kv).toArray kv.length)⟩
omit [DecidableEq κ] in
theorem map_ok {r : Nat} {kv : List (κ × ν)} {w : World} (h : w.heap[r]? = some (.map (entsFrom K V 0 kv).toArray kv.length)) : (mapE K V r kv).Ok w :=
  ⟨h, fun k hk => by simp [mapE] at hk; subst hk; exact (Array.getElem?_eq_some_iff.1 h).1, fun _ hk _ => (hk r (by simp [mapE])).trans h⟩
end
section
variable {κ ν : Type} [DecidableEq κ] {P : Program} {f : Env} {w : World} {d : Option Tmp} {ty : TypeId} {ps : String} {af : Array Edge} {gd : Option (Nat × Bool)} {w0 : World} {S : Nat → Prop} {L : List Ent} {K : κ → Value} {V : ν → Value} {r : Nat} {kv : List (κ × ν)}
omit [DecidableEq κ] in
theorem XE.makeMap (K : κ → Value) (V : ν → Value) {t : TypeId} (h : SH w0 S w L) :
    XE P ⟨d, .makeMap t none, ty, ps, af, gd⟩ f w (fun v' w' => ∃ b, v' = .map (some b) ∧ SH w0 S w' (mapE K V b ([] : List (κ × ν)) :: L) ∧ KB No w w') := by
  refine ⟨.map (some w.heap.size), w.alloc (.map #[] 0), fun a ha => ?_, _, rfl, h.more (KB.alloc w _) (map_ok (kv := ([] : List (κ × ν))) (by show (w.heap.push _)[w.heap.size]? = _; simp [entsFrom])) (by simp [mapE]) (fun k hk => by simp [mapE] at hk; omega), KB.alloc w _⟩
  simp [execOp, Instr.makeMap]
omit [DecidableEq κ] in
theorem LV.lenM {t : TypeId} {x : Operand} {k e : TypeId} (ht : P.underlying t = some (.map k e)) (hm : w.heap[r]? = some (.map (entsFrom K V 0 kv).toArray kv.length)) (hx : ev f x = some (.map (some r))) :
    LV P ⟨d, .call { callee := .builtin .len, args := #[x], argTypes := #[t] }, ty, ps, af, gd⟩ f w (.int .i64 kv.length) := fun a ha => by
  simp [execOp, resolve, invoke, builtin, ev_eval ha hx, Builtin.len_, run_underlying ht, getM hm, goInt, entsFrom_length]
theorem LV.look {t k e : TypeId} {x y : Operand} {q : κ} {z : ν} {size bytes : Nat} (hk : KeyOK P k K) (ht : P.underlying t = some (.map k e)) (hi : TI P e (V z) size bytes) (hm : w.heap[r]? = some (.map (entsFrom K V 0 kv).toArray kv.length)) (hx : ev f x = some (.map (some r))) (hy : ev f y = some (K q)) :
    LV P ⟨d, .lookup t x y false, ty, ps, af, gd⟩ f w (V ((lookL kv q).getD z)) := fun a ha => by
  obtain ⟨i, hj, hz, _, _⟩ := hi.get
  simp only [execOp, ev_eval ha hx, ev_eval ha hy, Instr.lookup, Sem.run_bind, run_underlying ht, Result.andThen_ok, getM hm, Sem.run_pure, hk.chk, run_findKey hk]
  rw [← spot_look kv q 0]
  cases hs : spot kv q 0 with
  | none => simp [zeroValue, typeInfo, hj, hz]
  | some p => simp
theorem LV.lookOk {t k e : TypeId} {x y : Operand} {q : κ} {z : ν} {size bytes : Nat} (hk : KeyOK P k K) (ht : P.underlying t = some (.map k e)) (hi : TI P e (V z) size bytes) (hm : w.heap[r]? = some (.map (entsFrom K V 0 kv).toArray kv.length)) (hx : ev f x = some (.map (some r))) (hy : ev f y = some (K q)) :
    LV P ⟨d, .lookup t x y true, ty, ps, af, gd⟩ f w (.tuple #[V ((lookL kv q).getD z), .bool (lookL kv q).isSome]) := fun a ha => by
  obtain ⟨i, hj, hz, _, _⟩ := hi.get
  simp only [execOp, ev_eval ha hx, ev_eval ha hy, Instr.lookup, Sem.run_bind, run_underlying ht, Result.andThen_ok, getM hm, Sem.run_pure, hk.chk, run_findKey hk]
  rw [← spot_look kv q 0]
  cases hs : spot kv q 0 with
  | none => simp [zeroValue, typeInfo, hj, hz]
  | some p => simp
theorem spot_upd (l : List (κ × ν)) (k : κ) (v : ν) (n : Nat) (j : Nat) : match spot l k j with
    | none => entsFrom K V n (updL l k v) = entsFrom K V n l ++ [{ key := K k, val := V v, born := n + l.length }]
    | some p => j ≤ p.1 ∧ p.1 - j < l.length ∧ ((entsFrom K V n l)[p.1 - j]?).map (·.key) = some (K k) ∧ (updL l k v).length = l.length ∧ entsFrom K V n (updL l k v) = (entsFrom K V n l).modify (p.1 - j) fun e => { e with key := K k, val := V v } := by
  induction l generalizing n j with
  | nil => simp [spot, updL, entsFrom]
  | cons p l ih =>
    unfold spot
    by_cases h : p.1 = k
    · subst h
      simp [updL, entsFrom]
    · rw [if_neg h]
      have := ih (n + 1) (j + 1)
      cases hs : spot l k (j + 1) with
      | none =>
        rw [hs] at this
        simp only at this ⊢
        rw [updL, if_neg h, entsFrom, entsFrom, this]
        simp [Nat.add_assoc, Nat.add_comm 1]
      | some q =>
        rw [hs] at this
        simp only at this ⊢
        obtain ⟨h1, h2, h3, h4, h5⟩ := this
        have e : q.1 - j = (q.1 - (j + 1)) + 1 := by omega
        refine ⟨by omega, by simp only [List.length_cons]; omega, ?_, ?_, ?_⟩
        · rw [e]; simpa [entsFrom] using h3
        · rw [updL, if_neg h]; simp [h4]
        · rw [updL, if_neg h, entsFrom, entsFrom, h5, e]; simp
theorem XSE.mapUpd {t k e : TypeId} {x y z : Operand} {q : κ} {v : ν} (hk : KeyOK P k K) (h : SH w0 S w (mapE K V r kv :: L)) (ht : P.underlying t = some (.map k e)) (hx : ev f x = some (.map (some r))) (hy : ev f y = some (K q)) (hz : ev f z = some (V v)) :
    XSE P ⟨d, .mapUpdate t x y z, ty, ps, af, gd⟩ f w (fun w' => SH w0 S w' (mapE K V r (updL kv q v) :: L) ∧ KB (· = r) w w') := by
  have hm : w.heap[r]? = some (.map (entsFrom K V 0 kv).toArray kv.length) := h.hd
  have hlt := (Array.getElem?_eq_some_iff.1 hm).1
  have hu := spot_upd (K := K) (V := V) kv q v 0 0
  have kb : ∀ o, KB (· = r) w { w with heap := w.heap.setIfInBounds r o } := fun o => ⟨rfl, rfl, rfl, fun _ => Nat.le_refl _, by simp, fun i _ hi => by
    show (w.heap.setIfInBounds r o)[i]? = _
    rw [Array.getElem?_setIfInBounds, if_neg (fun e => hi e.symm)]⟩
  have put : ∀ o, o = Obj.map (entsFrom K V 0 (updL kv q v)).toArray (updL kv q v).length → SH w0 S { w with heap := w.heap.setIfInBounds r o } (mapE K V r (updL kv q v) :: L) := fun o ho =>
    h.upd (e' := mapE K V r (updL kv q v)) ((kb o).mono fun i hi => by simp [mapE, hi]) (map_ok (by subst ho; show (w.heap.setIfInBounds r _)[r]? = _; simp [hlt])) (by simp [mapE]) (fun k hk => .inl hk)
  cases hs : spot kv q 0 with
  | none =>
    rw [hs] at hu
    simp only at hu
    have hl : (updL kv q v).length = kv.length + 1 := by
      have := congrArg List.length hu
      simp only [entsFrom_length, List.length_append, List.length_singleton] at this
      exact this
    refine ⟨{ w with heap := w.heap.setIfInBounds r (.map ((entsFrom K V 0 kv).toArray.push { key := K q, val := V v, born := kv.length }) (kv.length + 1)) }, fun a ha => ?_, put _ ?_, kb _⟩
    · simp only [execOp, ev_eval ha hx, ev_eval ha hy, ev_eval ha hz, Instr.mapUpdate, Sem.run_bind, run_underlying ht, Result.andThen_ok, getM hm, hk.chk, run_findKey hk, hs, Option.map_none, setM _ hm, Sem.run_pure]
    · rw [hu, hl]; simp
  | some p =>
    rw [hs] at hu
    simp only [Nat.sub_zero, Nat.zero_le, true_and] at hu
    obtain ⟨h1, h2, h3, h4⟩ := hu
    refine ⟨{ w with heap := w.heap.setIfInBounds r (.map ((entsFrom K V 0 kv).toArray.modify p.1 fun e => { e with key := K q, val := V v }) kv.length) }, fun a ha => ?_, put _ ?_, kb _⟩
    · have h5 : (((entsFrom K V 0 kv).toArray[p.1]?).map (·.key)).getD (K q) = K q := by
        have : (entsFrom K V 0 kv).toArray[p.1]? = (entsFrom K V 0 kv)[p.1]? := by simp
        rw [this, h2]; rfl
      simp only [execOp, ev_eval ha hx, ev_eval ha hy, ev_eval ha hz, Instr.mapUpdate, Sem.run_bind, run_underlying ht, Result.andThen_ok, getM hm, hk.chk, run_findKey hk, hs, Option.map_some, h5, Instr.keyThatStays, hk.bits, if_true, setM _ hm, Sem.run_pure]
    · rw [h4, h3]; simp
end
/-! #### keys -/
abbrev kI (n : Int) : Value := .int .i64 n
abbrev kL (x : Ln) : Value := .agg #[.string x.1, .bool x.2]
theorem key_int {P : Program} {t : TypeId} (ht : P.underlying t = some (.int .i64)) : KeyOK P t kI :=
  ⟨fun b k w => by
      show (Instr.checkKey b (9999 + 1) _ _).run P w = _
      unfold Instr.checkKey
      simp [run_underlying ht], ⟨_, ht, .inl fun a b => by simp [Instr.sameNow]; exact Bool.eq_iff_iff.2 (by simp)⟩,
    fun a b w => by
      show (Op.equalIn (9999 + 1) t _ _).run P w = _
      rw [run_equalIn_int w 9999 t .i64 .i64 a b ht]
      congr 1,
    fun a => by show ((IntKind.i64 == IntKind.i64) && (a == a)) = true; simp⟩
theorem key_ln {P : Program} {t : TypeId} {f0 f1 : Field} (ht : P.underlying t = some (.struct #[f0, f1])) (h0 : P.underlying f0.type = some .string) (h1 : P.underlying f1.type = some .bool)
    (hn : (f0.name ≠ "_" ∧ f1.name ≠ "_") ∧ f0.offset = 0 ∧ f1.offset = 1) (hp : P.stoodInHeld t = false) : KeyOK P t kL :=
  ⟨fun b k w => by
      have p0 : (part f0.type #[.string k.1, .bool k.2] 0).run P w = .ok (.string k.1) w := by simp [part, isAgg, run_underlying h0]
      have p1 : (part f1.type #[.string k.1, .bool k.2] 1).run P w = .ok (.bool k.2) w := by simp [part, isAgg, run_underlying h1]
      have c0 : (Instr.checkKey b 9999 f0.type (.string k.1)).run P w = .ok () w := by
        show (Instr.checkKey b (9998 + 1) _ _).run P w = _
        unfold Instr.checkKey
        simp [run_underlying h0]
      have c1 : (Instr.checkKey b 9999 f1.type (.bool k.2)).run P w = .ok () w := by
        show (Instr.checkKey b (9998 + 1) _ _).run P w = _
        unfold Instr.checkKey
        simp [run_underlying h1]
      show (Instr.checkKey b (9999 + 1) _ _).run P w = _
      unfold Instr.checkKey
      simp only [Sem.run_bind, run_underlying ht, Result.andThen_ok]
      rw [← Array.forIn_toList]
      simp [hn.1.1, hn.1.2, hn.2.1, hn.2.2, p0, p1, c0, c1],
    ⟨_, ht, .inr fun a b => rfl⟩,
    fun a b w => by
      rw [run_eqLn ht h0 h1 hn.1.1 hn.1.2 hn.2.1 hn.2.2 hp]
      congr 1
      exact decide_eq_decide.2 Prod.ext_iff.symm,
    fun a => by
      unfold Instr.sameBits
      unfold Instr.sameBits
      simp [beq_bytes]⟩
end Go.Gv
