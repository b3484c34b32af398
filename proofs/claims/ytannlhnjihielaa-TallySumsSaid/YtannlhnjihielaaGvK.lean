/- Map entries that are turned in place; keys of two whole numbers. -/
import Derived.Test.YtannlhnjihielaaGvM
import Derived.Test.YtannlhnjihielaaGvJ
namespace Go.Gv
open Go Go.RowKit
section
variable {κ ν : Type} [DecidableEq κ] {K : κ → Value} {V : ν → Value}
theorem updL_twice (l : List (κ × ν)) (k : κ) (u v : ν) : updL (updL l k u) k v = updL l k v := by
  induction l with
  | nil => simp [updL]
  | cons p l ih =>
    by_cases h : p.1 = k
    · rw [show updL (p :: l) k u = (k, u) :: l by rw [updL, if_pos h], show updL (p :: l) k v = (k, v) :: l by rw [updL, if_pos h], updL, if_pos rfl]
    · rw [show updL (p :: l) k u = p :: updL l k u by rw [updL, if_neg h], show updL (p :: l) k v = p :: updL l k v by rw [updL, if_neg h], updL, if_neg h, ih]
theorem spot_put (l : List (κ × ν)) (k : κ) (u : ν) (j : Nat) : ∃ i, spot (updL l k u) k j = some (i, u) := by
  induction l generalizing j with
  | nil => exact ⟨j, by simp [updL, spot]⟩
  | cons p l ih =>
    unfold updL
    by_cases h : p.1 = k
    · rw [if_pos h]; exact ⟨j, by simp [spot]⟩
    · rw [if_neg h]
      obtain ⟨i, e⟩ := ih (j + 1)
      exact ⟨i, by rw [spot, if_neg h]; exact e⟩
theorem spot_set (l : List (κ × ν)) (k : κ) (v : ν) (n j : Nat) {p : Nat × ν} (h : spot l k j = some p) : j ≤ p.1 ∧ p.1 - j < l.length ∧ (updL l k v).length = l.length ∧ entsFrom K V n (updL l k v) = (entsFrom K V n l).modify (p.1 - j) (fun e => { e with val := V v }) := by
  induction l generalizing n j with
  | nil => simp [spot] at h
  | cons q l ih =>
    unfold spot at h
    unfold updL
    by_cases hk : q.1 = k
    · subst hk
      rw [if_pos rfl] at h
      injection h with h
      subst h
      simp [entsFrom]
    · rw [if_neg hk] at h ⊢
      obtain ⟨h1, h2, h3, h4⟩ := ih (n + 1) (j + 1) h
      have e : p.1 - j = (p.1 - (j + 1)) + 1 := by omega
      refine ⟨by omega, by simp only [List.length_cons]; omega, by simp [h3], ?_⟩
      rw [entsFrom, entsFrom, h4, e]; rfl
omit [DecidableEq κ] in
theorem born_at (l : List (κ × ν)) : ∀ (m i : Nat), i < l.length → (entsFrom K V m l).findIdx? (fun e => (e.born : Int) == ((m + i : Nat) : Int)) = some i := by
  induction l with
  | nil => intro m i h; simp at h
  | cons p l ih =>
    intro m i h
    rw [entsFrom, List.findIdx?_cons]
    cases i with
    | zero => simp
    | succ i =>
      have := ih (m + 1) i (by simpa using h)
      rw [show m + 1 + i = m + (i + 1) by omega] at this
      rw [this]
      have hne : ((m : Int) == ((m + (i + 1) : Nat) : Int)) = false := by simp; omega
      rw [hne]; rfl
omit [DecidableEq κ] in
theorem born_get (l : List (κ × ν)) : ∀ (m i : Nat), i < l.length → ((entsFrom K V m l)[i]?).map (·.born) = some (m + i) := by
  induction l with
  | nil => intro m i h; simp at h
  | cons p l ih =>
    intro m i h
    rw [entsFrom]
    cases i with
    | zero => simp
    | succ i =>
      have := ih (m + 1) i (by simpa using h)
      rw [List.getElem?_cons_succ, this]
      congr 1; omega
end
section
variable {κ ν : Type} [DecidableEq κ] {P : Program} {f : Env} {w : World} {d : Option Tmp} {ty : TypeId} {ps : String} {af : Array Edge} {gd : Option (Nat × Bool)} {w0 : World} {S : Nat → Prop} {L : List Ent} {K : κ → Value} {V : ν → Value} {r : Nat} {kv : List (κ × ν)}
theorem upd_same (l : List (κ × ν)) (k : κ) {p : Nat × ν} {j : Nat} (h : spot l k j = some p) (hn : ∀ x ∈ l, True) : updL l k p.2 = l := by
  induction l generalizing j with
  | nil => simp [spot] at h
  | cons q l ih =>
    unfold spot at h
    unfold updL
    by_cases hk : q.1 = k
    · rw [if_pos hk] at h ⊢
      injection h with h
      subst h; subst hk; rfl
    · rw [if_neg hk] at h ⊢
      rw [ih h fun _ _ => trivial]
theorem key_same {E : MapEntry} {v : Value} (h : E.key = v) : ({ E with key := v } : MapEntry) = E := by subst h; rfl
theorem XE.mapEntry {t k e : TypeId} {x y : Operand} {q : κ} {z : ν} {size bytes : Nat} (hk : KeyOK P k K) (h : SH w0 S w (mapE K V r kv :: L)) (ht : P.underlying t = some (.map k e)) (hi : TI P e (V z) size bytes) (hx : ev f x = some (.map (some r))) (hy : ev f y = some (K q)) :
    XE P ⟨d, .mapEntry t x y, ty, ps, af, gd⟩ f w (fun v' w' => ∃ n : Nat, v' = .tuple #[V ((lookL kv q).getD z), .int .i64 n] ∧ (∃ u, spot (updL kv q ((lookL kv q).getD z)) q 0 = some (n, u)) ∧ SH w0 S w' (mapE K V r (updL kv q ((lookL kv q).getD z)) :: L) ∧ KB (· = r) w w') := by
  have hm : w.heap[r]? = some (.map (entsFrom K V 0 kv).toArray kv.length) := h.hd
  have hlt := (Array.getElem?_eq_some_iff.1 hm).1
  obtain ⟨i, hj, hz, _, _⟩ := hi.get
  have kb : ∀ o, KB (· = r) w { w with heap := w.heap.setIfInBounds r o } := fun o => ⟨rfl, rfl, rfl, fun _ => Nat.le_refl _, by simp, fun i _ hi => by
    show (w.heap.setIfInBounds r o)[i]? = _
    rw [Array.getElem?_setIfInBounds, if_neg (fun e => hi e.symm)]⟩
  have put : ∀ o kv', o = Obj.map (entsFrom K V 0 kv').toArray kv'.length → SH w0 S { w with heap := w.heap.setIfInBounds r o } (mapE K V r kv' :: L) := fun o kv' ho =>
    h.upd (e' := mapE K V r kv') ((kb o).mono fun i hi => by simp [mapE, hi]) (map_ok (by subst ho; show (w.heap.setIfInBounds r _)[r]? = _; simp [hlt])) (by simp [mapE]) (fun k hk => .inl hk)
  have hl := spot_look kv q 0
  cases hs : spot kv q 0 with
  | none =>
    rw [hs] at hl
    have hu := spot_upd (K := K) (V := V) kv q z 0 0
    rw [hs] at hu
    simp only [Nat.zero_add] at hu
    have hll : lookL kv q = none := hl.symm
    have hn : updL kv q z = kv ++ [(q, z)] := updL_new hll
    rw [hll]
    simp only [Option.getD_none]
    have hlen : (updL kv q z).length = kv.length + 1 := by rw [hn]; simp
    have hsp : ∀ (l : List (κ × ν)) (j : Nat), spot l q j = none → spot (l ++ [(q, z)]) q j = some (j + l.length, z) := by
      intro l
      induction l with
      | nil => intro j _; simp [spot]
      | cons p l ih =>
        intro j hj
        unfold spot at hj
        by_cases hp : p.1 = q
        · rw [if_pos hp] at hj; cases hj
        · rw [if_neg hp] at hj
          rw [List.cons_append, spot, if_neg hp, ih _ hj, List.length_cons]
          congr 2; omega
    refine ⟨.tuple #[V z, .int .i64 kv.length], { w with heap := w.heap.setIfInBounds r (.map ((entsFrom K V 0 kv).toArray.push { key := K q, val := V z, born := kv.length }) (kv.length + 1)) }, fun a ha => ?_, kv.length, rfl, ⟨z, by rw [hn]; have := hsp kv 0 hs; rwa [Nat.zero_add] at this⟩, put _ _ ?_, kb _⟩
    · simp only [execOp, ev_eval ha hx, ev_eval ha hy, Instr.mapEntry, Sem.run_bind, run_underlying ht, Result.andThen_ok, getM hm, hk.chk, run_findKey hk, hs, Option.map_none, zeroValue, typeInfo, run_program, hj, hz, setM _ hm, Sem.run_pure, goInt]
    · rw [hu, hlen]; simp
  | some p =>
    rw [hs] at hl
    have hll : lookL kv q = some p.2 := hl.symm
    have hu := spot_upd (K := K) (V := V) kv q p.2 0 0
    rw [hs] at hu
    simp only [Nat.sub_zero, Nat.zero_le, true_and] at hu
    obtain ⟨h1, h2, h3, h4⟩ := hu
    have hb := born_get (K := K) (V := V) kv 0 p.1 h1
    have hsame := upd_same kv q hs fun _ _ => trivial
    rw [hll]
    simp only [Option.getD_some]
    rw [hsame]
    have h5 : (((entsFrom K V 0 kv).toArray[p.1]?).map (·.key)).getD (K q) = K q := by
      have : (entsFrom K V 0 kv).toArray[p.1]? = (entsFrom K V 0 kv)[p.1]? := by simp
      rw [this, h2]; rfl
    have h6 : (((entsFrom K V 0 kv).toArray[p.1]?).map (fun x => (x.born : Int))).getD 0 = (p.1 : Int) := by
      have h : (entsFrom K V 0 kv).toArray[p.1]? = (entsFrom K V 0 kv)[p.1]? := by simp
      rw [h]
      cases hE : (entsFrom K V 0 kv)[p.1]? with
      | none => rw [hE] at hb; simp at hb
      | some E => rw [hE] at hb; simp only [Option.map_some, Option.some.injEq] at hb; simp only [Option.map_some, Option.getD_some]; omega
    have h7 : (entsFrom K V 0 kv).toArray.modify p.1 (fun e => { e with key := K q }) = (entsFrom K V 0 kv).toArray := by
      apply Array.ext
      · simp
      · intro i hi1 hi2
        rw [Array.getElem_modify]
        split
        · rename_i he
          subst he
          have hk2 : (entsFrom K V 0 kv)[p.1]?.map (·.key) = some (K q) := h2
          have hi3 : p.1 < (entsFrom K V 0 kv).length := by simpa using hi2
          rw [List.getElem?_eq_getElem hi3] at hk2
          have hk3 : ((entsFrom K V 0 kv)[p.1]).key = K q := by simpa using hk2
          exact key_same hk3
        · rfl
    refine ⟨.tuple #[V p.2, .int .i64 p.1], { w with heap := w.heap.setIfInBounds r (.map (entsFrom K V 0 kv).toArray kv.length) }, fun a ha => ?_, p.1, rfl, ⟨p.2, hs⟩, put _ _ rfl, kb _⟩
    simp only [execOp, ev_eval ha hx, ev_eval ha hy, Instr.mapEntry, Sem.run_bind, run_underlying ht, Result.andThen_ok, getM hm, hk.chk, run_findKey hk, hs, Option.map_some, h5, h6, h7, Instr.keyThatStays, hk.bits, if_true, setM _ hm, Sem.run_pure, goInt]
theorem XSE.entryStore {t : TypeId} {x y s : Operand} {q : κ} {v : ν} {n : Nat} (h : SH w0 S w (mapE K V r kv :: L)) (hs : ∃ u, spot kv q 0 = some (n, u)) (hx : ev f x = some (.map (some r))) (hy : ev f s = some (.int .i64 n)) (hz : ev f y = some (V v)) :
    XSE P ⟨d, .entryStore t x s y, ty, ps, af, gd⟩ f w (fun w' => SH w0 S w' (mapE K V r (updL kv q v) :: L) ∧ KB (· = r) w w') := by
  have hm : w.heap[r]? = some (.map (entsFrom K V 0 kv).toArray kv.length) := h.hd
  have hlt := (Array.getElem?_eq_some_iff.1 hm).1
  obtain ⟨u, hs⟩ := hs
  obtain ⟨_, h1, h2, h3⟩ := spot_set (K := K) (V := V) kv q v 0 0 hs
  simp only [Nat.sub_zero] at h1 h3
  have hb := born_at (K := K) (V := V) kv 0 n h1
  rw [Nat.zero_add] at hb
  have kb : ∀ o, KB (· = r) w { w with heap := w.heap.setIfInBounds r o } := fun o => ⟨rfl, rfl, rfl, fun _ => Nat.le_refl _, by simp, fun i _ hi => by
    show (w.heap.setIfInBounds r o)[i]? = _
    rw [Array.getElem?_setIfInBounds, if_neg (fun e => hi e.symm)]⟩
  refine ⟨{ w with heap := w.heap.setIfInBounds r (.map ((entsFrom K V 0 kv).toArray.modify n fun e => { e with val := V v }) kv.length) }, fun a ha => ?_, ?_, kb _⟩
  · have hb2 : (entsFrom K V 0 kv).toArray.findIdx? (fun e => (e.born : Int) == (n : Int)) = some n := by simpa using hb
    simp only [execOp, ev_eval ha hx, ev_eval ha hy, ev_eval ha hz, Instr.entryStore, Sem.run_bind, Result.andThen_ok, getM hm, asInt, asIntOf, Sem.run_pure, hb2, setM _ hm]
  · refine h.upd (e' := mapE K V r (updL kv q v)) ((kb _).mono fun i hi => by simp [mapE, hi]) (map_ok ?_) (by simp [mapE]) (fun k hk => .inl hk)
    show (w.heap.setIfInBounds r _)[r]? = _
    rw [Array.getElem?_setIfInBounds, if_pos rfl, if_pos hlt, h2, h3]; simp
end
/-! #### keys of two whole numbers -/
abbrev kLb (x : Int × Int) : Value := .agg #[.int .i64 x.1, .int .u64 x.2]
theorem key_lb {P : Program} {t : TypeId} {f0 f1 : Field} (ht : P.underlying t = some (.struct #[f0, f1])) (h0 : P.underlying f0.type = some (.int .i64)) (h1 : P.underlying f1.type = some (.int .u64))
    (hn : (f0.name ≠ "_" ∧ f1.name ≠ "_") ∧ f0.offset = 0 ∧ f1.offset = 1) (hp : P.stoodInHeld t = false) : KeyOK P t kLb :=
  ⟨fun b k w => by
      have p0 : (part f0.type #[.int .i64 k.1, .int .u64 k.2] 0).run P w = .ok (.int .i64 k.1) w := by simp [part, isAgg, run_underlying h0]
      have p1 : (part f1.type #[.int .i64 k.1, .int .u64 k.2] 1).run P w = .ok (.int .u64 k.2) w := by simp [part, isAgg, run_underlying h1]
      have c0 : (Instr.checkKey b 9999 f0.type (.int .i64 k.1)).run P w = .ok () w := by
        show (Instr.checkKey b (9998 + 1) _ _).run P w = _
        unfold Instr.checkKey
        simp [run_underlying h0]
      have c1 : (Instr.checkKey b 9999 f1.type (.int .u64 k.2)).run P w = .ok () w := by
        show (Instr.checkKey b (9998 + 1) _ _).run P w = _
        unfold Instr.checkKey
        simp [run_underlying h1]
      show (Instr.checkKey b (9999 + 1) _ _).run P w = _
      unfold Instr.checkKey
      simp only [Sem.run_bind, run_underlying ht, Result.andThen_ok]
      rw [← Array.forIn_toList]
      simp [hn.1.1, hn.1.2, hn.2.1, hn.2.2, p0, p1, c0, c1],
    ⟨_, ht, .inr fun a b => rfl⟩,
    fun a b w => by
      have h := ae_s2 (k := 1) (cs := #[.int .i64 a.1, .int .u64 a.2]) (cs' := #[.int .i64 b.1, .int .u64 b.2]) ht hn.1 hp (pt_int h0 (by rw [hn.2.1]; rfl)) (pt_int h0 (by rw [hn.2.1]; rfl)) (pt_int h1 (by rw [hn.2.2]; rfl)) (pt_int h1 (by rw [hn.2.2]; rfl)) (ae_int h0 (a := a.1) (b := b.1)) (ae_int h1 (a := a.2) (b := b.2))
      have h2 := h 9998 w
      have e : decide (a.1 = b.1 ∧ a.2 = b.2) = decide (a = b) := decide_eq_decide.2 Prod.ext_iff.symm
      rw [e] at h2
      exact h2,
    fun a => by
      unfold Instr.sameBits
      unfold Instr.sameBits
      simp⟩
end Go.Gv
