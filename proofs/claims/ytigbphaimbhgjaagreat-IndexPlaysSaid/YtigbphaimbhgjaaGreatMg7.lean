/- Maps whose entries may go; rows cut short; packs of entries. -/
import Derived.Test.YtigbphaimbhgjaaGreatMg5
import Derived.Test.YtigbphaimbhgjaaGreatMg4
import Derived.Test.YtigbphaimbhgjaaGreatMg3
import Derived.MapKept
import GoSem.Core.Next
import Derived.Test.YtigbphaimbhgjaaGreatMg1
import Derived.Sort.Walk0
import Derived.Test.YtigbphaimbhgjaaGreatMg6
namespace Go.Gv
open Go Go.RowKit Go.MapKept
section
variable {κ ν : Type} [DecidableEq κ] {P : Program} {t : TypeId} {K : κ → Value} {V : ν → Value}
def delL : List (κ × ν) → κ → List (κ × ν)
  | [], _ => []
  | p :: l, k => if p.1 = k then l else p :: delL l k
omit [DecidableEq κ] in
theorem look_none_of [DecidableEq κ] {l : List (κ × ν)} {k : κ} (h : k ∉ l.map (·.1)) : lookL l k = none := by
  induction l with
  | nil => rfl
  | cons p l ih =>
    simp only [List.map_cons, List.mem_cons, not_or] at h
    rw [lookL, if_neg (fun e => h.1 e.symm), ih h.2]
theorem lookL_mem {l : List (κ × ν)} {k : κ} {v : ν} (h : lookL l k = some v) : (k, v) ∈ l := by
  induction l with
  | nil => cases h
  | cons p l ih =>
    unfold lookL at h
    split at h
    · rename_i e; injection h with h; subst e; subst h; exact .head _
    · exact .tail _ (ih h)
theorem lookL_of_mem {l : List (κ × ν)} (hn : (l.map (·.1)).Nodup) {k : κ} {v : ν} (h : (k, v) ∈ l) : lookL l k = some v := by
  induction l with
  | nil => cases h
  | cons p l ih =>
    rw [List.map_cons, List.nodup_cons] at hn
    rcases List.mem_cons.1 h with h | h
    · subst h; rw [lookL, if_pos rfl]
    · have hne : ¬ p.1 = k := fun e => hn.1 (by rw [e]; exact List.mem_map.2 ⟨_, h, rfl⟩)
      rw [lookL, if_neg hne, ih hn.2 h]
theorem lookL_key {l : List (κ × ν)} {k : κ} : (lookL l k).isSome = true ↔ k ∈ l.map (·.1) := by
  constructor
  · intro h
    obtain ⟨v, hv⟩ := Option.isSome_iff_exists.1 h
    exact List.mem_map.2 ⟨_, lookL_mem hv, rfl⟩
  · intro h
    cases hl : lookL l k with
    | some v => rfl
    | none =>
      exfalso
      induction l with
      | nil => cases h
      | cons p l ih =>
        unfold lookL at hl
        split at hl
        · cases hl
        · rename_i hne
          rcases List.mem_cons.1 h with h | h
          · exact hne h.symm
          · exact ih h hl
theorem del_sub (l : List (κ × ν)) (k : κ) : (delL l k).Sublist l := by
  induction l with
  | nil => exact List.Sublist.refl _
  | cons p l ih =>
    unfold delL
    split
    · exact List.sublist_cons_self _ _
    · exact ih.cons_cons _
theorem lookL_del {l : List (κ × ν)} (hn : (l.map (·.1)).Nodup) (k k' : κ) : lookL (delL l k) k' = if k = k' then none else lookL l k' := by
  induction l with
  | nil => simp [delL, lookL]
  | cons p l ih =>
    rw [List.map_cons, List.nodup_cons] at hn
    unfold delL
    by_cases h : p.1 = k
    · rw [if_pos h]
      subst h
      by_cases h' : p.1 = k'
      · rw [if_pos h', ← h']; exact look_none_of hn.1
      · rw [if_neg h', lookL, if_neg h']
    · rw [if_neg h, lookL, lookL, ih hn.2]
      by_cases h' : p.1 = k'
      · rw [if_pos h', if_neg (fun e => h (h'.trans e.symm)), if_pos h']
      · rw [if_neg h', if_neg h']
theorem updL_keys (l : List (κ × ν)) (k : κ) (v : ν) : ((updL l k v).map (·.1)) = if k ∈ l.map (·.1) then l.map (·.1) else l.map (·.1) ++ [k] := by
  induction l with
  | nil => simp [updL]
  | cons p l ih =>
    unfold updL
    by_cases h : p.1 = k
    · rw [if_pos h]; subst h; simp
    · rw [if_neg h, List.map_cons, ih]
      have h' : ¬ k = p.1 := fun e => h e.symm
      by_cases hm : k ∈ l.map (·.1)
      · rw [if_pos hm, if_pos (by simp only [List.map_cons]; exact .tail _ hm)]; rfl
      · rw [if_neg hm, if_neg (by simp only [List.map_cons, List.mem_cons, not_or]; exact ⟨h', hm⟩)]; rfl
/-- A map's entries, told by a row of keys and values. -/
def EntsOf (K : κ → Value) (V : ν → Value) (es : List MapEntry) (kv : List (κ × ν)) : Prop := es.map (fun e => (e.key, e.val)) = kv.map (fun p => (K p.1, V p.2))
omit [DecidableEq κ] in
theorem EntsOf.nil_iff {es : List MapEntry} : EntsOf K V es ([] : List (κ × ν)) ↔ es = [] := by unfold EntsOf; simp
omit [DecidableEq κ] in
theorem EntsOf.cons_inv {es : List MapEntry} {p : κ × ν} {kv : List (κ × ν)} (h : EntsOf K V es (p :: kv)) : ∃ e es', es = e :: es' ∧ e.key = K p.1 ∧ e.val = V p.2 ∧ EntsOf K V es' kv := by
  cases es with
  | nil => unfold EntsOf at h; simp at h
  | cons e es' =>
    unfold EntsOf at h
    simp only [List.map_cons, List.cons.injEq, Prod.mk.injEq] at h
    exact ⟨e, es', rfl, h.1.1, h.1.2, h.2⟩
theorem findAskG (hk : KeyOK P t K) (w : World) : ∀ (kv : List (κ × ν)) (es : List MapEntry) (k : κ) (i : Nat), EntsOf K V es kv → (Instr.findAsking t (K k) es i).run P w = .ok ((spot kv k i).map fun q => (q.1, V q.2)) w
  | [], es, k, i, h => by
    obtain rfl := EntsOf.nil_iff.1 h
    simp [Instr.findAsking, spot]
  | p :: kv, es, k, i, h => by
    obtain ⟨e, es', rfl, h1, h2, h3⟩ := h.cons_inv
    simp only [Instr.findAsking, Sem.run_bind, h1, hk.eq, Result.andThen_ok, spot]
    by_cases hp : p.1 = k
    · simp [hp, h2]
    · have h' : ¬ k = p.1 := fun e => hp e.symm
      simp [hp, h', findAskG hk w kv es' k (i + 1) h3]
theorem findG (hk : KeyOK P t K) (w : World) (kv : List (κ × ν)) (es : List MapEntry) (h : EntsOf K V es kv) (k : κ) : (Instr.findKey t (K k) es).run P w = .ok ((spot kv k 0).map fun q => (q.1, V q.2)) w := by
  obtain ⟨u, hu, hs⟩ := hk.und
  unfold Instr.findKey
  simp only [Sem.run_bind, run_underlying hu, Result.andThen_ok]
  rcases hs with hs | hs
  · have : ∀ (kv : List (κ × ν)) (es : List MapEntry) (i : Nat), EntsOf K V es kv → Instr.findNow u (K k) es i = some ((spot kv k i).map fun q => (q.1, V q.2)) := by
      intro kv
      induction kv with
      | nil => intro es i h; obtain rfl := EntsOf.nil_iff.1 h; rfl
      | cons p kv ih =>
        intro es i h
        obtain ⟨e, es', rfl, h1, h2, h3⟩ := h.cons_inv
        simp only [Instr.findNow, h1, hs, spot]
        by_cases e : p.1 = k
        · simp [e, h2]
        · have e' : ¬ k = p.1 := fun q => e q.symm
          simp [e, e', ih es' (i + 1) h3]
    rw [this kv es 0 h]
    rfl
  · cases kv with
    | nil => obtain rfl := EntsOf.nil_iff.1 h; rfl
    | cons p kv =>
      obtain ⟨e, es', rfl, h1, h2, h3⟩ := h.cons_inv
      have : Instr.findNow u (K k) (e :: es') 0 = none := by simp only [Instr.findNow, h1, hs]
      rw [this]
      exact findAskG hk w (p :: kv) (e :: es') k 0 h
theorem keyInj (hk : KeyOK P t K) {a b : κ} (h : K a = K b) : a = b := by
  have w : World := default
  have h1 := hk.eq a b w
  rw [h, hk.eq b b w] at h1
  have h2 : decide (b = b) = decide (a = b) := by injection h1
  simpa using h2
/-- A map of one's own, whose entries may have come and gone. -/
def MapG (K : κ → Value) (V : ν → Value) (r : Nat) (kv : List (κ × ν)) (w : World) : Prop := ∃ (es : Array MapEntry) (clock : Nat), w.heap[r]? = some (.map es clock) ∧ EntsOf K V es.toList kv ∧ Stamped es clock
def mapG (K : κ → Value) (V : ν → Value) (r : Nat) (kv : List (κ × ν)) : Ent := ⟨[r], MapG K V r kv⟩
omit [DecidableEq κ] in
theorem mapG_ok {r : Nat} {kv : List (κ × ν)} {w : World} (h : MapG K V r kv w) : (mapG K V r kv).Ok w :=
  ⟨h, fun k hk => by simp [mapG] at hk; subst hk; obtain ⟨_, _, h1, _⟩ := h; exact (Array.getElem?_eq_some_iff.1 h1).1, fun _ hk _ => by
    obtain ⟨es, c, h1, h2⟩ := h
    exact ⟨es, c, (hk r (by simp [mapG])).trans h1, h2⟩⟩
omit [DecidableEq κ] in
theorem MapG.nodup {r : Nat} {kv : List (κ × ν)} {w : World} (h : MapG K V r kv w) : (kv.map (·.1)).Nodup := by
  obtain ⟨es, c, _, h2, h3⟩ := h
  have h4 : (es.toList.map (·.key)).Nodup := h3.2.2
  have e : es.toList.map (·.key) = (kv.map (·.1)).map K := by
    have := congrArg (List.map Prod.fst) h2
    simpa [EntsOf, List.map_map, Function.comp_def] using this
  rw [e] at h4
  exact List.Pairwise.imp (fun h e => h (congrArg K e)) (List.pairwise_map.1 h4)
end
section
variable {κ ν : Type} [DecidableEq κ] {P : Program} {f : Env} {w : World} {d : Option Tmp} {ty : TypeId} {ps : String} {af : Array Edge} {gd : Option (Nat × Bool)} {w0 : World} {S : Nat → Prop} {L : List Ent} {K : κ → Value} {V : ν → Value} {r : Nat} {kv : List (κ × ν)}
omit [DecidableEq κ] in
theorem XE.makeMapG (K : κ → Value) (V : ν → Value) {t : TypeId} (h : SH w0 S w L) :
    XE P ⟨d, .makeMap t none, ty, ps, af, gd⟩ f w (fun v' w' => ∃ b, v' = .map (some b) ∧ SH w0 S w' (mapG K V b ([] : List (κ × ν)) :: L) ∧ KB No w w') := by
  refine ⟨.map (some w.heap.size), w.alloc (.map #[] 0), fun a ha => ?_, _, rfl, h.more (KB.alloc w _) (mapG_ok (kv := ([] : List (κ × ν))) ⟨#[], 0, (by show (w.heap.push _)[w.heap.size]? = _; simp), rfl, stamped_empty 0⟩) (by simp [mapG]) (fun k hk => by simp [mapG] at hk; omega), KB.alloc w _⟩
  simp [execOp, Instr.makeMap]
omit [DecidableEq κ] in
theorem LV.lenMG {t : TypeId} {x : Operand} {k e : TypeId} (ht : P.underlying t = some (.map k e)) (hm : MapG K V r kv w) (hx : ev f x = some (.map (some r))) :
    LV P ⟨d, .call { callee := .builtin .len, args := #[x], argTypes := #[t] }, ty, ps, af, gd⟩ f w (.int .i64 kv.length) := fun a ha => by
  obtain ⟨es, c, hm, he, _⟩ := hm
  have hl : es.size = kv.length := by
    have := congrArg List.length he
    simpa [EntsOf] using this
  simp [execOp, resolve, invoke, builtin, ev_eval ha hx, Builtin.len_, run_underlying ht, getM hm, goInt, hl]
theorem LV.lookG {t k e : TypeId} {x y : Operand} {q : κ} {z : ν} {size bytes : Nat} (hk : KeyOK P k K) (ht : P.underlying t = some (.map k e)) (hi : TI P e (V z) size bytes) (hm : MapG K V r kv w) (hx : ev f x = some (.map (some r))) (hy : ev f y = some (K q)) :
    LV P ⟨d, .lookup t x y false, ty, ps, af, gd⟩ f w (V ((lookL kv q).getD z)) := fun a ha => by
  obtain ⟨i, hj, hz, _, _⟩ := hi.get
  obtain ⟨es, c, hm, he, _⟩ := hm
  simp only [execOp, ev_eval ha hx, ev_eval ha hy, Instr.lookup, Sem.run_bind, run_underlying ht, Result.andThen_ok, getM hm, Sem.run_pure, hk.chk, findG hk w kv es.toList he]
  rw [← spot_look kv q 0]
  cases hs : spot kv q 0 with
  | none => simp [zeroValue, typeInfo, hj, hz]
  | some p => simp
theorem LV.lookOkG {t k e : TypeId} {x y : Operand} {q : κ} {z : ν} {size bytes : Nat} (hk : KeyOK P k K) (ht : P.underlying t = some (.map k e)) (hi : TI P e (V z) size bytes) (hm : MapG K V r kv w) (hx : ev f x = some (.map (some r))) (hy : ev f y = some (K q)) :
    LV P ⟨d, .lookup t x y true, ty, ps, af, gd⟩ f w (.tuple #[V ((lookL kv q).getD z), .bool (lookL kv q).isSome]) := fun a ha => by
  obtain ⟨i, hj, hz, _, _⟩ := hi.get
  obtain ⟨es, c, hm, he, _⟩ := hm
  simp only [execOp, ev_eval ha hx, ev_eval ha hy, Instr.lookup, Sem.run_bind, run_underlying ht, Result.andThen_ok, getM hm, Sem.run_pure, hk.chk, findG hk w kv es.toList he]
  rw [← spot_look kv q 0]
  cases hs : spot kv q 0 with
  | none => simp [zeroValue, typeInfo, hj, hz]
  | some p => simp
/-- Where a key stands: what an update does to entries. -/
theorem entsOf_upd (hK : ∀ {a b : κ}, K a = K b → a = b) : ∀ (kv : List (κ × ν)) (es : List MapEntry) (q : κ) (v : ν) (j : Nat), EntsOf K V es kv →
    match spot kv q j with
    | none => EntsOf K V (es ++ [({ key := K q, val := V v, born := 0 } : MapEntry)]) (updL kv q v) ∧ (∀ e ∈ es, e.key ≠ K q)
    | some p => j ≤ p.1 ∧ p.1 - j < es.length ∧ ((es[p.1 - j]?).map (·.key)) = some (K q) ∧ EntsOf K V (es.modify (p.1 - j) fun e => { e with key := K q, val := V v }) (updL kv q v) ∧ EntsOf K V (es.eraseIdx (p.1 - j)) (delL kv q)
  | [], es, q, v, j, h => by
    obtain rfl := EntsOf.nil_iff.1 h
    simp [spot, updL, EntsOf]
  | p :: kv, es, q, v, j, h => by
    obtain ⟨e, es', rfl, h1, h2, h3⟩ := h.cons_inv
    unfold spot
    by_cases hp : p.1 = q
    · rw [if_pos hp]
      subst hp
      simp only [Nat.sub_self]
      refine ⟨Nat.le_refl _, by simp, by simp [h1], ?_, ?_⟩
      · rw [updL, if_pos rfl]
        unfold EntsOf at h3 ⊢
        simp [h3]
      · rw [delL, if_pos rfl]; exact h3
    · rw [if_neg hp]
      have ih := entsOf_upd hK kv es' q v (j + 1) h3
      cases hs : spot kv q (j + 1) with
      | none =>
        rw [hs] at ih
        simp only at ih ⊢
        refine ⟨?_, fun x hx => ?_⟩
        · rw [updL, if_neg hp]
          have := ih.1
          unfold EntsOf at this ⊢
          simp only [List.cons_append, List.map_cons, h1, h2]
          rw [this]
        · rcases List.mem_cons.1 hx with rfl | hx
          · rw [h1]; exact fun e => hp (hK e)
          · exact ih.2 x hx
      | some u =>
        rw [hs] at ih
        simp only at ih ⊢
        obtain ⟨g1, g2, g3, g4, g5⟩ := ih
        have e : u.1 - j = (u.1 - (j + 1)) + 1 := by omega
        rw [e]
        refine ⟨by omega, by simp only [List.length_cons]; omega, by simpa using g3, ?_, ?_⟩
        · rw [updL, if_neg hp]
          unfold EntsOf at g4 ⊢
          simp only [List.modify_succ_cons, List.map_cons, h1, h2]
          rw [g4]
        · rw [delL, if_neg hp]
          unfold EntsOf at g5 ⊢
          simp only [List.eraseIdx_cons_succ, List.map_cons, h1, h2]
          rw [g5]
theorem kb_set (w : World) (r : Nat) (o : Obj) : KB (· = r) w { w with heap := w.heap.setIfInBounds r o } := ⟨rfl, rfl, rfl, fun _ => Nat.le_refl _, by simp, fun i _ hi => by
  show (w.heap.setIfInBounds r o)[i]? = _
  rw [Array.getElem?_setIfInBounds, if_neg (fun e => hi e.symm)]⟩
omit [DecidableEq κ] in
theorem SH.putG {kv' : List (κ × ν)} {es' : Array MapEntry} {c' : Nat} {o : Obj} (h : SH w0 S w (mapG K V r kv :: L)) (ho : o = .map es' c') (he : EntsOf K V es'.toList kv') (hs : Stamped es' c') :
    SH w0 S { w with heap := w.heap.setIfInBounds r o } (mapG K V r kv' :: L) := by
  obtain ⟨es, c, hm, _⟩ := (show MapG K V r kv w from h.hd)
  have hlt := (Array.getElem?_eq_some_iff.1 hm).1
  refine h.upd (e' := mapG K V r kv') ((kb_set w r o).mono fun i hi => by simp [mapG, hi]) (mapG_ok ⟨es', c', ?_, he, hs⟩) (by simp [mapG]) (fun k hk => .inl hk)
  subst ho
  show (w.heap.setIfInBounds r _)[r]? = _
  simp [hlt]
theorem XSE.mapUpdG {t k e : TypeId} {x y z : Operand} {q : κ} {v : ν} (hk : KeyOK P k K) (h : SH w0 S w (mapG K V r kv :: L)) (ht : P.underlying t = some (.map k e)) (hx : ev f x = some (.map (some r))) (hy : ev f y = some (K q)) (hz : ev f z = some (V v)) :
    XSE P ⟨d, .mapUpdate t x y z, ty, ps, af, gd⟩ f w (fun w' => SH w0 S w' (mapG K V r (updL kv q v) :: L) ∧ KB (· = r) w w') := by
  obtain ⟨es, c, hm, he, hst⟩ := (show MapG K V r kv w from h.hd)
  have hu := entsOf_upd (fun h => keyInj hk h) kv es.toList q v 0 he
  cases hs : spot kv q 0 with
  | none =>
    rw [hs] at hu
    simp only at hu
    refine ⟨{ w with heap := w.heap.setIfInBounds r (.map (es.push { key := K q, val := V v, born := c }) (c + 1)) }, fun a ha => ?_, SH.putG h rfl ?_ (stamped_push hst hu.2), kb_set _ _ _⟩
    · simp only [execOp, ev_eval ha hx, ev_eval ha hy, ev_eval ha hz, Instr.mapUpdate, Sem.run_bind, run_underlying ht, Result.andThen_ok, getM hm, hk.chk, findG hk w kv es.toList he, hs, Option.map_none, setM _ hm, Sem.run_pure]
    · have := hu.1
      unfold EntsOf at this ⊢
      rw [Array.toList_push]
      rw [← this]
      simp
  | some p =>
    rw [hs] at hu
    simp only [Nat.sub_zero, Nat.zero_le, true_and] at hu
    obtain ⟨h1, h2, h3, _⟩ := hu
    have h5 : ((es[p.1]?).map (·.key)) = some (K q) := by rw [← Array.getElem?_toList]; exact h2
    refine ⟨{ w with heap := w.heap.setIfInBounds r (.map (es.modify p.1 fun e => { e with key := K q, val := V v }) c) }, fun a ha => ?_, SH.putG h rfl ?_ (stamped_modify hst _ _ (fun _ _ => rfl) (fun e _ hj => by rw [hj] at h5; exact (Option.some.inj h5).symm)), kb_set _ _ _⟩
    · have h6 : ((es[p.1]?).map (·.key)).getD (K q) = K q := by rw [h5]; rfl
      simp only [execOp, ev_eval ha hx, ev_eval ha hy, ev_eval ha hz, Instr.mapUpdate, Sem.run_bind, run_underlying ht, Result.andThen_ok, getM hm, hk.chk, findG hk w kv es.toList he, hs, Option.map_some, h6, Instr.keyThatStays, hk.bits, if_true, setM _ hm, Sem.run_pure]
    · rw [Array.toList_modify]; exact h3
/-- 'delete(m, k)'. -/
theorem XE.mapDelG {t k e : TypeId} {x y : Operand} {q : κ} (hk : KeyOK P k K) (h : SH w0 S w (mapG K V r kv :: L)) (ht : P.underlying t = some (.map k e)) (hx : ev f x = some (.map (some r))) (hy : ev f y = some (K q)) :
    XE P ⟨d, .call { callee := .builtin .delete, args := #[x, y], argTypes := #[t, k] }, ty, ps, af, gd⟩ f w (fun v' w' => v' = .tuple #[] ∧ SH w0 S w' (mapG K V r (delL kv q) :: L) ∧ KB (· = r) w w') := by
  obtain ⟨es, c, hm, he, hst⟩ := (show MapG K V r kv w from h.hd)
  have hspn : ∀ (kv : List (κ × ν)) (j : Nat), spot kv q j = none → delL kv q = kv := by
    intro kv
    induction kv with
    | nil => intro j _; rfl
    | cons p kv ih =>
      intro j hs
      unfold spot at hs
      split at hs
      · cases hs
      · rename_i hne
        rw [delL, if_neg hne, ih _ hs]
  cases hs : spot kv q 0 with
  | none =>
    refine ⟨.tuple #[], { w with heap := w.heap.setIfInBounds r (.map es c) }, fun a ha => ?_, rfl, SH.putG h rfl (by rw [hspn kv 0 hs]; exact he) hst, kb_set _ _ _⟩
    simp [execOp, resolve, invoke, builtin, ev_eval ha hx, ev_eval ha hy, Builtin.delete_, run_underlying ht, getM hm, hk.chk, findG hk w kv es.toList he, hs, setM _ hm]
  | some p =>
    obtain ⟨v0, hv0⟩ : ∃ v0 : ν, True := ⟨p.2, trivial⟩
    have hu := entsOf_upd (fun h => keyInj hk h) kv es.toList q p.2 0 he
    rw [hs] at hu
    simp only [Nat.sub_zero, Nat.zero_le, true_and] at hu
    refine ⟨.tuple #[], { w with heap := w.heap.setIfInBounds r (.map (es.eraseIdxIfInBounds p.1) c) }, fun a ha => ?_, rfl, SH.putG h rfl ?_ (stamped_erase hst _), kb_set _ _ _⟩
    · simp [execOp, resolve, invoke, builtin, ev_eval ha hx, ev_eval ha hy, Builtin.delete_, run_underlying ht, getM hm, hk.chk, findG hk w kv es.toList he, hs, setM _ hm]
    · have hlt : p.1 < es.size := by simpa using hu.1
      have : (es.eraseIdxIfInBounds p.1).toList = es.toList.eraseIdx p.1 := by
        unfold Array.eraseIdxIfInBounds
        rw [dif_pos hlt]; simp
      rw [this]; exact hu.2.2.2
end
end Go.Gv
/-! ### rows cut short -/
namespace Go.Gv
open Go Go.RowKit
section
variable {α : Type} {E : El α} {T : TypeId} {w0 w : World} {S : Nat → Prop} {L : List Ent}
theorem Row.short {A : Option Addr} {n c i : Nat} {xs : List α} (h : Row E T (.slice A n c) xs w) (hi : i ≤ xs.length) : Row E T (.slice A i c) (xs.take i) w := by
  obtain ⟨h1, h2⟩ := h
  refine ⟨E.cells_length _, ?_⟩
  have hl : (xs.take i).length = i := by rw [List.length_take]; omega
  rw [hl]
  rcases h2 with ⟨e, hz⟩ | ⟨g, cap, cur, e, hb, hg, hc, hm, hs, ht⟩
  · injection e with e1 e2 e3
    subst e1; subst e3
    left
    have : i = 0 := by omega
    subst this; exact ⟨rfl, rfl⟩
  · injection e with e1 e2 e3
    subst e1; subst e3
    right
    refine ⟨g, c, cur, rfl, hb, hg, by omega, hm, hs, ?_⟩
    have e4 : E.cells xs = E.cells (xs.take i) ++ E.cells (xs.drop i) := by rw [← El.cells_append, List.take_append_drop]
    have e5 : cur.toList.take (i * E.sz) = (cur.toList.take (xs.length * E.sz)).take (i * E.sz) := by
      rw [List.take_take, Nat.min_eq_left (Nat.mul_le_mul_right _ hi)]
    rw [e5, ht, e4, List.take_append_of_le_length (by rw [E.cells_length, hl]; exact Nat.le_refl _), List.take_of_length_le (by rw [E.cells_length, hl]; exact Nat.le_refl _)]
theorem SH.short {A : Option Addr} {n c i : Nat} {xs : List α} (h : SH w0 S w (rowE E T (.slice A n c) xs :: L)) (hi : i ≤ xs.length) : SH w0 S w (rowE E T (.slice A i c) (xs.take i) :: L) :=
  h.upd (KB.refl _ _) (Row.ok (Row.short h.hd hi)) (keys_nodup _) (fun k hk => .inl (by cases A <;> simp [rowE, Value.keys, Value.ownBlock] at hk ⊢ <;> exact hk))
end
/-! ### Several entries as one -/
def packE (Es : List Ent) : Ent := ⟨keys Es, fun w => ∀ e ∈ Es, e.Ok w⟩
section
variable {w0 w : World} {S : Nat → Prop} {L Es : List Ent}
theorem SH.pack (h : SH w0 S w (Es ++ L)) : SH w0 S w (packE Es :: L) := by
  refine ⟨h.kb, fun e he => ?_, by rw [keys_cons]; show (keys Es ++ keys L).Nodup; rw [← keys_append]; exact h.nd, fun k hk hl => h.new k (by rw [keys_append]; rw [keys_cons] at hk; exact hk) hl⟩
  rcases List.mem_cons.1 he with rfl | he
  · refine ⟨fun e he => h.ok e (List.mem_append_left _ he), fun k hk => ?_, fun w' hk hs e he => ?_⟩
    · obtain ⟨e, he, hke⟩ := List.mem_flatMap.1 (show k ∈ keys Es from hk)
      exact (h.ok e (List.mem_append_left _ he)).lt k hke
    · have ho := h.ok e (List.mem_append_left _ he)
      have hb : ∀ k ∈ e.ks, w'.heap[k]? = w.heap[k]? := fun k hke => hk k (mem_keys he hke)
      exact ⟨ho.loc w' hb hs, fun k h' => Nat.lt_of_lt_of_le (ho.lt k h') hs, fun v hv hs' => ho.loc v (fun k h' => (hv k h').trans (hb k h')) (Nat.le_trans hs hs')⟩
  · exact h.ok e (List.mem_append_right _ he)
theorem SH.unpack (h : SH w0 S w (packE Es :: L)) : SH w0 S w (Es ++ L) := by
  have hp : ∀ e ∈ Es, e.Ok w := h.hd
  refine ⟨h.kb, fun e he => ?_, by have := h.nd; rw [keys_cons] at this; rw [keys_append]; exact this, fun k hk hl => h.new k (by rw [keys_cons]; rw [keys_append] at hk; exact hk) hl⟩
  rcases List.mem_append.1 he with he | he
  · exact hp e he
  · exact h.ok e (List.mem_cons_of_mem _ he)
end
end Go.Gv

namespace Go.Idx
/-! ### texts in order -/
def ltB (a b : ByteArray) : Prop := a.data.toList < b.data.toList
instance (a b : ByteArray) : Decidable (ltB a b) := by unfold ltB; exact inferInstance
theorem bytes_ext {a b : ByteArray} (h : a.data.toList = b.data.toList) : a = b := by
  cases a; cases b; congr 1; exact Array.toList_inj.1 h
theorem ltB_irr (a : ByteArray) : ¬ ltB a a := List.lt_irrefl _
theorem ltB_trans {a b c : ByteArray} (h : ltB a b) (k : ltB b c) : ltB a c := List.lt_trans h k
theorem ltB_asym {a b : ByteArray} (h : ltB a b) : ¬ ltB b a := fun k => ltB_irr a (ltB_trans h k)
theorem ltB_tri (a b : ByteArray) : ltB a b ∨ a = b ∨ ltB b a := by
  by_cases h : ltB a b
  · exact .inl h
  · by_cases k : ltB b a
    · exact .inr (.inr k)
    · exact .inr (.inl (bytes_ext (List.le_antisymm (List.not_lt.1 k) (List.not_lt.1 h))))
theorem ltB_of_not {a b : ByteArray} (h : ¬ ltB a b) (hne : a ≠ b) : ltB b a := (ltB_tri a b).elim (fun h' => absurd h' h) (fun h' => h'.elim (fun e => absurd e hne) id)
def CMPB (a b : ByteArray) : Int := if ltB a b then -1 else if ltB b a then 1 else 0
theorem cmpb_is (a b : ByteArray) : (ltB a b ∧ CMPB a b = -1) ∨ (a = b ∧ CMPB a b = 0) ∨ (ltB b a ∧ CMPB a b = 1) := by
  unfold CMPB
  rcases ltB_tri a b with h | h | h
  · left; exact ⟨h, if_pos h⟩
  · right; left; subst h; exact ⟨rfl, by rw [if_neg (ltB_irr _), if_neg (ltB_irr _)]⟩
  · right; right; exact ⟨h, by rw [if_neg (ltB_asym h), if_pos h]⟩
end Go.Idx

namespace Go.Gv
open Go Go.Idx
/-- A text and a number. -/
abbrev En := ByteArray × Int
def eSI : El En := ⟨2, fun x => [.string x.1, .int .i64 x.2], fun _ => rfl, fun _ u h => by simp at h; rcases h with rfl | rfl <;> rfl⟩
section
variable {P : Program} {f : Env} {w : World} {d : Option Tmp} {ty : TypeId} {ps : String} {af : Array Edge} {gd : Option (Nat × Bool)}
theorem LV.ltS {t t2 : TypeId} {x y : Operand} {a b : ByteArray} (hx : ev f x = some (.string a)) (hy : ev f y = some (.string b)) : LV P ⟨d, .binOp .lss t x y t2, ty, ps, af, gd⟩ f w (.bool (decide (ltB a b))) := fun e he => by
  have h : Op.bytesLess a.toList b.toList = decide (ltB a b) := by rw [Proofs.bytesLess_eq, Lib.toList_data, Lib.toList_data]; rfl
  simp [execOp, ev_eval he hx, ev_eval he hy, eqGuard, binOp, Op.stringOp, h]
theorem LV.geS {t t2 : TypeId} {x y : Operand} {a b : ByteArray} (hx : ev f x = some (.string a)) (hy : ev f y = some (.string b)) : LV P ⟨d, .binOp .geq t x y t2, ty, ps, af, gd⟩ f w (.bool (decide (¬ ltB a b))) := fun e he => by
  have h : Op.bytesLess a.toList b.toList = decide (ltB a b) := by rw [Proofs.bytesLess_eq, Lib.toList_data, Lib.toList_data]; rfl
  simp [execOp, ev_eval he hx, ev_eval he hy, eqGuard, binOp, Op.stringOp, h]
theorem LV.gtS {t t2 : TypeId} {x y : Operand} {a b : ByteArray} (hx : ev f x = some (.string a)) (hy : ev f y = some (.string b)) : LV P ⟨d, .binOp .gtr t x y t2, ty, ps, af, gd⟩ f w (.bool (decide (ltB b a))) := fun e he => by
  have h1 : Op.bytesLess a.toList b.toList = decide (ltB a b) := by rw [Proofs.bytesLess_eq, Lib.toList_data, Lib.toList_data]; rfl
  have h : (!(decide (ltB a b) || (a.toList == b.toList))) = decide (ltB b a) := by
    rw [Lib.toList_data, Lib.toList_data]
    rcases ltB_tri a b with h | h | h
    · rw [decide_eq_true h, decide_eq_false (ltB_asym h)]; rfl
    · subst h; rw [decide_eq_false (ltB_irr a)]; simp
    · have hne : ¬ a.data.toList = b.data.toList := fun e => ltB_irr a (bytes_ext e ▸ h)
      rw [decide_eq_false (ltB_asym h), decide_eq_true h, beq_eq_false_iff_ne.2 hne]; rfl
  simp [execOp, ev_eval he hx, ev_eval he hy, eqGuard, binOp, Op.stringOp, h1]
  simpa using h
end
end Go.Gv

namespace Go.Gv
/-- A text and a slice. -/
def eSV : El (ByteArray × SV) := ⟨2, fun x => [.string x.1, x.2.v], fun _ => rfl, fun _ u h => by simp at h; rcases h with rfl | rfl <;> rfl⟩
end Go.Gv
namespace Go.Idx
open Go Go.Gv Go.Wds Go.Tly
instance : ReflBEq ByteArray := ⟨by intro a; rw [beq_bytes]; simp⟩
instance : LawfulBEq ByteArray := ⟨by intro a b h; rw [beq_bytes] at h; simpa using h⟩
/-- Two rows in strict order that hold the same are one. -/
theorem strict_uniq {α : Type} {R : α → α → Prop} (irr : ∀ a, ¬ R a a) (tr : ∀ {a b c}, R a b → R b c → R a c) : ∀ {l m : List α}, l.Pairwise R → m.Pairwise R → (∀ a, a ∈ l ↔ a ∈ m) → l = m
  | [], m, _, _, h => by
    cases m with
    | nil => rfl
    | cons b m => exact absurd ((h b).2 (.head _)) (by simp)
  | a :: l, [], _, _, h => absurd ((h a).1 (.head _)) (by simp)
  | a :: l, b :: m, hl, hm, h => by
    rw [List.pairwise_cons] at hl hm
    have hab : a = b := by
      rcases List.mem_cons.1 ((h a).1 (.head _)) with e | e
      · exact e
      · rcases List.mem_cons.1 ((h b).2 (.head _)) with e' | e'
        · exact e'.symm
        · exact absurd (tr (hl.1 b e') (hm.1 a e)) (irr a)
    subst hab
    rw [strict_uniq irr tr hl.2 hm.2 fun x => ?_]
    constructor
    · intro hx
      rcases List.mem_cons.1 ((h x).1 (.tail _ hx)) with e | e
      · subst e; exact absurd (hl.1 x hx) (irr x)
      · exact e
    · intro hx
      rcases List.mem_cons.1 ((h x).2 (.tail _ hx)) with e | e
      · subst e; exact absurd (hm.1 x hx) (irr x)
      · exact e
abbrev SS (l : List ByteArray) : Prop := l.Pairwise ltB
theorem ss_uniq {l m : List ByteArray} (hl : SS l) (hm : SS m) (h : ∀ a, a ∈ l ↔ a ∈ m) : l = m := strict_uniq ltB_irr ltB_trans hl hm h
theorem ss_nodup {l : List ByteArray} (h : SS l) : l.Nodup := h.imp fun {a b} hab e => by subst e; exact ltB_irr _ hab
/-- A text goes where it belongs, if it is not there. -/
def INSB (x : ByteArray) : List ByteArray → List ByteArray
  | [] => [x]
  | y :: l => if ltB y x then y :: INSB x l else if y = x then y :: l else x :: y :: l
theorem INSB_mem (x a : ByteArray) (l : List ByteArray) : a ∈ INSB x l ↔ a = x ∨ a ∈ l := by
  induction l with
  | nil => simp [INSB]
  | cons y l ih =>
    unfold INSB
    split
    · simp only [List.mem_cons, ih]; constructor <;> (intro h; rcases h with h | h | h <;> simp [h])
    · split
      · rename_i h; subst h; simp only [List.mem_cons]; constructor
        · intro h; exact .inr h
        · intro h; rcases h with h | h
          · exact .inl h
          · exact h
      · simp only [List.mem_cons]
theorem INSB_ss (x : ByteArray) {l : List ByteArray} (h : SS l) : SS (INSB x l) := by
  induction l with
  | nil => simp [INSB, SS]
  | cons y l ih =>
    unfold SS at h
    rw [List.pairwise_cons] at h
    unfold INSB
    split
    · rename_i hy
      refine List.pairwise_cons.2 ⟨fun a ha => ?_, ih h.2⟩
      rcases (INSB_mem x a l).1 ha with e | e
      · subst e; exact hy
      · exact h.1 a e
    · split
      · exact List.pairwise_cons.2 h
      · rename_i h1 h2
        have hxy := ltB_of_not h1 h2
        refine List.pairwise_cons.2 ⟨fun a ha => ?_, List.pairwise_cons.2 h⟩
        rcases List.mem_cons.1 ha with e | e
        · subst e; exact hxy
        · exact ltB_trans hxy (h.1 a e)
def SRTB (l : List ByteArray) : List ByteArray := l.foldl (fun s x => INSB x s) []
theorem SRTB_fold : ∀ (l s : List ByteArray), SS s → SS (l.foldl (fun s x => INSB x s) s) ∧ ∀ a, a ∈ l.foldl (fun s x => INSB x s) s ↔ a ∈ l ∨ a ∈ s
  | [], s, h => ⟨h, fun a => by simp⟩
  | x :: l, s, h => by
    obtain ⟨h1, h2⟩ := SRTB_fold l (INSB x s) (INSB_ss x h)
    refine ⟨h1, fun a => ?_⟩
    rw [List.foldl_cons, h2, INSB_mem, List.mem_cons]
    constructor
    · rintro (h | h | h) <;> simp [h]
    · rintro ((h | h) | h) <;> simp [h]
theorem SRTB_ss (l : List ByteArray) : SS (SRTB l) := (SRTB_fold l [] List.Pairwise.nil).1
theorem SRTB_mem (l : List ByteArray) (a : ByteArray) : a ∈ SRTB l ↔ a ∈ l := by
  have := (SRTB_fold l [] List.Pairwise.nil).2 a
  simpa [SRTB] using this
theorem srtb_of {l m : List ByteArray} (h : SS m) (hm : ∀ a, a ∈ m ↔ a ∈ l) : m = SRTB l := ss_uniq h (SRTB_ss l) fun a => by rw [hm, SRTB_mem]
theorem nodup_len {α : Type} [DecidableEq α] : ∀ {a b : List α}, a.Nodup → (∀ x ∈ a, x ∈ b) → a.length ≤ b.length
  | [], _, _, _ => Nat.zero_le _
  | x :: a, b, hn, h => by
    rw [List.nodup_cons] at hn
    have hx := h x (.head _)
    have := nodup_len (b := b.erase x) hn.2 (fun y hy => (List.mem_erase_of_ne (fun e => hn.1 (by rw [← e]; exact hy))).2 (h y (.tail _ hy)))
    rw [List.length_erase_of_mem hx] at this
    have := List.length_pos_of_mem hx
    simp only [List.length_cons]; omega
theorem SRTB_len (l : List ByteArray) : (SRTB l).length ≤ l.length := nodup_len (ss_nodup (SRTB_ss l)) fun x h => (SRTB_mem l x).1 h
/-! ### small letters, words -/
def low1 (c : Int) : Int := if c ≥ 65 ∧ c ≤ 90 then c + 32 else c
def LOW (s : ByteArray) : ByteArray := strOfNums ((bytesOf s).map low1)
theorem byte_mem {s : ByteArray} {c : Int} (h : c ∈ bytesOf s) : 0 ≤ c ∧ c ≤ 255 := by
  obtain ⟨k, hk, e⟩ := List.mem_iff_getElem.1 h
  have := byte_bd s (k : Int)
  rw [Int.toNat_natCast, List.getD_eq_getElem?_getD, List.getElem?_eq_getElem hk] at this
  rw [← e]; exact this
theorem bytes_of_strOf (l : List Int) (h : ∀ c ∈ l, 0 ≤ c ∧ c ≤ 255) : bytesOf (strOfNums l) = l := by
  unfold bytesOf strOfNums
  simp only [List.map_map]
  refine (List.map_congr_left fun c hc => ?_).trans (List.map_id l)
  have := h c hc
  have e : c.toNat < 256 := by omega
  show (((UInt8.ofNat c.toNat).toNat : Nat) : Int) = c
  rw [UInt8.toNat_ofNat_of_lt' (by simpa using e)]; omega
theorem low1_bd {c : Int} (h : 0 ≤ c ∧ c ≤ 255) : 0 ≤ low1 c ∧ low1 c ≤ 255 := by unfold low1; split <;> omega
theorem low_bytes (s : ByteArray) : bytesOf (LOW s) = (bytesOf s).map low1 := bytes_of_strOf _ fun c hc => by
  obtain ⟨d, hd, rfl⟩ := List.mem_map.1 hc
  exact low1_bd (byte_mem hd)
theorem low1_low (c : Int) : low1 (low1 c) = low1 c := by
  unfold low1
  by_cases h : c ≥ 65 ∧ c ≤ 90
  · rw [if_pos h, if_neg (by omega)]
  · rw [if_neg h, if_neg h]
theorem LOW_LOW (s : ByteArray) : LOW (LOW s) = LOW s := bytesOf_inj (by rw [low_bytes, low_bytes, List.map_map]; exact List.map_congr_left fun c _ => low1_low c)
def ISW (t : ByteArray) : Prop := (gI (bytesOf t) 0 ≥ 48 ∧ gI (bytesOf t) 0 ≤ 57) ∨ (gI (bytesOf t) 0 ≥ 65 ∧ gI (bytesOf t) 0 ≤ 90) ∨ (gI (bytesOf t) 0 ≥ 97 ∧ gI (bytesOf t) 0 ≤ 122) ∨ gI (bytesOf t) 0 = 95
instance (t : ByteArray) : Decidable (ISW t) := by unfold ISW; exact inferInstance
def WDL (l : List ByteArray) : List ByteArray := (l.filter fun t => decide (ISW t)).map LOW
theorem WDL_at {l : List ByteArray} {i : Int} (h0 : 0 ≤ i) (h1 : i < l.length) : WDL (l.take (i + 1).toNat) = if ISW (l.getD i.toNat ByteArray.empty) then WDL (l.take i.toNat) ++ [LOW (l.getD i.toNat ByteArray.empty)] else WDL (l.take i.toNat) := by
  unfold WDL
  have e := Num.take_more ByteArray.empty h0 h1
  rw [e, List.filter_append, List.map_append]
  by_cases h : ISW (l.getD i.toNat ByteArray.empty)
  · rw [if_pos h, List.filter_cons, if_pos (by simpa using h)]; rfl
  · rw [if_neg h, List.filter_cons, if_neg (by simpa using h)]; simp
theorem WDL_len (l : List ByteArray) : (WDL l).length ≤ l.length := by unfold WDL; rw [List.length_map]; exact List.length_filter_le _ _
/-- A text's words. -/
def OF (s : ByteArray) : List ByteArray := SRTB (WDL (TOK s))
theorem of_low {s w : ByteArray} (h : w ∈ OF s) : LOW w = w := by
  obtain ⟨t, _, rfl⟩ := List.mem_map.1 ((SRTB_mem _ _).1 h)
  exact LOW_LOW t
end Go.Idx

