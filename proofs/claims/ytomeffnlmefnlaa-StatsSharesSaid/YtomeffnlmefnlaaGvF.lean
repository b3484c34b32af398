/- Rows of rows, copies, a call's share of memory. -/
import Derived.Test.YtomeffnlmefnlaaGvE
import Derived.Laws.IdiomCopy
namespace Go.Gv
open Go Go.RowKit

section
variable {w0 w w' : World} {S S' : Nat → Prop} {L L' Es Es' A B : List Ent} {e : Ent}
theorem keys_perm (h : L.Perm L') : (keys L).Perm (keys L') := h.flatMap_right _
theorem SH.perm (h : SH w0 S w L) (hp : L.Perm L') : SH w0 S w L' :=
  ⟨h.kb, fun e he => h.ok e (hp.mem_iff.2 he), (keys_perm hp).nodup_iff.1 h.nd, fun k hk => h.new k ((keys_perm hp).mem_iff.2 hk)⟩
/-- What a call gets: its own entries, whose blocks it may change. -/
theorem SH.sub (h : SH w0 S w (Es ++ L)) : SH w (· ∈ keys Es) w Es :=
  ⟨KB.refl _ _, fun e he => h.ok e (List.mem_append_left _ he), (by have := h.nd; rw [keys_append] at this; exact (List.nodup_append.1 this).1), fun _ hk _ => hk⟩
theorem SH.back (h : SH w0 S w (Es ++ L)) (k : SH w (· ∈ keys Es) w' Es') : SH w0 S w' (Es' ++ L) := h.join k fun _ h => h
theorem SH.stA {p : World → Prop} (h : SH w0 S w (Es ++ L)) (hp : St S w0 p) : St (· ∈ keys Es) w p := h.st hp fun k hk => by rw [keys_append]; exact List.mem_append_left _ hk
theorem SH.stE (h : SH w0 S w (Es ++ L)) (he : e ∈ L) : St (· ∈ keys Es) w e.p := fun w' hk => ((h.ok e (List.mem_append_right _ he)).kept hk fun k hk' hm => by
  have := h.nd
  rw [keys_append, List.nodup_append] at this
  exact this.2.2 k hm k (mem_keys he hk') rfl).now
end

/-! ### Rows of rows -/
def rrE {α : Type} (E : El α) (T2 T1 : TypeId) (v : Value) (rows : List (SV × List α)) : Ent :=
  ⟨Value.keys v ++ rows.flatMap (fun p => Value.keys p.1.v), fun w => Row eV T2 v (rows.map (·.1)) w ∧ ∀ p ∈ rows, Row E T1 p.1.v p.2 w⟩
def inE {α : Type} (E : El α) (T1 : TypeId) (p : SV × List α) : Ent := rowE E T1 p.1.v p.2
section
variable {α : Type} {E : El α} {T2 T1 : TypeId} {v : Value} {rows : List (SV × List α)} {w0 w w' : World} {S : Nat → Prop} {L : List Ent}
theorem keys_in (rows : List (SV × List α)) : keys (rows.map (inE E T1)) = rows.flatMap (fun p => Value.keys p.1.v) := by
  induction rows with
  | nil => rfl
  | cons p rows ih => rw [List.map_cons, keys_cons, ih]; simp [inE, rowE]
theorem SH.unrr (h : SH w0 S w (rrE E T2 T1 v rows :: L)) : SH w0 S w (rowE eV T2 v (rows.map (·.1)) :: (rows.map (inE E T1) ++ L)) := by
  have hk : keys (rowE eV T2 v (rows.map (·.1)) :: (rows.map (inE E T1) ++ L)) = keys (rrE E T2 T1 v rows :: L) := by
    rw [keys_cons, keys_append, keys_in, keys_cons]
    simp [rowE, rrE]
  have hp : Row eV T2 v (rows.map (·.1)) w ∧ ∀ p ∈ rows, Row E T1 p.1.v p.2 w := h.hd
  refine ⟨h.kb, fun e he => ?_, hk ▸ h.nd, fun k hk' => h.new k (hk ▸ hk')⟩
  simp only [List.mem_cons, List.mem_append, List.mem_map] at he
  rcases he with rfl | ⟨p, hpm, rfl⟩ | he
  · exact Row.ok hp.1
  · exact Row.ok (hp.2 p hpm)
  · exact h.ok e (List.mem_cons_of_mem _ he)
theorem rr_ok (h1 : Row eV T2 v (rows.map (·.1)) w) (h2 : ∀ p ∈ rows, Row E T1 p.1.v p.2 w) : (rrE E T2 T1 v rows).Ok w := by
  refine ⟨⟨h1, h2⟩, fun k hk => ?_, fun w' hk hs => ⟨?_, fun p hp => ?_⟩⟩
  · simp only [rrE, List.mem_append, List.mem_flatMap] at hk
    rcases hk with hk | ⟨p, hp, hk⟩
    · exact Row.lt h1 k hk
    · exact Row.lt (h2 p hp) k hk
  · exact (Row.ok h1).loc w' (fun k hk' => hk k (by simp only [rrE, List.mem_append]; exact .inl hk')) hs
  · exact (Row.ok (h2 p hp)).loc w' (fun k hk' => hk k (by simp only [rrE, List.mem_append, List.mem_flatMap]; exact .inr ⟨p, hp, hk'⟩)) hs
theorem SH.rr (h : SH w0 S w (rowE eV T2 v (rows.map (·.1)) :: (rows.map (inE E T1) ++ L))) : SH w0 S w (rrE E T2 T1 v rows :: L) := by
  have hk : keys (rowE eV T2 v (rows.map (·.1)) :: (rows.map (inE E T1) ++ L)) = keys (rrE E T2 T1 v rows :: L) := by
    rw [keys_cons, keys_append, keys_in, keys_cons]
    simp [rowE, rrE]
  refine ⟨h.kb, fun e he => ?_, hk ▸ h.nd, fun k hk' => h.new k (hk ▸ hk')⟩
  simp only [List.mem_cons] at he
  rcases he with rfl | he
  · exact rr_ok h.hd fun p hp => (h.ok (inE E T1 p) (List.mem_cons_of_mem _ (List.mem_append_left _ (List.mem_map_of_mem hp)))).now
  · exact h.ok e (List.mem_cons_of_mem _ (List.mem_append_right _ he))
/-- One row more. -/
theorem SH.rrMore {v' : Value} {sv : SV} {xs : List α} {vx : Value} (hv : sv.v = vx) (h : SH w0 S w (rowE eV T2 v' (rows.map (·.1) ++ [sv]) :: (rows.map (inE E T1) ++ rowE E T1 vx xs :: L))) : SH w0 S w (rrE E T2 T1 v' (rows ++ [(sv, xs)]) :: L) := by
  subst hv
  refine SH.rr ?_
  simp only [List.map_append, List.map_cons, List.map_nil, List.append_assoc, List.cons_append, List.nil_append]
  exact h
theorem SH.rr0 (h : SH w0 S w (rowE eV T2 v [] :: L)) : SH w0 S w (rrE E T2 T1 v ([] : List (SV × List α)) :: L) := SH.rr (rows := []) h

/-! #### rows of rows that are read -/
def RdRR {α : Type} (E : El α) (v : Value) (rows : List (SV × List α)) (w : World) : Prop := Rd eV v (rows.map (·.1)) w ∧ ∀ p ∈ rows, Rd E p.1.v p.2 w
theorem rr_rd (h : Row eV T2 v (rows.map (·.1)) w ∧ ∀ p ∈ rows, Row E T1 p.1.v p.2 w) : RdRR E v rows w := ⟨Row.rd h.1, fun p hp => Row.rd (h.2 p hp)⟩
theorem SH.rdRR (h : SH w0 S w L) (he : rrE E T2 T1 v rows ∈ L) : St No w (RdRR E v rows) := (h.steN he).imp fun _ h => rr_rd h
theorem RdRR.stN (h : RdRR E v rows w) : St No w (RdRR E v rows) := fun w' hk => ⟨Rd.stN h.1 w' hk, fun p hp => Rd.stN (h.2 p hp) w' hk⟩
theorem getD_mem {β : Type} {l : List β} {i : Nat} {d : β} (h : i < l.length) : l.getD i d ∈ l := by
  simp only [List.getD, h, List.getElem?_eq_getElem, Option.getD_some]
  exact List.getElem_mem h
theorem St.eltRR (h : St S w (RdRR E v rows)) (d : SV × List α) (i : Int) (h0 : 0 ≤ i) (h1 : i < rows.length) :
    ∃ A c A1 c1, v = .slice (some A) rows.length c ∧ (∀ w', KB No w w' → w'.cell? (A.add (i.toNat * 1)) = some (.slice A1 (rows.getD i.toNat d).2.length c1)) ∧
      (rows.getD i.toNat d).1.v = .slice A1 (rows.getD i.toNat d).2.length c1 ∧ St S w (Rd E (.slice A1 (rows.getD i.toNat d).2.length c1) (rows.getD i.toNat d).2) := by
  have hlt : i.toNat < rows.length := by omega
  have hm := getD_mem (d := d) hlt
  obtain ⟨A, c, e, g⟩ := St.elt ((h.mono fun _ h => h.elim).imp fun _ h => h.1) d.1 i h0 (by simpa using h1)
  obtain ⟨A1, c1, e1⟩ := (h.now.2 _ hm).len
  have hd : (rows.map (·.1)).getD i.toNat d.1 = (rows.getD i.toNat d).1 := by simp [List.getD, hlt]
  refine ⟨A, c, A1, c1, by rw [e, List.length_map], fun w' hk => ?_, e1, h.imp fun w' hw => by rw [← e1]; exact hw.2 _ hm⟩
  have := g w' hk 0 _ (by rw [hd]; rfl)
  rw [← e1]
  exact this
end

section
variable {P : Program} {f : Env} {w : World} {d : Option Tmp} {ty : TypeId} {ps : String} {af : Array Edge} {gd : Option (Nat × Bool)} {w0 : World} {S : Nat → Prop} {L : List Ent}
/-- 'append(rows, row)', the row one's own: it goes into the rows. -/
theorem XE.appendRR {α : Type} {E : El α} {t e T1 : TypeId} {bytes : Nat} {v vb vx : Value} {rows : List (SV × List α)} {sv : SV} {xs : List α} {x y : Operand}
    (h : SH w0 S w (rrE E e T1 v rows :: rowE E T1 vx xs :: L)) (hv : sv.v = vx) (ht : P.underlying t = some (.slice e)) (hi : TI P e (.slice none 0 0) 1 bytes) (hy : Rd eV vb [sv] w) (hx1 : ev f x = some v) (hx2 : ev f y = some vb)
    (hb : (rows.length + 1) * bytes ≤ 140737488355328) (hb2 : rows.length + 1 ≤ 140737488355328) :
    XE P ⟨d, .call { callee := .builtin .append, args := #[x, y], argTypes := #[t, t] }, ty, ps, af, gd⟩ f w (fun v' w' =>
      ∃ A c, v' = .slice A (rows ++ [(sv, xs)]).length c ∧ SH w0 S w' (rrE E e T1 (.slice A (rows ++ [(sv, xs)]).length c) (rows ++ [(sv, xs)]) :: L) ∧ KB (· ∈ Value.keys v) w w') := by
  obtain ⟨v', w', h1, A, c, e1, h2, h3⟩ := XE.append (d := d) (ty := ty) (ps := ps) (af := af) (gd := gd) (h.unrr) ht hi rfl hy hx1 hx2 (by simpa using hb) (by simpa using hb2)
  refine ⟨v', w', h1, A, c, by rw [e1]; simp, ?_, h3⟩
  have hl : (rows.map (·.1) ++ [sv]).length = (rows ++ [(sv, xs)]).length := by simp
  rw [hl] at h2
  exact SH.rrMore hv h2

/-- 'copy' of one whole row into another one of the same length. -/
theorem XE.copy {α : Type} {E : El α} {t t2 e : TypeId} {v v2 : Value} {xs ys : List α} {x y : Operand} (h : SH w0 S w (rowE E e v xs :: L)) (ht : P.underlying t = some (.slice e)) (hz : (P.info? e).map (·.size) = some 1) (hE : E.sz = 1)
    (hy : Rd E v2 ys w) (hl : xs.length = ys.length) (hx1 : ev f x = some v) (hx2 : ev f y = some v2) :
    XE P ⟨d, .call { callee := .builtin .copy, args := #[x, y], argTypes := #[t, t2] }, ty, ps, af, gd⟩ f w (fun v' w' => v' = .int .i64 ys.length ∧ SH w0 S w' (rowE E e v ys :: L) ∧ KB (· ∈ Value.keys v) w w') := by
  have hR : Row E e v xs w := h.hd
  obtain ⟨A2, c2, rfl, _, _, hc2⟩ := hy
  by_cases h0 : ys.length = 0
  · have hy0 : ys = [] := List.eq_nil_of_length_eq_zero h0
    have hx0 : xs = [] := List.eq_nil_of_length_eq_zero (by omega)
    subst hy0
    subst hx0
    obtain ⟨A, c, e1⟩ := (Row.rd hR).len
    refine ⟨.int .i64 0, w, fun a ha => ?_, rfl, h, KB.refl _ _⟩
    have hr := run_copy_none (P := P) w t t2 ty e A A2 0 c 0 c2 ht hz (by simp)
    simp only [List.length_nil] at e1
    simp [execOp, resolve, invoke, builtin, ev_eval ha hx1, ev_eval ha hx2, e1, hr, goInt]
  · obtain ⟨ad, rfl, hnews⟩ := hc2 (by omega)
    rcases hR.2 with ⟨h1, h2⟩ | ⟨g, cap, cur, h1, hbg, hg, hnc, hcm, hcs, htake⟩
    · omega
    · subst h1
      have hcl : (E.cells ys).length = ys.length := by rw [E.cells_length, hE, Nat.mul_one]
      have hsz : cur.size = cap := by rw [hcs, hE, Nat.mul_one]
      have hr := run_copy_row (P := P) w t t2 ty e g 0 xs.length cap ad ys.length c2 cur e (E.cells ys) ht hz hg (by rw [hcl, hl]; simp) hnews (by rw [hcl, hsz]; omega) (E.cells_one ys)
      refine ⟨goInt ((E.cells ys).length : Nat), w.setRow g (cur.toList.take 0 ++ E.cells ys ++ cur.toList.drop (0 + (E.cells ys).length)).toArray, fun a ha => ?_, ?_, ?_, ?_⟩
      · simp only [execOp, resolve, invoke, builtin, Sem.run_bind, Sem.run_pure, Result.andThen_ok, List.map_toArray, List.map_cons, List.map_nil, ev_eval ha hx1, ev_eval ha hx2, hr]
      · show goInt _ = _
        rw [hcl]; rfl
      · refine h.upd (e' := rowE E e (.slice (some ⟨g, 0, none⟩) xs.length cap) ys) ⟨rfl, rfl, rfl, fun _ => Nat.le_refl _, by simp, fun k _ hk => setRow_other w g k _ (fun e => hk (by simp [rowE, Value.keys, Value.ownBlock, e]))⟩ (Row.ok ?_) (keys_nodup (.slice (some ⟨g, 0, none⟩) xs.length cap)) (fun k hk => .inl hk)
        refine ⟨E.cells_length _, .inr ⟨g, cap, _, by rw [hl], hbg, setRow_heap w g cur _ e _ hg, by omega, hcm, ?_, ?_⟩⟩
        · simp only [List.take_zero, List.nil_append, List.size_toArray, List.length_append, List.length_drop, Array.length_toList, hcl, hE, Nat.mul_one]
          omega
        · simp only [List.take_zero, List.nil_append, hE, Nat.mul_one]
          rw [List.take_append_of_le_length (by omega), List.take_of_length_le (by omega)]
      · exact ⟨rfl, rfl, rfl, fun _ => Nat.le_refl _, by simp, fun k _ hk => setRow_other w g k _ (fun e => hk (by simp [Value.keys, Value.ownBlock, e]))⟩
end
end Go.Gv
namespace Go.Gv
open Go Go.RowKit
theorem St.inner {α : Type} {E : El α} {v v' : Value} {rows : List (SV × List α)} {p : SV × List α} {S : Nat → Prop} {w : World} (h : St S w (RdRR E v rows)) (hm : p ∈ rows) (e : p.1.v = v') : St S w (Rd E v' p.2) := h.imp fun _ hw => e ▸ hw.2 p hm
theorem wrid8 {x : Int} (h1 : 0 ≤ x) (h2 : x ≤ 255) : IntKind.u8.wrap x = x := by simp [IntKind.wrap, IntKind.bits, IntKind.signed]; omega
end Go.Gv
