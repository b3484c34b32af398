/- Lines, edits, nested rows; variables that hold a struct. -/
import Derived.Test.YtomeffnlmefnlaaGvI
import Derived.Laws.StructEq
import Derived.Laws.Tables
namespace Go.Gv
open Go Go.RowKit
/-- A line: its text, and whether it is bare. -/
abbrev Ln := ByteArray × Bool
def lnD : Ln := (ByteArray.empty, false)
def eL : El Ln := ⟨2, fun x => [.string x.1, .bool x.2], fun _ => rfl, fun _ u h => by simp at h; rcases h with rfl | rfl <;> rfl⟩
/-- A number and a slice. -/
abbrev ED := Int × SV
def eE : El ED := ⟨2, fun x => [.int .i64 x.1, x.2.v], fun _ => rfl, fun _ u h => by simp at h; rcases h with rfl | rfl <;> rfl⟩
theorem beq_bytes (a b : ByteArray) : (a == b) = decide (a = b) := by
  obtain ⟨x⟩ := a
  obtain ⟨y⟩ := b
  show (x == y) = _
  by_cases h : x = y <;> simp [h]
section
variable {P : Program} {f : Env} {w : World} {d : Option Tmp} {ty : TypeId} {ps : String} {af : Array Edge} {gd : Option (Nat × Bool)} {w0 : World} {S : Nat → Prop} {L : List Ent}
/-! #### lines compared -/
theorem run_eqLn {t : TypeId} {f0 f1 : Field} {a c : ByteArray} {b e : Bool} (ht : P.underlying t = some (.struct #[f0, f1])) (h0 : P.underlying f0.type = some .string) (h1 : P.underlying f1.type = some .bool)
    (hn0 : f0.name ≠ "_") (hn1 : f1.name ≠ "_") (ho0 : f0.offset = 0) (ho1 : f1.offset = 1) (hp : P.stoodInHeld t = false) :
    (Op.equal t (.agg #[.string a, .bool b]) (.agg #[.string c, .bool e])).run P w = .ok (decide (a = c ∧ b = e)) w := by
  have hf : P.fieldsOf t = #[f0, f1] := by unfold Program.fieldsOf; rw [ht]
  show (Op.equalIn (9999 + 1) t _ _).run P w = _
  rw [run_equalIn_struct w 9999 t _ _ (by rw [hf]; exact ht) hp, hf]
  have p0 : ∀ (x : ByteArray) (y : Bool), (part f0.type #[.string x, .bool y] 0).run P w = .ok (.string x) w := fun x y => by simp [part, isAgg, run_underlying h0]
  have p1 : ∀ (x : ByteArray) (y : Bool), (part f1.type #[.string x, .bool y] 1).run P w = .ok (.bool y) w := fun x y => by simp [part, isAgg, run_underlying h1]
  have q0 : (Op.equalIn 9999 f0.type (.string a) (.string c)).run P w = .ok (a == c) w := by
    show (Op.equalIn (9998 + 1) f0.type _ _).run P w = _
    unfold Op.equalIn
    simp [run_underlying h0]
  have q1 : (Op.equalIn 9999 f1.type (.bool b) (.bool e)).run P w = .ok (b == e) w := by
    show (Op.equalIn (9998 + 1) f1.type _ _).run P w = _
    unfold Op.equalIn
    simp [run_underlying h1]
  simp only [Op.eqFields, Sem.run_bind, Sem.run_ite, hn0, hn1, ne_eq, not_false_eq_true, if_true, ho0, ho1, p0, p1, q0, q1, Result.andThen_ok]
  rw [beq_bytes]
  by_cases h : a = c <;> by_cases h' : b = e <;> simp [h, h']
theorem LV.eqLn {t t2 : TypeId} {x y : Operand} {f0 f1 : Field} {a c : ByteArray} {b e : Bool} (ht : P.underlying t = some (.struct #[f0, f1])) (h0 : P.underlying f0.type = some .string) (h1 : P.underlying f1.type = some .bool)
    (hn : (f0.name ≠ "_" ∧ f1.name ≠ "_") ∧ f0.offset = 0 ∧ f1.offset = 1) (hp : P.stoodInHeld t = false) (hg : P.eqGuardType P.depth t = false) (hx : ev f x = some (.agg #[.string a, .bool b])) (hy : ev f y = some (.agg #[.string c, .bool e])) :
    LV P ⟨d, .binOp .eql t x y t2, ty, ps, af, gd⟩ f w (.bool (decide (a = c ∧ b = e))) := fun u hu => by
  have h : (binOp .eql t (.agg #[.string a, .bool b]) (.agg #[.string c, .bool e])).run P w = .ok (.bool (decide (a = c ∧ b = e))) w := by
    unfold binOp
    simp only [Sem.run_bind, run_eqLn ht h0 h1 hn.1.1 hn.1.2 hn.2.1 hn.2.2 hp, Result.andThen_ok, Sem.run_pure]
  simp only [execOp, ev_eval hu hx, ev_eval hu hy]
  simp [eqGuard, hg, h]
theorem LV.neLn {t t2 : TypeId} {x y : Operand} {f0 f1 : Field} {a c : ByteArray} {b e : Bool} (ht : P.underlying t = some (.struct #[f0, f1])) (h0 : P.underlying f0.type = some .string) (h1 : P.underlying f1.type = some .bool)
    (hn : (f0.name ≠ "_" ∧ f1.name ≠ "_") ∧ f0.offset = 0 ∧ f1.offset = 1) (hp : P.stoodInHeld t = false) (hg : P.eqGuardType P.depth t = false) (hx : ev f x = some (.agg #[.string a, .bool b])) (hy : ev f y = some (.agg #[.string c, .bool e])) :
    LV P ⟨d, .binOp .neq t x y t2, ty, ps, af, gd⟩ f w (.bool (decide (¬ (a = c ∧ b = e)))) := fun u hu => by
  have h : (binOp .neq t (.agg #[.string a, .bool b]) (.agg #[.string c, .bool e])).run P w = .ok (.bool (decide (¬ (a = c ∧ b = e)))) w := by
    unfold binOp
    simp only [Sem.run_bind, run_eqLn ht h0 h1 hn.1.1 hn.1.2 hn.2.1 hn.2.2 hp, Result.andThen_ok, Sem.run_pure, decide_not]
  simp only [execOp, ev_eval hu hx, ev_eval hu hy]
  simp [eqGuard, hg, h]
/-! #### a struct into a variable -/
theorem XSE.blkAgg {T : TypeId} {x y : Operand} {b : Nat} {cs : Array Value} {B : TypeId} (cs' : Array Value) (h : SH w0 S w (blkE b B cs :: L)) (hz : (P.info? T).map (·.size) = some cs'.size) (hs : cs.size = cs'.size) (h1 : cs'.all (·.oneCell') = true)
    (hx : ev f x = some (.pointer (some ⟨b, 0, none⟩))) (hy : ev f y = some (.agg cs')) :
    XSE P ⟨d, .store T x y, ty, ps, af, gd⟩ f w (fun w' => SH w0 S w' (blkE b B cs' :: L) ∧ KB (· = b) w w') := by
  have hg : w.heap[b]? = some (.cells cs B (0, 0)) := h.hd
  have hr := run_storeVar_row (P := P) w b B T cs cs' hg hz hs h1
  have hk : KB (· = b) w (w.setRow b cs') := ⟨rfl, rfl, rfl, fun _ => Nat.le_refl _, by simp, fun k _ hk => setRow_other w b k cs' (fun e => hk e)⟩
  refine ⟨w.setRow b cs', fun a ha => ?_, ?_, hk⟩
  · simp only [execOp, ev_eval ha hx, ev_eval ha hy, Instr.storeAt, Instr.sureAddr, Sem.run_bind, Sem.run_pure, Result.andThen_ok, hr]
  · exact h.upd (e' := blkE b B cs') (hk.mono fun k hk => by simp [blkE, hk]) (Blk.ok (setRow_heap w b cs cs' B (0, 0) hg)) (by simp [blkE]) (fun k hk => .inl hk)
end
/-! ### Nested rows: the inner ones -/
section
variable {ρ α : Type} {sv : ρ → SV} {E : El α} {T1 : TypeId} {rows A B : List (ρ × List α)} {r : ρ} {xs : List α} {w0 w w' : World} {S : Nat → Prop} {L : List Ent}
def insE (sv : ρ → SV) (E : El α) (T1 : TypeId) (rows : List (ρ × List α)) : Ent :=
  ⟨rows.flatMap (fun p => Value.keys (sv p.1).v), fun w => ∀ p ∈ rows, Row E T1 (sv p.1).v p.2 w⟩
theorem ins_ok (h : ∀ p ∈ rows, Row E T1 (sv p.1).v p.2 w) : (insE sv E T1 rows).Ok w := by
  refine ⟨h, fun k hk => ?_, fun w' hk hs p hp => ?_⟩
  · simp only [insE, List.mem_flatMap] at hk
    obtain ⟨p, hp, hk⟩ := hk
    exact Row.lt (h p hp) k hk
  · exact (Row.ok (h p hp)).loc w' (fun k hk' => hk k (by simp only [insE, List.mem_flatMap]; exact ⟨p, hp, hk'⟩)) hs
/-- No inner rows. -/
theorem SH.ins0 (h : SH w0 S w L) : SH w0 S w (insE sv E T1 ([] : List (ρ × List α)) :: L) :=
  SH.more h (KB.refl No _) (ins_ok (by simp)) (by simp [insE]) (fun k hk => by simp [insE] at hk)
theorem keys_ins (A B : List (ρ × List α)) (r : ρ) (xs : List α) : (keys (insE sv E T1 (A ++ (r, xs) :: B) :: L)).Perm (keys (rowE E T1 (sv r).v xs :: insE sv E T1 (A ++ B) :: L)) := by
  rw [keys_cons, keys_cons, keys_cons, ← List.append_assoc]
  refine List.Perm.append_right _ ?_
  simp only [insE, rowE, List.flatMap_append, List.flatMap_cons]
  exact List.perm_append_comm_assoc _ _ _
/-- One inner row by itself. -/
theorem SH.insOut (h : SH w0 S w (insE sv E T1 (A ++ (r, xs) :: B) :: L)) : SH w0 S w (rowE E T1 (sv r).v xs :: insE sv E T1 (A ++ B) :: L) := by
  have hp : ∀ p ∈ A ++ (r, xs) :: B, Row E T1 (sv p.1).v p.2 w := h.hd
  have hk := keys_ins (sv := sv) (E := E) (T1 := T1) (L := L) A B r xs
  refine ⟨h.kb, fun e he => ?_, hk.nodup_iff.1 h.nd, fun k hk' => h.new k (hk.mem_iff.2 hk')⟩
  rcases List.mem_cons.1 he with rfl | he
  · exact Row.ok (hp (r, xs) (by simp))
  · rcases List.mem_cons.1 he with rfl | he
    · exact ins_ok fun p hpm => hp p (by simp only [List.mem_append, List.mem_cons] at hpm ⊢; rcases hpm with h | h <;> simp [h])
    · exact h.ok e (List.mem_cons_of_mem _ he)
/-- And back. -/
theorem SH.insIn {v : Value} (hv : (sv r).v = v) (h : SH w0 S w (rowE E T1 v xs :: insE sv E T1 (A ++ B) :: L)) : SH w0 S w (insE sv E T1 (A ++ (r, xs) :: B) :: L) := by
  subst hv
  have hk := keys_ins (sv := sv) (E := E) (T1 := T1) (L := L) A B r xs
  have h1 : Row E T1 (sv r).v xs w := h.hd
  have h2 : ∀ p ∈ A ++ B, Row E T1 (sv p.1).v p.2 w := (h.ok (insE sv E T1 (A ++ B)) (by simp)).now
  refine ⟨h.kb, fun e he => ?_, hk.nodup_iff.2 h.nd, fun k hk' => h.new k (hk.mem_iff.1 hk')⟩
  rcases List.mem_cons.1 he with rfl | he
  · refine ins_ok fun p hpm => ?_
    simp only [List.mem_append, List.mem_cons] at hpm
    rcases hpm with hpm | rfl | hpm
    · exact h2 p (by simp [hpm])
    · exact h1
    · exact h2 p (by simp [hpm])
  · exact h.ok e (List.mem_cons_of_mem _ (List.mem_cons_of_mem _ he))
theorem SH.insMore {v : Value} (hv : (sv r).v = v) (h : SH w0 S w (rowE E T1 v xs :: insE sv E T1 A :: L)) : SH w0 S w (insE sv E T1 (A ++ [(r, xs)]) :: L) :=
  SH.insIn (B := []) hv (by rw [List.append_nil]; exact h)
/-! #### nested rows that are read -/
def RdIn (sv : ρ → SV) (E : El α) (rows : List (ρ × List α)) (w : World) : Prop := ∀ p ∈ rows, Rd E (sv p.1).v p.2 w
theorem SH.rdIn (h : SH w0 S w L) (he : insE sv E T1 rows ∈ L) : St No w (RdIn sv E rows) := (h.steN he).imp fun _ h p hp => Row.rd (h p hp)
theorem St.in0 : St S w (RdIn sv E ([] : List (ρ × List α))) := fun _ _ p hp => by cases hp
theorem St.inCons {v : Value} (hv : (sv r).v = v) (h : St S w (Rd E v xs)) (hr : St S w (RdIn sv E rows)) : St S w (RdIn sv E ((r, xs) :: rows)) := fun w' hk p hp => by
  subst hv
  rcases List.mem_cons.1 hp with rfl | hp
  · exact h w' hk
  · exact hr w' hk p hp
theorem St.inSnoc {v : Value} (hv : (sv r).v = v) (h : St S w (Rd E v xs)) (hr : St S w (RdIn sv E rows)) : St S w (RdIn sv E (rows ++ [(r, xs)])) := fun w' hk p hp => by
  subst hv
  rcases List.mem_append.1 hp with hp | hp
  · exact hr w' hk p hp
  · simp at hp; subst hp; exact h w' hk
end
/-- Element i of a row of edits: its cells, and its lines. -/
theorem St.eltE {α : Type} {E : El α} {w : World} {v : Value} {rows : List (ED × List α)} (h : St No w (Rd eE v (rows.map (·.1)))) (hr : St No w (RdIn (·.2) E rows)) (d : ED × List α) (i : Int) (h0 : 0 ≤ i) (h1 : i < rows.length) :
    ∃ A c A1 c1, v = .slice (some A) rows.length c ∧ (∀ w', KB No w w' → ∀ (t : Nat) u, [Value.int .i64 (rows.getD i.toNat d).1.1, .slice A1 (rows.getD i.toNat d).2.length c1][t]? = some u → w'.cell? ((A.add (i.toNat * 2)).add t) = some u) ∧
      (rows.getD i.toNat d).1.2.v = .slice A1 (rows.getD i.toNat d).2.length c1 ∧ St No w (Rd E (.slice A1 (rows.getD i.toNat d).2.length c1) (rows.getD i.toNat d).2) := by
  have hlt : i.toNat < rows.length := by omega
  have hm := getD_mem (d := d) hlt
  obtain ⟨A, c, e, g⟩ := St.elt h d.1 i h0 (by simpa using h1)
  obtain ⟨A1, c1, e1⟩ := (hr.now _ hm).len
  have hd : (rows.map (·.1)).getD i.toNat d.1 = (rows.getD i.toNat d).1 := by simp [List.getD, hlt]
  refine ⟨A, c, A1, c1, by rw [e, List.length_map], fun w' hk t u hu => ?_, e1, hr.imp fun w' hw => by rw [← e1]; exact hw _ hm⟩
  refine g w' hk t u ?_
  rw [hd]
  show [Value.int .i64 (rows.getD i.toNat d).1.1, (rows.getD i.toNat d).1.2.v][t]? = some u
  rw [e1]
  exact hu
theorem St.innerQ {ρ α : Type} {sv : ρ → SV} {E : El α} {rows : List (ρ × List α)} {p : ρ × List α} {v' : Value} {S : Nat → Prop} {w : World} (h : St S w (RdIn sv E rows)) (hm : p ∈ rows) (e : (sv p.1).v = v') : St S w (Rd E v' p.2) := h.imp fun _ hw => e ▸ hw p hm
section
variable {P : Program} {f : Env} {w : World} {d : Option Tmp} {ty : TypeId} {ps : String} {af : Array Edge} {gd : Option (Nat × Bool)} {w0 : World} {S : Nat → Prop} {L : List Ent}
/-- 'append(s, edit)', the outer row one's own. -/
theorem XE.appendQ {ρ α : Type} {E2 : El ρ} {t e : TypeId} {z : Value} {bytes : Nat} {v vb : Value} {rows : List (ρ × List α)} {r : ρ} (ys : List α) {x y : Operand}
    (h : SH w0 S w (rowE E2 e v (rows.map (·.1)) :: L)) (ht : P.underlying t = some (.slice e)) (hi : TI P e z E2.sz bytes) (hzs : z.cells.size = E2.sz) (hy : Rd E2 vb [r] w) (hx1 : ev f x = some v) (hx2 : ev f y = some vb)
    (hb : (rows.length + 1) * bytes ≤ 140737488355328) (hb2 : rows.length + 1 ≤ 140737488355328) :
    XE P ⟨d, .call { callee := .builtin .append, args := #[x, y], argTypes := #[t, t] }, ty, ps, af, gd⟩ f w (fun v' w' =>
      ∃ A c, v' = .slice A (rows ++ [(r, ys)]).length c ∧ SH w0 S w' (rowE E2 e (.slice A (rows ++ [(r, ys)]).length c) ((rows ++ [(r, ys)]).map (·.1)) :: L) ∧ KB (· ∈ Value.keys v) w w') := by
  obtain ⟨v', w', h1, A, c, e1, h2, h3⟩ := XE.append (d := d) (ty := ty) (ps := ps) (af := af) (gd := gd) h ht hi hzs hy hx1 hx2 (by simpa using hb) (by simpa using hb2)
  have hl : (rows.map (·.1) ++ [r]).length = (rows ++ [(r, ys)]).length := by simp
  have hm : rows.map (·.1) ++ [r] = (rows ++ [(r, ys)]).map (·.1) := by simp
  rw [hl] at e1
  rw [hl, hm] at h2
  exact ⟨v', w', h1, A, c, e1, h2, h3⟩
end
theorem Blk.agg {w : World} {b : Nat} {T : TypeId} {cs : List Value} (h : w.heap[b]? = some (.cells cs.toArray T (0, 0))) : ∀ w', KB No w w' → ∀ (j : Nat) u, cs[j]? = some u → w'.cell? ((⟨b, 0, none⟩ : Addr).add j) = some u := fun w' hk j u hu => by
  have e : (⟨b, 0, none⟩ : Addr).add j = ⟨b, j, none⟩ := by unfold Addr.add; split <;> simp_all
  rw [e]
  exact Blk.cellN h j (by simpa using hu) w' hk
section
variable {P : Program} {f : Env} {w : World} {d : Option Tmp} {ty : TypeId} {ps : String} {af : Array Edge} {gd : Option (Nat × Bool)}
theorem LV.eqNil {t t2 e : TypeId} {x y : Operand} {A : Option Addr} {n c : Nat} (ht : P.underlying t = some (.slice e)) (hx : ev f x = some (.slice A n c)) (hy : ev f y = some (.slice none 0 0)) :
    LV P ⟨d, .binOp .eql t x y t2, ty, ps, af, gd⟩ f w (.bool A.isNone) := fun u hu => by
  have h1 : (Op.equal t (.slice A n c) (.slice none 0 0)).run P w = .ok A.isNone w := by
    show (Op.equalIn (9999 + 1) t _ _).run P w = _
    unfold Op.equalIn
    cases A <;> simp [run_underlying ht]
  have h : (binOp .eql t (.slice A n c) (.slice none 0 0)).run P w = .ok (.bool A.isNone) w := by
    unfold binOp
    simp [h1]
  simp only [execOp, ev_eval hu hx, ev_eval hu hy]
  simp [eqGuard, h]
end
theorem Rd.isNone {α : Type} {E : El α} {A : Option Addr} {n c : Nat} {xs : List α} {w : World} (h : Rd E (.slice A n c) xs w) (hn : A.isNone = true) : xs = [] := by
  obtain ⟨A', c', e, _, _, h3⟩ := h
  injection e with e1 _ _
  subst e1
  rcases Nat.lt_or_ge 0 xs.length with h4 | h4
  · obtain ⟨ad, ha, _⟩ := h3 h4
    subst ha
    simp at hn
  · exact List.eq_nil_of_length_eq_zero (by omega)
section
variable {ρ α : Type} [Inhabited ρ] {sv : ρ → SV} {E : El α} {T1 : TypeId} {rows : List (ρ × List α)} {r : ρ} {xs : List α} {w0 w : World} {S : Nat → Prop} {L : List Ent} {k : Nat}
theorem SH.insAt (h : SH w0 S w (insE sv E T1 rows :: L)) (hk : k < rows.length) : SH w0 S w (rowE E T1 (sv (rows.getD k default).1).v (rows.getD k default).2 :: insE sv E T1 (rows.take k ++ rows.drop (k + 1)) :: L) := by
  have hs : rows = rows.take k ++ ((rows.getD k default).1, (rows.getD k default).2) :: rows.drop (k + 1) := split_at hk
  rw [hs] at h
  exact SH.insOut h
omit [Inhabited ρ] in
theorem SH.nestSet {E2 : El ρ} {e : TypeId} {v v' : Value} (hk : k < rows.length) (hv : (sv r).v = v') (h : SH w0 S w (rowE E2 e v ((rows.map (·.1)).set k r) :: rowE E T1 v' xs :: insE sv E T1 (rows.take k ++ rows.drop (k + 1)) :: L)) :
    SH w0 S w (rowE E2 e v ((rows.set k (r, xs)).map (·.1)) :: insE sv E T1 (rows.set k (r, xs)) :: L) := by
  have e1 : (rows.set k (r, xs)).map (·.1) = (rows.map (·.1)).set k r := by rw [List.map_set]
  have e2 : rows.set k (r, xs) = rows.take k ++ (r, xs) :: rows.drop (k + 1) := by rw [List.set_eq_take_append_cons_drop, if_pos hk]
  rw [e1, e2]
  exact (SH.insIn hv (h.perm ((List.Perm.swap _ _ _).trans ((List.Perm.swap _ _ _).cons _)))).perm (List.Perm.swap _ _ _)
end
/-! ### Reading while an own row may turn -/
theorem St.eltS {α : Type} {E : El α} {v : Value} {xs : List α} {w : World} {S : Nat → Prop} (h : St S w (Rd E v xs)) (d : α) (i : Int) (h0 : 0 ≤ i) (h1 : i < xs.length) :
    ∃ A c, v = .slice (some A) xs.length c ∧ ∀ w', KB S w w' → ∀ (t : Nat) u, (E.enc (xs.getD i.toNat d))[t]? = some u → w'.cell? ((A.add (i.toNat * E.sz)).add t) = some u := by
  obtain ⟨A, c, e, h2, h3, h4⟩ := h.now
  obtain ⟨ad, ha, hc⟩ := h4 (by omega)
  subst ha
  refine ⟨ad, c, e, fun w' hk t u hu => ?_⟩
  obtain ⟨A', c', e', _, _, h4'⟩ := h w' hk
  obtain ⟨ad', ha', hc'⟩ := h4' (by omega)
  rw [e] at e'
  injection e' with e1 _ _
  rw [ha'] at e1
  injection e1 with e1
  subst e1
  rw [addr_add']
  refine hc' _ u (E.cells_get xs i.toNat (xs.getD i.toNat d) t u ?_ hu)
  have : i.toNat < xs.length := by omega
  simp [List.getD, this]
theorem SH.stF {w0 w : World} {S : Nat → Prop} {L : List Ent} {e e' : Ent} (h : SH w0 S w (e :: L)) (he : e' ∈ L) : St (· ∈ e.ks) w e'.p :=
  SH.ste h (List.mem_cons_of_mem _ he) (SH.ne h he)
theorem Blk.cellS {w : World} {b : Nat} {T : TypeId} {cs : Array Value} {S : Nat → Prop} (h : St S w (fun w => w.heap[b]? = some (.cells cs T (0, 0)))) (o : Nat) {v : Value} (hv : cs[o]? = some v) : ∀ w', KB S w w' → w'.cell? ⟨b, o, none⟩ = some v := fun w' hk =>
  (Blk.cell (h w' hk) o).trans hv
theorem SH.insAtM {ρ α : Type} [Inhabited ρ] {sv : ρ → SV} {E : El α} {T1 : TypeId} {rows : List (ρ × List α)} {w0 w : World} {S : Nat → Prop} {L : List Ent} {k : Nat} (h : SH w0 S w (insE sv E T1 rows :: L)) (hk : k < rows.length) :
    SH w0 S w (rowE E T1 (.slice (sv ((rows.map (·.1)).getD k default)).A (sv ((rows.map (·.1)).getD k default)).n (sv ((rows.map (·.1)).getD k default)).c) (rows.getD k default).2 :: insE sv E T1 (rows.take k ++ rows.drop (k + 1)) :: L) := by
  have e : (rows.getD k default).1 = (rows.map (·.1)).getD k default := by simp [List.getD, hk]
  have h2 := SH.insAt h hk
  rw [e] at h2
  exact h2
end Go.Gv
