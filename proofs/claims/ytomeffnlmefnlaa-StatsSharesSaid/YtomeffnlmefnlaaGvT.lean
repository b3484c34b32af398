/- A result that is a variable; bytes made a string; rows of one thing. -/
import Derived.Test.YtomeffnlmefnlaaGvI
import Derived.Test.YtomeffnlmefnlaaGvX
import Derived.Test.YtomeffnlmefnlaaGvQ
import Derived.Laws.BytesArg
namespace Go.Gv
open Go
section
variable {P : Program} {f : Env} {w : World} {d : Option Tmp} {ty : TypeId} {ps : String} {af : Array Edge} {gd : Option (Nat × Bool)}
theorem resC {fn : Func} {t : Tmp} {tt : TypeId} {ad : Addr} {a : Act} {u : TypeDesc} {z : Value} {size bytes : Nat} {cs : List Value} (h : fn.results = #[.cell t tt]) (ha : FG a f) (hv : f t = some (.pointer (some ad)))
    (ht : P.underlying tt = some u) (hu : (match u with | .struct _ | .array _ _ => true | _ => false) = true) (hi : TI P tt z size bytes) (hl : cs.length = size) (hc : ∀ (j : Nat) u, cs[j]? = some u → w.cell? (ad.add j) = some u) :
    (results fn a.tmps).run P w = .ok (.agg cs.toArray) w := by
  obtain ⟨i, hj, _, hs, _⟩ := hi.get
  have hrun := run_loadCells_list (P := P) (w := w) ad cs hc
  rw [hl] at hrun
  have h1 := ha t _ hv
  cases u <;> simp at hu <;> simp [results, h, h1, asAddr, loadVar, isAgg, run_underlying ht, sizeOf, typeInfo, hj, hs, hrun]
theorem cells_u8 (xs : List Int) : eU8.cells xs = xs.map (Value.int .u8) := by
  induction xs with
  | nil => rfl
  | cons x l ih => rw [El.cells_cons, ih]; rfl
theorem LV.strOf {src e dst : TypeId} {x : Operand} {A : Option Addr} {n c : Nat} {xs : List Int} (hs : P.underlying src = some (.slice e)) (he : P.underlying e = some (.int .u8)) (hd : P.underlying dst = some .string) (hx : ev f x = some (.slice A n c)) (hR : Rd eU8 (.slice A n c) xs w) :
    LV P ⟨d, .convert src dst x, ty, ps, af, gd⟩ f w (.string (strOfNums xs)) := fun b hb => by
  obtain ⟨A', c', e1, _, _, h3⟩ := hR
  injection e1 with e2 e3 e4
  subst e2 e3 e4
  have key : (Conv.bytesToString (.slice A xs.length c)).run P w = .ok (.string (strOfNums xs)) w := by
    rcases A with _ | ad
    · have hz : xs = [] := by
        rcases Nat.eq_zero_or_pos xs.length with h | h
        · exact List.eq_nil_of_length_eq_zero h
        · obtain ⟨ad, h4, _⟩ := h3 h; cases h4
      subst hz
      rfl
    · have hl : (loadCells ad xs.length).run P w = .ok (xs.map (Value.int .u8)).toArray w := by
        have := run_loadCells_list (P := P) w ad (xs.map (Value.int .u8)) (fun j v hj => by
          have hjl : j < xs.length := by
            rcases Nat.lt_or_ge j xs.length with h | h
            · exact h
            · simp [List.getElem?_eq_none (show (xs.map (Value.int .u8)).length ≤ j by simpa using h)] at hj
          obtain ⟨ad2, h4, h5⟩ := h3 (by omega)
          injection h4 with h4
          subst h4
          exact h5 j v (by rw [cells_u8]; exact hj))
        simpa using this
      rw [run_bytesToString w _ _ c xs hl, foldl_push_bytes]
      simp [strOfNums, ByteArray.empty, ByteArray.emptyWithCapacity]
      rfl
  simp [execOp, ev_eval hb hx, run_convert_bytes_string w src dst e _ _ c hs he hd, key]
end
section
variable {P : Program} {f : Env} {w : World} {d : Option Tmp} {ty : TypeId} {ps : String} {af : Array Edge} {gd : Option (Nat × Bool)} {w0 : World} {S : Nat → Prop} {L : List Ent}
theorem run_eq3 {t : TypeId} {f0 f1 f2 : Field} {a b c a' b' c' : Int} (ht : P.underlying t = some (.struct #[f0, f1, f2])) (h0 : P.underlying f0.type = some (.int .i64)) (h1 : P.underlying f1.type = some (.int .i64)) (h2 : P.underlying f2.type = some (.int .i64))
    (hn0 : f0.name ≠ "_") (hn1 : f1.name ≠ "_") (hn2 : f2.name ≠ "_") (ho0 : f0.offset = 0) (ho1 : f1.offset = 1) (ho2 : f2.offset = 2) (hp : P.stoodInHeld t = false) :
    (Op.equal t (.agg #[.int .i64 a, .int .i64 b, .int .i64 c]) (.agg #[.int .i64 a', .int .i64 b', .int .i64 c'])).run P w = .ok (decide (a = a' ∧ b = b' ∧ c = c')) w := by
  have hf : P.fieldsOf t = #[f0, f1, f2] := by unfold Program.fieldsOf; rw [ht]
  show (Op.equalIn (9999 + 1) t _ _).run P w = _
  rw [run_equalIn_struct w 9999 t _ _ (by rw [hf]; exact ht) hp, hf]
  have p0 : ∀ x y z : Int, (part f0.type #[.int .i64 x, .int .i64 y, .int .i64 z] 0).run P w = .ok (.int .i64 x) w := fun x y z => by simp [part, isAgg, run_underlying h0]
  have p1 : ∀ x y z : Int, (part f1.type #[.int .i64 x, .int .i64 y, .int .i64 z] 1).run P w = .ok (.int .i64 y) w := fun x y z => by simp [part, isAgg, run_underlying h1]
  have p2 : ∀ x y z : Int, (part f2.type #[.int .i64 x, .int .i64 y, .int .i64 z] 2).run P w = .ok (.int .i64 z) w := fun x y z => by simp [part, isAgg, run_underlying h2]
  have q : ∀ {ft : TypeId}, P.underlying ft = some (.int .i64) → ∀ x y : Int, (Op.equalIn 9999 ft (.int .i64 x) (.int .i64 y)).run P w = .ok (x == y) w := fun h x y => by
    show (Op.equalIn (9998 + 1) _ _ _).run P w = _
    unfold Op.equalIn
    simp [run_underlying h]
  simp only [Op.eqFields, Sem.run_bind, Sem.run_ite, hn0, hn1, hn2, ne_eq, not_false_eq_true, if_true, ho0, ho1, ho2, p0, p1, p2, q h0, q h1, q h2, Result.andThen_ok]
  by_cases e0 : a = a' <;> by_cases e1 : b = b' <;> by_cases e2 : c = c' <;> simp [e0, e1, e2]
theorem LV.ne3 {t t2 : TypeId} {x y : Operand} {f0 f1 f2 : Field} {a b c a' b' c' : Int} (ht : P.underlying t = some (.struct #[f0, f1, f2])) (h0 : P.underlying f0.type = some (.int .i64)) (h1 : P.underlying f1.type = some (.int .i64)) (h2 : P.underlying f2.type = some (.int .i64))
    (hn : (f0.name ≠ "_" ∧ f1.name ≠ "_" ∧ f2.name ≠ "_") ∧ f0.offset = 0 ∧ f1.offset = 1 ∧ f2.offset = 2) (hp : P.stoodInHeld t = false) (hg : P.eqGuardType P.depth t = false) (hx : ev f x = some (.agg #[.int .i64 a, .int .i64 b, .int .i64 c])) (hy : ev f y = some (.agg #[.int .i64 a', .int .i64 b', .int .i64 c'])) :
    LV P ⟨d, .binOp .neq t x y t2, ty, ps, af, gd⟩ f w (.bool (decide (¬ (a = a' ∧ b = b' ∧ c = c')))) := fun u hu => by
  have h : (binOp .neq t (.agg #[.int .i64 a, .int .i64 b, .int .i64 c]) (.agg #[.int .i64 a', .int .i64 b', .int .i64 c'])).run P w = .ok (.bool (decide (¬ (a = a' ∧ b = b' ∧ c = c')))) w := by
    unfold binOp
    simp only [Sem.run_bind, run_eq3 ht h0 h1 h2 hn.1.1 hn.1.2.1 hn.1.2.2 hn.2.1 hn.2.2.1 hn.2.2.2 hp, Result.andThen_ok, Sem.run_pure, decide_not]
  simp only [execOp, ev_eval hu hx, ev_eval hu hy]
  simp [eqGuard, hg, h]
/-- A copy into a cut of one's own row, wherever that one lies. -/
theorem XE.copyCut {α : Type} {E : El α} {t t2 e : TypeId} {A : Option Addr} {n c m : Nat} {v2 : Value} {xs ys : List α} {x y : Operand} (l dl dc : Nat) (h : SH w0 S w (rowE E e (.slice A n c) xs :: L)) (ht : P.underlying t = some (.slice e)) (hz : (P.info? e).map (·.size) = some 1) (hE : E.sz = 1)
    (hy : Rd E v2 ys w) (hm : 0 < dl → l < m) (hl : l + dl ≤ xs.length) (hx1 : ev f x = some (.slice (if m = l then A else A.map (·.add (l * 1))) dl dc)) (hx2 : ev f y = some v2) :
    XE P ⟨d, .call { callee := .builtin .copy, args := #[x, y], argTypes := #[t, t2] }, ty, ps, af, gd⟩ f w (fun v' w' => v' = .int .i64 (min ys.length dl : Nat) ∧
      SH w0 S w' (rowE E e (.slice A n c) (xs.take l ++ ys.take dl ++ xs.drop (l + min ys.length dl)) :: L) ∧ KB (· ∈ Value.keys (.slice A n c)) w w') := by
  have hR : Row E e (.slice A n c) xs w := h.hd
  refine XE.copyAt l dl dc h ht hz hE hy ⟨_, rfl, fun g hg h0 => ?_⟩ hl hx1 hx2
  rcases hR.2 with ⟨h1, hn⟩ | ⟨g2, cap, cur, h1, _⟩
  · injection h1 with h1 _ _
    subst h1
    cases hg
  · injection h1 with h1 _ _
    subst h1
    cases hg
    exact cut_at (hm h0)
end
theorem str_app (a b : List Int) : strOfNums a ++ strOfNums b = strOfNums (a ++ b) := by
  apply ByteArray.ext
  simp [strOfNums]
theorem str_size (a : List Int) : (strOfNums a).size = a.length := by simp [strOfNums, ByteArray.size]
/-! ### A row of one thing, doubled till it is full -/
section
variable {α : Type} {N : Nat} {n : Int} {x d : α} {r : List α}
theorem repG_init : ((List.replicate N d).take 0 ++ [x].take N ++ (List.replicate N d).drop (0 + min [x].length N)).take ((min [x].length N : Nat) : Int).toNat = List.replicate ((min [x].length N : Nat) : Int).toNat x := by
  cases N <;> simp
theorem repG_step (q0 : 1 ≤ n) (h : n < (N : Int)) (q2 : r.length = N) (q3 : r.take n.toNat = List.replicate n.toNat x) :
    (r.take n.toNat ++ ((r.take n.toNat).drop 0).take (N - n.toNat) ++ r.drop (n.toNat + min ((r.take n.toNat).drop 0).length (N - n.toNat))).take (n + ((min ((r.take n.toNat).drop 0).length (N - n.toNat) : Nat) : Int)).toNat =
      List.replicate (n + ((min ((r.take n.toNat).drop 0).length (N - n.toNat) : Nat) : Int)).toNat x := by
  rw [q3]
  simp only [List.drop_zero, List.length_replicate, List.take_replicate]
  rw [show (n + ((min n.toNat (N - n.toNat) : Nat) : Int)).toNat = n.toNat + min n.toNat (N - n.toNat) by omega, List.take_append_of_le_length (by simp; omega), List.take_of_length_le (by simp; omega), List.replicate_append_replicate, Nat.min_comm (N - n.toNat)]
theorem repG_fin (q1 : n ≤ (N : Int)) (h : ¬ n < (N : Int)) (q2 : r.length = N) (q3 : r.take n.toNat = List.replicate n.toNat x) : r = List.replicate N x := by
  have e : n.toNat = N := by omega
  rw [e, List.take_of_length_le (by omega)] at q3
  exact q3
end
end Go.Gv
