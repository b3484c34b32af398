/- A store into a row of rows. -/
import Derived.Test.YtomeffnlmefnlaaGvH
namespace Go.Gv
open Go Go.RowKit
theorem split_at {β : Type} {l : List β} {i : Nat} {d : β} (h : i < l.length) : l = l.take i ++ l.getD i d :: l.drop (i + 1) := by
  have : l.getD i d = l[i] := by simp [List.getD, h]
  rw [this, List.getElem_cons_drop, List.take_append_drop]
section
variable {P : Program} {f : Env} {w : World} {d : Option Tmp} {ty : TypeId} {ps : String} {af : Array Edge} {gd : Option (Nat × Bool)} {w0 : World} {S : Nat → Prop} {L : List Ent}
theorem XSE.rr1 {α : Type} {E : El α} {T T2 e : TypeId} {x y : Operand} {A : Addr} {v0 : Value} {n c o : Nat} {i j : Int} {v : Value} {rows : List (SV × List α)} {k : α} (x2 : α)
    (h : SH w0 S w (rrE E T2 e v0 rows :: L)) (hi0 : 0 ≤ i) (hi1 : i < rows.length) (hv0 : (rows.getD i.toNat default).1.v = .slice (some A) n c) (h0 : 0 ≤ j) (h1 : j < (rows.getD i.toNat default).2.length) (ho : o < E.sz)
    (hz : (P.info? T).map (·.size) = some 1) (hv : v.oneCell' = true) (hx : ev f x = some (.pointer (some ((A.add (j.toNat * E.sz)).add o)))) (hy : ev f y = some v) (he : E.enc x2 = (E.enc ((rows.getD i.toNat default).2.getD j.toNat k)).set o v) :
    XSE P ⟨d, .store T x y, ty, ps, af, gd⟩ f w (fun w' => SH w0 S w' (rrE E T2 e v0 (rows.set i.toNat ((rows.getD i.toNat default).1, (rows.getD i.toNat default).2.set j.toNat x2)) :: L) ∧
      KB (· ∈ Value.keys (rows.getD i.toNat default).1.v) w w') := by
  have hlt : i.toNat < rows.length := by omega
  generalize hp : rows.getD i.toNat default = p at *
  have hs : rows = rows.take i.toNat ++ p :: rows.drop (i.toNat + 1) := hp ▸ split_at hlt
  have hs2 : rows.set i.toNat (p.1, p.2.set j.toNat x2) = rows.take i.toNat ++ (p.1, p.2.set j.toNat x2) :: rows.drop (i.toNat + 1) := by
    rw [List.set_eq_take_append_cons_drop, if_pos hlt]
  have h1' := h.unrr
  have e1 : rows.map (inE E e) = (rows.take i.toNat).map (inE E e) ++ rowE E e p.1.v p.2 :: (rows.drop (i.toNat + 1)).map (inE E e) := by
    conv => lhs; rw [hs]
    rw [List.map_append, List.map_cons]
    rfl
  rw [e1, List.append_assoc, List.cons_append] at h1'
  have h2 := SH.front (rowE eV T2 v0 (rows.map (·.1)) :: (rows.take i.toNat).map (inE E e)) h1'
  obtain ⟨w', q1, q2, q3⟩ := XSE.row1 (d := d) (ty := ty) (ps := ps) (af := af) (gd := gd) x2 h2 hv0 h0 h1 ho hz hv hx hy he
  refine ⟨w', q1, ?_, q3⟩
  refine SH.rr ?_
  have e2 : (rows.set i.toNat (p.1, p.2.set j.toNat x2)).map (·.1) = rows.map (·.1) := by
    rw [hs2]
    conv => rhs; rw [hs]
    simp
  rw [e2, hs2, List.map_append, List.map_cons, List.append_assoc, List.cons_append]
  refine q2.perm ?_
  exact (List.perm_middle (l₁ := rowE eV T2 v0 (rows.map (·.1)) :: (rows.take i.toNat).map (inE E e))).symm
end
end Go.Gv
