/- An argument that is a slice, opened so that its elements' own data are told too. -/
import Derived.Test.YtjjilkibcomfcaaGvO
namespace Go.Gv
open Go Go.RowKit
section
variable {H : Type} {enc : TypeId × Value → H} {P : Program} {w : World}
theorem open_argK {t e : TypeId} {α : Type} {E : El α} {Kd : DataW H → α → Prop} (ht : P.underlying t = some (.slice e)) (hz : P.cellsOf e = E.sz) (h : ∀ fuel cs d ps, DataW.trod enc P w 0 (fun _ => true) true fuel e cs = some (d, ps) → ∃ a, cs = E.enc a ∧ Kd d a) {a : Option Addr} {len cap : Nat} {d : DataW H} {ps : List MemPlace}
    (hd : DataW.Trod enc P w 0 (fun _ => true) true t (.slice a len cap) d ps) : ∃ l : List α, len = l.length ∧ St No w (Rd E (.slice a l.length cap) l) ∧ (∀ x ∈ l, ∃ elems spare y, d = .slice elems spare ∧ y ∈ elems ∧ Kd y x) := by
  obtain ⟨fuel, hf⟩ := hd
  rcases Deep.open_slice ht hf with ⟨h0, hx⟩ | ⟨a', len', cap', m, n, D, Pl, h0, _, hl, hm, hmm, hx, hel⟩
  · have h6 : [Value.slice a len cap] = [Value.slice none 0 0] := by simpa [Value.cells] using h0
    injection h6 with h6 _
    injection h6 with e1 e2 e3
    subst e1; subst e2; subst e3
    exact ⟨[], rfl, Rd.stN Rd.nil, by simp⟩
  · have h6 : [Value.slice a len cap] = [Value.slice (some a') len' cap'] := by simpa [Value.cells] using h0
    injection h6 with h6 _
    injection h6 with e1 e2 e3
    subst e1; subst e2; subst e3
    injection hx with hd _
    subst hd
    obtain ⟨l, hl2, hk⟩ := list_of (K := fun i (x : α) => (w.cells? 0 (a'.add (i * P.cellsOf e)) (P.cellsOf e) = some (E.enc x)) ∧ Kd (D i) x) (n := len) (fun i hi => by
      obtain ⟨cs', g1, g2⟩ := hel i (by rw [hmm]; split <;> omega)
      obtain ⟨x, e1, k⟩ := h n cs' (D i) (Pl i) g2
      exact ⟨x, e1 ▸ g1, k⟩)
    refine ⟨l, hl2.symm, Rd.stN ⟨some a', cap, by rw [hl2], by simp only [hl2]; exact hl, hm, fun _ => ⟨a', rfl, fun j u hu => ?_⟩⟩, fun x hx => ?_⟩
    · have hlt : j < (E.cells l).length := (List.getElem?_eq_some_iff.1 hu).1
      rw [E.cells_length] at hlt
      have hsz : 0 < E.sz := Nat.pos_of_ne_zero (by intro h0; rw [h0] at hlt; omega)
      have hq : j / E.sz < l.length := by rw [Nat.div_lt_iff_lt_mul hsz]; exact hlt
      have hdm : j / E.sz * E.sz + j % E.sz = j := by rw [Nat.mul_comm]; exact Nat.div_add_mod j E.sz
      have hgq : l[j / E.sz]? = some l[j / E.sz] := List.getElem?_eq_getElem hq
      have hml : j % E.sz < E.sz := Nat.mod_lt _ hsz
      have h3 := (hk _ _ hgq).1
      obtain ⟨_, h4, h5⟩ := World.cells?_some h3
      have h6 := h5 (j % E.sz) (by rw [hz]; exact hml)
      rw [addr_add', hz, hdm] at h6
      have h7 := E.cells_get l (j / E.sz) _ (j % E.sz) _ hgq (List.getElem?_eq_getElem (by rw [E.len]; exact hml))
      rw [hdm] at h7
      rw [h7] at hu
      rw [h6, ← hu, List.getElem?_eq_getElem (by rw [E.len]; exact hml)]
    · obtain ⟨i, hi⟩ := List.mem_iff_getElem?.1 hx
      exact ⟨_, _, D i, rfl, List.mem_map.2 ⟨i, List.mem_range.2 (by have := (List.getElem?_eq_some_iff.1 hi).1; omega), rfl⟩, (hk i x hi).2⟩
end
end Go.Gv
