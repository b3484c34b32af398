/- Sorts of one-cell elements whose order is told by a function that reads memory. -/
import Derived.Test.YtmmdplcnhndcgaaGvS
namespace Go.Gv
open Go Go.RowKit Go.Proofs Go.Sort
section
variable {w0 w : World} {S : Nat → Prop} {L : List Ent} {P : Program}
theorem St.at {S : Nat → Prop} {w W : World} {p : World → Prop} (h : St S w p) (hk : KB S w W) : St No W p := fun w' h' => h w' (hk.transN h')
theorem sort_calls1P {α : Type} {E : El α} {enc : α → Value} {p : α → Prop} [Inhabited {x : α // p x}] {T : TypeId} {fS g : Nat} {cb : Array Value} {cf : α → α → Int} {v : Value} {xs : List α} (hz : E.sz = 1) (hE : ∀ x, E.enc x = [enc x]) (hN : SortsN P fS g cb)
    (hK : Sorts1 P fS g cb (fun x : {x : α // p x} => enc x.1) fun x y => cf x.1 y.1) (h : SH w0 S w (rowE E T v xs :: L))
    (hp : ∀ x ∈ xs, p x) (hcmp : ∀ W, KB (· ∈ Value.keys v) w W → ∀ x y, p x → p y → Calls P g (#[enc x, enc y] ++ cb) W fun e w' => e = .returned (.int .i64 (cf x y)) ∧ KB No W w' ∧ W.drawn ≤ w'.drawn) (hsz : xs.length < 4611686018427387904) :
    Calls P fS #[v, .func (.func g) #[] cb] w fun e w' => ∃ u, e = .returned u ∧ (fun u w' => ∃ ys : List α, u = .tuple #[] ∧ ys.Perm xs ∧ (ys.Pairwise fun a b => ¬ cf b a < 0) ∧ SH w0 S w' (rowE E T v ys :: L) ∧ KB (· ∈ Value.keys v) w w') u w' := by
  have hx : (xs.pmap Subtype.mk hp).map (·.1) = xs := by rw [List.map_pmap]; simp
  have h2 : SH w0 S w (rowE (E.sub p) T v (xs.pmap Subtype.mk hp) :: L) := by rw [sub_row, hx]; exact h
  refine (sort_calls1 (E := E.sub p) (enc := fun x : {x : α // p x} => enc x.1) (cf := fun x y : {x : α // p x} => cf x.1 y.1) hz (fun x => hE x.1) hN hK h2 (fun W hW x y => hcmp W hW x.1 y.1 x.2 y.2) (by rw [List.length_pmap]; exact hsz)).mono fun e w' ⟨u, he, ys, hu, hpm, hpw, hSH, hkb⟩ => ?_
  refine ⟨u, he, ys.map (·.1), hu, hx ▸ hpm.map (·.1), List.pairwise_map.2 hpw, ?_, hkb⟩
  rw [← sub_row]
  exact hSH
/-- .. of none, too. -/
theorem sort_calls1E {α : Type} {E : El α} {enc : α → Value} {p : α → Prop} {T : TypeId} {fS g : Nat} {cb : Array Value} {cf : α → α → Int} {v : Value} {xs : List α} (hz : E.sz = 1) (hE : ∀ x, E.enc x = [enc x]) (hN : SortsN P fS g cb)
    (hK : ∀ [Inhabited {x : α // p x}], Sorts1 P fS g cb (fun x : {x : α // p x} => enc x.1) fun x y => cf x.1 y.1) (h : SH w0 S w (rowE E T v xs :: L))
    (hp : ∀ x ∈ xs, p x) (hcmp : ∀ W, KB (· ∈ Value.keys v) w W → ∀ x y, p x → p y → Calls P g (#[enc x, enc y] ++ cb) W fun e w' => e = .returned (.int .i64 (cf x y)) ∧ KB No W w' ∧ W.drawn ≤ w'.drawn) (hsz : xs.length < 4611686018427387904) :
    Calls P fS #[v, .func (.func g) #[] cb] w fun e w' => ∃ u, e = .returned u ∧ (fun u w' => ∃ ys : List α, u = .tuple #[] ∧ ys.Perm xs ∧ (ys.Pairwise fun a b => ¬ cf b a < 0) ∧ SH w0 S w' (rowE E T v ys :: L) ∧ KB (· ∈ Value.keys v) w w') u w' := by
  cases xs with
  | nil =>
    obtain ⟨A, c, e⟩ := (Row.rd h.hd).len
    subst e
    exact (hN A c w).mono fun e w' ⟨he, hw⟩ => ⟨_, he, [], rfl, List.Perm.refl _, List.Pairwise.nil, hw ▸ h, hw ▸ KB.refl _ _⟩
  | cons x l =>
    haveI : Inhabited {x : α // p x} := ⟨⟨x, hp x (.head _)⟩⟩
    exact sort_calls1P hz hE hN hK h hp hcmp hsz
/-- The first few of an own row, in its place. -/
theorem SH.cutRow {α : Type} {E : El α} {T : TypeId} {A : Option Addr} {n c m : Nat} {xs : List α} (h : SH w0 S w (rowE E T (.slice A n c) xs :: L)) (hm : m ≤ xs.length) : SH w0 S w (rowE E T (.slice A (xs.take m).length c) (xs.take m) :: L) := by
  have hR : Row E T (.slice A n c) xs w := h.hd
  have hl : (xs.take m).length = m := by rw [List.length_take]; omega
  have hk : Value.keys (.slice A (xs.take m).length c) = Value.keys (.slice A n c) := by cases A <;> first | rfl | simp [Value.keys, Value.ownBlock]
  refine h.upd (KB.refl _ _) (Row.ok ?_) (keys_nodup _) (fun k hk' => .inl (by rw [show (rowE E T (.slice A n c) xs).ks = Value.keys (.slice A n c) from rfl, ← hk]; exact hk'))
  obtain ⟨h1, h2⟩ := hR
  refine ⟨E.cells_length _, ?_⟩
  rcases h2 with ⟨e, hn⟩ | ⟨g, cap, cur, e, hb, hg, hc, hm2, hs, ht⟩
  · injection e with e1 e2 e3
    subst e1 e2 e3
    rw [hl]
    exact .inl ⟨by rw [show m = 0 by omega], by omega⟩
  · injection e with e1 e2 e3
    subst e1 e2 e3
    refine .inr ⟨g, c, cur, rfl, hb, hg, by rw [hl]; omega, hm2, hs, ?_⟩
    rw [hl, E.cells_take, ← ht, List.take_take, Nat.min_eq_left (Nat.mul_le_mul_right _ hm)]
theorem cutA_is {A : Option Addr} {c l k : Nat} (h : l = 0) : (if c = l then A else A.map (·.add (l * k))) = A := by
  subst h
  split
  · rfl
  · cases A with
    | none => rfl
    | some a => simp [Addr.add]
end
end Go.Gv
