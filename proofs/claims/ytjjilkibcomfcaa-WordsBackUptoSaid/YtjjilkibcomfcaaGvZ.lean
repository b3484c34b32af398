/- slices.Grow of nothing, by the shelf: an own row of nothing, with room. -/
import Derived.Test.YtjjilkibcomfcaaGvI
import Derived.Shelf.Spec.SlicesGrow
namespace Go.Gv
open Go Go.RowKit Go.Proofs Go.Shelf
theorem growNil {α : Type} {E : El α} {P : Program} {ρ : Ren} {bytes : Nat} {z : Value} {w : World} {n : Nat} (L : Lays8.n4 P ρ) (hi : TI P (ρ.t 25) z E.sz bytes) (hz : z.cells.size = E.sz) (hE : 0 < E.sz) (hb : n * bytes ≤ 140737488355328) (hn : n ≤ 1000000000) :
    Calls P (ρ.f 4) #[.slice none 0 0, .int .i64 n] w fun e w' => ∃ v, e = .returned v ∧ ∃ A' c', v = .slice A' 0 c' ∧ SH w No w' [rowE E (ρ.t 25) (.slice A' 0 c') []] := by
  obtain ⟨i, hj, hz0, hs, hby⟩ := hi.get
  subst hby
  by_cases h0 : n = 0
  · subst h0
    refine (Any8.slices_Grow_room L none 0 0 0 w (by omega) (by omega) (by omega) (by omega)).mono ?_
    rintro e w' ⟨rfl, rfl⟩
    exact ⟨_, rfl, _, _, rfl, SH.more (SH.nil _ _) (KB.refl No _) (Row.ok (E := E) (xs := []) Row.nil) (keys_nodup (.slice none 0 0)) (fun _ h_ => by cases h_)⟩
  · refine (Any8.slices_Grow_grow L i z hj hz0 (by omega) none 0 0 n [] w (by omega) (by omega) (by simpa using hb) (by omega) (by simp) (fun _ => rfl) (fun a h => by cases h)).mono ?_
    rintro e w' ⟨rfl, rfl⟩
    refine ⟨_, rfl, _, _, rfl, SH.more (SH.nil _ _) ⟨rfl, rfl, rfl, fun _ => Nat.le_succ _, by simp, fun k hk _ => Below.heap_alloc w.drew _ k hk⟩ (Row.ok ⟨by simp [El.cells], .inr ⟨w.heap.size, _, _, rfl, by omega, heap_alloc_new w.drew _, Nat.zero_le _, grownCap_le_maxLen w _ 0 _ (by unfold maxLen; omega), ?_, by simp [El.cells]⟩⟩) (keys_nodup (.slice (some ⟨w.heap.size, 0, none⟩) 0 0)) (fun k hk => ?_)⟩
    · simp only [Array.size_append, List.size_toArray, size_zeroCells, hz, List.length_nil, ← Nat.add_mul]
      have := grownCap_ge w (0 + n) 0 (ρ.t 25)
      rw [Nat.zero_add, ← Nat.add_mul]
      congr 1; omega
    · simp [rowE, Value.keys, Value.ownBlock] at hk; omega
end Go.Gv
