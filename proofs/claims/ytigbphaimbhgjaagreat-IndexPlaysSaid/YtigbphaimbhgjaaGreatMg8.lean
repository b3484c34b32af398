/- Rows that are sorted by the library's contract. -/
import Derived.Test.YtigbphaimbhgjaaGreatMg3
import Derived.Shelf.SlSortCmp.WholeK
import Derived.Shelf.SlSortCmp.Whole1
import Derived.Shelf.SlSortCmp.NoneTotal
namespace Go.Gv
open Go Go.RowKit Go.Sort Go.Shelf Go.Lib Go.Proofs
section
variable {w0 w : World} {S : Nat → Prop} {L : List Ent} {P : Program}
/-- Cells that another row takes the place of. -/
theorem put_block {g : Nat} {cur F : Array Value} {T : TypeId} (hg : w.heap[g]? = some (.cells cur T (0, 0))) (m : Nat) (os : Array Obj) :
    (grow (putRow id (Sort.ahead w m) g 0 F) os).heap[g]? = some (.cells (putCells id 0 F cur) T (0, 0)) ∧ KB (· = g) w (grow (putRow id (Sort.ahead w m) g 0 F) os) := by
  have hlt : g < w.heap.size := (Array.getElem?_eq_some_iff.1 hg).1
  refine ⟨?_, rfl, rfl, rfl, fun _ => Nat.le_add_right _ _, by simp [grow, putRow, mapBlock, Sort.ahead], fun k hk hn => ?_⟩
  · show ((w.heap.modify g (onCells (putCells id 0 F))) ++ os)[g]? = _
    rw [Array.getElem?_append_left (by simpa using hlt), Array.getElem?_modify, if_pos rfl, hg]
    rfl
  · show ((w.heap.modify g (onCells (putCells id 0 F))) ++ os)[k]? = _
    rw [Array.getElem?_append_left (by simpa using hk), Array.getElem?_modify, if_neg (fun e => hn e.symm)]
theorem put_take {F cur : Array Value} (h : F.size ≤ cur.size) : (putCells id 0 F cur).toList.take F.size = F.toList := by
  apply List.ext_getElem
  · simp [putCells]; omega
  · intro i h1 h2
    have hF : i < F.size := by simpa using h2
    simp only [putCells, List.getElem_take, Array.getElem_toList, Array.getElem_mapIdx]
    rw [if_pos ⟨Nat.zero_le _, by omega⟩, Nat.sub_zero, getElem!_pos F i hF]
    rfl
theorem flat_cells {α : Type} [Inhabited α] (E : El α) (d : Array α) : (flatK E.enc E.sz d).toList = E.cells d.toList := by
  apply List.ext_getElem?
  intro j
  rcases Nat.lt_or_ge j (d.size * E.sz) with h | h
  · have hsz : 0 < E.sz := Nat.pos_of_ne_zero (by intro h0; rw [h0] at h; omega)
    have hq : j / E.sz < d.size := by rw [Nat.div_lt_iff_lt_mul hsz]; exact h
    have hdm : j / E.sz * E.sz + j % E.sz = j := by rw [Nat.mul_comm]; exact Nat.div_add_mod j E.sz
    have hml : j % E.sz < E.sz := Nat.mod_lt _ hsz
    have h1 : (flatK E.enc E.sz d)[j]! = (E.enc d[j / E.sz]!)[j % E.sz]! := get_flatK E.enc E.sz d j h
    have h2 : d.toList[j / E.sz]? = some d[j / E.sz] := by simp [hq]
    have h3 := E.cells_get d.toList (j / E.sz) _ (j % E.sz) _ h2 (List.getElem?_eq_getElem (by rw [E.len]; exact hml))
    rw [hdm] at h3
    rw [h3]
    have h4 : j < (flatK E.enc E.sz d).size := by rw [size_flatK]; exact h
    rw [Array.getElem?_toList, Array.getElem?_eq_getElem h4, ← getElem!_pos _ j h4, h1, getElem!_pos d _ hq, getElem!_pos (E.enc d[j / E.sz]) _ (by rw [E.len]; exact hml)]
  · rw [List.getElem?_eq_none (by rw [Array.length_toList, size_flatK]; exact h), List.getElem?_eq_none (by rw [E.cells_length]; simpa using h)]
theorem holds_row {cur F : Array Value} {g : Nat} {T : TypeId} (hg : w.heap[g]? = some (.cells cur T (0, 0))) (_ : F.size ≤ cur.size) (ht : cur.toList.take F.size = F.toList) : Holds id w g 0 F := fun j hj => by
  refine ⟨?_, by simp [World.frozen?, hg]⟩
  rw [Nat.zero_add, cell_of_row w g j cur T (0, 0) hg]
  have h1 : cur.toList[j]? = F.toList[j]? := by rw [← ht, List.getElem?_take, if_pos hj]
  rw [← Array.getElem?_toList, h1, Array.getElem?_toList, Array.getElem?_eq_getElem hj, getElem!_pos F j hj]
  rfl
/-- A world that differs by draws and new blocks alone. -/
theorem grown_of {W W' : World} (h : KB No W W') (hd : W.drawn ≤ W'.drawn) : ∃ q os, W' = grow (W.drewN q) os := by
  refine ⟨W'.drawn - W.drawn, W'.heap.extract W.heap.size W'.heap.size, ?_⟩
  obtain ⟨hp, tp, dr, os, out⟩ := W
  obtain ⟨hp', tp', dr', os', out'⟩ := W'
  have e1 := h.os
  have e2 := h.tape
  have e3 := h.output
  have e4 := hd
  have e5 := h.size
  simp only at e1 e2 e3 e4 e5
  subst e1 e2 e3
  have e6 : hp' = hp ++ hp'.extract hp.size hp'.size := by
    apply Array.ext_getElem?
    intro i
    rcases Nat.lt_or_ge i hp.size with hi | hi
    · rw [Array.getElem?_append_left hi]
      exact h.blk i hi fun h => h
    · rw [Array.getElem?_append_right hi, Array.getElem?_extract]
      split
      · congr 1; omega
      · rw [Array.getElem?_eq_none (by omega)]
  show (⟨hp', tp', dr', os', out'⟩ : World) = ⟨hp ++ hp'.extract hp.size hp'.size, tp', dr + (dr' - dr), os', out'⟩
  rw [← e6, show dr + (dr' - dr) = dr' by omega]
theorem perm_list {α : Type} [Inhabited α] {d d' : Array α} (h : PermIn 0 d.size d d') : d'.size = d.size ∧ d'.toList.Perm d.toList := by
  obtain ⟨h1, _, h3⟩ := h
  refine ⟨h1, ?_⟩
  rw [Array.extract_size, ← h1, Array.extract_size] at h3
  exact h3
theorem sorted_list {α : Type} [Inhabited α] {lt : α → α → Bool} {d : Array α} {n : Nat} (hn : n = d.size) (h : SortedIn lt 0 n d) : d.toList.Pairwise fun a b => lt b a = false := by
  rw [List.pairwise_iff_getElem]
  intro i j hi hj hij
  have hi' : i < d.size := by simpa using hi
  have hj' : j < d.size := by simpa using hj
  have := h i j (Nat.zero_le _) hij (by omega)
  rw [getElem!_pos d i hi', getElem!_pos d j hj'] at this
  simpa using this
/-- What a sort by the library tells, at structs. -/
def SortsK {α : Type} [Inhabited α] (P : Program) (fS g : Nat) (cb : Array Value) (E : El α) (cf : α → α → Int) : Prop :=
  ∀ (blk cap : Nat) (d : Array α) (w : World), CmpLays P g cb E.enc E.sz cf blk 0 d.size w → HoldsK E.enc E.sz w blk 0 d → blk < w.heap.size → d.size < 4611686018427387904 →
    Calls P fS #[.slice (some ⟨blk, 0, none⟩) d.size cap, .func (.func g) #[] cb] w fun e w' => e = .returned (.tuple #[]) ∧ ∃ d' n os, PermIn 0 d.size d d' ∧ SortedIn (ltOf cf) 0 d.size d' ∧ w' = sortWorldK E.enc E.sz w blk 0 n d' os
def SortsN (P : Program) (fS g : Nat) (cb : Array Value) : Prop := ∀ (p : Option Addr) (cap : Nat) (w : World), Calls P fS #[.slice p 0 cap, .func (.func g) #[] cb] w fun e w' => e = .returned (.tuple #[]) ∧ w' = w
theorem sort_callsK {α : Type} [Inhabited α] {E : El α} {T : TypeId} {fS g : Nat} {cb : Array Value} {cf : α → α → Int} {v : Value} {xs : List α} (hN : SortsN P fS g cb) (hK : SortsK P fS g cb E cf) (h : SH w0 S w (rowE E T v xs :: L))
    (hcmp : ∀ W, KB (· ∈ Value.keys v) w W → ∀ x y, Calls P g (#[.agg (E.enc x).toArray, .agg (E.enc y).toArray] ++ cb) W fun e w' => e = .returned (.int .i64 (cf x y)) ∧ KB No W w' ∧ W.drawn ≤ w'.drawn) (hsz : xs.length < 4611686018427387904) :
    Calls P fS #[v, .func (.func g) #[] cb] w fun e w' => ∃ u, e = .returned u ∧ (fun u w' => ∃ ys : List α, u = .tuple #[] ∧ ys.Perm xs ∧ (ys.Pairwise fun a b => ¬ cf b a < 0) ∧ SH w0 S w' (rowE E T v ys :: L) ∧ KB (· ∈ Value.keys v) w w') u w' := by
  have hR : Row E T v xs w := h.hd
  rcases hR.2 with ⟨rfl, hn⟩ | ⟨g2, cap, cur, rfl, hbg, hg, hnc, hcm, hcs, htake⟩
  · have hx : xs = [] := List.eq_nil_of_length_eq_zero hn
    subst hx
    exact (hN none 0 w).mono fun e w' ⟨he, hw⟩ => ⟨_, he, [], rfl, List.Perm.refl _, List.Pairwise.nil, hw ▸ h, hw ▸ KB.refl _ _⟩
  · have hlt : g2 < w.heap.size := (Array.getElem?_eq_some_iff.1 hg).1
    have hfs : (flatK E.enc E.sz xs.toArray).size = xs.length * E.sz := by rw [size_flatK]; simp
    have hle : xs.length * E.sz ≤ cur.size := by rw [hcs]; exact Nat.mul_le_mul_right _ hnc
    have hH : HoldsK E.enc E.sz w g2 0 xs.toArray := holds_row hg (by rw [hfs]; exact hle) (by rw [hfs, htake, flat_cells])
    have hk : ∀ W, KB (· = g2) w W → KB (· ∈ Value.keys (.slice (some ⟨g2, 0, none⟩) xs.length cap)) w W := fun W hW => hW.mono fun i hi => by simp [Value.keys, Value.ownBlock, hi]
    have hcall := hK g2 cap xs.toArray w (fun m os dk hs x y => (hcmp _ (hk _ (put_block hg m os).2) x y).mono fun e w' ⟨he, hw⟩ => ⟨he, grown_of hw.1 hw.2⟩) hH hlt (by simpa using hsz)
    have hsx : xs.toArray.size = xs.length := by simp
    rw [hsx] at hcall
    refine hcall.mono fun e w' ⟨he, d', m, os, hp, hs, hw⟩ => ?_
    rw [← hsx] at hp hs
    obtain ⟨p1, p2⟩ := perm_list hp
    have hd : d'.toList.length = xs.length := by rw [Array.length_toList, p1]; simp
    have hfd : (flatK E.enc E.sz d').size = xs.length * E.sz := by rw [size_flatK, p1]; simp
    obtain ⟨b1, b2⟩ := put_block (F := flatK E.enc E.sz d') hg m os
    have hw2 : w' = grow (putRow id (Sort.ahead w m) g2 0 (flatK E.enc E.sz d')) os := hw
    have hR' : Row E T (.slice (some ⟨g2, 0, none⟩) xs.length cap) d'.toList w' := by
      refine ⟨E.cells_length _, .inr ⟨g2, cap, _, by rw [hd], hbg, hw2 ▸ b1, by rw [hd]; exact hnc, hcm, by simp [putCells, hcs], ?_⟩⟩
      rw [hd, ← hfd, put_take (by rw [hfd]; exact hle), flat_cells]
    refine ⟨_, he, d'.toList, rfl, by simpa using p2, (sorted_list (by rw [p1]) hs).imp fun {a b} hab => by simpa [ltOf] using hab, h.upd (e' := rowE E T _ d'.toList) (hw2 ▸ hk _ b2) (Row.ok hR') (keys_nodup (.slice (some ⟨g2, 0, none⟩) xs.length cap)) (fun k hk => .inl hk), hw2 ▸ hk _ b2⟩
/-- .. at one cell. -/
def Sorts1 {α : Type} [Inhabited α] (P : Program) (fS g : Nat) (cb : Array Value) (enc : α → Value) (cf : α → α → Int) : Prop :=
  ∀ (blk cap : Nat) (d : Array α) (w : World), CmpLays1 P g cb enc cf blk 0 d.size w → Holds enc w blk 0 d → blk < w.heap.size → d.size < 4611686018427387904 →
    Calls P fS #[.slice (some ⟨blk, 0, none⟩) d.size cap, .func (.func g) #[] cb] w fun e w' => e = .returned (.tuple #[]) ∧ ∃ d' n os, PermIn 0 d.size d d' ∧ SortedIn (ltOf cf) 0 d.size d' ∧ w' = sortWorld enc w blk 0 n d' os
theorem put1 {α : Type} [Inhabited α] (enc : α → Value) (w : World) (blk : Nat) (d : Array α) : putRow enc w blk 0 d = putRow id w blk 0 (d.map enc) := by
  unfold putRow
  congr 1
  funext c
  unfold putCells
  apply Array.ext (by simp)
  intro i h1 h2
  simp only [Array.getElem_mapIdx, Array.size_map]
  split
  · rename_i h
    rw [getElem!_pos d _ (by omega), getElem!_pos (d.map enc) _ (by simp; omega)]
    simp
  · rfl
theorem sort_calls1 {α : Type} [Inhabited α] {E : El α} {enc : α → Value} {T : TypeId} {fS g : Nat} {cb : Array Value} {cf : α → α → Int} {v : Value} {xs : List α} (hz : E.sz = 1) (hE : ∀ x, E.enc x = [enc x]) (hN : SortsN P fS g cb) (hK : Sorts1 P fS g cb enc cf) (h : SH w0 S w (rowE E T v xs :: L))
    (hcmp : ∀ W, KB (· ∈ Value.keys v) w W → ∀ x y, Calls P g (#[enc x, enc y] ++ cb) W fun e w' => e = .returned (.int .i64 (cf x y)) ∧ KB No W w' ∧ W.drawn ≤ w'.drawn) (hsz : xs.length < 4611686018427387904) :
    Calls P fS #[v, .func (.func g) #[] cb] w fun e w' => ∃ u, e = .returned u ∧ (fun u w' => ∃ ys : List α, u = .tuple #[] ∧ ys.Perm xs ∧ (ys.Pairwise fun a b => ¬ cf b a < 0) ∧ SH w0 S w' (rowE E T v ys :: L) ∧ KB (· ∈ Value.keys v) w w') u w' := by
  have hcell : ∀ l : List α, E.cells l = l.map enc := fun l => by
    induction l with
    | nil => rfl
    | cons x l ih => rw [El.cells_cons, ih, hE]; rfl
  have hR : Row E T v xs w := h.hd
  rcases hR.2 with ⟨rfl, hn⟩ | ⟨g2, cap, cur, rfl, hbg, hg, hnc, hcm, hcs, htake⟩
  · have hx : xs = [] := List.eq_nil_of_length_eq_zero hn
    subst hx
    exact (hN none 0 w).mono fun e w' ⟨he, hw⟩ => ⟨_, he, [], rfl, List.Perm.refl _, List.Pairwise.nil, hw ▸ h, hw ▸ KB.refl _ _⟩
  · rw [hz, Nat.mul_one] at hcs htake
    have hlt : g2 < w.heap.size := (Array.getElem?_eq_some_iff.1 hg).1
    have hH0 : Holds id w g2 0 (xs.toArray.map enc) := holds_row hg (by simp; omega) (by rw [show (xs.toArray.map enc).size = xs.length by simp, htake, hcell]; simp)
    have hH : Holds enc w g2 0 xs.toArray := fun j hj => by
      have hj' : j < xs.length := by simpa using hj
      have := hH0 j (by simpa using hj')
      rw [getElem!_pos (xs.toArray.map enc) j (by simpa using hj')] at this
      rw [getElem!_pos xs.toArray j hj]
      simpa using this
    have hk : ∀ W, KB (· = g2) w W → KB (· ∈ Value.keys (.slice (some ⟨g2, 0, none⟩) xs.length cap)) w W := fun W hW => hW.mono fun i hi => by simp [Value.keys, Value.ownBlock, hi]
    have hcall := hK g2 cap xs.toArray w (fun m os dk hs x y => (hcmp _ (hk _ (by unfold sortWorld; rw [put1]; exact (put_block hg m os).2)) x y).mono fun e w' ⟨he, hw⟩ => ⟨he, grown_of hw.1 hw.2⟩) hH hlt (by simpa using hsz)
    have hsx : xs.toArray.size = xs.length := by simp
    rw [hsx] at hcall
    refine hcall.mono fun e w' ⟨he, d', m, os, hp, hs, hw⟩ => ?_
    rw [← hsx] at hp hs
    obtain ⟨p1, p2⟩ := perm_list hp
    have hd : d'.toList.length = xs.length := by rw [Array.length_toList, p1]; simp
    have hfd : (d'.map enc).size = xs.length := by rw [Array.size_map, p1]; simp
    obtain ⟨b1, b2⟩ := put_block (F := d'.map enc) hg m os
    have hw2 : w' = grow (putRow id (Sort.ahead w m) g2 0 (d'.map enc)) os := by rw [hw]; unfold sortWorld; rw [put1]
    have hR' : Row E T (.slice (some ⟨g2, 0, none⟩) xs.length cap) d'.toList w' := by
      refine ⟨E.cells_length _, .inr ⟨g2, cap, _, by rw [hd], hbg, hw2 ▸ b1, by rw [hd]; exact hnc, hcm, by simp [putCells, hcs, hz], ?_⟩⟩
      rw [hd, hz, Nat.mul_one, ← hfd, put_take (by rw [hfd]; omega), hcell]
      simp
    refine ⟨_, he, d'.toList, rfl, by simpa using p2, (sorted_list (by rw [p1]) hs).imp fun {a b} hab => by simpa [ltOf] using hab, h.upd (e' := rowE E T _ d'.toList) (hw2 ▸ hk _ b2) (Row.ok hR') (keys_nodup (.slice (some ⟨g2, 0, none⟩) xs.length cap)) (fun k hk => .inl hk), hw2 ▸ hk _ b2⟩
/-- Elements of which something is known. -/
def El.sub {α : Type} (E : El α) (p : α → Prop) : El {x : α // p x} := ⟨E.sz, fun x => E.enc x.1, fun x => E.len x.1, fun x => E.one x.1⟩
theorem sub_cells {α : Type} (E : El α) (p : α → Prop) (l : List {x : α // p x}) : (E.sub p).cells l = E.cells (l.map (·.1)) := by
  unfold El.cells
  rw [List.flatMap_map]
  rfl
theorem sub_row {α : Type} (E : El α) (p : α → Prop) (T : TypeId) (v : Value) (l : List {x : α // p x}) : rowE (E.sub p) T v l = rowE E T v (l.map (·.1)) := by
  unfold rowE
  congr 1
  funext w
  unfold Row
  rw [sub_cells, List.length_map]
  rfl
theorem sort_callsP {α : Type} {E : El α} {p : α → Prop} [Inhabited {x : α // p x}] {T : TypeId} {fS g : Nat} {cb : Array Value} {cf : α → α → Int} {v : Value} {xs : List α} (hN : SortsN P fS g cb) (hK : SortsK P fS g cb (E.sub p) fun x y => cf x.1 y.1) (h : SH w0 S w (rowE E T v xs :: L))
    (hp : ∀ x ∈ xs, p x) (hcmp : ∀ W, KB (· ∈ Value.keys v) w W → ∀ x y, p x → p y → Calls P g (#[.agg (E.enc x).toArray, .agg (E.enc y).toArray] ++ cb) W fun e w' => e = .returned (.int .i64 (cf x y)) ∧ KB No W w' ∧ W.drawn ≤ w'.drawn) (hsz : xs.length < 4611686018427387904) :
    Calls P fS #[v, .func (.func g) #[] cb] w fun e w' => ∃ u, e = .returned u ∧ (fun u w' => ∃ ys : List α, u = .tuple #[] ∧ ys.Perm xs ∧ (ys.Pairwise fun a b => ¬ cf b a < 0) ∧ SH w0 S w' (rowE E T v ys :: L) ∧ KB (· ∈ Value.keys v) w w') u w' := by
  have hx : (xs.pmap Subtype.mk hp).map (·.1) = xs := by rw [List.map_pmap]; simp
  have h2 : SH w0 S w (rowE (E.sub p) T v (xs.pmap Subtype.mk hp) :: L) := by rw [sub_row, hx]; exact h
  refine (sort_callsK (cf := fun x y : {x : α // p x} => cf x.1 y.1) hN hK h2 (fun W hW x y => hcmp W hW x.1 y.1 x.2 y.2) (by rw [List.length_pmap]; exact hsz)).mono fun e w' ⟨u, he, ys, hu, hpm, hpw, hSH, hkb⟩ => ?_
  refine ⟨u, he, ys.map (·.1), hu, hx ▸ hpm.map (·.1), List.pairwise_map.2 hpw, ?_, hkb⟩
  rw [← sub_row]
  exact hSH
theorem Calls.at_ {P : Program} {g : FuncId} {args : Array Value} {Q : Ending → World → Prop} {w : World} (h : Calls P g args w Q) : Calls P g args w Q := h
theorem isAgg_of {t : TypeId} {u : TypeDesc} (ht : P.underlying t = some u) (hu : (match u with | .struct _ | .array _ _ => true | _ => false) = true) (w : World) : (isAgg t).run P w = .ok true w := by
  cases u <;> simp at hu <;> simp [isAgg, run_underlying ht]
theorem sizeOf_of {t : TypeId} {z : Value} {size bytes : Nat} (hi : TI P t z size bytes) (w : World) : (Go.sizeOf t).run P w = .ok size w := by
  obtain ⟨i, hj, _, hs, _⟩ := hi.get
  simp [Go.sizeOf, typeInfo, hj, hs]
/-- A sort of one-cell elements, whatever else it is handed. -/
def Sorts1G {α : Type} [Inhabited α] (P : Program) (fS : Nat) (mk : Value → Nat → Array Value) (enc : α → Value) (cf : α → α → Int) : Prop :=
  ∀ (blk cap : Nat) (d : Array α) (w : World), Holds enc w blk 0 d → blk < w.heap.size → d.size < 4611686018427387904 →
    Calls P fS (mk (.slice (some ⟨blk, 0, none⟩) d.size cap) d.size) w fun e w' => e = .returned (.tuple #[]) ∧ ∃ d' n os, PermIn 0 d.size d d' ∧ SortedIn (ltOf cf) 0 d.size d' ∧ w' = sortWorld enc w blk 0 n d' os
theorem sort_calls1G {α : Type} [Inhabited α] {E : El α} {enc : α → Value} {T : TypeId} {fS : Nat} {mk : Value → Nat → Array Value} {cf : α → α → Int} {v : Value} {xs : List α} (hz : E.sz = 1) (hE : ∀ x, E.enc x = [enc x])
    (hN : ∀ (p : Option Addr) (cap : Nat) (w : World), Calls P fS (mk (.slice p 0 cap) 0) w fun e w' => e = .returned (.tuple #[]) ∧ w' = w) (hK : Sorts1G P fS mk enc cf) (h : SH w0 S w (rowE E T v xs :: L)) (hsz : xs.length < 4611686018427387904) :
    Calls P fS (mk v xs.length) w fun e w' => ∃ u, e = .returned u ∧ (fun u w' => ∃ ys : List α, u = .tuple #[] ∧ ys.Perm xs ∧ (ys.Pairwise fun a b => ¬ cf b a < 0) ∧ SH w0 S w' (rowE E T v ys :: L) ∧ KB (· ∈ Value.keys v) w w') u w' := by
  have hcell : ∀ l : List α, E.cells l = l.map enc := fun l => by
    induction l with
    | nil => rfl
    | cons x l ih => rw [El.cells_cons, ih, hE]; rfl
  have hR : Row E T v xs w := h.hd
  rcases hR.2 with ⟨rfl, hn⟩ | ⟨g2, cap, cur, rfl, hbg, hg, hnc, hcm, hcs, htake⟩
  · have hx : xs = [] := List.eq_nil_of_length_eq_zero hn
    subst hx
    exact (hN none 0 w).mono fun e w' ⟨he, hw⟩ => ⟨_, he, [], rfl, List.Perm.refl _, List.Pairwise.nil, hw ▸ h, hw ▸ KB.refl _ _⟩
  · rw [hz, Nat.mul_one] at hcs htake
    have hlt : g2 < w.heap.size := (Array.getElem?_eq_some_iff.1 hg).1
    have hH0 : Holds id w g2 0 (xs.toArray.map enc) := holds_row hg (by simp; omega) (by rw [show (xs.toArray.map enc).size = xs.length by simp, htake, hcell]; simp)
    have hH : Holds enc w g2 0 xs.toArray := fun j hj => by
      have hj' : j < xs.length := by simpa using hj
      have := hH0 j (by simpa using hj')
      rw [getElem!_pos (xs.toArray.map enc) j (by simpa using hj')] at this
      rw [getElem!_pos xs.toArray j hj]
      simpa using this
    have hk : ∀ W, KB (· = g2) w W → KB (· ∈ Value.keys (.slice (some ⟨g2, 0, none⟩) xs.length cap)) w W := fun W hW => hW.mono fun i hi => by simp [Value.keys, Value.ownBlock, hi]
    have hcall := hK g2 cap xs.toArray w hH hlt (by simpa using hsz)
    have hsx : xs.toArray.size = xs.length := by simp
    rw [hsx] at hcall
    refine hcall.mono fun e w' ⟨he, d', m, os, hp, hs, hw⟩ => ?_
    rw [← hsx] at hp hs
    obtain ⟨p1, p2⟩ := perm_list hp
    have hd : d'.toList.length = xs.length := by rw [Array.length_toList, p1]; simp
    have hfd : (d'.map enc).size = xs.length := by rw [Array.size_map, p1]; simp
    obtain ⟨b1, b2⟩ := put_block (F := d'.map enc) hg m os
    have hw2 : w' = grow (putRow id (Sort.ahead w m) g2 0 (d'.map enc)) os := by rw [hw]; unfold sortWorld; rw [put1]
    have hR' : Row E T (.slice (some ⟨g2, 0, none⟩) xs.length cap) d'.toList w' := by
      refine ⟨E.cells_length _, .inr ⟨g2, cap, _, by rw [hd], hbg, hw2 ▸ b1, by rw [hd]; exact hnc, hcm, by simp [putCells, hcs, hz], ?_⟩⟩
      rw [hd, hz, Nat.mul_one, ← hfd, put_take (by rw [hfd]; omega), hcell]
      simp
    refine ⟨_, he, d'.toList, rfl, by simpa using p2, (sorted_list (by rw [p1]) hs).imp fun {a b} hab => by simpa [ltOf] using hab, h.upd (e' := rowE E T _ d'.toList) (hw2 ▸ hk _ b2) (Row.ok hR') (keys_nodup (.slice (some ⟨g2, 0, none⟩) xs.length cap)) (fun k hk => .inl hk), hw2 ▸ hk _ b2⟩
theorem sort_callsPG {α : Type} {E : El α} {p : α → Prop} [Inhabited {x : α // p x}] {enc : α → Value} {T : TypeId} {fS : Nat} {mk : Value → Nat → Array Value} {cf : α → α → Int} {v : Value} {xs : List α} (hz : E.sz = 1) (hE : ∀ x, E.enc x = [enc x])
    (hN : ∀ (p : Option Addr) (cap : Nat) (w : World), Calls P fS (mk (.slice p 0 cap) 0) w fun e w' => e = .returned (.tuple #[]) ∧ w' = w) (hK : Sorts1G P fS mk (fun x : {x : α // p x} => enc x.1) fun x y => cf x.1 y.1) (h : SH w0 S w (rowE E T v xs :: L)) (hp : ∀ x ∈ xs, p x) (hsz : xs.length < 4611686018427387904) :
    Calls P fS (mk v xs.length) w fun e w' => ∃ u, e = .returned u ∧ (fun u w' => ∃ ys : List α, u = .tuple #[] ∧ ys.Perm xs ∧ (ys.Pairwise fun a b => ¬ cf b a < 0) ∧ SH w0 S w' (rowE E T v ys :: L) ∧ KB (· ∈ Value.keys v) w w') u w' := by
  have hx : (xs.pmap Subtype.mk hp).map (·.1) = xs := by rw [List.map_pmap]; simp
  have h2 : SH w0 S w (rowE (E.sub p) T v (xs.pmap Subtype.mk hp) :: L) := by rw [sub_row, hx]; exact h
  have hl : (xs.pmap Subtype.mk hp).length = xs.length := List.length_pmap
  rw [← hl]
  refine (sort_calls1G (E := E.sub p) (enc := fun x : {x : α // p x} => enc x.1) (cf := fun x y : {x : α // p x} => cf x.1 y.1) hz (fun x => hE x.1) hN hK h2 (by rw [hl]; exact hsz)).mono fun e w' ⟨u, he, ys, hu, hpm, hpw, hSH, hkb⟩ => ?_
  refine ⟨u, he, ys.map (·.1), hu, hx ▸ hpm.map (·.1), List.pairwise_map.2 hpw, ?_, hkb⟩
  rw [← sub_row]
  exact hSH
end
end Go.Gv

