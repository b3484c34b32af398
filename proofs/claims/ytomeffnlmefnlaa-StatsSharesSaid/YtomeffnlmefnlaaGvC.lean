/- Memory: what is kept, entries with their blocks, rows that are read and rows that are owned. -/
import Derived.Test.YtomeffnlmefnlaaGvB
namespace Go.Gv
open Go Go.RowKit

/-! ### Kept but S -/
/-- Are the draws told? (a seat's own word: True, but where a range over a function would not tell them) -/
def DR : Prop := True
structure KB (S : Nat → Prop) (w w' : World) : Prop where
  os : w'.os = w.os
  tape : w'.tape = w.tape
  output : w'.output = w.output
  dr : DR → w.drawn ≤ w'.drawn
  size : w.heap.size ≤ w'.heap.size
  blk : ∀ k, k < w.heap.size → ¬ S k → w'.heap[k]? = w.heap[k]?
abbrev No : Nat → Prop := fun _ => False
theorem KB.refl (S : Nat → Prop) (w : World) : KB S w w := ⟨rfl, rfl, rfl, fun _ => Nat.le_refl _, Nat.le_refl _, fun _ _ _ => rfl⟩
theorem KB.trans {S S' : Nat → Prop} {a b c : World} (h : KB S a b) (k : KB S' b c) (hs : ∀ i, i < a.heap.size → S' i → S i) : KB S a c :=
  ⟨k.os.trans h.os, k.tape.trans h.tape, k.output.trans h.output, fun d => Nat.le_trans (h.dr d) (k.dr d), Nat.le_trans h.size k.size, fun i hi hn => (k.blk i (Nat.lt_of_lt_of_le hi h.size) fun h' => hn (hs i hi h')).trans (h.blk i hi hn)⟩
theorem KB.mono {S S' : Nat → Prop} {a b : World} (h : KB S a b) (hs : ∀ i, S i → S' i) : KB S' a b := ⟨h.os, h.tape, h.output, h.dr, h.size, fun i hi hn => h.blk i hi fun h' => hn (hs i h')⟩
theorem KB.no {S : Nat → Prop} {a b : World} (h : KB No a b) : KB S a b := h.mono fun _ h => h.elim
theorem KB.transN {S : Nat → Prop} {a b c : World} (h : KB S a b) (k : KB No b c) : KB S a c := h.trans k fun _ _ h => h.elim
theorem KB.drew {S : Nat → Prop} (w : World) : KB S w w.drew := ⟨rfl, rfl, rfl, fun _ => Nat.le_succ _, Nat.le_refl _, fun _ _ _ => rfl⟩
theorem KB.drewN {S : Nat → Prop} (w : World) (n : Nat) : KB S w (w.drewN n) := ⟨rfl, rfl, rfl, fun _ => Nat.le_add_right _ _, Nat.le_refl _, fun _ _ _ => rfl⟩
theorem KB.alloc {S : Nat → Prop} (w : World) (o : Obj) : KB S w (w.alloc o) := ⟨rfl, rfl, rfl, fun _ => Nat.le_refl _, by simp, fun k hk _ => Below.heap_alloc w o k hk⟩
theorem KB.setCell (w : World) (a : Addr) (v : Value) : KB (· = a.block) w (w.setCell a v) :=
  ⟨rfl, rfl, rfl, fun _ => Nat.le_refl _, by simp [World.setCell], fun k _ hn => Below.heap_setCell w a v k hn⟩
theorem KB.below {w w' : World} (h : KB No w w') : Below w.heap.size w w' := ⟨h.os, h.tape, h.output, h.size, fun k hk => h.blk k hk fun h => h⟩
theorem KB.cell {S : Nat → Prop} {w w' : World} (h : KB S w w') {a : Addr} {v : Value} (hc : w.cell? a = some v) (hn : ¬ S a.block) : w'.cell? a = some v :=
  (World.cell?_of_block (h.blk a.block (World.block_lt_of_cell? w a hc) hn)).trans hc

/-! ### What stays true as long as the blocks of S alone change -/
def St (S : Nat → Prop) (w : World) (p : World → Prop) : Prop := ∀ w', KB S w w' → p w'
theorem St.now {S : Nat → Prop} {w : World} {p : World → Prop} (h : St S w p) : p w := h w (KB.refl S w)
theorem St.mono {S S' : Nat → Prop} {w : World} {p : World → Prop} (h : St S w p) (hs : ∀ i, S' i → S i) : St S' w p := fun w' hk => h w' (hk.mono hs)
theorem St.imp {S : Nat → Prop} {w : World} {p q : World → Prop} (h : St S w p) (hpq : ∀ w, p w → q w) : St S w q := fun w' hk => hpq w' (h w' hk)

/-! ### Entries -/
structure Ent where
  ks : List Nat
  p : World → Prop
structure Ent.Ok (e : Ent) (w : World) : Prop where
  now : e.p w
  lt : ∀ k ∈ e.ks, k < w.heap.size
  loc : ∀ w', (∀ k ∈ e.ks, w'.heap[k]? = w.heap[k]?) → w.heap.size ≤ w'.heap.size → e.p w'
theorem Ent.Ok.kept {e : Ent} {w w' : World} {S : Nat → Prop} (h : e.Ok w) (hk : KB S w w') (hn : ∀ k ∈ e.ks, ¬ S k) : e.Ok w' := by
  have hb : ∀ k ∈ e.ks, w'.heap[k]? = w.heap[k]? := fun k h' => hk.blk k (h.lt k h') (hn k h')
  exact ⟨h.loc w' hb hk.size, fun k h' => Nat.lt_of_lt_of_le (h.lt k h') hk.size, fun v hv hs => h.loc v (fun k h' => (hv k h').trans (hb k h')) (Nat.le_trans hk.size hs)⟩
def keys (L : List Ent) : List Nat := L.flatMap Ent.ks
theorem keys_append (A B : List Ent) : keys (A ++ B) = keys A ++ keys B := by simp [keys]
theorem keys_cons (e : Ent) (L : List Ent) : keys (e :: L) = e.ks ++ keys L := by simp [keys]
theorem mem_keys {e : Ent} {L : List Ent} {k : Nat} (he : e ∈ L) (hk : k ∈ e.ks) : k ∈ keys L := List.mem_flatMap.2 ⟨e, he, hk⟩

structure SH (w0 : World) (S : Nat → Prop) (w : World) (L : List Ent) : Prop where
  kb : KB S w0 w
  ok : ∀ e ∈ L, e.Ok w
  nd : (keys L).Nodup
  new : ∀ k ∈ keys L, k < w0.heap.size → S k

section
variable {w0 w w' : World} {S : Nat → Prop} {L A B Es Es' : List Ent} {e e' : Ent}
theorem SH.nil (S : Nat → Prop) (w : World) : SH w S w [] := ⟨KB.refl S w, fun _ h => (by cases h), List.nodup_nil, fun _ h => (by cases h)⟩
theorem SH.step (h : SH w0 S w (Es ++ L)) (hk : KB (· ∈ keys Es) w w') (ho : ∀ e ∈ Es', e.Ok w') (hn : (keys Es').Nodup)
    (hs : ∀ k ∈ keys Es', k ∈ keys Es ∨ w.heap.size ≤ k) : SH w0 S w' (Es' ++ L) := by
  have hnd := h.nd
  rw [keys_append, List.nodup_append] at hnd
  obtain ⟨n1, n2, n3⟩ := hnd
  have hL : ∀ e ∈ L, e.Ok w' := fun e he => (h.ok e (List.mem_append_right _ he)).kept hk fun k hk' hm => n3 k hm k (mem_keys he hk') rfl
  have hlt : ∀ k ∈ keys L, k < w.heap.size := fun k hk' => by
    obtain ⟨e, he, hke⟩ := List.mem_flatMap.1 hk'
    exact (h.ok e (List.mem_append_right _ he)).lt k hke
  refine ⟨h.kb.trans hk fun i hi hm => h.new i (by rw [keys_append]; exact List.mem_append_left _ hm) hi, fun e he => ?_, ?_, fun k hk' hlt' => ?_⟩
  · rcases List.mem_append.1 he with he | he
    · exact ho e he
    · exact hL e he
  · rw [keys_append, List.nodup_append]
    refine ⟨hn, n2, fun a ha b hb hab => ?_⟩
    subst hab
    rcases hs a ha with h' | h'
    · exact n3 a h' a hb rfl
    · have := hlt a hb; omega
  · rw [keys_append] at hk'
    rcases List.mem_append.1 hk' with h' | h'
    · rcases hs k h' with h'' | h''
      · exact h.new k (by rw [keys_append]; exact List.mem_append_left _ h'') hlt'
      · have := h.kb.size; omega
    · exact h.new k (by rw [keys_append]; exact List.mem_append_right _ h') hlt'
/-- One entry takes another one's place. -/
theorem SH.upd (h : SH w0 S w (e :: L)) (hk : KB (· ∈ e.ks) w w') (ho : e'.Ok w') (hn : e'.ks.Nodup) (hs : ∀ k ∈ e'.ks, k ∈ e.ks ∨ w.heap.size ≤ k) : SH w0 S w' (e' :: L) :=
  SH.step (Es := [e]) (Es' := [e']) h (by simpa [keys] using hk) (by simpa using ho) (by simpa [keys] using hn) (by simpa [keys] using hs)
/-- What is new. -/
theorem SH.more (h : SH w0 S w L) (hk : KB No w w') (ho : e'.Ok w') (hn : e'.ks.Nodup) (hs : ∀ k ∈ e'.ks, w.heap.size ≤ k) : SH w0 S w' (e' :: L) :=
  SH.step (Es := []) (Es' := [e']) h (hk.mono fun _ h => h.elim) (by simpa using ho) (by simpa [keys] using hn) (by simpa [keys] using hs)
theorem SH.same (h : SH w0 S w L) (hk : KB No w w') : SH w0 S w' L := SH.step (Es := []) (Es' := []) h (hk.mono fun _ h => h.elim) (by simp) (by simp [keys]) (by simp [keys])
theorem SH.drew (h : SH w0 S w L) : SH w0 S w.drew L := h.same (KB.drew w)
theorem SH.front (A : List Ent) (h : SH w0 S w (A ++ e :: B)) : SH w0 S w (e :: (A ++ B)) := by
  refine ⟨h.kb, fun x hx => h.ok x ?_, ?_, fun k hk => h.new k ?_⟩
  · simp only [List.mem_cons, List.mem_append] at hx ⊢; rcases hx with h | h | h <;> simp [h]
  · have := h.nd
    rw [keys_append, keys_cons] at this
    rw [keys_cons, keys_append]
    exact (List.perm_append_comm_assoc _ _ _).nodup_iff.1 this
  · rw [keys_cons, keys_append] at hk
    rw [keys_append, keys_cons]
    simp only [List.mem_append] at hk ⊢; rcases hk with h | h | h <;> simp [h]
theorem SH.tail (h : SH w0 S w (e :: L)) : SH w0 S w L :=
  ⟨h.kb, fun x hx => h.ok x (List.mem_cons_of_mem _ hx), (by have := h.nd; rw [keys_cons] at this; exact (List.nodup_append.1 this).2.1), fun k hk => h.new k (by rw [keys_cons]; exact List.mem_append_right _ hk)⟩
theorem SH.at (h : SH w0 S w L) (he : e ∈ L) : e.p w := (h.ok e he).now
theorem SH.hd (h : SH w0 S w (e :: L)) : e.p w := (h.ok e (.head _)).now
/-- What was known at the begin, and hangs on no block that is told here. -/
theorem SH.arg {p : World → Prop} (h : SH w0 S w L) (hp : St S w0 p) : p w := hp w h.kb
theorem SH.st {p : World → Prop} {S' : Nat → Prop} (h : SH w0 S w L) (hp : St S w0 p) (hs : ∀ k, S' k → k ∈ keys L) : St S' w p := fun w' hk =>
  hp w' (h.kb.trans hk fun i hi hs' => h.new i (hs i hs') hi)
theorem SH.stN {p : World → Prop} (h : SH w0 S w L) (hp : St S w0 p) : St No w p := h.st hp fun _ h => h.elim
/-- An entry's fact holds as long as other entries' blocks alone change. -/
theorem SH.ste (h : SH w0 S w L) (he : e ∈ L) {S' : Nat → Prop} (hs : ∀ k ∈ e.ks, ¬ S' k) : St S' w e.p := fun _ hk => ((h.ok e he).kept hk hs).now
theorem SH.steN (h : SH w0 S w L) (he : e ∈ L) : St No w e.p := h.ste he fun _ _ h => h
theorem SH.ne (h : SH w0 S w (e :: L)) (he : e' ∈ L) : ∀ k ∈ e'.ks, k ∉ e.ks := fun k hk hk' => by
  have := h.nd
  rw [keys_cons, List.nodup_append] at this
  exact this.2.2 k hk' k (mem_keys he hk) rfl
theorem SH.lt (h : SH w0 S w L) : ∀ k ∈ keys L, k < w.heap.size := fun k hk' => by
  obtain ⟨e, he, hke⟩ := List.mem_flatMap.1 hk'
  exact (h.ok e he).lt k hke
end

/-! ### Elements, as cells -/
structure El (α : Type) where
  sz : Nat
  enc : α → List Value
  len : ∀ x, (enc x).length = sz
  one : ∀ x, ∀ u ∈ enc x, u.oneCell' = true
def El.cells {α : Type} (E : El α) (xs : List α) : List Value := xs.flatMap E.enc
section
variable {α : Type} (E : El α)
theorem El.cells_nil : E.cells [] = [] := rfl
theorem El.cells_cons (x : α) (xs : List α) : E.cells (x :: xs) = E.enc x ++ E.cells xs := by simp [El.cells]
theorem El.cells_append (xs ys : List α) : E.cells (xs ++ ys) = E.cells xs ++ E.cells ys := by simp [El.cells]
theorem El.cells_length (xs : List α) : (E.cells xs).length = xs.length * E.sz := by
  induction xs with
  | nil => simp [El.cells]
  | cons x xs ih => rw [El.cells_cons, List.length_append, ih, E.len, List.length_cons, Nat.succ_mul]; omega
theorem El.cells_get : ∀ (xs : List α) (i : Nat) (x : α) (t : Nat) (u : Value), xs[i]? = some x → (E.enc x)[t]? = some u → (E.cells xs)[i * E.sz + t]? = some u
  | [], i, _, _, _, h, _ => by simp at h
  | y :: xs, 0, x, t, u, h, hu => by
    simp at h
    subst h
    have : t < (E.enc y).length := (List.getElem?_eq_some_iff.1 hu).1
    rw [El.cells_cons, Nat.zero_mul, Nat.zero_add, List.getElem?_append_left this]
    exact hu
  | y :: xs, i + 1, x, t, u, h, hu => by
    rw [El.cells_cons, List.getElem?_append_right (by rw [E.len, Nat.succ_mul]; omega), E.len, show (i + 1) * E.sz + t - E.sz = i * E.sz + t by rw [Nat.succ_mul]; omega]
    exact El.cells_get xs i x t u (by simpa using h) hu
theorem El.cells_take (xs : List α) (i : Nat) : E.cells (xs.take i) = (E.cells xs).take (i * E.sz) := by
  induction xs generalizing i with
  | nil => simp [El.cells]
  | cons x xs ih =>
    cases i with
    | zero => simp [El.cells]
    | succ i => rw [List.take_succ_cons, El.cells_cons, El.cells_cons, ih, Nat.succ_mul, Nat.add_comm, List.take_append, E.len, show E.sz + i * E.sz - E.sz = i * E.sz by omega, List.take_of_length_le (l := E.enc x) (by rw [E.len]; omega)]
theorem El.cells_drop (xs : List α) (i : Nat) : E.cells (xs.drop i) = (E.cells xs).drop (i * E.sz) := by
  induction xs generalizing i with
  | nil => simp [El.cells]
  | cons x xs ih =>
    cases i with
    | zero => simp [El.cells]
    | succ i => rw [List.drop_succ_cons, El.cells_cons, ih, Nat.succ_mul, Nat.add_comm, List.drop_append, E.len, show E.sz + i * E.sz - E.sz = i * E.sz by omega, List.drop_of_length_le (l := E.enc x) (by rw [E.len]; omega), List.nil_append]
theorem El.cells_replicate (n : Nat) (x : α) (v : Value) (h : E.enc x = [v]) : E.cells (List.replicate n x) = List.replicate n v := by
  induction n with
  | zero => rfl
  | succ n ih => rw [List.replicate_succ, El.cells_cons, ih, h]; rfl
end
theorem El.cells_one {α : Type} (E : El α) (xs : List α) : ∀ u ∈ E.cells xs, u.oneCell' = true := fun u hu => by
  obtain ⟨x, _, hx⟩ := List.mem_flatMap.1 hu
  exact E.one x u hx
theorem one_mem {u v : Value} (h : u ∈ [v]) (hv : v.oneCell' = true) : u.oneCell' = true := by simp at h; subst h; exact hv
def eI : El Int := ⟨1, fun x => [.int .i64 x], fun _ => rfl, fun _ _ h => one_mem h rfl⟩
def eU8 : El Int := ⟨1, fun x => [.int .u8 x], fun _ => rfl, fun _ _ h => one_mem h rfl⟩
def eB : El Bool := ⟨1, fun x => [.bool x], fun _ => rfl, fun _ _ h => one_mem h rfl⟩
def eS : El ByteArray := ⟨1, fun x => [.string x], fun _ => rfl, fun _ _ h => one_mem h rfl⟩
/-- Two numbers ('[2]int'). -/
def eP : El (Int × Int) := ⟨2, fun x => [.int .i64 x.1, .int .i64 x.2], fun _ => rfl, fun _ u h => by
  simp at h
  rcases h with rfl | rfl <;> rfl⟩
/-- Slices' values. -/
structure SV where
  A : Option Addr
  n : Nat
  c : Nat
instance : Inhabited SV := ⟨⟨none, 0, 0⟩⟩
def SV.v (s : SV) : Value := .slice s.A s.n s.c
def eV : El SV := ⟨1, fun x => [x.v], fun _ => rfl, fun _ _ h => one_mem h rfl⟩

/-! ### A slice that is read -/
def Rd {α : Type} (E : El α) (v : Value) (xs : List α) (w : World) : Prop :=
  ∃ A c, v = .slice A xs.length c ∧ xs.length ≤ c ∧ c ≤ maxLen ∧ (0 < xs.length → ∃ ad, A = some ad ∧ ∀ j u, (E.cells xs)[j]? = some u → w.cell? (ad.add j) = some u)
section
variable {α : Type} {E : El α} {v : Value} {xs : List α} {w w' : World}
theorem Rd.stN (h : Rd E v xs w) : St No w (Rd E v xs) := fun w' hk => by
  obtain ⟨A, c, e, h1, h2, h3⟩ := h
  exact ⟨A, c, e, h1, h2, fun hp => by
    obtain ⟨ad, ha, hc⟩ := h3 hp
    exact ⟨ad, ha, fun j u hu => hk.cell (hc j u hu) fun h => h⟩⟩
theorem Rd.len (h : Rd E v xs w) : ∃ A c, v = .slice A xs.length c := let ⟨A, c, e, _⟩ := h; ⟨A, c, e⟩
theorem addr_add (a : Addr) (i j : Nat) (hj : 0 < j) (_hi : a.spot = none) : a.add (i + j) = (a.add i).add j := by
  unfold Addr.add
  by_cases hi : i = 0
  · subst hi; simp
  · rw [if_neg (by omega), if_neg hi, if_neg (by omega)]; simp [Nat.add_assoc]
theorem addr_add' (a : Addr) (i j : Nat) : (a.add i).add j = a.add (i + j) := by
  unfold Addr.add
  by_cases hi : i = 0
  · subst hi; simp
  · by_cases hj : j = 0
    · subst hj; simp [hi]
    · rw [if_neg hi, if_neg hj, if_neg (by omega)]; simp [Nat.add_assoc]
/-- Element i: where it lies, and that its cells read so in every world in which no block of old has turned. -/
theorem St.elt (h : St No w (Rd E v xs)) (d : α) (i : Int) (h0 : 0 ≤ i) (h1 : i < xs.length) :
    ∃ A c, v = .slice (some A) xs.length c ∧ ∀ w', KB No w w' → ∀ t u, (E.enc (xs.getD i.toNat d))[t]? = some u → w'.cell? ((A.add (i.toNat * E.sz)).add t) = some u := by
  obtain ⟨A, c, e, h2, h3, h4⟩ := h.now
  obtain ⟨ad, ha, hc⟩ := h4 (by omega)
  subst ha
  refine ⟨ad, c, e, fun w' hk t u hu => ?_⟩
  obtain ⟨A', c', e', _, _, h4'⟩ := h w' hk
  obtain ⟨ad', ha', hc'⟩ := h4' (by omega)
  rw [e] at e'
  injection e' with e1 _ _
  rw [ha'] at e1
  injection e1 with e1
  subst e1
  rw [addr_add']
  refine hc' _ u (E.cells_get xs i.toNat (xs.getD i.toNat d) t u ?_ hu)
  have : i.toNat < xs.length := by omega
  simp [List.getD, this]
end

/-! ### A row of one's own -/
def Value.keys (v : Value) : List Nat := v.ownBlock.toList
def Row {α : Type} (E : El α) (T : TypeId) (v : Value) (xs : List α) (w : World) : Prop := w.ownsRow 0 T E.sz v xs.length (E.cells xs)
def rowE {α : Type} (E : El α) (T : TypeId) (v : Value) (xs : List α) : Ent := ⟨Value.keys v, Row E T v xs⟩
section
variable {α : Type} {E : El α} {T : TypeId} {v : Value} {xs : List α} {w w' : World}
theorem keys_nodup (v : Value) : (Value.keys v).Nodup := by unfold Value.keys; cases v.ownBlock <;> simp
theorem Row.lt (h : Row E T v xs w) : ∀ k ∈ Value.keys v, k < w.heap.size := fun k hk => by
  have : v.ownBlock = some k := by unfold Value.keys at hk; cases hv : v.ownBlock <;> rw [hv] at hk <;> simp at hk; rw [hk]
  exact (World.ownsRow.lt h k this).2
theorem Row.ok (h : Row E T v xs w) : (rowE E T v xs).Ok w := ⟨h, Row.lt h, fun w' hk _ => by
  obtain ⟨h1, h2⟩ := h
  refine ⟨h1, ?_⟩
  rcases h2 with h2 | ⟨g, cap, cur, rfl, hb, hg, hr⟩
  · exact .inl h2
  · exact .inr ⟨g, cap, cur, rfl, hb, (hk g (by simp [rowE, Value.keys, Value.ownBlock])).trans hg, hr⟩⟩
theorem Row.rd (h : Row E T v xs w) : Rd E v xs w := by
  obtain ⟨h1, h2⟩ := h
  rcases h2 with ⟨rfl, hn⟩ | ⟨g, cap, cur, rfl, _, hg, hc, hm, hs, ht⟩
  · exact ⟨none, 0, by rw [hn], by omega, by simp [maxLen], fun hp => absurd hp (by omega)⟩
  · refine ⟨some ⟨g, 0, none⟩, cap, rfl, hc, hm, fun _ => ⟨_, rfl, fun j u hu => ?_⟩⟩
    have hlt : j < (E.cells xs).length := (List.getElem?_eq_some_iff.1 hu).1
    have hj : j < xs.length * E.sz := by rwa [h1] at hlt
    have : w.cell? ⟨g, j, none⟩ = cur[j]? := cell_of_row w g j cur T (0, 0) hg
    have ha : (⟨g, 0, none⟩ : Addr).add j = ⟨g, j, none⟩ := by unfold Addr.add; split <;> simp_all
    rw [ha, this, ← Array.getElem?_toList]
    rw [← ht, List.getElem?_take, if_pos hj] at hu
    exact hu
theorem Row.new (cs : Array Value) (n : Nat) (xs : List α) (hn : xs.length = n) (hm : n ≤ maxLen) (hc : cs.toList = E.cells xs) : Row E T (.slice (some ⟨w.heap.size, 0, none⟩) n n) xs (w.alloc (.cells cs T)) := by
  subst hn
  have hz : cs.size = xs.length * E.sz := by rw [← Array.length_toList, hc, E.cells_length]
  refine ⟨E.cells_length xs, .inr ⟨w.heap.size, xs.length, cs, rfl, by omega, (by show (w.heap.push _)[w.heap.size]? = _; simp), Nat.le_refl _, hm, hz, ?_⟩⟩
  rw [hc, List.take_of_length_le (by rw [E.cells_length]; omega)]
theorem Row.nil : Row E T (.slice none 0 0) ([] : List α) w := ⟨by simp [El.cells], .inl ⟨rfl, rfl⟩⟩
end
theorem SH.rd {α : Type} {E : El α} {T : TypeId} {v : Value} {xs : List α} {w0 w : World} {S : Nat → Prop} {L : List Ent} (h : SH w0 S w L) (he : rowE E T v xs ∈ L) : St No w (Rd E v xs) :=
  (h.steN he).imp fun _ h => Row.rd h
end Go.Gv
