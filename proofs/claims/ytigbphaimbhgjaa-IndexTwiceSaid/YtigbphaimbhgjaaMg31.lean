/- How any law's arguments are opened: by their types' shapes. -/
import Derived.Test.YtigbphaimbhgjaaMg30
import Derived.Test.YtigbphaimbhgjaaMg3
import Derived.Deep.Slices
import Derived.Laws.Cover2
import Derived.Test.YtigbphaimbhgjaaMg6
import Derived.Test.YtigbphaimbhgjaaMg25
namespace Go.Gv
open Go Go.RowKit
section
variable {H : Type} {enc : TypeId × Value → H} {P : Program} {w : World}
/-- Cells that read by a type are an element's cells. -/
def Opn (enc : TypeId × Value → H) (P : Program) (w : World) (t : TypeId) {α : Type} (f : α → List Value) (K : α → Prop) : Prop :=
  ∀ fuel cs d ps, DataW.trod enc P w 0 (fun _ => true) true fuel t cs = some (d, ps) → (∀ n ∈ DataW.weights P t d, n ≤ reachBytes) → ∃ a, cs = f a ∧ K a
theorem opn_map {t : TypeId} {α β : Type} {f : α → List Value} {g : β → List Value} {K : α → Prop} (φ : α → β) (h : Opn enc P w t f K) (hg : ∀ a, f a = g (φ a)) : Opn enc P w t g (fun b => ∃ a, φ a = b ∧ K a) := fun fuel cs d ps h1 h2 => by
  obtain ⟨a, e, k⟩ := h fuel cs d ps h1 h2
  exact ⟨φ a, e.trans (hg a), a, rfl, k⟩
theorem opn_imp {t : TypeId} {α : Type} {f : α → List Value} {K K' : α → Prop} (h : Opn enc P w t f K) (hk : ∀ a, K a → K' a) : Opn enc P w t f K' := fun fuel cs d ps h1 h2 => by
  obtain ⟨a, e, k⟩ := h fuel cs d ps h1 h2
  exact ⟨a, e, hk a k⟩
theorem opn_int {t : TypeId} {k : IntKind} (ht : P.underlying t = some (.int k)) : Opn enc P w t (fun x : Int => [.int k x]) (fun x => (Lit.int k x).wf = true) := fun fuel cs d ps h1 _ => by
  obtain ⟨n, e, _, hw⟩ := DataW.trod_int ht h1
  exact ⟨n, e, hw⟩
theorem opn_bool {t : TypeId} (ht : P.underlying t = some .bool) : Opn enc P w t (fun x : Bool => [.bool x]) (fun _ => True) := fun fuel cs d ps h1 _ => by
  obtain ⟨n, e, _⟩ := DataW.trod_bool ht h1
  exact ⟨n, e, trivial⟩
theorem opn_str {t : TypeId} (ht : P.underlying t = some .string) : Opn enc P w t (fun x : ByteArray => [.string x]) (fun x => x.size ≤ reachBytes) := fun fuel cs d ps h1 h2 => by
  obtain ⟨s, e, hx, _⟩ := DataW.trod_string ht h1
  refine ⟨s, e, ?_⟩
  injection hx with hd _
  subst hd
  have := h2 s.data.toList.length (by simp [DataW.weights])
  simpa using this
theorem opn_flt {t : TypeId} {k : FloatKind} (ht : P.underlying t = some (.float k)) : Opn enc P w t (fun x : Nat => [.float k x]) (fun x => (Lit.float k x).wf = true) := fun fuel cs d ps h1 _ => by
  cases fuel with
  | zero => simp [DataW.trod] at h1
  | succ n =>
    unfold DataW.trod at h1
    rw [ht] at h1
    split at h1 <;> simp_all
/-! #### structs, field by field -/
def OpnF (enc : TypeId × Value → H) (P : Program) (w : World) (fs : List Field) (o : Nat) {α : Type} (f : α → List Value) (K : α → Prop) : Prop :=
  ∀ (fuel : Nat) (cs : List Value) (xs : List (DataW H × List MemPlace)), xs.length = fs.length → (∀ (i : Nat) (fl : Field), fs[i]? = some fl → DataW.trod enc P w 0 (fun _ => true) true fuel fl.type ((cs.drop fl.offset).take (P.cellsOf fl.type)) = xs[i]?) →
    cs.length = o + (fs.map fun fl => P.cellsOf fl.type).sum → (∀ n ∈ DataW.weightsEach P (fs.map (·.type)) (xs.map (·.1)), n ≤ reachBytes) → ∃ a, cs.drop o = f a ∧ K a
theorem opnF_one {fl : Field} {o : Nat} {α : Type} {f : α → List Value} {K : α → Prop} (ho : fl.offset = o) (h : Opn enc P w fl.type f K) : OpnF enc P w [fl] o f K := fun fuel cs xs hl hx hc hw => by
  match xs, hl with
  | [x], _ =>
    have h1 := hx 0 fl rfl
    simp only [List.getElem?_cons_zero] at h1
    obtain ⟨a, e, k⟩ := h fuel _ x.1 x.2 h1 (fun n hn => hw n (by simp [DataW.weightsEach, hn]))
    refine ⟨a, ?_, k⟩
    rw [← e, ho, List.take_of_length_le]
    simp at hc
    simp [hc]
theorem opnF_cons {fl : Field} {fs : List Field} {o s : Nat} {α β : Type} {f : α → List Value} {g : β → List Value} {K : α → Prop} {J : β → Prop} (ho : fl.offset = o) (hs : P.cellsOf fl.type = s) (h : Opn enc P w fl.type f K) (hr : OpnF enc P w fs (o + s) g J) :
    OpnF enc P w (fl :: fs) o (fun p : α × β => f p.1 ++ g p.2) (fun p => K p.1 ∧ J p.2) := fun fuel cs xs hl hx hc hw => by
  match xs, hl with
  | x :: xs, hl =>
    have h1 := hx 0 fl rfl
    simp only [List.getElem?_cons_zero] at h1
    obtain ⟨a, e, k⟩ := h fuel _ x.1 x.2 h1 (fun n hn => hw n (by simp [DataW.weightsEach, hn]))
    obtain ⟨b, e2, j⟩ := hr fuel cs xs (by simpa using hl) (fun i fl' hi => by have := hx (i + 1) fl' (by simpa using hi); simpa using this) (by simp only [List.map_cons, List.sum_cons, hs] at hc; omega) (fun n hn => hw n (by
      simp only [List.map_cons, DataW.weightsEach, List.mem_append]; exact .inr hn))
    refine ⟨(a, b), ?_, k, j⟩
    simp only
    rw [← e, ← e2, ho, hs, ← List.drop_drop, List.take_append_drop]
theorem opn_struct {t : TypeId} {fs : Array Field} {α : Type} {f : α → List Value} {K : α → Prop} (ht : P.underlying t = some (.struct fs)) (hc : P.cellsOf t = (fs.toList.map fun fl => P.cellsOf fl.type).sum) (h : OpnF enc P w fs.toList 0 f K) : Opn enc P w t f K := fun fuel cs d ps h1 h2 => by
  obtain ⟨xs, n, rfl, hxy, hl, hlen, hx⟩ := DataW.trod_struct ht h1
  injection hxy with hd _
  subst hd
  obtain ⟨a, e, k⟩ := h n cs xs (by simpa using hlen) (fun i fl hi => hx i fl (by simpa using hi)) (by rw [hl, hc]; simp) (fun m hm => h2 m (by simp only [DataW.weights, ht]; exact hm))
  exact ⟨a, by simpa using e, k⟩
/-! #### slices -/
def SK {α : Type} (E : El α) (P : Program) (e : TypeId) (K : α → Prop) (w : World) (p : SV × List α) : Prop := p.1.n = p.2.length ∧ Rd E p.1.v p.2 w ∧ (∀ x ∈ p.2, K x) ∧ p.2.length * P.bytesOf e ≤ reachBytes
theorem list_of {α : Type} {n : Nat} {K : Nat → α → Prop} (h : ∀ i, i < n → ∃ a, K i a) : ∃ l : List α, l.length = n ∧ ∀ i a, l[i]? = some a → K i a := by
  induction n with
  | zero => exact ⟨[], rfl, fun i a h => by simp at h⟩
  | succ n ih =>
    obtain ⟨l, hl, hk⟩ := ih fun i hi => h i (by omega)
    obtain ⟨a, ha⟩ := h n (by omega)
    refine ⟨l ++ [a], by simp [hl], fun i b hb => ?_⟩
    rcases Nat.lt_or_ge i l.length with hlt | hge
    · rw [List.getElem?_append_left hlt] at hb; exact hk i b hb
    · rw [List.getElem?_append_right hge] at hb
      rcases Nat.eq_or_lt_of_le hge with he | hgt
      · subst he; simp at hb; subst hb; rw [hl]; exact ha
      · rw [List.getElem?_eq_none (by simp; omega)] at hb; cases hb
theorem weightsAll_mem {e : TypeId} : ∀ (l : List (DataW H)) (d : DataW H), d ∈ l → ∀ n ∈ DataW.weights P e d, n ∈ DataW.weightsAll P e l
  | [], _, h, _, _ => by cases h
  | x :: l, d, h, n, hn => by
    simp only [DataW.weightsAll, List.mem_append]
    rcases List.mem_cons.1 h with rfl | h
    · exact .inl hn
    · exact .inr (weightsAll_mem l d h n hn)
theorem opn_slice {t e : TypeId} {α : Type} {E : El α} {K : α → Prop} (ht : P.underlying t = some (.slice e)) (hz : P.cellsOf e = E.sz) (h : Opn enc P w e E.enc K) : Opn enc P w t (fun p : SV × List α => [p.1.v]) (SK E P e K w) := fun fuel cs d ps h1 h2 => by
  rcases Deep.open_slice ht h1 with ⟨rfl, hx⟩ | ⟨a, len, cap, m, n, D, Pl, rfl, _, hl, hm, hmm, hx, hel⟩
  · exact ⟨(⟨none, 0, 0⟩, []), rfl, rfl, ⟨none, 0, rfl, by simp, by simp [maxLen], fun h => absurd h (by simp)⟩, by simp, by simp⟩
  · injection hx with hd _
    subst hd
    have hmc : len ≤ m := by rw [hmm]; split <;> omega
    have hw : ∀ i, i < len → ∀ k ∈ DataW.weights P e (D i), k ≤ reachBytes := fun i hi k hk => h2 k (by
      simp only [DataW.weights, ht, List.mem_cons, List.mem_append]
      exact .inr (.inl (weightsAll_mem _ (D i) (List.mem_map.2 ⟨i, List.mem_range.2 hi, rfl⟩) k hk)))
    obtain ⟨l, hl2, hk⟩ := list_of (K := fun i (x : α) => (w.cells? 0 (a.add (i * P.cellsOf e)) (P.cellsOf e) = some (E.enc x)) ∧ K x) (n := len) (fun i hi => by
      obtain ⟨cs', g1, g2⟩ := hel i (by omega)
      obtain ⟨x, e1, k⟩ := h n cs' (D i) (Pl i) g2 (hw i hi)
      exact ⟨x, e1 ▸ g1, k⟩)
    refine ⟨(⟨some a, len, cap⟩, l), rfl, hl2.symm, ⟨some a, cap, by rw [hl2]; rfl, by simp only [hl2]; exact hl, hm, fun _ => ⟨a, rfl, fun j u hu => ?_⟩⟩, fun x hx => ?_, ?_⟩
    · have hlt : j < (E.cells l).length := (List.getElem?_eq_some_iff.1 hu).1
      rw [E.cells_length] at hlt
      have hsz : 0 < E.sz := Nat.pos_of_ne_zero (by intro h0; rw [h0] at hlt; omega)
      have hq : j / E.sz < l.length := by rw [Nat.div_lt_iff_lt_mul hsz]; exact hlt
      have hdm : j / E.sz * E.sz + j % E.sz = j := by rw [Nat.mul_comm]; exact Nat.div_add_mod j E.sz
      have hgq : l[j / E.sz]? = some l[j / E.sz] := List.getElem?_eq_getElem hq
      have hml : j % E.sz < E.sz := Nat.mod_lt _ hsz
      have h3 := (hk _ _ hgq).1
      obtain ⟨_, h4, h5⟩ := World.cells?_some h3
      have h6 := h5 (j % E.sz) (by rw [hz]; exact hml)
      rw [addr_add', hz, hdm] at h6
      have h7 := E.cells_get l (j / E.sz) _ (j % E.sz) _ hgq (List.getElem?_eq_getElem (by rw [E.len]; exact hml))
      rw [hdm] at h7
      rw [h7] at hu
      rw [h6, ← hu, List.getElem?_eq_getElem (by rw [E.len]; exact hml)]
    · obtain ⟨i, hi⟩ := List.mem_iff_getElem?.1 hx
      exact (hk i x hi).2
    · have := h2 ((len + (m - len)) * P.bytesOf e) (by simp [DataW.weights, ht])
      refine Nat.le_trans (Nat.mul_le_mul_right _ ?_) this
      simp only [hl2]; omega
/-- Inner rows, chosen one by one. -/
theorem rows_of {ρ α : Type} {xs : List ρ} {J : ρ → List α → Prop} (h : ∀ x ∈ xs, ∃ l, J x l) : ∃ rows : List (ρ × List α), rows.map (·.1) = xs ∧ ∀ p ∈ rows, J p.1 p.2 := by
  induction xs with
  | nil => exact ⟨[], rfl, by simp⟩
  | cons x xs ih =>
    obtain ⟨rows, e, hj⟩ := ih fun y hy => h y (by simp [hy])
    obtain ⟨l, hl⟩ := h x (by simp)
    exact ⟨(x, l) :: rows, by simp [e], fun p hp => by
      rcases List.mem_cons.1 hp with rfl | hp
      · exact hl
      · exact hj p hp⟩
/-- A slice that is an argument. -/
theorem open_arg {t e : TypeId} {α : Type} {E : El α} {K : α → Prop} (ht : P.underlying t = some (.slice e)) (hz : P.cellsOf e = E.sz) (h : Opn enc P w e E.enc K) {a : Option Addr} {len cap : Nat} {d : DataW H} {ps : List MemPlace}
    (hd : DataW.Trod enc P w 0 (fun _ => true) true t (.slice a len cap) d ps) (hw : ∀ n ∈ DataW.weights P t d, n ≤ reachBytes) : ∃ l : List α, len = l.length ∧ St No w (Rd E (.slice a l.length cap) l) ∧ (∀ x ∈ l, K x) ∧ l.length * P.bytesOf e ≤ reachBytes := by
  obtain ⟨fuel, hf⟩ := hd
  obtain ⟨p, h1, h2, h3, h4, h5⟩ := opn_slice ht hz h fuel _ d ps hf hw
  have h6 : [Value.slice a len cap] = [p.1.v] := by simpa [Value.cells] using h1
  injection h6 with h6 _
  obtain ⟨⟨A, n, c⟩, l⟩ := p
  simp only [SV.v] at h2 h3 h6
  injection h6 with e1 e2 e3
  subst e1; subst e2; subst e3
  exact ⟨l, h2, Rd.stN (h2 ▸ h3), h4, h5⟩
theorem weights_at {ts : List TypeId} {ds : List (DataW H)} (h : (DataW.weightsEach P ts ds).all (· ≤ reachBytes) = true) {j : Nat} {t : TypeId} {d : DataW H} (ht : ts[j]? = some t) (hd : ds[j]? = some d) : ∀ n ∈ DataW.weights P t d, n ≤ reachBytes := fun n hn => by
  have := List.all_eq_true.1 h n (DataW.weights_mem_each ht hd n hn)
  simpa using this
/-- An argument of one cell or a struct. -/
theorem open_val {t : TypeId} {α : Type} {f : α → List Value} {K : α → Prop} (h : Opn enc P w t f K) {v : Value} {d : DataW H} {ps : List MemPlace}
    (hd : DataW.Trod enc P w 0 (fun _ => true) true t v d ps) (hw : ∀ n ∈ DataW.weights P t d, n ≤ reachBytes) : ∃ x, v.cells.toList = f x ∧ K x := by
  obtain ⟨fuel, hf⟩ := hd
  exact h fuel _ d ps hf hw
theorem agg_of {cs : Array Value} {l : List Value} (h : (Value.agg cs).cells.toList = l) : Value.agg cs = .agg l.toArray := by
  have : cs.toList = l := by simpa [Value.cells] using h
  rw [← this]
/-! #### lines and scripts -/
theorem opn_line {t : TypeId} {f0 f1 : Field} (ht : P.underlying t = some (.struct #[f0, f1])) (h0 : P.underlying f0.type = some .string) (h1 : P.underlying f1.type = some .bool) (hc : P.cellsOf f0.type = 1 ∧ P.cellsOf f1.type = 1 ∧ P.cellsOf t = 2 ∧ f0.offset = 0 ∧ f1.offset = 1) :
    Opn enc P w t eL.enc (fun x => x.1.size ≤ reachBytes) :=
  opn_imp (opn_struct (f := eL.enc) ht (by simp [hc.1, hc.2.1, hc.2.2.1]) (opnF_cons (f := fun x : ByteArray => [.string x]) (g := fun x : Bool => [.bool x]) hc.2.2.2.1 hc.1 (opn_str h0) (opnF_one hc.2.2.2.2 (opn_bool h1)))) fun _ h => h.1
theorem opn_edit {t tl : TypeId} {f0 f1 : Field} {K : Ln → Prop} (ht : P.underlying t = some (.struct #[f0, f1])) (h0 : P.underlying f0.type = some (.int .i64)) (h1 : P.underlying f1.type = some (.slice tl)) (hc : P.cellsOf f0.type = 1 ∧ P.cellsOf f1.type = 1 ∧ P.cellsOf t = 2 ∧ f0.offset = 0 ∧ f1.offset = 1) (hl : P.cellsOf tl = 2) (h : Opn enc P w tl eL.enc K) :
    Opn enc P w t eE.enc (fun x => ∃ l : List Ln, Rd eL x.2.v l w ∧ l.length * P.bytesOf tl ≤ reachBytes ∧ ∀ y ∈ l, K y) :=
  opn_imp (opn_map (f := fun p : Int × (SV × List Ln) => [.int .i64 p.1] ++ [p.2.1.v]) (g := eE.enc) (fun p : Int × (SV × List Ln) => (p.1, p.2.1)) (opn_struct ht (by simp [hc.1, hc.2.1, hc.2.2.1]) (opnF_cons (f := fun x : Int => [.int .i64 x]) (g := fun p : SV × List Ln => [p.1.v]) hc.2.2.2.1 hc.1 (opn_int h0) (opnF_one hc.2.2.2.2 (opn_slice h1 hl h)))) fun _ => rfl)
    fun x ⟨a, e, h⟩ => ⟨a.2.2, by subst e; exact h.2.2.1, by exact h.2.2.2.2, h.2.2.2.1⟩
theorem script_of {v : Value} {xs : List ED} {B : Nat} {K : Ln → Prop} (h : St No w (Rd eE v xs)) (hx : ∀ x ∈ xs, ∃ l : List Ln, Rd eL x.2.v l w ∧ l.length * B ≤ reachBytes ∧ ∀ y ∈ l, K y) (hB : 1 ≤ B) :
    ∃ inp : List (ED × List Ln), xs = inp.map (·.1) ∧ St No w (Rd eE v (inp.map (·.1))) ∧ St No w (RdIn (·.2) eL inp) ∧ (∀ p ∈ inp, p.2.length ≤ 140737488355328) := by
  obtain ⟨rows, e, hj⟩ := rows_of (J := fun (x : ED) l => Rd eL x.2.v l w ∧ l.length * B ≤ reachBytes ∧ ∀ y ∈ l, K y) hx
  refine ⟨rows, e.symm, e ▸ h, fun w' hk p hp => Rd.stN (hj p hp).1 w' hk, fun p hp => ?_⟩
  have h1 := (hj p hp).2.1
  have h2 : p.2.length * 1 ≤ p.2.length * B := Nat.mul_le_mul_left _ hB
  have : reachBytes = 0x7ffffffff000 := rfl
  omega
/-- Rows of lines. -/
theorem rr_of {α : Type} {E : El α} {v : Value} {xs : List SV} {J : List α → Prop} (h : St No w (Rd eV v xs)) (hx : ∀ x ∈ xs, ∃ l : List α, Rd E x.v l w ∧ J l) :
    ∃ rows : List (SV × List α), xs = rows.map (·.1) ∧ St No w (RdRR E v rows) ∧ ∀ p ∈ rows, J p.2 := by
  obtain ⟨rows, e, hj⟩ := rows_of (J := fun (x : SV) l => Rd E x.v l w ∧ J l) hx
  refine ⟨rows, e.symm, fun w' hk => ⟨?_, fun p hp => Rd.stN (hj p hp).1 w' hk⟩, fun p hp => (hj p hp).2⟩
  rw [e]; exact h w' hk
theorem opn_sv {t te : TypeId} {α : Type} {E : El α} {K : α → Prop} (ht : P.underlying t = some (.slice te)) (hz : P.cellsOf te = E.sz) (h : Opn enc P w te E.enc K) : Opn enc P w t eV.enc (fun x => ∃ l : List α, Rd E x.v l w ∧ l.length * P.bytesOf te ≤ reachBytes ∧ ∀ y ∈ l, K y) :=
  opn_imp (opn_map (g := eV.enc) (fun p : SV × List α => p.1) (opn_slice ht hz h) fun _ => rfl) fun _ ⟨a, e, h⟩ => ⟨a.2, by subst e; exact h.2.1, h.2.2.2, h.2.2.1⟩
end
end Go.Gv

namespace Go.Gv
open Go Go.RowKit
section
variable {H : Type} {enc : TypeId × Value → H} {P : Program} {w : World}
theorem opn_lb {t : TypeId} {f0 f1 : Field} (ht : P.underlying t = some (.struct #[f0, f1])) (h0 : P.underlying f0.type = some (.int .i64)) (h1 : P.underlying f1.type = some (.int .u64)) (hc : P.cellsOf f0.type = 1 ∧ P.cellsOf f1.type = 1 ∧ P.cellsOf t = 2 ∧ f0.offset = 0 ∧ f1.offset = 1) :
    Opn enc P w t eLb.enc (fun x => Go.Tly.WLB x) :=
  opn_imp (opn_struct (f := eLb.enc) ht (by simp [hc.1, hc.2.1, hc.2.2.1]) (opnF_cons (f := fun x : Int => [.int .i64 x]) (g := fun x : Int => [.int .u64 x]) hc.2.2.2.1 hc.1 (opn_int h0) (opnF_one hc.2.2.2.2 (opn_int h1)))) fun x h => by
    have h1 := h.1
    have h2 := h.2
    simp [Lit.wf, IntKind.min, IntKind.max, IntKind.signed, IntKind.bits] at h1 h2
    exact ⟨by omega, by omega, by omega, by omega⟩
theorem opn_it {t : TypeId} {f0 f1 f2 f3 g0 g1 l0 l1 : Field} (ht : P.underlying t = some (.struct #[f0, f1, f2, f3])) (h0 : P.underlying f0.type = some (.int .i64)) (h1 : P.underlying f1.type = some (.struct #[g0, g1])) (h10 : P.underlying g0.type = some (.int .i64)) (h11 : P.underlying g1.type = some (.int .u64))
    (h2 : P.underlying f2.type = some .bool) (h3 : P.underlying f3.type = some (.struct #[l0, l1])) (h30 : P.underlying l0.type = some .string) (h31 : P.underlying l1.type = some .bool)
    (hc : P.cellsOf t = 6 ∧ P.cellsOf f0.type = 1 ∧ P.cellsOf f1.type = 2 ∧ P.cellsOf f2.type = 1 ∧ P.cellsOf f3.type = 2 ∧ f0.offset = 0 ∧ f1.offset = 1 ∧ f2.offset = 3 ∧ f3.offset = 4)
    (hg : P.cellsOf g0.type = 1 ∧ P.cellsOf g1.type = 1 ∧ P.cellsOf f1.type = 2 ∧ g0.offset = 0 ∧ g1.offset = 1) (hl : P.cellsOf l0.type = 1 ∧ P.cellsOf l1.type = 1 ∧ P.cellsOf f3.type = 2 ∧ l0.offset = 0 ∧ l1.offset = 1) :
    Opn enc P w t eIt.enc (fun x => Go.Tly.WLB x.2.1) :=
  opn_imp (opn_struct (f := eIt.enc) ht (by simp [hc.1, hc.2.1, hc.2.2.1, hc.2.2.2.1, hc.2.2.2.2.1])
    (opnF_cons (f := fun x : Int => [.int .i64 x]) (g := fun p : Lb × (Bool × Ln) => eLb.enc p.1 ++ ([.bool p.2.1] ++ eL.enc p.2.2)) hc.2.2.2.2.2.1 hc.2.1 (opn_int h0)
      (opnF_cons (f := eLb.enc) (g := fun p : Bool × Ln => [.bool p.1] ++ eL.enc p.2) hc.2.2.2.2.2.2.1 hc.2.2.1 (opn_lb h1 h10 h11 hg)
        (opnF_cons (f := fun x : Bool => [.bool x]) (g := eL.enc) hc.2.2.2.2.2.2.2.1 hc.2.2.2.1 (opn_bool h2) (opnF_one hc.2.2.2.2.2.2.2.2 (opn_line h3 h30 h31 hl)))))) fun x h => h.2.1
end
end Go.Gv

namespace Go.Gv
open Go Go.RowKit Go.Idx
section
variable {H : Type} {enc : TypeId × Value → H} {P : Program} {w : World}
theorem opn_dd {t tl : TypeId} {f0 f1 f2 : Field} {K : Itm → Prop} (ht : P.underlying t = some (.struct #[f0, f1, f2])) (h0 : P.underlying f0.type = some .bool) (h1 : P.underlying f1.type = some .string) (h2 : P.underlying f2.type = some (.slice tl))
    (hc : P.cellsOf f0.type = 1 ∧ P.cellsOf f1.type = 1 ∧ P.cellsOf f2.type = 1 ∧ P.cellsOf t = 3 ∧ f0.offset = 0 ∧ f1.offset = 1 ∧ f2.offset = 2) (hl : P.cellsOf tl = 6) (h : Opn enc P w tl eIt.enc K) :
    Opn enc P w t eDd.enc (fun x : DD => x.2.1.size ≤ reachBytes ∧ ∃ l : List Itm, Rd eIt x.2.2.v l w ∧ ∀ y ∈ l, K y) :=
  opn_imp (opn_map (f := fun p : Bool × (ByteArray × (SV × List Itm)) => [.bool p.1] ++ ([.string p.2.1] ++ [p.2.2.1.v])) (g := eDd.enc) (fun p : Bool × (ByteArray × (SV × List Itm)) => (p.1, p.2.1, p.2.2.1))
    (opn_struct ht (by simp [hc.1, hc.2.1, hc.2.2.1, hc.2.2.2.1]) (opnF_cons (f := fun x : Bool => [.bool x]) (g := fun p : ByteArray × (SV × List Itm) => [.string p.1] ++ [p.2.1.v]) hc.2.2.2.2.1 hc.1 (opn_bool h0)
      (opnF_cons (f := fun x : ByteArray => [.string x]) (g := fun p : SV × List Itm => [p.1.v]) hc.2.2.2.2.2.1 hc.2.1 (opn_str h1) (opnF_one hc.2.2.2.2.2.2 (opn_slice h2 hl h))))) fun _ => rfl)
    fun x ⟨a, e, h⟩ => ⟨by subst e; exact h.2.1, a.2.2.2, by subst e; exact h.2.2.2.1, h.2.2.2.2.1⟩
theorem dd_of {v : Value} {xs : List DD} (h : St No w (Rd eDd v xs)) (hx : ∀ x ∈ xs, x.2.1.size ≤ reachBytes ∧ ∃ l : List Itm, Rd eIt x.2.2.v l w ∧ ∀ y ∈ l, Go.Tly.WLB y.2.1) :
    ∃ inp : DDS, xs = DLS inp ∧ St No w (Rd eDd v (DLS inp)) ∧ St No w (RdIn ddS eIt inp) ∧ (∀ p ∈ inp, p.1.2.1.size ≤ 140737488355328) ∧ ∀ p ∈ inp, ∀ y ∈ p.2, 0 ≤ y.2.1.2 ∧ y.2.1.2 < 18446744073709551616 := by
  obtain ⟨rows, e, hj⟩ := rows_of (J := fun (x : DD) l => x.2.1.size ≤ reachBytes ∧ Rd eIt x.2.2.v l w ∧ ∀ y ∈ l, Go.Tly.WLB y.2.1) fun x hm => (hx x hm).2.elim fun l hl => ⟨l, (hx x hm).1, hl⟩
  refine ⟨rows, e.symm, (show DLS rows = xs from e) ▸ h, fun w' hk p hp => Rd.stN (hj p hp).2.1 w' hk, fun p hp => ?_, fun p hp y hy => ((hj p hp).2.2 y hy).2.2⟩
  have h1 := (hj p hp).1
  have : reachBytes = 0x7ffffffff000 := rfl
  omega
end
end Go.Gv

namespace Go.Idx
open Go Go.Gv Go.Wds Go.Tly
theorem put_twice {f : ByteArray} {l : List Itm} : ∀ {F : List Fl}, PUTF f l (PUTF f l F) = PUTF f l F
  | [] => by show PUTF f l [(f, l)] = [(f, l)]; rw [PUTF, if_neg (ltB_irr f), if_pos rfl]
  | g :: F => by
    have ih := put_twice (f := f) (l := l) (F := F)
    have h2 : ∀ G, PUTF f l ((f, l) :: G) = (f, l) :: G := fun G => by rw [PUTF, if_neg (ltB_irr f), if_pos rfl]
    by_cases h : ltB g.1 f
    · rw [PUTF, if_pos h, PUTF, if_pos h, ih]
    · by_cases he : g.1 = f
      · have : PUTF f l (g :: F) = (f, l) :: F := by rw [PUTF, if_neg h, if_pos he]
        rw [this, h2]
      · have : PUTF f l (g :: F) = (f, l) :: g :: F := by rw [PUTF, if_neg h, if_neg he]
        rw [this, h2]
theorem put_known {f : ByteArray} {l : List Itm} {F : List Fl} (h : NS F) : (lookL (PUTF f l F) f).isSome = true := by rw [look_put h, if_pos rfl]; rfl
theorem wof_put {f : ByteArray} {l : List Itm} : ∀ {F : List Fl}, (lookL F f).isSome = false → WOF (PUTF f l F) f = F
  | [], _ => by simp [PUTF, WOF]
  | g :: F, h => by
    have hne : ¬ g.1 = f := fun e => by rw [lookL, if_pos e] at h; cases h
    have h' : (lookL F f).isSome = false := by rw [lookL, if_neg hne] at h; exact h
    have hw : WOF (g :: F) f = g :: F := wof_gone h
    by_cases hl : ltB g.1 f
    · have : PUTF f l (g :: F) = g :: PUTF f l F := by rw [PUTF, if_pos hl]
      rw [this]
      have : WOF (g :: PUTF f l F) f = g :: WOF (PUTF f l F) f := by unfold WOF; rw [List.filter_cons, if_pos (by simp [hne])]
      rw [this, wof_put h']
    · have : PUTF f l (g :: F) = (f, l) :: g :: F := by rw [PUTF, if_neg hl, if_neg hne]
      rw [this]
      have : WOF ((f, l) :: g :: F) f = WOF (g :: F) f := by unfold WOF; rw [List.filter_cons, if_neg (by simp)]
      rw [this, hw]
theorem wof_put2 {f : ByteArray} {l : List Itm} {F : List Fl} (h : (lookL F f).isSome = false) : WOF (PUTF f l (PUTF f l F)) f = F := by rw [put_twice, wof_put h]
section
variable {known : Bool} {i : Int} {p : Int → Prop}
theorem kf_0 : false = true ↔ ∃ t : Int, 0 ≤ t ∧ t < 0 ∧ p t := ⟨fun h => (by cases h), fun ⟨t, h1, h2, _⟩ => (by omega)⟩
theorem kf_yes (q : known = true ↔ ∃ t : Int, 0 ≤ t ∧ t < i ∧ p t) (h : known = true) : true = true ↔ ∃ t : Int, 0 ≤ t ∧ t < i + 1 ∧ p t :=
  ⟨fun _ => (q.1 h).elim fun t ht => ⟨t, ht.1, by omega, ht.2.2⟩, fun _ => rfl⟩
theorem kf_no [Decidable (p i)] (h0 : 0 ≤ i) (q : known = true ↔ ∃ t : Int, 0 ≤ t ∧ t < i ∧ p t) (h : known = false) : decide (p i) = true ↔ ∃ t : Int, 0 ≤ t ∧ t < i + 1 ∧ p t := by
  rw [decide_eq_true_iff]
  refine ⟨fun hp => ⟨i, h0, by omega, hp⟩, fun ⟨t, h1, h2, h3⟩ => ?_⟩
  by_cases e : t = i
  · exact e ▸ h3
  · have := q.2 ⟨t, h1, by omega, h3⟩; rw [h] at this; cases this
theorem kf_gone {rs : RWS} {P : PLI} {F : List Fl} {file : ByteArray} (hD : DOCR rs P F) (hi : (rs.length : Int) ≤ i) (q : known = true ↔ ∃ t : Int, 0 ≤ t ∧ t < i ∧ (rs.getD t.toNat dSV).1 = file) (h : (!known) = true) : (lookL F file).isSome = false :=
  docr_none hD fun t h0 h1 he => by
    have := q.2 ⟨t, h0, by omega, he⟩; rw [this] at h; cases h
end
end Go.Idx
namespace Go.Gv
open Go Go.RowKit Go.Idx
section
variable {w : World}
/-- One deed as an argument. -/
theorem dd_one {x : DD} (h : x.2.1.size ≤ reachBytes ∧ ∃ l : List Itm, Rd eIt x.2.2.v l w ∧ ∀ y ∈ l, Go.Tly.WLB y.2.1) :
    ∃ (b : Bool) (f : ByteArray) (A : Option Addr) (c : Nat) (l : List Itm), eDd.enc x = [.bool b, .string f, .slice A l.length c] ∧ St No w (Rd eIt (.slice A l.length c) l) ∧ f.size ≤ 140737488355328 ∧ ∀ y ∈ l, 0 ≤ y.2.1.2 ∧ y.2.1.2 < 18446744073709551616 := by
  obtain ⟨b, f, s⟩ := x
  obtain ⟨h1, l, hl, hy⟩ := h
  obtain ⟨A, c, e⟩ := hl.len
  have hl' : Rd eIt (.slice A l.length c) l w := e ▸ hl
  refine ⟨b, f, A, c, l, ?_, Rd.stN hl', ?_, fun y hm => (hy y hm).2.2⟩
  · show [Value.bool b, Value.string f, s.v] = _
    rw [show s.v = _ from e]
  · have : reachBytes = 0x7ffffffff000 := rfl
    have h1 : f.size ≤ reachBytes := h1
    omega
end
end Go.Gv

