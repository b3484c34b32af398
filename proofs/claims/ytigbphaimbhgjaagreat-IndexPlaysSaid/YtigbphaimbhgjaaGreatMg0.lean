/- A small calculus for walking a Go body: frames as slots' values, regions operation by operation. -/
import Derived.WalkKit
import Derived.OrdersHeld
import Derived.Deep.RegionHeld
import Derived.Deep.LoopGhost
namespace Go.Gv
open Go

/-! ### Frames -/
abbrev Env := Nat → Option Value
def upd (n : Nat) (d : Nat) (v : Value) (f : Env) : Env := fun i => bif Nat.beq i d then (bif Nat.blt d n then some v else none) else f i
def lit : List (Nat × Value) → Env
  | [] => fun _ => none
  | (i, v) :: l => fun j => bif Nat.beq j i then some v else lit l j
def updO (n : Nat) : Option Nat → Value → Env → Env
  | some d, v, f => upd n d v f
  | none, _, f => f

def FG (a : Act) (f : Env) : Prop := ∀ i v, f i = some v → a.tmps[i]? = some v
structure Fr (n : Nat) (a : Act) (f : Env) : Prop where
  defers : a.defers = []
  size : a.tmps.size = n
  get : FG a f

def ev (f : Env) : Operand → Option Value
  | .tmp t => f t
  | .const v => some v
  | .global g => some (.pointer (some ⟨g, 0, none⟩))
  | .func g => some (.func (.func g) #[] #[])

theorem ev_eval {a : Act} {f : Env} (h : FG a f) {x : Operand} {v : Value} (hx : ev f x = some v) : a.eval x = v := by
  cases x with
  | tmp t => have := h t v hx; simp [Act.eval, this]
  | const c => simpa [ev, Act.eval] using hx
  | global g => simpa [ev, Act.eval] using hx
  | func g => simpa [ev, Act.eval] using hx

theorem Fr.put {n : Nat} {a : Act} {f : Env} (h : Fr n a f) (d : Option Nat) (v : Value) : Fr n (a.put d v) (updO n d v f) := by
  cases d with
  | none => exact h
  | some d =>
    refine ⟨h.defers, by simp [Act.put, h.size], fun i u hi => ?_⟩
    simp only [updO, upd] at hi
    simp only [Act.put]
    cases hid : Nat.beq i d with
    | true =>
      have e : i = d := Nat.eq_of_beq_eq_true hid
      subst e
      rw [hid] at hi
      cases hdn : Nat.blt i n with
      | true =>
        rw [hdn] at hi
        simp only [cond_true] at hi
        have hlt : i < n := by simpa [Nat.blt_eq] using hdn
        rw [Array.getElem?_setIfInBounds, if_pos rfl, if_pos (by rw [h.size]; exact hlt)]
        exact hi
      | false => rw [hdn] at hi; simp at hi
    | false =>
      rw [hid] at hi
      simp only [cond_false] at hi
      have e : i ≠ d := Nat.ne_of_beq_eq_false hid
      rw [Array.getElem?_setIfInBounds, if_neg (Ne.symm e)]
      exact h.get i u hi

/-- What is forgotten does no harm. -/
def Weak (g f : Env) : Prop := ∀ i v, g i = some v → f i = some v
theorem Weak.nil (f : Env) : Weak (lit []) f := fun _ _ h => by cases h
theorem Weak.cons {f : Env} {l : List (Nat × Value)} {i : Nat} {v : Value} (h : f i = some v) (k : Weak (lit l) f) : Weak (lit ((i, v) :: l)) f := fun j u hj => by
  simp only [lit] at hj
  cases hji : Nat.beq j i with
  | true => rw [hji] at hj; have e := Nat.eq_of_beq_eq_true hji; subst e; simp only [cond_true] at hj; rw [h]; exact hj
  | false => rw [hji] at hj; exact k j u hj
theorem Fr.weak {n : Nat} {a : Act} {f g : Env} (h : Fr n a f) (k : Weak g f) : Fr n a g := ⟨h.defers, h.size, fun i v hi => h.get i v (k i v hi)⟩

/-! ### Code -/
abbrev Post := Exit → Env → World → Prop
def QQ (n : Nat) (Q : Post) : Exit → Act → World → Prop
  | .normal, a, w => ∃ f, Fr n a f ∧ Q .normal f w
  | .ret, a, w => ∃ f, Fr n a f ∧ Q .ret f w
  | .exit i, a, w => ∃ f, Fr n a f ∧ Q (.exit i) f w
  | _, _, _ => False
def WC (P : Program) (n : Nat) (c : Code) (Q : Post) (f : Env) (w : World) : Prop := ∀ a, Fr n a f → c.wp P (QQ n Q) a w

def thenQ (K : Env → World → Prop) (Q : Post) : Post
  | .normal, f, w => K f w
  | e, f, w => Q e f w
def blockQ (id : Nat) (Q : Post) : Post
  | .exit i, f, w => bif Nat.beq i id then Q .normal f w else Q (.exit i) f w
  | e, f, w => Q e f w
theorem thenQ.n {K : Env → World → Prop} {Q : Post} {f : Env} {w : World} (h : K f w) : thenQ K Q .normal f w := h
theorem thenQ.x {K : Env → World → Prop} {Q : Post} {f : Env} {w : World} {i : Nat} (h : Q (.exit i) f w) : thenQ K Q (.exit i) f w := h
theorem thenQ.r {K : Env → World → Prop} {Q : Post} {f : Env} {w : World} (h : Q .ret f w) : thenQ K Q .ret f w := h
theorem blockQ.n {Q : Post} {id : Nat} {f : Env} {w : World} (h : Q .normal f w) : blockQ id Q .normal f w := h
theorem blockQ.r {Q : Post} {id : Nat} {f : Env} {w : World} (h : Q .ret f w) : blockQ id Q .ret f w := h
theorem blockQ.hit {Q : Post} {id : Nat} {f : Env} {w : World} (h : Q .normal f w) : blockQ id Q (.exit id) f w := by
  show (bif Nat.beq id id then Q .normal f w else Q (.exit id) f w)
  rw [Nat.beq_refl]
  exact h
theorem blockQ.miss {Q : Post} {i id : Nat} {f : Env} {w : World} (e : Nat.beq i id = false) (h : Q (.exit i) f w) : blockQ id Q (.exit i) f w := by
  show (bif Nat.beq i id then Q .normal f w else Q (.exit i) f w)
  rw [e]
  exact h
section
variable {P : Program} {n : Nat} {Q : Post} {f : Env} {w : World}

theorem WC.weak {c : Code} {g : Env} (hk : Weak g f) (h : WC P n c Q g w) : WC P n c Q f w := fun a ha => h a (ha.weak hk)

theorem WC.mono {c : Code} {Q' : Post} (h : WC P n c Q f w) (hq : ∀ e f w, Q e f w → Q' e f w) : WC P n c Q' f w := fun a ha =>
  Code.wp_mono (fun e a w h => by
    cases e <;> first | exact h.elim | (obtain ⟨f, hf, hQ⟩ := h; exact ⟨f, hf, hq _ _ _ hQ⟩)) (h a ha)

theorem WC.seq {x y : Code} (h : WC P n x (thenQ (WC P n y Q) Q) f w) : WC P n (x.seq y) Q f w := fun a ha =>
  wp_seq (Code.wp_mono (fun e a w h => by
    cases e with
    | normal => obtain ⟨g, hg, hQ⟩ := h; exact hQ a hg
    | ret => exact h
    | exit i => exact h
    | goto l => exact h.elim
    | panic c => exact h.elim
    | outgrown => exact h.elim) (h a ha))

theorem WC.skip (h : Q .normal f w) : WC P n .skip Q f w := fun _ ha => wp_skip ⟨f, ha, h⟩
theorem WC.ret (h : Q .ret f w) : WC P n .ret Q f w := fun _ ha => wp_ret ⟨f, ha, h⟩
theorem WC.exit {i : Nat} (h : Q (.exit i) f w) : WC P n (.exit i) Q f w := fun _ ha => wp_exit ⟨f, ha, h⟩

theorem WC.block {id : Nat} {c : Code} (h : WC P n c (blockQ id Q) f w) : WC P n (.block id c) Q f w := fun a ha =>
  wp_block (Code.wp_mono (fun e a w h => by
    cases e with
    | normal => exact h
    | ret => exact h
    | exit i =>
      obtain ⟨g, hg, hQ⟩ := h
      simp only [Exit.inBlock]
      simp only [blockQ] at hQ
      by_cases e : i = id
      · subst e
        rw [if_pos rfl]
        rw [Nat.beq_refl] at hQ
        exact ⟨g, hg, hQ⟩
      · rw [if_neg e]
        have e2 : Nat.beq i id = false := by
          cases hb : Nat.beq i id with
          | true => exact absurd (Nat.eq_of_beq_eq_true hb) e
          | false => rfl
        rw [e2] at hQ
        exact ⟨g, hg, hQ⟩
    | goto l => exact h.elim
    | panic c => exact h.elim
    | outgrown => exact h.elim) (h a ha))

theorem WC.cond {c : Operand} {x y : Code} {b : Bool} (hb : ev f c = some (.bool b)) (ht : b = true → WC P n x Q f w) (hf : b = false → WC P n y Q f w) :
    WC P n (.cond c x y) Q f w := fun a ha =>
  wp_cond_split (ev_eval ha.get hb) (fun e => ht e a ha) (fun e => hf e a ha)
theorem WC.condT {c : Operand} {x y : Code} (hb : ev f c = some (.bool true)) (h : WC P n x Q f w) : WC P n (.cond c x y) Q f w := fun a ha => wp_cond_true (ev_eval ha.get hb) (h a ha)
theorem WC.condF {c : Operand} {x y : Code} (hb : ev f c = some (.bool false)) (h : WC P n y Q f w) : WC P n (.cond c x y) Q f w := fun a ha => wp_cond_false (ev_eval ha.get hb) (h a ha)
/-- A test over a proposition. -/
theorem WC.condP {c : Operand} {x y : Code} {p : Prop} [Decidable p] (hb : ev f c = some (.bool (decide p))) (ht : p → WC P n x Q f w) (hf : ¬ p → WC P n y Q f w) :
    WC P n (.cond c x y) Q f w :=
  WC.cond hb (fun e => ht (of_decide_eq_true e)) (fun e => hf (of_decide_eq_false e))

/-- A loop: what holds at its head, a number that falls. -/
theorem WC.loop {c : Code} (I : Nat → Env → World → Prop) (m : Nat) (h0 : I m f w)
    (round : ∀ m f w, I m f w → WC P n c (thenQ (fun f' w' => ∃ m', m' < m ∧ I m' f' w') Q) f w) : WC P n (.loop c) Q f w := fun a ha =>
  wp_loop_ghost (fun m a w => ∃ f, Fr n a f ∧ I m f w) m ⟨f, ha, h0⟩ (fun m a w ⟨f, hf, hI⟩ => Code.wp_mono (fun e a w h => by
    cases e with
    | normal => obtain ⟨g, hg, m', hlt, hI'⟩ := h; exact ⟨m', hlt, g, hg, hI'⟩
    | ret => exact h
    | exit i => exact h
    | goto l => exact h.elim
    | panic c => exact h.elim
    | outgrown => exact h.elim) (round m f w hI a hf))

/-- What the ways that meet again hand on. -/
theorem WC.cut {x y : Code} (J : Env → World → Prop) (h : WC P n x (thenQ J Q) f w) (k : ∀ g v, J g v → WC P n y Q g v) : WC P n (x.seq y) Q f w :=
  WC.seq (h.mono fun e g v q => by cases e <;> first | exact k g v q | exact q)

/-! ### Regions in the order of the text -/
def WL (P : Program) (n : Nat) (ops : Array Oper) (Q : Post) (l : List Oper) (f : Env) (w : World) : Prop := ∀ a, Fr n a f → wpList P ops (QQ n Q) l a w

theorem WC.region {id : Nat} {l : List Oper} (h : WL P n l.toArray Q l f w) : WC P n (.region id l.toArray false) Q f w := fun a ha => wp_region_lit (h a ha)

/-- What an operation yields in this world, which it leaves alone. -/
def LV (P : Program) (o : Oper) (f : Env) (w : World) (v : Value) : Prop := ∀ a, FG a f → (execOp a.eval o).run P w = .ok (.value v) w
/-- What it yields, and the world behind it. -/
def XV (P : Program) (o : Oper) (f : Env) (w : World) (v : Value) (w' : World) : Prop := ∀ a, FG a f → (execOp a.eval o).run P w = .ok (.value v) w'
/-- It yields nothing. -/
def XS (P : Program) (o : Oper) (f : Env) (w : World) (w' : World) : Prop := ∀ a, FG a f → (execOp a.eval o).run P w = .ok .skip w'
/-- A call. -/
def XC (P : Program) (o : Oper) (f : Env) (w : World) (g : FuncId) (args : Array Value) : Prop := ∀ a, FG a f → (execOp a.eval o).run P w = .ok (.enter g args) w

/-- The same, where value and world are told by what is known of them. -/
def XE (P : Program) (o : Oper) (f : Env) (w : World) (K : Value → World → Prop) : Prop := ∃ v w', XV P o f w v w' ∧ K v w'
def XSE (P : Program) (o : Oper) (f : Env) (w : World) (K : World → Prop) : Prop := ∃ w', XS P o f w w' ∧ K w'

/-- Is the operation asked for? -/
def wantedE (ops : Array Oper) (o : Oper) (f : Env) : Option Bool :=
  match o.guard with
  | none => some true
  | some (j, want) => match ((ops[j]?).bind (·.dst)).bind f with | some (.bool b) => some (b == want) | some _ => some false | none => none

theorem wantedE_spec {ops : Array Oper} {o : Oper} {b : Bool} {a : Act} (h : wantedE ops o f = some b) (ha : FG a f) : Region.wanted o (yielded ops a.tmps) = b := by
  unfold wantedE at h
  unfold Region.wanted
  cases hg : o.guard with
  | none => rw [hg] at h; simpa using h
  | some jw =>
    obtain ⟨j, want⟩ := jw
    rw [hg] at h
    show (yielded ops a.tmps j == some want) = b
    unfold yielded
    cases hd : (ops[j]?).bind (·.dst) with
    | none => simp only [hd] at h; simp at h
    | some d =>
      simp only [hd, Option.bind_some] at h
      cases hf : f d with
      | none => rw [hf] at h; simp at h
      | some v =>
        rw [hf] at h
        simp only [Option.bind_some, ha d v hf]
        cases v <;> simp at h ⊢ <;> first | exact h | (rw [← h])

theorem WL.nil {ops : Array Oper} (h : Q .normal f w) : WL P n ops Q [] f w := fun _ ha => wpList_nil ⟨f, ha, h⟩

section
variable {ops : Array Oper} {o : Oper} {rest : List Oper}
theorem WL.off (hw : wantedE ops o f = some false) (k : WL P n ops Q rest (updO n o.dst undef f) w) : WL P n ops Q (o :: rest) f w := fun a ha => by
  unfold wpList
  rw [if_neg (by rw [wantedE_spec hw ha.get]; simp)]
  exact k _ (ha.put _ _)
theorem WL.op (hw : wantedE ops o f = some true) (h : ∀ a, Fr n a f → o.wp P a w (wpList P ops (QQ n Q) rest) (QQ n Q)) : WL P n ops Q (o :: rest) f w := fun a ha => by
  unfold wpList
  rw [if_pos (wantedE_spec hw ha.get)]
  exact .inl (h a ha)
theorem WL.xv {v : Value} {w' : World} (hw : wantedE ops o f = some true) (h : XV P o f w v w') (k : WL P n ops Q rest (updO n o.dst v f) w') : WL P n ops Q (o :: rest) f w :=
  WL.op hw fun a ha => by
    unfold Oper.wp
    rw [h a ha.get]
    exact k _ (ha.put _ _)
theorem WL.lv {v : Value} (hw : wantedE ops o f = some true) (h : LV P o f w v) (k : WL P n ops Q rest (updO n o.dst v f) w) : WL P n ops Q (o :: rest) f w := WL.xv hw h k
theorem WL.xs {w' : World} (hw : wantedE ops o f = some true) (h : XS P o f w w') (k : WL P n ops Q rest (updO n o.dst undef f) w') : WL P n ops Q (o :: rest) f w :=
  WL.op hw fun a ha => by
    unfold Oper.wp
    rw [h a ha.get]
    exact k _ (ha.put _ _)
theorem WL.xe {K : Value → World → Prop} (hw : wantedE ops o f = some true) (h : XE P o f w K) (k : ∀ v w', K v w' → WL P n ops Q rest (updO n o.dst v f) w') : WL P n ops Q (o :: rest) f w :=
  let ⟨_, _, h1, h2⟩ := h
  WL.xv hw h1 (k _ _ h2)
theorem WL.xse {K : World → Prop} (hw : wantedE ops o f = some true) (h : XSE P o f w K) (k : ∀ w', K w' → WL P n ops Q rest (updO n o.dst undef f) w') : WL P n ops Q (o :: rest) f w :=
  let ⟨_, h1, h2⟩ := h
  WL.xs hw h1 (k _ h2)
theorem WL.call {g : FuncId} {args : Array Value} {R : Value → World → Prop} (hw : wantedE ops o f = some true) (h : XC P o f w g args)
    (hc : Calls P g args w fun e w' => ∃ v, e = .returned v ∧ R v w') (k : ∀ v w', R v w' → WL P n ops Q rest (updO n o.dst v f) w') : WL P n ops Q (o :: rest) f w :=
  WL.op hw fun a ha => by
    unfold Oper.wp
    rw [h a ha.get]
    refine hc.mono fun e w' ⟨v, he, hR⟩ => ?_
    subst he
    exact k v w' hR _ (ha.put _ _)
end

/-! ### Regions in whatever order: a schedule. 'T': the operations behind which the condition S on the world need not hold any more -/
def Closed (ops : Array Oper) (l : Array Bool) : Prop := ∀ j oj, ops[j]? = some oj → l.getD j false = true → ∀ e ∈ oj.after, Region.binds .any e = true → l.getD e.on false = true
def waitsF (ops : Array Oper) (i : Nat) : Nat → Nat → Bool
  | 0, _ => false
  | n + 1, j => match ops[j]? with
    | some oj => oj.after.any fun e => Region.binds .any e && (Nat.beq e.on i || (Nat.blt i e.on && waitsF ops i n e.on))
    | none => false
def waitsB (ops : Array Oper) (j i : Nat) : Bool := waitsF ops i 40 j
theorem waitsF_spec {ops : Array Oper} {i : Nat} {l : Array Bool} (hc : Closed ops l) : ∀ (n j : Nat), waitsF ops i n j = true → l.getD j false = true → l.getD i false = true
  | 0, _, h, _ => by cases h
  | n + 1, j, h, hl => by
    unfold waitsF at h
    split at h
    · rename_i oj hj
      obtain ⟨e, he, hb⟩ := Array.any_eq_true'.1 h
      simp only [Bool.and_eq_true, Bool.or_eq_true] at hb
      have h1 := hc j oj hj hl e he hb.1
      rcases hb.2 with h2 | h2
      · rw [Nat.eq_of_beq_eq_true h2] at h1; exact h1
      · exact waitsF_spec hc n e.on h2.2 h1
    · cases h
def TU (T : List Nat) (l : Array Bool) : Prop := ∀ t ∈ T, l.getD t false = false
def wpAnyS (P : Program) (ops : Array Oper) (Q : Exit → Act → World → Prop) (T : List Nat) (S : World → Prop) : Nat → Array Bool → Act → World → Prop
  | 0, l, a, w => Region.ready .any ops l = [] ∧ Q .normal a w
  | k + 1, l, a, w => (Region.ready .any ops l = [] → Q .normal a w) ∧
    ∀ i ∈ Region.ready .any ops l, wpOp P ops Q i (fun a' w' => (TU T (l.setIfInBounds i true) → S w') ∧ wpAnyS P ops Q T S k (l.setIfInBounds i true) a' w') a w
theorem wpAny_of_S {ops : Array Oper} {Q : Exit → Act → World → Prop} {T : List Nat} {S : World → Prop} : ∀ (k : Nat) (l : Array Bool) (a : Act) (w : World), wpAnyS P ops Q T S k l a w → wpAny P .any ops Q k l a w
  | 0, _, _, _, h => h
  | k + 1, _, _, _, h => ⟨h.1, fun i hi => wpOp_mono (fun _ _ h' => wpAny_of_S k _ _ _ h'.2) (h.2 i hi)⟩

theorem Closed.set {ops : Array Oper} {l : Array Bool} {i : Nat} (h : Closed ops l) (hi : i ∈ Region.ready .any ops l) : Closed ops (l.setIfInBounds i true) := by
  obtain ⟨_, oi, hoi, hall⟩ := mem_ready.1 hi
  intro j oj hj hl e he hb
  by_cases hij : i = j
  · subst hij
    have : oj = oi := Option.some.inj (hj.symm.trans hoi)
    subst this
    exact getD_set_true (hall e he hb)
  · rw [getD_set_ne false hij] at hl
    exact getD_set_true (h j oj hj hl e he hb)

/-- An operation may be taken first: if it yields its value in every world that meets S, all of T waiting for it; or in every world. -/
theorem wpAnyS_first {ops : Array Oper} {Q : Exit → Act → World → Prop} {T : List Nat} {S : World → Prop} {i : Nat} {oi : Oper} {v : Value} (hi : ops[i]? = some oi)
    (hsel : ∀ (j : Nat) (o : Oper) cs b, ops[j]? = some o → o.op ≠ .select cs b) (hQ : ∀ c a w, ¬ Q (.panic c) a w) (S' : World → Prop)
    (hiT : i ∉ T)
    (hS' : (∀ w, S' w) ∨ (S' = S ∧ ∀ t ∈ T, waitsB ops t i = true)) :
    ∀ (k : Nat) (l : Array Bool) (a : Act) (w : World), Closed ops l → l.size = ops.size →
      (∀ j oj, ops[j]? = some oj → j ≠ i → l.getD j true = false → (∀ e ∈ oj.after, Region.binds .any e = true → e.on ≠ i) → oi.apart ops oj = true) →
      i ∈ Region.ready .any ops l → YieldsIf P ops S' oi v a → (TU T l → S w) →
      wpAnyS P ops Q T S k (l.setIfInBounds i true) (a.put oi.dst v) w → wpAnyS P ops Q T S (k + 1) l a w := by
  have hcond : ∀ (l : Array Bool) (w : World), Closed ops l → l.size = ops.size → l.getD i true = false → (TU T l → S w) → S' w := by
    intro l w hc hz hun hs
    rcases hS' with h | ⟨rfl, h⟩
    · exact h w
    · refine hs fun t ht => ?_
      cases hlt : l.getD t false with
      | false => rfl
      | true =>
        have h1 := waitsF_spec hc 40 t (h t ht) hlt
        have : l.getD i true = true := by
          rcases Nat.lt_or_ge i l.size with h' | h'
          · simp [h'] at h1 ⊢; exact h1
          · simp [Array.getElem?_eq_none h'] at h1
        rw [this] at hun
        cases hun
  intro k
  induction k with
  | zero =>
    intro l a w hc hz _ hr hy hS H
    have hun := (mem_ready.1 hr).1
    refine ⟨fun h => (by rw [h] at hr; cases hr), fun j hj => ?_⟩
    by_cases hji : j = i
    · subst hji; exact hy.wpOp hi (hcond l w hc hz hun hS) ⟨fun ht => hS fun t h' => by
        have := ht t h'
        by_cases e : j = t
        · subst e
          have hlt : j < l.size := by rw [hz]; exact (Array.getElem?_eq_some_iff.1 hi).1
          simp [hlt] at this
        · rwa [getD_set_ne false e] at this, H⟩
    · have := ready_mono hj hji
      rw [H.1] at this
      cases this
  | succ k ih =>
    intro l a w hc hz hfree hr hy hS H
    have hun := (mem_ready.1 hr).1
    refine ⟨fun h => (by rw [h] at hr; cases hr), fun j hj => ?_⟩
    by_cases hji : j = i
    · subst hji; exact hy.wpOp hi (hcond l w hc hz hun hS) ⟨fun ht => hS fun t h' => by
        have := ht t h'
        by_cases e : j = t
        · subst e
          have hlt : j < l.size := by rw [hz]; exact (Array.getElem?_eq_some_iff.1 hi).1
          simp [hlt] at this
        · rwa [getD_set_ne false e] at this, H⟩
    · have h1 := H.2 j (ready_mono hj hji)
      obtain ⟨hjun, oj, hoj, hall⟩ := mem_ready.1 hj
      have hnot : ∀ e ∈ oj.after, Region.binds .any e = true → e.on ≠ i := fun e he hb heq => by
        have h1 := hall e he hb
        rw [heq] at h1
        rcases Nat.lt_or_ge i l.size with h' | h'
        · simp [h'] at hun h1; rw [hun] at h1; cases h1
        · simp [Array.getElem?_eq_none h'] at h1
      have h2 := wpOp_putIf hoj (hfree j oj hoj hji hjun hnot) (fun cs b => hsel i oi cs b hi) (fun cs b => hsel j oj cs b hoj) (fun c a w h => absurd h (hQ c _ w)) hy h1
      have hfree' : ∀ m om, ops[m]? = some om → m ≠ i → (l.setIfInBounds j true).getD m true = false →
          (∀ e ∈ om.after, Region.binds .any e = true → e.on ≠ i) → oi.apart ops om = true := fun m om hm hmi hun hno => by
        refine hfree m om hm hmi ?_ hno
        by_cases hjm : j = m
        · subst hjm; exact hjun
        · rw [getD_set_ne true hjm] at hun; exact hun
      refine wpOp_mono (fun a' w' h3 => ?_) h2
      have hS2 : TU T (l.setIfInBounds j true) → S w' := fun ht => h3.2.1 fun t h' => by
        rw [Array.setIfInBounds_comm _ _ (Ne.symm hji)]
        rw [getD_set_ne false (fun e => by subst e; exact hiT h')]
        exact ht t h'
      exact ⟨hS2, ih (l.setIfInBounds j true) a' w' (hc.set hj) (by simp [hz]) hfree' (ready_mono hr (Ne.symm hji)) h3.1 hS2 (by
        rw [Array.setIfInBounds_comm _ _ hji]
        exact h3.2.2)⟩

/-- How an operation comes up: the only one that may (forced); taken first, under S (look); taken first, in every world (pure). -/
inductive How where
  | forced | look | pure | fork
def schedB (ops : Array Oper) (T : List Nat) : List (How × Nat) → Array Bool → Bool
  | [], l => (Region.ready .any ops l).isEmpty
  | (.fork, _) :: _, _ => true
  | (.forced, i) :: r, l => decide (Region.ready .any ops l = [i]) && schedB ops T r (l.setIfInBounds i true)
  | (.look, i) :: r, l => Region.free .any ops l i && (Region.ready .any ops l).contains i && !T.contains i && T.all (fun t => waitsB ops t i) && schedB ops T r (l.setIfInBounds i true)
  | (.pure, i) :: r, l => Region.free .any ops l i && (Region.ready .any ops l).contains i && !T.contains i && schedB ops T r (l.setIfInBounds i true)
def WS (P : Program) (n : Nat) (ops : Array Oper) (Q : Post) (T : List Nat) (S : World → Prop) (order : List (How × Nat)) (l : Array Bool) (f : Env) (w : World) : Prop :=
  Region.noSelect ops = true → schedB ops T order l = true → Closed ops l → l.size = ops.size → ∀ a, Fr n a f → (TU T l → S w) → wpAnyS P ops (QQ n Q) T S order.length l a w

theorem closed_none (ops : Array Oper) (m : Nat) : Closed ops (Array.replicate m false) := fun j oj _ hl => by
  rcases Nat.lt_or_ge j m with h | h
  · simp [h] at hl
  · simp [h] at hl

theorem WC.regionD {id : Nat} {ops : Array Oper} (T : List Nat) (S : World → Prop) (order : List (How × Nat)) (hm : P.follows .mixedOrders = true)
    (hs : (Region.noSelect ops && schedB ops T order (Array.replicate ops.size false) && Nat.beq order.length ops.size) = true)
    (hS : S w.drew) (h : WS P n ops Q T S order (Array.replicate ops.size false) f w.drew) : WC P n (.region id ops true) Q f w := fun a ha => by
  simp only [Bool.and_eq_true] at hs
  obtain ⟨⟨h1, h2⟩, h3⟩ := hs
  have h4 := Nat.eq_of_beq_eq_true h3
  have := h h1 h2 (closed_none _ _) (by simp) a ha (fun _ => hS)
  rw [h4] at this
  exact wp_region_any hm (wpAny_of_S _ _ _ _ this)

section
variable {ops : Array Oper} {T : List Nat} {S : World → Prop} {rest : List (How × Nat)} {l : Array Bool} {i : Nat} {o : Oper}
theorem QQ_noPanic (n : Nat) (Q : Post) : ∀ c a w, ¬ QQ n Q (.panic c) a w := fun _ _ _ h => h
theorem TU_set {j : Nat} (ht : TU T (l.setIfInBounds j true)) (hj : T.contains j = false) : TU T l := fun t h' => by
  have := ht t h'
  rwa [getD_set_ne false (fun e => by subst e; simp [h'] at hj)] at this
theorem WS.nil (h : Q .normal f w) : WS P n ops Q T S [] l f w := fun _ hs _ _ a ha _ => ⟨by simpa [schedB] using hs, f, ha, h⟩
theorem WS.look {v : Value} (ho : ops[i]? = some o) (hw : wantedE ops o f = some true) (hv : ∀ w', S w' → LV P o f w' v)
    (k : WS P n ops Q T S rest (l.setIfInBounds i true) (updO n o.dst v f) w) : WS P n ops Q T S ((.look, i) :: rest) l f w := fun hn hs hc hz a ha hS => by
  simp only [schedB, Bool.and_eq_true, Bool.not_eq_true'] at hs
  obtain ⟨⟨⟨⟨h1, h2⟩, h3⟩, h4⟩, h5⟩ := hs
  have hr : i ∈ Region.ready .any ops l := by simpa using h2
  refine wpAnyS_first ho (Region.noSelect_spec hn) (QQ_noPanic n Q) S (by simpa using h3) (.inr ⟨rfl, by simpa using h4⟩) rest.length l a w hc hz (Region.free_spec ho h1) hr
    (.inl ⟨wantedE_spec hw ha.get, fun w' hw' => hv w' hw' a ha.get⟩) hS ?_
  exact k hn h5 (hc.set hr) (by simp [hz]) _ (ha.put _ _) fun ht => hS (TU_set ht h3)
theorem WS.pure {v : Value} (ho : ops[i]? = some o) (hw : wantedE ops o f = some true) (hv : ∀ w', LV P o f w' v)
    (k : WS P n ops Q T S rest (l.setIfInBounds i true) (updO n o.dst v f) w) : WS P n ops Q T S ((.pure, i) :: rest) l f w := fun hn hs hc hz a ha hS => by
  simp only [schedB, Bool.and_eq_true, Bool.not_eq_true'] at hs
  obtain ⟨⟨⟨h1, h2⟩, h3⟩, h5⟩ := hs
  have hr : i ∈ Region.ready .any ops l := by simpa using h2
  refine wpAnyS_first ho (Region.noSelect_spec hn) (QQ_noPanic n Q) (fun _ => True) (by simpa using h3) (.inl fun _ => trivial) rest.length l a w hc hz (Region.free_spec ho h1) hr
    (.inl ⟨wantedE_spec hw ha.get, fun w' _ => hv w' a ha.get⟩) hS ?_
  exact k hn h5 (hc.set hr) (by simp [hz]) _ (ha.put _ _) fun ht => hS (TU_set ht h3)
theorem WS.off (ho : ops[i]? = some o) (hw : wantedE ops o f = some false)
    (k : WS P n ops Q T S rest (l.setIfInBounds i true) (updO n o.dst undef f) w) : WS P n ops Q T S ((.pure, i) :: rest) l f w := fun hn hs hc hz a ha hS => by
  simp only [schedB, Bool.and_eq_true, Bool.not_eq_true'] at hs
  obtain ⟨⟨⟨h1, h2⟩, h3⟩, h5⟩ := hs
  have hr : i ∈ Region.ready .any ops l := by simpa using h2
  refine wpAnyS_first ho (Region.noSelect_spec hn) (QQ_noPanic n Q) (fun _ => True) (by simpa using h3) (.inl fun _ => trivial) rest.length l a w hc hz (Region.free_spec ho h1) hr
    (.inr ⟨wantedE_spec hw ha.get, rfl⟩) hS ?_
  exact k hn h5 (hc.set hr) (by simp [hz]) _ (ha.put _ _) fun ht => hS (TU_set ht h3)
theorem WS.offL (ho : ops[i]? = some o) (hw : wantedE ops o f = some false)
    (k : WS P n ops Q T S rest (l.setIfInBounds i true) (updO n o.dst undef f) w) : WS P n ops Q T S ((.look, i) :: rest) l f w := fun hn hs hc hz a ha hS => by
  simp only [schedB, Bool.and_eq_true, Bool.not_eq_true'] at hs
  obtain ⟨⟨⟨⟨h1, h2⟩, h3⟩, _⟩, h5⟩ := hs
  have hr : i ∈ Region.ready .any ops l := by simpa using h2
  refine wpAnyS_first ho (Region.noSelect_spec hn) (QQ_noPanic n Q) (fun _ => True) (by simpa using h3) (.inl fun _ => trivial) rest.length l a w hc hz (Region.free_spec ho h1) hr
    (.inr ⟨wantedE_spec hw ha.get, rfl⟩) hS ?_
  exact k hn h5 (hc.set hr) (by simp [hz]) _ (ha.put _ _) fun ht => hS (TU_set ht h3)
theorem WS.offF (ho : ops[i]? = some o) (hw : wantedE ops o f = some false) (hS1 : T.contains i = false → S w)
    (k : WS P n ops Q T S rest (l.setIfInBounds i true) (updO n o.dst undef f) w) : WS P n ops Q T S ((.forced, i) :: rest) l f w := fun hn hs hc hz a ha _ => by
  simp only [schedB, Bool.and_eq_true, decide_eq_true_eq] at hs
  have hr : i ∈ Region.ready .any ops l := by rw [hs.1]; simp
  have hlt : i < l.size := by rw [hz]; exact (Array.getElem?_eq_some_iff.1 ho).1
  show wpAnyS P ops (QQ n Q) T S (rest.length + 1) l a w
  refine ⟨fun h0 => (by rw [h0] at hr; cases hr), fun j hj => ?_⟩
  obtain rfl : j = i := by rw [hs.1] at hj; simpa using hj
  unfold wpOp
  rw [ho]
  simp only []
  rw [if_neg (by rw [wantedE_spec hw ha.get]; simp)]
  have hS2 : TU T (l.setIfInBounds j true) → S w := fun ht => hS1 (by
    cases hc : T.contains j with
    | false => rfl
    | true => have := ht j (by simpa using hc); simp [hlt] at this)
  exact ⟨hS2, k hn hs.2 (hc.set hr) (by simp [hz]) _ (ha.put _ _) hS2⟩
theorem WS.op (ho : ops[i]? = some o) (hw : wantedE ops o f = some true)
    (h : ∀ a, Fr n a f → ∀ K : Act → World → Prop, (∀ f' a' w', Fr n a' f' → (T.contains i = false → S w') → WS P n ops Q T S rest (l.setIfInBounds i true) f' w' → K a' w') → o.wp P a w K (QQ n Q)) :
    WS P n ops Q T S ((.forced, i) :: rest) l f w := fun hn hs hc hz a ha _ => by
  simp only [schedB, Bool.and_eq_true, decide_eq_true_eq] at hs
  have hr : i ∈ Region.ready .any ops l := by rw [hs.1]; simp
  have hlt : i < l.size := by rw [hz]; exact (Array.getElem?_eq_some_iff.1 ho).1
  show wpAnyS P ops (QQ n Q) T S (rest.length + 1) l a w
  refine ⟨fun h0 => (by rw [h0] at hr; cases hr), fun j hj => ?_⟩
  obtain rfl : j = i := by rw [hs.1] at hj; simpa using hj
  unfold wpOp
  rw [ho]
  simp only []
  rw [if_pos (wantedE_spec hw ha.get)]
  refine .inl (h a ha _ fun f' a' w' hf' hS' hk => ?_)
  have hS2 : TU T (l.setIfInBounds j true) → S w' := fun ht => hS' (by
    cases hc : T.contains j with
    | false => rfl
    | true => have := ht j (by simpa using hc); simp [hlt] at this)
  exact ⟨hS2, hk hn hs.2 (hc.set hr) (by simp [hz]) a' hf' hS2⟩
theorem WS.xv {v : Value} {w' : World} (ho : ops[i]? = some o) (hw : wantedE ops o f = some true) (h : XV P o f w v w') (hS : T.contains i = false → S w')
    (k : WS P n ops Q T S rest (l.setIfInBounds i true) (updO n o.dst v f) w') : WS P n ops Q T S ((.forced, i) :: rest) l f w :=
  WS.op ho hw fun a ha K hK => by
    unfold Oper.wp
    rw [h a ha.get]
    exact hK _ _ _ (ha.put _ _) hS k
theorem WS.xs {w' : World} (ho : ops[i]? = some o) (hw : wantedE ops o f = some true) (h : XS P o f w w') (hS : T.contains i = false → S w')
    (k : WS P n ops Q T S rest (l.setIfInBounds i true) (updO n o.dst undef f) w') : WS P n ops Q T S ((.forced, i) :: rest) l f w :=
  WS.op ho hw fun a ha K hK => by
    unfold Oper.wp
    rw [h a ha.get]
    exact hK _ _ _ (ha.put _ _) hS k
theorem WS.xe {K : Value → World → Prop} (ho : ops[i]? = some o) (hw : wantedE ops o f = some true) (h : XE P o f w K)
    (k : ∀ v w', K v w' → (T.contains i = false → S w') ∧ WS P n ops Q T S rest (l.setIfInBounds i true) (updO n o.dst v f) w') : WS P n ops Q T S ((.forced, i) :: rest) l f w :=
  let ⟨_, _, h1, h2⟩ := h
  WS.xv ho hw h1 (k _ _ h2).1 (k _ _ h2).2
theorem WS.xse {K : World → Prop} (ho : ops[i]? = some o) (hw : wantedE ops o f = some true) (h : XSE P o f w K)
    (k : ∀ w', K w' → (T.contains i = false → S w') ∧ WS P n ops Q T S rest (l.setIfInBounds i true) (updO n o.dst undef f) w') : WS P n ops Q T S ((.forced, i) :: rest) l f w :=
  let ⟨_, h1, h2⟩ := h
  WS.xs ho hw h1 (k _ h2).1 (k _ h2).2
theorem WS.call {g : FuncId} {args : Array Value} {R : Value → World → Prop} (ho : ops[i]? = some o) (hw : wantedE ops o f = some true) (h : XC P o f w g args)
    (hc : Calls P g args w fun e w' => ∃ v, e = .returned v ∧ R v w')
    (k : ∀ v w', R v w' → (T.contains i = false → S w') ∧ WS P n ops Q T S rest (l.setIfInBounds i true) (updO n o.dst v f) w') : WS P n ops Q T S ((.forced, i) :: rest) l f w :=
  WS.op ho hw fun a ha K hK => by
    unfold Oper.wp
    rw [h a ha.get]
    refine hc.mono fun e w' ⟨v, he, hR⟩ => ?_
    subst he
    exact hK _ _ _ (ha.put _ _) (k v w' hR).1 (k v w' hR).2
theorem WS.lvT {v : Value} (ho : ops[i]? = some o) (hw : wantedE ops o f = some true) (h : LV P o f w v)
    (k : WS P n ops Q T (fun _ => True) rest (l.setIfInBounds i true) (updO n o.dst v f) w) : WS P n ops Q T (fun _ => True) ((.forced, i) :: rest) l f w :=
  WS.op ho hw fun a ha K hK => by
    unfold Oper.wp
    rw [h a ha.get]
    exact hK _ _ _ (ha.put _ _) (fun _ => trivial) k
/-! #### Where several may come up: each way by itself -/
def WSX (P : Program) (n : Nat) (ops : Array Oper) (Q : Post) (T : List Nat) (S : World → Prop) (k : Nat) (l : Array Bool) (f : Env) (w : World) : Prop :=
  Region.noSelect ops = true → Closed ops l → l.size = ops.size → ∀ a, Fr n a f → (TU T l → S w) → wpAnyS P ops (QQ n Q) T S k l a w
def WO (P : Program) (n : Nat) (ops : Array Oper) (Q : Post) (T : List Nat) (S : World → Prop) (k : Nat) (l : Array Bool) (i : Nat) (f : Env) (w : World) : Prop :=
  Region.noSelect ops = true → Closed ops l → l.size = ops.size → i ∈ Region.ready .any ops l → ∀ a, Fr n a f → wpOp P ops (QQ n Q) i (fun a' w' => (TU T (l.setIfInBounds i true) → S w') ∧ wpAnyS P ops (QQ n Q) T S k (l.setIfInBounds i true) a' w') a w
theorem WS.fork (h : WSX P n ops Q T S (rest.length + 1) l f w) : WS P n ops Q T S ((.fork, i) :: rest) l f w := fun hn _ hc hz => h hn hc hz
theorem WSX.of {k : Nat} (order : List (How × Nat)) (hs : schedB ops T order l = true) (hk : order.length = k) (h : WS P n ops Q T S order l f w) : WSX P n ops Q T S k l f w := fun hn hc hz => hk ▸ h hn hs hc hz
theorem WSX.two {k : Nat} (i j : Nat) (hr : Region.ready .any ops l = [i, j]) (h1 : WO P n ops Q T S k l i f w) (h2 : WO P n ops Q T S k l j f w) : WSX P n ops Q T S (k + 1) l f w := fun hn hc hz a ha _ =>
  ⟨fun h0 => (by rw [h0] at hr; cases hr), fun m hm => by
    have hm' := hm
    rw [hr] at hm'
    rcases List.mem_cons.1 hm' with rfl | hm'
    · exact h1 hn hc hz hm a ha
    · obtain rfl := List.mem_singleton.1 hm'
      exact h2 hn hc hz hm a ha⟩
theorem WSX.three {k : Nat} (i j m : Nat) (hr : Region.ready .any ops l = [i, j, m]) (h1 : WO P n ops Q T S k l i f w) (h2 : WO P n ops Q T S k l j f w) (h3 : WO P n ops Q T S k l m f w) : WSX P n ops Q T S (k + 1) l f w := fun hn hc hz a ha _ =>
  ⟨fun h0 => (by rw [h0] at hr; cases hr), fun p hp => by
    have hp' := hp
    rw [hr] at hp'
    rcases List.mem_cons.1 hp' with rfl | hp'
    · exact h1 hn hc hz hp a ha
    · rcases List.mem_cons.1 hp' with rfl | hp'
      · exact h2 hn hc hz hp a ha
      · obtain rfl := List.mem_singleton.1 hp'
        exact h3 hn hc hz hp a ha⟩
theorem WO.op {k : Nat} (ho : ops[i]? = some o) (hw : wantedE ops o f = some true)
    (h : ∀ a, Fr n a f → ∀ K : Act → World → Prop, (∀ f' a' w', Fr n a' f' → (T.contains i = false → S w') → WSX P n ops Q T S k (l.setIfInBounds i true) f' w' → K a' w') → o.wp P a w K (QQ n Q)) :
    WO P n ops Q T S k l i f w := fun hn hc hz hr a ha => by
  have hlt : i < l.size := by rw [hz]; exact (Array.getElem?_eq_some_iff.1 ho).1
  unfold wpOp
  rw [ho]
  simp only []
  rw [if_pos (wantedE_spec hw ha.get)]
  refine .inl (h a ha _ fun f' a' w' hf' hS' hk => ?_)
  have hS2 : TU T (l.setIfInBounds i true) → S w' := fun ht => hS' (by
    cases hc : T.contains i with
    | false => rfl
    | true => have := ht i (by simpa using hc); simp [hlt] at this)
  exact ⟨hS2, hk hn (hc.set hr) (by simp [hz]) a' hf' hS2⟩
theorem WO.xe {k : Nat} {K : Value → World → Prop} (ho : ops[i]? = some o) (hw : wantedE ops o f = some true) (h : XE P o f w K)
    (c : ∀ v w', K v w' → (T.contains i = false → S w') ∧ WSX P n ops Q T S k (l.setIfInBounds i true) (updO n o.dst v f) w') : WO P n ops Q T S k l i f w :=
  let ⟨v, w', h1, h2⟩ := h
  WO.op ho hw fun a ha K hK => by
    unfold Oper.wp
    rw [h1 a ha.get]
    exact hK _ _ _ (ha.put _ _) (c v w' h2).1 (c v w' h2).2
theorem WO.xse {k : Nat} {K : World → Prop} (ho : ops[i]? = some o) (hw : wantedE ops o f = some true) (h : XSE P o f w K)
    (c : ∀ w', K w' → (T.contains i = false → S w') ∧ WSX P n ops Q T S k (l.setIfInBounds i true) (updO n o.dst undef f) w') : WO P n ops Q T S k l i f w :=
  let ⟨w', h1, h2⟩ := h
  WO.op ho hw fun a ha K hK => by
    unfold Oper.wp
    rw [h1 a ha.get]
    exact hK _ _ _ (ha.put _ _) (c w' h2).1 (c w' h2).2
theorem WO.lv {k : Nat} {v : Value} (ho : ops[i]? = some o) (hw : wantedE ops o f = some true) (h : LV P o f w v) (hS : S w)
    (c : WSX P n ops Q T S k (l.setIfInBounds i true) (updO n o.dst v f) w) : WO P n ops Q T S k l i f w :=
  WO.op ho hw fun a ha K hK => by
    unfold Oper.wp
    rw [h a ha.get]
    exact hK _ _ _ (ha.put _ _) (fun _ => hS) c
theorem WO.lvT {k : Nat} {v : Value} (ho : ops[i]? = some o) (hw : wantedE ops o f = some true) (h : LV P o f w v)
    (c : WSX P n ops Q T (fun _ => True) k (l.setIfInBounds i true) (updO n o.dst v f) w) : WO P n ops Q T (fun _ => True) k l i f w := WO.lv ho hw h trivial c
theorem WO.call {k : Nat} {g : FuncId} {args : Array Value} {R : Value → World → Prop} (ho : ops[i]? = some o) (hw : wantedE ops o f = some true) (h : XC P o f w g args)
    (hc : Calls P g args w fun e w' => ∃ v, e = .returned v ∧ R v w')
    (c : ∀ v w', R v w' → (T.contains i = false → S w') ∧ WSX P n ops Q T S k (l.setIfInBounds i true) (updO n o.dst v f) w') : WO P n ops Q T S k l i f w :=
  WO.op ho hw fun a ha K hK => by
    unfold Oper.wp
    rw [h a ha.get]
    refine hc.mono fun e w' ⟨v, he, hR⟩ => ?_
    subst he
    exact hK _ _ _ (ha.put _ _) (c v w' hR).1 (c v w' hR).2
end

/-! ### A function's beginning and end -/
/-- A frame's first slots. -/
def litOf : List Value → Nat → List (Nat × Value)
  | [], _ => []
  | v :: l, i => (i, v) :: litOf l (i + 1)
theorem litOf_get : ∀ (vs : List Value) (k i : Nat) (v : Value), lit (litOf vs k) i = some v → k ≤ i ∧ vs[i - k]? = some v
  | [], _, _, _, h => by cases h
  | u :: vs, k, i, v, h => by
    simp only [litOf, lit] at h
    cases hb : Nat.beq i k with
    | true => rw [hb] at h; have e := Nat.eq_of_beq_eq_true hb; subst e; simp at h; subst h; simp
    | false =>
      rw [hb] at h
      obtain ⟨h1, h2⟩ := litOf_get vs (k + 1) i v h
      exact ⟨by omega, by rw [show i - k = (i - (k + 1)) + 1 by omega, List.getElem?_cons_succ]; exact h2⟩
theorem lit_args (vs : List Value) : ∀ i v, lit (litOf vs 0) i = some v → vs.toArray[i]? = some v := fun i v h => by
  have := (litOf_get vs 0 i v h).2
  simpa using this
def bodyQ (fn : Func) (R : Value → World → Prop) : Post
  | .normal, f, w | .ret, f, w => ∃ v, (∀ a, FG a f → (results fn a.tmps).run P w = .ok v w) ∧ R v w
  | _, _, _ => False
theorem calls {g : FuncId} {fn : Func} {c : Code} {args : Array Value} {R : Value → World → Prop} {l : List (Nat × Value)} {n : Nat}
    (hf : P.funcs[g]? = some fn) (hb : fn.body = some c) (hnt : fn.ntmps = n) (hn : args.size ≤ n) (hl : ∀ i v, lit l i = some v → args[i]? = some v)
    (h : WC P n c (bodyQ (P := P) fn R) (lit l) w) : Calls P g args w fun e w' => ∃ v, e = .returned v ∧ R v w' := by
  subst hnt
  refine calls_of_wp hf hb (Code.wp_mono ?_ (h _ ⟨rfl, by simp; omega, ?_⟩))
  · intro e a w hq
    cases e with
    | normal => obtain ⟨f, hf, v, hv, hR⟩ := hq; exact ⟨hf.defers, v, hv a hf.get, v, rfl, hR⟩
    | ret => obtain ⟨f, hf, v, hv, hR⟩ := hq; exact ⟨hf.defers, v, hv a hf.get, v, rfl, hR⟩
    | exit i => obtain ⟨f, _, hq⟩ := hq; exact hq.elim
    | goto l => exact hq.elim
    | panic c => exact hq.elim
    | outgrown => exact hq.elim
  · intro i v hi
    have := hl i v hi
    have hlt : i < args.size := by
      rcases Nat.lt_or_ge i args.size with h' | h'
      · exact h'
      · rw [Array.getElem?_eq_none h'] at this; cases this
    show (args ++ Array.replicate (fn.ntmps - args.size) undef)[i]? = some v
    rw [Array.getElem?_append_left hlt]
    exact this
end
end Go.Gv

