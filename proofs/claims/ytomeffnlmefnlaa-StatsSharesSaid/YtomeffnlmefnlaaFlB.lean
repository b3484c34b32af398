/- Numbers with a point: the operations. -/
import Derived.Test.YtomeffnlmefnlaaFlA
import Derived.Test.YtomeffnlmefnlaaGvI
namespace Go.Flt
open Go
theorem cmp_lt {x y : Int} : compare x y = .lt ↔ x < y := by
  simp only [compare, compareOfLessAndEq]
  split
  · simp_all
  · split <;> simp_all
theorem cmp_eq' {x y : Int} : compare x y = .eq ↔ x = y := by
  simp only [compare, compareOfLessAndEq]
  split
  · simp; omega
  · split <;> simp_all
theorem cmp_gt {x y : Int} : compare x y = .gt ↔ y < x := by
  simp only [compare, compareOfLessAndEq]
  split
  · simp; omega
  · split
    · simp; omega
    · simp; omega
abbrev K : Int := 9218868437227405312
theorem ord_is {a b : Nat} {o : Ordering} {p : Prop} [Decidable p] (h : ok a → ok b → (compare (sk a) (sk b) = o ↔ p)) :
    (Ieee.double.order a b == some o) = decide (((-9218868437227405312 ≤ sk a ∧ sk a ≤ 9218868437227405312) ∧ (-9218868437227405312 ≤ sk b ∧ sk b ≤ 9218868437227405312)) ∧ p) := by
  by_cases ha : ok a
  · by_cases hb : ok b
    · rw [ord_eq ha hb]
      have h1 := h ha hb
      have e : (some (compare (sk a) (sk b)) == some o) = decide (compare (sk a) (sk b) = o) := by
        by_cases hc : compare (sk a) (sk b) = o <;> simp [hc]
      rw [e]
      exact decide_eq_decide.2 ⟨fun x => ⟨⟨ha, hb⟩, h1.1 x⟩, fun x => h1.2 x.2⟩
    · rw [ord_nan (.inr hb)]
      symm
      exact decide_eq_false fun x => hb x.1.2
  · rw [ord_nan (.inl ha)]
    symm
    exact decide_eq_false fun x => ha x.1.1
end Go.Flt
namespace Go.Gv
open Go Go.Flt
section
variable {P : Program} {f : Env} {w : World} {d : Option Tmp} {ty : TypeId} {ps : String} {af : Array Edge} {gd : Option (Nat × Bool)} {w0 : World} {S : Nat → Prop} {L : List Ent} {t t2 : TypeId} {x y : Operand} {a b : Nat}
theorem LV.eqF (hx : ev f x = some (.float .f64 a)) (hy : ev f y = some (.float .f64 b)) : LV P ⟨d, .binOp .eql t x y t2, ty, ps, af, gd⟩ f w (.bool (decide (((-9218868437227405312 ≤ sk a ∧ sk a ≤ 9218868437227405312) ∧ (-9218868437227405312 ≤ sk b ∧ sk b ≤ 9218868437227405312)) ∧ sk a = sk b))) := fun e he => by
  rw [← ord_is (o := .eq) fun _ _ => cmp_eq']
  simp [execOp, ev_eval he hx, ev_eval he hy, eqGuard, binOp_float_cmp_eql, FloatKind.format]
theorem LV.neF (hx : ev f x = some (.float .f64 a)) (hy : ev f y = some (.float .f64 b)) : LV P ⟨d, .binOp .neq t x y t2, ty, ps, af, gd⟩ f w (.bool (decide (¬ (((-9218868437227405312 ≤ sk a ∧ sk a ≤ 9218868437227405312) ∧ (-9218868437227405312 ≤ sk b ∧ sk b ≤ 9218868437227405312)) ∧ sk a = sk b)))) := fun e he => by
  rw [decide_not, ← ord_is (o := .eq) fun _ _ => cmp_eq']
  simp [execOp, ev_eval he hx, ev_eval he hy, eqGuard, binOp_float_cmp_neq, FloatKind.format, bne]
theorem LV.ltF (hx : ev f x = some (.float .f64 a)) (hy : ev f y = some (.float .f64 b)) : LV P ⟨d, .binOp .lss t x y t2, ty, ps, af, gd⟩ f w (.bool (decide (((-9218868437227405312 ≤ sk a ∧ sk a ≤ 9218868437227405312) ∧ (-9218868437227405312 ≤ sk b ∧ sk b ≤ 9218868437227405312)) ∧ sk a < sk b))) := fun e he => by
  rw [← ord_is (o := .lt) fun _ _ => cmp_lt]
  simp [execOp, ev_eval he hx, ev_eval he hy, eqGuard, binOp_float_cmp_lss, FloatKind.format]
theorem LV.gtF (hx : ev f x = some (.float .f64 a)) (hy : ev f y = some (.float .f64 b)) : LV P ⟨d, .binOp .gtr t x y t2, ty, ps, af, gd⟩ f w (.bool (decide (((-9218868437227405312 ≤ sk a ∧ sk a ≤ 9218868437227405312) ∧ (-9218868437227405312 ≤ sk b ∧ sk b ≤ 9218868437227405312)) ∧ sk a > sk b))) := fun e he => by
  rw [← ord_is (o := .gt) fun _ _ => cmp_gt]
  simp [execOp, ev_eval he hx, ev_eval he hy, eqGuard, binOp_float_cmp_gtr, FloatKind.format]
theorem LV.geF (hx : ev f x = some (.float .f64 a)) (hy : ev f y = some (.float .f64 b)) : LV P ⟨d, .binOp .geq t x y t2, ty, ps, af, gd⟩ f w (.bool (decide (((-9218868437227405312 ≤ sk a ∧ sk a ≤ 9218868437227405312) ∧ (-9218868437227405312 ≤ sk b ∧ sk b ≤ 9218868437227405312)) ∧ sk a ≥ sk b))) := fun e he => by
  have h : (Ieee.double.order a b == some .gt || Ieee.double.order a b == some .eq) = decide (((-9218868437227405312 ≤ sk a ∧ sk a ≤ 9218868437227405312) ∧ (-9218868437227405312 ≤ sk b ∧ sk b ≤ 9218868437227405312)) ∧ sk a ≥ sk b) := by
    rw [ord_is (o := .gt) fun _ _ => cmp_gt, ord_is (o := .eq) fun _ _ => cmp_eq', ← Bool.decide_or]
    exact decide_eq_decide.2 (by omega)
  rw [← h]
  simp [execOp, ev_eval he hx, ev_eval he hy, eqGuard, binOp_float_cmp_geq, FloatKind.format]
theorem LV.leF (hx : ev f x = some (.float .f64 a)) (hy : ev f y = some (.float .f64 b)) : LV P ⟨d, .binOp .leq t x y t2, ty, ps, af, gd⟩ f w (.bool (decide (((-9218868437227405312 ≤ sk a ∧ sk a ≤ 9218868437227405312) ∧ (-9218868437227405312 ≤ sk b ∧ sk b ≤ 9218868437227405312)) ∧ sk a ≤ sk b))) := fun e he => by
  have h : (Ieee.double.order a b == some .lt || Ieee.double.order a b == some .eq) = decide (((-9218868437227405312 ≤ sk a ∧ sk a ≤ 9218868437227405312) ∧ (-9218868437227405312 ≤ sk b ∧ sk b ≤ 9218868437227405312)) ∧ sk a ≤ sk b) := by
    rw [ord_is (o := .lt) fun _ _ => cmp_lt, ord_is (o := .eq) fun _ _ => cmp_eq', ← Bool.decide_or]
    exact decide_eq_decide.2 (by omega)
  rw [← h]
  simp [execOp, ev_eval he hx, ev_eval he hy, eqGuard, binOp_float_cmp_leq, FloatKind.format]
theorem LV.cvtIF {s u : TypeId} {k : IntKind} {n : Int} {q : TypeDesc} (hs : P.underlying s = some q) (hu : P.underlying u = some (.float .f64)) (hx : ev f x = some (.int k n)) : LV P ⟨d, .convert s u x, ty, ps, af, gd⟩ f w (.float .f64 (floatOfInt .f64 n)) := fun e he => by
  simp [execOp, ev_eval he hx, run_convert_int_float w s u k .f64 n (by rw [hs]; rfl) hu]
theorem LV.negF (hx : ev f x = some (.float .f64 a)) : LV P ⟨d, .unOp .neg t x, ty, ps, af, gd⟩ f w (.float .f64 (Op.negFloat .f64 a)) := fun e he => by
  simp [execOp, ev_eval he hx, Op.unary]
end
end Go.Gv
namespace Go.Flt
open Go
/-- A word, but for which NaN it is. -/
def cn (r : Nat) : Option Nat := if r % 9223372036854775808 ≤ 9218868437227405312 then some r else none
theorem cn_ok {r : Nat} (h : ok r) : cn r = some r := if_pos (ok_iff.1 h)
theorem cn_some {r z : Nat} (h : cn r = some z) : ok r ∧ r = z := by
  unfold cn at h
  split at h
  · rename_i hk; exact ⟨ok_iff.2 hk, by injection h⟩
  · cases h
theorem cn_none {r : Nat} (h : cn r = none) : ¬ ok r := by
  unfold cn at h
  split at h
  · cases h
  · rename_i hk; rw [ok_iff]; exact hk
theorem word_ok (neg : Bool) (r : Nat) (h : r ≤ 9218868437227405312) : (Ieee.double.word neg r) % 9223372036854775808 ≤ 9218868437227405312 := by
  have e : Ieee.double.signWeight = 9223372036854775808 := rfl
  unfold Ieee.Format.word
  rw [e]
  split <;> omega
theorem near_ok (neg : Bool) (m : Nat) (p : Int) : (Ieee.double.nearest neg m p) % 9223372036854775808 ≤ 9218868437227405312 := by
  unfold Ieee.Format.nearest
  split
  · exact word_ok _ _ (by omega)
  · exact word_ok _ _ (Nat.min_le_right _ _)
def fin : Ieee.Datum → Prop
  | .nan .. => False
  | _ => True
theorem write_ok {dm : Ieee.Datum} (h : fin dm) : (Ieee.double.write dm) % 9223372036854775808 ≤ 9218868437227405312 := by
  cases dm with
  | number n m p => exact near_ok n m p
  | infinity n => exact word_ok n _ (Nat.le_refl _)
  | nan n m => exact h.elim
theorem sum_fin {p q r : Ieee.Datum} (h : p.sum q = some r) : fin r := by
  unfold Ieee.Datum.sum at h
  split at h <;> first | (cases h; done) | (split at h <;> first | (cases h; done) | (injection h with h; subst h; trivial)) | (injection h with h; subst h; trivial)
theorem product_fin {p q r : Ieee.Datum} (h : p.product q = some r) : fin r := by
  unfold Ieee.Datum.product at h
  split at h <;> first | (cases h; done) | (split at h <;> first | (cases h; done) | (injection h with h; subst h; trivial)) | (injection h with h; subst h; trivial)
theorem quotient_fin {n : Nat} {p q r : Ieee.Datum} (h : p.quotient n q = some r) : fin r := by
  unfold Ieee.Datum.quotient at h
  split at h <;> first | (cases h; done) | (split at h <;> first | (cases h; done) | (split at h <;> first | (cases h; done) | (injection h with h; subst h; trivial)) | (injection h with h; subst h; trivial)) | (injection h with h; subst h; trivial)
theorem bits_ok {op : BinOp} {a b z : Nat} (h : floatBits op .f64 a b = some z) : cn z = some z := by
  refine if_pos ?_
  unfold floatBits at h
  split at h
  · obtain ⟨dm, h1, rfl⟩ := Option.map_eq_some_iff.1 h; exact write_ok (sum_fin h1)
  · obtain ⟨dm, h1, rfl⟩ := Option.map_eq_some_iff.1 h; exact write_ok (sum_fin h1)
  · obtain ⟨dm, h1, rfl⟩ := Option.map_eq_some_iff.1 h; exact write_ok (product_fin h1)
  · obtain ⟨dm, h1, rfl⟩ := Option.map_eq_some_iff.1 h; exact write_ok (quotient_fin h1)
  · cases h
end Go.Flt
namespace Go.Gv
open Go Go.Flt
section
variable {P : Program} {f : Env} {w : World} {d : Option Tmp} {ty : TypeId} {ps : String} {af : Array Edge} {gd : Option (Nat × Bool)} {w0 : World} {S : Nat → Prop} {L : List Ent} {t t2 : TypeId} {x y : Operand} {a b : Nat}
theorem XE.arF {op : BinOp} (h : SH w0 S w L) (ho : op = .add ∨ op = .sub ∨ op = .mul ∨ op = .quo) (hx : ev f x = some (.float .f64 a)) (hy : ev f y = some (.float .f64 b)) :
    XE P ⟨d, .binOp op t x y t2, ty, ps, af, gd⟩ f w (fun v w' => ∃ r, v = .float .f64 r ∧ cn r = floatBits op .f64 a b ∧ r < 18446744073709551616 ∧ SH w0 S w' L ∧ KB No w w') := by
  have heq : ∀ {e : Act}, FG e f → (execOp e.eval ⟨d, .binOp op t x y t2, ty, ps, af, gd⟩).run P w = ((do let v ← binOp op t (.float .f64 a) (.float .f64 b); pure (.value v)) : Sem _).run P w := fun he => by
    rcases ho with rfl | rfl | rfl | rfl <;> simp [execOp, ev_eval he hx, ev_eval he hy, eqGuard]
  cases hb : floatBits op .f64 a b with
  | some z =>
    refine ⟨.float .f64 z, w, fun e he => ?_, z, rfl, bits_ok hb, ?_, h, KB.refl _ _⟩
    · rw [heq he, Sem.run_bind, run_float_arith w op t .f64 a b z hb]
      rfl
    · have h2 : z < 2 ^ 64 := of_decide_eq_true (floatBits_wf hb)
      omega
  | none =>
    refine ⟨.float .f64 (Question.cut (.nanBits .f64 a b) (w.tape w.drawn (.nanBits .f64 a b))), w.drew, fun e he => ?_, _, rfl, ?_, ?_, h.drew, KB.drew _⟩
    · rw [heq he]
      unfold floatBits at hb
      have key : ∀ q : Question, q = .nanBits .f64 a b → (do let v ← (do pure (Value.float .f64 (← choose q)) : Sem Value); pure (Next.value v) : Sem Next).run P w = .ok (.value (.float .f64 (Question.cut q (w.tape w.drawn q)))) w.drew := fun q hq => by subst hq; rfl
      rw [← key _ rfl]
      rcases ho with rfl | rfl | rfl | rfl <;> simp only at hb <;> simp only [binOp, Op.floatArith, hb] <;> rfl
    · refine if_neg ?_
      simp only [Question.cut]
      generalize w.tape w.drawn (.nanBits .f64 a b) = tp
      have h1 : tp / 2 % (2 ^ 52 - 1) < 2 ^ 52 - 1 := Nat.mod_lt _ (by decide)
      generalize tp / 2 % (2 ^ 52 - 1) = q at *
      have h2 : tp % 2 < 2 := Nat.mod_lt _ (by decide)
      generalize tp % 2 = s at *
      omega
    · simp only [Question.cut]
      generalize w.tape w.drawn (.nanBits .f64 a b) = tp
      have h1 : tp / 2 % (2 ^ 52 - 1) < 2 ^ 52 - 1 := Nat.mod_lt _ (by decide)
      generalize tp / 2 % (2 ^ 52 - 1) = q at *
      have h2 : tp % 2 < 2 := Nat.mod_lt _ (by decide)
      generalize tp % 2 = s at *
      omega
theorem LV.arF {op : BinOp} {r : Nat} (h : floatBits op .f64 a b = some r) (hx : ev f x = some (.float .f64 a)) (hy : ev f y = some (.float .f64 b)) : LV P ⟨d, .binOp op t x y t2, ty, ps, af, gd⟩ f w (.float .f64 r) := fun e he => by
  have h1 := run_float_arith (P := P) w op t .f64 a b r h
  unfold floatBits at h
  cases op <;> simp only at h <;> first | (cases h; done) | (simp [execOp, ev_eval he hx, ev_eval he hy, eqGuard, h1])
end
end Go.Gv

namespace Go.Gv
open Go
def FV (b : Nat) : Value := .float .f64 b
/-- Words of numbers with a point. -/
def eF : El Nat := ⟨1, fun x => [.float .f64 x], fun _ => rfl, fun _ _ h => one_mem h rfl⟩
abbrev fI (l : List Nat) (i : Int) : Nat := l.getD i.toNat 0
end Go.Gv
namespace Go.Flt
open Go
theorem inv_zero {x r : Nat} (h : sk x = 0) (hw : x < 18446744073709551616) (hr : cn r = floatBits .quo .f64 4607182418800017408 x) : (x = 0 ∧ sk r = 9218868437227405312) ∨ (x = 9223372036854775808 ∧ sk r = -9218868437227405312) := by
  rcases sk_zero hw h with rfl | rfl
  · have e : floatBits .quo .f64 4607182418800017408 0 = some 9218868437227405312 := by decide +kernel
    rw [e] at hr
    obtain ⟨_, rfl⟩ := cn_some hr
    exact .inl ⟨rfl, by decide +kernel⟩
  · have e : floatBits .quo .f64 4607182418800017408 9223372036854775808 = some 18442240474082181120 := by decide +kernel
    rw [e] at hr
    obtain ⟨_, rfl⟩ := cn_some hr
    exact .inr ⟨rfl, by decide +kernel⟩
/-- A word's place in the whole order: below 0, -0, +0, above 0, none. -/
def tk (w : Nat) : Int := if -9218868437227405312 ≤ sk w ∧ sk w ≤ 9218868437227405312 then (if sk w = 0 ∧ w ≠ 0 then -1 else 2 * sk w) else 18437736874454810626
def ORD (a b : Nat) : Int := if tk a < tk b then -1 else if tk a > tk b then 1 else 0
/-- What is known of it, for the arithmetic. -/
theorem tk_is (w : Nat) : (¬ (-9218868437227405312 ≤ sk w ∧ sk w ≤ 9218868437227405312) ∧ tk w = 18437736874454810626) ∨ ((-9218868437227405312 ≤ sk w ∧ sk w ≤ 9218868437227405312) ∧ ((sk w ≠ 0 ∧ tk w = 2 * sk w) ∨ (sk w = 0 ∧ w = 0 ∧ tk w = 0) ∨ (sk w = 0 ∧ w ≠ 0 ∧ tk w = -1))) := by
  unfold tk
  by_cases h : -9218868437227405312 ≤ sk w ∧ sk w ≤ 9218868437227405312
  · right
    refine ⟨h, ?_⟩
    rw [if_pos h]
    by_cases h2 : sk w = 0
    · by_cases h3 : w = 0
      · right; left; rw [if_neg (by omega)]; omega
      · right; right; rw [if_pos ⟨h2, h3⟩]; omega
    · left; rw [if_neg (by omega)]; omega
  · left
    exact ⟨h, if_neg h⟩
theorem ord_is' (a b : Nat) : (tk a < tk b ∧ ORD a b = -1) ∨ (tk a = tk b ∧ ORD a b = 0) ∨ (tk a > tk b ∧ ORD a b = 1) := by
  unfold ORD
  rcases Int.lt_trichotomy (tk a) (tk b) with h | h | h
  · left; rw [if_pos h]; omega
  · right; left; rw [if_neg (by omega), if_neg (by omega)]; omega
  · right; right; rw [if_neg (by omega), if_pos h]; omega
/-- Among which kinds a word stands. -/
def rk (w : Nat) : Int := if tk w = 18437736874454810626 then 4 else if tk w > 0 then 3 else if tk w = 0 then 2 else if tk w = -1 then 1 else 0
theorem rk_is (w : Nat) : (tk w = 18437736874454810626 ∧ rk w = 4) ∨ (tk w ≠ 18437736874454810626 ∧ ((tk w > 0 ∧ rk w = 3) ∨ (tk w = 0 ∧ rk w = 2) ∨ (tk w = -1 ∧ rk w = 1) ∨ (tk w < -1 ∧ rk w = 0))) := by
  unfold rk
  by_cases h1 : tk w = 18437736874454810626
  · left; rw [if_pos h1]; omega
  · right
    refine ⟨h1, ?_⟩
    rw [if_neg h1]
    by_cases h2 : tk w > 0
    · left; rw [if_pos h2]; omega
    · rw [if_neg h2]
      by_cases h3 : tk w = 0
      · rw [if_pos h3]; omega
      · rw [if_neg h3]
        by_cases h4 : tk w = -1
        · rw [if_pos h4]; omega
        · rw [if_neg h4]; omega
theorem tk_none {r : Nat} (h : cn r = none) : tk r = 18437736874454810626 := by
  have h1 := cn_none h
  have := tk_is r
  unfold ok at h1
  omega
/-- A word between two bounds, told by its place. -/
def CLP (x l h : Nat) : Int := if tk x = 18437736874454810626 ∨ tk l = 18437736874454810626 ∨ tk h = 18437736874454810626 ∨ tk l > tk h then 18437736874454810626 else if tk x < tk l then tk l else if tk x > tk h then tk h else tk x
theorem clp_is (x l h : Nat) : ((tk x = 18437736874454810626 ∨ tk l = 18437736874454810626 ∨ tk h = 18437736874454810626 ∨ tk l > tk h) ∧ CLP x l h = 18437736874454810626) ∨ (¬ (tk x = 18437736874454810626 ∨ tk l = 18437736874454810626 ∨ tk h = 18437736874454810626 ∨ tk l > tk h) ∧ ((tk x < tk l ∧ CLP x l h = tk l) ∨ (tk x ≥ tk l ∧ tk x > tk h ∧ CLP x l h = tk h) ∨ (tk x ≥ tk l ∧ tk x ≤ tk h ∧ CLP x l h = tk x))) := by
  unfold CLP
  by_cases h1 : tk x = 18437736874454810626 ∨ tk l = 18437736874454810626 ∨ tk h = 18437736874454810626 ∨ tk l > tk h
  · left; exact ⟨h1, if_pos h1⟩
  · right
    refine ⟨h1, ?_⟩
    rw [if_neg h1]
    by_cases h2 : tk x < tk l
    · left; exact ⟨h2, if_pos h2⟩
    · rw [if_neg h2]
      by_cases h3 : tk x > tk h
      · right; left; exact ⟨by omega, h3, if_pos h3⟩
      · right; right; exact ⟨by omega, by omega, if_neg h3⟩
/-- The place of the greatest one, the first of them. -/
def IsBst (l : List Nat) (b : Int) : Prop := (b = -1 ∧ ∀ k : Int, 0 ≤ k → k < l.length → tk (l.getD k.toNat 0) = 18437736874454810626) ∨
  (0 ≤ b ∧ b < l.length ∧ tk (l.getD b.toNat 0) ≠ 18437736874454810626 ∧ ∀ k : Int, 0 ≤ k → k < l.length → tk (l.getD k.toNat 0) ≠ 18437736874454810626 → tk (l.getD k.toNat 0) ≤ tk (l.getD b.toNat 0) ∧ (k < b → tk (l.getD k.toNat 0) < tk (l.getD b.toNat 0)))
theorem bst_uniq {l : List Nat} {b c : Int} (h1 : IsBst l b) (h2 : IsBst l c) : b = c := by
  rcases h1 with ⟨e1, a1⟩ | ⟨b0, b1, b2, b3⟩
  · rcases h2 with ⟨e2, a2⟩ | ⟨c0, c1, c2, c3⟩
    · omega
    · exact absurd (a1 c c0 c1) c2
  · rcases h2 with ⟨e2, a2⟩ | ⟨c0, c1, c2, c3⟩
    · exact absurd (a2 b b0 b1) b2
    · have p1 := b3 c c0 c1 c2
      have p2 := c3 b b0 b1 b2
      rcases Int.lt_trichotomy b c with h | h | h
      · have := p2.2 h; omega
      · exact h
      · have := p1.2 h; omega
/-- Of the first ones. -/
def IsBstN (l : List Nat) (b n : Int) : Prop := (b = -1 ∧ ∀ k : Int, 0 ≤ k → k < n → tk (l.getD k.toNat 0) = 18437736874454810626) ∨
  (0 ≤ b ∧ b < n ∧ tk (l.getD b.toNat 0) ≠ 18437736874454810626 ∧ ∀ k : Int, 0 ≤ k → k < n → tk (l.getD k.toNat 0) ≠ 18437736874454810626 → tk (l.getD k.toNat 0) ≤ tk (l.getD b.toNat 0) ∧ (k < b → tk (l.getD k.toNat 0) < tk (l.getD b.toNat 0)))
theorem bstN_0 (l : List Nat) : IsBstN l (-1) 0 := .inl ⟨rfl, fun k h0 h1 => by omega⟩
theorem bstN_take {l : List Nat} {b n : Int} (h : IsBstN l b n) (h0 : 0 ≤ n) (hn : tk (l.getD n.toNat 0) ≠ 18437736874454810626) (hb : b < 0 ∨ tk (l.getD n.toNat 0) > tk (l.getD b.toNat 0)) : IsBstN l n (n + 1) := by
  right
  refine ⟨h0, by omega, hn, fun k k0 k1 k2 => ?_⟩
  by_cases e : k = n
  · subst e; omega
  · rcases h with ⟨e1, a1⟩ | ⟨b0, b1, b2, b3⟩
    · exact absurd (a1 k k0 (by omega)) k2
    · have := b3 k k0 (by omega) k2
      omega
theorem bstN_keep {l : List Nat} {b n : Int} (h : IsBstN l b n) (hb : tk (l.getD n.toNat 0) = 18437736874454810626 ∨ (0 ≤ b ∧ tk (l.getD n.toNat 0) ≤ tk (l.getD b.toNat 0))) : IsBstN l b (n + 1) := by
  rcases h with ⟨e1, a1⟩ | ⟨b0, b1, b2, b3⟩
  · left
    refine ⟨e1, fun k k0 k1 => ?_⟩
    by_cases e : k = n
    · subst e; rcases hb with hb | hb
      · exact hb
      · omega
    · exact a1 k k0 (by omega)
  · right
    refine ⟨b0, by omega, b2, fun k k0 k1 k2 => ?_⟩
    by_cases e : k = n
    · subst e
      rcases hb with hb | hb
      · exact absurd hb k2
      · omega
    · exact b3 k k0 (by omega) k2
theorem bstN_fin {l : List Nat} {b n : Int} (h : IsBstN l b n) (hn : n = (l.length : Int)) : IsBst l b := by subst hn; exact h
theorem ext_tk {a b : List Nat} (hl : a.length = b.length) (h : ∀ t : Int, 0 ≤ t → t < a.length → tk (a.getD t.toNat 0) = tk (b.getD t.toNat 0)) : a.map tk = b.map tk := by
  apply List.ext_getElem (by simpa using hl)
  intro i h1 h2
  have h1' : i < a.length := by simpa using h1
  have h2' : i < b.length := by simpa using h2
  have := h i (by omega) (by omega)
  simpa [List.getD, h1', h2'] using this
theorem map_tk {a b : List Nat} (h : a.map tk = b.map tk) {i : Int} (h0 : 0 ≤ i) (h1 : i < a.length) : tk (a.getD i.toNat 0) = tk (b.getD i.toNat 0) := by
  have hl : a.length = b.length := by simpa using congrArg List.length h
  have ha : i.toNat < a.length := by omega
  have hb : i.toNat < b.length := by omega
  have := congrArg (fun l => l[i.toNat]?) h
  simpa [List.getD, ha, hb] using this
end Go.Flt
