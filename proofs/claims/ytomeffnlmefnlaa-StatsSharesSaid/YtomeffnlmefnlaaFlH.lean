/- Numbers halved, plain. -/
import Derived.Test.YtomeffnlmefnlaaFlB
namespace Go.Flt
open Go
/-- Half of a number. -/
def hv (x : Nat) : Nat := (floatBits .quo .f64 x 4611686018427387904).getD 0
def hlv : Nat → Nat → Nat
  | 0, x => x
  | n + 1, x => if sk x = 0 ∨ ¬ (-9218868437227405312 < sk x ∧ sk x < 9218868437227405312) then x else hlv n (hv x)
theorem hlv_stop (n : Nat) {x : Nat} (h : sk x = 0 ∨ ¬ (-9218868437227405312 < sk x ∧ sk x < 9218868437227405312)) : hlv n x = x := by
  cases n with
  | zero => rfl
  | succ n => rw [hlv, if_pos h]
theorem read_fin {x : Nat} (h : -9218868437227405312 < sk x ∧ sk x < 9218868437227405312) : ∃ m a, Ieee.double.read x = .number (x / 9223372036854775808 % 2 == 1) m (Ieee.double.leastPlace + (a : Nat)) ∧ m * 2 ^ a = vl (x % 9223372036854775808) := by
  refine read_num ?_
  unfold sk at h
  split at h <;> omega
theorem two_read : Ieee.double.read 4611686018427387904 = .number false 4503599627370496 (-51) := by decide +kernel
theorem quo2 {x : Nat} (h : ok x) : ∃ z, floatBits .quo .f64 x 4611686018427387904 = some z := by
  show ∃ z, ((Ieee.double.read x).quotient _ (Ieee.double.read 4611686018427387904)).map Ieee.double.write = some z
  rw [two_read]
  by_cases hf : -9218868437227405312 < sk x ∧ sk x < 9218868437227405312
  · obtain ⟨m, a, e, _⟩ := read_fin hf
    rw [e]
    exact ⟨_, rfl⟩
  · have e : Ieee.double.read x = .infinity (x / 9223372036854775808 % 2 == 1) := by
      refine read_inf ?_
      unfold ok at h
      unfold sk at h hf
      split at h
      · rename_i hs; rw [if_pos hs] at hf; omega
      · rename_i hs; rw [if_neg hs] at hf; omega
    rw [e]
    exact ⟨_, rfl⟩
theorem hv_is {x r : Nat} (h : ok x) (hr : cn r = floatBits .quo .f64 x 4611686018427387904) : r = hv x := by
  obtain ⟨z, hz⟩ := quo2 h
  rw [hz] at hr
  unfold hv
  rw [hz]
  exact (cn_some hr).2
theorem sub_self {x r : Nat} (hr : cn r = floatBits .sub .f64 x x) : ((-9218868437227405312 < sk x ∧ sk x < 9218868437227405312) ∧ sk r = 0) ∨ (¬ (-9218868437227405312 < sk x ∧ sk x < 9218868437227405312) ∧ ¬ (-9218868437227405312 ≤ sk r ∧ sk r ≤ 9218868437227405312)) := by
  by_cases hf : -9218868437227405312 < sk x ∧ sk x < 9218868437227405312
  · left
    refine ⟨hf, ?_⟩
    obtain ⟨m, a, e, _⟩ := read_fin hf
    have e2 : floatBits .sub .f64 x x = some 0 := by
      show ((Ieee.double.read x).sum (Ieee.double.read x).opposite).map Ieee.double.write = some 0
      rw [e]
      generalize (x / 9223372036854775808 % 2 == 1) = s
      generalize Ieee.double.leastPlace + (a : Nat) = L
      have e3 : Ieee.signed s m (L - min L L).toNat + Ieee.signed (!s) m (L - min L L).toNat = 0 := by
        rw [signed_eq, signed_eq]
        cases s <;> simp <;> omega
      show (some (Ieee.Datum.number (if _ then _ else _) _ _)).map Ieee.double.write = some 0
      rw [e3]
      cases s <;> rfl
    rw [e2] at hr
    obtain ⟨_, rfl⟩ := cn_some hr
    rfl
  · right
    refine ⟨hf, ?_⟩
    have e2 : floatBits .sub .f64 x x = none := by
      show ((Ieee.double.read x).sum (Ieee.double.read x).opposite).map Ieee.double.write = none
      by_cases hk : ok x
      · have e : Ieee.double.read x = .infinity (x / 9223372036854775808 % 2 == 1) := by
          refine read_inf ?_
          unfold ok at hk
          unfold sk at hk hf
          split at hk
          · rename_i hs; rw [if_pos hs] at hf; omega
          · rename_i hs; rw [if_neg hs] at hf; omega
        rw [e]
        cases (x / 9223372036854775808 % 2 == 1) <;> rfl
      · have e : Ieee.double.read x = .nan (x / 9223372036854775808 % 2 == 1) (x % 9223372036854775808 - 9218868437227405312) := by
          rw [ok_iff] at hk
          rw [read_eq, if_neg (by omega), if_neg (by omega), if_neg (by omega)]
        rw [e]
        rfl
    rw [e2] at hr
    exact cn_none hr
theorem hlv_end {n : Int} {x : Nat} (h : n ≤ 0 ∨ sk x = 0 ∨ ¬ (-9218868437227405312 < sk x ∧ sk x < 9218868437227405312)) : hlv n.toNat x = x := by
  rcases h with h | h
  · rw [show n.toNat = 0 by omega]; rfl
  · exact hlv_stop _ h
theorem hlv_step {n : Int} {x r : Nat} (hn : 0 < n) (h0 : ¬ sk x = 0) (hf : -9218868437227405312 < sk x ∧ sk x < 9218868437227405312) (hr : r = hv x) : hlv (n - 1).toNat r = hlv n.toNat x := by
  obtain ⟨k, hk⟩ : ∃ k, n.toNat = k + 1 := ⟨n.toNat - 1, by omega⟩
  rw [hk, hlv, if_neg (by omega), hr, show (n - 1).toNat = k by omega]
/-- How much two texts have in common. -/
def RAT (c n m : Int) : Option Nat := if n < 0 ∨ m < 0 ∨ n > 2147483647 ∨ m > 2147483647 ∨ c < 0 ∨ c > min n m ∨ n + m = 0 then none else floatBits .quo .f64 (floatOfInt .f64 (2 * c)) (floatOfInt .f64 (n + m))
end Go.Flt
namespace Go.Gv
open Go Go.Flt
section
variable {P : Program} {f : Env} {w : World} {d : Option Tmp} {ty : TypeId} {ps : String} {af : Array Edge} {gd : Option (Nat × Bool)}
theorem LV.cvtFI {s u : TypeId} {k : IntKind} {n : Int} {q : TypeDesc} {x : Operand} {a : Nat} (hs : P.underlying s = some q) (hu : P.underlying u = some (.int k)) (hx : ev f x = some (.float .f64 a)) (h : floatToIntVal .f64 a k = some n) : LV P ⟨d, .convert s u x, ty, ps, af, gd⟩ f w (.int k n) := fun e he => by
  simp [execOp, ev_eval he hx, run_convert_float_int w s u .f64 k a n (by rw [hs]; rfl) hu h]
theorem RAT_live : RAT 1 1 3 = some 4602678819172646912 := by decide +kernel
theorem hlv_live : hlv 2 4620693217682128896 = 4611686018427387904 := by decide +kernel
end
end Go.Gv

namespace Go.Flt
open Go
theorem isort_eq : ∀ {l1 l2 : List Int}, l1.Perm l2 → l1.Pairwise (· ≤ ·) → l2.Pairwise (· ≤ ·) → l1 = l2
  | [], l2, hp, _, _ => (List.Perm.nil_eq hp)
  | a :: l1, [], hp, _, _ => absurd hp.length_eq (by simp)
  | a :: l1, b :: l2, hp, h1, h2 => by
    obtain ⟨a1, a2⟩ := List.pairwise_cons.1 h1
    obtain ⟨b1, b2⟩ := List.pairwise_cons.1 h2
    have hab : a = b := by
      have hb : b ∈ a :: l1 := hp.mem_iff.2 (by simp)
      have ha : a ∈ b :: l2 := hp.mem_iff.1 (by simp)
      rcases List.mem_cons.1 hb with e | hb
      · exact e.symm
      · rcases List.mem_cons.1 ha with e | ha
        · exact e
        · have := a1 b hb
          have := b1 a ha
          omega
    subst hab
    rw [isort_eq (List.Perm.cons_inv hp) a2 b2]
theorem sort_tk {xs ys zs : List Nat} (h1 : ys.Perm xs) (h2 : ys.Pairwise fun a b => ¬ ORD b a < 0) (h3 : zs.Perm xs) (h4 : zs.Pairwise fun a b => ¬ ORD b a < 0) : ys.map tk = zs.map tk := by
  have key : ∀ l : List Nat, (l.Pairwise fun a b => ¬ ORD b a < 0) → (l.map tk).Pairwise (· ≤ ·) := fun l h => List.pairwise_map.2 (h.imp fun {a b} hab => by have := ord_is' b a; omega)
  exact isort_eq ((h1.trans h3.symm).map tk) (key _ h2) (key _ h4)
abbrev M3 : List Nat := [4613937818241073152, 4607182418800017408, 4611686018427387904]
theorem live_m {ys : List Nat} {r : Nat} (h1 : ys.Perm M3) (h2 : ys.Pairwise fun a b => ¬ ORD b a < 0) (h3 : r = ys.getD ((M3.length : Int) / 2).toNat 0) : (-9218868437227405312 ≤ sk r ∧ sk r ≤ 9218868437227405312) ∧ sk r = 4611686018427387904 := by
  have e := sort_tk h1 h2 (zs := [4607182418800017408, 4611686018427387904, 4613937818241073152]) (by decide) (by decide +kernel)
  have hl : ys.length = 3 := h1.length_eq
  have e2 : tk r = tk 4611686018427387904 := by
    subst h3
    have := congrArg (fun l => l[1]?) e
    simpa [List.getD, hl] using this
  have e3 : tk 4611686018427387904 = 9223372036854775808 := by decide +kernel
  have := tk_is r
  omega
theorem live_c {r : Nat} (h : tk r = CLP 4617315517961601024 0 4607182418800017408) : (-9218868437227405312 ≤ sk r ∧ sk r ≤ 9218868437227405312) ∧ sk r = 4607182418800017408 := by
  have e3 : CLP 4617315517961601024 0 4607182418800017408 = 9214364837600034816 := by decide +kernel
  have := tk_is r
  omega
theorem live_b : IsBst [4607182418800017408, 4611686018427387904] 1 := by
  right
  refine ⟨by decide, by decide, by decide +kernel, fun k h0 h1 _ => ?_⟩
  have : k = 0 ∨ k = 1 := by simp only [List.length_cons, List.length_nil] at h1; omega
  rcases this with rfl | rfl
  · exact ⟨by decide +kernel, fun _ => by decide +kernel⟩
  · exact ⟨by decide +kernel, fun h => absurd h (by decide)⟩
theorem mul_live : floatBits .mul .f64 4652007308841189376 4598175219545276416 = some 4643000109586448384 := by decide +kernel
theorem fti_live : floatToIntVal .f64 4643000109586448384 .i64 = some 250 := by decide +kernel
theorem live_k : ∀ t : Int, 0 ≤ t → t < M3.length → -9218868437227405312 ≤ sk (M3.getD t.toNat 0) ∧ sk (M3.getD t.toNat 0) ≤ 9218868437227405312 := fun t h0 h1 => by
  have : t = 0 ∨ t = 1 ∨ t = 2 := by simp only [List.length_cons, List.length_nil] at h1; omega
  rcases this with rfl | rfl | rfl <;> decide +kernel
theorem wf64 {a : Nat} (h : (Lit.float .f64 a).wf = true) : a < 18446744073709551616 := by
  have h2 : a < 2 ^ 64 := of_decide_eq_true h
  omega
theorem ord_le {a b : Nat} : ¬ ORD b a < 0 ↔ tk a ≤ tk b := by have := ord_is' b a; omega
theorem new_eq {out : List Nat} {k : Int} {x : Nat} : (((([] : List Nat) ++ ((out.take k.toNat).drop 0)) ++ [x]) ++ ((out.take out.length).drop k.toNat)) = out.take k.toNat ++ x :: out.drop k.toNat := by simp
theorem new_perm {l out : List Nat} {i k : Int} (h0 : 0 ≤ i) (h1 : i < l.length) (q : out.Perm (l.take i.toNat)) : (((([] : List Nat) ++ ((out.take k.toNat).drop 0)) ++ [l.getD i.toNat 0]) ++ ((out.take out.length).drop k.toNat)).Perm (l.take (i + 1).toNat) := by
  have hlt : i.toNat < l.length := by omega
  rw [new_eq, show (i + 1).toNat = i.toNat + 1 by omega, List.take_add_one, List.getElem?_eq_getElem hlt]
  have e : l.getD i.toNat 0 = l[i.toNat] := by simp [List.getD, hlt]
  rw [e]
  refine List.perm_middle.trans ?_
  rw [List.take_append_drop]
  refine (q.cons _).trans ?_
  exact (List.perm_append_comm (l₁ := [l[i.toNat]]) (l₂ := l.take i.toNat))
theorem new_sort {out : List Nat} {k : Int} {x : Nat} (h : out.Pairwise fun a b => ¬ ORD b a < 0) (k1 : k ≤ out.length) (s1 : ∀ t : Int, 0 ≤ t → t < k → tk (out.getD t.toNat 0) ≤ tk x) (hx : k < out.length → tk x ≤ tk (out.getD k.toNat 0)) : (((([] : List Nat) ++ ((out.take k.toNat).drop 0)) ++ [x]) ++ ((out.take out.length).drop k.toNat)).Pairwise fun a b => ¬ ORD b a < 0 := by
  rw [new_eq]
  have hlo : ∀ a ∈ out.take k.toNat, tk a ≤ tk x := fun a ha => by
    obtain ⟨j, hj, rfl⟩ := List.getElem_of_mem ha
    rw [List.length_take] at hj
    have := s1 j (by omega) (by omega)
    have hj2 : j < out.length := by omega
    simpa [List.getD, hj2] using this
  have hhi : ∀ a ∈ out.drop k.toNat, tk x ≤ tk a := fun a ha => by
    obtain ⟨j, hj, rfl⟩ := List.getElem_of_mem ha
    rw [List.length_drop] at hj
    have hk : k.toNat < out.length := by omega
    rw [List.getElem_drop]
    by_cases hn : k < 0
    · have : k.toNat = 0 := by omega
      by_cases hz : j = 0
      · subst hz
        have h3 := hx (by omega)
        simpa [List.getD, hk] using h3
      · have h3 := hx (by omega)
        have h4 := ord_le.1 (List.pairwise_iff_getElem.1 h k.toNat (k.toNat + j) hk (by omega) (by omega))
        have h5 : out.getD k.toNat 0 = out[k.toNat] := by simp [List.getD, hk]
        rw [h5] at h3
        omega
    · have h3 := hx (by omega)
      have h5 : out.getD k.toNat 0 = out[k.toNat] := by simp [List.getD, hk]
      rw [h5] at h3
      by_cases hz : j = 0
      · subst hz; simpa using h3
      · have h4 := ord_le.1 (List.pairwise_iff_getElem.1 h k.toNat (k.toNat + j) hk (by omega) (by omega))
        omega
  refine List.pairwise_append.2 ⟨h.sublist (List.take_sublist _ _), List.pairwise_cons.2 ⟨fun a ha => ord_le.2 (hhi a ha), h.sublist (List.drop_sublist _ _)⟩, fun a ha b hb => ord_le.2 ?_⟩
  have h1 := hlo a ha
  rcases List.mem_cons.1 hb with rfl | hb
  · exact h1
  · have := hhi b hb; omega
/-- The middle one of three. -/
theorem mid3 {ys : List Nat} {x l h : Nat} (h1 : ys.Perm [x, l, h]) (h2 : ys.Pairwise fun a b => ¬ ORD b a < 0) (hn : ¬ (tk x = 18437736874454810626 ∨ tk l = 18437736874454810626 ∨ tk h = 18437736874454810626 ∨ tk l > tk h)) : tk (ys.getD (1 : Int).toNat 0) = CLP x l h := by
  have hl : ys.length = 3 := h1.length_eq
  have key : ∀ zs : List Nat, zs.Perm [x, l, h] → zs.length = 3 → (zs.Pairwise fun a b => ¬ ORD b a < 0) → tk (ys.getD 1 0) = tk (zs.getD 1 0) := fun zs hz hzl hp => by
    have := congrArg (fun l => l[1]?) (sort_tk h1 h2 hz hp)
    simpa [List.getD, hl, hzl] using this
  have pw : ∀ a b c : Nat, tk a ≤ tk b → tk b ≤ tk c → ([a, b, c].Pairwise fun a b => ¬ ORD b a < 0) := fun a b c h1 h2 => by
    refine List.pairwise_cons.2 ⟨fun d hd => ord_le.2 ?_, List.pairwise_cons.2 ⟨fun d hd => ord_le.2 ?_, List.pairwise_singleton _ _⟩⟩
    · simp at hd; rcases hd with rfl | rfl <;> omega
    · simp at hd; subst hd; omega
  have hc := clp_is x l h
  show tk (ys.getD 1 0) = _
  rcases Int.lt_or_le (tk x) (tk l) with a1 | a1
  · have := key [x, l, h] (List.Perm.refl _) rfl (pw _ _ _ (by omega) (by omega))
    simp only [List.getD, List.getElem?_cons_succ, List.getElem?_cons_zero, Option.getD_some] at this ⊢
    omega
  · rcases Int.lt_or_le (tk h) (tk x) with a2 | a2
    · have := key [l, h, x] ((List.perm_append_comm (l₁ := [l, h]) (l₂ := [x]))) rfl (pw _ _ _ (by omega) (by omega))
      simp only [List.getD, List.getElem?_cons_succ, List.getElem?_cons_zero, Option.getD_some] at this ⊢
      omega
    · have := key [l, x, h] (List.Perm.swap x l [h]) rfl (pw _ _ _ (by omega) (by omega))
      simp only [List.getD, List.getElem?_cons_succ, List.getElem?_cons_zero, Option.getD_some] at this ⊢
      omega
/-! ### Means -/
theorem read_nan {a : Nat} (h : ¬ ok a) : ∃ s m, Ieee.double.read a = .nan s m := by
  rw [ok_iff] at h
  refine ⟨a / 9223372036854775808 % 2 == 1, a % 9223372036854775808 - 9218868437227405312, ?_⟩
  rw [read_eq, if_neg (by omega), if_neg (by omega), if_neg (by omega)]
theorem nan_op {op : BinOp} {a b : Nat} (h : ¬ ok a) : floatBits op .f64 a b = none := by
  obtain ⟨s, m, e⟩ := read_nan h
  have e1 : ∀ d, (Ieee.Datum.nan s m).sum d = none := fun d => rfl
  have e2 : ∀ d, (Ieee.Datum.nan s m).product d = none := fun d => rfl
  have e3 : ∀ n d, (Ieee.Datum.nan s m).quotient n d = none := fun n d => rfl
  cases op <;> first | rfl | (show ((Ieee.double.read a).sum _).map Ieee.double.write = none; rw [e, e1]; rfl) | (show ((Ieee.double.read a).product _).map Ieee.double.write = none; rw [e, e2]; rfl) | (show ((Ieee.double.read a).quotient _ _).map Ieee.double.write = none; rw [e, e3]; rfl)
/-- An operation on a word of which it is not known which NaN it is. -/
def fop (op : BinOp) (s : Option Nat) (b : Nat) : Option Nat := s.bind fun a => floatBits op .f64 a b
theorem fop_is (op : BinOp) (a b : Nat) : floatBits op .f64 a b = fop op (cn a) b := by
  by_cases h : ok a
  · rw [cn_ok h]; rfl
  · rw [nan_op h]
    cases hc : cn a with
    | none => rfl
    | some z => exact absurd (cn_some hc).1 h
def fsum (l : List Nat) : Option Nat := l.foldl (fun s x => fop .add s x) (some 0)
def MEAN (l : List Nat) : Option Nat := fop .quo (fsum l) (floatOfInt .f64 l.length)
theorem fsum_step {l : List Nat} {i : Int} {s r : Nat} (h0 : 0 ≤ i) (h1 : i < l.length) (q : cn s = fsum (l.take i.toNat)) (hr : cn r = floatBits .add .f64 s (l.getD i.toNat 0)) : cn r = fsum (l.take (i + 1).toNat) := by
  have hlt : i.toNat < l.length := by omega
  rw [hr, fop_is, q, show (i + 1).toNat = i.toNat + 1 by omega, List.take_add_one, List.getElem?_eq_getElem hlt]
  unfold fsum
  rw [Option.toList_some, List.foldl_append]
  simp [List.getD, hlt]
/-! ### The greatest one, place by place -/
def Top (l : List Nat) (i n : Int) : Prop := tk (l.getD i.toNat 0) ≠ 18437736874454810626 ∧ ∀ k : Int, 0 ≤ k → k < n → tk (l.getD k.toNat 0) ≠ 18437736874454810626 → tk (l.getD k.toNat 0) ≤ tk (l.getD i.toNat 0)
theorem top_0 {l : List Nat} {i : Int} : Top l i 0 ↔ tk (l.getD i.toNat 0) ≠ 18437736874454810626 := ⟨fun h => h.1, fun h => ⟨h, fun k h0 h1 => by omega⟩⟩
theorem top_step {l : List Nat} {i n : Int} (h0 : 0 ≤ n) : Top l i (n + 1) ↔ Top l i n ∧ (tk (l.getD n.toNat 0) ≠ 18437736874454810626 → tk (l.getD n.toNat 0) ≤ tk (l.getD i.toNat 0)) := by
  constructor
  · exact fun h => ⟨⟨h.1, fun k k0 k1 => h.2 k k0 (by omega)⟩, h.2 n h0 (by omega)⟩
  · rintro ⟨h, h2⟩
    refine ⟨h.1, fun k k0 k1 k2 => ?_⟩
    by_cases e : k = n
    · subst e; exact h2 k2
    · exact h.2 k k0 (by omega) k2
theorem top_yes {l : List Nat} {i : Int} (h0 : 0 ≤ i) (h1 : i < l.length) (h : Top l i l.length) (hb : ∀ t : Int, 0 ≤ t → t < i → ¬ Top l t l.length) : IsBst l i := by
  refine .inr ⟨h0, h1, h.1, fun k k0 k1 k2 => ⟨h.2 k k0 k1 k2, fun hk => ?_⟩⟩
  have h3 := h.2 k k0 k1 k2
  rcases Int.lt_or_eq_of_le h3 with h4 | h4
  · exact h4
  · exact absurd ⟨k2, fun m m0 m1 m2 => by have := h.2 m m0 m1 m2; omega⟩ (hb k k0 hk)
theorem bst_ex (l : List Nat) : ∀ n : Nat, ∃ b, IsBstN l b n := by
  intro n
  induction n with
  | zero => exact ⟨-1, bstN_0 l⟩
  | succ n ih =>
    obtain ⟨b, h⟩ := ih
    by_cases hn : tk (l.getD ((n : Int)).toNat 0) = 18437736874454810626
    · exact ⟨b, bstN_keep h (.inl hn)⟩
    · by_cases hb : b < 0 ∨ tk (l.getD ((n : Int)).toNat 0) > tk (l.getD b.toNat 0)
      · exact ⟨n, bstN_take h (by omega) hn hb⟩
      · exact ⟨b, bstN_keep h (.inr (by omega))⟩
theorem top_no {l : List Nat} (hb : ∀ t : Int, 0 ≤ t → t < l.length → ¬ Top l t l.length) : IsBst l (-1) := by
  obtain ⟨b, h⟩ := bst_ex l l.length
  rcases h with ⟨rfl, h⟩ | ⟨b0, b1, b2, b3⟩
  · exact .inl ⟨rfl, h⟩
  · exact absurd ⟨b2, fun k k0 k1 k2 => (b3 k k0 k1 k2).1⟩ (hb b b0 b1)
/-! ### Halves, one by one, of whatever word -/
def HN : Nat → Option Nat → Option Nat
  | 0, s => s
  | n + 1, s => fop .quo (HN n s) 4611686018427387904
theorem HN_step {i : Int} {s : Option Nat} {x r : Nat} (h0 : 0 ≤ i) (q : cn x = HN i.toNat s) (hr : cn r = floatBits .quo .f64 x 4611686018427387904) : cn r = HN (i + 1).toNat s := by
  rw [hr, fop_is, q, show (i + 1).toNat = i.toNat + 1 by omega]
  rfl
end Go.Flt
