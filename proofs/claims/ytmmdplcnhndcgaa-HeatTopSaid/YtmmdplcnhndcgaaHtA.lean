/- Heat: plain. -/
import Derived.Test.YtmmdplcnhndcgaaFlW
import Derived.Test.YtmmdplcnhndcgaaDcA
import Derived.Test.YtmmdplcnhndcgaaGvG
import Derived.Test.YtmmdplcnhndcgaaGvF
import Derived.Test.YtmmdplcnhndcgaaNuA
import Derived.Test.YtmmdplcnhndcgaaCmA
import Derived.Test.YtmmdplcnhndcgaaGvS
namespace Go.Ht
open Go Go.Gv Go.Flt Go.Dec
/-- Of each place of a row something is known. -/
structure Ea (P : Int → Nat → Prop) (ys : List Nat) (n : Int) : Prop where
  len : (ys.length : Int) = n
  at_ : ∀ t : Int, 0 ≤ t → t < n → P t (ys.getD t.toNat 0)
theorem Ea.z (P : Int → Nat → Prop) : Ea P [] 0 := ⟨rfl, fun t h0 h1 => by omega⟩
theorem Ea.snoc {P : Int → Nat → Prop} {ys : List Nat} {n : Int} {x : Nat} (h : Ea P ys n) (h0 : 0 ≤ n) (hx : P n x) : Ea P (ys ++ [x]) (n + 1) := by
  have hl := h.len
  refine ⟨by simp; omega, fun t t0 t1 => ?_⟩
  by_cases hc : t < n
  · have e : (ys ++ [x]).getD t.toNat 0 = ys.getD t.toNat 0 := by
      rw [List.getD_eq_getElem?_getD, List.getElem?_append_left (by omega), List.getD_eq_getElem?_getD]
    rw [e]; exact h.at_ t t0 hc
  · have ht : t = n := by omega
    subst ht
    have e : (ys ++ [x]).getD t.toNat 0 = x := by
      rw [List.getD_eq_getElem?_getD, List.getElem?_append_right (by omega), show t.toNat - ys.length = 0 by omega]; rfl
    rw [e]; exact hx
theorem Ea.fin {P : Int → Nat → Prop} {ys : List Nat} {n m : Int} (h : Ea P ys n) (hn : n = m) : Ea P ys m := hn ▸ h
theorem Ea.tk {P Q : Int → Nat → Prop} {ys zs : List Nat} {n : Int} (h : Ea P ys n) (h' : Ea Q zs n) (hpq : ∀ t y z, 0 ≤ t → t < n → P t y → Q t z → tk y = tk z) : ys.map tk = zs.map tk :=
  ext_tk (by have := h.len; have := h'.len; omega) fun t t0 t1 => hpq t _ _ t0 (by have := h.len; omega) (h.at_ t t0 (by have := h.len; omega)) (h'.at_ t t0 (by have := h.len; omega))
abbrev OKF (x : Nat) : Prop := -9218868437227405312 ≤ sk x ∧ sk x ≤ 9218868437227405312
theorem Ea.w6 {P : Int → Nat → Prop} {ys : List Nat} {n : Int} (h : Ea P ys n) (hp : ∀ t y, 0 ≤ t → t < n → P t y → y < 18446744073709551616) : ∀ x ∈ ys, x < 18446744073709551616 := fun x hx => by
  obtain ⟨i, hi, e⟩ := List.mem_iff_getElem.1 hx
  have hl := h.len
  have := hp (i : Int) _ (by omega) (by omega) (h.at_ (i : Int) (by omega) (by omega))
  rw [Int.toNat_natCast, List.getD_eq_getElem?_getD, List.getElem?_eq_getElem hi, Option.getD_some, e] at this
  exact this
/-! ### ages -/
theorem hv_le {x : Nat} (hx : x < 18446744073709551616) (h0 : 0 ≤ sk x) (h1 : sk x ≤ 9218868437227405312) : 0 ≤ sk (hv x) ∧ sk (hv x) ≤ sk x := by
  have ho : ok x := ⟨by omega, h1⟩
  have hm := ok_iff.1 ho
  have hc := sk_cases x
  by_cases hf : x % 9223372036854775808 < 9218868437227405312
  · obtain ⟨_, _, _, d⟩ := hv_ok hx ho
    obtain ⟨R, e, _, le⟩ := hv_fin hf
    rw [e] at d
    have d' := Option.some.inj d
    have hw := sk_word (s := x / 9223372036854775808 % 2 == 1) (R := R) (by omega)
    rw [d'] at hw
    rcases hc with ⟨c1, c2⟩ | ⟨c1, c2⟩
    · have hR : R = 0 := by omega
      subst hR
      rw [hw]; split <;> omega
    · rw [if_neg (by simp [c1])] at hw
      omega
  · have : hv x = x := hv_stop hx ho (.inr (by omega))
    rw [this]; omega
theorem hlv_le : ∀ (n : Nat) {x : Nat}, x < 18446744073709551616 → 0 ≤ sk x → sk x ≤ 9218868437227405312 → 0 ≤ sk (hlv n x) ∧ sk (hlv n x) ≤ sk x
  | 0, x, _, h0, _ => ⟨h0, Int.le_refl _⟩
  | n + 1, x, hx, h0, h1 => by
    have ho : ok x := ⟨by omega, h1⟩
    rw [show n + 1 = 1 + n by omega, hlv_add, hlv_one hx ho]
    have h2 := hv_le hx h0 h1
    have h3 := hlv_le n (hv_ok hx ho).2.1 h2.1 (by omega)
    omega
theorem hlv_mono {a b : Nat} (h : a ≤ b) {x : Nat} (hx : x < 18446744073709551616) (h0 : 0 ≤ sk x) (h1 : sk x ≤ 9218868437227405312) : 0 ≤ sk (hlv b x) ∧ sk (hlv b x) ≤ sk (hlv a x) := by
  obtain ⟨c, rfl⟩ : ∃ c, b = a + c := ⟨b - a, by omega⟩
  rw [hlv_add]
  have h2 := hlv_le a hx h0 h1
  exact hlv_le c (hlv_ok a hx ⟨by omega, h1⟩).2.1 h2.1 (by omega)
theorem sk_one : sk 4607182418800017408 = 4607182418800017408 := by decide +kernel
def OfP (ages : List Int) (half t : Int) (y : Nat) : Prop := y < 18446744073709551616 ∧ ((gI ages t < 0 ∧ cn y = none) ∨ (0 ≤ gI ages t ∧ y = hlv (gI ages t / half).toNat 4607182418800017408))
def OfD (ages : List Int) (half t : Int) (y : Nat) : Prop := y < 18446744073709551616 ∧ ((gI ages t < 0 ∧ cn y = none) ∨ (0 ≤ gI ages t ∧ cn y = HN (max 0 (min (gI ages t / half) 3000)).toNat (cn 4607182418800017408)))
theorem of_same {ages : List Int} {half t : Int} {y z : Nat} (h : OfP ages half t y) (h' : OfD ages half t z) : tk y = tk z := by
  rcases h.2 with ⟨h1, h2⟩ | ⟨h1, h2⟩
  · rcases h'.2 with ⟨_, h4⟩ | ⟨h3, _⟩
    · exact tk_cn (h2.trans h4.symm)
    · omega
  · rcases h'.2 with ⟨h3, _⟩ | ⟨_, h4⟩
    · omega
    · exact halves_same (by decide) h2 h4
theorem of_bd {ages : List Int} {half t : Int} {y : Nat} (h : OfP ages half t y) (h0 : 0 ≤ gI ages t) : 0 ≤ sk y ∧ sk y ≤ 4607182418800017408 := by
  rcases h.2 with ⟨h1, _⟩ | ⟨_, h2⟩
  · omega
  · have h3 := hlv_le (gI ages t / half).toNat (x := 4607182418800017408) (by decide) (by rw [sk_one]; decide) (by rw [sk_one]; decide)
    rw [sk_one] at h3
    rw [h2]; exact h3
theorem of_mono {ages : List Int} {half t u : Int} {y z : Nat} (hh : 0 < half) (h : OfP ages half t y) (h' : OfP ages half u z) (h0 : 0 ≤ gI ages t) (h1 : gI ages t ≤ gI ages u) : sk z ≤ sk y := by
  rcases h.2 with ⟨h2, _⟩ | ⟨_, h2⟩
  · omega
  · rcases h'.2 with ⟨h3, _⟩ | ⟨_, h3⟩
    · omega
    · have hd : gI ages t / half ≤ gI ages u / half := Int.ediv_le_ediv hh h1
      have h4 := hlv_mono (a := (gI ages t / half).toNat) (b := (gI ages u / half).toNat) (by omega) (x := 4607182418800017408) (by decide) (by rw [sk_one]; decide) (by rw [sk_one]; decide)
      rw [h2, h3]; exact h4.2
theorem div_bd {n half : Int} (h0 : 0 ≤ n) (h : 0 < half) : 0 ≤ n / half ∧ n / half ≤ n := ⟨Int.ediv_nonneg h0 (by omega), Int.ediv_le_self half h0⟩
/-! ### places around -/
def AR (l : List Nat) (reach i : Int) : Nat → Option Nat
  | 0 => some 0
  | k + 1 => if ((k : Int) - i ≤ reach ∧ i - k ≤ reach) ∧ OKF (l.getD k 0) then fop .add (AR l reach i k) (hlv (max (i - k) (k - i)).toNat (l.getD k 0)) else AR l reach i k
theorem ar_no {l : List Nat} {reach i k : Int} (h0 : 0 ≤ k) (h : ¬ ((k - i ≤ reach ∧ i - k ≤ reach) ∧ OKF (l.getD k.toNat 0))) : AR l reach i (k + 1).toNat = AR l reach i k.toNat := by
  obtain ⟨n, rfl⟩ : ∃ n : Nat, k = (n : Int) := ⟨k.toNat, by omega⟩
  rw [show ((n : Int) + 1).toNat = n + 1 by omega, Int.toNat_natCast] at *
  rw [AR, if_neg h]
theorem ar_yes {l : List Nat} {reach i k : Int} {s r v : Nat} (h0 : 0 ≤ k) (h : (k - i ≤ reach ∧ i - k ≤ reach) ∧ OKF (l.getD k.toNat 0)) (hs : cn s = AR l reach i k.toNat) (hv : v = hlv (max (i - k) (k - i)).toNat (l.getD k.toNat 0)) (hr : cn r = floatBits .add .f64 s v) : cn r = AR l reach i (k + 1).toNat := by
  obtain ⟨n, rfl⟩ : ∃ n : Nat, k = (n : Int) := ⟨k.toNat, by omega⟩
  rw [show ((n : Int) + 1).toNat = n + 1 by omega, Int.toNat_natCast] at *
  rw [AR, if_pos h, ← hs, ← hv, ← fop_is, hr]
theorem ar_z {l : List Nat} {reach i : Int} : ∀ (k : Nat), (k : Int) ≤ max 0 (i - reach) → AR l reach i k = some 0
  | 0, _ => rfl
  | k + 1, h => by
    rw [AR, if_neg (by omega)]
    exact ar_z k (by omega)
theorem ar_start {l : List Nat} {reach i k : Int} (h : k = max 0 (i - reach)) : cn 0 = AR l reach i k.toNat := by
  rw [ar_z _ (by omega)]; decide +kernel
theorem ar_rest {l : List Nat} {reach i : Int} (m : Nat) (h : i + reach < m) : ∀ n : Nat, AR l reach i (m + n) = AR l reach i m
  | 0 => rfl
  | n + 1 => by
    rw [show m + (n + 1) = (m + n) + 1 by omega, AR, if_neg (by omega)]
    exact ar_rest m h n
theorem ar_end {l : List Nat} {reach i k : Int} (h0 : 0 ≤ k) (h1 : k ≤ l.length) (h : ¬ (k < l.length ∧ k ≤ i + reach)) : AR l reach i k.toNat = AR l reach i l.length := by
  by_cases hc : k < l.length
  · have := ar_rest (l := l) (reach := reach) (i := i) k.toNat (by omega) (l.length - k.toNat)
    rw [← this]; congr 1; omega
  · congr 1; omega
def ArP (l : List Nat) (reach t : Int) (y : Nat) : Prop := y < 18446744073709551616 ∧ cn y = AR l reach t l.length
theorem ar_same {l : List Nat} {reach t : Int} {y z : Nat} (h : ArP l reach t y) (h' : ArP l reach t z) : tk y = tk z := tk_cn (h.2.trans h'.2.symm)
theorem halve_doc {x v : Nat} {n : Int} (hx : x < 18446744073709551616) (h : OKF x) (h0 : 0 ≤ n) (h1 : n ≤ 3000) (hv : cn v = HN (max 0 (min n 3000)).toNat (cn x)) : v = hlv n.toNat x := by
  rw [cn_ok h, HN_hlv hx h, show (max 0 (min n 3000)).toNat = n.toNat by omega] at hv
  exact (cn_some hv).2
theorem ar_self {l : List Nat} {i : Int} {y : Nat} (hw : l.getD i.toNat 0 < 18446744073709551616) (h0 : 0 ≤ i) (h1 : i < l.length) (h : ArP l 0 i y) : ((¬ OKF (l.getD i.toNat 0) ∨ sk (l.getD i.toNat 0) = 0) ∧ tk y = 0) ∨ ((OKF (l.getD i.toNat 0) ∧ sk (l.getD i.toNat 0) ≠ 0) ∧ tk y = tk (l.getD i.toNat 0)) := by
  have e1 := ar_end (l := l) (reach := 0) (i := i) (k := i + 1) (by omega) (by omega) (by omega)
  have e0 : AR l 0 i i.toNat = some 0 := ar_z _ (by omega)
  have hy := h.2
  by_cases hk : OKF (l.getD i.toNat 0)
  · have e2 : AR l 0 i (i + 1).toNat = fop .add (some 0) (l.getD i.toNat 0) := by
      obtain ⟨n, rfl⟩ : ∃ n : Nat, i = (n : Int) := ⟨i.toNat, by omega⟩
      rw [show ((n : Int) + 1).toNat = n + 1 by omega, Int.toNat_natCast] at *
      rw [AR, if_pos ⟨by omega, hk⟩, e0, show max ((n : Int) - n) (n - n) = 0 by omega]; rfl
    rw [← e1, e2] at hy
    have hy' : cn y = floatBits .add .f64 0 (l.getD i.toNat 0) := hy
    generalize l.getD i.toNat 0 = x at hw hk hy' ⊢
    have hc := sk_cases x
    by_cases hz : sk x = 0
    · have hx : x = 0 ∨ x = 9223372036854775808 := sk_zero hw hz
      left
      refine ⟨.inr hz, ?_⟩
      rcases hx with rfl | rfl
      · have : y = 0 := (cn_some (hy'.trans (by decide +kernel : floatBits .add .f64 0 0 = some 0))).2
        rw [this]; decide +kernel
      · have : y = 0 := (cn_some (hy'.trans (by decide +kernel : floatBits .add .f64 0 9223372036854775808 = some 0))).2
        rw [this]; decide +kernel
    · right
      refine ⟨⟨hk, hz⟩, ?_⟩
      by_cases hf : x % 9223372036854775808 < 9218868437227405312
      · have : y = x := (cn_some (hy'.trans (add0 hw hf (by omega)))).2
        rw [this]
      · have hx : x = 9218868437227405312 ∨ x = 18442240474082181120 := by have := ok_iff.1 (show ok x from hk); omega
        rcases hx with rfl | rfl
        · have : y = 9218868437227405312 := (cn_some (hy'.trans (by decide +kernel : floatBits .add .f64 0 9218868437227405312 = some 9218868437227405312))).2
          rw [this]
        · have : y = 18442240474082181120 := (cn_some (hy'.trans (by decide +kernel : floatBits .add .f64 0 18442240474082181120 = some 18442240474082181120))).2
          rw [this]
  · left
    refine ⟨.inl hk, ?_⟩
    have e2 := ar_no (l := l) (reach := 0) (i := i) (k := i) h0 (fun h => hk h.2)
    rw [← e1, e2, e0] at hy
    rw [(cn_some hy).2]; decide +kernel
/-! ### shares -/
def SU (l : List Nat) : Nat → Option Nat
  | 0 => some 0
  | k + 1 => if OKF (l.getD k 0) then fop .add (SU l k) (l.getD k 0) else SU l k
theorem su_0 (l : List Nat) : cn 0 = SU l (0 : Int).toNat := (by decide +kernel : cn 0 = some 0)
theorem su_no {l : List Nat} {k : Int} (h0 : 0 ≤ k) (h : ¬ OKF (l.getD k.toNat 0)) : SU l (k + 1).toNat = SU l k.toNat := by
  obtain ⟨n, rfl⟩ : ∃ n : Nat, k = (n : Int) := ⟨k.toNat, by omega⟩
  rw [show ((n : Int) + 1).toNat = n + 1 by omega, Int.toNat_natCast] at *
  rw [SU, if_neg h]
theorem su_yes {l : List Nat} {k : Int} {s r : Nat} (h0 : 0 ≤ k) (h : OKF (l.getD k.toNat 0)) (hs : cn s = SU l k.toNat) (hr : cn r = floatBits .add .f64 s (l.getD k.toNat 0)) : cn r = SU l (k + 1).toNat := by
  obtain ⟨n, rfl⟩ : ∃ n : Nat, k = (n : Int) := ⟨k.toNat, by omega⟩
  rw [show ((n : Int) + 1).toNat = n + 1 by omega, Int.toNat_natCast] at *
  rw [SU, if_pos h, ← hs, ← fop_is, hr]
def SHV (l : List Nat) (t : Int) : Option Nat := match SU l l.length with
  | none => none
  | some s => if sk s = 0 then none else floatBits .quo .f64 (l.getD t.toNat 0) s
theorem nan_op2 {a b : Nat} (h : ¬ ok b) : floatBits .quo .f64 a b = none := by
  obtain ⟨s, m, e⟩ := read_nan h
  show ((Ieee.double.read a).quotient _ (Ieee.double.read b)).map Ieee.double.write = none
  rw [e]
  cases Ieee.double.read a <;> rfl
theorem shv_q {l : List Nat} {t : Int} {s r : Nat} (hs : cn s = SU l l.length) (h : ¬ (OKF s ∧ sk s = 0)) (hr : cn r = floatBits .quo .f64 (l.getD t.toNat 0) s) : cn r = SHV l t := by
  unfold SHV
  cases hq : SU l l.length with
  | none =>
    rw [hq] at hs
    rw [hr, nan_op2 (cn_none hs)]
  | some z =>
    rw [hq] at hs
    obtain ⟨h1, h2⟩ := cn_some hs
    subst h2
    simp only
    rw [if_neg (fun h3 => h ⟨h1, h3⟩), hr]
theorem shv_n {l : List Nat} {t : Int} {s r : Nat} (hs : cn s = SU l l.length) (h : OKF s ∧ sk s = 0) (hr : cn r = none) : cn r = SHV l t := by
  unfold SHV
  cases hq : SU l l.length with
  | none => exact hr
  | some z =>
    rw [hq] at hs
    obtain ⟨h1, h2⟩ := cn_some hs
    subst h2
    simp only
    rw [if_pos h.2, hr]
def ShP (l : List Nat) (t : Int) (y : Nat) : Prop := y < 18446744073709551616 ∧ cn y = SHV l t
theorem sh_same {l : List Nat} {t : Int} {y z : Nat} (h : ShP l t y) (h' : ShP l t z) : tk y = tk z := tk_cn (h.2.trans h'.2.symm)
/-! ### lines -/
def LIN (i : Int) (x : Nat) : ByteArray := ((DEC (i + 1) ++ ⟨#[32]⟩) ++ (if -9218868437227405312 ≤ sk x ∧ sk x ≤ 9218868437227405312 then DEC (MIL x) else ⟨#[45]⟩)) ++ ⟨#[10]⟩
def PRH (l : List Nat) : Nat → ByteArray
  | 0 => ⟨#[]⟩
  | k + 1 => PRH l k ++ LIN k (l.getD k 0)
theorem LIN_size (i : Int) (x : Nat) : (LIN i x).size ≤ 30 := by
  have h1 := DEC_size (i + 1)
  have h2 := DEC_size (MIL x)
  unfold LIN
  split <;> simp only [ByteArray.size_append, lit1] <;> omega
theorem PRH_snoc (l : List Nat) {i : Int} (h0 : 0 ≤ i) : PRH l (i + 1).toNat = PRH l i.toNat ++ LIN i (l.getD i.toNat 0) := by
  obtain ⟨n, rfl⟩ : ∃ n : Nat, i = (n : Int) := ⟨i.toNat, by omega⟩
  rw [show ((n : Int) + 1).toNat = n + 1 by omega, Int.toNat_natCast]; rfl
theorem PRH_size (l : List Nat) {i : Int} (h0 : 0 ≤ i) : ((PRH l i.toNat).size : Int) ≤ 30 * i := by
  obtain ⟨n, rfl⟩ : ∃ n : Nat, i = (n : Int) := ⟨i.toNat, by omega⟩
  rw [Int.toNat_natCast]
  induction n with
  | zero => exact Int.le_refl 0
  | succ n ih =>
    have := LIN_size n (l.getD n 0)
    have := ih (by omega)
    rw [PRH, ByteArray.size_append]; omega
/-! ### the greatest -/
def kyT (l : List Nat) (t : Int) : Int := -(tk (l.getD t.toNat 0)) * 1000000 + t
def OKS (l : List Nat) : Nat → List Int
  | 0 => []
  | k + 1 => if OKF (l.getD k 0) then OKS l k ++ [(k : Int)] else OKS l k
theorem oks_no {l : List Nat} {k : Int} (h0 : 0 ≤ k) (h : ¬ OKF (l.getD k.toNat 0)) : OKS l (k + 1).toNat = OKS l k.toNat := by
  obtain ⟨n, rfl⟩ : ∃ n : Nat, k = (n : Int) := ⟨k.toNat, by omega⟩
  rw [show ((n : Int) + 1).toNat = n + 1 by omega, Int.toNat_natCast] at *
  rw [OKS, if_neg h]
theorem oks_yes {l : List Nat} {k : Int} (h0 : 0 ≤ k) (h : OKF (l.getD k.toNat 0)) : OKS l (k + 1).toNat = OKS l k.toNat ++ [k] := by
  obtain ⟨n, rfl⟩ : ∃ n : Nat, k = (n : Int) := ⟨k.toNat, by omega⟩
  rw [show ((n : Int) + 1).toNat = n + 1 by omega, Int.toNat_natCast] at *
  rw [OKS, if_pos h]
theorem oks_mem {l : List Nat} {t : Int} : ∀ k : Nat, t ∈ OKS l k ↔ 0 ≤ t ∧ t < k ∧ OKF (l.getD t.toNat 0)
  | 0 => by rw [OKS]; simp; omega
  | k + 1 => by
    have ih := oks_mem (l := l) (t := t) k
    rw [OKS]
    split
    · next h =>
      rw [List.mem_append, List.mem_singleton, ih]
      constructor
      · rintro (⟨h1, h2, h3⟩ | rfl)
        · exact ⟨h1, by omega, h3⟩
        · exact ⟨by omega, by omega, by rw [Int.toNat_natCast]; exact h⟩
      · rintro ⟨h1, h2, h3⟩
        by_cases hc : t = k
        · exact .inr hc
        · exact .inl ⟨h1, by omega, h3⟩
    · next h =>
      rw [ih]
      constructor
      · rintro ⟨h1, h2, h3⟩; exact ⟨h1, by omega, h3⟩
      · rintro ⟨h1, h2, h3⟩
        refine ⟨h1, ?_, h3⟩
        have : t ≠ k := fun hc => h (by rw [hc, Int.toNat_natCast] at h3; exact h3)
        omega
theorem oks_nodup {l : List Nat} : ∀ k : Nat, (OKS l k).Nodup
  | 0 => List.nodup_nil
  | k + 1 => by
    rw [OKS]
    split
    · refine List.nodup_append.2 ⟨oks_nodup k, by simp, fun a ha b hb => ?_⟩
      have := (oks_mem k).1 ha
      rw [List.mem_singleton] at hb
      omega
    · exact oks_nodup k
theorem oks_len {l : List Nat} : ∀ k : Nat, (OKS l k).length ≤ k
  | 0 => Nat.le_refl _
  | k + 1 => by
    have := oks_len (l := l) k
    rw [OKS]
    split
    · rw [List.length_append]; simp; omega
    · omega
/-- All places that count, the greatest first. -/
structure TO (l : List Nat) (ys : List Int) : Prop where
  pm : ys.Perm (OKS l l.length)
  so : ys.Pairwise fun a b => kyT l a ≤ kyT l b
theorem TO.mem {l : List Nat} {ys : List Int} (h : TO l ys) {t : Int} : t ∈ ys ↔ 0 ≤ t ∧ t < l.length ∧ OKF (l.getD t.toNat 0) := h.pm.mem_iff.trans (oks_mem _)
theorem TO.nodup {l : List Nat} {ys : List Int} (h : TO l ys) : ys.Nodup := h.pm.nodup_iff.2 (oks_nodup _)
theorem tk_bd (w : Nat) : -18437736874454810625 ≤ tk w ∧ tk w ≤ 18437736874454810626 := by have := tk_is w; omega
theorem kyT_inj {l : List Nat} (hl : l.length ≤ 1000) {a b : Int} (a0 : 0 ≤ a) (a1 : a < l.length) (b0 : 0 ≤ b) (b1 : b < l.length) (h : kyT l a = kyT l b) : a = b := by
  unfold kyT at h
  omega
theorem kyT_le {l : List Nat} (hl : l.length ≤ 1000) {a b : Int} (a0 : 0 ≤ a) (a1 : a < l.length) (b0 : 0 ≤ b) (b1 : b < l.length) : kyT l a ≤ kyT l b ↔ (tk (l.getD b.toNat 0) < tk (l.getD a.toNat 0) ∨ (tk (l.getD b.toNat 0) = tk (l.getD a.toNat 0) ∧ a ≤ b)) := by
  unfold kyT
  omega
theorem TO.uniq {l : List Nat} (hl : l.length ≤ 1000) {ys zs : List Int} (h : TO l ys) (h' : TO l zs) : ys = zs := by
  have e : ys.map (kyT l) = zs.map (kyT l) := isort_eq ((h.pm.trans h'.pm.symm).map _) (List.pairwise_map.2 h.so) (List.pairwise_map.2 h'.so)
  have hlen : ys.length = zs.length := (h.pm.trans h'.pm.symm).length_eq
  apply List.ext_getElem hlen
  intro i h1 h2
  have e1 : (ys.map (kyT l))[i]'(by simpa using h1) = (zs.map (kyT l))[i]'(by simpa using h2) := by simp only [e]
  rw [List.getElem_map, List.getElem_map] at e1
  have m1 := h.mem.1 (List.getElem_mem h1)
  have m2 := h'.mem.1 (List.getElem_mem h2)
  exact kyT_inj hl m1.1 m1.2.1 m2.1 m2.2.1 e1
theorem TO.at_ {l : List Nat} {ys : List Int} (h : TO l ys) {i : Int} (h0 : 0 ≤ i) (h1 : i < ys.length) : 0 ≤ gI ys i ∧ gI ys i < l.length ∧ OKF (l.getD (gI ys i).toNat 0) := h.mem.1 (getD_mem (by omega))
theorem TO.ord {l : List Nat} {ys : List Int} (h : TO l ys) {i j : Int} (h0 : 0 ≤ i) (h1 : i < j) (h2 : j < ys.length) : kyT l (gI ys i) ≤ kyT l (gI ys j) := by
  have := (List.pairwise_iff_getElem.1 h.so) i.toNat j.toNat (by omega) (by omega) (by omega)
  unfold gI
  rw [List.getD_eq_getElem?_getD, List.getD_eq_getElem?_getD, List.getElem?_eq_getElem (by omega), List.getElem?_eq_getElem (by omega)]; exact this
theorem nodup_gI {ys : List Int} (h : ys.Nodup) {i j : Int} (h0 : 0 ≤ i) (h1 : i < ys.length) (j0 : 0 ≤ j) (j1 : j < ys.length) (e : gI ys i = gI ys j) : i = j := by
  unfold gI at e
  rw [List.getD_eq_getElem?_getD, List.getD_eq_getElem?_getD, List.getElem?_eq_getElem (by omega), List.getElem?_eq_getElem (by omega)] at e
  have := (List.getElem_inj (h₀ := by omega) (h₁ := by omega) h).1 e
  omega
theorem mem_gI {ys : List Int} {x : Int} (h : x ∈ ys) : ∃ j : Int, 0 ≤ j ∧ j < ys.length ∧ gI ys j = x := by
  obtain ⟨i, hi, e⟩ := List.mem_iff_getElem.1 h
  exact ⟨(i : Int), by omega, by omega, by unfold gI; rw [Int.toNat_natCast, List.getD_eq_getElem?_getD, List.getElem?_eq_getElem hi, Option.getD_some, e]⟩
theorem gI_take {ys : List Int} {m : Nat} {j : Int} (h0 : 0 ≤ j) (h : j < m) : gI (ys.take m) j = gI ys j := by
  unfold gI
  rw [List.getD_eq_getElem?_getD, List.getElem?_take, if_pos (by omega), ← List.getD_eq_getElem?_getD]
theorem mem_take_gI {ys : List Int} {x : Int} {m : Nat} : x ∈ ys.take m ↔ ∃ j : Int, 0 ≤ j ∧ j < m ∧ j < ys.length ∧ gI ys j = x := by
  constructor
  · intro h
    obtain ⟨j, j0, j1, e⟩ := mem_gI h
    rw [List.length_take] at j1
    exact ⟨j, j0, by omega, by omega, by rw [← e, gI_take j0 (by omega)]⟩
  · rintro ⟨j, j0, j1, j2, rfl⟩
    rw [← gI_take j0 j1]
    exact getD_mem (by rw [List.length_take]; omega)
/-- What is taken. -/
structure TK (l : List Nat) (out : List Int) (taken : List Bool) : Prop where
  len : taken.length = l.length
  at_ : ∀ t : Int, 0 ≤ t → t < l.length → (taken.getD t.toNat false = true ↔ t ∈ out)
theorem TK.z (l : List Nat) {n : Nat} (hn : n = l.length) : TK l [] (List.replicate n false) := ⟨by rw [List.length_replicate, hn], fun t t0 t1 => by
  rw [List.getD_eq_getElem?_getD, List.getElem?_replicate, if_pos (by omega)]; simp⟩
theorem TK.put {l : List Nat} {out : List Int} {taken : List Bool} {b : Int} (h : TK l out taken) (b0 : 0 ≤ b) (b1 : b < l.length) : TK l (out ++ [b]) (taken.set b.toNat true) := by
  have hl := h.len
  refine ⟨by rw [List.length_set]; exact h.len, fun t t0 t1 => ?_⟩
  rw [List.mem_append, List.mem_singleton, List.getD_eq_getElem?_getD, List.getElem?_set]
  by_cases hc : t = b
  · subst hc
    rw [if_pos rfl, if_pos (by omega)]; simp
  · rw [if_neg (by omega), ← List.getD_eq_getElem?_getD, h.at_ t t0 t1]
    simp [hc]
def Cand (l : List Nat) (out : List Int) (t : Int) : Prop := t ∉ out ∧ OKF (l.getD t.toNat 0)
/-- The best one so far. -/
def BS (l : List Nat) (out : List Int) (b n : Int) : Prop := (b = -1 ∧ ∀ t : Int, 0 ≤ t → t < n → ¬ Cand l out t) ∨ (0 ≤ b ∧ b < n ∧ Cand l out b ∧ ∀ t : Int, 0 ≤ t → t < n → Cand l out t → kyT l b ≤ kyT l t)
theorem BS.z (l : List Nat) (out : List Int) : BS l out (-1) 0 := .inl ⟨rfl, fun t t0 t1 => by omega⟩
theorem BS.skip {l : List Nat} {out : List Int} {b n : Int} (h : BS l out b n) (hc : ¬ Cand l out n) : BS l out b (n + 1) := by
  rcases h with ⟨h1, h2⟩ | ⟨h1, h2, h3, h4⟩
  · exact .inl ⟨h1, all_step h2 hc⟩
  · refine .inr ⟨h1, by omega, h3, fun t t0 t1 ht => ?_⟩
    by_cases hn : t = n
    · exact absurd (hn ▸ ht) hc
    · exact h4 t t0 (by omega) ht
theorem BS.take {l : List Nat} {out : List Int} {b n : Int} (hl : l.length ≤ 1000) (h : BS l out b n) (n0 : 0 ≤ n) (n1 : n < l.length) (hc : Cand l out n) (hb : b < 0 ∨ tk (l.getD n.toNat 0) > tk (l.getD b.toNat 0)) : BS l out n (n + 1) := by
  refine .inr ⟨n0, by omega, hc, fun t t0 t1 ht => ?_⟩
  by_cases hn : t = n
  · rw [hn]; exact Int.le_refl _
  · rcases h with ⟨h1, h2⟩ | ⟨h1, h2, h3, h4⟩
    · exact absurd ht (h2 t t0 (by omega))
    · have := h4 t t0 (by omega) ht
      rw [kyT_le hl h1 (by omega) t0 (by omega)] at this
      rw [kyT_le hl n0 n1 t0 (by omega)]
      omega
theorem BS.keep {l : List Nat} {out : List Int} {b n : Int} (hl : l.length ≤ 1000) (h : BS l out b n) (n1 : n < l.length) (hb : 0 ≤ b ∧ tk (l.getD n.toNat 0) ≤ tk (l.getD b.toNat 0)) : BS l out b (n + 1) := by
  rcases h with ⟨h1, h2⟩ | ⟨h1, h2, h3, h4⟩
  · omega
  · refine .inr ⟨h1, by omega, h3, fun t t0 t1 ht => ?_⟩
    by_cases hn : t = n
    · rw [hn, kyT_le hl h1 (by omega) (by omega) n1]
      omega
    · exact h4 t t0 (by omega) ht
theorem mem_out {ys out : List Int} (ho : out = ys.take out.length) (x : Int) : x ∈ out ↔ ∃ j : Int, 0 ≤ j ∧ j < out.length ∧ j < ys.length ∧ gI ys j = x := by
  conv => lhs; rw [ho]
  exact mem_take_gI
theorem top_no {l : List Nat} {ys out : List Int} {b : Int} (h : TO l ys) (ho : out = ys.take out.length) (hb : BS l out b l.length) (hn : b < 0) : out = ys := by
  rcases hb with ⟨_, h2⟩ | ⟨h1, _⟩
  · rcases Nat.lt_or_ge out.length ys.length with hc | hc
    · exfalso
      have ha := h.at_ (i := out.length) (by omega) (by omega)
      refine h2 (gI ys out.length) ha.1 ha.2.1 ⟨fun hm => ?_, ha.2.2⟩
      obtain ⟨j, j0, j1, j2, e⟩ := (mem_out ho _).1 hm
      have := nodup_gI h.nodup j0 j2 (by omega) (by omega) e
      omega
    · rw [ho]; exact List.take_of_length_le hc
  · omega
theorem top_put {l : List Nat} {ys out : List Int} {b : Int} (hl : l.length ≤ 1000) (h : TO l ys) (ho : out = ys.take out.length) (hb : BS l out b l.length) (hn : ¬ b < 0) : out ++ [b] = ys.take (out ++ [b]).length := by
  rcases hb with ⟨h1, _⟩ | ⟨h1, h2, h3, h4⟩
  · omega
  · have hm : b ∈ ys := h.mem.2 ⟨h1, h2, h3.2⟩
    obtain ⟨j, j0, j1, e⟩ := mem_gI hm
    have hj : (out.length : Int) ≤ j := by
      rcases Int.lt_or_le j out.length with hc | hc
      · exact absurd ((mem_out ho _).2 ⟨j, j0, hc, j1, e⟩) h3.1
      · exact hc
    have ha := h.at_ (i := out.length) (by omega) (by omega)
    have hcand : Cand l out (gI ys out.length) := ⟨fun hm => by
      obtain ⟨i, i0, i1, i2, e2⟩ := (mem_out ho _).1 hm
      have := nodup_gI h.nodup i0 i2 (by omega) (by omega) e2
      omega, ha.2.2⟩
    have k1 := h4 _ ha.1 ha.2.1 hcand
    have k2 : kyT l (gI ys out.length) ≤ kyT l b := by
      rcases Int.lt_or_le out.length j with hc | hc
      · have := h.ord (by omega) hc j1
        rw [e] at this; exact this
      · rw [show (out.length : Int) = j by omega, e]; exact Int.le_refl _
    have eb : gI ys out.length = b := kyT_inj hl ha.1 ha.2.1 h1 h2 (by omega)
    have hlt : out.length < ys.length := by omega
    rw [List.length_append, show [b].length = 1 from rfl, List.take_add_one, ← ho, List.getElem?_eq_getElem hlt]
    unfold gI at eb
    rw [Int.toNat_natCast, List.getD_eq_getElem?_getD, List.getElem?_eq_getElem hlt, Option.getD_some] at eb
    rw [eb]; rfl
/-- What is told of the greatest ones. -/
def TopOf (l : List Nat) (n : Int) (out : List Int) : Prop := ∃ ys, TO l ys ∧ out = ys.take (max 0 n).toNat
theorem top_same {l : List Nat} {n : Int} {a b : List Int} (hl : l.length ≤ 1000) (h : TopOf l n a) (h' : TopOf l n b) : a = b := by
  obtain ⟨ys, h1, rfl⟩ := h
  obtain ⟨zs, h2, rfl⟩ := h'
  rw [h1.uniq hl h2]
theorem take_end {ys out : List Int} {n : Int} (ho : out = ys.take out.length) (h1 : (out.length : Int) ≤ max 0 n) (h2 : ¬ (out.length : Int) < n) : out = ys.take (max 0 n).toNat := by
  rw [show (max 0 n).toNat = out.length by omega]; exact ho
theorem take_all {ys out : List Int} {n : Int} (ho : out = ys) (h1 : (out.length : Int) < n) : out = ys.take (max 0 n).toNat := by
  rw [List.take_of_length_le (by rw [← ho]; omega), ho]
/-! what one sees of the greatest ones -/
theorem TopOf.len {l : List Nat} {n : Int} {out : List Int} (h : TopOf l n out) : (out.length : Int) ≤ max 0 n := by
  obtain ⟨ys, _, rfl⟩ := h
  rw [List.length_take]; omega
theorem TopOf.at_ {l : List Nat} {n i : Int} {out : List Int} (h : TopOf l n out) (h0 : 0 ≤ i) (h1 : i < out.length) : 0 ≤ gI out i ∧ gI out i < l.length ∧ OKF (l.getD (gI out i).toNat 0) := by
  obtain ⟨ys, ht, rfl⟩ := h
  rw [List.length_take] at h1
  rw [gI_take h0 (by omega)]
  exact ht.at_ h0 (by omega)
theorem TopOf.nd {l : List Nat} {n : Int} {out : List Int} (h : TopOf l n out) : out.Nodup := by
  obtain ⟨ys, ht, rfl⟩ := h
  exact ht.nodup.sublist (List.take_sublist _ _)
theorem TopOf.falls {l : List Nat} {n i : Int} {out : List Int} (hl : l.length ≤ 1000) (h : TopOf l n out) (h0 : 0 < i) (h1 : i < out.length) : tk (l.getD (gI out i).toNat 0) ≤ tk (l.getD (gI out (i - 1)).toNat 0) := by
  have a1 := h.at_ (i := i) (by omega) h1
  have a2 := h.at_ (i := i - 1) (by omega) (by omega)
  obtain ⟨ys, ht, rfl⟩ := h
  rw [List.length_take] at h1
  rw [gI_take (by omega) (by omega)] at a1 a2 ⊢
  rw [gI_take (by omega) (by omega)]
  have := ht.ord (i := i - 1) (j := i) (by omega) (by omega) (by omega)
  rw [kyT_le hl a2.1 a2.2.1 a1.1 a1.2.1] at this
  omega
theorem TopOf.rest {l : List Nat} {n t : Int} {out : List Int} (hl : l.length ≤ 1000) (h : TopOf l n out) (t0 : 0 ≤ t) (t1 : t < l.length) (hk : OKF (l.getD t.toNat 0)) (hm : t ∉ out) (hp : 0 < (out.length : Int)) : tk (l.getD t.toNat 0) ≤ tk (l.getD (gI out ((out.length : Int) - 1)).toNat 0) := by
  have a2 := h.at_ (i := (out.length : Int) - 1) (by omega) (by omega)
  obtain ⟨ys, ht, rfl⟩ := h
  rw [List.length_take] at hp
  obtain ⟨j, j0, j1, e⟩ := mem_gI (ht.mem.2 ⟨t0, t1, hk⟩)
  have hj : ((max 0 n).toNat : Int) ≤ j := by
    rcases Int.lt_or_le j (max 0 n).toNat with hc | hc
    · exact absurd (mem_take_gI.2 ⟨j, j0, hc, j1, e⟩) hm
    · exact hc
  have hq : ((ys.take (max 0 n).toNat).length : Int) = (max 0 n).toNat := by rw [List.length_take]; omega
  rw [hq] at a2 ⊢
  rw [gI_take (by omega) (by omega)] at a2 ⊢
  have := ht.ord (i := ((max 0 n).toNat : Int) - 1) (j := j) (by omega) (by omega) (by omega)
  rw [e, kyT_le hl a2.1 a2.2.1 t0 t1] at this
  omega
end Go.Ht
namespace Go.Ht
open Go Go.Gv Go.Flt Go.Dec
theorem rat000 : RAT 0 0 0 = none := if_pos (by omega)
def OfR (P : Int → Nat → Prop) (ages : List Int) (half : Int) (ys : List Nat) (e : Int) : Prop := (half < 1 ∧ ys = [] ∧ e = 2) ∨ (¬ half < 1 ∧ e = 0 ∧ Ea P ys ages.length)
def ArR (l : List Nat) (reach : Int) (ys : List Nat) (e : Int) : Prop := ((reach < 0 ∨ reach > 20) ∧ ys = [] ∧ e = 2) ∨ (¬ (reach < 0 ∨ reach > 20) ∧ e = 0 ∧ Ea (ArP l reach) ys l.length)
end Go.Ht
namespace Go.Ht
open Go Go.Gv Go.Flt Go.Dec Go.Cm
/-- Which of two places comes first. -/
def TCF (s : List Nat) (a b : Int) : Int := ORL [ORD (s.getD b.toNat 0) (s.getD a.toNat 0), CMPI a b]
theorem tcf_lt (s : List Nat) (a b : Int) : TCF s a b < 0 ↔ (tk (s.getD b.toNat 0) < tk (s.getD a.toNat 0) ∨ (tk (s.getD b.toNat 0) = tk (s.getD a.toNat 0) ∧ a < b)) := by
  have h1 := orl2 (ORD (s.getD b.toNat 0) (s.getD a.toNat 0)) (CMPI a b)
  have h2 := ord_is' (s.getD b.toNat 0) (s.getD a.toNat 0)
  have h3 := cmpi_is a b
  unfold TCF
  omega
theorem tcf_swo (s : List Nat) (p : Int → Prop) : Go.Sort.SWO (Go.Proofs.ltOf fun x y : {x : Int // p x} => (fun x y : Int => TCF s x y) x.1 y.1) := by
  have key : ∀ x y : {x : Int // p x}, Go.Proofs.ltOf (fun x y : {x : Int // p x} => (fun x y : Int => TCF s x y) x.1 y.1) x y = decide (tk (s.getD y.1.toNat 0) < tk (s.getD x.1.toNat 0) ∨ (tk (s.getD y.1.toNat 0) = tk (s.getD x.1.toNat 0) ∧ x.1 < y.1)) := fun x y => decide_eq_decide.2 (tcf_lt s x.1 y.1)
  exact ⟨fun x => by rw [key]; simp, fun x y z h1 h2 => by rw [key] at *; simp at *; omega, fun x y z h1 h2 => by rw [key] at *; simp at *; omega⟩
theorem to_of {l : List Nat} {ys out : List Int} (hl : l.length ≤ 1000) (ho : out = OKS l l.length) (hp : ys.Perm out) (hw : ys.Pairwise fun a b => ¬ TCF l b a < 0) : TO l ys := by
  subst ho
  refine ⟨hp, hw.imp_of_mem fun {a b} ha hb h => ?_⟩
  have m1 := (oks_mem _).1 (hp.mem_iff.1 ha)
  have m2 := (oks_mem _).1 (hp.mem_iff.1 hb)
  rw [tcf_lt] at h
  rw [kyT_le hl m1.1 m1.2.1 m2.1 m2.2.1]
  omega
theorem take_min {ys : List Int} {n : Int} : ys.take (max 0 (min n (ys.length : Int))).toNat = ys.take (max 0 n).toNat := by
  by_cases h : n ≤ ys.length
  · rw [show min n (ys.length : Int) = n by omega]
  · rw [List.take_of_length_le (by omega), List.take_of_length_le (by omega)]
theorem take_gt {t : List Int} {i : Int} (h0 : 0 ≤ i) (h1 : i < t.length) : t.take (i + 1).toNat = t.take i.toNat ++ [gI t i] := Num.take_more 0 h0 h1
theorem nd_take {t : List Int} (h : t.Nodup) {i : Int} (h0 : 0 ≤ i) (h1 : i < t.length) : gI t i ∉ t.take i.toNat := fun hm => by
  obtain ⟨j, j0, j1, j2, e⟩ := mem_take_gI.1 hm
  have := nodup_gI h j0 j2 h0 h1 e
  omega
/-! ### what must be whatever is asked -/
abbrev LVH : List Nat := [4607182418800017408, 4607182418800017408, 4598175219545276416]
theorem live_of {ys : List Nat} {e : Int} (h : OfR (OfP [0, 1, 5] 2) [0, 1, 5] 2 ys e) : ys = LVH ∧ e = 0 := by
  rcases h with ⟨h1, _⟩ | ⟨_, h2, h3⟩
  · omega
  · refine ⟨?_, h2⟩
    have hl := h3.len
    have hl3 : ys.length = 3 := by have e3 : (([0, 1, 5] : List Int).length : Int) = 3 := rfl; omega
    have a0 := (h3.at_ 0 (by decide) (by decide)).2
    have a1 := (h3.at_ 1 (by decide) (by decide)).2
    have a2 := (h3.at_ 2 (by decide) (by decide)).2
    have b0 : ys.getD 0 0 = 4607182418800017408 := by
      rcases a0 with ⟨x, _⟩ | ⟨_, x⟩
      · exact absurd x (by decide)
      · exact x.trans (by decide +kernel)
    have b1 : ys.getD 1 0 = 4607182418800017408 := by
      rcases a1 with ⟨x, _⟩ | ⟨_, x⟩
      · exact absurd x (by decide)
      · exact x.trans (by decide +kernel)
    have b2 : ys.getD 2 0 = 4598175219545276416 := by
      rcases a2 with ⟨x, _⟩ | ⟨_, x⟩
      · exact absurd x (by decide)
      · exact x.trans (by decide +kernel)
    match ys, hl3 with
    | [x, y, z], _ =>
      simp at b0 b1 b2
      rw [b0, b1, b2]
theorem live_to : TO LVH [0, 1, 2] := ⟨(by decide +kernel : OKS LVH LVH.length = [0, 1, 2]) ▸ List.Perm.refl _, by decide +kernel⟩
theorem live_top {out : List Int} (h : TopOf LVH 2 out) : out = [0, 1] := top_same (by decide) h ⟨_, live_to, rfl⟩
theorem live_prh : PRH LVH LVH.length = ⟨#[49, 32, 49, 48, 48, 48, 10, 50, 32, 49, 48, 48, 48, 10, 51, 32, 50, 53, 48, 10]⟩ := by
  have hs : sk 4607182418800017408 = 4607182418800017408 := by decide +kernel
  have hs2 : sk 4598175219545276416 = 4598175219545276416 := by decide +kernel
  have m1 : MIL 4607182418800017408 = 1000 := by decide +kernel
  have m2 : MIL 4598175219545276416 = 250 := by decide +kernel
  have d1 : DEC 1 = strOfNums [49] := DEC_one (by decide) (by decide)
  have d2 : DEC 2 = strOfNums [50] := DEC_one (by decide) (by decide)
  have d3 : DEC 3 = strOfNums [51] := DEC_one (by decide) (by decide)
  have k1 : DEC 1000 = strOfNums [49, 48, 48, 48] := by
    rw [DEC_two (by decide) (by decide), show (1000 : Int) / 10 = 100 by decide, DEC_two (by decide) (by decide), show (100 : Int) / 10 = 10 by decide, DEC_two (by decide) (by decide), show (10 : Int) / 10 = 1 by decide, d1, str_app, str_app, str_app]; rfl
  have k2 : DEC 250 = strOfNums [50, 53, 48] := by
    rw [DEC_two (by decide) (by decide), show (250 : Int) / 10 = 25 by decide, DEC_two (by decide) (by decide), show (25 : Int) / 10 = 2 by decide, d2, str_app, str_app]; rfl
  have l1 : ∀ i d, DEC (i + 1) = d → LIN i 4607182418800017408 = ((d ++ ⟨#[32]⟩) ++ strOfNums [49, 48, 48, 48]) ++ ⟨#[10]⟩ := fun i d e => by
    unfold LIN; rw [if_pos (by rw [hs]; decide), m1, k1, e]
  have l2 : LIN 2 4598175219545276416 = ((strOfNums [51] ++ ⟨#[32]⟩) ++ strOfNums [50, 53, 48]) ++ ⟨#[10]⟩ := by
    unfold LIN; rw [if_pos (by rw [hs2]; decide), m2, k2, show (2 : Int) + 1 = 3 by decide, d3]
  show ((⟨#[]⟩ ++ LIN 0 4607182418800017408) ++ LIN 1 4607182418800017408) ++ LIN 2 4598175219545276416 = _
  rw [l1 0 _ d1, l1 1 _ d2, l2]
  decide
end Go.Ht
namespace Go.Ht
open Go Go.Gv Go.Flt Go.Dec
theorem OfR.w6 {P : Int → Nat → Prop} {ages : List Int} {half e : Int} {ys : List Nat} (h : OfR P ages half ys e) (hp : ∀ t y, P t y → y < 18446744073709551616) : ∀ x ∈ ys, x < 18446744073709551616 := by
  rcases h with ⟨_, h1, _⟩ | ⟨_, _, h3⟩
  · subst h1; intro x hx; cases hx
  · exact h3.w6 fun t y _ _ h => hp t y h
theorem OfR.len {P : Int → Nat → Prop} {ages : List Int} {half e : Int} {ys : List Nat} (h : OfR P ages half ys e) : ys.length ≤ ages.length := by
  rcases h with ⟨_, h1, _⟩ | ⟨_, _, h3⟩
  · subst h1; exact Nat.zero_le _
  · have := h3.len; omega
theorem of_tk {ages : List Int} {half e f : Int} {ys zs : List Nat} (h : OfR (OfP ages half) ages half ys e) (h' : OfR (OfD ages half) ages half zs f) : ys.map tk = zs.map tk ∧ e = f := by
  rcases h with ⟨h1, h2, h3⟩ | ⟨h1, h2, h3⟩
  · rcases h' with ⟨_, h5, h6⟩ | ⟨h4, _⟩
    · rw [h2, h5, h3, h6]; exact ⟨rfl, rfl⟩
    · omega
  · rcases h' with ⟨h4, _⟩ | ⟨_, h5, h6⟩
    · omega
    · exact ⟨h3.tk h6 fun t y z _ _ a b => of_same a b, by omega⟩
theorem OfR.at_ {P : Int → Nat → Prop} {ages : List Int} {half e i : Int} {ys : List Nat} (h : OfR P ages half ys e) (h0 : 0 ≤ i) (h1 : i < ys.length) : ¬ half < 1 ∧ P i (ys.getD i.toNat 0) := by
  rcases h with ⟨_, h2, _⟩ | ⟨h3, _, h2⟩
  · subst h2; simp at h1; omega
  · exact ⟨h3, h2.at_ i h0 (by have := h2.len; omega)⟩
theorem OfR.bd {ages : List Int} {half e i : Int} {ys : List Nat} (h : OfR (OfP ages half) ages half ys e) (h0 : 0 ≤ i) (h1 : i < ys.length) (h2 : 0 ≤ gI ages i) : 0 ≤ sk (ys.getD i.toNat 0) ∧ sk (ys.getD i.toNat 0) ≤ 4607182418800017408 := of_bd (h.at_ h0 h1).2 h2
theorem OfR.mono {ages : List Int} {half e i k : Int} {ys : List Nat} (h : OfR (OfP ages half) ages half ys e) (h0 : 0 ≤ i) (h1 : i < ys.length) (k0 : 0 ≤ k) (k1 : k < ys.length) (h2 : 0 ≤ gI ages i) (h3 : gI ages i ≤ gI ages k) : sk (ys.getD k.toNat 0) ≤ sk (ys.getD i.toNat 0) := of_mono (by have := (h.at_ h0 h1).1; omega) (h.at_ h0 h1).2 (h.at_ k0 k1).2 h2 h3
theorem ArR.w6 {l : List Nat} {reach e : Int} {ys : List Nat} (h : ArR l reach ys e) : ∀ x ∈ ys, x < 18446744073709551616 := by
  rcases h with ⟨_, h1, _⟩ | ⟨_, _, h3⟩
  · subst h1; intro x hx; cases hx
  · exact h3.w6 fun t y _ _ h => h.1
theorem ar_tk {l : List Nat} {reach e f : Int} {ys zs : List Nat} (h : ArR l reach ys e) (h' : ArR l reach zs f) : ys.map tk = zs.map tk ∧ e = f := by
  rcases h with ⟨h1, h2, h3⟩ | ⟨h1, h2, h3⟩
  · rcases h' with ⟨_, h5, h6⟩ | ⟨h4, _⟩
    · rw [h2, h5, h3, h6]; exact ⟨rfl, rfl⟩
    · exact absurd h1 h4
  · rcases h' with ⟨h4, _⟩ | ⟨_, h5, h6⟩
    · exact absurd h4 h1
    · exact ⟨h3.tk h6 fun t y z _ _ a b => ar_same a b, by omega⟩
theorem ArR.z {l : List Nat} {e : Int} {ys : List Nat} (h : ArR l 0 ys e) : e = 0 ∧ ys.length = l.length ∧ ∀ t : Int, 0 ≤ t → t < l.length → ArP l 0 t (ys.getD t.toNat 0) := by
  rcases h with ⟨h1, _⟩ | ⟨_, h2, h3⟩
  · omega
  · exact ⟨h2, by have := h3.len; omega, h3.at_⟩
theorem tk_z : tk 0 = 0 := by decide +kernel
end Go.Ht
