/- Likenesses: what they are, their order, their lines: plain. -/
import Derived.Test.YthmjieikbeemhaaMyT0
import Derived.Test.YthmjieikbeemhaaMyL
import Derived.Test.YthmjieikbeemhaaScZ
import Derived.Test.YthmjieikbeemhaaFlU
import Derived.Test.YthmjieikbeemhaaDcA
import Derived.Test.YthmjieikbeemhaaGvS
import Derived.Shelf.SlSortCmp.Insertion
namespace Go.Gv
open Go
/-- A whole number and one with a point. -/
def eK : El (Int × Nat) := ⟨2, fun x => [.int .i64 x.1, .float .f64 x.2], fun _ => rfl, fun _ u h => by
  simp at h
  rcases h with rfl | rfl <;> rfl⟩
end Go.Gv
namespace Go.Rnk
open Go Go.Gv Go.Flt Go.Mys Go.Num Go.Scr Go.Dec Go.Shelf Go.Lib Go.Sort
/-- How many lines both have in common. -/
def CMN (a b : List Ln) : Int := if a.length > 400 ∨ b.length > 400 then 0 else ((Prs (NA a) (NB a b)).length : Int)
theorem CMN_two {a b : List Ln} (h : ¬ (a.length > 400 ∨ b.length > 400)) : 2 * CMN a b + dist (NA a) (NB a b) = a.length + b.length := by
  have ha := NA_len a
  have hb := NB_len a b
  unfold CMN
  rw [if_neg h]
  have := Prs_len (a := NA a) (b := NB a b) (by omega) (by omega)
  rw [Dst_small (by omega) (by omega)] at this
  omega
theorem CMN_bd (a b : List Ln) : 0 ≤ CMN a b ∧ CMN a b ≤ 400 ∧ CMN a b ≤ a.length ∧ CMN a b ≤ b.length := by
  by_cases h : a.length > 400 ∨ b.length > 400
  · unfold CMN; rw [if_pos h]; omega
  · have h2 := CMN_two h
    obtain ⟨l, l1, l2, l3⟩ := dist_ex (NA a) (NB a b)
    have e1 := l1.length_le
    have e2 := l2.length_le
    have ha := NA_len a
    have hb := NB_len a b
    omega
def LIK (a b : List Ln) : Option Nat := if a.length > 400 ∨ b.length > 400 then none else RAT (CMN a b) a.length b.length
theorem LIK_in {a b : List Ln} (h : ¬ (a.length > 400 ∨ b.length > 400)) : LIK a b = RAT (CMN a b) a.length b.length := if_neg h
theorem LIK_out {a b : List Ln} (h : a.length > 400 ∨ b.length > 400) : LIK a b = none := if_pos h
theorem RAT_000 : RAT 0 0 0 = none := if_pos (by omega)
/-! ### order -/
def CMPI (x y : Int) : Int := if x < y then -1 else if x > y then 1 else 0
theorem cmpi_is (x y : Int) : (x < y ∧ CMPI x y = -1) ∨ (x = y ∧ CMPI x y = 0) ∨ (x > y ∧ CMPI x y = 1) := by
  unfold CMPI
  rcases Int.lt_trichotomy x y with h | h | h
  · rw [if_pos h]; omega
  · rw [if_neg (by omega), if_neg (by omega)]; omega
  · rw [if_neg (by omega), if_pos (by omega)]; omega
/-- The first that is not 0. -/
def ORL : List Int → Int
  | [] => 0
  | x :: l => if x ≠ 0 then x else ORL l
theorem ORL_at {l : List Int} {i : Int} (h0 : 0 ≤ i) (h1 : i < l.length) : ORL (l.drop i.toNat) = if gI l i ≠ 0 then gI l i else ORL (l.drop (i + 1).toNat) := by
  rw [drop_cons l h0 h1, ORL]
theorem ORL_end {l : List Int} {i : Int} (h : ¬ i < l.length) : ORL (l.drop i.toNat) = 0 := by rw [List.drop_eq_nil_of_le (by omega), ORL]
/-- Where a number stands: what is none, last; else the greatest first. -/
def nkk (w : Nat) : Int := if tk w = 18437736874454810626 then 18437736874454810626 else -(tk w)
theorem nkk_is (w : Nat) : (tk w = 18437736874454810626 ∧ nkk w = 18437736874454810626 ∧ ¬ (-9218868437227405312 ≤ sk w ∧ sk w ≤ 9218868437227405312)) ∨ (tk w ≠ 18437736874454810626 ∧ nkk w = -(tk w) ∧ (-9218868437227405312 ≤ sk w ∧ sk w ≤ 9218868437227405312) ∧ -18437736874454810624 ≤ tk w ∧ tk w ≤ 18437736874454810624) := by
  have h := tk_is w
  unfold nkk
  by_cases h1 : tk w = 18437736874454810626
  · rw [if_pos h1]; omega
  · rw [if_neg h1]; omega
def LCF (a b : Int × Nat) : Int := if nkk a.2 < nkk b.2 then -1 else if nkk a.2 > nkk b.2 then 1 else CMPI a.1 b.1
theorem lcf_is (a b : Int × Nat) : (nkk a.2 < nkk b.2 ∧ LCF a b = -1) ∨ (nkk a.2 > nkk b.2 ∧ LCF a b = 1) ∨ (nkk a.2 = nkk b.2 ∧ LCF a b = CMPI a.1 b.1) := by
  unfold LCF
  rcases Int.lt_trichotomy (nkk a.2) (nkk b.2) with h | h | h
  · rw [if_pos h]; omega
  · rw [if_neg (by omega), if_neg (by omega)]; omega
  · rw [if_neg (by omega), if_pos (by omega)]; omega
abbrev SRK (ys : List (Int × Nat)) : Prop := ys.Pairwise fun a b => ¬ LCF b a < 0
theorem lcf_swo (p : Int × Nat → Prop) : Go.Sort.SWO (Go.Proofs.ltOf fun x y : {x : Int × Nat // p x} => (fun x y : Int × Nat => LCF x y) x.1 y.1) := by
  have key : ∀ x y : {x : Int × Nat // p x}, Go.Proofs.ltOf (fun x y : {x : Int × Nat // p x} => (fun x y : Int × Nat => LCF x y) x.1 y.1) x y = decide (nkk x.1.2 < nkk y.1.2 ∨ (nkk x.1.2 = nkk y.1.2 ∧ x.1.1 < y.1.1)) := fun x y => decide_eq_decide.2 (by have := lcf_is x.1 y.1; have := cmpi_is x.1.1 y.1.1; simp only; omega)
  exact ⟨fun x => by rw [key]; simp, fun x y z h1 h2 => by rw [key] at *; simp at *; omega, fun x y z h1 h2 => by rw [key] at *; simp at *; omega⟩
/-! ### lines -/
/-- A likeness' line. -/
def LINE (x : Int × Nat) : ByteArray := ((DEC x.1 ++ ⟨#[32]⟩) ++ (if -9218868437227405312 ≤ sk x.2 ∧ sk x.2 ≤ 9218868437227405312 then DEC (MIL x.2) else ⟨#[45]⟩)) ++ ⟨#[10]⟩
def PRT (l : List (Int × Nat)) : ByteArray := l.foldl (fun s x => s ++ LINE x) ⟨#[]⟩
theorem LINE_size (x : Int × Nat) : (LINE x).size ≤ 30 := by
  have h1 := DEC_size x.1
  have h2 := DEC_size (MIL x.2)
  unfold LINE
  split <;> simp only [ByteArray.size_append, lit1] <;> omega
theorem PRT_snoc {l : List (Int × Nat)} {i : Int} (h0 : 0 ≤ i) (h1 : i < l.length) : PRT (l.take (i + 1).toNat) = PRT (l.take i.toNat) ++ LINE (l.getD i.toNat (0, 0)) := by
  have hlt : i.toNat < l.length := by omega
  rw [show (i + 1).toNat = i.toNat + 1 by omega, List.take_add_one, List.getElem?_eq_getElem hlt]
  unfold PRT
  rw [List.foldl_append]
  simp [List.getD, hlt]
theorem PRT_size {l : List (Int × Nat)} {i : Int} (h0 : 0 ≤ i) (h1 : i ≤ l.length) : ((PRT (l.take i.toNat)).size : Int) ≤ 30 * i := by
  obtain ⟨k, rfl⟩ : ∃ k : Nat, i = (k : Int) := ⟨i.toNat, by omega⟩
  induction k with
  | zero => simp [PRT]; decide
  | succ k ih =>
    have h2 := PRT_snoc (l := l) (i := (k : Int)) (by omega) (by omega)
    rw [show ((k + 1 : Nat) : Int) = (k : Int) + 1 by omega, h2, ByteArray.size_append]
    have := LINE_size (l.getD (k : Int).toNat (0, 0))
    have := ih (by omega) (by omega)
    omega
end Go.Rnk
