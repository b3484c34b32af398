/- What must be whatever is asked: plain. -/
import Derived.Test.YthmjieikbeemhaaRkF
namespace Go.Rnk
open Go Go.Gv Go.Flt Go.Mys Go.Num Go.Scr Go.Dec
theorem live_prt : PRT [(2, 4602678819172646912)] = ⟨#[50, 32, 53, 48, 48, 10]⟩ := by
  have h1 : MIL 4602678819172646912 = 500 := by decide +kernel
  have hs : sk 4602678819172646912 = 4602678819172646912 := by decide +kernel
  have d2 : DEC 2 = strOfNums [50] := DEC_one (by decide) (by decide)
  have d5 : DEC 500 = strOfNums [53, 48, 48] := by
    rw [DEC_two (by decide) (by decide), show (500 : Int) / 10 = 50 by decide, DEC_two (by decide) (by decide), show (50 : Int) / 10 = 5 by decide, DEC_one (by decide) (by decide), str_app, str_app]; rfl
  show ⟨#[]⟩ ++ LINE (2, 4602678819172646912) = _
  unfold LINE
  rw [if_pos (by simp only [hs]; decide)]
  simp only [h1, d2, d5]
  decide
abbrev lnA : Ln := (⟨#[97]⟩, false)
abbrev lnB : Ln := (⟨#[98]⟩, false)
abbrev lnC : Ln := (⟨#[99]⟩, false)
theorem live_like {r : Nat} (h : cn r = LIK [lnA, lnB] [lnB, lnC]) : r = 4602678819172646912 :=
  (cn_some (h.trans (by decide +kernel : LIK [lnA, lnB] [lnB, lnC] = some 4602678819172646912))).2
def lv0 : Nat := (LIK [lnA] [lnC]).getD 0
def lv1 : Nat := (LIK [lnB, lnC] [lnC]).getD 0
theorem live_near {k : Int} {is : Bool} (h : NRS [[lnA], [lnB, lnC]] [lnC] k is) : k = 1 ∧ is = true := by
  have h' : KL [[lnA], [lnB, lnC]] [lnC] [(0, lv0), (1, lv1)] := ⟨rfl, fun t t0 t1 => by
    have ht : t = 0 ∨ t = 1 := by
      have h2 : t < 2 := t1
      omega
    rcases ht with rfl | rfl
    · exact ⟨rfl, by decide +kernel, by decide +kernel⟩
    · exact ⟨rfl, by decide +kernel, by decide +kernel⟩⟩
  have hs : SRK [(1, lv1), (0, lv0)] := by
    have : ¬ LCF (0, lv0) (1, lv1) < 0 := by decide +kernel
    exact List.pairwise_cons.2 ⟨fun x hx => by rw [List.mem_singleton.1 hx]; exact this, List.pairwise_singleton _ _⟩
  have hok : -9218868437227405312 ≤ sk lv1 ∧ sk lv1 ≤ 9218868437227405312 := by decide +kernel
  rcases h.val (by decide) h' (List.Perm.swap _ _ _) hs with ⟨h1, _⟩ | ⟨_, h2, h3⟩
  · rcases h1 with h1 | h1
    · cases h1
    · exact absurd hok h1
  · exact ⟨h2, h3⟩
end Go.Rnk
