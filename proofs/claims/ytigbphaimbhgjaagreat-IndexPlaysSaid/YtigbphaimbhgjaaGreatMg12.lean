/- Words. -/
import Derived.Test.YtigbphaimbhgjaaGreatMg11
import Derived.Test.YtigbphaimbhgjaaGreatMg4
import Derived.Test.YtigbphaimbhgjaaGreatMg10
import Derived.Test.YtigbphaimbhgjaaGreatMg3
namespace Go.Proofs.YtigbphaimbhgjaaGreat
open Go Go.Gv Go.RowKit Go.Tly Go.Wds Go.Idx
set_option linter.unusedVariables false
set_option linter.unusedSimpArgs false

theorem word_calls {w : World} {t : ByteArray} (h0 : 0 < t.size) :
    Calls Tryz.prog 40 #[(.string t)] w fun e w' => ∃ v, e = .returned v ∧ (fun v w' => v = .bool (decide (ISW t)) ∧ KB No w w') v w' := by
  have hS : SH w No w [] := SH.nil _ _
  refine calls (l := litOf [(.string t)] 0) Tryz.func40 rfl (n := 32) rfl (Nat.le_of_ble_eq_true rfl) (lit_args _) ?_
  refine WC.seq ?_
  refine WC.region ?_
  refine WL.lv rfl (LV.asg rfl) ?_
  refine WL.nil (thenQ.n ?_)
  refine WC.seq ?_
  refine WC.region ?_
  refine WL.lv rfl (LV.mv rfl) ?_
  refine WL.lv rfl (LV.idxSi (i := (0 : Int)) Tryz.underlying9 rfl rfl (by decide) (by omega)) ?_
  refine WL.lv rfl (LV.asg rfl) ?_
  refine WL.nil (thenQ.n ?_)
  refine WC.seq ?_
  refine WC.region ?_
  refine WL.lv rfl (LV.mv rfl) ?_
  rcases Decidable.em ((gI (bytesOf t) ((0 : Int))) ≥ 48) with hg1 | hg1
  · refine WL.lv rfl (LV.as (LV.geI rfl rfl) (decide_eq_true hg1)) ?_
    iterate 2 refine WL.lv rfl (LV.mv rfl) ?_
    rcases Decidable.em ((gI (bytesOf t) ((0 : Int))) ≤ 57) with hg2 | hg2
    · refine WL.lv rfl (LV.as (LV.leI rfl rfl) (decide_eq_true hg2)) ?_
      refine WL.lv rfl (LV.pickT rfl rfl) ?_
      refine WL.lv rfl (LV.mv rfl) ?_
      iterate 6 refine WL.off rfl ?_
      refine WL.lv rfl (LV.pickT rfl rfl) ?_
      refine WL.lv rfl (LV.mv rfl) ?_
      iterate 6 refine WL.off rfl ?_
      refine WL.lv rfl (LV.pickT rfl rfl) ?_
      refine WL.lv rfl (LV.mv rfl) ?_
      iterate 2 refine WL.off rfl ?_
      refine WL.lv rfl (LV.pickT rfl rfl) ?_
      refine WL.lv rfl (LV.asg rfl) ?_
      refine WL.nil (thenQ.n ?_)
      refine WC.ret (?_)
      exact ⟨_, fun a ha => res1 rfl ha rfl, congrArg Value.bool ((decide_eq_true (by unfold ISW; omega)).symm), hS.kb⟩
    · refine WL.lv rfl (LV.as (LV.leI rfl rfl) (decide_eq_false hg2)) ?_
      refine WL.lv rfl (LV.pickT rfl rfl) ?_
      iterate 2 refine WL.lv rfl (LV.mv rfl) ?_
      rcases Decidable.em ((gI (bytesOf t) ((0 : Int))) ≥ 65) with hg3 | hg3
      · refine WL.lv rfl (LV.as (LV.geI rfl rfl) (decide_eq_true hg3)) ?_
        iterate 2 refine WL.lv rfl (LV.mv rfl) ?_
        rcases Decidable.em ((gI (bytesOf t) ((0 : Int))) ≤ 90) with hg4 | hg4
        · refine WL.lv rfl (LV.as (LV.leI rfl rfl) (decide_eq_true hg4)) ?_
          refine WL.lv rfl (LV.pickT rfl rfl) ?_
          refine WL.lv rfl (LV.pickF rfl rfl) ?_
          refine WL.lv rfl (LV.mv rfl) ?_
          iterate 6 refine WL.off rfl ?_
          refine WL.lv rfl (LV.pickT rfl rfl) ?_
          refine WL.lv rfl (LV.mv rfl) ?_
          iterate 2 refine WL.off rfl ?_
          refine WL.lv rfl (LV.pickT rfl rfl) ?_
          refine WL.lv rfl (LV.asg rfl) ?_
          refine WL.nil (thenQ.n ?_)
          refine WC.ret (?_)
          exact ⟨_, fun a ha => res1 rfl ha rfl, congrArg Value.bool ((decide_eq_true (by unfold ISW; omega)).symm), hS.kb⟩
        · refine WL.lv rfl (LV.as (LV.leI rfl rfl) (decide_eq_false hg4)) ?_
          refine WL.lv rfl (LV.pickT rfl rfl) ?_
          refine WL.lv rfl (LV.pickF rfl rfl) ?_
          iterate 2 refine WL.lv rfl (LV.mv rfl) ?_
          rcases Decidable.em ((gI (bytesOf t) ((0 : Int))) ≥ 97) with hg5 | hg5
          · refine WL.lv rfl (LV.as (LV.geI rfl rfl) (decide_eq_true hg5)) ?_
            iterate 2 refine WL.lv rfl (LV.mv rfl) ?_
            rcases Decidable.em ((gI (bytesOf t) ((0 : Int))) ≤ 122) with hg6 | hg6
            · refine WL.lv rfl (LV.as (LV.leI rfl rfl) (decide_eq_true hg6)) ?_
              refine WL.lv rfl (LV.pickT rfl rfl) ?_
              refine WL.lv rfl (LV.pickF rfl rfl) ?_
              refine WL.lv rfl (LV.mv rfl) ?_
              iterate 2 refine WL.off rfl ?_
              refine WL.lv rfl (LV.pickT rfl rfl) ?_
              refine WL.lv rfl (LV.asg rfl) ?_
              refine WL.nil (thenQ.n ?_)
              refine WC.ret (?_)
              exact ⟨_, fun a ha => res1 rfl ha rfl, congrArg Value.bool ((decide_eq_true (by unfold ISW; omega)).symm), hS.kb⟩
            · refine WL.lv rfl (LV.as (LV.leI rfl rfl) (decide_eq_false hg6)) ?_
              refine WL.lv rfl (LV.pickT rfl rfl) ?_
              refine WL.lv rfl (LV.pickF rfl rfl) ?_
              iterate 2 refine WL.lv rfl (LV.mv rfl) ?_
              refine WL.lv rfl (LV.eqI rfl rfl) ?_
              refine WL.lv rfl (LV.pickF rfl rfl) ?_
              refine WL.lv rfl (LV.asg rfl) ?_
              refine WL.nil (thenQ.n ?_)
              refine WC.ret (?_)
              exact ⟨_, fun a ha => res1 rfl ha rfl, congrArg Value.bool ((show decide (gI (bytesOf t) (0 : Int) = 95) = decide (ISW t) from decide_eq_decide.2 ⟨fun h_ => by unfold ISW; omega, fun h_ => by unfold ISW at h_; omega⟩)), hS.kb⟩
          · refine WL.lv rfl (LV.as (LV.geI rfl rfl) (decide_eq_false hg5)) ?_
            refine WL.lv rfl (LV.mv rfl) ?_
            iterate 2 refine WL.off rfl ?_
            iterate 2 refine WL.lv rfl (LV.pickF rfl rfl) ?_
            iterate 2 refine WL.lv rfl (LV.mv rfl) ?_
            refine WL.lv rfl (LV.eqI rfl rfl) ?_
            refine WL.lv rfl (LV.pickF rfl rfl) ?_
            refine WL.lv rfl (LV.asg rfl) ?_
            refine WL.nil (thenQ.n ?_)
            refine WC.ret (?_)
            exact ⟨_, fun a ha => res1 rfl ha rfl, congrArg Value.bool ((show decide (gI (bytesOf t) (0 : Int) = 95) = decide (ISW t) from decide_eq_decide.2 ⟨fun h_ => by unfold ISW; omega, fun h_ => by unfold ISW at h_; omega⟩)), hS.kb⟩
      · refine WL.lv rfl (LV.as (LV.geI rfl rfl) (decide_eq_false hg3)) ?_
        refine WL.lv rfl (LV.mv rfl) ?_
        iterate 2 refine WL.off rfl ?_
        iterate 2 refine WL.lv rfl (LV.pickF rfl rfl) ?_
        iterate 2 refine WL.lv rfl (LV.mv rfl) ?_
        rcases Decidable.em ((gI (bytesOf t) ((0 : Int))) ≥ 97) with hg7 | hg7
        · refine WL.lv rfl (LV.as (LV.geI rfl rfl) (decide_eq_true hg7)) ?_
          iterate 2 refine WL.lv rfl (LV.mv rfl) ?_
          rcases Decidable.em ((gI (bytesOf t) ((0 : Int))) ≤ 122) with hg8 | hg8
          · refine WL.lv rfl (LV.as (LV.leI rfl rfl) (decide_eq_true hg8)) ?_
            refine WL.lv rfl (LV.pickT rfl rfl) ?_
            refine WL.lv rfl (LV.pickF rfl rfl) ?_
            refine WL.lv rfl (LV.mv rfl) ?_
            iterate 2 refine WL.off rfl ?_
            refine WL.lv rfl (LV.pickT rfl rfl) ?_
            refine WL.lv rfl (LV.asg rfl) ?_
            refine WL.nil (thenQ.n ?_)
            refine WC.ret (?_)
            exact ⟨_, fun a ha => res1 rfl ha rfl, congrArg Value.bool ((decide_eq_true (by unfold ISW; omega)).symm), hS.kb⟩
          · refine WL.lv rfl (LV.as (LV.leI rfl rfl) (decide_eq_false hg8)) ?_
            refine WL.lv rfl (LV.pickT rfl rfl) ?_
            refine WL.lv rfl (LV.pickF rfl rfl) ?_
            iterate 2 refine WL.lv rfl (LV.mv rfl) ?_
            refine WL.lv rfl (LV.eqI rfl rfl) ?_
            refine WL.lv rfl (LV.pickF rfl rfl) ?_
            refine WL.lv rfl (LV.asg rfl) ?_
            refine WL.nil (thenQ.n ?_)
            refine WC.ret (?_)
            exact ⟨_, fun a ha => res1 rfl ha rfl, congrArg Value.bool ((show decide (gI (bytesOf t) (0 : Int) = 95) = decide (ISW t) from decide_eq_decide.2 ⟨fun h_ => by unfold ISW; omega, fun h_ => by unfold ISW at h_; omega⟩)), hS.kb⟩
        · refine WL.lv rfl (LV.as (LV.geI rfl rfl) (decide_eq_false hg7)) ?_
          refine WL.lv rfl (LV.mv rfl) ?_
          iterate 2 refine WL.off rfl ?_
          iterate 2 refine WL.lv rfl (LV.pickF rfl rfl) ?_
          iterate 2 refine WL.lv rfl (LV.mv rfl) ?_
          refine WL.lv rfl (LV.eqI rfl rfl) ?_
          refine WL.lv rfl (LV.pickF rfl rfl) ?_
          refine WL.lv rfl (LV.asg rfl) ?_
          refine WL.nil (thenQ.n ?_)
          refine WC.ret (?_)
          exact ⟨_, fun a ha => res1 rfl ha rfl, congrArg Value.bool ((show decide (gI (bytesOf t) (0 : Int) = 95) = decide (ISW t) from decide_eq_decide.2 ⟨fun h_ => by unfold ISW; omega, fun h_ => by unfold ISW at h_; omega⟩)), hS.kb⟩
  · refine WL.lv rfl (LV.as (LV.geI rfl rfl) (decide_eq_false hg1)) ?_
    refine WL.lv rfl (LV.mv rfl) ?_
    iterate 2 refine WL.off rfl ?_
    refine WL.lv rfl (LV.pickF rfl rfl) ?_
    iterate 2 refine WL.lv rfl (LV.mv rfl) ?_
    rcases Decidable.em ((gI (bytesOf t) ((0 : Int))) ≥ 65) with hg9 | hg9
    · refine WL.lv rfl (LV.as (LV.geI rfl rfl) (decide_eq_true hg9)) ?_
      iterate 2 refine WL.lv rfl (LV.mv rfl) ?_
      rcases Decidable.em ((gI (bytesOf t) ((0 : Int))) ≤ 90) with hg10 | hg10
      · refine WL.lv rfl (LV.as (LV.leI rfl rfl) (decide_eq_true hg10)) ?_
        refine WL.lv rfl (LV.pickT rfl rfl) ?_
        refine WL.lv rfl (LV.pickF rfl rfl) ?_
        refine WL.lv rfl (LV.mv rfl) ?_
        iterate 6 refine WL.off rfl ?_
        refine WL.lv rfl (LV.pickT rfl rfl) ?_
        refine WL.lv rfl (LV.mv rfl) ?_
        iterate 2 refine WL.off rfl ?_
        refine WL.lv rfl (LV.pickT rfl rfl) ?_
        refine WL.lv rfl (LV.asg rfl) ?_
        refine WL.nil (thenQ.n ?_)
        refine WC.ret (?_)
        exact ⟨_, fun a ha => res1 rfl ha rfl, congrArg Value.bool ((decide_eq_true (by unfold ISW; omega)).symm), hS.kb⟩
      · refine WL.lv rfl (LV.as (LV.leI rfl rfl) (decide_eq_false hg10)) ?_
        refine WL.lv rfl (LV.pickT rfl rfl) ?_
        refine WL.lv rfl (LV.pickF rfl rfl) ?_
        iterate 2 refine WL.lv rfl (LV.mv rfl) ?_
        rcases Decidable.em ((gI (bytesOf t) ((0 : Int))) ≥ 97) with hg11 | hg11
        · refine WL.lv rfl (LV.as (LV.geI rfl rfl) (decide_eq_true hg11)) ?_
          iterate 2 refine WL.lv rfl (LV.mv rfl) ?_
          rcases Decidable.em ((gI (bytesOf t) ((0 : Int))) ≤ 122) with hg12 | hg12
          · refine WL.lv rfl (LV.as (LV.leI rfl rfl) (decide_eq_true hg12)) ?_
            refine WL.lv rfl (LV.pickT rfl rfl) ?_
            refine WL.lv rfl (LV.pickF rfl rfl) ?_
            refine WL.lv rfl (LV.mv rfl) ?_
            iterate 2 refine WL.off rfl ?_
            refine WL.lv rfl (LV.pickT rfl rfl) ?_
            refine WL.lv rfl (LV.asg rfl) ?_
            refine WL.nil (thenQ.n ?_)
            refine WC.ret (?_)
            exact ⟨_, fun a ha => res1 rfl ha rfl, congrArg Value.bool ((decide_eq_true (by unfold ISW; omega)).symm), hS.kb⟩
          · refine WL.lv rfl (LV.as (LV.leI rfl rfl) (decide_eq_false hg12)) ?_
            refine WL.lv rfl (LV.pickT rfl rfl) ?_
            refine WL.lv rfl (LV.pickF rfl rfl) ?_
            iterate 2 refine WL.lv rfl (LV.mv rfl) ?_
            refine WL.lv rfl (LV.eqI rfl rfl) ?_
            refine WL.lv rfl (LV.pickF rfl rfl) ?_
            refine WL.lv rfl (LV.asg rfl) ?_
            refine WL.nil (thenQ.n ?_)
            refine WC.ret (?_)
            exact ⟨_, fun a ha => res1 rfl ha rfl, congrArg Value.bool ((show decide (gI (bytesOf t) (0 : Int) = 95) = decide (ISW t) from decide_eq_decide.2 ⟨fun h_ => by unfold ISW; omega, fun h_ => by unfold ISW at h_; omega⟩)), hS.kb⟩
        · refine WL.lv rfl (LV.as (LV.geI rfl rfl) (decide_eq_false hg11)) ?_
          refine WL.lv rfl (LV.mv rfl) ?_
          iterate 2 refine WL.off rfl ?_
          iterate 2 refine WL.lv rfl (LV.pickF rfl rfl) ?_
          iterate 2 refine WL.lv rfl (LV.mv rfl) ?_
          refine WL.lv rfl (LV.eqI rfl rfl) ?_
          refine WL.lv rfl (LV.pickF rfl rfl) ?_
          refine WL.lv rfl (LV.asg rfl) ?_
          refine WL.nil (thenQ.n ?_)
          refine WC.ret (?_)
          exact ⟨_, fun a ha => res1 rfl ha rfl, congrArg Value.bool ((show decide (gI (bytesOf t) (0 : Int) = 95) = decide (ISW t) from decide_eq_decide.2 ⟨fun h_ => by unfold ISW; omega, fun h_ => by unfold ISW at h_; omega⟩)), hS.kb⟩
    · refine WL.lv rfl (LV.as (LV.geI rfl rfl) (decide_eq_false hg9)) ?_
      refine WL.lv rfl (LV.mv rfl) ?_
      iterate 2 refine WL.off rfl ?_
      iterate 2 refine WL.lv rfl (LV.pickF rfl rfl) ?_
      iterate 2 refine WL.lv rfl (LV.mv rfl) ?_
      rcases Decidable.em ((gI (bytesOf t) ((0 : Int))) ≥ 97) with hg13 | hg13
      · refine WL.lv rfl (LV.as (LV.geI rfl rfl) (decide_eq_true hg13)) ?_
        iterate 2 refine WL.lv rfl (LV.mv rfl) ?_
        rcases Decidable.em ((gI (bytesOf t) ((0 : Int))) ≤ 122) with hg14 | hg14
        · refine WL.lv rfl (LV.as (LV.leI rfl rfl) (decide_eq_true hg14)) ?_
          refine WL.lv rfl (LV.pickT rfl rfl) ?_
          refine WL.lv rfl (LV.pickF rfl rfl) ?_
          refine WL.lv rfl (LV.mv rfl) ?_
          iterate 2 refine WL.off rfl ?_
          refine WL.lv rfl (LV.pickT rfl rfl) ?_
          refine WL.lv rfl (LV.asg rfl) ?_
          refine WL.nil (thenQ.n ?_)
          refine WC.ret (?_)
          exact ⟨_, fun a ha => res1 rfl ha rfl, congrArg Value.bool ((decide_eq_true (by unfold ISW; omega)).symm), hS.kb⟩
        · refine WL.lv rfl (LV.as (LV.leI rfl rfl) (decide_eq_false hg14)) ?_
          refine WL.lv rfl (LV.pickT rfl rfl) ?_
          refine WL.lv rfl (LV.pickF rfl rfl) ?_
          iterate 2 refine WL.lv rfl (LV.mv rfl) ?_
          refine WL.lv rfl (LV.eqI rfl rfl) ?_
          refine WL.lv rfl (LV.pickF rfl rfl) ?_
          refine WL.lv rfl (LV.asg rfl) ?_
          refine WL.nil (thenQ.n ?_)
          refine WC.ret (?_)
          exact ⟨_, fun a ha => res1 rfl ha rfl, congrArg Value.bool ((show decide (gI (bytesOf t) (0 : Int) = 95) = decide (ISW t) from decide_eq_decide.2 ⟨fun h_ => by unfold ISW; omega, fun h_ => by unfold ISW at h_; omega⟩)), hS.kb⟩
      · refine WL.lv rfl (LV.as (LV.geI rfl rfl) (decide_eq_false hg13)) ?_
        refine WL.lv rfl (LV.mv rfl) ?_
        iterate 2 refine WL.off rfl ?_
        iterate 2 refine WL.lv rfl (LV.pickF rfl rfl) ?_
        iterate 2 refine WL.lv rfl (LV.mv rfl) ?_
        refine WL.lv rfl (LV.eqI rfl rfl) ?_
        refine WL.lv rfl (LV.pickF rfl rfl) ?_
        refine WL.lv rfl (LV.asg rfl) ?_
        refine WL.nil (thenQ.n ?_)
        refine WC.ret (?_)
        exact ⟨_, fun a ha => res1 rfl ha rfl, congrArg Value.bool ((show decide (gI (bytesOf t) (0 : Int) = 95) = decide (ISW t) from decide_eq_decide.2 ⟨fun h_ => by unfold ISW; omega, fun h_ => by unfold ISW at h_; omega⟩)), hS.kb⟩

end Go.Proofs.YtigbphaimbhgjaaGreat

namespace Go.Gv
open Go Go.RowKit Go.Lib
section
variable {P : Program} {f : Env} {w : World} {d : Option Tmp} {ty : TypeId} {ps : String} {af : Array Edge} {gd : Option (Nat × Bool)} {w0 : World} {S : Nat → Prop} {L : List Ent}
def RowZ (e : TypeId) (v : Value) (xs : List Int) (w : World) : Prop := ∃ (g c : Nat) (cur : Array Value) (fz : Nat × Nat), v = .slice (some ⟨g, 0, none⟩) xs.length c ∧ w.heap[g]? = some (.cells cur e fz) ∧ cur.size ≤ fz.1 ∧ xs.length ≤ c ∧ c ≤ maxLen ∧ xs.length ≤ cur.size ∧ cur.toList.take xs.length = eU8.cells xs
def rowZ (e : TypeId) (v : Value) (xs : List Int) : Ent := ⟨Value.keys v, RowZ e v xs⟩
theorem RowZ.ok {e : TypeId} {v : Value} {xs : List Int} (h : RowZ e v xs w) : (rowZ e v xs).Ok w := by
  refine ⟨h, fun k hk => ?_, fun w' hk _ => ?_⟩
  · obtain ⟨g, c, cur, fz, rfl, hg, _⟩ := h
    simp [rowZ, Value.keys, Value.ownBlock] at hk
    subst hk; exact (Array.getElem?_eq_some_iff.1 hg).1
  · obtain ⟨g, c, cur, fz, rfl, hg, rest⟩ := h
    exact ⟨g, c, cur, fz, rfl, (hk g (by simp [rowZ, Value.keys, Value.ownBlock])).trans hg, rest⟩
theorem RowZ.rd {e : TypeId} {v : Value} {xs : List Int} (h : RowZ e v xs w) : Rd eU8 v xs w := by
  obtain ⟨g, c, cur, fz, rfl, hg, hf, hc, hm, hl, ht⟩ := h
  refine ⟨_, _, rfl, hc, hm, fun _ => ⟨_, rfl, fun j u hu => ?_⟩⟩
  have hj : j < xs.length := by have := (List.getElem?_eq_some_iff.1 hu).1; rw [El.cells_length] at this; exact Nat.lt_of_lt_of_eq this (Nat.mul_one _)
  have ha : (⟨g, 0, none⟩ : Addr).add j = ⟨g, j, none⟩ := by unfold Addr.add; split <;> simp_all
  rw [ha, cell_of_row w g j cur e fz hg, ← Array.getElem?_toList]
  rw [← ht, List.getElem?_take, if_pos hj] at hu
  exact hu
theorem SH.rdZ {e : TypeId} {v : Value} {xs : List Int} (h : SH w0 S w L) (he : rowZ e v xs ∈ L) : St No w (Rd eU8 v xs) := (h.steN he).imp fun _ h => RowZ.rd h
theorem XE.bytesZ {src dst e : TypeId} {s : ByteArray} {x : Operand} (h : SH w0 S w L) (hs : P.underlying src = some .string) (hd : P.underlying dst = some (.slice e)) (he : P.underlying e = some (.int .u8)) (hx : ev f x = some (.string s)) (hb2 : s.size ≤ 140737488355328) :
    XE P ⟨d, .convert src dst x, ty, ps, af, gd⟩ f w (fun v' w' => ∃ b c, v' = .slice (some ⟨b, 0, none⟩) (bytesOf s).length c ∧ SH w0 S w' (rowZ e (.slice (some ⟨b, 0, none⟩) (bytesOf s).length c) (bytesOf s) :: L) ∧ KB No w w') := by
  have hk : KB No w (bytesWorld w e s) := ⟨rfl, rfl, rfl, fun _ => Nat.le_succ _, by rw [bytesWorld_size]; omega, fun k hk _ => bytesWorld_at_old w e s k hk⟩
  have hl := bytesOf_len s
  refine ⟨_, _, fun a ha => ?_, w.heap.size, grownCap w s.size 0 e, by rw [hl], h.more hk (e' := rowZ e (.slice (some ⟨w.heap.size, 0, none⟩) (bytesOf s).length (grownCap w s.size 0 e)) (bytesOf s)) (RowZ.ok ⟨w.heap.size, _, _, _, rfl, bytesWorld_at_new w e s, Nat.le_refl _, by rw [hl]; exact grownCap_ge w s.size 0 e, grownCap_le_maxLen w s.size 0 e (by unfold maxLen; omega), ?_, ?_⟩) (show (Value.keys (.slice (some ⟨w.heap.size, 0, none⟩) (bytesOf s).length (grownCap w s.size 0 e))).Nodup from keys_nodup _) (fun k hk => by simp [rowZ, Value.keys, Value.ownBlock] at hk; omega), hk⟩
  · have hr := Lib.run_convert_string_bytes (P := P) w src dst e s hs hd he
    simp [execOp, ev_eval ha hx, hr]
  · rw [hl]; unfold bytesCells
    rw [Array.size_append, Array.size_map]
    show s.data.size ≤ _
    omega
  · have hln : (strCells s).length = (bytesOf s).length := by rw [strCells_length, hl]
    rw [← strCells_eq]
    have e1 : (bytesCells w e s).toList = strCells s ++ List.replicate (grownCap w s.size 0 e - s.size) (.int .u8 0) := by
      unfold bytesCells strCells; simp
    rw [e1, ← hln, List.take_left]
theorem XSE.rowZ1 {T e : TypeId} {x y : Operand} {A : Addr} {v0 : Value} {n c o : Nat} {i : Int} {v : Value} {xs : List Int} {k : Int} (x2 : Int) (h : SH w0 S w (rowZ e v0 xs :: L)) (hv0 : v0 = .slice (some A) n c) (h0 : 0 ≤ i) (h1 : i < xs.length) (ho : o < 1)
    (hz : (P.info? T).map (·.size) = some 1) (hv : v.oneCell' = true) (hx : ev f x = some (.pointer (some ((A.add (i.toNat * 1)).add o)))) (hy : ev f y = some v) (he : eU8.enc x2 = (eU8.enc (xs.getD i.toNat k)).set o v) :
    XSE P ⟨d, .store T x y, ty, ps, af, gd⟩ f w (fun w' => SH w0 S w' (rowZ e v0 (xs.set i.toNat x2) :: L) ∧ KB (· ∈ Value.keys v0) w w') := by
  subst hv0
  obtain rfl : o = 0 := by omega
  obtain ⟨g, c', cur, fz, e1, hg, hf, hc, hm, hl, ht⟩ := (show RowZ e _ xs w from h.hd)
  injection e1 with e1 e2 e3
  injection e1 with e1
  subst e1; subst e3
  have hlt : i.toNat < xs.length := by omega
  have hA : ((⟨g, 0, none⟩ : Addr).add (i.toNat * 1)).add 0 = ⟨g, i.toNat, none⟩ := by
    unfold Addr.add
    by_cases h : i.toNat = 0
    · simp [h]
    · simp [h]
  rw [hA] at hx
  have hve : v = .int .u8 x2 := by
    have : eU8.enc x2 = [Value.int .u8 x2] := rfl
    rw [this] at he
    have h2 : eU8.enc (xs.getD i.toNat k) = [Value.int .u8 (xs.getD i.toNat k)] := rfl
    rw [h2] at he
    simp at he
    exact he.symm
  subst hve
  obtain ⟨inf, hi, hsz⟩ := Option.map_eq_some_iff.1 hz
  have hcell : w.cell? ⟨g, i.toNat, none⟩ = some cur[i.toNat] := by simp [World.cell?, hg, show i.toNat < cur.size by omega]
  have hfro : w.frozen? ⟨g, i.toNat, none⟩ = false := by
    obtain ⟨lo, hi'⟩ := fz
    have : ¬ lo ≤ i.toNat := by have : cur.size ≤ lo := hf; omega
    simp [World.frozen?, hg, this]
  have hst : (store ⟨g, i.toNat, none⟩ (.int .u8 x2)).run P w = .ok () (w.setCell ⟨g, i.toNat, none⟩ (.int .u8 x2)) := by
    rw [run_store P w _ _ _ hv, hcell]
    simp [hfro]
  have hsv : (storeVar T ⟨g, i.toNat, none⟩ (.int .u8 x2)).run P w = .ok () (w.setCell ⟨g, i.toNat, none⟩ (.int .u8 x2)) := by
    simp [storeVar, Value.cells, sizeOf, typeInfo, hi, hsz, storeCells, Addr.add, hst]
  have hrow : (w.setCell ⟨g, i.toNat, none⟩ (.int .u8 x2)).heap[g]? = some (.cells (cur.setIfInBounds i.toNat (.int .u8 x2)) e fz) := by
    rw [setCell_eq_setRow w g i.toNat cur e fz _ hg]
    exact setRow_heap w g cur _ e _ hg
  have hcs : eU8.cells (xs.set i.toNat x2) = (eU8.cells xs).set i.toNat (.int .u8 x2) := by
    rw [cells_u8, cells_u8, List.map_set]
  refine ⟨w.setCell ⟨g, i.toNat, none⟩ (.int .u8 x2), fun a ha => ?_, h.upd ((KB.setCell w _ _).mono fun k hk => by simp [rowZ, Value.keys, Value.ownBlock, hk]) (RowZ.ok ⟨g, c, _, fz, by rw [e2, List.length_set], hrow, by simpa using hf, by rw [List.length_set]; exact hc, hm, by rw [List.length_set]; simpa using hl, ?_⟩) (keys_nodup (.slice (some ⟨g, 0, none⟩) n c)) (fun k hk => .inl hk), (KB.setCell w _ _).mono fun k hk => by simp [Value.keys, Value.ownBlock, hk]⟩
  · simp [execOp, ev_eval ha hx, ev_eval ha hy, Instr.storeAt, Instr.sureAddr, hsv]
  · rw [Array.toList_setIfInBounds, List.length_set, hcs, ← ht, List.take_set]
end
end Go.Gv

namespace Go.Idx
open Go Go.Gv Go.Wds
theorem low_len {b l : List Int} {i : Int} (q : b = (l.take i.toNat).map low1 ++ l.drop i.toNat) : b.length = l.length := by
  rw [q, List.length_append, List.length_map, List.length_take, List.length_drop]; omega
theorem low_at {b l : List Int} {i : Int} (q : b = (l.take i.toNat).map low1 ++ l.drop i.toNat) (h0 : 0 ≤ i) (h1 : i < l.length) : b.getD i.toNat 0 = l.getD i.toNat 0 := by
  have h2 : i.toNat < l.length := by omega
  rw [q, List.getD_eq_getElem?_getD, List.getD_eq_getElem?_getD, List.getElem?_append_right (by rw [List.length_map, List.length_take]; omega), List.length_map, List.length_take, Nat.min_eq_left (by omega), Nat.sub_self, List.getElem?_drop, Nat.add_zero]
theorem low_next {b l : List Int} {i x : Int} (q : b = (l.take i.toNat).map low1 ++ l.drop i.toNat) (h0 : 0 ≤ i) (h1 : i < l.length) (hx : x = low1 (l.getD i.toNat 0)) : b.set i.toNat x = (l.take (i + 1).toNat).map low1 ++ l.drop (i + 1).toNat := by
  have h2 : i.toNat < l.length := by omega
  have e : l.drop i.toNat = l.getD i.toNat 0 :: l.drop (i + 1).toNat := by
    rw [List.drop_eq_getElem_cons h2, List.getD_eq_getElem?_getD, List.getElem?_eq_getElem h2, show (i + 1).toNat = i.toNat + 1 by omega]; rfl
  rw [q, Num.take_more 0 h0 h1, List.map_append, List.set_append_right _ _ (by rw [List.length_map, List.length_take]; omega), List.length_map, List.length_take, Nat.min_eq_left (by omega), Nat.sub_self, e, List.set_cons_zero, hx, List.append_assoc]
  rfl
theorem low_keep {b l : List Int} {i : Int} (q : b = (l.take i.toNat).map low1 ++ l.drop i.toNat) (h0 : 0 ≤ i) (h1 : i < l.length) (hx : low1 (l.getD i.toNat 0) = l.getD i.toNat 0) : b = (l.take (i + 1).toNat).map low1 ++ l.drop (i + 1).toNat := by
  have h2 : i.toNat < b.length := by rw [low_len q]; omega
  have := low_next q h0 h1 (x := b.getD i.toNat 0) (by rw [low_at q h0 h1, hx])
  rw [← this, List.getD_eq_getElem?_getD, List.getElem?_eq_getElem h2]
  simp
theorem low_yes {c : Int} (h : 65 ≤ c ∧ c ≤ 90) : low1 c = c + 32 := by unfold low1; rw [if_pos (by omega)]
theorem low_no {c : Int} (h : ¬ (65 ≤ c ∧ c ≤ 90)) : low1 c = c := by unfold low1; rw [if_neg (by omega)]
theorem low_end {b : List Int} {s : ByteArray} {i : Int} (q : b = ((bytesOf s).take i.toNat).map low1 ++ (bytesOf s).drop i.toNat) (h : (s.size : Int) ≤ i) : strOfNums b = LOW s := by
  have h1 : (bytesOf s).length ≤ i.toNat := by rw [bytesOf_len]; omega
  rw [q, List.take_of_length_le h1, List.drop_of_length_le h1, List.append_nil]; rfl
theorem lowr_step {out : List Int} {s : ByteArray} {i x : Int} (q : out = ((bytesOf s).take i.toNat).map low1) (h0 : 0 ≤ i) (h1 : i < s.size) (hx : x = low1 (gI (bytesOf s) i)) : out ++ [x] = ((bytesOf s).take (i + 1).toNat).map low1 := by
  rw [Num.take_more 0 h0 (by rw [bytesOf_len]; exact h1), List.map_append, q, hx]; rfl
theorem LOW_size (s : ByteArray) : (LOW s).size = s.size := by unfold LOW; rw [str_size, List.length_map, bytesOf_len]
theorem SRTB_snoc (l : List ByteArray) (x : ByteArray) : SRTB (l ++ [x]) = INSB x (SRTB l) := by unfold SRTB; rw [List.foldl_append]; rfl
/-- What the document's 'with' lays. -/
theorem ins_at {s : ByteArray} : ∀ {l : List ByteArray} {k : Nat}, SS l → k ≤ l.length → (∀ t : Nat, t < k → ltB (l.getD t ByteArray.empty) s) → (k < l.length → ¬ ltB (l.getD k ByteArray.empty) s) →
    (if k < l.length ∧ l.getD k ByteArray.empty = s then l else l.take k ++ s :: l.drop k) = INSB s l
  | [], k, _, hk, _, _ => by
    obtain rfl : k = 0 := by simpa using hk
    simp [INSB]
  | y :: l, 0, _, _, _, h2 => by
    have h3 : ¬ ltB y s := h2 (by simp)
    unfold INSB
    rw [if_neg h3]
    by_cases h4 : y = s
    · rw [if_pos h4, if_pos ⟨by simp, h4⟩]
    · rw [if_neg h4, if_neg (fun h => h4 h.2)]; rfl
  | y :: l, k + 1, h, hk, h1, h2 => by
    have h3 : ltB y s := h1 0 (by omega)
    have ih := ins_at (s := s) (l := l) (k := k) (List.pairwise_cons.1 h).2 (by simpa using hk) (fun t ht => by simpa using h1 (t + 1) (by omega)) (fun hk' => by simpa using h2 (by simpa using hk'))
    unfold INSB
    rw [if_pos h3, ← ih]
    by_cases h4 : k < l.length ∧ l.getD k ByteArray.empty = s
    · rw [if_pos h4, if_pos ⟨by simpa using h4.1, by simpa using h4.2⟩]
    · rw [if_neg h4, if_neg (fun h => h4 ⟨by simpa using h.1, by simpa using h.2⟩)]; rfl
theorem OF_len (s : ByteArray) : (OF s).length ≤ s.size := Nat.le_trans (SRTB_len _) (Nat.le_trans (WDL_len _) (TOK_len s))
theorem WDL_mem {l : List ByteArray} {w : ByteArray} (h : w ∈ WDL l) : ∃ t ∈ l, w = LOW t := by
  obtain ⟨t, ht, rfl⟩ := List.mem_map.1 h
  exact ⟨t, (List.mem_filter.1 ht).1, rfl⟩
theorem OF_size {s w : ByteArray} (h : w ∈ OF s) : w.size ≤ s.size := by
  obtain ⟨t, ht, rfl⟩ := WDL_mem ((SRTB_mem _ _).1 h)
  rw [LOW_size]; exact (TOK_pos ht).2
end Go.Idx
namespace Go.Idx
open Go Go.Gv Go.Wds Go.Tly
theorem SRTB_perm {l m : List ByteArray} (h : l.Perm m) : SRTB l = SRTB m := ss_uniq (SRTB_ss l) (SRTB_ss m) fun a => by rw [SRTB_mem, SRTB_mem, h.mem_iff]
/-! ### names -/
def NAM (s : ByteArray) : Prop := 1 ≤ s.size ∧ s.size ≤ 64 ∧ ∀ t : Nat, t < s.size → 33 ≤ gI (bytesOf s) (t : Int) ∧ gI (bytesOf s) (t : Int) ≤ 126
instance (s : ByteArray) : Decidable (NAM s) := by unfold NAM; exact inferInstance
theorem nam_no {s : ByteArray} {i : Int} (h0 : 0 ≤ i) (h1 : i < s.size) (hb : ¬ (33 ≤ gI (bytesOf s) i ∧ gI (bytesOf s) i ≤ 126)) : ¬ NAM s := fun h => by
  have := h.2.2 i.toNat (by omega)
  rw [Int.toNat_of_nonneg h0] at this
  exact hb this
theorem nam_yes {s : ByteArray} {n : Int} (h1 : 1 ≤ s.size) (h2 : s.size ≤ 64) (q : ∀ t : Int, 0 ≤ t → t < n → 33 ≤ gI (bytesOf s) t ∧ gI (bytesOf s) t ≤ 126) (hn : (s.size : Int) ≤ n) : NAM s := ⟨h1, h2, fun t ht => q t (by omega) (by omega)⟩
theorem emp_size (s : ByteArray) : s = ⟨#[]⟩ ↔ s.size = 0 := by
  constructor
  · intro h; subst h; rfl
  · intro h
    cases s with | mk a => congr 1; exact Array.eq_empty_of_size_eq_zero h
/-! ### few items -/
def FINE (l : List Itm) : Prop := ∀ y ∈ l.take 20, y.2.2.2.1.size ≤ 60
instance (l : List Itm) : Decidable (FINE l) := by unfold FINE; exact inferInstance
theorem fine_no {l : List Itm} {i : Int} (h0 : 0 ≤ i) (h1 : i < (l.take 20).length) (h : ((l.take 20).getD i.toNat dI).2.2.2.1.size > 60) : ¬ FINE l := fun hf => by
  have := hf _ (getD_mem (d := dI) (show i.toNat < (l.take 20).length by omega)); omega
end Go.Idx
namespace Go.Idx
open Go Go.Gv Go.Wds Go.Tly
theorem fine_yes {l : List Itm} {i : Int} (hi : ((l.take 20).length : Int) ≤ i) (q : ∀ t : Int, 0 ≤ t → t < i → ((l.take 20).getD t.toNat dI).2.2.2.1.size ≤ 60) : FINE l := fun y hy => by
  obtain ⟨k, hk, e⟩ := List.mem_iff_getElem.1 hy
  have := q (k : Int) (by omega) (by omega)
  rw [Int.toNat_natCast, List.getD_eq_getElem?_getD, List.getElem?_eq_getElem hk] at this
  rw [← e]; exact this
end Go.Idx

namespace Go.Proofs.YtigbphaimbhgjaaGreat
open Go Go.Gv Go.RowKit Go.Tly Go.Wds Go.Idx
set_option linter.unusedVariables false
set_option linter.unusedSimpArgs false
theorem ti5 : TI Tryz.prog 5 (.int .u8 0) 1 1 := by unfold TI; kernel_rfl

theorem lower_calls {w : World} {s : ByteArray} (hs : s.size ≤ 140737488355328) :
    Calls Tryz.prog 33 #[(.string s)] w fun e w' => ∃ v, e = .returned v ∧ (fun v w' => v = .string (LOW s) ∧ KB No w w') v w' := by
  have hS : SH w No w [] := SH.nil _ _
  refine calls (l := litOf [(.string s)] 0) Tryz.func33 rfl (n := 30) rfl (Nat.le_of_ble_eq_true rfl) (lit_args _) ?_
  refine WC.seq ?_
  refine WC.region ?_
  refine WL.lv rfl (LV.asg rfl) ?_
  refine WL.nil (thenQ.n ?_)
  refine WC.seq ?_
  refine WC.region ?_
  refine WL.lv rfl (LV.mv rfl) ?_
  refine WL.xe rfl (XE.bytesZ (s := s) hS Tryz.underlying9 Tryz.underlying94 Tryz.underlying5 rfl (by omega)) ?_
  rintro _ w1 ⟨b1, c1, rfl, hS1, hk1⟩
  refine WL.lv rfl (LV.asg rfl) ?_
  refine WL.nil (thenQ.n ?_)
  iterate 2 refine WC.seq ?_
  refine WC.region ?_
  refine WL.lv rfl (LV.mv rfl) ?_
  refine WL.lv rfl (LV.lenL Tryz.underlying94 rfl) ?_
  refine WL.lv rfl (LV.mv rfl) ?_
  refine WL.nil (thenQ.n ?_)
  refine WC.block ?_
  refine WC.loop (fun m_ f_ w_ => ∃ (b : List Int) (ix : Int), (0 ≤ ix) ∧ (ix ≤ ((bytesOf s).length : Int)) ∧ (b = ((bytesOf s).take ix.toNat).map low1 ++ (bytesOf s).drop ix.toNat) ∧ SH w No w_ [rowZ 5 (.slice (some ⟨b1, 0, none⟩) ((bytesOf s).length) c1) b] ∧ m_ = ((((bytesOf s).length : Int) - ix).toNat) ∧ Weak (lit [(3, (.slice (some ⟨b1, 0, none⟩) ((bytesOf s).length) c1)), (8, (.slice (some ⟨b1, 0, none⟩) ((bytesOf s).length) c1)), (9, (.int .i64 ((bytesOf s).length : Int))), (10, (.int .i64 ix))]) f_) _ ⟨(bytesOf s), 0, by omega, by omega, rfl, hS1, rfl, Weak.cons rfl <| Weak.cons rfl <| Weak.cons rfl <| Weak.cons rfl <| Weak.nil _⟩ ?_
  rintro m1 f1 w2 ⟨b, ix, ixlo, ixhi, q1, hL1, rfl, hw1⟩
  refine WC.weak hw1 ?_
  clear hw1
  refine WC.seq ?_
  refine WC.region ?_
  refine WL.lv rfl (LV.ltI rfl rfl) ?_
  refine WL.nil (thenQ.n ?_)
  refine WC.seq ?_
  refine WC.condP (p := ix < ((bytesOf s).length : Int)) rfl (fun hc1 => ?_) (fun hc1 => ?_)
  · skip
    refine WC.skip (thenQ.n ?_)
    refine WC.seq ?_
    refine WC.block ?_
    refine WC.seq ?_
    refine WC.region ?_
    refine WL.lv rfl (LV.mv rfl) ?_
    have hlo_ := low_len q1
    have hbl_ := bytesOf_len s
    obtain ⟨A1, c2, e1, g1⟩ := St.elt (SH.rdZ hL1 (.head _)) 0 ix (by omega) (by omega)
    refine WL.lv rfl (LV.idxA Tryz.underlying94 ti5.sz rfl e1 rfl (by omega) (by omega)) ?_
    refine WL.lv rfl (LV.load1 (v := (.int .u8 (b.getD (ix).toNat 0))) Tryz.underlying5 rfl rfl (g1 _ (KB.refl No _) 0 _ rfl)) ?_
    have hat_ := low_at q1 ixlo (by omega)
    have hbd_ := byte_bd s ix
    rw [← hat_] at hbd_
    iterate 2 refine WL.lv rfl (LV.asg rfl) ?_
    refine WL.nil (thenQ.n ?_)
    refine WC.seq ?_
    refine WC.region ?_
    refine WL.lv rfl (LV.mv rfl) ?_
    rcases Decidable.em ((b.getD (ix).toNat 0) ≥ 65) with hg1 | hg1
    · refine WL.lv rfl (LV.as (LV.geI rfl rfl) (decide_eq_true hg1)) ?_
      iterate 2 refine WL.lv rfl (LV.mv rfl) ?_
      refine WL.lv rfl (LV.leI rfl rfl) ?_
      refine WL.lv rfl (LV.pickT rfl rfl) ?_
      refine WL.nil (thenQ.n ?_)
      refine WC.condP (p := (b.getD (ix).toNat 0) ≤ 90) rfl (fun hc => ?_) (fun hc => ?_)
      · skip
        refine WC.region ?_
        iterate 3 refine WL.lv rfl (LV.mv rfl) ?_
        refine WL.lv rfl (LV.add rfl rfl (wrU8 (by omega) (by omega))) ?_
        refine WL.lv rfl (LV.sub rfl rfl (wrU8 (by omega) (by omega))) ?_
        obtain ⟨A2, c3, e2, g2⟩ := St.elt (SH.rdZ hL1 (.head _)) 0 ix (by omega) (by omega)
        refine WL.lv rfl (LV.idxA Tryz.underlying94 ti5.sz rfl e2 rfl (by omega) (by omega)) ?_
        refine WL.xse rfl (XSE.rowZ1 (i := ix) (o := 0) (k := 0) (((b.getD (ix).toNat 0) + 97) - 65) hL1 e2 (by omega) (by omega) (by decide) ti5.sz rfl rfl rfl rfl) ?_
        rintro w3 ⟨hS2, hk2⟩
        refine WL.nil (blockQ.n <| thenQ.n ?_)
        refine WC.region ?_
        refine WL.lv rfl (LV.add rfl rfl (wr64 (by omega) (by omega))) ?_
        refine WL.lv rfl (LV.mv rfl) ?_
        refine WL.nil (thenQ.n ?_)
        exact ⟨_, by omega, (b.set (ix).toNat (((b.getD (ix).toNat 0) + 97) - 65)), ix + 1, by omega, by omega, (low_next q1 ixlo (by omega) (by rw [← hat_, low_yes (by omega)]; omega)), hS2, rfl, Weak.cons rfl <| Weak.cons rfl <| Weak.cons rfl <| Weak.cons rfl <| Weak.nil _⟩
      · skip
        refine WC.skip (blockQ.n <| thenQ.n ?_)
        refine WC.region ?_
        refine WL.lv rfl (LV.add rfl rfl (wr64 (by omega) (by omega))) ?_
        refine WL.lv rfl (LV.mv rfl) ?_
        refine WL.nil (thenQ.n ?_)
        exact ⟨_, by omega, b, ix + 1, by omega, by omega, (low_keep q1 ixlo (by omega) (by rw [← hat_]; exact low_no (by omega))), hL1, rfl, Weak.cons rfl <| Weak.cons rfl <| Weak.cons rfl <| Weak.cons rfl <| Weak.nil _⟩
    · refine WL.lv rfl (LV.as (LV.geI rfl rfl) (decide_eq_false hg1)) ?_
      refine WL.lv rfl (LV.mv rfl) ?_
      iterate 2 refine WL.off rfl ?_
      refine WL.lv rfl (LV.pickF rfl rfl) ?_
      refine WL.nil (thenQ.n ?_)
      refine WC.condF rfl ?_
      refine WC.skip (blockQ.n <| thenQ.n ?_)
      refine WC.region ?_
      refine WL.lv rfl (LV.add rfl rfl (wr64 (by omega) (by omega))) ?_
      refine WL.lv rfl (LV.mv rfl) ?_
      refine WL.nil (thenQ.n ?_)
      exact ⟨_, by omega, b, ix + 1, by omega, by omega, (low_keep q1 ixlo (by omega) (by rw [← hat_]; exact low_no (by omega))), hL1, rfl, Weak.cons rfl <| Weak.cons rfl <| Weak.cons rfl <| Weak.cons rfl <| Weak.nil _⟩
  · skip
    refine WC.exit (thenQ.x <| thenQ.x <| blockQ.hit <| thenQ.n ?_)
    refine WC.seq ?_
    refine WC.region ?_
    refine WL.lv rfl (LV.mv rfl) ?_
    refine WL.lv rfl (LV.strOf Tryz.underlying94 Tryz.underlying5 Tryz.underlying9 rfl ((SH.rdZ hL1 (.head _)) _ (KB.refl No _))) ?_
    refine WL.lv rfl (LV.asg rfl) ?_
    refine WL.nil (thenQ.n ?_)
    refine WC.ret (?_)
    exact ⟨_, fun a ha => res1 rfl ha rfl, congrArg Value.string (low_end q1 (by have := bytesOf_len s; omega)), hL1.kb⟩

end Go.Proofs.YtigbphaimbhgjaaGreat

