/- An edit laid behind. -/
import Derived.Test.YtjmfoifohneanaaScM
namespace Go.Proofs.Ytjmfoifohneanaa
open Go Go.Gv Go.RowKit Go.Mys Go.Num Go.Scr
set_option linter.unusedVariables false
set_option linter.unusedSimpArgs false

theorem lay_calls {w : World} {S : Nat → Prop} {A A0 : Option Addr} {c c0 : Nat} {rows : List (ED × List Ln)} {l : List Ln} {do_ : Int} (hS0 : SH w S w [rowE eE 39 (.slice A rows.length c) (rows.map (fun p : ED × List Ln => p.1)), insE (fun p : ED => p.2) eL 41 rows]) (hl : St S w (Rd eL (.slice A0 l.length c0) l)) (hm : l.length ≤ 10000) (h1 : rows.length ≤ 10000) (h2 : ∀ p ∈ rows, p.2.length ≤ 10000) :
    Calls Try.prog 36 #[(.slice A rows.length c), (.int .i64 do_), (.slice A0 l.length c0)] w fun e w' => ∃ v, e = .returned v ∧ (fun v w' => ∃ A' c' rows', v = .slice A' rows'.length c' ∧ scr rows' = layS (scr rows) do_ l ∧ rows'.length ≤ rows.length + 1 ∧ SH w S w' [rowE eE 39 (.slice A' rows'.length c') (rows'.map (fun p : ED × List Ln => p.1)), insE (fun p : ED => p.2) eL 41 rows']) v w' := by
  have hS : SH w S w [rowE eE 39 (.slice A rows.length c) (rows.map (fun p : ED × List Ln => p.1)), insE (fun p : ED => p.2) eL 41 rows] := hS0
  refine calls (l := litOf [(.slice A rows.length c), (.int .i64 do_), (.slice A0 l.length c0)] 0) Try.func36 rfl (n := 19) rfl (Nat.le_of_ble_eq_true rfl) (lit_args _) ?_
  refine WC.seq ?_
  refine WC.region ?_
  refine WL.lv rfl (LV.asg rfl) ?_
  refine WL.nil (thenQ.n ?_)
  iterate 2 refine WC.seq ?_
  refine WC.region ?_
  refine WL.lv rfl (LV.mv rfl) ?_
  refine WL.lv rfl (LV.lenL Try.underlying22 rfl) ?_
  refine WL.lv rfl (LV.eqI rfl rfl) ?_
  refine WL.nil (thenQ.n ?_)
  refine WC.condP (p := (l.length : Int) = 0) rfl (fun hc1 => ?_) (fun hc1 => ?_)
  · skip
    refine WC.seq ?_
    refine WC.region ?_
    refine WL.lv rfl (LV.mv rfl) ?_
    refine WL.lv rfl (LV.asg rfl) ?_
    refine WL.nil (thenQ.n ?_)
    refine WC.ret (thenQ.r <| ?_)
    exact ⟨_, fun a ha => res1 rfl ha rfl, _, _, _, rfl, (if_pos (List.eq_nil_of_length_eq_zero (by omega))).symm, (by omega), hS⟩
  · skip
    refine WC.skip (thenQ.n ?_)
    refine WC.seq ?_
    refine WC.region ?_
    iterate 2 refine WL.lv rfl (LV.mv rfl) ?_
    refine WL.xe rfl (XE.buildSlice (E := eL) [] #[] [] hS Try.underlying22 ti41 rfl (by decide) (by kernel_rfl) (.inr rfl) rfl rfl (by decide)) ?_
    rintro _ w1 ⟨b1, rfl, hS1, hk1⟩
    refine WL.lv rfl (LV.mv rfl) ?_
    refine WL.xe rfl (XE.append hS1 Try.underlying22 ti41 rfl (St.now (SH.stN hS1 hl)) rfl rfl (by first | omega | simp only [List.length_append, List.length_cons, List.length_nil, List.length_take, List.length_reverse, List.length_drop] at *; omega) (by first | omega | simp only [List.length_append, List.length_cons, List.length_nil, List.length_take, List.length_reverse, List.length_drop] at *; omega)) ?_
    rintro _ w2 ⟨A1, c1, rfl, hS2, hk2⟩
    refine WL.lv rfl (LV.build (vs := [(0, (.int .i64 do_)), (1, (.slice A1 ((([] : List Ln) ++ l).length) c1))]) (places := #[(0, 1), (1, 1)]) (cs := #[(.int .i64 do_), (.slice A1 ((([] : List Ln) ++ l).length) c1)]) Try.underlying39 ti39 (fun _ => by kernel_rfl) rfl rfl) ?_
    refine WL.xe rfl (XE.buildSlice (E := eE) [(0, (.agg #[(.int .i64 do_), (.slice A1 ((([] : List Ln) ++ l).length) c1)]))] #[(.int .i64 do_), (.slice A1 ((([] : List Ln) ++ l).length) c1)] [(do_, (⟨A1, (([] : List Ln) ++ l).length, c1⟩ : SV))] hS2 Try.underlying24 ti39 rfl (by decide) (by kernel_rfl) (.inr rfl) rfl rfl (by decide)) ?_
    rintro _ w3 ⟨b2, rfl, hS3, hk3⟩
    have hS4 : SH w S w3 [rowE eE 39 (.slice A rows.length c) (rows.map (fun p : ED × List Ln => p.1)), rowE eE 39 (.slice (some ⟨b2, 0, none⟩) 1 1) [(do_, (⟨A1, (([] : List Ln) ++ l).length, c1⟩ : SV))], rowE eL 41 (.slice A1 ((([] : List Ln) ++ l).length) c1) (([] : List Ln) ++ l), insE (fun p : ED => p.2) eL 41 rows] := (SH.front [rowE eE 39 (.slice (some ⟨b2, 0, none⟩) 1 1) [(do_, (⟨A1, (([] : List Ln) ++ l).length, c1⟩ : SV))], rowE eL 41 (.slice A1 ((([] : List Ln) ++ l).length) c1) (([] : List Ln) ++ l)] hS3)
    refine WL.xe rfl (XE.appendQ (rows := rows) (r := (do_, (⟨A1, (([] : List Ln) ++ l).length, c1⟩ : SV))) (([] : List Ln) ++ l) hS4 Try.underlying24 ti39 rfl (St.now (SH.rd hS4 (.tail _ (.head _)))) rfl rfl (by first | omega | (simp; omega)) (by first | omega | (simp; omega))) ?_
    rintro _ w4 ⟨A2, c2, rfl, hS5, hk4⟩
    refine WL.lv rfl (LV.asg rfl) ?_
    refine WL.nil (thenQ.n ?_)
    refine WC.ret (?_)
    have hS6 : SH w S w4 [rowE eL 41 (.slice A1 ((([] : List Ln) ++ l).length) c1) (([] : List Ln) ++ l), insE (fun p : ED => p.2) eL 41 rows, rowE eE 39 (.slice A2 ((rows ++ [((do_, (⟨A1, (([] : List Ln) ++ l).length, c1⟩ : SV)), (([] : List Ln) ++ l))]).length) c2) ((rows ++ [((do_, (⟨A1, (([] : List Ln) ++ l).length, c1⟩ : SV)), (([] : List Ln) ++ l))]).map (fun p : ED × List Ln => p.1))] := (SH.take 3 rfl (SH.front [insE (fun p : ED => p.2) eL 41 rows, rowE eE 39 (.slice A2 ((rows ++ [((do_, (⟨A1, (([] : List Ln) ++ l).length, c1⟩ : SV)), (([] : List Ln) ++ l))]).length) c2) ((rows ++ [((do_, (⟨A1, (([] : List Ln) ++ l).length, c1⟩ : SV)), (([] : List Ln) ++ l))]).map (fun p : ED × List Ln => p.1)), rowE eE 39 (.slice (some ⟨b2, 0, none⟩) 1 1) [(do_, (⟨A1, (([] : List Ln) ++ l).length, c1⟩ : SV))]] (SH.front [rowE eE 39 (.slice A2 ((rows ++ [((do_, (⟨A1, (([] : List Ln) ++ l).length, c1⟩ : SV)), (([] : List Ln) ++ l))]).length) c2) ((rows ++ [((do_, (⟨A1, (([] : List Ln) ++ l).length, c1⟩ : SV)), (([] : List Ln) ++ l))]).map (fun p : ED × List Ln => p.1)), rowE eE 39 (.slice (some ⟨b2, 0, none⟩) 1 1) [(do_, (⟨A1, (([] : List Ln) ++ l).length, c1⟩ : SV))], rowE eL 41 (.slice A1 ((([] : List Ln) ++ l).length) c1) (([] : List Ln) ++ l)] hS5)))
    have hS7 := SH.insMore (sv := fun p : ED => p.2) (r := (do_, (⟨A1, (([] : List Ln) ++ l).length, c1⟩ : SV))) rfl hS6
    have hS8 := SH.perm hS7 (List.Perm.swap _ _ _)
    exact ⟨_, fun a ha => res1 rfl ha rfl, _, _, _, rfl, (by rw [scr_snoc]; exact (if_neg (fun h_ => by subst h_; simp at *)).symm), (by simp), hS8⟩

end Go.Proofs.Ytjmfoifohneanaa
