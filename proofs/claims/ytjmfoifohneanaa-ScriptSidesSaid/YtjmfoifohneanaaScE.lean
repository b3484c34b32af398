/- What waits is laid down. -/
import Derived.Test.YtjmfoifohneanaaScD
namespace Go.Proofs.Ytjmfoifohneanaa
open Go Go.Gv Go.RowKit Go.Mys Go.Num Go.Scr
set_option linter.unusedVariables false
set_option linter.unusedSimpArgs false

theorem flush_calls {w : World} {S : Nat → Prop} {rb : Nat} {A Aw : Option Addr} {c cw : Nat} {rows : List (ED × List Ln)} {wait : List Ln} (hS0 : SH w S w [blkE rb 66 #[(.slice A rows.length c), (.slice Aw wait.length cw)], rowE eE 39 (.slice A rows.length c) (rows.map (fun p : ED × List Ln => p.1)), insE (fun p : ED => p.2) eL 41 rows, rowE eL 41 (.slice Aw wait.length cw) wait]) (h1 : rows.length ≤ 5000) (ht : tot (scr rows) + wait.length ≤ 1000) :
    Calls Try.prog 43 #[(.pointer (some ⟨rb, 0, none⟩))] w fun e w' => ∃ v, e = .returned v ∧ (fun v w' => ∃ A' c' rows', v = .tuple #[] ∧ scr rows' = addS (scr rows) 3 wait ∧ rows'.length ≤ rows.length + 1 ∧ SH w S w' [blkE rb 66 #[(.slice A' rows'.length c'), (.slice none 0 0)], rowE eE 39 (.slice A' rows'.length c') (rows'.map (fun p : ED × List Ln => p.1)), insE (fun p : ED => p.2) eL 41 rows', rowE eL 41 (.slice none 0 0) []]) v w' := by
  have hS : SH w S w [blkE rb 66 #[(.slice A rows.length c), (.slice Aw wait.length cw)], rowE eE 39 (.slice A rows.length c) (rows.map (fun p : ED × List Ln => p.1)), insE (fun p : ED => p.2) eL 41 rows, rowE eL 41 (.slice Aw wait.length cw) wait] := hS0
  refine calls (l := litOf [(.pointer (some ⟨rb, 0, none⟩))] 0) Try.func43 rfl (n := 11) rfl (Nat.le_of_ble_eq_true rfl) (lit_args _) ?_
  refine WC.seq ?_
  refine WC.region ?_
  iterate 2 refine WL.lv rfl (LV.mv rfl) ?_
  refine WL.lv rfl (LV.nilCheck rfl) ?_
  refine WL.lv rfl (LV.fieldA Try.underlying66 rfl ti22.sz rfl) ?_
  refine WL.lv rfl (LV.load1 Try.underlying22 rfl rfl (Blk.cellN (SH.at hS (.head _)) 1 rfl _ (KB.refl No _))) ?_
  have hS1 : SH w S w [insE (fun p : ED => p.2) eL 41 rows, blkE rb 66 #[(.slice A rows.length c), (.slice Aw wait.length cw)], rowE eE 39 (.slice A rows.length c) (rows.map (fun p : ED × List Ln => p.1)), rowE eL 41 (.slice Aw wait.length cw) wait] := (SH.front [blkE rb 66 #[(.slice A rows.length c), (.slice Aw wait.length cw)], rowE eE 39 (.slice A rows.length c) (rows.map (fun p : ED × List Ln => p.1))] hS)
  have hS2 : SH w S w [rowE eE 39 (.slice A rows.length c) (rows.map (fun p : ED × List Ln => p.1)), insE (fun p : ED => p.2) eL 41 rows, blkE rb 66 #[(.slice A rows.length c), (.slice Aw wait.length cw)], rowE eL 41 (.slice Aw wait.length cw) wait] := (SH.front [insE (fun p : ED => p.2) eL 41 rows, blkE rb 66 #[(.slice A rows.length c), (.slice Aw wait.length cw)]] hS1)
  have hS3 : SH w S w [blkE rb 66 #[(.slice A rows.length c), (.slice Aw wait.length cw)], rowE eE 39 (.slice A rows.length c) (rows.map (fun p : ED × List Ln => p.1)), insE (fun p : ED => p.2) eL 41 rows, rowE eL 41 (.slice Aw wait.length cw) wait] := (SH.front [rowE eE 39 (.slice A rows.length c) (rows.map (fun p : ED × List Ln => p.1)), insE (fun p : ED => p.2) eL 41 rows] hS2)
  have hT1 := SH.sub (Es := [blkE rb 66 #[(.slice A rows.length c), (.slice Aw wait.length cw)], rowE eE 39 (.slice A rows.length c) (rows.map (fun p : ED × List Ln => p.1)), insE (fun p : ED => p.2) eL 41 rows]) hS3
  refine WL.call rfl (XC.fn Try.func51 (by kernel_rfl) rfl rfl rfl) (add_calls (do_ := 3) hT1 ((SH.stE (Es := [blkE rb 66 #[(.slice A rows.length c), (.slice Aw wait.length cw)], rowE eE 39 (.slice A rows.length c) (rows.map (fun p : ED × List Ln => p.1)), insE (fun p : ED => p.2) eL 41 rows]) hS3 (.head _)).imp fun _ h => Row.rd h) (by omega) (by omega) (fun p hp => Nat.le_trans (tot_mem hp) (by omega))) ?_
  rintro v_ w1 ⟨A1, c1, rows1, rfl, hadd11, hadd12, hU1⟩
  have hadd1 := And.intro hadd11 hadd12
  have htothadd1 := tot_addS (scr rows) 3 wait
  rw [← hadd1.1] at htothadd1
  have hS4 := SH.back (Es := [blkE rb 66 #[(.slice A rows.length c), (.slice Aw wait.length cw)], rowE eE 39 (.slice A rows.length c) (rows.map (fun p : ED × List Ln => p.1)), insE (fun p : ED => p.2) eL 41 rows]) hS3 hU1
  refine WL.nil (thenQ.n ?_)
  refine WC.region ?_
  refine WL.lv rfl (LV.mv rfl) ?_
  refine WL.lv rfl (LV.nilCheck rfl) ?_
  refine WL.lv rfl (LV.fieldA Try.underlying66 rfl ti22.sz rfl) ?_
  refine WL.xse rfl (XSE.blk #[(.slice A1 rows1.length c1), (.slice none 0 0)] hS4 (Nat.le_of_ble_eq_true rfl) ti22.sz rfl rfl rfl rfl) ?_
  rintro w2 ⟨hS5, hk1⟩
  refine WL.nil (?_)
  have hS6 := SH.nilRow (E := eL) (T := 41) hS5
  have hS7 : SH w S w2 [blkE rb 66 #[(.slice A1 rows1.length c1), (.slice none 0 0)], rowE eE 39 (.slice A1 rows1.length c1) (rows1.map (fun p : ED × List Ln => p.1)), insE (fun p : ED => p.2) eL 41 rows1, rowE eL 41 (.slice none 0 0) []] := (SH.take 4 rfl (SH.front [rowE eE 39 (.slice A1 rows1.length c1) (rows1.map (fun p : ED × List Ln => p.1)), insE (fun p : ED => p.2) eL 41 rows1, rowE eL 41 (.slice none 0 0) []] (SH.front [insE (fun p : ED => p.2) eL 41 rows1, rowE eL 41 (.slice none 0 0) [], blkE rb 66 #[(.slice A1 rows1.length c1), (.slice none 0 0)]] (SH.front [rowE eL 41 (.slice none 0 0) [], blkE rb 66 #[(.slice A1 rows1.length c1), (.slice none 0 0)], rowE eE 39 (.slice A1 rows1.length c1) (rows1.map (fun p : ED × List Ln => p.1))] hS6))))
  exact ⟨_, fun a ha => res0 rfl, _, _, _, rfl, hadd1.1, hadd1.2, hS7⟩

end Go.Proofs.Ytjmfoifohneanaa
