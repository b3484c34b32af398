/- A script that grows. -/
import Derived.Test.YtjmfoifohneanaaScC
namespace Go.Proofs.Ytjmfoifohneanaa
open Go Go.Gv Go.RowKit Go.Mys Go.Num Go.Scr
set_option linter.unusedVariables false
set_option linter.unusedSimpArgs false
theorem ti24 : TI Try.prog 24 (.slice none 0 0) 1 24 := by unfold TI; kernel_rfl

theorem clone_calls {w : World} {A0 : Option Addr} {c0 : Nat} {l : List Ln} (hl : St No w (Rd eL (.slice A0 l.length c0) l)) (hm : l.length ≤ 100000) :
    Calls Try.prog 53 #[(.slice A0 l.length c0)] w fun e w' => ∃ v, e = .returned v ∧ (fun v w' => ∃ A1 c1, v = .slice A1 l.length c1 ∧ SH w No w' [rowE eL 41 (.slice A1 l.length c1) l]) v w' := by
  have hS : SH w No w [] := SH.nil _ _
  refine calls (l := litOf [(.slice A0 l.length c0)] 0) Try.func53 rfl (n := 8) rfl (Nat.le_of_ble_eq_true rfl) (lit_args _) ?_
  refine WC.seq ?_
  refine WC.region ?_
  refine WL.lv rfl (LV.asg rfl) ?_
  refine WL.nil (thenQ.n ?_)
  iterate 2 refine WC.seq ?_
  refine WC.region ?_
  refine WL.lv rfl (LV.mv rfl) ?_
  refine WL.lv rfl (LV.eqNil Try.underlying22 rfl rfl) ?_
  refine WL.nil (thenQ.n ?_)
  refine WC.cond (b := (A0).isNone) rfl (fun hc1 => ?_) (fun hc1 => ?_)
  · skip
    refine WC.seq ?_
    refine WC.region ?_
    refine WL.lv rfl (LV.asg rfl) ?_
    refine WL.nil (thenQ.n ?_)
    refine WC.ret (thenQ.r <| ?_)
    have hS1 := SH.nilRow (E := eL) (T := 41) hS
    exact ⟨_, fun a ha => res1 rfl ha rfl, (by have hl_ := Rd.isNone hl.now hc1; subst hl_; exact ⟨_, _, rfl, hS1⟩)⟩
  · skip
    refine WC.skip (thenQ.n ?_)
    refine WC.seq ?_
    refine WC.region ?_
    refine WL.xe rfl (XE.buildSlice (E := eL) [] #[] [] hS Try.underlying22 ti41 rfl (by decide) (by kernel_rfl) (.inr rfl) rfl rfl (by decide)) ?_
    rintro _ w1 ⟨b1, rfl, hS2, hk1⟩
    refine WL.lv rfl (LV.mv rfl) ?_
    refine WL.xe rfl (XE.append hS2 Try.underlying22 ti41 rfl (St.now (SH.stN hS2 hl)) rfl rfl (by first | omega | simp only [List.length_append, List.length_cons, List.length_nil, List.length_take, List.length_reverse, List.length_drop] at *; omega) (by first | omega | simp only [List.length_append, List.length_cons, List.length_nil, List.length_take, List.length_reverse, List.length_drop] at *; omega)) ?_
    rintro _ w2 ⟨A1, c1, rfl, hS3, hk2⟩
    refine WL.lv rfl (LV.asg rfl) ?_
    refine WL.nil (thenQ.n ?_)
    refine WC.ret (?_)
    exact ⟨_, fun a ha => res1 rfl ha rfl, _, _, rfl, hS3⟩

theorem add_calls {w : World} {S : Nat → Prop} {rb : Nat} {A A0 : Option Addr} {c c0 : Nat} {wv : Value} {rows : List (ED × List Ln)} {l : List Ln} {do_ : Int} (hS0 : SH w S w [blkE rb 66 #[(.slice A rows.length c), wv], rowE eE 39 (.slice A rows.length c) (rows.map (fun p : ED × List Ln => p.1)), insE (fun p : ED => p.2) eL 41 rows]) (hl : St S w (Rd eL (.slice A0 l.length c0) l)) (hm : l.length ≤ 10000) (h1 : rows.length ≤ 10000) (h2 : ∀ p ∈ rows, p.2.length ≤ 10000) :
    Calls Try.prog 51 #[(.pointer (some ⟨rb, 0, none⟩)), (.int .i64 do_), (.slice A0 l.length c0)] w fun e w' => ∃ v, e = .returned v ∧ (fun v w' => ∃ A' c' rows', v = .tuple #[] ∧ scr rows' = addS (scr rows) do_ l ∧ rows'.length ≤ rows.length + 1 ∧ SH w S w' [blkE rb 66 #[(.slice A' rows'.length c'), wv], rowE eE 39 (.slice A' rows'.length c') (rows'.map (fun p : ED × List Ln => p.1)), insE (fun p : ED => p.2) eL 41 rows']) v w' := by
  have hS : SH w S w [blkE rb 66 #[(.slice A rows.length c), wv], rowE eE 39 (.slice A rows.length c) (rows.map (fun p : ED × List Ln => p.1)), insE (fun p : ED => p.2) eL 41 rows] := hS0
  refine calls (l := litOf [(.pointer (some ⟨rb, 0, none⟩)), (.int .i64 do_), (.slice A0 l.length c0)] 0) Try.func51 rfl (n := 64) rfl (Nat.le_of_ble_eq_true rfl) (lit_args _) ?_
  refine WC.seq ?_
  refine WC.region ?_
  refine WL.lv rfl (LV.mv rfl) ?_
  refine WL.lv rfl (LV.nilCheck rfl) ?_
  refine WL.lv rfl (LV.fieldA Try.underlying66 rfl ti24.sz rfl) ?_
  refine WL.lv rfl (LV.load1 Try.underlying24 rfl rfl (Blk.cellN (SH.at hS (.head _)) 0 rfl _ (KB.refl No _))) ?_
  refine WL.lv rfl (LV.lenL Try.underlying24 rfl) ?_
  refine WL.lv rfl (LV.asg rfl) ?_
  refine WL.nil (thenQ.n ?_)
  refine WC.block ?_
  refine WC.seq ?_
  refine WC.region ?_
  refine WL.lv rfl (LV.mv rfl) ?_
  refine WL.lv rfl (LV.lenL Try.underlying22 rfl) ?_
  refine WL.lv rfl (LV.eqI rfl rfl) ?_
  refine WL.lv rfl (LV.asg rfl) ?_
  refine WL.nil (thenQ.n ?_)
  refine WC.condP (p := (l.length : Int) = 0) rfl (fun hc1 => ?_) (fun hc1 => ?_)
  · skip
    refine WC.skip (blockQ.n <| ?_)
    exact ⟨_, fun a ha => res0 rfl, _, _, _, rfl, (addS_nil _ _ (List.eq_nil_of_length_eq_zero (by omega))).symm, (by omega), hS⟩
  · skip
    refine WC.seq ?_
    refine WC.region ?_
    refine WL.lv rfl (LV.mv rfl) ?_
    rcases Decidable.em ((rows.length : Int) > 0) with hg1 | hg1
    · refine WL.lv rfl (LV.as (LV.gtI rfl rfl) (decide_eq_true hg1)) ?_
      iterate 2 refine WL.lv rfl (LV.mv rfl) ?_
      refine WL.lv rfl (LV.nilCheck rfl) ?_
      refine WL.lv rfl (LV.fieldA Try.underlying66 rfl ti24.sz rfl) ?_
      refine WL.lv rfl (LV.load1 Try.underlying24 rfl rfl (Blk.cellN (SH.at hS (.head _)) 0 rfl _ (KB.refl No _))) ?_
      refine WL.lv rfl (LV.mv rfl) ?_
      refine WL.lv rfl (LV.sub rfl rfl (wr64 (by omega) (by omega))) ?_
      obtain ⟨A1, c1, A2, c2, e1, g1, e2, r1⟩ := St.eltE (SH.rd hS (.tail _ (.head _))) (SH.rdIn hS (.tail _ (.tail _ (.head _)))) default ((rows.length : Int) - 1) (by omega) (by omega)
      refine WL.lv rfl (LV.idxA Try.underlying24 ti39.sz rfl e1 rfl (by omega) (by omega)) ?_
      refine WL.lv rfl (LV.fieldA Try.underlying39 rfl ti37.sz rfl) ?_
      refine WL.lv rfl (LV.load1 (v := (.int .i64 ((rows.getD ((rows.length : Int) - 1).toNat default).1.1))) Try.underlying37 rfl rfl (g1 _ (KB.refl No _) 0 _ rfl)) ?_
      refine WL.lv rfl (LV.mv rfl) ?_
      refine WL.lv rfl (LV.eqI rfl rfl) ?_
      refine WL.lv rfl (LV.pickT rfl rfl) ?_
      refine WL.lv rfl (LV.asg rfl) ?_
      refine WL.nil (thenQ.n ?_)
      refine WC.condP (p := ((rows.getD ((rows.length : Int) - 1).toNat default).1.1) = do_) rfl (fun hc2 => ?_) (fun hc2 => ?_)
      · have hll_ := h2 (rows.getD ((rows.length : Int) - 1).toNat default) (getD_mem (by omega))
        have hS1 := SH.drew hS
        have hS2 : SH w S w.drew [insE (fun p : ED => p.2) eL 41 rows, blkE rb 66 #[(.slice A rows.length c), wv], rowE eE 39 (.slice A rows.length c) (rows.map (fun p : ED × List Ln => p.1))] := (SH.front [blkE rb 66 #[(.slice A rows.length c), wv], rowE eE 39 (.slice A rows.length c) (rows.map (fun p : ED × List Ln => p.1))] hS1)
        have hS3 : SH w S w.drew [rowE eL 41 (.slice (((rows.map (·.1)).getD ((rows.length : Int) - 1).toNat default).2.A) (((rows.map (·.1)).getD ((rows.length : Int) - 1).toNat default).2.n) (((rows.map (·.1)).getD ((rows.length : Int) - 1).toNat default).2.c)) ((rows.getD ((rows.length : Int) - 1).toNat default).2), insE (fun p : ED => p.2) eL 41 (rows.take ((rows.length : Int) - 1).toNat ++ rows.drop (((rows.length : Int) - 1).toNat + 1)), blkE rb 66 #[(.slice A rows.length c), wv], rowE eE 39 (.slice A rows.length c) (rows.map (fun p : ED × List Ln => p.1))] := SH.insAtM (k := ((rows.length : Int) - 1).toNat) hS2 (by omega)
        refine WC.regionD [19] (fun w_ => KB (· ∈ Value.keys (.slice (((rows.map (·.1)).getD ((rows.length : Int) - 1).toNat default).2.A) (((rows.map (·.1)).getD ((rows.length : Int) - 1).toNat default).2.n) (((rows.map (·.1)).getD ((rows.length : Int) - 1).toNat default).2.c))) w.drew w_) [(.pure, 0), (.pure, 1), (.pure, 2), (.look, 3), (.pure, 4), (.pure, 5), (.pure, 6), (.pure, 7), (.pure, 8), (.look, 9), (.pure, 10), (.pure, 11), (.pure, 12), (.pure, 13), (.look, 14), (.pure, 15), (.forced, 16), (.pure, 17), (.pure, 18), (.forced, 19)] (by kernel_rfl) (by kernel_rfl) (KB.refl _ _) ?_
        refine WS.pure rfl rfl (fun _ => LV.mv rfl) ?_
        refine WS.pure rfl rfl (fun _ => LV.nilCheck rfl) ?_
        refine WS.pure rfl rfl (fun _ => LV.fieldA Try.underlying66 rfl ti24.sz rfl) ?_
        refine WS.look rfl rfl (fun _ hk_ => LV.load1 Try.underlying24 rfl rfl (Blk.cellS (SH.stF hS3 (.tail _ (.head _))) 0 rfl _ hk_)) ?_
        refine WS.pure rfl rfl (fun _ => LV.mv rfl) ?_
        refine WS.pure rfl rfl (fun _ => LV.sub rfl rfl (wr64 (by omega) (by omega))) ?_
        refine WS.pure rfl rfl (fun _ => LV.mv rfl) ?_
        refine WS.pure rfl rfl (fun _ => LV.nilCheck rfl) ?_
        refine WS.pure rfl rfl (fun _ => LV.fieldA Try.underlying66 rfl ti24.sz rfl) ?_
        refine WS.look rfl rfl (fun _ hk_ => LV.load1 Try.underlying24 rfl rfl (Blk.cellS (SH.stF hS3 (.tail _ (.head _))) 0 rfl _ hk_)) ?_
        refine WS.pure rfl rfl (fun _ => LV.mv rfl) ?_
        refine WS.pure rfl rfl (fun _ => LV.sub rfl rfl (wr64 (by omega) (by omega))) ?_
        obtain ⟨A3, c3, e3, g2⟩ := St.eltS ((SH.stF hS3 (.tail _ (.tail _ (.head _)))).imp fun _ h => Row.rd h) default ((rows.length : Int) - 1) (by omega) (by rw [List.length_map]; omega)
        refine WS.pure rfl rfl (fun _ => LV.idxA Try.underlying24 ti39.sz rfl e3 rfl (by omega) (by rw [List.length_map]; omega)) ?_
        refine WS.pure rfl rfl (fun _ => LV.fieldA Try.underlying39 rfl ti22.sz rfl) ?_
        refine WS.look rfl rfl (fun _ hk_ => LV.load1 (v := (.slice (((rows.map (·.1)).getD ((rows.length : Int) - 1).toNat default).2.A) (((rows.map (·.1)).getD ((rows.length : Int) - 1).toNat default).2.n) (((rows.map (·.1)).getD ((rows.length : Int) - 1).toNat default).2.c))) Try.underlying22 rfl rfl (g2 _ hk_ 1 _ rfl)) ?_
        refine WS.pure rfl rfl (fun _ => LV.mv rfl) ?_
        refine WS.xe rfl rfl (XE.append hS3 Try.underlying22 ti41 rfl (St.now (SH.stN hS3 hl)) rfl rfl (by first | omega | simp only [List.length_append, List.length_cons, List.length_nil, List.length_take, List.length_reverse, List.length_drop] at *; omega) (by first | omega | simp only [List.length_append, List.length_cons, List.length_nil, List.length_take, List.length_reverse, List.length_drop] at *; omega)) ?_
        rintro _ w1 ⟨A4, c4, rfl, hS4, hk1⟩
        refine ⟨fun h_ => (KB.trans (KB.refl _ _) hk1 fun _ _ h_ => h_), ?_⟩
        obtain ⟨A5, c5, e4, g3⟩ := St.eltS ((SH.stF hS3 (.tail _ (.tail _ (.head _)))).imp fun _ h => Row.rd h) default ((rows.length : Int) - 1) (by omega) (by rw [List.length_map]; omega)
        refine WS.pure rfl rfl (fun _ => LV.idxA Try.underlying24 ti39.sz rfl e4 rfl (by omega) (by rw [List.length_map]; omega)) ?_
        refine WS.pure rfl rfl (fun _ => LV.fieldA Try.underlying39 rfl ti22.sz rfl) ?_
        have hS6 : SH w S w1 [rowE eE 39 (.slice A rows.length c) (rows.map (fun p : ED × List Ln => p.1)), rowE eL 41 (.slice A4 ((((rows.getD ((rows.length : Int) - 1).toNat default).2) ++ l).length) c4) (((rows.getD ((rows.length : Int) - 1).toNat default).2) ++ l), insE (fun p : ED => p.2) eL 41 (rows.take ((rows.length : Int) - 1).toNat ++ rows.drop (((rows.length : Int) - 1).toNat + 1)), blkE rb 66 #[(.slice A rows.length c), wv]] := (SH.front [rowE eL 41 (.slice A4 ((((rows.getD ((rows.length : Int) - 1).toNat default).2) ++ l).length) c4) (((rows.getD ((rows.length : Int) - 1).toNat default).2) ++ l), insE (fun p : ED => p.2) eL 41 (rows.take ((rows.length : Int) - 1).toNat ++ rows.drop (((rows.length : Int) - 1).toNat + 1)), blkE rb 66 #[(.slice A rows.length c), wv]] hS4)
        refine WS.xse rfl rfl (XSE.row1 (i := (rows.length : Int) - 1) (o := 1) (k := default) (((rows.map (·.1)).getD ((rows.length : Int) - 1).toNat default).1, (⟨A4, (((rows.getD ((rows.length : Int) - 1).toNat default).2) ++ l).length, c4⟩ : SV)) hS6 e4 (by omega) (by rw [List.length_map]; omega) (by decide) ti22.sz rfl rfl rfl rfl) ?_
        rintro w2 ⟨hS5, hk2⟩
        refine ⟨fun h_ => (by cases h_), ?_⟩
        refine WS.nil (blockQ.n <| ?_)
        have hS7 := SH.nestSet (rows := rows) (k := ((rows.length : Int) - 1).toNat) (sv := fun p : ED => p.2) (r := (((rows.map (·.1)).getD ((rows.length : Int) - 1).toNat default).1, (⟨A4, (((rows.getD ((rows.length : Int) - 1).toNat default).2) ++ l).length, c4⟩ : SV))) (xs := (((rows.getD ((rows.length : Int) - 1).toNat default).2) ++ l)) (by omega) rfl hS5
        have hS8 := SH.front [_, _] hS7
        exact ⟨_, fun a ha => res0 rfl, A, c, _, rfl, addS_more (sv := (⟨A4, (((rows.getD ((rows.length : Int) - 1).toNat default).2) ++ l).length, c4⟩ : SV)) (fun h_ => by subst h_; simp at *) (by omega) (by omega), (by simp), (by rw [List.length_set]; exact hS8)⟩
      · skip
        have hS9 := SH.drew hS
        refine WC.regionD [10, 13] (fun w_ => KB No w.drew w_) [(.pure, 0), (.pure, 1), (.pure, 2), (.pure, 3), (.look, 4), (.pure, 5), (.pure, 6), (.forced, 7), (.pure, 8), (.forced, 9), (.forced, 10), (.pure, 11), (.pure, 12), (.forced, 13)] (by kernel_rfl) (by kernel_rfl) (KB.refl _ _) ?_
        iterate 2 refine WS.pure rfl rfl (fun _ => LV.mv rfl) ?_
        refine WS.pure rfl rfl (fun _ => LV.nilCheck rfl) ?_
        refine WS.pure rfl rfl (fun _ => LV.fieldA Try.underlying66 rfl ti24.sz rfl) ?_
        refine WS.look rfl rfl (fun _ hk_ => LV.load1 Try.underlying24 rfl rfl (Blk.cellN (SH.at hS9 (.head _)) 0 rfl _ hk_)) ?_
        iterate 2 refine WS.pure rfl rfl (fun _ => LV.mv rfl) ?_
        refine WS.call rfl rfl (XC.fn Try.func53 (by kernel_rfl) rfl rfl rfl) (clone_calls (SH.stN hS9 hl) (by omega)) ?_
        rintro v_ w3 ⟨A6, c6, rfl, hS10⟩
        have hS11 := SH.joinN hS9 hS10
        refine ⟨fun h_ => (KB.transN (KB.refl _ _) hS10.kb), ?_⟩
        refine WS.pure rfl rfl (fun _ => LV.build (vs := [(0, (.int .i64 do_)), (1, (.slice A6 l.length c6))]) (places := #[(0, 1), (1, 1)]) (cs := #[(.int .i64 do_), (.slice A6 l.length c6)]) Try.underlying39 ti39 (fun _ => by kernel_rfl) rfl rfl) ?_
        refine WS.xe rfl rfl (XE.buildSlice (E := eE) [(0, (.agg #[(.int .i64 do_), (.slice A6 l.length c6)]))] #[(.int .i64 do_), (.slice A6 l.length c6)] [(do_, (⟨A6, l.length, c6⟩ : SV))] hS11 Try.underlying24 ti39 rfl (by decide) (by kernel_rfl) (.inr rfl) rfl rfl (by decide)) ?_
        rintro _ w4 ⟨b1, rfl, hS12, hk3⟩
        refine ⟨fun h_ => (KB.transN (KB.transN (KB.refl _ _) hS10.kb) hk3), ?_⟩
        have hS13 : SH w S w4 [rowE eE 39 (.slice A rows.length c) (rows.map (fun p : ED × List Ln => p.1)), rowE eE 39 (.slice (some ⟨b1, 0, none⟩) 1 1) [(do_, (⟨A6, l.length, c6⟩ : SV))], rowE eL 41 (.slice A6 l.length c6) l, blkE rb 66 #[(.slice A rows.length c), wv], insE (fun p : ED => p.2) eL 41 rows] := (SH.front [rowE eE 39 (.slice (some ⟨b1, 0, none⟩) 1 1) [(do_, (⟨A6, l.length, c6⟩ : SV))], rowE eL 41 (.slice A6 l.length c6) l, blkE rb 66 #[(.slice A rows.length c), wv]] hS12)
        refine WS.xe rfl rfl (XE.appendQ (rows := rows) (r := (do_, (⟨A6, l.length, c6⟩ : SV))) l hS13 Try.underlying24 ti39 rfl (St.now (SH.rd hS13 (.tail _ (.head _)))) rfl rfl (by first | omega | (simp; omega)) (by first | omega | (simp; omega))) ?_
        rintro _ w5 ⟨A7, c7, rfl, hS14, hk4⟩
        refine ⟨fun h_ => (by cases h_), ?_⟩
        refine WS.pure rfl rfl (fun _ => LV.nilCheck rfl) ?_
        refine WS.pure rfl rfl (fun _ => LV.fieldA Try.underlying66 rfl ti24.sz rfl) ?_
        have hS16 : SH w S w5 [blkE rb 66 #[(.slice A rows.length c), wv], rowE eE 39 (.slice A7 ((rows ++ [((do_, (⟨A6, l.length, c6⟩ : SV)), l)]).length) c7) ((rows ++ [((do_, (⟨A6, l.length, c6⟩ : SV)), l)]).map (fun p : ED × List Ln => p.1)), rowE eE 39 (.slice (some ⟨b1, 0, none⟩) 1 1) [(do_, (⟨A6, l.length, c6⟩ : SV))], rowE eL 41 (.slice A6 l.length c6) l, insE (fun p : ED => p.2) eL 41 rows] := (SH.front [rowE eE 39 (.slice A7 ((rows ++ [((do_, (⟨A6, l.length, c6⟩ : SV)), l)]).length) c7) ((rows ++ [((do_, (⟨A6, l.length, c6⟩ : SV)), l)]).map (fun p : ED × List Ln => p.1)), rowE eE 39 (.slice (some ⟨b1, 0, none⟩) 1 1) [(do_, (⟨A6, l.length, c6⟩ : SV))], rowE eL 41 (.slice A6 l.length c6) l] hS14)
        refine WS.xse rfl rfl (XSE.blk #[(.slice A7 ((rows ++ [((do_, (⟨A6, l.length, c6⟩ : SV)), l)]).length) c7), wv] hS16 (Nat.le_of_ble_eq_true rfl) ti24.sz rfl rfl rfl rfl) ?_
        rintro w6 ⟨hS15, hk5⟩
        refine ⟨fun h_ => (by cases h_), ?_⟩
        refine WS.nil (blockQ.n <| ?_)
        have hS17 : SH w S w6 [rowE eL 41 (.slice A6 l.length c6) l, insE (fun p : ED => p.2) eL 41 rows, blkE rb 66 #[(.slice A7 ((rows ++ [((do_, (⟨A6, l.length, c6⟩ : SV)), l)]).length) c7), wv], rowE eE 39 (.slice A7 ((rows ++ [((do_, (⟨A6, l.length, c6⟩ : SV)), l)]).length) c7) ((rows ++ [((do_, (⟨A6, l.length, c6⟩ : SV)), l)]).map (fun p : ED × List Ln => p.1))] := (SH.take 4 rfl (SH.front [insE (fun p : ED => p.2) eL 41 rows, blkE rb 66 #[(.slice A7 ((rows ++ [((do_, (⟨A6, l.length, c6⟩ : SV)), l)]).length) c7), wv], rowE eE 39 (.slice A7 ((rows ++ [((do_, (⟨A6, l.length, c6⟩ : SV)), l)]).length) c7) ((rows ++ [((do_, (⟨A6, l.length, c6⟩ : SV)), l)]).map (fun p : ED × List Ln => p.1)), rowE eE 39 (.slice (some ⟨b1, 0, none⟩) 1 1) [(do_, (⟨A6, l.length, c6⟩ : SV))]] (SH.front [blkE rb 66 #[(.slice A7 ((rows ++ [((do_, (⟨A6, l.length, c6⟩ : SV)), l)]).length) c7), wv], rowE eE 39 (.slice A7 ((rows ++ [((do_, (⟨A6, l.length, c6⟩ : SV)), l)]).length) c7) ((rows ++ [((do_, (⟨A6, l.length, c6⟩ : SV)), l)]).map (fun p : ED × List Ln => p.1)), rowE eE 39 (.slice (some ⟨b1, 0, none⟩) 1 1) [(do_, (⟨A6, l.length, c6⟩ : SV))], rowE eL 41 (.slice A6 l.length c6) l] (SH.front [rowE eE 39 (.slice A7 ((rows ++ [((do_, (⟨A6, l.length, c6⟩ : SV)), l)]).length) c7) ((rows ++ [((do_, (⟨A6, l.length, c6⟩ : SV)), l)]).map (fun p : ED × List Ln => p.1))] (SH.front [blkE rb 66 #[(.slice A7 ((rows ++ [((do_, (⟨A6, l.length, c6⟩ : SV)), l)]).length) c7), wv]] hS15)))))
        have hS18 := SH.insMore (sv := fun p : ED => p.2) (r := (do_, (⟨A6, l.length, c6⟩ : SV))) rfl hS17
        have hS19 := SH.perm hS18 ((List.Perm.swap _ _ _).trans ((List.Perm.swap _ _ _).cons _))
        exact ⟨_, fun a ha => res0 rfl, _, _, _, rfl, addS_new (fun h_ => by subst h_; simp at *) (by omega), (by simp), hS19⟩
    · refine WL.lv rfl (LV.as (LV.gtI rfl rfl) (decide_eq_false hg1)) ?_
      refine WL.lv rfl (LV.mv rfl) ?_
      iterate 11 refine WL.off rfl ?_
      refine WL.lv rfl (LV.pickF rfl rfl) ?_
      refine WL.lv rfl (LV.asg rfl) ?_
      refine WL.nil (thenQ.n ?_)
      refine WC.condF rfl ?_
      have hS20 := SH.drew hS
      refine WC.regionD [10, 13] (fun w_ => KB No w.drew w_) [(.pure, 0), (.pure, 1), (.pure, 2), (.pure, 3), (.look, 4), (.pure, 5), (.pure, 6), (.forced, 7), (.pure, 8), (.forced, 9), (.forced, 10), (.pure, 11), (.pure, 12), (.forced, 13)] (by kernel_rfl) (by kernel_rfl) (KB.refl _ _) ?_
      iterate 2 refine WS.pure rfl rfl (fun _ => LV.mv rfl) ?_
      refine WS.pure rfl rfl (fun _ => LV.nilCheck rfl) ?_
      refine WS.pure rfl rfl (fun _ => LV.fieldA Try.underlying66 rfl ti24.sz rfl) ?_
      refine WS.look rfl rfl (fun _ hk_ => LV.load1 Try.underlying24 rfl rfl (Blk.cellN (SH.at hS20 (.head _)) 0 rfl _ hk_)) ?_
      iterate 2 refine WS.pure rfl rfl (fun _ => LV.mv rfl) ?_
      refine WS.call rfl rfl (XC.fn Try.func53 (by kernel_rfl) rfl rfl rfl) (clone_calls (SH.stN hS20 hl) (by omega)) ?_
      rintro v_ w7 ⟨A8, c8, rfl, hS21⟩
      have hS22 := SH.joinN hS20 hS21
      refine ⟨fun h_ => (KB.transN (KB.refl _ _) hS21.kb), ?_⟩
      refine WS.pure rfl rfl (fun _ => LV.build (vs := [(0, (.int .i64 do_)), (1, (.slice A8 l.length c8))]) (places := #[(0, 1), (1, 1)]) (cs := #[(.int .i64 do_), (.slice A8 l.length c8)]) Try.underlying39 ti39 (fun _ => by kernel_rfl) rfl rfl) ?_
      refine WS.xe rfl rfl (XE.buildSlice (E := eE) [(0, (.agg #[(.int .i64 do_), (.slice A8 l.length c8)]))] #[(.int .i64 do_), (.slice A8 l.length c8)] [(do_, (⟨A8, l.length, c8⟩ : SV))] hS22 Try.underlying24 ti39 rfl (by decide) (by kernel_rfl) (.inr rfl) rfl rfl (by decide)) ?_
      rintro _ w8 ⟨b2, rfl, hS23, hk6⟩
      refine ⟨fun h_ => (KB.transN (KB.transN (KB.refl _ _) hS21.kb) hk6), ?_⟩
      have hS24 : SH w S w8 [rowE eE 39 (.slice A rows.length c) (rows.map (fun p : ED × List Ln => p.1)), rowE eE 39 (.slice (some ⟨b2, 0, none⟩) 1 1) [(do_, (⟨A8, l.length, c8⟩ : SV))], rowE eL 41 (.slice A8 l.length c8) l, blkE rb 66 #[(.slice A rows.length c), wv], insE (fun p : ED => p.2) eL 41 rows] := (SH.front [rowE eE 39 (.slice (some ⟨b2, 0, none⟩) 1 1) [(do_, (⟨A8, l.length, c8⟩ : SV))], rowE eL 41 (.slice A8 l.length c8) l, blkE rb 66 #[(.slice A rows.length c), wv]] hS23)
      refine WS.xe rfl rfl (XE.appendQ (rows := rows) (r := (do_, (⟨A8, l.length, c8⟩ : SV))) l hS24 Try.underlying24 ti39 rfl (St.now (SH.rd hS24 (.tail _ (.head _)))) rfl rfl (by first | omega | (simp; omega)) (by first | omega | (simp; omega))) ?_
      rintro _ w9 ⟨A9, c9, rfl, hS25, hk7⟩
      refine ⟨fun h_ => (by cases h_), ?_⟩
      refine WS.pure rfl rfl (fun _ => LV.nilCheck rfl) ?_
      refine WS.pure rfl rfl (fun _ => LV.fieldA Try.underlying66 rfl ti24.sz rfl) ?_
      have hS27 : SH w S w9 [blkE rb 66 #[(.slice A rows.length c), wv], rowE eE 39 (.slice A9 ((rows ++ [((do_, (⟨A8, l.length, c8⟩ : SV)), l)]).length) c9) ((rows ++ [((do_, (⟨A8, l.length, c8⟩ : SV)), l)]).map (fun p : ED × List Ln => p.1)), rowE eE 39 (.slice (some ⟨b2, 0, none⟩) 1 1) [(do_, (⟨A8, l.length, c8⟩ : SV))], rowE eL 41 (.slice A8 l.length c8) l, insE (fun p : ED => p.2) eL 41 rows] := (SH.front [rowE eE 39 (.slice A9 ((rows ++ [((do_, (⟨A8, l.length, c8⟩ : SV)), l)]).length) c9) ((rows ++ [((do_, (⟨A8, l.length, c8⟩ : SV)), l)]).map (fun p : ED × List Ln => p.1)), rowE eE 39 (.slice (some ⟨b2, 0, none⟩) 1 1) [(do_, (⟨A8, l.length, c8⟩ : SV))], rowE eL 41 (.slice A8 l.length c8) l] hS25)
      refine WS.xse rfl rfl (XSE.blk #[(.slice A9 ((rows ++ [((do_, (⟨A8, l.length, c8⟩ : SV)), l)]).length) c9), wv] hS27 (Nat.le_of_ble_eq_true rfl) ti24.sz rfl rfl rfl rfl) ?_
      rintro w10 ⟨hS26, hk8⟩
      refine ⟨fun h_ => (by cases h_), ?_⟩
      refine WS.nil (blockQ.n <| ?_)
      have hS28 : SH w S w10 [rowE eL 41 (.slice A8 l.length c8) l, insE (fun p : ED => p.2) eL 41 rows, blkE rb 66 #[(.slice A9 ((rows ++ [((do_, (⟨A8, l.length, c8⟩ : SV)), l)]).length) c9), wv], rowE eE 39 (.slice A9 ((rows ++ [((do_, (⟨A8, l.length, c8⟩ : SV)), l)]).length) c9) ((rows ++ [((do_, (⟨A8, l.length, c8⟩ : SV)), l)]).map (fun p : ED × List Ln => p.1))] := (SH.take 4 rfl (SH.front [insE (fun p : ED => p.2) eL 41 rows, blkE rb 66 #[(.slice A9 ((rows ++ [((do_, (⟨A8, l.length, c8⟩ : SV)), l)]).length) c9), wv], rowE eE 39 (.slice A9 ((rows ++ [((do_, (⟨A8, l.length, c8⟩ : SV)), l)]).length) c9) ((rows ++ [((do_, (⟨A8, l.length, c8⟩ : SV)), l)]).map (fun p : ED × List Ln => p.1)), rowE eE 39 (.slice (some ⟨b2, 0, none⟩) 1 1) [(do_, (⟨A8, l.length, c8⟩ : SV))]] (SH.front [blkE rb 66 #[(.slice A9 ((rows ++ [((do_, (⟨A8, l.length, c8⟩ : SV)), l)]).length) c9), wv], rowE eE 39 (.slice A9 ((rows ++ [((do_, (⟨A8, l.length, c8⟩ : SV)), l)]).length) c9) ((rows ++ [((do_, (⟨A8, l.length, c8⟩ : SV)), l)]).map (fun p : ED × List Ln => p.1)), rowE eE 39 (.slice (some ⟨b2, 0, none⟩) 1 1) [(do_, (⟨A8, l.length, c8⟩ : SV))], rowE eL 41 (.slice A8 l.length c8) l] (SH.front [rowE eE 39 (.slice A9 ((rows ++ [((do_, (⟨A8, l.length, c8⟩ : SV)), l)]).length) c9) ((rows ++ [((do_, (⟨A8, l.length, c8⟩ : SV)), l)]).map (fun p : ED × List Ln => p.1))] (SH.front [blkE rb 66 #[(.slice A9 ((rows ++ [((do_, (⟨A8, l.length, c8⟩ : SV)), l)]).length) c9), wv]] hS26)))))
      have hS29 := SH.insMore (sv := fun p : ED => p.2) (r := (do_, (⟨A8, l.length, c8⟩ : SV))) rfl hS28
      have hS30 := SH.perm hS29 ((List.Perm.swap _ _ _).trans ((List.Perm.swap _ _ _).cons _))
      exact ⟨_, fun a ha => res0 rfl, _, _, _, rfl, addS_new (fun h_ => by subst h_; simp at *) (by omega), (by simp), hS30⟩

end Go.Proofs.Ytjmfoifohneanaa
