/- The document's normal form. -/
import Derived.Test.YtjmfoifohneanaaScQ
namespace Go.Proofs.Ytjmfoifohneanaa
open Go Go.Gv Go.RowKit Go.Mys Go.Num Go.Scr
set_option linter.unusedVariables false
set_option linter.unusedSimpArgs false

set_option maxHeartbeats 1000000 in
theorem rnormal_calls {w : World} {A_inp : Option Addr} {n_inp c_inp : Nat} {inp : List (ED × List Ln)} (h_inp : St No w (Rd eE (.slice A_inp n_inp c_inp) (inp.map (·.1)))) (hi_inp : St No w (RdIn (·.2) eL inp)) (hn_inp : inp.length = n_inp) (hm : ∀ p ∈ inp, p.2.length ≤ 140737488355328) :
    Calls Try.prog 25 #[(.slice A_inp n_inp c_inp)] w fun e w' => ∃ v, e = .returned v ∧ (fun v w' => ∃ (A0' : Option Addr) (c0' : Nat) (rows0' : List (ED × List Ln)), v = .tuple #[.slice A0' rows0'.length c0', .int .i64 (chk (scr inp))] ∧ scr rows0' = NF (scr inp) ∧ SH w No w' [rowE eE 39 (.slice A0' rows0'.length c0') (rows0'.map (fun p : ED × List Ln => p.1)), insE (fun p : ED => p.2) eL 41 rows0']) v w' := by
  subst hn_inp
  have hS : SH w No w [] := SH.nil _ _
  refine calls (l := litOf [(.slice A_inp inp.length c_inp)] 0) Try.func25 rfl (n := 94) rfl (Nat.le_of_ble_eq_true rfl) (lit_args _) ?_
  refine WC.seq ?_
  refine WC.region ?_
  iterate 2 refine WL.lv rfl (LV.asg rfl) ?_
  refine WL.nil (thenQ.n ?_)
  iterate 2 refine WC.seq ?_
  refine WC.region ?_
  refine WL.lv rfl (LV.mv rfl) ?_
  refine WL.call rfl (XC.fn Try.func17 (by kernel_rfl) rfl rfl rfl) (rcheck_calls (SH.stN hS h_inp) (SH.stN hS hi_inp) hm) ?_
  rintro v_ w1 ⟨rfl, hk1⟩
  have hS1 := SH.same hS hk1
  refine WL.lv rfl (LV.asg rfl) ?_
  refine WL.nil (thenQ.n ?_)
  refine WC.seq ?_
  refine WC.region ?_
  refine WL.lv rfl (LV.mv rfl) ?_
  refine WL.lv rfl (LV.neI rfl rfl) ?_
  refine WL.nil (thenQ.n ?_)
  refine WC.condP (p := (chk (scr inp)) ≠ 0) rfl (fun hc1 => ?_) (fun hc1 => ?_)
  · skip
    refine WC.seq ?_
    refine WC.region ?_
    refine WL.lv rfl (LV.mv rfl) ?_
    iterate 2 refine WL.lv rfl (LV.asg rfl) ?_
    refine WL.nil (thenQ.n ?_)
    refine WC.ret (thenQ.r <| ?_)
    have hS2 := SH.nilRow (E := eE) (T := 39) hS1
    have hS3 := SH.ins0 (sv := fun p : ED => p.2) (E := eL) (T1 := 41) hS2
    have hS4 : SH w No w1 [rowE eE 39 (.slice none 0 0) (([] : List (ED × List Ln)).map (fun p : ED × List Ln => p.1)), insE (fun p : ED => p.2) eL 41 []] := (SH.front [insE (fun p : ED => p.2) eL 41 []] hS3)
    exact ⟨_, fun a ha => res2 rfl ha rfl rfl, _, _, [], rfl, ((if_neg hc1).symm), hS4⟩
  · have hck : chk (scr inp) = 0 := Decidable.not_not.1 hc1
    have hl8 := (chk0 hck).1
    rw [scr_length] at hl8
    have ht8 := (chk0 hck).2.1
    refine WC.skip (thenQ.n ?_)
    refine WC.seq ?_
    refine WC.region ?_
    refine WL.xe rfl (XE.buildSlice (E := eE) [] #[] [] hS1 Try.underlying24 ti39 rfl (by decide) (by kernel_rfl) (.inr rfl) rfl rfl (by decide)) ?_
    rintro _ w2 ⟨b1, rfl, hS5, hk2⟩
    have hS6 : SH w No w2 [insE (fun p : ED => p.2) eL 41 [], rowE eE 39 (.slice (some ⟨b1, 0, none⟩) 0 0) (([] : List (ED × List Ln)).map (fun p : ED × List Ln => p.1))] := SH.ins0 (sv := fun p : ED => p.2) (E := eL) (T1 := 41) hS5
    refine WL.lv rfl (LV.asg rfl) ?_
    refine WL.nil (thenQ.n ?_)
    refine WC.seq ?_
    refine WC.region ?_
    refine WL.xe rfl (XE.buildSlice (E := eL) [] #[] [] hS6 Try.underlying22 ti41 rfl (by decide) (by kernel_rfl) (.inr rfl) rfl rfl (by decide)) ?_
    rintro _ w3 ⟨b2, rfl, hS7, hk3⟩
    refine WL.lv rfl (LV.asg rfl) ?_
    refine WL.nil (thenQ.n ?_)
    refine WC.seq ?_
    refine WC.region ?_
    refine WL.xe rfl (XE.buildSlice (E := eL) [] #[] [] hS7 Try.underlying22 ti41 rfl (by decide) (by kernel_rfl) (.inr rfl) rfl rfl (by decide)) ?_
    rintro _ w4 ⟨b3, rfl, hS8, hk4⟩
    refine WL.lv rfl (LV.asg rfl) ?_
    refine WL.nil (thenQ.n ?_)
    refine WC.seq ?_
    refine WC.region ?_
    refine WL.xe rfl (XE.buildSlice (E := eL) [] #[] [] hS8 Try.underlying22 ti41 rfl (by decide) (by kernel_rfl) (.inr rfl) rfl rfl (by decide)) ?_
    rintro _ w5 ⟨b4, rfl, hS9, hk5⟩
    refine WL.lv rfl (LV.asg rfl) ?_
    refine WL.nil (thenQ.n ?_)
    iterate 2 refine WC.seq ?_
    refine WC.region ?_
    refine WL.lv rfl (LV.asg rfl) ?_
    refine WL.nil (thenQ.n ?_)
    refine WC.block ?_
    refine WC.loop (fun m_ f_ w_ => ∃ (A_out : Option Addr) (c_out : Nat) (out : List (ED × List Ln)) (A_keep : Option Addr) (c_keep : Nat) (keep : List Ln) (A_gone : Option Addr) (c_gone : Nat) (gone : List Ln) (A_made : Option Addr) (c_made : Nat) (made : List Ln) (i : Int), (0 ≤ i) ∧ (i ≤ (inp.length : Int)) ∧ (((scr inp).take i.toNat).foldl takeS ([], []) = NS (scr out) keep gone made) ∧ (NI (scr out) keep) ∧ (tot (scr out) + keep.length + gone.length + made.length ≤ tot ((scr inp).take i.toNat)) ∧ ((out.length : Int) ≤ 3 * i) ∧ SH w No w_ [rowE eL 41 (.slice A_made made.length c_made) made, rowE eL 41 (.slice A_gone gone.length c_gone) gone, rowE eL 41 (.slice A_keep keep.length c_keep) keep, insE (fun p : ED => p.2) eL 41 out, rowE eE 39 (.slice A_out out.length c_out) (out.map (fun p : ED × List Ln => p.1))] ∧ m_ = (((inp.length : Int) - i).toNat) ∧ Weak (lit [(0, (.slice A_inp inp.length c_inp)), (5, (.slice A_out out.length c_out)), (6, (.slice A_keep keep.length c_keep)), (7, (.slice A_gone gone.length c_gone)), (8, (.slice A_made made.length c_made)), (9, (.int .i64 i))]) f_) _ ⟨(some ⟨b1, 0, none⟩), 0, [], (some ⟨b2, 0, none⟩), 0, [], (some ⟨b3, 0, none⟩), 0, [], (some ⟨b4, 0, none⟩), 0, [], 0, by omega, by omega, rfl, (.inl rfl), (Nat.le_refl _), (by simp), hS9, rfl, Weak.cons rfl <| Weak.cons rfl <| Weak.cons rfl <| Weak.cons rfl <| Weak.cons rfl <| Weak.cons rfl <| Weak.nil _⟩ ?_
    rintro m1 f1 w6 ⟨A_out, c_out, out, A_keep, c_keep, keep, A_gone, c_gone, gone, A_made, c_made, made, i, ilo, ihi, q1, q2, q3, q4, hL1, rfl, hw1⟩
    refine WC.weak hw1 ?_
    clear hw1
    have htn := tot_take (scr inp) i.toNat
    iterate 2 refine WC.seq ?_
    refine WC.region ?_
    iterate 2 refine WL.lv rfl (LV.mv rfl) ?_
    refine WL.lv rfl (LV.lenL Try.underlying24 rfl) ?_
    refine WL.lv rfl (LV.ltI rfl rfl) ?_
    refine WL.nil (thenQ.n ?_)
    refine WC.condP (p := i < (inp.length : Int)) rfl (fun h22 => ?_) (fun h22 => ?_)
    · have hok := okS_at hck ilo h22
      have htm := tot_more ilo h22
      have htn2 := tot_take (scr inp) (i + 1).toNat
      refine WC.skip (thenQ.n ?_)
      refine WC.seq ?_
      refine WC.block ?_
      iterate 2 refine WC.seq ?_
      refine WC.region ?_
      iterate 2 refine WL.lv rfl (LV.mv rfl) ?_
      obtain ⟨A1, c1, A2, c2, e1, g1, e2, r1⟩ := St.eltE (SH.stN hL1 h_inp) (SH.stN hL1 hi_inp) default i (by omega) (by omega)
      refine WL.lv rfl (LV.idxA Try.underlying24 ti39.sz rfl e1 rfl (by omega) (by omega)) ?_
      refine WL.lv rfl (LV.fieldA Try.underlying39 rfl ti37.sz rfl) ?_
      refine WL.lv rfl (LV.load1 (v := (.int .i64 ((inp.getD (i).toNat default).1.1))) Try.underlying37 rfl rfl (g1 _ (KB.refl No _) 0 _ rfl)) ?_
      rcases Decidable.em (((inp.getD (i).toNat default).1.1) = 1) with hg1 | hg1
      · refine WL.lv rfl (LV.as (LV.eqI rfl rfl) (decide_eq_true hg1)) ?_
        iterate 3 refine WL.lv rfl (LV.mv rfl) ?_
        obtain ⟨A3, c3, A4, c4, e3, g2, e4, r2⟩ := St.eltE (SH.stN hL1 h_inp) (SH.stN hL1 hi_inp) default i (by omega) (by omega)
        refine WL.lv rfl (LV.idxA Try.underlying24 ti39.sz rfl e3 rfl (by omega) (by omega)) ?_
        refine WL.lv rfl (LV.fieldA Try.underlying39 rfl ti22.sz rfl) ?_
        refine WL.lv rfl (LV.load1 (v := (.slice A4 ((inp.getD (i).toNat default).2.length) c4)) Try.underlying22 rfl rfl (g2 _ (KB.refl No _) 1 _ rfl)) ?_
        refine WL.lv rfl (LV.lenL Try.underlying22 rfl) ?_
        rcases Decidable.em (((inp.getD (i).toNat default).2.length : Int) > 0) with hlen | hlen
        · refine WL.lv rfl (LV.as (LV.gtI rfl rfl) (decide_eq_true hlen)) ?_
          refine WL.lv rfl (LV.pickT rfl rfl) ?_
          iterate 2 refine WL.lv rfl (LV.mv rfl) ?_
          refine WL.lv rfl (LV.lenL Try.underlying22 rfl) ?_
          refine WL.lv rfl (LV.mv rfl) ?_
          refine WL.lv rfl (LV.lenL Try.underlying22 rfl) ?_
          refine WL.lv rfl (LV.add rfl rfl (wr64 (by omega) (by omega))) ?_
          refine WL.lv rfl (LV.gtI rfl rfl) ?_
          refine WL.lv rfl (LV.pickT rfl rfl) ?_
          refine WL.nil (thenQ.n ?_)
          refine WC.condP (p := ((gone.length : Int) + (made.length : Int)) > 0) rfl (fun hc2 => ?_) (fun hc2 => ?_)
          · skip
            refine WC.seq ?_
            refine WC.region ?_
            iterate 2 refine WL.lv rfl (LV.mv rfl) ?_
            have hS10 : SH w No w6 [insE (fun p : ED => p.2) eL 41 out, rowE eL 41 (.slice A_made made.length c_made) made, rowE eL 41 (.slice A_gone gone.length c_gone) gone, rowE eL 41 (.slice A_keep keep.length c_keep) keep, rowE eE 39 (.slice A_out out.length c_out) (out.map (fun p : ED × List Ln => p.1))] := (SH.front [rowE eL 41 (.slice A_made made.length c_made) made, rowE eL 41 (.slice A_gone gone.length c_gone) gone, rowE eL 41 (.slice A_keep keep.length c_keep) keep] hL1)
            have hS11 : SH w No w6 [rowE eE 39 (.slice A_out out.length c_out) (out.map (fun p : ED × List Ln => p.1)), insE (fun p : ED => p.2) eL 41 out, rowE eL 41 (.slice A_made made.length c_made) made, rowE eL 41 (.slice A_gone gone.length c_gone) gone, rowE eL 41 (.slice A_keep keep.length c_keep) keep] := (SH.front [insE (fun p : ED => p.2) eL 41 out, rowE eL 41 (.slice A_made made.length c_made) made, rowE eL 41 (.slice A_gone gone.length c_gone) gone, rowE eL 41 (.slice A_keep keep.length c_keep) keep] hS10)
            have hT1 := SH.sub (Es := [rowE eE 39 (.slice A_out out.length c_out) (out.map (fun p : ED × List Ln => p.1)), insE (fun p : ED => p.2) eL 41 out]) hS11
            refine WL.call rfl (XC.fn Try.func36 (by kernel_rfl) rfl rfl rfl) (lay_calls (do_ := 1) hT1 ((SH.stE (Es := [rowE eE 39 (.slice A_out out.length c_out) (out.map (fun p : ED × List Ln => p.1)), insE (fun p : ED => p.2) eL 41 out]) hS11 (.tail _ (.tail _ (.head _)))).imp fun _ h => Row.rd h) (by omega) (by omega) (fun p hp => Nat.le_trans (tot_mem hp) (by omega))) ?_
            rintro v_ w7 ⟨A5, c5, rows1, rfl, hlay11, hlay12, hU1⟩
            have hlay1 := And.intro hlay11 hlay12
            have htothlay1 := tot_lay (scr out) 1 keep
            rw [← hlay1.1] at htothlay1
            have hS12 := SH.back (Es := [rowE eE 39 (.slice A_out out.length c_out) (out.map (fun p : ED × List Ln => p.1)), insE (fun p : ED => p.2) eL 41 out]) hS11 hU1
            refine WL.lv rfl (LV.mv rfl) ?_
            have hS13 : SH w No w7 [insE (fun p : ED => p.2) eL 41 rows1, rowE eE 39 (.slice A5 rows1.length c5) (rows1.map (fun p : ED × List Ln => p.1)), rowE eL 41 (.slice A_made made.length c_made) made, rowE eL 41 (.slice A_gone gone.length c_gone) gone, rowE eL 41 (.slice A_keep keep.length c_keep) keep] := (SH.front [rowE eE 39 (.slice A5 rows1.length c5) (rows1.map (fun p : ED × List Ln => p.1))] hS12)
            have hS14 : SH w No w7 [rowE eE 39 (.slice A5 rows1.length c5) (rows1.map (fun p : ED × List Ln => p.1)), insE (fun p : ED => p.2) eL 41 rows1, rowE eL 41 (.slice A_made made.length c_made) made, rowE eL 41 (.slice A_gone gone.length c_gone) gone, rowE eL 41 (.slice A_keep keep.length c_keep) keep] := (SH.front [insE (fun p : ED => p.2) eL 41 rows1] hS13)
            have hT2 := SH.sub (Es := [rowE eE 39 (.slice A5 rows1.length c5) (rows1.map (fun p : ED × List Ln => p.1)), insE (fun p : ED => p.2) eL 41 rows1]) hS14
            refine WL.call rfl (XC.fn Try.func36 (by kernel_rfl) rfl rfl rfl) (lay_calls (do_ := 2) hT2 ((SH.stE (Es := [rowE eE 39 (.slice A5 rows1.length c5) (rows1.map (fun p : ED × List Ln => p.1)), insE (fun p : ED => p.2) eL 41 rows1]) hS14 (.tail _ (.head _))).imp fun _ h => Row.rd h) (by omega) (by omega) (fun p hp => Nat.le_trans (tot_mem hp) (by omega))) ?_
            rintro v_ w8 ⟨A6, c6, rows2, rfl, hlay21, hlay22, hU2⟩
            have hlay2 := And.intro hlay21 hlay22
            have htothlay2 := tot_lay (scr rows1) 2 gone
            rw [← hlay2.1] at htothlay2
            have hS15 := SH.back (Es := [rowE eE 39 (.slice A5 rows1.length c5) (rows1.map (fun p : ED × List Ln => p.1)), insE (fun p : ED => p.2) eL 41 rows1]) hS14 hU2
            refine WL.lv rfl (LV.mv rfl) ?_
            have hS16 : SH w No w8 [insE (fun p : ED => p.2) eL 41 rows2, rowE eE 39 (.slice A6 rows2.length c6) (rows2.map (fun p : ED × List Ln => p.1)), rowE eL 41 (.slice A_made made.length c_made) made, rowE eL 41 (.slice A_gone gone.length c_gone) gone, rowE eL 41 (.slice A_keep keep.length c_keep) keep] := (SH.front [rowE eE 39 (.slice A6 rows2.length c6) (rows2.map (fun p : ED × List Ln => p.1))] hS15)
            have hS17 : SH w No w8 [rowE eE 39 (.slice A6 rows2.length c6) (rows2.map (fun p : ED × List Ln => p.1)), insE (fun p : ED => p.2) eL 41 rows2, rowE eL 41 (.slice A_made made.length c_made) made, rowE eL 41 (.slice A_gone gone.length c_gone) gone, rowE eL 41 (.slice A_keep keep.length c_keep) keep] := (SH.front [insE (fun p : ED => p.2) eL 41 rows2] hS16)
            have hT3 := SH.sub (Es := [rowE eE 39 (.slice A6 rows2.length c6) (rows2.map (fun p : ED × List Ln => p.1)), insE (fun p : ED => p.2) eL 41 rows2]) hS17
            refine WL.call rfl (XC.fn Try.func36 (by kernel_rfl) rfl rfl rfl) (lay_calls (do_ := 3) hT3 ((SH.stE (Es := [rowE eE 39 (.slice A6 rows2.length c6) (rows2.map (fun p : ED × List Ln => p.1)), insE (fun p : ED => p.2) eL 41 rows2]) hS17 (.head _)).imp fun _ h => Row.rd h) (by omega) (by omega) (fun p hp => Nat.le_trans (tot_mem hp) (by omega))) ?_
            rintro v_ w9 ⟨A7, c7, rows3, rfl, hlay31, hlay32, hU3⟩
            have hlay3 := And.intro hlay31 hlay32
            have htothlay3 := tot_lay (scr rows2) 3 made
            rw [← hlay3.1] at htothlay3
            have hS18 := SH.back (Es := [rowE eE 39 (.slice A6 rows2.length c6) (rows2.map (fun p : ED × List Ln => p.1)), insE (fun p : ED => p.2) eL 41 rows2]) hS17 hU3
            refine WL.lv rfl (LV.asg rfl) ?_
            refine WL.nil (thenQ.n ?_)
            refine WC.seq ?_
            refine WC.region ?_
            refine WL.lv rfl (LV.asg rfl) ?_
            refine WL.nil (thenQ.n ?_)
            refine WC.seq ?_
            refine WC.region ?_
            refine WL.lv rfl (LV.asg rfl) ?_
            refine WL.nil (thenQ.n ?_)
            refine WC.region ?_
            refine WL.lv rfl (LV.asg rfl) ?_
            refine WL.nil (thenQ.n ?_)
            refine WC.seq ?_
            refine WC.region ?_
            have hS19 := SH.nilRow (E := eL) (T := 41) hS18
            have hS20 := SH.nilRow (E := eL) (T := 41) hS19
            have hS21 := SH.nilRow (E := eL) (T := 41) hS20
            iterate 2 refine WL.lv rfl (LV.mv rfl) ?_
            obtain ⟨A8, c8, A9, c9, e5, g3, e6, r3⟩ := St.eltE (SH.stN hS21 h_inp) (SH.stN hS21 hi_inp) default i (by omega) (by omega)
            refine WL.lv rfl (LV.idxA Try.underlying24 ti39.sz rfl e5 rfl (by omega) (by omega)) ?_
            refine WL.lv rfl (LV.fieldA Try.underlying39 rfl ti37.sz rfl) ?_
            refine WL.lv rfl (LV.load1 (v := (.int .i64 ((inp.getD (i).toNat default).1.1))) Try.underlying37 rfl rfl (g3 _ (KB.refl No _) 0 _ rfl)) ?_
            refine WL.nil (thenQ.n ?_)
            refine WC.block ?_
            refine WC.seq ?_
            refine WC.region ?_
            refine WL.lv rfl (LV.eqI rfl rfl) ?_
            refine WL.lv rfl (LV.asg rfl) ?_
            refine WL.nil (thenQ.n ?_)
            refine WC.condP (p := ((inp.getD (i).toNat default).1.1) = 1) rfl (fun hc3 => ?_) (fun hc3 => ?_)
            · refine WC.region ?_
              iterate 3 refine WL.lv rfl (LV.mv rfl) ?_
              obtain ⟨A10, c10, A11, c11, e7, g4, e8, r4⟩ := St.eltE (SH.stN hS21 h_inp) (SH.stN hS21 hi_inp) default i (by omega) (by omega)
              refine WL.lv rfl (LV.idxA Try.underlying24 ti39.sz rfl e7 rfl (by omega) (by omega)) ?_
              refine WL.lv rfl (LV.fieldA Try.underlying39 rfl ti22.sz rfl) ?_
              refine WL.lv rfl (LV.load1 (v := (.slice A11 ((inp.getD (i).toNat default).2.length) c11)) Try.underlying22 rfl rfl (g4 _ (KB.refl No _) 1 _ rfl)) ?_
              have hS22 : SH w No w9 [rowE eL 41 (.slice none 0 0) [], rowE eL 41 (.slice none 0 0) [], rowE eL 41 (.slice none 0 0) [], rowE eE 39 (.slice A7 rows3.length c7) (rows3.map (fun p : ED × List Ln => p.1)), insE (fun p : ED => p.2) eL 41 rows3, rowE eL 41 (.slice A_made made.length c_made) made, rowE eL 41 (.slice A_gone gone.length c_gone) gone, rowE eL 41 (.slice A_keep keep.length c_keep) keep] := (SH.front [rowE eL 41 (.slice none 0 0) [], rowE eL 41 (.slice none 0 0) []] hS21)
              refine WL.xe rfl (XE.append hS22 Try.underlying22 ti41 rfl (St.now (St.innerQ (SH.stN hS22 hi_inp) (getD_mem (by omega)) e8)) rfl rfl (by first | omega | simp only [List.length_append, List.length_cons, List.length_nil, List.length_take, List.length_reverse, List.length_drop] at *; omega) (by first | omega | simp only [List.length_append, List.length_cons, List.length_nil, List.length_take, List.length_reverse, List.length_drop] at *; omega)) ?_
              rintro _ w10 ⟨A12, c12, rfl, hS23, hk6⟩
              refine WL.lv rfl (LV.asg rfl) ?_
              refine WL.nil (blockQ.n <| blockQ.n <| thenQ.n ?_)
              refine WC.region ?_
              refine WL.lv rfl (LV.mv rfl) ?_
              refine WL.lv rfl (LV.add rfl rfl (wr64 (by omega) (by omega))) ?_
              refine WL.lv rfl (LV.asg rfl) ?_
              refine WL.nil (thenQ.n ?_)
              have hS24 : SH w No w10 [rowE eL 41 (.slice none 0 0) [], rowE eL 41 (.slice none 0 0) [], rowE eL 41 (.slice A12 ((([] : List Ln) ++ ((inp.getD (i).toNat default).2)).length) c12) (([] : List Ln) ++ ((inp.getD (i).toNat default).2)), insE (fun p : ED => p.2) eL 41 rows3, rowE eE 39 (.slice A7 rows3.length c7) (rows3.map (fun p : ED × List Ln => p.1))] := (SH.take 5 rfl (SH.front [rowE eL 41 (.slice none 0 0) [], rowE eL 41 (.slice A12 ((([] : List Ln) ++ ((inp.getD (i).toNat default).2)).length) c12) (([] : List Ln) ++ ((inp.getD (i).toNat default).2)), insE (fun p : ED => p.2) eL 41 rows3, rowE eE 39 (.slice A7 rows3.length c7) (rows3.map (fun p : ED × List Ln => p.1))] (SH.front [rowE eL 41 (.slice A12 ((([] : List Ln) ++ ((inp.getD (i).toNat default).2)).length) c12) (([] : List Ln) ++ ((inp.getD (i).toNat default).2)), insE (fun p : ED => p.2) eL 41 rows3, rowE eE 39 (.slice A7 rows3.length c7) (rows3.map (fun p : ED × List Ln => p.1)), rowE eL 41 (.slice none 0 0) []] (SH.front [insE (fun p : ED => p.2) eL 41 rows3, rowE eE 39 (.slice A7 rows3.length c7) (rows3.map (fun p : ED × List Ln => p.1))] (SH.front [rowE eE 39 (.slice A7 rows3.length c7) (rows3.map (fun p : ED × List Ln => p.1)), rowE eL 41 (.slice A12 ((([] : List Ln) ++ ((inp.getD (i).toNat default).2)).length) c12) (([] : List Ln) ++ ((inp.getD (i).toNat default).2)), rowE eL 41 (.slice none 0 0) [], rowE eL 41 (.slice none 0 0) []] (SH.front [rowE eL 41 (.slice A12 ((([] : List Ln) ++ ((inp.getD (i).toNat default).2)).length) c12) (([] : List Ln) ++ ((inp.getD (i).toNat default).2)), rowE eL 41 (.slice none 0 0) [], rowE eL 41 (.slice none 0 0) []] hS23))))))
              exact ⟨_, by omega, A7, c7, rows3, A12, c12, (([] : List Ln) ++ ((inp.getD (i).toNat default).2)), none, 0, [], none, 0, [], i + 1, by omega, by omega, (by rw [fold_more ilo h22, hlay3.1, hlay2.1, hlay1.1]; exact ns_flush q1 q2 hc3 hlen), (by rw [hlay3.1, hlay2.1, hlay1.1]; exact ni_flush q2 hlen hc2), (by first | omega | (simp only [List.length_append, List.length_nil]; omega)), by omega, hS24, rfl, Weak.cons rfl <| Weak.cons rfl <| Weak.cons rfl <| Weak.cons rfl <| Weak.cons rfl <| Weak.cons rfl <| Weak.nil _⟩
            · exact absurd hg1 hc3
          · skip
            refine WC.skip (thenQ.n ?_)
            refine WC.seq ?_
            refine WC.region ?_
            iterate 2 refine WL.lv rfl (LV.mv rfl) ?_
            obtain ⟨A13, c13, A14, c14, e9, g5, e10, r5⟩ := St.eltE (SH.stN hL1 h_inp) (SH.stN hL1 hi_inp) default i (by omega) (by omega)
            refine WL.lv rfl (LV.idxA Try.underlying24 ti39.sz rfl e9 rfl (by omega) (by omega)) ?_
            refine WL.lv rfl (LV.fieldA Try.underlying39 rfl ti37.sz rfl) ?_
            refine WL.lv rfl (LV.load1 (v := (.int .i64 ((inp.getD (i).toNat default).1.1))) Try.underlying37 rfl rfl (g5 _ (KB.refl No _) 0 _ rfl)) ?_
            refine WL.nil (thenQ.n ?_)
            refine WC.block ?_
            refine WC.seq ?_
            refine WC.region ?_
            refine WL.lv rfl (LV.eqI rfl rfl) ?_
            refine WL.lv rfl (LV.asg rfl) ?_
            refine WL.nil (thenQ.n ?_)
            refine WC.condP (p := ((inp.getD (i).toNat default).1.1) = 1) rfl (fun hc4 => ?_) (fun hc4 => ?_)
            · refine WC.region ?_
              iterate 3 refine WL.lv rfl (LV.mv rfl) ?_
              obtain ⟨A15, c15, A16, c16, e11, g6, e12, r6⟩ := St.eltE (SH.stN hL1 h_inp) (SH.stN hL1 hi_inp) default i (by omega) (by omega)
              refine WL.lv rfl (LV.idxA Try.underlying24 ti39.sz rfl e11 rfl (by omega) (by omega)) ?_
              refine WL.lv rfl (LV.fieldA Try.underlying39 rfl ti22.sz rfl) ?_
              refine WL.lv rfl (LV.load1 (v := (.slice A16 ((inp.getD (i).toNat default).2.length) c16)) Try.underlying22 rfl rfl (g6 _ (KB.refl No _) 1 _ rfl)) ?_
              have hS25 : SH w No w6 [rowE eL 41 (.slice A_keep keep.length c_keep) keep, rowE eL 41 (.slice A_made made.length c_made) made, rowE eL 41 (.slice A_gone gone.length c_gone) gone, insE (fun p : ED => p.2) eL 41 out, rowE eE 39 (.slice A_out out.length c_out) (out.map (fun p : ED × List Ln => p.1))] := (SH.front [rowE eL 41 (.slice A_made made.length c_made) made, rowE eL 41 (.slice A_gone gone.length c_gone) gone] hL1)
              refine WL.xe rfl (XE.append hS25 Try.underlying22 ti41 rfl (St.now (St.innerQ (SH.stN hS25 hi_inp) (getD_mem (by omega)) e12)) rfl rfl (by first | omega | simp only [List.length_append, List.length_cons, List.length_nil, List.length_take, List.length_reverse, List.length_drop] at *; omega) (by first | omega | simp only [List.length_append, List.length_cons, List.length_nil, List.length_take, List.length_reverse, List.length_drop] at *; omega)) ?_
              rintro _ w11 ⟨A17, c17, rfl, hS26, hk7⟩
              refine WL.lv rfl (LV.asg rfl) ?_
              refine WL.nil (blockQ.n <| blockQ.n <| thenQ.n ?_)
              refine WC.region ?_
              refine WL.lv rfl (LV.mv rfl) ?_
              refine WL.lv rfl (LV.add rfl rfl (wr64 (by omega) (by omega))) ?_
              refine WL.lv rfl (LV.asg rfl) ?_
              refine WL.nil (thenQ.n ?_)
              have hS27 : SH w No w11 [rowE eL 41 (.slice A_made made.length c_made) made, rowE eL 41 (.slice A_gone gone.length c_gone) gone, rowE eL 41 (.slice A17 ((keep ++ ((inp.getD (i).toNat default).2)).length) c17) (keep ++ ((inp.getD (i).toNat default).2)), insE (fun p : ED => p.2) eL 41 out, rowE eE 39 (.slice A_out out.length c_out) (out.map (fun p : ED × List Ln => p.1))] := (SH.front [rowE eL 41 (.slice A_gone gone.length c_gone) gone, rowE eL 41 (.slice A17 ((keep ++ ((inp.getD (i).toNat default).2)).length) c17) (keep ++ ((inp.getD (i).toNat default).2)), insE (fun p : ED => p.2) eL 41 out, rowE eE 39 (.slice A_out out.length c_out) (out.map (fun p : ED × List Ln => p.1))] (SH.front [rowE eL 41 (.slice A17 ((keep ++ ((inp.getD (i).toNat default).2)).length) c17) (keep ++ ((inp.getD (i).toNat default).2)), insE (fun p : ED => p.2) eL 41 out, rowE eE 39 (.slice A_out out.length c_out) (out.map (fun p : ED × List Ln => p.1)), rowE eL 41 (.slice A_made made.length c_made) made] (SH.front [insE (fun p : ED => p.2) eL 41 out, rowE eE 39 (.slice A_out out.length c_out) (out.map (fun p : ED × List Ln => p.1))] (SH.front [rowE eE 39 (.slice A_out out.length c_out) (out.map (fun p : ED × List Ln => p.1)), rowE eL 41 (.slice A17 ((keep ++ ((inp.getD (i).toNat default).2)).length) c17) (keep ++ ((inp.getD (i).toNat default).2)), rowE eL 41 (.slice A_made made.length c_made) made, rowE eL 41 (.slice A_gone gone.length c_gone) gone] (SH.front [rowE eL 41 (.slice A17 ((keep ++ ((inp.getD (i).toNat default).2)).length) c17) (keep ++ ((inp.getD (i).toNat default).2)), rowE eL 41 (.slice A_made made.length c_made) made, rowE eL 41 (.slice A_gone gone.length c_gone) gone, insE (fun p : ED => p.2) eL 41 out] hS26)))))
              exact ⟨_, by omega, A_out, c_out, out, A17, c17, (keep ++ ((inp.getD (i).toNat default).2)), A_gone, c_gone, gone, A_made, c_made, made, i + 1, by omega, by omega, (by rw [fold_more ilo h22]; exact ns_keep1 q1 hc4 hlen hc2), (ni_keep q2), (by first | omega | (simp only [List.length_append, List.length_nil]; omega)), by omega, hS27, rfl, Weak.cons rfl <| Weak.cons rfl <| Weak.cons rfl <| Weak.cons rfl <| Weak.cons rfl <| Weak.cons rfl <| Weak.nil _⟩
            · exact absurd hg1 hc4
        · refine WL.lv rfl (LV.as (LV.gtI rfl rfl) (decide_eq_false hlen)) ?_
          refine WL.lv rfl (LV.pickT rfl rfl) ?_
          refine WL.lv rfl (LV.mv rfl) ?_
          iterate 6 refine WL.off rfl ?_
          refine WL.lv rfl (LV.pickF rfl rfl) ?_
          refine WL.nil (thenQ.n ?_)
          refine WC.condF rfl ?_
          refine WC.skip (thenQ.n ?_)
          refine WC.seq ?_
          refine WC.region ?_
          iterate 2 refine WL.lv rfl (LV.mv rfl) ?_
          obtain ⟨A18, c18, A19, c19, e13, g7, e14, r7⟩ := St.eltE (SH.stN hL1 h_inp) (SH.stN hL1 hi_inp) default i (by omega) (by omega)
          refine WL.lv rfl (LV.idxA Try.underlying24 ti39.sz rfl e13 rfl (by omega) (by omega)) ?_
          refine WL.lv rfl (LV.fieldA Try.underlying39 rfl ti37.sz rfl) ?_
          refine WL.lv rfl (LV.load1 (v := (.int .i64 ((inp.getD (i).toNat default).1.1))) Try.underlying37 rfl rfl (g7 _ (KB.refl No _) 0 _ rfl)) ?_
          refine WL.nil (thenQ.n ?_)
          refine WC.block ?_
          refine WC.seq ?_
          refine WC.region ?_
          refine WL.lv rfl (LV.eqI rfl rfl) ?_
          refine WL.lv rfl (LV.asg rfl) ?_
          refine WL.nil (thenQ.n ?_)
          refine WC.condP (p := ((inp.getD (i).toNat default).1.1) = 1) rfl (fun hc5 => ?_) (fun hc5 => ?_)
          · refine WC.region ?_
            iterate 3 refine WL.lv rfl (LV.mv rfl) ?_
            obtain ⟨A20, c20, A21, c21, e15, g8, e16, r8⟩ := St.eltE (SH.stN hL1 h_inp) (SH.stN hL1 hi_inp) default i (by omega) (by omega)
            refine WL.lv rfl (LV.idxA Try.underlying24 ti39.sz rfl e15 rfl (by omega) (by omega)) ?_
            refine WL.lv rfl (LV.fieldA Try.underlying39 rfl ti22.sz rfl) ?_
            refine WL.lv rfl (LV.load1 (v := (.slice A21 ((inp.getD (i).toNat default).2.length) c21)) Try.underlying22 rfl rfl (g8 _ (KB.refl No _) 1 _ rfl)) ?_
            have hS28 : SH w No w6 [rowE eL 41 (.slice A_keep keep.length c_keep) keep, rowE eL 41 (.slice A_made made.length c_made) made, rowE eL 41 (.slice A_gone gone.length c_gone) gone, insE (fun p : ED => p.2) eL 41 out, rowE eE 39 (.slice A_out out.length c_out) (out.map (fun p : ED × List Ln => p.1))] := (SH.front [rowE eL 41 (.slice A_made made.length c_made) made, rowE eL 41 (.slice A_gone gone.length c_gone) gone] hL1)
            refine WL.xe rfl (XE.append hS28 Try.underlying22 ti41 rfl (St.now (St.innerQ (SH.stN hS28 hi_inp) (getD_mem (by omega)) e16)) rfl rfl (by first | omega | simp only [List.length_append, List.length_cons, List.length_nil, List.length_take, List.length_reverse, List.length_drop] at *; omega) (by first | omega | simp only [List.length_append, List.length_cons, List.length_nil, List.length_take, List.length_reverse, List.length_drop] at *; omega)) ?_
            rintro _ w12 ⟨A22, c22, rfl, hS29, hk8⟩
            refine WL.lv rfl (LV.asg rfl) ?_
            refine WL.nil (blockQ.n <| blockQ.n <| thenQ.n ?_)
            refine WC.region ?_
            refine WL.lv rfl (LV.mv rfl) ?_
            refine WL.lv rfl (LV.add rfl rfl (wr64 (by omega) (by omega))) ?_
            refine WL.lv rfl (LV.asg rfl) ?_
            refine WL.nil (thenQ.n ?_)
            have hS30 : SH w No w12 [rowE eL 41 (.slice A_made made.length c_made) made, rowE eL 41 (.slice A_gone gone.length c_gone) gone, rowE eL 41 (.slice A22 ((keep ++ ((inp.getD (i).toNat default).2)).length) c22) (keep ++ ((inp.getD (i).toNat default).2)), insE (fun p : ED => p.2) eL 41 out, rowE eE 39 (.slice A_out out.length c_out) (out.map (fun p : ED × List Ln => p.1))] := (SH.front [rowE eL 41 (.slice A_gone gone.length c_gone) gone, rowE eL 41 (.slice A22 ((keep ++ ((inp.getD (i).toNat default).2)).length) c22) (keep ++ ((inp.getD (i).toNat default).2)), insE (fun p : ED => p.2) eL 41 out, rowE eE 39 (.slice A_out out.length c_out) (out.map (fun p : ED × List Ln => p.1))] (SH.front [rowE eL 41 (.slice A22 ((keep ++ ((inp.getD (i).toNat default).2)).length) c22) (keep ++ ((inp.getD (i).toNat default).2)), insE (fun p : ED => p.2) eL 41 out, rowE eE 39 (.slice A_out out.length c_out) (out.map (fun p : ED × List Ln => p.1)), rowE eL 41 (.slice A_made made.length c_made) made] (SH.front [insE (fun p : ED => p.2) eL 41 out, rowE eE 39 (.slice A_out out.length c_out) (out.map (fun p : ED × List Ln => p.1))] (SH.front [rowE eE 39 (.slice A_out out.length c_out) (out.map (fun p : ED × List Ln => p.1)), rowE eL 41 (.slice A22 ((keep ++ ((inp.getD (i).toNat default).2)).length) c22) (keep ++ ((inp.getD (i).toNat default).2)), rowE eL 41 (.slice A_made made.length c_made) made, rowE eL 41 (.slice A_gone gone.length c_gone) gone] (SH.front [rowE eL 41 (.slice A22 ((keep ++ ((inp.getD (i).toNat default).2)).length) c22) (keep ++ ((inp.getD (i).toNat default).2)), rowE eL 41 (.slice A_made made.length c_made) made, rowE eL 41 (.slice A_gone gone.length c_gone) gone, insE (fun p : ED => p.2) eL 41 out] hS29)))))
            exact ⟨_, by omega, A_out, c_out, out, A22, c22, (keep ++ ((inp.getD (i).toNat default).2)), A_gone, c_gone, gone, A_made, c_made, made, i + 1, by omega, by omega, (by rw [fold_more ilo h22]; exact ns_keep0 q1 hc5 hlen), (ni_keep q2), (by first | omega | (simp only [List.length_append, List.length_nil]; omega)), by omega, hS30, rfl, Weak.cons rfl <| Weak.cons rfl <| Weak.cons rfl <| Weak.cons rfl <| Weak.cons rfl <| Weak.cons rfl <| Weak.nil _⟩
          · exact absurd hg1 hc5
      · refine WL.lv rfl (LV.as (LV.eqI rfl rfl) (decide_eq_false hg1)) ?_
        refine WL.lv rfl (LV.mv rfl) ?_
        iterate 7 refine WL.off rfl ?_
        refine WL.lv rfl (LV.pickF rfl rfl) ?_
        refine WL.lv rfl (LV.mv rfl) ?_
        iterate 6 refine WL.off rfl ?_
        refine WL.lv rfl (LV.pickF rfl rfl) ?_
        refine WL.nil (thenQ.n ?_)
        refine WC.condF rfl ?_
        refine WC.skip (thenQ.n ?_)
        refine WC.seq ?_
        refine WC.region ?_
        iterate 2 refine WL.lv rfl (LV.mv rfl) ?_
        obtain ⟨A23, c23, A24, c24, e17, g9, e18, r9⟩ := St.eltE (SH.stN hL1 h_inp) (SH.stN hL1 hi_inp) default i (by omega) (by omega)
        refine WL.lv rfl (LV.idxA Try.underlying24 ti39.sz rfl e17 rfl (by omega) (by omega)) ?_
        refine WL.lv rfl (LV.fieldA Try.underlying39 rfl ti37.sz rfl) ?_
        refine WL.lv rfl (LV.load1 (v := (.int .i64 ((inp.getD (i).toNat default).1.1))) Try.underlying37 rfl rfl (g9 _ (KB.refl No _) 0 _ rfl)) ?_
        refine WL.nil (thenQ.n ?_)
        refine WC.block ?_
        refine WC.seq ?_
        refine WC.region ?_
        refine WL.lv rfl (LV.eqI rfl rfl) ?_
        refine WL.lv rfl (LV.asg rfl) ?_
        refine WL.nil (thenQ.n ?_)
        refine WC.condP (p := ((inp.getD (i).toNat default).1.1) = 1) rfl (fun hc6 => ?_) (fun hc6 => ?_)
        · exact absurd hc6 hg1
        · refine WC.seq ?_
          refine WC.region ?_
          refine WL.lv rfl (LV.eqI rfl rfl) ?_
          refine WL.lv rfl (LV.asg rfl) ?_
          refine WL.nil (thenQ.n ?_)
          refine WC.condP (p := ((inp.getD (i).toNat default).1.1) = 2) rfl (fun hc7 => ?_) (fun hc7 => ?_)
          · skip
            refine WC.region ?_
            iterate 3 refine WL.lv rfl (LV.mv rfl) ?_
            obtain ⟨A25, c25, A26, c26, e19, g10, e20, r10⟩ := St.eltE (SH.stN hL1 h_inp) (SH.stN hL1 hi_inp) default i (by omega) (by omega)
            refine WL.lv rfl (LV.idxA Try.underlying24 ti39.sz rfl e19 rfl (by omega) (by omega)) ?_
            refine WL.lv rfl (LV.fieldA Try.underlying39 rfl ti22.sz rfl) ?_
            refine WL.lv rfl (LV.load1 (v := (.slice A26 ((inp.getD (i).toNat default).2.length) c26)) Try.underlying22 rfl rfl (g10 _ (KB.refl No _) 1 _ rfl)) ?_
            have hS31 : SH w No w6 [rowE eL 41 (.slice A_gone gone.length c_gone) gone, rowE eL 41 (.slice A_made made.length c_made) made, rowE eL 41 (.slice A_keep keep.length c_keep) keep, insE (fun p : ED => p.2) eL 41 out, rowE eE 39 (.slice A_out out.length c_out) (out.map (fun p : ED × List Ln => p.1))] := (SH.front [rowE eL 41 (.slice A_made made.length c_made) made] hL1)
            refine WL.xe rfl (XE.append hS31 Try.underlying22 ti41 rfl (St.now (St.innerQ (SH.stN hS31 hi_inp) (getD_mem (by omega)) e20)) rfl rfl (by first | omega | simp only [List.length_append, List.length_cons, List.length_nil, List.length_take, List.length_reverse, List.length_drop] at *; omega) (by first | omega | simp only [List.length_append, List.length_cons, List.length_nil, List.length_take, List.length_reverse, List.length_drop] at *; omega)) ?_
            rintro _ w13 ⟨A27, c27, rfl, hS32, hk9⟩
            refine WL.lv rfl (LV.asg rfl) ?_
            refine WL.nil (blockQ.n <| blockQ.n <| thenQ.n ?_)
            refine WC.region ?_
            refine WL.lv rfl (LV.mv rfl) ?_
            refine WL.lv rfl (LV.add rfl rfl (wr64 (by omega) (by omega))) ?_
            refine WL.lv rfl (LV.asg rfl) ?_
            refine WL.nil (thenQ.n ?_)
            have hS33 : SH w No w13 [rowE eL 41 (.slice A_made made.length c_made) made, rowE eL 41 (.slice A27 ((gone ++ ((inp.getD (i).toNat default).2)).length) c27) (gone ++ ((inp.getD (i).toNat default).2)), rowE eL 41 (.slice A_keep keep.length c_keep) keep, insE (fun p : ED => p.2) eL 41 out, rowE eE 39 (.slice A_out out.length c_out) (out.map (fun p : ED × List Ln => p.1))] := (SH.front [rowE eL 41 (.slice A27 ((gone ++ ((inp.getD (i).toNat default).2)).length) c27) (gone ++ ((inp.getD (i).toNat default).2)), rowE eL 41 (.slice A_keep keep.length c_keep) keep, insE (fun p : ED => p.2) eL 41 out, rowE eE 39 (.slice A_out out.length c_out) (out.map (fun p : ED × List Ln => p.1))] (SH.front [rowE eL 41 (.slice A_keep keep.length c_keep) keep, insE (fun p : ED => p.2) eL 41 out, rowE eE 39 (.slice A_out out.length c_out) (out.map (fun p : ED × List Ln => p.1))] (SH.front [insE (fun p : ED => p.2) eL 41 out, rowE eE 39 (.slice A_out out.length c_out) (out.map (fun p : ED × List Ln => p.1)), rowE eL 41 (.slice A27 ((gone ++ ((inp.getD (i).toNat default).2)).length) c27) (gone ++ ((inp.getD (i).toNat default).2)), rowE eL 41 (.slice A_made made.length c_made) made] (SH.front [rowE eE 39 (.slice A_out out.length c_out) (out.map (fun p : ED × List Ln => p.1)), rowE eL 41 (.slice A27 ((gone ++ ((inp.getD (i).toNat default).2)).length) c27) (gone ++ ((inp.getD (i).toNat default).2)), rowE eL 41 (.slice A_made made.length c_made) made, rowE eL 41 (.slice A_keep keep.length c_keep) keep] (SH.front [rowE eL 41 (.slice A27 ((gone ++ ((inp.getD (i).toNat default).2)).length) c27) (gone ++ ((inp.getD (i).toNat default).2)), rowE eL 41 (.slice A_made made.length c_made) made, rowE eL 41 (.slice A_keep keep.length c_keep) keep, insE (fun p : ED => p.2) eL 41 out] hS32)))))
            exact ⟨_, by omega, A_out, c_out, out, A_keep, c_keep, keep, A27, c27, (gone ++ ((inp.getD (i).toNat default).2)), A_made, c_made, made, i + 1, by omega, by omega, (by rw [fold_more ilo h22]; exact ns_out q1 hc7), q2, (by first | omega | (simp only [List.length_append, List.length_nil]; omega)), by omega, hS33, rfl, Weak.cons rfl <| Weak.cons rfl <| Weak.cons rfl <| Weak.cons rfl <| Weak.cons rfl <| Weak.cons rfl <| Weak.nil _⟩
          · skip
            refine WC.seq ?_
            refine WC.region ?_
            refine WL.lv rfl (LV.eqI rfl rfl) ?_
            refine WL.lv rfl (LV.asg rfl) ?_
            refine WL.nil (thenQ.n ?_)
            refine WC.condP (p := ((inp.getD (i).toNat default).1.1) = 3) rfl (fun hc8 => ?_) (fun hc8 => ?_)
            · skip
              refine WC.region ?_
              iterate 3 refine WL.lv rfl (LV.mv rfl) ?_
              obtain ⟨A28, c28, A29, c29, e21, g11, e22, r11⟩ := St.eltE (SH.stN hL1 h_inp) (SH.stN hL1 hi_inp) default i (by omega) (by omega)
              refine WL.lv rfl (LV.idxA Try.underlying24 ti39.sz rfl e21 rfl (by omega) (by omega)) ?_
              refine WL.lv rfl (LV.fieldA Try.underlying39 rfl ti22.sz rfl) ?_
              refine WL.lv rfl (LV.load1 (v := (.slice A29 ((inp.getD (i).toNat default).2.length) c29)) Try.underlying22 rfl rfl (g11 _ (KB.refl No _) 1 _ rfl)) ?_
              refine WL.xe rfl (XE.append hL1 Try.underlying22 ti41 rfl (St.now (St.innerQ (SH.stN hL1 hi_inp) (getD_mem (by omega)) e22)) rfl rfl (by first | omega | simp only [List.length_append, List.length_cons, List.length_nil, List.length_take, List.length_reverse, List.length_drop] at *; omega) (by first | omega | simp only [List.length_append, List.length_cons, List.length_nil, List.length_take, List.length_reverse, List.length_drop] at *; omega)) ?_
              rintro _ w14 ⟨A30, c30, rfl, hS34, hk10⟩
              refine WL.lv rfl (LV.asg rfl) ?_
              refine WL.nil (blockQ.n <| blockQ.n <| thenQ.n ?_)
              refine WC.region ?_
              refine WL.lv rfl (LV.mv rfl) ?_
              refine WL.lv rfl (LV.add rfl rfl (wr64 (by omega) (by omega))) ?_
              refine WL.lv rfl (LV.asg rfl) ?_
              refine WL.nil (thenQ.n ?_)
              exact ⟨_, by omega, A_out, c_out, out, A_keep, c_keep, keep, A_gone, c_gone, gone, A30, c30, (made ++ ((inp.getD (i).toNat default).2)), i + 1, by omega, by omega, (by rw [fold_more ilo h22]; exact ns_in q1 hc8), q2, (by first | omega | (simp only [List.length_append, List.length_nil]; omega)), by omega, hS34, rfl, Weak.cons rfl <| Weak.cons rfl <| Weak.cons rfl <| Weak.cons rfl <| Weak.cons rfl <| Weak.cons rfl <| Weak.nil _⟩
            · skip
              refine WC.skip (blockQ.n <| blockQ.n <| thenQ.n ?_)
              refine WC.region ?_
              refine WL.lv rfl (LV.mv rfl) ?_
              refine WL.lv rfl (LV.add rfl rfl (wr64 (by omega) (by omega))) ?_
              refine WL.lv rfl (LV.asg rfl) ?_
              refine WL.nil (thenQ.n ?_)
              exact ⟨_, by omega, A_out, c_out, out, A_keep, c_keep, keep, A_gone, c_gone, gone, A_made, c_made, made, i + 1, by omega, by omega, (by exfalso; omega), q2, (by first | omega | (simp only [List.length_append, List.length_nil]; omega)), by omega, hL1, rfl, Weak.cons rfl <| Weak.cons rfl <| Weak.cons rfl <| Weak.cons rfl <| Weak.cons rfl <| Weak.cons rfl <| Weak.nil _⟩
    · skip
      refine WC.exit (thenQ.x <| thenQ.x <| blockQ.hit <| thenQ.n ?_)
      refine WC.seq ?_
      refine WC.region ?_
      iterate 2 refine WL.lv rfl (LV.mv rfl) ?_
      have hS35 : SH w No w6 [insE (fun p : ED => p.2) eL 41 out, rowE eL 41 (.slice A_made made.length c_made) made, rowE eL 41 (.slice A_gone gone.length c_gone) gone, rowE eL 41 (.slice A_keep keep.length c_keep) keep, rowE eE 39 (.slice A_out out.length c_out) (out.map (fun p : ED × List Ln => p.1))] := (SH.front [rowE eL 41 (.slice A_made made.length c_made) made, rowE eL 41 (.slice A_gone gone.length c_gone) gone, rowE eL 41 (.slice A_keep keep.length c_keep) keep] hL1)
      have hS36 : SH w No w6 [rowE eE 39 (.slice A_out out.length c_out) (out.map (fun p : ED × List Ln => p.1)), insE (fun p : ED => p.2) eL 41 out, rowE eL 41 (.slice A_made made.length c_made) made, rowE eL 41 (.slice A_gone gone.length c_gone) gone, rowE eL 41 (.slice A_keep keep.length c_keep) keep] := (SH.front [insE (fun p : ED => p.2) eL 41 out, rowE eL 41 (.slice A_made made.length c_made) made, rowE eL 41 (.slice A_gone gone.length c_gone) gone, rowE eL 41 (.slice A_keep keep.length c_keep) keep] hS35)
      have hT4 := SH.sub (Es := [rowE eE 39 (.slice A_out out.length c_out) (out.map (fun p : ED × List Ln => p.1)), insE (fun p : ED => p.2) eL 41 out]) hS36
      refine WL.call rfl (XC.fn Try.func36 (by kernel_rfl) rfl rfl rfl) (lay_calls (do_ := 1) hT4 ((SH.stE (Es := [rowE eE 39 (.slice A_out out.length c_out) (out.map (fun p : ED × List Ln => p.1)), insE (fun p : ED => p.2) eL 41 out]) hS36 (.tail _ (.tail _ (.head _)))).imp fun _ h => Row.rd h) (by omega) (by omega) (fun p hp => Nat.le_trans (tot_mem hp) (by omega))) ?_
      rintro v_ w15 ⟨A31, c31, rows4, rfl, hlay41, hlay42, hU4⟩
      have hlay4 := And.intro hlay41 hlay42
      have htothlay4 := tot_lay (scr out) 1 keep
      rw [← hlay4.1] at htothlay4
      have hS37 := SH.back (Es := [rowE eE 39 (.slice A_out out.length c_out) (out.map (fun p : ED × List Ln => p.1)), insE (fun p : ED => p.2) eL 41 out]) hS36 hU4
      refine WL.lv rfl (LV.mv rfl) ?_
      have hS38 : SH w No w15 [insE (fun p : ED => p.2) eL 41 rows4, rowE eE 39 (.slice A31 rows4.length c31) (rows4.map (fun p : ED × List Ln => p.1)), rowE eL 41 (.slice A_made made.length c_made) made, rowE eL 41 (.slice A_gone gone.length c_gone) gone, rowE eL 41 (.slice A_keep keep.length c_keep) keep] := (SH.front [rowE eE 39 (.slice A31 rows4.length c31) (rows4.map (fun p : ED × List Ln => p.1))] hS37)
      have hS39 : SH w No w15 [rowE eE 39 (.slice A31 rows4.length c31) (rows4.map (fun p : ED × List Ln => p.1)), insE (fun p : ED => p.2) eL 41 rows4, rowE eL 41 (.slice A_made made.length c_made) made, rowE eL 41 (.slice A_gone gone.length c_gone) gone, rowE eL 41 (.slice A_keep keep.length c_keep) keep] := (SH.front [insE (fun p : ED => p.2) eL 41 rows4] hS38)
      have hT5 := SH.sub (Es := [rowE eE 39 (.slice A31 rows4.length c31) (rows4.map (fun p : ED × List Ln => p.1)), insE (fun p : ED => p.2) eL 41 rows4]) hS39
      refine WL.call rfl (XC.fn Try.func36 (by kernel_rfl) rfl rfl rfl) (lay_calls (do_ := 2) hT5 ((SH.stE (Es := [rowE eE 39 (.slice A31 rows4.length c31) (rows4.map (fun p : ED × List Ln => p.1)), insE (fun p : ED => p.2) eL 41 rows4]) hS39 (.tail _ (.head _))).imp fun _ h => Row.rd h) (by omega) (by omega) (fun p hp => Nat.le_trans (tot_mem hp) (by omega))) ?_
      rintro v_ w16 ⟨A32, c32, rows5, rfl, hlay51, hlay52, hU5⟩
      have hlay5 := And.intro hlay51 hlay52
      have htothlay5 := tot_lay (scr rows4) 2 gone
      rw [← hlay5.1] at htothlay5
      have hS40 := SH.back (Es := [rowE eE 39 (.slice A31 rows4.length c31) (rows4.map (fun p : ED × List Ln => p.1)), insE (fun p : ED => p.2) eL 41 rows4]) hS39 hU5
      refine WL.lv rfl (LV.mv rfl) ?_
      have hS41 : SH w No w16 [insE (fun p : ED => p.2) eL 41 rows5, rowE eE 39 (.slice A32 rows5.length c32) (rows5.map (fun p : ED × List Ln => p.1)), rowE eL 41 (.slice A_made made.length c_made) made, rowE eL 41 (.slice A_gone gone.length c_gone) gone, rowE eL 41 (.slice A_keep keep.length c_keep) keep] := (SH.front [rowE eE 39 (.slice A32 rows5.length c32) (rows5.map (fun p : ED × List Ln => p.1))] hS40)
      have hS42 : SH w No w16 [rowE eE 39 (.slice A32 rows5.length c32) (rows5.map (fun p : ED × List Ln => p.1)), insE (fun p : ED => p.2) eL 41 rows5, rowE eL 41 (.slice A_made made.length c_made) made, rowE eL 41 (.slice A_gone gone.length c_gone) gone, rowE eL 41 (.slice A_keep keep.length c_keep) keep] := (SH.front [insE (fun p : ED => p.2) eL 41 rows5] hS41)
      have hT6 := SH.sub (Es := [rowE eE 39 (.slice A32 rows5.length c32) (rows5.map (fun p : ED × List Ln => p.1)), insE (fun p : ED => p.2) eL 41 rows5]) hS42
      refine WL.call rfl (XC.fn Try.func36 (by kernel_rfl) rfl rfl rfl) (lay_calls (do_ := 3) hT6 ((SH.stE (Es := [rowE eE 39 (.slice A32 rows5.length c32) (rows5.map (fun p : ED × List Ln => p.1)), insE (fun p : ED => p.2) eL 41 rows5]) hS42 (.head _)).imp fun _ h => Row.rd h) (by omega) (by omega) (fun p hp => Nat.le_trans (tot_mem hp) (by omega))) ?_
      rintro v_ w17 ⟨A33, c33, rows6, rfl, hlay61, hlay62, hU6⟩
      have hlay6 := And.intro hlay61 hlay62
      have htothlay6 := tot_lay (scr rows5) 3 made
      rw [← hlay6.1] at htothlay6
      have hS43 := SH.back (Es := [rowE eE 39 (.slice A32 rows5.length c32) (rows5.map (fun p : ED × List Ln => p.1)), insE (fun p : ED => p.2) eL 41 rows5]) hS42 hU6
      iterate 2 refine WL.lv rfl (LV.asg rfl) ?_
      refine WL.nil (thenQ.n ?_)
      refine WC.ret (?_)
      have hS44 : SH w No w17 [rowE eE 39 (.slice A33 rows6.length c33) (rows6.map (fun p : ED × List Ln => p.1)), insE (fun p : ED => p.2) eL 41 rows6] := (SH.take 2 rfl (SH.front [insE (fun p : ED => p.2) eL 41 rows6] (SH.front [rowE eE 39 (.slice A33 rows6.length c33) (rows6.map (fun p : ED × List Ln => p.1))] hS43)))
      exact ⟨_, fun a ha => res2 rfl ha rfl rfl, _, _, _, tup2 rfl (congrArg (Value.int .i64) (hck.symm)), (by rw [hlay6.1, hlay5.1, hlay4.1]; unfold NF; rw [if_pos hck]; unfold normP; rw [scr_all (by omega)] at q1; rw [q1]; exact lay3 q2), hS44⟩

end Go.Proofs.Ytjmfoifohneanaa
