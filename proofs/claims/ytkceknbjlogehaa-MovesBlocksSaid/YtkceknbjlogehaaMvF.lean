/- The document's blocks. -/
import Derived.Test.YtkceknbjlogehaaMvE
namespace Go.Proofs.Ytkceknbjlogehaa
open Go Go.Gv Go.RowKit Go.Mys Go.Num Go.Scr Go.Itn Go.Mov
set_option linter.unusedVariables false
set_option linter.unusedSimpArgs false

set_option maxHeartbeats 1000000 in
theorem rfind_calls {w : World} {A_a : Option Addr} {n_a c_a : Nat} {a : List Ln} {A_b : Option Addr} {n_b c_b : Nat} {b : List Ln} {least : Int} (h_a : St No w (Rd eL (.slice A_a n_a c_a) a)) (hn_a : a.length = n_a) (h_b : St No w (Rd eL (.slice A_b n_b c_b) b)) (hn_b : b.length = n_b)  :
    Calls Try.prog 9 #[(.slice A_a n_a c_a), (.slice A_b n_b c_b), (.int .i64 least)] w fun e w' => ∃ v, e = .returned v ∧ (fun v w' => ∃ (A0' : Option Addr) (c0' : Nat), v = .tuple #[.slice A0' (FB a b least).length c0', .int .i64 (FE a b least)] ∧ SH w No w' [rowE eB3 43 (.slice A0' (FB a b least).length c0') (FB a b least)]) v w' := by
  subst hn_a hn_b
  have hS : SH w No w [] := SH.nil _ _
  refine calls (l := litOf [(.slice A_a a.length c_a), (.slice A_b b.length c_b), (.int .i64 least)] 0) Try.func9 rfl (n := 146) rfl (Nat.le_of_ble_eq_true rfl) (lit_args _) ?_
  refine WC.seq ?_
  refine WC.region ?_
  iterate 2 refine WL.lv rfl (LV.asg rfl) ?_
  refine WL.nil (thenQ.n ?_)
  refine WC.seq ?_
  refine WC.region ?_
  iterate 2 refine WL.lv rfl (LV.mv rfl) ?_
  refine WL.call rfl (XC.fn Try.func15 (by kernel_rfl) rfl rfl rfl) (rstay_calls  (SH.stN hS h_a) rfl (SH.stN hS h_b) rfl ) ?_
  rintro v_ w1 ⟨A1, c1, rfl, hS1⟩
  have hS2 := SH.joinN hS hS1
  refine WL.lv rfl (LV.mv rfl) ?_
  iterate 2 refine WL.lv rfl (LV.extract rfl rfl) ?_
  iterate 2 refine WL.lv rfl (LV.asg rfl) ?_
  refine WL.nil (thenQ.n ?_)
  iterate 2 refine WC.seq ?_
  refine WC.region ?_
  refine WL.lv rfl (LV.mv rfl) ?_
  refine WL.lv rfl (LV.neI rfl rfl) ?_
  refine WL.nil (thenQ.n ?_)
  refine WC.condP (p := (STE a b) ≠ 0) rfl (fun hste => ?_) (fun hste => ?_)
  · skip
    refine WC.seq ?_
    refine WC.region ?_
    refine WL.lv rfl (LV.mv rfl) ?_
    iterate 2 refine WL.lv rfl (LV.asg rfl) ?_
    refine WL.nil (thenQ.n ?_)
    refine WC.ret (thenQ.r <| ?_)
    have hS3 := SH.nilRow (E := eB3) (T := 43) hS2
    have hS4 : SH w No w1 [rowE eB3 43 (.slice none 0 0) []] := (SH.take 1 rfl hS3)
    have hres1 : ([] : List (Int × Int × Int)) = FB a b least := by unfold FB; rw [if_pos (by omega)]
    exact ⟨_, fun a ha => res2 rfl ha rfl rfl, (by rw [← hres1]; exact ⟨_, _, tup2 rfl (congrArg (Value.int .i64) (by unfold FE; first | rw [if_pos (by omega)] | rw [if_neg (by omega), if_pos (by omega)] | rw [if_neg (by omega), if_neg (by omega)])), hS4⟩)⟩
  · have hle_ := STE_0 hste
    have hsyl := STY_len (a := a) (b := b)
    refine WC.skip (thenQ.n ?_)
    iterate 2 refine WC.seq ?_
    refine WC.region ?_
    refine WL.lv rfl (LV.mv rfl) ?_
    rcases Decidable.em (least < 1) with hg1 | hg1
    · refine WL.lv rfl (LV.as (LV.ltI rfl rfl) (decide_eq_true hg1)) ?_
      refine WL.lv rfl (LV.mv rfl) ?_
      iterate 2 refine WL.off rfl ?_
      refine WL.lv rfl (LV.pickT rfl rfl) ?_
      refine WL.nil (thenQ.n ?_)
      refine WC.condT rfl ?_
      refine WC.seq ?_
      refine WC.region ?_
      iterate 2 refine WL.lv rfl (LV.asg rfl) ?_
      refine WL.nil (thenQ.n ?_)
      refine WC.ret (thenQ.r <| ?_)
      have hS5 := SH.nilRow (E := eB3) (T := 43) hS2
      have hS6 : SH w No w1 [rowE eB3 43 (.slice none 0 0) []] := (SH.take 1 rfl hS5)
      have hres2 : ([] : List (Int × Int × Int)) = FB a b least := by unfold FB; rw [if_pos (by omega)]
      exact ⟨_, fun a ha => res2 rfl ha rfl rfl, (by rw [← hres2]; exact ⟨_, _, tup2 rfl (congrArg (Value.int .i64) (by unfold FE; first | rw [if_pos (by omega)] | rw [if_neg (by omega), if_pos (by omega)] | rw [if_neg (by omega), if_neg (by omega)])), hS6⟩)⟩
    · refine WL.lv rfl (LV.as (LV.ltI rfl rfl) (decide_eq_false hg1)) ?_
      iterate 2 refine WL.lv rfl (LV.mv rfl) ?_
      refine WL.lv rfl (LV.gtI rfl rfl) ?_
      refine WL.lv rfl (LV.pickF rfl rfl) ?_
      refine WL.nil (thenQ.n ?_)
      refine WC.condP (p := least > 400) rfl (fun hc1 => ?_) (fun hc1 => ?_)
      · skip
        refine WC.seq ?_
        refine WC.region ?_
        iterate 2 refine WL.lv rfl (LV.asg rfl) ?_
        refine WL.nil (thenQ.n ?_)
        refine WC.ret (thenQ.r <| ?_)
        have hS7 := SH.nilRow (E := eB3) (T := 43) hS2
        have hS8 : SH w No w1 [rowE eB3 43 (.slice none 0 0) []] := (SH.take 1 rfl hS7)
        have hres3 : ([] : List (Int × Int × Int)) = FB a b least := by unfold FB; rw [if_pos (by omega)]
        exact ⟨_, fun a ha => res2 rfl ha rfl rfl, (by rw [← hres3]; exact ⟨_, _, tup2 rfl (congrArg (Value.int .i64) (by unfold FE; first | rw [if_pos (by omega)] | rw [if_neg (by omega), if_pos (by omega)] | rw [if_neg (by omega), if_neg (by omega)])), hS8⟩)⟩
      · skip
        refine WC.skip (thenQ.n ?_)
        refine WC.seq ?_
        refine WC.region ?_
        iterate 2 refine WL.lv rfl (LV.mv rfl) ?_
        refine WL.xe rfl (XE.buildSlice (E := eV) [(0, (.slice A_a a.length c_a)), (1, (.slice A_b b.length c_b))] #[(.slice A_a a.length c_a), (.slice A_b b.length c_b)] [(⟨A_a, a.length, c_a⟩ : SV), (⟨A_b, b.length, c_b⟩ : SV)] hS2 Try.underlying48 ti22 rfl (by decide) (by kernel_rfl) (.inr rfl) rfl rfl (by decide)) ?_
        rintro _ w2 ⟨b1, rfl, hS9, hk1⟩
        refine WL.call rfl (XC.fn Try.func19 (by kernel_rfl) rfl rfl rfl) (rnumbers_calls  (St.rrOf (rows := [((⟨A_a, a.length, c_a⟩ : SV), a), ((⟨A_b, b.length, c_b⟩ : SV), b)]) (SH.rd hS9 (.head _)) (St.inCons (r := (⟨A_a, a.length, c_a⟩ : SV)) rfl (SH.stN hS9 h_a) (St.inCons (r := (⟨A_b, b.length, c_b⟩ : SV)) rfl (SH.stN hS9 h_b) St.in0))) rfl (by simp) (by intro p hp; simp at hp; rcases hp with rfl | rfl <;> simp only [] <;> omega)) ?_
        rintro v_ w3 ⟨A2, c2, rows1, rfl, hq1, hS10⟩
        have hS11 := SH.joinN hS9 hS10
        have hmt := map_two (x := NA a) (y := NB a b) hq1
        have hra : (rows1.getD (0 : Int).toNat default).2 = NA a := hmt.2.1
        have hrb : (rows1.getD (1 : Int).toNat default).2 = NB a b := hmt.2.2
        have hla := NA_len a
        have hlb := NB_len a b
        have hl1 := hmt.1
        have hlra : (rows1.getD (0 : Int).toNat default).2.length = a.length := by rw [hra]; exact hla
        have hlrb : (rows1.getD (1 : Int).toNat default).2.length = b.length := by rw [hrb]; exact hlb
        refine WL.lv rfl (LV.asg rfl) ?_
        refine WL.nil (thenQ.n ?_)
        refine WC.seq ?_
        refine WC.region ?_
        refine WL.lv rfl (LV.mv rfl) ?_
        refine WL.lv rfl (LV.lenL Try.underlying22 rfl) ?_
        refine WL.xe rfl (XE.make (E := eB) (n := a.length) false hS11 Try.underlying34 ti4 rfl rfl rfl rfl rfl rfl (by omega) (by omega)) ?_
        rintro _ w4 ⟨b2, rfl, hS12, hk2⟩
        have hS13 : SH w No w4 [rowE eB 4 (.slice (some ⟨b2, 0, none⟩) ((List.replicate a.length false).length) a.length) (List.replicate a.length false), rrE eI 33 3 (.slice A2 rows1.length c2) rows1, rowE eV 22 (.slice (some ⟨b1, 0, none⟩) 2 2) [(⟨A_a, a.length, c_a⟩ : SV), (⟨A_b, b.length, c_b⟩ : SV)], rowE eP 41 (.slice A1 ((STY a b).length) c1) (STY a b)] := by rw [(show (List.replicate a.length false).length = a.length from List.length_replicate)]; exact hS12
        refine WL.lv rfl (LV.asg (v := (.slice (some ⟨b2, 0, none⟩) ((List.replicate a.length false).length) a.length)) (by rw [(show (List.replicate a.length false).length = a.length from List.length_replicate)]; rfl)) ?_
        refine WL.nil (thenQ.n ?_)
        refine WC.seq ?_
        refine WC.region ?_
        refine WL.lv rfl (LV.mv rfl) ?_
        refine WL.lv rfl (LV.lenL Try.underlying22 rfl) ?_
        refine WL.xe rfl (XE.make (E := eB) (n := b.length) false hS13 Try.underlying34 ti4 rfl rfl rfl rfl rfl rfl (by omega) (by omega)) ?_
        rintro _ w5 ⟨b3, rfl, hS14, hk3⟩
        have hS15 : SH w No w5 [rowE eB 4 (.slice (some ⟨b3, 0, none⟩) ((List.replicate b.length false).length) b.length) (List.replicate b.length false), rowE eB 4 (.slice (some ⟨b2, 0, none⟩) ((List.replicate a.length false).length) a.length) (List.replicate a.length false), rrE eI 33 3 (.slice A2 rows1.length c2) rows1, rowE eV 22 (.slice (some ⟨b1, 0, none⟩) 2 2) [(⟨A_a, a.length, c_a⟩ : SV), (⟨A_b, b.length, c_b⟩ : SV)], rowE eP 41 (.slice A1 ((STY a b).length) c1) (STY a b)] := by rw [(show (List.replicate b.length false).length = b.length from List.length_replicate)]; exact hS14
        refine WL.lv rfl (LV.asg (v := (.slice (some ⟨b3, 0, none⟩) ((List.replicate b.length false).length) b.length)) (by rw [(show (List.replicate b.length false).length = b.length from List.length_replicate)]; rfl)) ?_
        refine WL.nil (thenQ.n ?_)
        iterate 2 refine WC.seq ?_
        refine WC.region ?_
        refine WL.lv rfl (LV.asg rfl) ?_
        refine WL.nil (thenQ.n ?_)
        refine WC.block ?_
        refine WC.loop (fun m_ f_ w_ => ∃ (A_used : Option Addr) (c_used : Nat) (used : List Bool) (A_taken : Option Addr) (c_taken : Nat) (taken : List Bool) (i : Int), (0 ≤ i) ∧ (i ≤ ((STY a b).length : Int)) ∧ (used = usd a.length ((STY a b).take i.toNat)) ∧ (taken = tkn b.length ((STY a b).take i.toNat)) ∧ (used.length = a.length) ∧ (taken.length = b.length) ∧ SH w No w_ [rowE eB 4 (.slice A_taken taken.length c_taken) taken, rowE eB 4 (.slice A_used used.length c_used) used, rrE eI 33 3 (.slice A2 rows1.length c2) rows1, rowE eV 22 (.slice (some ⟨b1, 0, none⟩) 2 2) [(⟨A_a, a.length, c_a⟩ : SV), (⟨A_b, b.length, c_b⟩ : SV)], rowE eP 41 (.slice A1 ((STY a b).length) c1) (STY a b)] ∧ m_ = ((((STY a b).length : Int) - i).toNat) ∧ Weak (lit [(0, (.slice A_a a.length c_a)), (1, (.slice A_b b.length c_b)), (2, (.int .i64 least)), (8, (.slice A1 ((STY a b).length) c1)), (10, (.slice A2 rows1.length c2)), (11, (.slice A_used used.length c_used)), (12, (.slice A_taken taken.length c_taken)), (13, (.int .i64 i))]) f_) _ ⟨(some ⟨b2, 0, none⟩), a.length, (List.replicate a.length false), (some ⟨b3, 0, none⟩), b.length, (List.replicate b.length false), 0, by omega, by omega, rfl, rfl, (by simp), (by simp), hS15, rfl, Weak.cons rfl <| Weak.cons rfl <| Weak.cons rfl <| Weak.cons rfl <| Weak.cons rfl <| Weak.cons rfl <| Weak.cons rfl <| Weak.cons rfl <| Weak.nil _⟩ ?_
        rintro m1 f1 w6 ⟨A_used, c_used, used, A_taken, c_taken, taken, i, ilo, ihi, u1, u2, u3, u4, hL1, rfl, hw1⟩
        refine WC.weak hw1 ?_
        clear hw1
        iterate 2 refine WC.seq ?_
        refine WC.region ?_
        iterate 2 refine WL.lv rfl (LV.mv rfl) ?_
        refine WL.lv rfl (LV.lenL Try.underlying35 rfl) ?_
        refine WL.lv rfl (LV.ltI rfl rfl) ?_
        refine WL.nil (thenQ.n ?_)
        refine WC.condP (p := i < ((STY a b).length : Int)) rfl (fun hk => ?_) (fun hk => ?_)
        · have hp_ := STY_ok (a := a) (b := b) (by omega) (by omega) ilo hk
          refine WC.skip (thenQ.n ?_)
          refine WC.seq ?_
          refine WC.block ?_
          refine WC.seq ?_
          refine WC.region ?_
          iterate 3 refine WL.lv rfl (LV.mv rfl) ?_
          obtain ⟨A3, c3, e1, g1⟩ := St.elt (SH.rd hL1 (.tail _ (.tail _ (.tail _ (.tail _ (.head _)))))) (0, 0) i (by omega) (by omega)
          refine WL.lv rfl (LV.idxA Try.underlying35 ti41.sz rfl e1 rfl (by omega) (by omega)) ?_
          refine WL.lv rfl (LV.idxArr Try.underlying41 ti3.sz rfl rfl (by decide) (by decide)) ?_
          refine WL.lv rfl (LV.load1 (v := (.int .i64 (((STY a b).getD (i).toNat (0, 0)).1))) Try.underlying3 rfl rfl (g1 _ (KB.refl No _) 0 _ rfl)) ?_
          refine WL.call rfl (XC.fn Try.func25 (by kernel_rfl) rfl rfl rfl) (with_calls (at_ := (((STY a b).getD (i).toNat (0, 0)).1)) (n := (1 : Int)) (SH.rd hL1 (.tail _ (.head _))) rfl (by omega) (by omega) (by omega) (by omega)) ?_
          rintro v_ w7 ⟨A4, c4, rfl, hS16⟩
          have hS17 := SH.joinN hL1 hS16
          refine WL.lv rfl (LV.asg rfl) ?_
          refine WL.nil (thenQ.n ?_)
          refine WC.region ?_
          iterate 3 refine WL.lv rfl (LV.mv rfl) ?_
          obtain ⟨A5, c5, e2, g2⟩ := St.elt (SH.rd hS17 (.tail _ (.tail _ (.tail _ (.tail _ (.tail _ (.head _))))))) (0, 0) i (by omega) (by omega)
          refine WL.lv rfl (LV.idxA Try.underlying35 ti41.sz rfl e2 rfl (by omega) (by omega)) ?_
          refine WL.lv rfl (LV.idxArr Try.underlying41 ti3.sz rfl rfl (by decide) (by decide)) ?_
          refine WL.lv rfl (LV.load1 (v := (.int .i64 (((STY a b).getD (i).toNat (0, 0)).2))) Try.underlying3 rfl rfl (g2 _ (KB.refl No _) 1 _ rfl)) ?_
          refine WL.call rfl (XC.fn Try.func25 (by kernel_rfl) rfl rfl rfl) (with_calls (at_ := (((STY a b).getD (i).toNat (0, 0)).2)) (n := (1 : Int)) (SH.rd hS17 (.tail _ (.head _))) rfl (by omega) (by omega) (by omega) (by omega)) ?_
          rintro v_ w8 ⟨A6, c6, rfl, hS18⟩
          have hS19 := SH.joinN hS17 hS18
          refine WL.lv rfl (LV.asg rfl) ?_
          refine WL.nil (blockQ.n <| thenQ.n ?_)
          refine WC.region ?_
          refine WL.lv rfl (LV.mv rfl) ?_
          refine WL.lv rfl (LV.add rfl rfl (wr64 (by omega) (by omega))) ?_
          refine WL.lv rfl (LV.asg rfl) ?_
          refine WL.nil (thenQ.n ?_)
          have hS20 : SH w No w8 [rowE eB 4 (.slice A6 ((mrk taken (((STY a b).getD (i).toNat (0, 0)).2) (1 : Int)).length) c6) (mrk taken (((STY a b).getD (i).toNat (0, 0)).2) (1 : Int)), rowE eB 4 (.slice A4 ((mrk used (((STY a b).getD (i).toNat (0, 0)).1) (1 : Int)).length) c4) (mrk used (((STY a b).getD (i).toNat (0, 0)).1) (1 : Int)), rrE eI 33 3 (.slice A2 rows1.length c2) rows1, rowE eV 22 (.slice (some ⟨b1, 0, none⟩) 2 2) [(⟨A_a, a.length, c_a⟩ : SV), (⟨A_b, b.length, c_b⟩ : SV)], rowE eP 41 (.slice A1 ((STY a b).length) c1) (STY a b)] := (SH.take 5 rfl (SH.front [rowE eB 4 (.slice A4 ((mrk used (((STY a b).getD (i).toNat (0, 0)).1) (1 : Int)).length) c4) (mrk used (((STY a b).getD (i).toNat (0, 0)).1) (1 : Int)), rrE eI 33 3 (.slice A2 rows1.length c2) rows1, rowE eV 22 (.slice (some ⟨b1, 0, none⟩) 2 2) [(⟨A_a, a.length, c_a⟩ : SV), (⟨A_b, b.length, c_b⟩ : SV)], rowE eP 41 (.slice A1 ((STY a b).length) c1) (STY a b)] (SH.front [rrE eI 33 3 (.slice A2 rows1.length c2) rows1, rowE eV 22 (.slice (some ⟨b1, 0, none⟩) 2 2) [(⟨A_a, a.length, c_a⟩ : SV), (⟨A_b, b.length, c_b⟩ : SV)], rowE eP 41 (.slice A1 ((STY a b).length) c1) (STY a b), rowE eB 4 (.slice A6 ((mrk taken (((STY a b).getD (i).toNat (0, 0)).2) (1 : Int)).length) c6) (mrk taken (((STY a b).getD (i).toNat (0, 0)).2) (1 : Int))] (SH.front [rowE eV 22 (.slice (some ⟨b1, 0, none⟩) 2 2) [(⟨A_a, a.length, c_a⟩ : SV), (⟨A_b, b.length, c_b⟩ : SV)], rowE eP 41 (.slice A1 ((STY a b).length) c1) (STY a b), rowE eB 4 (.slice A6 ((mrk taken (((STY a b).getD (i).toNat (0, 0)).2) (1 : Int)).length) c6) (mrk taken (((STY a b).getD (i).toNat (0, 0)).2) (1 : Int)), rowE eB 4 (.slice A4 ((mrk used (((STY a b).getD (i).toNat (0, 0)).1) (1 : Int)).length) c4) (mrk used (((STY a b).getD (i).toNat (0, 0)).1) (1 : Int)), rowE eB 4 (.slice A_taken taken.length c_taken) taken, rowE eB 4 (.slice A_used used.length c_used) used] (SH.front [rowE eP 41 (.slice A1 ((STY a b).length) c1) (STY a b), rowE eB 4 (.slice A6 ((mrk taken (((STY a b).getD (i).toNat (0, 0)).2) (1 : Int)).length) c6) (mrk taken (((STY a b).getD (i).toNat (0, 0)).2) (1 : Int)), rowE eB 4 (.slice A4 ((mrk used (((STY a b).getD (i).toNat (0, 0)).1) (1 : Int)).length) c4) (mrk used (((STY a b).getD (i).toNat (0, 0)).1) (1 : Int)), rowE eB 4 (.slice A_taken taken.length c_taken) taken, rowE eB 4 (.slice A_used used.length c_used) used, rrE eI 33 3 (.slice A2 rows1.length c2) rows1] (SH.front [rowE eB 4 (.slice A6 ((mrk taken (((STY a b).getD (i).toNat (0, 0)).2) (1 : Int)).length) c6) (mrk taken (((STY a b).getD (i).toNat (0, 0)).2) (1 : Int)), rowE eB 4 (.slice A4 ((mrk used (((STY a b).getD (i).toNat (0, 0)).1) (1 : Int)).length) c4) (mrk used (((STY a b).getD (i).toNat (0, 0)).1) (1 : Int)), rowE eB 4 (.slice A_taken taken.length c_taken) taken, rowE eB 4 (.slice A_used used.length c_used) used, rrE eI 33 3 (.slice A2 rows1.length c2) rows1, rowE eV 22 (.slice (some ⟨b1, 0, none⟩) 2 2) [(⟨A_a, a.length, c_a⟩ : SV), (⟨A_b, b.length, c_b⟩ : SV)]] hS19))))))
          exact ⟨_, by omega, A4, c4, mrk used (((STY a b).getD (i).toNat (0, 0)).1) (1 : Int), A6, c6, mrk taken (((STY a b).getD (i).toNat (0, 0)).2) (1 : Int), i + 1, by omega, by omega, (usd_snoc ilo hk u1), (tkn_snoc ilo hk u2), ((mrk_len hp_.1 (by omega) (by omega)).trans u3), ((mrk_len hp_.2.2.1 (by omega) (by omega)).trans u4), hS20, rfl, Weak.cons rfl <| Weak.cons rfl <| Weak.cons rfl <| Weak.cons rfl <| Weak.cons rfl <| Weak.cons rfl <| Weak.cons rfl <| Weak.cons rfl <| Weak.nil _⟩
        · skip
          refine WC.exit (thenQ.x <| thenQ.x <| blockQ.hit <| thenQ.n ?_)
          refine WC.seq ?_
          refine WC.region ?_
          rw [take_all (by omega)] at u1 u2
          refine WL.xe rfl (XE.buildSlice (E := eB3) [] #[] [] hL1 Try.underlying24 ti43 rfl (by decide) (by kernel_rfl) (.inr rfl) rfl rfl (by decide)) ?_
          rintro _ w9 ⟨b4, rfl, hS21, hk4⟩
          refine WL.lv rfl (LV.asg rfl) ?_
          refine WL.nil (thenQ.n ?_)
          refine WC.block ?_
          refine WC.loop (fun m_ f_ w_ => ∃ (A_used2 : Option Addr) (c_used2 : Nat) (used2 : List Bool) (A_taken2 : Option Addr) (c_taken2 : Nat) (taken2 : List Bool) (A_out : Option Addr) (c_out : Nat) (out : List (Int × Int × Int)) (lo : List (Int × Int × Int)), (fnd (NA a) (NB a b) least used2 taken2 lo = fnd (NA a) (NB a b) least used taken []) ∧ (out = srt lo) ∧ (used2.length = a.length) ∧ (taken2.length = b.length) ∧ (lo.length + used2.count false ≤ a.length) ∧ SH w No w_ [rowE eB3 43 (.slice A_out out.length c_out) out, rowE eB 4 (.slice A_taken2 taken2.length c_taken2) taken2, rowE eB 4 (.slice A_used2 used2.length c_used2) used2, rrE eI 33 3 (.slice A2 rows1.length c2) rows1, rowE eV 22 (.slice (some ⟨b1, 0, none⟩) 2 2) [(⟨A_a, a.length, c_a⟩ : SV), (⟨A_b, b.length, c_b⟩ : SV)], rowE eP 41 (.slice A1 ((STY a b).length) c1) (STY a b)] ∧ m_ = (used2.count false) ∧ Weak (lit [(0, (.slice A_a a.length c_a)), (1, (.slice A_b b.length c_b)), (2, (.int .i64 least)), (10, (.slice A2 rows1.length c2)), (11, (.slice A_used2 used2.length c_used2)), (12, (.slice A_taken2 taken2.length c_taken2)), (14, (.slice A_out out.length c_out))]) f_) _ ⟨A_used, c_used, used, A_taken, c_taken, taken, (some ⟨b4, 0, none⟩), 0, [], ([] : List (Int × Int × Int)), rfl, rfl, u3, u4, (by have h_ := List.count_le_length (a := false) (l := used); simp only [List.length_nil]; omega), hS21, rfl, Weak.cons rfl <| Weak.cons rfl <| Weak.cons rfl <| Weak.cons rfl <| Weak.cons rfl <| Weak.cons rfl <| Weak.cons rfl <| Weak.nil _⟩ ?_
          rintro m2 f2 w10 ⟨A_used2, c_used2, used2, A_taken2, c_taken2, taken2, A_out, c_out, out, lo, q1, q2, q3, q4, q5, hL2, rfl, hw2⟩
          refine WC.weak hw2 ?_
          clear hw2
          have hol : out.length = lo.length := by rw [q2]; exact (srt_perm lo).length_eq
          refine WC.block ?_
          refine WC.seq ?_
          refine WC.region ?_
          refine WL.lv rfl (LV.build (vs := []) (places := #[(0, 1), (1, 1), (2, 1)]) (cs := #[(.int .i64 0), (.int .i64 0), (.int .i64 0)]) Try.underlying43 ti43 (fun _ => by kernel_rfl) rfl rfl) ?_
          refine WL.xe rfl (XE.alloc #[(.int .i64 0), (.int .i64 0), (.int .i64 0)] hL2 ti43 rfl) ?_
          rintro _ w11 ⟨b5, rfl, hS22, hk5⟩
          refine WL.xse rfl (XSE.blkAgg #[(.int .i64 0), (.int .i64 0), (.int .i64 0)] hS22 (by kernel_rfl) rfl (by kernel_rfl) rfl rfl) ?_
          rintro w12 ⟨hS23, hk6⟩
          refine WL.nil (thenQ.n ?_)
          iterate 2 refine WC.seq ?_
          refine WC.region ?_
          refine WL.lv rfl (LV.asg rfl) ?_
          refine WL.nil (thenQ.n ?_)
          refine WC.block ?_
          refine WC.loop (fun m_ f_ w_ => ∃ (best0 : Int) (best1 : Int) (best2 : Int) (i2 : Int), (0 ≤ i2) ∧ (i2 ≤ (a.length : Int)) ∧ ((best0, best1, best2) = bstI (grw (rows1.getD (0 : Int).toNat default).2 (rows1.getD (1 : Int).toNat default).2 used2 taken2) b.length i2.toNat) ∧ SH w No w_ [blkE b5 43 #[(.int .i64 best0), (.int .i64 best1), (.int .i64 best2)], rowE eB3 43 (.slice A_out out.length c_out) out, rowE eB 4 (.slice A_taken2 taken2.length c_taken2) taken2, rowE eB 4 (.slice A_used2 used2.length c_used2) used2, rrE eI 33 3 (.slice A2 rows1.length c2) rows1, rowE eV 22 (.slice (some ⟨b1, 0, none⟩) 2 2) [(⟨A_a, a.length, c_a⟩ : SV), (⟨A_b, b.length, c_b⟩ : SV)], rowE eP 41 (.slice A1 ((STY a b).length) c1) (STY a b)] ∧ m_ = (((a.length : Int) - i2).toNat) ∧ Weak (lit [(0, (.slice A_a a.length c_a)), (1, (.slice A_b b.length c_b)), (2, (.int .i64 least)), (10, (.slice A2 rows1.length c2)), (11, (.slice A_used2 used2.length c_used2)), (12, (.slice A_taken2 taken2.length c_taken2)), (14, (.slice A_out out.length c_out)), (15, (.pointer (some ⟨b5, 0, none⟩))), (16, (.int .i64 i2))]) f_) _ ⟨0, 0, 0, 0, by omega, by omega, rfl, hS23, rfl, Weak.cons rfl <| Weak.cons rfl <| Weak.cons rfl <| Weak.cons rfl <| Weak.cons rfl <| Weak.cons rfl <| Weak.cons rfl <| Weak.cons rfl <| Weak.cons rfl <| Weak.nil _⟩ ?_
          rintro m3 f3 w13 ⟨best0, best1, best2, i2, i2lo, i2hi, r1, hL3, rfl, hw3⟩
          refine WC.weak hw3 ?_
          clear hw3
          iterate 2 refine WC.seq ?_
          refine WC.region ?_
          iterate 2 refine WL.lv rfl (LV.mv rfl) ?_
          refine WL.lv rfl (LV.lenL Try.underlying22 rfl) ?_
          refine WL.lv rfl (LV.ltI rfl rfl) ?_
          refine WL.nil (thenQ.n ?_)
          refine WC.condP (p := i2 < (a.length : Int)) rfl (fun hc2 => ?_) (fun hc2 => ?_)
          · skip
            refine WC.skip (thenQ.n ?_)
            refine WC.seq ?_
            refine WC.block ?_
            refine WC.seq ?_
            refine WC.region ?_
            refine WL.lv rfl (LV.asg rfl) ?_
            refine WL.nil (thenQ.n ?_)
            refine WC.block ?_
            refine WC.loop (fun m_ f_ w_ => ∃ (best02 : Int) (best12 : Int) (best22 : Int) (j : Int), (0 ≤ j) ∧ (j ≤ (b.length : Int)) ∧ ((best02, best12, best22) = bstJ (grw (rows1.getD (0 : Int).toNat default).2 (rows1.getD (1 : Int).toNat default).2 used2 taken2) i2 j.toNat (best0, best1, best2)) ∧ SH w No w_ [blkE b5 43 #[(.int .i64 best02), (.int .i64 best12), (.int .i64 best22)], rowE eB3 43 (.slice A_out out.length c_out) out, rowE eB 4 (.slice A_taken2 taken2.length c_taken2) taken2, rowE eB 4 (.slice A_used2 used2.length c_used2) used2, rrE eI 33 3 (.slice A2 rows1.length c2) rows1, rowE eV 22 (.slice (some ⟨b1, 0, none⟩) 2 2) [(⟨A_a, a.length, c_a⟩ : SV), (⟨A_b, b.length, c_b⟩ : SV)], rowE eP 41 (.slice A1 ((STY a b).length) c1) (STY a b)] ∧ m_ = (((b.length : Int) - j).toNat) ∧ Weak (lit [(0, (.slice A_a a.length c_a)), (1, (.slice A_b b.length c_b)), (2, (.int .i64 least)), (10, (.slice A2 rows1.length c2)), (11, (.slice A_used2 used2.length c_used2)), (12, (.slice A_taken2 taken2.length c_taken2)), (14, (.slice A_out out.length c_out)), (15, (.pointer (some ⟨b5, 0, none⟩))), (16, (.int .i64 i2)), (17, (.int .i64 j))]) f_) _ ⟨best0, best1, best2, 0, by omega, by omega, rfl, hL3, rfl, Weak.cons rfl <| Weak.cons rfl <| Weak.cons rfl <| Weak.cons rfl <| Weak.cons rfl <| Weak.cons rfl <| Weak.cons rfl <| Weak.cons rfl <| Weak.cons rfl <| Weak.cons rfl <| Weak.nil _⟩ ?_
            rintro m4 f4 w14 ⟨best02, best12, best22, j, jlo, jhi, r2, hL4, rfl, hw4⟩
            refine WC.weak hw4 ?_
            clear hw4
            iterate 2 refine WC.seq ?_
            refine WC.region ?_
            iterate 2 refine WL.lv rfl (LV.mv rfl) ?_
            refine WL.lv rfl (LV.lenL Try.underlying22 rfl) ?_
            refine WL.lv rfl (LV.ltI rfl rfl) ?_
            refine WL.nil (thenQ.n ?_)
            refine WC.condP (p := j < (b.length : Int)) rfl (fun hc3 => ?_) (fun hc3 => ?_)
            · skip
              refine WC.skip (thenQ.n ?_)
              refine WC.seq ?_
              refine WC.block ?_
              refine WC.seq ?_
              have hS24 := SH.drew hL4
              refine WC.regionD [] (fun w_ => KB No w14.drew w_) [(.pure, 0), (.pure, 1), (.look, 2), (.pure, 3), (.pure, 4), (.look, 5), (.pure, 6), (.pure, 7), (.pure, 8), (.pure, 9), (.forced, 10), (.pure, 11)] (by kernel_rfl) (by kernel_rfl) (KB.refl _ _) ?_
              refine WS.pure rfl rfl (fun _ => LV.mv rfl) ?_
              obtain ⟨A7, c7, A8, c8, e3, g3, e4, r3⟩ := St.eltRR (SH.rdRR hS24 (.tail _ (.tail _ (.tail _ (.tail _ (.head _)))))) default (0 : Int) (by omega) (by omega)
              refine WS.pure rfl rfl (fun _ => LV.idxA Try.underlying46 ti33.sz rfl e3 rfl (by omega) (by omega)) ?_
              refine WS.look rfl rfl (fun _ hk_ => LV.load1 Try.underlying33 rfl rfl (g3 _ hk_)) ?_
              refine WS.pure rfl rfl (fun _ => LV.mv rfl) ?_
              obtain ⟨A9, c9, A10, c10, e5, g4, e6, r4⟩ := St.eltRR (SH.rdRR hS24 (.tail _ (.tail _ (.tail _ (.tail _ (.head _)))))) default (1 : Int) (by omega) (by omega)
              refine WS.pure rfl rfl (fun _ => LV.idxA Try.underlying46 ti33.sz rfl e5 rfl (by omega) (by omega)) ?_
              refine WS.look rfl rfl (fun _ hk_ => LV.load1 Try.underlying33 rfl rfl (g4 _ hk_)) ?_
              iterate 4 refine WS.pure rfl rfl (fun _ => LV.mv rfl) ?_
              refine WS.call rfl rfl (XC.fn Try.func17 (by kernel_rfl) rfl rfl rfl) (rgrow_calls (i := i2) (j := j) (St.inner (SH.rdRR hS24 (.tail _ (.tail _ (.tail _ (.tail _ (.head _)))))) (getD_mem (by omega)) e4) rfl (St.inner (SH.rdRR hS24 (.tail _ (.tail _ (.tail _ (.tail _ (.head _)))))) (getD_mem (by omega)) e6) rfl (SH.rd hS24 (.tail _ (.tail _ (.tail _ (.head _))))) rfl (SH.rd hS24 (.tail _ (.tail _ (.head _)))) rfl ) ?_
              rintro v_ w15 ⟨rfl, hk7⟩
              have hS25 := SH.same hS24 hk7
              refine ⟨fun h_ => (KB.transN (KB.refl _ _) hk7), ?_⟩
              refine WS.pure rfl rfl (fun _ => LV.asg rfl) ?_
              refine WS.nil (thenQ.n ?_)
              refine WC.seq ?_
              refine WC.region ?_
              refine WL.lv rfl (LV.mv rfl) ?_
              refine WL.lv rfl (LV.fieldA Try.underlying43 rfl ti3.sz rfl) ?_
              refine WL.lv rfl (LV.load1 Try.underlying3 rfl rfl (Blk.cellN (SH.at hS25 (.head _)) 2 rfl _ (KB.refl No _))) ?_
              refine WL.lv rfl (LV.gtI rfl rfl) ?_
              refine WL.nil (thenQ.n ?_)
              refine WC.condP (p := (grw ((rows1.getD ((0 : Int)).toNat default).2) ((rows1.getD ((1 : Int)).toNat default).2) used2 taken2 i2 j) > best22) rfl (fun hc94 => ?_) (fun hc94 => ?_)
              · skip
                refine WC.region ?_
                iterate 3 refine WL.lv rfl (LV.mv rfl) ?_
                refine WL.lv rfl (LV.build (vs := [(0, (.int .i64 i2)), (1, (.int .i64 j)), (2, (.int .i64 (grw ((rows1.getD ((0 : Int)).toNat default).2) ((rows1.getD ((1 : Int)).toNat default).2) used2 taken2 i2 j)))]) (places := #[(0, 1), (1, 1), (2, 1)]) (cs := #[(.int .i64 i2), (.int .i64 j), (.int .i64 (grw ((rows1.getD ((0 : Int)).toNat default).2) ((rows1.getD ((1 : Int)).toNat default).2) used2 taken2 i2 j))]) Try.underlying43 ti43 (fun _ => by kernel_rfl) rfl rfl) ?_
                refine WL.xse rfl (XSE.blkAgg #[(.int .i64 i2), (.int .i64 j), (.int .i64 (grw ((rows1.getD ((0 : Int)).toNat default).2) ((rows1.getD ((1 : Int)).toNat default).2) used2 taken2 i2 j))] hS25 (by kernel_rfl) rfl (by kernel_rfl) rfl rfl) ?_
                rintro w16 ⟨hS26, hk8⟩
                refine WL.nil (blockQ.n <| thenQ.n ?_)
                refine WC.region ?_
                refine WL.lv rfl (LV.mv rfl) ?_
                refine WL.lv rfl (LV.add rfl rfl (wr64 (by omega) (by omega))) ?_
                refine WL.lv rfl (LV.asg rfl) ?_
                refine WL.nil (thenQ.n ?_)
                exact ⟨_, by omega, i2, j, grw ((rows1.getD ((0 : Int)).toNat default).2) ((rows1.getD ((1 : Int)).toNat default).2) used2 taken2 i2 j, j + 1, by omega, by omega, (bstJ_yes jlo r2 hc94), hS26, rfl, Weak.cons rfl <| Weak.cons rfl <| Weak.cons rfl <| Weak.cons rfl <| Weak.cons rfl <| Weak.cons rfl <| Weak.cons rfl <| Weak.cons rfl <| Weak.cons rfl <| Weak.cons rfl <| Weak.nil _⟩
              · skip
                refine WC.skip (blockQ.n <| thenQ.n ?_)
                refine WC.region ?_
                refine WL.lv rfl (LV.mv rfl) ?_
                refine WL.lv rfl (LV.add rfl rfl (wr64 (by omega) (by omega))) ?_
                refine WL.lv rfl (LV.asg rfl) ?_
                refine WL.nil (thenQ.n ?_)
                exact ⟨_, by omega, best02, best12, best22, j + 1, by omega, by omega, (bstJ_no jlo r2 hc94), hS25, rfl, Weak.cons rfl <| Weak.cons rfl <| Weak.cons rfl <| Weak.cons rfl <| Weak.cons rfl <| Weak.cons rfl <| Weak.cons rfl <| Weak.cons rfl <| Weak.cons rfl <| Weak.cons rfl <| Weak.nil _⟩
            · skip
              refine WC.exit (thenQ.x <| thenQ.x <| blockQ.hit <| blockQ.n <| thenQ.n ?_)
              refine WC.region ?_
              refine WL.lv rfl (LV.mv rfl) ?_
              refine WL.lv rfl (LV.add rfl rfl (wr64 (by omega) (by omega))) ?_
              refine WL.lv rfl (LV.asg rfl) ?_
              refine WL.nil (thenQ.n ?_)
              exact ⟨_, by omega, best02, best12, best22, i2 + 1, by omega, by omega, (bstI_step i2lo r1 r2 (by omega) (by omega)), hL4, rfl, Weak.cons rfl <| Weak.cons rfl <| Weak.cons rfl <| Weak.cons rfl <| Weak.cons rfl <| Weak.cons rfl <| Weak.cons rfl <| Weak.cons rfl <| Weak.cons rfl <| Weak.nil _⟩
          · skip
            refine WC.exit (thenQ.x <| thenQ.x <| blockQ.hit <| thenQ.n ?_)
            iterate 2 refine WC.seq ?_
            refine WC.region ?_
            have hbest : (best0, best1, best2) = bst (NA a) (NB a b) used2 taken2 := by rw [r1, show i2.toNat = a.length by omega]; unfold bst; rw [hra, hrb, hla, hlb]
            refine WL.lv rfl (LV.fieldA Try.underlying43 rfl ti3.sz rfl) ?_
            refine WL.lv rfl (LV.load1 Try.underlying3 rfl rfl (Blk.cellN (SH.at hL3 (.head _)) 2 rfl _ (KB.refl No _))) ?_
            refine WL.lv rfl (LV.mv rfl) ?_
            refine WL.lv rfl (LV.ltI rfl rfl) ?_
            refine WL.nil (thenQ.n ?_)
            refine WC.condP (p := best2 < least) rfl (fun hlt => ?_) (fun hlt => ?_)
            · skip
              refine WC.seq ?_
              refine WC.region ?_
              refine WL.lv rfl (LV.mv rfl) ?_
              iterate 2 refine WL.lv rfl (LV.asg rfl) ?_
              refine WL.nil (thenQ.n ?_)
              refine WC.ret (thenQ.r <| blockQ.r <| thenQ.r <| blockQ.r <| ?_)
              have hS27 : SH w No w13 [rowE eB3 43 (.slice A_out out.length c_out) out] := (SH.take 1 rfl (SH.front [blkE b5 43 #[(.int .i64 best0), (.int .i64 best1), (.int .i64 best2)]] hL3))
              have hres4 : (out : List (Int × Int × Int)) = FB a b least := by unfold FB; rw [if_neg (by omega), q2]; unfold FND; rw [← u1, ← u2, ← q1, fnd_stop hbest hlt]
              exact ⟨_, fun a ha => res2 rfl ha rfl rfl, (by rw [← hres4]; exact ⟨_, _, tup2 rfl (congrArg (Value.int .i64) (by unfold FE; first | rw [if_pos (by omega)] | rw [if_neg (by omega), if_pos (by omega)] | rw [if_neg (by omega), if_neg (by omega)])), hS27⟩)⟩
            · have hk1 := bst_ok (x := NA a) (y := NB a b) (u := used2) (t := taken2) (by rw [← hbest]; show 1 ≤ best2; omega)
              rw [← hbest] at hk1
              have hf0 : 0 ≤ best0 := hk1.f0
              have hf1 : best0 + best2 ≤ (NA a).length := hk1.f1
              have hf2 : 0 ≤ best1 := hk1.t0
              have hf3 : best1 + best2 ≤ (NB a b).length := hk1.t1
              have hcnt : (mrk used2 best0 best2).count false < used2.count false := by have h_ := cnt_bst (x := NA a) (y := NB a b) (u := used2) (t := taken2) (by rw [← hbest]; show 1 ≤ best2; omega) (by omega); rw [← hbest] at h_; exact h_
              refine WC.skip (thenQ.n ?_)
              refine WC.seq ?_
              refine WC.region ?_
              refine WL.lv rfl (LV.mv rfl) ?_
              refine WL.lv rfl (LV.fieldA Try.underlying43 rfl ti3.sz rfl) ?_
              refine WL.lv rfl (LV.load1 Try.underlying3 rfl rfl (Blk.cellN (SH.at hL3 (.head _)) 0 rfl _ (KB.refl No _))) ?_
              refine WL.lv rfl (LV.fieldA Try.underlying43 rfl ti3.sz rfl) ?_
              refine WL.lv rfl (LV.load1 Try.underlying3 rfl rfl (Blk.cellN (SH.at hL3 (.head _)) 2 rfl _ (KB.refl No _))) ?_
              refine WL.call rfl (XC.fn Try.func25 (by kernel_rfl) rfl rfl rfl) (with_calls (at_ := best0) (n := best2) (SH.rd hL3 (.tail _ (.tail _ (.tail _ (.head _))))) rfl (by omega) (by omega) (by omega) (by omega)) ?_
              rintro v_ w17 ⟨A11, c11, rfl, hS28⟩
              have hS29 := SH.joinN hL3 hS28
              refine WL.lv rfl (LV.asg rfl) ?_
              refine WL.nil (thenQ.n ?_)
              refine WC.seq ?_
              refine WC.region ?_
              refine WL.lv rfl (LV.mv rfl) ?_
              refine WL.lv rfl (LV.fieldA Try.underlying43 rfl ti3.sz rfl) ?_
              refine WL.lv rfl (LV.load1 Try.underlying3 rfl rfl (Blk.cellN (SH.at hS29 (.tail _ (.head _))) 1 rfl _ (KB.refl No _))) ?_
              refine WL.lv rfl (LV.fieldA Try.underlying43 rfl ti3.sz rfl) ?_
              refine WL.lv rfl (LV.load1 Try.underlying3 rfl rfl (Blk.cellN (SH.at hS29 (.tail _ (.head _))) 2 rfl _ (KB.refl No _))) ?_
              refine WL.call rfl (XC.fn Try.func25 (by kernel_rfl) rfl rfl rfl) (with_calls (at_ := best1) (n := best2) (SH.rd hS29 (.tail _ (.tail _ (.tail _ (.head _))))) rfl (by omega) (by omega) (by omega) (by omega)) ?_
              rintro v_ w18 ⟨A12, c12, rfl, hS30⟩
              have hS31 := SH.joinN hS29 hS30
              refine WL.lv rfl (LV.asg rfl) ?_
              refine WL.nil (thenQ.n ?_)
              refine WC.seq ?_
              refine WC.region ?_
              refine WL.lv rfl (LV.asg rfl) ?_
              refine WL.nil (thenQ.n ?_)
              refine WC.seq ?_
              refine WC.block ?_
              refine WC.loop (fun m_ f_ w_ => ∃ (at_ : Int), (0 ≤ at_) ∧ (at_ ≤ (out.length : Int)) ∧ (∀ t : Int, 0 ≤ t → t < at_ → (out.getD t.toNat (0, 0, 0)).1 < best0) ∧ SH w No w_ [rowE eB 4 (.slice A12 ((mrk taken2 best1 best2).length) c12) (mrk taken2 best1 best2), rowE eB 4 (.slice A11 ((mrk used2 best0 best2).length) c11) (mrk used2 best0 best2), blkE b5 43 #[(.int .i64 best0), (.int .i64 best1), (.int .i64 best2)], rowE eB3 43 (.slice A_out out.length c_out) out, rowE eB 4 (.slice A_taken2 taken2.length c_taken2) taken2, rowE eB 4 (.slice A_used2 used2.length c_used2) used2, rrE eI 33 3 (.slice A2 rows1.length c2) rows1, rowE eV 22 (.slice (some ⟨b1, 0, none⟩) 2 2) [(⟨A_a, a.length, c_a⟩ : SV), (⟨A_b, b.length, c_b⟩ : SV)], rowE eP 41 (.slice A1 ((STY a b).length) c1) (STY a b)] ∧ m_ = (((out.length : Int) - at_).toNat) ∧ Weak (lit [(0, (.slice A_a a.length c_a)), (1, (.slice A_b b.length c_b)), (2, (.int .i64 least)), (10, (.slice A2 rows1.length c2)), (11, (.slice A11 ((mrk used2 best0 best2).length) c11)), (12, (.slice A12 ((mrk taken2 best1 best2).length) c12)), (14, (.slice A_out out.length c_out)), (15, (.pointer (some ⟨b5, 0, none⟩))), (19, (.int .i64 at_))]) f_) _ ⟨0, by omega, by omega, (fun t h1_ h2_ => by omega), hS31, rfl, Weak.cons rfl <| Weak.cons rfl <| Weak.cons rfl <| Weak.cons rfl <| Weak.cons rfl <| Weak.cons rfl <| Weak.cons rfl <| Weak.cons rfl <| Weak.cons rfl <| Weak.nil _⟩ ?_
              rintro m5 f5 w19 ⟨at_, at_lo, at_hi, s1, hL5, rfl, hw5⟩
              refine WC.weak hw5 ?_
              clear hw5
              iterate 2 refine WC.seq ?_
              have hS32 := SH.drew hL5
              refine WC.regionD [] (fun w_ => KB No w19.drew w_) [(.pure, 0), (.pure, 1), (.pure, 2), (.pure, 3), (.pure, 4), (.pure, 5), (.pure, 6), (.pure, 7), (.pure, 8), (.look, 9), (.pure, 10), (.look, 11), (.pure, 12), (.pure, 13)] (by kernel_rfl) (by kernel_rfl) (KB.refl _ _) ?_
              iterate 2 refine WS.pure rfl rfl (fun _ => LV.mv rfl) ?_
              refine WS.pure rfl rfl (fun _ => LV.lenL Try.underlying24 rfl) ?_
              rcases Decidable.em (at_ < (out.length : Int)) with hg2 | hg2
              · refine WS.pure rfl rfl (fun _ => LV.as (LV.ltI rfl rfl) (decide_eq_true hg2)) ?_
                iterate 3 refine WS.pure rfl rfl (fun _ => LV.mv rfl) ?_
                obtain ⟨A13, c13, e7, g5⟩ := St.elt (SH.rd hS32 (.tail _ (.tail _ (.tail _ (.head _))))) (0, 0, 0) at_ (by omega) (by omega)
                refine WS.pure rfl rfl (fun _ => LV.idxA Try.underlying24 ti43.sz rfl e7 rfl (by omega) (by omega)) ?_
                refine WS.pure rfl rfl (fun _ => LV.fieldA Try.underlying43 rfl ti3.sz rfl) ?_
                refine WS.look rfl rfl (fun _ hk_ => LV.load1 (v := (.int .i64 ((out.getD (at_).toNat (0, 0, 0)).1))) Try.underlying3 rfl rfl (g5 _ hk_ 0 _ rfl)) ?_
                refine WS.pure rfl rfl (fun _ => LV.fieldA Try.underlying43 rfl ti3.sz rfl) ?_
                refine WS.look rfl rfl (fun _ hk_ => LV.load1 Try.underlying3 rfl rfl (Blk.cellN (SH.at hS32 (.tail _ (.tail _ (.head _)))) 0 rfl _ hk_)) ?_
                refine WS.pure rfl rfl (fun _ => LV.ltI rfl rfl) ?_
                refine WS.pure rfl rfl (fun _ => LV.pickT rfl rfl) ?_
                refine WS.nil (thenQ.n ?_)
                refine WC.condP (p := ((out.getD (at_).toNat (0, 0, 0)).1) < best0) rfl (fun hc129 => ?_) (fun hc129 => ?_)
                · skip
                  refine WC.skip (thenQ.n ?_)
                  refine WC.block ?_
                  refine WC.region ?_
                  refine WL.lv rfl (LV.mv rfl) ?_
                  refine WL.lv rfl (LV.add rfl rfl (wr64 (by omega) (by omega))) ?_
                  refine WL.lv rfl (LV.asg rfl) ?_
                  refine WL.nil (blockQ.n <| thenQ.n ?_)
                  exact ⟨_, by omega, at_ + 1, by omega, by omega, (all_step (p := fun t => (out.getD t.toNat (0, 0, 0)).1 < best0) s1 hc129), hS32, rfl, Weak.cons rfl <| Weak.cons rfl <| Weak.cons rfl <| Weak.cons rfl <| Weak.cons rfl <| Weak.cons rfl <| Weak.cons rfl <| Weak.cons rfl <| Weak.cons rfl <| Weak.nil _⟩
                · skip
                  refine WC.exit (thenQ.x <| thenQ.x <| blockQ.hit <| thenQ.n ?_)
                  refine WC.seq ?_
                  refine WC.region ?_
                  refine WL.xe rfl (XE.buildSlice (E := eB3) [] #[] [] hS32 Try.underlying24 ti43 rfl (by decide) (by kernel_rfl) (.inr rfl) rfl rfl (by decide)) ?_
                  rintro _ w20 ⟨b6, rfl, hS33, hk9⟩
                  iterate 2 refine WL.lv rfl (LV.mv rfl) ?_
                  have hcap1 : out.length ≤ c_out := (Rd.cap (St.now (SH.rd hS33 (.tail _ (.tail _ (.tail _ (.tail _ (.head _))))))))
                  refine WL.lv rfl (LV.cut Try.underlying24 ti43.sz rfl rfl rfl rfl ⟨.inl ⟨rfl, rfl⟩, .inr ⟨.i64, by rw [Int.toNat_of_nonneg (a := at_) (by omega)] <;> rfl⟩, .inl ⟨rfl, rfl⟩⟩ (by omega) (by omega) (by omega)) ?_
                  refine WL.xe rfl (XE.append hS33 Try.underlying24 ti43 rfl (St.now ((SH.rd hS33 (.tail _ (.tail _ (.tail _ (.tail _ (.head _)))))).imp fun _ h => Rd.cut h (by omega) (by omega) (by omega) (by omega))) rfl rfl (by first | omega | simp only [List.length_append, List.length_cons, List.length_nil, List.length_take, List.length_reverse, List.length_drop] at *; omega) (by first | omega | simp only [List.length_append, List.length_cons, List.length_nil, List.length_take, List.length_reverse, List.length_drop] at *; omega)) ?_
                  rintro _ w21 ⟨A14, c14, rfl, hS34, hk10⟩
                  refine WL.lv rfl (LV.asg rfl) ?_
                  refine WL.nil (thenQ.n ?_)
                  refine WC.seq ?_
                  refine WC.region ?_
                  refine WL.lv rfl (LV.mv rfl) ?_
                  refine WL.lv rfl (LV.loadAgg (cs := [(.int .i64 best0), (.int .i64 best1), (.int .i64 best2)]) Try.underlying43 rfl ti43 rfl rfl (Blk.agg (SH.at hS34 (.tail _ (.tail _ (.tail _ (.head _))))) _ (KB.refl No _))) ?_
                  refine WL.xe rfl (XE.buildSlice (E := eB3) [(0, (.agg #[(.int .i64 best0), (.int .i64 best1), (.int .i64 best2)]))] #[(.int .i64 best0), (.int .i64 best1), (.int .i64 best2)] [(best0, best1, best2)] hS34 Try.underlying24 ti43 rfl (by decide) (by kernel_rfl) (.inr rfl) rfl rfl (by decide)) ?_
                  rintro _ w22 ⟨b7, rfl, hS35, hk11⟩
                  have hS36 : SH w No w22 [rowE eB3 43 (.slice A14 ((([] : List (Int × Int × Int)) ++ ((out.take ((at_).toNat)).drop 0)).length) c14) (([] : List (Int × Int × Int)) ++ ((out.take ((at_).toNat)).drop 0)), rowE eB3 43 (.slice (some ⟨b7, 0, none⟩) 1 1) [(best0, best1, best2)], rowE eB 4 (.slice A12 ((mrk taken2 best1 best2).length) c12) (mrk taken2 best1 best2), rowE eB 4 (.slice A11 ((mrk used2 best0 best2).length) c11) (mrk used2 best0 best2), blkE b5 43 #[(.int .i64 best0), (.int .i64 best1), (.int .i64 best2)], rowE eB3 43 (.slice A_out out.length c_out) out, rowE eB 4 (.slice A_taken2 taken2.length c_taken2) taken2, rowE eB 4 (.slice A_used2 used2.length c_used2) used2, rrE eI 33 3 (.slice A2 rows1.length c2) rows1, rowE eV 22 (.slice (some ⟨b1, 0, none⟩) 2 2) [(⟨A_a, a.length, c_a⟩ : SV), (⟨A_b, b.length, c_b⟩ : SV)], rowE eP 41 (.slice A1 ((STY a b).length) c1) (STY a b)] := (SH.front [rowE eB3 43 (.slice (some ⟨b7, 0, none⟩) 1 1) [(best0, best1, best2)]] hS35)
                  refine WL.xe rfl (XE.append hS36 Try.underlying24 ti43 rfl (St.now (SH.rd hS36 (.tail _ (.head _)))) rfl rfl (by first | omega | simp only [List.length_append, List.length_cons, List.length_nil, List.length_take, List.length_reverse, List.length_drop] at *; omega) (by first | omega | simp only [List.length_append, List.length_cons, List.length_nil, List.length_take, List.length_reverse, List.length_drop] at *; omega)) ?_
                  rintro _ w23 ⟨A15, c15, rfl, hS37, hk12⟩
                  refine WL.lv rfl (LV.asg rfl) ?_
                  refine WL.nil (thenQ.n ?_)
                  refine WC.region ?_
                  iterate 3 refine WL.lv rfl (LV.mv rfl) ?_
                  have hcap2 : out.length ≤ c_out := (Rd.cap (St.now (SH.rd hS37 (.tail _ (.tail _ (.tail _ (.tail _ (.tail _ (.head _)))))))))
                  refine WL.lv rfl (LV.cut Try.underlying24 ti43.sz rfl rfl rfl rfl ⟨.inr ⟨.i64, by rw [Int.toNat_of_nonneg (a := at_) (by omega)] <;> rfl⟩, .inl ⟨rfl, rfl, rfl⟩, .inl ⟨rfl, rfl⟩⟩ (by omega) (by omega) (by omega)) ?_
                  refine WL.xe rfl (XE.append hS37 Try.underlying24 ti43 rfl (St.now ((SH.rd hS37 (.tail _ (.tail _ (.tail _ (.tail _ (.tail _ (.head _))))))).imp fun _ h => Rd.cut h (by omega) (by omega) (by omega) (by omega))) rfl rfl (by first | omega | simp only [List.length_append, List.length_cons, List.length_nil, List.length_take, List.length_reverse, List.length_drop] at *; omega) (by first | omega | simp only [List.length_append, List.length_cons, List.length_nil, List.length_take, List.length_reverse, List.length_drop] at *; omega)) ?_
                  rintro _ w24 ⟨A16, c16, rfl, hS38, hk13⟩
                  refine WL.lv rfl (LV.asg rfl) ?_
                  refine WL.nil (blockQ.n <| thenQ.n ?_)
                  have hS39 : SH w No w24 [rowE eB3 43 (.slice A16 ((((([] : List (Int × Int × Int)) ++ ((out.take ((at_).toNat)).drop 0)) ++ [(best0, best1, best2)]) ++ ((out.take out.length).drop ((at_).toNat))).length) c16) (((([] : List (Int × Int × Int)) ++ ((out.take ((at_).toNat)).drop 0)) ++ [(best0, best1, best2)]) ++ ((out.take out.length).drop ((at_).toNat))), rowE eB 4 (.slice A12 ((mrk taken2 best1 best2).length) c12) (mrk taken2 best1 best2), rowE eB 4 (.slice A11 ((mrk used2 best0 best2).length) c11) (mrk used2 best0 best2), rrE eI 33 3 (.slice A2 rows1.length c2) rows1, rowE eV 22 (.slice (some ⟨b1, 0, none⟩) 2 2) [(⟨A_a, a.length, c_a⟩ : SV), (⟨A_b, b.length, c_b⟩ : SV)], rowE eP 41 (.slice A1 ((STY a b).length) c1) (STY a b)] := (SH.take 6 rfl (SH.front [rowE eB 4 (.slice A12 ((mrk taken2 best1 best2).length) c12) (mrk taken2 best1 best2), rowE eB 4 (.slice A11 ((mrk used2 best0 best2).length) c11) (mrk used2 best0 best2), rrE eI 33 3 (.slice A2 rows1.length c2) rows1, rowE eV 22 (.slice (some ⟨b1, 0, none⟩) 2 2) [(⟨A_a, a.length, c_a⟩ : SV), (⟨A_b, b.length, c_b⟩ : SV)], rowE eP 41 (.slice A1 ((STY a b).length) c1) (STY a b)] (SH.front [rowE eB 4 (.slice A11 ((mrk used2 best0 best2).length) c11) (mrk used2 best0 best2), rrE eI 33 3 (.slice A2 rows1.length c2) rows1, rowE eV 22 (.slice (some ⟨b1, 0, none⟩) 2 2) [(⟨A_a, a.length, c_a⟩ : SV), (⟨A_b, b.length, c_b⟩ : SV)], rowE eP 41 (.slice A1 ((STY a b).length) c1) (STY a b), rowE eB3 43 (.slice A16 ((((([] : List (Int × Int × Int)) ++ ((out.take ((at_).toNat)).drop 0)) ++ [(best0, best1, best2)]) ++ ((out.take out.length).drop ((at_).toNat))).length) c16) (((([] : List (Int × Int × Int)) ++ ((out.take ((at_).toNat)).drop 0)) ++ [(best0, best1, best2)]) ++ ((out.take out.length).drop ((at_).toNat))), rowE eB3 43 (.slice (some ⟨b7, 0, none⟩) 1 1) [(best0, best1, best2)]] (SH.front [rrE eI 33 3 (.slice A2 rows1.length c2) rows1, rowE eV 22 (.slice (some ⟨b1, 0, none⟩) 2 2) [(⟨A_a, a.length, c_a⟩ : SV), (⟨A_b, b.length, c_b⟩ : SV)], rowE eP 41 (.slice A1 ((STY a b).length) c1) (STY a b), rowE eB3 43 (.slice A16 ((((([] : List (Int × Int × Int)) ++ ((out.take ((at_).toNat)).drop 0)) ++ [(best0, best1, best2)]) ++ ((out.take out.length).drop ((at_).toNat))).length) c16) (((([] : List (Int × Int × Int)) ++ ((out.take ((at_).toNat)).drop 0)) ++ [(best0, best1, best2)]) ++ ((out.take out.length).drop ((at_).toNat))), rowE eB3 43 (.slice (some ⟨b7, 0, none⟩) 1 1) [(best0, best1, best2)], rowE eB 4 (.slice A12 ((mrk taken2 best1 best2).length) c12) (mrk taken2 best1 best2)] (SH.front [rowE eV 22 (.slice (some ⟨b1, 0, none⟩) 2 2) [(⟨A_a, a.length, c_a⟩ : SV), (⟨A_b, b.length, c_b⟩ : SV)], rowE eP 41 (.slice A1 ((STY a b).length) c1) (STY a b), rowE eB3 43 (.slice A16 ((((([] : List (Int × Int × Int)) ++ ((out.take ((at_).toNat)).drop 0)) ++ [(best0, best1, best2)]) ++ ((out.take out.length).drop ((at_).toNat))).length) c16) (((([] : List (Int × Int × Int)) ++ ((out.take ((at_).toNat)).drop 0)) ++ [(best0, best1, best2)]) ++ ((out.take out.length).drop ((at_).toNat))), rowE eB3 43 (.slice (some ⟨b7, 0, none⟩) 1 1) [(best0, best1, best2)], rowE eB 4 (.slice A12 ((mrk taken2 best1 best2).length) c12) (mrk taken2 best1 best2), rowE eB 4 (.slice A11 ((mrk used2 best0 best2).length) c11) (mrk used2 best0 best2), blkE b5 43 #[(.int .i64 best0), (.int .i64 best1), (.int .i64 best2)], rowE eB3 43 (.slice A_out out.length c_out) out, rowE eB 4 (.slice A_taken2 taken2.length c_taken2) taken2, rowE eB 4 (.slice A_used2 used2.length c_used2) used2] (SH.front [rowE eP 41 (.slice A1 ((STY a b).length) c1) (STY a b), rowE eB3 43 (.slice A16 ((((([] : List (Int × Int × Int)) ++ ((out.take ((at_).toNat)).drop 0)) ++ [(best0, best1, best2)]) ++ ((out.take out.length).drop ((at_).toNat))).length) c16) (((([] : List (Int × Int × Int)) ++ ((out.take ((at_).toNat)).drop 0)) ++ [(best0, best1, best2)]) ++ ((out.take out.length).drop ((at_).toNat))), rowE eB3 43 (.slice (some ⟨b7, 0, none⟩) 1 1) [(best0, best1, best2)], rowE eB 4 (.slice A12 ((mrk taken2 best1 best2).length) c12) (mrk taken2 best1 best2), rowE eB 4 (.slice A11 ((mrk used2 best0 best2).length) c11) (mrk used2 best0 best2), blkE b5 43 #[(.int .i64 best0), (.int .i64 best1), (.int .i64 best2)], rowE eB3 43 (.slice A_out out.length c_out) out, rowE eB 4 (.slice A_taken2 taken2.length c_taken2) taken2, rowE eB 4 (.slice A_used2 used2.length c_used2) used2, rrE eI 33 3 (.slice A2 rows1.length c2) rows1] (SH.front [rowE eB3 43 (.slice A16 ((((([] : List (Int × Int × Int)) ++ ((out.take ((at_).toNat)).drop 0)) ++ [(best0, best1, best2)]) ++ ((out.take out.length).drop ((at_).toNat))).length) c16) (((([] : List (Int × Int × Int)) ++ ((out.take ((at_).toNat)).drop 0)) ++ [(best0, best1, best2)]) ++ ((out.take out.length).drop ((at_).toNat))), rowE eB3 43 (.slice (some ⟨b7, 0, none⟩) 1 1) [(best0, best1, best2)], rowE eB 4 (.slice A12 ((mrk taken2 best1 best2).length) c12) (mrk taken2 best1 best2), rowE eB 4 (.slice A11 ((mrk used2 best0 best2).length) c11) (mrk used2 best0 best2), blkE b5 43 #[(.int .i64 best0), (.int .i64 best1), (.int .i64 best2)], rowE eB3 43 (.slice A_out out.length c_out) out, rowE eB 4 (.slice A_taken2 taken2.length c_taken2) taken2, rowE eB 4 (.slice A_used2 used2.length c_used2) used2, rrE eI 33 3 (.slice A2 rows1.length c2) rows1, rowE eV 22 (.slice (some ⟨b1, 0, none⟩) 2 2) [(⟨A_a, a.length, c_a⟩ : SV), (⟨A_b, b.length, c_b⟩ : SV)]] hS38)))))))
                  exact ⟨_, hcnt, A11, c11, mrk used2 best0 best2, A12, c12, mrk taken2 best1 best2, A16, c16, (((([] : List (Int × Int × Int)) ++ ((out.take ((at_).toNat)).drop 0)) ++ [(best0, best1, best2)]) ++ ((out.take out.length).drop ((at_).toNat))), (lo ++ [(best0, best1, best2)]), ((fnd_more (out := lo) hbest (by omega) hlt (by omega)).trans q1), (by rw [srt_snoc, ← q2, insB_at at_lo (by omega) s1 (fun h_ => by first | omega | exact hc129)]; simp), ((mrk_len hf0 (by omega) (by omega)).trans q3), ((mrk_len hf2 (by omega) (by omega)).trans q4), (by rw [List.length_append]; simp only [List.length_cons, List.length_nil]; omega), hS39, rfl, Weak.cons rfl <| Weak.cons rfl <| Weak.cons rfl <| Weak.cons rfl <| Weak.cons rfl <| Weak.cons rfl <| Weak.cons rfl <| Weak.nil _⟩
              · refine WS.pure rfl rfl (fun _ => LV.as (LV.ltI rfl rfl) (decide_eq_false hg2)) ?_
                refine WS.pure rfl rfl (fun _ => LV.mv rfl) ?_
                iterate 4 refine WS.off rfl rfl ?_
                refine WS.offL rfl rfl ?_
                refine WS.off rfl rfl ?_
                refine WS.offL rfl rfl ?_
                refine WS.off rfl rfl ?_
                refine WS.pure rfl rfl (fun _ => LV.pickF rfl rfl) ?_
                refine WS.nil (thenQ.n ?_)
                refine WC.condF rfl ?_
                refine WC.exit (thenQ.x <| thenQ.x <| blockQ.hit <| thenQ.n ?_)
                refine WC.seq ?_
                refine WC.region ?_
                refine WL.xe rfl (XE.buildSlice (E := eB3) [] #[] [] hS32 Try.underlying24 ti43 rfl (by decide) (by kernel_rfl) (.inr rfl) rfl rfl (by decide)) ?_
                rintro _ w25 ⟨b8, rfl, hS40, hk14⟩
                iterate 2 refine WL.lv rfl (LV.mv rfl) ?_
                have hcap3 : out.length ≤ c_out := (Rd.cap (St.now (SH.rd hS40 (.tail _ (.tail _ (.tail _ (.tail _ (.head _))))))))
                refine WL.lv rfl (LV.cut Try.underlying24 ti43.sz rfl rfl rfl rfl ⟨.inl ⟨rfl, rfl⟩, .inr ⟨.i64, by rw [Int.toNat_of_nonneg (a := at_) (by omega)] <;> rfl⟩, .inl ⟨rfl, rfl⟩⟩ (by omega) (by omega) (by omega)) ?_
                refine WL.xe rfl (XE.append hS40 Try.underlying24 ti43 rfl (St.now ((SH.rd hS40 (.tail _ (.tail _ (.tail _ (.tail _ (.head _)))))).imp fun _ h => Rd.cut h (by omega) (by omega) (by omega) (by omega))) rfl rfl (by first | omega | simp only [List.length_append, List.length_cons, List.length_nil, List.length_take, List.length_reverse, List.length_drop] at *; omega) (by first | omega | simp only [List.length_append, List.length_cons, List.length_nil, List.length_take, List.length_reverse, List.length_drop] at *; omega)) ?_
                rintro _ w26 ⟨A17, c17, rfl, hS41, hk15⟩
                refine WL.lv rfl (LV.asg rfl) ?_
                refine WL.nil (thenQ.n ?_)
                refine WC.seq ?_
                refine WC.region ?_
                refine WL.lv rfl (LV.mv rfl) ?_
                refine WL.lv rfl (LV.loadAgg (cs := [(.int .i64 best0), (.int .i64 best1), (.int .i64 best2)]) Try.underlying43 rfl ti43 rfl rfl (Blk.agg (SH.at hS41 (.tail _ (.tail _ (.tail _ (.head _))))) _ (KB.refl No _))) ?_
                refine WL.xe rfl (XE.buildSlice (E := eB3) [(0, (.agg #[(.int .i64 best0), (.int .i64 best1), (.int .i64 best2)]))] #[(.int .i64 best0), (.int .i64 best1), (.int .i64 best2)] [(best0, best1, best2)] hS41 Try.underlying24 ti43 rfl (by decide) (by kernel_rfl) (.inr rfl) rfl rfl (by decide)) ?_
                rintro _ w27 ⟨b9, rfl, hS42, hk16⟩
                have hS43 : SH w No w27 [rowE eB3 43 (.slice A17 ((([] : List (Int × Int × Int)) ++ ((out.take ((at_).toNat)).drop 0)).length) c17) (([] : List (Int × Int × Int)) ++ ((out.take ((at_).toNat)).drop 0)), rowE eB3 43 (.slice (some ⟨b9, 0, none⟩) 1 1) [(best0, best1, best2)], rowE eB 4 (.slice A12 ((mrk taken2 best1 best2).length) c12) (mrk taken2 best1 best2), rowE eB 4 (.slice A11 ((mrk used2 best0 best2).length) c11) (mrk used2 best0 best2), blkE b5 43 #[(.int .i64 best0), (.int .i64 best1), (.int .i64 best2)], rowE eB3 43 (.slice A_out out.length c_out) out, rowE eB 4 (.slice A_taken2 taken2.length c_taken2) taken2, rowE eB 4 (.slice A_used2 used2.length c_used2) used2, rrE eI 33 3 (.slice A2 rows1.length c2) rows1, rowE eV 22 (.slice (some ⟨b1, 0, none⟩) 2 2) [(⟨A_a, a.length, c_a⟩ : SV), (⟨A_b, b.length, c_b⟩ : SV)], rowE eP 41 (.slice A1 ((STY a b).length) c1) (STY a b)] := (SH.front [rowE eB3 43 (.slice (some ⟨b9, 0, none⟩) 1 1) [(best0, best1, best2)]] hS42)
                refine WL.xe rfl (XE.append hS43 Try.underlying24 ti43 rfl (St.now (SH.rd hS43 (.tail _ (.head _)))) rfl rfl (by first | omega | simp only [List.length_append, List.length_cons, List.length_nil, List.length_take, List.length_reverse, List.length_drop] at *; omega) (by first | omega | simp only [List.length_append, List.length_cons, List.length_nil, List.length_take, List.length_reverse, List.length_drop] at *; omega)) ?_
                rintro _ w28 ⟨A18, c18, rfl, hS44, hk17⟩
                refine WL.lv rfl (LV.asg rfl) ?_
                refine WL.nil (thenQ.n ?_)
                refine WC.region ?_
                iterate 3 refine WL.lv rfl (LV.mv rfl) ?_
                have hcap4 : out.length ≤ c_out := (Rd.cap (St.now (SH.rd hS44 (.tail _ (.tail _ (.tail _ (.tail _ (.tail _ (.head _)))))))))
                refine WL.lv rfl (LV.cut Try.underlying24 ti43.sz rfl rfl rfl rfl ⟨.inr ⟨.i64, by rw [Int.toNat_of_nonneg (a := at_) (by omega)] <;> rfl⟩, .inl ⟨rfl, rfl, rfl⟩, .inl ⟨rfl, rfl⟩⟩ (by omega) (by omega) (by omega)) ?_
                refine WL.xe rfl (XE.append hS44 Try.underlying24 ti43 rfl (St.now ((SH.rd hS44 (.tail _ (.tail _ (.tail _ (.tail _ (.tail _ (.head _))))))).imp fun _ h => Rd.cut h (by omega) (by omega) (by omega) (by omega))) rfl rfl (by first | omega | simp only [List.length_append, List.length_cons, List.length_nil, List.length_take, List.length_reverse, List.length_drop] at *; omega) (by first | omega | simp only [List.length_append, List.length_cons, List.length_nil, List.length_take, List.length_reverse, List.length_drop] at *; omega)) ?_
                rintro _ w29 ⟨A19, c19, rfl, hS45, hk18⟩
                refine WL.lv rfl (LV.asg rfl) ?_
                refine WL.nil (blockQ.n <| thenQ.n ?_)
                have hS46 : SH w No w29 [rowE eB3 43 (.slice A19 ((((([] : List (Int × Int × Int)) ++ ((out.take ((at_).toNat)).drop 0)) ++ [(best0, best1, best2)]) ++ ((out.take out.length).drop ((at_).toNat))).length) c19) (((([] : List (Int × Int × Int)) ++ ((out.take ((at_).toNat)).drop 0)) ++ [(best0, best1, best2)]) ++ ((out.take out.length).drop ((at_).toNat))), rowE eB 4 (.slice A12 ((mrk taken2 best1 best2).length) c12) (mrk taken2 best1 best2), rowE eB 4 (.slice A11 ((mrk used2 best0 best2).length) c11) (mrk used2 best0 best2), rrE eI 33 3 (.slice A2 rows1.length c2) rows1, rowE eV 22 (.slice (some ⟨b1, 0, none⟩) 2 2) [(⟨A_a, a.length, c_a⟩ : SV), (⟨A_b, b.length, c_b⟩ : SV)], rowE eP 41 (.slice A1 ((STY a b).length) c1) (STY a b)] := (SH.take 6 rfl (SH.front [rowE eB 4 (.slice A12 ((mrk taken2 best1 best2).length) c12) (mrk taken2 best1 best2), rowE eB 4 (.slice A11 ((mrk used2 best0 best2).length) c11) (mrk used2 best0 best2), rrE eI 33 3 (.slice A2 rows1.length c2) rows1, rowE eV 22 (.slice (some ⟨b1, 0, none⟩) 2 2) [(⟨A_a, a.length, c_a⟩ : SV), (⟨A_b, b.length, c_b⟩ : SV)], rowE eP 41 (.slice A1 ((STY a b).length) c1) (STY a b)] (SH.front [rowE eB 4 (.slice A11 ((mrk used2 best0 best2).length) c11) (mrk used2 best0 best2), rrE eI 33 3 (.slice A2 rows1.length c2) rows1, rowE eV 22 (.slice (some ⟨b1, 0, none⟩) 2 2) [(⟨A_a, a.length, c_a⟩ : SV), (⟨A_b, b.length, c_b⟩ : SV)], rowE eP 41 (.slice A1 ((STY a b).length) c1) (STY a b), rowE eB3 43 (.slice A19 ((((([] : List (Int × Int × Int)) ++ ((out.take ((at_).toNat)).drop 0)) ++ [(best0, best1, best2)]) ++ ((out.take out.length).drop ((at_).toNat))).length) c19) (((([] : List (Int × Int × Int)) ++ ((out.take ((at_).toNat)).drop 0)) ++ [(best0, best1, best2)]) ++ ((out.take out.length).drop ((at_).toNat))), rowE eB3 43 (.slice (some ⟨b9, 0, none⟩) 1 1) [(best0, best1, best2)]] (SH.front [rrE eI 33 3 (.slice A2 rows1.length c2) rows1, rowE eV 22 (.slice (some ⟨b1, 0, none⟩) 2 2) [(⟨A_a, a.length, c_a⟩ : SV), (⟨A_b, b.length, c_b⟩ : SV)], rowE eP 41 (.slice A1 ((STY a b).length) c1) (STY a b), rowE eB3 43 (.slice A19 ((((([] : List (Int × Int × Int)) ++ ((out.take ((at_).toNat)).drop 0)) ++ [(best0, best1, best2)]) ++ ((out.take out.length).drop ((at_).toNat))).length) c19) (((([] : List (Int × Int × Int)) ++ ((out.take ((at_).toNat)).drop 0)) ++ [(best0, best1, best2)]) ++ ((out.take out.length).drop ((at_).toNat))), rowE eB3 43 (.slice (some ⟨b9, 0, none⟩) 1 1) [(best0, best1, best2)], rowE eB 4 (.slice A12 ((mrk taken2 best1 best2).length) c12) (mrk taken2 best1 best2)] (SH.front [rowE eV 22 (.slice (some ⟨b1, 0, none⟩) 2 2) [(⟨A_a, a.length, c_a⟩ : SV), (⟨A_b, b.length, c_b⟩ : SV)], rowE eP 41 (.slice A1 ((STY a b).length) c1) (STY a b), rowE eB3 43 (.slice A19 ((((([] : List (Int × Int × Int)) ++ ((out.take ((at_).toNat)).drop 0)) ++ [(best0, best1, best2)]) ++ ((out.take out.length).drop ((at_).toNat))).length) c19) (((([] : List (Int × Int × Int)) ++ ((out.take ((at_).toNat)).drop 0)) ++ [(best0, best1, best2)]) ++ ((out.take out.length).drop ((at_).toNat))), rowE eB3 43 (.slice (some ⟨b9, 0, none⟩) 1 1) [(best0, best1, best2)], rowE eB 4 (.slice A12 ((mrk taken2 best1 best2).length) c12) (mrk taken2 best1 best2), rowE eB 4 (.slice A11 ((mrk used2 best0 best2).length) c11) (mrk used2 best0 best2), blkE b5 43 #[(.int .i64 best0), (.int .i64 best1), (.int .i64 best2)], rowE eB3 43 (.slice A_out out.length c_out) out, rowE eB 4 (.slice A_taken2 taken2.length c_taken2) taken2, rowE eB 4 (.slice A_used2 used2.length c_used2) used2] (SH.front [rowE eP 41 (.slice A1 ((STY a b).length) c1) (STY a b), rowE eB3 43 (.slice A19 ((((([] : List (Int × Int × Int)) ++ ((out.take ((at_).toNat)).drop 0)) ++ [(best0, best1, best2)]) ++ ((out.take out.length).drop ((at_).toNat))).length) c19) (((([] : List (Int × Int × Int)) ++ ((out.take ((at_).toNat)).drop 0)) ++ [(best0, best1, best2)]) ++ ((out.take out.length).drop ((at_).toNat))), rowE eB3 43 (.slice (some ⟨b9, 0, none⟩) 1 1) [(best0, best1, best2)], rowE eB 4 (.slice A12 ((mrk taken2 best1 best2).length) c12) (mrk taken2 best1 best2), rowE eB 4 (.slice A11 ((mrk used2 best0 best2).length) c11) (mrk used2 best0 best2), blkE b5 43 #[(.int .i64 best0), (.int .i64 best1), (.int .i64 best2)], rowE eB3 43 (.slice A_out out.length c_out) out, rowE eB 4 (.slice A_taken2 taken2.length c_taken2) taken2, rowE eB 4 (.slice A_used2 used2.length c_used2) used2, rrE eI 33 3 (.slice A2 rows1.length c2) rows1] (SH.front [rowE eB3 43 (.slice A19 ((((([] : List (Int × Int × Int)) ++ ((out.take ((at_).toNat)).drop 0)) ++ [(best0, best1, best2)]) ++ ((out.take out.length).drop ((at_).toNat))).length) c19) (((([] : List (Int × Int × Int)) ++ ((out.take ((at_).toNat)).drop 0)) ++ [(best0, best1, best2)]) ++ ((out.take out.length).drop ((at_).toNat))), rowE eB3 43 (.slice (some ⟨b9, 0, none⟩) 1 1) [(best0, best1, best2)], rowE eB 4 (.slice A12 ((mrk taken2 best1 best2).length) c12) (mrk taken2 best1 best2), rowE eB 4 (.slice A11 ((mrk used2 best0 best2).length) c11) (mrk used2 best0 best2), blkE b5 43 #[(.int .i64 best0), (.int .i64 best1), (.int .i64 best2)], rowE eB3 43 (.slice A_out out.length c_out) out, rowE eB 4 (.slice A_taken2 taken2.length c_taken2) taken2, rowE eB 4 (.slice A_used2 used2.length c_used2) used2, rrE eI 33 3 (.slice A2 rows1.length c2) rows1, rowE eV 22 (.slice (some ⟨b1, 0, none⟩) 2 2) [(⟨A_a, a.length, c_a⟩ : SV), (⟨A_b, b.length, c_b⟩ : SV)]] hS45)))))))
                exact ⟨_, hcnt, A11, c11, mrk used2 best0 best2, A12, c12, mrk taken2 best1 best2, A19, c19, (((([] : List (Int × Int × Int)) ++ ((out.take ((at_).toNat)).drop 0)) ++ [(best0, best1, best2)]) ++ ((out.take out.length).drop ((at_).toNat))), (lo ++ [(best0, best1, best2)]), ((fnd_more (out := lo) hbest (by omega) hlt (by omega)).trans q1), (by rw [srt_snoc, ← q2, insB_at at_lo (by omega) s1 (fun h_ => by first | omega | exact hc129)]; simp), ((mrk_len hf0 (by omega) (by omega)).trans q3), ((mrk_len hf2 (by omega) (by omega)).trans q4), (by rw [List.length_append]; simp only [List.length_cons, List.length_nil]; omega), hS46, rfl, Weak.cons rfl <| Weak.cons rfl <| Weak.cons rfl <| Weak.cons rfl <| Weak.cons rfl <| Weak.cons rfl <| Weak.cons rfl <| Weak.nil _⟩

theorem same37_calls {w : World} {A_a : Option Addr} {n_a c_a : Nat} {a : List (Int × Int × Int)} {A_b : Option Addr} {n_b c_b : Nat} {b : List (Int × Int × Int)} (h_a : St No w (Rd eB3 (.slice A_a n_a c_a) a)) (hn_a : a.length = n_a) (h_b : St No w (Rd eB3 (.slice A_b n_b c_b) b)) (hn_b : b.length = n_b)  :
    Calls Try.prog 13 #[(.slice A_a n_a c_a), (.slice A_b n_b c_b)] w fun e w' => ∃ v, e = .returned v ∧ (fun v w' => v = .bool (decide (a = b)) ∧ KB No w w') v w' := by
  subst hn_a hn_b
  have hma := Rd.max h_a.now
  have hS : SH w No w [] := SH.nil _ _
  refine calls (l := litOf [(.slice A_a a.length c_a), (.slice A_b b.length c_b)] 0) Try.func13 rfl (n := 26) rfl (Nat.le_of_ble_eq_true rfl) (lit_args _) ?_
  refine WC.seq ?_
  refine WC.region ?_
  refine WL.lv rfl (LV.asg rfl) ?_
  refine WL.nil (thenQ.n ?_)
  iterate 2 refine WC.seq ?_
  refine WC.region ?_
  refine WL.lv rfl (LV.mv rfl) ?_
  refine WL.lv rfl (LV.lenL Try.underlying24 rfl) ?_
  refine WL.lv rfl (LV.mv rfl) ?_
  refine WL.lv rfl (LV.lenL Try.underlying24 rfl) ?_
  refine WL.lv rfl (LV.neI rfl rfl) ?_
  refine WL.nil (thenQ.n ?_)
  refine WC.condP (p := (a.length : Int) ≠ (b.length : Int)) rfl (fun hc1 => ?_) (fun hc1 => ?_)
  · skip
    refine WC.seq ?_
    refine WC.region ?_
    refine WL.lv rfl (LV.asg rfl) ?_
    refine WL.nil (thenQ.n ?_)
    refine WC.ret (thenQ.r <| ?_)
    exact ⟨_, fun a ha => res1 rfl ha rfl, congrArg Value.bool ((decide_eq_false (fun h_ => by subst h_; first | omega | exact h25 ⟨rfl, rfl, rfl⟩)).symm), hS.kb⟩
  · skip
    refine WC.skip (thenQ.n ?_)
    iterate 2 refine WC.seq ?_
    refine WC.region ?_
    refine WL.lv rfl (LV.asg rfl) ?_
    refine WL.nil (thenQ.n ?_)
    refine WC.block ?_
    refine WC.loop (fun m_ f_ w_ => ∃ (i : Int), (0 ≤ i) ∧ (i ≤ (a.length : Int)) ∧ (∀ t : Int, 0 ≤ t → t < i → (a.getD t.toNat (0, 0, 0)).1 = (b.getD t.toNat (0, 0, 0)).1 ∧ (a.getD t.toNat (0, 0, 0)).2.1 = (b.getD t.toNat (0, 0, 0)).2.1 ∧ (a.getD t.toNat (0, 0, 0)).2.2 = (b.getD t.toNat (0, 0, 0)).2.2) ∧ SH w No w_ [] ∧ m_ = (((a.length : Int) - i).toNat) ∧ Weak (lit [(0, (.slice A_a a.length c_a)), (1, (.slice A_b b.length c_b)), (5, (.int .i64 i))]) f_) _ ⟨0, by omega, by omega, (fun t h1 h2 => by omega), hS, rfl, Weak.cons rfl <| Weak.cons rfl <| Weak.cons rfl <| Weak.nil _⟩ ?_
    rintro m1 f1 w1 ⟨i, ilo, ihi, q1, hL1, rfl, hw1⟩
    refine WC.weak hw1 ?_
    clear hw1
    iterate 2 refine WC.seq ?_
    refine WC.region ?_
    iterate 2 refine WL.lv rfl (LV.mv rfl) ?_
    refine WL.lv rfl (LV.lenL Try.underlying24 rfl) ?_
    refine WL.lv rfl (LV.ltI rfl rfl) ?_
    refine WL.nil (thenQ.n ?_)
    refine WC.condP (p := i < (a.length : Int)) rfl (fun hc2 => ?_) (fun hc2 => ?_)
    · skip
      refine WC.skip (thenQ.n ?_)
      refine WC.seq ?_
      refine WC.block ?_
      refine WC.seq ?_
      have hS1 := SH.drew hL1
      refine WC.regionD [] (fun w_ => KB No w1.drew w_) [(.pure, 0), (.pure, 1), (.pure, 2), (.look, 3), (.pure, 4), (.pure, 5), (.pure, 6), (.look, 7), (.pure, 8)] (by kernel_rfl) (by kernel_rfl) (KB.refl _ _) ?_
      iterate 2 refine WS.pure rfl rfl (fun _ => LV.mv rfl) ?_
      obtain ⟨A1, c1, e1, g1⟩ := St.elt (SH.stN hS1 h_a) (0, 0, 0) i (by omega) (by omega)
      refine WS.pure rfl rfl (fun _ => LV.idxA Try.underlying24 ti43.sz rfl e1 rfl (by omega) (by omega)) ?_
      refine WS.look rfl rfl (fun _ hk_ => LV.loadAgg (cs := [(.int .i64 ((a.getD (i).toNat (0, 0, 0)).1)), (.int .i64 ((a.getD (i).toNat (0, 0, 0)).2.1)), (.int .i64 ((a.getD (i).toNat (0, 0, 0)).2.2))]) Try.underlying43 rfl ti43 rfl rfl (fun j u hu => g1 _ hk_ j u hu)) ?_
      iterate 2 refine WS.pure rfl rfl (fun _ => LV.mv rfl) ?_
      obtain ⟨A2, c2, e2, g2⟩ := St.elt (SH.stN hS1 h_b) (0, 0, 0) i (by omega) (by omega)
      refine WS.pure rfl rfl (fun _ => LV.idxA Try.underlying24 ti43.sz rfl e2 rfl (by omega) (by omega)) ?_
      refine WS.look rfl rfl (fun _ hk_ => LV.loadAgg (cs := [(.int .i64 ((b.getD (i).toNat (0, 0, 0)).1)), (.int .i64 ((b.getD (i).toNat (0, 0, 0)).2.1)), (.int .i64 ((b.getD (i).toNat (0, 0, 0)).2.2))]) Try.underlying43 rfl ti43 rfl rfl (fun j u hu => g2 _ hk_ j u hu)) ?_
      refine WS.pure rfl rfl (fun _ => LV.ne3 Try.underlying43 Try.underlying3 Try.underlying3 Try.underlying3 (by decide) (by kernel_rfl) (by kernel_rfl) rfl rfl) ?_
      refine WS.nil (thenQ.n ?_)
      refine WC.condP (p := ¬ (((a.getD (i).toNat (0, 0, 0)).1) = ((b.getD (i).toNat (0, 0, 0)).1) ∧ ((a.getD (i).toNat (0, 0, 0)).2.1) = ((b.getD (i).toNat (0, 0, 0)).2.1) ∧ ((a.getD (i).toNat (0, 0, 0)).2.2) = ((b.getD (i).toNat (0, 0, 0)).2.2))) rfl (fun h25 => ?_) (fun h25 => ?_)
      · skip
        refine WC.seq ?_
        refine WC.region ?_
        refine WL.lv rfl (LV.asg rfl) ?_
        refine WL.nil (thenQ.n ?_)
        refine WC.ret (blockQ.r <| thenQ.r <| thenQ.r <| blockQ.r <| thenQ.r <| ?_)
        exact ⟨_, fun a ha => res1 rfl ha rfl, congrArg Value.bool ((decide_eq_false (fun h_ => by subst h_; first | omega | exact h25 ⟨rfl, rfl, rfl⟩)).symm), hS1.kb⟩
      · skip
        refine WC.skip (blockQ.n <| thenQ.n ?_)
        refine WC.region ?_
        refine WL.lv rfl (LV.mv rfl) ?_
        refine WL.lv rfl (LV.add rfl rfl (wr64 (by omega) (by omega))) ?_
        refine WL.lv rfl (LV.asg rfl) ?_
        refine WL.nil (thenQ.n ?_)
        exact ⟨_, by omega, i + 1, by omega, by omega, (all_step (p := fun t => (a.getD t.toNat (0, 0, 0)).1 = (b.getD t.toNat (0, 0, 0)).1 ∧ (a.getD t.toNat (0, 0, 0)).2.1 = (b.getD t.toNat (0, 0, 0)).2.1 ∧ (a.getD t.toNat (0, 0, 0)).2.2 = (b.getD t.toNat (0, 0, 0)).2.2) q1 (Decidable.not_not.1 h25)), hS1, rfl, Weak.cons rfl <| Weak.cons rfl <| Weak.cons rfl <| Weak.nil _⟩
    · skip
      refine WC.exit (thenQ.x <| thenQ.x <| blockQ.hit <| thenQ.n ?_)
      refine WC.seq ?_
      refine WC.region ?_
      refine WL.lv rfl (LV.asg rfl) ?_
      refine WL.nil (thenQ.n ?_)
      refine WC.ret (?_)
      exact ⟨_, fun a ha => res1 rfl ha rfl, congrArg Value.bool ((decide_eq_true (ext_g3 (by omega) (fun t h0_ h1_ => q1 t h0_ (by omega)))).symm), hL1.kb⟩

end Go.Proofs.Ytkceknbjlogehaa
