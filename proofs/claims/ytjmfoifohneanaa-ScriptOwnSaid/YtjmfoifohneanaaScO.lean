/- The script of two texts. -/
import Derived.Test.YtjmfoifohneanaaScN
import Derived.Test.YtjmfoifohneanaaScP
namespace Go.Proofs.Ytjmfoifohneanaa
open Go Go.Gv Go.RowKit Go.Mys Go.Num Go.Scr
set_option linter.unusedVariables false
set_option linter.unusedSimpArgs false

theorem numbers_eq {w : World} {A_inp : Option Addr} {n_inp c_inp : Nat} {inp : List (SV × List Ln)} (h_inp : St No w (RdRR eL (.slice A_inp n_inp c_inp) inp)) (hn_inp : inp.length = n_inp) (h1 : inp.length ≤ 1000) (h2 : ∀ p ∈ inp, p.2.length ≤ 1000) : Calls Try.prog 29 #[(.slice A_inp n_inp c_inp)] w fun e w' => ∃ v, e = .returned v ∧
    (fun v w' => ∃ A' c' rows, v = .slice A' rows.length c' ∧ rows.map (·.2) = nnums [] (inp.map (·.2)) ∧ SH w No w' [rrE eI 49 3 (.slice A' rows.length c') rows]) v w' := by
  subst hn_inp; exact numbers_calls h_inp h1 h2

theorem make8_calls {w : World} {A_a : Option Addr} {n_a c_a : Nat} {a : List Ln} {A_b : Option Addr} {n_b c_b : Nat} {b : List Ln} (h_a : St No w (Rd eL (.slice A_a n_a c_a) a)) (hn_a : a.length = n_a) (h_b : St No w (Rd eL (.slice A_b n_b c_b) b)) (hn_b : b.length = n_b)  :
    Calls Try.prog 12 #[(.slice A_a n_a c_a), (.slice A_b n_b c_b)] w fun e w' => ∃ v, e = .returned v ∧ (fun v w' => ∃ (A0' : Option Addr) (c0' : Nat) (rows0' : List (ED × List Ln)), v = .tuple #[.slice A0' rows0'.length c0', .int .i64 (MKE a b)] ∧ scr rows0' = MKS a b ∧ SH w No w' [rowE eE 39 (.slice A0' rows0'.length c0') (rows0'.map (fun p : ED × List Ln => p.1)), insE (fun p : ED => p.2) eL 41 rows0']) v w' := by
  subst hn_a hn_b
  have hS : SH w No w [] := SH.nil _ _
  refine calls (l := litOf [(.slice A_a a.length c_a), (.slice A_b b.length c_b)] 0) Try.func12 rfl (n := 74) rfl (Nat.le_of_ble_eq_true rfl) (lit_args _) ?_
  refine WC.seq ?_
  refine WC.region ?_
  iterate 2 refine WL.lv rfl (LV.asg rfl) ?_
  refine WL.nil (thenQ.n ?_)
  iterate 2 refine WC.seq ?_
  refine WC.region ?_
  refine WL.lv rfl (LV.mv rfl) ?_
  refine WL.lv rfl (LV.lenL Try.underlying22 rfl) ?_
  rcases Decidable.em ((a.length : Int) > 400) with hg1 | hg1
  · refine WL.lv rfl (LV.as (LV.gtI rfl rfl) (decide_eq_true hg1)) ?_
    refine WL.lv rfl (LV.mv rfl) ?_
    iterate 3 refine WL.off rfl ?_
    refine WL.lv rfl (LV.pickT rfl rfl) ?_
    refine WL.nil (thenQ.n ?_)
    refine WC.condT rfl ?_
    refine WC.seq ?_
    refine WC.region ?_
    iterate 2 refine WL.lv rfl (LV.asg rfl) ?_
    refine WL.nil (thenQ.n ?_)
    refine WC.ret (thenQ.r <| ?_)
    have hS1 := SH.nilRow (E := eE) (T := 39) hS
    have hS2 := SH.ins0 (sv := fun p : ED => p.2) (E := eL) (T1 := 41) hS1
    have hS3 : SH w No w [rowE eE 39 (.slice none 0 0) (([] : List (ED × List Ln)).map (fun p : ED × List Ln => p.1)), insE (fun p : ED => p.2) eL 41 []] := (SH.front [insE (fun p : ED => p.2) eL 41 []] hS2)
    exact ⟨_, fun a ha => res2 rfl ha rfl rfl, _, _, [], tup2 rfl (congrArg (Value.int .i64) ((if_pos (by omega)).symm)), (by unfold MKS; rw [if_pos (by omega)]; rfl), hS3⟩
  · refine WL.lv rfl (LV.as (LV.gtI rfl rfl) (decide_eq_false hg1)) ?_
    iterate 2 refine WL.lv rfl (LV.mv rfl) ?_
    refine WL.lv rfl (LV.lenL Try.underlying22 rfl) ?_
    refine WL.lv rfl (LV.gtI rfl rfl) ?_
    refine WL.lv rfl (LV.pickF rfl rfl) ?_
    refine WL.nil (thenQ.n ?_)
    refine WC.condP (p := (b.length : Int) > 400) rfl (fun hc1 => ?_) (fun hc1 => ?_)
    · skip
      refine WC.seq ?_
      refine WC.region ?_
      iterate 2 refine WL.lv rfl (LV.asg rfl) ?_
      refine WL.nil (thenQ.n ?_)
      refine WC.ret (thenQ.r <| ?_)
      have hS4 := SH.nilRow (E := eE) (T := 39) hS
      have hS5 := SH.ins0 (sv := fun p : ED => p.2) (E := eL) (T1 := 41) hS4
      have hS6 : SH w No w [rowE eE 39 (.slice none 0 0) (([] : List (ED × List Ln)).map (fun p : ED × List Ln => p.1)), insE (fun p : ED => p.2) eL 41 []] := (SH.front [insE (fun p : ED => p.2) eL 41 []] hS5)
      exact ⟨_, fun a ha => res2 rfl ha rfl rfl, _, _, [], tup2 rfl (congrArg (Value.int .i64) ((if_pos (by omega)).symm)), (by unfold MKS; rw [if_pos (by omega)]; rfl), hS6⟩
    · skip
      refine WC.skip (thenQ.n ?_)
      refine WC.seq ?_
      refine WC.region ?_
      iterate 2 refine WL.lv rfl (LV.mv rfl) ?_
      refine WL.xe rfl (XE.buildSlice (E := eV) [(0, (.slice A_a a.length c_a)), (1, (.slice A_b b.length c_b))] #[(.slice A_a a.length c_a), (.slice A_b b.length c_b)] [(⟨A_a, a.length, c_a⟩ : SV), (⟨A_b, b.length, c_b⟩ : SV)] hS Try.underlying52 ti22 rfl (by decide) (by kernel_rfl) (.inr rfl) rfl rfl (by decide)) ?_
      rintro _ w1 ⟨b1, rfl, hS7, hk1⟩
      refine WL.call rfl (XC.fn Try.func29 (by kernel_rfl) rfl rfl rfl) (numbers_eq  (St.rrOf (rows := [((⟨A_a, a.length, c_a⟩ : SV), a), ((⟨A_b, b.length, c_b⟩ : SV), b)]) (SH.rd hS7 (.head _)) (St.inCons (r := (⟨A_a, a.length, c_a⟩ : SV)) rfl (SH.stN hS7 h_a) (St.inCons (r := (⟨A_b, b.length, c_b⟩ : SV)) rfl (SH.stN hS7 h_b) St.in0))) rfl (by simp) (by intro p hp; simp at hp; rcases hp with rfl | rfl <;> simp only [] <;> omega)) ?_
      rintro v_ w2 ⟨A1, c1, rows1, rfl, hq1, hS8⟩
      have hS9 := SH.joinN hS7 hS8
      have hmt := map_two (x := NA a) (y := NB a b) hq1
      have hra : (rows1.getD (0 : Int).toNat default).2 = NA a := hmt.2.1
      have hrb : (rows1.getD (1 : Int).toNat default).2 = NB a b := hmt.2.2
      have hla := NA_len a
      have hlb := NB_len a b
      have hl1 := hmt.1
      have hlra : (rows1.getD (0 : Int).toNat default).2.length = a.length := by rw [hra]; exact hla
      have hlrb : (rows1.getD (1 : Int).toNat default).2.length = b.length := by rw [hrb]; exact hlb
      refine WL.lv rfl (LV.asg rfl) ?_
      refine WL.nil (thenQ.n ?_)
      refine WC.seq ?_
      refine WC.region ?_
      refine WL.lv rfl (LV.asg rfl) ?_
      refine WL.nil (thenQ.n ?_)
      refine WC.seq ?_
      refine WC.region ?_
      have hS10 := SH.nilRow (E := eE) (T := 39) hS9
      iterate 2 refine WL.lv rfl (LV.asg rfl) ?_
      refine WL.nil (thenQ.n ?_)
      iterate 2 refine WC.seq ?_
      have hS11 := SH.drew hS10
      refine WC.regionD [] (fun w_ => KB No w2.drew w_) [(.pure, 0), (.pure, 1), (.look, 2), (.pure, 3), (.pure, 4), (.look, 5), (.pure, 8), (.forced, 6), (.pure, 7)] (by kernel_rfl) (by kernel_rfl) (KB.refl _ _) ?_
      refine WS.pure rfl rfl (fun _ => LV.mv rfl) ?_
      obtain ⟨A2, c2, A3, c3, e1, g1, e2, r1⟩ := St.eltRR (SH.rdRR hS11 (.tail _ (.head _))) default (0 : Int) (by omega) (by omega)
      refine WS.pure rfl rfl (fun _ => LV.idxA Try.underlying45 ti49.sz rfl e1 rfl (by omega) (by omega)) ?_
      refine WS.look rfl rfl (fun _ hk_ => LV.load1 Try.underlying49 rfl rfl (g1 _ hk_)) ?_
      refine WS.pure rfl rfl (fun _ => LV.mv rfl) ?_
      obtain ⟨A4, c4, A5, c5, e3, g2, e4, r2⟩ := St.eltRR (SH.rdRR hS11 (.tail _ (.head _))) default (1 : Int) (by omega) (by omega)
      refine WS.pure rfl rfl (fun _ => LV.idxA Try.underlying45 ti49.sz rfl e3 rfl (by omega) (by omega)) ?_
      refine WS.look rfl rfl (fun _ hk_ => LV.load1 Try.underlying49 rfl rfl (g2 _ hk_)) ?_
      refine WS.pure rfl rfl (fun _ => LV.mv rfl) ?_
      refine WS.call rfl rfl (XC.fn Try.func30 (by kernel_rfl) rfl rfl rfl) (steps7_eq rfl rfl (St.inner (SH.rdRR hS11 (.tail _ (.head _))) (getD_mem (by omega)) e2) (St.inner (SH.rdRR hS11 (.tail _ (.head _))) (getD_mem (by omega)) e4) rfl rfl) ?_
      rintro v_ w3 ⟨A6, c6, rfl, hS12⟩
      have hS13 := SH.joinN hS11 hS12
      refine ⟨fun h_ => (KB.transN (KB.refl _ _) hS12.kb), ?_⟩
      have hst : (Stp (rows1.getD (0 : Int).toNat default).2 (rows1.getD (1 : Int).toNat default).2) = Stp (NA a) (NB a b) := by rw [hra, hrb]
      have hsl := Stp_len (NA a) (NB a b)
      rw [← hst] at hsl
      refine WS.pure rfl rfl (fun _ => LV.lenL Try.underlying47 rfl) ?_
      refine WS.nil (thenQ.n ?_)
      refine WC.block ?_
      refine WC.loop (fun m_ f_ w_ => ∃ (A_out : Option Addr) (c_out : Nat) (out : List (ED × List Ln)) (i : Int) (j : Int) (ix : Int), (0 ≤ ix) ∧ (ix ≤ ((Stp ((rows1.getD ((0 : Int)).toNat default).2) ((rows1.getD ((1 : Int)).toNat default).2)).length : Int)) ∧ (0 ≤ i) ∧ (i ≤ a.length) ∧ (0 ≤ j) ∧ (j ≤ b.length) ∧ ((Stp (rows1.getD (0 : Int).toNat default).2 (rows1.getD (1 : Int).toNat default).2).drop ix.toNat = Wy (NA a) (NB a b) i j) ∧ (scr out ++ mkE a b ((Stp (rows1.getD (0 : Int).toNat default).2 (rows1.getD (1 : Int).toNat default).2).drop ix.toNat) i j = mkE a b (Stp (rows1.getD (0 : Int).toNat default).2 (rows1.getD (1 : Int).toNat default).2) 0 0) ∧ ((out.length : Int) = ix) ∧ (St No w (RdIn (·.2) eL out)) ∧ SH w No w_ [rowE eI 37 (.slice A6 ((Stp ((rows1.getD ((0 : Int)).toNat default).2) ((rows1.getD ((1 : Int)).toNat default).2)).length) c6) (Stp ((rows1.getD ((0 : Int)).toNat default).2) ((rows1.getD ((1 : Int)).toNat default).2)), rowE eE 39 (.slice A_out out.length c_out) (out.map (fun p : ED × List Ln => p.1)), rrE eI 49 3 (.slice A1 rows1.length c1) rows1, rowE eV 22 (.slice (some ⟨b1, 0, none⟩) 2 2) [(⟨A_a, a.length, c_a⟩ : SV), (⟨A_b, b.length, c_b⟩ : SV)]] ∧ m_ = ((((Stp ((rows1.getD ((0 : Int)).toNat default).2) ((rows1.getD ((1 : Int)).toNat default).2)).length : Int) - ix).toNat) ∧ Weak (lit [(0, (.slice A_a a.length c_a)), (1, (.slice A_b b.length c_b)), (7, (.slice A_out out.length c_out)), (8, (.int .i64 i)), (9, (.int .i64 j)), (30, (.slice A6 ((Stp ((rows1.getD ((0 : Int)).toNat default).2) ((rows1.getD ((1 : Int)).toNat default).2)).length) c6)), (31, (.int .i64 ((Stp ((rows1.getD ((0 : Int)).toNat default).2) ((rows1.getD ((1 : Int)).toNat default).2)).length : Int))), (32, (.int .i64 ix))]) f_) _ ⟨none, 0, [], 0, 0, 0, by omega, by omega, by omega, by omega, by omega, by omega, (hst.trans ((Stp_small (by omega) (by omega)).trans (Wy_00 _ _).symm)), rfl, rfl, St.in0, hS13, rfl, Weak.cons rfl <| Weak.cons rfl <| Weak.cons rfl <| Weak.cons rfl <| Weak.cons rfl <| Weak.cons rfl <| Weak.cons rfl <| Weak.cons rfl <| Weak.nil _⟩ ?_
      rintro m1 f1 w4 ⟨A_out, c_out, out, i, j, ix, ixlo, ixhi, q0, q1, q2, q3, q4, q5, q6, q7, hL1, rfl, hw1⟩
      refine WC.weak hw1 ?_
      clear hw1
      refine WC.seq ?_
      refine WC.region ?_
      refine WL.lv rfl (LV.ltI rfl rfl) ?_
      refine WL.nil (thenQ.n ?_)
      refine WC.seq ?_
      refine WC.condP (p := ix < ((Stp ((rows1.getD ((0 : Int)).toNat default).2) ((rows1.getD ((1 : Int)).toNat default).2)).length : Int)) rfl (fun hk => ?_) (fun hk => ?_)
      · have hcs := makes_case q0 (by omega) q2 (by omega) ixlo hk q4
        refine WC.skip (thenQ.n ?_)
        refine WC.seq ?_
        refine WC.block ?_
        refine WC.seq ?_
        refine WC.region ?_
        obtain ⟨A7, c7, e5, g3⟩ := St.elt (SH.rd hL1 (.head _)) 0 ix (by omega) (by omega)
        refine WL.lv rfl (LV.idxA Try.underlying47 ti37.sz rfl e5 rfl (by omega) (by omega)) ?_
        refine WL.lv rfl (LV.load1 (v := (.int .i64 (gI (Stp ((rows1.getD ((0 : Int)).toNat default).2) ((rows1.getD ((1 : Int)).toNat default).2)) (ix)))) Try.underlying37 rfl rfl (g3 _ (KB.refl No _) 0 _ rfl)) ?_
        refine WL.lv rfl (LV.asg rfl) ?_
        refine WL.nil (thenQ.n ?_)
        refine WC.seq ?_
        refine WC.region ?_
        refine WL.lv rfl (LV.mv rfl) ?_
        refine WL.nil (thenQ.n ?_)
        refine WC.block ?_
        refine WC.seq ?_
        refine WC.block ?_
        refine WC.seq ?_
        refine WC.block ?_
        refine WC.seq ?_
        refine WC.block ?_
        iterate 3 refine WC.seq ?_
        refine WC.region ?_
        refine WL.lv rfl (LV.eqI rfl rfl) ?_
        refine WL.lv rfl (LV.asg rfl) ?_
        refine WL.nil (thenQ.n ?_)
        refine WC.condP (p := (gI (Stp ((rows1.getD ((0 : Int)).toNat default).2) ((rows1.getD ((1 : Int)).toNat default).2)) (ix)) = 3) rfl (fun hc37 => ?_) (fun hc37 => ?_)
        · skip
          refine WC.exit (thenQ.x <| thenQ.x <| blockQ.hit <| thenQ.n ?_)
          iterate 2 refine WC.seq ?_
          refine WC.region ?_
          iterate 5 refine WL.lv rfl (LV.mv rfl) ?_
          refine WL.lv rfl (LV.add rfl rfl (wr64 (by omega) (by omega))) ?_
          refine WL.lv rfl (LV.mv rfl) ?_
          refine WL.lv rfl (LV.add rfl rfl (wr64 (by omega) (by omega))) ?_
          have hcap1 : b.length ≤ c_b := (Rd.cap (St.now (SH.stN hL1 h_b)))
          refine WL.lv rfl (LV.cut Try.underlying22 ti41.sz rfl rfl rfl rfl ⟨.inr ⟨.i64, by rw [Int.toNat_of_nonneg (a := j) (by omega)]⟩, .inr ⟨.i64, by rw [Int.toNat_of_nonneg (a := j + 1) (by omega)]⟩, .inr ⟨.i64, by rw [Int.toNat_of_nonneg (a := j + 1) (by omega)]⟩⟩ (by omega) (by omega) (by omega)) ?_
          refine WL.lv rfl (LV.build (vs := [(0, (.int .i64 (gI (Stp ((rows1.getD ((0 : Int)).toNat default).2) ((rows1.getD ((1 : Int)).toNat default).2)) (ix)))), (1, (.slice (if (j + 1).toNat = (j).toNat then A_b else A_b.map (·.add ((j).toNat * 2))) ((j + 1).toNat - (j).toNat) ((j + 1).toNat - (j).toNat)))]) (places := #[(0, 1), (1, 1)]) (cs := #[(.int .i64 (gI (Stp ((rows1.getD ((0 : Int)).toNat default).2) ((rows1.getD ((1 : Int)).toNat default).2)) (ix))), (.slice (if (j + 1).toNat = (j).toNat then A_b else A_b.map (·.add ((j).toNat * 2))) ((j + 1).toNat - (j).toNat) ((j + 1).toNat - (j).toNat))]) Try.underlying39 ti39 (fun _ => by kernel_rfl) rfl rfl) ?_
          refine WL.xe rfl (XE.buildSlice (E := eE) [(0, (.agg #[(.int .i64 (gI (Stp ((rows1.getD ((0 : Int)).toNat default).2) ((rows1.getD ((1 : Int)).toNat default).2)) (ix))), (.slice (if (j + 1).toNat = (j).toNat then A_b else A_b.map (·.add ((j).toNat * 2))) ((j + 1).toNat - (j).toNat) ((j + 1).toNat - (j).toNat))]))] #[(.int .i64 (gI (Stp ((rows1.getD ((0 : Int)).toNat default).2) ((rows1.getD ((1 : Int)).toNat default).2)) (ix))), (.slice (if (j + 1).toNat = (j).toNat then A_b else A_b.map (·.add ((j).toNat * 2))) ((j + 1).toNat - (j).toNat) ((j + 1).toNat - (j).toNat))] [(gI (Stp ((rows1.getD ((0 : Int)).toNat default).2) ((rows1.getD ((1 : Int)).toNat default).2)) (ix), (⟨(if (j + 1).toNat = (j).toNat then A_b else A_b.map (·.add ((j).toNat * 2))), ((j + 1).toNat - (j).toNat), ((j + 1).toNat - (j).toNat)⟩ : SV))] hL1 Try.underlying24 ti39 rfl (by decide) (by kernel_rfl) (.inr rfl) rfl rfl (by decide)) ?_
          rintro _ w5 ⟨b2, rfl, hS14, hk2⟩
          have hS15 : SH w No w5 [rowE eE 39 (.slice A_out out.length c_out) (out.map (fun p : ED × List Ln => p.1)), rowE eE 39 (.slice (some ⟨b2, 0, none⟩) 1 1) [(gI (Stp ((rows1.getD ((0 : Int)).toNat default).2) ((rows1.getD ((1 : Int)).toNat default).2)) (ix), (⟨(if (j + 1).toNat = (j).toNat then A_b else A_b.map (·.add ((j).toNat * 2))), ((j + 1).toNat - (j).toNat), ((j + 1).toNat - (j).toNat)⟩ : SV))], rowE eI 37 (.slice A6 ((Stp ((rows1.getD ((0 : Int)).toNat default).2) ((rows1.getD ((1 : Int)).toNat default).2)).length) c6) (Stp ((rows1.getD ((0 : Int)).toNat default).2) ((rows1.getD ((1 : Int)).toNat default).2)), rrE eI 49 3 (.slice A1 rows1.length c1) rows1, rowE eV 22 (.slice (some ⟨b1, 0, none⟩) 2 2) [(⟨A_a, a.length, c_a⟩ : SV), (⟨A_b, b.length, c_b⟩ : SV)]] := (SH.front [rowE eE 39 (.slice (some ⟨b2, 0, none⟩) 1 1) [(gI (Stp ((rows1.getD ((0 : Int)).toNat default).2) ((rows1.getD ((1 : Int)).toNat default).2)) (ix), (⟨(if (j + 1).toNat = (j).toNat then A_b else A_b.map (·.add ((j).toNat * 2))), ((j + 1).toNat - (j).toNat), ((j + 1).toNat - (j).toNat)⟩ : SV))], rowE eI 37 (.slice A6 ((Stp ((rows1.getD ((0 : Int)).toNat default).2) ((rows1.getD ((1 : Int)).toNat default).2)).length) c6) (Stp ((rows1.getD ((0 : Int)).toNat default).2) ((rows1.getD ((1 : Int)).toNat default).2))] hS14)
          refine WL.xe rfl (XE.appendQ (rows := out) (r := (gI (Stp ((rows1.getD ((0 : Int)).toNat default).2) ((rows1.getD ((1 : Int)).toNat default).2)) (ix), (⟨(if (j + 1).toNat = (j).toNat then A_b else A_b.map (·.add ((j).toNat * 2))), ((j + 1).toNat - (j).toNat), ((j + 1).toNat - (j).toNat)⟩ : SV))) ((b.take ((j + 1).toNat)).drop ((j).toNat)) hS15 Try.underlying24 ti39 rfl (St.now (SH.rd hS15 (.tail _ (.head _)))) rfl rfl (by first | omega | (simp; omega)) (by first | omega | (simp; omega))) ?_
          rintro _ w6 ⟨A8, c8, rfl, hS16, hk3⟩
          refine WL.lv rfl (LV.asg rfl) ?_
          refine WL.nil (thenQ.n ?_)
          refine WC.region ?_
          refine WL.lv rfl (LV.mv rfl) ?_
          refine WL.lv rfl (LV.add rfl rfl (wr64 (by omega) (by omega))) ?_
          refine WL.lv rfl (LV.asg rfl) ?_
          refine WL.nil (thenQ.n ?_)
          refine WC.exit (blockQ.miss rfl <| thenQ.x <| blockQ.miss rfl <| thenQ.x <| blockQ.hit <| blockQ.n <| thenQ.n ?_)
          refine WC.region ?_
          refine WL.lv rfl (LV.add rfl rfl (wr64 (by omega) (by omega))) ?_
          refine WL.lv rfl (LV.mv rfl) ?_
          refine WL.nil (thenQ.n ?_)
          have hS17 : SH w No w6 [rowE eI 37 (.slice A6 ((Stp ((rows1.getD ((0 : Int)).toNat default).2) ((rows1.getD ((1 : Int)).toNat default).2)).length) c6) (Stp ((rows1.getD ((0 : Int)).toNat default).2) ((rows1.getD ((1 : Int)).toNat default).2)), rowE eE 39 (.slice A8 ((out ++ [((gI (Stp ((rows1.getD ((0 : Int)).toNat default).2) ((rows1.getD ((1 : Int)).toNat default).2)) (ix), (⟨(if (j + 1).toNat = (j).toNat then A_b else A_b.map (·.add ((j).toNat * 2))), ((j + 1).toNat - (j).toNat), ((j + 1).toNat - (j).toNat)⟩ : SV)), ((b.take ((j + 1).toNat)).drop ((j).toNat)))]).length) c8) ((out ++ [((gI (Stp ((rows1.getD ((0 : Int)).toNat default).2) ((rows1.getD ((1 : Int)).toNat default).2)) (ix), (⟨(if (j + 1).toNat = (j).toNat then A_b else A_b.map (·.add ((j).toNat * 2))), ((j + 1).toNat - (j).toNat), ((j + 1).toNat - (j).toNat)⟩ : SV)), ((b.take ((j + 1).toNat)).drop ((j).toNat)))]).map (fun p : ED × List Ln => p.1)), rrE eI 49 3 (.slice A1 rows1.length c1) rows1, rowE eV 22 (.slice (some ⟨b1, 0, none⟩) 2 2) [(⟨A_a, a.length, c_a⟩ : SV), (⟨A_b, b.length, c_b⟩ : SV)]] := (SH.take 4 rfl (SH.front [rowE eE 39 (.slice A8 ((out ++ [((gI (Stp ((rows1.getD ((0 : Int)).toNat default).2) ((rows1.getD ((1 : Int)).toNat default).2)) (ix), (⟨(if (j + 1).toNat = (j).toNat then A_b else A_b.map (·.add ((j).toNat * 2))), ((j + 1).toNat - (j).toNat), ((j + 1).toNat - (j).toNat)⟩ : SV)), ((b.take ((j + 1).toNat)).drop ((j).toNat)))]).length) c8) ((out ++ [((gI (Stp ((rows1.getD ((0 : Int)).toNat default).2) ((rows1.getD ((1 : Int)).toNat default).2)) (ix), (⟨(if (j + 1).toNat = (j).toNat then A_b else A_b.map (·.add ((j).toNat * 2))), ((j + 1).toNat - (j).toNat), ((j + 1).toNat - (j).toNat)⟩ : SV)), ((b.take ((j + 1).toNat)).drop ((j).toNat)))]).map (fun p : ED × List Ln => p.1)), rrE eI 49 3 (.slice A1 rows1.length c1) rows1, rowE eV 22 (.slice (some ⟨b1, 0, none⟩) 2 2) [(⟨A_a, a.length, c_a⟩ : SV), (⟨A_b, b.length, c_b⟩ : SV)], rowE eE 39 (.slice (some ⟨b2, 0, none⟩) 1 1) [(gI (Stp ((rows1.getD ((0 : Int)).toNat default).2) ((rows1.getD ((1 : Int)).toNat default).2)) (ix), (⟨(if (j + 1).toNat = (j).toNat then A_b else A_b.map (·.add ((j).toNat * 2))), ((j + 1).toNat - (j).toNat), ((j + 1).toNat - (j).toNat)⟩ : SV))]] (SH.front [rrE eI 49 3 (.slice A1 rows1.length c1) rows1, rowE eV 22 (.slice (some ⟨b1, 0, none⟩) 2 2) [(⟨A_a, a.length, c_a⟩ : SV), (⟨A_b, b.length, c_b⟩ : SV)]] (SH.front [rowE eV 22 (.slice (some ⟨b1, 0, none⟩) 2 2) [(⟨A_a, a.length, c_a⟩ : SV), (⟨A_b, b.length, c_b⟩ : SV)], rowE eE 39 (.slice A8 ((out ++ [((gI (Stp ((rows1.getD ((0 : Int)).toNat default).2) ((rows1.getD ((1 : Int)).toNat default).2)) (ix), (⟨(if (j + 1).toNat = (j).toNat then A_b else A_b.map (·.add ((j).toNat * 2))), ((j + 1).toNat - (j).toNat), ((j + 1).toNat - (j).toNat)⟩ : SV)), ((b.take ((j + 1).toNat)).drop ((j).toNat)))]).length) c8) ((out ++ [((gI (Stp ((rows1.getD ((0 : Int)).toNat default).2) ((rows1.getD ((1 : Int)).toNat default).2)) (ix), (⟨(if (j + 1).toNat = (j).toNat then A_b else A_b.map (·.add ((j).toNat * 2))), ((j + 1).toNat - (j).toNat), ((j + 1).toNat - (j).toNat)⟩ : SV)), ((b.take ((j + 1).toNat)).drop ((j).toNat)))]).map (fun p : ED × List Ln => p.1)), rowE eE 39 (.slice (some ⟨b2, 0, none⟩) 1 1) [(gI (Stp ((rows1.getD ((0 : Int)).toNat default).2) ((rows1.getD ((1 : Int)).toNat default).2)) (ix), (⟨(if (j + 1).toNat = (j).toNat then A_b else A_b.map (·.add ((j).toNat * 2))), ((j + 1).toNat - (j).toNat), ((j + 1).toNat - (j).toNat)⟩ : SV))], rowE eI 37 (.slice A6 ((Stp ((rows1.getD ((0 : Int)).toNat default).2) ((rows1.getD ((1 : Int)).toNat default).2)).length) c6) (Stp ((rows1.getD ((0 : Int)).toNat default).2) ((rows1.getD ((1 : Int)).toNat default).2))] (SH.front [rowE eE 39 (.slice A8 ((out ++ [((gI (Stp ((rows1.getD ((0 : Int)).toNat default).2) ((rows1.getD ((1 : Int)).toNat default).2)) (ix), (⟨(if (j + 1).toNat = (j).toNat then A_b else A_b.map (·.add ((j).toNat * 2))), ((j + 1).toNat - (j).toNat), ((j + 1).toNat - (j).toNat)⟩ : SV)), ((b.take ((j + 1).toNat)).drop ((j).toNat)))]).length) c8) ((out ++ [((gI (Stp ((rows1.getD ((0 : Int)).toNat default).2) ((rows1.getD ((1 : Int)).toNat default).2)) (ix), (⟨(if (j + 1).toNat = (j).toNat then A_b else A_b.map (·.add ((j).toNat * 2))), ((j + 1).toNat - (j).toNat), ((j + 1).toNat - (j).toNat)⟩ : SV)), ((b.take ((j + 1).toNat)).drop ((j).toNat)))]).map (fun p : ED × List Ln => p.1)), rowE eE 39 (.slice (some ⟨b2, 0, none⟩) 1 1) [(gI (Stp ((rows1.getD ((0 : Int)).toNat default).2) ((rows1.getD ((1 : Int)).toNat default).2)) (ix), (⟨(if (j + 1).toNat = (j).toNat then A_b else A_b.map (·.add ((j).toNat * 2))), ((j + 1).toNat - (j).toNat), ((j + 1).toNat - (j).toNat)⟩ : SV))], rowE eI 37 (.slice A6 ((Stp ((rows1.getD ((0 : Int)).toNat default).2) ((rows1.getD ((1 : Int)).toNat default).2)).length) c6) (Stp ((rows1.getD ((0 : Int)).toNat default).2) ((rows1.getD ((1 : Int)).toNat default).2)), rrE eI 49 3 (.slice A1 rows1.length c1) rows1] hS16)))))
          have hk_ := (hcs.resolve_left (fun h_ => by omega)).resolve_left (fun h_ => by omega)
          exact ⟨_, by omega, A8, c8, (out ++ [((gI (Stp ((rows1.getD ((0 : Int)).toNat default).2) ((rows1.getD ((1 : Int)).toNat default).2)) (ix), (⟨(if (j + 1).toNat = (j).toNat then A_b else A_b.map (·.add ((j).toNat * 2))), ((j + 1).toNat - (j).toNat), ((j + 1).toNat - (j).toNat)⟩ : SV)), ((b.take ((j + 1).toNat)).drop ((j).toNat)))]), i, j + 1, ix + 1, by omega, by omega, by omega, by omega, by omega, by omega, (by first | exact hk_.2.2.2.2 | exact hk_.2.2), (by rw [one_cut q2 (by omega)]; exact mk_in ixlo hk rfl hc37 q2 (by omega) q5), (by simp; omega), (St.inSnoc rfl (h_b.imp fun _ h => Rd.cut h (by omega) (by omega) (by omega) (by omega)) q7), hS17, rfl, Weak.cons rfl <| Weak.cons rfl <| Weak.cons rfl <| Weak.cons rfl <| Weak.cons rfl <| Weak.cons rfl <| Weak.cons rfl <| Weak.cons rfl <| Weak.nil _⟩
        · skip
          refine WC.skip (thenQ.n ?_)
          refine WC.seq ?_
          refine WC.region ?_
          refine WL.lv rfl (LV.eqI rfl rfl) ?_
          refine WL.lv rfl (LV.asg rfl) ?_
          refine WL.nil (thenQ.n ?_)
          refine WC.condP (p := (gI (Stp ((rows1.getD ((0 : Int)).toNat default).2) ((rows1.getD ((1 : Int)).toNat default).2)) (ix)) = 1) rfl (fun hc39 => ?_) (fun hc39 => ?_)
          · skip
            refine WC.exit (thenQ.x <| blockQ.miss rfl <| thenQ.x <| blockQ.hit <| thenQ.n ?_)
            refine WC.region ?_
            refine WL.lv rfl (LV.mv rfl) ?_
            refine WL.lv rfl (LV.add rfl rfl (wr64 (by omega) (by omega))) ?_
            refine WL.lv rfl (LV.asg rfl) ?_
            refine WL.nil (blockQ.n <| thenQ.n ?_)
            iterate 2 refine WC.seq ?_
            refine WC.region ?_
            iterate 5 refine WL.lv rfl (LV.mv rfl) ?_
            refine WL.lv rfl (LV.add rfl rfl (wr64 (by omega) (by omega))) ?_
            refine WL.lv rfl (LV.mv rfl) ?_
            refine WL.lv rfl (LV.add rfl rfl (wr64 (by omega) (by omega))) ?_
            have hcap2 : a.length ≤ c_a := (Rd.cap (St.now (SH.stN hL1 h_a)))
            refine WL.lv rfl (LV.cut Try.underlying22 ti41.sz rfl rfl rfl rfl ⟨.inr ⟨.i64, by rw [Int.toNat_of_nonneg (a := i) (by omega)]⟩, .inr ⟨.i64, by rw [Int.toNat_of_nonneg (a := i + 1) (by omega)]⟩, .inr ⟨.i64, by rw [Int.toNat_of_nonneg (a := i + 1) (by omega)]⟩⟩ (by omega) (by omega) (by omega)) ?_
            refine WL.lv rfl (LV.build (vs := [(0, (.int .i64 (gI (Stp ((rows1.getD ((0 : Int)).toNat default).2) ((rows1.getD ((1 : Int)).toNat default).2)) (ix)))), (1, (.slice (if (i + 1).toNat = (i).toNat then A_a else A_a.map (·.add ((i).toNat * 2))) ((i + 1).toNat - (i).toNat) ((i + 1).toNat - (i).toNat)))]) (places := #[(0, 1), (1, 1)]) (cs := #[(.int .i64 (gI (Stp ((rows1.getD ((0 : Int)).toNat default).2) ((rows1.getD ((1 : Int)).toNat default).2)) (ix))), (.slice (if (i + 1).toNat = (i).toNat then A_a else A_a.map (·.add ((i).toNat * 2))) ((i + 1).toNat - (i).toNat) ((i + 1).toNat - (i).toNat))]) Try.underlying39 ti39 (fun _ => by kernel_rfl) rfl rfl) ?_
            refine WL.xe rfl (XE.buildSlice (E := eE) [(0, (.agg #[(.int .i64 (gI (Stp ((rows1.getD ((0 : Int)).toNat default).2) ((rows1.getD ((1 : Int)).toNat default).2)) (ix))), (.slice (if (i + 1).toNat = (i).toNat then A_a else A_a.map (·.add ((i).toNat * 2))) ((i + 1).toNat - (i).toNat) ((i + 1).toNat - (i).toNat))]))] #[(.int .i64 (gI (Stp ((rows1.getD ((0 : Int)).toNat default).2) ((rows1.getD ((1 : Int)).toNat default).2)) (ix))), (.slice (if (i + 1).toNat = (i).toNat then A_a else A_a.map (·.add ((i).toNat * 2))) ((i + 1).toNat - (i).toNat) ((i + 1).toNat - (i).toNat))] [(gI (Stp ((rows1.getD ((0 : Int)).toNat default).2) ((rows1.getD ((1 : Int)).toNat default).2)) (ix), (⟨(if (i + 1).toNat = (i).toNat then A_a else A_a.map (·.add ((i).toNat * 2))), ((i + 1).toNat - (i).toNat), ((i + 1).toNat - (i).toNat)⟩ : SV))] hL1 Try.underlying24 ti39 rfl (by decide) (by kernel_rfl) (.inr rfl) rfl rfl (by decide)) ?_
            rintro _ w7 ⟨b3, rfl, hS18, hk4⟩
            have hS19 : SH w No w7 [rowE eE 39 (.slice A_out out.length c_out) (out.map (fun p : ED × List Ln => p.1)), rowE eE 39 (.slice (some ⟨b3, 0, none⟩) 1 1) [(gI (Stp ((rows1.getD ((0 : Int)).toNat default).2) ((rows1.getD ((1 : Int)).toNat default).2)) (ix), (⟨(if (i + 1).toNat = (i).toNat then A_a else A_a.map (·.add ((i).toNat * 2))), ((i + 1).toNat - (i).toNat), ((i + 1).toNat - (i).toNat)⟩ : SV))], rowE eI 37 (.slice A6 ((Stp ((rows1.getD ((0 : Int)).toNat default).2) ((rows1.getD ((1 : Int)).toNat default).2)).length) c6) (Stp ((rows1.getD ((0 : Int)).toNat default).2) ((rows1.getD ((1 : Int)).toNat default).2)), rrE eI 49 3 (.slice A1 rows1.length c1) rows1, rowE eV 22 (.slice (some ⟨b1, 0, none⟩) 2 2) [(⟨A_a, a.length, c_a⟩ : SV), (⟨A_b, b.length, c_b⟩ : SV)]] := (SH.front [rowE eE 39 (.slice (some ⟨b3, 0, none⟩) 1 1) [(gI (Stp ((rows1.getD ((0 : Int)).toNat default).2) ((rows1.getD ((1 : Int)).toNat default).2)) (ix), (⟨(if (i + 1).toNat = (i).toNat then A_a else A_a.map (·.add ((i).toNat * 2))), ((i + 1).toNat - (i).toNat), ((i + 1).toNat - (i).toNat)⟩ : SV))], rowE eI 37 (.slice A6 ((Stp ((rows1.getD ((0 : Int)).toNat default).2) ((rows1.getD ((1 : Int)).toNat default).2)).length) c6) (Stp ((rows1.getD ((0 : Int)).toNat default).2) ((rows1.getD ((1 : Int)).toNat default).2))] hS18)
            refine WL.xe rfl (XE.appendQ (rows := out) (r := (gI (Stp ((rows1.getD ((0 : Int)).toNat default).2) ((rows1.getD ((1 : Int)).toNat default).2)) (ix), (⟨(if (i + 1).toNat = (i).toNat then A_a else A_a.map (·.add ((i).toNat * 2))), ((i + 1).toNat - (i).toNat), ((i + 1).toNat - (i).toNat)⟩ : SV))) ((a.take ((i + 1).toNat)).drop ((i).toNat)) hS19 Try.underlying24 ti39 rfl (St.now (SH.rd hS19 (.tail _ (.head _)))) rfl rfl (by first | omega | (simp; omega)) (by first | omega | (simp; omega))) ?_
            rintro _ w8 ⟨A9, c9, rfl, hS20, hk5⟩
            refine WL.lv rfl (LV.asg rfl) ?_
            refine WL.nil (thenQ.n ?_)
            refine WC.region ?_
            refine WL.lv rfl (LV.mv rfl) ?_
            refine WL.lv rfl (LV.add rfl rfl (wr64 (by omega) (by omega))) ?_
            refine WL.lv rfl (LV.asg rfl) ?_
            refine WL.nil (thenQ.n ?_)
            refine WC.exit (blockQ.hit <| blockQ.n <| thenQ.n ?_)
            refine WC.region ?_
            refine WL.lv rfl (LV.add rfl rfl (wr64 (by omega) (by omega))) ?_
            refine WL.lv rfl (LV.mv rfl) ?_
            refine WL.nil (thenQ.n ?_)
            have hS21 : SH w No w8 [rowE eI 37 (.slice A6 ((Stp ((rows1.getD ((0 : Int)).toNat default).2) ((rows1.getD ((1 : Int)).toNat default).2)).length) c6) (Stp ((rows1.getD ((0 : Int)).toNat default).2) ((rows1.getD ((1 : Int)).toNat default).2)), rowE eE 39 (.slice A9 ((out ++ [((gI (Stp ((rows1.getD ((0 : Int)).toNat default).2) ((rows1.getD ((1 : Int)).toNat default).2)) (ix), (⟨(if (i + 1).toNat = (i).toNat then A_a else A_a.map (·.add ((i).toNat * 2))), ((i + 1).toNat - (i).toNat), ((i + 1).toNat - (i).toNat)⟩ : SV)), ((a.take ((i + 1).toNat)).drop ((i).toNat)))]).length) c9) ((out ++ [((gI (Stp ((rows1.getD ((0 : Int)).toNat default).2) ((rows1.getD ((1 : Int)).toNat default).2)) (ix), (⟨(if (i + 1).toNat = (i).toNat then A_a else A_a.map (·.add ((i).toNat * 2))), ((i + 1).toNat - (i).toNat), ((i + 1).toNat - (i).toNat)⟩ : SV)), ((a.take ((i + 1).toNat)).drop ((i).toNat)))]).map (fun p : ED × List Ln => p.1)), rrE eI 49 3 (.slice A1 rows1.length c1) rows1, rowE eV 22 (.slice (some ⟨b1, 0, none⟩) 2 2) [(⟨A_a, a.length, c_a⟩ : SV), (⟨A_b, b.length, c_b⟩ : SV)]] := (SH.take 4 rfl (SH.front [rowE eE 39 (.slice A9 ((out ++ [((gI (Stp ((rows1.getD ((0 : Int)).toNat default).2) ((rows1.getD ((1 : Int)).toNat default).2)) (ix), (⟨(if (i + 1).toNat = (i).toNat then A_a else A_a.map (·.add ((i).toNat * 2))), ((i + 1).toNat - (i).toNat), ((i + 1).toNat - (i).toNat)⟩ : SV)), ((a.take ((i + 1).toNat)).drop ((i).toNat)))]).length) c9) ((out ++ [((gI (Stp ((rows1.getD ((0 : Int)).toNat default).2) ((rows1.getD ((1 : Int)).toNat default).2)) (ix), (⟨(if (i + 1).toNat = (i).toNat then A_a else A_a.map (·.add ((i).toNat * 2))), ((i + 1).toNat - (i).toNat), ((i + 1).toNat - (i).toNat)⟩ : SV)), ((a.take ((i + 1).toNat)).drop ((i).toNat)))]).map (fun p : ED × List Ln => p.1)), rrE eI 49 3 (.slice A1 rows1.length c1) rows1, rowE eV 22 (.slice (some ⟨b1, 0, none⟩) 2 2) [(⟨A_a, a.length, c_a⟩ : SV), (⟨A_b, b.length, c_b⟩ : SV)], rowE eE 39 (.slice (some ⟨b3, 0, none⟩) 1 1) [(gI (Stp ((rows1.getD ((0 : Int)).toNat default).2) ((rows1.getD ((1 : Int)).toNat default).2)) (ix), (⟨(if (i + 1).toNat = (i).toNat then A_a else A_a.map (·.add ((i).toNat * 2))), ((i + 1).toNat - (i).toNat), ((i + 1).toNat - (i).toNat)⟩ : SV))]] (SH.front [rrE eI 49 3 (.slice A1 rows1.length c1) rows1, rowE eV 22 (.slice (some ⟨b1, 0, none⟩) 2 2) [(⟨A_a, a.length, c_a⟩ : SV), (⟨A_b, b.length, c_b⟩ : SV)]] (SH.front [rowE eV 22 (.slice (some ⟨b1, 0, none⟩) 2 2) [(⟨A_a, a.length, c_a⟩ : SV), (⟨A_b, b.length, c_b⟩ : SV)], rowE eE 39 (.slice A9 ((out ++ [((gI (Stp ((rows1.getD ((0 : Int)).toNat default).2) ((rows1.getD ((1 : Int)).toNat default).2)) (ix), (⟨(if (i + 1).toNat = (i).toNat then A_a else A_a.map (·.add ((i).toNat * 2))), ((i + 1).toNat - (i).toNat), ((i + 1).toNat - (i).toNat)⟩ : SV)), ((a.take ((i + 1).toNat)).drop ((i).toNat)))]).length) c9) ((out ++ [((gI (Stp ((rows1.getD ((0 : Int)).toNat default).2) ((rows1.getD ((1 : Int)).toNat default).2)) (ix), (⟨(if (i + 1).toNat = (i).toNat then A_a else A_a.map (·.add ((i).toNat * 2))), ((i + 1).toNat - (i).toNat), ((i + 1).toNat - (i).toNat)⟩ : SV)), ((a.take ((i + 1).toNat)).drop ((i).toNat)))]).map (fun p : ED × List Ln => p.1)), rowE eE 39 (.slice (some ⟨b3, 0, none⟩) 1 1) [(gI (Stp ((rows1.getD ((0 : Int)).toNat default).2) ((rows1.getD ((1 : Int)).toNat default).2)) (ix), (⟨(if (i + 1).toNat = (i).toNat then A_a else A_a.map (·.add ((i).toNat * 2))), ((i + 1).toNat - (i).toNat), ((i + 1).toNat - (i).toNat)⟩ : SV))], rowE eI 37 (.slice A6 ((Stp ((rows1.getD ((0 : Int)).toNat default).2) ((rows1.getD ((1 : Int)).toNat default).2)).length) c6) (Stp ((rows1.getD ((0 : Int)).toNat default).2) ((rows1.getD ((1 : Int)).toNat default).2))] (SH.front [rowE eE 39 (.slice A9 ((out ++ [((gI (Stp ((rows1.getD ((0 : Int)).toNat default).2) ((rows1.getD ((1 : Int)).toNat default).2)) (ix), (⟨(if (i + 1).toNat = (i).toNat then A_a else A_a.map (·.add ((i).toNat * 2))), ((i + 1).toNat - (i).toNat), ((i + 1).toNat - (i).toNat)⟩ : SV)), ((a.take ((i + 1).toNat)).drop ((i).toNat)))]).length) c9) ((out ++ [((gI (Stp ((rows1.getD ((0 : Int)).toNat default).2) ((rows1.getD ((1 : Int)).toNat default).2)) (ix), (⟨(if (i + 1).toNat = (i).toNat then A_a else A_a.map (·.add ((i).toNat * 2))), ((i + 1).toNat - (i).toNat), ((i + 1).toNat - (i).toNat)⟩ : SV)), ((a.take ((i + 1).toNat)).drop ((i).toNat)))]).map (fun p : ED × List Ln => p.1)), rowE eE 39 (.slice (some ⟨b3, 0, none⟩) 1 1) [(gI (Stp ((rows1.getD ((0 : Int)).toNat default).2) ((rows1.getD ((1 : Int)).toNat default).2)) (ix), (⟨(if (i + 1).toNat = (i).toNat then A_a else A_a.map (·.add ((i).toNat * 2))), ((i + 1).toNat - (i).toNat), ((i + 1).toNat - (i).toNat)⟩ : SV))], rowE eI 37 (.slice A6 ((Stp ((rows1.getD ((0 : Int)).toNat default).2) ((rows1.getD ((1 : Int)).toNat default).2)).length) c6) (Stp ((rows1.getD ((0 : Int)).toNat default).2) ((rows1.getD ((1 : Int)).toNat default).2)), rrE eI 49 3 (.slice A1 rows1.length c1) rows1] hS20)))))
            have hk_ := hcs.resolve_right (fun h_ => by omega)
            exact ⟨_, by omega, A9, c9, (out ++ [((gI (Stp ((rows1.getD ((0 : Int)).toNat default).2) ((rows1.getD ((1 : Int)).toNat default).2)) (ix), (⟨(if (i + 1).toNat = (i).toNat then A_a else A_a.map (·.add ((i).toNat * 2))), ((i + 1).toNat - (i).toNat), ((i + 1).toNat - (i).toNat)⟩ : SV)), ((a.take ((i + 1).toNat)).drop ((i).toNat)))]), i + 1, j + 1, ix + 1, by omega, by omega, by omega, by omega, by omega, by omega, (by first | exact hk_.2.2.2.2 | exact hk_.2.2), (by rw [one_cut q0 (by omega)]; exact mk_keep ixlo hk rfl (by omega) q0 (by omega) q5), (by simp; omega), (St.inSnoc rfl (h_a.imp fun _ h => Rd.cut h (by omega) (by omega) (by omega) (by omega)) q7), hS21, rfl, Weak.cons rfl <| Weak.cons rfl <| Weak.cons rfl <| Weak.cons rfl <| Weak.cons rfl <| Weak.cons rfl <| Weak.cons rfl <| Weak.cons rfl <| Weak.nil _⟩
          · skip
            refine WC.skip (thenQ.n ?_)
            refine WC.exit (blockQ.miss rfl <| thenQ.x <| blockQ.miss rfl <| thenQ.x <| blockQ.hit <| thenQ.n ?_)
            iterate 2 refine WC.seq ?_
            refine WC.region ?_
            iterate 5 refine WL.lv rfl (LV.mv rfl) ?_
            refine WL.lv rfl (LV.add rfl rfl (wr64 (by omega) (by omega))) ?_
            refine WL.lv rfl (LV.mv rfl) ?_
            refine WL.lv rfl (LV.add rfl rfl (wr64 (by omega) (by omega))) ?_
            have hcap3 : a.length ≤ c_a := (Rd.cap (St.now (SH.stN hL1 h_a)))
            refine WL.lv rfl (LV.cut Try.underlying22 ti41.sz rfl rfl rfl rfl ⟨.inr ⟨.i64, by rw [Int.toNat_of_nonneg (a := i) (by omega)]⟩, .inr ⟨.i64, by rw [Int.toNat_of_nonneg (a := i + 1) (by omega)]⟩, .inr ⟨.i64, by rw [Int.toNat_of_nonneg (a := i + 1) (by omega)]⟩⟩ (by omega) (by omega) (by omega)) ?_
            refine WL.lv rfl (LV.build (vs := [(0, (.int .i64 (gI (Stp ((rows1.getD ((0 : Int)).toNat default).2) ((rows1.getD ((1 : Int)).toNat default).2)) (ix)))), (1, (.slice (if (i + 1).toNat = (i).toNat then A_a else A_a.map (·.add ((i).toNat * 2))) ((i + 1).toNat - (i).toNat) ((i + 1).toNat - (i).toNat)))]) (places := #[(0, 1), (1, 1)]) (cs := #[(.int .i64 (gI (Stp ((rows1.getD ((0 : Int)).toNat default).2) ((rows1.getD ((1 : Int)).toNat default).2)) (ix))), (.slice (if (i + 1).toNat = (i).toNat then A_a else A_a.map (·.add ((i).toNat * 2))) ((i + 1).toNat - (i).toNat) ((i + 1).toNat - (i).toNat))]) Try.underlying39 ti39 (fun _ => by kernel_rfl) rfl rfl) ?_
            refine WL.xe rfl (XE.buildSlice (E := eE) [(0, (.agg #[(.int .i64 (gI (Stp ((rows1.getD ((0 : Int)).toNat default).2) ((rows1.getD ((1 : Int)).toNat default).2)) (ix))), (.slice (if (i + 1).toNat = (i).toNat then A_a else A_a.map (·.add ((i).toNat * 2))) ((i + 1).toNat - (i).toNat) ((i + 1).toNat - (i).toNat))]))] #[(.int .i64 (gI (Stp ((rows1.getD ((0 : Int)).toNat default).2) ((rows1.getD ((1 : Int)).toNat default).2)) (ix))), (.slice (if (i + 1).toNat = (i).toNat then A_a else A_a.map (·.add ((i).toNat * 2))) ((i + 1).toNat - (i).toNat) ((i + 1).toNat - (i).toNat))] [(gI (Stp ((rows1.getD ((0 : Int)).toNat default).2) ((rows1.getD ((1 : Int)).toNat default).2)) (ix), (⟨(if (i + 1).toNat = (i).toNat then A_a else A_a.map (·.add ((i).toNat * 2))), ((i + 1).toNat - (i).toNat), ((i + 1).toNat - (i).toNat)⟩ : SV))] hL1 Try.underlying24 ti39 rfl (by decide) (by kernel_rfl) (.inr rfl) rfl rfl (by decide)) ?_
            rintro _ w9 ⟨b4, rfl, hS22, hk6⟩
            have hS23 : SH w No w9 [rowE eE 39 (.slice A_out out.length c_out) (out.map (fun p : ED × List Ln => p.1)), rowE eE 39 (.slice (some ⟨b4, 0, none⟩) 1 1) [(gI (Stp ((rows1.getD ((0 : Int)).toNat default).2) ((rows1.getD ((1 : Int)).toNat default).2)) (ix), (⟨(if (i + 1).toNat = (i).toNat then A_a else A_a.map (·.add ((i).toNat * 2))), ((i + 1).toNat - (i).toNat), ((i + 1).toNat - (i).toNat)⟩ : SV))], rowE eI 37 (.slice A6 ((Stp ((rows1.getD ((0 : Int)).toNat default).2) ((rows1.getD ((1 : Int)).toNat default).2)).length) c6) (Stp ((rows1.getD ((0 : Int)).toNat default).2) ((rows1.getD ((1 : Int)).toNat default).2)), rrE eI 49 3 (.slice A1 rows1.length c1) rows1, rowE eV 22 (.slice (some ⟨b1, 0, none⟩) 2 2) [(⟨A_a, a.length, c_a⟩ : SV), (⟨A_b, b.length, c_b⟩ : SV)]] := (SH.front [rowE eE 39 (.slice (some ⟨b4, 0, none⟩) 1 1) [(gI (Stp ((rows1.getD ((0 : Int)).toNat default).2) ((rows1.getD ((1 : Int)).toNat default).2)) (ix), (⟨(if (i + 1).toNat = (i).toNat then A_a else A_a.map (·.add ((i).toNat * 2))), ((i + 1).toNat - (i).toNat), ((i + 1).toNat - (i).toNat)⟩ : SV))], rowE eI 37 (.slice A6 ((Stp ((rows1.getD ((0 : Int)).toNat default).2) ((rows1.getD ((1 : Int)).toNat default).2)).length) c6) (Stp ((rows1.getD ((0 : Int)).toNat default).2) ((rows1.getD ((1 : Int)).toNat default).2))] hS22)
            refine WL.xe rfl (XE.appendQ (rows := out) (r := (gI (Stp ((rows1.getD ((0 : Int)).toNat default).2) ((rows1.getD ((1 : Int)).toNat default).2)) (ix), (⟨(if (i + 1).toNat = (i).toNat then A_a else A_a.map (·.add ((i).toNat * 2))), ((i + 1).toNat - (i).toNat), ((i + 1).toNat - (i).toNat)⟩ : SV))) ((a.take ((i + 1).toNat)).drop ((i).toNat)) hS23 Try.underlying24 ti39 rfl (St.now (SH.rd hS23 (.tail _ (.head _)))) rfl rfl (by first | omega | (simp; omega)) (by first | omega | (simp; omega))) ?_
            rintro _ w10 ⟨A10, c10, rfl, hS24, hk7⟩
            refine WL.lv rfl (LV.asg rfl) ?_
            refine WL.nil (thenQ.n ?_)
            refine WC.region ?_
            refine WL.lv rfl (LV.mv rfl) ?_
            refine WL.lv rfl (LV.add rfl rfl (wr64 (by omega) (by omega))) ?_
            refine WL.lv rfl (LV.asg rfl) ?_
            refine WL.nil (thenQ.n ?_)
            refine WC.exit (blockQ.hit <| blockQ.n <| thenQ.n ?_)
            refine WC.region ?_
            refine WL.lv rfl (LV.add rfl rfl (wr64 (by omega) (by omega))) ?_
            refine WL.lv rfl (LV.mv rfl) ?_
            refine WL.nil (thenQ.n ?_)
            have hS25 : SH w No w10 [rowE eI 37 (.slice A6 ((Stp ((rows1.getD ((0 : Int)).toNat default).2) ((rows1.getD ((1 : Int)).toNat default).2)).length) c6) (Stp ((rows1.getD ((0 : Int)).toNat default).2) ((rows1.getD ((1 : Int)).toNat default).2)), rowE eE 39 (.slice A10 ((out ++ [((gI (Stp ((rows1.getD ((0 : Int)).toNat default).2) ((rows1.getD ((1 : Int)).toNat default).2)) (ix), (⟨(if (i + 1).toNat = (i).toNat then A_a else A_a.map (·.add ((i).toNat * 2))), ((i + 1).toNat - (i).toNat), ((i + 1).toNat - (i).toNat)⟩ : SV)), ((a.take ((i + 1).toNat)).drop ((i).toNat)))]).length) c10) ((out ++ [((gI (Stp ((rows1.getD ((0 : Int)).toNat default).2) ((rows1.getD ((1 : Int)).toNat default).2)) (ix), (⟨(if (i + 1).toNat = (i).toNat then A_a else A_a.map (·.add ((i).toNat * 2))), ((i + 1).toNat - (i).toNat), ((i + 1).toNat - (i).toNat)⟩ : SV)), ((a.take ((i + 1).toNat)).drop ((i).toNat)))]).map (fun p : ED × List Ln => p.1)), rrE eI 49 3 (.slice A1 rows1.length c1) rows1, rowE eV 22 (.slice (some ⟨b1, 0, none⟩) 2 2) [(⟨A_a, a.length, c_a⟩ : SV), (⟨A_b, b.length, c_b⟩ : SV)]] := (SH.take 4 rfl (SH.front [rowE eE 39 (.slice A10 ((out ++ [((gI (Stp ((rows1.getD ((0 : Int)).toNat default).2) ((rows1.getD ((1 : Int)).toNat default).2)) (ix), (⟨(if (i + 1).toNat = (i).toNat then A_a else A_a.map (·.add ((i).toNat * 2))), ((i + 1).toNat - (i).toNat), ((i + 1).toNat - (i).toNat)⟩ : SV)), ((a.take ((i + 1).toNat)).drop ((i).toNat)))]).length) c10) ((out ++ [((gI (Stp ((rows1.getD ((0 : Int)).toNat default).2) ((rows1.getD ((1 : Int)).toNat default).2)) (ix), (⟨(if (i + 1).toNat = (i).toNat then A_a else A_a.map (·.add ((i).toNat * 2))), ((i + 1).toNat - (i).toNat), ((i + 1).toNat - (i).toNat)⟩ : SV)), ((a.take ((i + 1).toNat)).drop ((i).toNat)))]).map (fun p : ED × List Ln => p.1)), rrE eI 49 3 (.slice A1 rows1.length c1) rows1, rowE eV 22 (.slice (some ⟨b1, 0, none⟩) 2 2) [(⟨A_a, a.length, c_a⟩ : SV), (⟨A_b, b.length, c_b⟩ : SV)], rowE eE 39 (.slice (some ⟨b4, 0, none⟩) 1 1) [(gI (Stp ((rows1.getD ((0 : Int)).toNat default).2) ((rows1.getD ((1 : Int)).toNat default).2)) (ix), (⟨(if (i + 1).toNat = (i).toNat then A_a else A_a.map (·.add ((i).toNat * 2))), ((i + 1).toNat - (i).toNat), ((i + 1).toNat - (i).toNat)⟩ : SV))]] (SH.front [rrE eI 49 3 (.slice A1 rows1.length c1) rows1, rowE eV 22 (.slice (some ⟨b1, 0, none⟩) 2 2) [(⟨A_a, a.length, c_a⟩ : SV), (⟨A_b, b.length, c_b⟩ : SV)]] (SH.front [rowE eV 22 (.slice (some ⟨b1, 0, none⟩) 2 2) [(⟨A_a, a.length, c_a⟩ : SV), (⟨A_b, b.length, c_b⟩ : SV)], rowE eE 39 (.slice A10 ((out ++ [((gI (Stp ((rows1.getD ((0 : Int)).toNat default).2) ((rows1.getD ((1 : Int)).toNat default).2)) (ix), (⟨(if (i + 1).toNat = (i).toNat then A_a else A_a.map (·.add ((i).toNat * 2))), ((i + 1).toNat - (i).toNat), ((i + 1).toNat - (i).toNat)⟩ : SV)), ((a.take ((i + 1).toNat)).drop ((i).toNat)))]).length) c10) ((out ++ [((gI (Stp ((rows1.getD ((0 : Int)).toNat default).2) ((rows1.getD ((1 : Int)).toNat default).2)) (ix), (⟨(if (i + 1).toNat = (i).toNat then A_a else A_a.map (·.add ((i).toNat * 2))), ((i + 1).toNat - (i).toNat), ((i + 1).toNat - (i).toNat)⟩ : SV)), ((a.take ((i + 1).toNat)).drop ((i).toNat)))]).map (fun p : ED × List Ln => p.1)), rowE eE 39 (.slice (some ⟨b4, 0, none⟩) 1 1) [(gI (Stp ((rows1.getD ((0 : Int)).toNat default).2) ((rows1.getD ((1 : Int)).toNat default).2)) (ix), (⟨(if (i + 1).toNat = (i).toNat then A_a else A_a.map (·.add ((i).toNat * 2))), ((i + 1).toNat - (i).toNat), ((i + 1).toNat - (i).toNat)⟩ : SV))], rowE eI 37 (.slice A6 ((Stp ((rows1.getD ((0 : Int)).toNat default).2) ((rows1.getD ((1 : Int)).toNat default).2)).length) c6) (Stp ((rows1.getD ((0 : Int)).toNat default).2) ((rows1.getD ((1 : Int)).toNat default).2))] (SH.front [rowE eE 39 (.slice A10 ((out ++ [((gI (Stp ((rows1.getD ((0 : Int)).toNat default).2) ((rows1.getD ((1 : Int)).toNat default).2)) (ix), (⟨(if (i + 1).toNat = (i).toNat then A_a else A_a.map (·.add ((i).toNat * 2))), ((i + 1).toNat - (i).toNat), ((i + 1).toNat - (i).toNat)⟩ : SV)), ((a.take ((i + 1).toNat)).drop ((i).toNat)))]).length) c10) ((out ++ [((gI (Stp ((rows1.getD ((0 : Int)).toNat default).2) ((rows1.getD ((1 : Int)).toNat default).2)) (ix), (⟨(if (i + 1).toNat = (i).toNat then A_a else A_a.map (·.add ((i).toNat * 2))), ((i + 1).toNat - (i).toNat), ((i + 1).toNat - (i).toNat)⟩ : SV)), ((a.take ((i + 1).toNat)).drop ((i).toNat)))]).map (fun p : ED × List Ln => p.1)), rowE eE 39 (.slice (some ⟨b4, 0, none⟩) 1 1) [(gI (Stp ((rows1.getD ((0 : Int)).toNat default).2) ((rows1.getD ((1 : Int)).toNat default).2)) (ix), (⟨(if (i + 1).toNat = (i).toNat then A_a else A_a.map (·.add ((i).toNat * 2))), ((i + 1).toNat - (i).toNat), ((i + 1).toNat - (i).toNat)⟩ : SV))], rowE eI 37 (.slice A6 ((Stp ((rows1.getD ((0 : Int)).toNat default).2) ((rows1.getD ((1 : Int)).toNat default).2)).length) c6) (Stp ((rows1.getD ((0 : Int)).toNat default).2) ((rows1.getD ((1 : Int)).toNat default).2)), rrE eI 49 3 (.slice A1 rows1.length c1) rows1] hS24)))))
            have hk_ := (hcs.resolve_left (fun h_ => by omega)).resolve_right (fun h_ => by omega)
            exact ⟨_, by omega, A10, c10, (out ++ [((gI (Stp ((rows1.getD ((0 : Int)).toNat default).2) ((rows1.getD ((1 : Int)).toNat default).2)) (ix), (⟨(if (i + 1).toNat = (i).toNat then A_a else A_a.map (·.add ((i).toNat * 2))), ((i + 1).toNat - (i).toNat), ((i + 1).toNat - (i).toNat)⟩ : SV)), ((a.take ((i + 1).toNat)).drop ((i).toNat)))]), i + 1, j, ix + 1, by omega, by omega, by omega, by omega, by omega, by omega, (by first | exact hk_.2.2.2.2 | exact hk_.2.2), (by rw [one_cut q0 (by omega)]; exact mk_out ixlo hk rfl (by omega) (by omega) q0 (by omega) q5), (by simp; omega), (St.inSnoc rfl (h_a.imp fun _ h => Rd.cut h (by omega) (by omega) (by omega) (by omega)) q7), hS25, rfl, Weak.cons rfl <| Weak.cons rfl <| Weak.cons rfl <| Weak.cons rfl <| Weak.cons rfl <| Weak.cons rfl <| Weak.cons rfl <| Weak.cons rfl <| Weak.nil _⟩
      · have hfin := mk_fin (by omega) q5
        refine WC.exit (thenQ.x <| thenQ.x <| blockQ.hit <| thenQ.n ?_)
        refine WC.seq ?_
        refine WC.region ?_
        refine WL.lv rfl (LV.mv rfl) ?_
        refine WL.call rfl (XC.fn Try.func31 (by kernel_rfl) rfl rfl rfl) (normal_calls (SH.rd hL1 (.tail _ (.head _))) (SH.stN hL1 q7) (by rw [hfin, mkE_tot]; exact hsl) (by omega)) ?_
        rintro v_ w11 ⟨A11, c11, rows2, rfl, hnf1, hS26⟩
        have hS27 := SH.joinN hL1 hS26
        iterate 2 refine WL.lv rfl (LV.asg rfl) ?_
        refine WL.nil (thenQ.n ?_)
        refine WC.ret (?_)
        have hS28 : SH w No w11 [rowE eE 39 (.slice A11 rows2.length c11) (rows2.map (fun p : ED × List Ln => p.1)), insE (fun p : ED => p.2) eL 41 rows2] := (SH.take 2 rfl (SH.front [insE (fun p : ED => p.2) eL 41 rows2] (SH.front [rowE eE 39 (.slice A11 rows2.length c11) (rows2.map (fun p : ED × List Ln => p.1))] hS27)))
        exact ⟨_, fun a ha => res2 rfl ha rfl rfl, _, _, _, tup2 rfl (congrArg (Value.int .i64) ((if_neg (by omega)).symm)), (by rw [hnf1]; unfold MKS rawM; rw [if_neg (by omega), ← hst, mk_fin (by omega) q5]), hS28⟩

end Go.Proofs.Ytjmfoifohneanaa
