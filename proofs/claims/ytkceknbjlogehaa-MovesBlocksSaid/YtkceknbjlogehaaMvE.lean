/- Blocks found. -/
import Derived.Test.YtkceknbjlogehaaMvD
namespace Go.Proofs.Ytkceknbjlogehaa
open Go Go.Gv Go.RowKit Go.Mys Go.Num Go.Scr Go.Itn Go.Mov
set_option linter.unusedVariables false
set_option linter.unusedSimpArgs false
theorem ti64 : TI Try.prog 64 (.agg #[(.slice none 0 0), (.slice none 0 0), (.slice none 0 0), (.slice none 0 0)]) 4 96 := by unfold TI; kernel_rfl

theorem begin_calls {w : World} {A_a : Option Addr} {n_a c_a : Nat} {a : List Ln} {A_b : Option Addr} {n_b c_b : Nat} {b : List Ln} {A_pairs : Option Addr} {n_pairs c_pairs : Nat} {pairs : List (Int × Int)} (h_a : St No w (Rd eL (.slice A_a n_a c_a) a)) (hn_a : a.length = n_a) (h_b : St No w (Rd eL (.slice A_b n_b c_b) b)) (hn_b : b.length = n_b) (h_pairs : St No w (Rd eP (.slice A_pairs n_pairs c_pairs) pairs)) (hn_pairs : pairs.length = n_pairs) (hp : ∀ t : Int, 0 ≤ t → t < pairs.length → 0 ≤ (pairs.getD t.toNat (0, 0)).1 ∧ (pairs.getD t.toNat (0, 0)).1 < a.length ∧ 0 ≤ (pairs.getD t.toNat (0, 0)).2 ∧ (pairs.getD t.toNat (0, 0)).2 < b.length) (hA : a.length ≤ 400) (hB : b.length ≤ 400) (hP : pairs.length ≤ 1000) :
    Calls Try.prog 20 #[(.slice A_a n_a c_a), (.slice A_b n_b c_b), (.slice A_pairs n_pairs c_pairs)] w fun e w' => ∃ v, e = .returned v ∧ (fun v w' => ∃ (g' : Nat) (A0' : Option Addr) (c0' : Nat) (A1' : Option Addr) (c1' : Nat) (A2' : Option Addr) (c2' : Nat) (A3' : Option Addr) (c3' : Nat) (A4' : Option Addr) (c4' : Nat) (rows' : List (SV × List Int)), v = .pointer (some ⟨g', 0, none⟩) ∧ rows'.map (·.2) = nnums [] [a, b] ∧ (rows'.getD (0 : Int).toNat default).1.v = .slice A0' (rows'.getD (0 : Int).toNat default).2.length c0' ∧ (rows'.getD (1 : Int).toNat default).1.v = .slice A1' (rows'.getD (1 : Int).toNat default).2.length c1' ∧ (usd a.length pairs).length = a.length ∧ (tkn b.length pairs).length = b.length ∧ SH w No w' [blkE g' 64 #[(.slice A0' ((rows'.getD (0 : Int).toNat default).2.length) c0'), (.slice A1' ((rows'.getD (1 : Int).toNat default).2.length) c1'), (.slice A2' a.length c2'), (.slice A3' b.length c3')], rowE eB 4 (.slice A2' a.length c2') (usd a.length pairs), rowE eB 4 (.slice A3' b.length c3') (tkn b.length pairs), rrE eI 33 3 (.slice A4' rows'.length c4') rows']) v w' := by
  subst hn_a hn_b hn_pairs
  have hS : SH w No w [] := SH.nil _ _
  refine calls (l := litOf [(.slice A_a a.length c_a), (.slice A_b b.length c_b), (.slice A_pairs pairs.length c_pairs)] 0) Try.func20 rfl (n := 44) rfl (Nat.le_of_ble_eq_true rfl) (lit_args _) ?_
  refine WC.seq ?_
  refine WC.region ?_
  refine WL.lv rfl (LV.asg rfl) ?_
  refine WL.nil (thenQ.n ?_)
  refine WC.seq ?_
  refine WC.region ?_
  iterate 2 refine WL.lv rfl (LV.mv rfl) ?_
  refine WL.xe rfl (XE.buildSlice (E := eV) [(0, (.slice A_a a.length c_a)), (1, (.slice A_b b.length c_b))] #[(.slice A_a a.length c_a), (.slice A_b b.length c_b)] [(⟨A_a, a.length, c_a⟩ : SV), (⟨A_b, b.length, c_b⟩ : SV)] hS Try.underlying48 ti22 rfl (by decide) (by kernel_rfl) (.inr rfl) rfl rfl (by decide)) ?_
  rintro _ w1 ⟨b1, rfl, hS1, hk1⟩
  refine WL.call rfl (XC.fn Try.func27 (by kernel_rfl) rfl rfl rfl) (numbers_eq  (St.rrOf (rows := [((⟨A_a, a.length, c_a⟩ : SV), a), ((⟨A_b, b.length, c_b⟩ : SV), b)]) (SH.rd hS1 (.head _)) (St.inCons (r := (⟨A_a, a.length, c_a⟩ : SV)) rfl (SH.stN hS1 h_a) (St.inCons (r := (⟨A_b, b.length, c_b⟩ : SV)) rfl (SH.stN hS1 h_b) St.in0))) rfl (by simp) (by intro p hp; simp at hp; rcases hp with rfl | rfl <;> simp only [] <;> omega)) ?_
  rintro v_ w2 ⟨A1, c1, rows1, rfl, hq1, hS2⟩
  have hS3 := SH.joinN hS1 hS2
  have hmt := map_two (x := NA a) (y := NB a b) hq1
  have hra : (rows1.getD (0 : Int).toNat default).2 = NA a := hmt.2.1
  have hrb : (rows1.getD (1 : Int).toNat default).2 = NB a b := hmt.2.2
  have hla := NA_len a
  have hlb := NB_len a b
  have hl1 := hmt.1
  have hlra : (rows1.getD (0 : Int).toNat default).2.length = a.length := by rw [hra]; exact hla
  have hlrb : (rows1.getD (1 : Int).toNat default).2.length = b.length := by rw [hrb]; exact hlb
  refine WL.lv rfl (LV.asg rfl) ?_
  refine WL.nil (thenQ.n ?_)
  refine WC.seq ?_
  have hS4 := SH.drew hS3
  refine WC.regionD [] (fun w_ => KB No w2.drew w_) [(.pure, 0), (.pure, 1), (.look, 2), (.pure, 3), (.pure, 4), (.look, 5), (.pure, 6), (.pure, 7), (.pure, 9), (.pure, 10), (.fork, 0), (.fork, 0), (.fork, 0), (.fork, 0), (.fork, 0)] (by kernel_rfl) (by kernel_rfl) (KB.refl _ _) ?_
  refine WS.pure rfl rfl (fun _ => LV.mv rfl) ?_
  obtain ⟨A2, c2, A3, c3, e1, g1, e2, r1⟩ := St.eltRR (SH.rdRR hS4 (.head _)) default (0 : Int) (by omega) (by omega)
  refine WS.pure rfl rfl (fun _ => LV.idxA Try.underlying46 ti33.sz rfl e1 rfl (by omega) (by omega)) ?_
  refine WS.look rfl rfl (fun _ hk_ => LV.load1 Try.underlying33 rfl rfl (g1 _ hk_)) ?_
  refine WS.pure rfl rfl (fun _ => LV.mv rfl) ?_
  obtain ⟨A4, c4, A5, c5, e3, g2, e4, r2⟩ := St.eltRR (SH.rdRR hS4 (.head _)) default (1 : Int) (by omega) (by omega)
  refine WS.pure rfl rfl (fun _ => LV.idxA Try.underlying46 ti33.sz rfl e3 rfl (by omega) (by omega)) ?_
  refine WS.look rfl rfl (fun _ hk_ => LV.load1 Try.underlying33 rfl rfl (g2 _ hk_)) ?_
  refine WS.pure rfl rfl (fun _ => LV.mv rfl) ?_
  refine WS.pure rfl rfl (fun _ => LV.lenL Try.underlying22 rfl) ?_
  refine WS.pure rfl rfl (fun _ => LV.mv rfl) ?_
  refine WS.pure rfl rfl (fun _ => LV.lenL Try.underlying22 rfl) ?_
  refine WS.fork (WSX.two 8 11 (by kernel_rfl) ?_ ?_)
  · refine WO.xe rfl rfl (XE.make (E := eB) (n := a.length) false hS4 Try.underlying34 ti4 rfl rfl rfl rfl rfl rfl (by omega) (by omega)) ?_
    rintro _ w3 ⟨b2, rfl, hS5, hk2⟩
    refine ⟨fun h_ => (KB.transN (KB.refl _ _) hk2), ?_⟩
    refine WSX.of [(.forced, 11), (.pure, 12), (.forced, 13), (.pure, 14)] (by kernel_rfl) rfl ?_
    refine WS.xe rfl rfl (XE.make (E := eB) (n := b.length) false hS5 Try.underlying34 ti4 rfl rfl rfl rfl rfl rfl (by omega) (by omega)) ?_
    rintro _ w4 ⟨b3, rfl, hS6, hk3⟩
    refine ⟨fun h_ => (KB.transN (KB.transN (KB.refl _ _) hk2) hk3), ?_⟩
    refine WS.pure rfl rfl (fun _ => LV.build (vs := [(0, (.slice A3 ((rows1.getD ((0 : Int)).toNat default).2.length) c3)), (1, (.slice A5 ((rows1.getD ((1 : Int)).toNat default).2.length) c5)), (2, (.slice (some ⟨b2, 0, none⟩) a.length a.length)), (3, (.slice (some ⟨b3, 0, none⟩) b.length b.length))]) (places := #[(0, 1), (1, 1), (2, 1), (3, 1)]) (cs := #[(.slice A3 ((rows1.getD ((0 : Int)).toNat default).2.length) c3), (.slice A5 ((rows1.getD ((1 : Int)).toNat default).2.length) c5), (.slice (some ⟨b2, 0, none⟩) a.length a.length), (.slice (some ⟨b3, 0, none⟩) b.length b.length)]) Try.underlying64 ti64 (fun _ => by kernel_rfl) rfl rfl) ?_
    refine WS.xe rfl rfl (XE.box #[(.slice A3 ((rows1.getD ((0 : Int)).toNat default).2.length) c3), (.slice A5 ((rows1.getD ((1 : Int)).toNat default).2.length) c5), (.slice (some ⟨b2, 0, none⟩) a.length a.length), (.slice (some ⟨b3, 0, none⟩) b.length b.length)] hS6 rfl rfl) ?_
    rintro _ w5 ⟨b4, rfl, hS7, hk4⟩
    refine ⟨fun h_ => (KB.transN (KB.transN (KB.transN (KB.refl _ _) hk2) hk3) hk4), ?_⟩
    refine WS.pure rfl rfl (fun _ => LV.asg rfl) ?_
    refine WS.nil (thenQ.n ?_)
    iterate 2 refine WC.seq ?_
    refine WC.region ?_
    refine WL.lv rfl (LV.mv rfl) ?_
    refine WL.lv rfl (LV.lenL Try.underlying35 rfl) ?_
    refine WL.lv rfl (LV.mv rfl) ?_
    refine WL.nil (thenQ.n ?_)
    refine WC.block ?_
    have hS8 : SH w No w5 [blkE b4 64 #[(.slice A3 ((rows1.getD ((0 : Int)).toNat default).2.length) c3), (.slice A5 ((rows1.getD ((1 : Int)).toNat default).2.length) c5), (.slice (some ⟨b2, 0, none⟩) a.length a.length), (.slice (some ⟨b3, 0, none⟩) b.length b.length)], rowE eB 4 (.slice (some ⟨b2, 0, none⟩) a.length a.length) (List.replicate a.length false), rowE eB 4 (.slice (some ⟨b3, 0, none⟩) b.length b.length) (List.replicate b.length false), rrE eI 33 3 (.slice A1 rows1.length c1) rows1] := (SH.take 4 rfl (SH.front [rowE eB 4 (.slice (some ⟨b2, 0, none⟩) a.length a.length) (List.replicate a.length false), rowE eB 4 (.slice (some ⟨b3, 0, none⟩) b.length b.length) (List.replicate b.length false), rrE eI 33 3 (.slice A1 rows1.length c1) rows1] (SH.front [rowE eB 4 (.slice (some ⟨b3, 0, none⟩) b.length b.length) (List.replicate b.length false), rrE eI 33 3 (.slice A1 rows1.length c1) rows1, blkE b4 64 #[(.slice A3 ((rows1.getD ((0 : Int)).toNat default).2.length) c3), (.slice A5 ((rows1.getD ((1 : Int)).toNat default).2.length) c5), (.slice (some ⟨b2, 0, none⟩) a.length a.length), (.slice (some ⟨b3, 0, none⟩) b.length b.length)]] (SH.front [rrE eI 33 3 (.slice A1 rows1.length c1) rows1, blkE b4 64 #[(.slice A3 ((rows1.getD ((0 : Int)).toNat default).2.length) c3), (.slice A5 ((rows1.getD ((1 : Int)).toNat default).2.length) c5), (.slice (some ⟨b2, 0, none⟩) a.length a.length), (.slice (some ⟨b3, 0, none⟩) b.length b.length)]] (SH.front [blkE b4 64 #[(.slice A3 ((rows1.getD ((0 : Int)).toNat default).2.length) c3), (.slice A5 ((rows1.getD ((1 : Int)).toNat default).2.length) c5), (.slice (some ⟨b2, 0, none⟩) a.length a.length), (.slice (some ⟨b3, 0, none⟩) b.length b.length)], rowE eB 4 (.slice (some ⟨b3, 0, none⟩) b.length b.length) (List.replicate b.length false), rowE eB 4 (.slice (some ⟨b2, 0, none⟩) a.length a.length) (List.replicate a.length false)] hS7)))))
    refine WC.loop (fun m_ f_ w_ => ∃ (ix : Int) (u t : List Bool), (0 ≤ ix) ∧ (ix ≤ pairs.length) ∧ (u = usd a.length (pairs.take ix.toNat)) ∧ (t = tkn b.length (pairs.take ix.toNat)) ∧ (u.length = a.length) ∧ (t.length = b.length) ∧ SH w No w_ [blkE b4 64 #[(.slice A3 ((rows1.getD ((0 : Int)).toNat default).2.length) c3), (.slice A5 ((rows1.getD ((1 : Int)).toNat default).2.length) c5), (.slice (some ⟨b2, 0, none⟩) a.length a.length), (.slice (some ⟨b3, 0, none⟩) b.length b.length)], rowE eB 4 (.slice (some ⟨b2, 0, none⟩) a.length a.length) u, rowE eB 4 (.slice (some ⟨b3, 0, none⟩) b.length b.length) t, rrE eI 33 3 (.slice A1 rows1.length c1) rows1] ∧ m_ = (((pairs.length : Int) - ix).toNat) ∧ Weak (lit [(0, (.slice A_a a.length c_a)), (1, (.slice A_b b.length c_b)), (2, (.slice A_pairs pairs.length c_pairs)), (6, (.pointer none)), (8, (.pointer (some ⟨b4, 0, none⟩))), (29, (.slice A_pairs pairs.length c_pairs)), (30, (.int .i64 (pairs.length : Int))), (31, (.int .i64 ix))]) f_) _ ⟨0, (List.replicate a.length false), (List.replicate b.length false), by omega, by omega, rfl, rfl, (by simp), (by simp), hS8, rfl, Weak.cons rfl <| Weak.cons rfl <| Weak.cons rfl <| Weak.cons rfl <| Weak.cons rfl <| Weak.cons rfl <| Weak.cons rfl <| Weak.cons rfl <| Weak.nil _⟩ ?_
    rintro m1 f1 w6 ⟨ix, u, t, q0, q00, q1, q2, q3, q4, hL1, rfl, hw1⟩
    refine WC.weak hw1 ?_
    clear hw1
    refine WC.seq ?_
    refine WC.region ?_
    refine WL.lv rfl (LV.ltI rfl rfl) ?_
    refine WL.nil (thenQ.n ?_)
    refine WC.seq ?_
    refine WC.condP (p := ix < (pairs.length : Int)) rfl (fun hk => ?_) (fun hk => ?_)
    · have hp_ := hp ix q0 hk
      refine WC.skip (thenQ.n ?_)
      refine WC.seq ?_
      refine WC.block ?_
      refine WC.seq ?_
      refine WC.region ?_
      obtain ⟨A6, c6, e5, g3⟩ := St.elt (SH.stN hL1 h_pairs) (0, 0) ix (by omega) (by omega)
      refine WL.lv rfl (LV.idxA Try.underlying35 ti41.sz rfl e5 rfl (by omega) (by omega)) ?_
      refine WL.lv rfl (LV.loadAgg (cs := [(.int .i64 ((pairs.getD (ix).toNat (0, 0)).1)), (.int .i64 ((pairs.getD (ix).toNat (0, 0)).2))]) Try.underlying41 rfl ti41 rfl rfl (fun j u hu => g3 _ (KB.refl No _) j u hu)) ?_
      refine WL.xe rfl (XE.alloc #[(.int .i64 0), (.int .i64 0)] hL1 ti41 rfl) ?_
      rintro _ w7 ⟨b5, rfl, hS9, hk5⟩
      refine WL.xse rfl (XSE.blkAgg #[(.int .i64 ((pairs.getD (ix).toNat (0, 0)).1)), (.int .i64 ((pairs.getD (ix).toNat (0, 0)).2))] hS9 (by kernel_rfl) rfl (by kernel_rfl) rfl rfl) ?_
      rintro w8 ⟨hS10, hk6⟩
      refine WL.nil (thenQ.n ?_)
      refine WC.region ?_
      refine WL.lv rfl (LV.mv rfl) ?_
      refine WL.lv rfl (LV.idxArr Try.underlying41 ti3.sz rfl rfl (by decide) (by decide)) ?_
      refine WL.lv rfl (LV.load1 Try.underlying3 rfl rfl (Blk.cellN (SH.at hS10 (.head _)) 0 rfl _ (KB.refl No _))) ?_
      refine WL.lv rfl (LV.idxArr Try.underlying41 ti3.sz rfl rfl (by decide) (by decide)) ?_
      refine WL.lv rfl (LV.load1 Try.underlying3 rfl rfl (Blk.cellN (SH.at hS10 (.head _)) 1 rfl _ (KB.refl No _))) ?_
      refine WL.lv rfl (LV.build (vs := [(0, (.int .i64 ((pairs.getD (ix).toNat (0, 0)).1))), (1, (.int .i64 ((pairs.getD (ix).toNat (0, 0)).2))), (2, (.int .i64 1))]) (places := #[(0, 1), (1, 1), (2, 1)]) (cs := #[(.int .i64 ((pairs.getD (ix).toNat (0, 0)).1)), (.int .i64 ((pairs.getD (ix).toNat (0, 0)).2)), (.int .i64 1)]) Try.underlying43 ti43 (fun _ => by kernel_rfl) rfl rfl) ?_
      have hS11 : SH w No w8 [rowE eB 4 (.slice (some ⟨b3, 0, none⟩) b.length b.length) t, blkE b5 41 #[(.int .i64 ((pairs.getD (ix).toNat (0, 0)).1)), (.int .i64 ((pairs.getD (ix).toNat (0, 0)).2))], blkE b4 64 #[(.slice A3 ((rows1.getD ((0 : Int)).toNat default).2.length) c3), (.slice A5 ((rows1.getD ((1 : Int)).toNat default).2.length) c5), (.slice (some ⟨b2, 0, none⟩) a.length a.length), (.slice (some ⟨b3, 0, none⟩) b.length b.length)], rowE eB 4 (.slice (some ⟨b2, 0, none⟩) a.length a.length) u, rrE eI 33 3 (.slice A1 rows1.length c1) rows1] := (SH.front [blkE b5 41 #[(.int .i64 ((pairs.getD (ix).toNat (0, 0)).1)), (.int .i64 ((pairs.getD (ix).toNat (0, 0)).2))], blkE b4 64 #[(.slice A3 ((rows1.getD ((0 : Int)).toNat default).2.length) c3), (.slice A5 ((rows1.getD ((1 : Int)).toNat default).2.length) c5), (.slice (some ⟨b2, 0, none⟩) a.length a.length), (.slice (some ⟨b3, 0, none⟩) b.length b.length)], rowE eB 4 (.slice (some ⟨b2, 0, none⟩) a.length a.length) u] hS10)
      have hS12 : SH w No w8 [rowE eB 4 (.slice (some ⟨b2, 0, none⟩) a.length a.length) u, rowE eB 4 (.slice (some ⟨b3, 0, none⟩) b.length b.length) t, blkE b5 41 #[(.int .i64 ((pairs.getD (ix).toNat (0, 0)).1)), (.int .i64 ((pairs.getD (ix).toNat (0, 0)).2))], blkE b4 64 #[(.slice A3 ((rows1.getD ((0 : Int)).toNat default).2.length) c3), (.slice A5 ((rows1.getD ((1 : Int)).toNat default).2.length) c5), (.slice (some ⟨b2, 0, none⟩) a.length a.length), (.slice (some ⟨b3, 0, none⟩) b.length b.length)], rrE eI 33 3 (.slice A1 rows1.length c1) rows1] := (SH.front [rowE eB 4 (.slice (some ⟨b3, 0, none⟩) b.length b.length) t, blkE b5 41 #[(.int .i64 ((pairs.getD (ix).toNat (0, 0)).1)), (.int .i64 ((pairs.getD (ix).toNat (0, 0)).2))], blkE b4 64 #[(.slice A3 ((rows1.getD ((0 : Int)).toNat default).2.length) c3), (.slice A5 ((rows1.getD ((1 : Int)).toNat default).2.length) c5), (.slice (some ⟨b2, 0, none⟩) a.length a.length), (.slice (some ⟨b3, 0, none⟩) b.length b.length)]] hS11)
      have hS13 : SH w No w8 [blkE b4 64 #[(.slice A3 ((rows1.getD ((0 : Int)).toNat default).2.length) c3), (.slice A5 ((rows1.getD ((1 : Int)).toNat default).2.length) c5), (.slice (some ⟨b2, 0, none⟩) a.length a.length), (.slice (some ⟨b3, 0, none⟩) b.length b.length)], rowE eB 4 (.slice (some ⟨b2, 0, none⟩) a.length a.length) u, rowE eB 4 (.slice (some ⟨b3, 0, none⟩) b.length b.length) t, blkE b5 41 #[(.int .i64 ((pairs.getD (ix).toNat (0, 0)).1)), (.int .i64 ((pairs.getD (ix).toNat (0, 0)).2))], rrE eI 33 3 (.slice A1 rows1.length c1) rows1] := (SH.front [rowE eB 4 (.slice (some ⟨b2, 0, none⟩) a.length a.length) u, rowE eB 4 (.slice (some ⟨b3, 0, none⟩) b.length b.length) t, blkE b5 41 #[(.int .i64 ((pairs.getD (ix).toNat (0, 0)).1)), (.int .i64 ((pairs.getD (ix).toNat (0, 0)).2))]] hS12)
      have hT1 := SH.sub (Es := [blkE b4 64 #[(.slice A3 ((rows1.getD ((0 : Int)).toNat default).2.length) c3), (.slice A5 ((rows1.getD ((1 : Int)).toNat default).2.length) c5), (.slice (some ⟨b2, 0, none⟩) a.length a.length), (.slice (some ⟨b3, 0, none⟩) b.length b.length)], rowE eB 4 (.slice (some ⟨b2, 0, none⟩) a.length a.length) u, rowE eB 4 (.slice (some ⟨b3, 0, none⟩) b.length b.length) t]) hS13
      refine WL.call rfl (XC.fn Try.func22 (by kernel_rfl) rfl rfl rfl) (mark_calls (b := ((pairs.getD (ix).toNat (0, 0)).1, (pairs.getD (ix).toNat (0, 0)).2, (1 : Int))) hT1 (q3) (q4) (hp_.1) (by show (pairs.getD ix.toNat (0, 0)).1 + 1 ≤ (u.length : Int); omega) (hp_.2.2.1) (by show (pairs.getD ix.toNat (0, 0)).2 + 1 ≤ (t.length : Int); omega) (by show (0 : Int) ≤ 1; decide) (by show (1 : Int) ≤ 100000; decide) (by omega) (by omega)) ?_
      rintro v_ w9 ⟨rfl, hU1⟩
      have hS14 := SH.back (Es := [blkE b4 64 #[(.slice A3 ((rows1.getD ((0 : Int)).toNat default).2.length) c3), (.slice A5 ((rows1.getD ((1 : Int)).toNat default).2.length) c5), (.slice (some ⟨b2, 0, none⟩) a.length a.length), (.slice (some ⟨b3, 0, none⟩) b.length b.length)], rowE eB 4 (.slice (some ⟨b2, 0, none⟩) a.length a.length) u, rowE eB 4 (.slice (some ⟨b3, 0, none⟩) b.length b.length) t]) hS13 hU1
      refine WL.nil (blockQ.n <| thenQ.n ?_)
      refine WC.region ?_
      refine WL.lv rfl (LV.add rfl rfl (wr64 (by omega) (by omega))) ?_
      refine WL.lv rfl (LV.mv rfl) ?_
      refine WL.nil (thenQ.n ?_)
      have hS15 : SH w No w9 [blkE b4 64 #[(.slice A3 ((rows1.getD ((0 : Int)).toNat default).2.length) c3), (.slice A5 ((rows1.getD ((1 : Int)).toNat default).2.length) c5), (.slice (some ⟨b2, 0, none⟩) a.length a.length), (.slice (some ⟨b3, 0, none⟩) b.length b.length)], rowE eB 4 (.slice (some ⟨b2, 0, none⟩) a.length a.length) (mrk u ((pairs.getD (ix).toNat (0, 0)).1) (1 : Int)), rowE eB 4 (.slice (some ⟨b3, 0, none⟩) b.length b.length) (mrk t ((pairs.getD (ix).toNat (0, 0)).2) (1 : Int)), rrE eI 33 3 (.slice A1 rows1.length c1) rows1] := (SH.take 4 rfl (SH.front [rowE eB 4 (.slice (some ⟨b2, 0, none⟩) a.length a.length) (mrk u ((pairs.getD (ix).toNat (0, 0)).1) (1 : Int)), rowE eB 4 (.slice (some ⟨b3, 0, none⟩) b.length b.length) (mrk t ((pairs.getD (ix).toNat (0, 0)).2) (1 : Int)), rrE eI 33 3 (.slice A1 rows1.length c1) rows1] (SH.front [rowE eB 4 (.slice (some ⟨b3, 0, none⟩) b.length b.length) (mrk t ((pairs.getD (ix).toNat (0, 0)).2) (1 : Int)), rrE eI 33 3 (.slice A1 rows1.length c1) rows1, blkE b4 64 #[(.slice A3 ((rows1.getD ((0 : Int)).toNat default).2.length) c3), (.slice A5 ((rows1.getD ((1 : Int)).toNat default).2.length) c5), (.slice (some ⟨b2, 0, none⟩) a.length a.length), (.slice (some ⟨b3, 0, none⟩) b.length b.length)]] (SH.front [rrE eI 33 3 (.slice A1 rows1.length c1) rows1, blkE b4 64 #[(.slice A3 ((rows1.getD ((0 : Int)).toNat default).2.length) c3), (.slice A5 ((rows1.getD ((1 : Int)).toNat default).2.length) c5), (.slice (some ⟨b2, 0, none⟩) a.length a.length), (.slice (some ⟨b3, 0, none⟩) b.length b.length)], rowE eB 4 (.slice (some ⟨b2, 0, none⟩) a.length a.length) (mrk u ((pairs.getD (ix).toNat (0, 0)).1) (1 : Int))] (SH.front [blkE b4 64 #[(.slice A3 ((rows1.getD ((0 : Int)).toNat default).2.length) c3), (.slice A5 ((rows1.getD ((1 : Int)).toNat default).2.length) c5), (.slice (some ⟨b2, 0, none⟩) a.length a.length), (.slice (some ⟨b3, 0, none⟩) b.length b.length)], rowE eB 4 (.slice (some ⟨b2, 0, none⟩) a.length a.length) (mrk u ((pairs.getD (ix).toNat (0, 0)).1) (1 : Int)), rowE eB 4 (.slice (some ⟨b3, 0, none⟩) b.length b.length) (mrk t ((pairs.getD (ix).toNat (0, 0)).2) (1 : Int)), blkE b5 41 #[(.int .i64 ((pairs.getD (ix).toNat (0, 0)).1)), (.int .i64 ((pairs.getD (ix).toNat (0, 0)).2))]] hS14)))))
      exact ⟨_, by omega, ix + 1, (mrk u ((pairs.getD (ix).toNat (0, 0)).1) (1 : Int)), (mrk t ((pairs.getD (ix).toNat (0, 0)).2) (1 : Int)), by omega, by omega, (usd_snoc q0 hk q1), (tkn_snoc q0 hk q2), ((mrk_len hp_.1 (by omega) (by omega)).trans q3), ((mrk_len hp_.2.2.1 (by omega) (by omega)).trans q4), hS15, rfl, Weak.cons rfl <| Weak.cons rfl <| Weak.cons rfl <| Weak.cons rfl <| Weak.cons rfl <| Weak.cons rfl <| Weak.cons rfl <| Weak.cons rfl <| Weak.nil _⟩
    · skip
      refine WC.exit (thenQ.x <| thenQ.x <| blockQ.hit <| thenQ.n ?_)
      refine WC.seq ?_
      refine WC.region ?_
      refine WL.lv rfl (LV.mv rfl) ?_
      refine WL.lv rfl (LV.asg rfl) ?_
      refine WL.nil (thenQ.n ?_)
      refine WC.ret (?_)
      exact ⟨_, fun a ha => res1 rfl ha rfl, (by have e1_ : u = usd a.length pairs := (by rw [q1, take_all (by omega)]); have e2_ : t = tkn b.length pairs := (by rw [q2, take_all (by omega)]); rw [← e1_, ← e2_]; exact ⟨_, _, _, _, _, _, _, _, _, _, _, _, rfl, hq1, e2, e4, q3, q4, hL1⟩)⟩
  · refine WO.xe rfl rfl (XE.make (E := eB) (n := b.length) false hS4 Try.underlying34 ti4 rfl rfl rfl rfl rfl rfl (by omega) (by omega)) ?_
    rintro _ w10 ⟨b6, rfl, hS16, hk7⟩
    refine ⟨fun h_ => (KB.transN (KB.refl _ _) hk7), ?_⟩
    refine WSX.of [(.forced, 8), (.pure, 12), (.forced, 13), (.pure, 14)] (by kernel_rfl) rfl ?_
    refine WS.xe rfl rfl (XE.make (E := eB) (n := a.length) false hS16 Try.underlying34 ti4 rfl rfl rfl rfl rfl rfl (by omega) (by omega)) ?_
    rintro _ w11 ⟨b7, rfl, hS17, hk8⟩
    refine ⟨fun h_ => (KB.transN (KB.transN (KB.refl _ _) hk7) hk8), ?_⟩
    refine WS.pure rfl rfl (fun _ => LV.build (vs := [(0, (.slice A3 ((rows1.getD ((0 : Int)).toNat default).2.length) c3)), (1, (.slice A5 ((rows1.getD ((1 : Int)).toNat default).2.length) c5)), (2, (.slice (some ⟨b7, 0, none⟩) a.length a.length)), (3, (.slice (some ⟨b6, 0, none⟩) b.length b.length))]) (places := #[(0, 1), (1, 1), (2, 1), (3, 1)]) (cs := #[(.slice A3 ((rows1.getD ((0 : Int)).toNat default).2.length) c3), (.slice A5 ((rows1.getD ((1 : Int)).toNat default).2.length) c5), (.slice (some ⟨b7, 0, none⟩) a.length a.length), (.slice (some ⟨b6, 0, none⟩) b.length b.length)]) Try.underlying64 ti64 (fun _ => by kernel_rfl) rfl rfl) ?_
    refine WS.xe rfl rfl (XE.box #[(.slice A3 ((rows1.getD ((0 : Int)).toNat default).2.length) c3), (.slice A5 ((rows1.getD ((1 : Int)).toNat default).2.length) c5), (.slice (some ⟨b7, 0, none⟩) a.length a.length), (.slice (some ⟨b6, 0, none⟩) b.length b.length)] hS17 rfl rfl) ?_
    rintro _ w12 ⟨b8, rfl, hS18, hk9⟩
    refine ⟨fun h_ => (KB.transN (KB.transN (KB.transN (KB.refl _ _) hk7) hk8) hk9), ?_⟩
    refine WS.pure rfl rfl (fun _ => LV.asg rfl) ?_
    refine WS.nil (thenQ.n ?_)
    iterate 2 refine WC.seq ?_
    refine WC.region ?_
    refine WL.lv rfl (LV.mv rfl) ?_
    refine WL.lv rfl (LV.lenL Try.underlying35 rfl) ?_
    refine WL.lv rfl (LV.mv rfl) ?_
    refine WL.nil (thenQ.n ?_)
    refine WC.block ?_
    have hS19 : SH w No w12 [blkE b8 64 #[(.slice A3 ((rows1.getD ((0 : Int)).toNat default).2.length) c3), (.slice A5 ((rows1.getD ((1 : Int)).toNat default).2.length) c5), (.slice (some ⟨b7, 0, none⟩) a.length a.length), (.slice (some ⟨b6, 0, none⟩) b.length b.length)], rowE eB 4 (.slice (some ⟨b7, 0, none⟩) a.length a.length) (List.replicate a.length false), rowE eB 4 (.slice (some ⟨b6, 0, none⟩) b.length b.length) (List.replicate b.length false), rrE eI 33 3 (.slice A1 rows1.length c1) rows1] := (SH.take 4 rfl (SH.front [rowE eB 4 (.slice (some ⟨b7, 0, none⟩) a.length a.length) (List.replicate a.length false), rowE eB 4 (.slice (some ⟨b6, 0, none⟩) b.length b.length) (List.replicate b.length false), rrE eI 33 3 (.slice A1 rows1.length c1) rows1] (SH.front [rowE eB 4 (.slice (some ⟨b6, 0, none⟩) b.length b.length) (List.replicate b.length false), rrE eI 33 3 (.slice A1 rows1.length c1) rows1, blkE b8 64 #[(.slice A3 ((rows1.getD ((0 : Int)).toNat default).2.length) c3), (.slice A5 ((rows1.getD ((1 : Int)).toNat default).2.length) c5), (.slice (some ⟨b7, 0, none⟩) a.length a.length), (.slice (some ⟨b6, 0, none⟩) b.length b.length)]] (SH.front [rrE eI 33 3 (.slice A1 rows1.length c1) rows1, blkE b8 64 #[(.slice A3 ((rows1.getD ((0 : Int)).toNat default).2.length) c3), (.slice A5 ((rows1.getD ((1 : Int)).toNat default).2.length) c5), (.slice (some ⟨b7, 0, none⟩) a.length a.length), (.slice (some ⟨b6, 0, none⟩) b.length b.length)], rowE eB 4 (.slice (some ⟨b7, 0, none⟩) a.length a.length) (List.replicate a.length false)] (SH.front [blkE b8 64 #[(.slice A3 ((rows1.getD ((0 : Int)).toNat default).2.length) c3), (.slice A5 ((rows1.getD ((1 : Int)).toNat default).2.length) c5), (.slice (some ⟨b7, 0, none⟩) a.length a.length), (.slice (some ⟨b6, 0, none⟩) b.length b.length)], rowE eB 4 (.slice (some ⟨b7, 0, none⟩) a.length a.length) (List.replicate a.length false), rowE eB 4 (.slice (some ⟨b6, 0, none⟩) b.length b.length) (List.replicate b.length false)] hS18)))))
    refine WC.loop (fun m_ f_ w_ => ∃ (ix : Int) (u t : List Bool), (0 ≤ ix) ∧ (ix ≤ pairs.length) ∧ (u = usd a.length (pairs.take ix.toNat)) ∧ (t = tkn b.length (pairs.take ix.toNat)) ∧ (u.length = a.length) ∧ (t.length = b.length) ∧ SH w No w_ [blkE b8 64 #[(.slice A3 ((rows1.getD ((0 : Int)).toNat default).2.length) c3), (.slice A5 ((rows1.getD ((1 : Int)).toNat default).2.length) c5), (.slice (some ⟨b7, 0, none⟩) a.length a.length), (.slice (some ⟨b6, 0, none⟩) b.length b.length)], rowE eB 4 (.slice (some ⟨b7, 0, none⟩) a.length a.length) u, rowE eB 4 (.slice (some ⟨b6, 0, none⟩) b.length b.length) t, rrE eI 33 3 (.slice A1 rows1.length c1) rows1] ∧ m_ = (((pairs.length : Int) - ix).toNat) ∧ Weak (lit [(0, (.slice A_a a.length c_a)), (1, (.slice A_b b.length c_b)), (2, (.slice A_pairs pairs.length c_pairs)), (6, (.pointer none)), (8, (.pointer (some ⟨b8, 0, none⟩))), (29, (.slice A_pairs pairs.length c_pairs)), (30, (.int .i64 (pairs.length : Int))), (31, (.int .i64 ix))]) f_) _ ⟨0, (List.replicate a.length false), (List.replicate b.length false), by omega, by omega, rfl, rfl, (by simp), (by simp), hS19, rfl, Weak.cons rfl <| Weak.cons rfl <| Weak.cons rfl <| Weak.cons rfl <| Weak.cons rfl <| Weak.cons rfl <| Weak.cons rfl <| Weak.cons rfl <| Weak.nil _⟩ ?_
    rintro m2 f2 w13 ⟨ix, u, t, q0, q00, q1, q2, q3, q4, hL2, rfl, hw2⟩
    refine WC.weak hw2 ?_
    clear hw2
    refine WC.seq ?_
    refine WC.region ?_
    refine WL.lv rfl (LV.ltI rfl rfl) ?_
    refine WL.nil (thenQ.n ?_)
    refine WC.seq ?_
    refine WC.condP (p := ix < (pairs.length : Int)) rfl (fun hk => ?_) (fun hk => ?_)
    · have hp_ := hp ix q0 hk
      refine WC.skip (thenQ.n ?_)
      refine WC.seq ?_
      refine WC.block ?_
      refine WC.seq ?_
      refine WC.region ?_
      obtain ⟨A7, c7, e6, g4⟩ := St.elt (SH.stN hL2 h_pairs) (0, 0) ix (by omega) (by omega)
      refine WL.lv rfl (LV.idxA Try.underlying35 ti41.sz rfl e6 rfl (by omega) (by omega)) ?_
      refine WL.lv rfl (LV.loadAgg (cs := [(.int .i64 ((pairs.getD (ix).toNat (0, 0)).1)), (.int .i64 ((pairs.getD (ix).toNat (0, 0)).2))]) Try.underlying41 rfl ti41 rfl rfl (fun j u hu => g4 _ (KB.refl No _) j u hu)) ?_
      refine WL.xe rfl (XE.alloc #[(.int .i64 0), (.int .i64 0)] hL2 ti41 rfl) ?_
      rintro _ w14 ⟨b9, rfl, hS20, hk10⟩
      refine WL.xse rfl (XSE.blkAgg #[(.int .i64 ((pairs.getD (ix).toNat (0, 0)).1)), (.int .i64 ((pairs.getD (ix).toNat (0, 0)).2))] hS20 (by kernel_rfl) rfl (by kernel_rfl) rfl rfl) ?_
      rintro w15 ⟨hS21, hk11⟩
      refine WL.nil (thenQ.n ?_)
      refine WC.region ?_
      refine WL.lv rfl (LV.mv rfl) ?_
      refine WL.lv rfl (LV.idxArr Try.underlying41 ti3.sz rfl rfl (by decide) (by decide)) ?_
      refine WL.lv rfl (LV.load1 Try.underlying3 rfl rfl (Blk.cellN (SH.at hS21 (.head _)) 0 rfl _ (KB.refl No _))) ?_
      refine WL.lv rfl (LV.idxArr Try.underlying41 ti3.sz rfl rfl (by decide) (by decide)) ?_
      refine WL.lv rfl (LV.load1 Try.underlying3 rfl rfl (Blk.cellN (SH.at hS21 (.head _)) 1 rfl _ (KB.refl No _))) ?_
      refine WL.lv rfl (LV.build (vs := [(0, (.int .i64 ((pairs.getD (ix).toNat (0, 0)).1))), (1, (.int .i64 ((pairs.getD (ix).toNat (0, 0)).2))), (2, (.int .i64 1))]) (places := #[(0, 1), (1, 1), (2, 1)]) (cs := #[(.int .i64 ((pairs.getD (ix).toNat (0, 0)).1)), (.int .i64 ((pairs.getD (ix).toNat (0, 0)).2)), (.int .i64 1)]) Try.underlying43 ti43 (fun _ => by kernel_rfl) rfl rfl) ?_
      have hS22 : SH w No w15 [rowE eB 4 (.slice (some ⟨b6, 0, none⟩) b.length b.length) t, blkE b9 41 #[(.int .i64 ((pairs.getD (ix).toNat (0, 0)).1)), (.int .i64 ((pairs.getD (ix).toNat (0, 0)).2))], blkE b8 64 #[(.slice A3 ((rows1.getD ((0 : Int)).toNat default).2.length) c3), (.slice A5 ((rows1.getD ((1 : Int)).toNat default).2.length) c5), (.slice (some ⟨b7, 0, none⟩) a.length a.length), (.slice (some ⟨b6, 0, none⟩) b.length b.length)], rowE eB 4 (.slice (some ⟨b7, 0, none⟩) a.length a.length) u, rrE eI 33 3 (.slice A1 rows1.length c1) rows1] := (SH.front [blkE b9 41 #[(.int .i64 ((pairs.getD (ix).toNat (0, 0)).1)), (.int .i64 ((pairs.getD (ix).toNat (0, 0)).2))], blkE b8 64 #[(.slice A3 ((rows1.getD ((0 : Int)).toNat default).2.length) c3), (.slice A5 ((rows1.getD ((1 : Int)).toNat default).2.length) c5), (.slice (some ⟨b7, 0, none⟩) a.length a.length), (.slice (some ⟨b6, 0, none⟩) b.length b.length)], rowE eB 4 (.slice (some ⟨b7, 0, none⟩) a.length a.length) u] hS21)
      have hS23 : SH w No w15 [rowE eB 4 (.slice (some ⟨b7, 0, none⟩) a.length a.length) u, rowE eB 4 (.slice (some ⟨b6, 0, none⟩) b.length b.length) t, blkE b9 41 #[(.int .i64 ((pairs.getD (ix).toNat (0, 0)).1)), (.int .i64 ((pairs.getD (ix).toNat (0, 0)).2))], blkE b8 64 #[(.slice A3 ((rows1.getD ((0 : Int)).toNat default).2.length) c3), (.slice A5 ((rows1.getD ((1 : Int)).toNat default).2.length) c5), (.slice (some ⟨b7, 0, none⟩) a.length a.length), (.slice (some ⟨b6, 0, none⟩) b.length b.length)], rrE eI 33 3 (.slice A1 rows1.length c1) rows1] := (SH.front [rowE eB 4 (.slice (some ⟨b6, 0, none⟩) b.length b.length) t, blkE b9 41 #[(.int .i64 ((pairs.getD (ix).toNat (0, 0)).1)), (.int .i64 ((pairs.getD (ix).toNat (0, 0)).2))], blkE b8 64 #[(.slice A3 ((rows1.getD ((0 : Int)).toNat default).2.length) c3), (.slice A5 ((rows1.getD ((1 : Int)).toNat default).2.length) c5), (.slice (some ⟨b7, 0, none⟩) a.length a.length), (.slice (some ⟨b6, 0, none⟩) b.length b.length)]] hS22)
      have hS24 : SH w No w15 [blkE b8 64 #[(.slice A3 ((rows1.getD ((0 : Int)).toNat default).2.length) c3), (.slice A5 ((rows1.getD ((1 : Int)).toNat default).2.length) c5), (.slice (some ⟨b7, 0, none⟩) a.length a.length), (.slice (some ⟨b6, 0, none⟩) b.length b.length)], rowE eB 4 (.slice (some ⟨b7, 0, none⟩) a.length a.length) u, rowE eB 4 (.slice (some ⟨b6, 0, none⟩) b.length b.length) t, blkE b9 41 #[(.int .i64 ((pairs.getD (ix).toNat (0, 0)).1)), (.int .i64 ((pairs.getD (ix).toNat (0, 0)).2))], rrE eI 33 3 (.slice A1 rows1.length c1) rows1] := (SH.front [rowE eB 4 (.slice (some ⟨b7, 0, none⟩) a.length a.length) u, rowE eB 4 (.slice (some ⟨b6, 0, none⟩) b.length b.length) t, blkE b9 41 #[(.int .i64 ((pairs.getD (ix).toNat (0, 0)).1)), (.int .i64 ((pairs.getD (ix).toNat (0, 0)).2))]] hS23)
      have hT2 := SH.sub (Es := [blkE b8 64 #[(.slice A3 ((rows1.getD ((0 : Int)).toNat default).2.length) c3), (.slice A5 ((rows1.getD ((1 : Int)).toNat default).2.length) c5), (.slice (some ⟨b7, 0, none⟩) a.length a.length), (.slice (some ⟨b6, 0, none⟩) b.length b.length)], rowE eB 4 (.slice (some ⟨b7, 0, none⟩) a.length a.length) u, rowE eB 4 (.slice (some ⟨b6, 0, none⟩) b.length b.length) t]) hS24
      refine WL.call rfl (XC.fn Try.func22 (by kernel_rfl) rfl rfl rfl) (mark_calls (b := ((pairs.getD (ix).toNat (0, 0)).1, (pairs.getD (ix).toNat (0, 0)).2, (1 : Int))) hT2 (q3) (q4) (hp_.1) (by show (pairs.getD ix.toNat (0, 0)).1 + 1 ≤ (u.length : Int); omega) (hp_.2.2.1) (by show (pairs.getD ix.toNat (0, 0)).2 + 1 ≤ (t.length : Int); omega) (by show (0 : Int) ≤ 1; decide) (by show (1 : Int) ≤ 100000; decide) (by omega) (by omega)) ?_
      rintro v_ w16 ⟨rfl, hU2⟩
      have hS25 := SH.back (Es := [blkE b8 64 #[(.slice A3 ((rows1.getD ((0 : Int)).toNat default).2.length) c3), (.slice A5 ((rows1.getD ((1 : Int)).toNat default).2.length) c5), (.slice (some ⟨b7, 0, none⟩) a.length a.length), (.slice (some ⟨b6, 0, none⟩) b.length b.length)], rowE eB 4 (.slice (some ⟨b7, 0, none⟩) a.length a.length) u, rowE eB 4 (.slice (some ⟨b6, 0, none⟩) b.length b.length) t]) hS24 hU2
      refine WL.nil (blockQ.n <| thenQ.n ?_)
      refine WC.region ?_
      refine WL.lv rfl (LV.add rfl rfl (wr64 (by omega) (by omega))) ?_
      refine WL.lv rfl (LV.mv rfl) ?_
      refine WL.nil (thenQ.n ?_)
      have hS26 : SH w No w16 [blkE b8 64 #[(.slice A3 ((rows1.getD ((0 : Int)).toNat default).2.length) c3), (.slice A5 ((rows1.getD ((1 : Int)).toNat default).2.length) c5), (.slice (some ⟨b7, 0, none⟩) a.length a.length), (.slice (some ⟨b6, 0, none⟩) b.length b.length)], rowE eB 4 (.slice (some ⟨b7, 0, none⟩) a.length a.length) (mrk u ((pairs.getD (ix).toNat (0, 0)).1) (1 : Int)), rowE eB 4 (.slice (some ⟨b6, 0, none⟩) b.length b.length) (mrk t ((pairs.getD (ix).toNat (0, 0)).2) (1 : Int)), rrE eI 33 3 (.slice A1 rows1.length c1) rows1] := (SH.take 4 rfl (SH.front [rowE eB 4 (.slice (some ⟨b7, 0, none⟩) a.length a.length) (mrk u ((pairs.getD (ix).toNat (0, 0)).1) (1 : Int)), rowE eB 4 (.slice (some ⟨b6, 0, none⟩) b.length b.length) (mrk t ((pairs.getD (ix).toNat (0, 0)).2) (1 : Int)), rrE eI 33 3 (.slice A1 rows1.length c1) rows1] (SH.front [rowE eB 4 (.slice (some ⟨b6, 0, none⟩) b.length b.length) (mrk t ((pairs.getD (ix).toNat (0, 0)).2) (1 : Int)), rrE eI 33 3 (.slice A1 rows1.length c1) rows1, blkE b8 64 #[(.slice A3 ((rows1.getD ((0 : Int)).toNat default).2.length) c3), (.slice A5 ((rows1.getD ((1 : Int)).toNat default).2.length) c5), (.slice (some ⟨b7, 0, none⟩) a.length a.length), (.slice (some ⟨b6, 0, none⟩) b.length b.length)]] (SH.front [rrE eI 33 3 (.slice A1 rows1.length c1) rows1, blkE b8 64 #[(.slice A3 ((rows1.getD ((0 : Int)).toNat default).2.length) c3), (.slice A5 ((rows1.getD ((1 : Int)).toNat default).2.length) c5), (.slice (some ⟨b7, 0, none⟩) a.length a.length), (.slice (some ⟨b6, 0, none⟩) b.length b.length)], rowE eB 4 (.slice (some ⟨b7, 0, none⟩) a.length a.length) (mrk u ((pairs.getD (ix).toNat (0, 0)).1) (1 : Int))] (SH.front [blkE b8 64 #[(.slice A3 ((rows1.getD ((0 : Int)).toNat default).2.length) c3), (.slice A5 ((rows1.getD ((1 : Int)).toNat default).2.length) c5), (.slice (some ⟨b7, 0, none⟩) a.length a.length), (.slice (some ⟨b6, 0, none⟩) b.length b.length)], rowE eB 4 (.slice (some ⟨b7, 0, none⟩) a.length a.length) (mrk u ((pairs.getD (ix).toNat (0, 0)).1) (1 : Int)), rowE eB 4 (.slice (some ⟨b6, 0, none⟩) b.length b.length) (mrk t ((pairs.getD (ix).toNat (0, 0)).2) (1 : Int)), blkE b9 41 #[(.int .i64 ((pairs.getD (ix).toNat (0, 0)).1)), (.int .i64 ((pairs.getD (ix).toNat (0, 0)).2))]] hS25)))))
      exact ⟨_, by omega, ix + 1, (mrk u ((pairs.getD (ix).toNat (0, 0)).1) (1 : Int)), (mrk t ((pairs.getD (ix).toNat (0, 0)).2) (1 : Int)), by omega, by omega, (usd_snoc q0 hk q1), (tkn_snoc q0 hk q2), ((mrk_len hp_.1 (by omega) (by omega)).trans q3), ((mrk_len hp_.2.2.1 (by omega) (by omega)).trans q4), hS26, rfl, Weak.cons rfl <| Weak.cons rfl <| Weak.cons rfl <| Weak.cons rfl <| Weak.cons rfl <| Weak.cons rfl <| Weak.cons rfl <| Weak.cons rfl <| Weak.nil _⟩
    · skip
      refine WC.exit (thenQ.x <| thenQ.x <| blockQ.hit <| thenQ.n ?_)
      refine WC.seq ?_
      refine WC.region ?_
      refine WL.lv rfl (LV.mv rfl) ?_
      refine WL.lv rfl (LV.asg rfl) ?_
      refine WL.nil (thenQ.n ?_)
      refine WC.ret (?_)
      exact ⟨_, fun a ha => res1 rfl ha rfl, (by have e1_ : u = usd a.length pairs := (by rw [q1, take_all (by omega)]); have e2_ : t = tkn b.length pairs := (by rw [q2, take_all (by omega)]); rw [← e1_, ← e2_]; exact ⟨_, _, _, _, _, _, _, _, _, _, _, _, rfl, hq1, e2, e4, q3, q4, hL2⟩)⟩

set_option maxHeartbeats 1000000 in
theorem find_calls {w : World} {A_a : Option Addr} {n_a c_a : Nat} {a : List Ln} {A_b : Option Addr} {n_b c_b : Nat} {b : List Ln} {least : Int} (h_a : St No w (Rd eL (.slice A_a n_a c_a) a)) (hn_a : a.length = n_a) (h_b : St No w (Rd eL (.slice A_b n_b c_b) b)) (hn_b : b.length = n_b)  :
    Calls Try.prog 8 #[(.slice A_a n_a c_a), (.slice A_b n_b c_b), (.int .i64 least)] w fun e w' => ∃ v, e = .returned v ∧ (fun v w' => ∃ (A0' : Option Addr) (c0' : Nat), v = .tuple #[.slice A0' (FB a b least).length c0', .int .i64 (FE a b least)] ∧ SH w No w' [rowE eB3 43 (.slice A0' (FB a b least).length c0') (FB a b least)]) v w' := by
  subst hn_a hn_b
  have hS : SH w No w [] := SH.nil _ _
  refine calls (l := litOf [(.slice A_a a.length c_a), (.slice A_b b.length c_b), (.int .i64 least)] 0) Try.func8 rfl (n := 50) rfl (Nat.le_of_ble_eq_true rfl) (lit_args _) ?_
  refine WC.seq ?_
  refine WC.region ?_
  iterate 2 refine WL.lv rfl (LV.asg rfl) ?_
  refine WL.nil (thenQ.n ?_)
  refine WC.seq ?_
  refine WC.region ?_
  iterate 2 refine WL.lv rfl (LV.mv rfl) ?_
  refine WL.call rfl (XC.fn Try.func14 (by kernel_rfl) rfl rfl rfl) (stay_calls  (SH.stN hS h_a) rfl (SH.stN hS h_b) rfl ) ?_
  rintro v_ w1 ⟨A1, c1, rfl, hS1⟩
  have hS2 := SH.joinN hS hS1
  refine WL.lv rfl (LV.mv rfl) ?_
  iterate 2 refine WL.lv rfl (LV.extract rfl rfl) ?_
  iterate 2 refine WL.lv rfl (LV.asg rfl) ?_
  refine WL.nil (thenQ.n ?_)
  refine WC.seq ?_
  refine WC.block ?_
  refine WC.seq ?_
  refine WC.region ?_
  refine WL.lv rfl (LV.mv rfl) ?_
  refine WL.lv rfl (LV.neI rfl rfl) ?_
  refine WL.lv rfl (LV.asg rfl) ?_
  refine WL.nil (thenQ.n ?_)
  refine WC.condP (p := (STE a b) ≠ 0) rfl (fun hste => ?_) (fun hste => ?_)
  · skip
    refine WC.seq ?_
    refine WC.region ?_
    refine WL.lv rfl (LV.mv rfl) ?_
    iterate 2 refine WL.lv rfl (LV.asg rfl) ?_
    refine WL.nil (thenQ.n ?_)
    refine WC.ret (blockQ.r <| thenQ.r <| ?_)
    have hS3 := SH.nilRow (E := eB3) (T := 43) hS2
    have hS4 : SH w No w1 [rowE eB3 43 (.slice none 0 0) []] := (SH.take 1 rfl hS3)
    have hres1 : ([] : List (Int × Int × Int)) = FB a b least := by unfold FB; rw [if_pos (by omega)]
    exact ⟨_, fun a ha => res2 rfl ha rfl rfl, (by rw [← hres1]; exact ⟨_, _, tup2 rfl (congrArg (Value.int .i64) (by unfold FE; first | rw [if_pos (by omega)] | rw [if_neg (by omega), if_pos (by omega)] | rw [if_neg (by omega), if_neg (by omega)])), hS4⟩)⟩
  · have hle_ := STE_0 hste
    refine WC.seq ?_
    refine WC.region ?_
    refine WL.lv rfl (LV.mv rfl) ?_
    rcases Decidable.em (least < 1) with hg1 | hg1
    · refine WL.lv rfl (LV.as (LV.ltI rfl rfl) (decide_eq_true hg1)) ?_
      refine WL.lv rfl (LV.mv rfl) ?_
      iterate 2 refine WL.off rfl ?_
      refine WL.lv rfl (LV.pickT rfl rfl) ?_
      refine WL.lv rfl (LV.asg rfl) ?_
      refine WL.nil (thenQ.n ?_)
      refine WC.condT rfl ?_
      refine WC.seq ?_
      refine WC.region ?_
      iterate 2 refine WL.lv rfl (LV.asg rfl) ?_
      refine WL.nil (thenQ.n ?_)
      refine WC.ret (blockQ.r <| thenQ.r <| ?_)
      have hS5 := SH.nilRow (E := eB3) (T := 43) hS2
      have hS6 : SH w No w1 [rowE eB3 43 (.slice none 0 0) []] := (SH.take 1 rfl hS5)
      have hres2 : ([] : List (Int × Int × Int)) = FB a b least := by unfold FB; rw [if_pos (by omega)]
      exact ⟨_, fun a ha => res2 rfl ha rfl rfl, (by rw [← hres2]; exact ⟨_, _, tup2 rfl (congrArg (Value.int .i64) (by unfold FE; first | rw [if_pos (by omega)] | rw [if_neg (by omega), if_pos (by omega)] | rw [if_neg (by omega), if_neg (by omega)])), hS6⟩)⟩
    · refine WL.lv rfl (LV.as (LV.ltI rfl rfl) (decide_eq_false hg1)) ?_
      iterate 2 refine WL.lv rfl (LV.mv rfl) ?_
      refine WL.lv rfl (LV.gtI rfl rfl) ?_
      refine WL.lv rfl (LV.pickF rfl rfl) ?_
      refine WL.lv rfl (LV.asg rfl) ?_
      refine WL.nil (thenQ.n ?_)
      refine WC.condP (p := least > 400) rfl (fun hc1 => ?_) (fun hc1 => ?_)
      · skip
        refine WC.seq ?_
        refine WC.region ?_
        iterate 2 refine WL.lv rfl (LV.asg rfl) ?_
        refine WL.nil (thenQ.n ?_)
        refine WC.ret (blockQ.r <| thenQ.r <| ?_)
        have hS7 := SH.nilRow (E := eB3) (T := 43) hS2
        have hS8 : SH w No w1 [rowE eB3 43 (.slice none 0 0) []] := (SH.take 1 rfl hS7)
        have hres3 : ([] : List (Int × Int × Int)) = FB a b least := by unfold FB; rw [if_pos (by omega)]
        exact ⟨_, fun a ha => res2 rfl ha rfl rfl, (by rw [← hres3]; exact ⟨_, _, tup2 rfl (congrArg (Value.int .i64) (by unfold FE; first | rw [if_pos (by omega)] | rw [if_neg (by omega), if_pos (by omega)] | rw [if_neg (by omega), if_neg (by omega)])), hS8⟩)⟩
      · skip
        refine WC.skip (blockQ.n <| thenQ.n ?_)
        refine WC.seq ?_
        refine WC.region ?_
        iterate 3 refine WL.lv rfl (LV.mv rfl) ?_
        refine WL.call rfl (XC.fn Try.func20 (by kernel_rfl) rfl rfl rfl) (begin_calls (SH.stN hS2 h_a) rfl (SH.stN hS2 h_b) rfl (SH.rd hS2 (.head _)) rfl (fun t h0_ h1_ => STY_ok (by omega) (by omega) h0_ h1_) (by omega) (by omega) (by have h_ := STY_len (a := a) (b := b); omega)) ?_
        rintro v_ w2 ⟨b1, A2, c2, A3, c3, A4, c4, A5, c5, A6, c6, rows1, rfl, hq1, he0, he1, hlu1, hlt1, hS9⟩
        have hS10 := SH.joinN hS2 hS9
        have hmt := map_two (x := NA a) (y := NB a b) hq1
        have hra : (rows1.getD (0 : Int).toNat default).2 = NA a := hmt.2.1
        have hrb : (rows1.getD (1 : Int).toNat default).2 = NB a b := hmt.2.2
        have hla := NA_len a
        have hlb := NB_len a b
        have hl1 := hmt.1
        have hlra : (rows1.getD (0 : Int).toNat default).2.length = a.length := by rw [hra]; exact hla
        have hlrb : (rows1.getD (1 : Int).toNat default).2.length = b.length := by rw [hrb]; exact hlb
        refine WL.lv rfl (LV.asg rfl) ?_
        refine WL.nil (thenQ.n ?_)
        refine WC.seq ?_
        refine WC.region ?_
        have hS11 := SH.nilRow (E := eB3) (T := 43) hS10
        refine WL.lv rfl (LV.asg rfl) ?_
        refine WL.nil (thenQ.n ?_)
        refine WC.seq ?_
        refine WC.block ?_
        have hS12 : SH w No w2 [blkE b1 64 #[(.slice A2 ((rows1.getD (0 : Int).toNat default).2.length) c2), (.slice A3 ((rows1.getD (1 : Int).toNat default).2.length) c3), (.slice A4 a.length c4), (.slice A5 b.length c5)], rowE eB 4 (.slice A4 a.length c4) (usd a.length (STY a b)), rowE eB 4 (.slice A5 b.length c5) (tkn b.length (STY a b)), rrE eI 33 3 (.slice A6 rows1.length c6) rows1, rowE eB3 43 (.slice none 0 0) []] := (SH.take 5 rfl (SH.front [rowE eB 4 (.slice A4 a.length c4) (usd a.length (STY a b)), rowE eB 4 (.slice A5 b.length c5) (tkn b.length (STY a b)), rrE eI 33 3 (.slice A6 rows1.length c6) rows1, rowE eB3 43 (.slice none 0 0) []] (SH.front [rowE eB 4 (.slice A5 b.length c5) (tkn b.length (STY a b)), rrE eI 33 3 (.slice A6 rows1.length c6) rows1, rowE eB3 43 (.slice none 0 0) [], blkE b1 64 #[(.slice A2 ((rows1.getD (0 : Int).toNat default).2.length) c2), (.slice A3 ((rows1.getD (1 : Int).toNat default).2.length) c3), (.slice A4 a.length c4), (.slice A5 b.length c5)]] (SH.front [rrE eI 33 3 (.slice A6 rows1.length c6) rows1, rowE eB3 43 (.slice none 0 0) [], blkE b1 64 #[(.slice A2 ((rows1.getD (0 : Int).toNat default).2.length) c2), (.slice A3 ((rows1.getD (1 : Int).toNat default).2.length) c3), (.slice A4 a.length c4), (.slice A5 b.length c5)], rowE eB 4 (.slice A4 a.length c4) (usd a.length (STY a b))] (SH.front [rowE eB3 43 (.slice none 0 0) [], blkE b1 64 #[(.slice A2 ((rows1.getD (0 : Int).toNat default).2.length) c2), (.slice A3 ((rows1.getD (1 : Int).toNat default).2.length) c3), (.slice A4 a.length c4), (.slice A5 b.length c5)], rowE eB 4 (.slice A4 a.length c4) (usd a.length (STY a b)), rowE eB 4 (.slice A5 b.length c5) (tkn b.length (STY a b))] hS11)))))
        refine WC.loop (fun m_ f_ w_ => ∃ (A : Option Addr) (c : Nat) (u t : List Bool) (out : List (Int × Int × Int)), (fnd (rows1.getD (0 : Int).toNat default).2 (rows1.getD (1 : Int).toNat default).2 least u t out = fnd (rows1.getD (0 : Int).toNat default).2 (rows1.getD (1 : Int).toNat default).2 least (usd a.length (STY a b)) (tkn b.length (STY a b)) []) ∧ (u.length = a.length) ∧ (t.length = b.length) ∧ (out.length + u.count false ≤ a.length) ∧ (∀ c_ ∈ out, 0 ≤ c_.1 ∧ c_.1 ≤ 1000000) ∧ SH w No w_ [blkE b1 64 #[(.slice A2 ((rows1.getD (0 : Int).toNat default).2.length) c2), (.slice A3 ((rows1.getD (1 : Int).toNat default).2.length) c3), (.slice A4 a.length c4), (.slice A5 b.length c5)], rowE eB 4 (.slice A4 a.length c4) u, rowE eB 4 (.slice A5 b.length c5) t, rrE eI 33 3 (.slice A6 rows1.length c6) rows1, rowE eB3 43 (.slice A out.length c) out] ∧ m_ = (u.count false) ∧ Weak (lit [(0, (.slice A_a a.length c_a)), (1, (.slice A_b b.length c_b)), (2, (.int .i64 least)), (10, (.pointer (some ⟨b1, 0, none⟩))), (11, (.slice A out.length c))]) f_) _ ⟨none, 0, (usd a.length (STY a b)), (tkn b.length (STY a b)), [], rfl, by omega, by omega, (by have h_ := List.count_le_length (a := false) (l := (usd a.length (STY a b))); simp only [List.length_nil]; omega), (fun c_ h_ => by cases h_), hS12, rfl, Weak.cons rfl <| Weak.cons rfl <| Weak.cons rfl <| Weak.cons rfl <| Weak.cons rfl <| Weak.nil _⟩ ?_
        rintro m1 f1 w3 ⟨A, c, u, t, out, q1, q3, q4, q5, q6, hL1, rfl, hw1⟩
        refine WC.weak hw1 ?_
        clear hw1
        refine WC.block ?_
        refine WC.seq ?_
        refine WC.region ?_
        refine WL.lv rfl (LV.mv rfl) ?_
        refine WL.call rfl (XC.fn Try.func21 (by kernel_rfl) rfl rfl rfl) (longest_calls  (St.inner (SH.rdRR hL1 (.tail _ (.tail _ (.tail _ (.head _))))) (getD_mem (by omega)) he0) rfl (St.inner (SH.rdRR hL1 (.tail _ (.tail _ (.tail _ (.head _))))) (getD_mem (by omega)) he1) rfl (SH.rd hL1 (.tail _ (.head _))) q3 (SH.rd hL1 (.tail _ (.tail _ (.head _)))) q4 (SH.steN hL1 (.head _)) ) ?_
        rintro v_ w4 ⟨rfl, hk1⟩
        have hS13 := SH.same hL1 hk1
        refine WL.xe rfl (XE.alloc #[(.int .i64 0), (.int .i64 0), (.int .i64 0)] hS13 ti43 rfl) ?_
        rintro _ w5 ⟨b2, rfl, hS14, hk2⟩
        refine WL.xse rfl (XSE.blkAgg #[(.int .i64 (((bst ((rows1.getD (0 : Int).toNat default).2) ((rows1.getD (1 : Int).toNat default).2) u t)).1)), (.int .i64 (((bst ((rows1.getD (0 : Int).toNat default).2) ((rows1.getD (1 : Int).toNat default).2) u t)).2.1)), (.int .i64 (((bst ((rows1.getD (0 : Int).toNat default).2) ((rows1.getD (1 : Int).toNat default).2) u t)).2.2))] hS14 (by kernel_rfl) rfl (by kernel_rfl) rfl rfl) ?_
        rintro w6 ⟨hS15, hk3⟩
        refine WL.nil (thenQ.n ?_)
        iterate 2 refine WC.seq ?_
        refine WC.region ?_
        refine WL.lv rfl (LV.fieldA Try.underlying43 rfl ti3.sz rfl) ?_
        refine WL.lv rfl (LV.load1 Try.underlying3 rfl rfl (Blk.cellN (SH.at hS15 (.head _)) 2 rfl _ (KB.refl No _))) ?_
        refine WL.lv rfl (LV.mv rfl) ?_
        refine WL.lv rfl (LV.ltI rfl rfl) ?_
        refine WL.nil (thenQ.n ?_)
        refine WC.condP (p := (((bst ((rows1.getD (0 : Int).toNat default).2) ((rows1.getD (1 : Int).toNat default).2) u t)).2.2) < least) rfl (fun hlt => ?_) (fun hlt => ?_)
        · skip
          refine WC.exit (thenQ.x <| blockQ.miss rfl <| thenQ.x <| blockQ.hit <| thenQ.n ?_)
          refine WC.seq ?_
          refine WC.region ?_
          refine WL.lv rfl (LV.mv rfl) ?_
          have hS16 : SH w No w6 [rowE eB3 43 (.slice A out.length c) out, blkE b2 43 #[(.int .i64 (((bst ((rows1.getD (0 : Int).toNat default).2) ((rows1.getD (1 : Int).toNat default).2) u t)).1)), (.int .i64 (((bst ((rows1.getD (0 : Int).toNat default).2) ((rows1.getD (1 : Int).toNat default).2) u t)).2.1)), (.int .i64 (((bst ((rows1.getD (0 : Int).toNat default).2) ((rows1.getD (1 : Int).toNat default).2) u t)).2.2))], blkE b1 64 #[(.slice A2 ((rows1.getD (0 : Int).toNat default).2.length) c2), (.slice A3 ((rows1.getD (1 : Int).toNat default).2.length) c3), (.slice A4 a.length c4), (.slice A5 b.length c5)], rowE eB 4 (.slice A4 a.length c4) u, rowE eB 4 (.slice A5 b.length c5) t, rrE eI 33 3 (.slice A6 rows1.length c6) rows1] := (SH.front [blkE b2 43 #[(.int .i64 (((bst ((rows1.getD (0 : Int).toNat default).2) ((rows1.getD (1 : Int).toNat default).2) u t)).1)), (.int .i64 (((bst ((rows1.getD (0 : Int).toNat default).2) ((rows1.getD (1 : Int).toNat default).2) u t)).2.1)), (.int .i64 (((bst ((rows1.getD (0 : Int).toNat default).2) ((rows1.getD (1 : Int).toNat default).2) u t)).2.2))], blkE b1 64 #[(.slice A2 ((rows1.getD (0 : Int).toNat default).2.length) c2), (.slice A3 ((rows1.getD (1 : Int).toNat default).2.length) c3), (.slice A4 a.length c4), (.slice A5 b.length c5)], rowE eB 4 (.slice A4 a.length c4) u, rowE eB 4 (.slice A5 b.length c5) t, rrE eI 33 3 (.slice A6 rows1.length c6) rows1] hS15)
          refine WL.call rfl (XC.fn Try.func23 (by kernel_rfl) rfl rfl rfl) (sort_callsP (p := p_sortB) (cf := fun x y : (Int × Int × Int) => x.1 - y.1) sortN_sortB sortK_sortB hS16 (q6) (fun W_ hW_ x y hx hy => by rw [Array.append_empty]; exact (cmpB_calls (w := W_) (x := x) (y := y) hx hy).mono fun e_ w_ ⟨v_, he_, hv_, hk_⟩ => ⟨he_.trans (by rw [hv_]), hk_⟩) (by omega)) ?_
          rintro v_ w7 ⟨ys1, rfl, hpm1, hpw1, hS17, hk4⟩
          refine WL.nil (thenQ.n ?_)
          refine WC.seq ?_
          refine WC.region ?_
          refine WL.lv rfl (LV.mv rfl) ?_
          have hlen_ := hpm1.length_eq
          have hS18 : SH w No w7 [rowE eB3 43 (.slice A ys1.length c) ys1, blkE b2 43 #[(.int .i64 (((bst ((rows1.getD (0 : Int).toNat default).2) ((rows1.getD (1 : Int).toNat default).2) u t)).1)), (.int .i64 (((bst ((rows1.getD (0 : Int).toNat default).2) ((rows1.getD (1 : Int).toNat default).2) u t)).2.1)), (.int .i64 (((bst ((rows1.getD (0 : Int).toNat default).2) ((rows1.getD (1 : Int).toNat default).2) u t)).2.2))], blkE b1 64 #[(.slice A2 ((rows1.getD (0 : Int).toNat default).2.length) c2), (.slice A3 ((rows1.getD (1 : Int).toNat default).2.length) c3), (.slice A4 a.length c4), (.slice A5 b.length c5)], rowE eB 4 (.slice A4 a.length c4) u, rowE eB 4 (.slice A5 b.length c5) t, rrE eI 33 3 (.slice A6 rows1.length c6) rows1] := by rw [hlen_]; exact hS17
          refine WL.lv rfl (LV.asg (v := (.slice A ys1.length c)) (by rw [hlen_]; rfl)) ?_
          refine WL.lv rfl (LV.asg rfl) ?_
          refine WL.nil (thenQ.n ?_)
          refine WC.ret (?_)
          have hS19 : SH w No w7 [rowE eB3 43 (.slice A ys1.length c) ys1] := (SH.take 1 rfl hS18)
          have hres4 : (ys1 : List (Int × Int × Int)) = FB a b least := by unfold FB; rw [if_neg (by omega), ← hra, ← hrb]; exact srt_of (by omega) (by omega) (by omega) q1 (fnd_stop rfl hlt) hpm1 hpw1
          exact ⟨_, fun a ha => res2 rfl ha rfl rfl, (by rw [← hres4]; exact ⟨_, _, tup2 rfl (congrArg (Value.int .i64) (by unfold FE; first | rw [if_pos (by omega)] | rw [if_neg (by omega), if_pos (by omega)] | rw [if_neg (by omega), if_neg (by omega)])), hS19⟩)⟩
        · have hk := bst_ok (x := (rows1.getD (0 : Int).toNat default).2) (y := (rows1.getD (1 : Int).toNat default).2) (u := u) (t := t) (by omega)
          have hf0 := hk.f0
          have hf1 := hk.f1
          have hf2 := hk.t0
          have hf3 := hk.t1
          have hcnt := cnt_bst (x := (rows1.getD (0 : Int).toNat default).2) (y := (rows1.getD (1 : Int).toNat default).2) (u := u) (t := t) (by omega) (by omega)
          refine WC.skip (thenQ.n ?_)
          refine WC.seq ?_
          refine WC.region ?_
          refine WL.lv rfl (LV.mv rfl) ?_
          refine WL.lv rfl (LV.loadAgg (cs := [(.int .i64 (((bst ((rows1.getD (0 : Int).toNat default).2) ((rows1.getD (1 : Int).toNat default).2) u t)).1)), (.int .i64 (((bst ((rows1.getD (0 : Int).toNat default).2) ((rows1.getD (1 : Int).toNat default).2) u t)).2.1)), (.int .i64 (((bst ((rows1.getD (0 : Int).toNat default).2) ((rows1.getD (1 : Int).toNat default).2) u t)).2.2))]) Try.underlying43 rfl ti43 rfl rfl (Blk.agg (SH.at hS15 (.head _)) _ (KB.refl No _))) ?_
          have hS20 : SH w No w6 [rowE eB 4 (.slice A5 b.length c5) t, blkE b2 43 #[(.int .i64 (((bst ((rows1.getD (0 : Int).toNat default).2) ((rows1.getD (1 : Int).toNat default).2) u t)).1)), (.int .i64 (((bst ((rows1.getD (0 : Int).toNat default).2) ((rows1.getD (1 : Int).toNat default).2) u t)).2.1)), (.int .i64 (((bst ((rows1.getD (0 : Int).toNat default).2) ((rows1.getD (1 : Int).toNat default).2) u t)).2.2))], blkE b1 64 #[(.slice A2 ((rows1.getD (0 : Int).toNat default).2.length) c2), (.slice A3 ((rows1.getD (1 : Int).toNat default).2.length) c3), (.slice A4 a.length c4), (.slice A5 b.length c5)], rowE eB 4 (.slice A4 a.length c4) u, rrE eI 33 3 (.slice A6 rows1.length c6) rows1, rowE eB3 43 (.slice A out.length c) out] := (SH.front [blkE b2 43 #[(.int .i64 (((bst ((rows1.getD (0 : Int).toNat default).2) ((rows1.getD (1 : Int).toNat default).2) u t)).1)), (.int .i64 (((bst ((rows1.getD (0 : Int).toNat default).2) ((rows1.getD (1 : Int).toNat default).2) u t)).2.1)), (.int .i64 (((bst ((rows1.getD (0 : Int).toNat default).2) ((rows1.getD (1 : Int).toNat default).2) u t)).2.2))], blkE b1 64 #[(.slice A2 ((rows1.getD (0 : Int).toNat default).2.length) c2), (.slice A3 ((rows1.getD (1 : Int).toNat default).2.length) c3), (.slice A4 a.length c4), (.slice A5 b.length c5)], rowE eB 4 (.slice A4 a.length c4) u] hS15)
          have hS21 : SH w No w6 [rowE eB 4 (.slice A4 a.length c4) u, rowE eB 4 (.slice A5 b.length c5) t, blkE b2 43 #[(.int .i64 (((bst ((rows1.getD (0 : Int).toNat default).2) ((rows1.getD (1 : Int).toNat default).2) u t)).1)), (.int .i64 (((bst ((rows1.getD (0 : Int).toNat default).2) ((rows1.getD (1 : Int).toNat default).2) u t)).2.1)), (.int .i64 (((bst ((rows1.getD (0 : Int).toNat default).2) ((rows1.getD (1 : Int).toNat default).2) u t)).2.2))], blkE b1 64 #[(.slice A2 ((rows1.getD (0 : Int).toNat default).2.length) c2), (.slice A3 ((rows1.getD (1 : Int).toNat default).2.length) c3), (.slice A4 a.length c4), (.slice A5 b.length c5)], rrE eI 33 3 (.slice A6 rows1.length c6) rows1, rowE eB3 43 (.slice A out.length c) out] := (SH.front [rowE eB 4 (.slice A5 b.length c5) t, blkE b2 43 #[(.int .i64 (((bst ((rows1.getD (0 : Int).toNat default).2) ((rows1.getD (1 : Int).toNat default).2) u t)).1)), (.int .i64 (((bst ((rows1.getD (0 : Int).toNat default).2) ((rows1.getD (1 : Int).toNat default).2) u t)).2.1)), (.int .i64 (((bst ((rows1.getD (0 : Int).toNat default).2) ((rows1.getD (1 : Int).toNat default).2) u t)).2.2))], blkE b1 64 #[(.slice A2 ((rows1.getD (0 : Int).toNat default).2.length) c2), (.slice A3 ((rows1.getD (1 : Int).toNat default).2.length) c3), (.slice A4 a.length c4), (.slice A5 b.length c5)]] hS20)
          have hS22 : SH w No w6 [blkE b1 64 #[(.slice A2 ((rows1.getD (0 : Int).toNat default).2.length) c2), (.slice A3 ((rows1.getD (1 : Int).toNat default).2.length) c3), (.slice A4 a.length c4), (.slice A5 b.length c5)], rowE eB 4 (.slice A4 a.length c4) u, rowE eB 4 (.slice A5 b.length c5) t, blkE b2 43 #[(.int .i64 (((bst ((rows1.getD (0 : Int).toNat default).2) ((rows1.getD (1 : Int).toNat default).2) u t)).1)), (.int .i64 (((bst ((rows1.getD (0 : Int).toNat default).2) ((rows1.getD (1 : Int).toNat default).2) u t)).2.1)), (.int .i64 (((bst ((rows1.getD (0 : Int).toNat default).2) ((rows1.getD (1 : Int).toNat default).2) u t)).2.2))], rrE eI 33 3 (.slice A6 rows1.length c6) rows1, rowE eB3 43 (.slice A out.length c) out] := (SH.front [rowE eB 4 (.slice A4 a.length c4) u, rowE eB 4 (.slice A5 b.length c5) t, blkE b2 43 #[(.int .i64 (((bst ((rows1.getD (0 : Int).toNat default).2) ((rows1.getD (1 : Int).toNat default).2) u t)).1)), (.int .i64 (((bst ((rows1.getD (0 : Int).toNat default).2) ((rows1.getD (1 : Int).toNat default).2) u t)).2.1)), (.int .i64 (((bst ((rows1.getD (0 : Int).toNat default).2) ((rows1.getD (1 : Int).toNat default).2) u t)).2.2))]] hS21)
          have hT1 := SH.sub (Es := [blkE b1 64 #[(.slice A2 ((rows1.getD (0 : Int).toNat default).2.length) c2), (.slice A3 ((rows1.getD (1 : Int).toNat default).2.length) c3), (.slice A4 a.length c4), (.slice A5 b.length c5)], rowE eB 4 (.slice A4 a.length c4) u, rowE eB 4 (.slice A5 b.length c5) t]) hS22
          refine WL.call rfl (XC.fn Try.func22 (by kernel_rfl) rfl rfl rfl) (mark_calls (b := (bst ((rows1.getD (0 : Int).toNat default).2) ((rows1.getD (1 : Int).toNat default).2) u t)) hT1 (q3) (q4) (hf0) (by omega) (hf2) (by omega) (by omega) (by omega) (by omega) (by omega)) ?_
          rintro v_ w8 ⟨rfl, hU1⟩
          have hS23 := SH.back (Es := [blkE b1 64 #[(.slice A2 ((rows1.getD (0 : Int).toNat default).2.length) c2), (.slice A3 ((rows1.getD (1 : Int).toNat default).2.length) c3), (.slice A4 a.length c4), (.slice A5 b.length c5)], rowE eB 4 (.slice A4 a.length c4) u, rowE eB 4 (.slice A5 b.length c5) t]) hS22 hU1
          refine WL.nil (thenQ.n ?_)
          refine WC.region ?_
          refine WL.lv rfl (LV.mv rfl) ?_
          refine WL.lv rfl (LV.loadAgg (cs := [(.int .i64 (((bst ((rows1.getD (0 : Int).toNat default).2) ((rows1.getD (1 : Int).toNat default).2) u t)).1)), (.int .i64 (((bst ((rows1.getD (0 : Int).toNat default).2) ((rows1.getD (1 : Int).toNat default).2) u t)).2.1)), (.int .i64 (((bst ((rows1.getD (0 : Int).toNat default).2) ((rows1.getD (1 : Int).toNat default).2) u t)).2.2))]) Try.underlying43 rfl ti43 rfl rfl (Blk.agg (SH.at hS23 (.tail _ (.tail _ (.tail _ (.head _))))) _ (KB.refl No _))) ?_
          refine WL.xe rfl (XE.buildSlice (E := eB3) [(0, (.agg #[(.int .i64 (((bst ((rows1.getD (0 : Int).toNat default).2) ((rows1.getD (1 : Int).toNat default).2) u t)).1)), (.int .i64 (((bst ((rows1.getD (0 : Int).toNat default).2) ((rows1.getD (1 : Int).toNat default).2) u t)).2.1)), (.int .i64 (((bst ((rows1.getD (0 : Int).toNat default).2) ((rows1.getD (1 : Int).toNat default).2) u t)).2.2))]))] #[(.int .i64 (((bst ((rows1.getD (0 : Int).toNat default).2) ((rows1.getD (1 : Int).toNat default).2) u t)).1)), (.int .i64 (((bst ((rows1.getD (0 : Int).toNat default).2) ((rows1.getD (1 : Int).toNat default).2) u t)).2.1)), (.int .i64 (((bst ((rows1.getD (0 : Int).toNat default).2) ((rows1.getD (1 : Int).toNat default).2) u t)).2.2))] [(bst ((rows1.getD (0 : Int).toNat default).2) ((rows1.getD (1 : Int).toNat default).2) u t)] hS23 Try.underlying24 ti43 rfl (by decide) (by kernel_rfl) (.inr rfl) rfl rfl (by decide)) ?_
          rintro _ w9 ⟨b3, rfl, hS24, hk5⟩
          have hS25 : SH w No w9 [rowE eB3 43 (.slice A out.length c) out, rowE eB3 43 (.slice (some ⟨b3, 0, none⟩) 1 1) [(bst ((rows1.getD (0 : Int).toNat default).2) ((rows1.getD (1 : Int).toNat default).2) u t)], blkE b1 64 #[(.slice A2 ((rows1.getD (0 : Int).toNat default).2.length) c2), (.slice A3 ((rows1.getD (1 : Int).toNat default).2.length) c3), (.slice A4 a.length c4), (.slice A5 b.length c5)], rowE eB 4 (.slice A4 a.length c4) (mrk u (bst ((rows1.getD (0 : Int).toNat default).2) ((rows1.getD (1 : Int).toNat default).2) u t).1 (bst ((rows1.getD (0 : Int).toNat default).2) ((rows1.getD (1 : Int).toNat default).2) u t).2.2), rowE eB 4 (.slice A5 b.length c5) (mrk t (bst ((rows1.getD (0 : Int).toNat default).2) ((rows1.getD (1 : Int).toNat default).2) u t).2.1 (bst ((rows1.getD (0 : Int).toNat default).2) ((rows1.getD (1 : Int).toNat default).2) u t).2.2), blkE b2 43 #[(.int .i64 (((bst ((rows1.getD (0 : Int).toNat default).2) ((rows1.getD (1 : Int).toNat default).2) u t)).1)), (.int .i64 (((bst ((rows1.getD (0 : Int).toNat default).2) ((rows1.getD (1 : Int).toNat default).2) u t)).2.1)), (.int .i64 (((bst ((rows1.getD (0 : Int).toNat default).2) ((rows1.getD (1 : Int).toNat default).2) u t)).2.2))], rrE eI 33 3 (.slice A6 rows1.length c6) rows1] := (SH.front [rowE eB3 43 (.slice (some ⟨b3, 0, none⟩) 1 1) [(bst ((rows1.getD (0 : Int).toNat default).2) ((rows1.getD (1 : Int).toNat default).2) u t)], blkE b1 64 #[(.slice A2 ((rows1.getD (0 : Int).toNat default).2.length) c2), (.slice A3 ((rows1.getD (1 : Int).toNat default).2.length) c3), (.slice A4 a.length c4), (.slice A5 b.length c5)], rowE eB 4 (.slice A4 a.length c4) (mrk u (bst ((rows1.getD (0 : Int).toNat default).2) ((rows1.getD (1 : Int).toNat default).2) u t).1 (bst ((rows1.getD (0 : Int).toNat default).2) ((rows1.getD (1 : Int).toNat default).2) u t).2.2), rowE eB 4 (.slice A5 b.length c5) (mrk t (bst ((rows1.getD (0 : Int).toNat default).2) ((rows1.getD (1 : Int).toNat default).2) u t).2.1 (bst ((rows1.getD (0 : Int).toNat default).2) ((rows1.getD (1 : Int).toNat default).2) u t).2.2), blkE b2 43 #[(.int .i64 (((bst ((rows1.getD (0 : Int).toNat default).2) ((rows1.getD (1 : Int).toNat default).2) u t)).1)), (.int .i64 (((bst ((rows1.getD (0 : Int).toNat default).2) ((rows1.getD (1 : Int).toNat default).2) u t)).2.1)), (.int .i64 (((bst ((rows1.getD (0 : Int).toNat default).2) ((rows1.getD (1 : Int).toNat default).2) u t)).2.2))], rrE eI 33 3 (.slice A6 rows1.length c6) rows1] hS24)
          refine WL.xe rfl (XE.append hS25 Try.underlying24 ti43 rfl (St.now (SH.rd hS25 (.tail _ (.head _)))) rfl rfl (by first | omega | simp only [List.length_append, List.length_cons, List.length_nil, List.length_take, List.length_reverse, List.length_drop] at *; omega) (by first | omega | simp only [List.length_append, List.length_cons, List.length_nil, List.length_take, List.length_reverse, List.length_drop] at *; omega)) ?_
          rintro _ w10 ⟨A7, c7, rfl, hS26, hk6⟩
          refine WL.lv rfl (LV.asg rfl) ?_
          refine WL.nil (blockQ.n <| thenQ.n ?_)
          have hS27 : SH w No w10 [blkE b1 64 #[(.slice A2 ((rows1.getD (0 : Int).toNat default).2.length) c2), (.slice A3 ((rows1.getD (1 : Int).toNat default).2.length) c3), (.slice A4 a.length c4), (.slice A5 b.length c5)], rowE eB 4 (.slice A4 a.length c4) (mrk u (bst ((rows1.getD (0 : Int).toNat default).2) ((rows1.getD (1 : Int).toNat default).2) u t).1 (bst ((rows1.getD (0 : Int).toNat default).2) ((rows1.getD (1 : Int).toNat default).2) u t).2.2), rowE eB 4 (.slice A5 b.length c5) (mrk t (bst ((rows1.getD (0 : Int).toNat default).2) ((rows1.getD (1 : Int).toNat default).2) u t).2.1 (bst ((rows1.getD (0 : Int).toNat default).2) ((rows1.getD (1 : Int).toNat default).2) u t).2.2), rrE eI 33 3 (.slice A6 rows1.length c6) rows1, rowE eB3 43 (.slice A7 ((out ++ [(bst ((rows1.getD (0 : Int).toNat default).2) ((rows1.getD (1 : Int).toNat default).2) u t)]).length) c7) (out ++ [(bst ((rows1.getD (0 : Int).toNat default).2) ((rows1.getD (1 : Int).toNat default).2) u t)])] := (SH.take 5 rfl (SH.front [rowE eB 4 (.slice A4 a.length c4) (mrk u (bst ((rows1.getD (0 : Int).toNat default).2) ((rows1.getD (1 : Int).toNat default).2) u t).1 (bst ((rows1.getD (0 : Int).toNat default).2) ((rows1.getD (1 : Int).toNat default).2) u t).2.2), rowE eB 4 (.slice A5 b.length c5) (mrk t (bst ((rows1.getD (0 : Int).toNat default).2) ((rows1.getD (1 : Int).toNat default).2) u t).2.1 (bst ((rows1.getD (0 : Int).toNat default).2) ((rows1.getD (1 : Int).toNat default).2) u t).2.2), rrE eI 33 3 (.slice A6 rows1.length c6) rows1, rowE eB3 43 (.slice A7 ((out ++ [(bst ((rows1.getD (0 : Int).toNat default).2) ((rows1.getD (1 : Int).toNat default).2) u t)]).length) c7) (out ++ [(bst ((rows1.getD (0 : Int).toNat default).2) ((rows1.getD (1 : Int).toNat default).2) u t)]), rowE eB3 43 (.slice (some ⟨b3, 0, none⟩) 1 1) [(bst ((rows1.getD (0 : Int).toNat default).2) ((rows1.getD (1 : Int).toNat default).2) u t)]] (SH.front [rowE eB 4 (.slice A5 b.length c5) (mrk t (bst ((rows1.getD (0 : Int).toNat default).2) ((rows1.getD (1 : Int).toNat default).2) u t).2.1 (bst ((rows1.getD (0 : Int).toNat default).2) ((rows1.getD (1 : Int).toNat default).2) u t).2.2), rrE eI 33 3 (.slice A6 rows1.length c6) rows1, rowE eB3 43 (.slice A7 ((out ++ [(bst ((rows1.getD (0 : Int).toNat default).2) ((rows1.getD (1 : Int).toNat default).2) u t)]).length) c7) (out ++ [(bst ((rows1.getD (0 : Int).toNat default).2) ((rows1.getD (1 : Int).toNat default).2) u t)]), rowE eB3 43 (.slice (some ⟨b3, 0, none⟩) 1 1) [(bst ((rows1.getD (0 : Int).toNat default).2) ((rows1.getD (1 : Int).toNat default).2) u t)], blkE b1 64 #[(.slice A2 ((rows1.getD (0 : Int).toNat default).2.length) c2), (.slice A3 ((rows1.getD (1 : Int).toNat default).2.length) c3), (.slice A4 a.length c4), (.slice A5 b.length c5)]] (SH.front [rrE eI 33 3 (.slice A6 rows1.length c6) rows1, rowE eB3 43 (.slice A7 ((out ++ [(bst ((rows1.getD (0 : Int).toNat default).2) ((rows1.getD (1 : Int).toNat default).2) u t)]).length) c7) (out ++ [(bst ((rows1.getD (0 : Int).toNat default).2) ((rows1.getD (1 : Int).toNat default).2) u t)]), rowE eB3 43 (.slice (some ⟨b3, 0, none⟩) 1 1) [(bst ((rows1.getD (0 : Int).toNat default).2) ((rows1.getD (1 : Int).toNat default).2) u t)], blkE b1 64 #[(.slice A2 ((rows1.getD (0 : Int).toNat default).2.length) c2), (.slice A3 ((rows1.getD (1 : Int).toNat default).2.length) c3), (.slice A4 a.length c4), (.slice A5 b.length c5)], rowE eB 4 (.slice A4 a.length c4) (mrk u (bst ((rows1.getD (0 : Int).toNat default).2) ((rows1.getD (1 : Int).toNat default).2) u t).1 (bst ((rows1.getD (0 : Int).toNat default).2) ((rows1.getD (1 : Int).toNat default).2) u t).2.2)] (SH.front [rowE eB3 43 (.slice A7 ((out ++ [(bst ((rows1.getD (0 : Int).toNat default).2) ((rows1.getD (1 : Int).toNat default).2) u t)]).length) c7) (out ++ [(bst ((rows1.getD (0 : Int).toNat default).2) ((rows1.getD (1 : Int).toNat default).2) u t)]), rowE eB3 43 (.slice (some ⟨b3, 0, none⟩) 1 1) [(bst ((rows1.getD (0 : Int).toNat default).2) ((rows1.getD (1 : Int).toNat default).2) u t)], blkE b1 64 #[(.slice A2 ((rows1.getD (0 : Int).toNat default).2.length) c2), (.slice A3 ((rows1.getD (1 : Int).toNat default).2.length) c3), (.slice A4 a.length c4), (.slice A5 b.length c5)], rowE eB 4 (.slice A4 a.length c4) (mrk u (bst ((rows1.getD (0 : Int).toNat default).2) ((rows1.getD (1 : Int).toNat default).2) u t).1 (bst ((rows1.getD (0 : Int).toNat default).2) ((rows1.getD (1 : Int).toNat default).2) u t).2.2), rowE eB 4 (.slice A5 b.length c5) (mrk t (bst ((rows1.getD (0 : Int).toNat default).2) ((rows1.getD (1 : Int).toNat default).2) u t).2.1 (bst ((rows1.getD (0 : Int).toNat default).2) ((rows1.getD (1 : Int).toNat default).2) u t).2.2), blkE b2 43 #[(.int .i64 (((bst ((rows1.getD (0 : Int).toNat default).2) ((rows1.getD (1 : Int).toNat default).2) u t)).1)), (.int .i64 (((bst ((rows1.getD (0 : Int).toNat default).2) ((rows1.getD (1 : Int).toNat default).2) u t)).2.1)), (.int .i64 (((bst ((rows1.getD (0 : Int).toNat default).2) ((rows1.getD (1 : Int).toNat default).2) u t)).2.2))]] hS26)))))
          exact ⟨_, hcnt, A7, c7, (mrk u (bst ((rows1.getD (0 : Int).toNat default).2) ((rows1.getD (1 : Int).toNat default).2) u t).1 (bst ((rows1.getD (0 : Int).toNat default).2) ((rows1.getD (1 : Int).toNat default).2) u t).2.2), (mrk t (bst ((rows1.getD (0 : Int).toNat default).2) ((rows1.getD (1 : Int).toNat default).2) u t).2.1 (bst ((rows1.getD (0 : Int).toNat default).2) ((rows1.getD (1 : Int).toNat default).2) u t).2.2), (out ++ [(bst ((rows1.getD (0 : Int).toNat default).2) ((rows1.getD (1 : Int).toNat default).2) u t)]), ((fnd_more (out := out) rfl (by omega) hlt (by omega)).trans q1), ((mrk_len hf0 (by omega) (by omega)).trans q3), ((mrk_len hf2 (by omega) (by omega)).trans q4), (by rw [List.length_append]; simp only [List.length_cons, List.length_nil]; omega), (fun c_ hc_ => (List.mem_append.1 hc_).elim (q6 c_) fun h_ => by rw [List.mem_singleton.1 h_]; omega), hS27, rfl, Weak.cons rfl <| Weak.cons rfl <| Weak.cons rfl <| Weak.cons rfl <| Weak.cons rfl <| Weak.nil _⟩

end Go.Proofs.Ytkceknbjlogehaa
