/- More laws of rank. -/
import Derived.Test.YthmjieikbeemhaaRkK
namespace Go.Proofs.Ythmjieikbeemhaa
open Go Go.Gv Go.RowKit Go.Flt Go.Mys Go.Num Go.Scr Go.Dec Go.Rnk
set_option linter.unusedVariables false
set_option linter.unusedSimpArgs false

theorem texts_calls {w : World} {A_inp : Option Addr} {n_inp c_inp : Nat} {inp : List (SV × List Ln)} (h_inp : St No w (RdRR eL (.slice A_inp n_inp c_inp) inp)) (hn_inp : inp.length = n_inp)  :
    Calls Try.prog 16 #[(.slice A_inp n_inp c_inp)] w fun e w' => ∃ v, e = .returned v ∧ (fun v w' => ∃ (A0' : Option Addr) (c0' : Nat) (rows' : List (SV × List Ln)), v = .slice A0' rows'.length c0' ∧ rows'.map (·.2) = few8 (inp.map (·.2)) ∧ St No w (RdIn (fun s : SV => s) eL rows') ∧ SH w No w' [rowE eV 22 (.slice A0' rows'.length c0') (rows'.map (·.1))]) v w' := by
  subst hn_inp
  have hS : SH w No w [] := SH.nil _ _
  refine calls (l := litOf [(.slice A_inp inp.length c_inp)] 0) Try.func16 rfl (n := 24) rfl (Nat.le_of_ble_eq_true rfl) (lit_args _) ?_
  refine WC.seq ?_
  refine WC.region ?_
  refine WL.lv rfl (LV.asg rfl) ?_
  refine WL.nil (thenQ.n ?_)
  refine WC.seq ?_
  refine WC.region ?_
  have hS1 := SH.nilRow (E := eV) (T := 22) hS
  refine WL.lv rfl (LV.asg rfl) ?_
  refine WL.nil (thenQ.n ?_)
  iterate 2 refine WC.seq ?_
  refine WC.region ?_
  refine WL.lv rfl (LV.asg rfl) ?_
  refine WL.nil (thenQ.n ?_)
  refine WC.block ?_
  refine WC.loop (fun m_ f_ w_ => ∃ (i : Int) (A2 : Option Addr) (c2 : Nat) (out : List SV) (rows : List (SV × List Ln)), (0 ≤ i) ∧ (i ≤ 8 ∧ i ≤ inp.length) ∧ (out = rows.map (·.1)) ∧ (rows.map (·.2) = ((inp.map (·.2)).take i.toNat).map (fun l => l.take 40)) ∧ (St No w (RdIn (fun s : SV => s) eL rows)) ∧ ((out.length : Int) = i) ∧ SH w No w_ [rowE eV 22 (.slice A2 out.length c2) out] ∧ m_ = (((inp.length : Int) - i).toNat) ∧ Weak (lit [(0, (.slice A_inp inp.length c_inp)), (2, (.slice none 0 0)), (3, (.slice A2 out.length c2)), (4, (.int .i64 i))]) f_) _ ⟨0, none, 0, [], ([] : List (SV × List Ln)), by omega, by omega, rfl, rfl, St.in0, rfl, hS1, rfl, Weak.cons rfl <| Weak.cons rfl <| Weak.cons rfl <| Weak.cons rfl <| Weak.nil _⟩ ?_
  rintro m1 f1 w1 ⟨i, A2, c2, out, rows, q0, q1, q2, q3, q4, q5, hL1, rfl, hw1⟩
  refine WC.weak hw1 ?_
  clear hw1
  iterate 2 refine WC.seq ?_
  refine WC.region ?_
  iterate 2 refine WL.lv rfl (LV.mv rfl) ?_
  refine WL.lv rfl (LV.lenL Try.underlying30 rfl) ?_
  rcases Decidable.em (i < (inp.length : Int)) with hg1 | hg1
  · refine WL.lv rfl (LV.as (LV.ltI rfl rfl) (decide_eq_true hg1)) ?_
    iterate 2 refine WL.lv rfl (LV.mv rfl) ?_
    refine WL.lv rfl (LV.ltI rfl rfl) ?_
    refine WL.lv rfl (LV.pickT rfl rfl) ?_
    refine WL.nil (thenQ.n ?_)
    refine WC.condP (p := i < 8) rfl (fun hc12 => ?_) (fun hc12 => ?_)
    · skip
      refine WC.skip (thenQ.n ?_)
      refine WC.seq ?_
      refine WC.block ?_
      refine WC.region ?_
      iterate 3 refine WL.lv rfl (LV.mv rfl) ?_
      obtain ⟨A1, c1, A3, c3, e1, g1, e2, r1⟩ := St.eltRR (SH.stN hL1 h_inp) default i (by omega) (by omega)
      refine WL.lv rfl (LV.idxA Try.underlying30 ti22.sz rfl e1 rfl (by omega) (by omega)) ?_
      refine WL.lv rfl (LV.load1 Try.underlying22 rfl rfl (g1 _ (KB.refl No _))) ?_
      refine WL.call rfl (XC.fn Try.func9 (by kernel_rfl) rfl rfl rfl) (few23_calls (St.inner (SH.stN hL1 h_inp) (getD_mem (by omega)) e2)) ?_
      rintro v_ w2 ⟨rfl, hk1⟩
      have hS2 := SH.same hL1 hk1
      refine WL.xe rfl (XE.buildSlice (E := eV) [(0, (.slice (cutA A3 c3 2) ((((inp.getD (i).toNat default).2).take 40).length) c3))] #[(.slice (cutA A3 c3 2) ((((inp.getD (i).toNat default).2).take 40).length) c3)] [(⟨(cutA A3 c3 2), (((inp.getD (i).toNat default).2).take 40).length, c3⟩ : SV)] hS2 Try.underlying30 ti22 rfl (by decide) (by kernel_rfl) (.inr rfl) rfl rfl (by decide)) ?_
      rintro _ w3 ⟨b1, rfl, hS3, hk2⟩
      have hS4 : SH w No w3 [rowE eV 22 (.slice A2 out.length c2) out, rowE eV 22 (.slice (some ⟨b1, 0, none⟩) 1 1) [(⟨(cutA A3 c3 2), (((inp.getD (i).toNat default).2).take 40).length, c3⟩ : SV)]] := (SH.front [rowE eV 22 (.slice (some ⟨b1, 0, none⟩) 1 1) [(⟨(cutA A3 c3 2), (((inp.getD (i).toNat default).2).take 40).length, c3⟩ : SV)]] hS3)
      refine WL.xe rfl (XE.append hS4 Try.underlying30 ti22 rfl (St.now (SH.rd hS4 (.tail _ (.head _)))) rfl rfl (by first | omega | simp only [List.length_append, List.length_cons, List.length_nil, List.length_take, List.length_reverse, List.length_drop] at *; omega) (by first | omega | simp only [List.length_append, List.length_cons, List.length_nil, List.length_take, List.length_reverse, List.length_drop] at *; omega)) ?_
      rintro _ w4 ⟨A4, c4, rfl, hS5, hk3⟩
      refine WL.lv rfl (LV.asg rfl) ?_
      refine WL.nil (blockQ.n <| thenQ.n ?_)
      refine WC.region ?_
      refine WL.lv rfl (LV.mv rfl) ?_
      refine WL.lv rfl (LV.add rfl rfl (wr64 (by omega) (by omega))) ?_
      refine WL.lv rfl (LV.asg rfl) ?_
      refine WL.nil (thenQ.n ?_)
      have hS6 : SH w No w4 [rowE eV 22 (.slice A4 ((out ++ [(⟨(cutA A3 c3 2), (((inp.getD (i).toNat default).2).take 40).length, c3⟩ : SV)]).length) c4) (out ++ [(⟨(cutA A3 c3 2), (((inp.getD (i).toNat default).2).take 40).length, c3⟩ : SV)])] := (SH.take 1 rfl hS5)
      exact ⟨_, by omega, i + 1, A4, c4, (out ++ [(⟨(cutA A3 c3 2), (((inp.getD (i).toNat default).2).take 40).length, c3⟩ : SV)]), (rows ++ [((⟨(cutA A3 c3 2), (((inp.getD (i).toNat default).2).take 40).length, c3⟩ : SV), (inp.getD i.toNat default).2.take 40)]), by omega, by omega, (by rw [q2, List.map_append]; rfl), (by rw [← few8_snoc q0 (by rw [List.length_map]; omega), List.map_append, q3, rr_at2 (by omega)]; rfl), (St.inSnoc rfl (few_rd 40 (St.inner h_inp (getD_mem (by omega)) e2)) q4), (by simp; omega), hS6, rfl, Weak.cons rfl <| Weak.cons rfl <| Weak.cons rfl <| Weak.cons rfl <| Weak.nil _⟩
    · skip
      refine WC.exit (thenQ.x <| thenQ.x <| blockQ.hit <| thenQ.n ?_)
      refine WC.seq ?_
      refine WC.region ?_
      refine WL.lv rfl (LV.mv rfl) ?_
      refine WL.lv rfl (LV.asg rfl) ?_
      refine WL.nil (thenQ.n ?_)
      refine WC.ret (?_)
      exact ⟨_, fun a ha => res1 rfl ha rfl, (by subst q2; have hs_ := hL1; rw [List.length_map] at hs_ q5; rw [List.length_map]; exact ⟨_, _, rows, rfl, q3.trans (few8_of q0 q1.1 (fun h_ => by rw [List.length_map] at h_; omega)), q4, hs_⟩)⟩
  · refine WL.lv rfl (LV.as (LV.ltI rfl rfl) (decide_eq_false hg1)) ?_
    refine WL.lv rfl (LV.mv rfl) ?_
    iterate 2 refine WL.off rfl ?_
    refine WL.lv rfl (LV.pickF rfl rfl) ?_
    refine WL.nil (thenQ.n ?_)
    refine WC.condF rfl ?_
    refine WC.exit (thenQ.x <| thenQ.x <| blockQ.hit <| thenQ.n ?_)
    refine WC.seq ?_
    refine WC.region ?_
    refine WL.lv rfl (LV.mv rfl) ?_
    refine WL.lv rfl (LV.asg rfl) ?_
    refine WL.nil (thenQ.n ?_)
    refine WC.ret (?_)
    exact ⟨_, fun a ha => res1 rfl ha rfl, (by subst q2; have hs_ := hL1; rw [List.length_map] at hs_ q5; rw [List.length_map]; exact ⟨_, _, rows, rfl, q3.trans (few8_of q0 q1.1 (fun h_ => by rw [List.length_map] at h_; omega)), q4, hs_⟩)⟩

set_option maxHeartbeats 1000000 in
theorem rall_calls {w : World} {A_inp : Option Addr} {n_inp c_inp : Nat} {inp : List (SV × List Ln)} {A_b : Option Addr} {n_b c_b : Nat} {b : List Ln} (h_inp : St No w (RdRR eL (.slice A_inp n_inp c_inp) inp)) (hn_inp : inp.length = n_inp) (h_b : St No w (Rd eL (.slice A_b n_b c_b) b)) (hn_b : b.length = n_b) (hl : inp.length ≤ 1000) :
    Calls Try.prog 17 #[(.slice A_inp n_inp c_inp), (.slice A_b n_b c_b)] w fun e w' => ∃ v, e = .returned v ∧ (fun v w' => ∃ (A' : Option Addr) (c' : Nat) (ys L : List (Int × Nat)), v = .slice A' ys.length c' ∧ KL (inp.map (·.2)) b L ∧ ys.Perm L ∧ SRK ys ∧ SH w No w' [rowE eK 37 (.slice A' ys.length c') ys]) v w' := by
  subst hn_inp hn_b
  have hS : SH w No w [] := SH.nil _ _
  refine calls (l := litOf [(.slice A_inp inp.length c_inp), (.slice A_b b.length c_b)] 0) Try.func17 rfl (n := 54) rfl (Nat.le_of_ble_eq_true rfl) (lit_args _) ?_
  refine WC.seq ?_
  refine WC.region ?_
  refine WL.lv rfl (LV.asg rfl) ?_
  refine WL.nil (thenQ.n ?_)
  refine WC.seq ?_
  refine WC.region ?_
  refine WL.xe rfl (XE.buildSlice (E := eK) [] #[] [] hS Try.underlying32 ti37 rfl (by decide) (by kernel_rfl) (.inr rfl) rfl rfl (by decide)) ?_
  rintro _ w1 ⟨b1, rfl, hS1, hk1⟩
  refine WL.lv rfl (LV.asg rfl) ?_
  refine WL.nil (thenQ.n ?_)
  iterate 2 refine WC.seq ?_
  refine WC.region ?_
  refine WL.lv rfl (LV.asg rfl) ?_
  refine WL.nil (thenQ.n ?_)
  refine WC.block ?_
  refine WC.loop (fun m_ f_ w_ => ∃ (A_out : Option Addr) (c_out : Nat) (out : List (Int × Nat)) (i : Int) (L : List (Int × Nat)), (0 ≤ i) ∧ (i ≤ (inp.length : Int)) ∧ (KLn (inp.map (·.2)) b L i) ∧ ((out.length : Int) = i) ∧ (out.Perm L) ∧ (SRK out) ∧ SH w No w_ [rowE eK 37 (.slice A_out out.length c_out) out] ∧ m_ = (((inp.length : Int) - i).toNat) ∧ Weak (lit [(0, (.slice A_inp inp.length c_inp)), (1, (.slice A_b b.length c_b)), (5, (.slice A_out out.length c_out)), (6, (.int .i64 i))]) f_) _ ⟨(some ⟨b1, 0, none⟩), 0, [], 0, ([] : List (Int × Nat)), by omega, by omega, (KLn.z _ _), rfl, (List.Perm.refl _), List.Pairwise.nil, hS1, rfl, Weak.cons rfl <| Weak.cons rfl <| Weak.cons rfl <| Weak.cons rfl <| Weak.nil _⟩ ?_
  rintro m1 f1 w2 ⟨A_out, c_out, out, i, L, ilo, ihi, q1, q2, q3, q4, hL1, rfl, hw1⟩
  refine WC.weak hw1 ?_
  clear hw1
  have q1w_ : ∀ x ∈ out, x.2 < 18446744073709551616 := fun x hx => q1.w6 x (q3.mem_iff.1 hx)
  iterate 2 refine WC.seq ?_
  refine WC.region ?_
  iterate 2 refine WL.lv rfl (LV.mv rfl) ?_
  refine WL.lv rfl (LV.lenL Try.underlying30 rfl) ?_
  refine WL.lv rfl (LV.ltI rfl rfl) ?_
  refine WL.nil (thenQ.n ?_)
  refine WC.condP (p := i < (inp.length : Int)) rfl (fun hk => ?_) (fun hk => ?_)
  · skip
    refine WC.skip (thenQ.n ?_)
    refine WC.seq ?_
    refine WC.block ?_
    refine WC.seq ?_
    refine WC.region ?_
    iterate 3 refine WL.lv rfl (LV.mv rfl) ?_
    obtain ⟨A1, c1, A2, c2, e1, g1, e2, r1⟩ := St.eltRR (SH.stN hL1 h_inp) default i (by omega) (by omega)
    refine WL.lv rfl (LV.idxA Try.underlying30 ti22.sz rfl e1 rfl (by omega) (by omega)) ?_
    refine WL.lv rfl (LV.load1 Try.underlying22 rfl rfl (g1 _ (KB.refl No _))) ?_
    refine WL.lv rfl (LV.mv rfl) ?_
    refine WL.call rfl (XC.fn Try.func15 (by kernel_rfl) rfl rfl rfl) (rlike_calls  (St.inner (SH.stN hL1 h_inp) (getD_mem (by omega)) e2) rfl (SH.stN hL1 h_b) rfl ) ?_
    rintro v_ w3 ⟨r2, rfl, hf1, hf2, hk2⟩
    have hS2 := SH.same hL1 hk2
    have hlk_ := hf1
    have hlw_ := hf2
    refine WL.lv rfl (LV.build (vs := [(0, (.int .i64 i)), (1, (.float .f64 r2))]) (places := #[(0, 1), (1, 1)]) (cs := #[(.int .i64 i), (.float .f64 r2)]) Try.underlying37 ti37 (fun _ => by kernel_rfl) rfl rfl) ?_
    refine WL.xe rfl (XE.alloc #[(.int .i64 0), (.float .f64 0)] hS2 ti37 rfl) ?_
    rintro _ w4 ⟨b2, rfl, hS3, hk3⟩
    refine WL.xse rfl (XSE.blkAgg #[(.int .i64 i), (.float .f64 r2)] hS3 (by kernel_rfl) rfl (by kernel_rfl) rfl rfl) ?_
    rintro w5 ⟨hS4, hk4⟩
    refine WL.nil (thenQ.n ?_)
    refine WC.seq ?_
    refine WC.region ?_
    refine WL.lv rfl (LV.asg rfl) ?_
    refine WL.nil (thenQ.n ?_)
    refine WC.seq ?_
    refine WC.block ?_
    refine WC.loop (fun m_ f_ w_ => ∃ (k : Int), (0 ≤ k) ∧ (k ≤ (out.length : Int)) ∧ (∀ t : Int, 0 ≤ t → t < k → LCF (out.getD t.toNat (0, 0)) (i, r2) < 0) ∧ SH w No w_ [blkE b2 37 #[(.int .i64 i), (.float .f64 r2)], rowE eK 37 (.slice A_out out.length c_out) out] ∧ m_ = (((out.length : Int) - k).toNat) ∧ Weak (lit [(0, (.slice A_inp inp.length c_inp)), (1, (.slice A_b b.length c_b)), (5, (.slice A_out out.length c_out)), (6, (.int .i64 i)), (7, (.pointer (some ⟨b2, 0, none⟩))), (8, (.int .i64 k))]) f_) _ ⟨0, by omega, by omega, (fun t h1_ h2_ => by omega), hS4, rfl, Weak.cons rfl <| Weak.cons rfl <| Weak.cons rfl <| Weak.cons rfl <| Weak.cons rfl <| Weak.cons rfl <| Weak.nil _⟩ ?_
    rintro m2 f2 w6 ⟨k, klo, khi, s1, hL2, rfl, hw2⟩
    refine WC.weak hw2 ?_
    clear hw2
    iterate 2 refine WC.seq ?_
    have hS5 := SH.drew hL2
    refine WC.regionD [] (fun w_ => KB No w6.drew w_) [(.pure, 0), (.pure, 1), (.pure, 2), (.pure, 3), (.pure, 4), (.pure, 5), (.pure, 6), (.pure, 7), (.look, 8), (.look, 9), (.forced, 10), (.pure, 11)] (by kernel_rfl) (by kernel_rfl) (KB.refl _ _) ?_
    iterate 2 refine WS.pure rfl rfl (fun _ => LV.mv rfl) ?_
    refine WS.pure rfl rfl (fun _ => LV.lenL Try.underlying32 rfl) ?_
    rcases Decidable.em (k < (out.length : Int)) with hg1 | hg1
    · refine WS.pure rfl rfl (fun _ => LV.as (LV.ltI rfl rfl) (decide_eq_true hg1)) ?_
      iterate 3 refine WS.pure rfl rfl (fun _ => LV.mv rfl) ?_
      obtain ⟨A3, c3, e3, g2⟩ := St.elt (SH.rd hS5 (.tail _ (.head _))) (0, 0) k (by omega) (by omega)
      refine WS.pure rfl rfl (fun _ => LV.idxA Try.underlying32 ti37.sz rfl e3 rfl (by omega) (by omega)) ?_
      refine WS.look rfl rfl (fun _ hk_ => LV.loadAgg (cs := [(.int .i64 ((out.getD (k).toNat (0, 0)).1)), (.float .f64 ((out.getD (k).toNat (0, 0)).2))]) Try.underlying37 rfl ti37 rfl rfl (fun j u hu => g2 _ hk_ j u hu)) ?_
      refine WS.look rfl rfl (fun _ hk_ => LV.loadAgg (cs := [(.int .i64 i), (.float .f64 r2)]) Try.underlying37 rfl ti37 rfl rfl (Blk.agg (SH.at hS5 (.head _)) _ hk_)) ?_
      have hwo_ := q1w_ (out.getD k.toNat (0, 0)) (getD_mem (by omega))
      refine WS.call rfl rfl (XC.fn Try.func32 (by kernel_rfl) rfl rfl rfl) (kahead_calls (a := (out.getD (k).toNat (0, 0))) (b := (i, r2)) (by first | assumption | omega) (by first | assumption | omega)) ?_
      rintro v_ w7 ⟨rfl, hk5⟩
      have hS6 := SH.same hS5 hk5
      refine ⟨fun h_ => (KB.transN (KB.refl _ _) hk5), ?_⟩
      refine WS.pure rfl rfl (fun _ => LV.pickT rfl rfl) ?_
      refine WS.nil (thenQ.n ?_)
      refine WC.condP (p := LCF (out.getD (k).toNat (0, 0)) (i, r2) < 0) rfl (fun hk2 => ?_) (fun hk2 => ?_)
      · skip
        refine WC.skip (thenQ.n ?_)
        refine WC.block ?_
        refine WC.region ?_
        refine WL.lv rfl (LV.mv rfl) ?_
        refine WL.lv rfl (LV.add rfl rfl (wr64 (by omega) (by omega))) ?_
        refine WL.lv rfl (LV.asg rfl) ?_
        refine WL.nil (blockQ.n <| thenQ.n ?_)
        exact ⟨_, by omega, k + 1, by omega, by omega, (all_step (p := fun t => LCF (out.getD t.toNat (0, 0)) (i, r2) < 0) s1 (by omega)), hS6, rfl, Weak.cons rfl <| Weak.cons rfl <| Weak.cons rfl <| Weak.cons rfl <| Weak.cons rfl <| Weak.cons rfl <| Weak.nil _⟩
      · skip
        refine WC.exit (thenQ.x <| thenQ.x <| blockQ.hit <| thenQ.n ?_)
        refine WC.seq ?_
        refine WC.region ?_
        refine WL.xe rfl (XE.buildSlice (E := eK) [] #[] [] hS6 Try.underlying32 ti37 rfl (by decide) (by kernel_rfl) (.inr rfl) rfl rfl (by decide)) ?_
        rintro _ w8 ⟨b3, rfl, hS7, hk6⟩
        iterate 2 refine WL.lv rfl (LV.mv rfl) ?_
        have hcap1 : out.length ≤ c_out := (Rd.cap (St.now (SH.rd hS7 (.tail _ (.tail _ (.head _))))))
        refine WL.lv rfl (LV.cut Try.underlying32 ti37.sz rfl rfl rfl rfl ⟨.inl ⟨rfl, rfl⟩, .inr ⟨.i64, by rw [Int.toNat_of_nonneg (a := k) (by omega)] <;> rfl⟩, .inl ⟨rfl, rfl⟩⟩ (by omega) (by omega) (by omega)) ?_
        refine WL.xe rfl (XE.append hS7 Try.underlying32 ti37 rfl (St.now ((SH.rd hS7 (.tail _ (.tail _ (.head _)))).imp fun _ h => Rd.cut h (by omega) (by omega) (by omega) (by omega))) rfl rfl (by first | omega | simp only [List.length_append, List.length_cons, List.length_nil, List.length_take, List.length_reverse, List.length_drop] at *; omega) (by first | omega | simp only [List.length_append, List.length_cons, List.length_nil, List.length_take, List.length_reverse, List.length_drop] at *; omega)) ?_
        rintro _ w9 ⟨A4, c4, rfl, hS8, hk7⟩
        refine WL.lv rfl (LV.asg rfl) ?_
        refine WL.nil (thenQ.n ?_)
        refine WC.seq ?_
        refine WC.region ?_
        refine WL.lv rfl (LV.mv rfl) ?_
        refine WL.lv rfl (LV.loadAgg (cs := [(.int .i64 i), (.float .f64 r2)]) Try.underlying37 rfl ti37 rfl rfl (Blk.agg (SH.at hS8 (.tail _ (.head _))) _ (KB.refl No _))) ?_
        refine WL.xe rfl (XE.buildSlice (E := eK) [(0, (.agg #[(.int .i64 i), (.float .f64 r2)]))] #[(.int .i64 i), (.float .f64 r2)] [((i : Int), (r2 : Nat))] hS8 Try.underlying32 ti37 rfl (by decide) (by kernel_rfl) (.inr rfl) rfl rfl (by decide)) ?_
        rintro _ w10 ⟨b4, rfl, hS9, hk8⟩
        have hS10 : SH w No w10 [rowE eK 37 (.slice A4 ((([] : List (Int × Nat)) ++ ((out.take ((k).toNat)).drop 0)).length) c4) (([] : List (Int × Nat)) ++ ((out.take ((k).toNat)).drop 0)), rowE eK 37 (.slice (some ⟨b4, 0, none⟩) 1 1) [((i : Int), (r2 : Nat))], blkE b2 37 #[(.int .i64 i), (.float .f64 r2)], rowE eK 37 (.slice A_out out.length c_out) out] := (SH.front [rowE eK 37 (.slice (some ⟨b4, 0, none⟩) 1 1) [((i : Int), (r2 : Nat))]] hS9)
        refine WL.xe rfl (XE.append hS10 Try.underlying32 ti37 rfl (St.now (SH.rd hS10 (.tail _ (.head _)))) rfl rfl (by first | omega | simp only [List.length_append, List.length_cons, List.length_nil, List.length_take, List.length_reverse, List.length_drop] at *; omega) (by first | omega | simp only [List.length_append, List.length_cons, List.length_nil, List.length_take, List.length_reverse, List.length_drop] at *; omega)) ?_
        rintro _ w11 ⟨A5, c5, rfl, hS11, hk9⟩
        refine WL.lv rfl (LV.asg rfl) ?_
        refine WL.nil (thenQ.n ?_)
        refine WC.region ?_
        iterate 3 refine WL.lv rfl (LV.mv rfl) ?_
        have hcap2 : out.length ≤ c_out := (Rd.cap (St.now (SH.rd hS11 (.tail _ (.tail _ (.tail _ (.head _)))))))
        refine WL.lv rfl (LV.cut Try.underlying32 ti37.sz rfl rfl rfl rfl ⟨.inr ⟨.i64, by rw [Int.toNat_of_nonneg (a := k) (by omega)] <;> rfl⟩, .inl ⟨rfl, rfl, rfl⟩, .inl ⟨rfl, rfl⟩⟩ (by omega) (by omega) (by omega)) ?_
        refine WL.xe rfl (XE.append hS11 Try.underlying32 ti37 rfl (St.now ((SH.rd hS11 (.tail _ (.tail _ (.tail _ (.head _))))).imp fun _ h => Rd.cut h (by omega) (by omega) (by omega) (by omega))) rfl rfl (by first | omega | simp only [List.length_append, List.length_cons, List.length_nil, List.length_take, List.length_reverse, List.length_drop] at *; omega) (by first | omega | simp only [List.length_append, List.length_cons, List.length_nil, List.length_take, List.length_reverse, List.length_drop] at *; omega)) ?_
        rintro _ w12 ⟨A6, c6, rfl, hS12, hk10⟩
        refine WL.lv rfl (LV.asg rfl) ?_
        refine WL.nil (blockQ.n <| thenQ.n ?_)
        refine WC.region ?_
        refine WL.lv rfl (LV.mv rfl) ?_
        refine WL.lv rfl (LV.add rfl rfl (wr64 (by omega) (by omega))) ?_
        refine WL.lv rfl (LV.asg rfl) ?_
        refine WL.nil (thenQ.n ?_)
        have hS13 : SH w No w12 [rowE eK 37 (.slice A6 ((((([] : List (Int × Nat)) ++ ((out.take ((k).toNat)).drop 0)) ++ [((i : Int), (r2 : Nat))]) ++ ((out.take out.length).drop ((k).toNat))).length) c6) (((([] : List (Int × Nat)) ++ ((out.take ((k).toNat)).drop 0)) ++ [((i : Int), (r2 : Nat))]) ++ ((out.take out.length).drop ((k).toNat)))] := (SH.take 1 rfl hS12)
        exact ⟨_, by omega, A6, c6, (((([] : List (Int × Nat)) ++ ((out.take ((k).toNat)).drop 0)) ++ [((i : Int), (r2 : Nat))]) ++ ((out.take out.length).drop ((k).toNat))), i + 1, (L ++ [(i, r2)]), by omega, by omega, (q1.snoc ilo (by rw [List.length_map]; omega) (by rw [hlk_]; congr 1; exact (rr_at2 (by omega)).symm) hlw_), (by rw [ins_eq]; simp; omega), (ins_perm q3), (ins_sort q4 (by omega) (by omega) s1 (fun h_ => by omega)), hS13, rfl, Weak.cons rfl <| Weak.cons rfl <| Weak.cons rfl <| Weak.cons rfl <| Weak.nil _⟩
    · refine WS.pure rfl rfl (fun _ => LV.as (LV.ltI rfl rfl) (decide_eq_false hg1)) ?_
      refine WS.pure rfl rfl (fun _ => LV.mv rfl) ?_
      iterate 3 refine WS.off rfl rfl ?_
      iterate 2 refine WS.offL rfl rfl ?_
      refine WS.offF rfl rfl (fun h_ => (KB.refl _ _)) ?_
      refine WS.pure rfl rfl (fun _ => LV.pickF rfl rfl) ?_
      refine WS.nil (thenQ.n ?_)
      refine WC.condF rfl ?_
      refine WC.exit (thenQ.x <| thenQ.x <| blockQ.hit <| thenQ.n ?_)
      refine WC.seq ?_
      refine WC.region ?_
      refine WL.xe rfl (XE.buildSlice (E := eK) [] #[] [] hS5 Try.underlying32 ti37 rfl (by decide) (by kernel_rfl) (.inr rfl) rfl rfl (by decide)) ?_
      rintro _ w13 ⟨b5, rfl, hS14, hk11⟩
      iterate 2 refine WL.lv rfl (LV.mv rfl) ?_
      have hcap3 : out.length ≤ c_out := (Rd.cap (St.now (SH.rd hS14 (.tail _ (.tail _ (.head _))))))
      refine WL.lv rfl (LV.cut Try.underlying32 ti37.sz rfl rfl rfl rfl ⟨.inl ⟨rfl, rfl⟩, .inr ⟨.i64, by rw [Int.toNat_of_nonneg (a := k) (by omega)] <;> rfl⟩, .inl ⟨rfl, rfl⟩⟩ (by omega) (by omega) (by omega)) ?_
      refine WL.xe rfl (XE.append hS14 Try.underlying32 ti37 rfl (St.now ((SH.rd hS14 (.tail _ (.tail _ (.head _)))).imp fun _ h => Rd.cut h (by omega) (by omega) (by omega) (by omega))) rfl rfl (by first | omega | simp only [List.length_append, List.length_cons, List.length_nil, List.length_take, List.length_reverse, List.length_drop] at *; omega) (by first | omega | simp only [List.length_append, List.length_cons, List.length_nil, List.length_take, List.length_reverse, List.length_drop] at *; omega)) ?_
      rintro _ w14 ⟨A7, c7, rfl, hS15, hk12⟩
      refine WL.lv rfl (LV.asg rfl) ?_
      refine WL.nil (thenQ.n ?_)
      refine WC.seq ?_
      refine WC.region ?_
      refine WL.lv rfl (LV.mv rfl) ?_
      refine WL.lv rfl (LV.loadAgg (cs := [(.int .i64 i), (.float .f64 r2)]) Try.underlying37 rfl ti37 rfl rfl (Blk.agg (SH.at hS15 (.tail _ (.head _))) _ (KB.refl No _))) ?_
      refine WL.xe rfl (XE.buildSlice (E := eK) [(0, (.agg #[(.int .i64 i), (.float .f64 r2)]))] #[(.int .i64 i), (.float .f64 r2)] [((i : Int), (r2 : Nat))] hS15 Try.underlying32 ti37 rfl (by decide) (by kernel_rfl) (.inr rfl) rfl rfl (by decide)) ?_
      rintro _ w15 ⟨b6, rfl, hS16, hk13⟩
      have hS17 : SH w No w15 [rowE eK 37 (.slice A7 ((([] : List (Int × Nat)) ++ ((out.take ((k).toNat)).drop 0)).length) c7) (([] : List (Int × Nat)) ++ ((out.take ((k).toNat)).drop 0)), rowE eK 37 (.slice (some ⟨b6, 0, none⟩) 1 1) [((i : Int), (r2 : Nat))], blkE b2 37 #[(.int .i64 i), (.float .f64 r2)], rowE eK 37 (.slice A_out out.length c_out) out] := (SH.front [rowE eK 37 (.slice (some ⟨b6, 0, none⟩) 1 1) [((i : Int), (r2 : Nat))]] hS16)
      refine WL.xe rfl (XE.append hS17 Try.underlying32 ti37 rfl (St.now (SH.rd hS17 (.tail _ (.head _)))) rfl rfl (by first | omega | simp only [List.length_append, List.length_cons, List.length_nil, List.length_take, List.length_reverse, List.length_drop] at *; omega) (by first | omega | simp only [List.length_append, List.length_cons, List.length_nil, List.length_take, List.length_reverse, List.length_drop] at *; omega)) ?_
      rintro _ w16 ⟨A8, c8, rfl, hS18, hk14⟩
      refine WL.lv rfl (LV.asg rfl) ?_
      refine WL.nil (thenQ.n ?_)
      refine WC.region ?_
      iterate 3 refine WL.lv rfl (LV.mv rfl) ?_
      have hcap4 : out.length ≤ c_out := (Rd.cap (St.now (SH.rd hS18 (.tail _ (.tail _ (.tail _ (.head _)))))))
      refine WL.lv rfl (LV.cut Try.underlying32 ti37.sz rfl rfl rfl rfl ⟨.inr ⟨.i64, by rw [Int.toNat_of_nonneg (a := k) (by omega)] <;> rfl⟩, .inl ⟨rfl, rfl, rfl⟩, .inl ⟨rfl, rfl⟩⟩ (by omega) (by omega) (by omega)) ?_
      refine WL.xe rfl (XE.append hS18 Try.underlying32 ti37 rfl (St.now ((SH.rd hS18 (.tail _ (.tail _ (.tail _ (.head _))))).imp fun _ h => Rd.cut h (by omega) (by omega) (by omega) (by omega))) rfl rfl (by first | omega | simp only [List.length_append, List.length_cons, List.length_nil, List.length_take, List.length_reverse, List.length_drop] at *; omega) (by first | omega | simp only [List.length_append, List.length_cons, List.length_nil, List.length_take, List.length_reverse, List.length_drop] at *; omega)) ?_
      rintro _ w17 ⟨A9, c9, rfl, hS19, hk15⟩
      refine WL.lv rfl (LV.asg rfl) ?_
      refine WL.nil (blockQ.n <| thenQ.n ?_)
      refine WC.region ?_
      refine WL.lv rfl (LV.mv rfl) ?_
      refine WL.lv rfl (LV.add rfl rfl (wr64 (by omega) (by omega))) ?_
      refine WL.lv rfl (LV.asg rfl) ?_
      refine WL.nil (thenQ.n ?_)
      have hS20 : SH w No w17 [rowE eK 37 (.slice A9 ((((([] : List (Int × Nat)) ++ ((out.take ((k).toNat)).drop 0)) ++ [((i : Int), (r2 : Nat))]) ++ ((out.take out.length).drop ((k).toNat))).length) c9) (((([] : List (Int × Nat)) ++ ((out.take ((k).toNat)).drop 0)) ++ [((i : Int), (r2 : Nat))]) ++ ((out.take out.length).drop ((k).toNat)))] := (SH.take 1 rfl hS19)
      exact ⟨_, by omega, A9, c9, (((([] : List (Int × Nat)) ++ ((out.take ((k).toNat)).drop 0)) ++ [((i : Int), (r2 : Nat))]) ++ ((out.take out.length).drop ((k).toNat))), i + 1, (L ++ [(i, r2)]), by omega, by omega, (q1.snoc ilo (by rw [List.length_map]; omega) (by rw [hlk_]; congr 1; exact (rr_at2 (by omega)).symm) hlw_), (by rw [ins_eq]; simp; omega), (ins_perm q3), (ins_sort q4 (by omega) (by omega) s1 (fun h_ => by omega)), hS20, rfl, Weak.cons rfl <| Weak.cons rfl <| Weak.cons rfl <| Weak.cons rfl <| Weak.nil _⟩
  · skip
    refine WC.exit (thenQ.x <| thenQ.x <| blockQ.hit <| thenQ.n ?_)
    refine WC.seq ?_
    refine WC.region ?_
    refine WL.lv rfl (LV.mv rfl) ?_
    refine WL.lv rfl (LV.asg rfl) ?_
    refine WL.nil (thenQ.n ?_)
    refine WC.ret (?_)
    exact ⟨_, fun a ha => res1 rfl ha rfl, _, _, _, L, rfl, q1.fin (by rw [List.length_map]; omega), q3, q4, hL1⟩

theorem ksame_calls {w : World} {A_a : Option Addr} {n_a c_a : Nat} {a : List (Int × Nat)} {A_b : Option Addr} {n_b c_b : Nat} {b : List (Int × Nat)} (h_a : St No w (Rd eK (.slice A_a n_a c_a) a)) (hn_a : a.length = n_a) (h_b : St No w (Rd eK (.slice A_b n_b c_b) b)) (hn_b : b.length = n_b) (wa : ∀ x ∈ a, x.2 < 18446744073709551616) (wb : ∀ x ∈ b, x.2 < 18446744073709551616) :
    Calls Try.prog 19 #[(.slice A_a n_a c_a), (.slice A_b n_b c_b)] w fun e w' => ∃ v, e = .returned v ∧ (fun v w' => v = .bool (decide (a.map kk = b.map kk)) ∧ KB No w w') v w' := by
  subst hn_a hn_b
  have hma := Rd.max h_a.now
  have hmb := Rd.max h_b.now
  have hS : SH w No w [] := SH.nil _ _
  refine calls (l := litOf [(.slice A_a a.length c_a), (.slice A_b b.length c_b)] 0) Try.func19 rfl (n := 42) rfl (Nat.le_of_ble_eq_true rfl) (lit_args _) ?_
  refine WC.seq ?_
  refine WC.region ?_
  refine WL.lv rfl (LV.asg rfl) ?_
  refine WL.nil (thenQ.n ?_)
  iterate 2 refine WC.seq ?_
  refine WC.region ?_
  refine WL.lv rfl (LV.mv rfl) ?_
  refine WL.lv rfl (LV.lenL Try.underlying32 rfl) ?_
  refine WL.lv rfl (LV.mv rfl) ?_
  refine WL.lv rfl (LV.lenL Try.underlying32 rfl) ?_
  refine WL.lv rfl (LV.neI rfl rfl) ?_
  refine WL.nil (thenQ.n ?_)
  refine WC.condP (p := (a.length : Int) ≠ (b.length : Int)) rfl (fun hc1 => ?_) (fun hc1 => ?_)
  · skip
    refine WC.seq ?_
    refine WC.region ?_
    refine WL.lv rfl (LV.asg rfl) ?_
    refine WL.nil (thenQ.n ?_)
    refine WC.ret (thenQ.r <| ?_)
    exact ⟨_, fun a ha => res1 rfl ha rfl, congrArg Value.bool ((decide_eq_false (fun h_ => by first | (have hl_ := congrArg List.length h_; simp only [List.length_map] at hl_; omega) | (have h2_ := kk_at h_ ilo hk; omega))).symm), hS.kb⟩
  · skip
    refine WC.skip (thenQ.n ?_)
    iterate 2 refine WC.seq ?_
    refine WC.region ?_
    refine WL.lv rfl (LV.asg rfl) ?_
    refine WL.nil (thenQ.n ?_)
    refine WC.block ?_
    refine WC.loop (fun m_ f_ w_ => ∃ (i : Int), (0 ≤ i) ∧ (i ≤ (a.length : Int)) ∧ (∀ t : Int, 0 ≤ t → t < i → (a.getD t.toNat (0, 0)).1 = (b.getD t.toNat (0, 0)).1 ∧ tk (a.getD t.toNat (0, 0)).2 = tk (b.getD t.toNat (0, 0)).2) ∧ SH w No w_ [] ∧ m_ = (((a.length : Int) - i).toNat) ∧ Weak (lit [(0, (.slice A_a a.length c_a)), (1, (.slice A_b b.length c_b)), (5, (.int .i64 i))]) f_) _ ⟨0, by omega, by omega, (fun t h1 h2 => by omega), hS, rfl, Weak.cons rfl <| Weak.cons rfl <| Weak.cons rfl <| Weak.nil _⟩ ?_
    rintro m1 f1 w1 ⟨i, ilo, ihi, q1, hL1, rfl, hw1⟩
    refine WC.weak hw1 ?_
    clear hw1
    iterate 2 refine WC.seq ?_
    refine WC.region ?_
    iterate 2 refine WL.lv rfl (LV.mv rfl) ?_
    refine WL.lv rfl (LV.lenL Try.underlying32 rfl) ?_
    refine WL.lv rfl (LV.ltI rfl rfl) ?_
    refine WL.nil (thenQ.n ?_)
    refine WC.condP (p := i < (a.length : Int)) rfl (fun hk => ?_) (fun hk => ?_)
    · have hwa_ := wa (a.getD i.toNat (0, 0)) (getD_mem (by omega))
      have hwb_ := wb (b.getD i.toNat (0, 0)) (getD_mem (by omega))
      refine WC.skip (thenQ.n ?_)
      refine WC.seq ?_
      refine WC.block ?_
      refine WC.seq ?_
      have hS1 := SH.drew hL1
      refine WC.regionD [] (fun w_ => KB No w1.drew w_) [(.pure, 0), (.pure, 1), (.pure, 2), (.pure, 3), (.look, 4), (.pure, 5), (.pure, 6), (.pure, 7), (.pure, 8), (.look, 9), (.pure, 10), (.pure, 11), (.pure, 12), (.pure, 13), (.pure, 14), (.pure, 15), (.look, 16), (.pure, 17), (.pure, 18), (.pure, 19), (.pure, 20), (.look, 21), (.forced, 22), (.pure, 23), (.pure, 24)] (by kernel_rfl) (by kernel_rfl) (KB.refl _ _) ?_
      iterate 2 refine WS.pure rfl rfl (fun _ => LV.mv rfl) ?_
      obtain ⟨A1, c1, e1, g1⟩ := St.elt (SH.stN hS1 h_a) (0, 0) i (by omega) (by omega)
      refine WS.pure rfl rfl (fun _ => LV.idxA Try.underlying32 ti37.sz rfl e1 rfl (by omega) (by omega)) ?_
      refine WS.pure rfl rfl (fun _ => LV.fieldA Try.underlying37 rfl ti3.sz rfl) ?_
      refine WS.look rfl rfl (fun _ hk_ => LV.load1 (v := (.int .i64 ((a.getD (i).toNat (0, 0)).1))) Try.underlying3 rfl rfl (g1 _ hk_ 0 _ rfl)) ?_
      iterate 2 refine WS.pure rfl rfl (fun _ => LV.mv rfl) ?_
      obtain ⟨A2, c2, e2, g2⟩ := St.elt (SH.stN hS1 h_b) (0, 0) i (by omega) (by omega)
      refine WS.pure rfl rfl (fun _ => LV.idxA Try.underlying32 ti37.sz rfl e2 rfl (by omega) (by omega)) ?_
      refine WS.pure rfl rfl (fun _ => LV.fieldA Try.underlying37 rfl ti3.sz rfl) ?_
      refine WS.look rfl rfl (fun _ hk_ => LV.load1 (v := (.int .i64 ((b.getD (i).toNat (0, 0)).1))) Try.underlying3 rfl rfl (g2 _ hk_ 0 _ rfl)) ?_
      rcases Decidable.em (((a.getD (i).toNat (0, 0)).1) ≠ ((b.getD (i).toNat (0, 0)).1)) with hg1 | hg1
      · refine WS.pure rfl rfl (fun _ => LV.as (LV.neI rfl rfl) (decide_eq_true hg1)) ?_
        refine WS.pure rfl rfl (fun _ => LV.mv rfl) ?_
        iterate 4 refine WS.off rfl rfl ?_
        refine WS.offL rfl rfl ?_
        iterate 4 refine WS.off rfl rfl ?_
        refine WS.offL rfl rfl ?_
        refine WS.offF rfl rfl (fun h_ => (KB.refl _ _)) ?_
        refine WS.off rfl rfl ?_
        refine WS.pure rfl rfl (fun _ => LV.pickT rfl rfl) ?_
        refine WS.nil (thenQ.n ?_)
        refine WC.condT rfl ?_
        refine WC.seq ?_
        refine WC.region ?_
        refine WL.lv rfl (LV.asg rfl) ?_
        refine WL.nil (thenQ.n ?_)
        refine WC.ret (blockQ.r <| thenQ.r <| thenQ.r <| blockQ.r <| thenQ.r <| ?_)
        exact ⟨_, fun a ha => res1 rfl ha rfl, congrArg Value.bool ((decide_eq_false (fun h_ => by first | (have hl_ := congrArg List.length h_; simp only [List.length_map] at hl_; omega) | (have h2_ := kk_at h_ ilo hk; omega))).symm), hS1.kb⟩
      · refine WS.pure rfl rfl (fun _ => LV.as (LV.neI rfl rfl) (decide_eq_false hg1)) ?_
        iterate 3 refine WS.pure rfl rfl (fun _ => LV.mv rfl) ?_
        obtain ⟨A3, c3, e3, g3⟩ := St.elt (SH.stN hS1 h_a) (0, 0) i (by omega) (by omega)
        refine WS.pure rfl rfl (fun _ => LV.idxA Try.underlying32 ti37.sz rfl e3 rfl (by omega) (by omega)) ?_
        refine WS.pure rfl rfl (fun _ => LV.fieldA Try.underlying37 rfl ti27.sz rfl) ?_
        refine WS.look rfl rfl (fun _ hk_ => LV.load1 (v := (.float .f64 ((a.getD (i).toNat (0, 0)).2))) Try.underlying27 rfl rfl (g3 _ hk_ 1 _ rfl)) ?_
        iterate 2 refine WS.pure rfl rfl (fun _ => LV.mv rfl) ?_
        obtain ⟨A4, c4, e4, g4⟩ := St.elt (SH.stN hS1 h_b) (0, 0) i (by omega) (by omega)
        refine WS.pure rfl rfl (fun _ => LV.idxA Try.underlying32 ti37.sz rfl e4 rfl (by omega) (by omega)) ?_
        refine WS.pure rfl rfl (fun _ => LV.fieldA Try.underlying37 rfl ti27.sz rfl) ?_
        refine WS.look rfl rfl (fun _ hk_ => LV.load1 (v := (.float .f64 ((b.getD (i).toNat (0, 0)).2))) Try.underlying27 rfl rfl (g4 _ hk_ 1 _ rfl)) ?_
        refine WS.call rfl rfl (XC.fn Try.func13 (by kernel_rfl) rfl rfl rfl) (fsame_calls (a := ((a.getD (i).toNat (0, 0)).2)) (b := ((b.getD (i).toNat (0, 0)).2)) (by first | assumption | omega | exact hp _ (getD_mem (by omega)) | exact hpz _ (getD_mem (by omega))) (by first | assumption | omega | exact hp _ (getD_mem (by omega)) | exact hpz _ (getD_mem (by omega)))) ?_
        rintro v_ w2 ⟨rfl, hk1⟩
        have hS2 := SH.same hS1 hk1
        refine ⟨fun h_ => (KB.transN (KB.refl _ _) hk1), ?_⟩
        refine WS.pure rfl rfl (fun _ => LV.notP rfl) ?_
        refine WS.pure rfl rfl (fun _ => LV.pickF rfl rfl) ?_
        refine WS.nil (thenQ.n ?_)
        refine WC.condP (p := ¬ (tk ((a.getD (i).toNat (0, 0)).2) = tk ((b.getD (i).toNat (0, 0)).2))) rfl (fun hc2 => ?_) (fun hc2 => ?_)
        · skip
          refine WC.seq ?_
          refine WC.region ?_
          refine WL.lv rfl (LV.asg rfl) ?_
          refine WL.nil (thenQ.n ?_)
          refine WC.ret (blockQ.r <| thenQ.r <| thenQ.r <| blockQ.r <| thenQ.r <| ?_)
          exact ⟨_, fun a ha => res1 rfl ha rfl, congrArg Value.bool ((decide_eq_false (fun h_ => by first | (have hl_ := congrArg List.length h_; simp only [List.length_map] at hl_; omega) | (have h2_ := kk_at h_ ilo hk; omega))).symm), hS2.kb⟩
        · skip
          refine WC.skip (blockQ.n <| thenQ.n ?_)
          refine WC.region ?_
          refine WL.lv rfl (LV.mv rfl) ?_
          refine WL.lv rfl (LV.add rfl rfl (wr64 (by omega) (by omega))) ?_
          refine WL.lv rfl (LV.asg rfl) ?_
          refine WL.nil (thenQ.n ?_)
          exact ⟨_, by omega, i + 1, by omega, by omega, (all_step (p := fun t => (a.getD t.toNat (0, 0)).1 = (b.getD t.toNat (0, 0)).1 ∧ tk (a.getD t.toNat (0, 0)).2 = tk (b.getD t.toNat (0, 0)).2) q1 ⟨by omega, by omega⟩), hS2, rfl, Weak.cons rfl <| Weak.cons rfl <| Weak.cons rfl <| Weak.nil _⟩
    · skip
      refine WC.exit (thenQ.x <| thenQ.x <| blockQ.hit <| thenQ.n ?_)
      refine WC.seq ?_
      refine WC.region ?_
      refine WL.lv rfl (LV.asg rfl) ?_
      refine WL.nil (thenQ.n ?_)
      refine WC.ret (?_)
      exact ⟨_, fun a ha => res1 rfl ha rfl, congrArg Value.bool ((decide_eq_true (kk_ext (by omega) (fun t h0_ h1_ => q1 t h0_ (by omega)))).symm), hL1.kb⟩

theorem lsame_calls {w : World} {A_a : Option Addr} {n_a c_a : Nat} {a : List Ln} {A_b : Option Addr} {n_b c_b : Nat} {b : List Ln} (h_a : St No w (Rd eL (.slice A_a n_a c_a) a)) (hn_a : a.length = n_a) (h_b : St No w (Rd eL (.slice A_b n_b c_b) b)) (hn_b : b.length = n_b)  :
    Calls Try.prog 23 #[(.slice A_a n_a c_a), (.slice A_b n_b c_b)] w fun e w' => ∃ v, e = .returned v ∧ (fun v w' => v = .bool (decide (a = b)) ∧ KB No w w') v w' := by
  subst hn_a hn_b
  have hma := Rd.max h_a.now
  have hmb := Rd.max h_b.now
  have hS : SH w No w [] := SH.nil _ _
  refine calls (l := litOf [(.slice A_a a.length c_a), (.slice A_b b.length c_b)] 0) Try.func23 rfl (n := 26) rfl (Nat.le_of_ble_eq_true rfl) (lit_args _) ?_
  refine WC.seq ?_
  refine WC.region ?_
  refine WL.lv rfl (LV.asg rfl) ?_
  refine WL.nil (thenQ.n ?_)
  iterate 2 refine WC.seq ?_
  refine WC.region ?_
  refine WL.lv rfl (LV.mv rfl) ?_
  refine WL.lv rfl (LV.lenL Try.underlying22 rfl) ?_
  refine WL.lv rfl (LV.mv rfl) ?_
  refine WL.lv rfl (LV.lenL Try.underlying22 rfl) ?_
  refine WL.lv rfl (LV.neI rfl rfl) ?_
  refine WL.nil (thenQ.n ?_)
  refine WC.condP (p := (a.length : Int) ≠ (b.length : Int)) rfl (fun hc1 => ?_) (fun hc1 => ?_)
  · skip
    refine WC.seq ?_
    refine WC.region ?_
    refine WL.lv rfl (LV.asg rfl) ?_
    refine WL.nil (thenQ.n ?_)
    refine WC.ret (thenQ.r <| ?_)
    exact ⟨_, fun a ha => res1 rfl ha rfl, congrArg Value.bool ((decide_eq_false (fun h_ => by first | (have hl_ := congrArg List.length h_; omega) | (subst h_; simp at h25))).symm), hS.kb⟩
  · skip
    refine WC.skip (thenQ.n ?_)
    iterate 2 refine WC.seq ?_
    refine WC.region ?_
    refine WL.lv rfl (LV.asg rfl) ?_
    refine WL.nil (thenQ.n ?_)
    refine WC.block ?_
    refine WC.loop (fun m_ f_ w_ => ∃ (i : Int), (0 ≤ i) ∧ (i ≤ (a.length : Int)) ∧ (∀ t : Int, 0 ≤ t → t < i → a.getD t.toNat lnD = b.getD t.toNat lnD) ∧ SH w No w_ [] ∧ m_ = (((a.length : Int) - i).toNat) ∧ Weak (lit [(0, (.slice A_a a.length c_a)), (1, (.slice A_b b.length c_b)), (5, (.int .i64 i))]) f_) _ ⟨0, by omega, by omega, (fun t h1 h2 => by omega), hS, rfl, Weak.cons rfl <| Weak.cons rfl <| Weak.cons rfl <| Weak.nil _⟩ ?_
    rintro m1 f1 w1 ⟨i, ilo, ihi, q1, hL1, rfl, hw1⟩
    refine WC.weak hw1 ?_
    clear hw1
    iterate 2 refine WC.seq ?_
    refine WC.region ?_
    iterate 2 refine WL.lv rfl (LV.mv rfl) ?_
    refine WL.lv rfl (LV.lenL Try.underlying22 rfl) ?_
    refine WL.lv rfl (LV.ltI rfl rfl) ?_
    refine WL.nil (thenQ.n ?_)
    refine WC.condP (p := i < (a.length : Int)) rfl (fun hk => ?_) (fun hk => ?_)
    · skip
      refine WC.skip (thenQ.n ?_)
      refine WC.seq ?_
      refine WC.block ?_
      refine WC.seq ?_
      have hS1 := SH.drew hL1
      refine WC.regionD [] (fun w_ => KB No w1.drew w_) [(.pure, 0), (.pure, 1), (.pure, 2), (.look, 3), (.pure, 4), (.pure, 5), (.pure, 6), (.look, 7), (.pure, 8)] (by kernel_rfl) (by kernel_rfl) (KB.refl _ _) ?_
      iterate 2 refine WS.pure rfl rfl (fun _ => LV.mv rfl) ?_
      obtain ⟨A1, c1, e1, g1⟩ := St.elt (SH.stN hS1 h_a) lnD i (by omega) (by omega)
      refine WS.pure rfl rfl (fun _ => LV.idxA Try.underlying22 ti44.sz rfl e1 rfl (by omega) (by omega)) ?_
      refine WS.look rfl rfl (fun _ hk_ => LV.loadAgg (cs := [(.string ((a.getD (i).toNat lnD).1)), (.bool ((a.getD (i).toNat lnD).2))]) Try.underlying44 rfl ti44 rfl rfl (fun j u hu => g1 _ hk_ j u hu)) ?_
      iterate 2 refine WS.pure rfl rfl (fun _ => LV.mv rfl) ?_
      obtain ⟨A2, c2, e2, g2⟩ := St.elt (SH.stN hS1 h_b) lnD i (by omega) (by omega)
      refine WS.pure rfl rfl (fun _ => LV.idxA Try.underlying22 ti44.sz rfl e2 rfl (by omega) (by omega)) ?_
      refine WS.look rfl rfl (fun _ hk_ => LV.loadAgg (cs := [(.string ((b.getD (i).toNat lnD).1)), (.bool ((b.getD (i).toNat lnD).2))]) Try.underlying44 rfl ti44 rfl rfl (fun j u hu => g2 _ hk_ j u hu)) ?_
      refine WS.pure rfl rfl (fun _ => LV.neLn Try.underlying44 Try.underlying9 Try.underlying4 (by decide) (by kernel_rfl) (by kernel_rfl) rfl rfl) ?_
      refine WS.nil (thenQ.n ?_)
      refine WC.condP (p := ¬ (((a.getD (i).toNat lnD).1) = ((b.getD (i).toNat lnD).1) ∧ ((a.getD (i).toNat lnD).2) = ((b.getD (i).toNat lnD).2))) rfl (fun h25 => ?_) (fun h25 => ?_)
      · skip
        refine WC.seq ?_
        refine WC.region ?_
        refine WL.lv rfl (LV.asg rfl) ?_
        refine WL.nil (thenQ.n ?_)
        refine WC.ret (blockQ.r <| thenQ.r <| thenQ.r <| blockQ.r <| thenQ.r <| ?_)
        exact ⟨_, fun a ha => res1 rfl ha rfl, congrArg Value.bool ((decide_eq_false (fun h_ => by first | (have hl_ := congrArg List.length h_; omega) | (subst h_; simp at h25))).symm), hS1.kb⟩
      · skip
        refine WC.skip (blockQ.n <| thenQ.n ?_)
        refine WC.region ?_
        refine WL.lv rfl (LV.mv rfl) ?_
        refine WL.lv rfl (LV.add rfl rfl (wr64 (by omega) (by omega))) ?_
        refine WL.lv rfl (LV.asg rfl) ?_
        refine WL.nil (thenQ.n ?_)
        exact ⟨_, by omega, i + 1, by omega, by omega, (all_step (p := fun t => a.getD t.toNat lnD = b.getD t.toNat lnD) q1 (by simpa [Prod.ext_iff] using h25)), hS1, rfl, Weak.cons rfl <| Weak.cons rfl <| Weak.cons rfl <| Weak.nil _⟩
    · skip
      refine WC.exit (thenQ.x <| thenQ.x <| blockQ.hit <| thenQ.n ?_)
      refine WC.seq ?_
      refine WC.region ?_
      refine WL.lv rfl (LV.asg rfl) ?_
      refine WL.nil (thenQ.n ?_)
      refine WC.ret (?_)
      exact ⟨_, fun a ha => res1 rfl ha rfl, congrArg Value.bool ((decide_eq_true (ext_getD lnD (by omega) (fun t h0_ h1_ => q1 t h0_ (by omega)))).symm), hL1.kb⟩

set_option maxHeartbeats 2000000 in
set_option maxRecDepth 100000 in
theorem rankAll_law {w : World} {A_inp : Option Addr} {n_inp c_inp : Nat} {inp : List (SV × List Ln)} {A_b : Option Addr} {n_b c_b : Nat} {b : List Ln} (h_inp : St No w (RdRR eL (.slice A_inp n_inp c_inp) inp)) (hn_inp : inp.length = n_inp) (h_b : St No w (Rd eL (.slice A_b n_b c_b) b)) (hn_b : b.length = n_b)  :
    Calls Try.prog 4 #[(.slice A_inp n_inp c_inp), (.slice A_b n_b c_b)] w fun e w' => ∃ v, e = .returned v ∧ (fun v w' => v = .bool (decide (true)) ∧ KB No w w') v w' := by
  subst hn_inp hn_b
  have h5_ : (b.take 40).length ≤ 40 := by rw [List.length_take]; omega
  have hS : SH w No w [] := SH.nil _ _
  refine calls (l := litOf [(.slice A_inp inp.length c_inp), (.slice A_b b.length c_b)] 0) Try.func4 rfl (n := 59) rfl (Nat.le_of_ble_eq_true rfl) (lit_args _) ?_
  refine WC.seq ?_
  refine WC.region ?_
  refine WL.lv rfl (LV.asg rfl) ?_
  refine WL.nil (thenQ.n ?_)
  refine WC.seq ?_
  refine WC.region ?_
  refine WL.lv rfl (LV.mv rfl) ?_
  refine WL.call rfl (XC.fn Try.func16 (by kernel_rfl) rfl rfl rfl) (texts_calls (SH.stN hS h_inp) rfl) ?_
  rintro v_ w1 ⟨A1, c1, rowsf, rfl, hqf, hinf, hS1⟩
  have hS2 := SH.joinN hS hS1
  have hfb_ := few8_bd hqf
  have hfl_ := hfb_.1
  have hfb2_ := hfb_.2
  have hfm_ : (rowsf.map (·.2)).length = rowsf.length := List.length_map _
  refine WL.lv rfl (LV.mv rfl) ?_
  refine WL.call rfl (XC.fn Try.func9 (by kernel_rfl) rfl rfl rfl) (few23_calls (SH.stN hS2 h_b)) ?_
  rintro v_ w2 ⟨rfl, hk1⟩
  have hS3 := SH.same hS2 hk1
  iterate 2 refine WL.lv rfl (LV.asg rfl) ?_
  refine WL.nil (thenQ.n ?_)
  refine WC.seq ?_
  refine WC.region ?_
  iterate 2 refine WL.lv rfl (LV.mv rfl) ?_
  refine WL.call rfl (XC.fn Try.func17 (by kernel_rfl) rfl rfl rfl) (rall_calls (St.rrOf (rows := rowsf) (SH.rd hS3 (.head _)) (SH.stN hS3 hinf)) rfl (SH.stN hS3 (few_rd 40 h_b)) rfl (by omega)) ?_
  rintro v_ w3 ⟨A2, c2, ys1, L1, rfl, hKL1, hpm1, hpw1, hS4⟩
  have hS5 := SH.joinN hS3 hS4
  have hKa_ := hKL1
  have hpa_ := hpm1
  have hwa_ := hpw1
  have hw6a_ : ∀ x ∈ ys1, x.2 < 18446744073709551616 := fun x hx => hKa_.w6 x (hpa_.mem_iff.1 hx)
  refine WL.lv rfl (LV.asg rfl) ?_
  refine WL.nil (thenQ.n ?_)
  refine WC.seq ?_
  refine WC.region ?_
  iterate 2 refine WL.lv rfl (LV.mv rfl) ?_
  refine WL.call rfl (XC.fn Try.func18 (by kernel_rfl) rfl rfl rfl) (nearest_calls  (St.rrOf (rows := rowsf) (SH.rd hS5 (.tail _ (.head _))) (SH.stN hS5 hinf)) rfl (SH.stN hS5 (few_rd 40 h_b)) rfl (by omega)) ?_
  rintro v_ w4 ⟨k1, is1, rfl, hf1, hk2⟩
  have hS6 := SH.same hS5 hk2
  have hnr_ := hf1
  refine WL.lv rfl (LV.mv rfl) ?_
  iterate 2 refine WL.lv rfl (LV.extract rfl rfl) ?_
  iterate 2 refine WL.lv rfl (LV.asg rfl) ?_
  refine WL.nil (thenQ.n ?_)
  refine WC.seq ?_
  refine WC.region ?_
  iterate 2 refine WL.lv rfl (LV.asg rfl) ?_
  refine WL.nil (thenQ.n ?_)
  iterate 2 refine WC.seq ?_
  have hS7 := SH.drew hS6
  refine WC.regionD [] (fun w_ => KB No w4.drew w_) [(.pure, 0), (.pure, 1), (.pure, 2), (.pure, 3), (.pure, 4), (.pure, 5), (.pure, 6), (.look, 7), (.pure, 8), (.pure, 9), (.pure, 10), (.look, 11), (.pure, 12), (.pure, 13)] (by kernel_rfl) (by kernel_rfl) (KB.refl _ _) ?_
  refine WS.pure rfl rfl (fun _ => LV.mv rfl) ?_
  refine WS.pure rfl rfl (fun _ => LV.lenL Try.underlying32 rfl) ?_
  rcases Decidable.em ((ys1.length : Int) > 0) with hg1 | hg1
  · refine WS.pure rfl rfl (fun _ => LV.as (LV.gtI rfl rfl) (decide_eq_true hg1)) ?_
    iterate 2 refine WS.pure rfl rfl (fun _ => LV.mv rfl) ?_
    obtain ⟨A3, c3, e1, g1⟩ := St.elt (SH.rd hS7 (.head _)) (0, 0) (0 : Int) (by omega) (by omega)
    refine WS.pure rfl rfl (fun _ => LV.idxA Try.underlying32 ti37.sz rfl e1 rfl (by omega) (by omega)) ?_
    refine WS.pure rfl rfl (fun _ => LV.fieldA Try.underlying37 rfl ti27.sz rfl) ?_
    refine WS.look rfl rfl (fun _ hk_ => LV.load1 (v := (.float .f64 ((ys1.getD ((0 : Int)).toNat (0, 0)).2))) Try.underlying27 rfl rfl (g1 _ hk_ 1 _ rfl)) ?_
    refine WS.pure rfl rfl (fun _ => LV.mv rfl) ?_
    obtain ⟨A4, c4, e2, g2⟩ := St.elt (SH.rd hS7 (.head _)) (0, 0) (0 : Int) (by omega) (by omega)
    refine WS.pure rfl rfl (fun _ => LV.idxA Try.underlying32 ti37.sz rfl e2 rfl (by omega) (by omega)) ?_
    refine WS.pure rfl rfl (fun _ => LV.fieldA Try.underlying37 rfl ti27.sz rfl) ?_
    refine WS.look rfl rfl (fun _ hk_ => LV.load1 (v := (.float .f64 ((ys1.getD ((0 : Int)).toNat (0, 0)).2))) Try.underlying27 rfl rfl (g2 _ hk_ 1 _ rfl)) ?_
    refine WS.pure rfl rfl (fun _ => LV.eqF (a := ((ys1.getD ((0 : Int)).toNat (0, 0)).2)) (b := ((ys1.getD ((0 : Int)).toNat (0, 0)).2)) rfl rfl) ?_
    refine WS.pure rfl rfl (fun _ => LV.pickT rfl rfl) ?_
    refine WS.nil (thenQ.n ?_)
    refine WC.condP (p := ((-9218868437227405312 ≤ sk ((ys1.getD ((0 : Int)).toNat (0, 0)).2) ∧ sk ((ys1.getD ((0 : Int)).toNat (0, 0)).2) ≤ 9218868437227405312) ∧ (-9218868437227405312 ≤ sk ((ys1.getD ((0 : Int)).toNat (0, 0)).2) ∧ sk ((ys1.getD ((0 : Int)).toNat (0, 0)).2) ≤ 9218868437227405312)) ∧ sk ((ys1.getD ((0 : Int)).toNat (0, 0)).2) = sk ((ys1.getD ((0 : Int)).toNat (0, 0)).2)) rfl (fun hc1 => ?_) (fun hc1 => ?_)
    · skip
      refine WC.region ?_
      refine WL.lv rfl (LV.mv rfl) ?_
      obtain ⟨A5, c5, e3, g3⟩ := St.elt (SH.rd hS7 (.head _)) (0, 0) (0 : Int) (by omega) (by omega)
      refine WL.lv rfl (LV.idxA Try.underlying32 ti37.sz rfl e3 rfl (by omega) (by omega)) ?_
      refine WL.lv rfl (LV.fieldA Try.underlying37 rfl ti3.sz rfl) ?_
      refine WL.lv rfl (LV.load1 (v := (.int .i64 ((ys1.getD ((0 : Int)).toNat (0, 0)).1))) Try.underlying3 rfl rfl (g3 _ (KB.refl No _) 0 _ rfl)) ?_
      iterate 2 refine WL.lv rfl (LV.asg rfl) ?_
      refine WL.nil (thenQ.n ?_)
      refine WC.seq ?_
      refine WC.region ?_
      obtain ⟨hk_, hi_⟩ := hnr_.yes (by omega) hKa_ hpa_ hwa_ (by omega) (by omega)
      refine WL.call rfl (XC.fn Try.func10 (by kernel_rfl) rfl rfl rfl) (live23_calls  ) ?_
      rintro v_ w5 ⟨rfl, hk3⟩
      have hS8 := SH.same hS7 hk3
      iterate 3 refine WL.lv rfl (LV.mv rfl) ?_
      refine WL.call rfl (XC.fn Try.func20 (by kernel_rfl) rfl rfl rfl) (all_calls (St.rrOf (rows := rowsf) (SH.rd hS8 (.tail _ (.head _))) (SH.stN hS8 hinf)) rfl (SH.stN hS8 (few_rd 40 h_b)) rfl (by omega)) ?_
      rintro v_ w6 ⟨A6, c6, ys2, L2, rfl, hKL2, hpm2, hpw2, hS9⟩
      have hS10 := SH.joinN hS8 hS9
      have hKb_ := hKL2
      have hpb_ := hpm2
      have hwb_ := hpw2
      refine WL.lv rfl (LV.mv rfl) ?_
      refine WL.call rfl (XC.fn Try.func19 (by kernel_rfl) rfl rfl rfl) (Calls.asB (ksame_calls  (SH.rd hS10 (.head _)) rfl (SH.rd hS10 (.tail _ (.head _))) rfl (fun x hx => hKb_.w6 x (hpb_.mem_iff.1 hx)) (hw6a_)) (decide_eq_true (kk_uniq (by omega) hKb_ hpb_ hwb_ hKa_ hpa_ hwa_))) ?_
      rintro v_ w7 ⟨rfl, hk4⟩
      have hS11 := SH.same hS10 hk4
      refine WL.lv rfl (LV.pickT rfl rfl) ?_
      iterate 3 refine WL.lv rfl (LV.mv rfl) ?_
      refine WL.lv rfl (LV.as (LV.eqI rfl rfl) (decide_eq_true (hk_))) ?_
      refine WL.lv rfl (LV.pickT rfl rfl) ?_
      iterate 3 refine WL.lv rfl (LV.mv rfl) ?_
      refine WL.lv rfl (LV.as (c := true) (LV.eqB Try.underlying4 rfl rfl) (by rw [hi_]; rfl)) ?_
      refine WL.lv rfl (LV.pickT rfl rfl) ?_
      refine WL.lv rfl (LV.asg rfl) ?_
      refine WL.nil (thenQ.n ?_)
      refine WC.ret (?_)
      exact ⟨_, fun a ha => res1 rfl ha rfl, rfl, hS11.kb⟩
    · skip
      refine WC.skip (thenQ.n ?_)
      refine WC.seq ?_
      refine WC.region ?_
      obtain ⟨hk_, hi_⟩ := hnr_.no (by omega) hKa_ hpa_ hwa_ (by omega)
      refine WL.call rfl (XC.fn Try.func10 (by kernel_rfl) rfl rfl rfl) (live23_calls  ) ?_
      rintro v_ w8 ⟨rfl, hk5⟩
      have hS12 := SH.same hS7 hk5
      iterate 3 refine WL.lv rfl (LV.mv rfl) ?_
      refine WL.call rfl (XC.fn Try.func20 (by kernel_rfl) rfl rfl rfl) (all_calls (St.rrOf (rows := rowsf) (SH.rd hS12 (.tail _ (.head _))) (SH.stN hS12 hinf)) rfl (SH.stN hS12 (few_rd 40 h_b)) rfl (by omega)) ?_
      rintro v_ w9 ⟨A7, c7, ys3, L3, rfl, hKL3, hpm3, hpw3, hS13⟩
      have hS14 := SH.joinN hS12 hS13
      have hKb_ := hKL3
      have hpb_ := hpm3
      have hwb_ := hpw3
      refine WL.lv rfl (LV.mv rfl) ?_
      refine WL.call rfl (XC.fn Try.func19 (by kernel_rfl) rfl rfl rfl) (Calls.asB (ksame_calls  (SH.rd hS14 (.head _)) rfl (SH.rd hS14 (.tail _ (.head _))) rfl (fun x hx => hKb_.w6 x (hpb_.mem_iff.1 hx)) (hw6a_)) (decide_eq_true (kk_uniq (by omega) hKb_ hpb_ hwb_ hKa_ hpa_ hwa_))) ?_
      rintro v_ w10 ⟨rfl, hk6⟩
      have hS15 := SH.same hS14 hk6
      refine WL.lv rfl (LV.pickT rfl rfl) ?_
      iterate 3 refine WL.lv rfl (LV.mv rfl) ?_
      refine WL.lv rfl (LV.as (LV.eqI rfl rfl) (decide_eq_true (hk_))) ?_
      refine WL.lv rfl (LV.pickT rfl rfl) ?_
      iterate 3 refine WL.lv rfl (LV.mv rfl) ?_
      refine WL.lv rfl (LV.as (c := true) (LV.eqB Try.underlying4 rfl rfl) (by rw [hi_]; rfl)) ?_
      refine WL.lv rfl (LV.pickT rfl rfl) ?_
      refine WL.lv rfl (LV.asg rfl) ?_
      refine WL.nil (thenQ.n ?_)
      refine WC.ret (?_)
      exact ⟨_, fun a ha => res1 rfl ha rfl, rfl, hS15.kb⟩
  · refine WS.pure rfl rfl (fun _ => LV.as (LV.gtI rfl rfl) (decide_eq_false hg1)) ?_
    refine WS.pure rfl rfl (fun _ => LV.mv rfl) ?_
    iterate 3 refine WS.off rfl rfl ?_
    refine WS.offL rfl rfl ?_
    iterate 3 refine WS.off rfl rfl ?_
    refine WS.offL rfl rfl ?_
    refine WS.off rfl rfl ?_
    refine WS.pure rfl rfl (fun _ => LV.pickF rfl rfl) ?_
    refine WS.nil (thenQ.n ?_)
    refine WC.condF rfl ?_
    refine WC.skip (thenQ.n ?_)
    refine WC.seq ?_
    refine WC.region ?_
    obtain ⟨hk_, hi_⟩ := hnr_.no (by omega) hKa_ hpa_ hwa_ (by omega)
    refine WL.call rfl (XC.fn Try.func10 (by kernel_rfl) rfl rfl rfl) (live23_calls  ) ?_
    rintro v_ w11 ⟨rfl, hk7⟩
    have hS16 := SH.same hS7 hk7
    iterate 3 refine WL.lv rfl (LV.mv rfl) ?_
    refine WL.call rfl (XC.fn Try.func20 (by kernel_rfl) rfl rfl rfl) (all_calls (St.rrOf (rows := rowsf) (SH.rd hS16 (.tail _ (.head _))) (SH.stN hS16 hinf)) rfl (SH.stN hS16 (few_rd 40 h_b)) rfl (by omega)) ?_
    rintro v_ w12 ⟨A8, c8, ys4, L4, rfl, hKL4, hpm4, hpw4, hS17⟩
    have hS18 := SH.joinN hS16 hS17
    have hKb_ := hKL4
    have hpb_ := hpm4
    have hwb_ := hpw4
    refine WL.lv rfl (LV.mv rfl) ?_
    refine WL.call rfl (XC.fn Try.func19 (by kernel_rfl) rfl rfl rfl) (Calls.asB (ksame_calls  (SH.rd hS18 (.head _)) rfl (SH.rd hS18 (.tail _ (.head _))) rfl (fun x hx => hKb_.w6 x (hpb_.mem_iff.1 hx)) (hw6a_)) (decide_eq_true (kk_uniq (by omega) hKb_ hpb_ hwb_ hKa_ hpa_ hwa_))) ?_
    rintro v_ w13 ⟨rfl, hk8⟩
    have hS19 := SH.same hS18 hk8
    refine WL.lv rfl (LV.pickT rfl rfl) ?_
    iterate 3 refine WL.lv rfl (LV.mv rfl) ?_
    refine WL.lv rfl (LV.as (LV.eqI rfl rfl) (decide_eq_true (hk_))) ?_
    refine WL.lv rfl (LV.pickT rfl rfl) ?_
    iterate 3 refine WL.lv rfl (LV.mv rfl) ?_
    refine WL.lv rfl (LV.as (c := true) (LV.eqB Try.underlying4 rfl rfl) (by rw [hi_]; rfl)) ?_
    refine WL.lv rfl (LV.pickT rfl rfl) ?_
    refine WL.lv rfl (LV.asg rfl) ?_
    refine WL.nil (thenQ.n ?_)
    refine WC.ret (?_)
    exact ⟨_, fun a ha => res1 rfl ha rfl, rfl, hS19.kb⟩

set_option maxHeartbeats 2000000 in
set_option maxRecDepth 100000 in
theorem rankTurns_law {w : World} {A_a : Option Addr} {n_a c_a : Nat} {a : List Ln} {A_b : Option Addr} {n_b c_b : Nat} {b : List Ln} (h_a : St No w (Rd eL (.slice A_a n_a c_a) a)) (hn_a : a.length = n_a) (h_b : St No w (Rd eL (.slice A_b n_b c_b) b)) (hn_b : b.length = n_b)  :
    Calls Try.prog 6 #[(.slice A_a n_a c_a), (.slice A_b n_b c_b)] w fun e w' => ∃ v, e = .returned v ∧ (fun v w' => v = .bool (decide (true)) ∧ KB No w w') v w' := by
  subst hn_a hn_b
  have h4_ : (a.take 40).length ≤ 40 := by rw [List.length_take]; omega
  have h5_ : (b.take 40).length ≤ 40 := by rw [List.length_take]; omega
  have hS : SH w No w [] := SH.nil _ _
  refine calls (l := litOf [(.slice A_a a.length c_a), (.slice A_b b.length c_b)] 0) Try.func6 rfl (n := 89) rfl (Nat.le_of_ble_eq_true rfl) (lit_args _) ?_
  refine WC.seq ?_
  refine WC.region ?_
  refine WL.lv rfl (LV.asg rfl) ?_
  refine WL.nil (thenQ.n ?_)
  refine WC.seq ?_
  refine WC.region ?_
  refine WL.lv rfl (LV.mv rfl) ?_
  refine WL.call rfl (XC.fn Try.func9 (by kernel_rfl) rfl rfl rfl) (few23_calls (SH.stN hS h_a)) ?_
  rintro v_ w1 ⟨rfl, hk1⟩
  have hS1 := SH.same hS hk1
  refine WL.lv rfl (LV.mv rfl) ?_
  refine WL.call rfl (XC.fn Try.func9 (by kernel_rfl) rfl rfl rfl) (few23_calls (SH.stN hS1 h_b)) ?_
  rintro v_ w2 ⟨rfl, hk2⟩
  have hS2 := SH.same hS1 hk2
  iterate 2 refine WL.lv rfl (LV.asg rfl) ?_
  refine WL.nil (thenQ.n ?_)
  refine WC.seq ?_
  refine WC.region ?_
  iterate 2 refine WL.lv rfl (LV.mv rfl) ?_
  refine WL.call rfl (XC.fn Try.func14 (by kernel_rfl) rfl rfl rfl) (like_calls  (SH.stN hS2 (few_rd 40 h_a)) rfl (SH.stN hS2 (few_rd 40 h_b)) rfl ) ?_
  rintro v_ w3 ⟨r2, rfl, hf1, hf2, hk3⟩
  have hS3 := SH.same hS2 hk3
  have hx_ := hf1
  iterate 2 refine WL.lv rfl (LV.mv rfl) ?_
  refine WL.call rfl (XC.fn Try.func14 (by kernel_rfl) rfl rfl rfl) (like_calls  (SH.stN hS3 (few_rd 40 h_b)) rfl (SH.stN hS3 (few_rd 40 h_a)) rfl ) ?_
  rintro v_ w4 ⟨r3, rfl, hf3, hf4, hk4⟩
  have hS4 := SH.same hS3 hk4
  have hy_ := hf3
  iterate 2 refine WL.lv rfl (LV.asg rfl) ?_
  refine WL.nil (thenQ.n ?_)
  iterate 2 refine WC.seq ?_
  refine WC.region ?_
  iterate 2 refine WL.lv rfl (LV.mv rfl) ?_
  refine WL.call rfl (XC.fn Try.func13 (by kernel_rfl) rfl rfl rfl) (Calls.asB (fsame_calls (a := r2) (b := r3) (by first | assumption | omega | exact hp _ (getD_mem (by omega)) | exact hpz _ (getD_mem (by omega))) (by first | assumption | omega | exact hp _ (getD_mem (by omega)) | exact hpz _ (getD_mem (by omega)))) (decide_eq_true (tk_cn (hx_.trans ((LIK_comm _ _).trans hy_.symm))))) ?_
  rintro v_ w5 ⟨rfl, hk5⟩
  have hS5 := SH.same hS4 hk5
  refine WL.lv rfl (LV.notB rfl) ?_
  iterate 3 refine WL.lv rfl (LV.mv rfl) ?_
  have hna_ := LIK_nan h4_ h5_ hx_
  refine WL.lv rfl (LV.neF (a := r2) (b := r2) rfl rfl) ?_
  refine WL.lv rfl (LV.mv rfl) ?_
  refine WL.lv rfl (LV.lenL Try.underlying22 rfl) ?_
  refine WL.lv rfl (LV.mv rfl) ?_
  refine WL.lv rfl (LV.lenL Try.underlying22 rfl) ?_
  refine WL.lv rfl (LV.add rfl rfl (wr64 (by omega) (by omega))) ?_
  refine WL.lv rfl (LV.eqI rfl rfl) ?_
  refine WL.lv rfl (LV.as (c := false) (LV.neB Try.underlying4 rfl rfl) (by rw [bne_eq_false_iff_eq]; exact decide_eq_decide.2 (by omega))) ?_
  refine WL.lv rfl (LV.pickF rfl rfl) ?_
  refine WL.nil (thenQ.n ?_)
  refine WC.condF rfl ?_
  refine WC.skip (thenQ.n ?_)
  refine WC.seq ?_
  refine WC.region ?_
  refine WL.lv rfl (LV.asg rfl) ?_
  refine WL.nil (thenQ.n ?_)
  iterate 2 refine WC.seq ?_
  refine WC.region ?_
  refine WL.lv rfl (LV.asg rfl) ?_
  refine WL.nil (thenQ.n ?_)
  refine WC.block ?_
  refine WC.loop (fun m_ f_ w_ => ∃ (common : Bool) (i : Int), (0 ≤ i) ∧ (i ≤ ((a.take 40).length : Int)) ∧ (common = comA ((a.take 40).take i.toNat) (b.take 40)) ∧ SH w No w_ [] ∧ m_ = ((((a.take 40).length : Int) - i).toNat) ∧ Weak (lit [(0, (.slice (cutA A_a c_a 2) ((a.take 40).length) c_a)), (1, (.slice (cutA A_b c_b 2) ((b.take 40).length) c_b)), (5, (.float .f64 r2)), (7, (.bool common)), (8, (.int .i64 i))]) f_) _ ⟨false, 0, by omega, by omega, rfl, hS5, rfl, Weak.cons rfl <| Weak.cons rfl <| Weak.cons rfl <| Weak.cons rfl <| Weak.cons rfl <| Weak.nil _⟩ ?_
  rintro m1 f1 w6 ⟨common, i, ilo, ihi, q1, hL1, rfl, hw1⟩
  refine WC.weak hw1 ?_
  clear hw1
  iterate 2 refine WC.seq ?_
  refine WC.region ?_
  iterate 2 refine WL.lv rfl (LV.mv rfl) ?_
  refine WL.lv rfl (LV.lenL Try.underlying22 rfl) ?_
  refine WL.lv rfl (LV.ltI rfl rfl) ?_
  refine WL.nil (thenQ.n ?_)
  refine WC.condP (p := i < ((a.take 40).length : Int)) rfl (fun hk => ?_) (fun hk => ?_)
  · skip
    refine WC.skip (thenQ.n ?_)
    refine WC.seq ?_
    refine WC.block ?_
    refine WC.seq ?_
    refine WC.region ?_
    refine WL.lv rfl (LV.asg rfl) ?_
    refine WL.nil (thenQ.n ?_)
    refine WC.block ?_
    refine WC.loop (fun m_ f_ w_ => ∃ (common2 : Bool) (k : Int), (0 ≤ k) ∧ (k ≤ ((b.take 40).length : Int)) ∧ (common2 = (common || com1 ((a.take 40).getD i.toNat lnD) ((b.take 40).take k.toNat))) ∧ SH w No w_ [] ∧ m_ = ((((b.take 40).length : Int) - k).toNat) ∧ Weak (lit [(0, (.slice (cutA A_a c_a 2) ((a.take 40).length) c_a)), (1, (.slice (cutA A_b c_b 2) ((b.take 40).length) c_b)), (5, (.float .f64 r2)), (7, (.bool common2)), (8, (.int .i64 i)), (9, (.int .i64 k))]) f_) _ ⟨common, 0, by omega, by omega, (by simp [com1]), hL1, rfl, Weak.cons rfl <| Weak.cons rfl <| Weak.cons rfl <| Weak.cons rfl <| Weak.cons rfl <| Weak.cons rfl <| Weak.nil _⟩ ?_
    rintro m2 f2 w7 ⟨common2, k, klo, khi, r1, hL2, rfl, hw2⟩
    refine WC.weak hw2 ?_
    clear hw2
    iterate 2 refine WC.seq ?_
    refine WC.region ?_
    iterate 2 refine WL.lv rfl (LV.mv rfl) ?_
    refine WL.lv rfl (LV.lenL Try.underlying22 rfl) ?_
    refine WL.lv rfl (LV.ltI rfl rfl) ?_
    refine WL.nil (thenQ.n ?_)
    refine WC.condP (p := k < ((b.take 40).length : Int)) rfl (fun hk2 => ?_) (fun hk2 => ?_)
    · skip
      refine WC.skip (thenQ.n ?_)
      refine WC.seq ?_
      refine WC.block ?_
      have hS6 := SH.drew hL2
      refine WC.regionD [] (fun w_ => KB No w7.drew w_) [(.pure, 0), (.pure, 1), (.pure, 2), (.pure, 3), (.pure, 4), (.look, 5), (.pure, 6), (.pure, 7), (.pure, 8), (.look, 9), (.pure, 10), (.pure, 11), (.pure, 12)] (by kernel_rfl) (by kernel_rfl) (KB.refl _ _) ?_
      rcases Bool.eq_false_or_eq_true (common2) with hcm_ | hcm_
      · refine WS.pure rfl rfl (fun _ => LV.as (c := true) (LV.mv rfl) hcm_) ?_
        refine WS.pure rfl rfl (fun _ => LV.mv rfl) ?_
        iterate 3 refine WS.off rfl rfl ?_
        refine WS.offL rfl rfl ?_
        iterate 3 refine WS.off rfl rfl ?_
        refine WS.offL rfl rfl ?_
        refine WS.off rfl rfl ?_
        refine WS.pure rfl rfl (fun _ => LV.pickT rfl rfl) ?_
        refine WS.pure rfl rfl (fun _ => LV.asg rfl) ?_
        refine WS.nil (blockQ.n <| thenQ.n ?_)
        refine WC.region ?_
        refine WL.lv rfl (LV.mv rfl) ?_
        refine WL.lv rfl (LV.add rfl rfl (wr64 (by omega) (by omega))) ?_
        refine WL.lv rfl (LV.asg rfl) ?_
        refine WL.nil (thenQ.n ?_)
        exact ⟨_, by omega, true, k + 1, by omega, by omega, (by rw [com1_snoc klo hk2, ← Bool.or_assoc, ← r1, hcm_]; rfl), hS6, rfl, Weak.cons rfl <| Weak.cons rfl <| Weak.cons rfl <| Weak.cons rfl <| Weak.cons rfl <| Weak.cons rfl <| Weak.nil _⟩
      · refine WS.pure rfl rfl (fun _ => LV.as (c := false) (LV.mv rfl) hcm_) ?_
        iterate 3 refine WS.pure rfl rfl (fun _ => LV.mv rfl) ?_
        obtain ⟨A1, c1, e1, g1⟩ := St.elt (SH.stN hS6 (few_rd 40 h_a)) lnD i (by omega) (by omega)
        refine WS.pure rfl rfl (fun _ => LV.idxA Try.underlying22 ti44.sz rfl e1 rfl (by omega) (by omega)) ?_
        refine WS.look rfl rfl (fun _ hk_ => LV.loadAgg (cs := [(.string (((a.take 40).getD (i).toNat lnD).1)), (.bool (((a.take 40).getD (i).toNat lnD).2))]) Try.underlying44 rfl ti44 rfl rfl (fun j u hu => g1 _ hk_ j u hu)) ?_
        iterate 2 refine WS.pure rfl rfl (fun _ => LV.mv rfl) ?_
        obtain ⟨A2, c2, e2, g2⟩ := St.elt (SH.stN hS6 (few_rd 40 h_b)) lnD k (by omega) (by omega)
        refine WS.pure rfl rfl (fun _ => LV.idxA Try.underlying22 ti44.sz rfl e2 rfl (by omega) (by omega)) ?_
        refine WS.look rfl rfl (fun _ hk_ => LV.loadAgg (cs := [(.string (((b.take 40).getD (k).toNat lnD).1)), (.bool (((b.take 40).getD (k).toNat lnD).2))]) Try.underlying44 rfl ti44 rfl rfl (fun j u hu => g2 _ hk_ j u hu)) ?_
        refine WS.pure rfl rfl (fun _ => LV.eqLn Try.underlying44 Try.underlying9 Try.underlying4 (by decide) (by kernel_rfl) (by kernel_rfl) rfl rfl) ?_
        refine WS.pure rfl rfl (fun _ => LV.pickF rfl rfl) ?_
        refine WS.pure rfl rfl (fun _ => LV.asg rfl) ?_
        refine WS.nil (blockQ.n <| thenQ.n ?_)
        refine WC.region ?_
        refine WL.lv rfl (LV.mv rfl) ?_
        refine WL.lv rfl (LV.add rfl rfl (wr64 (by omega) (by omega))) ?_
        refine WL.lv rfl (LV.asg rfl) ?_
        refine WL.nil (thenQ.n ?_)
        exact ⟨_, by omega, decide ((((a.take 40).getD (i).toNat lnD).1) = (((b.take 40).getD (k).toNat lnD).1) ∧ (((a.take 40).getD (i).toNat lnD).2) = (((b.take 40).getD (k).toNat lnD).2)), k + 1, by omega, by omega, (by rw [com1_snoc klo hk2, ← Bool.or_assoc, ← r1, hcm_]; rw [Bool.false_or]; exact decide_eq_decide.2 Prod.ext_iff.symm), hS6, rfl, Weak.cons rfl <| Weak.cons rfl <| Weak.cons rfl <| Weak.cons rfl <| Weak.cons rfl <| Weak.cons rfl <| Weak.nil _⟩
    · skip
      refine WC.exit (thenQ.x <| thenQ.x <| blockQ.hit <| blockQ.n <| thenQ.n ?_)
      refine WC.region ?_
      refine WL.lv rfl (LV.mv rfl) ?_
      refine WL.lv rfl (LV.add rfl rfl (wr64 (by omega) (by omega))) ?_
      refine WL.lv rfl (LV.asg rfl) ?_
      refine WL.nil (thenQ.n ?_)
      exact ⟨_, by omega, common2, i + 1, by omega, by omega, (by rw [comA_snoc ilo hk, ← q1, r1]; rw [List.take_of_length_le (l := b.take 40) (by omega)]), hL2, rfl, Weak.cons rfl <| Weak.cons rfl <| Weak.cons rfl <| Weak.cons rfl <| Weak.cons rfl <| Weak.nil _⟩
  · skip
    refine WC.exit (thenQ.x <| thenQ.x <| blockQ.hit <| thenQ.n ?_)
    refine WC.seq ?_
    refine WC.region ?_
    have hvl_ := LIK_val h4_ h5_ hx_
    have hall_ := CMN_all h4_ h5_
    have hnon_ := CMN_none h4_ h5_
    have hcf_ : common = comA (a.take 40) (b.take 40) := by rw [q1, List.take_of_length_le (by omega)]
    refine WL.call rfl (XC.fn Try.func10 (by kernel_rfl) rfl rfl rfl) (live23_calls  ) ?_
    rintro v_ w8 ⟨rfl, hk6⟩
    have hS7 := SH.same hL1 hk6
    iterate 3 refine WL.lv rfl (LV.mv rfl) ?_
    rcases Decidable.em (¬ (((-9218868437227405312 ≤ sk r2 ∧ sk r2 ≤ 9218868437227405312) ∧ (-9218868437227405312 ≤ sk r2 ∧ sk r2 ≤ 9218868437227405312)) ∧ sk r2 = sk r2)) with hg1 | hg1
    · refine WL.lv rfl (LV.as (LV.neF (a := r2) (b := r2) rfl rfl) (decide_eq_true hg1)) ?_
      refine WL.lv rfl (LV.mv rfl) ?_
      iterate 21 refine WL.off rfl ?_
      iterate 2 refine WL.lv rfl (LV.pickT rfl rfl) ?_
      refine WL.lv rfl (LV.asg rfl) ?_
      refine WL.nil (thenQ.n ?_)
      refine WC.ret (?_)
      exact ⟨_, fun a ha => res1 rfl ha rfl, rfl, hS7.kb⟩
    · refine WL.lv rfl (LV.as (LV.neF (a := r2) (b := r2) rfl rfl) (decide_eq_false hg1)) ?_
      iterate 2 refine WL.lv rfl (LV.mv rfl) ?_
      obtain ⟨hv1_, hv2_, hv3_⟩ := hvl_ (by omega)
      have hsk_0 : sk 0 = (0 : Int) := by decide +kernel
      refine WL.lv rfl (LV.as (LV.geF (a := r2) (b := 0) rfl rfl) (decide_eq_true (by omega))) ?_
      iterate 2 refine WL.lv rfl (LV.mv rfl) ?_
      have hsk_4607182418800017408 : sk 4607182418800017408 = (4607182418800017408 : Int) := by decide +kernel
      refine WL.lv rfl (LV.as (LV.leF (a := r2) (b := 4607182418800017408) rfl rfl) (decide_eq_true (by omega))) ?_
      refine WL.lv rfl (LV.pickT rfl rfl) ?_
      iterate 2 refine WL.lv rfl (LV.mv rfl) ?_
      have hsk_4607182418800017408 : sk 4607182418800017408 = (4607182418800017408 : Int) := by decide +kernel
      refine WL.lv rfl (LV.eqF (a := r2) (b := 4607182418800017408) rfl rfl) ?_
      iterate 2 refine WL.lv rfl (LV.mv rfl) ?_
      refine WL.call rfl (XC.fn Try.func23 (by kernel_rfl) rfl rfl rfl) (lsame_calls  (SH.stN hS7 (few_rd 40 h_a)) rfl (SH.stN hS7 (few_rd 40 h_b)) rfl ) ?_
      rintro v_ w9 ⟨rfl, hk7⟩
      have hS8 := SH.same hS7 hk7
      refine WL.lv rfl (LV.as (c := true) (LV.eqB Try.underlying4 rfl rfl) (by rw [decide_eq_decide.2 (Iff.intro (fun h_ => hall_.1 (hv3_.1 (by omega))) (fun h_ => by have h2_ := hv3_.2 (hall_.2 h_); omega))]; exact beq_self_eq_true _)) ?_
      refine WL.lv rfl (LV.pickT rfl rfl) ?_
      iterate 2 refine WL.lv rfl (LV.mv rfl) ?_
      have hsk_0 : sk 0 = (0 : Int) := by decide +kernel
      refine WL.lv rfl (LV.eqF (a := r2) (b := 0) rfl rfl) ?_
      refine WL.lv rfl (LV.mv rfl) ?_
      refine WL.lv rfl (LV.notB rfl) ?_
      refine WL.lv rfl (LV.as (c := true) (LV.eqB Try.underlying4 rfl rfl) (by rw [hcf_]; exact com_bool (Iff.intro (fun h_ => hnon_.1 (hv2_.1 (by omega))) (fun h_ => by have h2_ := hv2_.2 (hnon_.2 h_); omega)))) ?_
      refine WL.lv rfl (LV.pickT rfl rfl) ?_
      refine WL.lv rfl (LV.pickF rfl rfl) ?_
      refine WL.lv rfl (LV.pickT rfl rfl) ?_
      refine WL.lv rfl (LV.asg rfl) ?_
      refine WL.nil (thenQ.n ?_)
      refine WC.ret (?_)
      exact ⟨_, fun a ha => res1 rfl ha rfl, rfl, hS8.kb⟩

set_option maxHeartbeats 2000000 in
set_option maxRecDepth 100000 in
theorem rankSelf_law {w : World} {A_inp : Option Addr} {n_inp c_inp : Nat} {inp : List (SV × List Ln)} {which : Int} (h_inp : St No w (RdRR eL (.slice A_inp n_inp c_inp) inp)) (hn_inp : inp.length = n_inp) (hw : 0 ≤ which ∧ which ≤ 255) :
    Calls Try.prog 7 #[(.slice A_inp n_inp c_inp), (.int .u8 which)] w fun e w' => ∃ v, e = .returned v ∧ (fun v w' => v = .bool (decide (true)) ∧ KB No w w') v w' := by
  subst hn_inp
  have hS : SH w No w [] := SH.nil _ _
  refine calls (l := litOf [(.slice A_inp inp.length c_inp), (.int .u8 which)] 0) Try.func7 rfl (n := 81) rfl (Nat.le_of_ble_eq_true rfl) (lit_args _) ?_
  refine WC.seq ?_
  refine WC.region ?_
  refine WL.lv rfl (LV.asg rfl) ?_
  refine WL.nil (thenQ.n ?_)
  refine WC.seq ?_
  refine WC.region ?_
  refine WL.lv rfl (LV.mv rfl) ?_
  refine WL.call rfl (XC.fn Try.func16 (by kernel_rfl) rfl rfl rfl) (texts_calls (SH.stN hS h_inp) rfl) ?_
  rintro v_ w1 ⟨A1, c1, rowsf, rfl, hqf, hinf, hS1⟩
  have hS2 := SH.joinN hS hS1
  have hfb_ := few8_bd hqf
  have hfl_ := hfb_.1
  have hfb2_ := hfb_.2
  have hfm_ : (rowsf.map (·.2)).length = rowsf.length := List.length_map _
  refine WL.lv rfl (LV.asg rfl) ?_
  refine WL.nil (thenQ.n ?_)
  iterate 2 refine WC.seq ?_
  refine WC.region ?_
  refine WL.lv rfl (LV.mv rfl) ?_
  refine WL.lv rfl (LV.lenL Try.underlying30 rfl) ?_
  refine WL.lv rfl (LV.eqI rfl rfl) ?_
  refine WL.nil (thenQ.n ?_)
  refine WC.condP (p := (rowsf.length : Int) = 0) rfl (fun hc1 => ?_) (fun hc1 => ?_)
  · skip
    refine WC.seq ?_
    refine WC.region ?_
    refine WL.call rfl (XC.fn Try.func10 (by kernel_rfl) rfl rfl rfl) (live23_calls  ) ?_
    rintro v_ w2 ⟨rfl, hk1⟩
    have hS3 := SH.same hS2 hk1
    refine WL.lv rfl (LV.asg rfl) ?_
    refine WL.nil (thenQ.n ?_)
    refine WC.ret (thenQ.r <| ?_)
    exact ⟨_, fun a ha => res1 rfl ha rfl, rfl, hS3.kb⟩
  · skip
    refine WC.skip (thenQ.n ?_)
    refine WC.seq ?_
    refine WC.region ?_
    refine WL.lv rfl (LV.mv rfl) ?_
    refine WL.lv rfl (LV.cvtI Try.underlying5 Try.underlying3 rfl (wr64 (by omega) (by omega))) ?_
    refine WL.lv rfl (LV.mv rfl) ?_
    refine WL.lv rfl (LV.lenL Try.underlying30 rfl) ?_
    refine WL.lv rfl (LV.rem rfl rfl (by omega) (rem64 (by omega) rfl)) ?_
    refine WL.lv rfl (LV.asg rfl) ?_
    refine WL.nil (thenQ.n ?_)
    refine WC.seq ?_
    refine WC.region ?_
    iterate 3 refine WL.lv rfl (LV.mv rfl) ?_
    have hk0_ := Int.emod_nonneg which (show (rowsf.length : Int) ≠ 0 by omega)
    have hk1_ := Int.emod_lt_of_pos which (show (0 : Int) < (rowsf.length : Int) by omega)
    have hi40_ := hfb2_ (rowsf.getD (which % (rowsf.length : Int)).toNat default) (getD_mem (by omega))
    obtain ⟨A2, c2, A3, c3, e1, g1, e2, r1⟩ := St.eltRR (St.rrOf (rows := rowsf) (SH.rd hS2 (.head _)) (SH.stN hS2 hinf)) default (which % (rowsf.length : Int)) (by omega) (by omega)
    refine WL.lv rfl (LV.idxA Try.underlying30 ti22.sz rfl e1 rfl (by omega) (by omega)) ?_
    refine WL.lv rfl (LV.load1 Try.underlying22 rfl rfl (g1 _ (KB.refl No _))) ?_
    refine WL.call rfl (XC.fn Try.func18 (by kernel_rfl) rfl rfl rfl) (nearest_calls  (St.rrOf (rows := rowsf) (SH.rd hS2 (.head _)) (SH.stN hS2 hinf)) rfl (St.inner (St.rrOf (rows := rowsf) (SH.rd hS2 (.head _)) (SH.stN hS2 hinf)) (getD_mem (by omega)) e2) rfl (by omega)) ?_
    rintro v_ w3 ⟨k1, is1, rfl, hf1, hk2⟩
    have hS4 := SH.same hS2 hk2
    have hnr_ := hf1
    refine WL.lv rfl (LV.mv rfl) ?_
    iterate 2 refine WL.lv rfl (LV.extract rfl rfl) ?_
    iterate 2 refine WL.lv rfl (LV.asg rfl) ?_
    refine WL.nil (thenQ.n ?_)
    iterate 2 refine WC.seq ?_
    refine WC.region ?_
    iterate 2 refine WL.lv rfl (LV.mv rfl) ?_
    obtain ⟨A4, c4, A5, c5, e3, g2, e4, r2⟩ := St.eltRR (St.rrOf (rows := rowsf) (SH.rd hS4 (.head _)) (SH.stN hS4 hinf)) default (which % (rowsf.length : Int)) (by omega) (by omega)
    refine WL.lv rfl (LV.idxA Try.underlying30 ti22.sz rfl e3 rfl (by omega) (by omega)) ?_
    refine WL.lv rfl (LV.load1 Try.underlying22 rfl rfl (g2 _ (KB.refl No _))) ?_
    refine WL.lv rfl (LV.lenL Try.underlying22 rfl) ?_
    refine WL.lv rfl (LV.eqI rfl rfl) ?_
    refine WL.nil (thenQ.n ?_)
    refine WC.condP (p := ((rowsf.getD (which % (rowsf.length : Int)).toNat default).2.length : Int) = 0) rfl (fun hc2 => ?_) (fun hc2 => ?_)
    · skip
      refine WC.seq ?_
      refine WC.region ?_
      refine WL.call rfl (XC.fn Try.func10 (by kernel_rfl) rfl rfl rfl) (live23_calls  ) ?_
      rintro v_ w4 ⟨rfl, hk3⟩
      have hS5 := SH.same hS4 hk3
      refine WL.lv rfl (LV.mv rfl) ?_
      rcases Bool.eq_false_or_eq_true (is1) with his_ | his_
      · refine WL.lv rfl (LV.as (c := true) (LV.mv rfl) his_) ?_
        refine WL.lv rfl (LV.notB rfl) ?_
        iterate 2 refine WL.lv rfl (LV.mv rfl) ?_
        obtain ⟨hn0_, hn1_, rr_, hr_, ho_⟩ := hnr_.at his_
        rw [rr_at2 (by omega)] at hr_
        refine WL.lv rfl (LV.as (LV.geI rfl rfl) (decide_eq_true (by omega))) ?_
        iterate 3 refine WL.lv rfl (LV.mv rfl) ?_
        refine WL.lv rfl (LV.lenL Try.underlying30 rfl) ?_
        refine WL.lv rfl (LV.as (LV.ltI rfl rfl) (decide_eq_true (by omega))) ?_
        refine WL.lv rfl (LV.pickT rfl rfl) ?_
        iterate 3 refine WL.lv rfl (LV.mv rfl) ?_
        obtain ⟨A6, c6, A7, c7, e5, g3, e6, r3⟩ := St.eltRR (St.rrOf (rows := rowsf) (SH.rd hS5 (.head _)) (SH.stN hS5 hinf)) default k1 (by omega) (by omega)
        refine WL.lv rfl (LV.idxA Try.underlying30 ti22.sz rfl e5 rfl (by omega) (by omega)) ?_
        refine WL.lv rfl (LV.load1 Try.underlying22 rfl rfl (g3 _ (KB.refl No _))) ?_
        refine WL.lv rfl (LV.lenL Try.underlying22 rfl) ?_
        refine WL.lv rfl (LV.as (LV.gtI rfl rfl) (decide_eq_true (by have h40_ := hfb2_ (rowsf.getD k1.toNat default) (getD_mem (by omega)); have hna_ := LIK_nan h40_ hi40_ hr_; omega))) ?_
        refine WL.lv rfl (LV.pickT rfl rfl) ?_
        refine WL.lv rfl (LV.pickF rfl rfl) ?_
        refine WL.lv rfl (LV.pickT rfl rfl) ?_
        refine WL.lv rfl (LV.asg rfl) ?_
        refine WL.nil (thenQ.n ?_)
        refine WC.ret (thenQ.r <| ?_)
        exact ⟨_, fun a ha => res1 rfl ha rfl, rfl, hS5.kb⟩
      · refine WL.lv rfl (LV.as (c := false) (LV.mv rfl) his_) ?_
        refine WL.lv rfl (LV.notB rfl) ?_
        refine WL.lv rfl (LV.mv rfl) ?_
        iterate 16 refine WL.off rfl ?_
        iterate 2 refine WL.lv rfl (LV.pickT rfl rfl) ?_
        refine WL.lv rfl (LV.asg rfl) ?_
        refine WL.nil (thenQ.n ?_)
        refine WC.ret (thenQ.r <| ?_)
        exact ⟨_, fun a ha => res1 rfl ha rfl, rfl, hS5.kb⟩
    · skip
      refine WC.skip (thenQ.n ?_)
      refine WC.seq ?_
      have hS6 := SH.drew hS4
      refine WC.regionD [] (fun w_ => KB No w3.drew w_) [(.forced, 0), (.pure, 1), (.pure, 2), (.pure, 3), (.pure, 4), (.pure, 5), (.pure, 6), (.pure, 7), (.pure, 8), (.pure, 9), (.pure, 10), (.pure, 11), (.pure, 12), (.pure, 13), (.pure, 14), (.pure, 15), (.pure, 16), (.look, 17), (.pure, 18), (.pure, 19), (.pure, 20), (.look, 21), (.forced, 22), (.pure, 23), (.pure, 24)] (by kernel_rfl) (by kernel_rfl) (KB.refl _ _) ?_
      have hst_ := hnr_.self hk0_ (by omega) (rr_at2 (by omega)) (fun l_ hl_ => by obtain ⟨p_, hp_, e_⟩ := List.mem_map.1 hl_; rw [← e_]; exact hfb2_ p_ hp_) (by omega)
      refine WS.call rfl rfl (XC.fn Try.func10 (by kernel_rfl) rfl rfl rfl) (live23_calls  ) ?_
      rintro v_ w5 ⟨rfl, hk4⟩
      have hS7 := SH.same hS6 hk4
      refine ⟨fun h_ => (KB.transN (KB.refl _ _) hk4), ?_⟩
      refine WS.pure rfl rfl (fun _ => LV.mv rfl) ?_
      rcases Bool.eq_false_or_eq_true (is1) with hg8_ | hg8_
      · refine WS.pure rfl rfl (fun _ => LV.as (c := true) (LV.mv rfl) hg8_) ?_
        refine WS.pure rfl rfl (fun _ => LV.pickT rfl rfl) ?_
        iterate 2 refine WS.pure rfl rfl (fun _ => LV.mv rfl) ?_
        refine WS.pure rfl rfl (fun _ => LV.as (LV.geI rfl rfl) (decide_eq_true (hst_.2.1))) ?_
        refine WS.pure rfl rfl (fun _ => LV.pickT rfl rfl) ?_
        iterate 3 refine WS.pure rfl rfl (fun _ => LV.mv rfl) ?_
        refine WS.pure rfl rfl (fun _ => LV.as (LV.leI rfl rfl) (decide_eq_true (hst_.2.2.1))) ?_
        refine WS.pure rfl rfl (fun _ => LV.pickT rfl rfl) ?_
        iterate 3 refine WS.pure rfl rfl (fun _ => LV.mv rfl) ?_
        obtain ⟨A8, c8, A9, c9, e7, g4, e8, r4⟩ := St.eltRR (St.rrOf (rows := rowsf) (SH.rd hS6 (.head _)) (SH.stN hS6 hinf)) default k1 (by omega) (by omega)
        refine WS.pure rfl rfl (fun _ => LV.idxA Try.underlying30 ti22.sz rfl e7 rfl (by omega) (by omega)) ?_
        refine WS.look rfl rfl (fun _ hk_ => LV.load1 Try.underlying22 rfl rfl (g4 _ hk_)) ?_
        iterate 2 refine WS.pure rfl rfl (fun _ => LV.mv rfl) ?_
        obtain ⟨A10, c10, A11, c11, e9, g5, e10, r5⟩ := St.eltRR (St.rrOf (rows := rowsf) (SH.rd hS6 (.head _)) (SH.stN hS6 hinf)) default (which % (rowsf.length : Int)) (by omega) (by omega)
        refine WS.pure rfl rfl (fun _ => LV.idxA Try.underlying30 ti22.sz rfl e9 rfl (by omega) (by omega)) ?_
        refine WS.look rfl rfl (fun _ hk_ => LV.load1 Try.underlying22 rfl rfl (g5 _ hk_)) ?_
        refine WS.call rfl rfl (XC.fn Try.func23 (by kernel_rfl) rfl rfl rfl) (Calls.asB (lsame_calls  (St.inner (St.rrOf (rows := rowsf) (SH.rd hS7 (.head _)) (SH.stN hS7 hinf)) (getD_mem (by omega)) e8) rfl (St.inner (St.rrOf (rows := rowsf) (SH.rd hS7 (.head _)) (SH.stN hS7 hinf)) (getD_mem (by omega)) e10) rfl ) (decide_eq_true ((rr_at2 (by omega)).symm.trans hst_.2.2.2))) ?_
        rintro v_ w6 ⟨rfl, hk5⟩
        have hS8 := SH.same hS7 hk5
        refine ⟨fun h_ => (KB.transN (KB.transN (KB.refl _ _) hk4) hk5), ?_⟩
        refine WS.pure rfl rfl (fun _ => LV.pickT rfl rfl) ?_
        refine WS.pure rfl rfl (fun _ => LV.asg rfl) ?_
        refine WS.nil (thenQ.n ?_)
        refine WC.ret (?_)
        exact ⟨_, fun a ha => res1 rfl ha rfl, rfl, hS8.kb⟩
      · refine WS.pure rfl rfl (fun _ => LV.as (c := false) (LV.mv rfl) hg8_) ?_
        refine WS.pure rfl rfl (fun _ => LV.pickT rfl rfl) ?_
        refine WS.pure rfl rfl (fun _ => LV.mv rfl) ?_
        iterate 2 refine WS.off rfl rfl ?_
        refine WS.pure rfl rfl (fun _ => LV.pickF rfl rfl) ?_
        refine WS.pure rfl rfl (fun _ => LV.mv rfl) ?_
        iterate 3 refine WS.off rfl rfl ?_
        refine WS.pure rfl rfl (fun _ => LV.pickF rfl rfl) ?_
        refine WS.pure rfl rfl (fun _ => LV.mv rfl) ?_
        iterate 3 refine WS.off rfl rfl ?_
        refine WS.offL rfl rfl ?_
        iterate 3 refine WS.off rfl rfl ?_
        refine WS.offL rfl rfl ?_
        refine WS.offF rfl rfl (fun h_ => (KB.transN (KB.refl _ _) hk4)) ?_
        refine WS.pure rfl rfl (fun _ => LV.pickF rfl rfl) ?_
        refine WS.pure rfl rfl (fun _ => LV.asg rfl) ?_
        refine WS.nil (thenQ.n ?_)
        refine WC.ret (?_)
        exact ⟨_, fun a ha => res1 rfl ha rfl, (by exfalso; rw [hst_.1] at hg8_; cases hg8_), hS7.kb⟩

set_option maxHeartbeats 2000000 in
set_option maxRecDepth 100000 in
theorem rankCounts_law {w : World} {A_inp : Option Addr} {n_inp c_inp : Nat} {inp : List (SV × List Ln)} {A_b : Option Addr} {n_b c_b : Nat} {b : List Ln} (h_inp : St No w (RdRR eL (.slice A_inp n_inp c_inp) inp)) (hn_inp : inp.length = n_inp) (h_b : St No w (Rd eL (.slice A_b n_b c_b) b)) (hn_b : b.length = n_b)  :
    Calls Try.prog 8 #[(.slice A_inp n_inp c_inp), (.slice A_b n_b c_b)] w fun e w' => ∃ v, e = .returned v ∧ (fun v w' => v = .bool (decide (true)) ∧ KB No w w') v w' := by
  subst hn_inp hn_b
  have h5_ : (b.take 40).length ≤ 40 := by rw [List.length_take]; omega
  have hS : SH w No w [] := SH.nil _ _
  refine calls (l := litOf [(.slice A_inp inp.length c_inp), (.slice A_b b.length c_b)] 0) Try.func8 rfl (n := 131) rfl (Nat.le_of_ble_eq_true rfl) (lit_args _) ?_
  refine WC.seq ?_
  refine WC.region ?_
  refine WL.lv rfl (LV.asg rfl) ?_
  refine WL.nil (thenQ.n ?_)
  refine WC.seq ?_
  refine WC.region ?_
  refine WL.lv rfl (LV.mv rfl) ?_
  refine WL.call rfl (XC.fn Try.func16 (by kernel_rfl) rfl rfl rfl) (texts_calls (SH.stN hS h_inp) rfl) ?_
  rintro v_ w1 ⟨A1, c1, rowsf, rfl, hqf, hinf, hS1⟩
  have hS2 := SH.joinN hS hS1
  have hfb_ := few8_bd hqf
  have hfl_ := hfb_.1
  have hfb2_ := hfb_.2
  have hfm_ : (rowsf.map (·.2)).length = rowsf.length := List.length_map _
  refine WL.lv rfl (LV.mv rfl) ?_
  refine WL.call rfl (XC.fn Try.func9 (by kernel_rfl) rfl rfl rfl) (few23_calls (SH.stN hS2 h_b)) ?_
  rintro v_ w2 ⟨rfl, hk1⟩
  have hS3 := SH.same hS2 hk1
  iterate 2 refine WL.lv rfl (LV.asg rfl) ?_
  refine WL.nil (thenQ.n ?_)
  refine WC.seq ?_
  refine WC.region ?_
  iterate 2 refine WL.lv rfl (LV.mv rfl) ?_
  refine WL.call rfl (XC.fn Try.func20 (by kernel_rfl) rfl rfl rfl) (all_calls (St.rrOf (rows := rowsf) (SH.rd hS3 (.head _)) (SH.stN hS3 hinf)) rfl (SH.stN hS3 (few_rd 40 h_b)) rfl (by omega)) ?_
  rintro v_ w3 ⟨A2, c2, ys1, L1, rfl, hKL1, hpm1, hpw1, hS4⟩
  have hS5 := SH.joinN hS3 hS4
  have hKa_ := hKL1
  have hpa_ := hpm1
  have hwa_ := hpw1
  have hlen_ := hpa_.length_eq
  have hKl_ := hKa_.len
  refine WL.lv rfl (LV.asg rfl) ?_
  refine WL.nil (thenQ.n ?_)
  iterate 2 refine WC.seq ?_
  refine WC.region ?_
  refine WL.lv rfl (LV.mv rfl) ?_
  refine WL.lv rfl (LV.lenL Try.underlying32 rfl) ?_
  refine WL.lv rfl (LV.mv rfl) ?_
  refine WL.lv rfl (LV.lenL Try.underlying30 rfl) ?_
  refine WL.lv rfl (LV.neI rfl rfl) ?_
  refine WL.nil (thenQ.n ?_)
  refine WC.condP (p := (ys1.length : Int) ≠ (rowsf.length : Int)) rfl (fun hc1 => ?_) (fun hc1 => ?_)
  · skip
    refine WC.seq ?_
    refine WC.region ?_
    refine WL.lv rfl (LV.asg rfl) ?_
    refine WL.nil (thenQ.n ?_)
    refine WC.ret (thenQ.r <| ?_)
    exact ⟨_, fun a ha => res1 rfl ha rfl, (by exfalso; omega), hS5.kb⟩
  · skip
    refine WC.skip (thenQ.n ?_)
    refine WC.seq ?_
    refine WC.region ?_
    refine WL.lv rfl (LV.mv rfl) ?_
    refine WL.lv rfl (LV.lenL Try.underlying30 rfl) ?_
    refine WL.xe rfl (XE.make (E := eI) (n := rowsf.length) 0 hS5 Try.underlying46 ti3 rfl rfl rfl rfl rfl rfl (by omega) (by omega)) ?_
    rintro _ w4 ⟨b1, rfl, hS6, hk2⟩
    refine WL.lv rfl (LV.asg rfl) ?_
    refine WL.nil (thenQ.n ?_)
    iterate 2 refine WC.seq ?_
    refine WC.region ?_
    refine WL.lv rfl (LV.asg rfl) ?_
    refine WL.nil (thenQ.n ?_)
    refine WC.block ?_
    refine WC.loop (fun m_ f_ w_ => ∃ (seen : List Int) (i : Int), (0 ≤ i) ∧ (i ≤ (ys1.length : Int)) ∧ (seen.length = rowsf.length) ∧ (∀ t : Int, 0 ≤ t → t < (rowsf.length : Int) → gI seen t = cntK ys1 i t) ∧ SH w No w_ [rowE eI 3 (.slice (some ⟨b1, 0, none⟩) rowsf.length rowsf.length) seen, rowE eK 37 (.slice A2 ys1.length c2) ys1, rowE eV 22 (.slice A1 rowsf.length c1) (rowsf.map (fun p : SV × List Ln => p.1))] ∧ m_ = (((ys1.length : Int) - i).toNat) ∧ Weak (lit [(0, (.slice A1 rowsf.length c1)), (1, (.slice (cutA A_b c_b 2) ((b.take 40).length) c_b)), (5, (.slice A2 ys1.length c2)), (6, (.slice (some ⟨b1, 0, none⟩) rowsf.length rowsf.length)), (7, (.int .i64 i))]) f_) _ ⟨(List.replicate rowsf.length 0), 0, by omega, by omega, (by simp), (fun t h0_ h1_ => by rw [cntK_0]; simp only [gI, List.getD_eq_getElem?_getD, List.getElem?_replicate]; split <;> rfl), hS6, rfl, Weak.cons rfl <| Weak.cons rfl <| Weak.cons rfl <| Weak.cons rfl <| Weak.cons rfl <| Weak.nil _⟩ ?_
    rintro m1 f1 w5 ⟨seen, i, ilo, ihi, q1, q2, hL1, rfl, hw1⟩
    refine WC.weak hw1 ?_
    clear hw1
    iterate 2 refine WC.seq ?_
    refine WC.region ?_
    iterate 2 refine WL.lv rfl (LV.mv rfl) ?_
    refine WL.lv rfl (LV.lenL Try.underlying32 rfl) ?_
    refine WL.lv rfl (LV.ltI rfl rfl) ?_
    refine WL.nil (thenQ.n ?_)
    refine WC.condP (p := i < (ys1.length : Int)) rfl (fun hk => ?_) (fun hk => ?_)
    · obtain ⟨k0_, k1_, kl_, kw_⟩ := kl_mem hKa_ hpa_ (i := i) ilo (by omega)
      rw [rr_at2 (by omega)] at kl_
      refine WC.skip (thenQ.n ?_)
      refine WC.seq ?_
      refine WC.block ?_
      iterate 2 refine WC.seq ?_
      have hS7 := SH.drew hL1
      refine WC.regionD [] (fun w_ => KB No w5.drew w_) [(.pure, 0), (.pure, 1), (.pure, 2), (.pure, 3), (.look, 4), (.pure, 5), (.pure, 6), (.pure, 7), (.pure, 8), (.pure, 9), (.pure, 10), (.look, 11), (.pure, 12), (.pure, 13), (.pure, 14), (.pure, 15), (.pure, 16), (.pure, 17), (.pure, 18), (.pure, 19), (.pure, 20), (.look, 21), (.pure, 22), (.pure, 23), (.pure, 24), (.pure, 25), (.pure, 26), (.look, 27), (.pure, 28), (.look, 29), (.pure, 30), (.forced, 31), (.forced, 32), (.pure, 33), (.pure, 34)] (by kernel_rfl) (by kernel_rfl) (KB.refl _ _) ?_
      iterate 2 refine WS.pure rfl rfl (fun _ => LV.mv rfl) ?_
      obtain ⟨A3, c3, e1, g1⟩ := St.elt (SH.rd hS7 (.tail _ (.head _))) (0, 0) i (by omega) (by omega)
      refine WS.pure rfl rfl (fun _ => LV.idxA Try.underlying32 ti37.sz rfl e1 rfl (by omega) (by omega)) ?_
      refine WS.pure rfl rfl (fun _ => LV.fieldA Try.underlying37 rfl ti3.sz rfl) ?_
      refine WS.look rfl rfl (fun _ hk_ => LV.load1 (v := (.int .i64 ((ys1.getD (i).toNat (0, 0)).1))) Try.underlying3 rfl rfl (g1 _ hk_ 0 _ rfl)) ?_
      refine WS.pure rfl rfl (fun _ => LV.as (LV.ltI rfl rfl) (decide_eq_false (by omega))) ?_
      iterate 3 refine WS.pure rfl rfl (fun _ => LV.mv rfl) ?_
      obtain ⟨A4, c4, e2, g2⟩ := St.elt (SH.rd hS7 (.tail _ (.head _))) (0, 0) i (by omega) (by omega)
      refine WS.pure rfl rfl (fun _ => LV.idxA Try.underlying32 ti37.sz rfl e2 rfl (by omega) (by omega)) ?_
      refine WS.pure rfl rfl (fun _ => LV.fieldA Try.underlying37 rfl ti3.sz rfl) ?_
      refine WS.look rfl rfl (fun _ hk_ => LV.load1 (v := (.int .i64 ((ys1.getD (i).toNat (0, 0)).1))) Try.underlying3 rfl rfl (g2 _ hk_ 0 _ rfl)) ?_
      refine WS.pure rfl rfl (fun _ => LV.mv rfl) ?_
      refine WS.pure rfl rfl (fun _ => LV.lenL Try.underlying30 rfl) ?_
      refine WS.pure rfl rfl (fun _ => LV.as (LV.geI rfl rfl) (decide_eq_false (by omega))) ?_
      refine WS.pure rfl rfl (fun _ => LV.pickF rfl rfl) ?_
      iterate 3 refine WS.pure rfl rfl (fun _ => LV.mv rfl) ?_
      obtain ⟨A5, c5, e3, g3⟩ := St.elt (SH.rd hS7 (.tail _ (.head _))) (0, 0) i (by omega) (by omega)
      refine WS.pure rfl rfl (fun _ => LV.idxA Try.underlying32 ti37.sz rfl e3 rfl (by omega) (by omega)) ?_
      refine WS.pure rfl rfl (fun _ => LV.fieldA Try.underlying37 rfl ti27.sz rfl) ?_
      refine WS.look rfl rfl (fun _ hk_ => LV.load1 (v := (.float .f64 ((ys1.getD (i).toNat (0, 0)).2))) Try.underlying27 rfl rfl (g3 _ hk_ 1 _ rfl)) ?_
      iterate 3 refine WS.pure rfl rfl (fun _ => LV.mv rfl) ?_
      obtain ⟨A6, c6, e4, g4⟩ := St.elt (SH.rd hS7 (.tail _ (.head _))) (0, 0) i (by omega) (by omega)
      refine WS.pure rfl rfl (fun _ => LV.idxA Try.underlying32 ti37.sz rfl e4 rfl (by omega) (by omega)) ?_
      refine WS.pure rfl rfl (fun _ => LV.fieldA Try.underlying37 rfl ti3.sz rfl) ?_
      refine WS.look rfl rfl (fun _ hk_ => LV.load1 (v := (.int .i64 ((ys1.getD (i).toNat (0, 0)).1))) Try.underlying3 rfl rfl (g4 _ hk_ 0 _ rfl)) ?_
      obtain ⟨A7, c7, A8, c8, e5, g5, e6, r1⟩ := St.eltRR (St.rrOf (rows := rowsf) (SH.rd hS7 (.tail _ (.tail _ (.head _)))) (SH.stN hS7 hinf)) default ((ys1.getD (i).toNat (0, 0)).1) (by omega) (by omega)
      refine WS.pure rfl rfl (fun _ => LV.idxA Try.underlying30 ti22.sz rfl e5 rfl (by omega) (by omega)) ?_
      refine WS.look rfl rfl (fun _ hk_ => LV.load1 Try.underlying22 rfl rfl (g5 _ hk_)) ?_
      refine WS.pure rfl rfl (fun _ => LV.mv rfl) ?_
      refine WS.call rfl rfl (XC.fn Try.func14 (by kernel_rfl) rfl rfl rfl) (like_calls  (St.inner (St.rrOf (rows := rowsf) (SH.rd hS7 (.tail _ (.tail _ (.head _)))) (SH.stN hS7 hinf)) (getD_mem (by omega)) e6) rfl (SH.stN hS7 (few_rd 40 h_b)) rfl ) ?_
      rintro v_ w6 ⟨r2, rfl, hf1, hf2, hk3⟩
      have hS8 := SH.same hS7 hk3
      have hlk_ := hf1
      refine ⟨fun h_ => (KB.transN (KB.refl _ _) hk3), ?_⟩
      refine WS.call rfl rfl (XC.fn Try.func13 (by kernel_rfl) rfl rfl rfl) (Calls.asB (fsame_calls (a := ((ys1.getD (i).toNat (0, 0)).2)) (b := r2) (by first | assumption | omega | exact hp _ (getD_mem (by omega)) | exact hpz _ (getD_mem (by omega))) (by first | assumption | omega | exact hp _ (getD_mem (by omega)) | exact hpz _ (getD_mem (by omega)))) (decide_eq_true (tk_cn (kl_.trans hlk_.symm)))) ?_
      rintro v_ w7 ⟨rfl, hk4⟩
      have hS9 := SH.same hS8 hk4
      refine ⟨fun h_ => (KB.transN (KB.transN (KB.refl _ _) hk3) hk4), ?_⟩
      refine WS.pure rfl rfl (fun _ => LV.notB rfl) ?_
      refine WS.pure rfl rfl (fun _ => LV.pickF rfl rfl) ?_
      refine WS.nil (thenQ.n ?_)
      refine WC.condF rfl ?_
      refine WC.skip (thenQ.n ?_)
      refine WC.seq ?_
      refine WC.region ?_
      iterate 3 refine WL.lv rfl (LV.mv rfl) ?_
      have hcq_ := q2 (ys1.getD i.toNat (0, 0)).1 k0_ (by omega)
      have hcb_ := cntK_bd ys1 ilo (ys1.getD i.toNat (0, 0)).1
      obtain ⟨A9, c9, e7, g6⟩ := St.elt (SH.rd hS9 (.tail _ (.head _))) (0, 0) i (by omega) (by omega)
      refine WL.lv rfl (LV.idxA Try.underlying32 ti37.sz rfl e7 rfl (by omega) (by omega)) ?_
      refine WL.lv rfl (LV.fieldA Try.underlying37 rfl ti3.sz rfl) ?_
      refine WL.lv rfl (LV.load1 (v := (.int .i64 ((ys1.getD (i).toNat (0, 0)).1))) Try.underlying3 rfl rfl (g6 _ (KB.refl No _) 0 _ rfl)) ?_
      obtain ⟨A10, c10, e8, g7⟩ := St.elt (SH.rd hS9 (.head _)) 0 ((ys1.getD (i).toNat (0, 0)).1) (by omega) (by omega)
      refine WL.lv rfl (LV.idxA Try.underlying46 ti3.sz rfl e8 rfl (by omega) (by omega)) ?_
      refine WL.lv rfl (LV.load1 (v := (.int .i64 (gI seen ((ys1.getD (i).toNat (0, 0)).1)))) Try.underlying3 rfl rfl (g7 _ (KB.refl No _) 0 _ rfl)) ?_
      refine WL.lv rfl (LV.add rfl rfl (wr64 (by omega) (by omega))) ?_
      obtain ⟨A11, c11, e9, g8⟩ := St.elt (SH.rd hS9 (.head _)) 0 ((ys1.getD (i).toNat (0, 0)).1) (by omega) (by omega)
      refine WL.lv rfl (LV.idxA Try.underlying46 ti3.sz rfl e9 rfl (by omega) (by omega)) ?_
      refine WL.xse rfl (XSE.row1 (i := (ys1.getD (i).toNat (0, 0)).1) (o := 0) (k := 0) ((gI seen ((ys1.getD (i).toNat (0, 0)).1)) + 1) hS9 e9 (by omega) (by omega) (by decide) ti3.sz rfl rfl rfl rfl) ?_
      rintro w8 ⟨hS10, hk5⟩
      refine WL.nil (thenQ.n ?_)
      refine WC.seq ?_
      have hS11 := SH.drew hS10
      refine WC.regionD [] (fun w_ => KB No w8.drew w_) [(.pure, 0), (.pure, 1), (.pure, 2), (.pure, 3), (.pure, 4), (.pure, 5), (.pure, 6), (.pure, 7), (.look, 8), (.pure, 9), (.pure, 10), (.pure, 11), (.pure, 12), (.look, 13), (.pure, 14), (.pure, 15), (.pure, 16), (.pure, 17), (.pure, 18), (.pure, 19), (.pure, 20), (.look, 21), (.pure, 22), (.pure, 23), (.pure, 24), (.pure, 25), (.pure, 26), (.look, 27), (.pure, 28), (.pure, 29), (.pure, 30), (.pure, 31), (.pure, 32), (.pure, 33), (.look, 34), (.pure, 35), (.pure, 36), (.pure, 37), (.pure, 38), (.look, 39), (.pure, 40), (.pure, 41), (.pure, 42), (.pure, 43)] (by kernel_rfl) (by kernel_rfl) (KB.refl _ _) ?_
      refine WS.pure rfl rfl (fun _ => LV.mv rfl) ?_
      rcases Decidable.em (i > 0) with hg1 | hg1
      · refine WS.pure rfl rfl (fun _ => LV.as (LV.gtI rfl rfl) (decide_eq_true hg1)) ?_
        iterate 3 refine WS.pure rfl rfl (fun _ => LV.mv rfl) ?_
        refine WS.pure rfl rfl (fun _ => LV.sub rfl rfl (wr64 (by omega) (by omega))) ?_
        have hsr_ := srk_at hwa_ (i := i - 1) (j := i) (by omega) (by omega) (by omega)
        rw [lcf_lt] at hsr_
        have n1_ := nkk_is (ys1.getD (i - 1).toNat (0, 0)).2
        have n2_ := nkk_is (ys1.getD i.toNat (0, 0)).2
        have t1_ := tk_is (ys1.getD (i - 1).toNat (0, 0)).2
        have t2_ := tk_is (ys1.getD i.toNat (0, 0)).2
        obtain ⟨A12, c12, e10, g9⟩ := St.elt (SH.rd hS11 (.tail _ (.head _))) (0, 0) (i - 1) (by omega) (by omega)
        refine WS.pure rfl rfl (fun _ => LV.idxA Try.underlying32 ti37.sz rfl e10 rfl (by omega) (by omega)) ?_
        refine WS.pure rfl rfl (fun _ => LV.fieldA Try.underlying37 rfl ti27.sz rfl) ?_
        refine WS.look rfl rfl (fun _ hk_ => LV.load1 (v := (.float .f64 ((ys1.getD (i - 1).toNat (0, 0)).2))) Try.underlying27 rfl rfl (g9 _ hk_ 1 _ rfl)) ?_
        iterate 2 refine WS.pure rfl rfl (fun _ => LV.mv rfl) ?_
        obtain ⟨A13, c13, e11, g10⟩ := St.elt (SH.rd hS11 (.tail _ (.head _))) (0, 0) i (by omega) (by omega)
        refine WS.pure rfl rfl (fun _ => LV.idxA Try.underlying32 ti37.sz rfl e11 rfl (by omega) (by omega)) ?_
        refine WS.pure rfl rfl (fun _ => LV.fieldA Try.underlying37 rfl ti27.sz rfl) ?_
        refine WS.look rfl rfl (fun _ hk_ => LV.load1 (v := (.float .f64 ((ys1.getD (i).toNat (0, 0)).2))) Try.underlying27 rfl rfl (g10 _ hk_ 1 _ rfl)) ?_
        refine WS.pure rfl rfl (fun _ => LV.as (LV.ltF (a := ((ys1.getD (i - 1).toNat (0, 0)).2)) (b := ((ys1.getD (i).toNat (0, 0)).2)) rfl rfl) (decide_eq_false (by omega))) ?_
        iterate 3 refine WS.pure rfl rfl (fun _ => LV.mv rfl) ?_
        refine WS.pure rfl rfl (fun _ => LV.sub rfl rfl (wr64 (by omega) (by omega))) ?_
        obtain ⟨A14, c14, e12, g11⟩ := St.elt (SH.rd hS11 (.tail _ (.head _))) (0, 0) (i - 1) (by omega) (by omega)
        refine WS.pure rfl rfl (fun _ => LV.idxA Try.underlying32 ti37.sz rfl e12 rfl (by omega) (by omega)) ?_
        refine WS.pure rfl rfl (fun _ => LV.fieldA Try.underlying37 rfl ti27.sz rfl) ?_
        refine WS.look rfl rfl (fun _ hk_ => LV.load1 (v := (.float .f64 ((ys1.getD (i - 1).toNat (0, 0)).2))) Try.underlying27 rfl rfl (g11 _ hk_ 1 _ rfl)) ?_
        iterate 2 refine WS.pure rfl rfl (fun _ => LV.mv rfl) ?_
        refine WS.pure rfl rfl (fun _ => LV.sub rfl rfl (wr64 (by omega) (by omega))) ?_
        obtain ⟨A15, c15, e13, g12⟩ := St.elt (SH.rd hS11 (.tail _ (.head _))) (0, 0) (i - 1) (by omega) (by omega)
        refine WS.pure rfl rfl (fun _ => LV.idxA Try.underlying32 ti37.sz rfl e13 rfl (by omega) (by omega)) ?_
        refine WS.pure rfl rfl (fun _ => LV.fieldA Try.underlying37 rfl ti27.sz rfl) ?_
        refine WS.look rfl rfl (fun _ hk_ => LV.load1 (v := (.float .f64 ((ys1.getD (i - 1).toNat (0, 0)).2))) Try.underlying27 rfl rfl (g12 _ hk_ 1 _ rfl)) ?_
        rcases Decidable.em (¬ (((-9218868437227405312 ≤ sk ((ys1.getD (i - 1).toNat (0, 0)).2) ∧ sk ((ys1.getD (i - 1).toNat (0, 0)).2) ≤ 9218868437227405312) ∧ (-9218868437227405312 ≤ sk ((ys1.getD (i - 1).toNat (0, 0)).2) ∧ sk ((ys1.getD (i - 1).toNat (0, 0)).2) ≤ 9218868437227405312)) ∧ sk ((ys1.getD (i - 1).toNat (0, 0)).2) = sk ((ys1.getD (i - 1).toNat (0, 0)).2))) with hg2 | hg2
        · refine WS.pure rfl rfl (fun _ => LV.as (LV.neF (a := ((ys1.getD (i - 1).toNat (0, 0)).2)) (b := ((ys1.getD (i - 1).toNat (0, 0)).2)) rfl rfl) (decide_eq_true hg2)) ?_
          iterate 3 refine WS.pure rfl rfl (fun _ => LV.mv rfl) ?_
          obtain ⟨A16, c16, e14, g13⟩ := St.elt (SH.rd hS11 (.tail _ (.head _))) (0, 0) i (by omega) (by omega)
          refine WS.pure rfl rfl (fun _ => LV.idxA Try.underlying32 ti37.sz rfl e14 rfl (by omega) (by omega)) ?_
          refine WS.pure rfl rfl (fun _ => LV.fieldA Try.underlying37 rfl ti27.sz rfl) ?_
          refine WS.look rfl rfl (fun _ hk_ => LV.load1 (v := (.float .f64 ((ys1.getD (i).toNat (0, 0)).2))) Try.underlying27 rfl rfl (g13 _ hk_ 1 _ rfl)) ?_
          iterate 2 refine WS.pure rfl rfl (fun _ => LV.mv rfl) ?_
          obtain ⟨A17, c17, e15, g14⟩ := St.elt (SH.rd hS11 (.tail _ (.head _))) (0, 0) i (by omega) (by omega)
          refine WS.pure rfl rfl (fun _ => LV.idxA Try.underlying32 ti37.sz rfl e15 rfl (by omega) (by omega)) ?_
          refine WS.pure rfl rfl (fun _ => LV.fieldA Try.underlying37 rfl ti27.sz rfl) ?_
          refine WS.look rfl rfl (fun _ hk_ => LV.load1 (v := (.float .f64 ((ys1.getD (i).toNat (0, 0)).2))) Try.underlying27 rfl rfl (g14 _ hk_ 1 _ rfl)) ?_
          refine WS.pure rfl rfl (fun _ => LV.as (LV.eqF (a := ((ys1.getD (i).toNat (0, 0)).2)) (b := ((ys1.getD (i).toNat (0, 0)).2)) rfl rfl) (decide_eq_false (by omega))) ?_
          refine WS.pure rfl rfl (fun _ => LV.pickT rfl rfl) ?_
          refine WS.pure rfl rfl (fun _ => LV.pickF rfl rfl) ?_
          refine WS.pure rfl rfl (fun _ => LV.pickT rfl rfl) ?_
          refine WS.nil (thenQ.n ?_)
          refine WC.condF rfl ?_
          refine WC.skip (blockQ.n <| thenQ.n ?_)
          refine WC.region ?_
          refine WL.lv rfl (LV.mv rfl) ?_
          refine WL.lv rfl (LV.add rfl rfl (wr64 (by omega) (by omega))) ?_
          refine WL.lv rfl (LV.asg rfl) ?_
          refine WL.nil (thenQ.n ?_)
          exact ⟨_, by omega, (seen.set ((ys1.getD (i).toNat (0, 0)).1).toNat ((gI seen ((ys1.getD (i).toNat (0, 0)).1)) + 1)), i + 1, by omega, by omega, (by simp; omega), (seen_step ilo (by omega) (by omega) q2 k0_ (by omega)), hS11, rfl, Weak.cons rfl <| Weak.cons rfl <| Weak.cons rfl <| Weak.cons rfl <| Weak.cons rfl <| Weak.nil _⟩
        · refine WS.pure rfl rfl (fun _ => LV.as (LV.neF (a := ((ys1.getD (i - 1).toNat (0, 0)).2)) (b := ((ys1.getD (i - 1).toNat (0, 0)).2)) rfl rfl) (decide_eq_false hg2)) ?_
          refine WS.pure rfl rfl (fun _ => LV.mv rfl) ?_
          iterate 4 refine WS.off rfl rfl ?_
          refine WS.offL rfl rfl ?_
          iterate 4 refine WS.off rfl rfl ?_
          refine WS.offL rfl rfl ?_
          refine WS.off rfl rfl ?_
          iterate 2 refine WS.pure rfl rfl (fun _ => LV.pickF rfl rfl) ?_
          refine WS.pure rfl rfl (fun _ => LV.pickT rfl rfl) ?_
          refine WS.nil (thenQ.n ?_)
          refine WC.condF rfl ?_
          refine WC.skip (blockQ.n <| thenQ.n ?_)
          refine WC.region ?_
          refine WL.lv rfl (LV.mv rfl) ?_
          refine WL.lv rfl (LV.add rfl rfl (wr64 (by omega) (by omega))) ?_
          refine WL.lv rfl (LV.asg rfl) ?_
          refine WL.nil (thenQ.n ?_)
          exact ⟨_, by omega, (seen.set ((ys1.getD (i).toNat (0, 0)).1).toNat ((gI seen ((ys1.getD (i).toNat (0, 0)).1)) + 1)), i + 1, by omega, by omega, (by simp; omega), (seen_step ilo (by omega) (by omega) q2 k0_ (by omega)), hS11, rfl, Weak.cons rfl <| Weak.cons rfl <| Weak.cons rfl <| Weak.cons rfl <| Weak.cons rfl <| Weak.nil _⟩
      · refine WS.pure rfl rfl (fun _ => LV.as (LV.gtI rfl rfl) (decide_eq_false hg1)) ?_
        refine WS.pure rfl rfl (fun _ => LV.mv rfl) ?_
        iterate 5 refine WS.off rfl rfl ?_
        refine WS.offL rfl rfl ?_
        iterate 4 refine WS.off rfl rfl ?_
        refine WS.offL rfl rfl ?_
        iterate 7 refine WS.off rfl rfl ?_
        refine WS.offL rfl rfl ?_
        iterate 5 refine WS.off rfl rfl ?_
        refine WS.offL rfl rfl ?_
        iterate 6 refine WS.off rfl rfl ?_
        refine WS.offL rfl rfl ?_
        iterate 4 refine WS.off rfl rfl ?_
        refine WS.offL rfl rfl ?_
        iterate 3 refine WS.off rfl rfl ?_
        refine WS.pure rfl rfl (fun _ => LV.pickF rfl rfl) ?_
        refine WS.nil (thenQ.n ?_)
        refine WC.condF rfl ?_
        refine WC.skip (blockQ.n <| thenQ.n ?_)
        refine WC.region ?_
        refine WL.lv rfl (LV.mv rfl) ?_
        refine WL.lv rfl (LV.add rfl rfl (wr64 (by omega) (by omega))) ?_
        refine WL.lv rfl (LV.asg rfl) ?_
        refine WL.nil (thenQ.n ?_)
        exact ⟨_, by omega, (seen.set ((ys1.getD (i).toNat (0, 0)).1).toNat ((gI seen ((ys1.getD (i).toNat (0, 0)).1)) + 1)), i + 1, by omega, by omega, (by simp; omega), (seen_step ilo (by omega) (by omega) q2 k0_ (by omega)), hS11, rfl, Weak.cons rfl <| Weak.cons rfl <| Weak.cons rfl <| Weak.cons rfl <| Weak.cons rfl <| Weak.nil _⟩
    · skip
      refine WC.exit (thenQ.x <| thenQ.x <| blockQ.hit <| thenQ.n ?_)
      iterate 2 refine WC.seq ?_
      refine WC.region ?_
      refine WL.lv rfl (LV.asg rfl) ?_
      refine WL.nil (thenQ.n ?_)
      refine WC.block ?_
      refine WC.loop (fun m_ f_ w_ => ∃ (i2 : Int), (0 ≤ i2) ∧ (i2 ≤ (rowsf.length : Int)) ∧ SH w No w_ [rowE eI 3 (.slice (some ⟨b1, 0, none⟩) rowsf.length rowsf.length) seen, rowE eK 37 (.slice A2 ys1.length c2) ys1, rowE eV 22 (.slice A1 rowsf.length c1) (rowsf.map (fun p : SV × List Ln => p.1))] ∧ m_ = (((rowsf.length : Int) - i2).toNat) ∧ Weak (lit [(6, (.slice (some ⟨b1, 0, none⟩) rowsf.length rowsf.length)), (8, (.int .i64 i2))]) f_) _ ⟨0, by omega, by omega, hL1, rfl, Weak.cons rfl <| Weak.cons rfl <| Weak.nil _⟩ ?_
      rintro m2 f2 w9 ⟨i2, i2lo, i2hi, hL2, rfl, hw2⟩
      refine WC.weak hw2 ?_
      clear hw2
      iterate 2 refine WC.seq ?_
      refine WC.region ?_
      iterate 2 refine WL.lv rfl (LV.mv rfl) ?_
      refine WL.lv rfl (LV.lenL Try.underlying46 rfl) ?_
      refine WL.lv rfl (LV.ltI rfl rfl) ?_
      refine WL.nil (thenQ.n ?_)
      refine WC.condP (p := i2 < (rowsf.length : Int)) rfl (fun hk2 => ?_) (fun hk2 => ?_)
      · skip
        refine WC.skip (thenQ.n ?_)
        refine WC.seq ?_
        refine WC.block ?_
        refine WC.seq ?_
        refine WC.region ?_
        iterate 2 refine WL.lv rfl (LV.mv rfl) ?_
        obtain ⟨A18, c18, e16, g15⟩ := St.elt (SH.rd hL2 (.head _)) 0 i2 (by omega) (by omega)
        refine WL.lv rfl (LV.idxA Try.underlying46 ti3.sz rfl e16 rfl (by omega) (by omega)) ?_
        refine WL.lv rfl (LV.load1 (v := (.int .i64 (gI seen (i2)))) Try.underlying3 rfl rfl (g15 _ (KB.refl No _) 0 _ rfl)) ?_
        refine WL.lv rfl (LV.as (LV.neI rfl rfl) (decide_eq_false (by have h1_ := q2 i2 (by omega) (by omega); have h2_ := cntK_all hKa_ hpa_ (i := i) (by omega) (t := i2) (by omega) (by omega); omega))) ?_
        refine WL.nil (thenQ.n ?_)
        refine WC.condF rfl ?_
        refine WC.skip (blockQ.n <| thenQ.n ?_)
        refine WC.region ?_
        refine WL.lv rfl (LV.mv rfl) ?_
        refine WL.lv rfl (LV.add rfl rfl (wr64 (by omega) (by omega))) ?_
        refine WL.lv rfl (LV.asg rfl) ?_
        refine WL.nil (thenQ.n ?_)
        exact ⟨_, by omega, i2 + 1, by omega, by omega, hL2, rfl, Weak.cons rfl <| Weak.cons rfl <| Weak.nil _⟩
      · skip
        refine WC.exit (thenQ.x <| thenQ.x <| blockQ.hit <| thenQ.n ?_)
        refine WC.seq ?_
        refine WC.region ?_
        refine WL.call rfl (XC.fn Try.func10 (by kernel_rfl) rfl rfl rfl) (live23_calls  ) ?_
        rintro v_ w10 ⟨rfl, hk6⟩
        have hS12 := SH.same hL2 hk6
        refine WL.lv rfl (LV.asg rfl) ?_
        refine WL.nil (thenQ.n ?_)
        refine WC.ret (?_)
        exact ⟨_, fun a ha => res1 rfl ha rfl, rfl, hS12.kb⟩

end Go.Proofs.Ythmjieikbeemhaa
