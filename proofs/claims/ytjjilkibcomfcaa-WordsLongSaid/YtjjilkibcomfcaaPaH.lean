/- The document's. -/
import Derived.Test.YtjjilkibcomfcaaPaG
namespace Go.Proofs.Ytjjilkibcomfcaa
open Go Go.Gv Go.RowKit Go.Mys Go.Itn Go.Pat
set_option linter.unusedVariables false
set_option linter.unusedSimpArgs false

def PairsN (N : Nat) : Prop := ∀ {w : World} {A_a : Option Addr} {n_a c_a : Nat} {a : List Int} {A_b : Option Addr} {n_b c_b : Nat} {b : List Int} (h_a : St No w (Rd eI (.slice A_a n_a c_a) a)) (hn_a : a.length = n_a) (h_b : St No w (Rd eI (.slice A_b n_b c_b) b)) (hn_b : b.length = n_b) (ha4 : a.length ≤ 400) (hb4 : b.length ≤ 400) (hN : a.length + b.length < N), Calls Try.prog 47 #[(.slice A_a n_a c_a), (.slice A_b n_b c_b)] w fun e w' => ∃ v, e = .returned v ∧ (fun v w' => ∃ (A0' : Option Addr) (c0' : Nat), v = .slice A0' (PR a b).length c0' ∧ SH w No w' [rowE eP 65 (.slice A0' (PR a b).length c0') (PR a b)]) v w'

set_option maxHeartbeats 2000000 in
theorem pairs_step {w : World} {A_a : Option Addr} {n_a c_a : Nat} {a : List Int} {A_b : Option Addr} {n_b c_b : Nat} {b : List Int} (h_a : St No w (Rd eI (.slice A_a n_a c_a) a)) (hn_a : a.length = n_a) (h_b : St No w (Rd eI (.slice A_b n_b c_b) b)) (hn_b : b.length = n_b) {N : Nat} (IH : PairsN N) (ha4 : a.length ≤ 400) (hb4 : b.length ≤ 400) (hN : a.length + b.length ≤ N) :
    Calls Try.prog 47 #[(.slice A_a n_a c_a), (.slice A_b n_b c_b)] w fun e w' => ∃ v, e = .returned v ∧ (fun v w' => ∃ (A0' : Option Addr) (c0' : Nat), v = .slice A0' (PR a b).length c0' ∧ SH w No w' [rowE eP 65 (.slice A0' (PR a b).length c0') (PR a b)]) v w' := by
  subst hn_a hn_b
  have hup := ANC_up a b
  have hal_ := hup.len
  have hS : SH w No w [] := SH.nil _ _
  refine calls (l := litOf [(.slice A_a a.length c_a), (.slice A_b b.length c_b)] 0) Try.func47 rfl (n := 137) rfl (Nat.le_of_ble_eq_true rfl) (lit_args _) ?_
  refine WC.seq ?_
  refine WC.region ?_
  refine WL.lv rfl (LV.asg rfl) ?_
  refine WL.nil (thenQ.n ?_)
  iterate 2 refine WC.seq ?_
  refine WC.region ?_
  refine WL.lv rfl (LV.mv rfl) ?_
  refine WL.lv rfl (LV.lenL Try.underlying54 rfl) ?_
  rcases Decidable.em ((a.length : Int) = 0) with hg1 | hg1
  · refine WL.lv rfl (LV.as (LV.eqI rfl rfl) (decide_eq_true hg1)) ?_
    refine WL.lv rfl (LV.mv rfl) ?_
    iterate 3 refine WL.off rfl ?_
    refine WL.lv rfl (LV.pickT rfl rfl) ?_
    refine WL.nil (thenQ.n ?_)
    refine WC.condT rfl ?_
    refine WC.seq ?_
    refine WC.region ?_
    refine WL.xe rfl (XE.buildSlice (E := eP) [] #[] [] hS Try.underlying63 ti65 rfl (by decide) (by kernel_rfl) (.inr rfl) rfl rfl (by decide)) ?_
    rintro _ w1 ⟨b1, rfl, hS1, hk1⟩
    refine WL.lv rfl (LV.asg rfl) ?_
    refine WL.nil (thenQ.n ?_)
    refine WC.ret (thenQ.r <| ?_)
    have hres1 : ([] : List (Int × Int)) = PR a b := (PR_nil (by rcases Nat.eq_zero_or_pos a.length with h_ | h_; exact .inl (List.eq_nil_of_length_eq_zero h_); exact .inr (List.eq_nil_of_length_eq_zero (by omega)))).symm
    exact ⟨_, fun a ha => res1 rfl ha rfl, (by rw [← hres1]; exact ⟨_, _, rfl, hS1⟩)⟩
  · refine WL.lv rfl (LV.as (LV.eqI rfl rfl) (decide_eq_false hg1)) ?_
    iterate 2 refine WL.lv rfl (LV.mv rfl) ?_
    refine WL.lv rfl (LV.lenL Try.underlying54 rfl) ?_
    refine WL.lv rfl (LV.eqI rfl rfl) ?_
    refine WL.lv rfl (LV.pickF rfl rfl) ?_
    refine WL.nil (thenQ.n ?_)
    refine WC.condP (p := (b.length : Int) = 0) rfl (fun hc1 => ?_) (fun hc1 => ?_)
    · skip
      refine WC.seq ?_
      refine WC.region ?_
      refine WL.xe rfl (XE.buildSlice (E := eP) [] #[] [] hS Try.underlying63 ti65 rfl (by decide) (by kernel_rfl) (.inr rfl) rfl rfl (by decide)) ?_
      rintro _ w2 ⟨b2, rfl, hS2, hk2⟩
      refine WL.lv rfl (LV.asg rfl) ?_
      refine WL.nil (thenQ.n ?_)
      refine WC.ret (thenQ.r <| ?_)
      have hres2 : ([] : List (Int × Int)) = PR a b := (PR_nil (by rcases Nat.eq_zero_or_pos a.length with h_ | h_; exact .inl (List.eq_nil_of_length_eq_zero h_); exact .inr (List.eq_nil_of_length_eq_zero (by omega)))).symm
      exact ⟨_, fun a ha => res1 rfl ha rfl, (by rw [← hres2]; exact ⟨_, _, rfl, hS2⟩)⟩
    · skip
      refine WC.skip (thenQ.n ?_)
      iterate 2 refine WC.seq ?_
      have hS3 := SH.drew hS
      refine WC.regionD [] (fun w_ => KB No w.drew w_) [(.pure, 0), (.pure, 1), (.look, 2), (.pure, 3), (.pure, 4), (.look, 5), (.pure, 6)] (by kernel_rfl) (by kernel_rfl) (KB.refl _ _) ?_
      refine WS.pure rfl rfl (fun _ => LV.mv rfl) ?_
      obtain ⟨A1, c1, e1, g1⟩ := St.elt (SH.stN hS3 h_a) 0 (0 : Int) (by omega) (by omega)
      refine WS.pure rfl rfl (fun _ => LV.idxA Try.underlying54 ti3.sz rfl e1 rfl (by omega) (by omega)) ?_
      refine WS.look rfl rfl (fun _ hk_ => LV.load1 (v := (.int .i64 (gI a ((0 : Int))))) Try.underlying3 rfl rfl (g1 _ hk_ 0 _ rfl)) ?_
      refine WS.pure rfl rfl (fun _ => LV.mv rfl) ?_
      obtain ⟨A2, c2, e2, g2⟩ := St.elt (SH.stN hS3 h_b) 0 (0 : Int) (by omega) (by omega)
      refine WS.pure rfl rfl (fun _ => LV.idxA Try.underlying54 ti3.sz rfl e2 rfl (by omega) (by omega)) ?_
      refine WS.look rfl rfl (fun _ hk_ => LV.load1 (v := (.int .i64 (gI b ((0 : Int))))) Try.underlying3 rfl rfl (g2 _ hk_ 0 _ rfl)) ?_
      refine WS.pure rfl rfl (fun _ => LV.eqI rfl rfl) ?_
      refine WS.nil (thenQ.n ?_)
      refine WC.condP (p := (gI a ((0 : Int))) = (gI b ((0 : Int)))) rfl (fun h25 => ?_) (fun h25 => ?_)
      · skip
        refine WC.seq ?_
        have hS4 := SH.drew hS3
        refine WC.regionD [8] (fun w_ => KB No w.drew.drew w_) [(.pure, 0), (.pure, 2), (.pure, 3), (.pure, 4), (.pure, 5), (.fork, 0), (.fork, 0), (.fork, 0), (.fork, 0), (.fork, 0)] (by kernel_rfl) (by kernel_rfl) (KB.refl _ _) ?_
        refine WS.pure rfl rfl (fun _ => LV.buildA (vs := [(0, (.int .i64 0)), (1, (.int .i64 0))]) (cs := #[(.int .i64 0), (.int .i64 0)]) Try.underlying65 ti65 ti3 rfl rfl) ?_
        refine WS.pure rfl rfl (fun _ => LV.mv rfl) ?_
        have hcap1 : a.length ≤ c_a := (Rd.cap (St.now (SH.stN hS4 h_a)))
        refine WS.pure rfl rfl (fun _ => LV.cut (l := 1) Try.underlying54 ti3.sz rfl rfl rfl rfl ⟨.inr ⟨.i64, rfl⟩, .inl ⟨rfl, rfl, rfl⟩, .inl ⟨rfl, rfl⟩⟩ (by omega) (by omega) (by omega)) ?_
        refine WS.pure rfl rfl (fun _ => LV.mv rfl) ?_
        have hcap2 : b.length ≤ c_b := (Rd.cap (St.now (SH.stN hS4 h_b)))
        refine WS.pure rfl rfl (fun _ => LV.cut (l := 1) Try.underlying54 ti3.sz rfl rfl rfl rfl ⟨.inr ⟨.i64, rfl⟩, .inl ⟨rfl, rfl, rfl⟩, .inl ⟨rfl, rfl⟩⟩ (by omega) (by omega) (by omega)) ?_
        refine WS.fork (WSX.two 1 6 (by kernel_rfl) ?_ ?_)
        · refine WO.xe rfl rfl (XE.buildSlice (E := eP) [(0, (.agg #[(.int .i64 0), (.int .i64 0)]))] #[(.int .i64 0), (.int .i64 0)] [(0, 0)] hS4 Try.underlying63 ti65 rfl (by decide) (by kernel_rfl) (.inr rfl) rfl rfl (by decide)) ?_
          rintro _ w3 ⟨b3, rfl, hS5, hk3⟩
          refine ⟨fun h_ => (KB.transN (KB.refl _ _) hk3), ?_⟩
          refine WSX.of [(.forced, 6), (.forced, 7), (.forced, 8), (.pure, 9)] (by kernel_rfl) rfl ?_
          refine WS.call rfl rfl (XC.fn Try.func47 (by kernel_rfl) rfl rfl rfl) (IH  ((SH.stN hS5 h_a).imp fun _ h => Rd.cut h (by omega) (by omega) (by omega) (by omega)) (by first | (simp; done) | (simp; omega) | (simp only [List.length_drop, List.length_take]; omega) | omega) ((SH.stN hS5 h_b).imp fun _ h => Rd.cut h (by omega) (by omega) (by omega) (by omega)) (by first | (simp; done) | (simp; omega) | (simp only [List.length_drop, List.length_take]; omega) | omega) (by first | omega | (simp only [List.length_drop, List.length_take]; omega)) (by first | omega | (simp only [List.length_drop, List.length_take]; omega)) (by simp only [List.length_drop, List.length_take]; omega)) ?_
          rintro v_ w4 ⟨A3, c3, rfl, hS6⟩
          have hS7 := SH.joinN hS5 hS6
          refine ⟨fun h_ => (KB.transN (KB.transN (KB.refl _ _) hk3) hS6.kb), ?_⟩
          refine WS.call rfl rfl (XC.fn Try.func52 (by kernel_rfl) rfl rfl rfl) (moved_calls (i := (1 : Int)) (j := (1 : Int)) (SH.rd hS7 (.head _)) rfl (Nat.le_trans (PR_up _ _).len (by simp only [List.length_drop, List.length_take]; omega)) (fun q_ hq_ => by have h_ := (PR_up _ _).bd q_ hq_; simp only [List.length_drop, List.length_take] at h_; omega) (by omega) (by omega)) ?_
          rintro v_ w5 ⟨A4, c4, rfl, hS8⟩
          have hS9 := SH.joinN hS7 hS8
          refine ⟨fun h_ => (KB.transN (KB.transN (KB.transN (KB.refl _ _) hk3) hS6.kb) hS8.kb), ?_⟩
          have hS10 : SH w No w5 [rowE eP 65 (.slice (some ⟨b3, 0, none⟩) 1 1) [(0, 0)], rowE eP 65 (.slice A4 ((mvd (PR ((a.take a.length).drop 1) ((b.take b.length).drop 1)) (1 : Int) (1 : Int)).length) c4) (mvd (PR ((a.take a.length).drop 1) ((b.take b.length).drop 1)) (1 : Int) (1 : Int)), rowE eP 65 (.slice A3 ((PR ((a.take a.length).drop 1) ((b.take b.length).drop 1)).length) c3) (PR ((a.take a.length).drop 1) ((b.take b.length).drop 1))] := (SH.front [rowE eP 65 (.slice A4 ((mvd (PR ((a.take a.length).drop 1) ((b.take b.length).drop 1)) (1 : Int) (1 : Int)).length) c4) (mvd (PR ((a.take a.length).drop 1) ((b.take b.length).drop 1)) (1 : Int) (1 : Int)), rowE eP 65 (.slice A3 ((PR ((a.take a.length).drop 1) ((b.take b.length).drop 1)).length) c3) (PR ((a.take a.length).drop 1) ((b.take b.length).drop 1))] hS9)
          refine WS.xe rfl rfl (XE.append hS10 Try.underlying63 ti65 rfl (St.now (SH.rd hS10 (.tail _ (.head _)))) rfl rfl (by have h_ := PR_len ((a.take a.length).drop 1) ((b.take b.length).drop 1); simp only [List.length_drop, List.length_take, mvd_len, List.length_cons, List.length_nil] at h_ ⊢; omega) (by have h_ := PR_len ((a.take a.length).drop 1) ((b.take b.length).drop 1); simp only [List.length_drop, List.length_take, mvd_len, List.length_cons, List.length_nil] at h_ ⊢; omega)) ?_
          rintro _ w6 ⟨A5, c5, rfl, hS11, hk4⟩
          refine ⟨fun h_ => (by cases h_), ?_⟩
          refine WS.pure rfl rfl (fun _ => LV.asg rfl) ?_
          refine WS.nil (thenQ.n ?_)
          refine WC.ret (thenQ.r <| ?_)
          have hS12 : SH w No w6 [rowE eP 65 (.slice A5 (([(0, 0)] ++ (mvd (PR ((a.take a.length).drop 1) ((b.take b.length).drop 1)) (1 : Int) (1 : Int))).length) c5) ([(0, 0)] ++ (mvd (PR ((a.take a.length).drop 1) ((b.take b.length).drop 1)) (1 : Int) (1 : Int)))] := (SH.take 1 rfl hS11)
          have hres3 : (([(0, 0)] ++ (mvd (PR ((a.take a.length).drop 1) ((b.take b.length).drop 1)) (1 : Int) (1 : Int))) : List (Int × Int)) = PR a b := pr_first (by omega) (by omega) h25
          exact ⟨_, fun a ha => res1 rfl ha rfl, (by rw [← hres3]; exact ⟨_, _, rfl, hS12⟩)⟩
        · refine WO.call rfl rfl (XC.fn Try.func47 (by kernel_rfl) rfl rfl rfl) (IH  ((SH.stN hS4 h_a).imp fun _ h => Rd.cut h (by omega) (by omega) (by omega) (by omega)) (by first | (simp; done) | (simp; omega) | (simp only [List.length_drop, List.length_take]; omega) | omega) ((SH.stN hS4 h_b).imp fun _ h => Rd.cut h (by omega) (by omega) (by omega) (by omega)) (by first | (simp; done) | (simp; omega) | (simp only [List.length_drop, List.length_take]; omega) | omega) (by first | omega | (simp only [List.length_drop, List.length_take]; omega)) (by first | omega | (simp only [List.length_drop, List.length_take]; omega)) (by simp only [List.length_drop, List.length_take]; omega)) ?_
          rintro v_ w7 ⟨A6, c6, rfl, hS13⟩
          have hS14 := SH.joinN hS4 hS13
          refine ⟨fun h_ => (KB.transN (KB.refl _ _) hS13.kb), ?_⟩
          refine WSX.of [(.fork, 0), (.fork, 0), (.fork, 0), (.fork, 0)] (by kernel_rfl) rfl ?_
          refine WS.fork (WSX.two 1 7 (by kernel_rfl) ?_ ?_)
          · refine WO.xe rfl rfl (XE.buildSlice (E := eP) [(0, (.agg #[(.int .i64 0), (.int .i64 0)]))] #[(.int .i64 0), (.int .i64 0)] [(0, 0)] hS14 Try.underlying63 ti65 rfl (by decide) (by kernel_rfl) (.inr rfl) rfl rfl (by decide)) ?_
            rintro _ w8 ⟨b4, rfl, hS15, hk5⟩
            refine ⟨fun h_ => (KB.transN (KB.transN (KB.refl _ _) hS13.kb) hk5), ?_⟩
            refine WSX.of [(.forced, 7), (.forced, 8), (.pure, 9)] (by kernel_rfl) rfl ?_
            refine WS.call rfl rfl (XC.fn Try.func52 (by kernel_rfl) rfl rfl rfl) (moved_calls (i := (1 : Int)) (j := (1 : Int)) (SH.rd hS15 (.tail _ (.head _))) rfl (Nat.le_trans (PR_up _ _).len (by simp only [List.length_drop, List.length_take]; omega)) (fun q_ hq_ => by have h_ := (PR_up _ _).bd q_ hq_; simp only [List.length_drop, List.length_take] at h_; omega) (by omega) (by omega)) ?_
            rintro v_ w9 ⟨A7, c7, rfl, hS16⟩
            have hS17 := SH.joinN hS15 hS16
            refine ⟨fun h_ => (KB.transN (KB.transN (KB.transN (KB.refl _ _) hS13.kb) hk5) hS16.kb), ?_⟩
            have hS18 : SH w No w9 [rowE eP 65 (.slice (some ⟨b4, 0, none⟩) 1 1) [(0, 0)], rowE eP 65 (.slice A7 ((mvd (PR ((a.take a.length).drop 1) ((b.take b.length).drop 1)) (1 : Int) (1 : Int)).length) c7) (mvd (PR ((a.take a.length).drop 1) ((b.take b.length).drop 1)) (1 : Int) (1 : Int)), rowE eP 65 (.slice A6 ((PR ((a.take a.length).drop 1) ((b.take b.length).drop 1)).length) c6) (PR ((a.take a.length).drop 1) ((b.take b.length).drop 1))] := (SH.front [rowE eP 65 (.slice A7 ((mvd (PR ((a.take a.length).drop 1) ((b.take b.length).drop 1)) (1 : Int) (1 : Int)).length) c7) (mvd (PR ((a.take a.length).drop 1) ((b.take b.length).drop 1)) (1 : Int) (1 : Int))] hS17)
            refine WS.xe rfl rfl (XE.append hS18 Try.underlying63 ti65 rfl (St.now (SH.rd hS18 (.tail _ (.head _)))) rfl rfl (by have h_ := PR_len ((a.take a.length).drop 1) ((b.take b.length).drop 1); simp only [List.length_drop, List.length_take, mvd_len, List.length_cons, List.length_nil] at h_ ⊢; omega) (by have h_ := PR_len ((a.take a.length).drop 1) ((b.take b.length).drop 1); simp only [List.length_drop, List.length_take, mvd_len, List.length_cons, List.length_nil] at h_ ⊢; omega)) ?_
            rintro _ w10 ⟨A8, c8, rfl, hS19, hk6⟩
            refine ⟨fun h_ => (by cases h_), ?_⟩
            refine WS.pure rfl rfl (fun _ => LV.asg rfl) ?_
            refine WS.nil (thenQ.n ?_)
            refine WC.ret (thenQ.r <| ?_)
            have hS20 : SH w No w10 [rowE eP 65 (.slice A8 (([(0, 0)] ++ (mvd (PR ((a.take a.length).drop 1) ((b.take b.length).drop 1)) (1 : Int) (1 : Int))).length) c8) ([(0, 0)] ++ (mvd (PR ((a.take a.length).drop 1) ((b.take b.length).drop 1)) (1 : Int) (1 : Int)))] := (SH.take 1 rfl hS19)
            have hres4 : (([(0, 0)] ++ (mvd (PR ((a.take a.length).drop 1) ((b.take b.length).drop 1)) (1 : Int) (1 : Int))) : List (Int × Int)) = PR a b := pr_first (by omega) (by omega) h25
            exact ⟨_, fun a ha => res1 rfl ha rfl, (by rw [← hres4]; exact ⟨_, _, rfl, hS20⟩)⟩
          · refine WO.call rfl rfl (XC.fn Try.func52 (by kernel_rfl) rfl rfl rfl) (moved_calls (i := (1 : Int)) (j := (1 : Int)) (SH.rd hS14 (.head _)) rfl (Nat.le_trans (PR_up _ _).len (by simp only [List.length_drop, List.length_take]; omega)) (fun q_ hq_ => by have h_ := (PR_up _ _).bd q_ hq_; simp only [List.length_drop, List.length_take] at h_; omega) (by omega) (by omega)) ?_
            rintro v_ w11 ⟨A9, c9, rfl, hS21⟩
            have hS22 := SH.joinN hS14 hS21
            refine ⟨fun h_ => (KB.transN (KB.transN (KB.refl _ _) hS13.kb) hS21.kb), ?_⟩
            refine WSX.of [(.forced, 1), (.forced, 8), (.pure, 9)] (by kernel_rfl) rfl ?_
            refine WS.xe rfl rfl (XE.buildSlice (E := eP) [(0, (.agg #[(.int .i64 0), (.int .i64 0)]))] #[(.int .i64 0), (.int .i64 0)] [(0, 0)] hS22 Try.underlying63 ti65 rfl (by decide) (by kernel_rfl) (.inr rfl) rfl rfl (by decide)) ?_
            rintro _ w12 ⟨b5, rfl, hS23, hk7⟩
            refine ⟨fun h_ => (KB.transN (KB.transN (KB.transN (KB.refl _ _) hS13.kb) hS21.kb) hk7), ?_⟩
            refine WS.xe rfl rfl (XE.append hS23 Try.underlying63 ti65 rfl (St.now (SH.rd hS23 (.tail _ (.head _)))) rfl rfl (by have h_ := PR_len ((a.take a.length).drop 1) ((b.take b.length).drop 1); simp only [List.length_drop, List.length_take, mvd_len, List.length_cons, List.length_nil] at h_ ⊢; omega) (by have h_ := PR_len ((a.take a.length).drop 1) ((b.take b.length).drop 1); simp only [List.length_drop, List.length_take, mvd_len, List.length_cons, List.length_nil] at h_ ⊢; omega)) ?_
            rintro _ w13 ⟨A10, c10, rfl, hS24, hk8⟩
            refine ⟨fun h_ => (by cases h_), ?_⟩
            refine WS.pure rfl rfl (fun _ => LV.asg rfl) ?_
            refine WS.nil (thenQ.n ?_)
            refine WC.ret (thenQ.r <| ?_)
            have hS25 : SH w No w13 [rowE eP 65 (.slice A10 (([(0, 0)] ++ (mvd (PR ((a.take a.length).drop 1) ((b.take b.length).drop 1)) (1 : Int) (1 : Int))).length) c10) ([(0, 0)] ++ (mvd (PR ((a.take a.length).drop 1) ((b.take b.length).drop 1)) (1 : Int) (1 : Int)))] := (SH.take 1 rfl hS24)
            have hres5 : (([(0, 0)] ++ (mvd (PR ((a.take a.length).drop 1) ((b.take b.length).drop 1)) (1 : Int) (1 : Int))) : List (Int × Int)) = PR a b := pr_first (by omega) (by omega) h25
            exact ⟨_, fun a ha => res1 rfl ha rfl, (by rw [← hres5]; exact ⟨_, _, rfl, hS25⟩)⟩
      · skip
        refine WC.skip (thenQ.n ?_)
        iterate 2 refine WC.seq ?_
        have hS26 := SH.drew hS3
        refine WC.regionD [] (fun w_ => KB No w.drew.drew w_) [(.pure, 0), (.pure, 1), (.pure, 2), (.pure, 3), (.pure, 4), (.look, 5), (.pure, 6), (.pure, 7), (.pure, 8), (.pure, 9), (.pure, 10), (.look, 11), (.pure, 12)] (by kernel_rfl) (by kernel_rfl) (KB.refl _ _) ?_
        iterate 2 refine WS.pure rfl rfl (fun _ => LV.mv rfl) ?_
        refine WS.pure rfl rfl (fun _ => LV.lenL Try.underlying54 rfl) ?_
        refine WS.pure rfl rfl (fun _ => LV.sub rfl rfl (wr64 (by omega) (by omega))) ?_
        obtain ⟨A11, c11, e3, g3⟩ := St.elt (SH.stN hS26 h_a) 0 ((a.length : Int) - 1) (by omega) (by omega)
        refine WS.pure rfl rfl (fun _ => LV.idxA Try.underlying54 ti3.sz rfl e3 rfl (by omega) (by omega)) ?_
        refine WS.look rfl rfl (fun _ hk_ => LV.load1 (v := (.int .i64 (gI a ((a.length : Int) - 1)))) Try.underlying3 rfl rfl (g3 _ hk_ 0 _ rfl)) ?_
        iterate 2 refine WS.pure rfl rfl (fun _ => LV.mv rfl) ?_
        refine WS.pure rfl rfl (fun _ => LV.lenL Try.underlying54 rfl) ?_
        refine WS.pure rfl rfl (fun _ => LV.sub rfl rfl (wr64 (by omega) (by omega))) ?_
        obtain ⟨A12, c12, e4, g4⟩ := St.elt (SH.stN hS26 h_b) 0 ((b.length : Int) - 1) (by omega) (by omega)
        refine WS.pure rfl rfl (fun _ => LV.idxA Try.underlying54 ti3.sz rfl e4 rfl (by omega) (by omega)) ?_
        refine WS.look rfl rfl (fun _ hk_ => LV.load1 (v := (.int .i64 (gI b ((b.length : Int) - 1)))) Try.underlying3 rfl rfl (g4 _ hk_ 0 _ rfl)) ?_
        refine WS.pure rfl rfl (fun _ => LV.eqI rfl rfl) ?_
        refine WS.nil (thenQ.n ?_)
        refine WC.condP (p := (gI a ((a.length : Int) - 1)) = (gI b ((b.length : Int) - 1))) rfl (fun h47 => ?_) (fun h47 => ?_)
        · skip
          refine WC.seq ?_
          have hS27 := SH.drew hS26
          refine WC.regionD [19] (fun w_ => KB No w.drew.drew.drew w_) [(.pure, 0), (.pure, 1), (.pure, 2), (.pure, 3), (.pure, 4), (.pure, 5), (.pure, 6), (.pure, 7), (.pure, 8), (.pure, 9), (.pure, 11), (.pure, 12), (.pure, 13), (.pure, 14), (.pure, 15), (.pure, 16), (.pure, 17), (.fork, 0), (.fork, 0), (.fork, 0), (.fork, 0)] (by kernel_rfl) (by kernel_rfl) (KB.refl _ _) ?_
          iterate 2 refine WS.pure rfl rfl (fun _ => LV.mv rfl) ?_
          refine WS.pure rfl rfl (fun _ => LV.lenL Try.underlying54 rfl) ?_
          refine WS.pure rfl rfl (fun _ => LV.sub rfl rfl (wr64 (by omega) (by omega))) ?_
          have hcap3 : a.length ≤ c_a := (Rd.cap (St.now (SH.stN hS27 h_a)))
          refine WS.pure rfl rfl (fun _ => LV.cut Try.underlying54 ti3.sz rfl rfl rfl rfl ⟨.inl ⟨rfl, rfl⟩, .inr ⟨.i64, by rw [Int.toNat_of_nonneg (a := (a.length : Int) - 1) (by omega)] <;> rfl⟩, .inl ⟨rfl, rfl⟩⟩ (by omega) (by omega) (by omega)) ?_
          iterate 2 refine WS.pure rfl rfl (fun _ => LV.mv rfl) ?_
          refine WS.pure rfl rfl (fun _ => LV.lenL Try.underlying54 rfl) ?_
          refine WS.pure rfl rfl (fun _ => LV.sub rfl rfl (wr64 (by omega) (by omega))) ?_
          have hcap4 : b.length ≤ c_b := (Rd.cap (St.now (SH.stN hS27 h_b)))
          refine WS.pure rfl rfl (fun _ => LV.cut Try.underlying54 ti3.sz rfl rfl rfl rfl ⟨.inl ⟨rfl, rfl⟩, .inr ⟨.i64, by rw [Int.toNat_of_nonneg (a := (b.length : Int) - 1) (by omega)] <;> rfl⟩, .inl ⟨rfl, rfl⟩⟩ (by omega) (by omega) (by omega)) ?_
          refine WS.pure rfl rfl (fun _ => LV.mv rfl) ?_
          refine WS.pure rfl rfl (fun _ => LV.lenL Try.underlying54 rfl) ?_
          refine WS.pure rfl rfl (fun _ => LV.sub rfl rfl (wr64 (by omega) (by omega))) ?_
          refine WS.pure rfl rfl (fun _ => LV.mv rfl) ?_
          refine WS.pure rfl rfl (fun _ => LV.lenL Try.underlying54 rfl) ?_
          refine WS.pure rfl rfl (fun _ => LV.sub rfl rfl (wr64 (by omega) (by omega))) ?_
          refine WS.pure rfl rfl (fun _ => LV.buildA (vs := [(0, (.int .i64 ((a.length : Int) - 1))), (1, (.int .i64 ((b.length : Int) - 1)))]) (cs := #[(.int .i64 ((a.length : Int) - 1)), (.int .i64 ((b.length : Int) - 1))]) Try.underlying65 ti65 ti3 rfl rfl) ?_
          refine WS.fork (WSX.two 10 18 (by kernel_rfl) ?_ ?_)
          · refine WO.call rfl rfl (XC.fn Try.func47 (by kernel_rfl) rfl rfl rfl) (IH  ((SH.stN hS27 h_a).imp fun _ h => Rd.cut h (by omega) (by omega) (by omega) (by omega)) (by first | (simp; done) | (simp; omega) | (simp only [List.length_drop, List.length_take]; omega) | omega) ((SH.stN hS27 h_b).imp fun _ h => Rd.cut h (by omega) (by omega) (by omega) (by omega)) (by first | (simp; done) | (simp; omega) | (simp only [List.length_drop, List.length_take]; omega) | omega) (by first | omega | (simp only [List.length_drop, List.length_take]; omega)) (by first | omega | (simp only [List.length_drop, List.length_take]; omega)) (by simp only [List.length_drop, List.length_take]; omega)) ?_
            rintro v_ w14 ⟨A13, c13, rfl, hS28⟩
            have hS29 := SH.joinN hS27 hS28
            refine ⟨fun h_ => (KB.transN (KB.refl _ _) hS28.kb), ?_⟩
            refine WSX.of [(.forced, 18), (.forced, 19), (.pure, 20)] (by kernel_rfl) rfl ?_
            refine WS.xe rfl rfl (XE.buildSlice (E := eP) [(0, (.agg #[(.int .i64 ((a.length : Int) - 1)), (.int .i64 ((b.length : Int) - 1))]))] #[(.int .i64 ((a.length : Int) - 1)), (.int .i64 ((b.length : Int) - 1))] [((a.length : Int) - 1, (b.length : Int) - 1)] hS29 Try.underlying63 ti65 rfl (by decide) (by kernel_rfl) (.inr rfl) rfl rfl (by decide)) ?_
            rintro _ w15 ⟨b6, rfl, hS30, hk9⟩
            refine ⟨fun h_ => (KB.transN (KB.transN (KB.refl _ _) hS28.kb) hk9), ?_⟩
            have hS31 : SH w No w15 [rowE eP 65 (.slice A13 ((PR ((a.take (((a.length : Int) - 1).toNat)).drop 0) ((b.take (((b.length : Int) - 1).toNat)).drop 0)).length) c13) (PR ((a.take (((a.length : Int) - 1).toNat)).drop 0) ((b.take (((b.length : Int) - 1).toNat)).drop 0)), rowE eP 65 (.slice (some ⟨b6, 0, none⟩) 1 1) [((a.length : Int) - 1, (b.length : Int) - 1)]] := (SH.front [rowE eP 65 (.slice (some ⟨b6, 0, none⟩) 1 1) [((a.length : Int) - 1, (b.length : Int) - 1)]] hS30)
            refine WS.xe rfl rfl (XE.append hS31 Try.underlying63 ti65 rfl (St.now (SH.rd hS31 (.tail _ (.head _)))) rfl rfl (by have h_ := PR_len ((a.take ((a.length : Int) - 1).toNat).drop 0) ((b.take ((b.length : Int) - 1).toNat).drop 0); simp only [List.length_drop, List.length_take, List.length_cons, List.length_nil] at h_ ⊢; omega) (by have h_ := PR_len ((a.take ((a.length : Int) - 1).toNat).drop 0) ((b.take ((b.length : Int) - 1).toNat).drop 0); simp only [List.length_drop, List.length_take, List.length_cons, List.length_nil] at h_ ⊢; omega)) ?_
            rintro _ w16 ⟨A14, c14, rfl, hS32, hk10⟩
            refine ⟨fun h_ => (by cases h_), ?_⟩
            refine WS.pure rfl rfl (fun _ => LV.asg rfl) ?_
            refine WS.nil (thenQ.n ?_)
            refine WC.ret (thenQ.r <| ?_)
            have hS33 : SH w No w16 [rowE eP 65 (.slice A14 (((PR ((a.take (((a.length : Int) - 1).toNat)).drop 0) ((b.take (((b.length : Int) - 1).toNat)).drop 0)) ++ [((a.length : Int) - 1, (b.length : Int) - 1)]).length) c14) ((PR ((a.take (((a.length : Int) - 1).toNat)).drop 0) ((b.take (((b.length : Int) - 1).toNat)).drop 0)) ++ [((a.length : Int) - 1, (b.length : Int) - 1)])] := (SH.take 1 rfl hS32)
            have hres6 : (((PR ((a.take (((a.length : Int) - 1).toNat)).drop 0) ((b.take (((b.length : Int) - 1).toNat)).drop 0)) ++ [((a.length : Int) - 1, (b.length : Int) - 1)]) : List (Int × Int)) = PR a b := pr_last (by omega) (by omega) h25 h47
            exact ⟨_, fun a ha => res1 rfl ha rfl, (by rw [← hres6]; exact ⟨_, _, rfl, hS33⟩)⟩
          · refine WO.xe rfl rfl (XE.buildSlice (E := eP) [(0, (.agg #[(.int .i64 ((a.length : Int) - 1)), (.int .i64 ((b.length : Int) - 1))]))] #[(.int .i64 ((a.length : Int) - 1)), (.int .i64 ((b.length : Int) - 1))] [((a.length : Int) - 1, (b.length : Int) - 1)] hS27 Try.underlying63 ti65 rfl (by decide) (by kernel_rfl) (.inr rfl) rfl rfl (by decide)) ?_
            rintro _ w17 ⟨b7, rfl, hS34, hk11⟩
            refine ⟨fun h_ => (KB.transN (KB.refl _ _) hk11), ?_⟩
            refine WSX.of [(.forced, 10), (.forced, 19), (.pure, 20)] (by kernel_rfl) rfl ?_
            refine WS.call rfl rfl (XC.fn Try.func47 (by kernel_rfl) rfl rfl rfl) (IH  ((SH.stN hS34 h_a).imp fun _ h => Rd.cut h (by omega) (by omega) (by omega) (by omega)) (by first | (simp; done) | (simp; omega) | (simp only [List.length_drop, List.length_take]; omega) | omega) ((SH.stN hS34 h_b).imp fun _ h => Rd.cut h (by omega) (by omega) (by omega) (by omega)) (by first | (simp; done) | (simp; omega) | (simp only [List.length_drop, List.length_take]; omega) | omega) (by first | omega | (simp only [List.length_drop, List.length_take]; omega)) (by first | omega | (simp only [List.length_drop, List.length_take]; omega)) (by simp only [List.length_drop, List.length_take]; omega)) ?_
            rintro v_ w18 ⟨A15, c15, rfl, hS35⟩
            have hS36 := SH.joinN hS34 hS35
            refine ⟨fun h_ => (KB.transN (KB.transN (KB.refl _ _) hk11) hS35.kb), ?_⟩
            refine WS.xe rfl rfl (XE.append hS36 Try.underlying63 ti65 rfl (St.now (SH.rd hS36 (.tail _ (.head _)))) rfl rfl (by have h_ := PR_len ((a.take ((a.length : Int) - 1).toNat).drop 0) ((b.take ((b.length : Int) - 1).toNat).drop 0); simp only [List.length_drop, List.length_take, List.length_cons, List.length_nil] at h_ ⊢; omega) (by have h_ := PR_len ((a.take ((a.length : Int) - 1).toNat).drop 0) ((b.take ((b.length : Int) - 1).toNat).drop 0); simp only [List.length_drop, List.length_take, List.length_cons, List.length_nil] at h_ ⊢; omega)) ?_
            rintro _ w19 ⟨A16, c16, rfl, hS37, hk12⟩
            refine ⟨fun h_ => (by cases h_), ?_⟩
            refine WS.pure rfl rfl (fun _ => LV.asg rfl) ?_
            refine WS.nil (thenQ.n ?_)
            refine WC.ret (thenQ.r <| ?_)
            have hS38 : SH w No w19 [rowE eP 65 (.slice A16 (((PR ((a.take (((a.length : Int) - 1).toNat)).drop 0) ((b.take (((b.length : Int) - 1).toNat)).drop 0)) ++ [((a.length : Int) - 1, (b.length : Int) - 1)]).length) c16) ((PR ((a.take (((a.length : Int) - 1).toNat)).drop 0) ((b.take (((b.length : Int) - 1).toNat)).drop 0)) ++ [((a.length : Int) - 1, (b.length : Int) - 1)])] := (SH.take 1 rfl hS37)
            have hres7 : (((PR ((a.take (((a.length : Int) - 1).toNat)).drop 0) ((b.take (((b.length : Int) - 1).toNat)).drop 0)) ++ [((a.length : Int) - 1, (b.length : Int) - 1)]) : List (Int × Int)) = PR a b := pr_last (by omega) (by omega) h25 h47
            exact ⟨_, fun a ha => res1 rfl ha rfl, (by rw [← hres7]; exact ⟨_, _, rfl, hS38⟩)⟩
        · skip
          refine WC.skip (thenQ.n ?_)
          refine WC.seq ?_
          refine WC.region ?_
          iterate 2 refine WL.lv rfl (LV.mv rfl) ?_
          refine WL.call rfl (XC.fn Try.func53 (by kernel_rfl) rfl rfl rfl) (ranchors_calls  (SH.stN hS26 h_a) rfl (SH.stN hS26 h_b) rfl (by omega) (by omega)) ?_
          rintro v_ w20 ⟨A17, c17, rfl, hS39⟩
          have hS40 := SH.joinN hS26 hS39
          refine WL.lv rfl (LV.asg rfl) ?_
          refine WL.nil (thenQ.n ?_)
          iterate 2 refine WC.seq ?_
          refine WC.region ?_
          refine WL.lv rfl (LV.mv rfl) ?_
          refine WL.lv rfl (LV.lenL Try.underlying63 rfl) ?_
          refine WL.lv rfl (LV.eqI rfl rfl) ?_
          refine WL.nil (thenQ.n ?_)
          refine WC.condP (p := ((ANC a b).length : Int) = 0) rfl (fun h73 => ?_) (fun h73 => ?_)
          · skip
            refine WC.seq ?_
            refine WC.region ?_
            iterate 2 refine WL.lv rfl (LV.mv rfl) ?_
            refine WL.call rfl (XC.fn Try.func54 (by kernel_rfl) rfl rfl rfl) (rpairs_calls (SH.stN hS40 h_a) (SH.stN hS40 h_b)) ?_
            rintro v_ w21 ⟨A18, c18, rfl, hS41⟩
            have hS42 := SH.joinN hS40 hS41
            refine WL.lv rfl (LV.asg rfl) ?_
            refine WL.nil (thenQ.n ?_)
            refine WC.ret (thenQ.r <| ?_)
            have hS43 : SH w No w21 [rowE eP 65 (.slice A18 ((Prs a b).length) c18) (Prs a b)] := (SH.take 1 rfl hS42)
            have hres8 : ((Prs a b) : List (Int × Int)) = PR a b := inner_none ha4 hb4 (apart_of h25 h47) (by omega)
            exact ⟨_, fun a ha => res1 rfl ha rfl, (by rw [← hres8]; exact ⟨_, _, rfl, hS43⟩)⟩
          · skip
            refine WC.skip (thenQ.n ?_)
            refine WC.seq ?_
            refine WC.region ?_
            refine WL.xe rfl (XE.buildSlice (E := eP) [] #[] [] hS40 Try.underlying63 ti65 rfl (by decide) (by kernel_rfl) (.inr rfl) rfl rfl (by decide)) ?_
            rintro _ w22 ⟨b8, rfl, hS44, hk13⟩
            refine WL.lv rfl (LV.asg rfl) ?_
            refine WL.nil (thenQ.n ?_)
            refine WC.seq ?_
            refine WC.region ?_
            refine WL.lv rfl (LV.asg rfl) ?_
            refine WL.nil (thenQ.n ?_)
            refine WC.seq ?_
            refine WC.region ?_
            refine WL.lv rfl (LV.asg rfl) ?_
            refine WL.nil (thenQ.n ?_)
            iterate 2 refine WC.seq ?_
            refine WC.region ?_
            refine WL.lv rfl (LV.asg rfl) ?_
            refine WL.nil (thenQ.n ?_)
            refine WC.block ?_
            refine WC.loop (fun m_ f_ w_ => ∃ (A_out : Option Addr) (c_out : Nat) (out : List (Int × Int)) (x : Int) (y : Int) (k : Int), (0 ≤ k) ∧ (k ≤ ((ANC a b).length : Int)) ∧ (out ++ seg PR a b ((ANC a b).drop k.toNat) x y = PR a b) ∧ (0 ≤ x ∧ (k = 0 ∨ 1 ≤ x)) ∧ (0 ≤ y) ∧ (x ≤ a.length) ∧ (y ≤ b.length) ∧ (∀ t : Int, k ≤ t → t < (ANC a b).length → x ≤ ((ANC a b).getD t.toNat (0, 0)).1 ∧ y ≤ ((ANC a b).getD t.toNat (0, 0)).2) ∧ (2 * (out.length : Int) ≤ x + y) ∧ SH w No w_ [rowE eP 65 (.slice A_out out.length c_out) out, rowE eP 65 (.slice A17 ((ANC a b).length) c17) (ANC a b)] ∧ m_ = ((((ANC a b).length : Int) - k).toNat) ∧ Weak (lit [(0, (.slice A_a a.length c_a)), (1, (.slice A_b b.length c_b)), (5, (.slice A17 ((ANC a b).length) c17)), (6, (.slice A_out out.length c_out)), (7, (.int .i64 x)), (8, (.int .i64 y)), (9, (.int .i64 k))]) f_) _ ⟨(some ⟨b8, 0, none⟩), 0, [], 0, 0, 0, by omega, by omega, (rs_0 (apart_of h25 h47) (by omega)), by omega, by omega, by omega, by omega, (fun t h1_ h2_ => by have h_ := hup.at (t := t) (by omega) h2_; omega), (by simp), hS44, rfl, Weak.cons rfl <| Weak.cons rfl <| Weak.cons rfl <| Weak.cons rfl <| Weak.cons rfl <| Weak.cons rfl <| Weak.cons rfl <| Weak.nil _⟩ ?_
            rintro m1 f1 w23 ⟨A_out, c_out, out, x, y, k, klo, khi, s1, x0, y0, x1, y1, xk, s2, hL1, rfl, hw1⟩
            refine WC.weak hw1 ?_
            clear hw1
            iterate 2 refine WC.seq ?_
            refine WC.region ?_
            iterate 2 refine WL.lv rfl (LV.mv rfl) ?_
            refine WL.lv rfl (LV.lenL Try.underlying63 rfl) ?_
            refine WL.lv rfl (LV.ltI rfl rfl) ?_
            refine WL.nil (thenQ.n ?_)
            refine WC.condP (p := k < ((ANC a b).length : Int)) rfl (fun hk => ?_) (fun hk => ?_)
            · have hp_ := hup.at klo hk
              have hp0_ := hp_.1
              have hp1_ := hp_.2.1
              have hp2_ := hp_.2.2.1
              have hp3_ := hp_.2.2.2.1
              have hp4_ := hp_.2.2.2.2
              have hxk_ := xk k (by omega) hk
              have hpl_ := PR_len ((a.take ((ANC a b).getD k.toNat (0, 0)).1.toNat).drop x.toNat) ((b.take ((ANC a b).getD k.toNat (0, 0)).2.toNat).drop y.toNat)
              simp only [List.length_drop, List.length_take] at hpl_
              refine WC.skip (thenQ.n ?_)
              refine WC.seq ?_
              refine WC.block ?_
              refine WC.seq ?_
              have hS45 := SH.drew hL1
              refine WC.regionD [21] (fun w_ => KB No w23.drew w_) [(.pure, 0), (.pure, 1), (.pure, 2), (.pure, 3), (.pure, 4), (.pure, 5), (.pure, 6), (.look, 7), (.pure, 8), (.pure, 9), (.pure, 10), (.pure, 11), (.pure, 12), (.pure, 13), (.pure, 14), (.look, 15), (.pure, 16), (.pure, 18), (.pure, 19), (.forced, 17), (.forced, 20), (.forced, 21), (.pure, 22)] (by kernel_rfl) (by kernel_rfl) (KB.refl _ _) ?_
              iterate 5 refine WS.pure rfl rfl (fun _ => LV.mv rfl) ?_
              obtain ⟨A19, c19, e5, g5⟩ := St.elt (SH.rd hS45 (.tail _ (.head _))) (0, 0) k (by omega) (by omega)
              refine WS.pure rfl rfl (fun _ => LV.idxA Try.underlying63 ti65.sz rfl e5 rfl (by omega) (by omega)) ?_
              refine WS.pure rfl rfl (fun _ => LV.idxArr Try.underlying65 ti3.sz rfl rfl (by decide) (by decide)) ?_
              refine WS.look rfl rfl (fun _ hk_ => LV.load1 (v := (.int .i64 (((ANC a b).getD (k).toNat (0, 0)).1))) Try.underlying3 rfl rfl (g5 _ hk_ 0 _ rfl)) ?_
              have hcap5 : a.length ≤ c_a := (Rd.cap (St.now (SH.stN hS45 h_a)))
              refine WS.pure rfl rfl (fun _ => LV.cut Try.underlying54 ti3.sz rfl rfl rfl rfl ⟨.inr ⟨.i64, by rw [Int.toNat_of_nonneg (a := x) (by omega)] <;> rfl⟩, .inr ⟨.i64, by rw [Int.toNat_of_nonneg (a := ((ANC a b).getD (k).toNat (0, 0)).1) (by omega)] <;> rfl⟩, .inl ⟨rfl, rfl⟩⟩ (by omega) (by omega) (by omega)) ?_
              iterate 4 refine WS.pure rfl rfl (fun _ => LV.mv rfl) ?_
              obtain ⟨A20, c20, e6, g6⟩ := St.elt (SH.rd hS45 (.tail _ (.head _))) (0, 0) k (by omega) (by omega)
              refine WS.pure rfl rfl (fun _ => LV.idxA Try.underlying63 ti65.sz rfl e6 rfl (by omega) (by omega)) ?_
              refine WS.pure rfl rfl (fun _ => LV.idxArr Try.underlying65 ti3.sz rfl rfl (by decide) (by decide)) ?_
              refine WS.look rfl rfl (fun _ hk_ => LV.load1 (v := (.int .i64 (((ANC a b).getD (k).toNat (0, 0)).2))) Try.underlying3 rfl rfl (g6 _ hk_ 1 _ rfl)) ?_
              have hcap6 : b.length ≤ c_b := (Rd.cap (St.now (SH.stN hS45 h_b)))
              refine WS.pure rfl rfl (fun _ => LV.cut Try.underlying54 ti3.sz rfl rfl rfl rfl ⟨.inr ⟨.i64, by rw [Int.toNat_of_nonneg (a := y) (by omega)] <;> rfl⟩, .inr ⟨.i64, by rw [Int.toNat_of_nonneg (a := ((ANC a b).getD (k).toNat (0, 0)).2) (by omega)] <;> rfl⟩, .inl ⟨rfl, rfl⟩⟩ (by omega) (by omega) (by omega)) ?_
              iterate 2 refine WS.pure rfl rfl (fun _ => LV.mv rfl) ?_
              refine WS.call rfl rfl (XC.fn Try.func47 (by kernel_rfl) rfl rfl rfl) (IH  ((SH.stN hS45 h_a).imp fun _ h => Rd.cut h (by omega) (by omega) (by omega) (by omega)) (by first | (simp; done) | (simp; omega) | (simp only [List.length_drop, List.length_take]; omega) | omega) ((SH.stN hS45 h_b).imp fun _ h => Rd.cut h (by omega) (by omega) (by omega) (by omega)) (by first | (simp; done) | (simp; omega) | (simp only [List.length_drop, List.length_take]; omega) | omega) (by first | omega | (simp only [List.length_drop, List.length_take]; omega)) (by first | omega | (simp only [List.length_drop, List.length_take]; omega)) (by simp only [List.length_drop, List.length_take]; omega)) ?_
              rintro v_ w24 ⟨A21, c21, rfl, hS46⟩
              have hS47 := SH.joinN hS45 hS46
              refine ⟨fun h_ => (KB.transN (KB.refl _ _) hS46.kb), ?_⟩
              refine WS.call rfl rfl (XC.fn Try.func52 (by kernel_rfl) rfl rfl rfl) (moved_calls (i := x) (j := y) (SH.rd hS47 (.head _)) rfl (Nat.le_trans (PR_up _ _).len (by simp only [List.length_drop, List.length_take]; omega)) (fun q_ hq_ => by have h_ := (PR_up _ _).bd q_ hq_; simp only [List.length_drop, List.length_take] at h_; omega) (by omega) (by omega)) ?_
              rintro v_ w25 ⟨A22, c22, rfl, hS48⟩
              have hS49 := SH.joinN hS47 hS48
              refine ⟨fun h_ => (KB.transN (KB.transN (KB.refl _ _) hS46.kb) hS48.kb), ?_⟩
              have hS50 : SH w No w25 [rowE eP 65 (.slice A_out out.length c_out) out, rowE eP 65 (.slice A22 ((mvd (PR ((a.take ((((ANC a b).getD (k).toNat (0, 0)).1).toNat)).drop ((x).toNat)) ((b.take ((((ANC a b).getD (k).toNat (0, 0)).2).toNat)).drop ((y).toNat))) x y).length) c22) (mvd (PR ((a.take ((((ANC a b).getD (k).toNat (0, 0)).1).toNat)).drop ((x).toNat)) ((b.take ((((ANC a b).getD (k).toNat (0, 0)).2).toNat)).drop ((y).toNat))) x y), rowE eP 65 (.slice A21 ((PR ((a.take ((((ANC a b).getD (k).toNat (0, 0)).1).toNat)).drop ((x).toNat)) ((b.take ((((ANC a b).getD (k).toNat (0, 0)).2).toNat)).drop ((y).toNat))).length) c21) (PR ((a.take ((((ANC a b).getD (k).toNat (0, 0)).1).toNat)).drop ((x).toNat)) ((b.take ((((ANC a b).getD (k).toNat (0, 0)).2).toNat)).drop ((y).toNat))), rowE eP 65 (.slice A17 ((ANC a b).length) c17) (ANC a b)] := (SH.front [rowE eP 65 (.slice A22 ((mvd (PR ((a.take ((((ANC a b).getD (k).toNat (0, 0)).1).toNat)).drop ((x).toNat)) ((b.take ((((ANC a b).getD (k).toNat (0, 0)).2).toNat)).drop ((y).toNat))) x y).length) c22) (mvd (PR ((a.take ((((ANC a b).getD (k).toNat (0, 0)).1).toNat)).drop ((x).toNat)) ((b.take ((((ANC a b).getD (k).toNat (0, 0)).2).toNat)).drop ((y).toNat))) x y), rowE eP 65 (.slice A21 ((PR ((a.take ((((ANC a b).getD (k).toNat (0, 0)).1).toNat)).drop ((x).toNat)) ((b.take ((((ANC a b).getD (k).toNat (0, 0)).2).toNat)).drop ((y).toNat))).length) c21) (PR ((a.take ((((ANC a b).getD (k).toNat (0, 0)).1).toNat)).drop ((x).toNat)) ((b.take ((((ANC a b).getD (k).toNat (0, 0)).2).toNat)).drop ((y).toNat)))] hS49)
              refine WS.xe rfl rfl (XE.append hS50 Try.underlying63 ti65 rfl (St.now (SH.rd hS50 (.tail _ (.head _)))) rfl rfl (by simp only [mvd_len]; omega) (by simp only [mvd_len]; omega)) ?_
              rintro _ w26 ⟨A23, c23, rfl, hS51, hk14⟩
              refine ⟨fun h_ => (by cases h_), ?_⟩
              refine WS.pure rfl rfl (fun _ => LV.asg rfl) ?_
              refine WS.nil (thenQ.n ?_)
              refine WC.seq ?_
              refine WC.region ?_
              iterate 3 refine WL.lv rfl (LV.mv rfl) ?_
              obtain ⟨A24, c24, e7, g7⟩ := St.elt (SH.rd hS51 (.tail _ (.tail _ (.tail _ (.head _))))) (0, 0) k (by omega) (by omega)
              refine WL.lv rfl (LV.idxA Try.underlying63 ti65.sz rfl e7 rfl (by omega) (by omega)) ?_
              refine WL.lv rfl (LV.loadAgg (cs := [(.int .i64 (((ANC a b).getD (k).toNat (0, 0)).1)), (.int .i64 (((ANC a b).getD (k).toNat (0, 0)).2))]) Try.underlying65 rfl ti65 rfl rfl (fun j u hu => g7 _ (KB.refl No _) j u hu)) ?_
              refine WL.xe rfl (XE.buildSlice (E := eP) [(0, (.agg #[(.int .i64 (((ANC a b).getD (k).toNat (0, 0)).1)), (.int .i64 (((ANC a b).getD (k).toNat (0, 0)).2))]))] #[(.int .i64 (((ANC a b).getD (k).toNat (0, 0)).1)), (.int .i64 (((ANC a b).getD (k).toNat (0, 0)).2))] [(((ANC a b).getD (k).toNat (0, 0)).1, ((ANC a b).getD (k).toNat (0, 0)).2)] hS51 Try.underlying63 ti65 rfl (by decide) (by kernel_rfl) (.inr rfl) rfl rfl (by decide)) ?_
              rintro _ w27 ⟨b9, rfl, hS52, hk15⟩
              have hS53 : SH w No w27 [rowE eP 65 (.slice A23 ((out ++ (mvd (PR ((a.take ((((ANC a b).getD (k).toNat (0, 0)).1).toNat)).drop ((x).toNat)) ((b.take ((((ANC a b).getD (k).toNat (0, 0)).2).toNat)).drop ((y).toNat))) x y)).length) c23) (out ++ (mvd (PR ((a.take ((((ANC a b).getD (k).toNat (0, 0)).1).toNat)).drop ((x).toNat)) ((b.take ((((ANC a b).getD (k).toNat (0, 0)).2).toNat)).drop ((y).toNat))) x y)), rowE eP 65 (.slice (some ⟨b9, 0, none⟩) 1 1) [(((ANC a b).getD (k).toNat (0, 0)).1, ((ANC a b).getD (k).toNat (0, 0)).2)], rowE eP 65 (.slice A22 ((mvd (PR ((a.take ((((ANC a b).getD (k).toNat (0, 0)).1).toNat)).drop ((x).toNat)) ((b.take ((((ANC a b).getD (k).toNat (0, 0)).2).toNat)).drop ((y).toNat))) x y).length) c22) (mvd (PR ((a.take ((((ANC a b).getD (k).toNat (0, 0)).1).toNat)).drop ((x).toNat)) ((b.take ((((ANC a b).getD (k).toNat (0, 0)).2).toNat)).drop ((y).toNat))) x y), rowE eP 65 (.slice A21 ((PR ((a.take ((((ANC a b).getD (k).toNat (0, 0)).1).toNat)).drop ((x).toNat)) ((b.take ((((ANC a b).getD (k).toNat (0, 0)).2).toNat)).drop ((y).toNat))).length) c21) (PR ((a.take ((((ANC a b).getD (k).toNat (0, 0)).1).toNat)).drop ((x).toNat)) ((b.take ((((ANC a b).getD (k).toNat (0, 0)).2).toNat)).drop ((y).toNat))), rowE eP 65 (.slice A17 ((ANC a b).length) c17) (ANC a b)] := (SH.front [rowE eP 65 (.slice (some ⟨b9, 0, none⟩) 1 1) [(((ANC a b).getD (k).toNat (0, 0)).1, ((ANC a b).getD (k).toNat (0, 0)).2)]] hS52)
              refine WL.xe rfl (XE.append hS53 Try.underlying63 ti65 rfl (St.now (SH.rd hS53 (.tail _ (.head _)))) rfl rfl (by simp only [List.length_append, mvd_len, List.length_cons, List.length_nil]; omega) (by simp only [List.length_append, mvd_len, List.length_cons, List.length_nil]; omega)) ?_
              rintro _ w28 ⟨A25, c25, rfl, hS54, hk16⟩
              refine WL.lv rfl (LV.asg rfl) ?_
              refine WL.nil (thenQ.n ?_)
              refine WC.seq ?_
              refine WC.region ?_
              iterate 2 refine WL.lv rfl (LV.mv rfl) ?_
              obtain ⟨A26, c26, e8, g8⟩ := St.elt (SH.rd hS54 (.tail _ (.tail _ (.tail _ (.tail _ (.head _)))))) (0, 0) k (by omega) (by omega)
              refine WL.lv rfl (LV.idxA Try.underlying63 ti65.sz rfl e8 rfl (by omega) (by omega)) ?_
              refine WL.lv rfl (LV.idxArr Try.underlying65 ti3.sz rfl rfl (by decide) (by decide)) ?_
              refine WL.lv rfl (LV.load1 (v := (.int .i64 (((ANC a b).getD (k).toNat (0, 0)).1))) Try.underlying3 rfl rfl (g8 _ (KB.refl No _) 0 _ rfl)) ?_
              refine WL.lv rfl (LV.add rfl rfl (wr64 (by omega) (by omega))) ?_
              refine WL.lv rfl (LV.asg rfl) ?_
              refine WL.nil (thenQ.n ?_)
              refine WC.region ?_
              iterate 2 refine WL.lv rfl (LV.mv rfl) ?_
              obtain ⟨A27, c27, e9, g9⟩ := St.elt (SH.rd hS54 (.tail _ (.tail _ (.tail _ (.tail _ (.head _)))))) (0, 0) k (by omega) (by omega)
              refine WL.lv rfl (LV.idxA Try.underlying63 ti65.sz rfl e9 rfl (by omega) (by omega)) ?_
              refine WL.lv rfl (LV.idxArr Try.underlying65 ti3.sz rfl rfl (by decide) (by decide)) ?_
              refine WL.lv rfl (LV.load1 (v := (.int .i64 (((ANC a b).getD (k).toNat (0, 0)).2))) Try.underlying3 rfl rfl (g9 _ (KB.refl No _) 1 _ rfl)) ?_
              refine WL.lv rfl (LV.add rfl rfl (wr64 (by omega) (by omega))) ?_
              refine WL.lv rfl (LV.asg rfl) ?_
              refine WL.nil (blockQ.n <| thenQ.n ?_)
              refine WC.region ?_
              refine WL.lv rfl (LV.mv rfl) ?_
              refine WL.lv rfl (LV.add rfl rfl (wr64 (by omega) (by omega))) ?_
              refine WL.lv rfl (LV.asg rfl) ?_
              refine WL.nil (thenQ.n ?_)
              have hS55 : SH w No w28 [rowE eP 65 (.slice A25 (((out ++ (mvd (PR ((a.take ((((ANC a b).getD (k).toNat (0, 0)).1).toNat)).drop ((x).toNat)) ((b.take ((((ANC a b).getD (k).toNat (0, 0)).2).toNat)).drop ((y).toNat))) x y)) ++ [(((ANC a b).getD (k).toNat (0, 0)).1, ((ANC a b).getD (k).toNat (0, 0)).2)]).length) c25) ((out ++ (mvd (PR ((a.take ((((ANC a b).getD (k).toNat (0, 0)).1).toNat)).drop ((x).toNat)) ((b.take ((((ANC a b).getD (k).toNat (0, 0)).2).toNat)).drop ((y).toNat))) x y)) ++ [(((ANC a b).getD (k).toNat (0, 0)).1, ((ANC a b).getD (k).toNat (0, 0)).2)]), rowE eP 65 (.slice A17 ((ANC a b).length) c17) (ANC a b)] := (SH.take 2 rfl (SH.front [rowE eP 65 (.slice A17 ((ANC a b).length) c17) (ANC a b)] (SH.front [rowE eP 65 (.slice A25 (((out ++ (mvd (PR ((a.take ((((ANC a b).getD (k).toNat (0, 0)).1).toNat)).drop ((x).toNat)) ((b.take ((((ANC a b).getD (k).toNat (0, 0)).2).toNat)).drop ((y).toNat))) x y)) ++ [(((ANC a b).getD (k).toNat (0, 0)).1, ((ANC a b).getD (k).toNat (0, 0)).2)]).length) c25) ((out ++ (mvd (PR ((a.take ((((ANC a b).getD (k).toNat (0, 0)).1).toNat)).drop ((x).toNat)) ((b.take ((((ANC a b).getD (k).toNat (0, 0)).2).toNat)).drop ((y).toNat))) x y)) ++ [(((ANC a b).getD (k).toNat (0, 0)).1, ((ANC a b).getD (k).toNat (0, 0)).2)]), rowE eP 65 (.slice (some ⟨b9, 0, none⟩) 1 1) [(((ANC a b).getD (k).toNat (0, 0)).1, ((ANC a b).getD (k).toNat (0, 0)).2)], rowE eP 65 (.slice A22 ((mvd (PR ((a.take ((((ANC a b).getD (k).toNat (0, 0)).1).toNat)).drop ((x).toNat)) ((b.take ((((ANC a b).getD (k).toNat (0, 0)).2).toNat)).drop ((y).toNat))) x y).length) c22) (mvd (PR ((a.take ((((ANC a b).getD (k).toNat (0, 0)).1).toNat)).drop ((x).toNat)) ((b.take ((((ANC a b).getD (k).toNat (0, 0)).2).toNat)).drop ((y).toNat))) x y), rowE eP 65 (.slice A21 ((PR ((a.take ((((ANC a b).getD (k).toNat (0, 0)).1).toNat)).drop ((x).toNat)) ((b.take ((((ANC a b).getD (k).toNat (0, 0)).2).toNat)).drop ((y).toNat))).length) c21) (PR ((a.take ((((ANC a b).getD (k).toNat (0, 0)).1).toNat)).drop ((x).toNat)) ((b.take ((((ANC a b).getD (k).toNat (0, 0)).2).toNat)).drop ((y).toNat)))] hS54)))
              exact ⟨_, by omega, A25, c25, ((out ++ (mvd (PR ((a.take ((((ANC a b).getD (k).toNat (0, 0)).1).toNat)).drop ((x).toNat)) ((b.take ((((ANC a b).getD (k).toNat (0, 0)).2).toNat)).drop ((y).toNat))) x y)) ++ [(((ANC a b).getD (k).toNat (0, 0)).1, ((ANC a b).getD (k).toNat (0, 0)).2)]), (((ANC a b).getD (k).toNat (0, 0)).1) + 1, (((ANC a b).getD (k).toNat (0, 0)).2) + 1, k + 1, by omega, by omega, (rs_step klo hk s1), by omega, by omega, by omega, by omega, (fun t h1_ h2_ => by have h_ := hp4_ t (by omega) h2_; omega), (by simp only [List.length_append, mvd_len, List.length_cons, List.length_nil]; omega), hS55, rfl, Weak.cons rfl <| Weak.cons rfl <| Weak.cons rfl <| Weak.cons rfl <| Weak.cons rfl <| Weak.cons rfl <| Weak.cons rfl <| Weak.nil _⟩
            · have hpl_ := PR_len ((a.take a.length).drop x.toNat) ((b.take b.length).drop y.toNat)
              simp only [List.length_drop, List.length_take] at hpl_
              refine WC.exit (thenQ.x <| thenQ.x <| blockQ.hit <| thenQ.n ?_)
              refine WC.seq ?_
              have hS56 := SH.drew hL1
              refine WC.regionD [11] (fun w_ => KB No w23.drew w_) [(.pure, 0), (.pure, 1), (.pure, 2), (.pure, 3), (.pure, 4), (.pure, 5), (.pure, 6), (.pure, 8), (.pure, 9), (.forced, 7), (.forced, 10), (.forced, 11), (.pure, 12)] (by kernel_rfl) (by kernel_rfl) (KB.refl _ _) ?_
              iterate 3 refine WS.pure rfl rfl (fun _ => LV.mv rfl) ?_
              have hcap7 : a.length ≤ c_a := (Rd.cap (St.now (SH.stN hS56 h_a)))
              refine WS.pure rfl rfl (fun _ => LV.cut Try.underlying54 ti3.sz rfl rfl rfl rfl ⟨.inr ⟨.i64, by rw [Int.toNat_of_nonneg (a := x) (by omega)] <;> rfl⟩, .inl ⟨rfl, rfl, rfl⟩, .inl ⟨rfl, rfl⟩⟩ (by omega) (by omega) (by omega)) ?_
              iterate 2 refine WS.pure rfl rfl (fun _ => LV.mv rfl) ?_
              have hcap8 : b.length ≤ c_b := (Rd.cap (St.now (SH.stN hS56 h_b)))
              refine WS.pure rfl rfl (fun _ => LV.cut Try.underlying54 ti3.sz rfl rfl rfl rfl ⟨.inr ⟨.i64, by rw [Int.toNat_of_nonneg (a := y) (by omega)] <;> rfl⟩, .inl ⟨rfl, rfl, rfl⟩, .inl ⟨rfl, rfl⟩⟩ (by omega) (by omega) (by omega)) ?_
              iterate 2 refine WS.pure rfl rfl (fun _ => LV.mv rfl) ?_
              refine WS.call rfl rfl (XC.fn Try.func47 (by kernel_rfl) rfl rfl rfl) (IH  ((SH.stN hS56 h_a).imp fun _ h => Rd.cut h (by omega) (by omega) (by omega) (by omega)) (by first | (simp; done) | (simp; omega) | (simp only [List.length_drop, List.length_take]; omega) | omega) ((SH.stN hS56 h_b).imp fun _ h => Rd.cut h (by omega) (by omega) (by omega) (by omega)) (by first | (simp; done) | (simp; omega) | (simp only [List.length_drop, List.length_take]; omega) | omega) (by first | omega | (simp only [List.length_drop, List.length_take]; omega)) (by first | omega | (simp only [List.length_drop, List.length_take]; omega)) (by simp only [List.length_drop, List.length_take]; omega)) ?_
              rintro v_ w29 ⟨A28, c28, rfl, hS57⟩
              have hS58 := SH.joinN hS56 hS57
              refine ⟨fun h_ => (KB.transN (KB.refl _ _) hS57.kb), ?_⟩
              refine WS.call rfl rfl (XC.fn Try.func52 (by kernel_rfl) rfl rfl rfl) (moved_calls (i := x) (j := y) (SH.rd hS58 (.head _)) rfl (Nat.le_trans (PR_up _ _).len (by simp only [List.length_drop, List.length_take]; omega)) (fun q_ hq_ => by have h_ := (PR_up _ _).bd q_ hq_; simp only [List.length_drop, List.length_take] at h_; omega) (by omega) (by omega)) ?_
              rintro v_ w30 ⟨A29, c29, rfl, hS59⟩
              have hS60 := SH.joinN hS58 hS59
              refine ⟨fun h_ => (KB.transN (KB.transN (KB.refl _ _) hS57.kb) hS59.kb), ?_⟩
              have hS61 : SH w No w30 [rowE eP 65 (.slice A_out out.length c_out) out, rowE eP 65 (.slice A29 ((mvd (PR ((a.take a.length).drop ((x).toNat)) ((b.take b.length).drop ((y).toNat))) x y).length) c29) (mvd (PR ((a.take a.length).drop ((x).toNat)) ((b.take b.length).drop ((y).toNat))) x y), rowE eP 65 (.slice A28 ((PR ((a.take a.length).drop ((x).toNat)) ((b.take b.length).drop ((y).toNat))).length) c28) (PR ((a.take a.length).drop ((x).toNat)) ((b.take b.length).drop ((y).toNat))), rowE eP 65 (.slice A17 ((ANC a b).length) c17) (ANC a b)] := (SH.front [rowE eP 65 (.slice A29 ((mvd (PR ((a.take a.length).drop ((x).toNat)) ((b.take b.length).drop ((y).toNat))) x y).length) c29) (mvd (PR ((a.take a.length).drop ((x).toNat)) ((b.take b.length).drop ((y).toNat))) x y), rowE eP 65 (.slice A28 ((PR ((a.take a.length).drop ((x).toNat)) ((b.take b.length).drop ((y).toNat))).length) c28) (PR ((a.take a.length).drop ((x).toNat)) ((b.take b.length).drop ((y).toNat)))] hS60)
              refine WS.xe rfl rfl (XE.append hS61 Try.underlying63 ti65 rfl (St.now (SH.rd hS61 (.tail _ (.head _)))) rfl rfl (by simp only [mvd_len]; omega) (by simp only [mvd_len]; omega)) ?_
              rintro _ w31 ⟨A30, c30, rfl, hS62, hk17⟩
              refine ⟨fun h_ => (by cases h_), ?_⟩
              refine WS.pure rfl rfl (fun _ => LV.asg rfl) ?_
              refine WS.nil (thenQ.n ?_)
              refine WC.ret (?_)
              have hS63 : SH w No w31 [rowE eP 65 (.slice A30 ((out ++ (mvd (PR ((a.take a.length).drop ((x).toNat)) ((b.take b.length).drop ((y).toNat))) x y)).length) c30) (out ++ (mvd (PR ((a.take a.length).drop ((x).toNat)) ((b.take b.length).drop ((y).toNat))) x y))] := (SH.take 1 rfl hS62)
              have hres9 : ((out ++ (mvd (PR ((a.take a.length).drop ((x).toNat)) ((b.take b.length).drop ((y).toNat))) x y)) : List (Int × Int)) = PR a b := rs_fin (by omega) s1
              exact ⟨_, fun a ha => res1 rfl ha rfl, (by rw [← hres9]; exact ⟨_, _, rfl, hS63⟩)⟩

theorem pairs_N : ∀ N : Nat, PairsN N := by
  intro N; induction N with
  | zero => unfold PairsN; intros; omega
  | succ N ih => unfold PairsN; intros; apply pairs_step (N := N) <;> first | exact ih | assumption | omega
theorem rpairs27_calls {w : World} {A_a : Option Addr} {n_a c_a : Nat} {a : List Int} {A_b : Option Addr} {n_b c_b : Nat} {b : List Int} (h_a : St No w (Rd eI (.slice A_a n_a c_a) a)) (hn_a : a.length = n_a) (h_b : St No w (Rd eI (.slice A_b n_b c_b) b)) (hn_b : b.length = n_b) (ha4 : a.length ≤ 400) (hb4 : b.length ≤ 400) : Calls Try.prog 47 #[(.slice A_a n_a c_a), (.slice A_b n_b c_b)] w fun e w' => ∃ v, e = .returned v ∧ (fun v w' => ∃ (A0' : Option Addr) (c0' : Nat), v = .slice A0' (PR a b).length c0' ∧ SH w No w' [rowE eP 65 (.slice A0' (PR a b).length c0') (PR a b)]) v w' := by
  exact pairs_N (a.length + b.length + 1) h_a hn_a h_b hn_b ha4 hb4 (by omega)

theorem rPairs27_calls {w : World} {A_a : Option Addr} {n_a c_a : Nat} {a : List Int} {A_b : Option Addr} {n_b c_b : Nat} {b : List Int} (h_a : St No w (Rd eI (.slice A_a n_a c_a) a)) (hn_a : a.length = n_a) (h_b : St No w (Rd eI (.slice A_b n_b c_b) b)) (hn_b : b.length = n_b)  :
    Calls Try.prog 41 #[(.slice A_a n_a c_a), (.slice A_b n_b c_b)] w fun e w' => ∃ v, e = .returned v ∧ (fun v w' => ∃ (A0' : Option Addr) (c0' : Nat), v = .slice A0' (PRS a b).length c0' ∧ SH w No w' [rowE eP 65 (.slice A0' (PRS a b).length c0') (PRS a b)]) v w' := by
  subst hn_a hn_b
  have hS : SH w No w [] := SH.nil _ _
  refine calls (l := litOf [(.slice A_a a.length c_a), (.slice A_b b.length c_b)] 0) Try.func41 rfl (n := 17) rfl (Nat.le_of_ble_eq_true rfl) (lit_args _) ?_
  refine WC.seq ?_
  refine WC.region ?_
  refine WL.lv rfl (LV.asg rfl) ?_
  refine WL.nil (thenQ.n ?_)
  iterate 2 refine WC.seq ?_
  refine WC.region ?_
  refine WL.lv rfl (LV.mv rfl) ?_
  refine WL.lv rfl (LV.lenL Try.underlying54 rfl) ?_
  rcases Decidable.em ((a.length : Int) > 400) with hg1 | hg1
  · refine WL.lv rfl (LV.as (LV.gtI rfl rfl) (decide_eq_true hg1)) ?_
    refine WL.lv rfl (LV.mv rfl) ?_
    iterate 3 refine WL.off rfl ?_
    refine WL.lv rfl (LV.pickT rfl rfl) ?_
    refine WL.nil (thenQ.n ?_)
    refine WC.condT rfl ?_
    refine WC.seq ?_
    refine WC.region ?_
    refine WL.xe rfl (XE.buildSlice (E := eP) [] #[] [] hS Try.underlying63 ti65 rfl (by decide) (by kernel_rfl) (.inr rfl) rfl rfl (by decide)) ?_
    rintro _ w1 ⟨b1, rfl, hS1, hk1⟩
    refine WL.lv rfl (LV.asg rfl) ?_
    refine WL.nil (thenQ.n ?_)
    refine WC.ret (thenQ.r <| ?_)
    have hres1 : ([] : List (Int × Int)) = PRS a b := (if_pos (by omega)).symm
    exact ⟨_, fun a ha => res1 rfl ha rfl, (by rw [← hres1]; exact ⟨_, _, rfl, hS1⟩)⟩
  · refine WL.lv rfl (LV.as (LV.gtI rfl rfl) (decide_eq_false hg1)) ?_
    iterate 2 refine WL.lv rfl (LV.mv rfl) ?_
    refine WL.lv rfl (LV.lenL Try.underlying54 rfl) ?_
    refine WL.lv rfl (LV.gtI rfl rfl) ?_
    refine WL.lv rfl (LV.pickF rfl rfl) ?_
    refine WL.nil (thenQ.n ?_)
    refine WC.condP (p := (b.length : Int) > 400) rfl (fun hc1 => ?_) (fun hc1 => ?_)
    · skip
      refine WC.seq ?_
      refine WC.region ?_
      refine WL.xe rfl (XE.buildSlice (E := eP) [] #[] [] hS Try.underlying63 ti65 rfl (by decide) (by kernel_rfl) (.inr rfl) rfl rfl (by decide)) ?_
      rintro _ w2 ⟨b2, rfl, hS2, hk2⟩
      refine WL.lv rfl (LV.asg rfl) ?_
      refine WL.nil (thenQ.n ?_)
      refine WC.ret (thenQ.r <| ?_)
      have hres2 : ([] : List (Int × Int)) = PRS a b := (if_pos (by omega)).symm
      exact ⟨_, fun a ha => res1 rfl ha rfl, (by rw [← hres2]; exact ⟨_, _, rfl, hS2⟩)⟩
    · skip
      refine WC.skip (thenQ.n ?_)
      refine WC.seq ?_
      refine WC.region ?_
      iterate 2 refine WL.lv rfl (LV.mv rfl) ?_
      refine WL.call rfl (XC.fn Try.func47 (by kernel_rfl) rfl rfl rfl) (rpairs27_calls  (SH.stN hS h_a) rfl (SH.stN hS h_b) rfl (by first | omega | (simp only [List.length_drop, List.length_take]; omega)) (by first | omega | (simp only [List.length_drop, List.length_take]; omega))) ?_
      rintro v_ w3 ⟨A1, c1, rfl, hS3⟩
      have hS4 := SH.joinN hS hS3
      refine WL.lv rfl (LV.asg rfl) ?_
      refine WL.nil (thenQ.n ?_)
      refine WC.ret (?_)
      have hres3 : (PR a b : List (Int × Int)) = PRS a b := (if_neg (by omega)).symm
      exact ⟨_, fun a ha => res1 rfl ha rfl, (by rw [← hres3]; exact ⟨_, _, rfl, hS4⟩)⟩

set_option maxHeartbeats 2000000 in
theorem rsteps27_calls {w : World} {A_a : Option Addr} {n_a c_a : Nat} {a : List Int} {A_b : Option Addr} {n_b c_b : Nat} {b : List Int} (h_a : St No w (Rd eI (.slice A_a n_a c_a) a)) (hn_a : a.length = n_a) (h_b : St No w (Rd eI (.slice A_b n_b c_b) b)) (hn_b : b.length = n_b)  :
    Calls Try.prog 32 #[(.slice A_a n_a c_a), (.slice A_b n_b c_b)] w fun e w' => ∃ v, e = .returned v ∧ (fun v w' => ∃ (A0' : Option Addr) (c0' : Nat), v = .slice A0' (STP a b).length c0' ∧ SH w No w' [rowE eI 47 (.slice A0' (STP a b).length c0') (STP a b)]) v w' := by
  subst hn_a hn_b
  have hS : SH w No w [] := SH.nil _ _
  refine calls (l := litOf [(.slice A_a a.length c_a), (.slice A_b b.length c_b)] 0) Try.func32 rfl (n := 77) rfl (Nat.le_of_ble_eq_true rfl) (lit_args _) ?_
  refine WC.seq ?_
  refine WC.region ?_
  refine WL.lv rfl (LV.asg rfl) ?_
  refine WL.nil (thenQ.n ?_)
  refine WC.seq ?_
  refine WC.region ?_
  refine WL.xe rfl (XE.buildSlice (E := eI) [] #[] [] hS Try.underlying52 ti47 rfl (by decide) (by kernel_rfl) (.inr rfl) rfl rfl (by decide)) ?_
  rintro _ w1 ⟨b1, rfl, hS1, hk1⟩
  refine WL.lv rfl (LV.asg rfl) ?_
  refine WL.nil (thenQ.n ?_)
  iterate 2 refine WC.seq ?_
  refine WC.region ?_
  refine WL.lv rfl (LV.mv rfl) ?_
  refine WL.lv rfl (LV.lenL Try.underlying54 rfl) ?_
  rcases Decidable.em ((a.length : Int) > 400) with hg1 | hg1
  · refine WL.lv rfl (LV.as (LV.gtI rfl rfl) (decide_eq_true hg1)) ?_
    refine WL.lv rfl (LV.mv rfl) ?_
    iterate 3 refine WL.off rfl ?_
    refine WL.lv rfl (LV.pickT rfl rfl) ?_
    refine WL.nil (thenQ.n ?_)
    refine WC.condT rfl ?_
    refine WC.seq ?_
    refine WC.region ?_
    refine WL.lv rfl (LV.mv rfl) ?_
    refine WL.lv rfl (LV.asg rfl) ?_
    refine WL.nil (thenQ.n ?_)
    refine WC.ret (thenQ.r <| ?_)
    have hres1 : ([] : List Int) = STP a b := (if_pos (by omega)).symm
    exact ⟨_, fun a ha => res1 rfl ha rfl, (by rw [← hres1]; exact ⟨_, _, rfl, hS1⟩)⟩
  · refine WL.lv rfl (LV.as (LV.gtI rfl rfl) (decide_eq_false hg1)) ?_
    iterate 2 refine WL.lv rfl (LV.mv rfl) ?_
    refine WL.lv rfl (LV.lenL Try.underlying54 rfl) ?_
    refine WL.lv rfl (LV.gtI rfl rfl) ?_
    refine WL.lv rfl (LV.pickF rfl rfl) ?_
    refine WL.nil (thenQ.n ?_)
    refine WC.condP (p := (b.length : Int) > 400) rfl (fun hlong => ?_) (fun hlong => ?_)
    · skip
      refine WC.seq ?_
      refine WC.region ?_
      refine WL.lv rfl (LV.mv rfl) ?_
      refine WL.lv rfl (LV.asg rfl) ?_
      refine WL.nil (thenQ.n ?_)
      refine WC.ret (thenQ.r <| ?_)
      have hres2 : ([] : List Int) = STP a b := (if_pos (by omega)).symm
      exact ⟨_, fun a ha => res1 rfl ha rfl, (by rw [← hres2]; exact ⟨_, _, rfl, hS1⟩)⟩
    · skip
      refine WC.skip (thenQ.n ?_)
      refine WC.seq ?_
      refine WC.region ?_
      iterate 2 refine WL.lv rfl (LV.mv rfl) ?_
      have hlong : ¬ (a.length > 400 ∨ b.length > 400) := by omega
      have hpr : PRS a b = PR a b := if_neg hlong
      have hup := PR_up a b
      rw [← hpr] at hup
      have hpl_ := hup.len
      refine WL.call rfl (XC.fn Try.func41 (by kernel_rfl) rfl rfl rfl) (rPairs27_calls  (SH.stN hS1 h_a) rfl (SH.stN hS1 h_b) rfl ) ?_
      rintro v_ w2 ⟨A1, c1, rfl, hS2⟩
      have hS3 := SH.joinN hS1 hS2
      refine WL.lv rfl (LV.asg rfl) ?_
      refine WL.nil (thenQ.n ?_)
      refine WC.seq ?_
      refine WC.region ?_
      refine WL.lv rfl (LV.asg rfl) ?_
      refine WL.nil (thenQ.n ?_)
      refine WC.seq ?_
      refine WC.region ?_
      refine WL.lv rfl (LV.asg rfl) ?_
      refine WL.nil (thenQ.n ?_)
      iterate 2 refine WC.seq ?_
      refine WC.region ?_
      refine WL.lv rfl (LV.asg rfl) ?_
      refine WL.nil (thenQ.n ?_)
      refine WC.block ?_
      refine WC.loop (fun m_ f_ w_ => ∃ (A_out : Option Addr) (c_out : Nat) (out : List Int) (i : Int) (j : Int) (k : Int), (0 ≤ k) ∧ (k ≤ ((PRS a b).length : Int) + 1) ∧ ((k ≤ (PRS a b).length ∧ out ++ stp a.length b.length ((PRS a b).drop k.toNat) i j = STP a b) ∨ (k = (PRS a b).length + 1 ∧ out = STP a b)) ∧ (0 ≤ i) ∧ (i ≤ a.length) ∧ (0 ≤ j) ∧ (j ≤ b.length) ∧ (∀ t : Int, k ≤ t → t < (PRS a b).length → i ≤ ((PRS a b).getD t.toNat (0, 0)).1 ∧ j ≤ ((PRS a b).getD t.toNat (0, 0)).2) ∧ ((out.length : Int) ≤ i + j) ∧ SH w No w_ [rowE eP 65 (.slice A1 ((PRS a b).length) c1) (PRS a b), rowE eI 47 (.slice A_out out.length c_out) out] ∧ m_ = ((((PRS a b).length : Int) + 1 - k).toNat) ∧ Weak (lit [(0, (.slice A_a a.length c_a)), (1, (.slice A_b b.length c_b)), (5, (.slice A_out out.length c_out)), (6, (.slice A1 ((PRS a b).length) c1)), (7, (.int .i64 i)), (8, (.int .i64 j)), (9, (.int .i64 k))]) f_) _ ⟨(some ⟨b1, 0, none⟩), 0, [], 0, 0, 0, by omega, by omega, (.inl ⟨by omega, by rw [STP_len a b hlong, ← hpr]; rfl⟩), by omega, by omega, by omega, by omega, (fun t h1_ h2_ => by have h_ := hup.at (t := t) (by omega) h2_; omega), (by simp), hS3, rfl, Weak.cons rfl <| Weak.cons rfl <| Weak.cons rfl <| Weak.cons rfl <| Weak.cons rfl <| Weak.cons rfl <| Weak.cons rfl <| Weak.nil _⟩ ?_
      rintro m1 f1 w3 ⟨A_out, c_out, out, i, j, k, klo, khi, s1, x0, x1, y0, y1, xk, s2, hL1, rfl, hw1⟩
      refine WC.weak hw1 ?_
      clear hw1
      iterate 2 refine WC.seq ?_
      refine WC.region ?_
      iterate 2 refine WL.lv rfl (LV.mv rfl) ?_
      refine WL.lv rfl (LV.lenL Try.underlying63 rfl) ?_
      refine WL.lv rfl (LV.leI rfl rfl) ?_
      refine WL.nil (thenQ.n ?_)
      refine WC.condP (p := k ≤ ((PRS a b).length : Int)) rfl (fun hkk => ?_) (fun hkk => ?_)
      · skip
        refine WC.skip (thenQ.n ?_)
        refine WC.seq ?_
        refine WC.block ?_
        refine WC.seq ?_
        refine WC.region ?_
        refine WL.lv rfl (LV.mv rfl) ?_
        refine WL.lv rfl (LV.lenL Try.underlying54 rfl) ?_
        refine WL.lv rfl (LV.asg rfl) ?_
        refine WL.nil (thenQ.n ?_)
        refine WC.seq ?_
        refine WC.region ?_
        refine WL.lv rfl (LV.mv rfl) ?_
        refine WL.lv rfl (LV.lenL Try.underlying54 rfl) ?_
        refine WL.lv rfl (LV.asg rfl) ?_
        refine WL.nil (thenQ.n ?_)
        iterate 2 refine WC.seq ?_
        refine WC.region ?_
        iterate 2 refine WL.lv rfl (LV.mv rfl) ?_
        refine WL.lv rfl (LV.lenL Try.underlying63 rfl) ?_
        refine WL.lv rfl (LV.ltI rfl rfl) ?_
        refine WL.nil (thenQ.n ?_)
        refine WC.condP (p := k < ((PRS a b).length : Int)) rfl (fun hk => ?_) (fun hk => ?_)
        · have hp_ := hup.at klo hk
          have hp0_ := hp_.1
          have hp1_ := hp_.2.1
          have hp2_ := hp_.2.2.1
          have hp3_ := hp_.2.2.2.1
          have hp4_ := hp_.2.2.2.2
          have hxk_ := xk k (by omega) hk
          have hs1_ := (s1.resolve_right (fun h_ => by omega)).2
          refine WC.seq ?_
          refine WC.region ?_
          iterate 2 refine WL.lv rfl (LV.mv rfl) ?_
          obtain ⟨A2, c2, e1, g1⟩ := St.elt (SH.rd hL1 (.head _)) (0, 0) k (by omega) (by omega)
          refine WL.lv rfl (LV.idxA Try.underlying63 ti65.sz rfl e1 rfl (by omega) (by omega)) ?_
          refine WL.lv rfl (LV.idxArr Try.underlying65 ti3.sz rfl rfl (by decide) (by decide)) ?_
          refine WL.lv rfl (LV.load1 (v := (.int .i64 (((PRS a b).getD (k).toNat (0, 0)).1))) Try.underlying3 rfl rfl (g1 _ (KB.refl No _) 0 _ rfl)) ?_
          refine WL.lv rfl (LV.asg rfl) ?_
          refine WL.nil (thenQ.n ?_)
          refine WC.region ?_
          iterate 2 refine WL.lv rfl (LV.mv rfl) ?_
          obtain ⟨A3, c3, e2, g2⟩ := St.elt (SH.rd hL1 (.head _)) (0, 0) k (by omega) (by omega)
          refine WL.lv rfl (LV.idxA Try.underlying63 ti65.sz rfl e2 rfl (by omega) (by omega)) ?_
          refine WL.lv rfl (LV.idxArr Try.underlying65 ti3.sz rfl rfl (by decide) (by decide)) ?_
          refine WL.lv rfl (LV.load1 (v := (.int .i64 (((PRS a b).getD (k).toNat (0, 0)).2))) Try.underlying3 rfl rfl (g2 _ (KB.refl No _) 1 _ rfl)) ?_
          refine WL.lv rfl (LV.asg rfl) ?_
          refine WL.nil (thenQ.n ?_)
          refine WC.seq ?_
          refine WC.block ?_
          refine WC.loop (fun m_ f_ w_ => ∃ (A_out2 : Option Addr) (c_out2 : Nat) (out2 : List Int) (i2 : Int), (0 ≤ i2) ∧ (i2 ≤ ((PRS a b).getD (k).toNat (0, 0)).1) ∧ (out2 = out ++ List.replicate (i2 - i).toNat 2) ∧ (i ≤ i2) ∧ (i2 ≤ ((PRS a b).getD (k).toNat (0, 0)).1) ∧ ((out2.length : Int) = out.length + (i2 - i)) ∧ SH w No w_ [rowE eP 65 (.slice A1 ((PRS a b).length) c1) (PRS a b), rowE eI 47 (.slice A_out2 out2.length c_out2) out2] ∧ m_ = ((((PRS a b).getD (k).toNat (0, 0)).1 - i2).toNat) ∧ Weak (lit [(0, (.slice A_a a.length c_a)), (1, (.slice A_b b.length c_b)), (5, (.slice A_out2 out2.length c_out2)), (6, (.slice A1 ((PRS a b).length) c1)), (7, (.int .i64 i2)), (8, (.int .i64 j)), (9, (.int .i64 k)), (10, (.int .i64 (((PRS a b).getD (k).toNat (0, 0)).1))), (11, (.int .i64 (((PRS a b).getD (k).toNat (0, 0)).2)))]) f_) _ ⟨A_out, c_out, out, i, by omega, by omega, (by simp), by omega, by omega, by omega, hL1, rfl, Weak.cons rfl <| Weak.cons rfl <| Weak.cons rfl <| Weak.cons rfl <| Weak.cons rfl <| Weak.cons rfl <| Weak.cons rfl <| Weak.cons rfl <| Weak.cons rfl <| Weak.nil _⟩ ?_
          rintro m2 f2 w4 ⟨A_out2, c_out2, out2, i2, i2lo, i2hi, t1, t2, t3, t4, hL2, rfl, hw2⟩
          refine WC.weak hw2 ?_
          clear hw2
          iterate 2 refine WC.seq ?_
          refine WC.region ?_
          iterate 2 refine WL.lv rfl (LV.mv rfl) ?_
          refine WL.lv rfl (LV.ltI rfl rfl) ?_
          refine WL.nil (thenQ.n ?_)
          refine WC.condP (p := i2 < (((PRS a b).getD (k).toNat (0, 0)).1)) rfl (fun hc1 => ?_) (fun hc1 => ?_)
          · skip
            refine WC.skip (thenQ.n ?_)
            refine WC.block ?_
            refine WC.seq ?_
            refine WC.region ?_
            refine WL.lv rfl (LV.mv rfl) ?_
            refine WL.xe rfl (XE.buildSlice (E := eI) [(0, (.int .i64 2))] #[(.int .i64 2)] [2] hL2 Try.underlying52 ti47 rfl (by decide) (by kernel_rfl) (.inr rfl) rfl rfl (by decide)) ?_
            rintro _ w5 ⟨b2, rfl, hS4, hk2⟩
            have hS5 : SH w No w5 [rowE eI 47 (.slice A_out2 out2.length c_out2) out2, rowE eI 47 (.slice (some ⟨b2, 0, none⟩) 1 1) [2], rowE eP 65 (.slice A1 ((PRS a b).length) c1) (PRS a b)] := (SH.front [rowE eI 47 (.slice (some ⟨b2, 0, none⟩) 1 1) [2], rowE eP 65 (.slice A1 ((PRS a b).length) c1) (PRS a b)] hS4)
            refine WL.xe rfl (XE.append hS5 Try.underlying52 ti47 rfl (St.now (SH.rd hS5 (.tail _ (.head _)))) rfl rfl (by first | omega | simp only [List.length_append, List.length_cons, List.length_nil, List.length_take, List.length_reverse, List.length_drop] at *; omega) (by first | omega | simp only [List.length_append, List.length_cons, List.length_nil, List.length_take, List.length_reverse, List.length_drop] at *; omega)) ?_
            rintro _ w6 ⟨A4, c4, rfl, hS6, hk3⟩
            refine WL.lv rfl (LV.asg rfl) ?_
            refine WL.nil (thenQ.n ?_)
            refine WC.region ?_
            refine WL.lv rfl (LV.mv rfl) ?_
            refine WL.lv rfl (LV.add rfl rfl (wr64 (by omega) (by omega))) ?_
            refine WL.lv rfl (LV.asg rfl) ?_
            refine WL.nil (blockQ.n <| thenQ.n ?_)
            have hS7 : SH w No w6 [rowE eP 65 (.slice A1 ((PRS a b).length) c1) (PRS a b), rowE eI 47 (.slice A4 ((out2 ++ ([2] : List Int)).length) c4) (out2 ++ ([2] : List Int))] := (SH.take 2 rfl (SH.front [rowE eI 47 (.slice A4 ((out2 ++ ([2] : List Int)).length) c4) (out2 ++ ([2] : List Int)), rowE eI 47 (.slice (some ⟨b2, 0, none⟩) 1 1) [2]] hS6))
            exact ⟨_, by omega, A4, c4, (out2 ++ ([2] : List Int)), i2 + 1, by omega, by omega, (by rw [t1, List.append_assoc, rep_snoc (by omega), show i2 - i + 1 = i2 + 1 - i by omega]), by omega, by omega, (by simp only [List.length_append, List.length_cons, List.length_nil]; omega), hS7, rfl, Weak.cons rfl <| Weak.cons rfl <| Weak.cons rfl <| Weak.cons rfl <| Weak.cons rfl <| Weak.cons rfl <| Weak.cons rfl <| Weak.cons rfl <| Weak.cons rfl <| Weak.nil _⟩
          · skip
            refine WC.exit (thenQ.x <| thenQ.x <| blockQ.hit <| thenQ.n ?_)
            refine WC.seq ?_
            refine WC.block ?_
            refine WC.loop (fun m_ f_ w_ => ∃ (A_out3 : Option Addr) (c_out3 : Nat) (out3 : List Int) (j2 : Int), (0 ≤ j2) ∧ (j2 ≤ ((PRS a b).getD (k).toNat (0, 0)).2) ∧ (out3 = out2 ++ List.replicate (j2 - j).toNat 3) ∧ (j ≤ j2) ∧ (j2 ≤ ((PRS a b).getD (k).toNat (0, 0)).2) ∧ ((out3.length : Int) = out2.length + (j2 - j)) ∧ SH w No w_ [rowE eP 65 (.slice A1 ((PRS a b).length) c1) (PRS a b), rowE eI 47 (.slice A_out3 out3.length c_out3) out3] ∧ m_ = ((((PRS a b).getD (k).toNat (0, 0)).2 - j2).toNat) ∧ Weak (lit [(0, (.slice A_a a.length c_a)), (1, (.slice A_b b.length c_b)), (5, (.slice A_out3 out3.length c_out3)), (6, (.slice A1 ((PRS a b).length) c1)), (7, (.int .i64 i2)), (8, (.int .i64 j2)), (9, (.int .i64 k)), (11, (.int .i64 (((PRS a b).getD (k).toNat (0, 0)).2)))]) f_) _ ⟨A_out2, c_out2, out2, j, by omega, by omega, (by simp), by omega, by omega, by omega, hL2, rfl, Weak.cons rfl <| Weak.cons rfl <| Weak.cons rfl <| Weak.cons rfl <| Weak.cons rfl <| Weak.cons rfl <| Weak.cons rfl <| Weak.cons rfl <| Weak.nil _⟩ ?_
            rintro m3 f3 w7 ⟨A_out3, c_out3, out3, j2, j2lo, j2hi, u1, u2, u3, u4, hL3, rfl, hw3⟩
            refine WC.weak hw3 ?_
            clear hw3
            iterate 2 refine WC.seq ?_
            refine WC.region ?_
            iterate 2 refine WL.lv rfl (LV.mv rfl) ?_
            refine WL.lv rfl (LV.ltI rfl rfl) ?_
            refine WL.nil (thenQ.n ?_)
            refine WC.condP (p := j2 < (((PRS a b).getD (k).toNat (0, 0)).2)) rfl (fun hc2 => ?_) (fun hc2 => ?_)
            · skip
              refine WC.skip (thenQ.n ?_)
              refine WC.block ?_
              refine WC.seq ?_
              refine WC.region ?_
              refine WL.lv rfl (LV.mv rfl) ?_
              refine WL.xe rfl (XE.buildSlice (E := eI) [(0, (.int .i64 3))] #[(.int .i64 3)] [3] hL3 Try.underlying52 ti47 rfl (by decide) (by kernel_rfl) (.inr rfl) rfl rfl (by decide)) ?_
              rintro _ w8 ⟨b3, rfl, hS8, hk4⟩
              have hS9 : SH w No w8 [rowE eI 47 (.slice A_out3 out3.length c_out3) out3, rowE eI 47 (.slice (some ⟨b3, 0, none⟩) 1 1) [3], rowE eP 65 (.slice A1 ((PRS a b).length) c1) (PRS a b)] := (SH.front [rowE eI 47 (.slice (some ⟨b3, 0, none⟩) 1 1) [3], rowE eP 65 (.slice A1 ((PRS a b).length) c1) (PRS a b)] hS8)
              refine WL.xe rfl (XE.append hS9 Try.underlying52 ti47 rfl (St.now (SH.rd hS9 (.tail _ (.head _)))) rfl rfl (by first | omega | simp only [List.length_append, List.length_cons, List.length_nil, List.length_take, List.length_reverse, List.length_drop] at *; omega) (by first | omega | simp only [List.length_append, List.length_cons, List.length_nil, List.length_take, List.length_reverse, List.length_drop] at *; omega)) ?_
              rintro _ w9 ⟨A5, c5, rfl, hS10, hk5⟩
              refine WL.lv rfl (LV.asg rfl) ?_
              refine WL.nil (thenQ.n ?_)
              refine WC.region ?_
              refine WL.lv rfl (LV.mv rfl) ?_
              refine WL.lv rfl (LV.add rfl rfl (wr64 (by omega) (by omega))) ?_
              refine WL.lv rfl (LV.asg rfl) ?_
              refine WL.nil (blockQ.n <| thenQ.n ?_)
              have hS11 : SH w No w9 [rowE eP 65 (.slice A1 ((PRS a b).length) c1) (PRS a b), rowE eI 47 (.slice A5 ((out3 ++ ([3] : List Int)).length) c5) (out3 ++ ([3] : List Int))] := (SH.take 2 rfl (SH.front [rowE eI 47 (.slice A5 ((out3 ++ ([3] : List Int)).length) c5) (out3 ++ ([3] : List Int)), rowE eI 47 (.slice (some ⟨b3, 0, none⟩) 1 1) [3]] hS10))
              exact ⟨_, by omega, A5, c5, (out3 ++ ([3] : List Int)), j2 + 1, by omega, by omega, (by rw [u1, List.append_assoc, rep_snoc (by omega), show j2 - j + 1 = j2 + 1 - j by omega]), by omega, by omega, (by simp only [List.length_append, List.length_cons, List.length_nil]; omega), hS11, rfl, Weak.cons rfl <| Weak.cons rfl <| Weak.cons rfl <| Weak.cons rfl <| Weak.cons rfl <| Weak.cons rfl <| Weak.cons rfl <| Weak.cons rfl <| Weak.nil _⟩
            · skip
              refine WC.exit (thenQ.x <| thenQ.x <| blockQ.hit <| thenQ.n ?_)
              refine WC.seq ?_
              refine WC.region ?_
              iterate 2 refine WL.lv rfl (LV.mv rfl) ?_
              refine WL.lv rfl (LV.lenL Try.underlying63 rfl) ?_
              refine WL.lv rfl (LV.ltI rfl rfl) ?_
              refine WL.nil (thenQ.n ?_)
              refine WC.condP (p := k < ((PRS a b).length : Int)) rfl (fun hc3 => ?_) (fun hc3 => ?_)
              · refine WC.seq ?_
                refine WC.region ?_
                refine WL.lv rfl (LV.mv rfl) ?_
                refine WL.xe rfl (XE.buildSlice (E := eI) [(0, (.int .i64 1))] #[(.int .i64 1)] [1] hL3 Try.underlying52 ti47 rfl (by decide) (by kernel_rfl) (.inr rfl) rfl rfl (by decide)) ?_
                rintro _ w10 ⟨b4, rfl, hS12, hk6⟩
                have hS13 : SH w No w10 [rowE eI 47 (.slice A_out3 out3.length c_out3) out3, rowE eI 47 (.slice (some ⟨b4, 0, none⟩) 1 1) [1], rowE eP 65 (.slice A1 ((PRS a b).length) c1) (PRS a b)] := (SH.front [rowE eI 47 (.slice (some ⟨b4, 0, none⟩) 1 1) [1], rowE eP 65 (.slice A1 ((PRS a b).length) c1) (PRS a b)] hS12)
                refine WL.xe rfl (XE.append hS13 Try.underlying52 ti47 rfl (St.now (SH.rd hS13 (.tail _ (.head _)))) rfl rfl (by first | omega | simp only [List.length_append, List.length_cons, List.length_nil, List.length_take, List.length_reverse, List.length_drop] at *; omega) (by first | omega | simp only [List.length_append, List.length_cons, List.length_nil, List.length_take, List.length_reverse, List.length_drop] at *; omega)) ?_
                rintro _ w11 ⟨A6, c6, rfl, hS14, hk7⟩
                refine WL.lv rfl (LV.asg rfl) ?_
                refine WL.nil (thenQ.n ?_)
                refine WC.seq ?_
                refine WC.region ?_
                refine WL.lv rfl (LV.mv rfl) ?_
                refine WL.lv rfl (LV.add rfl rfl (wr64 (by omega) (by omega))) ?_
                refine WL.lv rfl (LV.asg rfl) ?_
                refine WL.nil (thenQ.n ?_)
                refine WC.region ?_
                refine WL.lv rfl (LV.mv rfl) ?_
                refine WL.lv rfl (LV.add rfl rfl (wr64 (by omega) (by omega))) ?_
                refine WL.lv rfl (LV.asg rfl) ?_
                refine WL.nil (blockQ.n <| thenQ.n ?_)
                refine WC.region ?_
                refine WL.lv rfl (LV.mv rfl) ?_
                refine WL.lv rfl (LV.add rfl rfl (wr64 (by omega) (by omega))) ?_
                refine WL.lv rfl (LV.asg rfl) ?_
                refine WL.nil (thenQ.n ?_)
                have hS15 : SH w No w11 [rowE eP 65 (.slice A1 ((PRS a b).length) c1) (PRS a b), rowE eI 47 (.slice A6 ((out3 ++ ([1] : List Int)).length) c6) (out3 ++ ([1] : List Int))] := (SH.take 2 rfl (SH.front [rowE eI 47 (.slice A6 ((out3 ++ ([1] : List Int)).length) c6) (out3 ++ ([1] : List Int)), rowE eI 47 (.slice (some ⟨b4, 0, none⟩) 1 1) [1]] hS14))
                exact ⟨_, by omega, A6, c6, (out3 ++ ([1] : List Int)), i2 + 1, j2 + 1, k + 1, by omega, by omega, (.inl ⟨by omega, by rw [u1, t1]; exact st_step klo hk hs1_ (by omega) (by omega)⟩), by omega, by omega, by omega, by omega, (fun t h1_ h2_ => by have h_ := hp4_ t (by omega) h2_; omega), (by first | omega | (simp only [List.length_append, List.length_cons, List.length_nil]; omega)), hS15, rfl, Weak.cons rfl <| Weak.cons rfl <| Weak.cons rfl <| Weak.cons rfl <| Weak.cons rfl <| Weak.cons rfl <| Weak.cons rfl <| Weak.nil _⟩
              · exact absurd hk hc3
        · have hs1_ := (s1.resolve_right (fun h_ => by omega)).2
          refine WC.skip (thenQ.n ?_)
          refine WC.seq ?_
          refine WC.block ?_
          refine WC.loop (fun m_ f_ w_ => ∃ (A_out2 : Option Addr) (c_out2 : Nat) (out2 : List Int) (i2 : Int), (0 ≤ i2) ∧ (i2 ≤ (a.length : Int)) ∧ (out2 = out ++ List.replicate (i2 - i).toNat 2) ∧ (i ≤ i2) ∧ (i2 ≤ (a.length : Int)) ∧ ((out2.length : Int) = out.length + (i2 - i)) ∧ SH w No w_ [rowE eP 65 (.slice A1 ((PRS a b).length) c1) (PRS a b), rowE eI 47 (.slice A_out2 out2.length c_out2) out2] ∧ m_ = (((a.length : Int) - i2).toNat) ∧ Weak (lit [(0, (.slice A_a a.length c_a)), (1, (.slice A_b b.length c_b)), (5, (.slice A_out2 out2.length c_out2)), (6, (.slice A1 ((PRS a b).length) c1)), (7, (.int .i64 i2)), (8, (.int .i64 j)), (9, (.int .i64 k)), (10, (.int .i64 (a.length : Int))), (11, (.int .i64 (b.length : Int)))]) f_) _ ⟨A_out, c_out, out, i, by omega, by omega, (by simp), by omega, by omega, by omega, hL1, rfl, Weak.cons rfl <| Weak.cons rfl <| Weak.cons rfl <| Weak.cons rfl <| Weak.cons rfl <| Weak.cons rfl <| Weak.cons rfl <| Weak.cons rfl <| Weak.cons rfl <| Weak.nil _⟩ ?_
          rintro m4 f4 w12 ⟨A_out2, c_out2, out2, i2, i2lo, i2hi, t1, t2, t3, t4, hL4, rfl, hw4⟩
          refine WC.weak hw4 ?_
          clear hw4
          iterate 2 refine WC.seq ?_
          refine WC.region ?_
          iterate 2 refine WL.lv rfl (LV.mv rfl) ?_
          refine WL.lv rfl (LV.ltI rfl rfl) ?_
          refine WL.nil (thenQ.n ?_)
          refine WC.condP (p := i2 < (a.length : Int)) rfl (fun hc4 => ?_) (fun hc4 => ?_)
          · skip
            refine WC.skip (thenQ.n ?_)
            refine WC.block ?_
            refine WC.seq ?_
            refine WC.region ?_
            refine WL.lv rfl (LV.mv rfl) ?_
            refine WL.xe rfl (XE.buildSlice (E := eI) [(0, (.int .i64 2))] #[(.int .i64 2)] [2] hL4 Try.underlying52 ti47 rfl (by decide) (by kernel_rfl) (.inr rfl) rfl rfl (by decide)) ?_
            rintro _ w13 ⟨b5, rfl, hS16, hk8⟩
            have hS17 : SH w No w13 [rowE eI 47 (.slice A_out2 out2.length c_out2) out2, rowE eI 47 (.slice (some ⟨b5, 0, none⟩) 1 1) [2], rowE eP 65 (.slice A1 ((PRS a b).length) c1) (PRS a b)] := (SH.front [rowE eI 47 (.slice (some ⟨b5, 0, none⟩) 1 1) [2], rowE eP 65 (.slice A1 ((PRS a b).length) c1) (PRS a b)] hS16)
            refine WL.xe rfl (XE.append hS17 Try.underlying52 ti47 rfl (St.now (SH.rd hS17 (.tail _ (.head _)))) rfl rfl (by first | omega | simp only [List.length_append, List.length_cons, List.length_nil, List.length_take, List.length_reverse, List.length_drop] at *; omega) (by first | omega | simp only [List.length_append, List.length_cons, List.length_nil, List.length_take, List.length_reverse, List.length_drop] at *; omega)) ?_
            rintro _ w14 ⟨A7, c7, rfl, hS18, hk9⟩
            refine WL.lv rfl (LV.asg rfl) ?_
            refine WL.nil (thenQ.n ?_)
            refine WC.region ?_
            refine WL.lv rfl (LV.mv rfl) ?_
            refine WL.lv rfl (LV.add rfl rfl (wr64 (by omega) (by omega))) ?_
            refine WL.lv rfl (LV.asg rfl) ?_
            refine WL.nil (blockQ.n <| thenQ.n ?_)
            have hS19 : SH w No w14 [rowE eP 65 (.slice A1 ((PRS a b).length) c1) (PRS a b), rowE eI 47 (.slice A7 ((out2 ++ ([2] : List Int)).length) c7) (out2 ++ ([2] : List Int))] := (SH.take 2 rfl (SH.front [rowE eI 47 (.slice A7 ((out2 ++ ([2] : List Int)).length) c7) (out2 ++ ([2] : List Int)), rowE eI 47 (.slice (some ⟨b5, 0, none⟩) 1 1) [2]] hS18))
            exact ⟨_, by omega, A7, c7, (out2 ++ ([2] : List Int)), i2 + 1, by omega, by omega, (by rw [t1, List.append_assoc, rep_snoc (by omega), show i2 - i + 1 = i2 + 1 - i by omega]), by omega, by omega, (by simp only [List.length_append, List.length_cons, List.length_nil]; omega), hS19, rfl, Weak.cons rfl <| Weak.cons rfl <| Weak.cons rfl <| Weak.cons rfl <| Weak.cons rfl <| Weak.cons rfl <| Weak.cons rfl <| Weak.cons rfl <| Weak.cons rfl <| Weak.nil _⟩
          · skip
            refine WC.exit (thenQ.x <| thenQ.x <| blockQ.hit <| thenQ.n ?_)
            refine WC.seq ?_
            refine WC.block ?_
            refine WC.loop (fun m_ f_ w_ => ∃ (A_out3 : Option Addr) (c_out3 : Nat) (out3 : List Int) (j2 : Int), (0 ≤ j2) ∧ (j2 ≤ (b.length : Int)) ∧ (out3 = out2 ++ List.replicate (j2 - j).toNat 3) ∧ (j ≤ j2) ∧ (j2 ≤ (b.length : Int)) ∧ ((out3.length : Int) = out2.length + (j2 - j)) ∧ SH w No w_ [rowE eP 65 (.slice A1 ((PRS a b).length) c1) (PRS a b), rowE eI 47 (.slice A_out3 out3.length c_out3) out3] ∧ m_ = (((b.length : Int) - j2).toNat) ∧ Weak (lit [(0, (.slice A_a a.length c_a)), (1, (.slice A_b b.length c_b)), (5, (.slice A_out3 out3.length c_out3)), (6, (.slice A1 ((PRS a b).length) c1)), (7, (.int .i64 i2)), (8, (.int .i64 j2)), (9, (.int .i64 k)), (11, (.int .i64 (b.length : Int)))]) f_) _ ⟨A_out2, c_out2, out2, j, by omega, by omega, (by simp), by omega, by omega, by omega, hL4, rfl, Weak.cons rfl <| Weak.cons rfl <| Weak.cons rfl <| Weak.cons rfl <| Weak.cons rfl <| Weak.cons rfl <| Weak.cons rfl <| Weak.cons rfl <| Weak.nil _⟩ ?_
            rintro m5 f5 w15 ⟨A_out3, c_out3, out3, j2, j2lo, j2hi, u1, u2, u3, u4, hL5, rfl, hw5⟩
            refine WC.weak hw5 ?_
            clear hw5
            iterate 2 refine WC.seq ?_
            refine WC.region ?_
            iterate 2 refine WL.lv rfl (LV.mv rfl) ?_
            refine WL.lv rfl (LV.ltI rfl rfl) ?_
            refine WL.nil (thenQ.n ?_)
            refine WC.condP (p := j2 < (b.length : Int)) rfl (fun hc5 => ?_) (fun hc5 => ?_)
            · skip
              refine WC.skip (thenQ.n ?_)
              refine WC.block ?_
              refine WC.seq ?_
              refine WC.region ?_
              refine WL.lv rfl (LV.mv rfl) ?_
              refine WL.xe rfl (XE.buildSlice (E := eI) [(0, (.int .i64 3))] #[(.int .i64 3)] [3] hL5 Try.underlying52 ti47 rfl (by decide) (by kernel_rfl) (.inr rfl) rfl rfl (by decide)) ?_
              rintro _ w16 ⟨b6, rfl, hS20, hk10⟩
              have hS21 : SH w No w16 [rowE eI 47 (.slice A_out3 out3.length c_out3) out3, rowE eI 47 (.slice (some ⟨b6, 0, none⟩) 1 1) [3], rowE eP 65 (.slice A1 ((PRS a b).length) c1) (PRS a b)] := (SH.front [rowE eI 47 (.slice (some ⟨b6, 0, none⟩) 1 1) [3], rowE eP 65 (.slice A1 ((PRS a b).length) c1) (PRS a b)] hS20)
              refine WL.xe rfl (XE.append hS21 Try.underlying52 ti47 rfl (St.now (SH.rd hS21 (.tail _ (.head _)))) rfl rfl (by first | omega | simp only [List.length_append, List.length_cons, List.length_nil, List.length_take, List.length_reverse, List.length_drop] at *; omega) (by first | omega | simp only [List.length_append, List.length_cons, List.length_nil, List.length_take, List.length_reverse, List.length_drop] at *; omega)) ?_
              rintro _ w17 ⟨A8, c8, rfl, hS22, hk11⟩
              refine WL.lv rfl (LV.asg rfl) ?_
              refine WL.nil (thenQ.n ?_)
              refine WC.region ?_
              refine WL.lv rfl (LV.mv rfl) ?_
              refine WL.lv rfl (LV.add rfl rfl (wr64 (by omega) (by omega))) ?_
              refine WL.lv rfl (LV.asg rfl) ?_
              refine WL.nil (blockQ.n <| thenQ.n ?_)
              have hS23 : SH w No w17 [rowE eP 65 (.slice A1 ((PRS a b).length) c1) (PRS a b), rowE eI 47 (.slice A8 ((out3 ++ ([3] : List Int)).length) c8) (out3 ++ ([3] : List Int))] := (SH.take 2 rfl (SH.front [rowE eI 47 (.slice A8 ((out3 ++ ([3] : List Int)).length) c8) (out3 ++ ([3] : List Int)), rowE eI 47 (.slice (some ⟨b6, 0, none⟩) 1 1) [3]] hS22))
              exact ⟨_, by omega, A8, c8, (out3 ++ ([3] : List Int)), j2 + 1, by omega, by omega, (by rw [u1, List.append_assoc, rep_snoc (by omega), show j2 - j + 1 = j2 + 1 - j by omega]), by omega, by omega, (by simp only [List.length_append, List.length_cons, List.length_nil]; omega), hS23, rfl, Weak.cons rfl <| Weak.cons rfl <| Weak.cons rfl <| Weak.cons rfl <| Weak.cons rfl <| Weak.cons rfl <| Weak.cons rfl <| Weak.cons rfl <| Weak.nil _⟩
            · skip
              refine WC.exit (thenQ.x <| thenQ.x <| blockQ.hit <| thenQ.n ?_)
              refine WC.seq ?_
              refine WC.region ?_
              iterate 2 refine WL.lv rfl (LV.mv rfl) ?_
              refine WL.lv rfl (LV.lenL Try.underlying63 rfl) ?_
              refine WL.lv rfl (LV.ltI rfl rfl) ?_
              refine WL.nil (thenQ.n ?_)
              refine WC.condP (p := k < ((PRS a b).length : Int)) rfl (fun hc6 => ?_) (fun hc6 => ?_)
              · exact absurd hc6 hk
              · refine WC.skip (blockQ.n <| thenQ.n ?_)
                refine WC.region ?_
                refine WL.lv rfl (LV.mv rfl) ?_
                refine WL.lv rfl (LV.add rfl rfl (wr64 (by omega) (by omega))) ?_
                refine WL.lv rfl (LV.asg rfl) ?_
                refine WL.nil (thenQ.n ?_)
                exact ⟨_, by omega, A_out3, c_out3, out3, i2, j2, k + 1, by omega, by omega, (.inr ⟨by omega, by rw [u1, t1]; exact st_fin (by omega) hs1_ (by omega) (by omega)⟩), by omega, by omega, by omega, by omega, (fun t h1_ h2_ => by omega), (by first | omega | (simp only [List.length_append, List.length_cons, List.length_nil]; omega)), hL5, rfl, Weak.cons rfl <| Weak.cons rfl <| Weak.cons rfl <| Weak.cons rfl <| Weak.cons rfl <| Weak.cons rfl <| Weak.cons rfl <| Weak.nil _⟩
      · skip
        refine WC.exit (thenQ.x <| thenQ.x <| blockQ.hit <| thenQ.n ?_)
        refine WC.seq ?_
        refine WC.region ?_
        refine WL.lv rfl (LV.mv rfl) ?_
        refine WL.lv rfl (LV.asg rfl) ?_
        refine WL.nil (thenQ.n ?_)
        refine WC.ret (?_)
        have hS24 : SH w No w3 [rowE eI 47 (.slice A_out out.length c_out) out] := (SH.take 1 rfl (SH.front [rowE eP 65 (.slice A1 ((PRS a b).length) c1) (PRS a b)] hL1))
        have hres3 : (out : List Int) = STP a b := (s1.resolve_left (fun h_ => by omega)).2
        exact ⟨_, fun a ha => res1 rfl ha rfl, (by rw [← hres3]; exact ⟨_, _, rfl, hS24⟩)⟩

end Go.Proofs.Ytjjilkibcomfcaa
