/- The order of likenesses. -/
import Derived.Test.YthmjieikbeemhaaNr
import Derived.Test.YthmjieikbeemhaaMyT
import Derived.Test.YthmjieikbeemhaaFlC
import Derived.Test.YthmjieikbeemhaaRkA
namespace Go.Proofs.Ythmjieikbeemhaa
open Go Go.Gv Go.RowKit Go.Flt Go.Mys Go.Num Go.Scr Go.Dec Go.Rnk
set_option linter.unusedVariables false
set_option linter.unusedSimpArgs false
theorem ti27 : TI Try.prog 27 (.float .f64 0) 1 8 := by unfold TI; kernel_rfl

theorem rlong_calls {w : World} {A_l : Option Addr} {n_l c_l : Nat} {l : List Ln} (h_l : St No w (Rd eL (.slice A_l n_l c_l) l)) (hn_l : l.length = n_l)  :
    Calls Try.prog 24 #[(.slice A_l n_l c_l)] w fun e w' => ∃ v, e = .returned v ∧ (fun v w' => v = .bool (decide (l.length > 400)) ∧ KB No w w') v w' := by
  subst hn_l
  have hma := Rd.max h_l.now
  have hS : SH w No w [] := SH.nil _ _
  refine calls (l := litOf [(.slice A_l l.length c_l)] 0) Try.func24 rfl (n := 6) rfl (Nat.le_of_ble_eq_true rfl) (lit_args _) ?_
  refine WC.seq ?_
  refine WC.region ?_
  refine WL.lv rfl (LV.asg rfl) ?_
  refine WL.nil (thenQ.n ?_)
  refine WC.seq ?_
  refine WC.region ?_
  refine WL.lv rfl (LV.mv rfl) ?_
  refine WL.lv rfl (LV.lenL Try.underlying22 rfl) ?_
  refine WL.lv rfl (LV.gtI rfl rfl) ?_
  refine WL.lv rfl (LV.asg rfl) ?_
  refine WL.nil (thenQ.n ?_)
  refine WC.ret (?_)
  exact ⟨_, fun a ha => res1 rfl ha rfl, congrArg Value.bool (decide_eq_decide.2 (by omega)), hS.kb⟩

theorem common_calls {w : World} {A_a : Option Addr} {n_a c_a : Nat} {a : List Ln} {A_b : Option Addr} {n_b c_b : Nat} {b : List Ln} (h_a : St No w (Rd eL (.slice A_a n_a c_a) a)) (hn_a : a.length = n_a) (h_b : St No w (Rd eL (.slice A_b n_b c_b) b)) (hn_b : b.length = n_b)  :
    Calls Try.prog 11 #[(.slice A_a n_a c_a), (.slice A_b n_b c_b)] w fun e w' => ∃ v, e = .returned v ∧ (fun v w' => v = .int .i64 (CMN a b) ∧ KB No w w') v w' := by
  subst hn_a hn_b
  have hma := Rd.max h_a.now
  have hmb := Rd.max h_b.now
  have hS : SH w No w [] := SH.nil _ _
  refine calls (l := litOf [(.slice A_a a.length c_a), (.slice A_b b.length c_b)] 0) Try.func11 rfl (n := 24) rfl (Nat.le_of_ble_eq_true rfl) (lit_args _) ?_
  refine WC.seq ?_
  refine WC.region ?_
  refine WL.lv rfl (LV.asg rfl) ?_
  refine WL.nil (thenQ.n ?_)
  iterate 2 refine WC.seq ?_
  refine WC.region ?_
  refine WL.lv rfl (LV.mv rfl) ?_
  rcases Decidable.em (a.length > 400) with hg1 | hg1
  · refine WL.call rfl (XC.fn Try.func24 (by kernel_rfl) rfl rfl rfl) (Calls.asB (rlong_calls  (SH.stN hS h_a) rfl ) (decide_eq_true (hg1))) ?_
    rintro v_ w1 ⟨rfl, hk1⟩
    have hS1 := SH.same hS hk1
    refine WL.lv rfl (LV.mv rfl) ?_
    iterate 2 refine WL.off rfl ?_
    refine WL.lv rfl (LV.pickT rfl rfl) ?_
    refine WL.nil (thenQ.n ?_)
    refine WC.condT rfl ?_
    refine WC.seq ?_
    refine WC.region ?_
    refine WL.lv rfl (LV.asg rfl) ?_
    refine WL.nil (thenQ.n ?_)
    refine WC.ret (thenQ.r <| ?_)
    exact ⟨_, fun a ha => res1 rfl ha rfl, congrArg (Value.int .i64) (by unfold CMN; first | rw [if_pos (by omega)] | rw [if_neg (by omega), hra, hrb]), hS1.kb⟩
  · refine WL.call rfl (XC.fn Try.func24 (by kernel_rfl) rfl rfl rfl) (Calls.asB (rlong_calls  (SH.stN hS h_a) rfl ) (decide_eq_false (hg1))) ?_
    rintro v_ w2 ⟨rfl, hk2⟩
    have hS2 := SH.same hS hk2
    iterate 2 refine WL.lv rfl (LV.mv rfl) ?_
    refine WL.call rfl (XC.fn Try.func24 (by kernel_rfl) rfl rfl rfl) (rlong_calls  (SH.stN hS2 h_b) rfl ) ?_
    rintro v_ w3 ⟨rfl, hk3⟩
    have hS3 := SH.same hS2 hk3
    refine WL.lv rfl (LV.pickF rfl rfl) ?_
    refine WL.nil (thenQ.n ?_)
    refine WC.condP (p := b.length > 400) rfl (fun hc1 => ?_) (fun hc1 => ?_)
    · skip
      refine WC.seq ?_
      refine WC.region ?_
      refine WL.lv rfl (LV.asg rfl) ?_
      refine WL.nil (thenQ.n ?_)
      refine WC.ret (thenQ.r <| ?_)
      exact ⟨_, fun a ha => res1 rfl ha rfl, congrArg (Value.int .i64) (by unfold CMN; first | rw [if_pos (by omega)] | rw [if_neg (by omega), hra, hrb]), hS3.kb⟩
    · skip
      refine WC.skip (thenQ.n ?_)
      refine WC.seq ?_
      refine WC.region ?_
      iterate 2 refine WL.lv rfl (LV.mv rfl) ?_
      refine WL.xe rfl (XE.buildSlice (E := eV) [(0, (.slice A_a a.length c_a)), (1, (.slice A_b b.length c_b))] #[(.slice A_a a.length c_a), (.slice A_b b.length c_b)] [(⟨A_a, a.length, c_a⟩ : SV), (⟨A_b, b.length, c_b⟩ : SV)] hS3 Try.underlying30 ti22 rfl (by decide) (by kernel_rfl) (.inr rfl) rfl rfl (by decide)) ?_
      rintro _ w4 ⟨b1, rfl, hS4, hk4⟩
      refine WL.call rfl (XC.fn Try.func25 (by kernel_rfl) rfl rfl rfl) (numbers_eq  (St.rrOf (rows := [((⟨A_a, a.length, c_a⟩ : SV), a), ((⟨A_b, b.length, c_b⟩ : SV), b)]) (SH.rd hS4 (.head _)) (St.inCons (r := (⟨A_a, a.length, c_a⟩ : SV)) rfl (SH.stN hS4 h_a) (St.inCons (r := (⟨A_b, b.length, c_b⟩ : SV)) rfl (SH.stN hS4 h_b) St.in0))) rfl (by simp) (by intro p hp; simp at hp; rcases hp with rfl | rfl <;> simp only [] <;> omega)) ?_
      rintro v_ w5 ⟨A1, c1, rows1, rfl, hq1, hS5⟩
      have hS6 := SH.joinN hS4 hS5
      have hmt := map_two (x := NA a) (y := NB a b) hq1
      have hra : (rows1.getD (0 : Int).toNat default).2 = NA a := hmt.2.1
      have hrb : (rows1.getD (1 : Int).toNat default).2 = NB a b := hmt.2.2
      have hla := NA_len a
      have hlb := NB_len a b
      have hl1 := hmt.1
      have hlra : (rows1.getD (0 : Int).toNat default).2.length = a.length := by rw [hra]; exact hla
      have hlrb : (rows1.getD (1 : Int).toNat default).2.length = b.length := by rw [hrb]; exact hlb
      refine WL.lv rfl (LV.asg rfl) ?_
      refine WL.nil (thenQ.n ?_)
      refine WC.seq ?_
      have hS7 := SH.drew hS6
      refine WC.regionD [] (fun w_ => KB No w5.drew w_) [(.pure, 0), (.pure, 1), (.look, 2), (.pure, 3), (.pure, 4), (.look, 5), (.forced, 6), (.pure, 7), (.pure, 8)] (by kernel_rfl) (by kernel_rfl) (KB.refl _ _) ?_
      refine WS.pure rfl rfl (fun _ => LV.mv rfl) ?_
      obtain ⟨A2, c2, A3, c3, e1, g1, e2, r1⟩ := St.eltRR (SH.rdRR hS7 (.head _)) default (0 : Int) (by omega) (by omega)
      refine WS.pure rfl rfl (fun _ => LV.idxA Try.underlying48 ti46.sz rfl e1 rfl (by omega) (by omega)) ?_
      refine WS.look rfl rfl (fun _ hk_ => LV.load1 Try.underlying46 rfl rfl (g1 _ hk_)) ?_
      refine WS.pure rfl rfl (fun _ => LV.mv rfl) ?_
      obtain ⟨A4, c4, A5, c5, e3, g2, e4, r2⟩ := St.eltRR (SH.rdRR hS7 (.head _)) default (1 : Int) (by omega) (by omega)
      refine WS.pure rfl rfl (fun _ => LV.idxA Try.underlying48 ti46.sz rfl e3 rfl (by omega) (by omega)) ?_
      refine WS.look rfl rfl (fun _ hk_ => LV.load1 Try.underlying46 rfl rfl (g2 _ hk_)) ?_
      refine WS.call rfl rfl (XC.fn Try.func26 (by kernel_rfl) rfl rfl rfl) (pairs7_eq rfl rfl (St.inner (SH.rdRR hS7 (.head _)) (getD_mem (by omega)) e2) (St.inner (SH.rdRR hS7 (.head _)) (getD_mem (by omega)) e4) rfl rfl) ?_
      rintro v_ w6 ⟨A6, c6, rfl, hS8⟩
      have hS9 := SH.joinN hS7 hS8
      refine ⟨fun h_ => (KB.transN (KB.refl _ _) hS8.kb), ?_⟩
      refine WS.pure rfl rfl (fun _ => LV.lenL Try.underlying50 rfl) ?_
      refine WS.pure rfl rfl (fun _ => LV.asg rfl) ?_
      refine WS.nil (thenQ.n ?_)
      refine WC.ret (?_)
      exact ⟨_, fun a ha => res1 rfl ha rfl, congrArg (Value.int .i64) (by unfold CMN; first | rw [if_pos (by omega)] | rw [if_neg (by omega), hra, hrb]), hS9.kb⟩

theorem rcommon_calls {w : World} {A_a : Option Addr} {n_a c_a : Nat} {a : List Ln} {A_b : Option Addr} {n_b c_b : Nat} {b : List Ln} (h_a : St No w (Rd eL (.slice A_a n_a c_a) a)) (hn_a : a.length = n_a) (h_b : St No w (Rd eL (.slice A_b n_b c_b) b)) (hn_b : b.length = n_b)  :
    Calls Try.prog 12 #[(.slice A_a n_a c_a), (.slice A_b n_b c_b)] w fun e w' => ∃ v, e = .returned v ∧ (fun v w' => v = .int .i64 (CMN a b) ∧ KB No w w') v w' := by
  subst hn_a hn_b
  have hma := Rd.max h_a.now
  have hmb := Rd.max h_b.now
  have hS : SH w No w [] := SH.nil _ _
  refine calls (l := litOf [(.slice A_a a.length c_a), (.slice A_b b.length c_b)] 0) Try.func12 rfl (n := 36) rfl (Nat.le_of_ble_eq_true rfl) (lit_args _) ?_
  refine WC.seq ?_
  refine WC.region ?_
  refine WL.lv rfl (LV.asg rfl) ?_
  refine WL.nil (thenQ.n ?_)
  iterate 2 refine WC.seq ?_
  refine WC.region ?_
  refine WL.lv rfl (LV.mv rfl) ?_
  refine WL.lv rfl (LV.lenL Try.underlying22 rfl) ?_
  rcases Decidable.em ((a.length : Int) > 400) with hg1 | hg1
  · refine WL.lv rfl (LV.as (LV.gtI rfl rfl) (decide_eq_true hg1)) ?_
    refine WL.lv rfl (LV.mv rfl) ?_
    iterate 3 refine WL.off rfl ?_
    refine WL.lv rfl (LV.pickT rfl rfl) ?_
    refine WL.nil (thenQ.n ?_)
    refine WC.condT rfl ?_
    refine WC.seq ?_
    refine WC.region ?_
    refine WL.lv rfl (LV.asg rfl) ?_
    refine WL.nil (thenQ.n ?_)
    refine WC.ret (thenQ.r <| ?_)
    exact ⟨_, fun a ha => res1 rfl ha rfl, congrArg (Value.int .i64) (by first | (unfold CMN; rw [if_pos (by omega)]; done) | (have h2_ := CMN_two (a := a) (b := b) (by omega); rw [hra, hrb, D_00] at hv1_; omega)), hS.kb⟩
  · refine WL.lv rfl (LV.as (LV.gtI rfl rfl) (decide_eq_false hg1)) ?_
    iterate 2 refine WL.lv rfl (LV.mv rfl) ?_
    refine WL.lv rfl (LV.lenL Try.underlying22 rfl) ?_
    refine WL.lv rfl (LV.gtI rfl rfl) ?_
    refine WL.lv rfl (LV.pickF rfl rfl) ?_
    refine WL.nil (thenQ.n ?_)
    refine WC.condP (p := (b.length : Int) > 400) rfl (fun hc1 => ?_) (fun hc1 => ?_)
    · skip
      refine WC.seq ?_
      refine WC.region ?_
      refine WL.lv rfl (LV.asg rfl) ?_
      refine WL.nil (thenQ.n ?_)
      refine WC.ret (thenQ.r <| ?_)
      exact ⟨_, fun a ha => res1 rfl ha rfl, congrArg (Value.int .i64) (by first | (unfold CMN; rw [if_pos (by omega)]; done) | (have h2_ := CMN_two (a := a) (b := b) (by omega); rw [hra, hrb, D_00] at hv1_; omega)), hS.kb⟩
    · skip
      refine WC.skip (thenQ.n ?_)
      refine WC.seq ?_
      refine WC.region ?_
      iterate 2 refine WL.lv rfl (LV.mv rfl) ?_
      refine WL.xe rfl (XE.buildSlice (E := eV) [(0, (.slice A_a a.length c_a)), (1, (.slice A_b b.length c_b))] #[(.slice A_a a.length c_a), (.slice A_b b.length c_b)] [(⟨A_a, a.length, c_a⟩ : SV), (⟨A_b, b.length, c_b⟩ : SV)] hS Try.underlying30 ti22 rfl (by decide) (by kernel_rfl) (.inr rfl) rfl rfl (by decide)) ?_
      rintro _ w1 ⟨b1, rfl, hS1, hk1⟩
      refine WL.call rfl (XC.fn Try.func27 (by kernel_rfl) rfl rfl rfl) (rnumbers_calls  (St.rrOf (rows := [((⟨A_a, a.length, c_a⟩ : SV), a), ((⟨A_b, b.length, c_b⟩ : SV), b)]) (SH.rd hS1 (.head _)) (St.inCons (r := (⟨A_a, a.length, c_a⟩ : SV)) rfl (SH.stN hS1 h_a) (St.inCons (r := (⟨A_b, b.length, c_b⟩ : SV)) rfl (SH.stN hS1 h_b) St.in0))) rfl (by simp) (by intro p hp; simp at hp; rcases hp with rfl | rfl <;> simp only [] <;> omega)) ?_
      rintro v_ w2 ⟨A1, c1, rows1, rfl, hq1, hS2⟩
      have hS3 := SH.joinN hS1 hS2
      have hmt := map_two (x := NA a) (y := NB a b) hq1
      have hra : (rows1.getD (0 : Int).toNat default).2 = NA a := hmt.2.1
      have hrb : (rows1.getD (1 : Int).toNat default).2 = NB a b := hmt.2.2
      have hla := NA_len a
      have hlb := NB_len a b
      have hl1 := hmt.1
      have hlra : (rows1.getD (0 : Int).toNat default).2.length = a.length := by rw [hra]; exact hla
      have hlrb : (rows1.getD (1 : Int).toNat default).2.length = b.length := by rw [hrb]; exact hlb
      have hla : (rows1.getD (0 : Int).toNat default).2.length ≤ 400 := by omega
      have hlb : (rows1.getD (1 : Int).toNat default).2.length ≤ 400 := by omega
      refine WL.lv rfl (LV.asg rfl) ?_
      refine WL.nil (thenQ.n ?_)
      refine WC.seq ?_
      have hS4 := SH.drew hS3
      refine WC.regionD [] (fun _ => True) [(.pure, 0), (.pure, 1), (.pure, 2), (.pure, 3), (.pure, 4), (.pure, 5), (.pure, 6), (.pure, 8), (.pure, 9), (.fork, 0), (.fork, 0), (.fork, 0), (.fork, 0), (.fork, 0), (.fork, 0), (.fork, 0), (.fork, 0), (.fork, 0), (.fork, 0)] (by kernel_rfl) (by kernel_rfl) trivial ?_
      refine WS.pure rfl rfl (fun _ => LV.mv rfl) ?_
      refine WS.pure rfl rfl (fun _ => LV.lenL Try.underlying22 rfl) ?_
      refine WS.pure rfl rfl (fun _ => LV.mv rfl) ?_
      refine WS.pure rfl rfl (fun _ => LV.lenL Try.underlying22 rfl) ?_
      refine WS.pure rfl rfl (fun _ => LV.add rfl rfl (wr64 (by omega) (by omega))) ?_
      refine WS.pure rfl rfl (fun _ => LV.mv rfl) ?_
      obtain ⟨A2, c2, A3, c3, e1, g1, e2, r1⟩ := St.eltRR (SH.rdRR hS4 (.head _)) default (0 : Int) (by omega) (by omega)
      refine WS.pure rfl rfl (fun _ => LV.idxA Try.underlying48 ti46.sz rfl e1 rfl (by omega) (by omega)) ?_
      refine WS.pure rfl rfl (fun _ => LV.mv rfl) ?_
      obtain ⟨A4, c4, A5, c5, e3, g2, e4, r2⟩ := St.eltRR (SH.rdRR hS4 (.head _)) default (1 : Int) (by omega) (by omega)
      refine WS.pure rfl rfl (fun _ => LV.idxA Try.underlying48 ti46.sz rfl e3 rfl (by omega) (by omega)) ?_
      refine WS.fork (WSX.two 7 10 (by kernel_rfl) ?_ ?_)
      · refine WO.lvT rfl rfl (LV.load1 Try.underlying46 rfl rfl (g1 _ (KB.refl No _))) ?_
        refine WSX.of [(.forced, 10), (.forced, 11), (.pure, 12), (.forced, 13), (.pure, 14), (.forced, 15), (.pure, 16), (.pure, 17), (.pure, 18)] (by kernel_rfl) rfl ?_
        refine WS.lvT rfl rfl (LV.load1 Try.underlying46 rfl rfl (g2 _ (KB.refl No _))) ?_
        refine WS.call rfl rfl (XC.fn Try.func28 (by kernel_rfl) rfl rfl rfl) (table_calls (St.inner (SH.rdRR hS4 (.head _)) (getD_mem (by omega)) e2) (St.inner (SH.rdRR hS4 (.head _)) (getD_mem (by omega)) e4) hla hlb) ?_
        rintro v_ w3 ⟨A6, n1, c6, tb, rfl, hT, hS5⟩
        have hS6 := SH.joinN hS4 hS5
        have hl_ := hT.len
        have hr0_ := hT.row 0 (by omega) (by omega)
        have hv0_ := hT.val 0 0 (by omega) (by omega) (by omega) (by omega) (by omega)
        refine ⟨fun h_ => trivial, ?_⟩
        have hv1_ : gI (tb.getD (0 : Int).toNat default).2 0 = ((D (rows1.getD (0 : Int).toNat default).2 (rows1.getD (1 : Int).toNat default).2 0 0 : Nat) : Int) := hv0_
        have hdb_ := D_bd (rows1.getD (0 : Int).toNat default).2 (rows1.getD (1 : Int).toNat default).2 0 0
        obtain ⟨A7, c7, A8, c8, e5, g3, e6, r3⟩ := St.eltRR (SH.rdRR hS6 (.head _)) default (0 : Int) (by omega) (by omega)
        refine WS.pure rfl rfl (fun _ => LV.idxA Try.underlying48 ti46.sz rfl e5 rfl (by omega) (by omega)) ?_
        refine WS.lvT rfl rfl (LV.load1 Try.underlying46 rfl rfl (g3 _ (KB.refl No _))) ?_
        obtain ⟨A9, c9, e7, g4⟩ := St.elt (St.inner (SH.rdRR hS6 (.head _)) (getD_mem (by omega)) e6) 0 (0 : Int) (by omega) (by omega)
        refine WS.pure rfl rfl (fun _ => LV.idxA Try.underlying46 ti3.sz rfl e7 rfl (by omega) (by omega)) ?_
        refine WS.lvT rfl rfl (LV.load1 (v := (.int .i64 (gI ((tb.getD ((0 : Int)).toNat default).2) ((0 : Int))))) Try.underlying3 rfl rfl (g4 _ (KB.refl No _) 0 _ rfl)) ?_
        refine WS.pure rfl rfl (fun _ => LV.sub rfl rfl (wr64 (by omega) (by omega))) ?_
        refine WS.pure rfl rfl (fun _ => LV.quo rfl rfl (by decide) (quo64 (by omega) (by omega) (by decide) rfl)) ?_
        refine WS.pure rfl rfl (fun _ => LV.asg rfl) ?_
        refine WS.nil (thenQ.n ?_)
        refine WC.ret (?_)
        exact ⟨_, fun a ha => res1 rfl ha rfl, congrArg (Value.int .i64) (by first | (unfold CMN; rw [if_pos (by omega)]; done) | (have h2_ := CMN_two (a := a) (b := b) (by omega); rw [hra, hrb, D_00] at hv1_; omega)), hS6.kb⟩
      · refine WO.lvT rfl rfl (LV.load1 Try.underlying46 rfl rfl (g2 _ (KB.refl No _))) ?_
        refine WSX.of [(.forced, 7), (.forced, 11), (.pure, 12), (.forced, 13), (.pure, 14), (.forced, 15), (.pure, 16), (.pure, 17), (.pure, 18)] (by kernel_rfl) rfl ?_
        refine WS.lvT rfl rfl (LV.load1 Try.underlying46 rfl rfl (g1 _ (KB.refl No _))) ?_
        refine WS.call rfl rfl (XC.fn Try.func28 (by kernel_rfl) rfl rfl rfl) (table_calls (St.inner (SH.rdRR hS4 (.head _)) (getD_mem (by omega)) e2) (St.inner (SH.rdRR hS4 (.head _)) (getD_mem (by omega)) e4) hla hlb) ?_
        rintro v_ w4 ⟨A10, n2, c10, tb, rfl, hT, hS7⟩
        have hS8 := SH.joinN hS4 hS7
        have hl_ := hT.len
        have hr0_ := hT.row 0 (by omega) (by omega)
        have hv0_ := hT.val 0 0 (by omega) (by omega) (by omega) (by omega) (by omega)
        refine ⟨fun h_ => trivial, ?_⟩
        have hv1_ : gI (tb.getD (0 : Int).toNat default).2 0 = ((D (rows1.getD (0 : Int).toNat default).2 (rows1.getD (1 : Int).toNat default).2 0 0 : Nat) : Int) := hv0_
        have hdb_ := D_bd (rows1.getD (0 : Int).toNat default).2 (rows1.getD (1 : Int).toNat default).2 0 0
        obtain ⟨A11, c11, A12, c12, e8, g5, e9, r4⟩ := St.eltRR (SH.rdRR hS8 (.head _)) default (0 : Int) (by omega) (by omega)
        refine WS.pure rfl rfl (fun _ => LV.idxA Try.underlying48 ti46.sz rfl e8 rfl (by omega) (by omega)) ?_
        refine WS.lvT rfl rfl (LV.load1 Try.underlying46 rfl rfl (g5 _ (KB.refl No _))) ?_
        obtain ⟨A13, c13, e10, g6⟩ := St.elt (St.inner (SH.rdRR hS8 (.head _)) (getD_mem (by omega)) e9) 0 (0 : Int) (by omega) (by omega)
        refine WS.pure rfl rfl (fun _ => LV.idxA Try.underlying46 ti3.sz rfl e10 rfl (by omega) (by omega)) ?_
        refine WS.lvT rfl rfl (LV.load1 (v := (.int .i64 (gI ((tb.getD ((0 : Int)).toNat default).2) ((0 : Int))))) Try.underlying3 rfl rfl (g6 _ (KB.refl No _) 0 _ rfl)) ?_
        refine WS.pure rfl rfl (fun _ => LV.sub rfl rfl (wr64 (by omega) (by omega))) ?_
        refine WS.pure rfl rfl (fun _ => LV.quo rfl rfl (by decide) (quo64 (by omega) (by omega) (by decide) rfl)) ?_
        refine WS.pure rfl rfl (fun _ => LV.asg rfl) ?_
        refine WS.nil (thenQ.n ?_)
        refine WC.ret (?_)
        exact ⟨_, fun a ha => res1 rfl ha rfl, congrArg (Value.int .i64) (by first | (unfold CMN; rw [if_pos (by omega)]; done) | (have h2_ := CMN_two (a := a) (b := b) (by omega); rw [hra, hrb, D_00] at hv1_; omega)), hS8.kb⟩

theorem like_calls {w : World} {A_a : Option Addr} {n_a c_a : Nat} {a : List Ln} {A_b : Option Addr} {n_b c_b : Nat} {b : List Ln} (h_a : St No w (Rd eL (.slice A_a n_a c_a) a)) (hn_a : a.length = n_a) (h_b : St No w (Rd eL (.slice A_b n_b c_b) b)) (hn_b : b.length = n_b)  :
    Calls Try.prog 14 #[(.slice A_a n_a c_a), (.slice A_b n_b c_b)] w fun e w' => ∃ v, e = .returned v ∧ (fun v w' => ∃ (r' : Nat), v = .float .f64 r' ∧ cn r' = LIK a b ∧ r' < 18446744073709551616 ∧ KB No w w') v w' := by
  subst hn_a hn_b
  have hma := Rd.max h_a.now
  have hmb := Rd.max h_b.now
  have hcb_ := CMN_bd a b
  have hS : SH w No w [] := SH.nil _ _
  refine calls (l := litOf [(.slice A_a a.length c_a), (.slice A_b b.length c_b)] 0) Try.func14 rfl (n := 20) rfl (Nat.le_of_ble_eq_true rfl) (lit_args _) ?_
  refine WC.seq ?_
  refine WC.region ?_
  refine WL.lv rfl (LV.asg rfl) ?_
  refine WL.nil (thenQ.n ?_)
  iterate 2 refine WC.seq ?_
  refine WC.region ?_
  refine WL.lv rfl (LV.mv rfl) ?_
  rcases Decidable.em (a.length > 400) with hg1 | hg1
  · refine WL.call rfl (XC.fn Try.func24 (by kernel_rfl) rfl rfl rfl) (Calls.asB (rlong_calls  (SH.stN hS h_a) rfl ) (decide_eq_true (hg1))) ?_
    rintro v_ w1 ⟨rfl, hk1⟩
    have hS1 := SH.same hS hk1
    refine WL.lv rfl (LV.mv rfl) ?_
    iterate 2 refine WL.off rfl ?_
    refine WL.lv rfl (LV.pickT rfl rfl) ?_
    refine WL.nil (thenQ.n ?_)
    refine WC.condT rfl ?_
    refine WC.seq ?_
    refine WC.region ?_
    refine WL.call rfl (XC.fn Try.func29 (by kernel_rfl) rfl rfl rfl) (ratio_calls (common := (0 : Int)) (n := (0 : Int)) (m := (0 : Int)) (by omega) (by omega) (by omega)) ?_
    rintro v_ w2 ⟨r1, rfl, hf1, hf2, hk2⟩
    have hS2 := SH.same hS1 hk2
    refine WL.lv rfl (LV.asg rfl) ?_
    refine WL.nil (thenQ.n ?_)
    refine WC.ret (thenQ.r <| ?_)
    exact ⟨_, fun a ha => res1 rfl ha rfl, r1, congrArg FV (rfl), by first | (rw [LIK_out (by omega)]; first | exact hf1.trans RAT_000 | exact hf1) | (rw [LIK_in (by omega)]; exact hf1), hf2, hS2.kb⟩
  · refine WL.call rfl (XC.fn Try.func24 (by kernel_rfl) rfl rfl rfl) (Calls.asB (rlong_calls  (SH.stN hS h_a) rfl ) (decide_eq_false (hg1))) ?_
    rintro v_ w3 ⟨rfl, hk3⟩
    have hS3 := SH.same hS hk3
    iterate 2 refine WL.lv rfl (LV.mv rfl) ?_
    refine WL.call rfl (XC.fn Try.func24 (by kernel_rfl) rfl rfl rfl) (rlong_calls  (SH.stN hS3 h_b) rfl ) ?_
    rintro v_ w4 ⟨rfl, hk4⟩
    have hS4 := SH.same hS3 hk4
    refine WL.lv rfl (LV.pickF rfl rfl) ?_
    refine WL.nil (thenQ.n ?_)
    refine WC.condP (p := b.length > 400) rfl (fun hc1 => ?_) (fun hc1 => ?_)
    · skip
      refine WC.seq ?_
      refine WC.region ?_
      refine WL.call rfl (XC.fn Try.func29 (by kernel_rfl) rfl rfl rfl) (ratio_calls (common := (0 : Int)) (n := (0 : Int)) (m := (0 : Int)) (by omega) (by omega) (by omega)) ?_
      rintro v_ w5 ⟨r2, rfl, hf3, hf4, hk5⟩
      have hS5 := SH.same hS4 hk5
      refine WL.lv rfl (LV.asg rfl) ?_
      refine WL.nil (thenQ.n ?_)
      refine WC.ret (thenQ.r <| ?_)
      exact ⟨_, fun a ha => res1 rfl ha rfl, r2, congrArg FV (rfl), by first | (rw [LIK_out (by omega)]; first | exact hf3.trans RAT_000 | exact hf3) | (rw [LIK_in (by omega)]; exact hf3), hf4, hS5.kb⟩
    · skip
      refine WC.skip (thenQ.n ?_)
      refine WC.seq ?_
      refine WC.region ?_
      iterate 2 refine WL.lv rfl (LV.mv rfl) ?_
      refine WL.call rfl (XC.fn Try.func11 (by kernel_rfl) rfl rfl rfl) (common_calls  (SH.stN hS4 h_a) rfl (SH.stN hS4 h_b) rfl ) ?_
      rintro v_ w6 ⟨rfl, hk6⟩
      have hS6 := SH.same hS4 hk6
      refine WL.lv rfl (LV.mv rfl) ?_
      refine WL.lv rfl (LV.lenL Try.underlying22 rfl) ?_
      refine WL.lv rfl (LV.mv rfl) ?_
      refine WL.lv rfl (LV.lenL Try.underlying22 rfl) ?_
      refine WL.call rfl (XC.fn Try.func29 (by kernel_rfl) rfl rfl rfl) (ratio_calls (common := (CMN a b)) (n := (a.length : Int)) (m := (b.length : Int)) (by omega) (by omega) (by omega)) ?_
      rintro v_ w7 ⟨r3, rfl, hf5, hf6, hk7⟩
      have hS7 := SH.same hS6 hk7
      refine WL.lv rfl (LV.asg rfl) ?_
      refine WL.nil (thenQ.n ?_)
      refine WC.ret (?_)
      exact ⟨_, fun a ha => res1 rfl ha rfl, r3, congrArg FV (rfl), by first | (rw [LIK_out (by omega)]; first | exact hf5.trans RAT_000 | exact hf5) | (rw [LIK_in (by omega)]; exact hf5), hf6, hS7.kb⟩

theorem rlike_calls {w : World} {A_a : Option Addr} {n_a c_a : Nat} {a : List Ln} {A_b : Option Addr} {n_b c_b : Nat} {b : List Ln} (h_a : St No w (Rd eL (.slice A_a n_a c_a) a)) (hn_a : a.length = n_a) (h_b : St No w (Rd eL (.slice A_b n_b c_b) b)) (hn_b : b.length = n_b)  :
    Calls Try.prog 15 #[(.slice A_a n_a c_a), (.slice A_b n_b c_b)] w fun e w' => ∃ v, e = .returned v ∧ (fun v w' => ∃ (r' : Nat), v = .float .f64 r' ∧ cn r' = LIK a b ∧ r' < 18446744073709551616 ∧ KB No w w') v w' := by
  subst hn_a hn_b
  have hma := Rd.max h_a.now
  have hmb := Rd.max h_b.now
  have hcb_ := CMN_bd a b
  have hS : SH w No w [] := SH.nil _ _
  refine calls (l := litOf [(.slice A_a a.length c_a), (.slice A_b b.length c_b)] 0) Try.func15 rfl (n := 22) rfl (Nat.le_of_ble_eq_true rfl) (lit_args _) ?_
  refine WC.seq ?_
  refine WC.region ?_
  refine WL.lv rfl (LV.asg rfl) ?_
  refine WL.nil (thenQ.n ?_)
  iterate 2 refine WC.seq ?_
  refine WC.region ?_
  refine WL.lv rfl (LV.mv rfl) ?_
  refine WL.lv rfl (LV.lenL Try.underlying22 rfl) ?_
  rcases Decidable.em ((a.length : Int) > 400) with hg1 | hg1
  · refine WL.lv rfl (LV.as (LV.gtI rfl rfl) (decide_eq_true hg1)) ?_
    refine WL.lv rfl (LV.mv rfl) ?_
    iterate 3 refine WL.off rfl ?_
    refine WL.lv rfl (LV.pickT rfl rfl) ?_
    refine WL.nil (thenQ.n ?_)
    refine WC.condT rfl ?_
    refine WC.seq ?_
    refine WC.region ?_
    refine WL.call rfl (XC.fn Try.func30 (by kernel_rfl) rfl rfl rfl) (none_calls  ) ?_
    rintro v_ w1 ⟨r1, rfl, hf1, hf2, hk1⟩
    have hS1 := SH.same hS hk1
    refine WL.lv rfl (LV.asg rfl) ?_
    refine WL.nil (thenQ.n ?_)
    refine WC.ret (thenQ.r <| ?_)
    exact ⟨_, fun a ha => res1 rfl ha rfl, r1, congrArg FV (rfl), by first | (rw [LIK_out (by omega)]; first | exact hf1.trans RAT_000 | exact hf1) | (rw [LIK_in (by omega)]; exact hf1), hf2, hS1.kb⟩
  · refine WL.lv rfl (LV.as (LV.gtI rfl rfl) (decide_eq_false hg1)) ?_
    iterate 2 refine WL.lv rfl (LV.mv rfl) ?_
    refine WL.lv rfl (LV.lenL Try.underlying22 rfl) ?_
    refine WL.lv rfl (LV.gtI rfl rfl) ?_
    refine WL.lv rfl (LV.pickF rfl rfl) ?_
    refine WL.nil (thenQ.n ?_)
    refine WC.condP (p := (b.length : Int) > 400) rfl (fun hc1 => ?_) (fun hc1 => ?_)
    · skip
      refine WC.seq ?_
      refine WC.region ?_
      refine WL.call rfl (XC.fn Try.func30 (by kernel_rfl) rfl rfl rfl) (none_calls  ) ?_
      rintro v_ w2 ⟨r2, rfl, hf3, hf4, hk2⟩
      have hS2 := SH.same hS hk2
      refine WL.lv rfl (LV.asg rfl) ?_
      refine WL.nil (thenQ.n ?_)
      refine WC.ret (thenQ.r <| ?_)
      exact ⟨_, fun a ha => res1 rfl ha rfl, r2, congrArg FV (rfl), by first | (rw [LIK_out (by omega)]; first | exact hf3.trans RAT_000 | exact hf3) | (rw [LIK_in (by omega)]; exact hf3), hf4, hS2.kb⟩
    · skip
      refine WC.skip (thenQ.n ?_)
      refine WC.seq ?_
      refine WC.region ?_
      iterate 2 refine WL.lv rfl (LV.mv rfl) ?_
      refine WL.call rfl (XC.fn Try.func12 (by kernel_rfl) rfl rfl rfl) (rcommon_calls  (SH.stN hS h_a) rfl (SH.stN hS h_b) rfl ) ?_
      rintro v_ w3 ⟨rfl, hk3⟩
      have hS3 := SH.same hS hk3
      refine WL.lv rfl (LV.mv rfl) ?_
      refine WL.lv rfl (LV.lenL Try.underlying22 rfl) ?_
      refine WL.lv rfl (LV.mv rfl) ?_
      refine WL.lv rfl (LV.lenL Try.underlying22 rfl) ?_
      refine WL.call rfl (XC.fn Try.func31 (by kernel_rfl) rfl rfl rfl) (rratio_calls (common := (CMN a b)) (n := (a.length : Int)) (m := (b.length : Int)) (by omega) (by omega) (by omega)) ?_
      rintro v_ w4 ⟨r3, rfl, hf5, hf6, hk4⟩
      have hS4 := SH.same hS3 hk4
      refine WL.lv rfl (LV.asg rfl) ?_
      refine WL.nil (thenQ.n ?_)
      refine WC.ret (?_)
      exact ⟨_, fun a ha => res1 rfl ha rfl, r3, congrArg FV (rfl), by first | (rw [LIK_out (by omega)]; first | exact hf5.trans RAT_000 | exact hf5) | (rw [LIK_in (by omega)]; exact hf5), hf6, hS4.kb⟩

theorem knone_calls {w : World} {x : Nat}  :
    Calls Try.prog 33 #[(.float .f64 x)] w fun e w' => ∃ v, e = .returned v ∧ (fun v w' => (v = .bool (decide (¬ (-9218868437227405312 ≤ sk x ∧ sk x ≤ 9218868437227405312)))) ∧ KB No w w') v w' := by
  have hS : SH w No w [] := SH.nil _ _
  refine calls (l := litOf [(.float .f64 x)] 0) Try.func33 rfl (n := 6) rfl (Nat.le_of_ble_eq_true rfl) (lit_args _) ?_
  refine WC.seq ?_
  refine WC.region ?_
  refine WL.lv rfl (LV.asg rfl) ?_
  refine WL.nil (thenQ.n ?_)
  refine WC.seq ?_
  refine WC.region ?_
  iterate 2 refine WL.lv rfl (LV.mv rfl) ?_
  refine WL.lv rfl (LV.neF (a := x) (b := x) rfl rfl) ?_
  refine WL.lv rfl (LV.asg rfl) ?_
  refine WL.nil (thenQ.n ?_)
  refine WC.ret (?_)
  exact ⟨_, fun a ha => res1 rfl ha rfl, congrArg Value.bool (decide_eq_decide.2 (by omega)), hS.kb⟩

theorem cnan_calls {w : World} {x : Int}  :
    Calls Try.prog 72 #[(.int .i64 x)] w fun e w' => ∃ v, e = .returned v ∧ (fun v w' => v = .bool false ∧ KB No w w') v w' := by
  have hS : SH w No w [] := SH.nil _ _
  refine calls (l := litOf [(.int .i64 x)] 0) Try.func72 rfl (n := 6) rfl (Nat.le_of_ble_eq_true rfl) (lit_args _) ?_
  refine WC.seq ?_
  refine WC.region ?_
  refine WL.lv rfl (LV.asg rfl) ?_
  refine WL.nil (thenQ.n ?_)
  refine WC.seq ?_
  refine WC.region ?_
  iterate 2 refine WL.lv rfl (LV.mv rfl) ?_
  refine WL.lv rfl (LV.neI rfl rfl) ?_
  refine WL.lv rfl (LV.asg rfl) ?_
  refine WL.nil (thenQ.n ?_)
  refine WC.ret (?_)
  exact ⟨_, fun a ha => res1 rfl ha rfl, congrArg Value.bool (decide_eq_false (fun h_ => h_ rfl)), hS.kb⟩

theorem ccmp_calls {w : World} {x : Int} {y : Int}  :
    Calls Try.prog 50 #[(.int .i64 x), (.int .i64 y)] w fun e w' => ∃ v, e = .returned v ∧ (fun v w' => v = .int .i64 (CMPI x y) ∧ KB No w w') v w' := by
  have hS : SH w No w [] := SH.nil _ _
  refine calls (l := litOf [(.int .i64 x), (.int .i64 y)] 0) Try.func50 rfl (n := 20) rfl (Nat.le_of_ble_eq_true rfl) (lit_args _) ?_
  refine WC.seq ?_
  refine WC.region ?_
  refine WL.lv rfl (LV.asg rfl) ?_
  refine WL.nil (thenQ.n ?_)
  refine WC.seq ?_
  refine WC.region ?_
  refine WL.lv rfl (LV.mv rfl) ?_
  refine WL.call rfl (XC.fn Try.func72 (by kernel_rfl) rfl rfl rfl) (cnan_calls (x := x) ) ?_
  rintro v_ w1 ⟨rfl, hk1⟩
  have hS1 := SH.same hS hk1
  refine WL.lv rfl (LV.asg rfl) ?_
  refine WL.nil (thenQ.n ?_)
  refine WC.seq ?_
  refine WC.region ?_
  refine WL.lv rfl (LV.mv rfl) ?_
  refine WL.call rfl (XC.fn Try.func72 (by kernel_rfl) rfl rfl rfl) (cnan_calls (x := y) ) ?_
  rintro v_ w2 ⟨rfl, hk2⟩
  have hS2 := SH.same hS1 hk2
  refine WL.lv rfl (LV.asg rfl) ?_
  refine WL.nil (thenQ.n ?_)
  iterate 2 refine WC.seq ?_
  refine WC.region ?_
  refine WL.lv rfl (LV.mv rfl) ?_
  refine WL.nil (thenQ.n ?_)
  refine WC.condF rfl ?_
  refine WC.skip (thenQ.n ?_)
  iterate 2 refine WC.seq ?_
  refine WC.region ?_
  refine WL.lv rfl (LV.mv rfl) ?_
  refine WL.nil (thenQ.n ?_)
  refine WC.condF rfl ?_
  refine WC.skip (thenQ.n ?_)
  iterate 2 refine WC.seq ?_
  refine WC.region ?_
  iterate 2 refine WL.lv rfl (LV.mv rfl) ?_
  refine WL.lv rfl (LV.ltI rfl rfl) ?_
  refine WL.nil (thenQ.n ?_)
  refine WC.condP (p := x < y) rfl (fun hc1 => ?_) (fun hc1 => ?_)
  · skip
    refine WC.seq ?_
    refine WC.region ?_
    refine WL.lv rfl (LV.asg rfl) ?_
    refine WL.nil (thenQ.n ?_)
    refine WC.ret (thenQ.r <| ?_)
    exact ⟨_, fun a ha => res1 rfl ha rfl, congrArg (Value.int .i64) (by have h_ := cmpi_is x y; omega), hS2.kb⟩
  · skip
    refine WC.skip (thenQ.n ?_)
    iterate 2 refine WC.seq ?_
    refine WC.region ?_
    iterate 2 refine WL.lv rfl (LV.mv rfl) ?_
    refine WL.lv rfl (LV.gtI rfl rfl) ?_
    refine WL.nil (thenQ.n ?_)
    refine WC.condP (p := x > y) rfl (fun hc2 => ?_) (fun hc2 => ?_)
    · skip
      refine WC.seq ?_
      refine WC.region ?_
      refine WL.lv rfl (LV.asg rfl) ?_
      refine WL.nil (thenQ.n ?_)
      refine WC.ret (thenQ.r <| ?_)
      exact ⟨_, fun a ha => res1 rfl ha rfl, congrArg (Value.int .i64) (by have h_ := cmpi_is x y; omega), hS2.kb⟩
    · skip
      refine WC.skip (thenQ.n ?_)
      refine WC.seq ?_
      refine WC.region ?_
      refine WL.lv rfl (LV.asg rfl) ?_
      refine WL.nil (thenQ.n ?_)
      refine WC.ret (?_)
      exact ⟨_, fun a ha => res1 rfl ha rfl, congrArg (Value.int .i64) (by have h_ := cmpi_is x y; omega), hS2.kb⟩

theorem cor_calls {w : World} {A_vals : Option Addr} {n_vals c_vals : Nat} {vals : List Int} (h_vals : St No w (Rd eI (.slice A_vals n_vals c_vals) vals)) (hn_vals : vals.length = n_vals)  :
    Calls Try.prog 48 #[(.slice A_vals n_vals c_vals)] w fun e w' => ∃ v, e = .returned v ∧ (fun v w' => v = .int .i64 (ORL vals) ∧ KB No w w') v w' := by
  subst hn_vals
  have hma := Rd.max h_vals.now
  have hS : SH w No w [] := SH.nil _ _
  refine calls (l := litOf [(.slice A_vals vals.length c_vals)] 0) Try.func48 rfl (n := 18) rfl (Nat.le_of_ble_eq_true rfl) (lit_args _) ?_
  refine WC.seq ?_
  refine WC.region ?_
  refine WL.lv rfl (LV.asg rfl) ?_
  refine WL.nil (thenQ.n ?_)
  refine WC.seq ?_
  refine WC.region ?_
  refine WL.lv rfl (LV.asg rfl) ?_
  refine WL.nil (thenQ.n ?_)
  iterate 2 refine WC.seq ?_
  refine WC.region ?_
  refine WL.lv rfl (LV.mv rfl) ?_
  refine WL.lv rfl (LV.lenL Try.underlying46 rfl) ?_
  refine WL.lv rfl (LV.mv rfl) ?_
  refine WL.nil (thenQ.n ?_)
  refine WC.block ?_
  refine WC.loop (fun m_ f_ w_ => ∃ (ix : Int), (0 ≤ ix) ∧ (ix ≤ (vals.length : Int)) ∧ (ORL (vals.drop ix.toNat) = ORL vals) ∧ SH w No w_ [] ∧ m_ = (((vals.length : Int) - ix).toNat) ∧ Weak (lit [(3, (.int .i64 0)), (6, (.slice A_vals vals.length c_vals)), (7, (.int .i64 (vals.length : Int))), (8, (.int .i64 ix))]) f_) _ ⟨0, by omega, by omega, rfl, hS, rfl, Weak.cons rfl <| Weak.cons rfl <| Weak.cons rfl <| Weak.cons rfl <| Weak.nil _⟩ ?_
  rintro m1 f1 w1 ⟨ix, ixlo, ixhi, q1, hL1, rfl, hw1⟩
  refine WC.weak hw1 ?_
  clear hw1
  refine WC.seq ?_
  refine WC.region ?_
  refine WL.lv rfl (LV.ltI rfl rfl) ?_
  refine WL.nil (thenQ.n ?_)
  refine WC.seq ?_
  refine WC.condP (p := ix < (vals.length : Int)) rfl (fun hk => ?_) (fun hk => ?_)
  · skip
    refine WC.skip (thenQ.n ?_)
    refine WC.seq ?_
    refine WC.block ?_
    refine WC.seq ?_
    refine WC.region ?_
    obtain ⟨A1, c1, e1, g1⟩ := St.elt (SH.stN hL1 h_vals) 0 ix (by omega) (by omega)
    refine WL.lv rfl (LV.idxA Try.underlying46 ti3.sz rfl e1 rfl (by omega) (by omega)) ?_
    refine WL.lv rfl (LV.load1 (v := (.int .i64 (gI vals (ix)))) Try.underlying3 rfl rfl (g1 _ (KB.refl No _) 0 _ rfl)) ?_
    refine WL.lv rfl (LV.asg rfl) ?_
    refine WL.nil (thenQ.n ?_)
    refine WC.seq ?_
    refine WC.region ?_
    iterate 2 refine WL.lv rfl (LV.mv rfl) ?_
    refine WL.lv rfl (LV.neI rfl rfl) ?_
    refine WL.nil (thenQ.n ?_)
    refine WC.condP (p := (gI vals (ix)) ≠ 0) rfl (fun hc1 => ?_) (fun hc1 => ?_)
    · skip
      refine WC.seq ?_
      refine WC.region ?_
      refine WL.lv rfl (LV.mv rfl) ?_
      refine WL.lv rfl (LV.asg rfl) ?_
      refine WL.nil (thenQ.n ?_)
      refine WC.ret (blockQ.r <| thenQ.r <| thenQ.r <| blockQ.r <| thenQ.r <| ?_)
      exact ⟨_, fun a ha => res1 rfl ha rfl, congrArg (Value.int .i64) (by first | (rw [← q1, ORL_end (by omega)]; done) | (rw [← q1, ORL_at ixlo hk, if_pos (by omega)])), hL1.kb⟩
    · skip
      refine WC.skip (blockQ.n <| thenQ.n ?_)
      refine WC.region ?_
      refine WL.lv rfl (LV.add rfl rfl (wr64 (by omega) (by omega))) ?_
      refine WL.lv rfl (LV.mv rfl) ?_
      refine WL.nil (thenQ.n ?_)
      exact ⟨_, by omega, ix + 1, by omega, by omega, (by rw [← q1, ORL_at ixlo hk, if_neg (by omega)]), hL1, rfl, Weak.cons rfl <| Weak.cons rfl <| Weak.cons rfl <| Weak.cons rfl <| Weak.nil _⟩
  · skip
    refine WC.exit (thenQ.x <| thenQ.x <| blockQ.hit <| thenQ.n ?_)
    refine WC.seq ?_
    refine WC.region ?_
    refine WL.lv rfl (LV.mv rfl) ?_
    refine WL.lv rfl (LV.asg rfl) ?_
    refine WL.nil (thenQ.n ?_)
    refine WC.ret (?_)
    exact ⟨_, fun a ha => res1 rfl ha rfl, congrArg (Value.int .i64) (by first | (rw [← q1, ORL_end (by omega)]; done) | (rw [← q1, ORL_at ixlo hk, if_pos (by omega)])), hL1.kb⟩

theorem korder_calls {w : World} {x : (Int × Nat)} {y : (Int × Nat)} (ha : x.2 < 18446744073709551616) (hb : y.2 < 18446744073709551616) :
    Calls Try.prog 35 #[(.agg #[(.int .i64 ((x).1)), (.float .f64 ((x).2))]), (.agg #[(.int .i64 ((y).1)), (.float .f64 ((y).2))])] w fun e w' => ∃ v, e = .returned v ∧ (fun v w' => v = .int .i64 (LCF x y) ∧ KB No w w') v w' := by
  have ka_ := nkk_is x.2
  have kb_ := nkk_is y.2
  have ho_ := ord_is' y.2 x.2
  have ho2_ := ord_is' x.2 y.2
  have hc_ := cmpi_is x.1 y.1
  have hl_ := lcf_is x y
  have hS : SH w No w [] := SH.nil _ _
  refine calls (l := litOf [(.agg #[(.int .i64 ((x).1)), (.float .f64 ((x).2))]), (.agg #[(.int .i64 ((y).1)), (.float .f64 ((y).2))])] 0) Try.func35 rfl (n := 37) rfl (Nat.le_of_ble_eq_true rfl) (lit_args _) ?_
  refine WC.seq ?_
  refine WC.region ?_
  refine WL.xe rfl (XE.box #[(.int .i64 ((x).1)), (.float .f64 ((x).2))] hS rfl rfl) ?_
  rintro _ w1 ⟨b1, rfl, hS1, hk1⟩
  refine WL.xe rfl (XE.box #[(.int .i64 ((y).1)), (.float .f64 ((y).2))] hS1 rfl rfl) ?_
  rintro _ w2 ⟨b2, rfl, hS2, hk2⟩
  refine WL.lv rfl (LV.asg rfl) ?_
  refine WL.nil (thenQ.n ?_)
  refine WC.seq ?_
  have hS3 := SH.drew hS2
  refine WC.regionD [] (fun w_ => KB No w2.drew w_) [(.pure, 0), (.look, 1), (.pure, 3), (.look, 4), (.forced, 2), (.forced, 5), (.pure, 6), (.pure, 7)] (by kernel_rfl) (by kernel_rfl) (KB.refl _ _) ?_
  refine WS.pure rfl rfl (fun _ => LV.fieldA Try.underlying37 rfl ti27.sz rfl) ?_
  refine WS.look rfl rfl (fun _ hk_ => LV.load1 Try.underlying27 rfl rfl (Blk.cellN (SH.at hS3 (.tail _ (.head _))) 1 rfl _ hk_)) ?_
  refine WS.pure rfl rfl (fun _ => LV.fieldA Try.underlying37 rfl ti27.sz rfl) ?_
  refine WS.look rfl rfl (fun _ hk_ => LV.load1 Try.underlying27 rfl rfl (Blk.cellN (SH.at hS3 (.head _)) 1 rfl _ hk_)) ?_
  rcases Decidable.em (¬ (-9218868437227405312 ≤ sk ((x).2) ∧ sk ((x).2) ≤ 9218868437227405312)) with hg1 | hg1
  · refine WS.call rfl rfl (XC.fn Try.func33 (by kernel_rfl) rfl rfl rfl) (Calls.asB (knone_calls (x := ((x).2)) ) (decide_eq_true (hg1))) ?_
    rintro v_ w3 ⟨rfl, hk3⟩
    have hS4 := SH.same hS3 hk3
    refine ⟨fun h_ => (KB.transN (KB.refl _ _) hk3), ?_⟩
    rcases Decidable.em (¬ (-9218868437227405312 ≤ sk ((y).2) ∧ sk ((y).2) ≤ 9218868437227405312)) with hg2 | hg2
    · refine WS.call rfl rfl (XC.fn Try.func33 (by kernel_rfl) rfl rfl rfl) (Calls.asB (knone_calls (x := ((y).2)) ) (decide_eq_true (hg2))) ?_
      rintro v_ w4 ⟨rfl, hk4⟩
      have hS5 := SH.same hS4 hk4
      refine ⟨fun h_ => (KB.transN (KB.transN (KB.refl _ _) hk3) hk4), ?_⟩
      iterate 2 refine WS.pure rfl rfl (fun _ => LV.asg rfl) ?_
      refine WS.nil (thenQ.n ?_)
      refine WC.seq ?_
      refine WC.block ?_
      refine WC.seq ?_
      refine WC.region ?_
      iterate 3 refine WL.lv rfl (LV.mv rfl) ?_
      refine WL.lv rfl (LV.notB rfl) ?_
      refine WL.lv rfl (LV.pickT rfl rfl) ?_
      refine WL.lv rfl (LV.asg rfl) ?_
      refine WL.nil (thenQ.n ?_)
      refine WC.condF rfl ?_
      refine WC.seq ?_
      refine WC.region ?_
      iterate 3 refine WL.lv rfl (LV.mv rfl) ?_
      refine WL.lv rfl (LV.notB rfl) ?_
      refine WL.lv rfl (LV.pickT rfl rfl) ?_
      refine WL.lv rfl (LV.asg rfl) ?_
      refine WL.nil (thenQ.n ?_)
      refine WC.condF rfl ?_
      refine WC.skip (blockQ.n <| thenQ.n ?_)
      refine WC.seq ?_
      have hS6 := SH.drew hS5
      refine WC.regionD [] (fun w_ => KB No w4.drew w_) [(.pure, 0), (.look, 1), (.pure, 2), (.look, 3), (.pure, 5), (.look, 6), (.pure, 7), (.look, 8), (.forced, 4), (.forced, 9), (.forced, 10), (.forced, 11), (.pure, 12)] (by kernel_rfl) (by kernel_rfl) (KB.refl _ _) ?_
      refine WS.pure rfl rfl (fun _ => LV.fieldA Try.underlying37 rfl ti27.sz rfl) ?_
      refine WS.look rfl rfl (fun _ hk_ => LV.load1 Try.underlying27 rfl rfl (Blk.cellN (SH.at hS6 (.head _)) 1 rfl _ hk_)) ?_
      refine WS.pure rfl rfl (fun _ => LV.fieldA Try.underlying37 rfl ti27.sz rfl) ?_
      refine WS.look rfl rfl (fun _ hk_ => LV.load1 Try.underlying27 rfl rfl (Blk.cellN (SH.at hS6 (.tail _ (.head _))) 1 rfl _ hk_)) ?_
      refine WS.pure rfl rfl (fun _ => LV.fieldA Try.underlying37 rfl ti3.sz rfl) ?_
      refine WS.look rfl rfl (fun _ hk_ => LV.load1 Try.underlying3 rfl rfl (Blk.cellN (SH.at hS6 (.tail _ (.head _))) 0 rfl _ hk_)) ?_
      refine WS.pure rfl rfl (fun _ => LV.fieldA Try.underlying37 rfl ti3.sz rfl) ?_
      refine WS.look rfl rfl (fun _ hk_ => LV.load1 Try.underlying3 rfl rfl (Blk.cellN (SH.at hS6 (.head _)) 0 rfl _ hk_)) ?_
      refine WS.call rfl rfl (XC.fn Try.func49 (by kernel_rfl) rfl rfl rfl) (order_calls (a := ((y).2)) (b := ((x).2)) (by first | assumption | omega | exact hp _ (getD_mem (by omega)) | exact hpz _ (getD_mem (by omega))) (by first | assumption | omega | exact hp _ (getD_mem (by omega)) | exact hpz _ (getD_mem (by omega)))) ?_
      rintro v_ w5 ⟨rfl, hk5⟩
      have hS7 := SH.same hS6 hk5
      refine ⟨fun h_ => (KB.transN (KB.refl _ _) hk5), ?_⟩
      refine WS.call rfl rfl (XC.fn Try.func50 (by kernel_rfl) rfl rfl rfl) (ccmp_calls (x := ((x).1)) (y := ((y).1)) ) ?_
      rintro v_ w6 ⟨rfl, hk6⟩
      have hS8 := SH.same hS7 hk6
      refine ⟨fun h_ => (KB.transN (KB.transN (KB.refl _ _) hk5) hk6), ?_⟩
      refine WS.xe rfl rfl (XE.buildSlice (E := eI) [(0, (.int .i64 (ORD ((y).2) ((x).2)))), (1, (.int .i64 (CMPI ((x).1) ((y).1))))] #[(.int .i64 (ORD ((y).2) ((x).2))), (.int .i64 (CMPI ((x).1) ((y).1)))] [ORD ((y).2) ((x).2), CMPI ((x).1) ((y).1)] hS8 Try.underlying46 ti3 rfl (by decide) (by kernel_rfl) (.inr rfl) rfl rfl (by decide)) ?_
      rintro _ w7 ⟨b3, rfl, hS9, hk7⟩
      refine ⟨fun h_ => (KB.transN (KB.transN (KB.transN (KB.refl _ _) hk5) hk6) hk7), ?_⟩
      refine WS.call rfl rfl (XC.fn Try.func48 (by kernel_rfl) rfl rfl rfl) (cor_calls  (SH.rd hS9 (.head _)) rfl ) ?_
      rintro v_ w8 ⟨rfl, hk8⟩
      have hS10 := SH.same hS9 hk8
      refine ⟨fun h_ => (KB.transN (KB.transN (KB.transN (KB.transN (KB.refl _ _) hk5) hk6) hk7) hk8), ?_⟩
      refine WS.pure rfl rfl (fun _ => LV.asg rfl) ?_
      refine WS.nil (thenQ.n ?_)
      refine WC.ret (?_)
      exact ⟨_, fun a ha => res1 rfl ha rfl, congrArg (Value.int .i64) (by first | omega | (simp only [ORL]; split <;> (try split) <;> omega)), hS10.kb⟩
    · refine WS.call rfl rfl (XC.fn Try.func33 (by kernel_rfl) rfl rfl rfl) (Calls.asB (knone_calls (x := ((y).2)) ) (decide_eq_false (hg2))) ?_
      rintro v_ w9 ⟨rfl, hk9⟩
      have hS11 := SH.same hS4 hk9
      refine ⟨fun h_ => (KB.transN (KB.transN (KB.refl _ _) hk3) hk9), ?_⟩
      iterate 2 refine WS.pure rfl rfl (fun _ => LV.asg rfl) ?_
      refine WS.nil (thenQ.n ?_)
      refine WC.seq ?_
      refine WC.block ?_
      refine WC.seq ?_
      refine WC.region ?_
      iterate 3 refine WL.lv rfl (LV.mv rfl) ?_
      refine WL.lv rfl (LV.notB rfl) ?_
      refine WL.lv rfl (LV.pickT rfl rfl) ?_
      refine WL.lv rfl (LV.asg rfl) ?_
      refine WL.nil (thenQ.n ?_)
      refine WC.condT rfl ?_
      refine WC.seq ?_
      refine WC.region ?_
      refine WL.lv rfl (LV.asg rfl) ?_
      refine WL.nil (thenQ.n ?_)
      refine WC.ret (blockQ.r <| thenQ.r <| ?_)
      exact ⟨_, fun a ha => res1 rfl ha rfl, congrArg (Value.int .i64) (by first | omega | (simp only [ORL]; split <;> (try split) <;> omega)), hS11.kb⟩
  · refine WS.call rfl rfl (XC.fn Try.func33 (by kernel_rfl) rfl rfl rfl) (Calls.asB (knone_calls (x := ((x).2)) ) (decide_eq_false (hg1))) ?_
    rintro v_ w10 ⟨rfl, hk10⟩
    have hS12 := SH.same hS3 hk10
    refine ⟨fun h_ => (KB.transN (KB.refl _ _) hk10), ?_⟩
    rcases Decidable.em (¬ (-9218868437227405312 ≤ sk ((y).2) ∧ sk ((y).2) ≤ 9218868437227405312)) with hg3 | hg3
    · refine WS.call rfl rfl (XC.fn Try.func33 (by kernel_rfl) rfl rfl rfl) (Calls.asB (knone_calls (x := ((y).2)) ) (decide_eq_true (hg3))) ?_
      rintro v_ w11 ⟨rfl, hk11⟩
      have hS13 := SH.same hS12 hk11
      refine ⟨fun h_ => (KB.transN (KB.transN (KB.refl _ _) hk10) hk11), ?_⟩
      iterate 2 refine WS.pure rfl rfl (fun _ => LV.asg rfl) ?_
      refine WS.nil (thenQ.n ?_)
      refine WC.seq ?_
      refine WC.block ?_
      refine WC.seq ?_
      refine WC.region ?_
      iterate 2 refine WL.lv rfl (LV.mv rfl) ?_
      iterate 2 refine WL.off rfl ?_
      refine WL.lv rfl (LV.pickF rfl rfl) ?_
      refine WL.lv rfl (LV.asg rfl) ?_
      refine WL.nil (thenQ.n ?_)
      refine WC.condF rfl ?_
      refine WC.seq ?_
      refine WC.region ?_
      iterate 3 refine WL.lv rfl (LV.mv rfl) ?_
      refine WL.lv rfl (LV.notB rfl) ?_
      refine WL.lv rfl (LV.pickT rfl rfl) ?_
      refine WL.lv rfl (LV.asg rfl) ?_
      refine WL.nil (thenQ.n ?_)
      refine WC.condT rfl ?_
      refine WC.seq ?_
      refine WC.region ?_
      refine WL.lv rfl (LV.asg rfl) ?_
      refine WL.nil (thenQ.n ?_)
      refine WC.ret (blockQ.r <| thenQ.r <| ?_)
      exact ⟨_, fun a ha => res1 rfl ha rfl, congrArg (Value.int .i64) (by first | omega | (simp only [ORL]; split <;> (try split) <;> omega)), hS13.kb⟩
    · refine WS.call rfl rfl (XC.fn Try.func33 (by kernel_rfl) rfl rfl rfl) (Calls.asB (knone_calls (x := ((y).2)) ) (decide_eq_false (hg3))) ?_
      rintro v_ w12 ⟨rfl, hk12⟩
      have hS14 := SH.same hS12 hk12
      refine ⟨fun h_ => (KB.transN (KB.transN (KB.refl _ _) hk10) hk12), ?_⟩
      iterate 2 refine WS.pure rfl rfl (fun _ => LV.asg rfl) ?_
      refine WS.nil (thenQ.n ?_)
      refine WC.seq ?_
      refine WC.block ?_
      refine WC.seq ?_
      refine WC.region ?_
      iterate 2 refine WL.lv rfl (LV.mv rfl) ?_
      iterate 2 refine WL.off rfl ?_
      refine WL.lv rfl (LV.pickF rfl rfl) ?_
      refine WL.lv rfl (LV.asg rfl) ?_
      refine WL.nil (thenQ.n ?_)
      refine WC.condF rfl ?_
      refine WC.seq ?_
      refine WC.region ?_
      iterate 2 refine WL.lv rfl (LV.mv rfl) ?_
      iterate 2 refine WL.off rfl ?_
      refine WL.lv rfl (LV.pickF rfl rfl) ?_
      refine WL.lv rfl (LV.asg rfl) ?_
      refine WL.nil (thenQ.n ?_)
      refine WC.condF rfl ?_
      refine WC.skip (blockQ.n <| thenQ.n ?_)
      refine WC.seq ?_
      have hS15 := SH.drew hS14
      refine WC.regionD [] (fun w_ => KB No w12.drew w_) [(.pure, 0), (.look, 1), (.pure, 2), (.look, 3), (.pure, 5), (.look, 6), (.pure, 7), (.look, 8), (.forced, 4), (.forced, 9), (.forced, 10), (.forced, 11), (.pure, 12)] (by kernel_rfl) (by kernel_rfl) (KB.refl _ _) ?_
      refine WS.pure rfl rfl (fun _ => LV.fieldA Try.underlying37 rfl ti27.sz rfl) ?_
      refine WS.look rfl rfl (fun _ hk_ => LV.load1 Try.underlying27 rfl rfl (Blk.cellN (SH.at hS15 (.head _)) 1 rfl _ hk_)) ?_
      refine WS.pure rfl rfl (fun _ => LV.fieldA Try.underlying37 rfl ti27.sz rfl) ?_
      refine WS.look rfl rfl (fun _ hk_ => LV.load1 Try.underlying27 rfl rfl (Blk.cellN (SH.at hS15 (.tail _ (.head _))) 1 rfl _ hk_)) ?_
      refine WS.pure rfl rfl (fun _ => LV.fieldA Try.underlying37 rfl ti3.sz rfl) ?_
      refine WS.look rfl rfl (fun _ hk_ => LV.load1 Try.underlying3 rfl rfl (Blk.cellN (SH.at hS15 (.tail _ (.head _))) 0 rfl _ hk_)) ?_
      refine WS.pure rfl rfl (fun _ => LV.fieldA Try.underlying37 rfl ti3.sz rfl) ?_
      refine WS.look rfl rfl (fun _ hk_ => LV.load1 Try.underlying3 rfl rfl (Blk.cellN (SH.at hS15 (.head _)) 0 rfl _ hk_)) ?_
      refine WS.call rfl rfl (XC.fn Try.func49 (by kernel_rfl) rfl rfl rfl) (order_calls (a := ((y).2)) (b := ((x).2)) (by first | assumption | omega | exact hp _ (getD_mem (by omega)) | exact hpz _ (getD_mem (by omega))) (by first | assumption | omega | exact hp _ (getD_mem (by omega)) | exact hpz _ (getD_mem (by omega)))) ?_
      rintro v_ w13 ⟨rfl, hk13⟩
      have hS16 := SH.same hS15 hk13
      refine ⟨fun h_ => (KB.transN (KB.refl _ _) hk13), ?_⟩
      refine WS.call rfl rfl (XC.fn Try.func50 (by kernel_rfl) rfl rfl rfl) (ccmp_calls (x := ((x).1)) (y := ((y).1)) ) ?_
      rintro v_ w14 ⟨rfl, hk14⟩
      have hS17 := SH.same hS16 hk14
      refine ⟨fun h_ => (KB.transN (KB.transN (KB.refl _ _) hk13) hk14), ?_⟩
      refine WS.xe rfl rfl (XE.buildSlice (E := eI) [(0, (.int .i64 (ORD ((y).2) ((x).2)))), (1, (.int .i64 (CMPI ((x).1) ((y).1))))] #[(.int .i64 (ORD ((y).2) ((x).2))), (.int .i64 (CMPI ((x).1) ((y).1)))] [ORD ((y).2) ((x).2), CMPI ((x).1) ((y).1)] hS17 Try.underlying46 ti3 rfl (by decide) (by kernel_rfl) (.inr rfl) rfl rfl (by decide)) ?_
      rintro _ w15 ⟨b4, rfl, hS18, hk15⟩
      refine ⟨fun h_ => (KB.transN (KB.transN (KB.transN (KB.refl _ _) hk13) hk14) hk15), ?_⟩
      refine WS.call rfl rfl (XC.fn Try.func48 (by kernel_rfl) rfl rfl rfl) (cor_calls  (SH.rd hS18 (.head _)) rfl ) ?_
      rintro v_ w16 ⟨rfl, hk16⟩
      have hS19 := SH.same hS18 hk16
      refine ⟨fun h_ => (KB.transN (KB.transN (KB.transN (KB.transN (KB.refl _ _) hk13) hk14) hk15) hk16), ?_⟩
      refine WS.pure rfl rfl (fun _ => LV.asg rfl) ?_
      refine WS.nil (thenQ.n ?_)
      refine WC.ret (?_)
      exact ⟨_, fun a ha => res1 rfl ha rfl, congrArg (Value.int .i64) (by first | omega | (simp only [ORL]; split <;> (try split) <;> omega)), hS19.kb⟩

theorem kahead_calls {w : World} {a : (Int × Nat)} {b : (Int × Nat)} (ha : a.2 < 18446744073709551616) (hb : b.2 < 18446744073709551616) :
    Calls Try.prog 32 #[(.agg #[(.int .i64 ((a).1)), (.float .f64 ((a).2))]), (.agg #[(.int .i64 ((b).1)), (.float .f64 ((b).2))])] w fun e w' => ∃ v, e = .returned v ∧ (fun v w' => v = .bool (decide (LCF a b < 0)) ∧ KB No w w') v w' := by
  have ka_ := nkk_is a.2
  have kb_ := nkk_is b.2
  have ho_ := ord_is' b.2 a.2
  have ho2_ := ord_is' a.2 b.2
  have hc_ := cmpi_is a.1 b.1
  have hl_ := lcf_is a b
  have hS : SH w No w [] := SH.nil _ _
  refine calls (l := litOf [(.agg #[(.int .i64 ((a).1)), (.float .f64 ((a).2))]), (.agg #[(.int .i64 ((b).1)), (.float .f64 ((b).2))])] 0) Try.func32 rfl (n := 55) rfl (Nat.le_of_ble_eq_true rfl) (lit_args _) ?_
  refine WC.seq ?_
  refine WC.region ?_
  refine WL.xe rfl (XE.box #[(.int .i64 ((a).1)), (.float .f64 ((a).2))] hS rfl rfl) ?_
  rintro _ w1 ⟨b1, rfl, hS1, hk1⟩
  refine WL.xe rfl (XE.box #[(.int .i64 ((b).1)), (.float .f64 ((b).2))] hS1 rfl rfl) ?_
  rintro _ w2 ⟨b2, rfl, hS2, hk2⟩
  refine WL.lv rfl (LV.asg rfl) ?_
  refine WL.nil (thenQ.n ?_)
  iterate 2 refine WC.seq ?_
  refine WC.region ?_
  refine WL.lv rfl (LV.fieldA Try.underlying37 rfl ti27.sz rfl) ?_
  refine WL.lv rfl (LV.load1 Try.underlying27 rfl rfl (Blk.cellN (SH.at hS2 (.tail _ (.head _))) 1 rfl _ (KB.refl No _))) ?_
  refine WL.lv rfl (LV.fieldA Try.underlying37 rfl ti27.sz rfl) ?_
  refine WL.lv rfl (LV.load1 Try.underlying27 rfl rfl (Blk.cellN (SH.at hS2 (.tail _ (.head _))) 1 rfl _ (KB.refl No _))) ?_
  rcases Decidable.em (¬ (((-9218868437227405312 ≤ sk ((a).2) ∧ sk ((a).2) ≤ 9218868437227405312) ∧ (-9218868437227405312 ≤ sk ((a).2) ∧ sk ((a).2) ≤ 9218868437227405312)) ∧ sk ((a).2) = sk ((a).2))) with hg1 | hg1
  · refine WL.lv rfl (LV.as (LV.neF (a := ((a).2)) (b := ((a).2)) rfl rfl) (decide_eq_true hg1)) ?_
    refine WL.lv rfl (LV.mv rfl) ?_
    iterate 5 refine WL.off rfl ?_
    refine WL.lv rfl (LV.pickT rfl rfl) ?_
    refine WL.nil (thenQ.n ?_)
    refine WC.condT rfl ?_
    refine WC.seq ?_
    refine WC.region ?_
    refine WL.lv rfl (LV.fieldA Try.underlying37 rfl ti27.sz rfl) ?_
    refine WL.lv rfl (LV.load1 Try.underlying27 rfl rfl (Blk.cellN (SH.at hS2 (.tail _ (.head _))) 1 rfl _ (KB.refl No _))) ?_
    refine WL.lv rfl (LV.fieldA Try.underlying37 rfl ti27.sz rfl) ?_
    refine WL.lv rfl (LV.load1 Try.underlying27 rfl rfl (Blk.cellN (SH.at hS2 (.tail _ (.head _))) 1 rfl _ (KB.refl No _))) ?_
    rcases Decidable.em (((-9218868437227405312 ≤ sk ((a).2) ∧ sk ((a).2) ≤ 9218868437227405312) ∧ (-9218868437227405312 ≤ sk ((a).2) ∧ sk ((a).2) ≤ 9218868437227405312)) ∧ sk ((a).2) = sk ((a).2)) with hg2 | hg2
    · refine WL.lv rfl (LV.as (LV.eqF (a := ((a).2)) (b := ((a).2)) rfl rfl) (decide_eq_true hg2)) ?_
      refine WL.lv rfl (LV.mv rfl) ?_
      iterate 12 refine WL.off rfl ?_
      refine WL.lv rfl (LV.pickT rfl rfl) ?_
      refine WL.lv rfl (LV.asg rfl) ?_
      refine WL.nil (thenQ.n ?_)
      refine WC.ret (thenQ.r <| ?_)
      exact ⟨_, fun a ha => res1 rfl ha rfl, congrArg Value.bool (decide_eq_true (show LCF a b < 0 by omega)).symm, hS2.kb⟩
    · refine WL.lv rfl (LV.as (LV.eqF (a := ((a).2)) (b := ((a).2)) rfl rfl) (decide_eq_false hg2)) ?_
      refine WL.lv rfl (LV.mv rfl) ?_
      refine WL.lv rfl (LV.fieldA Try.underlying37 rfl ti27.sz rfl) ?_
      refine WL.lv rfl (LV.load1 Try.underlying27 rfl rfl (Blk.cellN (SH.at hS2 (.head _)) 1 rfl _ (KB.refl No _))) ?_
      refine WL.lv rfl (LV.fieldA Try.underlying37 rfl ti27.sz rfl) ?_
      refine WL.lv rfl (LV.load1 Try.underlying27 rfl rfl (Blk.cellN (SH.at hS2 (.head _)) 1 rfl _ (KB.refl No _))) ?_
      rcases Decidable.em (¬ (((-9218868437227405312 ≤ sk ((b).2) ∧ sk ((b).2) ≤ 9218868437227405312) ∧ (-9218868437227405312 ≤ sk ((b).2) ∧ sk ((b).2) ≤ 9218868437227405312)) ∧ sk ((b).2) = sk ((b).2))) with hg3 | hg3
      · refine WL.lv rfl (LV.as (LV.neF (a := ((b).2)) (b := ((b).2)) rfl rfl) (decide_eq_true hg3)) ?_
        refine WL.lv rfl (LV.mv rfl) ?_
        refine WL.lv rfl (LV.fieldA Try.underlying37 rfl ti3.sz rfl) ?_
        refine WL.lv rfl (LV.load1 Try.underlying3 rfl rfl (Blk.cellN (SH.at hS2 (.tail _ (.head _))) 0 rfl _ (KB.refl No _))) ?_
        refine WL.lv rfl (LV.fieldA Try.underlying37 rfl ti3.sz rfl) ?_
        refine WL.lv rfl (LV.load1 Try.underlying3 rfl rfl (Blk.cellN (SH.at hS2 (.head _)) 0 rfl _ (KB.refl No _))) ?_
        refine WL.lv rfl (LV.ltI rfl rfl) ?_
        refine WL.lv rfl (LV.pickT rfl rfl) ?_
        refine WL.lv rfl (LV.pickF rfl rfl) ?_
        refine WL.lv rfl (LV.asg rfl) ?_
        refine WL.nil (thenQ.n ?_)
        refine WC.ret (thenQ.r <| ?_)
        exact ⟨_, fun a ha => res1 rfl ha rfl, congrArg Value.bool (decide_eq_decide.2 (by omega)), hS2.kb⟩
      · refine WL.lv rfl (LV.as (LV.neF (a := ((b).2)) (b := ((b).2)) rfl rfl) (decide_eq_false hg3)) ?_
        refine WL.lv rfl (LV.mv rfl) ?_
        iterate 5 refine WL.off rfl ?_
        iterate 2 refine WL.lv rfl (LV.pickF rfl rfl) ?_
        refine WL.lv rfl (LV.asg rfl) ?_
        refine WL.nil (thenQ.n ?_)
        refine WC.ret (thenQ.r <| ?_)
        exact ⟨_, fun a ha => res1 rfl ha rfl, congrArg Value.bool (decide_eq_false (show ¬ (LCF a b < 0) by omega)).symm, hS2.kb⟩
  · refine WL.lv rfl (LV.as (LV.neF (a := ((a).2)) (b := ((a).2)) rfl rfl) (decide_eq_false hg1)) ?_
    refine WL.lv rfl (LV.mv rfl) ?_
    refine WL.lv rfl (LV.fieldA Try.underlying37 rfl ti27.sz rfl) ?_
    refine WL.lv rfl (LV.load1 Try.underlying27 rfl rfl (Blk.cellN (SH.at hS2 (.head _)) 1 rfl _ (KB.refl No _))) ?_
    refine WL.lv rfl (LV.fieldA Try.underlying37 rfl ti27.sz rfl) ?_
    refine WL.lv rfl (LV.load1 Try.underlying27 rfl rfl (Blk.cellN (SH.at hS2 (.head _)) 1 rfl _ (KB.refl No _))) ?_
    refine WL.lv rfl (LV.neF (a := ((b).2)) (b := ((b).2)) rfl rfl) ?_
    refine WL.lv rfl (LV.pickF rfl rfl) ?_
    refine WL.nil (thenQ.n ?_)
    refine WC.condP (p := ¬ (((-9218868437227405312 ≤ sk ((b).2) ∧ sk ((b).2) ≤ 9218868437227405312) ∧ (-9218868437227405312 ≤ sk ((b).2) ∧ sk ((b).2) ≤ 9218868437227405312)) ∧ sk ((b).2) = sk ((b).2))) rfl (fun hc1 => ?_) (fun hc1 => ?_)
    · skip
      refine WC.seq ?_
      refine WC.region ?_
      refine WL.lv rfl (LV.fieldA Try.underlying37 rfl ti27.sz rfl) ?_
      refine WL.lv rfl (LV.load1 Try.underlying27 rfl rfl (Blk.cellN (SH.at hS2 (.tail _ (.head _))) 1 rfl _ (KB.refl No _))) ?_
      refine WL.lv rfl (LV.fieldA Try.underlying37 rfl ti27.sz rfl) ?_
      refine WL.lv rfl (LV.load1 Try.underlying27 rfl rfl (Blk.cellN (SH.at hS2 (.tail _ (.head _))) 1 rfl _ (KB.refl No _))) ?_
      rcases Decidable.em (((-9218868437227405312 ≤ sk ((a).2) ∧ sk ((a).2) ≤ 9218868437227405312) ∧ (-9218868437227405312 ≤ sk ((a).2) ∧ sk ((a).2) ≤ 9218868437227405312)) ∧ sk ((a).2) = sk ((a).2)) with hg4 | hg4
      · refine WL.lv rfl (LV.as (LV.eqF (a := ((a).2)) (b := ((a).2)) rfl rfl) (decide_eq_true hg4)) ?_
        refine WL.lv rfl (LV.mv rfl) ?_
        iterate 12 refine WL.off rfl ?_
        refine WL.lv rfl (LV.pickT rfl rfl) ?_
        refine WL.lv rfl (LV.asg rfl) ?_
        refine WL.nil (thenQ.n ?_)
        refine WC.ret (thenQ.r <| ?_)
        exact ⟨_, fun a ha => res1 rfl ha rfl, congrArg Value.bool (decide_eq_true (show LCF a b < 0 by omega)).symm, hS2.kb⟩
      · refine WL.lv rfl (LV.as (LV.eqF (a := ((a).2)) (b := ((a).2)) rfl rfl) (decide_eq_false hg4)) ?_
        refine WL.lv rfl (LV.mv rfl) ?_
        refine WL.lv rfl (LV.fieldA Try.underlying37 rfl ti27.sz rfl) ?_
        refine WL.lv rfl (LV.load1 Try.underlying27 rfl rfl (Blk.cellN (SH.at hS2 (.head _)) 1 rfl _ (KB.refl No _))) ?_
        refine WL.lv rfl (LV.fieldA Try.underlying37 rfl ti27.sz rfl) ?_
        refine WL.lv rfl (LV.load1 Try.underlying27 rfl rfl (Blk.cellN (SH.at hS2 (.head _)) 1 rfl _ (KB.refl No _))) ?_
        refine WL.lv rfl (LV.as (LV.neF (a := ((b).2)) (b := ((b).2)) rfl rfl) (decide_eq_true hc1)) ?_
        refine WL.lv rfl (LV.mv rfl) ?_
        refine WL.lv rfl (LV.fieldA Try.underlying37 rfl ti3.sz rfl) ?_
        refine WL.lv rfl (LV.load1 Try.underlying3 rfl rfl (Blk.cellN (SH.at hS2 (.tail _ (.head _))) 0 rfl _ (KB.refl No _))) ?_
        refine WL.lv rfl (LV.fieldA Try.underlying37 rfl ti3.sz rfl) ?_
        refine WL.lv rfl (LV.load1 Try.underlying3 rfl rfl (Blk.cellN (SH.at hS2 (.head _)) 0 rfl _ (KB.refl No _))) ?_
        refine WL.lv rfl (LV.ltI rfl rfl) ?_
        refine WL.lv rfl (LV.pickT rfl rfl) ?_
        refine WL.lv rfl (LV.pickF rfl rfl) ?_
        refine WL.lv rfl (LV.asg rfl) ?_
        refine WL.nil (thenQ.n ?_)
        refine WC.ret (thenQ.r <| ?_)
        exact ⟨_, fun a ha => res1 rfl ha rfl, congrArg Value.bool (decide_eq_decide.2 (by omega)), hS2.kb⟩
    · skip
      refine WC.skip (thenQ.n ?_)
      refine WC.seq ?_
      refine WC.region ?_
      refine WL.lv rfl (LV.fieldA Try.underlying37 rfl ti27.sz rfl) ?_
      refine WL.lv rfl (LV.load1 Try.underlying27 rfl rfl (Blk.cellN (SH.at hS2 (.tail _ (.head _))) 1 rfl _ (KB.refl No _))) ?_
      refine WL.lv rfl (LV.fieldA Try.underlying37 rfl ti27.sz rfl) ?_
      refine WL.lv rfl (LV.load1 Try.underlying27 rfl rfl (Blk.cellN (SH.at hS2 (.head _)) 1 rfl _ (KB.refl No _))) ?_
      refine WL.call rfl (XC.fn Try.func45 (by kernel_rfl) rfl rfl rfl) (rorder_calls (a := ((a).2)) (b := ((b).2)) (by first | assumption | omega | exact hp _ (getD_mem (by omega)) | exact hpz _ (getD_mem (by omega))) (by first | assumption | omega | exact hp _ (getD_mem (by omega)) | exact hpz _ (getD_mem (by omega)))) ?_
      rintro v_ w3 ⟨rfl, hk3⟩
      have hS3 := SH.same hS2 hk3
      refine WL.lv rfl (LV.asg rfl) ?_
      refine WL.nil (thenQ.n ?_)
      refine WC.seq ?_
      refine WC.region ?_
      refine WL.lv rfl (LV.mv rfl) ?_
      rcases Decidable.em ((ORD ((a).2) ((b).2)) > 0) with hg5 | hg5
      · refine WL.lv rfl (LV.as (LV.gtI rfl rfl) (decide_eq_true hg5)) ?_
        refine WL.lv rfl (LV.mv rfl) ?_
        iterate 9 refine WL.off rfl ?_
        refine WL.lv rfl (LV.pickT rfl rfl) ?_
        refine WL.lv rfl (LV.asg rfl) ?_
        refine WL.nil (thenQ.n ?_)
        refine WC.ret (?_)
        exact ⟨_, fun a ha => res1 rfl ha rfl, congrArg Value.bool (decide_eq_true (show LCF a b < 0 by omega)).symm, hS3.kb⟩
      · refine WL.lv rfl (LV.as (LV.gtI rfl rfl) (decide_eq_false hg5)) ?_
        iterate 2 refine WL.lv rfl (LV.mv rfl) ?_
        rcases Decidable.em ((ORD ((a).2) ((b).2)) = 0) with hg6 | hg6
        · refine WL.lv rfl (LV.as (LV.eqI rfl rfl) (decide_eq_true hg6)) ?_
          refine WL.lv rfl (LV.mv rfl) ?_
          refine WL.lv rfl (LV.fieldA Try.underlying37 rfl ti3.sz rfl) ?_
          refine WL.lv rfl (LV.load1 Try.underlying3 rfl rfl (Blk.cellN (SH.at hS3 (.tail _ (.head _))) 0 rfl _ (KB.refl No _))) ?_
          refine WL.lv rfl (LV.fieldA Try.underlying37 rfl ti3.sz rfl) ?_
          refine WL.lv rfl (LV.load1 Try.underlying3 rfl rfl (Blk.cellN (SH.at hS3 (.head _)) 0 rfl _ (KB.refl No _))) ?_
          refine WL.lv rfl (LV.ltI rfl rfl) ?_
          refine WL.lv rfl (LV.pickT rfl rfl) ?_
          refine WL.lv rfl (LV.pickF rfl rfl) ?_
          refine WL.lv rfl (LV.asg rfl) ?_
          refine WL.nil (thenQ.n ?_)
          refine WC.ret (?_)
          exact ⟨_, fun a ha => res1 rfl ha rfl, congrArg Value.bool (decide_eq_decide.2 (by omega)), hS3.kb⟩
        · refine WL.lv rfl (LV.as (LV.eqI rfl rfl) (decide_eq_false hg6)) ?_
          refine WL.lv rfl (LV.mv rfl) ?_
          iterate 5 refine WL.off rfl ?_
          iterate 2 refine WL.lv rfl (LV.pickF rfl rfl) ?_
          refine WL.lv rfl (LV.asg rfl) ?_
          refine WL.nil (thenQ.n ?_)
          refine WC.ret (?_)
          exact ⟨_, fun a ha => res1 rfl ha rfl, congrArg Value.bool (decide_eq_false (show ¬ (LCF a b < 0) by omega)).symm, hS3.kb⟩

end Go.Proofs.Ythmjieikbeemhaa
