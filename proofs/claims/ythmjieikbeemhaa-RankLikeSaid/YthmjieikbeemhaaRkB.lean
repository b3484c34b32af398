/- How much two texts are like each other. -/
import Derived.Test.YthmjieikbeemhaaNr
import Derived.Test.YthmjieikbeemhaaMyT
import Derived.Test.YthmjieikbeemhaaFlC
import Derived.Test.YthmjieikbeemhaaRkA
namespace Go.Proofs.Ythmjieikbeemhaa
open Go Go.Gv Go.RowKit Go.Flt Go.Mys Go.Num Go.Scr Go.Dec Go.Rnk
set_option linter.unusedVariables false
set_option linter.unusedSimpArgs false

theorem rlong_calls {w : World} {A_l : Option Addr} {n_l c_l : Nat} {l : List Ln} (h_l : St No w (Rd eL (.slice A_l n_l c_l) l)) (hn_l : l.length = n_l)  :
    Calls Try.prog 24 #[(.slice A_l n_l c_l)] w fun e w' => ∃ v, e = .returned v ∧ (fun v w' => v = .bool (decide (l.length > 400)) ∧ KB No w w') v w' := by
  subst hn_l
  have hma := Rd.max h_l.now
  have hS : SH w No w [] := SH.nil _ _
  refine calls (l := litOf [(.slice A_l l.length c_l)] 0) Try.func24 rfl (n := 6) rfl (Nat.le_of_ble_eq_true rfl) (lit_args _) ?_
  refine WC.seq ?_
  refine WC.region ?_
  refine WL.lv rfl (LV.asg rfl) ?_
  refine WL.nil (thenQ.n ?_)
  refine WC.seq ?_
  refine WC.region ?_
  refine WL.lv rfl (LV.mv rfl) ?_
  refine WL.lv rfl (LV.lenL Try.underlying22 rfl) ?_
  refine WL.lv rfl (LV.gtI rfl rfl) ?_
  refine WL.lv rfl (LV.asg rfl) ?_
  refine WL.nil (thenQ.n ?_)
  refine WC.ret (?_)
  exact ⟨_, fun a ha => res1 rfl ha rfl, congrArg Value.bool (decide_eq_decide.2 (by omega)), hS.kb⟩

theorem common_calls {w : World} {A_a : Option Addr} {n_a c_a : Nat} {a : List Ln} {A_b : Option Addr} {n_b c_b : Nat} {b : List Ln} (h_a : St No w (Rd eL (.slice A_a n_a c_a) a)) (hn_a : a.length = n_a) (h_b : St No w (Rd eL (.slice A_b n_b c_b) b)) (hn_b : b.length = n_b)  :
    Calls Try.prog 11 #[(.slice A_a n_a c_a), (.slice A_b n_b c_b)] w fun e w' => ∃ v, e = .returned v ∧ (fun v w' => v = .int .i64 (CMN a b) ∧ KB No w w') v w' := by
  subst hn_a hn_b
  have hma := Rd.max h_a.now
  have hmb := Rd.max h_b.now
  have hS : SH w No w [] := SH.nil _ _
  refine calls (l := litOf [(.slice A_a a.length c_a), (.slice A_b b.length c_b)] 0) Try.func11 rfl (n := 24) rfl (Nat.le_of_ble_eq_true rfl) (lit_args _) ?_
  refine WC.seq ?_
  refine WC.region ?_
  refine WL.lv rfl (LV.asg rfl) ?_
  refine WL.nil (thenQ.n ?_)
  iterate 2 refine WC.seq ?_
  refine WC.region ?_
  refine WL.lv rfl (LV.mv rfl) ?_
  rcases Decidable.em (a.length > 400) with hg1 | hg1
  · refine WL.call rfl (XC.fn Try.func24 (by kernel_rfl) rfl rfl rfl) (Calls.asB (rlong_calls  (SH.stN hS h_a) rfl ) (decide_eq_true (hg1))) ?_
    rintro v_ w1 ⟨rfl, hk1⟩
    have hS1 := SH.same hS hk1
    refine WL.lv rfl (LV.mv rfl) ?_
    iterate 2 refine WL.off rfl ?_
    refine WL.lv rfl (LV.pickT rfl rfl) ?_
    refine WL.nil (thenQ.n ?_)
    refine WC.condT rfl ?_
    refine WC.seq ?_
    refine WC.region ?_
    refine WL.lv rfl (LV.asg rfl) ?_
    refine WL.nil (thenQ.n ?_)
    refine WC.ret (thenQ.r <| ?_)
    exact ⟨_, fun a ha => res1 rfl ha rfl, congrArg (Value.int .i64) (by unfold CMN; first | rw [if_pos (by omega)] | rw [if_neg (by omega), hra, hrb]), hS1.kb⟩
  · refine WL.call rfl (XC.fn Try.func24 (by kernel_rfl) rfl rfl rfl) (Calls.asB (rlong_calls  (SH.stN hS h_a) rfl ) (decide_eq_false (hg1))) ?_
    rintro v_ w2 ⟨rfl, hk2⟩
    have hS2 := SH.same hS hk2
    iterate 2 refine WL.lv rfl (LV.mv rfl) ?_
    refine WL.call rfl (XC.fn Try.func24 (by kernel_rfl) rfl rfl rfl) (rlong_calls  (SH.stN hS2 h_b) rfl ) ?_
    rintro v_ w3 ⟨rfl, hk3⟩
    have hS3 := SH.same hS2 hk3
    refine WL.lv rfl (LV.pickF rfl rfl) ?_
    refine WL.nil (thenQ.n ?_)
    refine WC.condP (p := b.length > 400) rfl (fun hc1 => ?_) (fun hc1 => ?_)
    · skip
      refine WC.seq ?_
      refine WC.region ?_
      refine WL.lv rfl (LV.asg rfl) ?_
      refine WL.nil (thenQ.n ?_)
      refine WC.ret (thenQ.r <| ?_)
      exact ⟨_, fun a ha => res1 rfl ha rfl, congrArg (Value.int .i64) (by unfold CMN; first | rw [if_pos (by omega)] | rw [if_neg (by omega), hra, hrb]), hS3.kb⟩
    · skip
      refine WC.skip (thenQ.n ?_)
      refine WC.seq ?_
      refine WC.region ?_
      iterate 2 refine WL.lv rfl (LV.mv rfl) ?_
      refine WL.xe rfl (XE.buildSlice (E := eV) [(0, (.slice A_a a.length c_a)), (1, (.slice A_b b.length c_b))] #[(.slice A_a a.length c_a), (.slice A_b b.length c_b)] [(⟨A_a, a.length, c_a⟩ : SV), (⟨A_b, b.length, c_b⟩ : SV)] hS3 Try.underlying30 ti22 rfl (by decide) (by kernel_rfl) (.inr rfl) rfl rfl (by decide)) ?_
      rintro _ w4 ⟨b1, rfl, hS4, hk4⟩
      refine WL.call rfl (XC.fn Try.func25 (by kernel_rfl) rfl rfl rfl) (numbers_eq  (St.rrOf (rows := [((⟨A_a, a.length, c_a⟩ : SV), a), ((⟨A_b, b.length, c_b⟩ : SV), b)]) (SH.rd hS4 (.head _)) (St.inCons (r := (⟨A_a, a.length, c_a⟩ : SV)) rfl (SH.stN hS4 h_a) (St.inCons (r := (⟨A_b, b.length, c_b⟩ : SV)) rfl (SH.stN hS4 h_b) St.in0))) rfl (by simp) (by intro p hp; simp at hp; rcases hp with rfl | rfl <;> simp only [] <;> omega)) ?_
      rintro v_ w5 ⟨A1, c1, rows1, rfl, hq1, hS5⟩
      have hS6 := SH.joinN hS4 hS5
      have hmt := map_two (x := NA a) (y := NB a b) hq1
      have hra : (rows1.getD (0 : Int).toNat default).2 = NA a := hmt.2.1
      have hrb : (rows1.getD (1 : Int).toNat default).2 = NB a b := hmt.2.2
      have hla := NA_len a
      have hlb := NB_len a b
      have hl1 := hmt.1
      have hlra : (rows1.getD (0 : Int).toNat default).2.length = a.length := by rw [hra]; exact hla
      have hlrb : (rows1.getD (1 : Int).toNat default).2.length = b.length := by rw [hrb]; exact hlb
      refine WL.lv rfl (LV.asg rfl) ?_
      refine WL.nil (thenQ.n ?_)
      refine WC.seq ?_
      have hS7 := SH.drew hS6
      refine WC.regionD [] (fun w_ => KB No w5.drew w_) [(.pure, 0), (.pure, 1), (.look, 2), (.pure, 3), (.pure, 4), (.look, 5), (.forced, 6), (.pure, 7), (.pure, 8)] (by kernel_rfl) (by kernel_rfl) (KB.refl _ _) ?_
      refine WS.pure rfl rfl (fun _ => LV.mv rfl) ?_
      obtain ⟨A2, c2, A3, c3, e1, g1, e2, r1⟩ := St.eltRR (SH.rdRR hS7 (.head _)) default (0 : Int) (by omega) (by omega)
      refine WS.pure rfl rfl (fun _ => LV.idxA Try.underlying48 ti46.sz rfl e1 rfl (by omega) (by omega)) ?_
      refine WS.look rfl rfl (fun _ hk_ => LV.load1 Try.underlying46 rfl rfl (g1 _ hk_)) ?_
      refine WS.pure rfl rfl (fun _ => LV.mv rfl) ?_
      obtain ⟨A4, c4, A5, c5, e3, g2, e4, r2⟩ := St.eltRR (SH.rdRR hS7 (.head _)) default (1 : Int) (by omega) (by omega)
      refine WS.pure rfl rfl (fun _ => LV.idxA Try.underlying48 ti46.sz rfl e3 rfl (by omega) (by omega)) ?_
      refine WS.look rfl rfl (fun _ hk_ => LV.load1 Try.underlying46 rfl rfl (g2 _ hk_)) ?_
      refine WS.call rfl rfl (XC.fn Try.func26 (by kernel_rfl) rfl rfl rfl) (pairs7_eq rfl rfl (St.inner (SH.rdRR hS7 (.head _)) (getD_mem (by omega)) e2) (St.inner (SH.rdRR hS7 (.head _)) (getD_mem (by omega)) e4) rfl rfl) ?_
      rintro v_ w6 ⟨A6, c6, rfl, hS8⟩
      have hS9 := SH.joinN hS7 hS8
      refine ⟨fun h_ => (KB.transN (KB.refl _ _) hS8.kb), ?_⟩
      refine WS.pure rfl rfl (fun _ => LV.lenL Try.underlying50 rfl) ?_
      refine WS.pure rfl rfl (fun _ => LV.asg rfl) ?_
      refine WS.nil (thenQ.n ?_)
      refine WC.ret (?_)
      exact ⟨_, fun a ha => res1 rfl ha rfl, congrArg (Value.int .i64) (by unfold CMN; first | rw [if_pos (by omega)] | rw [if_neg (by omega), hra, hrb]), hS9.kb⟩

theorem rcommon_calls {w : World} {A_a : Option Addr} {n_a c_a : Nat} {a : List Ln} {A_b : Option Addr} {n_b c_b : Nat} {b : List Ln} (h_a : St No w (Rd eL (.slice A_a n_a c_a) a)) (hn_a : a.length = n_a) (h_b : St No w (Rd eL (.slice A_b n_b c_b) b)) (hn_b : b.length = n_b)  :
    Calls Try.prog 12 #[(.slice A_a n_a c_a), (.slice A_b n_b c_b)] w fun e w' => ∃ v, e = .returned v ∧ (fun v w' => v = .int .i64 (CMN a b) ∧ KB No w w') v w' := by
  subst hn_a hn_b
  have hma := Rd.max h_a.now
  have hmb := Rd.max h_b.now
  have hS : SH w No w [] := SH.nil _ _
  refine calls (l := litOf [(.slice A_a a.length c_a), (.slice A_b b.length c_b)] 0) Try.func12 rfl (n := 36) rfl (Nat.le_of_ble_eq_true rfl) (lit_args _) ?_
  refine WC.seq ?_
  refine WC.region ?_
  refine WL.lv rfl (LV.asg rfl) ?_
  refine WL.nil (thenQ.n ?_)
  iterate 2 refine WC.seq ?_
  refine WC.region ?_
  refine WL.lv rfl (LV.mv rfl) ?_
  refine WL.lv rfl (LV.lenL Try.underlying22 rfl) ?_
  rcases Decidable.em ((a.length : Int) > 400) with hg1 | hg1
  · refine WL.lv rfl (LV.as (LV.gtI rfl rfl) (decide_eq_true hg1)) ?_
    refine WL.lv rfl (LV.mv rfl) ?_
    iterate 3 refine WL.off rfl ?_
    refine WL.lv rfl (LV.pickT rfl rfl) ?_
    refine WL.nil (thenQ.n ?_)
    refine WC.condT rfl ?_
    refine WC.seq ?_
    refine WC.region ?_
    refine WL.lv rfl (LV.asg rfl) ?_
    refine WL.nil (thenQ.n ?_)
    refine WC.ret (thenQ.r <| ?_)
    exact ⟨_, fun a ha => res1 rfl ha rfl, congrArg (Value.int .i64) (by first | (unfold CMN; rw [if_pos (by omega)]; done) | (have h2_ := CMN_two (a := a) (b := b) (by omega); rw [hra, hrb, D_00] at hv1_; omega)), hS.kb⟩
  · refine WL.lv rfl (LV.as (LV.gtI rfl rfl) (decide_eq_false hg1)) ?_
    iterate 2 refine WL.lv rfl (LV.mv rfl) ?_
    refine WL.lv rfl (LV.lenL Try.underlying22 rfl) ?_
    refine WL.lv rfl (LV.gtI rfl rfl) ?_
    refine WL.lv rfl (LV.pickF rfl rfl) ?_
    refine WL.nil (thenQ.n ?_)
    refine WC.condP (p := (b.length : Int) > 400) rfl (fun hc1 => ?_) (fun hc1 => ?_)
    · skip
      refine WC.seq ?_
      refine WC.region ?_
      refine WL.lv rfl (LV.asg rfl) ?_
      refine WL.nil (thenQ.n ?_)
      refine WC.ret (thenQ.r <| ?_)
      exact ⟨_, fun a ha => res1 rfl ha rfl, congrArg (Value.int .i64) (by first | (unfold CMN; rw [if_pos (by omega)]; done) | (have h2_ := CMN_two (a := a) (b := b) (by omega); rw [hra, hrb, D_00] at hv1_; omega)), hS.kb⟩
    · skip
      refine WC.skip (thenQ.n ?_)
      refine WC.seq ?_
      refine WC.region ?_
      iterate 2 refine WL.lv rfl (LV.mv rfl) ?_
      refine WL.xe rfl (XE.buildSlice (E := eV) [(0, (.slice A_a a.length c_a)), (1, (.slice A_b b.length c_b))] #[(.slice A_a a.length c_a), (.slice A_b b.length c_b)] [(⟨A_a, a.length, c_a⟩ : SV), (⟨A_b, b.length, c_b⟩ : SV)] hS Try.underlying30 ti22 rfl (by decide) (by kernel_rfl) (.inr rfl) rfl rfl (by decide)) ?_
      rintro _ w1 ⟨b1, rfl, hS1, hk1⟩
      refine WL.call rfl (XC.fn Try.func27 (by kernel_rfl) rfl rfl rfl) (rnumbers_calls  (St.rrOf (rows := [((⟨A_a, a.length, c_a⟩ : SV), a), ((⟨A_b, b.length, c_b⟩ : SV), b)]) (SH.rd hS1 (.head _)) (St.inCons (r := (⟨A_a, a.length, c_a⟩ : SV)) rfl (SH.stN hS1 h_a) (St.inCons (r := (⟨A_b, b.length, c_b⟩ : SV)) rfl (SH.stN hS1 h_b) St.in0))) rfl (by simp) (by intro p hp; simp at hp; rcases hp with rfl | rfl <;> simp only [] <;> omega)) ?_
      rintro v_ w2 ⟨A1, c1, rows1, rfl, hq1, hS2⟩
      have hS3 := SH.joinN hS1 hS2
      have hmt := map_two (x := NA a) (y := NB a b) hq1
      have hra : (rows1.getD (0 : Int).toNat default).2 = NA a := hmt.2.1
      have hrb : (rows1.getD (1 : Int).toNat default).2 = NB a b := hmt.2.2
      have hla := NA_len a
      have hlb := NB_len a b
      have hl1 := hmt.1
      have hlra : (rows1.getD (0 : Int).toNat default).2.length = a.length := by rw [hra]; exact hla
      have hlrb : (rows1.getD (1 : Int).toNat default).2.length = b.length := by rw [hrb]; exact hlb
      have hla : (rows1.getD (0 : Int).toNat default).2.length ≤ 400 := by omega
      have hlb : (rows1.getD (1 : Int).toNat default).2.length ≤ 400 := by omega
      refine WL.lv rfl (LV.asg rfl) ?_
      refine WL.nil (thenQ.n ?_)
      refine WC.seq ?_
      have hS4 := SH.drew hS3
      refine WC.regionD [] (fun _ => True) [(.pure, 0), (.pure, 1), (.pure, 2), (.pure, 3), (.pure, 4), (.pure, 5), (.pure, 6), (.pure, 8), (.pure, 9), (.fork, 0), (.fork, 0), (.fork, 0), (.fork, 0), (.fork, 0), (.fork, 0), (.fork, 0), (.fork, 0), (.fork, 0), (.fork, 0)] (by kernel_rfl) (by kernel_rfl) trivial ?_
      refine WS.pure rfl rfl (fun _ => LV.mv rfl) ?_
      refine WS.pure rfl rfl (fun _ => LV.lenL Try.underlying22 rfl) ?_
      refine WS.pure rfl rfl (fun _ => LV.mv rfl) ?_
      refine WS.pure rfl rfl (fun _ => LV.lenL Try.underlying22 rfl) ?_
      refine WS.pure rfl rfl (fun _ => LV.add rfl rfl (wr64 (by omega) (by omega))) ?_
      refine WS.pure rfl rfl (fun _ => LV.mv rfl) ?_
      obtain ⟨A2, c2, A3, c3, e1, g1, e2, r1⟩ := St.eltRR (SH.rdRR hS4 (.head _)) default (0 : Int) (by omega) (by omega)
      refine WS.pure rfl rfl (fun _ => LV.idxA Try.underlying48 ti46.sz rfl e1 rfl (by omega) (by omega)) ?_
      refine WS.pure rfl rfl (fun _ => LV.mv rfl) ?_
      obtain ⟨A4, c4, A5, c5, e3, g2, e4, r2⟩ := St.eltRR (SH.rdRR hS4 (.head _)) default (1 : Int) (by omega) (by omega)
      refine WS.pure rfl rfl (fun _ => LV.idxA Try.underlying48 ti46.sz rfl e3 rfl (by omega) (by omega)) ?_
      refine WS.fork (WSX.two 7 10 (by kernel_rfl) ?_ ?_)
      · refine WO.lvT rfl rfl (LV.load1 Try.underlying46 rfl rfl (g1 _ (KB.refl No _))) ?_
        refine WSX.of [(.forced, 10), (.forced, 11), (.pure, 12), (.forced, 13), (.pure, 14), (.forced, 15), (.pure, 16), (.pure, 17), (.pure, 18)] (by kernel_rfl) rfl ?_
        refine WS.lvT rfl rfl (LV.load1 Try.underlying46 rfl rfl (g2 _ (KB.refl No _))) ?_
        refine WS.call rfl rfl (XC.fn Try.func28 (by kernel_rfl) rfl rfl rfl) (table_calls (St.inner (SH.rdRR hS4 (.head _)) (getD_mem (by omega)) e2) (St.inner (SH.rdRR hS4 (.head _)) (getD_mem (by omega)) e4) hla hlb) ?_
        rintro v_ w3 ⟨A6, n1, c6, tb, rfl, hT, hS5⟩
        have hS6 := SH.joinN hS4 hS5
        have hl_ := hT.len
        have hr0_ := hT.row 0 (by omega) (by omega)
        have hv0_ := hT.val 0 0 (by omega) (by omega) (by omega) (by omega) (by omega)
        refine ⟨fun h_ => trivial, ?_⟩
        have hv1_ : gI (tb.getD (0 : Int).toNat default).2 0 = ((D (rows1.getD (0 : Int).toNat default).2 (rows1.getD (1 : Int).toNat default).2 0 0 : Nat) : Int) := hv0_
        have hdb_ := D_bd (rows1.getD (0 : Int).toNat default).2 (rows1.getD (1 : Int).toNat default).2 0 0
        obtain ⟨A7, c7, A8, c8, e5, g3, e6, r3⟩ := St.eltRR (SH.rdRR hS6 (.head _)) default (0 : Int) (by omega) (by omega)
        refine WS.pure rfl rfl (fun _ => LV.idxA Try.underlying48 ti46.sz rfl e5 rfl (by omega) (by omega)) ?_
        refine WS.lvT rfl rfl (LV.load1 Try.underlying46 rfl rfl (g3 _ (KB.refl No _))) ?_
        obtain ⟨A9, c9, e7, g4⟩ := St.elt (St.inner (SH.rdRR hS6 (.head _)) (getD_mem (by omega)) e6) 0 (0 : Int) (by omega) (by omega)
        refine WS.pure rfl rfl (fun _ => LV.idxA Try.underlying46 ti3.sz rfl e7 rfl (by omega) (by omega)) ?_
        refine WS.lvT rfl rfl (LV.load1 (v := (.int .i64 (gI ((tb.getD ((0 : Int)).toNat default).2) ((0 : Int))))) Try.underlying3 rfl rfl (g4 _ (KB.refl No _) 0 _ rfl)) ?_
        refine WS.pure rfl rfl (fun _ => LV.sub rfl rfl (wr64 (by omega) (by omega))) ?_
        refine WS.pure rfl rfl (fun _ => LV.quo rfl rfl (by decide) (quo64 (by omega) (by omega) (by decide) rfl)) ?_
        refine WS.pure rfl rfl (fun _ => LV.asg rfl) ?_
        refine WS.nil (thenQ.n ?_)
        refine WC.ret (?_)
        exact ⟨_, fun a ha => res1 rfl ha rfl, congrArg (Value.int .i64) (by first | (unfold CMN; rw [if_pos (by omega)]; done) | (have h2_ := CMN_two (a := a) (b := b) (by omega); rw [hra, hrb, D_00] at hv1_; omega)), hS6.kb⟩
      · refine WO.lvT rfl rfl (LV.load1 Try.underlying46 rfl rfl (g2 _ (KB.refl No _))) ?_
        refine WSX.of [(.forced, 7), (.forced, 11), (.pure, 12), (.forced, 13), (.pure, 14), (.forced, 15), (.pure, 16), (.pure, 17), (.pure, 18)] (by kernel_rfl) rfl ?_
        refine WS.lvT rfl rfl (LV.load1 Try.underlying46 rfl rfl (g1 _ (KB.refl No _))) ?_
        refine WS.call rfl rfl (XC.fn Try.func28 (by kernel_rfl) rfl rfl rfl) (table_calls (St.inner (SH.rdRR hS4 (.head _)) (getD_mem (by omega)) e2) (St.inner (SH.rdRR hS4 (.head _)) (getD_mem (by omega)) e4) hla hlb) ?_
        rintro v_ w4 ⟨A10, n2, c10, tb, rfl, hT, hS7⟩
        have hS8 := SH.joinN hS4 hS7
        have hl_ := hT.len
        have hr0_ := hT.row 0 (by omega) (by omega)
        have hv0_ := hT.val 0 0 (by omega) (by omega) (by omega) (by omega) (by omega)
        refine ⟨fun h_ => trivial, ?_⟩
        have hv1_ : gI (tb.getD (0 : Int).toNat default).2 0 = ((D (rows1.getD (0 : Int).toNat default).2 (rows1.getD (1 : Int).toNat default).2 0 0 : Nat) : Int) := hv0_
        have hdb_ := D_bd (rows1.getD (0 : Int).toNat default).2 (rows1.getD (1 : Int).toNat default).2 0 0
        obtain ⟨A11, c11, A12, c12, e8, g5, e9, r4⟩ := St.eltRR (SH.rdRR hS8 (.head _)) default (0 : Int) (by omega) (by omega)
        refine WS.pure rfl rfl (fun _ => LV.idxA Try.underlying48 ti46.sz rfl e8 rfl (by omega) (by omega)) ?_
        refine WS.lvT rfl rfl (LV.load1 Try.underlying46 rfl rfl (g5 _ (KB.refl No _))) ?_
        obtain ⟨A13, c13, e10, g6⟩ := St.elt (St.inner (SH.rdRR hS8 (.head _)) (getD_mem (by omega)) e9) 0 (0 : Int) (by omega) (by omega)
        refine WS.pure rfl rfl (fun _ => LV.idxA Try.underlying46 ti3.sz rfl e10 rfl (by omega) (by omega)) ?_
        refine WS.lvT rfl rfl (LV.load1 (v := (.int .i64 (gI ((tb.getD ((0 : Int)).toNat default).2) ((0 : Int))))) Try.underlying3 rfl rfl (g6 _ (KB.refl No _) 0 _ rfl)) ?_
        refine WS.pure rfl rfl (fun _ => LV.sub rfl rfl (wr64 (by omega) (by omega))) ?_
        refine WS.pure rfl rfl (fun _ => LV.quo rfl rfl (by decide) (quo64 (by omega) (by omega) (by decide) rfl)) ?_
        refine WS.pure rfl rfl (fun _ => LV.asg rfl) ?_
        refine WS.nil (thenQ.n ?_)
        refine WC.ret (?_)
        exact ⟨_, fun a ha => res1 rfl ha rfl, congrArg (Value.int .i64) (by first | (unfold CMN; rw [if_pos (by omega)]; done) | (have h2_ := CMN_two (a := a) (b := b) (by omega); rw [hra, hrb, D_00] at hv1_; omega)), hS8.kb⟩

theorem like_calls {w : World} {A_a : Option Addr} {n_a c_a : Nat} {a : List Ln} {A_b : Option Addr} {n_b c_b : Nat} {b : List Ln} (h_a : St No w (Rd eL (.slice A_a n_a c_a) a)) (hn_a : a.length = n_a) (h_b : St No w (Rd eL (.slice A_b n_b c_b) b)) (hn_b : b.length = n_b)  :
    Calls Try.prog 14 #[(.slice A_a n_a c_a), (.slice A_b n_b c_b)] w fun e w' => ∃ v, e = .returned v ∧ (fun v w' => ∃ (r' : Nat), v = .float .f64 r' ∧ cn r' = LIK a b ∧ r' < 18446744073709551616 ∧ KB No w w') v w' := by
  subst hn_a hn_b
  have hma := Rd.max h_a.now
  have hmb := Rd.max h_b.now
  have hcb_ := CMN_bd a b
  have hS : SH w No w [] := SH.nil _ _
  refine calls (l := litOf [(.slice A_a a.length c_a), (.slice A_b b.length c_b)] 0) Try.func14 rfl (n := 20) rfl (Nat.le_of_ble_eq_true rfl) (lit_args _) ?_
  refine WC.seq ?_
  refine WC.region ?_
  refine WL.lv rfl (LV.asg rfl) ?_
  refine WL.nil (thenQ.n ?_)
  iterate 2 refine WC.seq ?_
  refine WC.region ?_
  refine WL.lv rfl (LV.mv rfl) ?_
  rcases Decidable.em (a.length > 400) with hg1 | hg1
  · refine WL.call rfl (XC.fn Try.func24 (by kernel_rfl) rfl rfl rfl) (Calls.asB (rlong_calls  (SH.stN hS h_a) rfl ) (decide_eq_true (hg1))) ?_
    rintro v_ w1 ⟨rfl, hk1⟩
    have hS1 := SH.same hS hk1
    refine WL.lv rfl (LV.mv rfl) ?_
    iterate 2 refine WL.off rfl ?_
    refine WL.lv rfl (LV.pickT rfl rfl) ?_
    refine WL.nil (thenQ.n ?_)
    refine WC.condT rfl ?_
    refine WC.seq ?_
    refine WC.region ?_
    refine WL.call rfl (XC.fn Try.func29 (by kernel_rfl) rfl rfl rfl) (ratio_calls (common := (0 : Int)) (n := (0 : Int)) (m := (0 : Int)) (by omega) (by omega) (by omega)) ?_
    rintro v_ w2 ⟨r1, rfl, hf1, hf2, hk2⟩
    have hS2 := SH.same hS1 hk2
    refine WL.lv rfl (LV.asg rfl) ?_
    refine WL.nil (thenQ.n ?_)
    refine WC.ret (thenQ.r <| ?_)
    exact ⟨_, fun a ha => res1 rfl ha rfl, r1, congrArg FV (rfl), by first | (rw [LIK_out (by omega)]; first | exact hf1.trans RAT_000 | exact hf1) | (rw [LIK_in (by omega)]; exact hf1), hf2, hS2.kb⟩
  · refine WL.call rfl (XC.fn Try.func24 (by kernel_rfl) rfl rfl rfl) (Calls.asB (rlong_calls  (SH.stN hS h_a) rfl ) (decide_eq_false (hg1))) ?_
    rintro v_ w3 ⟨rfl, hk3⟩
    have hS3 := SH.same hS hk3
    iterate 2 refine WL.lv rfl (LV.mv rfl) ?_
    refine WL.call rfl (XC.fn Try.func24 (by kernel_rfl) rfl rfl rfl) (rlong_calls  (SH.stN hS3 h_b) rfl ) ?_
    rintro v_ w4 ⟨rfl, hk4⟩
    have hS4 := SH.same hS3 hk4
    refine WL.lv rfl (LV.pickF rfl rfl) ?_
    refine WL.nil (thenQ.n ?_)
    refine WC.condP (p := b.length > 400) rfl (fun hc1 => ?_) (fun hc1 => ?_)
    · skip
      refine WC.seq ?_
      refine WC.region ?_
      refine WL.call rfl (XC.fn Try.func29 (by kernel_rfl) rfl rfl rfl) (ratio_calls (common := (0 : Int)) (n := (0 : Int)) (m := (0 : Int)) (by omega) (by omega) (by omega)) ?_
      rintro v_ w5 ⟨r2, rfl, hf3, hf4, hk5⟩
      have hS5 := SH.same hS4 hk5
      refine WL.lv rfl (LV.asg rfl) ?_
      refine WL.nil (thenQ.n ?_)
      refine WC.ret (thenQ.r <| ?_)
      exact ⟨_, fun a ha => res1 rfl ha rfl, r2, congrArg FV (rfl), by first | (rw [LIK_out (by omega)]; first | exact hf3.trans RAT_000 | exact hf3) | (rw [LIK_in (by omega)]; exact hf3), hf4, hS5.kb⟩
    · skip
      refine WC.skip (thenQ.n ?_)
      refine WC.seq ?_
      refine WC.region ?_
      iterate 2 refine WL.lv rfl (LV.mv rfl) ?_
      refine WL.call rfl (XC.fn Try.func11 (by kernel_rfl) rfl rfl rfl) (common_calls  (SH.stN hS4 h_a) rfl (SH.stN hS4 h_b) rfl ) ?_
      rintro v_ w6 ⟨rfl, hk6⟩
      have hS6 := SH.same hS4 hk6
      refine WL.lv rfl (LV.mv rfl) ?_
      refine WL.lv rfl (LV.lenL Try.underlying22 rfl) ?_
      refine WL.lv rfl (LV.mv rfl) ?_
      refine WL.lv rfl (LV.lenL Try.underlying22 rfl) ?_
      refine WL.call rfl (XC.fn Try.func29 (by kernel_rfl) rfl rfl rfl) (ratio_calls (common := (CMN a b)) (n := (a.length : Int)) (m := (b.length : Int)) (by omega) (by omega) (by omega)) ?_
      rintro v_ w7 ⟨r3, rfl, hf5, hf6, hk7⟩
      have hS7 := SH.same hS6 hk7
      refine WL.lv rfl (LV.asg rfl) ?_
      refine WL.nil (thenQ.n ?_)
      refine WC.ret (?_)
      exact ⟨_, fun a ha => res1 rfl ha rfl, r3, congrArg FV (rfl), by first | (rw [LIK_out (by omega)]; first | exact hf5.trans RAT_000 | exact hf5) | (rw [LIK_in (by omega)]; exact hf5), hf6, hS7.kb⟩

theorem rlike_calls {w : World} {A_a : Option Addr} {n_a c_a : Nat} {a : List Ln} {A_b : Option Addr} {n_b c_b : Nat} {b : List Ln} (h_a : St No w (Rd eL (.slice A_a n_a c_a) a)) (hn_a : a.length = n_a) (h_b : St No w (Rd eL (.slice A_b n_b c_b) b)) (hn_b : b.length = n_b)  :
    Calls Try.prog 15 #[(.slice A_a n_a c_a), (.slice A_b n_b c_b)] w fun e w' => ∃ v, e = .returned v ∧ (fun v w' => ∃ (r' : Nat), v = .float .f64 r' ∧ cn r' = LIK a b ∧ r' < 18446744073709551616 ∧ KB No w w') v w' := by
  subst hn_a hn_b
  have hma := Rd.max h_a.now
  have hmb := Rd.max h_b.now
  have hcb_ := CMN_bd a b
  have hS : SH w No w [] := SH.nil _ _
  refine calls (l := litOf [(.slice A_a a.length c_a), (.slice A_b b.length c_b)] 0) Try.func15 rfl (n := 22) rfl (Nat.le_of_ble_eq_true rfl) (lit_args _) ?_
  refine WC.seq ?_
  refine WC.region ?_
  refine WL.lv rfl (LV.asg rfl) ?_
  refine WL.nil (thenQ.n ?_)
  iterate 2 refine WC.seq ?_
  refine WC.region ?_
  refine WL.lv rfl (LV.mv rfl) ?_
  refine WL.lv rfl (LV.lenL Try.underlying22 rfl) ?_
  rcases Decidable.em ((a.length : Int) > 400) with hg1 | hg1
  · refine WL.lv rfl (LV.as (LV.gtI rfl rfl) (decide_eq_true hg1)) ?_
    refine WL.lv rfl (LV.mv rfl) ?_
    iterate 3 refine WL.off rfl ?_
    refine WL.lv rfl (LV.pickT rfl rfl) ?_
    refine WL.nil (thenQ.n ?_)
    refine WC.condT rfl ?_
    refine WC.seq ?_
    refine WC.region ?_
    refine WL.call rfl (XC.fn Try.func30 (by kernel_rfl) rfl rfl rfl) (none_calls  ) ?_
    rintro v_ w1 ⟨r1, rfl, hf1, hf2, hk1⟩
    have hS1 := SH.same hS hk1
    refine WL.lv rfl (LV.asg rfl) ?_
    refine WL.nil (thenQ.n ?_)
    refine WC.ret (thenQ.r <| ?_)
    exact ⟨_, fun a ha => res1 rfl ha rfl, r1, congrArg FV (rfl), by first | (rw [LIK_out (by omega)]; first | exact hf1.trans RAT_000 | exact hf1) | (rw [LIK_in (by omega)]; exact hf1), hf2, hS1.kb⟩
  · refine WL.lv rfl (LV.as (LV.gtI rfl rfl) (decide_eq_false hg1)) ?_
    iterate 2 refine WL.lv rfl (LV.mv rfl) ?_
    refine WL.lv rfl (LV.lenL Try.underlying22 rfl) ?_
    refine WL.lv rfl (LV.gtI rfl rfl) ?_
    refine WL.lv rfl (LV.pickF rfl rfl) ?_
    refine WL.nil (thenQ.n ?_)
    refine WC.condP (p := (b.length : Int) > 400) rfl (fun hc1 => ?_) (fun hc1 => ?_)
    · skip
      refine WC.seq ?_
      refine WC.region ?_
      refine WL.call rfl (XC.fn Try.func30 (by kernel_rfl) rfl rfl rfl) (none_calls  ) ?_
      rintro v_ w2 ⟨r2, rfl, hf3, hf4, hk2⟩
      have hS2 := SH.same hS hk2
      refine WL.lv rfl (LV.asg rfl) ?_
      refine WL.nil (thenQ.n ?_)
      refine WC.ret (thenQ.r <| ?_)
      exact ⟨_, fun a ha => res1 rfl ha rfl, r2, congrArg FV (rfl), by first | (rw [LIK_out (by omega)]; first | exact hf3.trans RAT_000 | exact hf3) | (rw [LIK_in (by omega)]; exact hf3), hf4, hS2.kb⟩
    · skip
      refine WC.skip (thenQ.n ?_)
      refine WC.seq ?_
      refine WC.region ?_
      iterate 2 refine WL.lv rfl (LV.mv rfl) ?_
      refine WL.call rfl (XC.fn Try.func12 (by kernel_rfl) rfl rfl rfl) (rcommon_calls  (SH.stN hS h_a) rfl (SH.stN hS h_b) rfl ) ?_
      rintro v_ w3 ⟨rfl, hk3⟩
      have hS3 := SH.same hS hk3
      refine WL.lv rfl (LV.mv rfl) ?_
      refine WL.lv rfl (LV.lenL Try.underlying22 rfl) ?_
      refine WL.lv rfl (LV.mv rfl) ?_
      refine WL.lv rfl (LV.lenL Try.underlying22 rfl) ?_
      refine WL.call rfl (XC.fn Try.func31 (by kernel_rfl) rfl rfl rfl) (rratio_calls (common := (CMN a b)) (n := (a.length : Int)) (m := (b.length : Int)) (by omega) (by omega) (by omega)) ?_
      rintro v_ w4 ⟨r3, rfl, hf5, hf6, hk4⟩
      have hS4 := SH.same hS3 hk4
      refine WL.lv rfl (LV.asg rfl) ?_
      refine WL.nil (thenQ.n ?_)
      refine WC.ret (?_)
      exact ⟨_, fun a ha => res1 rfl ha rfl, r3, congrArg FV (rfl), by first | (rw [LIK_out (by omega)]; first | exact hf5.trans RAT_000 | exact hf5) | (rw [LIK_in (by omega)]; exact hf5), hf6, hS4.kb⟩

end Go.Proofs.Ythmjieikbeemhaa
