/- Copies; what a function finds. -/
import Derived.Test.YtigbphaimbhgjaaGreatMg13
namespace Go.Proofs.YtigbphaimbhgjaaGreat
open Go Go.Gv Go.RowKit Go.Tly Go.Wds Go.Idx
set_option linter.unusedVariables false
set_option linter.unusedSimpArgs false
theorem ti76 : TI Tryz.prog 76 (.agg #[(.string ⟨#[]⟩), (.int .i64 0)]) 2 24 := by unfold TI; kernel_rfl

theorem eclone_calls {w : World} {A_s : Option Addr} {n_s c_s : Nat} {s : List En} (h_s : St No w (Rd eSI (.slice A_s n_s c_s) s)) (hn_s : s.length = n_s) (hl : s.length ≤ 1000000) :
    Calls Tryz.prog 68 #[(.slice A_s n_s c_s)] w fun e w' => ∃ v, e = .returned v ∧ (fun v w' => ∃ (A0' : Option Addr) (c0' : Nat), v = .slice A0' (s).length c0' ∧ SH w No w' [rowE eSI 76 (.slice A0' (s).length c0') s]) v w' := by
  subst hn_s
  have hS : SH w No w [] := SH.nil _ _
  refine calls (l := litOf [(.slice A_s s.length c_s)] 0) Tryz.func68 rfl (n := 8) rfl (Nat.le_of_ble_eq_true rfl) (lit_args _) ?_
  refine WC.seq ?_
  refine WC.region ?_
  refine WL.lv rfl (LV.asg rfl) ?_
  refine WL.nil (thenQ.n ?_)
  iterate 2 refine WC.seq ?_
  refine WC.region ?_
  refine WL.lv rfl (LV.mv rfl) ?_
  refine WL.lv rfl (LV.eqNil Tryz.underlying59 rfl rfl) ?_
  refine WL.nil (thenQ.n ?_)
  refine WC.cond (b := (A_s).isNone) rfl (fun hc1 => ?_) (fun hc1 => ?_)
  · skip
    refine WC.seq ?_
    refine WC.region ?_
    refine WL.lv rfl (LV.asg rfl) ?_
    refine WL.nil (thenQ.n ?_)
    refine WC.ret (thenQ.r <| ?_)
    have hS1 := SH.nilRow (E := eSI) (T := 76) hS
    have hres1 : ([] : List En) = s := (Rd.isNone h_s.now hc1).symm
    exact ⟨_, fun a ha => res1 rfl ha rfl, (by rw [← hres1]; exact ⟨_, _, rfl, hS1⟩)⟩
  · skip
    refine WC.skip (thenQ.n ?_)
    refine WC.seq ?_
    refine WC.region ?_
    refine WL.xe rfl (XE.buildSlice (E := eSI) [] #[] [] hS Tryz.underlying59 ti76 rfl (by decide) (by kernel_rfl) (.inr rfl) rfl rfl (by decide)) ?_
    rintro _ w1 ⟨b1, rfl, hS2, hk1⟩
    refine WL.lv rfl (LV.mv rfl) ?_
    refine WL.xe rfl (XE.append hS2 Tryz.underlying59 ti76 rfl (St.now (SH.stN hS2 h_s)) rfl rfl (by first | omega | simp only [List.length_append, List.length_cons, List.length_nil, List.length_take, List.length_reverse, List.length_drop] at *; omega) (by first | omega | simp only [List.length_append, List.length_cons, List.length_nil, List.length_take, List.length_reverse, List.length_drop] at *; omega)) ?_
    rintro _ w2 ⟨A1, c1, rfl, hS3, hk2⟩
    refine WL.lv rfl (LV.asg rfl) ?_
    refine WL.nil (thenQ.n ?_)
    refine WC.ret (?_)
    have hres2 : ((([] : List En) ++ s) : List En) = s := List.nil_append _
    exact ⟨_, fun a ha => res1 rfl ha rfl, (by rw [← hres2]; exact ⟨_, _, rfl, hS3⟩)⟩

theorem hclone_calls {w : World} {A_s : Option Addr} {n_s c_s : Nat} {s : List En} (h_s : St No w (Rd eSI (.slice A_s n_s c_s) s)) (hn_s : s.length = n_s) (hl : s.length ≤ 1000000) :
    Calls Tryz.prog 21 #[(.slice A_s n_s c_s)] w fun e w' => ∃ v, e = .returned v ∧ (fun v w' => ∃ (A0' : Option Addr) (c0' : Nat), v = .slice A0' (s).length c0' ∧ SH w No w' [rowE eSI 49 (.slice A0' (s).length c0') s]) v w' := by
  subst hn_s
  have hS : SH w No w [] := SH.nil _ _
  refine calls (l := litOf [(.slice A_s s.length c_s)] 0) Tryz.func21 rfl (n := 8) rfl (Nat.le_of_ble_eq_true rfl) (lit_args _) ?_
  refine WC.seq ?_
  refine WC.region ?_
  refine WL.lv rfl (LV.asg rfl) ?_
  refine WL.nil (thenQ.n ?_)
  iterate 2 refine WC.seq ?_
  refine WC.region ?_
  refine WL.lv rfl (LV.mv rfl) ?_
  refine WL.lv rfl (LV.eqNil Tryz.underlying32 rfl rfl) ?_
  refine WL.nil (thenQ.n ?_)
  refine WC.cond (b := (A_s).isNone) rfl (fun hc1 => ?_) (fun hc1 => ?_)
  · skip
    refine WC.seq ?_
    refine WC.region ?_
    refine WL.lv rfl (LV.asg rfl) ?_
    refine WL.nil (thenQ.n ?_)
    refine WC.ret (thenQ.r <| ?_)
    have hS1 := SH.nilRow (E := eSI) (T := 49) hS
    have hres1 : ([] : List En) = s := (Rd.isNone h_s.now hc1).symm
    exact ⟨_, fun a ha => res1 rfl ha rfl, (by rw [← hres1]; exact ⟨_, _, rfl, hS1⟩)⟩
  · skip
    refine WC.skip (thenQ.n ?_)
    refine WC.seq ?_
    refine WC.region ?_
    refine WL.xe rfl (XE.buildSlice (E := eSI) [] #[] [] hS Tryz.underlying32 ti49 rfl (by decide) (by kernel_rfl) (.inr rfl) rfl rfl (by decide)) ?_
    rintro _ w1 ⟨b1, rfl, hS2, hk1⟩
    refine WL.lv rfl (LV.mv rfl) ?_
    refine WL.xe rfl (XE.append hS2 Tryz.underlying32 ti49 rfl (St.now (SH.stN hS2 h_s)) rfl rfl (by first | omega | simp only [List.length_append, List.length_cons, List.length_nil, List.length_take, List.length_reverse, List.length_drop] at *; omega) (by first | omega | simp only [List.length_append, List.length_cons, List.length_nil, List.length_take, List.length_reverse, List.length_drop] at *; omega)) ?_
    rintro _ w2 ⟨A1, c1, rfl, hS3, hk2⟩
    refine WL.lv rfl (LV.asg rfl) ?_
    refine WL.nil (thenQ.n ?_)
    refine WC.ret (?_)
    have hres2 : ((([] : List En) ++ s) : List En) = s := List.nil_append _
    exact ⟨_, fun a ha => res1 rfl ha rfl, (by rw [← hres2]; exact ⟨_, _, rfl, hS3⟩)⟩

theorem iclone_calls {w : World} {A_s : Option Addr} {n_s c_s : Nat} {s : List Itm} (h_s : St No w (Rd eIt (.slice A_s n_s c_s) s)) (hn_s : s.length = n_s) (hl : s.length ≤ 1000000) :
    Calls Tryz.prog 67 #[(.slice A_s n_s c_s)] w fun e w' => ∃ v, e = .returned v ∧ (fun v w' => ∃ (A0' : Option Addr) (c0' : Nat), v = .slice A0' (s).length c0' ∧ SH w No w' [rowE eIt 68 (.slice A0' (s).length c0') s]) v w' := by
  subst hn_s
  have hS : SH w No w [] := SH.nil _ _
  refine calls (l := litOf [(.slice A_s s.length c_s)] 0) Tryz.func67 rfl (n := 8) rfl (Nat.le_of_ble_eq_true rfl) (lit_args _) ?_
  refine WC.seq ?_
  refine WC.region ?_
  refine WL.lv rfl (LV.asg rfl) ?_
  refine WL.nil (thenQ.n ?_)
  iterate 2 refine WC.seq ?_
  refine WC.region ?_
  refine WL.lv rfl (LV.mv rfl) ?_
  refine WL.lv rfl (LV.eqNil Tryz.underlying45 rfl rfl) ?_
  refine WL.nil (thenQ.n ?_)
  refine WC.cond (b := (A_s).isNone) rfl (fun hc1 => ?_) (fun hc1 => ?_)
  · skip
    refine WC.seq ?_
    refine WC.region ?_
    refine WL.lv rfl (LV.asg rfl) ?_
    refine WL.nil (thenQ.n ?_)
    refine WC.ret (thenQ.r <| ?_)
    have hS1 := SH.nilRow (E := eIt) (T := 68) hS
    have hres1 : ([] : List Itm) = s := (Rd.isNone h_s.now hc1).symm
    exact ⟨_, fun a ha => res1 rfl ha rfl, (by rw [← hres1]; exact ⟨_, _, rfl, hS1⟩)⟩
  · skip
    refine WC.skip (thenQ.n ?_)
    refine WC.seq ?_
    refine WC.region ?_
    refine WL.xe rfl (XE.buildSlice (E := eIt) [] #[] [] hS Tryz.underlying45 ti68 rfl (by decide) (by kernel_rfl) (.inr rfl) rfl rfl (by decide)) ?_
    rintro _ w1 ⟨b1, rfl, hS2, hk1⟩
    refine WL.lv rfl (LV.mv rfl) ?_
    refine WL.xe rfl (XE.append hS2 Tryz.underlying45 ti68 rfl (St.now (SH.stN hS2 h_s)) rfl rfl (by first | omega | simp only [List.length_append, List.length_cons, List.length_nil, List.length_take, List.length_reverse, List.length_drop] at *; omega) (by first | omega | simp only [List.length_append, List.length_cons, List.length_nil, List.length_take, List.length_reverse, List.length_drop] at *; omega)) ?_
    rintro _ w2 ⟨A1, c1, rfl, hS3, hk2⟩
    refine WL.lv rfl (LV.asg rfl) ?_
    refine WL.nil (thenQ.n ?_)
    refine WC.ret (?_)
    have hres2 : ((([] : List Itm) ++ s) : List Itm) = s := List.nil_append _
    exact ⟨_, fun a ha => res1 rfl ha rfl, (by rw [← hres2]; exact ⟨_, _, rfl, hS3⟩)⟩

theorem dropfn_calls {w : World} {en : En} {b_fb : Nat} {fl : ByteArray} (h_fb : St No w (fun w => w.heap[b_fb]? = some (.cells #[(.string fl)] 9 (0, 0))))  :
    Calls Tryz.prog 93 #[(.agg #[(.string ((en).1)), (.int .i64 ((en).2))]), (.pointer (some ⟨b_fb, 0, none⟩))] w fun e w' => ∃ v, e = .returned v ∧ (fun v w' => v = .bool (decide (en.1 = fl)) ∧ KB No w w') v w' := by
  have hS : SH w No w [] := SH.nil _ _
  refine calls (l := litOf [(.agg #[(.string ((en).1)), (.int .i64 ((en).2))]), (.pointer (some ⟨b_fb, 0, none⟩))] 0) Tryz.func93 rfl (n := 8) rfl (Nat.le_of_ble_eq_true rfl) (lit_args _) ?_
  refine WC.seq ?_
  refine WC.region ?_
  refine WL.xe rfl (XE.box #[(.string ((en).1)), (.int .i64 ((en).2))] hS rfl rfl) ?_
  rintro _ w1 ⟨b1, rfl, hS1, hk1⟩
  refine WL.lv rfl (LV.asg rfl) ?_
  refine WL.nil (thenQ.n ?_)
  refine WC.seq ?_
  refine WC.region ?_
  refine WL.lv rfl (LV.fieldA Tryz.underlying76 rfl ti9.sz rfl) ?_
  refine WL.lv rfl (LV.load1 Tryz.underlying9 rfl rfl (Blk.cellN (SH.at hS1 (.head _)) 0 rfl _ (KB.refl No _))) ?_
  refine WL.lv rfl (LV.load1 Tryz.underlying9 rfl rfl (Blk.cellN (SH.arg hS1 h_fb) 0 rfl _ (KB.refl No _))) ?_
  refine WL.lv rfl (LV.eqSP (a := ((en).1)) (b := fl) rfl rfl) ?_
  refine WL.lv rfl (LV.asg rfl) ?_
  refine WL.nil (thenQ.n ?_)
  refine WC.ret (?_)
  exact ⟨_, fun a ha => res1 rfl ha rfl, congrArg Value.bool (rfl), hS1.kb⟩

theorem allfn_calls {w : World} {h : En} {b_lb : Nat} {A_l : Option Addr} {n_l c_l : Nat} {l : List En} (h_l : St No w (Rd eSI (.slice A_l n_l c_l) l)) (hn_l : l.length = n_l) (h_lb : St No w (fun w => w.heap[b_lb]? = some (.cells #[(.slice A_l n_l c_l)] 32 (0, 0))))  :
    Calls Tryz.prog 22 #[(.agg #[(.string ((h).1)), (.int .i64 ((h).2))]), (.pointer (some ⟨b_lb, 0, none⟩))] w fun e w' => ∃ v, e = .returned v ∧ (fun v w' => v = .bool (decide (¬ (h ∈ l))) ∧ KB No w w') v w' := by
  subst hn_l
  have hS : SH w No w [] := SH.nil _ _
  refine calls (l := litOf [(.agg #[(.string ((h).1)), (.int .i64 ((h).2))]), (.pointer (some ⟨b_lb, 0, none⟩))] 0) Tryz.func22 rfl (n := 8) rfl (Nat.le_of_ble_eq_true rfl) (lit_args _) ?_
  refine WC.seq ?_
  refine WC.region ?_
  refine WL.xe rfl (XE.box #[(.string ((h).1)), (.int .i64 ((h).2))] hS rfl rfl) ?_
  rintro _ w1 ⟨b1, rfl, hS1, hk1⟩
  refine WL.lv rfl (LV.asg rfl) ?_
  refine WL.nil (thenQ.n ?_)
  refine WC.seq ?_
  refine WC.region ?_
  refine WL.lv rfl (LV.load1 Tryz.underlying32 rfl rfl (Blk.cellN (SH.arg hS1 h_lb) 0 rfl _ (KB.refl No _))) ?_
  refine WL.lv rfl (LV.loadAgg (cs := [(.string ((h).1)), (.int .i64 ((h).2))]) Tryz.underlying49 rfl ti49 rfl rfl (Blk.agg (SH.at hS1 (.head _)) _ (KB.refl No _))) ?_
  refine WL.call rfl (XC.fn Tryz.func23 (by kernel_rfl) rfl rfl rfl) (hcontains_calls (h := h) (SH.stN hS1 h_l) rfl ) ?_
  rintro v_ w2 ⟨rfl, hk2⟩
  have hS2 := SH.same hS1 hk2
  refine WL.lv rfl (LV.notP rfl) ?_
  refine WL.lv rfl (LV.asg rfl) ?_
  refine WL.nil (thenQ.n ?_)
  refine WC.ret (?_)
  exact ⟨_, fun a ha => res1 rfl ha rfl, rfl, hS2.kb⟩

theorem filefn_calls {w : World} {y : Itm} {b_ob : Nat} {o : Lb} (h_ob : St No w (fun w => w.heap[b_ob]? = some (.cells #[(.int .i64 ((o).1)), (.int .u64 ((o).2))] 26 (0, 0)))) (wy : 0 ≤ y.2.1.2 ∧ y.2.1.2 < 18446744073709551616) (wo : 0 ≤ o.2 ∧ o.2 < 18446744073709551616) :
    Calls Tryz.prog 31 #[(.agg #[(.int .i64 ((y).1)), (.int .i64 ((y).2.1.1)), (.int .u64 ((y).2.1.2)), (.bool ((y).2.2.1)), (.string ((y).2.2.2.1)), (.bool ((y).2.2.2.2))]), (.pointer (some ⟨b_ob, 0, none⟩))] w fun e w' => ∃ v, e = .returned v ∧ (fun v w' => v = .bool (decide (BEL y.2.1 o)) ∧ KB No w w') v w' := by
  have hS : SH w No w [] := SH.nil _ _
  refine calls (l := litOf [(.agg #[(.int .i64 ((y).1)), (.int .i64 ((y).2.1.1)), (.int .u64 ((y).2.1.2)), (.bool ((y).2.2.1)), (.string ((y).2.2.2.1)), (.bool ((y).2.2.2.2))]), (.pointer (some ⟨b_ob, 0, none⟩))] 0) Tryz.func31 rfl (n := 8) rfl (Nat.le_of_ble_eq_true rfl) (lit_args _) ?_
  refine WC.seq ?_
  refine WC.region ?_
  refine WL.xe rfl (XE.box #[(.int .i64 ((y).1)), (.int .i64 ((y).2.1.1)), (.int .u64 ((y).2.1.2)), (.bool ((y).2.2.1)), (.string ((y).2.2.2.1)), (.bool ((y).2.2.2.2))] hS rfl rfl) ?_
  rintro _ w1 ⟨b1, rfl, hS1, hk1⟩
  refine WL.lv rfl (LV.asg rfl) ?_
  refine WL.nil (thenQ.n ?_)
  refine WC.seq ?_
  refine WC.region ?_
  refine WL.lv rfl (LV.fieldA Tryz.underlying68 rfl ti26.sz rfl) ?_
  refine WL.lv rfl (LV.loadAgg (cs := [(.int .i64 ((y).2.1.1)), (.int .u64 ((y).2.1.2))]) Tryz.underlying26 rfl ti26 rfl rfl (Blk.part 1 2 (SH.at hS1 (.head _)) rfl _ (KB.refl No _))) ?_
  refine WL.lv rfl (LV.loadAgg (cs := [(.int .i64 ((o).1)), (.int .u64 ((o).2))]) Tryz.underlying26 rfl ti26 rfl rfl (Blk.part 0 2 (SH.arg hS1 h_ob) rfl _ (KB.refl No _))) ?_
  refine WL.call rfl (XC.fn Tryz.func32 (by kernel_rfl) rfl rfl rfl) (below_calls (a := ((y).2.1)) (b := o) (by omega) (by omega)) ?_
  rintro v_ w2 ⟨rfl, hk2⟩
  have hS2 := SH.same hS1 hk2
  refine WL.lv rfl (LV.asg rfl) ?_
  refine WL.nil (thenQ.n ?_)
  refine WC.ret (?_)
  exact ⟨_, fun a ha => res1 rfl ha rfl, congrArg Value.bool (rfl), hS2.kb⟩

theorem eidx_calls {w : World} {A_s : Option Addr} {n_s c_s : Nat} {s : List En} {b_fb : Nat} {fl : ByteArray} (h_s : St No w (Rd eSI (.slice A_s n_s c_s) s)) (hn_s : s.length = n_s) (h_fb : St No w (fun w => w.heap[b_fb]? = some (.cells #[(.string fl)] 9 (0, 0))))  :
    Calls Tryz.prog 102 #[(.slice A_s n_s c_s), (.func (.func 93) #[] #[(.pointer (some ⟨b_fb, 0, none⟩))])] w fun e w' => ∃ v, e = .returned v ∧ (fun v w' => ∃ (i' : Int), v = .int .i64 i' ∧ FOUND (fun e => e.1 = fl) s (ByteArray.empty, 0) i' ∧ KB No w w') v w' := by
  subst hn_s
  have hma := Rd.max h_s.now
  have hS : SH w No w [] := SH.nil _ _
  refine calls (l := litOf [(.slice A_s s.length c_s), (.func (.func 93) #[] #[(.pointer (some ⟨b_fb, 0, none⟩))])] 0) Tryz.func102 rfl (n := 19) rfl (Nat.le_of_ble_eq_true rfl) (lit_args _) ?_
  refine WC.seq ?_
  refine WC.region ?_
  refine WL.lv rfl (LV.asg rfl) ?_
  refine WL.nil (thenQ.n ?_)
  iterate 2 refine WC.seq ?_
  refine WC.region ?_
  refine WL.lv rfl (LV.mv rfl) ?_
  refine WL.lv rfl (LV.lenL Tryz.underlying59 rfl) ?_
  refine WL.lv rfl (LV.mv rfl) ?_
  refine WL.nil (thenQ.n ?_)
  refine WC.block ?_
  refine WC.loop (fun m_ f_ w_ => ∃ (ix : Int), (0 ≤ ix) ∧ (ix ≤ (s.length : Int)) ∧ (∀ t : Int, 0 ≤ t → t < ix → ¬ ((s.getD t.toNat (ByteArray.empty, 0)).1 = fl)) ∧ SH w No w_ [] ∧ m_ = (((s.length : Int) - ix).toNat) ∧ Weak (lit [(0, (.slice A_s s.length c_s)), (1, (.func (.func 93) #[] #[(.pointer (some ⟨b_fb, 0, none⟩))])), (7, (.int .i64 (s.length : Int))), (8, (.int .i64 ix))]) f_) _ ⟨0, by omega, by omega, (fun t h1 h2 => by omega), hS, rfl, Weak.cons rfl <| Weak.cons rfl <| Weak.cons rfl <| Weak.cons rfl <| Weak.nil _⟩ ?_
  rintro m1 f1 w1 ⟨ix, ixlo, ixhi, q1, hL1, rfl, hw1⟩
  refine WC.weak hw1 ?_
  clear hw1
  refine WC.seq ?_
  refine WC.region ?_
  refine WL.lv rfl (LV.ltI rfl rfl) ?_
  refine WL.nil (thenQ.n ?_)
  refine WC.seq ?_
  refine WC.condP (p := ix < (s.length : Int)) rfl (fun hc1 => ?_) (fun hc1 => ?_)
  · skip
    refine WC.skip (thenQ.n ?_)
    refine WC.seq ?_
    refine WC.block ?_
    refine WC.seq ?_
    refine WC.region ?_
    refine WL.lv rfl (LV.mv rfl) ?_
    refine WL.lv rfl (LV.asg rfl) ?_
    refine WL.nil (thenQ.n ?_)
    refine WC.seq ?_
    refine WC.region ?_
    iterate 3 refine WL.lv rfl (LV.mv rfl) ?_
    have hme_ := getD_mem (d := (ByteArray.empty, 0)) (show ix.toNat < s.length by omega)
    obtain ⟨A1, c1, e1, g1⟩ := St.elt (SH.stN hL1 h_s) (ByteArray.empty, 0) ix (by omega) (by omega)
    refine WL.lv rfl (LV.idxA Tryz.underlying59 ti76.sz rfl e1 rfl (by omega) (by omega)) ?_
    refine WL.lv rfl (LV.loadAgg (cs := [(.string ((s.getD (ix).toNat (ByteArray.empty, 0)).1)), (.int .i64 ((s.getD (ix).toNat (ByteArray.empty, 0)).2))]) Tryz.underlying76 rfl ti76 rfl rfl (fun j u hu => g1 _ (KB.refl No _) j u hu)) ?_
    refine WL.call rfl (XC.fn Tryz.func93 (by kernel_rfl) rfl rfl rfl) (dropfn_calls (en := (s.getD (ix).toNat (ByteArray.empty, 0))) (fl := fl) (SH.stN hL1 h_fb) ) ?_
    rintro v_ w2 ⟨rfl, hk1⟩
    have hS1 := SH.same hL1 hk1
    refine WL.nil (thenQ.n ?_)
    refine WC.condP (p := (s.getD (ix).toNat (ByteArray.empty, 0)).1 = fl) rfl (fun hq => ?_) (fun hq => ?_)
    · skip
      refine WC.seq ?_
      refine WC.region ?_
      refine WL.lv rfl (LV.mv rfl) ?_
      refine WL.lv rfl (LV.asg rfl) ?_
      refine WL.nil (thenQ.n ?_)
      refine WC.ret (blockQ.r <| thenQ.r <| thenQ.r <| blockQ.r <| thenQ.r <| ?_)
      exact ⟨_, fun a ha => res1 rfl ha rfl, ix, congrArg (Value.int .i64) (by omega), .inr ⟨ixlo, by omega, hq, q1⟩, hS1.kb⟩
    · skip
      refine WC.skip (blockQ.n <| thenQ.n ?_)
      refine WC.region ?_
      refine WL.lv rfl (LV.add rfl rfl (wr64 (by omega) (by omega))) ?_
      refine WL.lv rfl (LV.mv rfl) ?_
      refine WL.nil (thenQ.n ?_)
      exact ⟨_, by omega, ix + 1, by omega, by omega, (all_step (p := fun t => ¬ ((s.getD t.toNat (ByteArray.empty, 0)).1 = fl)) q1 hq), hS1, rfl, Weak.cons rfl <| Weak.cons rfl <| Weak.cons rfl <| Weak.cons rfl <| Weak.nil _⟩
  · skip
    refine WC.exit (thenQ.x <| thenQ.x <| blockQ.hit <| thenQ.n ?_)
    refine WC.seq ?_
    refine WC.region ?_
    refine WL.lv rfl (LV.asg rfl) ?_
    refine WL.nil (thenQ.n ?_)
    refine WC.ret (?_)
    exact ⟨_, fun a ha => res1 rfl ha rfl, (-1), congrArg (Value.int .i64) (by omega), .inl ⟨rfl, fun t h0_ h1_ => q1 t h0_ (by omega)⟩, hL1.kb⟩

theorem hidx_calls {w : World} {A_s : Option Addr} {n_s c_s : Nat} {s : List En} {b_lb : Nat} {A_l : Option Addr} {n_l c_l : Nat} {l : List En} (h_s : St No w (Rd eSI (.slice A_s n_s c_s) s)) (hn_s : s.length = n_s) (h_l : St No w (Rd eSI (.slice A_l n_l c_l) l)) (hn_l : l.length = n_l) (h_lb : St No w (fun w => w.heap[b_lb]? = some (.cells #[(.slice A_l n_l c_l)] 32 (0, 0))))  :
    Calls Tryz.prog 49 #[(.slice A_s n_s c_s), (.func (.func 22) #[] #[(.pointer (some ⟨b_lb, 0, none⟩))])] w fun e w' => ∃ v, e = .returned v ∧ (fun v w' => ∃ (i' : Int), v = .int .i64 i' ∧ FOUND (fun e => ¬ (e ∈ l)) s (ByteArray.empty, 0) i' ∧ KB No w w') v w' := by
  subst hn_s hn_l
  have hma := Rd.max h_s.now
  have hS : SH w No w [] := SH.nil _ _
  refine calls (l := litOf [(.slice A_s s.length c_s), (.func (.func 22) #[] #[(.pointer (some ⟨b_lb, 0, none⟩))])] 0) Tryz.func49 rfl (n := 19) rfl (Nat.le_of_ble_eq_true rfl) (lit_args _) ?_
  refine WC.seq ?_
  refine WC.region ?_
  refine WL.lv rfl (LV.asg rfl) ?_
  refine WL.nil (thenQ.n ?_)
  iterate 2 refine WC.seq ?_
  refine WC.region ?_
  refine WL.lv rfl (LV.mv rfl) ?_
  refine WL.lv rfl (LV.lenL Tryz.underlying32 rfl) ?_
  refine WL.lv rfl (LV.mv rfl) ?_
  refine WL.nil (thenQ.n ?_)
  refine WC.block ?_
  refine WC.loop (fun m_ f_ w_ => ∃ (ix : Int), (0 ≤ ix) ∧ (ix ≤ (s.length : Int)) ∧ (∀ t : Int, 0 ≤ t → t < ix → ¬ (¬ ((s.getD t.toNat (ByteArray.empty, 0)) ∈ l))) ∧ SH w No w_ [] ∧ m_ = (((s.length : Int) - ix).toNat) ∧ Weak (lit [(0, (.slice A_s s.length c_s)), (1, (.func (.func 22) #[] #[(.pointer (some ⟨b_lb, 0, none⟩))])), (7, (.int .i64 (s.length : Int))), (8, (.int .i64 ix))]) f_) _ ⟨0, by omega, by omega, (fun t h1 h2 => by omega), hS, rfl, Weak.cons rfl <| Weak.cons rfl <| Weak.cons rfl <| Weak.cons rfl <| Weak.nil _⟩ ?_
  rintro m1 f1 w1 ⟨ix, ixlo, ixhi, q1, hL1, rfl, hw1⟩
  refine WC.weak hw1 ?_
  clear hw1
  refine WC.seq ?_
  refine WC.region ?_
  refine WL.lv rfl (LV.ltI rfl rfl) ?_
  refine WL.nil (thenQ.n ?_)
  refine WC.seq ?_
  refine WC.condP (p := ix < (s.length : Int)) rfl (fun hc1 => ?_) (fun hc1 => ?_)
  · skip
    refine WC.skip (thenQ.n ?_)
    refine WC.seq ?_
    refine WC.block ?_
    refine WC.seq ?_
    refine WC.region ?_
    refine WL.lv rfl (LV.mv rfl) ?_
    refine WL.lv rfl (LV.asg rfl) ?_
    refine WL.nil (thenQ.n ?_)
    refine WC.seq ?_
    refine WC.region ?_
    iterate 3 refine WL.lv rfl (LV.mv rfl) ?_
    have hme_ := getD_mem (d := (ByteArray.empty, 0)) (show ix.toNat < s.length by omega)
    obtain ⟨A1, c1, e1, g1⟩ := St.elt (SH.stN hL1 h_s) (ByteArray.empty, 0) ix (by omega) (by omega)
    refine WL.lv rfl (LV.idxA Tryz.underlying32 ti49.sz rfl e1 rfl (by omega) (by omega)) ?_
    refine WL.lv rfl (LV.loadAgg (cs := [(.string ((s.getD (ix).toNat (ByteArray.empty, 0)).1)), (.int .i64 ((s.getD (ix).toNat (ByteArray.empty, 0)).2))]) Tryz.underlying49 rfl ti49 rfl rfl (fun j u hu => g1 _ (KB.refl No _) j u hu)) ?_
    refine WL.call rfl (XC.fn Tryz.func22 (by kernel_rfl) rfl rfl rfl) (allfn_calls (h := (s.getD (ix).toNat (ByteArray.empty, 0))) (SH.stN hL1 h_l) rfl (SH.stN hL1 h_lb) ) ?_
    rintro v_ w2 ⟨rfl, hk1⟩
    have hS1 := SH.same hL1 hk1
    refine WL.nil (thenQ.n ?_)
    refine WC.condP (p := ¬ ((s.getD (ix).toNat (ByteArray.empty, 0)) ∈ l)) rfl (fun hq => ?_) (fun hq => ?_)
    · skip
      refine WC.seq ?_
      refine WC.region ?_
      refine WL.lv rfl (LV.mv rfl) ?_
      refine WL.lv rfl (LV.asg rfl) ?_
      refine WL.nil (thenQ.n ?_)
      refine WC.ret (blockQ.r <| thenQ.r <| thenQ.r <| blockQ.r <| thenQ.r <| ?_)
      exact ⟨_, fun a ha => res1 rfl ha rfl, ix, congrArg (Value.int .i64) (by omega), .inr ⟨ixlo, by omega, hq, q1⟩, hS1.kb⟩
    · skip
      refine WC.skip (blockQ.n <| thenQ.n ?_)
      refine WC.region ?_
      refine WL.lv rfl (LV.add rfl rfl (wr64 (by omega) (by omega))) ?_
      refine WL.lv rfl (LV.mv rfl) ?_
      refine WL.nil (thenQ.n ?_)
      exact ⟨_, by omega, ix + 1, by omega, by omega, (all_step (p := fun t => ¬ (¬ ((s.getD t.toNat (ByteArray.empty, 0)) ∈ l))) q1 hq), hS1, rfl, Weak.cons rfl <| Weak.cons rfl <| Weak.cons rfl <| Weak.cons rfl <| Weak.nil _⟩
  · skip
    refine WC.exit (thenQ.x <| thenQ.x <| blockQ.hit <| thenQ.n ?_)
    refine WC.seq ?_
    refine WC.region ?_
    refine WL.lv rfl (LV.asg rfl) ?_
    refine WL.nil (thenQ.n ?_)
    refine WC.ret (?_)
    exact ⟨_, fun a ha => res1 rfl ha rfl, (-1), congrArg (Value.int .i64) (by omega), .inl ⟨rfl, fun t h0_ h1_ => q1 t h0_ (by omega)⟩, hL1.kb⟩

theorem iidx_calls {w : World} {A_s : Option Addr} {n_s c_s : Nat} {s : List Itm} {b_ob : Nat} {o : Lb} (h_s : St No w (Rd eIt (.slice A_s n_s c_s) s)) (hn_s : s.length = n_s) (h_ob : St No w (fun w => w.heap[b_ob]? = some (.cells #[(.int .i64 ((o).1)), (.int .u64 ((o).2))] 26 (0, 0)))) (wl : ∀ x ∈ s, 0 ≤ x.2.1.2 ∧ x.2.1.2 < 18446744073709551616) (wo : 0 ≤ o.2 ∧ o.2 < 18446744073709551616) :
    Calls Tryz.prog 55 #[(.slice A_s n_s c_s), (.func (.func 31) #[] #[(.pointer (some ⟨b_ob, 0, none⟩))])] w fun e w' => ∃ v, e = .returned v ∧ (fun v w' => ∃ (i' : Int), v = .int .i64 i' ∧ FOUND (fun e => BEL e.2.1 o) s dI i' ∧ KB No w w') v w' := by
  subst hn_s
  have hma := Rd.max h_s.now
  have hS : SH w No w [] := SH.nil _ _
  refine calls (l := litOf [(.slice A_s s.length c_s), (.func (.func 31) #[] #[(.pointer (some ⟨b_ob, 0, none⟩))])] 0) Tryz.func55 rfl (n := 19) rfl (Nat.le_of_ble_eq_true rfl) (lit_args _) ?_
  refine WC.seq ?_
  refine WC.region ?_
  refine WL.lv rfl (LV.asg rfl) ?_
  refine WL.nil (thenQ.n ?_)
  iterate 2 refine WC.seq ?_
  refine WC.region ?_
  refine WL.lv rfl (LV.mv rfl) ?_
  refine WL.lv rfl (LV.lenL Tryz.underlying45 rfl) ?_
  refine WL.lv rfl (LV.mv rfl) ?_
  refine WL.nil (thenQ.n ?_)
  refine WC.block ?_
  refine WC.loop (fun m_ f_ w_ => ∃ (ix : Int), (0 ≤ ix) ∧ (ix ≤ (s.length : Int)) ∧ (∀ t : Int, 0 ≤ t → t < ix → ¬ (BEL (s.getD t.toNat dI).2.1 o)) ∧ SH w No w_ [] ∧ m_ = (((s.length : Int) - ix).toNat) ∧ Weak (lit [(0, (.slice A_s s.length c_s)), (1, (.func (.func 31) #[] #[(.pointer (some ⟨b_ob, 0, none⟩))])), (7, (.int .i64 (s.length : Int))), (8, (.int .i64 ix))]) f_) _ ⟨0, by omega, by omega, (fun t h1 h2 => by omega), hS, rfl, Weak.cons rfl <| Weak.cons rfl <| Weak.cons rfl <| Weak.cons rfl <| Weak.nil _⟩ ?_
  rintro m1 f1 w1 ⟨ix, ixlo, ixhi, q1, hL1, rfl, hw1⟩
  refine WC.weak hw1 ?_
  clear hw1
  refine WC.seq ?_
  refine WC.region ?_
  refine WL.lv rfl (LV.ltI rfl rfl) ?_
  refine WL.nil (thenQ.n ?_)
  refine WC.seq ?_
  refine WC.condP (p := ix < (s.length : Int)) rfl (fun hc1 => ?_) (fun hc1 => ?_)
  · skip
    refine WC.skip (thenQ.n ?_)
    refine WC.seq ?_
    refine WC.block ?_
    refine WC.seq ?_
    refine WC.region ?_
    refine WL.lv rfl (LV.mv rfl) ?_
    refine WL.lv rfl (LV.asg rfl) ?_
    refine WL.nil (thenQ.n ?_)
    refine WC.seq ?_
    refine WC.region ?_
    iterate 3 refine WL.lv rfl (LV.mv rfl) ?_
    have hme_ := getD_mem (d := dI) (show ix.toNat < s.length by omega)
    have hwe_ := wl _ hme_
    obtain ⟨A1, c1, e1, g1⟩ := St.elt (SH.stN hL1 h_s) dI ix (by omega) (by omega)
    refine WL.lv rfl (LV.idxA Tryz.underlying45 ti68.sz rfl e1 rfl (by omega) (by omega)) ?_
    refine WL.lv rfl (LV.loadAgg (cs := [(.int .i64 ((s.getD (ix).toNat dI).1)), (.int .i64 ((s.getD (ix).toNat dI).2.1.1)), (.int .u64 ((s.getD (ix).toNat dI).2.1.2)), (.bool ((s.getD (ix).toNat dI).2.2.1)), (.string ((s.getD (ix).toNat dI).2.2.2.1)), (.bool ((s.getD (ix).toNat dI).2.2.2.2))]) Tryz.underlying68 rfl ti68 rfl rfl (fun j u hu => g1 _ (KB.refl No _) j u hu)) ?_
    refine WL.call rfl (XC.fn Tryz.func31 (by kernel_rfl) rfl rfl rfl) (filefn_calls (y := (s.getD (ix).toNat dI)) (o := o) (SH.stN hL1 h_ob) (by omega) (by omega)) ?_
    rintro v_ w2 ⟨rfl, hk1⟩
    have hS1 := SH.same hL1 hk1
    refine WL.nil (thenQ.n ?_)
    refine WC.condP (p := BEL (s.getD (ix).toNat dI).2.1 o) rfl (fun hq => ?_) (fun hq => ?_)
    · skip
      refine WC.seq ?_
      refine WC.region ?_
      refine WL.lv rfl (LV.mv rfl) ?_
      refine WL.lv rfl (LV.asg rfl) ?_
      refine WL.nil (thenQ.n ?_)
      refine WC.ret (blockQ.r <| thenQ.r <| thenQ.r <| blockQ.r <| thenQ.r <| ?_)
      exact ⟨_, fun a ha => res1 rfl ha rfl, ix, congrArg (Value.int .i64) (by omega), .inr ⟨ixlo, by omega, hq, q1⟩, hS1.kb⟩
    · skip
      refine WC.skip (blockQ.n <| thenQ.n ?_)
      refine WC.region ?_
      refine WL.lv rfl (LV.add rfl rfl (wr64 (by omega) (by omega))) ?_
      refine WL.lv rfl (LV.mv rfl) ?_
      refine WL.nil (thenQ.n ?_)
      exact ⟨_, by omega, ix + 1, by omega, by omega, (all_step (p := fun t => ¬ (BEL (s.getD t.toNat dI).2.1 o)) q1 hq), hS1, rfl, Weak.cons rfl <| Weak.cons rfl <| Weak.cons rfl <| Weak.cons rfl <| Weak.nil _⟩
  · skip
    refine WC.exit (thenQ.x <| thenQ.x <| blockQ.hit <| thenQ.n ?_)
    refine WC.seq ?_
    refine WC.region ?_
    refine WL.lv rfl (LV.asg rfl) ?_
    refine WL.nil (thenQ.n ?_)
    refine WC.ret (?_)
    exact ⟨_, fun a ha => res1 rfl ha rfl, (-1), congrArg (Value.int .i64) (by omega), .inl ⟨rfl, fun t h0_ h1_ => q1 t h0_ (by omega)⟩, hL1.kb⟩

theorem icont_calls {w : World} {A_s : Option Addr} {n_s c_s : Nat} {s : List Itm} {b_ob : Nat} {o : Lb} (h_s : St No w (Rd eIt (.slice A_s n_s c_s) s)) (hn_s : s.length = n_s) (h_ob : St No w (fun w => w.heap[b_ob]? = some (.cells #[(.int .i64 ((o).1)), (.int .u64 ((o).2))] 26 (0, 0)))) (wl : ∀ x ∈ s, 0 ≤ x.2.1.2 ∧ x.2.1.2 < 18446744073709551616) (wo : 0 ≤ o.2 ∧ o.2 < 18446744073709551616) :
    Calls Tryz.prog 30 #[(.slice A_s n_s c_s), (.func (.func 31) #[] #[(.pointer (some ⟨b_ob, 0, none⟩))])] w fun e w' => ∃ v, e = .returned v ∧ (fun v w' => (v = .bool (decide (∃ y ∈ s, BEL y.2.1 o))) ∧ KB No w w') v w' := by
  subst hn_s
  have hS : SH w No w [] := SH.nil _ _
  refine calls (l := litOf [(.slice A_s s.length c_s), (.func (.func 31) #[] #[(.pointer (some ⟨b_ob, 0, none⟩))])] 0) Tryz.func30 rfl (n := 9) rfl (Nat.le_of_ble_eq_true rfl) (lit_args _) ?_
  refine WC.seq ?_
  refine WC.region ?_
  refine WL.lv rfl (LV.asg rfl) ?_
  refine WL.nil (thenQ.n ?_)
  refine WC.seq ?_
  refine WC.region ?_
  iterate 2 refine WL.lv rfl (LV.mv rfl) ?_
  refine WL.call rfl (XC.fn Tryz.func55 (by kernel_rfl) rfl rfl rfl) (iidx_calls (o := o) (SH.stN hS h_s) rfl (SH.stN hS h_ob) (wl) (wo)) ?_
  rintro v_ w1 ⟨i1, rfl, hf1, hk1⟩
  have hS1 := SH.same hS hk1
  have hx_ := hf1
  refine WL.lv rfl (LV.geI rfl rfl) ?_
  refine WL.lv rfl (LV.asg rfl) ?_
  refine WL.nil (thenQ.n ?_)
  refine WC.ret (?_)
  exact ⟨_, fun a ha => res1 rfl ha rfl, congrArg Value.bool (decide_eq_decide.2 (FOUND.iff hx_)), hS1.kb⟩

end Go.Proofs.YtigbphaimbhgjaaGreat

