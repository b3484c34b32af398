/- The law of what one may not read. -/
import Derived.Test.YtannlhnjihielaaTlF
import Derived.Test.YtannlhnjihielaaTlO
namespace Go.Proofs.Ytannlhnjihielaa
open Go Go.Gv Go.RowKit Go.Tly Go.Proofs
set_option linter.unusedVariables false
set_option linter.unusedSimpArgs false

set_option maxHeartbeats 4000000 in
set_option maxRecDepth 100000 in
theorem tallyBlind_law {w : World} {A_l : Option Addr} {n_l c_l : Nat} {l : List Itm} {a : Lb} {o : Lb} (h_l : St No w (Rd eIt (.slice A_l n_l c_l) l)) (hn_l : l.length = n_l) (wl : ∀ x ∈ l, WLB x.2.1) (wa : WLB a) (wo : WLB o) :
    Calls Try.prog 5 #[(.slice A_l n_l c_l), (.agg #[(.int .i64 ((a).1)), (.int .u64 ((a).2))]), (.agg #[(.int .i64 ((o).1)), (.int .u64 ((o).2))])] w fun e w' => ∃ v, e = .returned v ∧ (fun v w' => v = .bool (decide (true)) ∧ KB No w w') v w' := by
  subst hn_l
  have hl60_ : (l.take 60).length ≤ 60 := by rw [List.length_take]; omega
  have wl60_ : ∀ x ∈ l.take 60, WLB x.2.1 := fun x hx => wl x (List.mem_of_mem_take hx)
  have hlb_ := LBS_len (l.take 60)
  have hcl_ := CTS_len (l.take 60)
  have hcu_ := CUTL_len (l.take 60) o
  have hS : SH w No w [] := SH.nil _ _
  refine calls (l := litOf [(.slice A_l l.length c_l), (.agg #[(.int .i64 ((a).1)), (.int .u64 ((a).2))]), (.agg #[(.int .i64 ((o).1)), (.int .u64 ((o).2))])] 0) Try.func5 rfl (n := 26) rfl (Nat.le_of_ble_eq_true rfl) (lit_args _) ?_
  refine WC.seq ?_
  refine WC.region ?_
  refine WL.xe rfl (XE.box #[(.int .i64 ((a).1)), (.int .u64 ((a).2))] hS rfl rfl) ?_
  rintro _ w1 ⟨b1, rfl, hS1, hk1⟩
  refine WL.xe rfl (XE.box #[(.int .i64 ((o).1)), (.int .u64 ((o).2))] hS1 rfl rfl) ?_
  rintro _ w2 ⟨b2, rfl, hS2, hk2⟩
  refine WL.lv rfl (LV.asg rfl) ?_
  refine WL.nil (thenQ.n ?_)
  refine WC.seq ?_
  refine WC.region ?_
  refine WL.lv rfl (LV.mv rfl) ?_
  refine WL.call rfl (XC.fn Try.func6 (by kernel_rfl) rfl rfl rfl) (few19_calls (SH.stN hS2 h_l)) ?_
  rintro v_ w3 ⟨rfl, hk3⟩
  have hS3 := SH.same hS2 hk3
  refine WL.lv rfl (LV.asg rfl) ?_
  refine WL.nil (thenQ.n ?_)
  iterate 2 refine WC.seq ?_
  refine WC.region ?_
  refine WL.lv rfl (LV.loadAgg (cs := [(.int .i64 ((a).1)), (.int .u64 ((a).2))]) Try.underlying25 rfl ti25 rfl rfl (Blk.agg (SH.at hS3 (.tail _ (.head _))) _ (KB.refl No _))) ?_
  refine WL.lv rfl (LV.loadAgg (cs := [(.int .i64 ((o).1)), (.int .u64 ((o).2))]) Try.underlying25 rfl ti25 rfl rfl (Blk.agg (SH.at hS3 (.head _)) _ (KB.refl No _))) ?_
  refine WL.call rfl (XC.fn Try.func14 (by kernel_rfl) rfl rfl rfl) (below_calls (a := a) (b := o) (by omega) (wo.2.2)) ?_
  rintro v_ w4 ⟨rfl, hk4⟩
  have hS4 := SH.same hS3 hk4
  refine WL.lv rfl (LV.notP rfl) ?_
  refine WL.nil (thenQ.n ?_)
  refine WC.condP (p := ¬ (BEL a o)) rfl (fun hbn => ?_) (fun hbn => ?_)
  · skip
    refine WC.seq ?_
    refine WC.region ?_
    refine WL.call rfl (XC.fn Try.func9 (by kernel_rfl) rfl rfl rfl) (live19_calls  ) ?_
    rintro v_ w5 ⟨rfl, hk5⟩
    have hS5 := SH.same hS4 hk5
    refine WL.lv rfl (LV.asg rfl) ?_
    refine WL.nil (thenQ.n ?_)
    refine WC.ret (thenQ.r <| ?_)
    exact ⟨_, fun a ha => res1 rfl ha rfl, rfl, hS5.kb⟩
  · skip
    refine WC.skip (thenQ.n ?_)
    refine WC.seq ?_
    have hS6 := SH.drew hS4
    refine WC.regionD [] (fun w_ => KB No w4.drew w_) [(.forced, 0), (.pure, 1), (.pure, 2), (.look, 3), (.pure, 5), (.look, 6), (.look, 8), (.forced, 4), (.forced, 7), (.forced, 9), (.pure, 10), (.pure, 11), (.pure, 12)] (by kernel_rfl) (by kernel_rfl) (KB.refl _ _) ?_
    refine WS.call rfl rfl (XC.fn Try.func9 (by kernel_rfl) rfl rfl rfl) (live19_calls  ) ?_
    rintro v_ w6 ⟨rfl, hk6⟩
    have hS7 := SH.same hS6 hk6
    refine ⟨fun h_ => (KB.transN (KB.refl _ _) hk6), ?_⟩
    iterate 2 refine WS.pure rfl rfl (fun _ => LV.mv rfl) ?_
    refine WS.look rfl rfl (fun _ hk_ => LV.loadAgg (cs := [(.int .i64 ((a).1)), (.int .u64 ((a).2))]) Try.underlying25 rfl ti25 rfl rfl (Blk.agg (SH.at hS6 (.tail _ (.head _))) _ hk_)) ?_
    refine WS.pure rfl rfl (fun _ => LV.mv rfl) ?_
    refine WS.look rfl rfl (fun _ hk_ => LV.loadAgg (cs := [(.int .i64 ((o).1)), (.int .u64 ((o).2))]) Try.underlying25 rfl ti25 rfl rfl (Blk.agg (SH.at hS6 (.head _)) _ hk_)) ?_
    refine WS.look rfl rfl (fun _ hk_ => LV.loadAgg (cs := [(.int .i64 ((a).1)), (.int .u64 ((a).2))]) Try.underlying25 rfl ti25 rfl rfl (Blk.agg (SH.at hS6 (.tail _ (.head _))) _ hk_)) ?_
    refine WS.call rfl rfl (XC.fn Try.func10 (by kernel_rfl) rfl rfl rfl) (lines_calls (a := a) (SH.stN hS7 (few_rd 60 h_l)) rfl (by first | omega | decide)) ?_
    rintro v_ w7 ⟨rfl, hk7⟩
    have hS8 := SH.same hS7 hk7
    refine ⟨fun h_ => (KB.transN (KB.transN (KB.refl _ _) hk6) hk7), ?_⟩
    refine WS.call rfl rfl (XC.fn Try.func15 (by kernel_rfl) rfl rfl rfl) (cut_calls (b := o) (SH.stN hS8 (few_rd 60 h_l)) rfl (fun x hx => (wl60_ x hx).2.2) (wo.2.2) (by omega)) ?_
    rintro v_ w8 ⟨A1, c1, rfl, hS9⟩
    have hS10 := SH.joinN hS8 hS9
    refine ⟨fun h_ => (KB.transN (KB.transN (KB.transN (KB.refl _ _) hk6) hk7) hS9.kb), ?_⟩
    refine WS.call rfl rfl (XC.fn Try.func10 (by kernel_rfl) rfl rfl rfl) (lines_calls (a := a) (SH.rd hS10 (.head _)) rfl (by first | omega | decide)) ?_
    rintro v_ w9 ⟨rfl, hk8⟩
    have hS11 := SH.same hS10 hk8
    refine ⟨fun h_ => (KB.transN (KB.transN (KB.transN (KB.transN (KB.refl _ _) hk6) hk7) hS9.kb) hk8), ?_⟩
    refine WS.pure rfl rfl (fun _ => LV.as (LV.eqI rfl rfl) (decide_eq_true ((LNS_cut (by first | exact hbn | exact Decidable.not_not.1 hbn) _).symm))) ?_
    refine WS.pure rfl rfl (fun _ => LV.pickT rfl rfl) ?_
    refine WS.pure rfl rfl (fun _ => LV.asg rfl) ?_
    refine WS.nil (thenQ.n ?_)
    refine WC.ret (?_)
    exact ⟨_, fun a ha => res1 rfl ha rfl, rfl, hS11.kb⟩

end Go.Proofs.Ytannlhnjihielaa
