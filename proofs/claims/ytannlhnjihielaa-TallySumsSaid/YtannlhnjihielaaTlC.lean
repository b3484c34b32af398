/- Labels of a map, sorted. -/
import Derived.Test.YtannlhnjihielaaTlB
import Derived.Test.YtannlhnjihielaaTlS
namespace Go.Proofs.Ytannlhnjihielaa
open Go Go.Gv Go.RowKit Go.Tly Go.Proofs
set_option linter.unusedVariables false
set_option linter.unusedSimpArgs false

theorem keys_calls {w : World} {b : Nat} :
    Calls Try.prog 18 #[(.map (some b))] w fun e w' => ∃ v, e = .returned v ∧ (fun v w' => ∃ Bm, v = .func (.func 27) #[] #[.pointer (some ⟨Bm, 0, none⟩)] ∧ SH w No w' [blkE Bm 42 #[.map (some b)]]) v w' := by
  have hS : SH w No w [] := SH.nil _ _
  refine calls (l := litOf [(.map (some b))] 0) Try.func18 rfl (n := 4) rfl (Nat.le_of_ble_eq_true rfl) (lit_args _) ?_
  refine WC.seq ?_
  refine WC.region ?_
  refine WL.xe rfl (XE.box #[(.map (some b))] hS rfl rfl) ?_
  rintro _ w1 ⟨b1, rfl, hS1, hk1⟩
  refine WL.lv rfl (LV.asg rfl) ?_
  refine WL.nil (thenQ.n ?_)
  refine WC.seq ?_
  refine WC.region ?_
  refine WL.lv rfl (LV.mkFunc rfl) ?_
  refine WL.lv rfl (LV.asg rfl) ?_
  refine WL.nil (thenQ.n ?_)
  refine WC.ret (?_)
  exact ⟨_, fun a ha => res1 rfl ha rfl, _, rfl, hS1⟩

theorem sorted_calls {w : World} {Bm b : Nat} {kv : List (Lb × Int)} (hm : w.heap[b]? = some (.map (Gv.entsFrom kLb Gv.kI 0 kv).toArray kv.length)) (hBm : w.heap[Bm]? = some (.cells #[.map (some b)] 42 (0, 0))) (hw : ∀ p ∈ kv, WfL p.1 ∧ (Lit.int .i64 p.2).wf = true) (hnd : (kv.map (·.1)).Nodup) (hl : kv.length ≤ 1000000) :
    Calls Try.prog 17 #[(.func (.func 27) #[] #[(.pointer (some ⟨Bm, 0, none⟩))]), (.func (.func 12) #[] #[])] w fun e w' => ∃ v, e = .returned v ∧ (fun v w' => ∃ (A' : Option Addr) (c' : Nat) (zs : List Lb), v = .slice A' zs.length c' ∧ (∃ ys, zs.Perm ys ∧ ys.Nodup ∧ (∀ a, a ∈ ys ↔ a ∈ kv.map (·.1)) ∧ zs.Pairwise fun a b => ¬ LO b a < 0) ∧ SH w No w' [rowE eLb 25 (.slice A' zs.length c') zs]) v w' := by
  have hS : SH w No w [] := SH.nil _ _
  refine calls (l := litOf [(.func (.func 27) #[] #[(.pointer (some ⟨Bm, 0, none⟩))]), (.func (.func 12) #[] #[])] 0) Try.func17 rfl (n := 12) rfl (Nat.le_of_ble_eq_true rfl) (lit_args _) ?_
  refine WC.seq ?_
  refine WC.region ?_
  refine WL.lv rfl (LV.asg rfl) ?_
  refine WL.nil (thenQ.n ?_)
  refine WC.seq ?_
  refine WC.region ?_
  refine WL.lv rfl (LV.mv rfl) ?_
  refine WL.call rfl (XC.fn Try.func25 (by kernel_rfl) rfl rfl rfl) (coll_calls hm hBm hw hnd hl) ?_
  rintro v_ w1 ⟨A1, c1, ys1, rfl, hq1, hS1⟩
  have hS2 := SH.joinN hS hS1
  have hyl_ := nd_len hq1.1 (fun x hx => (hq1.2 x).1 hx)
  rw [List.length_map] at hyl_
  refine WL.lv rfl (LV.asg rfl) ?_
  refine WL.nil (thenQ.n ?_)
  refine WC.seq ?_
  refine WC.region ?_
  iterate 2 refine WL.lv rfl (LV.mv rfl) ?_
  refine WL.call rfl (XC.fn Try.func26 (by kernel_rfl) rfl rfl rfl) (sort_callsP (p := p_sortL) (cf := fun x y : Lb => LO x y) sortN_sortL sortK_sortL hS2 (fun _ _ => trivial) (fun W_ hW_ x y _ _ => by rw [Array.append_empty]; exact order_drawn W_ x y) (by omega)) ?_
  rintro v_ w2 ⟨zs1, rfl, hpm1, hpw1, hS3, hk1⟩
  refine WL.nil (thenQ.n ?_)
  refine WC.seq ?_
  refine WC.region ?_
  refine WL.lv rfl (LV.mv rfl) ?_
  refine WL.lv rfl (LV.asg rfl) ?_
  refine WL.nil (thenQ.n ?_)
  refine WC.ret (?_)
  exact ⟨_, fun a ha => res1 rfl ha rfl, _, _, zs1, (by rw [hpm1.length_eq]), ⟨_, hpm1, hq1.1, hq1.2, hpw1⟩, (by rw [hpm1.length_eq]; exact hS3)⟩

end Go.Proofs.Ytannlhnjihielaa
