/- What must be whatever is asked. -/
import Derived.Test.YthmjieikbeemhaaRkH
import Derived.Test.YthmjieikbeemhaaRkI
namespace Go.Proofs.Ythmjieikbeemhaa
open Go Go.Gv Go.RowKit Go.Flt Go.Mys Go.Num Go.Scr Go.Dec Go.Rnk
set_option linter.unusedVariables false
set_option linter.unusedSimpArgs false

set_option maxHeartbeats 2000000 in
set_option maxRecDepth 100000 in
theorem live23_calls {w : World}  :
    Calls Try.prog 10 #[] w fun e w' => ∃ v, e = .returned v ∧ (fun v w' => v = .bool (decide (true)) ∧ KB No w w') v w' := by
  have hS : SH w No w [] := SH.nil _ _
  refine calls (l := litOf [] 0) Try.func10 rfl (n := 43) rfl (Nat.le_of_ble_eq_true rfl) (lit_args _) ?_
  refine WC.seq ?_
  refine WC.region ?_
  refine WL.lv rfl (LV.asg rfl) ?_
  refine WL.nil (thenQ.n ?_)
  refine WC.seq ?_
  refine WC.region ?_
  refine WL.lv rfl (LV.build (vs := [(0, (.string ⟨#[97]⟩))]) (places := #[(0, 1), (1, 1)]) (cs := #[(.string ⟨#[97]⟩), (.bool false)]) Try.underlying44 ti44 (fun _ => by kernel_rfl) rfl rfl) ?_
  refine WL.lv rfl (LV.build (vs := [(0, (.string ⟨#[98]⟩))]) (places := #[(0, 1), (1, 1)]) (cs := #[(.string ⟨#[98]⟩), (.bool false)]) Try.underlying44 ti44 (fun _ => by kernel_rfl) rfl rfl) ?_
  refine WL.lv rfl (LV.build (vs := [(0, (.string ⟨#[99]⟩))]) (places := #[(0, 1), (1, 1)]) (cs := #[(.string ⟨#[99]⟩), (.bool false)]) Try.underlying44 ti44 (fun _ => by kernel_rfl) rfl rfl) ?_
  refine WL.xe rfl (XE.alloc #[(.string ⟨#[]⟩), (.bool false)] hS ti44 rfl) ?_
  rintro _ w1 ⟨b1, rfl, hS1, hk1⟩
  refine WL.xe rfl (XE.alloc #[(.string ⟨#[]⟩), (.bool false)] hS1 ti44 rfl) ?_
  rintro _ w2 ⟨b2, rfl, hS2, hk2⟩
  refine WL.xe rfl (XE.alloc #[(.string ⟨#[]⟩), (.bool false)] hS2 ti44 rfl) ?_
  rintro _ w3 ⟨b3, rfl, hS3, hk3⟩
  have hS5 : SH w No w3 [blkE b1 44 #[(.string ⟨#[]⟩), (.bool false)], blkE b3 44 #[(.string ⟨#[]⟩), (.bool false)], blkE b2 44 #[(.string ⟨#[]⟩), (.bool false)]] := (SH.front [blkE b3 44 #[(.string ⟨#[]⟩), (.bool false)], blkE b2 44 #[(.string ⟨#[]⟩), (.bool false)]] hS3)
  refine WL.xse rfl (XSE.blkAgg #[(.string ⟨#[97]⟩), (.bool false)] hS5 (by kernel_rfl) rfl (by kernel_rfl) rfl rfl) ?_
  rintro w4 ⟨hS4, hk4⟩
  have hS7 : SH w No w4 [blkE b2 44 #[(.string ⟨#[]⟩), (.bool false)], blkE b1 44 #[(.string ⟨#[97]⟩), (.bool false)], blkE b3 44 #[(.string ⟨#[]⟩), (.bool false)]] := (SH.front [blkE b1 44 #[(.string ⟨#[97]⟩), (.bool false)], blkE b3 44 #[(.string ⟨#[]⟩), (.bool false)]] hS4)
  refine WL.xse rfl (XSE.blkAgg #[(.string ⟨#[98]⟩), (.bool false)] hS7 (by kernel_rfl) rfl (by kernel_rfl) rfl rfl) ?_
  rintro w5 ⟨hS6, hk5⟩
  have hS9 : SH w No w5 [blkE b3 44 #[(.string ⟨#[]⟩), (.bool false)], blkE b2 44 #[(.string ⟨#[98]⟩), (.bool false)], blkE b1 44 #[(.string ⟨#[97]⟩), (.bool false)]] := (SH.front [blkE b2 44 #[(.string ⟨#[98]⟩), (.bool false)], blkE b1 44 #[(.string ⟨#[97]⟩), (.bool false)]] hS6)
  refine WL.xse rfl (XSE.blkAgg #[(.string ⟨#[99]⟩), (.bool false)] hS9 (by kernel_rfl) rfl (by kernel_rfl) rfl rfl) ?_
  rintro w6 ⟨hS8, hk6⟩
  refine WL.nil (thenQ.n ?_)
  refine WC.seq ?_
  refine WC.region ?_
  refine WL.lv rfl (LV.loadAgg (cs := [(.string ⟨#[97]⟩), (.bool false)]) Try.underlying44 rfl ti44 rfl rfl (Blk.agg (SH.at hS8 (.tail _ (.tail _ (.head _)))) _ (KB.refl No _))) ?_
  refine WL.xe rfl (XE.buildSlice (E := eL) [(0, (.agg #[(.string ⟨#[97]⟩), (.bool false)]))] #[(.string ⟨#[97]⟩), (.bool false)] [(⟨#[97]⟩, false)] hS8 Try.underlying22 ti44 rfl (by decide) (by kernel_rfl) (.inr rfl) rfl rfl (by decide)) ?_
  rintro _ w7 ⟨b4, rfl, hS10, hk7⟩
  refine WL.lv rfl (LV.loadAgg (cs := [(.string ⟨#[98]⟩), (.bool false)]) Try.underlying44 rfl ti44 rfl rfl (Blk.agg (SH.at hS10 (.tail _ (.tail _ (.head _)))) _ (KB.refl No _))) ?_
  refine WL.lv rfl (LV.loadAgg (cs := [(.string ⟨#[99]⟩), (.bool false)]) Try.underlying44 rfl ti44 rfl rfl (Blk.agg (SH.at hS10 (.tail _ (.head _))) _ (KB.refl No _))) ?_
  refine WL.xe rfl (XE.buildSlice (E := eL) [(0, (.agg #[(.string ⟨#[98]⟩), (.bool false)])), (1, (.agg #[(.string ⟨#[99]⟩), (.bool false)]))] #[(.string ⟨#[98]⟩), (.bool false), (.string ⟨#[99]⟩), (.bool false)] [(⟨#[98]⟩, false), (⟨#[99]⟩, false)] hS10 Try.underlying22 ti44 rfl (by decide) (by kernel_rfl) (.inr rfl) rfl rfl (by decide)) ?_
  rintro _ w8 ⟨b5, rfl, hS11, hk8⟩
  refine WL.xe rfl (XE.buildSlice (E := eV) [(0, (.slice (some ⟨b4, 0, none⟩) 1 1)), (1, (.slice (some ⟨b5, 0, none⟩) 2 2))] #[(.slice (some ⟨b4, 0, none⟩) 1 1), (.slice (some ⟨b5, 0, none⟩) 2 2)] [(⟨(some ⟨b4, 0, none⟩), 1, 1⟩ : SV), (⟨(some ⟨b5, 0, none⟩), 2, 2⟩ : SV)] hS11 Try.underlying30 ti22 rfl (by decide) (by kernel_rfl) (.inr rfl) rfl rfl (by decide)) ?_
  rintro _ w9 ⟨b6, rfl, hS12, hk9⟩
  refine WL.lv rfl (LV.loadAgg (cs := [(.string ⟨#[99]⟩), (.bool false)]) Try.underlying44 rfl ti44 rfl rfl (Blk.agg (SH.at hS12 (.tail _ (.tail _ (.tail _ (.head _))))) _ (KB.refl No _))) ?_
  refine WL.xe rfl (XE.buildSlice (E := eL) [(0, (.agg #[(.string ⟨#[99]⟩), (.bool false)]))] #[(.string ⟨#[99]⟩), (.bool false)] [(⟨#[99]⟩, false)] hS12 Try.underlying22 ti44 rfl (by decide) (by kernel_rfl) (.inr rfl) rfl rfl (by decide)) ?_
  rintro _ w10 ⟨b7, rfl, hS13, hk10⟩
  refine WL.call rfl (XC.fn Try.func18 (by kernel_rfl) rfl rfl rfl) (nearest_calls  (St.rrOf (rows := [((⟨(some ⟨b4, 0, none⟩), 1, 1⟩ : SV), [(⟨#[97]⟩, false)]), ((⟨(some ⟨b5, 0, none⟩), 2, 2⟩ : SV), [(⟨#[98]⟩, false), (⟨#[99]⟩, false)])]) (SH.rd hS13 (.tail _ (.head _))) (St.inCons (r := (⟨(some ⟨b4, 0, none⟩), 1, 1⟩ : SV)) rfl (SH.rd hS13 (.tail _ (.tail _ (.tail _ (.head _))))) (St.inCons (r := (⟨(some ⟨b5, 0, none⟩), 2, 2⟩ : SV)) rfl (SH.rd hS13 (.tail _ (.tail _ (.head _)))) St.in0))) rfl (SH.rd hS13 (.head _)) rfl (by first | omega | (simp; done) | (simp; omega))) ?_
  rintro v_ w11 ⟨k1, is1, rfl, hf1, hk11⟩
  have hS14 := SH.same hS13 hk11
  have hnr_ := live_near hf1
  obtain ⟨hk1_, hi1_⟩ := hnr_
  refine WL.lv rfl (LV.mv rfl) ?_
  iterate 2 refine WL.lv rfl (LV.extract rfl rfl) ?_
  iterate 2 refine WL.lv rfl (LV.asg rfl) ?_
  refine WL.nil (thenQ.n ?_)
  refine WC.seq ?_
  refine WC.region ?_
  refine WL.lv rfl (LV.loadAgg (cs := [(.string ⟨#[97]⟩), (.bool false)]) Try.underlying44 rfl ti44 rfl rfl (Blk.agg (SH.at hS14 (.tail _ (.tail _ (.tail _ (.tail _ (.tail _ (.tail _ (.head _)))))))) _ (KB.refl No _))) ?_
  refine WL.lv rfl (LV.loadAgg (cs := [(.string ⟨#[98]⟩), (.bool false)]) Try.underlying44 rfl ti44 rfl rfl (Blk.agg (SH.at hS14 (.tail _ (.tail _ (.tail _ (.tail _ (.tail _ (.head _))))))) _ (KB.refl No _))) ?_
  refine WL.xe rfl (XE.buildSlice (E := eL) [(0, (.agg #[(.string ⟨#[97]⟩), (.bool false)])), (1, (.agg #[(.string ⟨#[98]⟩), (.bool false)]))] #[(.string ⟨#[97]⟩), (.bool false), (.string ⟨#[98]⟩), (.bool false)] [(⟨#[97]⟩, false), (⟨#[98]⟩, false)] hS14 Try.underlying22 ti44 rfl (by decide) (by kernel_rfl) (.inr rfl) rfl rfl (by decide)) ?_
  rintro _ w12 ⟨b8, rfl, hS15, hk12⟩
  refine WL.lv rfl (LV.loadAgg (cs := [(.string ⟨#[98]⟩), (.bool false)]) Try.underlying44 rfl ti44 rfl rfl (Blk.agg (SH.at hS15 (.tail _ (.tail _ (.tail _ (.tail _ (.tail _ (.tail _ (.head _)))))))) _ (KB.refl No _))) ?_
  refine WL.lv rfl (LV.loadAgg (cs := [(.string ⟨#[99]⟩), (.bool false)]) Try.underlying44 rfl ti44 rfl rfl (Blk.agg (SH.at hS15 (.tail _ (.tail _ (.tail _ (.tail _ (.tail _ (.head _))))))) _ (KB.refl No _))) ?_
  refine WL.xe rfl (XE.buildSlice (E := eL) [(0, (.agg #[(.string ⟨#[98]⟩), (.bool false)])), (1, (.agg #[(.string ⟨#[99]⟩), (.bool false)]))] #[(.string ⟨#[98]⟩), (.bool false), (.string ⟨#[99]⟩), (.bool false)] [(⟨#[98]⟩, false), (⟨#[99]⟩, false)] hS15 Try.underlying22 ti44 rfl (by decide) (by kernel_rfl) (.inr rfl) rfl rfl (by decide)) ?_
  rintro _ w13 ⟨b9, rfl, hS16, hk13⟩
  refine WL.call rfl (XC.fn Try.func14 (by kernel_rfl) rfl rfl rfl) (like_calls  (SH.rd hS16 (.tail _ (.head _))) rfl (SH.rd hS16 (.head _)) rfl ) ?_
  rintro v_ w14 ⟨r1, rfl, hf2, hf3, hk14⟩
  have hS17 := SH.same hS16 hk14
  have hlk_ := live_like hf2
  have hsk_4602678819172646912 : sk 4602678819172646912 = (4602678819172646912 : Int) := by decide +kernel
  refine WL.lv rfl (LV.as (LV.eqF (a := r1) (b := 4602678819172646912) rfl rfl) (decide_eq_true (by rw [hlk_]; decide +kernel))) ?_
  iterate 2 refine WL.lv rfl (LV.mv rfl) ?_
  refine WL.lv rfl (LV.as (LV.eqI rfl rfl) (decide_eq_true (hk1_))) ?_
  refine WL.lv rfl (LV.pickT rfl rfl) ?_
  refine WL.lv rfl (LV.mv rfl) ?_
  rcases Bool.eq_false_or_eq_true (is1) with his_ | his_
  · refine WL.lv rfl (LV.as (c := true) (LV.mv rfl) his_) ?_
    refine WL.lv rfl (LV.pickT rfl rfl) ?_
    refine WL.lv rfl (LV.mv rfl) ?_
    refine WL.lv rfl (LV.build (vs := [(0, (.int .i64 2)), (1, (.float .f64 4602678819172646912))]) (places := #[(0, 1), (1, 1)]) (cs := #[(.int .i64 2), (.float .f64 4602678819172646912)]) Try.underlying37 ti37 (fun _ => by kernel_rfl) rfl rfl) ?_
    refine WL.xe rfl (XE.buildSlice (E := eK) [(0, (.agg #[(.int .i64 2), (.float .f64 4602678819172646912)]))] #[(.int .i64 2), (.float .f64 4602678819172646912)] [((2 : Int), (4602678819172646912 : Nat))] hS17 Try.underlying32 ti37 rfl (by decide) (by kernel_rfl) (.inr rfl) rfl rfl (by decide)) ?_
    rintro _ w15 ⟨b10, rfl, hS18, hk15⟩
    refine WL.call rfl (XC.fn Try.func21 (by kernel_rfl) rfl rfl rfl) (print_calls  (SH.rd hS18 (.head _)) rfl (by simp) (by simp)) ?_
    rintro v_ w16 ⟨A1, c1, rfl, hS19⟩
    have hS20 := SH.joinN hS18 hS19
    refine WL.lv rfl (LV.strOf Try.underlying40 Try.underlying5 Try.underlying9 rfl ((SH.rd hS20 (.head _)) _ (KB.refl No _))) ?_
    refine WL.lv rfl (LV.as (c := true) (LV.eqS rfl rfl) (by rw [str_bytes, live_prt]; exact beq_self_eq_true _)) ?_
    refine WL.lv rfl (LV.pickT rfl rfl) ?_
    refine WL.lv rfl (LV.asg rfl) ?_
    refine WL.nil (thenQ.n ?_)
    refine WC.ret (?_)
    exact ⟨_, fun a ha => res1 rfl ha rfl, rfl, hS20.kb⟩
  · refine WL.lv rfl (LV.as (c := false) (LV.mv rfl) his_) ?_
    refine WL.lv rfl (LV.pickT rfl rfl) ?_
    refine WL.lv rfl (LV.mv rfl) ?_
    iterate 5 refine WL.off rfl ?_
    refine WL.lv rfl (LV.pickF rfl rfl) ?_
    refine WL.lv rfl (LV.asg rfl) ?_
    refine WL.nil (thenQ.n ?_)
    refine WC.ret (?_)
    exact ⟨_, fun a ha => res1 rfl ha rfl, (by exfalso; rw [hi1_] at his_; cases his_), hS17.kb⟩

end Go.Proofs.Ythmjieikbeemhaa
