/- What must be whatever is asked. -/
import Derived.Test.YtkceknbjlogehaaMvG
namespace Go.Proofs.Ytkceknbjlogehaa
open Go Go.Gv Go.RowKit Go.Mys Go.Num Go.Scr Go.Itn Go.Mov
set_option linter.unusedVariables false
set_option linter.unusedSimpArgs false

set_option maxHeartbeats 1000000 in
theorem live37_calls {w : World}  :
    Calls Try.prog 12 #[] w fun e w' => ∃ v, e = .returned v ∧ (fun v w' => v = .bool (decide (true)) ∧ KB No w w') v w' := by
  have hS : SH w No w [] := SH.nil _ _
  refine calls (l := litOf [] 0) Try.func12 rfl (n := 67) rfl (Nat.le_of_ble_eq_true rfl) (lit_args _) ?_
  refine WC.seq ?_
  refine WC.region ?_
  refine WL.lv rfl (LV.asg rfl) ?_
  refine WL.nil (thenQ.n ?_)
  refine WC.seq ?_
  refine WC.region ?_
  refine WL.lv rfl (LV.build (vs := [(0, (.string ⟨#[49]⟩))]) (places := #[(0, 1), (1, 1)]) (cs := #[(.string ⟨#[49]⟩), (.bool false)]) Try.underlying45 ti45 (fun _ => by kernel_rfl) rfl rfl) ?_
  refine WL.lv rfl (LV.build (vs := [(0, (.string ⟨#[50]⟩))]) (places := #[(0, 1), (1, 1)]) (cs := #[(.string ⟨#[50]⟩), (.bool false)]) Try.underlying45 ti45 (fun _ => by kernel_rfl) rfl rfl) ?_
  refine WL.lv rfl (LV.build (vs := [(0, (.string ⟨#[51]⟩))]) (places := #[(0, 1), (1, 1)]) (cs := #[(.string ⟨#[51]⟩), (.bool false)]) Try.underlying45 ti45 (fun _ => by kernel_rfl) rfl rfl) ?_
  refine WL.lv rfl (LV.build (vs := [(0, (.string ⟨#[52]⟩))]) (places := #[(0, 1), (1, 1)]) (cs := #[(.string ⟨#[52]⟩), (.bool false)]) Try.underlying45 ti45 (fun _ => by kernel_rfl) rfl rfl) ?_
  refine WL.xe rfl (XE.alloc #[(.string ⟨#[]⟩), (.bool false)] hS ti45 rfl) ?_
  rintro _ w1 ⟨b1, rfl, hS1, hk1⟩
  refine WL.xe rfl (XE.alloc #[(.string ⟨#[]⟩), (.bool false)] hS1 ti45 rfl) ?_
  rintro _ w2 ⟨b2, rfl, hS2, hk2⟩
  refine WL.xe rfl (XE.alloc #[(.string ⟨#[]⟩), (.bool false)] hS2 ti45 rfl) ?_
  rintro _ w3 ⟨b3, rfl, hS3, hk3⟩
  refine WL.xe rfl (XE.alloc #[(.string ⟨#[]⟩), (.bool false)] hS3 ti45 rfl) ?_
  rintro _ w4 ⟨b4, rfl, hS4, hk4⟩
  have hS6 : SH w No w4 [blkE b1 45 #[(.string ⟨#[]⟩), (.bool false)], blkE b4 45 #[(.string ⟨#[]⟩), (.bool false)], blkE b3 45 #[(.string ⟨#[]⟩), (.bool false)], blkE b2 45 #[(.string ⟨#[]⟩), (.bool false)]] := (SH.front [blkE b4 45 #[(.string ⟨#[]⟩), (.bool false)], blkE b3 45 #[(.string ⟨#[]⟩), (.bool false)], blkE b2 45 #[(.string ⟨#[]⟩), (.bool false)]] hS4)
  refine WL.xse rfl (XSE.blkAgg #[(.string ⟨#[49]⟩), (.bool false)] hS6 (by kernel_rfl) rfl (by kernel_rfl) rfl rfl) ?_
  rintro w5 ⟨hS5, hk5⟩
  have hS8 : SH w No w5 [blkE b2 45 #[(.string ⟨#[]⟩), (.bool false)], blkE b1 45 #[(.string ⟨#[49]⟩), (.bool false)], blkE b4 45 #[(.string ⟨#[]⟩), (.bool false)], blkE b3 45 #[(.string ⟨#[]⟩), (.bool false)]] := (SH.front [blkE b1 45 #[(.string ⟨#[49]⟩), (.bool false)], blkE b4 45 #[(.string ⟨#[]⟩), (.bool false)], blkE b3 45 #[(.string ⟨#[]⟩), (.bool false)]] hS5)
  refine WL.xse rfl (XSE.blkAgg #[(.string ⟨#[50]⟩), (.bool false)] hS8 (by kernel_rfl) rfl (by kernel_rfl) rfl rfl) ?_
  rintro w6 ⟨hS7, hk6⟩
  have hS10 : SH w No w6 [blkE b3 45 #[(.string ⟨#[]⟩), (.bool false)], blkE b2 45 #[(.string ⟨#[50]⟩), (.bool false)], blkE b1 45 #[(.string ⟨#[49]⟩), (.bool false)], blkE b4 45 #[(.string ⟨#[]⟩), (.bool false)]] := (SH.front [blkE b2 45 #[(.string ⟨#[50]⟩), (.bool false)], blkE b1 45 #[(.string ⟨#[49]⟩), (.bool false)], blkE b4 45 #[(.string ⟨#[]⟩), (.bool false)]] hS7)
  refine WL.xse rfl (XSE.blkAgg #[(.string ⟨#[51]⟩), (.bool false)] hS10 (by kernel_rfl) rfl (by kernel_rfl) rfl rfl) ?_
  rintro w7 ⟨hS9, hk7⟩
  have hS12 : SH w No w7 [blkE b4 45 #[(.string ⟨#[]⟩), (.bool false)], blkE b3 45 #[(.string ⟨#[51]⟩), (.bool false)], blkE b2 45 #[(.string ⟨#[50]⟩), (.bool false)], blkE b1 45 #[(.string ⟨#[49]⟩), (.bool false)]] := (SH.front [blkE b3 45 #[(.string ⟨#[51]⟩), (.bool false)], blkE b2 45 #[(.string ⟨#[50]⟩), (.bool false)], blkE b1 45 #[(.string ⟨#[49]⟩), (.bool false)]] hS9)
  refine WL.xse rfl (XSE.blkAgg #[(.string ⟨#[52]⟩), (.bool false)] hS12 (by kernel_rfl) rfl (by kernel_rfl) rfl rfl) ?_
  rintro w8 ⟨hS11, hk8⟩
  refine WL.nil (thenQ.n ?_)
  refine WC.seq ?_
  refine WC.region ?_
  refine WL.lv rfl (LV.loadAgg (cs := [(.string ⟨#[49]⟩), (.bool false)]) Try.underlying45 rfl ti45 rfl rfl (Blk.agg (SH.at hS11 (.tail _ (.tail _ (.tail _ (.head _))))) _ (KB.refl No _))) ?_
  refine WL.lv rfl (LV.loadAgg (cs := [(.string ⟨#[50]⟩), (.bool false)]) Try.underlying45 rfl ti45 rfl rfl (Blk.agg (SH.at hS11 (.tail _ (.tail _ (.head _)))) _ (KB.refl No _))) ?_
  refine WL.lv rfl (LV.loadAgg (cs := [(.string ⟨#[51]⟩), (.bool false)]) Try.underlying45 rfl ti45 rfl rfl (Blk.agg (SH.at hS11 (.tail _ (.head _))) _ (KB.refl No _))) ?_
  refine WL.lv rfl (LV.loadAgg (cs := [(.string ⟨#[52]⟩), (.bool false)]) Try.underlying45 rfl ti45 rfl rfl (Blk.agg (SH.at hS11 (.head _)) _ (KB.refl No _))) ?_
  refine WL.xe rfl (XE.buildSlice (E := eL) [(0, (.agg #[(.string ⟨#[49]⟩), (.bool false)])), (1, (.agg #[(.string ⟨#[50]⟩), (.bool false)])), (2, (.agg #[(.string ⟨#[51]⟩), (.bool false)])), (3, (.agg #[(.string ⟨#[52]⟩), (.bool false)]))] #[(.string ⟨#[49]⟩), (.bool false), (.string ⟨#[50]⟩), (.bool false), (.string ⟨#[51]⟩), (.bool false), (.string ⟨#[52]⟩), (.bool false)] [(⟨#[49]⟩, false), (⟨#[50]⟩, false), (⟨#[51]⟩, false), (⟨#[52]⟩, false)] hS11 Try.underlying22 ti45 rfl (by decide) (by kernel_rfl) (.inr rfl) rfl rfl (by decide)) ?_
  rintro _ w9 ⟨b5, rfl, hS13, hk9⟩
  refine WL.lv rfl (LV.loadAgg (cs := [(.string ⟨#[51]⟩), (.bool false)]) Try.underlying45 rfl ti45 rfl rfl (Blk.agg (SH.at hS13 (.tail _ (.tail _ (.head _)))) _ (KB.refl No _))) ?_
  refine WL.lv rfl (LV.loadAgg (cs := [(.string ⟨#[52]⟩), (.bool false)]) Try.underlying45 rfl ti45 rfl rfl (Blk.agg (SH.at hS13 (.tail _ (.head _))) _ (KB.refl No _))) ?_
  refine WL.lv rfl (LV.loadAgg (cs := [(.string ⟨#[49]⟩), (.bool false)]) Try.underlying45 rfl ti45 rfl rfl (Blk.agg (SH.at hS13 (.tail _ (.tail _ (.tail _ (.tail _ (.head _)))))) _ (KB.refl No _))) ?_
  refine WL.lv rfl (LV.loadAgg (cs := [(.string ⟨#[50]⟩), (.bool false)]) Try.underlying45 rfl ti45 rfl rfl (Blk.agg (SH.at hS13 (.tail _ (.tail _ (.tail _ (.head _))))) _ (KB.refl No _))) ?_
  refine WL.xe rfl (XE.buildSlice (E := eL) [(0, (.agg #[(.string ⟨#[51]⟩), (.bool false)])), (1, (.agg #[(.string ⟨#[52]⟩), (.bool false)])), (2, (.agg #[(.string ⟨#[49]⟩), (.bool false)])), (3, (.agg #[(.string ⟨#[50]⟩), (.bool false)]))] #[(.string ⟨#[51]⟩), (.bool false), (.string ⟨#[52]⟩), (.bool false), (.string ⟨#[49]⟩), (.bool false), (.string ⟨#[50]⟩), (.bool false)] [(⟨#[51]⟩, false), (⟨#[52]⟩, false), (⟨#[49]⟩, false), (⟨#[50]⟩, false)] hS13 Try.underlying22 ti45 rfl (by decide) (by kernel_rfl) (.inr rfl) rfl rfl (by decide)) ?_
  rintro _ w10 ⟨b6, rfl, hS14, hk10⟩
  refine WL.call rfl (XC.fn Try.func8 (by kernel_rfl) rfl rfl rfl) (find_calls (least := (2 : Int)) (SH.rd hS14 (.tail _ (.head _))) rfl (SH.rd hS14 (.head _)) rfl ) ?_
  rintro v_ w11 ⟨A1, c1, rfl, hS15⟩
  have hS16 := SH.joinN hS14 hS15
  refine WL.lv rfl (LV.mv rfl) ?_
  iterate 2 refine WL.lv rfl (LV.extract rfl rfl) ?_
  iterate 2 refine WL.lv rfl (LV.asg rfl) ?_
  refine WL.nil (thenQ.n ?_)
  refine WC.seq ?_
  refine WC.region ?_
  refine WL.lv rfl (LV.loadAgg (cs := [(.string ⟨#[49]⟩), (.bool false)]) Try.underlying45 rfl ti45 rfl rfl (Blk.agg (SH.at hS16 (.tail _ (.tail _ (.tail _ (.tail _ (.tail _ (.tail _ (.head _)))))))) _ (KB.refl No _))) ?_
  refine WL.lv rfl (LV.loadAgg (cs := [(.string ⟨#[50]⟩), (.bool false)]) Try.underlying45 rfl ti45 rfl rfl (Blk.agg (SH.at hS16 (.tail _ (.tail _ (.tail _ (.tail _ (.tail _ (.head _))))))) _ (KB.refl No _))) ?_
  refine WL.xe rfl (XE.buildSlice (E := eL) [(0, (.agg #[(.string ⟨#[49]⟩), (.bool false)])), (1, (.agg #[(.string ⟨#[50]⟩), (.bool false)]))] #[(.string ⟨#[49]⟩), (.bool false), (.string ⟨#[50]⟩), (.bool false)] [(⟨#[49]⟩, false), (⟨#[50]⟩, false)] hS16 Try.underlying22 ti45 rfl (by decide) (by kernel_rfl) (.inr rfl) rfl rfl (by decide)) ?_
  rintro _ w12 ⟨b7, rfl, hS17, hk11⟩
  refine WL.lv rfl (LV.loadAgg (cs := [(.string ⟨#[50]⟩), (.bool false)]) Try.underlying45 rfl ti45 rfl rfl (Blk.agg (SH.at hS17 (.tail _ (.tail _ (.tail _ (.tail _ (.tail _ (.tail _ (.head _)))))))) _ (KB.refl No _))) ?_
  refine WL.lv rfl (LV.loadAgg (cs := [(.string ⟨#[49]⟩), (.bool false)]) Try.underlying45 rfl ti45 rfl rfl (Blk.agg (SH.at hS17 (.tail _ (.tail _ (.tail _ (.tail _ (.tail _ (.tail _ (.tail _ (.head _))))))))) _ (KB.refl No _))) ?_
  refine WL.xe rfl (XE.buildSlice (E := eL) [(0, (.agg #[(.string ⟨#[50]⟩), (.bool false)])), (1, (.agg #[(.string ⟨#[49]⟩), (.bool false)]))] #[(.string ⟨#[50]⟩), (.bool false), (.string ⟨#[49]⟩), (.bool false)] [(⟨#[50]⟩, false), (⟨#[49]⟩, false)] hS17 Try.underlying22 ti45 rfl (by decide) (by kernel_rfl) (.inr rfl) rfl rfl (by decide)) ?_
  rintro _ w13 ⟨b8, rfl, hS18, hk12⟩
  refine WL.call rfl (XC.fn Try.func10 (by kernel_rfl) rfl rfl rfl) (signs_calls (least := (1 : Int)) (SH.rd hS18 (.tail _ (.head _))) rfl (SH.rd hS18 (.head _)) rfl ) ?_
  rintro v_ w14 ⟨rfl, hk13⟩
  have hS19 := SH.same hS18 hk13
  refine WL.lv rfl (LV.mv rfl) ?_
  iterate 3 refine WL.lv rfl (LV.extract rfl rfl) ?_
  iterate 3 refine WL.lv rfl (LV.asg rfl) ?_
  refine WL.nil (thenQ.n ?_)
  refine WC.seq ?_
  refine WC.region ?_
  refine WL.lv rfl (LV.mv rfl) ?_
  refine WL.lv rfl (LV.as (LV.eqI rfl rfl) (decide_eq_true (FE_z (by decide) (by decide) (by decide) (by decide)))) ?_
  iterate 2 refine WL.lv rfl (LV.mv rfl) ?_
  refine WL.lv rfl (LV.lenL Try.underlying24 rfl) ?_
  refine WL.lv rfl (LV.as (LV.eqI rfl rfl) (decide_eq_true (by rw [live37]; rfl))) ?_
  refine WL.lv rfl (LV.pickT rfl rfl) ?_
  iterate 2 refine WL.lv rfl (LV.mv rfl) ?_
  obtain ⟨A2, c2, e1, g1⟩ := St.elt (SH.rd hS19 (.tail _ (.tail _ (.head _)))) (0, 0, 0) (0 : Int) (by decide) (by rw [live37]; decide)
  refine WL.lv rfl (LV.idxA Try.underlying24 ti43.sz rfl e1 rfl (by decide) (by rw [live37]; decide)) ?_
  refine WL.lv rfl (LV.fieldA Try.underlying43 rfl ti3.sz rfl) ?_
  refine WL.lv rfl (LV.load1 (v := (.int .i64 (((FB [(⟨#[49]⟩, false), (⟨#[50]⟩, false), (⟨#[51]⟩, false), (⟨#[52]⟩, false)] [(⟨#[51]⟩, false), (⟨#[52]⟩, false), (⟨#[49]⟩, false), (⟨#[50]⟩, false)] (2 : Int)).getD ((0 : Int)).toNat (0, 0, 0)).2.2))) Try.underlying3 rfl rfl (g1 _ (KB.refl No _) 2 _ rfl)) ?_
  refine WL.lv rfl (LV.as (LV.eqI rfl rfl) (decide_eq_true (by rw [live37]; rfl))) ?_
  refine WL.lv rfl (LV.pickT rfl rfl) ?_
  iterate 2 refine WL.lv rfl (LV.mv rfl) ?_
  refine WL.lv rfl (LV.as (LV.eqI rfl rfl) (decide_eq_true (FE_z (by decide) (by decide) (by decide) (by decide)))) ?_
  refine WL.lv rfl (LV.pickT rfl rfl) ?_
  iterate 2 refine WL.lv rfl (LV.mv rfl) ?_
  refine WL.lv rfl (LV.lenS Try.underlying9 rfl) ?_
  refine WL.lv rfl (LV.as (LV.eqI rfl rfl) (decide_eq_true (by rw [SGX_size (FE_z (by decide) (by decide) (by decide) (by decide))]; rfl))) ?_
  refine WL.lv rfl (LV.pickT rfl rfl) ?_
  iterate 2 refine WL.lv rfl (LV.mv rfl) ?_
  refine WL.lv rfl (LV.lenS Try.underlying9 rfl) ?_
  refine WL.lv rfl (LV.as (LV.eqI rfl rfl) (decide_eq_true (by rw [SGY_size (FE_z (by decide) (by decide) (by decide) (by decide))]; rfl))) ?_
  refine WL.lv rfl (LV.pickT rfl rfl) ?_
  refine WL.lv rfl (LV.asg rfl) ?_
  refine WL.nil (thenQ.n ?_)
  refine WC.ret (?_)
  exact ⟨_, fun a ha => res1 rfl ha rfl, rfl, hS19.kb⟩

end Go.Proofs.Ytkceknbjlogehaa
