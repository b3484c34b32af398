/- Rows thinned out. -/
import Derived.Test.YtigbphaimbhgjaaGreatMg14
import Derived.Test.YtigbphaimbhgjaaGreatMg13
import Derived.Test.YtigbphaimbhgjaaGreatMg10
import Derived.Shelf.SlIter.Nil
import Derived.Shelf.SlMaps.Clone
namespace Go.Proofs.YtigbphaimbhgjaaGreat
open Go Go.Gv Go.RowKit Go.Tly Go.Wds Go.Idx
set_option linter.unusedVariables false
set_option linter.unusedSimpArgs false

theorem edel_calls {w : World} {S : Nat → Prop} {A : Option Addr} {c : Nat} {s : List En} {fb : Nat} {fl : ByteArray} (hS0 : SH w S w [rowE eSI 76 (.slice A s.length c) s, blkE fb 9 #[(.string fl)]]) :
    Calls Tryz.prog 92 #[(.slice A s.length c), (.func (.func 93) #[] #[(.pointer (some ⟨fb, 0, none⟩))])] w fun e w' => ∃ v, e = .returned v ∧ (fun v w' => v = .slice A (((NF fl s)).length) c ∧ SH w S w' [rowE eSI 76 (.slice A (((NF fl s)).length) c) (NF fl s), blkE fb 9 #[(.string fl)]]) v w' := by
  have hma := Rd.max (St.now (SH.rd hS0 (.head _)))
  have hS : SH w S w [rowE eSI 76 (.slice A s.length c) s, blkE fb 9 #[(.string fl)]] := hS0
  refine calls (l := litOf [(.slice A s.length c), (.func (.func 93) #[] #[(.pointer (some ⟨fb, 0, none⟩))])] 0) Tryz.func92 rfl (n := 42) rfl (Nat.le_of_ble_eq_true rfl) (lit_args _) ?_
  refine WC.seq ?_
  refine WC.region ?_
  refine WL.lv rfl (LV.asg rfl) ?_
  refine WL.nil (thenQ.n ?_)
  refine WC.seq ?_
  refine WC.region ?_
  iterate 2 refine WL.lv rfl (LV.mv rfl) ?_
  refine WL.call rfl (XC.fn Tryz.func102 (by kernel_rfl) rfl rfl rfl) (eidx_calls (fl := fl) (SH.rd hS (.head _)) rfl (SH.steN hS (.tail _ (.head _))) ) ?_
  rintro v_ w1 ⟨i1, rfl, hf1, hk1⟩
  have hS1 := SH.same hS hk1
  have hx_ := hf1
  refine WL.lv rfl (LV.asg rfl) ?_
  refine WL.nil (thenQ.n ?_)
  iterate 2 refine WC.seq ?_
  refine WC.region ?_
  refine WL.lv rfl (LV.mv rfl) ?_
  refine WL.lv rfl (LV.eqI rfl rfl) ?_
  refine WL.nil (thenQ.n ?_)
  refine WC.condP (p := i1 = (-1)) rfl (fun hc1 => ?_) (fun hc1 => ?_)
  · skip
    refine WC.seq ?_
    refine WC.region ?_
    refine WL.lv rfl (LV.mv rfl) ?_
    refine WL.lv rfl (LV.asg rfl) ?_
    refine WL.nil (thenQ.n ?_)
    refine WC.ret (thenQ.r <| ?_)
    exact ⟨_, fun a ha => res1 rfl ha rfl, by have h_ : s = (NF fl s) := flt_all (p := (fun e_ : En => decide (e_.1 ≠ fl))) (d := (ByteArray.empty, 0)) (fun t h0_ h1_ => decide_eq_true (by simpa using hx_.none (by omega) t h0_ h1_)); rw [← h_]; exact ⟨rfl, hS1⟩⟩
  · have hxs_ := hx_.some (by omega)
    refine WC.skip (thenQ.n ?_)
    iterate 2 refine WC.seq ?_
    refine WC.region ?_
    refine WL.lv rfl (LV.mv rfl) ?_
    refine WL.lv rfl (LV.add rfl rfl (wr64 (by omega) (by omega))) ?_
    refine WL.lv rfl (LV.asg rfl) ?_
    refine WL.nil (thenQ.n ?_)
    refine WC.block ?_
    refine WC.loop (fun m_ f_ w_ => ∃ (ys : List En) (i : Int) (j : Int), (0 ≤ j) ∧ (j ≤ (s.length : Int)) ∧ (0 ≤ i ∧ i < j) ∧ (ys.length = s.length) ∧ (ys.take i.toNat = (s.take j.toNat).filter (fun e_ : En => decide (e_.1 ≠ fl))) ∧ (ys.drop j.toNat = s.drop j.toNat) ∧ SH w S w_ [rowE eSI 76 (.slice A s.length c) ys, blkE fb 9 #[(.string fl)]] ∧ m_ = (((s.length : Int) - j).toNat) ∧ Weak (lit [(0, (.slice A s.length c)), (1, (.func (.func 93) #[] #[(.pointer (some ⟨fb, 0, none⟩))])), (5, (.int .i64 i)), (6, (.int .i64 j))]) f_) _ ⟨s, i1, i1 + 1, by omega, by omega, by omega, rfl, (flt_init (d := (ByteArray.empty, 0)) hxs_.1 hxs_.2.1 (fun t h0_ h1_ => decide_eq_true (by simpa using hxs_.2.2.2 t h0_ h1_)) (decide_eq_false (by simpa using hxs_.2.2.1))), rfl, hS1, rfl, Weak.cons rfl <| Weak.cons rfl <| Weak.cons rfl <| Weak.cons rfl <| Weak.nil _⟩ ?_
    rintro m1 f1 w2 ⟨ys, i, j, jlo, jhi, qi, ql, q1, q2, hL1, rfl, hw1⟩
    refine WC.weak hw1 ?_
    clear hw1
    iterate 2 refine WC.seq ?_
    refine WC.region ?_
    iterate 2 refine WL.lv rfl (LV.mv rfl) ?_
    refine WL.lv rfl (LV.lenL Tryz.underlying59 rfl) ?_
    refine WL.lv rfl (LV.ltI rfl rfl) ?_
    refine WL.nil (thenQ.n ?_)
    refine WC.condP (p := j < (s.length : Int)) rfl (fun hc2 => ?_) (fun hc2 => ?_)
    · skip
      refine WC.skip (thenQ.n ?_)
      refine WC.seq ?_
      refine WC.block ?_
      refine WC.seq ?_
      refine WC.region ?_
      iterate 2 refine WL.lv rfl (LV.mv rfl) ?_
      have hge_ := flt_get (d := (ByteArray.empty, 0)) (xs := s) (ys := ys) (j := j) (by omega) (by omega) ql q2
      obtain ⟨A1, c1, e1, g1⟩ := St.elt (SH.rd hL1 (.head _)) (ByteArray.empty, 0) j (by omega) (by omega)
      refine WL.lv rfl (LV.idxA Tryz.underlying59 ti76.sz rfl e1 rfl (by omega) (by omega)) ?_
      refine WL.lv rfl (LV.loadAgg (cs := [(.string ((ys.getD (j).toNat (ByteArray.empty, 0)).1)), (.int .i64 ((ys.getD (j).toNat (ByteArray.empty, 0)).2))]) Tryz.underlying76 rfl ti76 rfl rfl (fun j u hu => g1 _ (KB.refl No _) j u hu)) ?_
      refine WL.xe rfl (XE.alloc #[(.string ⟨#[]⟩), (.int .i64 0)] hL1 ti76 rfl) ?_
      rintro _ w3 ⟨b1, rfl, hS2, hk2⟩
      refine WL.xse rfl (XSE.blkAgg #[(.string ((ys.getD (j).toNat (ByteArray.empty, 0)).1)), (.int .i64 ((ys.getD (j).toNat (ByteArray.empty, 0)).2))] hS2 (by kernel_rfl) rfl (by kernel_rfl) rfl rfl) ?_
      rintro w4 ⟨hS3, hk3⟩
      refine WL.nil (thenQ.n ?_)
      refine WC.seq ?_
      refine WC.region ?_
      refine WL.lv rfl (LV.mv rfl) ?_
      refine WL.lv rfl (LV.loadAgg (cs := [(.string ((ys.getD (j).toNat (ByteArray.empty, 0)).1)), (.int .i64 ((ys.getD (j).toNat (ByteArray.empty, 0)).2))]) Tryz.underlying76 rfl ti76 rfl rfl (Blk.agg (SH.at hS3 (.head _)) _ (KB.refl No _))) ?_
      refine WL.call rfl (XC.fn Tryz.func93 (by kernel_rfl) rfl rfl rfl) (dropfn_calls (en := (ys.getD (j).toNat (ByteArray.empty, 0))) (fl := fl) (SH.steN hS3 (.tail _ (.tail _ (.head _)))) ) ?_
      rintro v_ w5 ⟨rfl, hk4⟩
      have hS4 := SH.same hS3 hk4
      refine WL.lv rfl (LV.notP rfl) ?_
      refine WL.nil (thenQ.n ?_)
      refine WC.condP (p := ¬ ((ys.getD (j).toNat (ByteArray.empty, 0)).1 = fl)) rfl (fun hq => ?_) (fun hq => ?_)
      · skip
        refine WC.seq ?_
        refine WC.region ?_
        iterate 2 refine WL.lv rfl (LV.mv rfl) ?_
        refine WL.lv rfl (LV.loadAgg (cs := [(.string ((ys.getD (j).toNat (ByteArray.empty, 0)).1)), (.int .i64 ((ys.getD (j).toNat (ByteArray.empty, 0)).2))]) Tryz.underlying76 rfl ti76 rfl rfl (Blk.agg (SH.at hS4 (.head _)) _ (KB.refl No _))) ?_
        obtain ⟨A2, c2, e2, g2⟩ := St.elt (SH.rd hS4 (.tail _ (.head _))) (ByteArray.empty, 0) i (by omega) (by omega)
        refine WL.lv rfl (LV.idxA Tryz.underlying59 ti76.sz rfl e2 rfl (by omega) (by omega)) ?_
        have hS6 : SH w S w5 [rowE eSI 76 (.slice A s.length c) ys, blkE b1 76 #[(.string ((ys.getD (j).toNat (ByteArray.empty, 0)).1)), (.int .i64 ((ys.getD (j).toNat (ByteArray.empty, 0)).2))], blkE fb 9 #[(.string fl)]] := (SH.front [_] hS4)
        refine WL.xse rfl (XSE.rowN (i := i) (cs := #[(.string ((ys.getD (j).toNat (ByteArray.empty, 0)).1)), (.int .i64 ((ys.getD (j).toNat (ByteArray.empty, 0)).2))]) (ys.getD (j).toNat (ByteArray.empty, 0)) hS6 e2 (by omega) (by omega) ti76.sz rfl rfl rfl) ?_
        rintro w6 ⟨hS5, hk5⟩
        refine WL.nil (thenQ.n ?_)
        refine WC.region ?_
        refine WL.lv rfl (LV.mv rfl) ?_
        refine WL.lv rfl (LV.add rfl rfl (wr64 (by omega) (by omega))) ?_
        refine WL.lv rfl (LV.asg rfl) ?_
        refine WL.nil (blockQ.n <| thenQ.n ?_)
        refine WC.region ?_
        refine WL.lv rfl (LV.mv rfl) ?_
        refine WL.lv rfl (LV.add rfl rfl (wr64 (by omega) (by omega))) ?_
        refine WL.lv rfl (LV.asg rfl) ?_
        refine WL.nil (thenQ.n ?_)
        have hS7 : SH w S w6 [rowE eSI 76 (.slice A s.length c) (ys.set (i).toNat (ys.getD (j).toNat (ByteArray.empty, 0))), blkE fb 9 #[(.string fl)]] := (SH.take 2 rfl (SH.front [_] (SH.front [_, _] hS5)))
        exact ⟨_, by omega, (ys.set (i).toNat (ys.getD (j).toNat (ByteArray.empty, 0))), i + 1, j + 1, by omega, by omega, by omega, (by rw [List.length_set]; exact ql), ((by rw [hge_] at hq ⊢; exact (flt_keep (p := (fun e_ : En => decide (e_.1 ≠ fl))) (by omega) (by omega) (by omega) ql q1 q2 (decide_eq_true (by simpa using hq))).1)), ((by rw [hge_] at hq ⊢; exact (flt_keep (p := (fun e_ : En => decide (e_.1 ≠ fl))) (by omega) (by omega) (by omega) ql q1 q2 (decide_eq_true (by simpa using hq))).2)), hS7, rfl, Weak.cons rfl <| Weak.cons rfl <| Weak.cons rfl <| Weak.cons rfl <| Weak.nil _⟩
      · skip
        refine WC.skip (blockQ.n <| thenQ.n ?_)
        refine WC.region ?_
        refine WL.lv rfl (LV.mv rfl) ?_
        refine WL.lv rfl (LV.add rfl rfl (wr64 (by omega) (by omega))) ?_
        refine WL.lv rfl (LV.asg rfl) ?_
        refine WL.nil (thenQ.n ?_)
        have hS8 : SH w S w5 [rowE eSI 76 (.slice A s.length c) ys, blkE fb 9 #[(.string fl)]] := (SH.take 2 rfl (SH.front [_, _] (SH.front [_, _] hS4)))
        exact ⟨_, by omega, ys, i, j + 1, by omega, by omega, by omega, ql, ((by rw [hge_] at hq; exact (flt_drop (p := (fun e_ : En => decide (e_.1 ≠ fl))) (d := (ByteArray.empty, 0)) (by omega) (by omega) q1 q2 (decide_eq_false (by simpa using hq))).1)), ((by rw [hge_] at hq; exact (flt_drop (p := (fun e_ : En => decide (e_.1 ≠ fl))) (d := (ByteArray.empty, 0)) (by omega) (by omega) q1 q2 (decide_eq_false (by simpa using hq))).2)), hS8, rfl, Weak.cons rfl <| Weak.cons rfl <| Weak.cons rfl <| Weak.cons rfl <| Weak.nil _⟩
    · skip
      refine WC.exit (thenQ.x <| thenQ.x <| blockQ.hit <| thenQ.n ?_)
      refine WC.seq ?_
      refine WC.region ?_
      iterate 2 refine WL.lv rfl (LV.mv rfl) ?_
      have hcap1 : s.length ≤ c := (Rd.cap (St.now (SH.rd hL1 (.head _))))
      refine WL.lv rfl (LV.cut Tryz.underlying59 ti76.sz rfl rfl rfl rfl ⟨.inr ⟨.i64, by rw [Int.toNat_of_nonneg (a := i) (by omega)] <;> rfl⟩, .inl ⟨rfl, rfl, rfl⟩, .inl ⟨rfl, rfl⟩⟩ (by omega) (by omega) (by omega)) ?_
      refine WL.xe rfl (XE.clearCut (i := ((i).toNat)) (ByteArray.empty, 0) (by decide) hL1 Tryz.underlying59 ti76 rfl (ql.symm) (by omega) rfl) ?_
      rintro _ w7 ⟨rfl, hS9, hk6⟩
      refine WL.nil (thenQ.n ?_)
      refine WC.seq ?_
      refine WC.region ?_
      iterate 2 refine WL.lv rfl (LV.mv rfl) ?_
      have hcap2 : s.length ≤ c := (Rd.cap (St.now (SH.rd hS9 (.head _))))
      have hS10 : SH w S w7 [rowE eSI 76 (.slice A ((i).toNat) c) ((ys.take ((i).toNat) ++ List.replicate (s.length - ((i).toNat)) (ByteArray.empty, 0)).take (i).toNat), blkE fb 9 #[(.string fl)]] := SH.short hS9 (by simp only [List.length_append, List.length_take, List.length_replicate]; omega)
      refine WL.lv rfl (LV.to (v := (.slice (if c = 0 then A else A.map (·.add (0 * 2))) ((i).toNat - 0) (c - 0))) (v' := (.slice A ((i).toNat) c)) cut_id (LV.cut Tryz.underlying59 ti76.sz rfl rfl rfl rfl ⟨.inl ⟨rfl, rfl⟩, .inr ⟨.i64, by rw [Int.toNat_of_nonneg (a := i) (by omega)] <;> rfl⟩, .inl ⟨rfl, rfl⟩⟩ (by omega) (by omega) (by omega))) ?_
      refine WL.lv rfl (LV.asg rfl) ?_
      refine WL.nil (thenQ.n ?_)
      refine WC.ret (?_)
      exact ⟨_, fun a ha => res1 rfl ha rfl, by have h_ : ((ys.take ((i).toNat) ++ List.replicate (s.length - ((i).toNat)) (ByteArray.empty, 0)).take (i).toNat) = (NF fl s) := flt_end (d := (ByteArray.empty, 0)) (n := s.length - i.toNat) (by omega) (show ys.take i.toNat = s.filter (fun e_ : En => decide (e_.1 ≠ fl)) by rw [q1, List.take_of_length_le (by omega)]); have hl_ := congrArg List.length h_; rw [List.length_take, List.length_append, List.length_take, List.length_replicate] at hl_; have hl2_ : i.toNat = ((NF fl s)).length := (by rw [← hl_]; omega); have hz_ := hS10; rw [h_, hl2_] at hz_; exact ⟨congrArg (fun n_ => Value.slice A n_ c) hl2_, hz_⟩⟩

theorem hdel_calls {w : World} {S : Nat → Prop} {A : Option Addr} {c : Nat} {s : List En} {lb : Nat} {A_l : Option Addr} {c_l : Nat} {l : List En} (hS0 : SH w S w [rowE eSI 49 (.slice A s.length c) s, blkE lb 32 #[(.slice A_l l.length c_l)], rowE eSI 49 (.slice A_l l.length c_l) l]) :
    Calls Tryz.prog 20 #[(.slice A s.length c), (.func (.func 22) #[] #[(.pointer (some ⟨lb, 0, none⟩))])] w fun e w' => ∃ v, e = .returned v ∧ (fun v w' => v = .slice A (((s.filter fun h_ => decide (h_ ∈ l))).length) c ∧ SH w S w' [rowE eSI 49 (.slice A (((s.filter fun h_ => decide (h_ ∈ l))).length) c) (s.filter fun h_ => decide (h_ ∈ l)), blkE lb 32 #[(.slice A_l l.length c_l)], rowE eSI 49 (.slice A_l l.length c_l) l]) v w' := by
  have hma := Rd.max (St.now (SH.rd hS0 (.head _)))
  have hS : SH w S w [rowE eSI 49 (.slice A s.length c) s, blkE lb 32 #[(.slice A_l l.length c_l)], rowE eSI 49 (.slice A_l l.length c_l) l] := hS0
  refine calls (l := litOf [(.slice A s.length c), (.func (.func 22) #[] #[(.pointer (some ⟨lb, 0, none⟩))])] 0) Tryz.func20 rfl (n := 42) rfl (Nat.le_of_ble_eq_true rfl) (lit_args _) ?_
  refine WC.seq ?_
  refine WC.region ?_
  refine WL.lv rfl (LV.asg rfl) ?_
  refine WL.nil (thenQ.n ?_)
  refine WC.seq ?_
  refine WC.region ?_
  iterate 2 refine WL.lv rfl (LV.mv rfl) ?_
  refine WL.call rfl (XC.fn Tryz.func49 (by kernel_rfl) rfl rfl rfl) (hidx_calls  (SH.rd hS (.head _)) rfl (SH.rd hS (.tail _ (.tail _ (.head _)))) rfl (SH.steN hS (.tail _ (.head _))) ) ?_
  rintro v_ w1 ⟨i1, rfl, hf1, hk1⟩
  have hS1 := SH.same hS hk1
  have hx_ := hf1
  refine WL.lv rfl (LV.asg rfl) ?_
  refine WL.nil (thenQ.n ?_)
  iterate 2 refine WC.seq ?_
  refine WC.region ?_
  refine WL.lv rfl (LV.mv rfl) ?_
  refine WL.lv rfl (LV.eqI rfl rfl) ?_
  refine WL.nil (thenQ.n ?_)
  refine WC.condP (p := i1 = (-1)) rfl (fun hc1 => ?_) (fun hc1 => ?_)
  · skip
    refine WC.seq ?_
    refine WC.region ?_
    refine WL.lv rfl (LV.mv rfl) ?_
    refine WL.lv rfl (LV.asg rfl) ?_
    refine WL.nil (thenQ.n ?_)
    refine WC.ret (thenQ.r <| ?_)
    exact ⟨_, fun a ha => res1 rfl ha rfl, by have h_ : s = (s.filter fun h_ => decide (h_ ∈ l)) := flt_all (p := (fun e_ : En => decide (e_ ∈ l))) (d := (ByteArray.empty, 0)) (fun t h0_ h1_ => decide_eq_true (by simpa using hx_.none (by omega) t h0_ h1_)); rw [← h_]; exact ⟨rfl, hS1⟩⟩
  · have hxs_ := hx_.some (by omega)
    refine WC.skip (thenQ.n ?_)
    iterate 2 refine WC.seq ?_
    refine WC.region ?_
    refine WL.lv rfl (LV.mv rfl) ?_
    refine WL.lv rfl (LV.add rfl rfl (wr64 (by omega) (by omega))) ?_
    refine WL.lv rfl (LV.asg rfl) ?_
    refine WL.nil (thenQ.n ?_)
    refine WC.block ?_
    refine WC.loop (fun m_ f_ w_ => ∃ (ys : List En) (i : Int) (j : Int), (0 ≤ j) ∧ (j ≤ (s.length : Int)) ∧ (0 ≤ i ∧ i < j) ∧ (ys.length = s.length) ∧ (ys.take i.toNat = (s.take j.toNat).filter (fun e_ : En => decide (e_ ∈ l))) ∧ (ys.drop j.toNat = s.drop j.toNat) ∧ SH w S w_ [rowE eSI 49 (.slice A s.length c) ys, blkE lb 32 #[(.slice A_l l.length c_l)], rowE eSI 49 (.slice A_l l.length c_l) l] ∧ m_ = (((s.length : Int) - j).toNat) ∧ Weak (lit [(0, (.slice A s.length c)), (1, (.func (.func 22) #[] #[(.pointer (some ⟨lb, 0, none⟩))])), (5, (.int .i64 i)), (6, (.int .i64 j))]) f_) _ ⟨s, i1, i1 + 1, by omega, by omega, by omega, rfl, (flt_init (d := (ByteArray.empty, 0)) hxs_.1 hxs_.2.1 (fun t h0_ h1_ => decide_eq_true (by simpa using hxs_.2.2.2 t h0_ h1_)) (decide_eq_false (by simpa using hxs_.2.2.1))), rfl, hS1, rfl, Weak.cons rfl <| Weak.cons rfl <| Weak.cons rfl <| Weak.cons rfl <| Weak.nil _⟩ ?_
    rintro m1 f1 w2 ⟨ys, i, j, jlo, jhi, qi, ql, q1, q2, hL1, rfl, hw1⟩
    refine WC.weak hw1 ?_
    clear hw1
    iterate 2 refine WC.seq ?_
    refine WC.region ?_
    iterate 2 refine WL.lv rfl (LV.mv rfl) ?_
    refine WL.lv rfl (LV.lenL Tryz.underlying32 rfl) ?_
    refine WL.lv rfl (LV.ltI rfl rfl) ?_
    refine WL.nil (thenQ.n ?_)
    refine WC.condP (p := j < (s.length : Int)) rfl (fun hc2 => ?_) (fun hc2 => ?_)
    · skip
      refine WC.skip (thenQ.n ?_)
      refine WC.seq ?_
      refine WC.block ?_
      refine WC.seq ?_
      refine WC.region ?_
      iterate 2 refine WL.lv rfl (LV.mv rfl) ?_
      have hge_ := flt_get (d := (ByteArray.empty, 0)) (xs := s) (ys := ys) (j := j) (by omega) (by omega) ql q2
      obtain ⟨A1, c1, e1, g1⟩ := St.elt (SH.rd hL1 (.head _)) (ByteArray.empty, 0) j (by omega) (by omega)
      refine WL.lv rfl (LV.idxA Tryz.underlying32 ti49.sz rfl e1 rfl (by omega) (by omega)) ?_
      refine WL.lv rfl (LV.loadAgg (cs := [(.string ((ys.getD (j).toNat (ByteArray.empty, 0)).1)), (.int .i64 ((ys.getD (j).toNat (ByteArray.empty, 0)).2))]) Tryz.underlying49 rfl ti49 rfl rfl (fun j u hu => g1 _ (KB.refl No _) j u hu)) ?_
      refine WL.xe rfl (XE.alloc #[(.string ⟨#[]⟩), (.int .i64 0)] hL1 ti49 rfl) ?_
      rintro _ w3 ⟨b1, rfl, hS2, hk2⟩
      refine WL.xse rfl (XSE.blkAgg #[(.string ((ys.getD (j).toNat (ByteArray.empty, 0)).1)), (.int .i64 ((ys.getD (j).toNat (ByteArray.empty, 0)).2))] hS2 (by kernel_rfl) rfl (by kernel_rfl) rfl rfl) ?_
      rintro w4 ⟨hS3, hk3⟩
      refine WL.nil (thenQ.n ?_)
      refine WC.seq ?_
      refine WC.region ?_
      refine WL.lv rfl (LV.mv rfl) ?_
      refine WL.lv rfl (LV.loadAgg (cs := [(.string ((ys.getD (j).toNat (ByteArray.empty, 0)).1)), (.int .i64 ((ys.getD (j).toNat (ByteArray.empty, 0)).2))]) Tryz.underlying49 rfl ti49 rfl rfl (Blk.agg (SH.at hS3 (.head _)) _ (KB.refl No _))) ?_
      refine WL.call rfl (XC.fn Tryz.func22 (by kernel_rfl) rfl rfl rfl) (allfn_calls (h := (ys.getD (j).toNat (ByteArray.empty, 0))) (SH.rd hS3 (.tail _ (.tail _ (.tail _ (.head _))))) rfl (SH.steN hS3 (.tail _ (.tail _ (.head _)))) ) ?_
      rintro v_ w5 ⟨rfl, hk4⟩
      have hS4 := SH.same hS3 hk4
      refine WL.lv rfl (LV.notP rfl) ?_
      refine WL.nil (thenQ.n ?_)
      refine WC.condP (p := ¬ (¬ ((ys.getD (j).toNat (ByteArray.empty, 0)) ∈ l))) rfl (fun hq => ?_) (fun hq => ?_)
      · skip
        refine WC.seq ?_
        refine WC.region ?_
        iterate 2 refine WL.lv rfl (LV.mv rfl) ?_
        refine WL.lv rfl (LV.loadAgg (cs := [(.string ((ys.getD (j).toNat (ByteArray.empty, 0)).1)), (.int .i64 ((ys.getD (j).toNat (ByteArray.empty, 0)).2))]) Tryz.underlying49 rfl ti49 rfl rfl (Blk.agg (SH.at hS4 (.head _)) _ (KB.refl No _))) ?_
        obtain ⟨A2, c2, e2, g2⟩ := St.elt (SH.rd hS4 (.tail _ (.head _))) (ByteArray.empty, 0) i (by omega) (by omega)
        refine WL.lv rfl (LV.idxA Tryz.underlying32 ti49.sz rfl e2 rfl (by omega) (by omega)) ?_
        have hS6 : SH w S w5 [rowE eSI 49 (.slice A s.length c) ys, blkE b1 49 #[(.string ((ys.getD (j).toNat (ByteArray.empty, 0)).1)), (.int .i64 ((ys.getD (j).toNat (ByteArray.empty, 0)).2))], blkE lb 32 #[(.slice A_l l.length c_l)], rowE eSI 49 (.slice A_l l.length c_l) l] := (SH.front [_] hS4)
        refine WL.xse rfl (XSE.rowN (i := i) (cs := #[(.string ((ys.getD (j).toNat (ByteArray.empty, 0)).1)), (.int .i64 ((ys.getD (j).toNat (ByteArray.empty, 0)).2))]) (ys.getD (j).toNat (ByteArray.empty, 0)) hS6 e2 (by omega) (by omega) ti49.sz rfl rfl rfl) ?_
        rintro w6 ⟨hS5, hk5⟩
        refine WL.nil (thenQ.n ?_)
        refine WC.region ?_
        refine WL.lv rfl (LV.mv rfl) ?_
        refine WL.lv rfl (LV.add rfl rfl (wr64 (by omega) (by omega))) ?_
        refine WL.lv rfl (LV.asg rfl) ?_
        refine WL.nil (blockQ.n <| thenQ.n ?_)
        refine WC.region ?_
        refine WL.lv rfl (LV.mv rfl) ?_
        refine WL.lv rfl (LV.add rfl rfl (wr64 (by omega) (by omega))) ?_
        refine WL.lv rfl (LV.asg rfl) ?_
        refine WL.nil (thenQ.n ?_)
        have hS7 : SH w S w6 [rowE eSI 49 (.slice A s.length c) (ys.set (i).toNat (ys.getD (j).toNat (ByteArray.empty, 0))), blkE lb 32 #[(.slice A_l l.length c_l)], rowE eSI 49 (.slice A_l l.length c_l) l] := (SH.take 3 rfl (SH.front [_, _] (SH.front [_, _, _] (SH.front [_, _, _] hS5))))
        exact ⟨_, by omega, (ys.set (i).toNat (ys.getD (j).toNat (ByteArray.empty, 0))), i + 1, j + 1, by omega, by omega, by omega, (by rw [List.length_set]; exact ql), ((by rw [hge_] at hq ⊢; exact (flt_keep (p := (fun e_ : En => decide (e_ ∈ l))) (by omega) (by omega) (by omega) ql q1 q2 (decide_eq_true (by simpa using hq))).1)), ((by rw [hge_] at hq ⊢; exact (flt_keep (p := (fun e_ : En => decide (e_ ∈ l))) (by omega) (by omega) (by omega) ql q1 q2 (decide_eq_true (by simpa using hq))).2)), hS7, rfl, Weak.cons rfl <| Weak.cons rfl <| Weak.cons rfl <| Weak.cons rfl <| Weak.nil _⟩
      · skip
        refine WC.skip (blockQ.n <| thenQ.n ?_)
        refine WC.region ?_
        refine WL.lv rfl (LV.mv rfl) ?_
        refine WL.lv rfl (LV.add rfl rfl (wr64 (by omega) (by omega))) ?_
        refine WL.lv rfl (LV.asg rfl) ?_
        refine WL.nil (thenQ.n ?_)
        have hS8 : SH w S w5 [rowE eSI 49 (.slice A s.length c) ys, blkE lb 32 #[(.slice A_l l.length c_l)], rowE eSI 49 (.slice A_l l.length c_l) l] := (SH.take 3 rfl (SH.front [_, _, _] (SH.front [_, _, _] (SH.front [_, _, _] hS4))))
        exact ⟨_, by omega, ys, i, j + 1, by omega, by omega, by omega, ql, ((by rw [hge_] at hq; exact (flt_drop (p := (fun e_ : En => decide (e_ ∈ l))) (d := (ByteArray.empty, 0)) (by omega) (by omega) q1 q2 (decide_eq_false (by simpa using hq))).1)), ((by rw [hge_] at hq; exact (flt_drop (p := (fun e_ : En => decide (e_ ∈ l))) (d := (ByteArray.empty, 0)) (by omega) (by omega) q1 q2 (decide_eq_false (by simpa using hq))).2)), hS8, rfl, Weak.cons rfl <| Weak.cons rfl <| Weak.cons rfl <| Weak.cons rfl <| Weak.nil _⟩
    · skip
      refine WC.exit (thenQ.x <| thenQ.x <| blockQ.hit <| thenQ.n ?_)
      refine WC.seq ?_
      refine WC.region ?_
      iterate 2 refine WL.lv rfl (LV.mv rfl) ?_
      have hcap1 : s.length ≤ c := (Rd.cap (St.now (SH.rd hL1 (.head _))))
      refine WL.lv rfl (LV.cut Tryz.underlying32 ti49.sz rfl rfl rfl rfl ⟨.inr ⟨.i64, by rw [Int.toNat_of_nonneg (a := i) (by omega)] <;> rfl⟩, .inl ⟨rfl, rfl, rfl⟩, .inl ⟨rfl, rfl⟩⟩ (by omega) (by omega) (by omega)) ?_
      refine WL.xe rfl (XE.clearCut (i := ((i).toNat)) (ByteArray.empty, 0) (by decide) hL1 Tryz.underlying32 ti49 rfl (ql.symm) (by omega) rfl) ?_
      rintro _ w7 ⟨rfl, hS9, hk6⟩
      refine WL.nil (thenQ.n ?_)
      refine WC.seq ?_
      refine WC.region ?_
      iterate 2 refine WL.lv rfl (LV.mv rfl) ?_
      have hcap2 : s.length ≤ c := (Rd.cap (St.now (SH.rd hS9 (.head _))))
      have hS10 : SH w S w7 [rowE eSI 49 (.slice A ((i).toNat) c) ((ys.take ((i).toNat) ++ List.replicate (s.length - ((i).toNat)) (ByteArray.empty, 0)).take (i).toNat), blkE lb 32 #[(.slice A_l l.length c_l)], rowE eSI 49 (.slice A_l l.length c_l) l] := SH.short hS9 (by simp only [List.length_append, List.length_take, List.length_replicate]; omega)
      refine WL.lv rfl (LV.to (v := (.slice (if c = 0 then A else A.map (·.add (0 * 2))) ((i).toNat - 0) (c - 0))) (v' := (.slice A ((i).toNat) c)) cut_id (LV.cut Tryz.underlying32 ti49.sz rfl rfl rfl rfl ⟨.inl ⟨rfl, rfl⟩, .inr ⟨.i64, by rw [Int.toNat_of_nonneg (a := i) (by omega)] <;> rfl⟩, .inl ⟨rfl, rfl⟩⟩ (by omega) (by omega) (by omega))) ?_
      refine WL.lv rfl (LV.asg rfl) ?_
      refine WL.nil (thenQ.n ?_)
      refine WC.ret (?_)
      exact ⟨_, fun a ha => res1 rfl ha rfl, by have h_ : ((ys.take ((i).toNat) ++ List.replicate (s.length - ((i).toNat)) (ByteArray.empty, 0)).take (i).toNat) = (s.filter fun h_ => decide (h_ ∈ l)) := flt_end (d := (ByteArray.empty, 0)) (n := s.length - i.toNat) (by omega) (show ys.take i.toNat = s.filter (fun e_ : En => decide (e_ ∈ l)) by rw [q1, List.take_of_length_le (by omega)]); have hl_ := congrArg List.length h_; rw [List.length_take, List.length_append, List.length_take, List.length_replicate] at hl_; have hl2_ : i.toNat = ((s.filter fun h_ => decide (h_ ∈ l))).length := (by rw [← hl_]; omega); have hz_ := hS10; rw [h_, hl2_] at hz_; exact ⟨congrArg (fun n_ => Value.slice A n_ c) hl2_, hz_⟩⟩

end Go.Proofs.YtigbphaimbhgjaaGreat

namespace Go.Gv
open Go Go.RowKit Go.Sort Go.Shelf Go.Lib Go.Maps Go.Proofs Go.Idx
theorem kb_below {w W : World} (h : Below w.heap.size w W) : KB No w W := ⟨h.os, h.tape, h.output, fun d => (show False from d).elim, h.size, fun k hk _ => h.block k hk⟩
abbrev rdK : Value → Option (DataW Unit × List MemPlace) := fun _ => some (.lit (.bool true), [])
section
variable {P : Program} {w0 w : World} {S : Nat → Prop} {L : List Ent}
/-- A map of one's own, as the library's words have it. -/
theorem mapG_owns {kT : TypeId} (hk : P.underlying kT = some .string) {b : Nat} {kv : List (ByteArray × SV)} (h : MapG kS kV b kv w) (hsz : ∀ q ∈ kv.map (·.1), q.size ≤ 1000000) (hl : kv.length ≤ 1000000) :
    ∃ D : DataW Unit, w.ownsMap P kT rdK b kv.length D ∧ (strKeys D).Perm (kv.map fun p => byL p.1) ∧ Maps.size D ≤ kv.length := by
  obtain ⟨es, clock, hb, he, hst⟩ := h
  have hml : (1000000 : Nat) ≤ maxLen := by unfold maxLen; omega
  have hlen : es.size = kv.length := by
    have := congrArg List.length he
    simpa using this
  have key : ∀ (l : List MapEntry) (kv : List (ByteArray × SV)), EntsOf kS kV l kv → (∀ q ∈ kv.map (·.1), q.size ≤ 1000000) → (∀ x ∈ l, ∃ y, WideElems.rd (H := Unit) P kT rdK x = some y) ∧ l.map (WideElems.rg (H := Unit) P kT rdK) = kv.map fun p => (Lit.string p.1.data.toList, DataW.lit (.bool true)) := by
    intro l
    induction l with
    | nil =>
      intro kv he _
      cases kv with
      | nil => exact ⟨fun x hx => (by cases hx), rfl⟩
      | cons p kv => unfold EntsOf at he; simp at he
    | cons x l ih =>
      intro kv he hs
      cases kv with
      | nil => unfold EntsOf at he; simp at he
      | cons p kv =>
        obtain ⟨e, es', h1, h2, h3, h4⟩ := EntsOf.cons_inv he
        injection h1 with h1 h1'
        subst h1; subst h1'
        obtain ⟨i1, i2⟩ := ih kv h4 fun q hq => hs q (List.mem_cons_of_mem _ hq)
        have hp := hs p.1 (by simp)
        have hrd : WideElems.rd (H := Unit) P kT rdK x = some (Lit.string p.1.data.toList, DataW.lit (.bool true)) := by
          obtain ⟨xk, xv, xb⟩ := x
          simp only at h2 h3
          subst h2
          have hv : rdK xv = some (DataW.lit (.bool true), []) := rfl
          exact WideElems.rd_mk (R := rdK) (WideMaps.keyOf_string_mk (s := p.1) hk (by omega)) hv
        refine ⟨fun y hy => ?_, ?_⟩
        · rcases List.mem_cons.1 hy with e | e
          · subst e; exact ⟨_, hrd⟩
          · exact i1 y e
        · rw [List.map_cons, List.map_cons, i2, WideElems.rg_of hrd]
  obtain ⟨k1, k2⟩ := key es.toList kv he hsz
  refine ⟨_, ⟨es, clock, hb, ⟨by omega, hst, k1⟩, by omega, rfl⟩, ?_, ?_⟩
  · show (List.map (fun p => strOf p.1) (List.foldr DataW.insert [] _)).Perm _
    refine ((WideShapes.sorted_perm _).map _).trans ?_
    rw [k2, List.map_map]
    exact List.Perm.of_eq (List.map_congr_left fun p _ => rfl)
  · show (List.foldr DataW.insert [] _).length ≤ _
    rw [length_sorted]; simp [hlen]
def SortedKeys (P : Program) (nS nIt : Nat) (tM tS : TypeId) : Prop := ∀ (Bm b nn : Nat) (D0 : DataW Unit) (w : World), w.heap[Bm]? = some (.cells #[.map (some b)] tM (0, 0)) → w.ownsMap P tS rdK b nn D0 → Maps.size D0 ≤ 1000000 →
  Calls P nS #[.func (.func nIt) #[] #[.pointer (some ⟨Bm, 0, none⟩)]] w fun e w' => ∃ (v : Value) (ss : List (List UInt8)), e = .returned v ∧ ss.Perm (strKeys D0) ∧ w'.ownsRow w.heap.size tS 1 v ss.length ((ss.mergeSort fun x y => decide (x ≤ y)).map encStr) ∧ Below w.heap.size w w'
theorem sortedK_calls {nS nIt : Nat} {tM tS : TypeId} (hK : SortedKeys P nS nIt tM tS) (hk : P.underlying tS = some .string) {Bm b : Nat} {kv : List (ByteArray × SV)} (hm : MapG kS kV b kv w) (hB : w.heap[Bm]? = some (.cells #[.map (some b)] tM (0, 0))) (hsz : ∀ q ∈ kv.map (·.1), q.size ≤ 1000000) (hl : kv.length ≤ 1000000) :
    Calls P nS #[.func (.func nIt) #[] #[.pointer (some ⟨Bm, 0, none⟩)]] w fun e w' => ∃ v, e = .returned v ∧ (fun v w' => ∃ (A : Option Addr) (c : Nat) (ys : List ByteArray), v = .slice A ys.length c ∧ (SS ys ∧ ∀ a, a ∈ ys ↔ a ∈ kv.map (·.1)) ∧ SH w No w' [rowE eS tS (.slice A ys.length c) ys]) v w' := by
  obtain ⟨D, hown, hperm, hsD⟩ := mapG_owns hk hm hsz hl
  refine (hK Bm b _ D w hB hown (by omega)).mono fun e w' ⟨v, ss, he, hp, hrow, hbel⟩ => ?_
  have hnd := MapG.nodup hm
  have hpp : (ss.map ofL).Perm (kv.map (·.1)) := by
    have := (hp.trans hperm).map ofL
    rw [List.map_map] at this
    exact this.trans (List.Perm.of_eq (List.map_congr_left fun p _ => rfl))
  obtain ⟨p1, p2⟩ := mergeS (ss.map ofL)
  rw [byL_ofL] at p1 p2
  have p3 := p1.trans hpp
  generalize hys : (ss.mergeSort fun x y => decide (x ≤ y)).map ofL = ys at p1 p2 p3
  have hl2 : ys.length = ss.length := by rw [← hys, List.length_map, List.length_mergeSort]
  have hR : Row eS tS v ys w' := by
    refine ⟨eS.cells_length _, ?_⟩
    rw [hl2, ← hys, cells_eS]
    refine hrow.2.imp id fun ⟨g, cap, cur, a, _, rest⟩ => ⟨g, cap, cur, a, Nat.zero_le _, rest⟩
  obtain ⟨A, c, rfl⟩ := (Row.rd hR).len
  have hkey : ∀ k ∈ Value.keys (.slice A ys.length c), w.heap.size ≤ k := fun k hk => by
    rcases hrow.2 with ⟨e, _⟩ | ⟨g, cap, cur, e, hb, _⟩
    · rw [e] at hk; simp [Value.keys, Value.ownBlock] at hk
    · rw [e] at hk; simp [Value.keys, Value.ownBlock] at hk; omega
  refine ⟨_, he, A, c, ys, rfl, ⟨?_, fun a => p3.mem_iff⟩, ⟨kb_below hbel, ?_, ?_, ?_⟩⟩
  · have hn : ys.Nodup := p3.symm.nodup hnd
    refine (List.Pairwise.and p2 hn).imp fun {a b} h => ?_
    rcases ltB_tri a b with q | q | q
    · exact q
    · exact absurd q h.2
    · exact absurd q h.1
  · intro e he
    rw [List.mem_singleton] at he
    subst he
    exact Row.ok hR
  · simpa [keys, rowE] using keys_nodup (.slice A ys.length c)
  · intro k hk hlt
    have := hkey k (by simpa [keys, rowE] using hk)
    omega
/-- The keys' iterator: a box of the map. -/
theorem keysB_calls {nK nIt : Nat} {tM : TypeId} (hK : ∀ (mb : Option Nat) (w : World), Calls P nK #[.map mb] w fun e w' => e = .returned (.func (.func nIt) #[] #[.pointer (some ⟨w.heap.size, 0, none⟩)]) ∧ w' = w.alloc (.cells #[.map mb] tM)) (mb : Option Nat) (w : World) :
    Calls P nK #[.map mb] w fun e w' => ∃ v, e = .returned v ∧ (fun v w' => ∃ B, v = .func (.func nIt) #[] #[.pointer (some ⟨B, 0, none⟩)] ∧ SH w No w' [blkE B tM #[.map mb]]) v w' :=
  (hK mb w).mono fun e w' ⟨he, hw⟩ => ⟨_, he, w.heap.size, rfl, by
    subst hw
    exact (SH.nil No w).more (KB.alloc w _) (Blk.ok (by show (w.heap.push _)[w.heap.size]? = _; simp)) (by simp [blkE]) (fun k hk => by simp [blkE] at hk; omega)⟩
theorem cloneG_calls {nC : Nat} (hC : ∀ (b : Nat) (es : Array MapEntry) (clock : Nat) (w : World), w.heap[b]? = some (.map es clock) → Calls P nC #[.map (some b)] w fun e w' => e = .returned (.map (some w.heap.size)) ∧ w' = w.alloc (.map es clock)) {b : Nat} {kv : List (ByteArray × SV)} (h : MapG kS kV b kv w) :
    Calls P nC #[.map (some b)] w fun e w' => ∃ v, e = .returned v ∧ (fun v w' => ∃ b', v = .map (some b') ∧ SH w No w' [mapG kS kV b' kv]) v w' := by
  obtain ⟨es, clock, hb, he, hst⟩ := h
  refine (hC b es clock w hb).mono fun e w' ⟨h1, h2⟩ => ⟨_, h1, w.heap.size, rfl, ?_⟩
  subst h2
  exact (SH.nil No w).more (KB.alloc w _) (mapG_ok ⟨es, clock, (by show (w.heap.push _)[w.heap.size]? = _; simp), he, hst⟩) (by simp [mapG]) (fun k hk => by simp [mapG] at hk; omega)
end
end Go.Gv

namespace Go.Gw
/-- A number of a row, 0 behind its ends. -/
abbrev gI (l : List Int) (i : Int) : Int := l.getD i.toNat 0
theorem gI_set {l : List Int} {i j v : Int} (h0 : 0 ≤ i) (h1 : i < l.length) (hj : 0 ≤ j) : gI (l.set i.toNat v) j = if i = j then v else gI l j := by
  have hlt : i.toNat < l.length := by omega
  by_cases h : i = j
  · subst h; simp [gI, List.getD, hlt]
  · rw [if_neg h]
    have : i.toNat ≠ j.toNat := by omega
    simp [gI, List.getD, this]
/-! ### A row that is doubled till it is full -/
theorem rep_init {N : Nat} {x : Int} (h1 : 1 ≤ N) : ((List.replicate N (0 : Int)).take 0 ++ [x].take N ++ (List.replicate N (0 : Int)).drop (0 + min [x].length N)).take ((min [x].length N : Nat) : Int).toNat = List.replicate ((min [x].length N : Nat) : Int).toNat x := by
  obtain ⟨k, rfl⟩ : ∃ k, N = k + 1 := ⟨N - 1, by omega⟩
  simp
theorem rep_step {N : Nat} {n x : Int} {r : List Int} (q0 : 1 ≤ n) (_q1 : n ≤ (N : Int)) (h : n < (N : Int)) (q2 : r.length = N) (q3 : r.take n.toNat = List.replicate n.toNat x) :
    (r.take n.toNat ++ ((r.take n.toNat).drop 0).take (N - n.toNat) ++ r.drop (n.toNat + min ((r.take n.toNat).drop 0).length (N - n.toNat))).take (n + ((min ((r.take n.toNat).drop 0).length (N - n.toNat) : Nat) : Int)).toNat =
      List.replicate (n + ((min ((r.take n.toNat).drop 0).length (N - n.toNat) : Nat) : Int)).toNat x := by
  rw [q3]
  simp only [List.drop_zero, List.length_replicate, List.take_replicate]
  rw [show (n + ((min n.toNat (N - n.toNat) : Nat) : Int)).toNat = n.toNat + min n.toNat (N - n.toNat) by omega, List.take_append_of_le_length (by simp; omega), List.take_of_length_le (by simp; omega), List.replicate_append_replicate, Nat.min_comm (N - n.toNat)]
theorem rep_fin {N : Nat} {n x : Int} {r : List Int} (_q0 : 1 ≤ n) (q1 : n ≤ (N : Int)) (h : ¬ n < (N : Int)) (q2 : r.length = N) (q3 : r.take n.toNat = List.replicate n.toNat x) : r = List.replicate N x := by
  have e : n.toNat = N := by omega
  rw [e, List.take_of_length_le (by omega)] at q3
  exact q3
theorem ext_gI {a b : List Int} (hl : a.length = b.length) (h : ∀ t : Int, 0 ≤ t → t < a.length → gI a t = gI b t) : a = b := by
  apply List.ext_getElem hl
  intro i h1 h2
  have := h i (by omega) (by omega)
  simpa [gI, List.getD, h1, h2] using this
theorem all_step {p : Int → Prop} {i : Int} (h : ∀ t, 0 ≤ t → t < i → p t) (hi : p i) : ∀ t, 0 ≤ t → t < i + 1 → p t := fun t h0 h1 => by
  rcases Decidable.em (t = i) with rfl | hne
  · exact hi
  · exact h t h0 (by omega)
theorem ext_gP {a b : List (Int × Int)} (hl : a.length = b.length) (h : ∀ t : Int, 0 ≤ t → t < a.length → (a.getD t.toNat (0, 0)).1 = (b.getD t.toNat (0, 0)).1 ∧ (a.getD t.toNat (0, 0)).2 = (b.getD t.toNat (0, 0)).2) : a = b := by
  apply List.ext_getElem hl
  intro i h1 h2
  have := h i (by omega) (by omega)
  simp [List.getD, h1, h2] at this
  exact Prod.ext this.1 this.2
end Go.Gw

namespace Go.Cw
open Go Go.Gw
def CMPI (x y : Int) : Int := if x < y then -1 else if x > y then 1 else 0
theorem cmpi_is (x y : Int) : (x < y ∧ CMPI x y = -1) ∨ (x = y ∧ CMPI x y = 0) ∨ (x > y ∧ CMPI x y = 1) := by
  unfold CMPI
  rcases Int.lt_trichotomy x y with h | h | h
  · rw [if_pos h]; omega
  · rw [if_neg (by omega), if_neg (by omega)]; omega
  · rw [if_neg (by omega), if_pos (by omega)]; omega
/-- The first that is not 0. -/
def ORL : List Int → Int
  | [] => 0
  | x :: l => if x ≠ 0 then x else ORL l
theorem ORL_at {l : List Int} {i : Int} (h0 : 0 ≤ i) (h1 : i < l.length) : ORL (l.drop i.toNat) = if gI l i ≠ 0 then gI l i else ORL (l.drop (i + 1).toNat) := by
  have hlt : i.toNat < l.length := by omega
  rw [List.drop_eq_getElem_cons hlt, ORL, show (i + 1).toNat = i.toNat + 1 by omega]
  unfold gI
  rw [List.getD_eq_getElem?_getD, List.getElem?_eq_getElem hlt]; rfl
theorem ORL_end {l : List Int} {i : Int} (h : ¬ i < l.length) : ORL (l.drop i.toNat) = 0 := by rw [List.drop_eq_nil_of_le (by omega), ORL]
theorem orl2 (x y : Int) : (x ≠ 0 ∧ ORL [x, y] = x) ∨ (x = 0 ∧ ORL [x, y] = y) := by
  by_cases h : x = 0
  · right; refine ⟨h, ?_⟩
    rw [ORL, if_neg (by simp [h]), ORL]
    by_cases h2 : y = 0
    · rw [if_neg (by simp [h2]), ORL, h2]
    · rw [if_pos h2]
  · left; exact ⟨h, by rw [ORL, if_pos h]⟩
end Go.Cw

