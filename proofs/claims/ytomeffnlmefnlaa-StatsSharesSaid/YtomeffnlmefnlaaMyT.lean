/- The document's answers. -/
import Derived.Test.YtomeffnlmefnlaaProg
import Derived.Test.YtomeffnlmefnlaaGvH
import Derived.Test.YtomeffnlmefnlaaMyB
import Derived.Test.YtomeffnlmefnlaaMyT0
import Derived.Test.YtomeffnlmefnlaaGvI
namespace Go.Proofs.Ytomeffnlmefnlaa
open Go Go.Gv Go.RowKit Go.Mys
set_option linter.unusedVariables false
set_option linter.unusedSimpArgs false
theorem ti3 : TI Try.prog 3 (.int .i64 0) 1 8 := by unfold TI; kernel_rfl
theorem ti45 : TI Try.prog 45 (.slice none 0 0) 1 24 := by unfold TI; kernel_rfl
theorem ti47 : TI Try.prog 47 (.slice none 0 0) 1 24 := by unfold TI; kernel_rfl
theorem ti49 : TI Try.prog 49 (.slice none 0 0) 1 24 := by unfold TI; kernel_rfl
theorem ti50 : TI Try.prog 50 (.int .i64 0) 1 8 := by unfold TI; kernel_rfl
theorem ti103 : TI Try.prog 103 (.agg #[(.slice none 0 0), (.slice none 0 0), (.slice none 0 0)]) 3 72 := by unfold TI; kernel_rfl

theorem slot_calls {w : World} {g : Nat} {A0 A1 A2 : Option Addr} {a b : List Int} {c0 c1 n2 c2 : Nat} (hg : w.heap[g]? = some (.cells #[.slice A0 a.length c0, .slice A1 b.length c1, .slice A2 n2 c2] 103 (0, 0))) (hla : a.length ≤ 400) (hlb : b.length ≤ 400) (k : Int) (h1 : -1000 ≤ k) (h2 : k ≤ 1000) :
    Calls Try.prog 61 #[(.pointer (some ⟨g, 0, none⟩)), (.int .i64 k)] w fun e w' => ∃ v, e = .returned v ∧ (fun v w' => v = .int .i64 (k + (b.length : Int) + 1) ∧ KB No w w') v w' := by
  have hgs := Blk.st hg
  have hS : SH w No w [] := SH.nil _ _
  refine calls (l := litOf [(.pointer (some ⟨g, 0, none⟩)), (.int .i64 k)] 0) Try.func61 rfl (n := 13) rfl (Nat.le_of_ble_eq_true rfl) (lit_args _) ?_
  refine WC.seq ?_
  refine WC.region ?_
  refine WL.lv rfl (LV.asg rfl) ?_
  refine WL.nil (thenQ.n ?_)
  refine WC.seq ?_
  refine WC.region ?_
  iterate 2 refine WL.lv rfl (LV.mv rfl) ?_
  refine WL.lv rfl (LV.nilCheck rfl) ?_
  refine WL.lv rfl (LV.fieldA Try.underlying103 rfl ti49.sz rfl) ?_
  refine WL.lv rfl (LV.load1 Try.underlying49 rfl rfl (Blk.cellN (SH.arg hS hgs) 1 rfl _ (KB.refl No _))) ?_
  refine WL.lv rfl (LV.lenL Try.underlying49 rfl) ?_
  iterate 2 refine WL.lv rfl (LV.add rfl rfl (wr64 (by omega) (by omega))) ?_
  refine WL.lv rfl (LV.asg rfl) ?_
  refine WL.nil (thenQ.n ?_)
  refine WC.ret (?_)
  exact ⟨_, fun a ha => res1 rfl ha rfl, rfl, hS.kb⟩

theorem steps_calls {w : World} {g : Nat} {A0 A1 A2 : Option Addr} {a b : List Int} {c0 c1 n2 c2 : Nat} (hg : w.heap[g]? = some (.cells #[.slice A0 a.length c0, .slice A1 b.length c1, .slice A2 n2 c2] 103 (0, 0))) (hla : a.length ≤ 400) (hlb : b.length ≤ 400) (h1 : n2 ≤ 2000) :
    Calls Try.prog 63 #[(.pointer (some ⟨g, 0, none⟩))] w fun e w' => ∃ v, e = .returned v ∧ (fun v w' => v = .int .i64 ((n2 : Int) - 1) ∧ KB No w w') v w' := by
  have hgs := Blk.st hg
  have hS : SH w No w [] := SH.nil _ _
  refine calls (l := litOf [(.pointer (some ⟨g, 0, none⟩))] 0) Try.func63 rfl (n := 9) rfl (Nat.le_of_ble_eq_true rfl) (lit_args _) ?_
  refine WC.seq ?_
  refine WC.region ?_
  refine WL.lv rfl (LV.asg rfl) ?_
  refine WL.nil (thenQ.n ?_)
  refine WC.seq ?_
  refine WC.region ?_
  refine WL.lv rfl (LV.mv rfl) ?_
  refine WL.lv rfl (LV.nilCheck rfl) ?_
  refine WL.lv rfl (LV.fieldA Try.underlying103 rfl ti45.sz rfl) ?_
  refine WL.lv rfl (LV.load1 Try.underlying45 rfl rfl (Blk.cellN (SH.arg hS hgs) 2 rfl _ (KB.refl No _))) ?_
  refine WL.lv rfl (LV.lenL Try.underlying45 rfl) ?_
  refine WL.lv rfl (LV.sub rfl rfl (wr64 (by omega) (by omega))) ?_
  refine WL.lv rfl (LV.asg rfl) ?_
  refine WL.nil (thenQ.n ?_)
  refine WC.ret (?_)
  exact ⟨_, fun a ha => res1 rfl ha rfl, rfl, hS.kb⟩

theorem slide_calls {w : World} {g : Nat} {A0 A1 A2 : Option Addr} {a b : List Int} {c0 c1 n2 c2 : Nat} (hg : w.heap[g]? = some (.cells #[.slice A0 a.length c0, .slice A1 b.length c1, .slice A2 n2 c2] 103 (0, 0))) (hla : a.length ≤ 400) (hlb : b.length ≤ 400) (ha : St No w (Rd eI (.slice A0 a.length c0) a)) (hb : St No w (Rd eI (.slice A1 b.length c1) b)) (x k : Int) (h0 : 0 ≤ x) (h1 : x ≤ a.length) (h2 : k ≤ x) (h3 : x - k ≤ b.length) (h4 : -1000 ≤ k) :
    Calls Try.prog 60 #[(.pointer (some ⟨g, 0, none⟩)), (.int .i64 x), (.int .i64 k)] w fun e w' => ∃ v, e = .returned v ∧ (fun v w' => ∃ r, v = .int .i64 r ∧ KB No w w' ∧ Slid a b x k r) v w' := by
  have hgs := Blk.st hg
  have hS : SH w No w [] := SH.nil _ _
  refine calls (l := litOf [(.pointer (some ⟨g, 0, none⟩)), (.int .i64 x), (.int .i64 k)] 0) Try.func60 rfl (n := 39) rfl (Nat.le_of_ble_eq_true rfl) (lit_args _) ?_
  refine WC.seq ?_
  refine WC.region ?_
  refine WL.lv rfl (LV.asg rfl) ?_
  refine WL.nil (thenQ.n ?_)
  refine WC.seq ?_
  refine WC.block ?_
  refine WC.loop (fun m_ f_ w_ => ∃ (y : Int), (0 ≤ y) ∧ (y ≤ x) ∧ (k ≤ y) ∧ (∀ t, y ≤ t → t < x → gI a t = gI b (t - k)) ∧ SH w No w_ [] ∧ m_ = y.toNat ∧ Weak (lit [(0, (.pointer (some ⟨g, 0, none⟩))), (1, (.int .i64 y)), (2, (.int .i64 k)), (6, (.int .i64 0))]) f_) _ ⟨x, by omega, by omega, by omega, (fun t h1 h2 => by omega), hS, rfl, Weak.cons rfl <| Weak.cons rfl <| Weak.cons rfl <| Weak.cons rfl <| Weak.nil _⟩ ?_
  rintro m1 f1 w1 ⟨y, q0, q1, q2, q3, hL1, rfl, hw1⟩
  refine WC.weak hw1 ?_
  clear hw1
  iterate 2 refine WC.seq ?_
  have hS1 := SH.drew hL1
  refine WC.regionD [] (fun w_ => KB No w1.drew w_) [(.pure, 0), (.pure, 1), (.pure, 2), (.pure, 3), (.pure, 4), (.pure, 5), (.pure, 6), (.pure, 7), (.pure, 8), (.pure, 9), (.pure, 10), (.pure, 11), (.look, 12), (.pure, 13), (.pure, 14), (.pure, 15), (.look, 16), (.pure, 17), (.pure, 18), (.pure, 19), (.look, 20), (.pure, 21), (.pure, 22), (.pure, 23), (.pure, 24), (.pure, 25), (.look, 26), (.pure, 27), (.pure, 28)] (by kernel_rfl) (by kernel_rfl) (KB.refl _ _) ?_
  refine WS.pure rfl rfl (fun _ => LV.mv rfl) ?_
  rcases Decidable.em (y > 0) with hg1 | hg1
  · refine WS.pure rfl rfl (fun _ => LV.as (LV.gtI rfl rfl) (decide_eq_true hg1)) ?_
    iterate 3 refine WS.pure rfl rfl (fun _ => LV.mv rfl) ?_
    refine WS.pure rfl rfl (fun _ => LV.sub rfl rfl (wr64 (by omega) (by omega))) ?_
    rcases Decidable.em ((y - k) > 0) with hg2 | hg2
    · refine WS.pure rfl rfl (fun _ => LV.as (LV.gtI rfl rfl) (decide_eq_true hg2)) ?_
      refine WS.pure rfl rfl (fun _ => LV.pickT rfl rfl) ?_
      iterate 2 refine WS.pure rfl rfl (fun _ => LV.mv rfl) ?_
      refine WS.pure rfl rfl (fun _ => LV.nilCheck rfl) ?_
      refine WS.pure rfl rfl (fun _ => LV.fieldA Try.underlying103 rfl ti49.sz rfl) ?_
      refine WS.look rfl rfl (fun _ hk_ => LV.load1 Try.underlying49 rfl rfl (Blk.cellN (SH.arg hS1 hgs) 0 rfl _ hk_)) ?_
      refine WS.pure rfl rfl (fun _ => LV.mv rfl) ?_
      refine WS.pure rfl rfl (fun _ => LV.sub rfl rfl (wr64 (by omega) (by omega))) ?_
      obtain ⟨A3, c3, e1, g1⟩ := St.elt (SH.stN hS1 ha) 0 (y - 1) (by omega) (by omega)
      refine WS.pure rfl rfl (fun _ => LV.idxA Try.underlying49 ti3.sz rfl e1 rfl (by omega) (by omega)) ?_
      refine WS.look rfl rfl (fun _ hk_ => LV.load1 (v := (.int .i64 (gI a (y - 1)))) Try.underlying3 rfl rfl (g1 _ hk_ 0 _ rfl)) ?_
      refine WS.pure rfl rfl (fun _ => LV.mv rfl) ?_
      refine WS.pure rfl rfl (fun _ => LV.nilCheck rfl) ?_
      refine WS.pure rfl rfl (fun _ => LV.fieldA Try.underlying103 rfl ti49.sz rfl) ?_
      refine WS.look rfl rfl (fun _ hk_ => LV.load1 Try.underlying49 rfl rfl (Blk.cellN (SH.arg hS1 hgs) 1 rfl _ hk_)) ?_
      iterate 2 refine WS.pure rfl rfl (fun _ => LV.mv rfl) ?_
      iterate 2 refine WS.pure rfl rfl (fun _ => LV.sub rfl rfl (wr64 (by omega) (by omega))) ?_
      obtain ⟨A4, c4, e2, g2⟩ := St.elt (SH.stN hS1 hb) 0 ((y - k) - 1) (by omega) (by omega)
      refine WS.pure rfl rfl (fun _ => LV.idxA Try.underlying49 ti3.sz rfl e2 rfl (by omega) (by omega)) ?_
      refine WS.look rfl rfl (fun _ hk_ => LV.load1 (v := (.int .i64 (gI b ((y - k) - 1)))) Try.underlying3 rfl rfl (g2 _ hk_ 0 _ rfl)) ?_
      refine WS.pure rfl rfl (fun _ => LV.eqI rfl rfl) ?_
      refine WS.pure rfl rfl (fun _ => LV.pickT rfl rfl) ?_
      refine WS.nil (thenQ.n ?_)
      refine WC.condP (p := (gI a (y - 1)) = (gI b ((y - k) - 1))) rfl (fun hc1 => ?_) (fun hc1 => ?_)
      · skip
        refine WC.skip (thenQ.n ?_)
        refine WC.block ?_
        refine WC.region ?_
        refine WL.lv rfl (LV.mv rfl) ?_
        refine WL.lv rfl (LV.sub rfl rfl (wr64 (by omega) (by omega))) ?_
        refine WL.lv rfl (LV.asg rfl) ?_
        refine WL.nil (blockQ.n <| thenQ.n ?_)
        exact ⟨_, by omega, y - 1, by omega, by omega, by omega, (Slid.step q3 hc1), hS1, rfl, Weak.cons rfl <| Weak.cons rfl <| Weak.cons rfl <| Weak.cons rfl <| Weak.nil _⟩
      · skip
        refine WC.exit (thenQ.x <| thenQ.x <| blockQ.hit <| thenQ.n ?_)
        refine WC.seq ?_
        refine WC.region ?_
        refine WL.lv rfl (LV.mv rfl) ?_
        refine WL.lv rfl (LV.asg rfl) ?_
        refine WL.nil (thenQ.n ?_)
        refine WC.ret (?_)
        exact ⟨_, fun a ha => res1 rfl ha rfl, _, rfl, hS1.kb, ⟨q0, q1, q2, q3, .inr (.inr hc1)⟩⟩
    · refine WS.pure rfl rfl (fun _ => LV.as (LV.gtI rfl rfl) (decide_eq_false hg2)) ?_
      refine WS.pure rfl rfl (fun _ => LV.pickT rfl rfl) ?_
      refine WS.pure rfl rfl (fun _ => LV.mv rfl) ?_
      iterate 3 refine WS.off rfl rfl ?_
      refine WS.offL rfl rfl ?_
      iterate 3 refine WS.off rfl rfl ?_
      refine WS.offL rfl rfl ?_
      iterate 3 refine WS.off rfl rfl ?_
      refine WS.offL rfl rfl ?_
      iterate 5 refine WS.off rfl rfl ?_
      refine WS.offL rfl rfl ?_
      refine WS.off rfl rfl ?_
      refine WS.pure rfl rfl (fun _ => LV.pickF rfl rfl) ?_
      refine WS.nil (thenQ.n ?_)
      refine WC.condF rfl ?_
      refine WC.exit (thenQ.x <| thenQ.x <| blockQ.hit <| thenQ.n ?_)
      refine WC.seq ?_
      refine WC.region ?_
      refine WL.lv rfl (LV.mv rfl) ?_
      refine WL.lv rfl (LV.asg rfl) ?_
      refine WL.nil (thenQ.n ?_)
      refine WC.ret (?_)
      exact ⟨_, fun a ha => res1 rfl ha rfl, _, rfl, hS1.kb, ⟨q0, q1, q2, q3, .inr (.inl (by omega))⟩⟩
  · refine WS.pure rfl rfl (fun _ => LV.as (LV.gtI rfl rfl) (decide_eq_false hg1)) ?_
    refine WS.pure rfl rfl (fun _ => LV.mv rfl) ?_
    iterate 4 refine WS.off rfl rfl ?_
    refine WS.pure rfl rfl (fun _ => LV.pickF rfl rfl) ?_
    refine WS.pure rfl rfl (fun _ => LV.mv rfl) ?_
    iterate 3 refine WS.off rfl rfl ?_
    refine WS.offL rfl rfl ?_
    iterate 3 refine WS.off rfl rfl ?_
    refine WS.offL rfl rfl ?_
    iterate 3 refine WS.off rfl rfl ?_
    refine WS.offL rfl rfl ?_
    iterate 5 refine WS.off rfl rfl ?_
    refine WS.offL rfl rfl ?_
    refine WS.off rfl rfl ?_
    refine WS.pure rfl rfl (fun _ => LV.pickF rfl rfl) ?_
    refine WS.nil (thenQ.n ?_)
    refine WC.condF rfl ?_
    refine WC.exit (thenQ.x <| thenQ.x <| blockQ.hit <| thenQ.n ?_)
    refine WC.seq ?_
    refine WC.region ?_
    refine WL.lv rfl (LV.mv rfl) ?_
    refine WL.lv rfl (LV.asg rfl) ?_
    refine WL.nil (thenQ.n ?_)
    refine WC.ret (?_)
    exact ⟨_, fun a ha => res1 rfl ha rfl, _, rfl, hS1.kb, ⟨q0, q1, q2, q3, .inl (by omega)⟩⟩

theorem step_calls {w : World} {g : Nat} {A0 A1 A2 : Option Addr} {a b : List Int} {c0 c1 c2 : Nat} {rows : List (SV × List Int)} {S : Nat → Prop} (hS0 : SH w S w [blkE g 103 #[(.slice A0 a.length c0), (.slice A1 b.length c1), (.slice A2 rows.length c2)], rrE eI 49 3 (.slice A2 rows.length c2) rows]) (ha : St S w (Rd eI (.slice A0 a.length c0) a)) (hb : St S w (Rd eI (.slice A1 b.length c1) b)) (hla : a.length ≤ 400) (hlb : b.length ≤ 400) (h1 : 1 ≤ rows.length) (h2 : rows.length ≤ 900) (hL : RowOK a b (rows.length - 1) (rows.getD ((rows.length : Int) - 1).toNat default).2) :
    Calls Try.prog 62 #[(.pointer (some ⟨g, 0, none⟩))] w fun e w' => ∃ v, e = .returned v ∧ (fun v w' => ∃ A2' c2' sv rw, v = .bool (decide (gI rw (0 + (b.length : Int) + 1) = 0)) ∧ RowOK a b rows.length rw ∧ SH w S w' [blkE g 103 #[(.slice A0 a.length c0), (.slice A1 b.length c1), (.slice A2' ((rows ++ [(sv, rw)]).length) c2')], rrE eI 49 3 (.slice A2' ((rows ++ [(sv, rw)]).length) c2') (rows ++ [(sv, rw)])]) v w' := by
  have hll := hL.len
  have hS : SH w S w [blkE g 103 #[(.slice A0 a.length c0), (.slice A1 b.length c1), (.slice A2 rows.length c2)], rrE eI 49 3 (.slice A2 rows.length c2) rows] := hS0
  refine calls (l := litOf [(.pointer (some ⟨g, 0, none⟩))] 0) Try.func62 rfl (n := 126) rfl (Nat.le_of_ble_eq_true rfl) (lit_args _) ?_
  refine WC.seq ?_
  refine WC.region ?_
  refine WL.lv rfl (LV.asg rfl) ?_
  refine WL.nil (thenQ.n ?_)
  refine WC.seq ?_
  have hS1 := SH.drew hS
  refine WC.regionD [] (fun w_ => KB No w.drew w_) [(.pure, 0), (.pure, 1), (.pure, 2), (.look, 3), (.pure, 4), (.pure, 5), (.pure, 6), (.pure, 7), (.look, 8), (.pure, 9), (.pure, 10), (.pure, 11)] (by kernel_rfl) (by kernel_rfl) (KB.refl _ _) ?_
  refine WS.pure rfl rfl (fun _ => LV.mv rfl) ?_
  refine WS.pure rfl rfl (fun _ => LV.nilCheck rfl) ?_
  refine WS.pure rfl rfl (fun _ => LV.fieldA Try.underlying103 rfl ti49.sz rfl) ?_
  refine WS.look rfl rfl (fun _ hk_ => LV.load1 Try.underlying49 rfl rfl (Blk.cellN (SH.at hS1 (.head _)) 0 rfl _ hk_)) ?_
  refine WS.pure rfl rfl (fun _ => LV.lenL Try.underlying49 rfl) ?_
  refine WS.pure rfl rfl (fun _ => LV.mv rfl) ?_
  refine WS.pure rfl rfl (fun _ => LV.nilCheck rfl) ?_
  refine WS.pure rfl rfl (fun _ => LV.fieldA Try.underlying103 rfl ti49.sz rfl) ?_
  refine WS.look rfl rfl (fun _ hk_ => LV.load1 Try.underlying49 rfl rfl (Blk.cellN (SH.at hS1 (.head _)) 1 rfl _ hk_)) ?_
  refine WS.pure rfl rfl (fun _ => LV.lenL Try.underlying49 rfl) ?_
  iterate 2 refine WS.pure rfl rfl (fun _ => LV.asg rfl) ?_
  refine WS.nil (thenQ.n ?_)
  refine WC.seq ?_
  have hS2 := SH.drew hS1
  refine WC.regionD [] (fun w_ => KB No w.drew.drew w_) [(.pure, 0), (.pure, 1), (.pure, 2), (.look, 3), (.pure, 4), (.pure, 5), (.pure, 6), (.look, 7), (.pure, 8), (.pure, 9), (.pure, 10), (.look, 11), (.pure, 12)] (by kernel_rfl) (by kernel_rfl) (KB.refl _ _) ?_
  refine WS.pure rfl rfl (fun _ => LV.mv rfl) ?_
  refine WS.pure rfl rfl (fun _ => LV.nilCheck rfl) ?_
  refine WS.pure rfl rfl (fun _ => LV.fieldA Try.underlying103 rfl ti45.sz rfl) ?_
  refine WS.look rfl rfl (fun _ hk_ => LV.load1 Try.underlying45 rfl rfl (Blk.cellN (SH.at hS2 (.head _)) 2 rfl _ hk_)) ?_
  refine WS.pure rfl rfl (fun _ => LV.mv rfl) ?_
  refine WS.pure rfl rfl (fun _ => LV.nilCheck rfl) ?_
  refine WS.pure rfl rfl (fun _ => LV.fieldA Try.underlying103 rfl ti45.sz rfl) ?_
  refine WS.look rfl rfl (fun _ hk_ => LV.load1 Try.underlying45 rfl rfl (Blk.cellN (SH.at hS2 (.head _)) 2 rfl _ hk_)) ?_
  refine WS.pure rfl rfl (fun _ => LV.lenL Try.underlying45 rfl) ?_
  refine WS.pure rfl rfl (fun _ => LV.sub rfl rfl (wr64 (by omega) (by omega))) ?_
  obtain ⟨A3, c3, A4, c4, e1, g1, e2, r1⟩ := St.eltRR (SH.rdRR hS2 (.tail _ (.head _))) default ((rows.length : Int) - 1) (by omega) (by omega)
  refine WS.pure rfl rfl (fun _ => LV.idxA Try.underlying45 ti49.sz rfl e1 rfl (by omega) (by omega)) ?_
  refine WS.look rfl rfl (fun _ hk_ => LV.load1 Try.underlying49 rfl rfl (g1 _ hk_)) ?_
  refine WS.pure rfl rfl (fun _ => LV.asg rfl) ?_
  refine WS.nil (thenQ.n ?_)
  refine WC.seq ?_
  refine WC.region ?_
  refine WL.lv rfl (LV.mv rfl) ?_
  refine WL.lv rfl (LV.lenL Try.underlying49 rfl) ?_
  refine WL.xe rfl (XE.make (E := eI) (n := (rows.getD ((rows.length : Int) - 1).toNat default).2.length) 0 hS2 Try.underlying49 ti3 rfl rfl rfl rfl rfl rfl (by omega) (by omega)) ?_
  rintro _ w1 ⟨b1, rfl, hS3, hk1⟩
  refine WL.lv rfl (LV.asg rfl) ?_
  refine WL.nil (thenQ.n ?_)
  refine WC.seq ?_
  refine WC.region ?_
  iterate 2 refine WL.lv rfl (LV.mv rfl) ?_
  refine WL.xe rfl (XE.copy hS3 Try.underlying49 ti3.sz rfl (St.now (St.inner (SH.rdRR hS3 (.tail _ (.tail _ (.head _)))) (getD_mem (by omega)) e2)) (by simp) rfl rfl) ?_
  rintro _ w2 ⟨rfl, hS4, hk2⟩
  refine WL.nil (thenQ.n ?_)
  iterate 2 refine WC.seq ?_
  refine WC.region ?_
  refine WL.lv rfl (LV.mv rfl) ?_
  refine WL.lv rfl (LV.neg rfl (wr64 (by omega) (by omega))) ?_
  refine WL.lv rfl (LV.asg rfl) ?_
  refine WL.nil (thenQ.n ?_)
  refine WC.block ?_
  refine WC.loop (fun m_ f_ w_ => ∃ (k : Int) (rw : List Int), (-(b.length : Int) ≤ k) ∧ (k ≤ (a.length : Int) + 1) ∧ (StepInv a b (rows.length - 1) (rows.getD ((rows.length : Int) - 1).toNat default).2 rw k) ∧ SH w S w_ [rowE eI 3 (.slice (some ⟨b1, 0, none⟩) ((rows.getD ((rows.length : Int) - 1).toNat default).2.length) ((rows.getD ((rows.length : Int) - 1).toNat default).2.length)) rw, blkE g 103 #[(.slice A0 a.length c0), (.slice A1 b.length c1), (.slice A2 rows.length c2)], rrE eI 49 3 (.slice A2 rows.length c2) rows] ∧ m_ = (((a.length : Int) + 1 - k).toNat) ∧ Weak (lit [(0, (.pointer (some ⟨g, 0, none⟩))), (2, (.bool false)), (3, (.int .i64 (a.length : Int))), (4, (.int .i64 (b.length : Int))), (5, (.slice A4 ((rows.getD ((rows.length : Int) - 1).toNat default).2.length) c4)), (6, (.slice (some ⟨b1, 0, none⟩) ((rows.getD ((rows.length : Int) - 1).toNat default).2.length) ((rows.getD ((rows.length : Int) - 1).toNat default).2.length))), (7, (.int .i64 k))]) f_) _ ⟨0 - (b.length : Int), (rows.getD ((rows.length : Int) - 1).toNat default).2, by omega, by omega, (StepInv.init' hL (by omega)), hS4, rfl, Weak.cons rfl <| Weak.cons rfl <| Weak.cons rfl <| Weak.cons rfl <| Weak.cons rfl <| Weak.cons rfl <| Weak.cons rfl <| Weak.nil _⟩ ?_
  rintro m1 f1 w3 ⟨k, rw, q0, q1, q2, hL1, rfl, hw1⟩
  refine WC.weak hw1 ?_
  clear hw1
  have hql := q2.len
  have hb1 := fun h1 h2 => RowOK.bd hL hla hlb (k := k + 1) h1 h2
  have hb2 := fun h1 h2 => RowOK.bd hL hla hlb (k := k - 1) h1 h2
  iterate 2 refine WC.seq ?_
  refine WC.region ?_
  iterate 2 refine WL.lv rfl (LV.mv rfl) ?_
  refine WL.lv rfl (LV.leI rfl rfl) ?_
  refine WL.nil (thenQ.n ?_)
  refine WC.condP (p := k ≤ (a.length : Int)) rfl (fun hc1 => ?_) (fun hc1 => ?_)
  · skip
    refine WC.skip (thenQ.n ?_)
    refine WC.seq ?_
    refine WC.block ?_
    refine WC.seq ?_
    refine WC.region ?_
    refine WL.lv rfl (LV.mv rfl) ?_
    refine WL.lv rfl (LV.maxI rfl rfl) ?_
    iterate 2 refine WL.lv rfl (LV.asg rfl) ?_
    refine WL.nil (thenQ.n ?_)
    refine WC.cut (fun f_ w_ => ∃ (x1 : Int), (x1 = cand1 a b (rows.getD ((rows.length : Int) - 1).toNat default).2 k) ∧ SH w S w_ [rowE eI 3 (.slice (some ⟨b1, 0, none⟩) ((rows.getD ((rows.length : Int) - 1).toNat default).2.length) ((rows.getD ((rows.length : Int) - 1).toNat default).2.length)) rw, blkE g 103 #[(.slice A0 a.length c0), (.slice A1 b.length c1), (.slice A2 rows.length c2)], rrE eI 49 3 (.slice A2 rows.length c2) rows] ∧ Weak (lit [(0, (.pointer (some ⟨g, 0, none⟩))), (2, (.bool false)), (3, (.int .i64 (a.length : Int))), (4, (.int .i64 (b.length : Int))), (5, (.slice A4 ((rows.getD ((rows.length : Int) - 1).toNat default).2.length) c4)), (6, (.slice (some ⟨b1, 0, none⟩) ((rows.getD ((rows.length : Int) - 1).toNat default).2.length) ((rows.getD ((rows.length : Int) - 1).toNat default).2.length))), (7, (.int .i64 k)), (8, (.int .i64 x1)), (9, (.int .i64 (max 0 k)))]) f_) ?_ ?_
    · refine WC.seq ?_
      refine WC.region ?_
      iterate 3 refine WL.lv rfl (LV.mv rfl) ?_
      refine WL.lv rfl (LV.add rfl rfl (wr64 (by omega) (by omega))) ?_
      refine WL.call rfl (XC.fn Try.func61 (by kernel_rfl) rfl rfl rfl) (slot_calls (SH.at hL1 (.tail _ (.head _))) hla hlb (k + 1) (by omega) (by omega)) ?_
      rintro v_ w4 ⟨rfl, hk3⟩
      have hS5 := SH.same hL1 hk3
      obtain ⟨A5, c5, e3, g2⟩ := St.elt (St.inner (SH.rdRR hS5 (.tail _ (.tail _ (.head _)))) (getD_mem (by omega)) e2) 0 ((k + 1) + (b.length : Int) + 1) (by omega) (by omega)
      refine WL.lv rfl (LV.idxA Try.underlying49 ti3.sz rfl e3 rfl (by omega) (by omega)) ?_
      refine WL.lv rfl (LV.load1 (v := (.int .i64 (gI ((rows.getD ((rows.length : Int) - 1).toNat default).2) ((k + 1) + (b.length : Int) + 1)))) Try.underlying3 rfl rfl (g2 _ (KB.refl No _) 0 _ rfl)) ?_
      refine WL.lv rfl (LV.sub rfl rfl (wr64 (by omega) (by omega))) ?_
      refine WL.lv rfl (LV.mv rfl) ?_
      refine WL.lv rfl (LV.maxI rfl rfl) ?_
      refine WL.lv rfl (LV.asg rfl) ?_
      refine WL.nil (thenQ.n ?_)
      refine WC.seq ?_
      refine WC.region ?_
      iterate 2 refine WL.lv rfl (LV.mv rfl) ?_
      rcases Decidable.em ((max ((gI ((rows.getD ((rows.length : Int) - 1).toNat default).2) ((k + 1) + (b.length : Int) + 1)) - 1) (max 0 k)) < (a.length : Int)) with hg1 | hg1
      · refine WL.lv rfl (LV.as (LV.ltI rfl rfl) (decide_eq_true hg1)) ?_
        iterate 3 refine WL.lv rfl (LV.mv rfl) ?_
        refine WL.lv rfl (LV.sub rfl rfl (wr64 (by omega) (by omega))) ?_
        refine WL.lv rfl (LV.mv rfl) ?_
        refine WL.lv rfl (LV.leI rfl rfl) ?_
        refine WL.lv rfl (LV.pickT rfl rfl) ?_
        refine WL.nil (thenQ.n ?_)
        refine WC.condP (p := ((max ((gI ((rows.getD ((rows.length : Int) - 1).toNat default).2) ((k + 1) + (b.length : Int) + 1)) - 1) (max 0 k)) - k) ≤ (b.length : Int)) rfl (fun hc2 => ?_) (fun hc2 => ?_)
        · skip
          refine WC.region ?_
          refine WL.lv rfl (LV.mv rfl) ?_
          refine WL.lv rfl (LV.asg rfl) ?_
          refine WL.nil (thenQ.n ?_)
          exact ⟨max ((gI ((rows.getD ((rows.length : Int) - 1).toNat default).2) ((k + 1) + (b.length : Int) + 1)) - 1) (max 0 k), (by unfold cand1; split <;> omega), hS5, Weak.cons rfl <| Weak.cons rfl <| Weak.cons rfl <| Weak.cons rfl <| Weak.cons rfl <| Weak.cons rfl <| Weak.cons rfl <| Weak.cons rfl <| Weak.cons rfl <| Weak.nil _⟩
        · skip
          refine WC.skip (thenQ.n ?_)
          exact ⟨1073741824, (by unfold cand1; split <;> omega), hS5, Weak.cons rfl <| Weak.cons rfl <| Weak.cons rfl <| Weak.cons rfl <| Weak.cons rfl <| Weak.cons rfl <| Weak.cons rfl <| Weak.cons rfl <| Weak.cons rfl <| Weak.nil _⟩
      · refine WL.lv rfl (LV.as (LV.ltI rfl rfl) (decide_eq_false hg1)) ?_
        refine WL.lv rfl (LV.mv rfl) ?_
        iterate 5 refine WL.off rfl ?_
        refine WL.lv rfl (LV.pickF rfl rfl) ?_
        refine WL.nil (thenQ.n ?_)
        refine WC.condF rfl ?_
        refine WC.skip (thenQ.n ?_)
        exact ⟨1073741824, (by unfold cand1; split <;> omega), hS5, Weak.cons rfl <| Weak.cons rfl <| Weak.cons rfl <| Weak.cons rfl <| Weak.cons rfl <| Weak.cons rfl <| Weak.cons rfl <| Weak.cons rfl <| Weak.cons rfl <| Weak.nil _⟩
    · rintro f2 w5 ⟨x1, p1, hS6, hw2⟩
      refine WC.weak hw2 ?_
      clear hw2
      refine WC.cut (fun f_ w_ => ∃ (x2 : Int), (x2 = cand2 a b (rows.getD ((rows.length : Int) - 1).toNat default).2 k) ∧ SH w S w_ [rowE eI 3 (.slice (some ⟨b1, 0, none⟩) ((rows.getD ((rows.length : Int) - 1).toNat default).2.length) ((rows.getD ((rows.length : Int) - 1).toNat default).2.length)) rw, blkE g 103 #[(.slice A0 a.length c0), (.slice A1 b.length c1), (.slice A2 rows.length c2)], rrE eI 49 3 (.slice A2 rows.length c2) rows] ∧ Weak (lit [(0, (.pointer (some ⟨g, 0, none⟩))), (2, (.bool false)), (3, (.int .i64 (a.length : Int))), (4, (.int .i64 (b.length : Int))), (5, (.slice A4 ((rows.getD ((rows.length : Int) - 1).toNat default).2.length) c4)), (6, (.slice (some ⟨b1, 0, none⟩) ((rows.getD ((rows.length : Int) - 1).toNat default).2.length) ((rows.getD ((rows.length : Int) - 1).toNat default).2.length))), (7, (.int .i64 k)), (8, (.int .i64 x2))]) f_) ?_ ?_
      · refine WC.seq ?_
        refine WC.region ?_
        iterate 3 refine WL.lv rfl (LV.mv rfl) ?_
        refine WL.lv rfl (LV.sub rfl rfl (wr64 (by omega) (by omega))) ?_
        refine WL.call rfl (XC.fn Try.func61 (by kernel_rfl) rfl rfl rfl) (slot_calls (SH.at hS6 (.tail _ (.head _))) hla hlb (k - 1) (by omega) (by omega)) ?_
        rintro v_ w6 ⟨rfl, hk4⟩
        have hS7 := SH.same hS6 hk4
        obtain ⟨A6, c6, e4, g3⟩ := St.elt (St.inner (SH.rdRR hS7 (.tail _ (.tail _ (.head _)))) (getD_mem (by omega)) e2) 0 ((k - 1) + (b.length : Int) + 1) (by omega) (by omega)
        refine WL.lv rfl (LV.idxA Try.underlying49 ti3.sz rfl e4 rfl (by omega) (by omega)) ?_
        refine WL.lv rfl (LV.load1 (v := (.int .i64 (gI ((rows.getD ((rows.length : Int) - 1).toNat default).2) ((k - 1) + (b.length : Int) + 1)))) Try.underlying3 rfl rfl (g3 _ (KB.refl No _) 0 _ rfl)) ?_
        refine WL.lv rfl (LV.mv rfl) ?_
        refine WL.lv rfl (LV.maxI rfl rfl) ?_
        refine WL.lv rfl (LV.asg rfl) ?_
        refine WL.nil (thenQ.n ?_)
        refine WC.seq ?_
        refine WC.region ?_
        iterate 2 refine WL.lv rfl (LV.mv rfl) ?_
        rcases Decidable.em ((max (gI ((rows.getD ((rows.length : Int) - 1).toNat default).2) ((k - 1) + (b.length : Int) + 1)) (max 0 k)) ≤ (a.length : Int)) with hg2 | hg2
        · refine WL.lv rfl (LV.as (LV.leI rfl rfl) (decide_eq_true hg2)) ?_
          iterate 3 refine WL.lv rfl (LV.mv rfl) ?_
          refine WL.lv rfl (LV.sub rfl rfl (wr64 (by omega) (by omega))) ?_
          refine WL.lv rfl (LV.mv rfl) ?_
          refine WL.lv rfl (LV.ltI rfl rfl) ?_
          refine WL.lv rfl (LV.pickT rfl rfl) ?_
          refine WL.nil (thenQ.n ?_)
          refine WC.condP (p := ((max (gI ((rows.getD ((rows.length : Int) - 1).toNat default).2) ((k - 1) + (b.length : Int) + 1)) (max 0 k)) - k) < (b.length : Int)) rfl (fun hc3 => ?_) (fun hc3 => ?_)
          · skip
            refine WC.region ?_
            iterate 2 refine WL.lv rfl (LV.mv rfl) ?_
            refine WL.lv rfl (LV.minI rfl rfl) ?_
            refine WL.lv rfl (LV.asg rfl) ?_
            refine WL.nil (thenQ.n ?_)
            exact ⟨min x1 (max (gI ((rows.getD ((rows.length : Int) - 1).toNat default).2) ((k - 1) + (b.length : Int) + 1)) (max 0 k)), (by unfold cand2; split <;> omega), hS7, Weak.cons rfl <| Weak.cons rfl <| Weak.cons rfl <| Weak.cons rfl <| Weak.cons rfl <| Weak.cons rfl <| Weak.cons rfl <| Weak.cons rfl <| Weak.nil _⟩
          · skip
            refine WC.skip (thenQ.n ?_)
            exact ⟨x1, (by unfold cand2; split <;> omega), hS7, Weak.cons rfl <| Weak.cons rfl <| Weak.cons rfl <| Weak.cons rfl <| Weak.cons rfl <| Weak.cons rfl <| Weak.cons rfl <| Weak.cons rfl <| Weak.nil _⟩
        · refine WL.lv rfl (LV.as (LV.leI rfl rfl) (decide_eq_false hg2)) ?_
          refine WL.lv rfl (LV.mv rfl) ?_
          iterate 5 refine WL.off rfl ?_
          refine WL.lv rfl (LV.pickF rfl rfl) ?_
          refine WL.nil (thenQ.n ?_)
          refine WC.condF rfl ?_
          refine WC.skip (thenQ.n ?_)
          exact ⟨x1, (by unfold cand2; split <;> omega), hS7, Weak.cons rfl <| Weak.cons rfl <| Weak.cons rfl <| Weak.cons rfl <| Weak.cons rfl <| Weak.cons rfl <| Weak.cons rfl <| Weak.cons rfl <| Weak.nil _⟩
      · rintro f3 w7 ⟨x2, p2, hS8, hw3⟩
        refine WC.weak hw3 ?_
        clear hw3
        refine WC.seq ?_
        refine WC.region ?_
        refine WL.lv rfl (LV.mv rfl) ?_
        refine WL.lv rfl (LV.ltI rfl rfl) ?_
        refine WL.nil (thenQ.n ?_)
        refine WC.condP (p := x2 < 1073741824) rfl (fun hlt => ?_) (fun hlt => ?_)
        · obtain ⟨v0, v1, v2, v3⟩ := cand2_valid hla hlb p2 hlt
          have hS9 := SH.drew hS8
          refine WC.regionD [16] (fun w_ => KB No w7.drew w_) [(.pure, 0), (.pure, 1), (.pure, 2), (.pure, 4), (.pure, 5), (.pure, 6), (.pure, 10), (.pure, 11), (.pure, 12), (.forced, 3), (.forced, 7), (.pure, 8), (.look, 9), (.forced, 13), (.pure, 14), (.pure, 15), (.forced, 16)] (by kernel_rfl) (by kernel_rfl) (KB.refl _ _) ?_
          iterate 9 refine WS.pure rfl rfl (fun _ => LV.mv rfl) ?_
          refine WS.call rfl rfl (XC.fn Try.func61 (by kernel_rfl) rfl rfl rfl) (slot_calls (SH.at hS9 (.tail _ (.head _))) hla hlb k (by omega) (by omega)) ?_
          rintro v_ w8 ⟨rfl, hk5⟩
          have hS10 := SH.same hS9 hk5
          refine ⟨fun h_ => (KB.transN (KB.refl _ _) hk5), ?_⟩
          refine WS.call rfl rfl (XC.fn Try.func61 (by kernel_rfl) rfl rfl rfl) (slot_calls (SH.at hS10 (.tail _ (.head _))) hla hlb k (by omega) (by omega)) ?_
          rintro v_ w9 ⟨rfl, hk6⟩
          have hS11 := SH.same hS10 hk6
          refine ⟨fun h_ => (KB.transN (KB.transN (KB.refl _ _) hk5) hk6), ?_⟩
          obtain ⟨A7, c7, e5, g4⟩ := St.elt (SH.rd hS9 (.head _)) 0 (k + (b.length : Int) + 1) (by omega) (by omega)
          refine WS.pure rfl rfl (fun _ => LV.idxA Try.underlying49 ti3.sz rfl e5 rfl (by omega) (by omega)) ?_
          refine WS.look rfl rfl (fun _ hk_ => LV.load1 (v := (.int .i64 (gI rw (k + (b.length : Int) + 1)))) Try.underlying3 rfl rfl (g4 _ hk_ 0 _ rfl)) ?_
          refine WS.call rfl rfl (XC.fn Try.func60 (by kernel_rfl) rfl rfl rfl) (slide_calls (SH.at hS11 (.tail _ (.head _))) hla hlb (SH.stN hS11 ha) (SH.stN hS11 hb) x2 k (by omega) (by omega) (by omega) (by omega) (by omega)) ?_
          rintro v_ w10 ⟨r2, rfl, hk7, hs1⟩
          have hS12 := SH.same hS11 hk7
          have hsl_ := hs1
          refine ⟨fun h_ => (KB.transN (KB.transN (KB.transN (KB.refl _ _) hk5) hk6) hk7), ?_⟩
          refine WS.pure rfl rfl (fun _ => LV.minI rfl rfl) ?_
          obtain ⟨A8, c8, e6, g5⟩ := St.elt (SH.rd hS9 (.head _)) 0 (k + (b.length : Int) + 1) (by omega) (by omega)
          refine WS.pure rfl rfl (fun _ => LV.idxA Try.underlying49 ti3.sz rfl e6 rfl (by omega) (by omega)) ?_
          refine WS.xse rfl rfl (XSE.row1 (i := k + (b.length : Int) + 1) (o := 0) (k := 0) (min (gI rw (k + (b.length : Int) + 1)) r2) hS12 e6 (by omega) (by omega) (by decide) ti3.sz rfl rfl rfl rfl) ?_
          rintro w11 ⟨hS13, hk8⟩
          refine ⟨fun h_ => (by cases h_), ?_⟩
          refine WS.nil (blockQ.n <| thenQ.n ?_)
          refine WC.region ?_
          refine WL.lv rfl (LV.mv rfl) ?_
          refine WL.lv rfl (LV.add rfl rfl (wr64 (by omega) (by omega))) ?_
          refine WL.lv rfl (LV.asg rfl) ?_
          refine WL.nil (thenQ.n ?_)
          exact ⟨_, by omega, k + 1, (rw.set (k + (b.length : Int) + 1).toNat (min (gI rw (k + (b.length : Int) + 1)) r2)), by omega, by omega, (StepInv.put' p2 q2 hL hla hlb q0 (by omega) hlt (by omega) (by omega) hsl_), hS13, rfl, Weak.cons rfl <| Weak.cons rfl <| Weak.cons rfl <| Weak.cons rfl <| Weak.cons rfl <| Weak.cons rfl <| Weak.cons rfl <| Weak.nil _⟩
        · skip
          refine WC.skip (blockQ.n <| thenQ.n ?_)
          refine WC.region ?_
          refine WL.lv rfl (LV.mv rfl) ?_
          refine WL.lv rfl (LV.add rfl rfl (wr64 (by omega) (by omega))) ?_
          refine WL.lv rfl (LV.asg rfl) ?_
          refine WL.nil (thenQ.n ?_)
          exact ⟨_, by omega, k + 1, rw, by omega, by omega, (StepInv.skip' p2 q2 hL hla hlb q0 (by omega) hlt), hS8, rfl, Weak.cons rfl <| Weak.cons rfl <| Weak.cons rfl <| Weak.cons rfl <| Weak.cons rfl <| Weak.cons rfl <| Weak.cons rfl <| Weak.nil _⟩
  · skip
    refine WC.exit (thenQ.x <| thenQ.x <| blockQ.hit <| thenQ.n ?_)
    refine WC.seq ?_
    refine WC.region ?_
    iterate 2 refine WL.lv rfl (LV.mv rfl) ?_
    refine WL.lv rfl (LV.nilCheck rfl) ?_
    refine WL.lv rfl (LV.fieldA Try.underlying103 rfl ti45.sz rfl) ?_
    refine WL.lv rfl (LV.load1 Try.underlying45 rfl rfl (Blk.cellN (SH.at hL1 (.tail _ (.head _))) 2 rfl _ (KB.refl No _))) ?_
    refine WL.lv rfl (LV.mv rfl) ?_
    refine WL.xe rfl (XE.buildSlice (E := eV) [(0, (.slice (some ⟨b1, 0, none⟩) ((rows.getD ((rows.length : Int) - 1).toNat default).2.length) ((rows.getD ((rows.length : Int) - 1).toNat default).2.length)))] #[(.slice (some ⟨b1, 0, none⟩) ((rows.getD ((rows.length : Int) - 1).toNat default).2.length) ((rows.getD ((rows.length : Int) - 1).toNat default).2.length))] [(⟨(some ⟨b1, 0, none⟩), ((rows.getD ((rows.length : Int) - 1).toNat default).2.length), ((rows.getD ((rows.length : Int) - 1).toNat default).2.length)⟩ : SV)] hL1 Try.underlying45 ti49 rfl (by decide) (by kernel_rfl) (.inr rfl) rfl rfl (by decide)) ?_
    rintro _ w12 ⟨b2, rfl, hS14, hk9⟩
    have hS15 : SH w S w12 [rowE eI 3 (.slice (some ⟨b1, 0, none⟩) ((rows.getD ((rows.length : Int) - 1).toNat default).2.length) ((rows.getD ((rows.length : Int) - 1).toNat default).2.length)) rw, rowE eV 49 (.slice (some ⟨b2, 0, none⟩) 1 1) [(⟨(some ⟨b1, 0, none⟩), ((rows.getD ((rows.length : Int) - 1).toNat default).2.length), ((rows.getD ((rows.length : Int) - 1).toNat default).2.length)⟩ : SV)], blkE g 103 #[(.slice A0 a.length c0), (.slice A1 b.length c1), (.slice A2 rows.length c2)], rrE eI 49 3 (.slice A2 rows.length c2) rows] := (SH.front [_] hS14)
    have hS16 : SH w S w12 [rrE eI 49 3 (.slice A2 rows.length c2) rows, rowE eI 3 (.slice (some ⟨b1, 0, none⟩) ((rows.getD ((rows.length : Int) - 1).toNat default).2.length) ((rows.getD ((rows.length : Int) - 1).toNat default).2.length)) rw, rowE eV 49 (.slice (some ⟨b2, 0, none⟩) 1 1) [(⟨(some ⟨b1, 0, none⟩), ((rows.getD ((rows.length : Int) - 1).toNat default).2.length), ((rows.getD ((rows.length : Int) - 1).toNat default).2.length)⟩ : SV)], blkE g 103 #[(.slice A0 a.length c0), (.slice A1 b.length c1), (.slice A2 rows.length c2)]] := (SH.front [_, _, _] hS15)
    refine WL.xe rfl (XE.appendRR (sv := (⟨(some ⟨b1, 0, none⟩), ((rows.getD ((rows.length : Int) - 1).toNat default).2.length), ((rows.getD ((rows.length : Int) - 1).toNat default).2.length)⟩ : SV)) hS16 rfl Try.underlying45 ti49 (St.now (SH.rd hS16 (.tail _ (.tail _ (.head _))))) rfl rfl (by omega) (by omega)) ?_
    rintro _ w13 ⟨A9, c9, rfl, hS17, hk10⟩
    refine WL.lv rfl (LV.nilCheck rfl) ?_
    refine WL.lv rfl (LV.fieldA Try.underlying103 rfl ti45.sz rfl) ?_
    have hS19 : SH w S w13 [blkE g 103 #[(.slice A0 a.length c0), (.slice A1 b.length c1), (.slice A2 rows.length c2)], rrE eI 49 3 (.slice A9 ((rows ++ [((⟨(some ⟨b1, 0, none⟩), ((rows.getD ((rows.length : Int) - 1).toNat default).2.length), ((rows.getD ((rows.length : Int) - 1).toNat default).2.length)⟩ : SV), rw)]).length) c9) (rows ++ [((⟨(some ⟨b1, 0, none⟩), ((rows.getD ((rows.length : Int) - 1).toNat default).2.length), ((rows.getD ((rows.length : Int) - 1).toNat default).2.length)⟩ : SV), rw)]), rowE eV 49 (.slice (some ⟨b2, 0, none⟩) 1 1) [(⟨(some ⟨b1, 0, none⟩), ((rows.getD ((rows.length : Int) - 1).toNat default).2.length), ((rows.getD ((rows.length : Int) - 1).toNat default).2.length)⟩ : SV)]] := (SH.front [_, _] hS17)
    refine WL.xse rfl (XSE.blk #[(.slice A0 a.length c0), (.slice A1 b.length c1), (.slice A9 ((rows ++ [((⟨(some ⟨b1, 0, none⟩), ((rows.getD ((rows.length : Int) - 1).toNat default).2.length), ((rows.getD ((rows.length : Int) - 1).toNat default).2.length)⟩ : SV), rw)]).length) c9)] hS19 (Nat.le_of_ble_eq_true rfl) ti45.sz rfl rfl rfl rfl) ?_
    rintro w14 ⟨hS18, hk11⟩
    refine WL.nil (thenQ.n ?_)
    refine WC.seq ?_
    refine WC.region ?_
    iterate 2 refine WL.lv rfl (LV.mv rfl) ?_
    refine WL.call rfl (XC.fn Try.func61 (by kernel_rfl) rfl rfl rfl) (slot_calls (SH.at hS18 (.head _)) hla hlb 0 (by omega) (by omega)) ?_
    rintro v_ w15 ⟨rfl, hk12⟩
    have hS20 := SH.same hS18 hk12
    obtain ⟨A10, c10, e7, g6⟩ := St.elt (show St No w15 (Rd eI (.slice (some ⟨b1, 0, none⟩) ((rows.getD ((rows.length : Int) - 1).toNat default).2.length) ((rows.getD ((rows.length : Int) - 1).toNat default).2.length)) rw) from St.inner (p := ((⟨(some ⟨b1, 0, none⟩), ((rows.getD ((rows.length : Int) - 1).toNat default).2.length), ((rows.getD ((rows.length : Int) - 1).toNat default).2.length)⟩ : SV), rw)) (SH.rdRR hS20 (.tail _ (.head _))) (List.mem_append_right _ (.head _)) rfl) 0 (0 + (b.length : Int) + 1) (by omega) (by omega)
    refine WL.lv rfl (LV.idxA Try.underlying49 ti3.sz rfl e7 rfl (by omega) (by omega)) ?_
    refine WL.lv rfl (LV.load1 (v := (.int .i64 (gI rw (0 + (b.length : Int) + 1)))) Try.underlying3 rfl rfl (g6 _ (KB.refl No _) 0 _ rfl)) ?_
    refine WL.lv rfl (LV.eqI rfl rfl) ?_
    refine WL.lv rfl (LV.asg rfl) ?_
    refine WL.nil (thenQ.n ?_)
    refine WC.ret (?_)
    have hS21 : SH w S w15 [blkE g 103 #[(.slice A0 a.length c0), (.slice A1 b.length c1), (.slice A9 ((rows ++ [((⟨(some ⟨b1, 0, none⟩), ((rows.getD ((rows.length : Int) - 1).toNat default).2.length), ((rows.getD ((rows.length : Int) - 1).toNat default).2.length)⟩ : SV), rw)]).length) c9)], rrE eI 49 3 (.slice A9 ((rows ++ [((⟨(some ⟨b1, 0, none⟩), ((rows.getD ((rows.length : Int) - 1).toNat default).2.length), ((rows.getD ((rows.length : Int) - 1).toNat default).2.length)⟩ : SV), rw)]).length) c9) (rows ++ [((⟨(some ⟨b1, 0, none⟩), ((rows.getD ((rows.length : Int) - 1).toNat default).2.length), ((rows.getD ((rows.length : Int) - 1).toNat default).2.length)⟩ : SV), rw)])] := (SH.take 2 rfl (SH.front [_] (SH.front [_] hS20)))
    exact ⟨_, fun a ha => res1 rfl ha rfl, _, _, _, _, rfl, (show rows.length - 1 + 1 = rows.length by omega) ▸ StepInv.fin q2 hL (by omega) (by omega), hS21⟩

theorem mul64_calls {w : World} {n : Int} (h0 : 0 ≤ n) (h1 : n ≤ 4294967295) :
    Calls Try.prog 67 #[(.int .u64 1), (.int .u64 n)] w fun e w' => ∃ v, e = .returned v ∧ (fun v w' => v = .tuple #[.int .u64 0, .int .u64 n] ∧ KB No w w') v w' := by
  have hS : SH w No w [] := SH.nil _ _
  refine calls (l := litOf [(.int .u64 1), (.int .u64 n)] 0) Try.func67 rfl (n := 51) rfl (Nat.le_of_ble_eq_true rfl) (lit_args _) ?_
  refine WC.seq ?_
  refine WC.region ?_
  iterate 2 refine WL.lv rfl (LV.asg rfl) ?_
  refine WL.nil (thenQ.n ?_)
  refine WC.seq ?_
  refine WC.region ?_
  refine WL.lv rfl (LV.mv rfl) ?_
  refine WL.lv rfl (LV.band rfl rfl (band32 (by omega) (by omega))) ?_
  refine WL.lv rfl (LV.asg rfl) ?_
  refine WL.nil (thenQ.n ?_)
  refine WC.seq ?_
  refine WC.region ?_
  refine WL.lv rfl (LV.mv rfl) ?_
  refine WL.lv rfl (LV.shr rfl rfl (by decide) (shr32 (by omega) (by omega))) ?_
  refine WL.lv rfl (LV.asg rfl) ?_
  refine WL.nil (thenQ.n ?_)
  refine WC.seq ?_
  refine WC.region ?_
  refine WL.lv rfl (LV.mv rfl) ?_
  refine WL.lv rfl (LV.band rfl rfl (band32 (by omega) (by omega))) ?_
  refine WL.lv rfl (LV.asg rfl) ?_
  refine WL.nil (thenQ.n ?_)
  refine WC.seq ?_
  refine WC.region ?_
  refine WL.lv rfl (LV.mv rfl) ?_
  refine WL.lv rfl (LV.shr rfl rfl (by decide) (shr32 (by omega) (by omega))) ?_
  refine WL.lv rfl (LV.asg rfl) ?_
  refine WL.nil (thenQ.n ?_)
  refine WC.seq ?_
  refine WC.region ?_
  iterate 2 refine WL.lv rfl (LV.mv rfl) ?_
  refine WL.lv rfl (LV.mul rfl rfl (wrU64 (by omega) (by omega))) ?_
  refine WL.lv rfl (LV.asg rfl) ?_
  refine WL.nil (thenQ.n ?_)
  refine WC.seq ?_
  refine WC.region ?_
  iterate 2 refine WL.lv rfl (LV.mv rfl) ?_
  refine WL.lv rfl (LV.mul rfl rfl (wrU64 (by omega) (by omega))) ?_
  refine WL.lv rfl (LV.mv rfl) ?_
  refine WL.lv rfl (LV.shr rfl rfl (by decide) (shr32 (by omega) (by omega))) ?_
  refine WL.lv rfl (LV.add rfl rfl (wrU64 (by omega) (by omega))) ?_
  refine WL.lv rfl (LV.asg rfl) ?_
  refine WL.nil (thenQ.n ?_)
  refine WC.seq ?_
  refine WC.region ?_
  refine WL.lv rfl (LV.mv rfl) ?_
  refine WL.lv rfl (LV.band rfl rfl (band32 (by omega) (by omega))) ?_
  refine WL.lv rfl (LV.asg rfl) ?_
  refine WL.nil (thenQ.n ?_)
  refine WC.seq ?_
  refine WC.region ?_
  refine WL.lv rfl (LV.mv rfl) ?_
  refine WL.lv rfl (LV.shr rfl rfl (by decide) (shr32 (by omega) (by omega))) ?_
  refine WL.lv rfl (LV.asg rfl) ?_
  refine WL.nil (thenQ.n ?_)
  refine WC.seq ?_
  refine WC.region ?_
  iterate 3 refine WL.lv rfl (LV.mv rfl) ?_
  refine WL.lv rfl (LV.mul (c := 0) rfl rfl (by decide)) ?_
  refine WL.lv rfl (LV.add rfl rfl (wrU64 (by omega) (by omega))) ?_
  refine WL.lv rfl (LV.asg rfl) ?_
  refine WL.nil (thenQ.n ?_)
  refine WC.seq ?_
  refine WC.region ?_
  iterate 2 refine WL.lv rfl (LV.mv rfl) ?_
  refine WL.lv rfl (LV.mul (c := 0) rfl rfl (by decide)) ?_
  refine WL.lv rfl (LV.mv rfl) ?_
  refine WL.lv rfl (LV.add (c := 0) rfl rfl (by decide)) ?_
  refine WL.lv rfl (LV.mv rfl) ?_
  refine WL.lv rfl (LV.shr rfl rfl (by decide) (shr32 (by omega) (by omega))) ?_
  refine WL.lv rfl (LV.add (c := 0) rfl rfl (by decide)) ?_
  refine WL.lv rfl (LV.asg rfl) ?_
  refine WL.nil (thenQ.n ?_)
  refine WC.seq ?_
  refine WC.region ?_
  iterate 2 refine WL.lv rfl (LV.mv rfl) ?_
  refine WL.lv rfl (LV.mul rfl rfl (wrU64 (by omega) (by omega))) ?_
  refine WL.lv rfl (LV.asg rfl) ?_
  refine WL.nil (thenQ.n ?_)
  refine WC.ret (?_)
  exact ⟨_, fun a ha => res2 rfl ha rfl rfl, congrArg (fun x => Value.tuple #[.int .u64 0, .int .u64 x]) (by omega), hS.kb⟩

theorem mul_calls {w : World} {n : Int} (h0 : 0 ≤ n) (h1 : n ≤ 4294967295) :
    Calls Try.prog 48 #[(.int .u64 1), (.int .u64 n)] w fun e w' => ∃ v, e = .returned v ∧ (fun v w' => v = .tuple #[.int .u64 0, .int .u64 n] ∧ KB No w w') v w' := by
  have hS : SH w No w [] := SH.nil _ _
  refine calls (l := litOf [(.int .u64 1), (.int .u64 n)] 0) Try.func48 rfl (n := 30) rfl (Nat.le_of_ble_eq_true rfl) (lit_args _) ?_
  refine WC.seq ?_
  refine WC.region ?_
  iterate 2 refine WL.lv rfl (LV.asg rfl) ?_
  refine WL.nil (thenQ.n ?_)
  refine WC.seq ?_
  refine WC.condF rfl ?_
  refine WC.skip (thenQ.n ?_)
  refine WC.seq ?_
  refine WC.region ?_
  iterate 2 refine WL.lv rfl (LV.mv rfl) ?_
  refine WL.call rfl (XC.fn Try.func67 (by kernel_rfl) rfl rfl rfl) (mul64_calls (n := n) (by omega) (by omega)) ?_
  rintro v_ w1 ⟨rfl, hk1⟩
  have hS1 := SH.same hS hk1
  refine WL.lv rfl (LV.mv rfl) ?_
  iterate 2 refine WL.lv rfl (LV.extract rfl rfl) ?_
  iterate 2 refine WL.lv rfl (LV.asg rfl) ?_
  refine WL.nil (thenQ.n ?_)
  refine WC.seq ?_
  refine WC.region ?_
  iterate 2 refine WL.lv rfl (LV.mv rfl) ?_
  iterate 2 refine WL.lv rfl (LV.asg rfl) ?_
  refine WL.nil (thenQ.n ?_)
  refine WC.ret (?_)
  exact ⟨_, fun a ha => res2 rfl ha rfl rfl, rfl, hS1.kb⟩

theorem repeat_calls {w : World} {A : Option Addr} {c N : Nat} {x : Int} (hx : St No w (Rd eI (.slice A 1 c) [x])) (h1 : 1 ≤ N) (h2 : N ≤ 100000) :
    Calls Try.prog 59 #[(.slice A 1 c), (.int .i64 (N : Int))] w fun e w' => ∃ v, e = .returned v ∧ (fun v w' => ∃ b, v = .slice (some ⟨b, 0, none⟩) N N ∧ SH w No w' [rowE eI 3 (.slice (some ⟨b, 0, none⟩) N N) (List.replicate N x)]) v w' := by
  have hS : SH w No w [] := SH.nil _ _
  refine calls (l := litOf [(.slice A 1 c), (.int .i64 (N : Int))] 0) Try.func59 rfl (n := 48) rfl (Nat.le_of_ble_eq_true rfl) (lit_args _) ?_
  refine WC.seq ?_
  refine WC.region ?_
  refine WL.lv rfl (LV.asg rfl) ?_
  refine WL.nil (thenQ.n ?_)
  iterate 2 refine WC.seq ?_
  refine WC.region ?_
  refine WL.lv rfl (LV.mv rfl) ?_
  refine WL.lv rfl (LV.ltI rfl rfl) ?_
  refine WL.nil (thenQ.n ?_)
  refine WC.condP (p := (N : Int) < 0) rfl (fun hc1 => ?_) (fun hc1 => ?_)
  · exfalso; omega
  · skip
    refine WC.skip (thenQ.n ?_)
    refine WC.seq ?_
    refine WC.region ?_
    refine WL.lv rfl (LV.mv rfl) ?_
    refine WL.lv rfl (LV.lenL Try.underlying49 rfl) ?_
    refine WL.lv rfl (LV.cvtI Try.underlying3 Try.underlying85 rfl (wrU64 (by omega) (by omega))) ?_
    refine WL.lv rfl (LV.mv rfl) ?_
    refine WL.lv rfl (LV.cvtI Try.underlying3 Try.underlying85 rfl (wrU64 (by omega) (by omega))) ?_
    refine WL.call rfl (XC.fn Try.func48 (by kernel_rfl) rfl rfl rfl) (mul_calls (n := (N : Int)) (by omega) (by omega)) ?_
    rintro v_ w1 ⟨rfl, hk1⟩
    have hS1 := SH.same hS hk1
    refine WL.lv rfl (LV.mv rfl) ?_
    iterate 2 refine WL.lv rfl (LV.extract rfl rfl) ?_
    iterate 2 refine WL.lv rfl (LV.asg rfl) ?_
    refine WL.nil (thenQ.n ?_)
    iterate 2 refine WC.seq ?_
    refine WC.region ?_
    refine WL.lv rfl (LV.mv rfl) ?_
    refine WL.lv rfl (LV.as (c := false) (LV.gtI rfl rfl) (by decide)) ?_
    iterate 2 refine WL.lv rfl (LV.mv rfl) ?_
    refine WL.lv rfl (LV.gtI rfl rfl) ?_
    refine WL.lv rfl (LV.pickF rfl rfl) ?_
    refine WL.nil (thenQ.n ?_)
    refine WC.condP (p := (N : Int) > 9223372036854775807) rfl (fun hc2 => ?_) (fun hc2 => ?_)
    · exfalso; omega
    · skip
      refine WC.skip (thenQ.n ?_)
      refine WC.seq ?_
      refine WC.region ?_
      refine WL.lv rfl (LV.mv rfl) ?_
      refine WL.lv rfl (LV.cvtI Try.underlying85 Try.underlying3 rfl (wr64 (by omega) (by omega))) ?_
      refine WL.xe rfl (XE.make (E := eI) (n := N) 0 hS1 Try.underlying49 ti3 rfl rfl rfl rfl rfl rfl (by omega) (by omega)) ?_
      rintro _ w2 ⟨b1, rfl, hS2, hk2⟩
      refine WL.lv rfl (LV.asg rfl) ?_
      refine WL.nil (thenQ.n ?_)
      refine WC.seq ?_
      refine WC.region ?_
      iterate 2 refine WL.lv rfl (LV.mv rfl) ?_
      refine WL.xe rfl (XE.copyAt (xs := (List.replicate N 0)) (ys := [x]) 0 N N hS2 Try.underlying49 ti3.sz rfl (St.now (SH.stN hS2 hx)) ⟨_, rfl, fun g_ h_ h0_ => by cases h_; rfl⟩ (by simp) rfl rfl) ?_
      rintro _ w3 ⟨rfl, hS3, hk3⟩
      refine WL.lv rfl (LV.asg rfl) ?_
      refine WL.nil (thenQ.n ?_)
      refine WC.seq ?_
      refine WC.block ?_
      refine WC.loop (fun m_ f_ w_ => ∃ (n : Int) (r : List Int), (1 ≤ n) ∧ (n ≤ (N : Int)) ∧ (r.length = N) ∧ (r.take n.toNat = List.replicate n.toNat x) ∧ SH w No w_ [rowE eI 3 (.slice (some ⟨b1, 0, none⟩) N N) r] ∧ m_ = (((N : Int) - n).toNat) ∧ Weak (lit [(0, (.slice A 1 c)), (1, (.int .i64 (N : Int))), (4, (.slice none 0 0)), (5, (.int .u64 0)), (6, (.int .u64 (N : Int))), (7, (.slice (some ⟨b1, 0, none⟩) N N)), (8, (.int .i64 n))]) f_) _ ⟨((min ([x]).length N : Nat) : Int), (((List.replicate N 0)).take 0 ++ ([x]).take N ++ ((List.replicate N 0)).drop (0 + min ([x]).length N)), (by simp; omega), (by simp; omega), (by simp; omega), (rep_init h1), hS3, rfl, Weak.cons rfl <| Weak.cons rfl <| Weak.cons rfl <| Weak.cons rfl <| Weak.cons rfl <| Weak.cons rfl <| Weak.cons rfl <| Weak.nil _⟩ ?_
      rintro m1 f1 w4 ⟨n, r, q0, q1, q2, q3, hL1, rfl, hw1⟩
      refine WC.weak hw1 ?_
      clear hw1
      iterate 2 refine WC.seq ?_
      refine WC.region ?_
      iterate 2 refine WL.lv rfl (LV.mv rfl) ?_
      refine WL.lv rfl (LV.lenL Try.underlying49 rfl) ?_
      refine WL.lv rfl (LV.ltI rfl rfl) ?_
      refine WL.nil (thenQ.n ?_)
      refine WC.condP (p := n < (N : Int)) rfl (fun hc3 => ?_) (fun hc3 => ?_)
      · skip
        refine WC.skip (thenQ.n ?_)
        refine WC.block ?_
        have hS4 := SH.drew hL1
        refine WC.regionD [7] (fun w_ => KB No w4.drew w_) [(.pure, 0), (.pure, 1), (.pure, 2), (.pure, 3), (.pure, 4), (.pure, 5), (.pure, 6), (.forced, 7), (.pure, 8), (.pure, 9)] (by kernel_rfl) (by kernel_rfl) (KB.refl _ _) ?_
        iterate 3 refine WS.pure rfl rfl (fun _ => LV.mv rfl) ?_
        have hcap1 : N ≤ N := (Rd.cap (St.now (SH.rd hS4 (.head _))))
        refine WS.pure rfl rfl (fun _ => LV.cut Try.underlying49 ti3.sz rfl rfl rfl rfl ⟨.inr ⟨.i64, by rw [Int.toNat_of_nonneg (a := n) (by omega)] <;> rfl⟩, .inl ⟨rfl, rfl, rfl⟩, .inl ⟨rfl, rfl⟩⟩ (by omega) (by omega) (by omega)) ?_
        iterate 2 refine WS.pure rfl rfl (fun _ => LV.mv rfl) ?_
        have hcap2 : N ≤ N := (Rd.cap (St.now (SH.rd hS4 (.head _))))
        refine WS.pure rfl rfl (fun _ => LV.cut Try.underlying49 ti3.sz rfl rfl rfl rfl ⟨.inl ⟨rfl, rfl⟩, .inr ⟨.i64, by rw [Int.toNat_of_nonneg (a := n) (by omega)] <;> rfl⟩, .inl ⟨rfl, rfl⟩⟩ (by omega) (by omega) (by omega)) ?_
        refine WS.xe rfl rfl (XE.copyAt (xs := r) (ys := ((r.take ((n).toNat)).drop 0)) ((n).toNat) (N - (n).toNat) (N - (n).toNat) hS4 Try.underlying49 ti3.sz rfl (St.now ((SH.rd hS4 (.head _)).imp fun _ h => Rd.cut h (by omega) (by omega) (by omega) (by omega))) ⟨_, rfl, fun g_ h_ h0_ => by cases h_; exact cut_at (by omega)⟩ (by omega) rfl rfl) ?_
        rintro _ w5 ⟨rfl, hS5, hk4⟩
        refine ⟨fun h_ => (by cases h_), ?_⟩
        refine WS.pure rfl rfl (fun _ => LV.add rfl rfl (wr64 (by omega) (by omega))) ?_
        refine WS.pure rfl rfl (fun _ => LV.asg rfl) ?_
        refine WS.nil (blockQ.n <| thenQ.n ?_)
        exact ⟨_, by simp; omega, n + ((min (((r.take ((n).toNat)).drop 0)).length (N - (n).toNat) : Nat) : Int), ((r).take ((n).toNat) ++ (((r.take ((n).toNat)).drop 0)).take (N - (n).toNat) ++ (r).drop ((n).toNat + min (((r.take ((n).toNat)).drop 0)).length (N - (n).toNat))), (by simp; omega), (by simp; omega), (by simp; omega), (rep_step q0 q1 hc3 q2 q3), hS5, rfl, Weak.cons rfl <| Weak.cons rfl <| Weak.cons rfl <| Weak.cons rfl <| Weak.cons rfl <| Weak.cons rfl <| Weak.cons rfl <| Weak.nil _⟩
      · skip
        refine WC.exit (thenQ.x <| thenQ.x <| blockQ.hit <| thenQ.n ?_)
        refine WC.seq ?_
        refine WC.region ?_
        refine WL.lv rfl (LV.mv rfl) ?_
        refine WL.lv rfl (LV.asg rfl) ?_
        refine WL.nil (thenQ.n ?_)
        refine WC.ret (?_)
        exact ⟨_, fun a ha => res1 rfl ha rfl, _, rfl, rep_fin q0 q1 hc3 q2 q3 ▸ hL1⟩

theorem repeat_calls' {w : World} {A : Option Addr} {c N : Nat} {x n : Int} (hn : n = N) (hx : St No w (Rd eI (.slice A 1 c) [x])) (h1 : 1 ≤ N) (h2 : N ≤ 100000) :
    Calls Try.prog 59 #[(.slice A 1 c), (.int .i64 n)] w fun e w' => ∃ v, e = .returned v ∧ (fun v w' => ∃ b, v = .slice (some ⟨b, 0, none⟩) N N ∧ SH w No w' [rowE eI 3 (.slice (some ⟨b, 0, none⟩) N N) (List.replicate N x)]) v w' := hn ▸ repeat_calls hx h1 h2

theorem fill_calls {w : World} {A0 A1 : Option Addr} {a b : List Int} {c0 c1 : Nat} (ha : St No w (Rd eI (.slice A0 a.length c0) a)) (hb : St No w (Rd eI (.slice A1 b.length c1) b)) (hla : a.length ≤ 400) (hlb : b.length ≤ 400) :
    Calls Try.prog 43 #[(.slice A0 a.length c0), (.slice A1 b.length c1)] w fun e w' => ∃ v, e = .returned v ∧ (fun v w' => ∃ g A2 c2 rows, v = .pointer (some ⟨g, 0, none⟩) ∧ FieldOK a b rows ∧ rows.length = dist a b + 1 ∧ SH w No w' [blkE g 103 #[(.slice A0 a.length c0), (.slice A1 b.length c1), (.slice A2 rows.length c2)], rrE eI 49 3 (.slice A2 rows.length c2) rows]) v w' := by
  have hS : SH w No w [] := SH.nil _ _
  refine calls (l := litOf [(.slice A0 a.length c0), (.slice A1 b.length c1)] 0) Try.func43 rfl (n := 52) rfl (Nat.le_of_ble_eq_true rfl) (lit_args _) ?_
  refine WC.seq ?_
  refine WC.region ?_
  refine WL.lv rfl (LV.asg rfl) ?_
  refine WL.nil (thenQ.n ?_)
  refine WC.seq ?_
  refine WC.region ?_
  iterate 2 refine WL.lv rfl (LV.mv rfl) ?_
  refine WL.lv rfl (LV.build (vs := [(0, (.slice A0 a.length c0)), (1, (.slice A1 b.length c1))]) (places := #[(0, 1), (1, 1), (2, 1)]) (cs := #[(.slice A0 a.length c0), (.slice A1 b.length c1), (.slice none 0 0)]) Try.underlying103 ti103 (fun _ => by kernel_rfl) rfl rfl) ?_
  refine WL.xe rfl (XE.box #[(.slice A0 a.length c0), (.slice A1 b.length c1), (.slice none 0 0)] hS rfl rfl) ?_
  rintro _ w1 ⟨b1, rfl, hS1, hk1⟩
  refine WL.lv rfl (LV.asg rfl) ?_
  refine WL.nil (thenQ.n ?_)
  refine WC.seq ?_
  refine WC.region ?_
  refine WL.xe rfl (XE.buildSlice (E := eI) [(0, (.int .i64 1073741824))] #[(.int .i64 1073741824)] [1073741824] hS1 Try.underlying49 ti3 rfl (by decide) (by kernel_rfl) (.inr rfl) rfl rfl (by decide)) ?_
  rintro _ w2 ⟨b2, rfl, hS2, hk2⟩
  refine WL.lv rfl (LV.mv rfl) ?_
  refine WL.lv rfl (LV.lenL Try.underlying49 rfl) ?_
  refine WL.lv rfl (LV.mv rfl) ?_
  refine WL.lv rfl (LV.lenL Try.underlying49 rfl) ?_
  iterate 2 refine WL.lv rfl (LV.add rfl rfl (wr64 (by omega) (by omega))) ?_
  refine WL.call rfl (XC.fn Try.func59 (by kernel_rfl) rfl rfl rfl) (repeat_calls' (N := a.length + b.length + 3) (by omega) (SH.rd hS2 (.head _)) (by omega) (by omega)) ?_
  rintro v_ w3 ⟨b3, rfl, hS3⟩
  have hS4 := SH.joinN hS2 hS3
  refine WL.lv rfl (LV.asg rfl) ?_
  refine WL.nil (thenQ.n ?_)
  refine WC.seq ?_
  refine WC.region ?_
  iterate 3 refine WL.lv rfl (LV.mv rfl) ?_
  refine WL.lv rfl (LV.lenL Try.underlying49 rfl) ?_
  refine WL.lv rfl (LV.mv rfl) ?_
  refine WL.lv rfl (LV.lenL Try.underlying49 rfl) ?_
  refine WL.lv rfl (LV.sub rfl rfl (wr64 (by omega) (by omega))) ?_
  refine WL.call rfl (XC.fn Try.func61 (by kernel_rfl) rfl rfl rfl) (slot_calls (SH.at hS4 (.tail _ (.tail _ (.head _)))) hla hlb ((a.length : Int) - (b.length : Int)) (by omega) (by omega)) ?_
  rintro v_ w4 ⟨rfl, hk3⟩
  have hS5 := SH.same hS4 hk3
  iterate 2 refine WL.lv rfl (LV.mv rfl) ?_
  refine WL.lv rfl (LV.lenL Try.underlying49 rfl) ?_
  refine WL.lv rfl (LV.mv rfl) ?_
  refine WL.lv rfl (LV.lenL Try.underlying49 rfl) ?_
  refine WL.lv rfl (LV.mv rfl) ?_
  refine WL.lv rfl (LV.lenL Try.underlying49 rfl) ?_
  refine WL.lv rfl (LV.sub rfl rfl (wr64 (by omega) (by omega))) ?_
  refine WL.call rfl (XC.fn Try.func60 (by kernel_rfl) rfl rfl rfl) (slide_calls (SH.at hS5 (.tail _ (.tail _ (.head _)))) hla hlb (SH.stN hS5 ha) (SH.stN hS5 hb) (a.length : Int) ((a.length : Int) - (b.length : Int)) (by omega) (by omega) (by omega) (by omega) (by omega)) ?_
  rintro v_ w5 ⟨r1, rfl, hk4, hs1⟩
  have hS6 := SH.same hS5 hk4
  have hsl_ := hs1
  obtain ⟨A2, c2, e1, g1⟩ := St.elt (SH.rd hS6 (.head _)) 0 (((a.length : Int) - (b.length : Int)) + (b.length : Int) + 1) (by omega) (by rw [List.length_replicate]; omega)
  refine WL.lv rfl (LV.idxA Try.underlying49 ti3.sz rfl e1 rfl (by omega) (by rw [List.length_replicate]; omega)) ?_
  refine WL.xse rfl (XSE.row1 (i := ((a.length : Int) - (b.length : Int)) + (b.length : Int) + 1) (o := 0) (k := 0) r1 hS6 e1 (by omega) (by rw [List.length_replicate]; omega) (by decide) ti3.sz rfl rfl rfl rfl) ?_
  rintro w6 ⟨hS7, hk5⟩
  refine WL.nil (thenQ.n ?_)
  refine WC.seq ?_
  refine WC.region ?_
  iterate 2 refine WL.lv rfl (LV.mv rfl) ?_
  refine WL.xe rfl (XE.buildSlice (E := eV) [(0, (.slice (some ⟨b3, 0, none⟩) (a.length + b.length + 3) (a.length + b.length + 3)))] #[(.slice (some ⟨b3, 0, none⟩) (a.length + b.length + 3) (a.length + b.length + 3))] [(⟨(some ⟨b3, 0, none⟩), (a.length + b.length + 3), (a.length + b.length + 3)⟩ : SV)] hS7 Try.underlying45 ti49 rfl (by decide) (by kernel_rfl) (.inr rfl) rfl rfl (by decide)) ?_
  rintro _ w7 ⟨b4, rfl, hS8, hk6⟩
  refine WL.lv rfl (LV.nilCheck rfl) ?_
  refine WL.lv rfl (LV.fieldA Try.underlying103 rfl ti45.sz rfl) ?_
  have hS10 : SH w No w7 [blkE b1 103 #[(.slice A0 a.length c0), (.slice A1 b.length c1), (.slice none 0 0)], rowE eV 49 (.slice (some ⟨b4, 0, none⟩) 1 1) [(⟨(some ⟨b3, 0, none⟩), (a.length + b.length + 3), (a.length + b.length + 3)⟩ : SV)], rowE eI 3 (.slice (some ⟨b3, 0, none⟩) (a.length + b.length + 3) (a.length + b.length + 3)) ((List.replicate (a.length + b.length + 3) 1073741824).set (((a.length : Int) - (b.length : Int)) + (b.length : Int) + 1).toNat r1), rowE eI 3 (.slice (some ⟨b2, 0, none⟩) 1 1) [1073741824]] := (SH.front [_, _, _] hS8)
  refine WL.xse rfl (XSE.blk #[(.slice A0 a.length c0), (.slice A1 b.length c1), (.slice (some ⟨b4, 0, none⟩) 1 1)] hS10 (Nat.le_of_ble_eq_true rfl) ti45.sz rfl rfl rfl rfl) ?_
  rintro w8 ⟨hS9, hk7⟩
  refine WL.nil (thenQ.n ?_)
  iterate 2 refine WC.seq ?_
  refine WC.region ?_
  have hS11 : SH w No w8 [rowE eI 3 (.slice (some ⟨b3, 0, none⟩) (a.length + b.length + 3) (a.length + b.length + 3)) ((List.replicate (a.length + b.length + 3) 1073741824).set (((a.length : Int) - (b.length : Int)) + (b.length : Int) + 1).toNat r1), blkE b1 103 #[(.slice A0 a.length c0), (.slice A1 b.length c1), (.slice (some ⟨b4, 0, none⟩) 1 1)], rowE eV 49 (.slice (some ⟨b4, 0, none⟩) 1 1) [(⟨(some ⟨b3, 0, none⟩), (a.length + b.length + 3), (a.length + b.length + 3)⟩ : SV)], rowE eI 3 (.slice (some ⟨b2, 0, none⟩) 1 1) [1073741824]] := (SH.front [_, _] hS9)
  have hS12 : SH w No w8 [rowE eV 49 (.slice (some ⟨b4, 0, none⟩) 1 1) [(⟨(some ⟨b3, 0, none⟩), (a.length + b.length + 3), (a.length + b.length + 3)⟩ : SV)], rowE eI 3 (.slice (some ⟨b3, 0, none⟩) (a.length + b.length + 3) (a.length + b.length + 3)) ((List.replicate (a.length + b.length + 3) 1073741824).set (((a.length : Int) - (b.length : Int)) + (b.length : Int) + 1).toNat r1), blkE b1 103 #[(.slice A0 a.length c0), (.slice A1 b.length c1), (.slice (some ⟨b4, 0, none⟩) 1 1)], rowE eI 3 (.slice (some ⟨b2, 0, none⟩) 1 1) [1073741824]] := (SH.front [_, _] hS11)
  have hS13 : SH w No w8 [rrE eI 49 3 (.slice (some ⟨b4, 0, none⟩) 1 1) [((⟨(some ⟨b3, 0, none⟩), (a.length + b.length + 3), (a.length + b.length + 3)⟩ : SV), ((List.replicate (a.length + b.length + 3) 1073741824).set (((a.length : Int) - (b.length : Int)) + (b.length : Int) + 1).toNat r1))], blkE b1 103 #[(.slice A0 a.length c0), (.slice A1 b.length c1), (.slice (some ⟨b4, 0, none⟩) 1 1)], rowE eI 3 (.slice (some ⟨b2, 0, none⟩) 1 1) [1073741824]] := SH.rrMore (rows := []) rfl hS12
  iterate 2 refine WL.lv rfl (LV.mv rfl) ?_
  refine WL.call rfl (XC.fn Try.func61 (by kernel_rfl) rfl rfl rfl) (slot_calls (SH.at hS13 (.tail _ (.head _))) hla hlb 0 (by omega) (by omega)) ?_
  rintro v_ w9 ⟨rfl, hk8⟩
  have hS14 := SH.same hS13 hk8
  obtain ⟨A3, c3, e2, g2⟩ := St.elt (show St No w9 (Rd eI (.slice (some ⟨b3, 0, none⟩) (a.length + b.length + 3) (a.length + b.length + 3)) ((List.replicate (a.length + b.length + 3) 1073741824).set (((a.length : Int) - (b.length : Int)) + (b.length : Int) + 1).toNat r1)) from St.inner (p := ((⟨(some ⟨b3, 0, none⟩), (a.length + b.length + 3), (a.length + b.length + 3)⟩ : SV), ((List.replicate (a.length + b.length + 3) 1073741824).set (((a.length : Int) - (b.length : Int)) + (b.length : Int) + 1).toNat r1))) (SH.rdRR hS14 (.head _)) (.head _) rfl) 0 (0 + (b.length : Int) + 1) (by omega) (by rw [List.length_set, List.length_replicate]; omega)
  refine WL.lv rfl (LV.idxA Try.underlying49 ti3.sz rfl e2 rfl (by omega) (by rw [List.length_set, List.length_replicate]; omega)) ?_
  refine WL.lv rfl (LV.load1 (v := (.int .i64 (gI ((List.replicate (a.length + b.length + 3) 1073741824).set (((a.length : Int) - (b.length : Int)) + (b.length : Int) + 1).toNat r1) (0 + (b.length : Int) + 1)))) Try.underlying3 rfl rfl (g2 _ (KB.refl No _) 0 _ rfl)) ?_
  refine WL.lv rfl (LV.neI rfl rfl) ?_
  refine WL.nil (thenQ.n ?_)
  refine WC.condP (p := (gI ((List.replicate (a.length + b.length + 3) 1073741824).set (((a.length : Int) - (b.length : Int)) + (b.length : Int) + 1).toNat r1) (0 + (b.length : Int) + 1)) ≠ 0) rfl (fun hc1 => ?_) (fun hc1 => ?_)
  · skip
    refine WC.block ?_
    have hS15 : SH w No w9 [blkE b1 103 #[(.slice A0 a.length c0), (.slice A1 b.length c1), (.slice (some ⟨b4, 0, none⟩) 1 1)], rrE eI 49 3 (.slice (some ⟨b4, 0, none⟩) 1 1) [((⟨(some ⟨b3, 0, none⟩), (a.length + b.length + 3), (a.length + b.length + 3)⟩ : SV), ((List.replicate (a.length + b.length + 3) 1073741824).set (((a.length : Int) - (b.length : Int)) + (b.length : Int) + 1).toNat r1))]] := (SH.take 2 rfl (SH.front [_] hS14))
    refine WC.loop (fun m_ f_ w_ => ∃ (A2 : Option Addr) (c2 : Nat) (rows : List (SV × List Int)), (1 ≤ rows.length) ∧ (rows.length ≤ dist a b) ∧ (FieldOK a b rows) ∧ SH w No w_ [blkE b1 103 #[(.slice A0 a.length c0), (.slice A1 b.length c1), (.slice A2 rows.length c2)], rrE eI 49 3 (.slice A2 rows.length c2) rows] ∧ m_ = (dist a b + 1 - rows.length) ∧ Weak (lit [(0, (.slice A0 a.length c0)), (1, (.slice A1 b.length c1)), (4, (.pointer none)), (5, (.pointer (some ⟨b1, 0, none⟩)))]) f_) _ ⟨(some ⟨b4, 0, none⟩), 1, [((⟨(some ⟨b3, 0, none⟩), (a.length + b.length + 3), (a.length + b.length + 3)⟩ : SV), ((List.replicate (a.length + b.length + 3) 1073741824).set (((a.length : Int) - (b.length : Int)) + (b.length : Int) + 1).toNat r1))], (Nat.le_refl _), (fill_init hla hs1 hc1), (FieldOK.one (row0 hla hs1)), hS15, rfl, Weak.cons rfl <| Weak.cons rfl <| Weak.cons rfl <| Weak.cons rfl <| Weak.nil _⟩ ?_
    rintro m1 f1 w10 ⟨A2, c2, rows, q0, q1, q2, hL1, rfl, hw1⟩
    refine WC.weak hw1 ?_
    clear hw1
    have hdb := dist_bound a b
    iterate 2 refine WC.seq ?_
    refine WC.region ?_
    refine WL.lv rfl (LV.mv rfl) ?_
    have hS16 : SH w No w10 [rrE eI 49 3 (.slice A2 rows.length c2) rows, blkE b1 103 #[(.slice A0 a.length c0), (.slice A1 b.length c1), (.slice A2 rows.length c2)]] := (SH.front [_] hL1)
    have hS17 : SH w No w10 [blkE b1 103 #[(.slice A0 a.length c0), (.slice A1 b.length c1), (.slice A2 rows.length c2)], rrE eI 49 3 (.slice A2 rows.length c2) rows] := (SH.front [_] hS16)
    have hT1 := SH.sub (Es := [_, _]) hS17
    refine WL.call rfl (XC.fn Try.func62 (by kernel_rfl) rfl rfl rfl) (step_calls hT1 (SH.stA (Es := [blkE b1 103 #[(.slice A0 a.length c0), (.slice A1 b.length c1), (.slice A2 rows.length c2)], rrE eI 49 3 (.slice A2 rows.length c2) rows]) hS17 ha) (SH.stA (Es := [blkE b1 103 #[(.slice A0 a.length c0), (.slice A1 b.length c1), (.slice A2 rows.length c2)], rrE eI 49 3 (.slice A2 rows.length c2) rows]) hS17 hb) hla hlb (by omega) (by omega) (FieldOK.last q2 q0)) ?_
    rintro v_ w11 ⟨A4, c4, sv1, rw1, rfl, hrow_, hU1⟩
    have hS18 := SH.back (Es := [_, _]) hS17 hU1
    refine WL.lv rfl (LV.notP rfl) ?_
    refine WL.nil (thenQ.n ?_)
    refine WC.condP (p := ¬ (gI rw1 (0 + (b.length : Int) + 1) = 0)) rfl (fun hc2 => ?_) (fun hc2 => ?_)
    · skip
      refine WC.skip (thenQ.n ?_)
      refine WC.block ?_
      refine WC.exit (blockQ.hit <| thenQ.n ?_)
      exact ⟨_, by simp; omega, A4, c4, (rows ++ [(sv1, rw1)]), (by simp), (fill_step hrow_ hc2), (FieldOK.snoc q2 hrow_), hS18, rfl, Weak.cons rfl <| Weak.cons rfl <| Weak.cons rfl <| Weak.cons rfl <| Weak.nil _⟩
    · skip
      refine WC.exit (thenQ.x <| thenQ.x <| blockQ.hit <| thenQ.n ?_)
      refine WC.seq ?_
      refine WC.region ?_
      refine WL.lv rfl (LV.mv rfl) ?_
      refine WL.lv rfl (LV.asg rfl) ?_
      refine WL.nil (thenQ.n ?_)
      refine WC.ret (?_)
      exact ⟨_, fun a ha => res1 rfl ha rfl, _, _, _, _, rfl, FieldOK.snoc q2 hrow_, fill_fin q1 hrow_ hc2, hS18⟩
  · skip
    refine WC.skip (thenQ.n ?_)
    refine WC.seq ?_
    refine WC.region ?_
    refine WL.lv rfl (LV.mv rfl) ?_
    refine WL.lv rfl (LV.asg rfl) ?_
    refine WL.nil (thenQ.n ?_)
    refine WC.ret (?_)
    have hS19 : SH w No w9 [blkE b1 103 #[(.slice A0 a.length c0), (.slice A1 b.length c1), (.slice (some ⟨b4, 0, none⟩) 1 1)], rrE eI 49 3 (.slice (some ⟨b4, 0, none⟩) 1 1) [((⟨(some ⟨b3, 0, none⟩), (a.length + b.length + 3), (a.length + b.length + 3)⟩ : SV), ((List.replicate (a.length + b.length + 3) 1073741824).set (((a.length : Int) - (b.length : Int)) + (b.length : Int) + 1).toNat r1))]] := (SH.take 2 rfl (SH.front [_] hS14))
    exact ⟨_, fun a ha => res1 rfl ha rfl, _, _, _, _, rfl, FieldOK.one (row0 hla hs1), fill_fin0 hla hs1 hc1, hS19⟩

theorem within_calls {w : World} {g : Nat} {A0 A1 A2 : Option Addr} {a b : List Int} {c0 c1 c2 : Nat} {rows : List (SV × List Int)} (hg : w.heap[g]? = some (.cells #[.slice A0 a.length c0, .slice A1 b.length c1, .slice A2 rows.length c2] 103 (0, 0))) (hla : a.length ≤ 400) (hlb : b.length ≤ 400) (hrr : St No w (RdRR eI (.slice A2 rows.length c2) rows)) (hF : FieldOK a b rows) {i j s : Int} (h0 : 0 ≤ i) (h1 : i ≤ a.length) (h2 : 0 ≤ j) (h3 : j ≤ b.length) (hs : s < rows.length) :
    Calls Try.prog 64 #[(.pointer (some ⟨g, 0, none⟩)), (.int .i64 i), (.int .i64 j), (.int .i64 s)] w fun e w' => ∃ v, e = .returned v ∧ (fun v w' => v = .bool (decide ((D a b i j : Int) ≤ s)) ∧ KB No w w') v w' := by
  have hgs := Blk.st hg
  have hS : SH w No w [] := SH.nil _ _
  refine calls (l := litOf [(.pointer (some ⟨g, 0, none⟩)), (.int .i64 i), (.int .i64 j), (.int .i64 s)] 0) Try.func64 rfl (n := 29) rfl (Nat.le_of_ble_eq_true rfl) (lit_args _) ?_
  refine WC.seq ?_
  refine WC.region ?_
  refine WL.lv rfl (LV.asg rfl) ?_
  refine WL.nil (thenQ.n ?_)
  refine WC.seq ?_
  have hS1 := SH.drew hS
  refine WC.regionD [] (fun w_ => KB No w.drew w_) [(.pure, 0), (.pure, 1), (.pure, 2), (.pure, 3), (.pure, 4), (.pure, 5), (.pure, 6), (.look, 7), (.pure, 8), (.pure, 9), (.look, 10), (.pure, 11), (.pure, 12), (.pure, 13), (.pure, 14), (.forced, 15), (.pure, 16), (.look, 17), (.pure, 18), (.pure, 19), (.pure, 20)] (by kernel_rfl) (by kernel_rfl) (KB.refl _ _) ?_
  refine WS.pure rfl rfl (fun _ => LV.mv rfl) ?_
  rcases Decidable.em (s ≥ 0) with hg1 | hg1
  · refine WS.pure rfl rfl (fun _ => LV.as (LV.geI rfl rfl) (decide_eq_true hg1)) ?_
    iterate 3 refine WS.pure rfl rfl (fun _ => LV.mv rfl) ?_
    refine WS.pure rfl rfl (fun _ => LV.nilCheck rfl) ?_
    refine WS.pure rfl rfl (fun _ => LV.fieldA Try.underlying103 rfl ti45.sz rfl) ?_
    refine WS.look rfl rfl (fun _ hk_ => LV.load1 Try.underlying45 rfl rfl (Blk.cellN (SH.arg hS1 hgs) 2 rfl _ hk_)) ?_
    refine WS.pure rfl rfl (fun _ => LV.mv rfl) ?_
    obtain ⟨A3, c3, A4, c4, e1, g1, e2, r1⟩ := St.eltRR (SH.stN hS1 hrr) default s (by omega) (by omega)
    refine WS.pure rfl rfl (fun _ => LV.idxA Try.underlying45 ti49.sz rfl e1 rfl (by omega) (by omega)) ?_
    refine WS.look rfl rfl (fun _ hk_ => LV.load1 Try.underlying49 rfl rfl (g1 _ hk_)) ?_
    iterate 3 refine WS.pure rfl rfl (fun _ => LV.mv rfl) ?_
    refine WS.pure rfl rfl (fun _ => LV.sub rfl rfl (wr64 (by omega) (by omega))) ?_
    refine WS.call rfl rfl (XC.fn Try.func61 (by kernel_rfl) rfl rfl rfl) (slot_calls (SH.arg hS1 hgs) hla hlb (i - j) (by omega) (by omega)) ?_
    rintro v_ w1 ⟨rfl, hk1⟩
    have hS2 := SH.same hS1 hk1
    refine ⟨fun h_ => (KB.transN (KB.refl _ _) hk1), ?_⟩
    obtain ⟨A5, c5, e3, g2⟩ := St.elt (St.inner (SH.stN hS1 hrr) (getD_mem (by omega)) e2) 0 ((i - j) + (b.length : Int) + 1) (by omega) (by have hl_ := (FieldOK.at hF (s := s) (by omega) (by omega)).len; omega)
    refine WS.pure rfl rfl (fun _ => LV.idxA Try.underlying49 ti3.sz rfl e3 rfl (by omega) (by have hl_ := (FieldOK.at hF (s := s) (by omega) (by omega)).len; omega)) ?_
    refine WS.look rfl rfl (fun _ hk_ => LV.load1 (v := (.int .i64 (gI ((rows.getD (s).toNat default).2) ((i - j) + (b.length : Int) + 1)))) Try.underlying3 rfl rfl (g2 _ hk_ 0 _ rfl)) ?_
    refine WS.pure rfl rfl (fun _ => LV.geI rfl rfl) ?_
    refine WS.pure rfl rfl (fun _ => LV.pickT rfl rfl) ?_
    refine WS.pure rfl rfl (fun _ => LV.asg rfl) ?_
    refine WS.nil (thenQ.n ?_)
    refine WC.ret (?_)
    exact ⟨_, fun a ha => res1 rfl ha rfl, congrArg Value.bool (decide_eq_decide.2 ⟨fun h => (within_D hF h0 h1 h2 h3 hs).1 ⟨by omega, h⟩, fun h => ((within_D hF h0 h1 h2 h3 hs).2 h).2⟩), hS2.kb⟩
  · refine WS.pure rfl rfl (fun _ => LV.as (LV.geI rfl rfl) (decide_eq_false hg1)) ?_
    refine WS.pure rfl rfl (fun _ => LV.mv rfl) ?_
    iterate 4 refine WS.off rfl rfl ?_
    refine WS.offL rfl rfl ?_
    iterate 2 refine WS.off rfl rfl ?_
    refine WS.offL rfl rfl ?_
    iterate 4 refine WS.off rfl rfl ?_
    refine WS.offF rfl rfl (fun h_ => (KB.refl _ _)) ?_
    refine WS.off rfl rfl ?_
    refine WS.offL rfl rfl ?_
    refine WS.off rfl rfl ?_
    refine WS.pure rfl rfl (fun _ => LV.pickF rfl rfl) ?_
    refine WS.pure rfl rfl (fun _ => LV.asg rfl) ?_
    refine WS.nil (thenQ.n ?_)
    refine WC.ret (?_)
    exact ⟨_, fun a ha => res1 rfl ha rfl, congrArg Value.bool (decide_eq_false (fun h => by omega)).symm, hS1.kb⟩

theorem put_calls {w : World} {S : Nat → Prop} {ob : Nat} {A : Option Addr} {c : Nat} {out : List Int} {s i j : Int} (hS0 : SH w S w [blkE ob 47 #[(.slice A ((out).length) c)], rowE eI 50 (.slice A ((out).length) c) out]) (hl : out.length ≤ 900) :
    Calls Try.prog 45 #[(.int .i64 s), (.int .i64 i), (.int .i64 j), (.pointer (some ⟨ob, 0, none⟩))] w fun e w' => ∃ v, e = .returned v ∧ (fun v w' => ∃ A' c', v = .tuple #[] ∧ SH w S w' [blkE ob 47 #[(.slice A' (((out ++ [s])).length) c')], rowE eI 50 (.slice A' (((out ++ [s])).length) c') (out ++ [s])]) v w' := by
  have hS : SH w S w [blkE ob 47 #[(.slice A ((out).length) c)], rowE eI 50 (.slice A ((out).length) c) out] := hS0
  refine calls (l := litOf [(.int .i64 s), (.int .i64 i), (.int .i64 j), (.pointer (some ⟨ob, 0, none⟩))] 0) Try.func45 rfl (n := 11) rfl (Nat.le_of_ble_eq_true rfl) (lit_args _) ?_
  refine WC.region ?_
  refine WL.lv rfl (LV.load1 Try.underlying47 rfl rfl (Blk.cellN (SH.at hS (.head _)) 0 rfl _ (KB.refl No _))) ?_
  refine WL.lv rfl (LV.mv rfl) ?_
  refine WL.xe rfl (XE.buildSlice (E := eI) [(0, (.int .i64 s))] #[(.int .i64 s)] [s] hS Try.underlying47 ti50 rfl (by decide) (by kernel_rfl) (.inr rfl) rfl rfl (by decide)) ?_
  rintro _ w1 ⟨b1, rfl, hS1, hk1⟩
  have hS2 : SH w S w1 [rowE eI 50 (.slice A ((out).length) c) out, rowE eI 50 (.slice (some ⟨b1, 0, none⟩) 1 1) [s], blkE ob 47 #[(.slice A ((out).length) c)]] := (SH.front [_, _] hS1)
  refine WL.xe rfl (XE.append hS2 Try.underlying47 ti50 rfl (St.now (SH.rd hS2 (.tail _ (.head _)))) rfl rfl (by first | omega | simp only [List.length_append, List.length_cons, List.length_nil, List.length_take, List.length_reverse, List.length_drop] at *; omega) (by first | omega | simp only [List.length_append, List.length_cons, List.length_nil, List.length_take, List.length_reverse, List.length_drop] at *; omega)) ?_
  rintro _ w2 ⟨A1, c1, rfl, hS3, hk2⟩
  have hS5 : SH w S w2 [blkE ob 47 #[(.slice A ((out).length) c)], rowE eI 50 (.slice A1 ((out ++ [s]).length) c1) (out ++ [s]), rowE eI 50 (.slice (some ⟨b1, 0, none⟩) 1 1) [s]] := (SH.front [_, _] hS3)
  refine WL.xse rfl (XSE.blk #[(.slice A1 ((out ++ [s]).length) c1)] hS5 (Nat.le_of_ble_eq_true rfl) ti47.sz rfl rfl rfl rfl) ?_
  rintro w3 ⟨hS4, hk3⟩
  refine WL.nil (?_)
  have hS6 : SH w S w3 [blkE ob 47 #[(.slice A1 ((out ++ [s]).length) c1)], rowE eI 50 (.slice A1 ((out ++ [s]).length) c1) (out ++ [s])] := (SH.take 2 rfl (SH.front [_] (SH.front [_] hS4)))
  exact ⟨_, fun a ha => res0 rfl, _, _, rfl, hS6⟩

theorem walk_calls {w : World} {S : Nat → Prop} {g ob : Nat} {A0 A1 A2 : Option Addr} {a b : List Int} {c0 c1 c2 : Nat} {rows : List (SV × List Int)} (hgs : St S w (fun w => w.heap[g]? = some (.cells #[.slice A0 a.length c0, .slice A1 b.length c1, .slice A2 rows.length c2] 103 (0, 0)))) (ha : St S w (Rd eI (.slice A0 a.length c0) a)) (hb : St S w (Rd eI (.slice A1 b.length c1) b)) (hrr : St S w (RdRR eI (.slice A2 rows.length c2) rows)) (hF : FieldOK a b rows) (hn : rows.length = dist a b + 1) (hla : a.length ≤ 400) (hlb : b.length ≤ 400) (hS0 : SH w S w [blkE ob 47 #[(.slice none 0 0)], rowE eI 50 (.slice none 0 0) []]) :
    Calls Try.prog 44 #[(.pointer (some ⟨g, 0, none⟩)), (.func (.func 45) #[] #[(.pointer (some ⟨ob, 0, none⟩))])] w fun e w' => ∃ v, e = .returned v ∧ (fun v w' => ∃ A' c', v = .tuple #[] ∧ SH w S w' [blkE ob 47 #[(.slice A' (((way a b)).length) c')], rowE eI 50 (.slice A' (((way a b)).length) c') (way a b)]) v w' := by
  have hdb := dist_bound a b
  have hS : SH w S w [blkE ob 47 #[(.slice none 0 0)], rowE eI 50 (.slice none 0 0) []] := hS0
  refine calls (l := litOf [(.pointer (some ⟨g, 0, none⟩)), (.func (.func 45) #[] #[(.pointer (some ⟨ob, 0, none⟩))])] 0) Try.func44 rfl (n := 100) rfl (Nat.le_of_ble_eq_true rfl) (lit_args _) ?_
  refine WC.seq ?_
  refine WC.region ?_
  refine WL.lv rfl (LV.mv rfl) ?_
  refine WL.call rfl (XC.fn Try.func63 (by kernel_rfl) rfl rfl rfl) (steps_calls (SH.arg hS hgs) hla hlb (by omega)) ?_
  rintro v_ w1 ⟨rfl, hk1⟩
  have hS1 := SH.same hS hk1
  iterate 3 refine WL.lv rfl (LV.asg rfl) ?_
  refine WL.nil (thenQ.n ?_)
  refine WC.block ?_
  refine WC.loop (fun m_ f_ w_ => ∃ (i j left : Int) (A : Option Addr) (c : Nat) (out : List Int), (0 ≤ i) ∧ (i ≤ a.length) ∧ (0 ≤ j) ∧ (j ≤ b.length) ∧ (left = (D a b i j : Int)) ∧ (out ++ Wy a b i j = way a b) ∧ ((out.length : Int) ≤ i + j) ∧ (left ≤ (dist a b : Int)) ∧ SH w S w_ [blkE ob 47 #[(.slice A ((out).length) c)], rowE eI 50 (.slice A ((out).length) c) out] ∧ m_ = ((((a.length : Int) - i) + ((b.length : Int) - j)).toNat) ∧ Weak (lit [(0, (.pointer (some ⟨g, 0, none⟩))), (1, (.func (.func 45) #[] #[(.pointer (some ⟨ob, 0, none⟩))])), (4, (.int .i64 i)), (5, (.int .i64 j)), (6, (.int .i64 left))]) f_) _ ⟨0, 0, (rows.length : Int) - 1, none, 0, [], by omega, by omega, by omega, by omega, (by rw [D_00]; omega), (by rw [Wy_00]; rfl), (by simp), by omega, hS1, rfl, Weak.cons rfl <| Weak.cons rfl <| Weak.cons rfl <| Weak.cons rfl <| Weak.cons rfl <| Weak.nil _⟩ ?_
  rintro m1 f1 w2 ⟨i, j, left, A, c, out, q0, q1, q2, q3, q4, q5, q6, q7, hL1, rfl, hw1⟩
  refine WC.weak hw1 ?_
  clear hw1
  iterate 2 refine WC.seq ?_
  refine WC.region ?_
  iterate 2 refine WL.lv rfl (LV.mv rfl) ?_
  refine WL.lv rfl (LV.nilCheck rfl) ?_
  refine WL.lv rfl (LV.fieldA Try.underlying103 rfl ti49.sz rfl) ?_
  refine WL.lv rfl (LV.load1 Try.underlying49 rfl rfl (Blk.cellN (SH.arg hL1 hgs) 0 rfl _ (KB.refl No _))) ?_
  refine WL.lv rfl (LV.lenL Try.underlying49 rfl) ?_
  rcases Decidable.em (i < (a.length : Int)) with hg1 | hg1
  · refine WL.lv rfl (LV.as (LV.ltI rfl rfl) (decide_eq_true hg1)) ?_
    refine WL.lv rfl (LV.mv rfl) ?_
    iterate 7 refine WL.off rfl ?_
    refine WL.lv rfl (LV.pickT rfl rfl) ?_
    refine WL.nil (thenQ.n ?_)
    refine WC.condT rfl ?_
    refine WC.skip (thenQ.n ?_)
    iterate 2 refine WC.block ?_
    refine WC.seq ?_
    have hS2 := SH.drew hL1
    refine WC.regionD [] (fun w_ => KB No w2.drew w_) [(.pure, 0), (.pure, 1), (.pure, 2), (.pure, 3), (.look, 4), (.pure, 5), (.pure, 6), (.pure, 7), (.pure, 8), (.pure, 9), (.pure, 10), (.pure, 11), (.look, 12), (.pure, 13), (.pure, 14), (.pure, 15), (.pure, 16), (.pure, 17), (.pure, 18), (.pure, 19), (.look, 20), (.pure, 21), (.pure, 22), (.look, 23), (.pure, 24), (.pure, 25), (.pure, 26), (.look, 27), (.pure, 28), (.pure, 29), (.look, 30), (.pure, 31), (.pure, 32), (.pure, 33)] (by kernel_rfl) (by kernel_rfl) (KB.refl _ _) ?_
    iterate 2 refine WS.pure rfl rfl (fun _ => LV.mv rfl) ?_
    refine WS.pure rfl rfl (fun _ => LV.nilCheck rfl) ?_
    refine WS.pure rfl rfl (fun _ => LV.fieldA Try.underlying103 rfl ti49.sz rfl) ?_
    refine WS.look rfl rfl (fun _ hk_ => LV.load1 Try.underlying49 rfl rfl (Blk.cellN (SH.arg hS2 hgs) 0 rfl _ hk_)) ?_
    refine WS.pure rfl rfl (fun _ => LV.lenL Try.underlying49 rfl) ?_
    refine WS.pure rfl rfl (fun _ => LV.as (LV.ltI rfl rfl) (decide_eq_true hg1)) ?_
    iterate 3 refine WS.pure rfl rfl (fun _ => LV.mv rfl) ?_
    refine WS.pure rfl rfl (fun _ => LV.nilCheck rfl) ?_
    refine WS.pure rfl rfl (fun _ => LV.fieldA Try.underlying103 rfl ti49.sz rfl) ?_
    refine WS.look rfl rfl (fun _ hk_ => LV.load1 Try.underlying49 rfl rfl (Blk.cellN (SH.arg hS2 hgs) 1 rfl _ hk_)) ?_
    refine WS.pure rfl rfl (fun _ => LV.lenL Try.underlying49 rfl) ?_
    rcases Decidable.em (j < (b.length : Int)) with hg2 | hg2
    · refine WS.pure rfl rfl (fun _ => LV.as (LV.ltI rfl rfl) (decide_eq_true hg2)) ?_
      refine WS.pure rfl rfl (fun _ => LV.pickT rfl rfl) ?_
      iterate 2 refine WS.pure rfl rfl (fun _ => LV.mv rfl) ?_
      refine WS.pure rfl rfl (fun _ => LV.nilCheck rfl) ?_
      refine WS.pure rfl rfl (fun _ => LV.fieldA Try.underlying103 rfl ti49.sz rfl) ?_
      refine WS.look rfl rfl (fun _ hk_ => LV.load1 Try.underlying49 rfl rfl (Blk.cellN (SH.arg hS2 hgs) 0 rfl _ hk_)) ?_
      refine WS.pure rfl rfl (fun _ => LV.mv rfl) ?_
      obtain ⟨A3, c3, e1, g1⟩ := St.elt (SH.stN hS2 ha) 0 i (by omega) (by omega)
      refine WS.pure rfl rfl (fun _ => LV.idxA Try.underlying49 ti3.sz rfl e1 rfl (by omega) (by omega)) ?_
      refine WS.look rfl rfl (fun _ hk_ => LV.load1 (v := (.int .i64 (gI a (i)))) Try.underlying3 rfl rfl (g1 _ hk_ 0 _ rfl)) ?_
      refine WS.pure rfl rfl (fun _ => LV.mv rfl) ?_
      refine WS.pure rfl rfl (fun _ => LV.nilCheck rfl) ?_
      refine WS.pure rfl rfl (fun _ => LV.fieldA Try.underlying103 rfl ti49.sz rfl) ?_
      refine WS.look rfl rfl (fun _ hk_ => LV.load1 Try.underlying49 rfl rfl (Blk.cellN (SH.arg hS2 hgs) 1 rfl _ hk_)) ?_
      refine WS.pure rfl rfl (fun _ => LV.mv rfl) ?_
      obtain ⟨A4, c4, e2, g2⟩ := St.elt (SH.stN hS2 hb) 0 j (by omega) (by omega)
      refine WS.pure rfl rfl (fun _ => LV.idxA Try.underlying49 ti3.sz rfl e2 rfl (by omega) (by omega)) ?_
      refine WS.look rfl rfl (fun _ hk_ => LV.load1 (v := (.int .i64 (gI b (j)))) Try.underlying3 rfl rfl (g2 _ hk_ 0 _ rfl)) ?_
      refine WS.pure rfl rfl (fun _ => LV.eqI rfl rfl) ?_
      refine WS.pure rfl rfl (fun _ => LV.pickT rfl rfl) ?_
      refine WS.pure rfl rfl (fun _ => LV.asg rfl) ?_
      refine WS.nil (thenQ.n ?_)
      refine WC.condP (p := (gI a (i)) = (gI b (j))) rfl (fun hc1 => ?_) (fun hc1 => ?_)
      · skip
        refine WC.seq ?_
        refine WC.region ?_
        iterate 3 refine WL.lv rfl (LV.mv rfl) ?_
        have hS3 : SH w S w2.drew [rowE eI 50 (.slice A ((out).length) c) out, blkE ob 47 #[(.slice A ((out).length) c)]] := (SH.front [_] hS2)
        have hS4 : SH w S w2.drew [blkE ob 47 #[(.slice A ((out).length) c)], rowE eI 50 (.slice A ((out).length) c) out] := (SH.front [_] hS3)
        have hT1 := SH.sub (Es := [_, _]) hS4
        refine WL.call rfl (XC.fn Try.func45 (by kernel_rfl) rfl rfl rfl) (put_calls (s := 1) (i := i) (j := j) hT1 (by omega)) ?_
        rintro v_ w3 ⟨A5, c5, rfl, hU1⟩
        have hS5 := SH.back (Es := [_, _]) hS4 hU1
        refine WL.nil (thenQ.n ?_)
        refine WC.region ?_
        refine WL.lv rfl (LV.mv rfl) ?_
        refine WL.lv rfl (LV.add rfl rfl (wr64 (by omega) (by omega))) ?_
        refine WL.lv rfl (LV.mv rfl) ?_
        refine WL.lv rfl (LV.add rfl rfl (wr64 (by omega) (by omega))) ?_
        iterate 2 refine WL.lv rfl (LV.asg rfl) ?_
        refine WL.nil (blockQ.n <| blockQ.n <| thenQ.n ?_)
        have hy_ := Wy_keep (a := a) (b := b) q0 (by omega) q2 (by omega) hc1
        have hd_ := D_eq (a := a) (b := b) q0 (by omega) q2 (by omega) hc1
        exact ⟨_, by omega, i + 1, j + 1, left, A5, c5, (out ++ [1]), by omega, by omega, by omega, by omega, by omega, (by rw [← q5, hy_]; simp), (by simp; omega), by omega, hS5, rfl, Weak.cons rfl <| Weak.cons rfl <| Weak.cons rfl <| Weak.cons rfl <| Weak.cons rfl <| Weak.nil _⟩
      · skip
        refine WC.seq ?_
        refine WC.region ?_
        iterate 2 refine WL.lv rfl (LV.mv rfl) ?_
        refine WL.lv rfl (LV.nilCheck rfl) ?_
        refine WL.lv rfl (LV.fieldA Try.underlying103 rfl ti49.sz rfl) ?_
        refine WL.lv rfl (LV.load1 Try.underlying49 rfl rfl (Blk.cellN (SH.arg hS2 hgs) 0 rfl _ (KB.refl No _))) ?_
        refine WL.lv rfl (LV.lenL Try.underlying49 rfl) ?_
        refine WL.lv rfl (LV.as (LV.ltI rfl rfl) (decide_eq_true hg1)) ?_
        iterate 3 refine WL.lv rfl (LV.mv rfl) ?_
        refine WL.lv rfl (LV.add rfl rfl (wr64 (by omega) (by omega))) ?_
        iterate 2 refine WL.lv rfl (LV.mv rfl) ?_
        refine WL.lv rfl (LV.sub rfl rfl (wr64 (by omega) (by omega))) ?_
        refine WL.call rfl (XC.fn Try.func64 (by kernel_rfl) rfl rfl rfl) (within_calls (i := i + 1) (j := j) (s := left - 1) (SH.arg hS2 hgs) hla hlb (SH.stN hS2 hrr) hF (by omega) (by omega) (by omega) (by omega) (by omega)) ?_
        rintro v_ w4 ⟨rfl, hk2⟩
        have hS6 := SH.same hS2 hk2
        refine WL.lv rfl (LV.pickT rfl rfl) ?_
        refine WL.lv rfl (LV.asg rfl) ?_
        refine WL.nil (thenQ.n ?_)
        refine WC.condP (p := (D a b (i + 1) j : Int) ≤ left - 1) rfl (fun hc2 => ?_) (fun hc2 => ?_)
        · skip
          refine WC.seq ?_
          refine WC.region ?_
          iterate 3 refine WL.lv rfl (LV.mv rfl) ?_
          have hS7 : SH w S w4 [rowE eI 50 (.slice A ((out).length) c) out, blkE ob 47 #[(.slice A ((out).length) c)]] := (SH.front [_] hS6)
          have hS8 : SH w S w4 [blkE ob 47 #[(.slice A ((out).length) c)], rowE eI 50 (.slice A ((out).length) c) out] := (SH.front [_] hS7)
          have hT2 := SH.sub (Es := [_, _]) hS8
          refine WL.call rfl (XC.fn Try.func45 (by kernel_rfl) rfl rfl rfl) (put_calls (s := 2) (i := i) (j := j) hT2 (by omega)) ?_
          rintro v_ w5 ⟨A6, c6, rfl, hU2⟩
          have hS9 := SH.back (Es := [_, _]) hS8 hU2
          refine WL.nil (thenQ.n ?_)
          refine WC.region ?_
          refine WL.lv rfl (LV.mv rfl) ?_
          refine WL.lv rfl (LV.add rfl rfl (wr64 (by omega) (by omega))) ?_
          refine WL.lv rfl (LV.mv rfl) ?_
          refine WL.lv rfl (LV.sub rfl rfl (wr64 (by omega) (by omega))) ?_
          iterate 2 refine WL.lv rfl (LV.asg rfl) ?_
          refine WL.nil (blockQ.n <| blockQ.n <| thenQ.n ?_)
          obtain ⟨hy_, hd_⟩ := Wy_out (a := a) (b := b) q0 (by omega) q2 q3 (fun _ => hc1) (by omega)
          exact ⟨_, by omega, i + 1, j, left - 1, A6, c6, (out ++ [2]), by omega, by omega, by omega, by omega, by omega, (by rw [← q5, hy_]; simp), (by simp; omega), by omega, hS9, rfl, Weak.cons rfl <| Weak.cons rfl <| Weak.cons rfl <| Weak.cons rfl <| Weak.cons rfl <| Weak.nil _⟩
        · skip
          refine WC.seq ?_
          refine WC.region ?_
          iterate 3 refine WL.lv rfl (LV.mv rfl) ?_
          have hS10 : SH w S w4 [rowE eI 50 (.slice A ((out).length) c) out, blkE ob 47 #[(.slice A ((out).length) c)]] := (SH.front [_] hS6)
          have hS11 : SH w S w4 [blkE ob 47 #[(.slice A ((out).length) c)], rowE eI 50 (.slice A ((out).length) c) out] := (SH.front [_] hS10)
          have hT3 := SH.sub (Es := [_, _]) hS11
          refine WL.call rfl (XC.fn Try.func45 (by kernel_rfl) rfl rfl rfl) (put_calls (s := 3) (i := i) (j := j) hT3 (by omega)) ?_
          rintro v_ w6 ⟨A7, c7, rfl, hU3⟩
          have hS12 := SH.back (Es := [_, _]) hS11 hU3
          refine WL.nil (thenQ.n ?_)
          refine WC.region ?_
          refine WL.lv rfl (LV.mv rfl) ?_
          refine WL.lv rfl (LV.add rfl rfl (wr64 (by omega) (by omega))) ?_
          refine WL.lv rfl (LV.mv rfl) ?_
          refine WL.lv rfl (LV.sub rfl rfl (wr64 (by omega) (by omega))) ?_
          iterate 2 refine WL.lv rfl (LV.asg rfl) ?_
          refine WL.nil (blockQ.n <| blockQ.n <| thenQ.n ?_)
          obtain ⟨hj_, hy_, hd_⟩ := Wy_in (a := a) (b := b) q0 q1 q2 q3 (by omega) (fun _ _ => hc1) (fun h_ => by omega)
          exact ⟨_, by omega, i, j + 1, left - 1, A7, c7, (out ++ [3]), by omega, by omega, by omega, by omega, by omega, (by rw [← q5, hy_]; simp), (by simp; omega), by omega, hS12, rfl, Weak.cons rfl <| Weak.cons rfl <| Weak.cons rfl <| Weak.cons rfl <| Weak.cons rfl <| Weak.nil _⟩
    · refine WS.pure rfl rfl (fun _ => LV.as (LV.ltI rfl rfl) (decide_eq_false hg2)) ?_
      refine WS.pure rfl rfl (fun _ => LV.pickT rfl rfl) ?_
      refine WS.pure rfl rfl (fun _ => LV.mv rfl) ?_
      iterate 3 refine WS.off rfl rfl ?_
      refine WS.offL rfl rfl ?_
      iterate 2 refine WS.off rfl rfl ?_
      refine WS.offL rfl rfl ?_
      iterate 3 refine WS.off rfl rfl ?_
      refine WS.offL rfl rfl ?_
      iterate 2 refine WS.off rfl rfl ?_
      refine WS.offL rfl rfl ?_
      refine WS.off rfl rfl ?_
      refine WS.pure rfl rfl (fun _ => LV.pickF rfl rfl) ?_
      refine WS.pure rfl rfl (fun _ => LV.asg rfl) ?_
      refine WS.nil (thenQ.n ?_)
      refine WC.condF rfl ?_
      refine WC.seq ?_
      refine WC.region ?_
      iterate 2 refine WL.lv rfl (LV.mv rfl) ?_
      refine WL.lv rfl (LV.nilCheck rfl) ?_
      refine WL.lv rfl (LV.fieldA Try.underlying103 rfl ti49.sz rfl) ?_
      refine WL.lv rfl (LV.load1 Try.underlying49 rfl rfl (Blk.cellN (SH.arg hS2 hgs) 0 rfl _ (KB.refl No _))) ?_
      refine WL.lv rfl (LV.lenL Try.underlying49 rfl) ?_
      refine WL.lv rfl (LV.as (LV.ltI rfl rfl) (decide_eq_true hg1)) ?_
      iterate 3 refine WL.lv rfl (LV.mv rfl) ?_
      refine WL.lv rfl (LV.add rfl rfl (wr64 (by omega) (by omega))) ?_
      iterate 2 refine WL.lv rfl (LV.mv rfl) ?_
      refine WL.lv rfl (LV.sub rfl rfl (wr64 (by omega) (by omega))) ?_
      refine WL.call rfl (XC.fn Try.func64 (by kernel_rfl) rfl rfl rfl) (within_calls (i := i + 1) (j := j) (s := left - 1) (SH.arg hS2 hgs) hla hlb (SH.stN hS2 hrr) hF (by omega) (by omega) (by omega) (by omega) (by omega)) ?_
      rintro v_ w7 ⟨rfl, hk3⟩
      have hS13 := SH.same hS2 hk3
      refine WL.lv rfl (LV.pickT rfl rfl) ?_
      refine WL.lv rfl (LV.asg rfl) ?_
      refine WL.nil (thenQ.n ?_)
      refine WC.condP (p := (D a b (i + 1) j : Int) ≤ left - 1) rfl (fun hc3 => ?_) (fun hc3 => ?_)
      · skip
        refine WC.seq ?_
        refine WC.region ?_
        iterate 3 refine WL.lv rfl (LV.mv rfl) ?_
        have hS14 : SH w S w7 [rowE eI 50 (.slice A ((out).length) c) out, blkE ob 47 #[(.slice A ((out).length) c)]] := (SH.front [_] hS13)
        have hS15 : SH w S w7 [blkE ob 47 #[(.slice A ((out).length) c)], rowE eI 50 (.slice A ((out).length) c) out] := (SH.front [_] hS14)
        have hT4 := SH.sub (Es := [_, _]) hS15
        refine WL.call rfl (XC.fn Try.func45 (by kernel_rfl) rfl rfl rfl) (put_calls (s := 2) (i := i) (j := j) hT4 (by omega)) ?_
        rintro v_ w8 ⟨A8, c8, rfl, hU4⟩
        have hS16 := SH.back (Es := [_, _]) hS15 hU4
        refine WL.nil (thenQ.n ?_)
        refine WC.region ?_
        refine WL.lv rfl (LV.mv rfl) ?_
        refine WL.lv rfl (LV.add rfl rfl (wr64 (by omega) (by omega))) ?_
        refine WL.lv rfl (LV.mv rfl) ?_
        refine WL.lv rfl (LV.sub rfl rfl (wr64 (by omega) (by omega))) ?_
        iterate 2 refine WL.lv rfl (LV.asg rfl) ?_
        refine WL.nil (blockQ.n <| blockQ.n <| thenQ.n ?_)
        obtain ⟨hy_, hd_⟩ := Wy_out (a := a) (b := b) q0 (by omega) q2 q3 (fun h_ => by omega) (by omega)
        exact ⟨_, by omega, i + 1, j, left - 1, A8, c8, (out ++ [2]), by omega, by omega, by omega, by omega, by omega, (by rw [← q5, hy_]; simp), (by simp; omega), by omega, hS16, rfl, Weak.cons rfl <| Weak.cons rfl <| Weak.cons rfl <| Weak.cons rfl <| Weak.cons rfl <| Weak.nil _⟩
      · skip
        refine WC.seq ?_
        refine WC.region ?_
        iterate 3 refine WL.lv rfl (LV.mv rfl) ?_
        have hS17 : SH w S w7 [rowE eI 50 (.slice A ((out).length) c) out, blkE ob 47 #[(.slice A ((out).length) c)]] := (SH.front [_] hS13)
        have hS18 : SH w S w7 [blkE ob 47 #[(.slice A ((out).length) c)], rowE eI 50 (.slice A ((out).length) c) out] := (SH.front [_] hS17)
        have hT5 := SH.sub (Es := [_, _]) hS18
        refine WL.call rfl (XC.fn Try.func45 (by kernel_rfl) rfl rfl rfl) (put_calls (s := 3) (i := i) (j := j) hT5 (by omega)) ?_
        rintro v_ w9 ⟨A9, c9, rfl, hU5⟩
        have hS19 := SH.back (Es := [_, _]) hS18 hU5
        refine WL.nil (thenQ.n ?_)
        refine WC.region ?_
        refine WL.lv rfl (LV.mv rfl) ?_
        refine WL.lv rfl (LV.add rfl rfl (wr64 (by omega) (by omega))) ?_
        refine WL.lv rfl (LV.mv rfl) ?_
        refine WL.lv rfl (LV.sub rfl rfl (wr64 (by omega) (by omega))) ?_
        iterate 2 refine WL.lv rfl (LV.asg rfl) ?_
        refine WL.nil (blockQ.n <| blockQ.n <| thenQ.n ?_)
        obtain ⟨hj_, hy_, hd_⟩ := Wy_in (a := a) (b := b) q0 q1 q2 q3 (by omega) (fun h1_ h2_ => by omega) (fun h_ => by omega)
        exact ⟨_, by omega, i, j + 1, left - 1, A9, c9, (out ++ [3]), by omega, by omega, by omega, by omega, by omega, (by rw [← q5, hy_]; simp), (by simp; omega), by omega, hS19, rfl, Weak.cons rfl <| Weak.cons rfl <| Weak.cons rfl <| Weak.cons rfl <| Weak.cons rfl <| Weak.nil _⟩
  · refine WL.lv rfl (LV.as (LV.ltI rfl rfl) (decide_eq_false hg1)) ?_
    iterate 3 refine WL.lv rfl (LV.mv rfl) ?_
    refine WL.lv rfl (LV.nilCheck rfl) ?_
    refine WL.lv rfl (LV.fieldA Try.underlying103 rfl ti49.sz rfl) ?_
    refine WL.lv rfl (LV.load1 Try.underlying49 rfl rfl (Blk.cellN (SH.arg hL1 hgs) 1 rfl _ (KB.refl No _))) ?_
    refine WL.lv rfl (LV.lenL Try.underlying49 rfl) ?_
    refine WL.lv rfl (LV.ltI rfl rfl) ?_
    refine WL.lv rfl (LV.pickF rfl rfl) ?_
    refine WL.nil (thenQ.n ?_)
    refine WC.condP (p := j < (b.length : Int)) rfl (fun hc4 => ?_) (fun hc4 => ?_)
    · skip
      refine WC.skip (thenQ.n ?_)
      iterate 2 refine WC.block ?_
      refine WC.seq ?_
      have hS20 := SH.drew hL1
      refine WC.regionD [] (fun w_ => KB No w2.drew w_) [(.pure, 0), (.pure, 1), (.pure, 2), (.pure, 3), (.look, 4), (.pure, 5), (.pure, 6), (.pure, 7), (.pure, 8), (.pure, 9), (.pure, 10), (.pure, 11), (.look, 12), (.pure, 13), (.pure, 14), (.pure, 15), (.pure, 16), (.pure, 17), (.pure, 18), (.pure, 19), (.look, 20), (.pure, 21), (.pure, 22), (.look, 23), (.pure, 24), (.pure, 25), (.pure, 26), (.look, 27), (.pure, 28), (.pure, 29), (.look, 30), (.pure, 31), (.pure, 32), (.pure, 33)] (by kernel_rfl) (by kernel_rfl) (KB.refl _ _) ?_
      iterate 2 refine WS.pure rfl rfl (fun _ => LV.mv rfl) ?_
      refine WS.pure rfl rfl (fun _ => LV.nilCheck rfl) ?_
      refine WS.pure rfl rfl (fun _ => LV.fieldA Try.underlying103 rfl ti49.sz rfl) ?_
      refine WS.look rfl rfl (fun _ hk_ => LV.load1 Try.underlying49 rfl rfl (Blk.cellN (SH.arg hS20 hgs) 0 rfl _ hk_)) ?_
      refine WS.pure rfl rfl (fun _ => LV.lenL Try.underlying49 rfl) ?_
      refine WS.pure rfl rfl (fun _ => LV.as (LV.ltI rfl rfl) (decide_eq_false hg1)) ?_
      refine WS.pure rfl rfl (fun _ => LV.mv rfl) ?_
      iterate 4 refine WS.off rfl rfl ?_
      refine WS.offL rfl rfl ?_
      iterate 2 refine WS.off rfl rfl ?_
      refine WS.pure rfl rfl (fun _ => LV.pickF rfl rfl) ?_
      refine WS.pure rfl rfl (fun _ => LV.mv rfl) ?_
      iterate 3 refine WS.off rfl rfl ?_
      refine WS.offL rfl rfl ?_
      iterate 2 refine WS.off rfl rfl ?_
      refine WS.offL rfl rfl ?_
      iterate 3 refine WS.off rfl rfl ?_
      refine WS.offL rfl rfl ?_
      iterate 2 refine WS.off rfl rfl ?_
      refine WS.offL rfl rfl ?_
      refine WS.off rfl rfl ?_
      refine WS.pure rfl rfl (fun _ => LV.pickF rfl rfl) ?_
      refine WS.pure rfl rfl (fun _ => LV.asg rfl) ?_
      refine WS.nil (thenQ.n ?_)
      refine WC.condF rfl ?_
      refine WC.seq ?_
      refine WC.region ?_
      iterate 2 refine WL.lv rfl (LV.mv rfl) ?_
      refine WL.lv rfl (LV.nilCheck rfl) ?_
      refine WL.lv rfl (LV.fieldA Try.underlying103 rfl ti49.sz rfl) ?_
      refine WL.lv rfl (LV.load1 Try.underlying49 rfl rfl (Blk.cellN (SH.arg hS20 hgs) 0 rfl _ (KB.refl No _))) ?_
      refine WL.lv rfl (LV.lenL Try.underlying49 rfl) ?_
      refine WL.lv rfl (LV.as (LV.ltI rfl rfl) (decide_eq_false hg1)) ?_
      refine WL.lv rfl (LV.mv rfl) ?_
      iterate 7 refine WL.off rfl ?_
      refine WL.lv rfl (LV.pickF rfl rfl) ?_
      refine WL.lv rfl (LV.asg rfl) ?_
      refine WL.nil (thenQ.n ?_)
      refine WC.condF rfl ?_
      refine WC.seq ?_
      refine WC.region ?_
      iterate 3 refine WL.lv rfl (LV.mv rfl) ?_
      have hS21 : SH w S w2.drew [rowE eI 50 (.slice A ((out).length) c) out, blkE ob 47 #[(.slice A ((out).length) c)]] := (SH.front [_] hS20)
      have hS22 : SH w S w2.drew [blkE ob 47 #[(.slice A ((out).length) c)], rowE eI 50 (.slice A ((out).length) c) out] := (SH.front [_] hS21)
      have hT6 := SH.sub (Es := [_, _]) hS22
      refine WL.call rfl (XC.fn Try.func45 (by kernel_rfl) rfl rfl rfl) (put_calls (s := 3) (i := i) (j := j) hT6 (by omega)) ?_
      rintro v_ w10 ⟨A10, c10, rfl, hU6⟩
      have hS23 := SH.back (Es := [_, _]) hS22 hU6
      refine WL.nil (thenQ.n ?_)
      refine WC.region ?_
      refine WL.lv rfl (LV.mv rfl) ?_
      refine WL.lv rfl (LV.add rfl rfl (wr64 (by omega) (by omega))) ?_
      refine WL.lv rfl (LV.mv rfl) ?_
      refine WL.lv rfl (LV.sub rfl rfl (wr64 (by omega) (by omega))) ?_
      iterate 2 refine WL.lv rfl (LV.asg rfl) ?_
      refine WL.nil (blockQ.n <| blockQ.n <| thenQ.n ?_)
      obtain ⟨hj_, hy_, hd_⟩ := Wy_in (a := a) (b := b) q0 q1 q2 q3 (by omega) (fun h1_ h2_ => by omega) (fun h_ => by omega)
      exact ⟨_, by omega, i, j + 1, left - 1, A10, c10, (out ++ [3]), by omega, by omega, by omega, by omega, by omega, (by rw [← q5, hy_]; simp), (by simp; omega), by omega, hS23, rfl, Weak.cons rfl <| Weak.cons rfl <| Weak.cons rfl <| Weak.cons rfl <| Weak.cons rfl <| Weak.nil _⟩
    · skip
      refine WC.exit (thenQ.x <| thenQ.x <| blockQ.hit <| ?_)
      exact ⟨_, fun a ha => res0 rfl, _, _, rfl, (by rw [Wy_end (by omega) (by omega)] at q5; simpa using q5 : out = (way a b)) ▸ hL1⟩

theorem long_calls {w : World} {A0 A1 : Option Addr} {n0 n1 c0 c1 : Nat} :
    Calls Try.prog 42 #[(.slice A0 n0 c0), (.slice A1 n1 c1)] w fun e w' => ∃ v, e = .returned v ∧ (fun v w' => v = .bool (decide (n0 > 400 ∨ n1 > 400)) ∧ KB No w w') v w' := by
  have hS : SH w No w [] := SH.nil _ _
  refine calls (l := litOf [(.slice A0 n0 c0), (.slice A1 n1 c1)] 0) Try.func42 rfl (n := 13) rfl (Nat.le_of_ble_eq_true rfl) (lit_args _) ?_
  refine WC.seq ?_
  refine WC.region ?_
  refine WL.lv rfl (LV.asg rfl) ?_
  refine WL.nil (thenQ.n ?_)
  refine WC.seq ?_
  refine WC.region ?_
  refine WL.lv rfl (LV.mv rfl) ?_
  refine WL.lv rfl (LV.lenL Try.underlying49 rfl) ?_
  rcases Decidable.em ((n0 : Int) > 400) with hg1 | hg1
  · refine WL.lv rfl (LV.as (LV.gtI rfl rfl) (decide_eq_true hg1)) ?_
    refine WL.lv rfl (LV.mv rfl) ?_
    iterate 3 refine WL.off rfl ?_
    refine WL.lv rfl (LV.pickT rfl rfl) ?_
    refine WL.lv rfl (LV.asg rfl) ?_
    refine WL.nil (thenQ.n ?_)
    refine WC.ret (?_)
    exact ⟨_, fun a ha => res1 rfl ha rfl, congrArg Value.bool (decide_eq_true (show n0 > 400 ∨ n1 > 400 by omega)).symm, hS.kb⟩
  · refine WL.lv rfl (LV.as (LV.gtI rfl rfl) (decide_eq_false hg1)) ?_
    iterate 2 refine WL.lv rfl (LV.mv rfl) ?_
    refine WL.lv rfl (LV.lenL Try.underlying49 rfl) ?_
    refine WL.lv rfl (LV.gtI rfl rfl) ?_
    refine WL.lv rfl (LV.pickF rfl rfl) ?_
    refine WL.lv rfl (LV.asg rfl) ?_
    refine WL.nil (thenQ.n ?_)
    refine WC.ret (?_)
    exact ⟨_, fun a ha => res1 rfl ha rfl, congrArg Value.bool (decide_eq_decide.2 (by omega)), hS.kb⟩

theorem steps7_calls {w : World} {A0 A1 : Option Addr} {a b : List Int} {c0 c1 : Nat} (ha : St No w (Rd eI (.slice A0 a.length c0) a)) (hb : St No w (Rd eI (.slice A1 b.length c1) b)) :
    Calls Try.prog 31 #[(.slice A0 a.length c0), (.slice A1 b.length c1)] w fun e w' => ∃ v, e = .returned v ∧ (fun v w' => ∃ A' c', v = .slice A' (Stp a b).length c' ∧ SH w No w' [rowE eI 50 (.slice A' (Stp a b).length c') (Stp a b)]) v w' := by
  have hS : SH w No w [] := SH.nil _ _
  refine calls (l := litOf [(.slice A0 a.length c0), (.slice A1 b.length c1)] 0) Try.func31 rfl (n := 15) rfl (Nat.le_of_ble_eq_true rfl) (lit_args _) ?_
  refine WC.seq ?_
  refine WC.region ?_
  refine WL.lv rfl (LV.asg rfl) ?_
  refine WL.nil (thenQ.n ?_)
  iterate 2 refine WC.seq ?_
  refine WC.region ?_
  iterate 2 refine WL.lv rfl (LV.mv rfl) ?_
  refine WL.call rfl (XC.fn Try.func42 (by kernel_rfl) rfl rfl rfl) (long_calls) ?_
  rintro v_ w1 ⟨rfl, hk1⟩
  have hS1 := SH.same hS hk1
  refine WL.nil (thenQ.n ?_)
  refine WC.condP (p := a.length > 400 ∨ b.length > 400) rfl (fun hc1 => ?_) (fun hc1 => ?_)
  · skip
    refine WC.seq ?_
    refine WC.region ?_
    refine WL.lv rfl (LV.asg rfl) ?_
    refine WL.nil (thenQ.n ?_)
    refine WC.ret (thenQ.r <| ?_)
    have hS2 := SH.nilRow (E := eI) (T := 50) hS1
    exact ⟨_, fun a ha => res1 rfl ha rfl, (by rw [show Stp a b = [] from if_pos hc1]; exact ⟨_, _, rfl, hS2⟩)⟩
  · have hla : a.length ≤ 400 := by omega
    have hlb : b.length ≤ 400 := by omega
    refine WC.skip (thenQ.n ?_)
    refine WC.seq ?_
    refine WC.region ?_
    refine WL.xe rfl (XE.alloc #[(.slice none 0 0)] hS1 ti47 rfl) ?_
    rintro _ w2 ⟨b1, rfl, hS3, hk2⟩
    refine WL.nil (thenQ.n ?_)
    refine WC.seq ?_
    refine WC.region ?_
    iterate 2 refine WL.lv rfl (LV.mv rfl) ?_
    refine WL.call rfl (XC.fn Try.func43 (by kernel_rfl) rfl rfl rfl) (fill_calls (SH.stN hS3 ha) (SH.stN hS3 hb) hla hlb) ?_
    rintro v_ w3 ⟨gb1, A2, c2, rows1, rfl, hF1, hn1, hS4⟩
    have hS5 := SH.joinN hS3 hS4
    refine WL.lv rfl (LV.mkFunc rfl) ?_
    have hS6 := SH.nilRow (E := eI) (T := 50) hS5
    have hS7 : SH w No w3 [blkE b1 47 #[(.slice none 0 0)], rowE eI 50 (.slice none 0 0) [], blkE gb1 103 #[(.slice A0 a.length c0), (.slice A1 b.length c1), (.slice A2 rows1.length c2)], rrE eI 49 3 (.slice A2 rows1.length c2) rows1] := (SH.front [_, _, _] hS6)
    have hT1 := SH.sub (Es := [_, _]) hS7
    refine WL.call rfl (XC.fn Try.func44 (by kernel_rfl) rfl rfl rfl) (walk_calls (SH.stE (Es := [blkE b1 47 #[(.slice none 0 0)], rowE eI 50 (.slice none 0 0) []]) hS7 (.head _)) (SH.stA (Es := [blkE b1 47 #[(.slice none 0 0)], rowE eI 50 (.slice none 0 0) []]) hS7 ha) (SH.stA (Es := [blkE b1 47 #[(.slice none 0 0)], rowE eI 50 (.slice none 0 0) []]) hS7 hb) ((SH.stE (Es := [blkE b1 47 #[(.slice none 0 0)], rowE eI 50 (.slice none 0 0) []]) hS7 (.tail _ (.head _))).imp fun _ h => rr_rd h) hF1 hn1 (by omega) (by omega) hT1) ?_
    rintro v_ w4 ⟨A3, c3, rfl, hU1⟩
    have hS8 := SH.back (Es := [_, _]) hS7 hU1
    refine WL.nil (thenQ.n ?_)
    refine WC.seq ?_
    refine WC.region ?_
    refine WL.lv rfl (LV.load1 Try.underlying47 rfl rfl (Blk.cellN (SH.at hS8 (.head _)) 0 rfl _ (KB.refl No _))) ?_
    refine WL.lv rfl (LV.asg rfl) ?_
    refine WL.nil (thenQ.n ?_)
    refine WC.ret (?_)
    have hS9 : SH w No w4 [rowE eI 50 (.slice A3 (((way a b)).length) c3) (way a b)] := (SH.take 1 rfl (SH.front [_] hS8))
    exact ⟨_, fun a ha => res1 rfl ha rfl, (by rw [show Stp a b = way a b from if_neg hc1]; exact ⟨_, _, rfl, hS9⟩)⟩

theorem steps7_eq {w : World} {A0 A1 : Option Addr} {a b : List Int} {c0 c1 na nb : Nat} {r : List Int} {nr : Nat} (hr : Stp a b = r) (hnr : r.length = nr) (ha : St No w (Rd eI (.slice A0 na c0) a)) (hb : St No w (Rd eI (.slice A1 nb c1) b)) (hna : a.length = na) (hnb : b.length = nb) : Calls Try.prog 31 #[(.slice A0 na c0), (.slice A1 nb c1)] w fun e w' => ∃ v, e = .returned v ∧ (fun v w' => ∃ A' c', v = .slice A' nr c' ∧ SH w No w' [rowE eI 50 (.slice A' nr c') r]) v w' := by
  subst hna hnb hnr hr; exact steps7_calls ha hb

theorem table_calls {w : World} {A0 A1 : Option Addr} {a b : List Int} {c0 c1 : Nat} (ha : St No w (Rd eI (.slice A0 a.length c0) a)) (hb : St No w (Rd eI (.slice A1 b.length c1) b)) (hla : a.length ≤ 400) (hlb : b.length ≤ 400) :
    Calls Try.prog 33 #[(.slice A0 a.length c0), (.slice A1 b.length c1)] w fun e w' => ∃ v, e = .returned v ∧ (fun v w' => ∃ A2 n2 c2 tb, v = .slice A2 n2 c2 ∧ TabOK a b tb (-1) b.length ∧ SH w No w' [rrE eI 49 3 (.slice A2 n2 c2) tb]) v w' := by
  have hS : SH w No w [] := SH.nil _ _
  refine calls (l := litOf [(.slice A0 a.length c0), (.slice A1 b.length c1)] 0) Try.func33 rfl (n := 135) rfl (Nat.le_of_ble_eq_true rfl) (lit_args _) ?_
  refine WC.seq ?_
  refine WC.region ?_
  refine WL.lv rfl (LV.asg rfl) ?_
  refine WL.nil (thenQ.n ?_)
  refine WC.seq ?_
  refine WC.region ?_
  refine WL.xe rfl (XE.buildSlice (E := eV) [] #[] [] hS Try.underlying45 ti49 rfl (by decide) (by kernel_rfl) (.inr rfl) rfl rfl (by decide)) ?_
  rintro _ w1 ⟨b1, rfl, hS1, hk1⟩
  refine WL.lv rfl (LV.asg rfl) ?_
  refine WL.nil (thenQ.n ?_)
  iterate 2 refine WC.seq ?_
  refine WC.region ?_
  have hS2 := SH.rr0 (E := eI) (T1 := 3) hS1
  refine WL.lv rfl (LV.asg rfl) ?_
  refine WL.nil (thenQ.n ?_)
  refine WC.block ?_
  refine WC.loop (fun m_ f_ w_ => ∃ (i : Int) (A : Option Addr) (c : Nat) (rows : List (SV × List Int)), ((rows.length : Int) = i) ∧ (i ≤ (a.length : Int) + 1) ∧ (∀ p ∈ rows, p.2.length = b.length + 1) ∧ SH w No w_ [rrE eI 49 3 (.slice A rows.length c) rows] ∧ m_ = (((a.length : Int) + 1 - i).toNat) ∧ Weak (lit [(0, (.slice A0 a.length c0)), (1, (.slice A1 b.length c1)), (4, (.slice none 0 0)), (5, (.slice A rows.length c)), (6, (.int .i64 i))]) f_) _ ⟨0, (some ⟨b1, 0, none⟩), 0, [], rfl, by omega, (fun p hp => by cases hp), hS2, rfl, Weak.cons rfl <| Weak.cons rfl <| Weak.cons rfl <| Weak.cons rfl <| Weak.cons rfl <| Weak.nil _⟩ ?_
  rintro m1 f1 w2 ⟨i, A, c, rows, q0, q1, q2, hL1, rfl, hw1⟩
  refine WC.weak hw1 ?_
  clear hw1
  iterate 2 refine WC.seq ?_
  refine WC.region ?_
  iterate 2 refine WL.lv rfl (LV.mv rfl) ?_
  refine WL.lv rfl (LV.lenL Try.underlying49 rfl) ?_
  refine WL.lv rfl (LV.leI rfl rfl) ?_
  refine WL.nil (thenQ.n ?_)
  refine WC.condP (p := i ≤ (a.length : Int)) rfl (fun hc1 => ?_) (fun hc1 => ?_)
  · skip
    refine WC.skip (thenQ.n ?_)
    refine WC.seq ?_
    refine WC.block ?_
    refine WC.region ?_
    iterate 2 refine WL.lv rfl (LV.mv rfl) ?_
    refine WL.lv rfl (LV.lenL Try.underlying49 rfl) ?_
    refine WL.lv rfl (LV.add rfl rfl (wr64 (by omega) (by omega))) ?_
    refine WL.xe rfl (XE.make (E := eI) (n := (b.length + 1)) 0 hL1 Try.underlying49 ti3 rfl rfl rfl rfl (by omega) (by omega) (by omega) (by omega)) ?_
    rintro _ w3 ⟨b2, rfl, hS3, hk2⟩
    refine WL.xe rfl (XE.buildSlice (E := eV) [(0, (.slice (some ⟨b2, 0, none⟩) (b.length + 1) (b.length + 1)))] #[(.slice (some ⟨b2, 0, none⟩) (b.length + 1) (b.length + 1))] [(⟨(some ⟨b2, 0, none⟩), (b.length + 1), (b.length + 1)⟩ : SV)] hS3 Try.underlying45 ti49 rfl (by decide) (by kernel_rfl) (.inr rfl) rfl rfl (by decide)) ?_
    rintro _ w4 ⟨b3, rfl, hS4, hk3⟩
    have hS5 : SH w No w4 [rowE eI 3 (.slice (some ⟨b2, 0, none⟩) (b.length + 1) (b.length + 1)) (List.replicate (b.length + 1) 0), rowE eV 49 (.slice (some ⟨b3, 0, none⟩) 1 1) [(⟨(some ⟨b2, 0, none⟩), (b.length + 1), (b.length + 1)⟩ : SV)], rrE eI 49 3 (.slice A rows.length c) rows] := (SH.front [_] hS4)
    have hS6 : SH w No w4 [rrE eI 49 3 (.slice A rows.length c) rows, rowE eI 3 (.slice (some ⟨b2, 0, none⟩) (b.length + 1) (b.length + 1)) (List.replicate (b.length + 1) 0), rowE eV 49 (.slice (some ⟨b3, 0, none⟩) 1 1) [(⟨(some ⟨b2, 0, none⟩), (b.length + 1), (b.length + 1)⟩ : SV)]] := (SH.front [_, _] hS5)
    refine WL.xe rfl (XE.appendRR (sv := (⟨(some ⟨b2, 0, none⟩), (b.length + 1), (b.length + 1)⟩ : SV)) hS6 rfl Try.underlying45 ti49 (St.now (SH.rd hS6 (.tail _ (.tail _ (.head _))))) rfl rfl (by omega) (by omega)) ?_
    rintro _ w5 ⟨A2, c2, rfl, hS7, hk4⟩
    refine WL.lv rfl (LV.asg rfl) ?_
    refine WL.nil (blockQ.n <| thenQ.n ?_)
    refine WC.region ?_
    refine WL.lv rfl (LV.mv rfl) ?_
    refine WL.lv rfl (LV.add rfl rfl (wr64 (by omega) (by omega))) ?_
    refine WL.lv rfl (LV.asg rfl) ?_
    refine WL.nil (thenQ.n ?_)
    have hS8 : SH w No w5 [rrE eI 49 3 (.slice A2 ((rows ++ [((⟨(some ⟨b2, 0, none⟩), (b.length + 1), (b.length + 1)⟩ : SV), (List.replicate (b.length + 1) 0))]).length) c2) (rows ++ [((⟨(some ⟨b2, 0, none⟩), (b.length + 1), (b.length + 1)⟩ : SV), (List.replicate (b.length + 1) 0))])] := (SH.take 1 rfl hS7)
    exact ⟨_, by omega, i + 1, A2, c2, (rows ++ [((⟨(some ⟨b2, 0, none⟩), (b.length + 1), (b.length + 1)⟩ : SV), (List.replicate (b.length + 1) 0))]), (by simp; omega), by omega, (fun p hp => by rcases List.mem_append.1 hp with hp | hp; exact q2 p hp; simp at hp; subst hp; simp), hS8, rfl, Weak.cons rfl <| Weak.cons rfl <| Weak.cons rfl <| Weak.cons rfl <| Weak.cons rfl <| Weak.nil _⟩
  · skip
    refine WC.exit (thenQ.x <| thenQ.x <| blockQ.hit <| thenQ.n ?_)
    iterate 2 refine WC.seq ?_
    refine WC.region ?_
    refine WL.lv rfl (LV.mv rfl) ?_
    refine WL.lv rfl (LV.lenL Try.underlying49 rfl) ?_
    refine WL.lv rfl (LV.asg rfl) ?_
    refine WL.nil (thenQ.n ?_)
    refine WC.block ?_
    refine WC.loop (fun m_ f_ w_ => ∃ (i1 : Int) (tb : List (SV × List Int)), (-1 ≤ i1) ∧ (i1 ≤ a.length) ∧ (TabOK a b tb i1 b.length) ∧ SH w No w_ [rrE eI 49 3 (.slice A rows.length c) tb] ∧ m_ = ((i1 + 1).toNat) ∧ Weak (lit [(0, (.slice A0 a.length c0)), (1, (.slice A1 b.length c1)), (4, (.slice none 0 0)), (5, (.slice A rows.length c)), (7, (.int .i64 i1))]) f_) _ ⟨(a.length : Int), rows, by omega, by omega, (TabOK.init (by omega) q2), hL1, rfl, Weak.cons rfl <| Weak.cons rfl <| Weak.cons rfl <| Weak.cons rfl <| Weak.cons rfl <| Weak.nil _⟩ ?_
    rintro m2 f2 w6 ⟨i1, tb, r0, r1, r2, hL2, rfl, hw2⟩
    refine WC.weak hw2 ?_
    clear hw2
    iterate 2 refine WC.seq ?_
    refine WC.region ?_
    refine WL.lv rfl (LV.mv rfl) ?_
    refine WL.lv rfl (LV.geI rfl rfl) ?_
    refine WL.nil (thenQ.n ?_)
    refine WC.condP (p := i1 ≥ 0) rfl (fun hc26 => ?_) (fun hc26 => ?_)
    · skip
      refine WC.skip (thenQ.n ?_)
      refine WC.seq ?_
      refine WC.block ?_
      refine WC.seq ?_
      refine WC.region ?_
      refine WL.lv rfl (LV.mv rfl) ?_
      refine WL.lv rfl (LV.lenL Try.underlying49 rfl) ?_
      refine WL.lv rfl (LV.asg rfl) ?_
      refine WL.nil (thenQ.n ?_)
      refine WC.block ?_
      refine WC.loop (fun m_ f_ w_ => ∃ (j1 : Int) (tb : List (SV × List Int)), (-1 ≤ j1) ∧ (j1 ≤ b.length) ∧ (TabOK a b tb i1 j1) ∧ SH w No w_ [rrE eI 49 3 (.slice A rows.length c) tb] ∧ m_ = ((j1 + 1).toNat) ∧ Weak (lit [(0, (.slice A0 a.length c0)), (1, (.slice A1 b.length c1)), (4, (.slice none 0 0)), (5, (.slice A rows.length c)), (7, (.int .i64 i1)), (8, (.int .i64 j1))]) f_) _ ⟨(b.length : Int), tb, by omega, by omega, r2, hL2, rfl, Weak.cons rfl <| Weak.cons rfl <| Weak.cons rfl <| Weak.cons rfl <| Weak.cons rfl <| Weak.cons rfl <| Weak.nil _⟩ ?_
      rintro m3 f3 w7 ⟨j1, tb, s0, s1, s2, hL3, rfl, hw3⟩
      refine WC.weak hw3 ?_
      clear hw3
      have hsl := s2.len
      have hsr1 := fun h1 h2 => s2.row i1 h1 h2
      have hsr2 := fun h1 h2 => s2.row (i1 + 1) h1 h2
      have hv1 := fun h1 h2 h3 h4 h5 => (show gI (tb.getD i1.toNat default).2 (j1 + 1) = (D a b i1 (j1 + 1) : Int) from s2.val i1 (j1 + 1) h1 h2 h3 h4 h5)
      have hv2 := fun h1 h2 h3 h4 h5 => (show gI (tb.getD (i1 + 1).toNat default).2 j1 = (D a b (i1 + 1) j1 : Int) from s2.val (i1 + 1) j1 h1 h2 h3 h4 h5)
      have hd1 := D_bd a b i1 (j1 + 1)
      have hd2 := D_bd a b (i1 + 1) j1
      iterate 2 refine WC.seq ?_
      refine WC.region ?_
      refine WL.lv rfl (LV.mv rfl) ?_
      refine WL.lv rfl (LV.geI rfl rfl) ?_
      refine WL.nil (thenQ.n ?_)
      refine WC.condP (p := j1 ≥ 0) rfl (fun hc => ?_) (fun hc => ?_)
      · skip
        refine WC.skip (thenQ.n ?_)
        refine WC.seq ?_
        refine WC.block ?_
        refine WC.seq ?_
        refine WC.region ?_
        iterate 2 refine WL.lv rfl (LV.mv rfl) ?_
        refine WL.lv rfl (LV.lenL Try.underlying49 rfl) ?_
        refine WL.lv rfl (LV.eqI rfl rfl) ?_
        refine WL.nil (thenQ.n ?_)
        refine WC.condP (p := i1 = (a.length : Int)) rfl (fun hc2 => ?_) (fun hc2 => ?_)
        · skip
          refine WC.region ?_
          iterate 2 refine WL.lv rfl (LV.mv rfl) ?_
          obtain ⟨A3, c3, A4, c4, e1, g1, e2, r1⟩ := St.eltRR (SH.rdRR hL3 (.head _)) default i1 (by omega) (by omega)
          refine WL.lv rfl (LV.idxA Try.underlying45 ti49.sz rfl e1 rfl (by omega) (by omega)) ?_
          refine WL.lv rfl (LV.load1 Try.underlying49 rfl rfl (g1 _ (KB.refl No _))) ?_
          iterate 2 refine WL.lv rfl (LV.mv rfl) ?_
          refine WL.lv rfl (LV.lenL Try.underlying49 rfl) ?_
          refine WL.lv rfl (LV.mv rfl) ?_
          refine WL.lv rfl (LV.sub rfl rfl (wr64 (by omega) (by omega))) ?_
          obtain ⟨A5, c5, e3, g2⟩ := St.elt (St.inner (SH.rdRR hL3 (.head _)) (getD_mem (by omega)) e2) 0 j1 (by omega) (by omega)
          refine WL.lv rfl (LV.idxA Try.underlying49 ti3.sz rfl e3 rfl (by omega) (by omega)) ?_
          refine WL.xse rfl (XSE.rr1 (i := i1) (j := j1) (o := 0) (k := 0) ((b.length : Int) - j1) hL3 (by omega) (by omega) (e2.trans e3) (by omega) (by omega) (by decide) ti3.sz rfl rfl rfl rfl) ?_
          rintro w8 ⟨hS9, hk5⟩
          refine WL.nil (blockQ.n <| thenQ.n ?_)
          refine WC.region ?_
          refine WL.lv rfl (LV.mv rfl) ?_
          refine WL.lv rfl (LV.sub rfl rfl (wr64 (by omega) (by omega))) ?_
          refine WL.lv rfl (LV.asg rfl) ?_
          refine WL.nil (thenQ.n ?_)
          exact ⟨_, by omega, j1 - 1, (tb.set (i1).toNat ((tb.getD (i1).toNat default).1, (tb.getD (i1).toNat default).2.set (j1).toNat ((b.length : Int) - j1))), by omega, by omega, (TabOK.put s2 (by omega) (by omega) (by omega) s1 (tab1 (by omega) (by omega) (by omega))), hS9, rfl, Weak.cons rfl <| Weak.cons rfl <| Weak.cons rfl <| Weak.cons rfl <| Weak.cons rfl <| Weak.cons rfl <| Weak.nil _⟩
        · skip
          refine WC.seq ?_
          refine WC.region ?_
          iterate 2 refine WL.lv rfl (LV.mv rfl) ?_
          refine WL.lv rfl (LV.lenL Try.underlying49 rfl) ?_
          refine WL.lv rfl (LV.eqI rfl rfl) ?_
          refine WL.nil (thenQ.n ?_)
          refine WC.condP (p := j1 = (b.length : Int)) rfl (fun hc3 => ?_) (fun hc3 => ?_)
          · skip
            refine WC.region ?_
            iterate 2 refine WL.lv rfl (LV.mv rfl) ?_
            obtain ⟨A6, c6, A7, c7, e4, g3, e5, r2⟩ := St.eltRR (SH.rdRR hL3 (.head _)) default i1 (by omega) (by omega)
            refine WL.lv rfl (LV.idxA Try.underlying45 ti49.sz rfl e4 rfl (by omega) (by omega)) ?_
            refine WL.lv rfl (LV.load1 Try.underlying49 rfl rfl (g3 _ (KB.refl No _))) ?_
            iterate 2 refine WL.lv rfl (LV.mv rfl) ?_
            refine WL.lv rfl (LV.lenL Try.underlying49 rfl) ?_
            refine WL.lv rfl (LV.mv rfl) ?_
            refine WL.lv rfl (LV.sub rfl rfl (wr64 (by omega) (by omega))) ?_
            obtain ⟨A8, c8, e6, g4⟩ := St.elt (St.inner (SH.rdRR hL3 (.head _)) (getD_mem (by omega)) e5) 0 j1 (by omega) (by omega)
            refine WL.lv rfl (LV.idxA Try.underlying49 ti3.sz rfl e6 rfl (by omega) (by omega)) ?_
            refine WL.xse rfl (XSE.rr1 (i := i1) (j := j1) (o := 0) (k := 0) ((a.length : Int) - i1) hL3 (by omega) (by omega) (e5.trans e6) (by omega) (by omega) (by decide) ti3.sz rfl rfl rfl rfl) ?_
            rintro w9 ⟨hS10, hk6⟩
            refine WL.nil (blockQ.n <| thenQ.n ?_)
            refine WC.region ?_
            refine WL.lv rfl (LV.mv rfl) ?_
            refine WL.lv rfl (LV.sub rfl rfl (wr64 (by omega) (by omega))) ?_
            refine WL.lv rfl (LV.asg rfl) ?_
            refine WL.nil (thenQ.n ?_)
            exact ⟨_, by omega, j1 - 1, (tb.set (i1).toNat ((tb.getD (i1).toNat default).1, (tb.getD (i1).toNat default).2.set (j1).toNat ((a.length : Int) - i1))), by omega, by omega, (TabOK.put s2 (by omega) (by omega) (by omega) s1 (tab2 (by omega) (by omega) (by omega))), hS10, rfl, Weak.cons rfl <| Weak.cons rfl <| Weak.cons rfl <| Weak.cons rfl <| Weak.cons rfl <| Weak.cons rfl <| Weak.nil _⟩
          · skip
            refine WC.seq ?_
            have hS11 := SH.drew hL3
            refine WC.regionD [] (fun w_ => KB No w7.drew w_) [(.pure, 0), (.pure, 1), (.pure, 2), (.look, 3), (.pure, 4), (.pure, 5), (.pure, 6), (.look, 7), (.pure, 8)] (by kernel_rfl) (by kernel_rfl) (KB.refl _ _) ?_
            iterate 2 refine WS.pure rfl rfl (fun _ => LV.mv rfl) ?_
            obtain ⟨A9, c9, e7, g5⟩ := St.elt (SH.stN hS11 ha) 0 i1 (by omega) (by omega)
            refine WS.pure rfl rfl (fun _ => LV.idxA Try.underlying49 ti3.sz rfl e7 rfl (by omega) (by omega)) ?_
            refine WS.look rfl rfl (fun _ hk_ => LV.load1 (v := (.int .i64 (gI a (i1)))) Try.underlying3 rfl rfl (g5 _ hk_ 0 _ rfl)) ?_
            iterate 2 refine WS.pure rfl rfl (fun _ => LV.mv rfl) ?_
            obtain ⟨A10, c10, e8, g6⟩ := St.elt (SH.stN hS11 hb) 0 j1 (by omega) (by omega)
            refine WS.pure rfl rfl (fun _ => LV.idxA Try.underlying49 ti3.sz rfl e8 rfl (by omega) (by omega)) ?_
            refine WS.look rfl rfl (fun _ hk_ => LV.load1 (v := (.int .i64 (gI b (j1)))) Try.underlying3 rfl rfl (g6 _ hk_ 0 _ rfl)) ?_
            refine WS.pure rfl rfl (fun _ => LV.eqI rfl rfl) ?_
            refine WS.nil (thenQ.n ?_)
            refine WC.condP (p := (gI a (i1)) = (gI b (j1))) rfl (fun hc4 => ?_) (fun hc4 => ?_)
            · skip
              have hS12 := SH.drew hS11
              refine WC.regionD [15] (fun w_ => KB No w7.drew.drew w_) [(.pure, 0), (.pure, 1), (.pure, 2), (.look, 3), (.pure, 4), (.pure, 5), (.pure, 6), (.pure, 7), (.pure, 8), (.look, 9), (.pure, 10), (.pure, 11), (.pure, 12), (.look, 13), (.pure, 14), (.forced, 15)] (by kernel_rfl) (by kernel_rfl) (KB.refl _ _) ?_
              iterate 2 refine WS.pure rfl rfl (fun _ => LV.mv rfl) ?_
              obtain ⟨A11, c11, A12, c12, e9, g7, e10, r3⟩ := St.eltRR (SH.rdRR hS12 (.head _)) default i1 (by omega) (by omega)
              refine WS.pure rfl rfl (fun _ => LV.idxA Try.underlying45 ti49.sz rfl e9 rfl (by omega) (by omega)) ?_
              refine WS.look rfl rfl (fun _ hk_ => LV.load1 Try.underlying49 rfl rfl (g7 _ hk_)) ?_
              iterate 3 refine WS.pure rfl rfl (fun _ => LV.mv rfl) ?_
              refine WS.pure rfl rfl (fun _ => LV.add rfl rfl (wr64 (by omega) (by omega))) ?_
              obtain ⟨A13, c13, A14, c14, e11, g8, e12, r4⟩ := St.eltRR (SH.rdRR hS12 (.head _)) default (i1 + 1) (by omega) (by omega)
              refine WS.pure rfl rfl (fun _ => LV.idxA Try.underlying45 ti49.sz rfl e11 rfl (by omega) (by omega)) ?_
              refine WS.look rfl rfl (fun _ hk_ => LV.load1 Try.underlying49 rfl rfl (g8 _ hk_)) ?_
              refine WS.pure rfl rfl (fun _ => LV.mv rfl) ?_
              refine WS.pure rfl rfl (fun _ => LV.add rfl rfl (wr64 (by omega) (by omega))) ?_
              obtain ⟨A15, c15, e13, g9⟩ := St.elt (St.inner (SH.rdRR hS12 (.head _)) (getD_mem (by omega)) e12) 0 (j1 + 1) (by omega) (by omega)
              refine WS.pure rfl rfl (fun _ => LV.idxA Try.underlying49 ti3.sz rfl e13 rfl (by omega) (by omega)) ?_
              refine WS.look rfl rfl (fun _ hk_ => LV.load1 (v := (.int .i64 (gI ((tb.getD (i1 + 1).toNat default).2) (j1 + 1)))) Try.underlying3 rfl rfl (g9 _ hk_ 0 _ rfl)) ?_
              obtain ⟨A16, c16, e14, g10⟩ := St.elt (St.inner (SH.rdRR hS12 (.head _)) (getD_mem (by omega)) e10) 0 j1 (by omega) (by omega)
              refine WS.pure rfl rfl (fun _ => LV.idxA Try.underlying49 ti3.sz rfl e14 rfl (by omega) (by omega)) ?_
              refine WS.xse rfl rfl (XSE.rr1 (i := i1) (j := j1) (o := 0) (k := 0) (gI ((tb.getD (i1 + 1).toNat default).2) (j1 + 1)) hS12 (by omega) (by omega) (e10.trans e14) (by omega) (by omega) (by decide) ti3.sz rfl rfl rfl rfl) ?_
              rintro w10 ⟨hS13, hk7⟩
              refine ⟨fun h_ => (by cases h_), ?_⟩
              refine WS.nil (blockQ.n <| thenQ.n ?_)
              refine WC.region ?_
              refine WL.lv rfl (LV.mv rfl) ?_
              refine WL.lv rfl (LV.sub rfl rfl (wr64 (by omega) (by omega))) ?_
              refine WL.lv rfl (LV.asg rfl) ?_
              refine WL.nil (thenQ.n ?_)
              exact ⟨_, by omega, j1 - 1, (tb.set (i1).toNat ((tb.getD (i1).toNat default).1, (tb.getD (i1).toNat default).2.set (j1).toNat (gI ((tb.getD (i1 + 1).toNat default).2) (j1 + 1)))), by omega, by omega, (TabOK.put s2 (by omega) (by omega) (by omega) s1 (tab3 s2 (by omega) (by omega) (by omega) (by omega) hc4)), hS13, rfl, Weak.cons rfl <| Weak.cons rfl <| Weak.cons rfl <| Weak.cons rfl <| Weak.cons rfl <| Weak.cons rfl <| Weak.nil _⟩
            · skip
              refine WC.seq ?_
              have hS14 := SH.drew hS11
              refine WC.regionD [] (fun w_ => KB No w7.drew.drew w_) [(.pure, 0), (.pure, 1), (.pure, 2), (.pure, 3), (.look, 4), (.pure, 5), (.pure, 6), (.look, 7), (.pure, 8), (.pure, 9), (.pure, 10), (.look, 11), (.pure, 12), (.pure, 13), (.pure, 14), (.look, 15), (.pure, 16)] (by kernel_rfl) (by kernel_rfl) (KB.refl _ _) ?_
              iterate 2 refine WS.pure rfl rfl (fun _ => LV.mv rfl) ?_
              refine WS.pure rfl rfl (fun _ => LV.add rfl rfl (wr64 (by omega) (by omega))) ?_
              obtain ⟨A17, c17, A18, c18, e15, g11, e16, r5⟩ := St.eltRR (SH.rdRR hS14 (.head _)) default (i1 + 1) (by omega) (by omega)
              refine WS.pure rfl rfl (fun _ => LV.idxA Try.underlying45 ti49.sz rfl e15 rfl (by omega) (by omega)) ?_
              refine WS.look rfl rfl (fun _ hk_ => LV.load1 Try.underlying49 rfl rfl (g11 _ hk_)) ?_
              refine WS.pure rfl rfl (fun _ => LV.mv rfl) ?_
              obtain ⟨A19, c19, e17, g12⟩ := St.elt (St.inner (SH.rdRR hS14 (.head _)) (getD_mem (by omega)) e16) 0 j1 (by omega) (by omega)
              refine WS.pure rfl rfl (fun _ => LV.idxA Try.underlying49 ti3.sz rfl e17 rfl (by omega) (by omega)) ?_
              refine WS.look rfl rfl (fun _ hk_ => LV.load1 (v := (.int .i64 (gI ((tb.getD (i1 + 1).toNat default).2) (j1)))) Try.underlying3 rfl rfl (g12 _ hk_ 0 _ rfl)) ?_
              iterate 2 refine WS.pure rfl rfl (fun _ => LV.mv rfl) ?_
              obtain ⟨A20, c20, A21, c21, e18, g13, e19, r6⟩ := St.eltRR (SH.rdRR hS14 (.head _)) default i1 (by omega) (by omega)
              refine WS.pure rfl rfl (fun _ => LV.idxA Try.underlying45 ti49.sz rfl e18 rfl (by omega) (by omega)) ?_
              refine WS.look rfl rfl (fun _ hk_ => LV.load1 Try.underlying49 rfl rfl (g13 _ hk_)) ?_
              refine WS.pure rfl rfl (fun _ => LV.mv rfl) ?_
              refine WS.pure rfl rfl (fun _ => LV.add rfl rfl (wr64 (by omega) (by omega))) ?_
              obtain ⟨A22, c22, e20, g14⟩ := St.elt (St.inner (SH.rdRR hS14 (.head _)) (getD_mem (by omega)) e19) 0 (j1 + 1) (by omega) (by omega)
              refine WS.pure rfl rfl (fun _ => LV.idxA Try.underlying49 ti3.sz rfl e20 rfl (by omega) (by omega)) ?_
              refine WS.look rfl rfl (fun _ hk_ => LV.load1 (v := (.int .i64 (gI ((tb.getD (i1).toNat default).2) (j1 + 1)))) Try.underlying3 rfl rfl (g14 _ hk_ 0 _ rfl)) ?_
              refine WS.pure rfl rfl (fun _ => LV.ltI rfl rfl) ?_
              refine WS.nil (thenQ.n ?_)
              refine WC.condP (p := (gI ((tb.getD (i1 + 1).toNat default).2) (j1)) < (gI ((tb.getD (i1).toNat default).2) (j1 + 1))) rfl (fun hc5 => ?_) (fun hc5 => ?_)
              · skip
                have hS15 := SH.drew hS14
                refine WC.regionD [15] (fun w_ => KB No w7.drew.drew.drew w_) [(.pure, 0), (.pure, 1), (.pure, 2), (.look, 3), (.pure, 4), (.pure, 5), (.pure, 6), (.pure, 7), (.pure, 8), (.look, 9), (.pure, 10), (.pure, 11), (.look, 12), (.pure, 13), (.pure, 14), (.forced, 15)] (by kernel_rfl) (by kernel_rfl) (KB.refl _ _) ?_
                iterate 2 refine WS.pure rfl rfl (fun _ => LV.mv rfl) ?_
                obtain ⟨A23, c23, A24, c24, e21, g15, e22, r7⟩ := St.eltRR (SH.rdRR hS15 (.head _)) default i1 (by omega) (by omega)
                refine WS.pure rfl rfl (fun _ => LV.idxA Try.underlying45 ti49.sz rfl e21 rfl (by omega) (by omega)) ?_
                refine WS.look rfl rfl (fun _ hk_ => LV.load1 Try.underlying49 rfl rfl (g15 _ hk_)) ?_
                iterate 3 refine WS.pure rfl rfl (fun _ => LV.mv rfl) ?_
                refine WS.pure rfl rfl (fun _ => LV.add rfl rfl (wr64 (by omega) (by omega))) ?_
                obtain ⟨A25, c25, A26, c26, e23, g16, e24, r8⟩ := St.eltRR (SH.rdRR hS15 (.head _)) default (i1 + 1) (by omega) (by omega)
                refine WS.pure rfl rfl (fun _ => LV.idxA Try.underlying45 ti49.sz rfl e23 rfl (by omega) (by omega)) ?_
                refine WS.look rfl rfl (fun _ hk_ => LV.load1 Try.underlying49 rfl rfl (g16 _ hk_)) ?_
                refine WS.pure rfl rfl (fun _ => LV.mv rfl) ?_
                obtain ⟨A27, c27, e25, g17⟩ := St.elt (St.inner (SH.rdRR hS15 (.head _)) (getD_mem (by omega)) e24) 0 j1 (by omega) (by omega)
                refine WS.pure rfl rfl (fun _ => LV.idxA Try.underlying49 ti3.sz rfl e25 rfl (by omega) (by omega)) ?_
                refine WS.look rfl rfl (fun _ hk_ => LV.load1 (v := (.int .i64 (gI ((tb.getD (i1 + 1).toNat default).2) (j1)))) Try.underlying3 rfl rfl (g17 _ hk_ 0 _ rfl)) ?_
                refine WS.pure rfl rfl (fun _ => LV.add rfl rfl (wr64 (by omega) (by omega))) ?_
                obtain ⟨A28, c28, e26, g18⟩ := St.elt (St.inner (SH.rdRR hS15 (.head _)) (getD_mem (by omega)) e22) 0 j1 (by omega) (by omega)
                refine WS.pure rfl rfl (fun _ => LV.idxA Try.underlying49 ti3.sz rfl e26 rfl (by omega) (by omega)) ?_
                refine WS.xse rfl rfl (XSE.rr1 (i := i1) (j := j1) (o := 0) (k := 0) ((gI ((tb.getD (i1 + 1).toNat default).2) (j1)) + 1) hS15 (by omega) (by omega) (e22.trans e26) (by omega) (by omega) (by decide) ti3.sz rfl rfl rfl rfl) ?_
                rintro w11 ⟨hS16, hk8⟩
                refine ⟨fun h_ => (by cases h_), ?_⟩
                refine WS.nil (blockQ.n <| thenQ.n ?_)
                refine WC.region ?_
                refine WL.lv rfl (LV.mv rfl) ?_
                refine WL.lv rfl (LV.sub rfl rfl (wr64 (by omega) (by omega))) ?_
                refine WL.lv rfl (LV.asg rfl) ?_
                refine WL.nil (thenQ.n ?_)
                exact ⟨_, by omega, j1 - 1, (tb.set (i1).toNat ((tb.getD (i1).toNat default).1, (tb.getD (i1).toNat default).2.set (j1).toNat ((gI ((tb.getD (i1 + 1).toNat default).2) (j1)) + 1))), by omega, by omega, (TabOK.put s2 (by omega) (by omega) (by omega) s1 (tab4 s2 (by omega) (by omega) (by omega) (by omega) hc4 hc5)), hS16, rfl, Weak.cons rfl <| Weak.cons rfl <| Weak.cons rfl <| Weak.cons rfl <| Weak.cons rfl <| Weak.cons rfl <| Weak.nil _⟩
              · skip
                have hS17 := SH.drew hS14
                refine WC.regionD [15] (fun w_ => KB No w7.drew.drew.drew w_) [(.pure, 0), (.pure, 1), (.pure, 2), (.look, 3), (.pure, 4), (.pure, 5), (.pure, 6), (.pure, 7), (.look, 8), (.pure, 9), (.pure, 10), (.pure, 11), (.look, 12), (.pure, 13), (.pure, 14), (.forced, 15)] (by kernel_rfl) (by kernel_rfl) (KB.refl _ _) ?_
                iterate 2 refine WS.pure rfl rfl (fun _ => LV.mv rfl) ?_
                obtain ⟨A29, c29, A30, c30, e27, g19, e28, r9⟩ := St.eltRR (SH.rdRR hS17 (.head _)) default i1 (by omega) (by omega)
                refine WS.pure rfl rfl (fun _ => LV.idxA Try.underlying45 ti49.sz rfl e27 rfl (by omega) (by omega)) ?_
                refine WS.look rfl rfl (fun _ hk_ => LV.load1 Try.underlying49 rfl rfl (g19 _ hk_)) ?_
                iterate 3 refine WS.pure rfl rfl (fun _ => LV.mv rfl) ?_
                obtain ⟨A31, c31, A32, c32, e29, g20, e30, r10⟩ := St.eltRR (SH.rdRR hS17 (.head _)) default i1 (by omega) (by omega)
                refine WS.pure rfl rfl (fun _ => LV.idxA Try.underlying45 ti49.sz rfl e29 rfl (by omega) (by omega)) ?_
                refine WS.look rfl rfl (fun _ hk_ => LV.load1 Try.underlying49 rfl rfl (g20 _ hk_)) ?_
                refine WS.pure rfl rfl (fun _ => LV.mv rfl) ?_
                refine WS.pure rfl rfl (fun _ => LV.add rfl rfl (wr64 (by omega) (by omega))) ?_
                obtain ⟨A33, c33, e31, g21⟩ := St.elt (St.inner (SH.rdRR hS17 (.head _)) (getD_mem (by omega)) e30) 0 (j1 + 1) (by omega) (by omega)
                refine WS.pure rfl rfl (fun _ => LV.idxA Try.underlying49 ti3.sz rfl e31 rfl (by omega) (by omega)) ?_
                refine WS.look rfl rfl (fun _ hk_ => LV.load1 (v := (.int .i64 (gI ((tb.getD (i1).toNat default).2) (j1 + 1)))) Try.underlying3 rfl rfl (g21 _ hk_ 0 _ rfl)) ?_
                refine WS.pure rfl rfl (fun _ => LV.add rfl rfl (wr64 (by omega) (by omega))) ?_
                obtain ⟨A34, c34, e32, g22⟩ := St.elt (St.inner (SH.rdRR hS17 (.head _)) (getD_mem (by omega)) e28) 0 j1 (by omega) (by omega)
                refine WS.pure rfl rfl (fun _ => LV.idxA Try.underlying49 ti3.sz rfl e32 rfl (by omega) (by omega)) ?_
                refine WS.xse rfl rfl (XSE.rr1 (i := i1) (j := j1) (o := 0) (k := 0) ((gI ((tb.getD (i1).toNat default).2) (j1 + 1)) + 1) hS17 (by omega) (by omega) (e28.trans e32) (by omega) (by omega) (by decide) ti3.sz rfl rfl rfl rfl) ?_
                rintro w12 ⟨hS18, hk9⟩
                refine ⟨fun h_ => (by cases h_), ?_⟩
                refine WS.nil (blockQ.n <| thenQ.n ?_)
                refine WC.region ?_
                refine WL.lv rfl (LV.mv rfl) ?_
                refine WL.lv rfl (LV.sub rfl rfl (wr64 (by omega) (by omega))) ?_
                refine WL.lv rfl (LV.asg rfl) ?_
                refine WL.nil (thenQ.n ?_)
                exact ⟨_, by omega, j1 - 1, (tb.set (i1).toNat ((tb.getD (i1).toNat default).1, (tb.getD (i1).toNat default).2.set (j1).toNat ((gI ((tb.getD (i1).toNat default).2) (j1 + 1)) + 1))), by omega, by omega, (TabOK.put s2 (by omega) (by omega) (by omega) s1 (tab5 s2 (by omega) (by omega) (by omega) (by omega) hc4 hc5)), hS18, rfl, Weak.cons rfl <| Weak.cons rfl <| Weak.cons rfl <| Weak.cons rfl <| Weak.cons rfl <| Weak.cons rfl <| Weak.nil _⟩
      · skip
        refine WC.exit (thenQ.x <| thenQ.x <| blockQ.hit <| blockQ.n <| thenQ.n ?_)
        refine WC.region ?_
        refine WL.lv rfl (LV.mv rfl) ?_
        refine WL.lv rfl (LV.sub rfl rfl (wr64 (by omega) (by omega))) ?_
        refine WL.lv rfl (LV.asg rfl) ?_
        refine WL.nil (thenQ.n ?_)
        exact ⟨_, by omega, i1 - 1, tb, by omega, by omega, (TabOK.next s2 hc), hL3, rfl, Weak.cons rfl <| Weak.cons rfl <| Weak.cons rfl <| Weak.cons rfl <| Weak.cons rfl <| Weak.nil _⟩
    · skip
      refine WC.exit (thenQ.x <| thenQ.x <| blockQ.hit <| thenQ.n ?_)
      refine WC.seq ?_
      refine WC.region ?_
      refine WL.lv rfl (LV.mv rfl) ?_
      refine WL.lv rfl (LV.asg rfl) ?_
      refine WL.nil (thenQ.n ?_)
      refine WC.ret (?_)
      exact ⟨_, fun a ha => res1 rfl ha rfl, _, _, _, _, rfl, (show i1 = -1 by omega) ▸ r2, hL2⟩

theorem rsteps_calls {w : World} {A0 A1 : Option Addr} {a b : List Int} {c0 c1 : Nat} (ha : St No w (Rd eI (.slice A0 a.length c0) a)) (hb : St No w (Rd eI (.slice A1 b.length c1) b)) :
    Calls Try.prog 19 #[(.slice A0 a.length c0), (.slice A1 b.length c1)] w fun e w' => ∃ v, e = .returned v ∧ (fun v w' => ∃ A' c', v = .slice A' (Stp a b).length c' ∧ SH w No w' [rowE eI 50 (.slice A' (Stp a b).length c') (Stp a b)]) v w' := by
  have hS : SH w No w [] := SH.nil _ _
  refine calls (l := litOf [(.slice A0 a.length c0), (.slice A1 b.length c1)] 0) Try.func19 rfl (n := 94) rfl (Nat.le_of_ble_eq_true rfl) (lit_args _) ?_
  refine WC.seq ?_
  refine WC.region ?_
  refine WL.lv rfl (LV.asg rfl) ?_
  refine WL.nil (thenQ.n ?_)
  refine WC.seq ?_
  refine WC.region ?_
  refine WL.xe rfl (XE.buildSlice (E := eI) [] #[] [] hS Try.underlying47 ti50 rfl (by decide) (by kernel_rfl) (.inr rfl) rfl rfl (by decide)) ?_
  rintro _ w1 ⟨b1, rfl, hS1, hk1⟩
  refine WL.lv rfl (LV.asg rfl) ?_
  refine WL.nil (thenQ.n ?_)
  iterate 2 refine WC.seq ?_
  refine WC.region ?_
  refine WL.lv rfl (LV.mv rfl) ?_
  refine WL.lv rfl (LV.lenL Try.underlying49 rfl) ?_
  rcases Decidable.em ((a.length : Int) > 400) with hg1 | hg1
  · refine WL.lv rfl (LV.as (LV.gtI rfl rfl) (decide_eq_true hg1)) ?_
    refine WL.lv rfl (LV.mv rfl) ?_
    iterate 3 refine WL.off rfl ?_
    refine WL.lv rfl (LV.pickT rfl rfl) ?_
    refine WL.nil (thenQ.n ?_)
    refine WC.condT rfl ?_
    refine WC.seq ?_
    refine WC.region ?_
    refine WL.lv rfl (LV.mv rfl) ?_
    refine WL.lv rfl (LV.asg rfl) ?_
    refine WL.nil (thenQ.n ?_)
    refine WC.ret (thenQ.r <| ?_)
    exact ⟨_, fun a ha => res1 rfl ha rfl, (by rw [show Stp a b = [] from if_pos (by omega)]; exact ⟨_, _, rfl, hS1⟩)⟩
  · refine WL.lv rfl (LV.as (LV.gtI rfl rfl) (decide_eq_false hg1)) ?_
    iterate 2 refine WL.lv rfl (LV.mv rfl) ?_
    refine WL.lv rfl (LV.lenL Try.underlying49 rfl) ?_
    refine WL.lv rfl (LV.gtI rfl rfl) ?_
    refine WL.lv rfl (LV.pickF rfl rfl) ?_
    refine WL.nil (thenQ.n ?_)
    refine WC.condP (p := (b.length : Int) > 400) rfl (fun hc1 => ?_) (fun hc1 => ?_)
    · skip
      refine WC.seq ?_
      refine WC.region ?_
      refine WL.lv rfl (LV.mv rfl) ?_
      refine WL.lv rfl (LV.asg rfl) ?_
      refine WL.nil (thenQ.n ?_)
      refine WC.ret (thenQ.r <| ?_)
      exact ⟨_, fun a ha => res1 rfl ha rfl, (by rw [show Stp a b = [] from if_pos (by omega)]; exact ⟨_, _, rfl, hS1⟩)⟩
    · have hla : a.length ≤ 400 := by omega
      have hlb : b.length ≤ 400 := by omega
      refine WC.skip (thenQ.n ?_)
      refine WC.seq ?_
      refine WC.region ?_
      iterate 2 refine WL.lv rfl (LV.mv rfl) ?_
      refine WL.call rfl (XC.fn Try.func33 (by kernel_rfl) rfl rfl rfl) (table_calls (SH.stN hS1 ha) (SH.stN hS1 hb) hla hlb) ?_
      rintro v_ w2 ⟨A2, n1, c2, tb, rfl, hT, hS2⟩
      have hS3 := SH.joinN hS1 hS2
      have hl_ := hT.len
      have hr0_ := hT.row 0 (by omega) (by omega)
      have hv0_ := hT.val 0 0 (by omega) (by omega) (by omega) (by omega) (by omega)
      refine WL.lv rfl (LV.asg rfl) ?_
      refine WL.nil (thenQ.n ?_)
      refine WC.seq ?_
      refine WC.region ?_
      refine WL.lv rfl (LV.asg rfl) ?_
      refine WL.nil (thenQ.n ?_)
      refine WC.seq ?_
      refine WC.region ?_
      refine WL.lv rfl (LV.asg rfl) ?_
      refine WL.nil (thenQ.n ?_)
      refine WC.seq ?_
      refine WC.block ?_
      refine WC.loop (fun m_ f_ w_ => ∃ (i j : Int) (A : Option Addr) (c : Nat) (out : List Int), (0 ≤ i) ∧ (i ≤ a.length) ∧ (0 ≤ j) ∧ (j ≤ b.length) ∧ (out ++ Wy a b i j = way a b) ∧ ((out.length : Int) ≤ i + j) ∧ SH w No w_ [rrE eI 49 3 (.slice A2 n1 c2) tb, rowE eI 50 (.slice A out.length c) out] ∧ m_ = ((((a.length : Int) - i) + ((b.length : Int) - j)).toNat) ∧ Weak (lit [(0, (.slice A0 a.length c0)), (1, (.slice A1 b.length c1)), (4, (.slice none 0 0)), (5, (.slice A out.length c)), (6, (.slice A2 n1 c2)), (7, (.int .i64 i)), (8, (.int .i64 j))]) f_) _ ⟨0, 0, (some ⟨b1, 0, none⟩), 0, [], by omega, by omega, by omega, by omega, (by rw [Wy_00]; rfl), (by simp), hS3, rfl, Weak.cons rfl <| Weak.cons rfl <| Weak.cons rfl <| Weak.cons rfl <| Weak.cons rfl <| Weak.cons rfl <| Weak.cons rfl <| Weak.nil _⟩ ?_
      rintro m1 f1 w3 ⟨i, j, A, c, out, q0, q1, q2, q3, q5, q6, hL1, rfl, hw1⟩
      refine WC.weak hw1 ?_
      clear hw1
      have hr1 := fun h1 h2 => hT.row i h1 h2
      have hr2 := fun h1 h2 => hT.row (i + 1) h1 h2
      have hv1 := fun h1 h2 h3 h4 h5 => (show gI (tb.getD i.toNat default).2 j = (D a b i j : Int) from hT.val i j h1 h2 h3 h4 h5)
      have hv2 := fun h1 h2 h3 h4 h5 => (show gI (tb.getD (i + 1).toNat default).2 j = (D a b (i + 1) j : Int) from hT.val (i + 1) j h1 h2 h3 h4 h5)
      have hd1 := D_bd a b i j
      have hd2 := D_bd a b (i + 1) j
      iterate 2 refine WC.seq ?_
      refine WC.region ?_
      iterate 2 refine WL.lv rfl (LV.mv rfl) ?_
      refine WL.lv rfl (LV.lenL Try.underlying49 rfl) ?_
      rcases Decidable.em (i < (a.length : Int)) with hg2 | hg2
      · refine WL.lv rfl (LV.as (LV.ltI rfl rfl) (decide_eq_true hg2)) ?_
        refine WL.lv rfl (LV.mv rfl) ?_
        iterate 4 refine WL.off rfl ?_
        refine WL.lv rfl (LV.pickT rfl rfl) ?_
        refine WL.nil (thenQ.n ?_)
        refine WC.condT rfl ?_
        refine WC.skip (thenQ.n ?_)
        refine WC.block ?_
        refine WC.seq ?_
        have hS4 := SH.drew hL1
        refine WC.regionD [] (fun w_ => KB No w3.drew w_) [(.pure, 0), (.pure, 1), (.pure, 2), (.pure, 3), (.pure, 4), (.pure, 5), (.pure, 6), (.pure, 7), (.pure, 8), (.pure, 9), (.pure, 10), (.pure, 11), (.pure, 12), (.pure, 13), (.look, 14), (.pure, 15), (.pure, 16), (.pure, 17), (.look, 18), (.pure, 19), (.pure, 20)] (by kernel_rfl) (by kernel_rfl) (KB.refl _ _) ?_
        iterate 2 refine WS.pure rfl rfl (fun _ => LV.mv rfl) ?_
        refine WS.pure rfl rfl (fun _ => LV.lenL Try.underlying49 rfl) ?_
        refine WS.pure rfl rfl (fun _ => LV.as (LV.ltI rfl rfl) (decide_eq_true hg2)) ?_
        iterate 3 refine WS.pure rfl rfl (fun _ => LV.mv rfl) ?_
        refine WS.pure rfl rfl (fun _ => LV.lenL Try.underlying49 rfl) ?_
        rcases Decidable.em (j < (b.length : Int)) with hg3 | hg3
        · refine WS.pure rfl rfl (fun _ => LV.as (LV.ltI rfl rfl) (decide_eq_true hg3)) ?_
          refine WS.pure rfl rfl (fun _ => LV.pickT rfl rfl) ?_
          iterate 3 refine WS.pure rfl rfl (fun _ => LV.mv rfl) ?_
          obtain ⟨A3, c3, e1, g1⟩ := St.elt (SH.stN hS4 ha) 0 i (by omega) (by omega)
          refine WS.pure rfl rfl (fun _ => LV.idxA Try.underlying49 ti3.sz rfl e1 rfl (by omega) (by omega)) ?_
          refine WS.look rfl rfl (fun _ hk_ => LV.load1 (v := (.int .i64 (gI a (i)))) Try.underlying3 rfl rfl (g1 _ hk_ 0 _ rfl)) ?_
          iterate 2 refine WS.pure rfl rfl (fun _ => LV.mv rfl) ?_
          obtain ⟨A4, c4, e2, g2⟩ := St.elt (SH.stN hS4 hb) 0 j (by omega) (by omega)
          refine WS.pure rfl rfl (fun _ => LV.idxA Try.underlying49 ti3.sz rfl e2 rfl (by omega) (by omega)) ?_
          refine WS.look rfl rfl (fun _ hk_ => LV.load1 (v := (.int .i64 (gI b (j)))) Try.underlying3 rfl rfl (g2 _ hk_ 0 _ rfl)) ?_
          refine WS.pure rfl rfl (fun _ => LV.eqI rfl rfl) ?_
          refine WS.pure rfl rfl (fun _ => LV.pickT rfl rfl) ?_
          refine WS.nil (thenQ.n ?_)
          refine WC.condP (p := (gI a (i)) = (gI b (j))) rfl (fun hc2 => ?_) (fun hc2 => ?_)
          · skip
            refine WC.seq ?_
            refine WC.region ?_
            refine WL.lv rfl (LV.mv rfl) ?_
            refine WL.xe rfl (XE.buildSlice (E := eI) [(0, (.int .i64 1))] #[(.int .i64 1)] [1] hS4 Try.underlying47 ti50 rfl (by decide) (by kernel_rfl) (.inr rfl) rfl rfl (by decide)) ?_
            rintro _ w4 ⟨b2, rfl, hS5, hk2⟩
            have hS6 : SH w No w4 [rowE eI 50 (.slice A out.length c) out, rowE eI 50 (.slice (some ⟨b2, 0, none⟩) 1 1) [1], rrE eI 49 3 (.slice A2 n1 c2) tb] := (SH.front [_, _] hS5)
            refine WL.xe rfl (XE.append hS6 Try.underlying47 ti50 rfl (St.now (SH.rd hS6 (.tail _ (.head _)))) rfl rfl (by first | omega | simp only [List.length_append, List.length_cons, List.length_nil, List.length_take, List.length_reverse, List.length_drop] at *; omega) (by first | omega | simp only [List.length_append, List.length_cons, List.length_nil, List.length_take, List.length_reverse, List.length_drop] at *; omega)) ?_
            rintro _ w5 ⟨A5, c5, rfl, hS7, hk3⟩
            refine WL.lv rfl (LV.asg rfl) ?_
            refine WL.nil (thenQ.n ?_)
            refine WC.seq ?_
            refine WC.region ?_
            refine WL.lv rfl (LV.mv rfl) ?_
            refine WL.lv rfl (LV.add rfl rfl (wr64 (by omega) (by omega))) ?_
            refine WL.lv rfl (LV.asg rfl) ?_
            refine WL.nil (thenQ.n ?_)
            refine WC.region ?_
            refine WL.lv rfl (LV.mv rfl) ?_
            refine WL.lv rfl (LV.add rfl rfl (wr64 (by omega) (by omega))) ?_
            refine WL.lv rfl (LV.asg rfl) ?_
            refine WL.nil (blockQ.n <| thenQ.n ?_)
            have hS8 : SH w No w5 [rrE eI 49 3 (.slice A2 n1 c2) tb, rowE eI 50 (.slice A5 ((out ++ ([1] : List Int)).length) c5) (out ++ ([1] : List Int))] := (SH.take 2 rfl (SH.front [_, _] hS7))
            have hy_ := Wy_keep (a := a) (b := b) q0 (by omega) q2 (by omega) hc2
            exact ⟨_, by omega, i + 1, j + 1, A5, c5, (out ++ ([1] : List Int)), by omega, by omega, by omega, by omega, (by rw [← q5, hy_]; simp), (by simp; omega), hS8, rfl, Weak.cons rfl <| Weak.cons rfl <| Weak.cons rfl <| Weak.cons rfl <| Weak.cons rfl <| Weak.cons rfl <| Weak.cons rfl <| Weak.nil _⟩
          · skip
            refine WC.seq ?_
            have hS9 := SH.drew hS4
            refine WC.regionD [] (fun w_ => KB No w3.drew.drew w_) [(.pure, 0), (.pure, 1), (.pure, 2), (.pure, 3), (.pure, 4), (.pure, 5), (.pure, 6), (.pure, 7), (.pure, 8), (.look, 9), (.pure, 10), (.pure, 11), (.look, 12), (.pure, 13), (.pure, 14), (.pure, 15), (.pure, 16), (.look, 17), (.pure, 18), (.pure, 19), (.look, 20), (.pure, 21), (.pure, 22)] (by kernel_rfl) (by kernel_rfl) (KB.refl _ _) ?_
            iterate 2 refine WS.pure rfl rfl (fun _ => LV.mv rfl) ?_
            refine WS.pure rfl rfl (fun _ => LV.lenL Try.underlying49 rfl) ?_
            refine WS.pure rfl rfl (fun _ => LV.as (LV.ltI rfl rfl) (decide_eq_true hg2)) ?_
            iterate 3 refine WS.pure rfl rfl (fun _ => LV.mv rfl) ?_
            refine WS.pure rfl rfl (fun _ => LV.add rfl rfl (wr64 (by omega) (by omega))) ?_
            obtain ⟨A6, c6, A7, c7, e3, g3, e4, r1⟩ := St.eltRR (SH.rdRR hS9 (.head _)) default (i + 1) (by omega) (by omega)
            refine WS.pure rfl rfl (fun _ => LV.idxA Try.underlying45 ti49.sz rfl e3 rfl (by omega) (by omega)) ?_
            refine WS.look rfl rfl (fun _ hk_ => LV.load1 Try.underlying49 rfl rfl (g3 _ hk_)) ?_
            refine WS.pure rfl rfl (fun _ => LV.mv rfl) ?_
            obtain ⟨A8, c8, e5, g4⟩ := St.elt (St.inner (SH.rdRR hS9 (.head _)) (getD_mem (by omega)) e4) 0 j (by omega) (by omega)
            refine WS.pure rfl rfl (fun _ => LV.idxA Try.underlying49 ti3.sz rfl e5 rfl (by omega) (by omega)) ?_
            refine WS.look rfl rfl (fun _ hk_ => LV.load1 (v := (.int .i64 (gI ((tb.getD (i + 1).toNat default).2) (j)))) Try.underlying3 rfl rfl (g4 _ hk_ 0 _ rfl)) ?_
            refine WS.pure rfl rfl (fun _ => LV.add rfl rfl (wr64 (by omega) (by omega))) ?_
            iterate 2 refine WS.pure rfl rfl (fun _ => LV.mv rfl) ?_
            obtain ⟨A9, c9, A10, c10, e6, g5, e7, r2⟩ := St.eltRR (SH.rdRR hS9 (.head _)) default i (by omega) (by omega)
            refine WS.pure rfl rfl (fun _ => LV.idxA Try.underlying45 ti49.sz rfl e6 rfl (by omega) (by omega)) ?_
            refine WS.look rfl rfl (fun _ hk_ => LV.load1 Try.underlying49 rfl rfl (g5 _ hk_)) ?_
            refine WS.pure rfl rfl (fun _ => LV.mv rfl) ?_
            obtain ⟨A11, c11, e8, g6⟩ := St.elt (St.inner (SH.rdRR hS9 (.head _)) (getD_mem (by omega)) e7) 0 j (by omega) (by omega)
            refine WS.pure rfl rfl (fun _ => LV.idxA Try.underlying49 ti3.sz rfl e8 rfl (by omega) (by omega)) ?_
            refine WS.look rfl rfl (fun _ hk_ => LV.load1 (v := (.int .i64 (gI ((tb.getD (i).toNat default).2) (j)))) Try.underlying3 rfl rfl (g6 _ hk_ 0 _ rfl)) ?_
            refine WS.pure rfl rfl (fun _ => LV.eqI rfl rfl) ?_
            refine WS.pure rfl rfl (fun _ => LV.pickT rfl rfl) ?_
            refine WS.nil (thenQ.n ?_)
            refine WC.condP (p := ((gI ((tb.getD (i + 1).toNat default).2) (j)) + 1) = (gI ((tb.getD (i).toNat default).2) (j))) rfl (fun hc3 => ?_) (fun hc3 => ?_)
            · skip
              refine WC.seq ?_
              refine WC.region ?_
              refine WL.lv rfl (LV.mv rfl) ?_
              refine WL.xe rfl (XE.buildSlice (E := eI) [(0, (.int .i64 2))] #[(.int .i64 2)] [2] hS9 Try.underlying47 ti50 rfl (by decide) (by kernel_rfl) (.inr rfl) rfl rfl (by decide)) ?_
              rintro _ w6 ⟨b3, rfl, hS10, hk4⟩
              have hS11 : SH w No w6 [rowE eI 50 (.slice A out.length c) out, rowE eI 50 (.slice (some ⟨b3, 0, none⟩) 1 1) [2], rrE eI 49 3 (.slice A2 n1 c2) tb] := (SH.front [_, _] hS10)
              refine WL.xe rfl (XE.append hS11 Try.underlying47 ti50 rfl (St.now (SH.rd hS11 (.tail _ (.head _)))) rfl rfl (by first | omega | simp only [List.length_append, List.length_cons, List.length_nil, List.length_take, List.length_reverse, List.length_drop] at *; omega) (by first | omega | simp only [List.length_append, List.length_cons, List.length_nil, List.length_take, List.length_reverse, List.length_drop] at *; omega)) ?_
              rintro _ w7 ⟨A12, c12, rfl, hS12, hk5⟩
              refine WL.lv rfl (LV.asg rfl) ?_
              refine WL.nil (thenQ.n ?_)
              refine WC.region ?_
              refine WL.lv rfl (LV.mv rfl) ?_
              refine WL.lv rfl (LV.add rfl rfl (wr64 (by omega) (by omega))) ?_
              refine WL.lv rfl (LV.asg rfl) ?_
              refine WL.nil (blockQ.n <| thenQ.n ?_)
              have hS13 : SH w No w7 [rrE eI 49 3 (.slice A2 n1 c2) tb, rowE eI 50 (.slice A12 ((out ++ ([2] : List Int)).length) c12) (out ++ ([2] : List Int))] := (SH.take 2 rfl (SH.front [_, _] hS12))
              obtain ⟨hy_, hd_⟩ := Wy_out (a := a) (b := b) q0 (by omega) q2 q3 (fun _ => hc2) (by omega)
              exact ⟨_, by omega, i + 1, j, A12, c12, (out ++ ([2] : List Int)), by omega, by omega, by omega, by omega, (by rw [← q5, hy_]; simp), (by simp; omega), hS13, rfl, Weak.cons rfl <| Weak.cons rfl <| Weak.cons rfl <| Weak.cons rfl <| Weak.cons rfl <| Weak.cons rfl <| Weak.cons rfl <| Weak.nil _⟩
            · skip
              refine WC.seq ?_
              refine WC.region ?_
              refine WL.lv rfl (LV.mv rfl) ?_
              refine WL.xe rfl (XE.buildSlice (E := eI) [(0, (.int .i64 3))] #[(.int .i64 3)] [3] hS9 Try.underlying47 ti50 rfl (by decide) (by kernel_rfl) (.inr rfl) rfl rfl (by decide)) ?_
              rintro _ w8 ⟨b4, rfl, hS14, hk6⟩
              have hS15 : SH w No w8 [rowE eI 50 (.slice A out.length c) out, rowE eI 50 (.slice (some ⟨b4, 0, none⟩) 1 1) [3], rrE eI 49 3 (.slice A2 n1 c2) tb] := (SH.front [_, _] hS14)
              refine WL.xe rfl (XE.append hS15 Try.underlying47 ti50 rfl (St.now (SH.rd hS15 (.tail _ (.head _)))) rfl rfl (by first | omega | simp only [List.length_append, List.length_cons, List.length_nil, List.length_take, List.length_reverse, List.length_drop] at *; omega) (by first | omega | simp only [List.length_append, List.length_cons, List.length_nil, List.length_take, List.length_reverse, List.length_drop] at *; omega)) ?_
              rintro _ w9 ⟨A13, c13, rfl, hS16, hk7⟩
              refine WL.lv rfl (LV.asg rfl) ?_
              refine WL.nil (thenQ.n ?_)
              refine WC.region ?_
              refine WL.lv rfl (LV.mv rfl) ?_
              refine WL.lv rfl (LV.add rfl rfl (wr64 (by omega) (by omega))) ?_
              refine WL.lv rfl (LV.asg rfl) ?_
              refine WL.nil (blockQ.n <| thenQ.n ?_)
              have hS17 : SH w No w9 [rrE eI 49 3 (.slice A2 n1 c2) tb, rowE eI 50 (.slice A13 ((out ++ ([3] : List Int)).length) c13) (out ++ ([3] : List Int))] := (SH.take 2 rfl (SH.front [_, _] hS16))
              obtain ⟨hj_, hy_, hd_⟩ := Wy_in (a := a) (b := b) q0 q1 q2 q3 (by omega) (fun _ _ => hc2) (fun h_ => by have hd1_ := D_1 (a := a) (b := b) (i := i) (j := j) q0 h_; omega)
              exact ⟨_, by omega, i, j + 1, A13, c13, (out ++ ([3] : List Int)), by omega, by omega, by omega, by omega, (by rw [← q5, hy_]; simp), (by simp; omega), hS17, rfl, Weak.cons rfl <| Weak.cons rfl <| Weak.cons rfl <| Weak.cons rfl <| Weak.cons rfl <| Weak.cons rfl <| Weak.cons rfl <| Weak.nil _⟩
        · refine WS.pure rfl rfl (fun _ => LV.as (LV.ltI rfl rfl) (decide_eq_false hg3)) ?_
          refine WS.pure rfl rfl (fun _ => LV.pickT rfl rfl) ?_
          refine WS.pure rfl rfl (fun _ => LV.mv rfl) ?_
          iterate 3 refine WS.off rfl rfl ?_
          refine WS.offL rfl rfl ?_
          iterate 3 refine WS.off rfl rfl ?_
          refine WS.offL rfl rfl ?_
          refine WS.off rfl rfl ?_
          refine WS.pure rfl rfl (fun _ => LV.pickF rfl rfl) ?_
          refine WS.nil (thenQ.n ?_)
          refine WC.condF rfl ?_
          refine WC.seq ?_
          have hS18 := SH.drew hS4
          refine WC.regionD [] (fun w_ => KB No w3.drew.drew w_) [(.pure, 0), (.pure, 1), (.pure, 2), (.pure, 3), (.pure, 4), (.pure, 5), (.pure, 6), (.pure, 7), (.pure, 8), (.look, 9), (.pure, 10), (.pure, 11), (.look, 12), (.pure, 13), (.pure, 14), (.pure, 15), (.pure, 16), (.look, 17), (.pure, 18), (.pure, 19), (.look, 20), (.pure, 21), (.pure, 22)] (by kernel_rfl) (by kernel_rfl) (KB.refl _ _) ?_
          iterate 2 refine WS.pure rfl rfl (fun _ => LV.mv rfl) ?_
          refine WS.pure rfl rfl (fun _ => LV.lenL Try.underlying49 rfl) ?_
          refine WS.pure rfl rfl (fun _ => LV.as (LV.ltI rfl rfl) (decide_eq_true hg2)) ?_
          iterate 3 refine WS.pure rfl rfl (fun _ => LV.mv rfl) ?_
          refine WS.pure rfl rfl (fun _ => LV.add rfl rfl (wr64 (by omega) (by omega))) ?_
          obtain ⟨A14, c14, A15, c15, e9, g7, e10, r3⟩ := St.eltRR (SH.rdRR hS18 (.head _)) default (i + 1) (by omega) (by omega)
          refine WS.pure rfl rfl (fun _ => LV.idxA Try.underlying45 ti49.sz rfl e9 rfl (by omega) (by omega)) ?_
          refine WS.look rfl rfl (fun _ hk_ => LV.load1 Try.underlying49 rfl rfl (g7 _ hk_)) ?_
          refine WS.pure rfl rfl (fun _ => LV.mv rfl) ?_
          obtain ⟨A16, c16, e11, g8⟩ := St.elt (St.inner (SH.rdRR hS18 (.head _)) (getD_mem (by omega)) e10) 0 j (by omega) (by omega)
          refine WS.pure rfl rfl (fun _ => LV.idxA Try.underlying49 ti3.sz rfl e11 rfl (by omega) (by omega)) ?_
          refine WS.look rfl rfl (fun _ hk_ => LV.load1 (v := (.int .i64 (gI ((tb.getD (i + 1).toNat default).2) (j)))) Try.underlying3 rfl rfl (g8 _ hk_ 0 _ rfl)) ?_
          refine WS.pure rfl rfl (fun _ => LV.add rfl rfl (wr64 (by omega) (by omega))) ?_
          iterate 2 refine WS.pure rfl rfl (fun _ => LV.mv rfl) ?_
          obtain ⟨A17, c17, A18, c18, e12, g9, e13, r4⟩ := St.eltRR (SH.rdRR hS18 (.head _)) default i (by omega) (by omega)
          refine WS.pure rfl rfl (fun _ => LV.idxA Try.underlying45 ti49.sz rfl e12 rfl (by omega) (by omega)) ?_
          refine WS.look rfl rfl (fun _ hk_ => LV.load1 Try.underlying49 rfl rfl (g9 _ hk_)) ?_
          refine WS.pure rfl rfl (fun _ => LV.mv rfl) ?_
          obtain ⟨A19, c19, e14, g10⟩ := St.elt (St.inner (SH.rdRR hS18 (.head _)) (getD_mem (by omega)) e13) 0 j (by omega) (by omega)
          refine WS.pure rfl rfl (fun _ => LV.idxA Try.underlying49 ti3.sz rfl e14 rfl (by omega) (by omega)) ?_
          refine WS.look rfl rfl (fun _ hk_ => LV.load1 (v := (.int .i64 (gI ((tb.getD (i).toNat default).2) (j)))) Try.underlying3 rfl rfl (g10 _ hk_ 0 _ rfl)) ?_
          refine WS.pure rfl rfl (fun _ => LV.eqI rfl rfl) ?_
          refine WS.pure rfl rfl (fun _ => LV.pickT rfl rfl) ?_
          refine WS.nil (thenQ.n ?_)
          refine WC.condP (p := ((gI ((tb.getD (i + 1).toNat default).2) (j)) + 1) = (gI ((tb.getD (i).toNat default).2) (j))) rfl (fun hc4 => ?_) (fun hc4 => ?_)
          · skip
            refine WC.seq ?_
            refine WC.region ?_
            refine WL.lv rfl (LV.mv rfl) ?_
            refine WL.xe rfl (XE.buildSlice (E := eI) [(0, (.int .i64 2))] #[(.int .i64 2)] [2] hS18 Try.underlying47 ti50 rfl (by decide) (by kernel_rfl) (.inr rfl) rfl rfl (by decide)) ?_
            rintro _ w10 ⟨b5, rfl, hS19, hk8⟩
            have hS20 : SH w No w10 [rowE eI 50 (.slice A out.length c) out, rowE eI 50 (.slice (some ⟨b5, 0, none⟩) 1 1) [2], rrE eI 49 3 (.slice A2 n1 c2) tb] := (SH.front [_, _] hS19)
            refine WL.xe rfl (XE.append hS20 Try.underlying47 ti50 rfl (St.now (SH.rd hS20 (.tail _ (.head _)))) rfl rfl (by first | omega | simp only [List.length_append, List.length_cons, List.length_nil, List.length_take, List.length_reverse, List.length_drop] at *; omega) (by first | omega | simp only [List.length_append, List.length_cons, List.length_nil, List.length_take, List.length_reverse, List.length_drop] at *; omega)) ?_
            rintro _ w11 ⟨A20, c20, rfl, hS21, hk9⟩
            refine WL.lv rfl (LV.asg rfl) ?_
            refine WL.nil (thenQ.n ?_)
            refine WC.region ?_
            refine WL.lv rfl (LV.mv rfl) ?_
            refine WL.lv rfl (LV.add rfl rfl (wr64 (by omega) (by omega))) ?_
            refine WL.lv rfl (LV.asg rfl) ?_
            refine WL.nil (blockQ.n <| thenQ.n ?_)
            have hS22 : SH w No w11 [rrE eI 49 3 (.slice A2 n1 c2) tb, rowE eI 50 (.slice A20 ((out ++ ([2] : List Int)).length) c20) (out ++ ([2] : List Int))] := (SH.take 2 rfl (SH.front [_, _] hS21))
            obtain ⟨hy_, hd_⟩ := Wy_out (a := a) (b := b) q0 (by omega) q2 q3 (fun h_ => by omega) (by omega)
            exact ⟨_, by omega, i + 1, j, A20, c20, (out ++ ([2] : List Int)), by omega, by omega, by omega, by omega, (by rw [← q5, hy_]; simp), (by simp; omega), hS22, rfl, Weak.cons rfl <| Weak.cons rfl <| Weak.cons rfl <| Weak.cons rfl <| Weak.cons rfl <| Weak.cons rfl <| Weak.cons rfl <| Weak.nil _⟩
          · skip
            refine WC.seq ?_
            refine WC.region ?_
            refine WL.lv rfl (LV.mv rfl) ?_
            refine WL.xe rfl (XE.buildSlice (E := eI) [(0, (.int .i64 3))] #[(.int .i64 3)] [3] hS18 Try.underlying47 ti50 rfl (by decide) (by kernel_rfl) (.inr rfl) rfl rfl (by decide)) ?_
            rintro _ w12 ⟨b6, rfl, hS23, hk10⟩
            have hS24 : SH w No w12 [rowE eI 50 (.slice A out.length c) out, rowE eI 50 (.slice (some ⟨b6, 0, none⟩) 1 1) [3], rrE eI 49 3 (.slice A2 n1 c2) tb] := (SH.front [_, _] hS23)
            refine WL.xe rfl (XE.append hS24 Try.underlying47 ti50 rfl (St.now (SH.rd hS24 (.tail _ (.head _)))) rfl rfl (by first | omega | simp only [List.length_append, List.length_cons, List.length_nil, List.length_take, List.length_reverse, List.length_drop] at *; omega) (by first | omega | simp only [List.length_append, List.length_cons, List.length_nil, List.length_take, List.length_reverse, List.length_drop] at *; omega)) ?_
            rintro _ w13 ⟨A21, c21, rfl, hS25, hk11⟩
            refine WL.lv rfl (LV.asg rfl) ?_
            refine WL.nil (thenQ.n ?_)
            refine WC.region ?_
            refine WL.lv rfl (LV.mv rfl) ?_
            refine WL.lv rfl (LV.add rfl rfl (wr64 (by omega) (by omega))) ?_
            refine WL.lv rfl (LV.asg rfl) ?_
            refine WL.nil (blockQ.n <| thenQ.n ?_)
            have hS26 : SH w No w13 [rrE eI 49 3 (.slice A2 n1 c2) tb, rowE eI 50 (.slice A21 ((out ++ ([3] : List Int)).length) c21) (out ++ ([3] : List Int))] := (SH.take 2 rfl (SH.front [_, _] hS25))
            obtain ⟨hj_, hy_, hd_⟩ := Wy_in (a := a) (b := b) q0 q1 q2 q3 (by omega) (fun h1_ h2_ => by omega) (fun h_ => by have hd1_ := D_1 (a := a) (b := b) (i := i) (j := j) q0 h_; omega)
            exact ⟨_, by omega, i, j + 1, A21, c21, (out ++ ([3] : List Int)), by omega, by omega, by omega, by omega, (by rw [← q5, hy_]; simp), (by simp; omega), hS26, rfl, Weak.cons rfl <| Weak.cons rfl <| Weak.cons rfl <| Weak.cons rfl <| Weak.cons rfl <| Weak.cons rfl <| Weak.cons rfl <| Weak.nil _⟩
      · refine WL.lv rfl (LV.as (LV.ltI rfl rfl) (decide_eq_false hg2)) ?_
        iterate 3 refine WL.lv rfl (LV.mv rfl) ?_
        refine WL.lv rfl (LV.lenL Try.underlying49 rfl) ?_
        refine WL.lv rfl (LV.ltI rfl rfl) ?_
        refine WL.lv rfl (LV.pickF rfl rfl) ?_
        refine WL.nil (thenQ.n ?_)
        refine WC.condP (p := j < (b.length : Int)) rfl (fun hc5 => ?_) (fun hc5 => ?_)
        · skip
          refine WC.skip (thenQ.n ?_)
          refine WC.block ?_
          refine WC.seq ?_
          have hS27 := SH.drew hL1
          refine WC.regionD [] (fun w_ => KB No w3.drew w_) [(.pure, 0), (.pure, 1), (.pure, 2), (.pure, 3), (.pure, 4), (.pure, 5), (.pure, 6), (.pure, 7), (.pure, 8), (.pure, 9), (.pure, 10), (.pure, 11), (.pure, 12), (.pure, 13), (.look, 14), (.pure, 15), (.pure, 16), (.pure, 17), (.look, 18), (.pure, 19), (.pure, 20)] (by kernel_rfl) (by kernel_rfl) (KB.refl _ _) ?_
          iterate 2 refine WS.pure rfl rfl (fun _ => LV.mv rfl) ?_
          refine WS.pure rfl rfl (fun _ => LV.lenL Try.underlying49 rfl) ?_
          refine WS.pure rfl rfl (fun _ => LV.as (LV.ltI rfl rfl) (decide_eq_false hg2)) ?_
          refine WS.pure rfl rfl (fun _ => LV.mv rfl) ?_
          iterate 4 refine WS.off rfl rfl ?_
          refine WS.pure rfl rfl (fun _ => LV.pickF rfl rfl) ?_
          refine WS.pure rfl rfl (fun _ => LV.mv rfl) ?_
          iterate 3 refine WS.off rfl rfl ?_
          refine WS.offL rfl rfl ?_
          iterate 3 refine WS.off rfl rfl ?_
          refine WS.offL rfl rfl ?_
          refine WS.off rfl rfl ?_
          refine WS.pure rfl rfl (fun _ => LV.pickF rfl rfl) ?_
          refine WS.nil (thenQ.n ?_)
          refine WC.condF rfl ?_
          refine WC.seq ?_
          have hS28 := SH.drew hS27
          refine WC.regionD [] (fun w_ => KB No w3.drew.drew w_) [(.pure, 0), (.pure, 1), (.pure, 2), (.pure, 3), (.pure, 4), (.pure, 5), (.pure, 6), (.pure, 7), (.pure, 8), (.look, 9), (.pure, 10), (.pure, 11), (.look, 12), (.pure, 13), (.pure, 14), (.pure, 15), (.pure, 16), (.look, 17), (.pure, 18), (.pure, 19), (.look, 20), (.pure, 21), (.pure, 22)] (by kernel_rfl) (by kernel_rfl) (KB.refl _ _) ?_
          iterate 2 refine WS.pure rfl rfl (fun _ => LV.mv rfl) ?_
          refine WS.pure rfl rfl (fun _ => LV.lenL Try.underlying49 rfl) ?_
          refine WS.pure rfl rfl (fun _ => LV.as (LV.ltI rfl rfl) (decide_eq_false hg2)) ?_
          refine WS.pure rfl rfl (fun _ => LV.mv rfl) ?_
          iterate 4 refine WS.off rfl rfl ?_
          refine WS.offL rfl rfl ?_
          iterate 2 refine WS.off rfl rfl ?_
          refine WS.offL rfl rfl ?_
          iterate 4 refine WS.off rfl rfl ?_
          refine WS.offL rfl rfl ?_
          iterate 2 refine WS.off rfl rfl ?_
          refine WS.offL rfl rfl ?_
          refine WS.off rfl rfl ?_
          refine WS.pure rfl rfl (fun _ => LV.pickF rfl rfl) ?_
          refine WS.nil (thenQ.n ?_)
          refine WC.condF rfl ?_
          refine WC.seq ?_
          refine WC.region ?_
          refine WL.lv rfl (LV.mv rfl) ?_
          refine WL.xe rfl (XE.buildSlice (E := eI) [(0, (.int .i64 3))] #[(.int .i64 3)] [3] hS28 Try.underlying47 ti50 rfl (by decide) (by kernel_rfl) (.inr rfl) rfl rfl (by decide)) ?_
          rintro _ w14 ⟨b7, rfl, hS29, hk12⟩
          have hS30 : SH w No w14 [rowE eI 50 (.slice A out.length c) out, rowE eI 50 (.slice (some ⟨b7, 0, none⟩) 1 1) [3], rrE eI 49 3 (.slice A2 n1 c2) tb] := (SH.front [_, _] hS29)
          refine WL.xe rfl (XE.append hS30 Try.underlying47 ti50 rfl (St.now (SH.rd hS30 (.tail _ (.head _)))) rfl rfl (by first | omega | simp only [List.length_append, List.length_cons, List.length_nil, List.length_take, List.length_reverse, List.length_drop] at *; omega) (by first | omega | simp only [List.length_append, List.length_cons, List.length_nil, List.length_take, List.length_reverse, List.length_drop] at *; omega)) ?_
          rintro _ w15 ⟨A22, c22, rfl, hS31, hk13⟩
          refine WL.lv rfl (LV.asg rfl) ?_
          refine WL.nil (thenQ.n ?_)
          refine WC.region ?_
          refine WL.lv rfl (LV.mv rfl) ?_
          refine WL.lv rfl (LV.add rfl rfl (wr64 (by omega) (by omega))) ?_
          refine WL.lv rfl (LV.asg rfl) ?_
          refine WL.nil (blockQ.n <| thenQ.n ?_)
          have hS32 : SH w No w15 [rrE eI 49 3 (.slice A2 n1 c2) tb, rowE eI 50 (.slice A22 ((out ++ ([3] : List Int)).length) c22) (out ++ ([3] : List Int))] := (SH.take 2 rfl (SH.front [_, _] hS31))
          obtain ⟨hj_, hy_, hd_⟩ := Wy_in (a := a) (b := b) q0 q1 q2 q3 (by omega) (fun h1_ h2_ => by omega) (fun h_ => by have hd1_ := D_1 (a := a) (b := b) (i := i) (j := j) q0 h_; omega)
          exact ⟨_, by omega, i, j + 1, A22, c22, (out ++ ([3] : List Int)), by omega, by omega, by omega, by omega, (by rw [← q5, hy_]; simp), (by simp; omega), hS32, rfl, Weak.cons rfl <| Weak.cons rfl <| Weak.cons rfl <| Weak.cons rfl <| Weak.cons rfl <| Weak.cons rfl <| Weak.cons rfl <| Weak.nil _⟩
        · skip
          refine WC.exit (thenQ.x <| thenQ.x <| blockQ.hit <| thenQ.n ?_)
          refine WC.seq ?_
          refine WC.region ?_
          refine WL.lv rfl (LV.mv rfl) ?_
          refine WL.lv rfl (LV.asg rfl) ?_
          refine WL.nil (thenQ.n ?_)
          refine WC.ret (?_)
          have hS33 : SH w No w3 [rowE eI 50 (.slice A out.length c) out] := (SH.take 1 rfl (SH.front [_] hL1))
          exact ⟨_, fun a ha => res1 rfl ha rfl, (by rw [show Stp a b = way a b from if_neg (by omega)]; rw [Wy_end (by omega) (by omega), List.append_nil] at q5; rw [← q5]; exact ⟨_, _, rfl, hS33⟩)⟩

end Go.Proofs.Ytomeffnlmefnlaa
