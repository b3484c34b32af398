/- Numbers' texts. -/
import Derived.Test.YthmjieikbeemhaaProg
import Derived.Test.YthmjieikbeemhaaDcA
import Derived.Test.YthmjieikbeemhaaGvX
import Derived.Test.YthmjieikbeemhaaGvG
namespace Go.Proofs.Ythmjieikbeemhaa
open Go Go.Gv Go.RowKit Go.Dec
set_option linter.unusedVariables false
set_option linter.unusedSimpArgs false
theorem ti5 : TI Try.prog 5 (.int .u8 0) 1 1 := by unfold TI; kernel_rfl
theorem ti76 : TI Try.prog 76 (.agg #[(.int .u8 0), (.int .u8 0), (.int .u8 0), (.int .u8 0), (.int .u8 0), (.int .u8 0), (.int .u8 0), (.int .u8 0), (.int .u8 0), (.int .u8 0)]) 10 10 := by unfold TI; kernel_rfl

theorem decimal_calls {w : World} {n : Int}  :
    Calls Try.prog 36 #[(.int .i64 n)] w fun e w' => ∃ v, e = .returned v ∧ (fun v w' => v = .string (DEC n) ∧ KB No w w') v w' := by
  have hS : SH w No w [] := SH.nil _ _
  refine calls (l := litOf [(.int .i64 n)] 0) Try.func36 rfl (n := 26) rfl (Nat.le_of_ble_eq_true rfl) (lit_args _) ?_
  refine WC.seq ?_
  refine WC.region ?_
  refine WL.lv rfl (LV.asg rfl) ?_
  refine WL.nil (thenQ.n ?_)
  iterate 2 refine WC.seq ?_
  refine WC.region ?_
  refine WL.lv rfl (LV.mv rfl) ?_
  rcases Decidable.em (n < 0) with hg1 | hg1
  · refine WL.lv rfl (LV.as (LV.ltI rfl rfl) (decide_eq_true hg1)) ?_
    refine WL.lv rfl (LV.mv rfl) ?_
    iterate 2 refine WL.off rfl ?_
    refine WL.lv rfl (LV.pickT rfl rfl) ?_
    refine WL.nil (thenQ.n ?_)
    refine WC.condT rfl ?_
    refine WC.seq ?_
    refine WC.region ?_
    refine WL.lv rfl (LV.asg rfl) ?_
    refine WL.nil (thenQ.n ?_)
    refine WC.ret (thenQ.r <| ?_)
    exact ⟨_, fun a ha => res1 rfl ha rfl, congrArg Value.string ((DEC_out (by omega)).symm), hS.kb⟩
  · refine WL.lv rfl (LV.as (LV.ltI rfl rfl) (decide_eq_false hg1)) ?_
    iterate 2 refine WL.lv rfl (LV.mv rfl) ?_
    refine WL.lv rfl (LV.gtI rfl rfl) ?_
    refine WL.lv rfl (LV.pickF rfl rfl) ?_
    refine WL.nil (thenQ.n ?_)
    refine WC.condP (p := n > 2147483647) rfl (fun hc1 => ?_) (fun hc1 => ?_)
    · skip
      refine WC.seq ?_
      refine WC.region ?_
      refine WL.lv rfl (LV.asg rfl) ?_
      refine WL.nil (thenQ.n ?_)
      refine WC.ret (thenQ.r <| ?_)
      exact ⟨_, fun a ha => res1 rfl ha rfl, congrArg Value.string ((DEC_out (by omega)).symm), hS.kb⟩
    · skip
      refine WC.skip (thenQ.n ?_)
      refine WC.seq ?_
      refine WC.region ?_
      refine WL.xe rfl (XE.alloc #[(.int .u8 0), (.int .u8 0), (.int .u8 0), (.int .u8 0), (.int .u8 0), (.int .u8 0), (.int .u8 0), (.int .u8 0), (.int .u8 0), (.int .u8 0)] hS ti76 rfl) ?_
      rintro _ w1 ⟨b1, rfl, hS1, hk1⟩
      have hS2 := SH.arr (E := eU8) (n := 10) (List.replicate 10 (0 : Int)) hS1 (by rfl) (by simp) (by decide)
      refine WL.nil (thenQ.n ?_)
      refine WC.seq ?_
      refine WC.region ?_
      refine WL.lv rfl (LV.asg rfl) ?_
      refine WL.nil (thenQ.n ?_)
      refine WC.block ?_
      refine WC.loop (fun m_ f_ w_ => ∃ (nu : Int) (i : Int) (b2 : List Int), (Wr n i nu b2) ∧ SH w No w_ [rowE eU8 76 (.slice (some ⟨b1, 0, none⟩) 10 10) b2] ∧ m_ = nu.toNat ∧ Weak (lit [(0, (.int .i64 nu)), (3, (.pointer (some ⟨b1, 0, none⟩))), (4, (.int .i64 i))]) f_) _ ⟨n, 10, (List.replicate 10 (0 : Int)), (Wr.z (by omega) (by omega) (by simp)), hS2, rfl, Weak.cons rfl <| Weak.cons rfl <| Weak.cons rfl <| Weak.nil _⟩ ?_
      rintro m1 f1 w2 ⟨nu, i, b2, q1, hL1, rfl, hw1⟩
      refine WC.weak hw1 ?_
      clear hw1
      have hb_ := q1.len
      have hi0_ := q1.ip
      have hi1_ := q1.i1
      have hn0_ := q1.n0
      have hn1_ := q1.n1
      refine WC.block ?_
      refine WC.seq ?_
      refine WC.region ?_
      refine WL.lv rfl (LV.mv rfl) ?_
      refine WL.lv rfl (LV.sub rfl rfl (wr64 (by omega) (by omega))) ?_
      refine WL.lv rfl (LV.asg rfl) ?_
      refine WL.nil (thenQ.n ?_)
      refine WC.seq ?_
      refine WC.region ?_
      iterate 2 refine WL.lv rfl (LV.mv rfl) ?_
      refine WL.lv rfl (LV.rem rfl rfl (by decide) (rem64 (by omega) rfl)) ?_
      refine WL.lv rfl (LV.add rfl rfl (wr64 (by omega) (by omega))) ?_
      refine WL.lv rfl (LV.cvtI Try.underlying3 Try.underlying5 rfl (wrU8 (by omega) (by omega))) ?_
      obtain ⟨A1, c1, e1, g1⟩ := St.elt (SH.rd hL1 (.head _)) 0 (i - 1) (by omega) (by omega)
      obtain rfl : (⟨b1, 0, none⟩ : Addr) = A1 := Option.some.inj (Value.slice.inj e1).1
      refine WL.lv rfl (LV.idxArr Try.underlying76 ti5.sz rfl rfl (by omega) (by omega)) ?_
      refine WL.xse rfl (XSE.row1 (i := i - 1) (o := 0) (k := 0) (48 + (nu % 10)) hL1 e1 (by omega) (by omega) (by decide) ti5.sz rfl rfl rfl rfl) ?_
      rintro w3 ⟨hS3, hk2⟩
      refine WL.nil (thenQ.n ?_)
      refine WC.seq ?_
      refine WC.region ?_
      refine WL.lv rfl (LV.mv rfl) ?_
      refine WL.lv rfl (LV.quo rfl rfl (by decide) (quo64 (by omega) (by omega) (by decide) rfl)) ?_
      refine WL.lv rfl (LV.asg rfl) ?_
      refine WL.nil (thenQ.n ?_)
      refine WC.seq ?_
      refine WC.region ?_
      refine WL.lv rfl (LV.mv rfl) ?_
      refine WL.lv rfl (LV.eqI rfl rfl) ?_
      refine WL.nil (thenQ.n ?_)
      refine WC.condP (p := (nu / 10) = 0) rfl (fun hc2 => ?_) (fun hc2 => ?_)
      · skip
        refine WC.seq ?_
        refine WC.region ?_
        refine WL.lv rfl (LV.mv rfl) ?_
        have hcap1 : 10 ≤ 10 := (Rd.cap (St.now (SH.rd hS3 (.head _))))
        refine WL.lv rfl (LV.cutArr Try.underlying76 ti5.sz rfl rfl rfl rfl ⟨.inr ⟨.i64, by rw [Int.toNat_of_nonneg (a := i - 1) (by omega)] <;> rfl⟩, .inl ⟨rfl, rfl, rfl⟩, .inl ⟨rfl, rfl⟩⟩ (by omega) (by omega) (by omega)) ?_
        refine WL.lv rfl (LV.strOf Try.underlying40 Try.underlying5 Try.underlying9 rfl (((SH.rd hS3 (.head _)).imp fun _ h => Rd.cut h (by omega) (by omega) (by omega) (by omega)) _ (KB.refl No _))) ?_
        refine WL.lv rfl (LV.asg rfl) ?_
        refine WL.nil (thenQ.n ?_)
        refine WC.ret (blockQ.r <| thenQ.r <| blockQ.r <| ?_)
        exact ⟨_, fun a ha => res1 rfl ha rfl, congrArg Value.string (by rw [DEC_in (by omega), q1.fin (by omega), List.take_of_length_le (by simp; omega)]), hS3.kb⟩
      · skip
        refine WC.skip (blockQ.n <| thenQ.n ?_)
        exact ⟨_, by omega, nu / 10, i - 1, (b2.set (i - 1).toNat (48 + (nu % 10))), (q1.more (by omega)), hS3, rfl, Weak.cons rfl <| Weak.cons rfl <| Weak.cons rfl <| Weak.nil _⟩

def RDecN (N : Nat) : Prop := ∀ {w : World} {n : Int}  (hN : n.toNat < N), Calls Try.prog 38 #[.int .i64 n] w fun e w' => ∃ v, e = .returned v ∧ (fun v w' => v = .string (DEC n) ∧ KB No w w') v w'

theorem rdecimal_step {w : World} {n : Int} {N : Nat} (IH : RDecN N) (hN : n.toNat ≤ N) :
    Calls Try.prog 38 #[(.int .i64 n)] w fun e w' => ∃ v, e = .returned v ∧ (fun v w' => v = .string (DEC n) ∧ KB No w w') v w' := by
  have hds_ := DEC_size (n / 10)
  have hss_ : (strOfNums [48 + n % 10]).size = 1 := str_size _
  have hS : SH w No w [] := SH.nil _ _
  refine calls (l := litOf [(.int .i64 n)] 0) Try.func38 rfl (n := 26) rfl (Nat.le_of_ble_eq_true rfl) (lit_args _) ?_
  refine WC.seq ?_
  refine WC.region ?_
  refine WL.lv rfl (LV.asg rfl) ?_
  refine WL.nil (thenQ.n ?_)
  iterate 2 refine WC.seq ?_
  refine WC.region ?_
  refine WL.lv rfl (LV.mv rfl) ?_
  rcases Decidable.em (n < 0) with hg1 | hg1
  · refine WL.lv rfl (LV.as (LV.ltI rfl rfl) (decide_eq_true hg1)) ?_
    refine WL.lv rfl (LV.mv rfl) ?_
    iterate 2 refine WL.off rfl ?_
    refine WL.lv rfl (LV.pickT rfl rfl) ?_
    refine WL.nil (thenQ.n ?_)
    refine WC.condT rfl ?_
    refine WC.seq ?_
    refine WC.region ?_
    refine WL.lv rfl (LV.asg rfl) ?_
    refine WL.nil (thenQ.n ?_)
    refine WC.ret (thenQ.r <| ?_)
    exact ⟨_, fun a ha => res1 rfl ha rfl, congrArg Value.string ((DEC_out (by omega)).symm), hS.kb⟩
  · refine WL.lv rfl (LV.as (LV.ltI rfl rfl) (decide_eq_false hg1)) ?_
    iterate 2 refine WL.lv rfl (LV.mv rfl) ?_
    refine WL.lv rfl (LV.gtI rfl rfl) ?_
    refine WL.lv rfl (LV.pickF rfl rfl) ?_
    refine WL.nil (thenQ.n ?_)
    refine WC.condP (p := n > 2147483647) rfl (fun hc1 => ?_) (fun hc1 => ?_)
    · skip
      refine WC.seq ?_
      refine WC.region ?_
      refine WL.lv rfl (LV.asg rfl) ?_
      refine WL.nil (thenQ.n ?_)
      refine WC.ret (thenQ.r <| ?_)
      exact ⟨_, fun a ha => res1 rfl ha rfl, congrArg Value.string ((DEC_out (by omega)).symm), hS.kb⟩
    · skip
      refine WC.skip (thenQ.n ?_)
      iterate 2 refine WC.seq ?_
      refine WC.region ?_
      refine WL.lv rfl (LV.mv rfl) ?_
      refine WL.lv rfl (LV.ltI rfl rfl) ?_
      refine WL.nil (thenQ.n ?_)
      refine WC.condP (p := n < 10) rfl (fun hc2 => ?_) (fun hc2 => ?_)
      · skip
        refine WC.seq ?_
        refine WC.region ?_
        refine WL.lv rfl (LV.mv rfl) ?_
        refine WL.lv rfl (LV.add rfl rfl (wr64 (by omega) (by omega))) ?_
        refine WL.lv rfl (LV.cvtI Try.underlying3 Try.underlying5 rfl (wrU8 (by omega) (by omega))) ?_
        refine WL.xe rfl (XE.buildSlice (E := eU8) [(0, (.int .u8 (48 + n)))] #[(.int .u8 (48 + n))] [48 + n] hS Try.underlying40 ti5 rfl (by decide) (by kernel_rfl) (.inr rfl) rfl rfl (by decide)) ?_
        rintro _ w1 ⟨b1, rfl, hS1, hk1⟩
        refine WL.lv rfl (LV.strOf Try.underlying40 Try.underlying5 Try.underlying9 rfl ((SH.rd hS1 (.head _)) _ (KB.refl No _))) ?_
        refine WL.lv rfl (LV.asg rfl) ?_
        refine WL.nil (thenQ.n ?_)
        refine WC.ret (thenQ.r <| ?_)
        exact ⟨_, fun a ha => res1 rfl ha rfl, congrArg Value.string ((DEC_one (by omega) (by omega)).symm), hS1.kb⟩
      · skip
        refine WC.skip (thenQ.n ?_)
        refine WC.seq ?_
        have hS2 := SH.drew hS
        refine WC.regionD [] (fun _ => True) [(.pure, 0), (.pure, 1), (.pure, 3), (.pure, 4), (.pure, 5), (.pure, 6), (.fork, 0), (.fork, 0), (.fork, 0), (.fork, 0), (.fork, 0)] (by kernel_rfl) (by kernel_rfl) trivial ?_
        refine WS.pure rfl rfl (fun _ => LV.mv rfl) ?_
        refine WS.pure rfl rfl (fun _ => LV.quo rfl rfl (by decide) (quo64 (by omega) (by omega) (by decide) rfl)) ?_
        refine WS.pure rfl rfl (fun _ => LV.mv rfl) ?_
        refine WS.pure rfl rfl (fun _ => LV.rem rfl rfl (by decide) (rem64 (by omega) rfl)) ?_
        refine WS.pure rfl rfl (fun _ => LV.add rfl rfl (wr64 (by omega) (by omega))) ?_
        refine WS.pure rfl rfl (fun _ => LV.cvtI Try.underlying3 Try.underlying5 rfl (wrU8 (by omega) (by omega))) ?_
        refine WS.fork (WSX.two 2 7 (by kernel_rfl) ?_ ?_)
        · refine WO.call rfl rfl (XC.fn Try.func38 (by kernel_rfl) rfl rfl rfl) (IH (n := (n / 10)) (by omega)) ?_
          rintro v_ w2 ⟨rfl, hk2⟩
          have hS3 := SH.same hS2 hk2
          refine ⟨fun h_ => trivial, ?_⟩
          refine WSX.of [(.forced, 7), (.forced, 8), (.pure, 9), (.pure, 10)] (by kernel_rfl) rfl ?_
          refine WS.xe rfl rfl (XE.buildSlice (E := eU8) [(0, (.int .u8 (48 + (n % 10))))] #[(.int .u8 (48 + (n % 10)))] [48 + (n % 10)] hS3 Try.underlying40 ti5 rfl (by decide) (by kernel_rfl) (.inr rfl) rfl rfl (by decide)) ?_
          rintro _ w3 ⟨b2, rfl, hS4, hk3⟩
          refine ⟨fun h_ => trivial, ?_⟩
          refine WS.lvT rfl rfl (LV.strOf Try.underlying40 Try.underlying5 Try.underlying9 rfl ((SH.rd hS4 (.head _)) _ (KB.refl No _))) ?_
          refine WS.pure rfl rfl (fun _ => LV.addS rfl rfl (by first | omega | (simp only [ByteArray.size_append, lit1]; omega) | (simp only [ByteArray.size_append, lit1, str_size, List.length_cons, List.length_nil]; omega))) ?_
          refine WS.pure rfl rfl (fun _ => LV.asg rfl) ?_
          refine WS.nil (thenQ.n ?_)
          refine WC.ret (?_)
          exact ⟨_, fun a ha => res1 rfl ha rfl, congrArg Value.string ((DEC_two (by omega) (by omega)).symm), hS4.kb⟩
        · refine WO.xe rfl rfl (XE.buildSlice (E := eU8) [(0, (.int .u8 (48 + (n % 10))))] #[(.int .u8 (48 + (n % 10)))] [48 + (n % 10)] hS2 Try.underlying40 ti5 rfl (by decide) (by kernel_rfl) (.inr rfl) rfl rfl (by decide)) ?_
          rintro _ w4 ⟨b3, rfl, hS5, hk4⟩
          refine ⟨fun h_ => trivial, ?_⟩
          refine WSX.of [(.fork, 0), (.fork, 0), (.fork, 0), (.fork, 0)] (by kernel_rfl) rfl ?_
          refine WS.fork (WSX.two 2 8 (by kernel_rfl) ?_ ?_)
          · refine WO.call rfl rfl (XC.fn Try.func38 (by kernel_rfl) rfl rfl rfl) (IH (n := (n / 10)) (by omega)) ?_
            rintro v_ w5 ⟨rfl, hk5⟩
            have hS6 := SH.same hS5 hk5
            refine ⟨fun h_ => trivial, ?_⟩
            refine WSX.of [(.forced, 8), (.pure, 9), (.pure, 10)] (by kernel_rfl) rfl ?_
            refine WS.lvT rfl rfl (LV.strOf Try.underlying40 Try.underlying5 Try.underlying9 rfl ((SH.rd hS6 (.head _)) _ (KB.refl No _))) ?_
            refine WS.pure rfl rfl (fun _ => LV.addS rfl rfl (by first | omega | (simp only [ByteArray.size_append, lit1]; omega) | (simp only [ByteArray.size_append, lit1, str_size, List.length_cons, List.length_nil]; omega))) ?_
            refine WS.pure rfl rfl (fun _ => LV.asg rfl) ?_
            refine WS.nil (thenQ.n ?_)
            refine WC.ret (?_)
            exact ⟨_, fun a ha => res1 rfl ha rfl, congrArg Value.string ((DEC_two (by omega) (by omega)).symm), hS6.kb⟩
          · refine WO.lvT rfl rfl (LV.strOf Try.underlying40 Try.underlying5 Try.underlying9 rfl ((SH.rd hS5 (.head _)) _ (KB.refl No _))) ?_
            refine WSX.of [(.forced, 2), (.pure, 9), (.pure, 10)] (by kernel_rfl) rfl ?_
            refine WS.call rfl rfl (XC.fn Try.func38 (by kernel_rfl) rfl rfl rfl) (IH (n := (n / 10)) (by omega)) ?_
            rintro v_ w6 ⟨rfl, hk6⟩
            have hS7 := SH.same hS5 hk6
            refine ⟨fun h_ => trivial, ?_⟩
            refine WS.pure rfl rfl (fun _ => LV.addS rfl rfl (by first | omega | (simp only [ByteArray.size_append, lit1]; omega) | (simp only [ByteArray.size_append, lit1, str_size, List.length_cons, List.length_nil]; omega))) ?_
            refine WS.pure rfl rfl (fun _ => LV.asg rfl) ?_
            refine WS.nil (thenQ.n ?_)
            refine WC.ret (?_)
            exact ⟨_, fun a ha => res1 rfl ha rfl, congrArg Value.string ((DEC_two (by omega) (by omega)).symm), hS7.kb⟩

theorem rdec_N : ∀ N : Nat, RDecN N := by
  intro N; induction N with
  | zero => unfold RDecN; intros; omega
  | succ N ih => unfold RDecN; intros; apply rdecimal_step (N := N) <;> first | exact ih | assumption | omega
theorem rdecimal_calls {w : World} {n : Int}  : Calls Try.prog 38 #[.int .i64 n] w fun e w' => ∃ v, e = .returned v ∧ (fun v w' => v = .string (DEC n) ∧ KB No w w') v w' := by
  exact rdec_N (n.toNat + 1) (by omega)

end Go.Proofs.Ythmjieikbeemhaa
