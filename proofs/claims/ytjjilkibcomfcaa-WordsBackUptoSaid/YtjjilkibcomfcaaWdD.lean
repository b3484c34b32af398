/- The document's tokens. -/
import Derived.Test.YtjjilkibcomfcaaWdB
import Derived.Test.YtjjilkibcomfcaaWdC
namespace Go.Proofs.Ytjjilkibcomfcaa
open Go Go.Gv Go.RowKit Go.Wds
set_option linter.unusedVariables false
set_option linter.unusedSimpArgs false

theorem rtokens_calls {w : World} {s : ByteArray} (hs : s.size ≤ 1000000) :
    Calls Try.prog 10 #[(.string s)] w fun e w' => ∃ v, e = .returned v ∧ (fun v w' => ∃ (A0' : Option Addr) (c0' : Nat), v = .slice A0' (TOK s).length c0' ∧ SH w No w' [rowE eS 9 (.slice A0' (TOK s).length c0') (TOK s)]) v w' := by
  have hS : SH w No w [] := SH.nil _ _
  refine calls (l := litOf [(.string s)] 0) Try.func10 rfl (n := 49) rfl (Nat.le_of_ble_eq_true rfl) (lit_args _) ?_
  refine WC.seq ?_
  refine WC.region ?_
  refine WL.lv rfl (LV.asg rfl) ?_
  refine WL.nil (thenQ.n ?_)
  refine WC.seq ?_
  refine WC.region ?_
  refine WL.xe rfl (XE.buildSlice (E := eS) [] #[] [] hS Try.underlying22 ti9 rfl (by decide) (by kernel_rfl) (.inr rfl) rfl rfl (by decide)) ?_
  rintro _ w1 ⟨b1, rfl, hS1, hk1⟩
  refine WL.lv rfl (LV.asg rfl) ?_
  refine WL.nil (thenQ.n ?_)
  refine WC.seq ?_
  refine WC.block ?_
  refine WC.loop (fun m_ f_ w_ => ∃ (s2 : ByteArray) (A_out : Option Addr) (c_out : Nat) (out : List ByteArray) (f : Nat), (TKS s f = (out, f)) ∧ (f ≤ s.size) ∧ (s2 = s.extract f s.size) ∧ (out.length ≤ f) ∧ SH w No w_ [rowE eS 9 (.slice A_out out.length c_out) out] ∧ m_ = s2.size ∧ Weak (lit [(0, (.string s2)), (3, (.slice A_out out.length c_out))]) f_) _ ⟨s, (some ⟨b1, 0, none⟩), 0, [], 0, rfl, (Nat.zero_le _), ((cut_all s).symm), (Nat.le_refl _), hS1, rfl, Weak.cons rfl <| Weak.cons rfl <| Weak.nil _⟩ ?_
  rintro m2 f1 w2 ⟨s2, A_out, c_out, out, f, q1, q2, q3, q4, hL1, rfl, hw1⟩
  refine WC.weak hw1 ?_
  clear hw1
  have hz_ := ext_size s (l := f) (Nat.le_refl s.size)
  rw [← q3] at hz_
  iterate 2 refine WC.seq ?_
  refine WC.region ?_
  refine WL.lv rfl (LV.mv rfl) ?_
  refine WL.lv rfl (LV.lenS Try.underlying9 rfl) ?_
  refine WL.lv rfl (LV.gtI rfl rfl) ?_
  refine WL.nil (thenQ.n ?_)
  refine WC.condP (p := (s2.size : Int) > 0) rfl (fun hk => ?_) (fun hk => ?_)
  · have hkd_ := kd_is (gI (bytesOf s2) (0 : Int))
    refine WC.skip (thenQ.n ?_)
    refine WC.block ?_
    refine WC.seq ?_
    refine WC.region ?_
    refine WL.lv rfl (LV.asg rfl) ?_
    refine WL.nil (thenQ.n ?_)
    iterate 2 refine WC.seq ?_
    refine WC.region ?_
    refine WL.lv rfl (LV.mv rfl) ?_
    refine WL.lv rfl (LV.idxSi (i := (0 : Int)) Try.underlying9 rfl rfl (by omega) (by omega)) ?_
    refine WL.call rfl (XC.fn Try.func22 (by kernel_rfl) rfl rfl rfl) (letter_calls (c := (gI (bytesOf s2) ((0 : Int)))) ) ?_
    rintro v_ w3 ⟨rfl, hk2⟩
    have hS2 := SH.same hL1 hk2
    refine WL.nil (thenQ.n ?_)
    refine WC.condP (p := KD (gI (bytesOf s2) ((0 : Int))) = 1) rfl (fun hc1 => ?_) (fun hc1 => ?_)
    · skip
      refine WC.block ?_
      refine WC.loop (fun m_ f_ w_ => ∃ (n : Int), (0 ≤ n) ∧ (n ≤ (s2.size : Int)) ∧ (1 ≤ n) ∧ (∀ t : Int, 0 ≤ t → t < n → KD (gI (bytesOf s2) t) = 1) ∧ SH w No w_ [rowE eS 9 (.slice A_out out.length c_out) out] ∧ m_ = (((s2.size : Int) - n).toNat) ∧ Weak (lit [(0, (.string s2)), (3, (.slice A_out out.length c_out)), (4, (.int .i64 n))]) f_) _ ⟨1, by omega, by omega, by omega, (fun t h0_ h1_ => by rw [show t = 0 by omega]; omega), hS2, rfl, Weak.cons rfl <| Weak.cons rfl <| Weak.cons rfl <| Weak.nil _⟩ ?_
      rintro m3 f2 w4 ⟨n, nlo, nhi, n0, n1, hL2, rfl, hw2⟩
      refine WC.weak hw2 ?_
      clear hw2
      iterate 2 refine WC.seq ?_
      refine WC.region ?_
      iterate 2 refine WL.lv rfl (LV.mv rfl) ?_
      refine WL.lv rfl (LV.lenS Try.underlying9 rfl) ?_
      rcases Decidable.em (n < (s2.size : Int)) with hg1 | hg1
      · refine WL.lv rfl (LV.as (LV.ltI rfl rfl) (decide_eq_true hg1)) ?_
        iterate 3 refine WL.lv rfl (LV.mv rfl) ?_
        refine WL.lv rfl (LV.idxSi (i := n) Try.underlying9 rfl rfl (by omega) (by omega)) ?_
        refine WL.call rfl (XC.fn Try.func22 (by kernel_rfl) rfl rfl rfl) (letter_calls (c := (gI (bytesOf s2) (n))) ) ?_
        rintro v_ w5 ⟨rfl, hk3⟩
        have hS3 := SH.same hL2 hk3
        refine WL.lv rfl (LV.pickT rfl rfl) ?_
        refine WL.nil (thenQ.n ?_)
        refine WC.condP (p := KD (gI (bytesOf s2) (n)) = 1) rfl (fun hc2 => ?_) (fun hc2 => ?_)
        · skip
          refine WC.skip (thenQ.n ?_)
          refine WC.block ?_
          refine WC.region ?_
          refine WL.lv rfl (LV.mv rfl) ?_
          refine WL.lv rfl (LV.add rfl rfl (wr64 (by omega) (by omega))) ?_
          refine WL.lv rfl (LV.asg rfl) ?_
          refine WL.nil (blockQ.n <| thenQ.n ?_)
          exact ⟨_, by omega, n + 1, by omega, by omega, by omega, (all_step n1 (by omega)), hS3, rfl, Weak.cons rfl <| Weak.cons rfl <| Weak.cons rfl <| Weak.nil _⟩
        · skip
          refine WC.exit (thenQ.x <| thenQ.x <| blockQ.hit <| thenQ.n ?_)
          refine WC.seq ?_
          refine WC.region ?_
          iterate 3 refine WL.lv rfl (LV.mv rfl) ?_
          refine WL.lv rfl (LV.cutS (l := 0) (h := (n).toNat) Try.underlying9 rfl rfl rfl ⟨.inl ⟨rfl, rfl⟩, .inr ⟨.i64, by rw [Int.toNat_of_nonneg (a := n) (by omega)] <;> rfl⟩, .inl ⟨rfl, rfl⟩⟩ (by omega) (by omega)) ?_
          refine WL.xe rfl (XE.buildSlice (E := eS) [(0, (.string (s2.extract 0 ((n).toNat))))] #[(.string (s2.extract 0 ((n).toNat)))] [s2.extract 0 ((n).toNat)] hS3 Try.underlying22 ti9 rfl (by decide) (by kernel_rfl) (.inr rfl) rfl rfl (by decide)) ?_
          rintro _ w6 ⟨b2, rfl, hS4, hk4⟩
          have hS5 : SH w No w6 [rowE eS 9 (.slice A_out out.length c_out) out, rowE eS 9 (.slice (some ⟨b2, 0, none⟩) 1 1) [s2.extract 0 ((n).toNat)]] := (SH.front [_] hS4)
          refine WL.xe rfl (XE.append hS5 Try.underlying22 ti9 rfl (St.now (SH.rd hS5 (.tail _ (.head _)))) rfl rfl (by first | omega | simp only [List.length_append, List.length_cons, List.length_nil, List.length_take, List.length_reverse, List.length_drop] at *; omega) (by first | omega | simp only [List.length_append, List.length_cons, List.length_nil, List.length_take, List.length_reverse, List.length_drop] at *; omega)) ?_
          rintro _ w7 ⟨A1, c1, rfl, hS6, hk5⟩
          refine WL.lv rfl (LV.asg rfl) ?_
          refine WL.nil (thenQ.n ?_)
          refine WC.region ?_
          iterate 2 refine WL.lv rfl (LV.mv rfl) ?_
          refine WL.lv rfl (LV.cutS (l := (n).toNat) (h := s2.size) Try.underlying9 rfl rfl rfl ⟨.inr ⟨.i64, by rw [Int.toNat_of_nonneg (a := n) (by omega)] <;> rfl⟩, .inl ⟨rfl, rfl, rfl⟩, .inl ⟨rfl, rfl⟩⟩ (by omega) (by omega)) ?_
          refine WL.lv rfl (LV.asg rfl) ?_
          refine WL.nil (blockQ.n <| thenQ.n ?_)
          have hS7 : SH w No w7 [rowE eS 9 (.slice A1 ((out ++ [s2.extract 0 ((n).toNat)]).length) c1) (out ++ [s2.extract 0 ((n).toNat)])] := (SH.take 1 rfl hS6)
          exact ⟨_, by rw [ext_size _ (Nat.le_refl _)]; omega, s2.extract ((n).toNat) s2.size, A1, c1, (out ++ [s2.extract 0 ((n).toNat)]), (f + (n).toNat), (doc_tok' (n := n) (k := 1) q3 q1 q2 (by omega) (by omega) (n1) (by omega) (by omega)), (doc_bd (n := n) q3 q2 (by omega) (by omega)), (doc_rest' (n := n) q3 q2 (by omega) (by omega)), (by simp; omega), hS7, rfl, Weak.cons rfl <| Weak.cons rfl <| Weak.nil _⟩
      · refine WL.lv rfl (LV.as (LV.ltI rfl rfl) (decide_eq_false hg1)) ?_
        refine WL.lv rfl (LV.mv rfl) ?_
        iterate 4 refine WL.off rfl ?_
        refine WL.lv rfl (LV.pickF rfl rfl) ?_
        refine WL.nil (thenQ.n ?_)
        refine WC.condF rfl ?_
        refine WC.exit (thenQ.x <| thenQ.x <| blockQ.hit <| thenQ.n ?_)
        refine WC.seq ?_
        refine WC.region ?_
        iterate 3 refine WL.lv rfl (LV.mv rfl) ?_
        refine WL.lv rfl (LV.cutS (l := 0) (h := (n).toNat) Try.underlying9 rfl rfl rfl ⟨.inl ⟨rfl, rfl⟩, .inr ⟨.i64, by rw [Int.toNat_of_nonneg (a := n) (by omega)] <;> rfl⟩, .inl ⟨rfl, rfl⟩⟩ (by omega) (by omega)) ?_
        refine WL.xe rfl (XE.buildSlice (E := eS) [(0, (.string (s2.extract 0 ((n).toNat))))] #[(.string (s2.extract 0 ((n).toNat)))] [s2.extract 0 ((n).toNat)] hL2 Try.underlying22 ti9 rfl (by decide) (by kernel_rfl) (.inr rfl) rfl rfl (by decide)) ?_
        rintro _ w8 ⟨b3, rfl, hS8, hk6⟩
        have hS9 : SH w No w8 [rowE eS 9 (.slice A_out out.length c_out) out, rowE eS 9 (.slice (some ⟨b3, 0, none⟩) 1 1) [s2.extract 0 ((n).toNat)]] := (SH.front [_] hS8)
        refine WL.xe rfl (XE.append hS9 Try.underlying22 ti9 rfl (St.now (SH.rd hS9 (.tail _ (.head _)))) rfl rfl (by first | omega | simp only [List.length_append, List.length_cons, List.length_nil, List.length_take, List.length_reverse, List.length_drop] at *; omega) (by first | omega | simp only [List.length_append, List.length_cons, List.length_nil, List.length_take, List.length_reverse, List.length_drop] at *; omega)) ?_
        rintro _ w9 ⟨A2, c2, rfl, hS10, hk7⟩
        refine WL.lv rfl (LV.asg rfl) ?_
        refine WL.nil (thenQ.n ?_)
        refine WC.region ?_
        iterate 2 refine WL.lv rfl (LV.mv rfl) ?_
        refine WL.lv rfl (LV.cutS (l := (n).toNat) (h := s2.size) Try.underlying9 rfl rfl rfl ⟨.inr ⟨.i64, by rw [Int.toNat_of_nonneg (a := n) (by omega)] <;> rfl⟩, .inl ⟨rfl, rfl, rfl⟩, .inl ⟨rfl, rfl⟩⟩ (by omega) (by omega)) ?_
        refine WL.lv rfl (LV.asg rfl) ?_
        refine WL.nil (blockQ.n <| thenQ.n ?_)
        have hS11 : SH w No w9 [rowE eS 9 (.slice A2 ((out ++ [s2.extract 0 ((n).toNat)]).length) c2) (out ++ [s2.extract 0 ((n).toNat)])] := (SH.take 1 rfl hS10)
        exact ⟨_, by rw [ext_size _ (Nat.le_refl _)]; omega, s2.extract ((n).toNat) s2.size, A2, c2, (out ++ [s2.extract 0 ((n).toNat)]), (f + (n).toNat), (doc_tok' (n := n) (k := 1) q3 q1 q2 (by omega) (by omega) (n1) (by omega) (by omega)), (doc_bd (n := n) q3 q2 (by omega) (by omega)), (doc_rest' (n := n) q3 q2 (by omega) (by omega)), (by simp; omega), hS11, rfl, Weak.cons rfl <| Weak.cons rfl <| Weak.nil _⟩
    · skip
      refine WC.seq ?_
      refine WC.region ?_
      refine WL.lv rfl (LV.mv rfl) ?_
      refine WL.lv rfl (LV.idxSi (i := (0 : Int)) Try.underlying9 rfl rfl (by omega) (by omega)) ?_
      refine WL.call rfl (XC.fn Try.func23 (by kernel_rfl) rfl rfl rfl) (blank_calls (c := (gI (bytesOf s2) ((0 : Int)))) ) ?_
      rintro v_ w10 ⟨rfl, hk8⟩
      have hS12 := SH.same hS2 hk8
      refine WL.nil (thenQ.n ?_)
      refine WC.condP (p := KD (gI (bytesOf s2) ((0 : Int))) = 2) rfl (fun hc3 => ?_) (fun hc3 => ?_)
      · skip
        refine WC.block ?_
        refine WC.loop (fun m_ f_ w_ => ∃ (mm : Int), (0 ≤ mm) ∧ (mm ≤ (s2.size : Int)) ∧ (1 ≤ mm) ∧ (∀ t : Int, 0 ≤ t → t < mm → KD (gI (bytesOf s2) t) = 2) ∧ SH w No w_ [rowE eS 9 (.slice A_out out.length c_out) out] ∧ m_ = (((s2.size : Int) - mm).toNat) ∧ Weak (lit [(0, (.string s2)), (3, (.slice A_out out.length c_out)), (4, (.int .i64 mm))]) f_) _ ⟨1, by omega, by omega, by omega, (fun t h0_ h1_ => by rw [show t = 0 by omega]; omega), hS12, rfl, Weak.cons rfl <| Weak.cons rfl <| Weak.cons rfl <| Weak.nil _⟩ ?_
        rintro m4 f3 w11 ⟨mm, mmlo, mmhi, m0, m1, hL3, rfl, hw3⟩
        refine WC.weak hw3 ?_
        clear hw3
        iterate 2 refine WC.seq ?_
        refine WC.region ?_
        iterate 2 refine WL.lv rfl (LV.mv rfl) ?_
        refine WL.lv rfl (LV.lenS Try.underlying9 rfl) ?_
        rcases Decidable.em (mm < (s2.size : Int)) with hg2 | hg2
        · refine WL.lv rfl (LV.as (LV.ltI rfl rfl) (decide_eq_true hg2)) ?_
          iterate 3 refine WL.lv rfl (LV.mv rfl) ?_
          refine WL.lv rfl (LV.idxSi (i := mm) Try.underlying9 rfl rfl (by omega) (by omega)) ?_
          refine WL.call rfl (XC.fn Try.func23 (by kernel_rfl) rfl rfl rfl) (blank_calls (c := (gI (bytesOf s2) (mm))) ) ?_
          rintro v_ w12 ⟨rfl, hk9⟩
          have hS13 := SH.same hL3 hk9
          refine WL.lv rfl (LV.pickT rfl rfl) ?_
          refine WL.nil (thenQ.n ?_)
          refine WC.condP (p := KD (gI (bytesOf s2) (mm)) = 2) rfl (fun hc4 => ?_) (fun hc4 => ?_)
          · skip
            refine WC.skip (thenQ.n ?_)
            refine WC.block ?_
            refine WC.region ?_
            refine WL.lv rfl (LV.mv rfl) ?_
            refine WL.lv rfl (LV.add rfl rfl (wr64 (by omega) (by omega))) ?_
            refine WL.lv rfl (LV.asg rfl) ?_
            refine WL.nil (blockQ.n <| thenQ.n ?_)
            exact ⟨_, by omega, mm + 1, by omega, by omega, by omega, (all_step m1 (by omega)), hS13, rfl, Weak.cons rfl <| Weak.cons rfl <| Weak.cons rfl <| Weak.nil _⟩
          · skip
            refine WC.exit (thenQ.x <| thenQ.x <| blockQ.hit <| thenQ.n ?_)
            refine WC.seq ?_
            refine WC.region ?_
            iterate 3 refine WL.lv rfl (LV.mv rfl) ?_
            refine WL.lv rfl (LV.cutS (l := 0) (h := (mm).toNat) Try.underlying9 rfl rfl rfl ⟨.inl ⟨rfl, rfl⟩, .inr ⟨.i64, by rw [Int.toNat_of_nonneg (a := mm) (by omega)] <;> rfl⟩, .inl ⟨rfl, rfl⟩⟩ (by omega) (by omega)) ?_
            refine WL.xe rfl (XE.buildSlice (E := eS) [(0, (.string (s2.extract 0 ((mm).toNat))))] #[(.string (s2.extract 0 ((mm).toNat)))] [s2.extract 0 ((mm).toNat)] hS13 Try.underlying22 ti9 rfl (by decide) (by kernel_rfl) (.inr rfl) rfl rfl (by decide)) ?_
            rintro _ w13 ⟨b4, rfl, hS14, hk10⟩
            have hS15 : SH w No w13 [rowE eS 9 (.slice A_out out.length c_out) out, rowE eS 9 (.slice (some ⟨b4, 0, none⟩) 1 1) [s2.extract 0 ((mm).toNat)]] := (SH.front [_] hS14)
            refine WL.xe rfl (XE.append hS15 Try.underlying22 ti9 rfl (St.now (SH.rd hS15 (.tail _ (.head _)))) rfl rfl (by first | omega | simp only [List.length_append, List.length_cons, List.length_nil, List.length_take, List.length_reverse, List.length_drop] at *; omega) (by first | omega | simp only [List.length_append, List.length_cons, List.length_nil, List.length_take, List.length_reverse, List.length_drop] at *; omega)) ?_
            rintro _ w14 ⟨A3, c3, rfl, hS16, hk11⟩
            refine WL.lv rfl (LV.asg rfl) ?_
            refine WL.nil (thenQ.n ?_)
            refine WC.region ?_
            iterate 2 refine WL.lv rfl (LV.mv rfl) ?_
            refine WL.lv rfl (LV.cutS (l := (mm).toNat) (h := s2.size) Try.underlying9 rfl rfl rfl ⟨.inr ⟨.i64, by rw [Int.toNat_of_nonneg (a := mm) (by omega)] <;> rfl⟩, .inl ⟨rfl, rfl, rfl⟩, .inl ⟨rfl, rfl⟩⟩ (by omega) (by omega)) ?_
            refine WL.lv rfl (LV.asg rfl) ?_
            refine WL.nil (blockQ.n <| thenQ.n ?_)
            have hS17 : SH w No w14 [rowE eS 9 (.slice A3 ((out ++ [s2.extract 0 ((mm).toNat)]).length) c3) (out ++ [s2.extract 0 ((mm).toNat)])] := (SH.take 1 rfl hS16)
            exact ⟨_, by rw [ext_size _ (Nat.le_refl _)]; omega, s2.extract ((mm).toNat) s2.size, A3, c3, (out ++ [s2.extract 0 ((mm).toNat)]), (f + (mm).toNat), (doc_tok' (n := mm) (k := 2) q3 q1 q2 (by omega) (by omega) (m1) (by omega) (by omega)), (doc_bd (n := mm) q3 q2 (by omega) (by omega)), (doc_rest' (n := mm) q3 q2 (by omega) (by omega)), (by simp; omega), hS17, rfl, Weak.cons rfl <| Weak.cons rfl <| Weak.nil _⟩
        · refine WL.lv rfl (LV.as (LV.ltI rfl rfl) (decide_eq_false hg2)) ?_
          refine WL.lv rfl (LV.mv rfl) ?_
          iterate 4 refine WL.off rfl ?_
          refine WL.lv rfl (LV.pickF rfl rfl) ?_
          refine WL.nil (thenQ.n ?_)
          refine WC.condF rfl ?_
          refine WC.exit (thenQ.x <| thenQ.x <| blockQ.hit <| thenQ.n ?_)
          refine WC.seq ?_
          refine WC.region ?_
          iterate 3 refine WL.lv rfl (LV.mv rfl) ?_
          refine WL.lv rfl (LV.cutS (l := 0) (h := (mm).toNat) Try.underlying9 rfl rfl rfl ⟨.inl ⟨rfl, rfl⟩, .inr ⟨.i64, by rw [Int.toNat_of_nonneg (a := mm) (by omega)] <;> rfl⟩, .inl ⟨rfl, rfl⟩⟩ (by omega) (by omega)) ?_
          refine WL.xe rfl (XE.buildSlice (E := eS) [(0, (.string (s2.extract 0 ((mm).toNat))))] #[(.string (s2.extract 0 ((mm).toNat)))] [s2.extract 0 ((mm).toNat)] hL3 Try.underlying22 ti9 rfl (by decide) (by kernel_rfl) (.inr rfl) rfl rfl (by decide)) ?_
          rintro _ w15 ⟨b5, rfl, hS18, hk12⟩
          have hS19 : SH w No w15 [rowE eS 9 (.slice A_out out.length c_out) out, rowE eS 9 (.slice (some ⟨b5, 0, none⟩) 1 1) [s2.extract 0 ((mm).toNat)]] := (SH.front [_] hS18)
          refine WL.xe rfl (XE.append hS19 Try.underlying22 ti9 rfl (St.now (SH.rd hS19 (.tail _ (.head _)))) rfl rfl (by first | omega | simp only [List.length_append, List.length_cons, List.length_nil, List.length_take, List.length_reverse, List.length_drop] at *; omega) (by first | omega | simp only [List.length_append, List.length_cons, List.length_nil, List.length_take, List.length_reverse, List.length_drop] at *; omega)) ?_
          rintro _ w16 ⟨A4, c4, rfl, hS20, hk13⟩
          refine WL.lv rfl (LV.asg rfl) ?_
          refine WL.nil (thenQ.n ?_)
          refine WC.region ?_
          iterate 2 refine WL.lv rfl (LV.mv rfl) ?_
          refine WL.lv rfl (LV.cutS (l := (mm).toNat) (h := s2.size) Try.underlying9 rfl rfl rfl ⟨.inr ⟨.i64, by rw [Int.toNat_of_nonneg (a := mm) (by omega)] <;> rfl⟩, .inl ⟨rfl, rfl, rfl⟩, .inl ⟨rfl, rfl⟩⟩ (by omega) (by omega)) ?_
          refine WL.lv rfl (LV.asg rfl) ?_
          refine WL.nil (blockQ.n <| thenQ.n ?_)
          have hS21 : SH w No w16 [rowE eS 9 (.slice A4 ((out ++ [s2.extract 0 ((mm).toNat)]).length) c4) (out ++ [s2.extract 0 ((mm).toNat)])] := (SH.take 1 rfl hS20)
          exact ⟨_, by rw [ext_size _ (Nat.le_refl _)]; omega, s2.extract ((mm).toNat) s2.size, A4, c4, (out ++ [s2.extract 0 ((mm).toNat)]), (f + (mm).toNat), (doc_tok' (n := mm) (k := 2) q3 q1 q2 (by omega) (by omega) (m1) (by omega) (by omega)), (doc_bd (n := mm) q3 q2 (by omega) (by omega)), (doc_rest' (n := mm) q3 q2 (by omega) (by omega)), (by simp; omega), hS21, rfl, Weak.cons rfl <| Weak.cons rfl <| Weak.nil _⟩
      · skip
        refine WC.skip (thenQ.n ?_)
        refine WC.seq ?_
        refine WC.region ?_
        iterate 3 refine WL.lv rfl (LV.mv rfl) ?_
        refine WL.lv rfl (LV.cutS (l := 0) (h := 1) Try.underlying9 rfl rfl rfl ⟨.inl ⟨rfl, rfl⟩, .inr ⟨.i64, rfl⟩, .inl ⟨rfl, rfl⟩⟩ (by omega) (by omega)) ?_
        refine WL.xe rfl (XE.buildSlice (E := eS) [(0, (.string (s2.extract 0 1)))] #[(.string (s2.extract 0 1))] [s2.extract 0 1] hS12 Try.underlying22 ti9 rfl (by decide) (by kernel_rfl) (.inr rfl) rfl rfl (by decide)) ?_
        rintro _ w17 ⟨b6, rfl, hS22, hk14⟩
        have hS23 : SH w No w17 [rowE eS 9 (.slice A_out out.length c_out) out, rowE eS 9 (.slice (some ⟨b6, 0, none⟩) 1 1) [s2.extract 0 1]] := (SH.front [_] hS22)
        refine WL.xe rfl (XE.append hS23 Try.underlying22 ti9 rfl (St.now (SH.rd hS23 (.tail _ (.head _)))) rfl rfl (by first | omega | simp only [List.length_append, List.length_cons, List.length_nil, List.length_take, List.length_reverse, List.length_drop] at *; omega) (by first | omega | simp only [List.length_append, List.length_cons, List.length_nil, List.length_take, List.length_reverse, List.length_drop] at *; omega)) ?_
        rintro _ w18 ⟨A5, c5, rfl, hS24, hk15⟩
        refine WL.lv rfl (LV.asg rfl) ?_
        refine WL.nil (thenQ.n ?_)
        refine WC.region ?_
        iterate 2 refine WL.lv rfl (LV.mv rfl) ?_
        refine WL.lv rfl (LV.cutS (l := 1) (h := s2.size) Try.underlying9 rfl rfl rfl ⟨.inr ⟨.i64, rfl⟩, .inl ⟨rfl, rfl, rfl⟩, .inl ⟨rfl, rfl⟩⟩ (by omega) (by omega)) ?_
        refine WL.lv rfl (LV.asg rfl) ?_
        refine WL.nil (blockQ.n <| thenQ.n ?_)
        have hS25 : SH w No w18 [rowE eS 9 (.slice A5 ((out ++ [s2.extract 0 1]).length) c5) (out ++ [s2.extract 0 1])] := (SH.take 1 rfl hS24)
        exact ⟨_, by rw [ext_size _ (Nat.le_refl _)]; omega, s2.extract 1 s2.size, A5, c5, (out ++ [s2.extract 0 1]), (f + ((1 : Int)).toNat), (doc_tok' (n := (1 : Int)) (k := 3) q3 q1 q2 (by omega) (by omega) (fun t h0_ h1_ => by rw [show t = 0 by omega]; omega) (by omega) (by omega)), (doc_bd (n := (1 : Int)) q3 q2 (by omega) (by omega)), (doc_rest' (n := (1 : Int)) q3 q2 (by omega) (by omega)), (by simp; omega), hS25, rfl, Weak.cons rfl <| Weak.cons rfl <| Weak.nil _⟩
  · skip
    refine WC.exit (thenQ.x <| thenQ.x <| blockQ.hit <| thenQ.n ?_)
    refine WC.seq ?_
    refine WC.region ?_
    refine WL.lv rfl (LV.mv rfl) ?_
    refine WL.lv rfl (LV.asg rfl) ?_
    refine WL.nil (thenQ.n ?_)
    refine WC.ret (?_)
    have hres1 : (out : List ByteArray) = TOK s := doc_fin q1 q2 q3 (by omega)
    exact ⟨_, fun a ha => res1 rfl ha rfl, (by rw [← hres1]; exact ⟨_, _, rfl, hL1⟩)⟩

theorem rplain_calls {w : World} {s : ByteArray} (hs : s.size ≤ 1000000) :
    Calls Try.prog 12 #[(.string s)] w fun e w' => ∃ v, e = .returned v ∧ (fun v w' => v = .string (PLN s) ∧ KB No w w') v w' := by
  have hS : SH w No w [] := SH.nil _ _
  refine calls (l := litOf [(.string s)] 0) Try.func12 rfl (n := 39) rfl (Nat.le_of_ble_eq_true rfl) (lit_args _) ?_
  refine WC.seq ?_
  refine WC.region ?_
  refine WL.lv rfl (LV.asg rfl) ?_
  refine WL.nil (thenQ.n ?_)
  refine WC.seq ?_
  refine WC.region ?_
  refine WL.lv rfl (LV.asg rfl) ?_
  refine WL.nil (thenQ.n ?_)
  refine WC.seq ?_
  refine WC.block ?_
  refine WC.loop (fun m_ f_ w_ => ∃ (s2 : ByteArray) (out : ByteArray), (bytesOf out ++ PL (bytesOf s2) = PL (bytesOf s)) ∧ (out.size + s2.size ≤ s.size) ∧ SH w No w_ [] ∧ m_ = s2.size ∧ Weak (lit [(0, (.string s2)), (3, (.string out))]) f_) _ ⟨s, ⟨#[]⟩, rfl, (by show 0 + _ ≤ _; omega), hS, rfl, Weak.cons rfl <| Weak.cons rfl <| Weak.nil _⟩ ?_
  rintro m1 f1 w1 ⟨s2, out, q1, q2, hL1, rfl, hw1⟩
  refine WC.weak hw1 ?_
  clear hw1
  iterate 2 refine WC.seq ?_
  refine WC.region ?_
  refine WL.lv rfl (LV.mv rfl) ?_
  refine WL.lv rfl (LV.lenS Try.underlying9 rfl) ?_
  refine WL.lv rfl (LV.gtI rfl rfl) ?_
  refine WL.nil (thenQ.n ?_)
  refine WC.condP (p := (s2.size : Int) > 0) rfl (fun hk => ?_) (fun hk => ?_)
  · skip
    refine WC.skip (thenQ.n ?_)
    refine WC.block ?_
    refine WC.seq ?_
    refine WC.region ?_
    refine WL.lv rfl (LV.mv rfl) ?_
    refine WL.lv rfl (LV.lenS Try.underlying9 rfl) ?_
    rcases Decidable.em ((s2.size : Int) > 1) with hg1 | hg1
    · refine WL.lv rfl (LV.as (LV.gtI rfl rfl) (decide_eq_true hg1)) ?_
      iterate 2 refine WL.lv rfl (LV.mv rfl) ?_
      refine WL.lv rfl (LV.cutS (l := 0) (h := 2) Try.underlying9 rfl rfl rfl ⟨.inl ⟨rfl, rfl⟩, .inr ⟨.i64, rfl⟩, .inl ⟨rfl, rfl⟩⟩ (by omega) (by omega)) ?_
      rcases Decidable.em ((s2.extract 0 2) = ⟨#[91, 45]⟩) with hg2 | hg2
      · refine WL.lv rfl (LV.as (LV.eqSP (a := (s2.extract 0 2)) (b := ⟨#[91, 45]⟩) rfl rfl) (decide_eq_true hg2)) ?_
        refine WL.lv rfl (LV.mv rfl) ?_
        iterate 3 refine WL.off rfl ?_
        refine WL.lv rfl (LV.pickT rfl rfl) ?_
        refine WL.lv rfl (LV.mv rfl) ?_
        iterate 3 refine WL.off rfl ?_
        refine WL.lv rfl (LV.pickT rfl rfl) ?_
        refine WL.lv rfl (LV.mv rfl) ?_
        iterate 3 refine WL.off rfl ?_
        iterate 2 refine WL.lv rfl (LV.pickT rfl rfl) ?_
        refine WL.nil (thenQ.n ?_)
        refine WC.condT rfl ?_
        refine WC.region ?_
        refine WL.lv rfl (LV.mv rfl) ?_
        refine WL.lv rfl (LV.cutS (l := 2) (h := s2.size) Try.underlying9 rfl rfl rfl ⟨.inr ⟨.i64, rfl⟩, .inl ⟨rfl, rfl, rfl⟩, .inl ⟨rfl, rfl⟩⟩ (by omega) (by omega)) ?_
        refine WL.lv rfl (LV.asg rfl) ?_
        refine WL.nil (blockQ.n <| thenQ.n ?_)
        exact ⟨_, by rw [ext_size s2 (Nat.le_refl _)]; omega, s2.extract 2 s2.size, out, (by rw [← q1, pl_doc_yes (s := s2) (by omega) (by first | exact .inl (by assumption) | exact .inr (.inl (by assumption)) | exact .inr (.inr (.inl (by assumption))) | exact .inr (.inr (.inr (by assumption))))]), (by rw [ext_size s2 (Nat.le_refl _)]; omega), hL1, rfl, Weak.cons rfl <| Weak.cons rfl <| Weak.nil _⟩
      · refine WL.lv rfl (LV.as (LV.eqSP (a := (s2.extract 0 2)) (b := ⟨#[91, 45]⟩) rfl rfl) (decide_eq_false hg2)) ?_
        iterate 2 refine WL.lv rfl (LV.mv rfl) ?_
        refine WL.lv rfl (LV.cutS (l := 0) (h := 2) Try.underlying9 rfl rfl rfl ⟨.inl ⟨rfl, rfl⟩, .inr ⟨.i64, rfl⟩, .inl ⟨rfl, rfl⟩⟩ (by omega) (by omega)) ?_
        rcases Decidable.em ((s2.extract 0 2) = ⟨#[45, 93]⟩) with hg3 | hg3
        · refine WL.lv rfl (LV.as (LV.eqSP (a := (s2.extract 0 2)) (b := ⟨#[45, 93]⟩) rfl rfl) (decide_eq_true hg3)) ?_
          refine WL.lv rfl (LV.pickF rfl rfl) ?_
          refine WL.lv rfl (LV.mv rfl) ?_
          iterate 3 refine WL.off rfl ?_
          refine WL.lv rfl (LV.pickT rfl rfl) ?_
          refine WL.lv rfl (LV.mv rfl) ?_
          iterate 3 refine WL.off rfl ?_
          iterate 2 refine WL.lv rfl (LV.pickT rfl rfl) ?_
          refine WL.nil (thenQ.n ?_)
          refine WC.condT rfl ?_
          refine WC.region ?_
          refine WL.lv rfl (LV.mv rfl) ?_
          refine WL.lv rfl (LV.cutS (l := 2) (h := s2.size) Try.underlying9 rfl rfl rfl ⟨.inr ⟨.i64, rfl⟩, .inl ⟨rfl, rfl, rfl⟩, .inl ⟨rfl, rfl⟩⟩ (by omega) (by omega)) ?_
          refine WL.lv rfl (LV.asg rfl) ?_
          refine WL.nil (blockQ.n <| thenQ.n ?_)
          exact ⟨_, by rw [ext_size s2 (Nat.le_refl _)]; omega, s2.extract 2 s2.size, out, (by rw [← q1, pl_doc_yes (s := s2) (by omega) (by first | exact .inl (by assumption) | exact .inr (.inl (by assumption)) | exact .inr (.inr (.inl (by assumption))) | exact .inr (.inr (.inr (by assumption))))]), (by rw [ext_size s2 (Nat.le_refl _)]; omega), hL1, rfl, Weak.cons rfl <| Weak.cons rfl <| Weak.nil _⟩
        · refine WL.lv rfl (LV.as (LV.eqSP (a := (s2.extract 0 2)) (b := ⟨#[45, 93]⟩) rfl rfl) (decide_eq_false hg3)) ?_
          refine WL.lv rfl (LV.pickF rfl rfl) ?_
          iterate 2 refine WL.lv rfl (LV.mv rfl) ?_
          refine WL.lv rfl (LV.cutS (l := 0) (h := 2) Try.underlying9 rfl rfl rfl ⟨.inl ⟨rfl, rfl⟩, .inr ⟨.i64, rfl⟩, .inl ⟨rfl, rfl⟩⟩ (by omega) (by omega)) ?_
          rcases Decidable.em ((s2.extract 0 2) = ⟨#[123, 43]⟩) with hg4 | hg4
          · refine WL.lv rfl (LV.as (LV.eqSP (a := (s2.extract 0 2)) (b := ⟨#[123, 43]⟩) rfl rfl) (decide_eq_true hg4)) ?_
            refine WL.lv rfl (LV.pickF rfl rfl) ?_
            refine WL.lv rfl (LV.mv rfl) ?_
            iterate 3 refine WL.off rfl ?_
            iterate 2 refine WL.lv rfl (LV.pickT rfl rfl) ?_
            refine WL.nil (thenQ.n ?_)
            refine WC.condT rfl ?_
            refine WC.region ?_
            refine WL.lv rfl (LV.mv rfl) ?_
            refine WL.lv rfl (LV.cutS (l := 2) (h := s2.size) Try.underlying9 rfl rfl rfl ⟨.inr ⟨.i64, rfl⟩, .inl ⟨rfl, rfl, rfl⟩, .inl ⟨rfl, rfl⟩⟩ (by omega) (by omega)) ?_
            refine WL.lv rfl (LV.asg rfl) ?_
            refine WL.nil (blockQ.n <| thenQ.n ?_)
            exact ⟨_, by rw [ext_size s2 (Nat.le_refl _)]; omega, s2.extract 2 s2.size, out, (by rw [← q1, pl_doc_yes (s := s2) (by omega) (by first | exact .inl (by assumption) | exact .inr (.inl (by assumption)) | exact .inr (.inr (.inl (by assumption))) | exact .inr (.inr (.inr (by assumption))))]), (by rw [ext_size s2 (Nat.le_refl _)]; omega), hL1, rfl, Weak.cons rfl <| Weak.cons rfl <| Weak.nil _⟩
          · refine WL.lv rfl (LV.as (LV.eqSP (a := (s2.extract 0 2)) (b := ⟨#[123, 43]⟩) rfl rfl) (decide_eq_false hg4)) ?_
            refine WL.lv rfl (LV.pickF rfl rfl) ?_
            iterate 2 refine WL.lv rfl (LV.mv rfl) ?_
            refine WL.lv rfl (LV.cutS (l := 0) (h := 2) Try.underlying9 rfl rfl rfl ⟨.inl ⟨rfl, rfl⟩, .inr ⟨.i64, rfl⟩, .inl ⟨rfl, rfl⟩⟩ (by omega) (by omega)) ?_
            refine WL.lv rfl (LV.eqSP (a := (s2.extract 0 2)) (b := ⟨#[43, 125]⟩) rfl rfl) ?_
            refine WL.lv rfl (LV.pickF rfl rfl) ?_
            refine WL.lv rfl (LV.pickT rfl rfl) ?_
            refine WL.nil (thenQ.n ?_)
            refine WC.condP (p := (s2.extract 0 2) = ⟨#[43, 125]⟩) rfl (fun hc1 => ?_) (fun hc1 => ?_)
            · skip
              refine WC.region ?_
              refine WL.lv rfl (LV.mv rfl) ?_
              refine WL.lv rfl (LV.cutS (l := 2) (h := s2.size) Try.underlying9 rfl rfl rfl ⟨.inr ⟨.i64, rfl⟩, .inl ⟨rfl, rfl, rfl⟩, .inl ⟨rfl, rfl⟩⟩ (by omega) (by omega)) ?_
              refine WL.lv rfl (LV.asg rfl) ?_
              refine WL.nil (blockQ.n <| thenQ.n ?_)
              exact ⟨_, by rw [ext_size s2 (Nat.le_refl _)]; omega, s2.extract 2 s2.size, out, (by rw [← q1, pl_doc_yes (s := s2) (by omega) (by first | exact .inl (by assumption) | exact .inr (.inl (by assumption)) | exact .inr (.inr (.inl (by assumption))) | exact .inr (.inr (.inr (by assumption))))]), (by rw [ext_size s2 (Nat.le_refl _)]; omega), hL1, rfl, Weak.cons rfl <| Weak.cons rfl <| Weak.nil _⟩
            · skip
              refine WC.seq ?_
              refine WC.region ?_
              iterate 2 refine WL.lv rfl (LV.mv rfl) ?_
              refine WL.lv rfl (LV.cutS (l := 0) (h := 1) Try.underlying9 rfl rfl rfl ⟨.inl ⟨rfl, rfl⟩, .inr ⟨.i64, rfl⟩, .inl ⟨rfl, rfl⟩⟩ (by omega) (by omega)) ?_
              refine WL.lv rfl (LV.addS rfl rfl (by first | omega | (simp only [ByteArray.size_append, ByteArray.size_extract, lit1]; omega))) ?_
              refine WL.lv rfl (LV.asg rfl) ?_
              refine WL.nil (thenQ.n ?_)
              refine WC.region ?_
              refine WL.lv rfl (LV.mv rfl) ?_
              refine WL.lv rfl (LV.cutS (l := 1) (h := s2.size) Try.underlying9 rfl rfl rfl ⟨.inr ⟨.i64, rfl⟩, .inl ⟨rfl, rfl, rfl⟩, .inl ⟨rfl, rfl⟩⟩ (by omega) (by omega)) ?_
              refine WL.lv rfl (LV.asg rfl) ?_
              refine WL.nil (blockQ.n <| thenQ.n ?_)
              exact ⟨_, by rw [ext_size s2 (Nat.le_refl _)]; omega, s2.extract 1 s2.size, out ++ (s2.extract 0 1), (by rw [← q1, pl_doc_no (s := s2) (by omega) (by rintro ⟨h1_, h2_⟩; rcases h2_ with h2_ | h2_ | h2_ | h2_ <;> first | contradiction | omega), bytesOf_app, List.append_assoc]), (by rw [ByteArray.size_append, ext_size s2 (l := 1) (Nat.le_refl _), ext_size s2 (l := 0) (h := 1) (by omega)]; omega), hL1, rfl, Weak.cons rfl <| Weak.cons rfl <| Weak.nil _⟩
    · refine WL.lv rfl (LV.as (LV.gtI rfl rfl) (decide_eq_false hg1)) ?_
      refine WL.lv rfl (LV.mv rfl) ?_
      iterate 18 refine WL.off rfl ?_
      refine WL.lv rfl (LV.pickF rfl rfl) ?_
      refine WL.nil (thenQ.n ?_)
      refine WC.condF rfl ?_
      refine WC.seq ?_
      refine WC.region ?_
      iterate 2 refine WL.lv rfl (LV.mv rfl) ?_
      refine WL.lv rfl (LV.cutS (l := 0) (h := 1) Try.underlying9 rfl rfl rfl ⟨.inl ⟨rfl, rfl⟩, .inr ⟨.i64, rfl⟩, .inl ⟨rfl, rfl⟩⟩ (by omega) (by omega)) ?_
      refine WL.lv rfl (LV.addS rfl rfl (by first | omega | (simp only [ByteArray.size_append, ByteArray.size_extract, lit1]; omega))) ?_
      refine WL.lv rfl (LV.asg rfl) ?_
      refine WL.nil (thenQ.n ?_)
      refine WC.region ?_
      refine WL.lv rfl (LV.mv rfl) ?_
      refine WL.lv rfl (LV.cutS (l := 1) (h := s2.size) Try.underlying9 rfl rfl rfl ⟨.inr ⟨.i64, rfl⟩, .inl ⟨rfl, rfl, rfl⟩, .inl ⟨rfl, rfl⟩⟩ (by omega) (by omega)) ?_
      refine WL.lv rfl (LV.asg rfl) ?_
      refine WL.nil (blockQ.n <| thenQ.n ?_)
      exact ⟨_, by rw [ext_size s2 (Nat.le_refl _)]; omega, s2.extract 1 s2.size, out ++ (s2.extract 0 1), (by rw [← q1, pl_doc_no (s := s2) (by omega) (by rintro ⟨h1_, h2_⟩; rcases h2_ with h2_ | h2_ | h2_ | h2_ <;> first | contradiction | omega), bytesOf_app, List.append_assoc]), (by rw [ByteArray.size_append, ext_size s2 (l := 1) (Nat.le_refl _), ext_size s2 (l := 0) (h := 1) (by omega)]; omega), hL1, rfl, Weak.cons rfl <| Weak.cons rfl <| Weak.nil _⟩
  · skip
    refine WC.exit (thenQ.x <| thenQ.x <| blockQ.hit <| thenQ.n ?_)
    refine WC.seq ?_
    refine WC.region ?_
    refine WL.lv rfl (LV.mv rfl) ?_
    refine WL.lv rfl (LV.asg rfl) ?_
    refine WL.nil (thenQ.n ?_)
    refine WC.ret (?_)
    exact ⟨_, fun a ha => res1 rfl ha rfl, congrArg Value.string (pln_of (by rw [← q1]; have h0_ : bytesOf s2 = [] := List.eq_nil_of_length_eq_zero (by rw [bytesOf_len]; omega); rw [h0_, PL_none, List.append_nil])), hL1.kb⟩

theorem stexts_calls {w : World} {A_a : Option Addr} {n_a c_a : Nat} {a : List ByteArray} {A_b : Option Addr} {n_b c_b : Nat} {b : List ByteArray} (h_a : St No w (Rd eS (.slice A_a n_a c_a) a)) (hn_a : a.length = n_a) (h_b : St No w (Rd eS (.slice A_b n_b c_b) b)) (hn_b : b.length = n_b)  :
    Calls Try.prog 9 #[(.slice A_a n_a c_a), (.slice A_b n_b c_b)] w fun e w' => ∃ v, e = .returned v ∧ (fun v w' => v = .bool (decide (a = b)) ∧ KB No w w') v w' := by
  subst hn_a hn_b
  have hma := Rd.max h_a.now
  have hS : SH w No w [] := SH.nil _ _
  refine calls (l := litOf [(.slice A_a a.length c_a), (.slice A_b b.length c_b)] 0) Try.func9 rfl (n := 26) rfl (Nat.le_of_ble_eq_true rfl) (lit_args _) ?_
  refine WC.seq ?_
  refine WC.region ?_
  refine WL.lv rfl (LV.asg rfl) ?_
  refine WL.nil (thenQ.n ?_)
  iterate 2 refine WC.seq ?_
  refine WC.region ?_
  refine WL.lv rfl (LV.mv rfl) ?_
  refine WL.lv rfl (LV.lenL Try.underlying22 rfl) ?_
  refine WL.lv rfl (LV.mv rfl) ?_
  refine WL.lv rfl (LV.lenL Try.underlying22 rfl) ?_
  refine WL.lv rfl (LV.neI rfl rfl) ?_
  refine WL.nil (thenQ.n ?_)
  refine WC.condP (p := (a.length : Int) ≠ (b.length : Int)) rfl (fun hc1 => ?_) (fun hc1 => ?_)
  · skip
    refine WC.seq ?_
    refine WC.region ?_
    refine WL.lv rfl (LV.asg rfl) ?_
    refine WL.nil (thenQ.n ?_)
    refine WC.ret (thenQ.r <| ?_)
    exact ⟨_, fun a ha => res1 rfl ha rfl, congrArg Value.bool ((decide_eq_false (fun h_ => by subst h_; first | omega | exact h25 rfl)).symm), hS.kb⟩
  · skip
    refine WC.skip (thenQ.n ?_)
    iterate 2 refine WC.seq ?_
    refine WC.region ?_
    refine WL.lv rfl (LV.asg rfl) ?_
    refine WL.nil (thenQ.n ?_)
    refine WC.block ?_
    refine WC.loop (fun m_ f_ w_ => ∃ (i : Int), (0 ≤ i) ∧ (i ≤ (a.length : Int)) ∧ (∀ t : Int, 0 ≤ t → t < i → a.getD t.toNat ByteArray.empty = b.getD t.toNat ByteArray.empty) ∧ SH w No w_ [] ∧ m_ = (((a.length : Int) - i).toNat) ∧ Weak (lit [(0, (.slice A_a a.length c_a)), (1, (.slice A_b b.length c_b)), (5, (.int .i64 i))]) f_) _ ⟨0, by omega, by omega, (fun t h1 h2 => by omega), hS, rfl, Weak.cons rfl <| Weak.cons rfl <| Weak.cons rfl <| Weak.nil _⟩ ?_
    rintro m1 f1 w1 ⟨i, ilo, ihi, q1, hL1, rfl, hw1⟩
    refine WC.weak hw1 ?_
    clear hw1
    iterate 2 refine WC.seq ?_
    refine WC.region ?_
    iterate 2 refine WL.lv rfl (LV.mv rfl) ?_
    refine WL.lv rfl (LV.lenL Try.underlying22 rfl) ?_
    refine WL.lv rfl (LV.ltI rfl rfl) ?_
    refine WL.nil (thenQ.n ?_)
    refine WC.condP (p := i < (a.length : Int)) rfl (fun hc2 => ?_) (fun hc2 => ?_)
    · skip
      refine WC.skip (thenQ.n ?_)
      refine WC.seq ?_
      refine WC.block ?_
      refine WC.seq ?_
      have hS1 := SH.drew hL1
      refine WC.regionD [] (fun w_ => KB No w1.drew w_) [(.pure, 0), (.pure, 1), (.pure, 2), (.look, 3), (.pure, 4), (.pure, 5), (.pure, 6), (.look, 7), (.pure, 8)] (by kernel_rfl) (by kernel_rfl) (KB.refl _ _) ?_
      iterate 2 refine WS.pure rfl rfl (fun _ => LV.mv rfl) ?_
      obtain ⟨A1, c1, e1, g1⟩ := St.elt (SH.stN hS1 h_a) ByteArray.empty i (by omega) (by omega)
      refine WS.pure rfl rfl (fun _ => LV.idxA Try.underlying22 ti9.sz rfl e1 rfl (by omega) (by omega)) ?_
      refine WS.look rfl rfl (fun _ hk_ => LV.load1 (v := (.string (a.getD (i).toNat ByteArray.empty))) Try.underlying9 rfl rfl (g1 _ hk_ 0 _ rfl)) ?_
      iterate 2 refine WS.pure rfl rfl (fun _ => LV.mv rfl) ?_
      obtain ⟨A2, c2, e2, g2⟩ := St.elt (SH.stN hS1 h_b) ByteArray.empty i (by omega) (by omega)
      refine WS.pure rfl rfl (fun _ => LV.idxA Try.underlying22 ti9.sz rfl e2 rfl (by omega) (by omega)) ?_
      refine WS.look rfl rfl (fun _ hk_ => LV.load1 (v := (.string (b.getD (i).toNat ByteArray.empty))) Try.underlying9 rfl rfl (g2 _ hk_ 0 _ rfl)) ?_
      refine WS.pure rfl rfl (fun _ => LV.neSP (a := (a.getD (i).toNat ByteArray.empty)) (b := (b.getD (i).toNat ByteArray.empty)) rfl rfl) ?_
      refine WS.nil (thenQ.n ?_)
      refine WC.condP (p := ¬ ((a.getD (i).toNat ByteArray.empty) = (b.getD (i).toNat ByteArray.empty))) rfl (fun h25 => ?_) (fun h25 => ?_)
      · skip
        refine WC.seq ?_
        refine WC.region ?_
        refine WL.lv rfl (LV.asg rfl) ?_
        refine WL.nil (thenQ.n ?_)
        refine WC.ret (blockQ.r <| thenQ.r <| thenQ.r <| blockQ.r <| thenQ.r <| ?_)
        exact ⟨_, fun a ha => res1 rfl ha rfl, congrArg Value.bool ((decide_eq_false (fun h_ => by subst h_; first | omega | exact h25 rfl)).symm), hS1.kb⟩
      · skip
        refine WC.skip (blockQ.n <| thenQ.n ?_)
        refine WC.region ?_
        refine WL.lv rfl (LV.mv rfl) ?_
        refine WL.lv rfl (LV.add rfl rfl (wr64 (by omega) (by omega))) ?_
        refine WL.lv rfl (LV.asg rfl) ?_
        refine WL.nil (thenQ.n ?_)
        exact ⟨_, by omega, i + 1, by omega, by omega, (all_step (p := fun t => a.getD t.toNat ByteArray.empty = b.getD t.toNat ByteArray.empty) q1 (Decidable.not_not.1 h25)), hS1, rfl, Weak.cons rfl <| Weak.cons rfl <| Weak.cons rfl <| Weak.nil _⟩
    · skip
      refine WC.exit (thenQ.x <| thenQ.x <| blockQ.hit <| thenQ.n ?_)
      refine WC.seq ?_
      refine WC.region ?_
      refine WL.lv rfl (LV.asg rfl) ?_
      refine WL.nil (thenQ.n ?_)
      refine WC.ret (?_)
      exact ⟨_, fun a ha => res1 rfl ha rfl, congrArg Value.bool ((decide_eq_true (ext_gS (by omega) (fun t h0_ h1_ => q1 t h0_ (by omega)))).symm), hL1.kb⟩

end Go.Proofs.Ytjjilkibcomfcaa
