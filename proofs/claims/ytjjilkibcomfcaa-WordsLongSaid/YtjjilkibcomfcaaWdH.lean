/- Sides, marks. -/
import Derived.Test.YtjjilkibcomfcaaWdG
import Derived.Test.YtjjilkibcomfcaaWdK
namespace Go.Proofs.Ytjjilkibcomfcaa
open Go Go.Gv Go.RowKit Go.Mys Go.Pat Go.Wds
set_option linter.unusedVariables false
set_option linter.unusedSimpArgs false

attribute [local irreducible] WHL EDT

theorem sides_calls {w : World} {A_l : Option Addr} {n_l c_l : Nat} {l : List (Int × ByteArray)} (h_l : St No w (Rd eBt (.slice A_l n_l c_l) l)) (hn_l : l.length = n_l) (hz : szB l ≤ 90000000) :
    Calls Try.prog 19 #[(.slice A_l n_l c_l)] w fun e w' => ∃ v, e = .returned v ∧ (fun v w' => v = .tuple #[.string (sid 3 l), .string (sid 2 l)] ∧ KB No w w') v w' := by
  subst hn_l
  have hma := Rd.max h_l.now
  have hS : SH w No w [] := SH.nil _ _
  refine calls (l := litOf [(.slice A_l l.length c_l)] 0) Try.func19 rfl (n := 29) rfl (Nat.le_of_ble_eq_true rfl) (lit_args _) ?_
  refine WC.seq ?_
  refine WC.region ?_
  iterate 2 refine WL.lv rfl (LV.asg rfl) ?_
  refine WL.nil (thenQ.n ?_)
  refine WC.seq ?_
  refine WC.region ?_
  refine WL.xe rfl (XE.alloc #[(.pointer none), (.slice none 0 0)] hS ti42 rfl) ?_
  rintro _ w1 ⟨b1, rfl, hS1, hk1⟩
  have hS2 := SH.nilRow (E := eU8) (T := 5) hS1
  refine WL.xe rfl (XE.alloc #[(.pointer none), (.slice none 0 0)] hS2 ti42 rfl) ?_
  rintro _ w2 ⟨b2, rfl, hS3, hk2⟩
  have hS4 := SH.nilRow (E := eU8) (T := 5) hS3
  refine WL.nil (thenQ.n ?_)
  iterate 2 refine WC.seq ?_
  refine WC.region ?_
  refine WL.lv rfl (LV.mv rfl) ?_
  refine WL.lv rfl (LV.lenL Try.underlying29 rfl) ?_
  refine WL.lv rfl (LV.mv rfl) ?_
  refine WL.nil (thenQ.n ?_)
  refine WC.block ?_
  refine WC.loop (fun m_ f_ w_ => ∃ (P_sa : Value) (A_sa : Option Addr) (c_sa : Nat) (sa : ByteArray) (P_sb : Value) (A_sb : Option Addr) (c_sb : Nat) (sb : ByteArray) (ix : Int), (BP P_sa b1) ∧ (BP P_sb b2) ∧ (0 ≤ ix) ∧ (ix ≤ (l.length : Int)) ∧ (sa = sid 3 (l.take ix.toNat)) ∧ (sb = sid 2 (l.take ix.toNat)) ∧ SH w No w_ [rowE eU8 5 (.slice A_sb ((bytesOf sb).length) c_sb) (bytesOf sb), blkE b2 42 #[P_sb, (.slice A_sb ((bytesOf sb).length) c_sb)], rowE eU8 5 (.slice A_sa ((bytesOf sa).length) c_sa) (bytesOf sa), blkE b1 42 #[P_sa, (.slice A_sa ((bytesOf sa).length) c_sa)]] ∧ m_ = (((l.length : Int) - ix).toNat) ∧ Weak (lit [(4, (.pointer (some ⟨b1, 0, none⟩))), (5, (.pointer (some ⟨b2, 0, none⟩))), (8, (.slice A_l l.length c_l)), (9, (.int .i64 (l.length : Int))), (10, (.int .i64 ix))]) f_) _ ⟨(.pointer none), none, 0, ⟨#[]⟩, (.pointer none), none, 0, ⟨#[]⟩, 0, (.inl rfl), (.inl rfl), by omega, by omega, rfl, rfl, hS4, rfl, Weak.cons rfl <| Weak.cons rfl <| Weak.cons rfl <| Weak.cons rfl <| Weak.cons rfl <| Weak.nil _⟩ ?_
  rintro m1 f1 w3 ⟨P_sa, A_sa, c_sa, sa, P_sb, A_sb, c_sb, sb, ix, hp_sa, hp_sb, ixlo, ixhi, q1, q2, hL1, rfl, hw1⟩
  refine WC.weak hw1 ?_
  clear hw1
  have hsa_ := sid_sz 3 (l.take ix.toNat)
  have hsb_ := sid_sz 2 (l.take ix.toNat)
  rw [← q1] at hsa_
  rw [← q2] at hsb_
  refine WC.seq ?_
  refine WC.region ?_
  refine WL.lv rfl (LV.ltI rfl rfl) ?_
  refine WL.nil (thenQ.n ?_)
  refine WC.seq ?_
  refine WC.condP (p := ix < (l.length : Int)) rfl (fun hk => ?_) (fun hk => ?_)
  · have htk_ : szB (l.take ix.toNat) + (l.getD ix.toNat (0, ByteArray.empty)).2.size ≤ szB l := szB_take l ixlo hk
    refine WC.skip (thenQ.n ?_)
    refine WC.seq ?_
    refine WC.block ?_
    refine WC.seq ?_
    refine WC.region ?_
    obtain ⟨A1, c1, e1, g1⟩ := St.elt (SH.stN hL1 h_l) (0, ByteArray.empty) ix (by omega) (by omega)
    refine WL.lv rfl (LV.idxA Try.underlying29 ti49.sz rfl e1 rfl (by omega) (by omega)) ?_
    refine WL.lv rfl (LV.loadAgg (cs := [(.int .i64 ((l.getD (ix).toNat (0, ByteArray.empty)).1)), (.string ((l.getD (ix).toNat (0, ByteArray.empty)).2))]) Try.underlying49 rfl ti49 rfl rfl (fun j u hu => g1 _ (KB.refl No _) j u hu)) ?_
    refine WL.xe rfl (XE.alloc #[(.int .i64 0), (.string ⟨#[]⟩)] hL1 ti49 rfl) ?_
    rintro _ w4 ⟨b3, rfl, hS5, hk3⟩
    refine WL.xse rfl (XSE.blkAgg #[(.int .i64 ((l.getD (ix).toNat (0, ByteArray.empty)).1)), (.string ((l.getD (ix).toNat (0, ByteArray.empty)).2))] hS5 (by kernel_rfl) rfl (by kernel_rfl) rfl rfl) ?_
    rintro w5 ⟨hS6, hk4⟩
    refine WL.nil (thenQ.n ?_)
    iterate 2 refine WC.seq ?_
    refine WC.region ?_
    refine WL.lv rfl (LV.fieldA Try.underlying49 rfl ti47.sz rfl) ?_
    refine WL.lv rfl (LV.load1 Try.underlying47 rfl rfl (Blk.cellN (SH.at hS6 (.head _)) 0 rfl _ (KB.refl No _))) ?_
    refine WL.lv rfl (LV.neI rfl rfl) ?_
    refine WL.nil (thenQ.n ?_)
    refine WC.condP (p := ((l.getD (ix).toNat (0, ByteArray.empty)).1) ≠ 3) rfl (fun h16 => ?_) (fun h16 => ?_)
    · skip
      refine WC.region ?_
      refine WL.lv rfl (LV.fieldA Try.underlying49 rfl ti9.sz rfl) ?_
      refine WL.lv rfl (LV.load1 Try.underlying9 rfl rfl (Blk.cellN (SH.at hS6 (.head _)) 1 rfl _ (KB.refl No _))) ?_
      have hS7 : SH w No w5 [rowE eU8 5 (.slice A_sa ((bytesOf sa).length) c_sa) (bytesOf sa), blkE b3 49 #[(.int .i64 ((l.getD (ix).toNat (0, ByteArray.empty)).1)), (.string ((l.getD (ix).toNat (0, ByteArray.empty)).2))], rowE eU8 5 (.slice A_sb ((bytesOf sb).length) c_sb) (bytesOf sb), blkE b2 42 #[P_sb, (.slice A_sb ((bytesOf sb).length) c_sb)], blkE b1 42 #[P_sa, (.slice A_sa ((bytesOf sa).length) c_sa)]] := (SH.front [_, _, _] hS6)
      have hS8 : SH w No w5 [blkE b1 42 #[P_sa, (.slice A_sa ((bytesOf sa).length) c_sa)], rowE eU8 5 (.slice A_sa ((bytesOf sa).length) c_sa) (bytesOf sa), blkE b3 49 #[(.int .i64 ((l.getD (ix).toNat (0, ByteArray.empty)).1)), (.string ((l.getD (ix).toNat (0, ByteArray.empty)).2))], rowE eU8 5 (.slice A_sb ((bytesOf sb).length) c_sb) (bytesOf sb), blkE b2 42 #[P_sb, (.slice A_sb ((bytesOf sb).length) c_sb)]] := (SH.front [_, _, _, _] hS7)
      have hT1 := SH.sub (Es := [_, _]) hS8
      have z1 := ws_calls (t := sa) (s := ((l.getD (ix).toNat (0, ByteArray.empty)).2)) hT1 (hp_sa) (by omega)
      refine WL.call rfl (XC.fn Try.func34 (by kernel_rfl) rfl rfl rfl) (z1) ?_
      rintro v_ w6 ⟨A2, c2, rfl, hU1⟩
      have hS9 := SH.back (Es := [_, _]) hS8 hU1
      refine WL.nil (thenQ.n ?_)
      refine WC.seq ?_
      refine WC.region ?_
      refine WL.lv rfl (LV.fieldA Try.underlying49 rfl ti47.sz rfl) ?_
      refine WL.lv rfl (LV.load1 Try.underlying47 rfl rfl (Blk.cellN (SH.at hS9 (.tail _ (.tail _ (.head _)))) 0 rfl _ (KB.refl No _))) ?_
      refine WL.lv rfl (LV.neI rfl rfl) ?_
      refine WL.nil (thenQ.n ?_)
      refine WC.condP (p := ((l.getD (ix).toNat (0, ByteArray.empty)).1) ≠ 2) rfl (fun h22 => ?_) (fun h22 => ?_)
      · skip
        refine WC.region ?_
        refine WL.lv rfl (LV.fieldA Try.underlying49 rfl ti9.sz rfl) ?_
        refine WL.lv rfl (LV.load1 Try.underlying9 rfl rfl (Blk.cellN (SH.at hS9 (.tail _ (.tail _ (.head _)))) 1 rfl _ (KB.refl No _))) ?_
        have hS10 : SH w No w6 [rowE eU8 5 (.slice A_sb ((bytesOf sb).length) c_sb) (bytesOf sb), blkE b1 42 #[(.pointer (some ⟨b1, 0, none⟩)), (.slice A2 ((bytesOf (sa ++ ((l.getD (ix).toNat (0, ByteArray.empty)).2))).length) c2)], rowE eU8 5 (.slice A2 ((bytesOf (sa ++ ((l.getD (ix).toNat (0, ByteArray.empty)).2))).length) c2) (bytesOf (sa ++ ((l.getD (ix).toNat (0, ByteArray.empty)).2))), blkE b3 49 #[(.int .i64 ((l.getD (ix).toNat (0, ByteArray.empty)).1)), (.string ((l.getD (ix).toNat (0, ByteArray.empty)).2))], blkE b2 42 #[P_sb, (.slice A_sb ((bytesOf sb).length) c_sb)]] := (SH.front [_, _, _] hS9)
        have hS11 : SH w No w6 [blkE b2 42 #[P_sb, (.slice A_sb ((bytesOf sb).length) c_sb)], rowE eU8 5 (.slice A_sb ((bytesOf sb).length) c_sb) (bytesOf sb), blkE b1 42 #[(.pointer (some ⟨b1, 0, none⟩)), (.slice A2 ((bytesOf (sa ++ ((l.getD (ix).toNat (0, ByteArray.empty)).2))).length) c2)], rowE eU8 5 (.slice A2 ((bytesOf (sa ++ ((l.getD (ix).toNat (0, ByteArray.empty)).2))).length) c2) (bytesOf (sa ++ ((l.getD (ix).toNat (0, ByteArray.empty)).2))), blkE b3 49 #[(.int .i64 ((l.getD (ix).toNat (0, ByteArray.empty)).1)), (.string ((l.getD (ix).toNat (0, ByteArray.empty)).2))]] := (SH.front [_, _, _, _] hS10)
        have hT2 := SH.sub (Es := [_, _]) hS11
        have z2 := ws_calls (t := sb) (s := ((l.getD (ix).toNat (0, ByteArray.empty)).2)) hT2 (hp_sb) (by omega)
        refine WL.call rfl (XC.fn Try.func34 (by kernel_rfl) rfl rfl rfl) (z2) ?_
        rintro v_ w7 ⟨A3, c3, rfl, hU2⟩
        have hS12 := SH.back (Es := [_, _]) hS11 hU2
        refine WL.nil (blockQ.n <| thenQ.n ?_)
        refine WC.region ?_
        refine WL.lv rfl (LV.add rfl rfl (wr64 (by omega) (by omega))) ?_
        refine WL.lv rfl (LV.mv rfl) ?_
        refine WL.nil (thenQ.n ?_)
        have hS13 : SH w No w7 [rowE eU8 5 (.slice A3 ((bytesOf (sb ++ ((l.getD (ix).toNat (0, ByteArray.empty)).2))).length) c3) (bytesOf (sb ++ ((l.getD (ix).toNat (0, ByteArray.empty)).2))), blkE b2 42 #[(.pointer (some ⟨b2, 0, none⟩)), (.slice A3 ((bytesOf (sb ++ ((l.getD (ix).toNat (0, ByteArray.empty)).2))).length) c3)], rowE eU8 5 (.slice A2 ((bytesOf (sa ++ ((l.getD (ix).toNat (0, ByteArray.empty)).2))).length) c2) (bytesOf (sa ++ ((l.getD (ix).toNat (0, ByteArray.empty)).2))), blkE b1 42 #[(.pointer (some ⟨b1, 0, none⟩)), (.slice A2 ((bytesOf (sa ++ ((l.getD (ix).toNat (0, ByteArray.empty)).2))).length) c2)]] := (SH.take 4 rfl (SH.front [_, _, _] (SH.front [_, _] (SH.front [_, _, _] (SH.front [_, _] hS12)))))
        exact ⟨_, by omega, (.pointer (some ⟨b1, 0, none⟩)), A2, c2, (sa ++ ((l.getD (ix).toNat (0, ByteArray.empty)).2)), (.pointer (some ⟨b2, 0, none⟩)), A3, c3, (sb ++ ((l.getD (ix).toNat (0, ByteArray.empty)).2)), ix + 1, (.inr rfl), (.inr rfl), by omega, by omega, (by rw [sid_at ixlo hk, if_pos h16, q1]), (by rw [sid_at ixlo hk, if_pos h22, q2]), hS13, rfl, Weak.cons rfl <| Weak.cons rfl <| Weak.cons rfl <| Weak.cons rfl <| Weak.cons rfl <| Weak.nil _⟩
      · skip
        refine WC.skip (blockQ.n <| thenQ.n ?_)
        refine WC.region ?_
        refine WL.lv rfl (LV.add rfl rfl (wr64 (by omega) (by omega))) ?_
        refine WL.lv rfl (LV.mv rfl) ?_
        refine WL.nil (thenQ.n ?_)
        have hS14 : SH w No w6 [rowE eU8 5 (.slice A_sb ((bytesOf sb).length) c_sb) (bytesOf sb), blkE b2 42 #[P_sb, (.slice A_sb ((bytesOf sb).length) c_sb)], rowE eU8 5 (.slice A2 ((bytesOf (sa ++ ((l.getD (ix).toNat (0, ByteArray.empty)).2))).length) c2) (bytesOf (sa ++ ((l.getD (ix).toNat (0, ByteArray.empty)).2))), blkE b1 42 #[(.pointer (some ⟨b1, 0, none⟩)), (.slice A2 ((bytesOf (sa ++ ((l.getD (ix).toNat (0, ByteArray.empty)).2))).length) c2)]] := (SH.take 4 rfl (SH.front [_, _, _, _] (SH.front [_, _, _, _] (SH.front [_] hS9))))
        exact ⟨_, by omega, (.pointer (some ⟨b1, 0, none⟩)), A2, c2, (sa ++ ((l.getD (ix).toNat (0, ByteArray.empty)).2)), P_sb, A_sb, c_sb, sb, ix + 1, (.inr rfl), hp_sb, by omega, by omega, (by rw [sid_at ixlo hk, if_pos h16, q1]), (by rw [sid_at ixlo hk, if_neg h22, q2]), hS14, rfl, Weak.cons rfl <| Weak.cons rfl <| Weak.cons rfl <| Weak.cons rfl <| Weak.cons rfl <| Weak.nil _⟩
    · skip
      refine WC.skip (thenQ.n ?_)
      refine WC.seq ?_
      refine WC.region ?_
      refine WL.lv rfl (LV.fieldA Try.underlying49 rfl ti47.sz rfl) ?_
      refine WL.lv rfl (LV.load1 Try.underlying47 rfl rfl (Blk.cellN (SH.at hS6 (.head _)) 0 rfl _ (KB.refl No _))) ?_
      refine WL.lv rfl (LV.neI rfl rfl) ?_
      refine WL.nil (thenQ.n ?_)
      refine WC.condP (p := ((l.getD (ix).toNat (0, ByteArray.empty)).1) ≠ 2) rfl (fun h22 => ?_) (fun h22 => ?_)
      · skip
        refine WC.region ?_
        refine WL.lv rfl (LV.fieldA Try.underlying49 rfl ti9.sz rfl) ?_
        refine WL.lv rfl (LV.load1 Try.underlying9 rfl rfl (Blk.cellN (SH.at hS6 (.head _)) 1 rfl _ (KB.refl No _))) ?_
        have hS15 : SH w No w5 [rowE eU8 5 (.slice A_sb ((bytesOf sb).length) c_sb) (bytesOf sb), blkE b3 49 #[(.int .i64 ((l.getD (ix).toNat (0, ByteArray.empty)).1)), (.string ((l.getD (ix).toNat (0, ByteArray.empty)).2))], blkE b2 42 #[P_sb, (.slice A_sb ((bytesOf sb).length) c_sb)], rowE eU8 5 (.slice A_sa ((bytesOf sa).length) c_sa) (bytesOf sa), blkE b1 42 #[P_sa, (.slice A_sa ((bytesOf sa).length) c_sa)]] := (SH.front [_] hS6)
        have hS16 : SH w No w5 [blkE b2 42 #[P_sb, (.slice A_sb ((bytesOf sb).length) c_sb)], rowE eU8 5 (.slice A_sb ((bytesOf sb).length) c_sb) (bytesOf sb), blkE b3 49 #[(.int .i64 ((l.getD (ix).toNat (0, ByteArray.empty)).1)), (.string ((l.getD (ix).toNat (0, ByteArray.empty)).2))], rowE eU8 5 (.slice A_sa ((bytesOf sa).length) c_sa) (bytesOf sa), blkE b1 42 #[P_sa, (.slice A_sa ((bytesOf sa).length) c_sa)]] := (SH.front [_, _] hS15)
        have hT3 := SH.sub (Es := [_, _]) hS16
        have z3 := ws_calls (t := sb) (s := ((l.getD (ix).toNat (0, ByteArray.empty)).2)) hT3 (hp_sb) (by omega)
        refine WL.call rfl (XC.fn Try.func34 (by kernel_rfl) rfl rfl rfl) (z3) ?_
        rintro v_ w8 ⟨A4, c4, rfl, hU3⟩
        have hS17 := SH.back (Es := [_, _]) hS16 hU3
        refine WL.nil (blockQ.n <| thenQ.n ?_)
        refine WC.region ?_
        refine WL.lv rfl (LV.add rfl rfl (wr64 (by omega) (by omega))) ?_
        refine WL.lv rfl (LV.mv rfl) ?_
        refine WL.nil (thenQ.n ?_)
        have hS18 : SH w No w8 [rowE eU8 5 (.slice A4 ((bytesOf (sb ++ ((l.getD (ix).toNat (0, ByteArray.empty)).2))).length) c4) (bytesOf (sb ++ ((l.getD (ix).toNat (0, ByteArray.empty)).2))), blkE b2 42 #[(.pointer (some ⟨b2, 0, none⟩)), (.slice A4 ((bytesOf (sb ++ ((l.getD (ix).toNat (0, ByteArray.empty)).2))).length) c4)], rowE eU8 5 (.slice A_sa ((bytesOf sa).length) c_sa) (bytesOf sa), blkE b1 42 #[P_sa, (.slice A_sa ((bytesOf sa).length) c_sa)]] := (SH.take 4 rfl (SH.front [_, _, _] (SH.front [_, _] (SH.front [_, _, _, _] (SH.front [_, _, _, _] hS17)))))
        exact ⟨_, by omega, P_sa, A_sa, c_sa, sa, (.pointer (some ⟨b2, 0, none⟩)), A4, c4, (sb ++ ((l.getD (ix).toNat (0, ByteArray.empty)).2)), ix + 1, hp_sa, (.inr rfl), by omega, by omega, (by rw [sid_at ixlo hk, if_neg h16, q1]), (by rw [sid_at ixlo hk, if_pos h22, q2]), hS18, rfl, Weak.cons rfl <| Weak.cons rfl <| Weak.cons rfl <| Weak.cons rfl <| Weak.cons rfl <| Weak.nil _⟩
      · skip
        refine WC.skip (blockQ.n <| thenQ.n ?_)
        refine WC.region ?_
        refine WL.lv rfl (LV.add rfl rfl (wr64 (by omega) (by omega))) ?_
        refine WL.lv rfl (LV.mv rfl) ?_
        refine WL.nil (thenQ.n ?_)
        have hS19 : SH w No w5 [rowE eU8 5 (.slice A_sb ((bytesOf sb).length) c_sb) (bytesOf sb), blkE b2 42 #[P_sb, (.slice A_sb ((bytesOf sb).length) c_sb)], rowE eU8 5 (.slice A_sa ((bytesOf sa).length) c_sa) (bytesOf sa), blkE b1 42 #[P_sa, (.slice A_sa ((bytesOf sa).length) c_sa)]] := (SH.take 4 rfl (SH.front [_, _, _, _] (SH.front [_, _, _, _] (SH.front [_, _, _, _] (SH.front [_, _, _, _] hS6)))))
        exact ⟨_, by omega, P_sa, A_sa, c_sa, sa, P_sb, A_sb, c_sb, sb, ix + 1, hp_sa, hp_sb, by omega, by omega, (by rw [sid_at ixlo hk, if_neg h16, q1]), (by rw [sid_at ixlo hk, if_neg h22, q2]), hS19, rfl, Weak.cons rfl <| Weak.cons rfl <| Weak.cons rfl <| Weak.cons rfl <| Weak.cons rfl <| Weak.nil _⟩
  · skip
    refine WC.exit (thenQ.x <| thenQ.x <| blockQ.hit <| thenQ.n ?_)
    refine WC.seq ?_
    refine WC.region ?_
    have hS20 : SH w No w3 [rowE eU8 5 (.slice A_sa ((bytesOf sa).length) c_sa) (bytesOf sa), rowE eU8 5 (.slice A_sb ((bytesOf sb).length) c_sb) (bytesOf sb), blkE b2 42 #[P_sb, (.slice A_sb ((bytesOf sb).length) c_sb)], blkE b1 42 #[P_sa, (.slice A_sa ((bytesOf sa).length) c_sa)]] := (SH.front [_, _] hL1)
    have hS21 : SH w No w3 [blkE b1 42 #[P_sa, (.slice A_sa ((bytesOf sa).length) c_sa)], rowE eU8 5 (.slice A_sa ((bytesOf sa).length) c_sa) (bytesOf sa), rowE eU8 5 (.slice A_sb ((bytesOf sb).length) c_sb) (bytesOf sb), blkE b2 42 #[P_sb, (.slice A_sb ((bytesOf sb).length) c_sb)]] := (SH.front [_, _, _] hS20)
    have hT4 := SH.sub (Es := [_, _]) hS21
    refine WL.call rfl (XC.fn Try.func26 (by kernel_rfl) rfl rfl rfl) (bs_calls (t := sa) hT4) ?_
    rintro v_ w9 ⟨rfl, hU4⟩
    have hS22 := SH.back (Es := [_, _]) hS21 hU4
    have hS23 : SH w No w9 [blkE b2 42 #[P_sb, (.slice A_sb ((bytesOf sb).length) c_sb)], rowE eU8 5 (.slice A_sb ((bytesOf sb).length) c_sb) (bytesOf sb)] := (SH.front [_] hS22)
    have hT5 := SH.sub (Es := [_, _]) hS23
    refine WL.call rfl (XC.fn Try.func26 (by kernel_rfl) rfl rfl rfl) (bs_calls (t := sb) hT5) ?_
    rintro v_ w10 ⟨rfl, hU5⟩
    have hS24 := SH.back (Es := [_, _]) hS23 hU5
    iterate 2 refine WL.lv rfl (LV.asg rfl) ?_
    refine WL.nil (thenQ.n ?_)
    refine WC.ret (?_)
    exact ⟨_, fun a ha => res2 rfl ha rfl rfl, tup2 (congrArg Value.string (by rw [q1, List.take_of_length_le (by omega)])) (congrArg Value.string (by rw [q2, List.take_of_length_le (by omega)])), hS24.kb⟩

theorem rsides_calls {w : World} {A_l : Option Addr} {n_l c_l : Nat} {l : List (Int × ByteArray)} (h_l : St No w (Rd eBt (.slice A_l n_l c_l) l)) (hn_l : l.length = n_l) (hz : szB l ≤ 90000000) :
    Calls Try.prog 20 #[(.slice A_l n_l c_l)] w fun e w' => ∃ v, e = .returned v ∧ (fun v w' => v = .tuple #[.string (sid 3 l), .string (sid 2 l)] ∧ KB No w w') v w' := by
  subst hn_l
  have hma := Rd.max h_l.now
  have hS : SH w No w [] := SH.nil _ _
  refine calls (l := litOf [(.slice A_l l.length c_l)] 0) Try.func20 rfl (n := 41) rfl (Nat.le_of_ble_eq_true rfl) (lit_args _) ?_
  refine WC.seq ?_
  refine WC.region ?_
  iterate 2 refine WL.lv rfl (LV.asg rfl) ?_
  refine WL.nil (thenQ.n ?_)
  refine WC.seq ?_
  refine WC.region ?_
  refine WL.lv rfl (LV.asg rfl) ?_
  refine WL.nil (thenQ.n ?_)
  refine WC.seq ?_
  refine WC.region ?_
  refine WL.lv rfl (LV.asg rfl) ?_
  refine WL.nil (thenQ.n ?_)
  iterate 2 refine WC.seq ?_
  refine WC.region ?_
  refine WL.lv rfl (LV.asg rfl) ?_
  refine WL.nil (thenQ.n ?_)
  refine WC.block ?_
  refine WC.loop (fun m_ f_ w_ => ∃ (sa : ByteArray) (sb : ByteArray) (i : Int), (0 ≤ i) ∧ (i ≤ (l.length : Int)) ∧ (sa = sid 3 (l.take i.toNat)) ∧ (sb = sid 2 (l.take i.toNat)) ∧ SH w No w_ [] ∧ m_ = (((l.length : Int) - i).toNat) ∧ Weak (lit [(0, (.slice A_l l.length c_l)), (4, (.string sa)), (5, (.string sb)), (6, (.int .i64 i))]) f_) _ ⟨⟨#[]⟩, ⟨#[]⟩, 0, by omega, by omega, rfl, rfl, hS, rfl, Weak.cons rfl <| Weak.cons rfl <| Weak.cons rfl <| Weak.cons rfl <| Weak.nil _⟩ ?_
  rintro m1 f1 w1 ⟨sa, sb, i, ilo, ihi, q1, q2, hL1, rfl, hw1⟩
  refine WC.weak hw1 ?_
  clear hw1
  have hsa_ := sid_sz 3 (l.take i.toNat)
  have hsb_ := sid_sz 2 (l.take i.toNat)
  rw [← q1] at hsa_
  rw [← q2] at hsb_
  iterate 2 refine WC.seq ?_
  refine WC.region ?_
  iterate 2 refine WL.lv rfl (LV.mv rfl) ?_
  refine WL.lv rfl (LV.lenL Try.underlying29 rfl) ?_
  refine WL.lv rfl (LV.ltI rfl rfl) ?_
  refine WL.nil (thenQ.n ?_)
  refine WC.condP (p := i < (l.length : Int)) rfl (fun hk => ?_) (fun hk => ?_)
  · have htk_ : szB (l.take i.toNat) + (l.getD i.toNat (0, ByteArray.empty)).2.size ≤ szB l := szB_take l ilo hk
    refine WC.skip (thenQ.n ?_)
    refine WC.seq ?_
    refine WC.block ?_
    iterate 2 refine WC.seq ?_
    refine WC.region ?_
    iterate 2 refine WL.lv rfl (LV.mv rfl) ?_
    obtain ⟨A1, c1, e1, g1⟩ := St.elt (SH.stN hL1 h_l) (0, ByteArray.empty) i (by omega) (by omega)
    refine WL.lv rfl (LV.idxA Try.underlying29 ti49.sz rfl e1 rfl (by omega) (by omega)) ?_
    refine WL.lv rfl (LV.fieldA Try.underlying49 rfl ti47.sz rfl) ?_
    refine WL.lv rfl (LV.load1 (v := (.int .i64 ((l.getD (i).toNat (0, ByteArray.empty)).1))) Try.underlying47 rfl rfl (g1 _ (KB.refl No _) 0 _ rfl)) ?_
    refine WL.lv rfl (LV.neI rfl rfl) ?_
    refine WL.nil (thenQ.n ?_)
    refine WC.condP (p := ((l.getD (i).toNat (0, ByteArray.empty)).1) ≠ 3) rfl (fun h16 => ?_) (fun h16 => ?_)
    · skip
      refine WC.region ?_
      iterate 3 refine WL.lv rfl (LV.mv rfl) ?_
      obtain ⟨A2, c2, e2, g2⟩ := St.elt (SH.stN hL1 h_l) (0, ByteArray.empty) i (by omega) (by omega)
      refine WL.lv rfl (LV.idxA Try.underlying29 ti49.sz rfl e2 rfl (by omega) (by omega)) ?_
      refine WL.lv rfl (LV.fieldA Try.underlying49 rfl ti9.sz rfl) ?_
      refine WL.lv rfl (LV.load1 (v := (.string ((l.getD (i).toNat (0, ByteArray.empty)).2))) Try.underlying9 rfl rfl (g2 _ (KB.refl No _) 1 _ rfl)) ?_
      refine WL.lv rfl (LV.addS rfl rfl (by first | omega | (simp only [ByteArray.size_append, ByteArray.size_extract, lit1, lit2, lit0]; omega))) ?_
      refine WL.lv rfl (LV.asg rfl) ?_
      refine WL.nil (thenQ.n ?_)
      refine WC.seq ?_
      refine WC.region ?_
      iterate 2 refine WL.lv rfl (LV.mv rfl) ?_
      obtain ⟨A3, c3, e3, g3⟩ := St.elt (SH.stN hL1 h_l) (0, ByteArray.empty) i (by omega) (by omega)
      refine WL.lv rfl (LV.idxA Try.underlying29 ti49.sz rfl e3 rfl (by omega) (by omega)) ?_
      refine WL.lv rfl (LV.fieldA Try.underlying49 rfl ti47.sz rfl) ?_
      refine WL.lv rfl (LV.load1 (v := (.int .i64 ((l.getD (i).toNat (0, ByteArray.empty)).1))) Try.underlying47 rfl rfl (g3 _ (KB.refl No _) 0 _ rfl)) ?_
      refine WL.lv rfl (LV.neI rfl rfl) ?_
      refine WL.nil (thenQ.n ?_)
      refine WC.condP (p := ((l.getD (i).toNat (0, ByteArray.empty)).1) ≠ 2) rfl (fun h22 => ?_) (fun h22 => ?_)
      · skip
        refine WC.region ?_
        iterate 3 refine WL.lv rfl (LV.mv rfl) ?_
        obtain ⟨A4, c4, e4, g4⟩ := St.elt (SH.stN hL1 h_l) (0, ByteArray.empty) i (by omega) (by omega)
        refine WL.lv rfl (LV.idxA Try.underlying29 ti49.sz rfl e4 rfl (by omega) (by omega)) ?_
        refine WL.lv rfl (LV.fieldA Try.underlying49 rfl ti9.sz rfl) ?_
        refine WL.lv rfl (LV.load1 (v := (.string ((l.getD (i).toNat (0, ByteArray.empty)).2))) Try.underlying9 rfl rfl (g4 _ (KB.refl No _) 1 _ rfl)) ?_
        refine WL.lv rfl (LV.addS rfl rfl (by first | omega | (simp only [ByteArray.size_append, ByteArray.size_extract, lit1, lit2, lit0]; omega))) ?_
        refine WL.lv rfl (LV.asg rfl) ?_
        refine WL.nil (blockQ.n <| thenQ.n ?_)
        refine WC.region ?_
        refine WL.lv rfl (LV.mv rfl) ?_
        refine WL.lv rfl (LV.add rfl rfl (wr64 (by omega) (by omega))) ?_
        refine WL.lv rfl (LV.asg rfl) ?_
        refine WL.nil (thenQ.n ?_)
        exact ⟨_, by omega, sa ++ ((l.getD (i).toNat (0, ByteArray.empty)).2), sb ++ ((l.getD (i).toNat (0, ByteArray.empty)).2), i + 1, by omega, by omega, (by rw [sid_at ilo hk, if_pos h16, q1]), (by rw [sid_at ilo hk, if_pos h22, q2]), hL1, rfl, Weak.cons rfl <| Weak.cons rfl <| Weak.cons rfl <| Weak.cons rfl <| Weak.nil _⟩
      · skip
        refine WC.skip (blockQ.n <| thenQ.n ?_)
        refine WC.region ?_
        refine WL.lv rfl (LV.mv rfl) ?_
        refine WL.lv rfl (LV.add rfl rfl (wr64 (by omega) (by omega))) ?_
        refine WL.lv rfl (LV.asg rfl) ?_
        refine WL.nil (thenQ.n ?_)
        exact ⟨_, by omega, sa ++ ((l.getD (i).toNat (0, ByteArray.empty)).2), sb, i + 1, by omega, by omega, (by rw [sid_at ilo hk, if_pos h16, q1]), (by rw [sid_at ilo hk, if_neg h22, q2]), hL1, rfl, Weak.cons rfl <| Weak.cons rfl <| Weak.cons rfl <| Weak.cons rfl <| Weak.nil _⟩
    · skip
      refine WC.skip (thenQ.n ?_)
      refine WC.seq ?_
      refine WC.region ?_
      iterate 2 refine WL.lv rfl (LV.mv rfl) ?_
      obtain ⟨A5, c5, e5, g5⟩ := St.elt (SH.stN hL1 h_l) (0, ByteArray.empty) i (by omega) (by omega)
      refine WL.lv rfl (LV.idxA Try.underlying29 ti49.sz rfl e5 rfl (by omega) (by omega)) ?_
      refine WL.lv rfl (LV.fieldA Try.underlying49 rfl ti47.sz rfl) ?_
      refine WL.lv rfl (LV.load1 (v := (.int .i64 ((l.getD (i).toNat (0, ByteArray.empty)).1))) Try.underlying47 rfl rfl (g5 _ (KB.refl No _) 0 _ rfl)) ?_
      refine WL.lv rfl (LV.neI rfl rfl) ?_
      refine WL.nil (thenQ.n ?_)
      refine WC.condP (p := ((l.getD (i).toNat (0, ByteArray.empty)).1) ≠ 2) rfl (fun h22 => ?_) (fun h22 => ?_)
      · skip
        refine WC.region ?_
        iterate 3 refine WL.lv rfl (LV.mv rfl) ?_
        obtain ⟨A6, c6, e6, g6⟩ := St.elt (SH.stN hL1 h_l) (0, ByteArray.empty) i (by omega) (by omega)
        refine WL.lv rfl (LV.idxA Try.underlying29 ti49.sz rfl e6 rfl (by omega) (by omega)) ?_
        refine WL.lv rfl (LV.fieldA Try.underlying49 rfl ti9.sz rfl) ?_
        refine WL.lv rfl (LV.load1 (v := (.string ((l.getD (i).toNat (0, ByteArray.empty)).2))) Try.underlying9 rfl rfl (g6 _ (KB.refl No _) 1 _ rfl)) ?_
        refine WL.lv rfl (LV.addS rfl rfl (by first | omega | (simp only [ByteArray.size_append, ByteArray.size_extract, lit1, lit2, lit0]; omega))) ?_
        refine WL.lv rfl (LV.asg rfl) ?_
        refine WL.nil (blockQ.n <| thenQ.n ?_)
        refine WC.region ?_
        refine WL.lv rfl (LV.mv rfl) ?_
        refine WL.lv rfl (LV.add rfl rfl (wr64 (by omega) (by omega))) ?_
        refine WL.lv rfl (LV.asg rfl) ?_
        refine WL.nil (thenQ.n ?_)
        exact ⟨_, by omega, sa, sb ++ ((l.getD (i).toNat (0, ByteArray.empty)).2), i + 1, by omega, by omega, (by rw [sid_at ilo hk, if_neg h16, q1]), (by rw [sid_at ilo hk, if_pos h22, q2]), hL1, rfl, Weak.cons rfl <| Weak.cons rfl <| Weak.cons rfl <| Weak.cons rfl <| Weak.nil _⟩
      · skip
        refine WC.skip (blockQ.n <| thenQ.n ?_)
        refine WC.region ?_
        refine WL.lv rfl (LV.mv rfl) ?_
        refine WL.lv rfl (LV.add rfl rfl (wr64 (by omega) (by omega))) ?_
        refine WL.lv rfl (LV.asg rfl) ?_
        refine WL.nil (thenQ.n ?_)
        exact ⟨_, by omega, sa, sb, i + 1, by omega, by omega, (by rw [sid_at ilo hk, if_neg h16, q1]), (by rw [sid_at ilo hk, if_neg h22, q2]), hL1, rfl, Weak.cons rfl <| Weak.cons rfl <| Weak.cons rfl <| Weak.cons rfl <| Weak.nil _⟩
  · skip
    refine WC.exit (thenQ.x <| thenQ.x <| blockQ.hit <| thenQ.n ?_)
    refine WC.seq ?_
    refine WC.region ?_
    iterate 2 refine WL.lv rfl (LV.mv rfl) ?_
    iterate 2 refine WL.lv rfl (LV.asg rfl) ?_
    refine WL.nil (thenQ.n ?_)
    refine WC.ret (?_)
    exact ⟨_, fun a ha => res2 rfl ha rfl rfl, tup2 (congrArg Value.string (by rw [q1, List.take_of_length_le (by omega)])) (congrArg Value.string (by rw [q2, List.take_of_length_le (by omega)])), hL1.kb⟩

theorem whole_calls {w : World} {a : ByteArray} {b : ByteArray}  :
    Calls Try.prog 33 #[(.string a), (.string b)] w fun e w' => ∃ v, e = .returned v ∧ (fun v w' => ∃ (A0' : Option Addr) (c0' : Nat), v = .slice A0' (WHL a b).length c0' ∧ SH w No w' [rowE eBt 49 (.slice A0' (WHL a b).length c0') (WHL a b)]) v w' := by
  have hS : SH w No w [] := SH.nil _ _
  refine calls (l := litOf [(.string a), (.string b)] 0) Try.func33 rfl (n := 21) rfl (Nat.le_of_ble_eq_true rfl) (lit_args _) ?_
  refine WC.seq ?_
  refine WC.region ?_
  refine WL.lv rfl (LV.asg rfl) ?_
  refine WL.nil (thenQ.n ?_)
  refine WC.seq ?_
  refine WC.region ?_
  have hS1 := SH.nilRow (E := eBt) (T := 49) hS
  refine WL.lv rfl (LV.asg rfl) ?_
  refine WL.nil (thenQ.n ?_)
  iterate 2 refine WC.seq ?_
  refine WC.region ?_
  refine WL.lv rfl (LV.mv rfl) ?_
  refine WL.lv rfl (LV.neSP (a := a) (b := ⟨#[]⟩) rfl rfl) ?_
  refine WL.nil (thenQ.n ?_)
  refine WC.condP (p := ¬ (a = ⟨#[]⟩)) rfl (fun h7 => ?_) (fun h7 => ?_)
  · skip
    refine WC.region ?_
    iterate 2 refine WL.lv rfl (LV.mv rfl) ?_
    refine WL.lv rfl (LV.build (vs := [(0, (.int .i64 2)), (1, (.string a))]) (places := #[(0, 1), (1, 1)]) (cs := #[(.int .i64 2), (.string a)]) Try.underlying49 ti49 (fun _ => by kernel_rfl) rfl rfl) ?_
    refine WL.xe rfl (XE.buildSlice (E := eBt) [(0, (.agg #[(.int .i64 2), (.string a)]))] #[(.int .i64 2), (.string a)] [((2 : Int), (a : ByteArray))] hS1 Try.underlying29 ti49 rfl (by decide) (by kernel_rfl) (.inr rfl) rfl rfl (by decide)) ?_
    rintro _ w1 ⟨b1, rfl, hS2, hk1⟩
    have hS3 : SH w No w1 [rowE eBt 49 (.slice none 0 0) [], rowE eBt 49 (.slice (some ⟨b1, 0, none⟩) 1 1) [((2 : Int), (a : ByteArray))]] := (SH.front [_] hS2)
    refine WL.xe rfl (XE.append hS3 Try.underlying29 ti49 rfl (St.now (SH.rd hS3 (.tail _ (.head _)))) rfl rfl (by first | omega | simp only [List.length_append, List.length_cons, List.length_nil, List.length_take, List.length_reverse, List.length_drop] at *; omega) (by first | omega | simp only [List.length_append, List.length_cons, List.length_nil, List.length_take, List.length_reverse, List.length_drop] at *; omega)) ?_
    rintro _ w2 ⟨A1, c1, rfl, hS4, hk2⟩
    refine WL.lv rfl (LV.asg rfl) ?_
    refine WL.nil (thenQ.n ?_)
    iterate 2 refine WC.seq ?_
    refine WC.region ?_
    refine WL.lv rfl (LV.mv rfl) ?_
    refine WL.lv rfl (LV.neSP (a := b) (b := ⟨#[]⟩) rfl rfl) ?_
    refine WL.nil (thenQ.n ?_)
    refine WC.condP (p := ¬ (b = ⟨#[]⟩)) rfl (fun h14 => ?_) (fun h14 => ?_)
    · skip
      refine WC.region ?_
      iterate 2 refine WL.lv rfl (LV.mv rfl) ?_
      refine WL.lv rfl (LV.build (vs := [(0, (.int .i64 3)), (1, (.string b))]) (places := #[(0, 1), (1, 1)]) (cs := #[(.int .i64 3), (.string b)]) Try.underlying49 ti49 (fun _ => by kernel_rfl) rfl rfl) ?_
      refine WL.xe rfl (XE.buildSlice (E := eBt) [(0, (.agg #[(.int .i64 3), (.string b)]))] #[(.int .i64 3), (.string b)] [((3 : Int), (b : ByteArray))] hS4 Try.underlying29 ti49 rfl (by decide) (by kernel_rfl) (.inr rfl) rfl rfl (by decide)) ?_
      rintro _ w3 ⟨b2, rfl, hS5, hk3⟩
      have hS6 : SH w No w3 [rowE eBt 49 (.slice A1 ((([] : List (Int × ByteArray)) ++ [((2 : Int), (a : ByteArray))]).length) c1) (([] : List (Int × ByteArray)) ++ [((2 : Int), (a : ByteArray))]), rowE eBt 49 (.slice (some ⟨b2, 0, none⟩) 1 1) [((3 : Int), (b : ByteArray))], rowE eBt 49 (.slice (some ⟨b1, 0, none⟩) 1 1) [((2 : Int), (a : ByteArray))]] := (SH.front [_] hS5)
      refine WL.xe rfl (XE.append hS6 Try.underlying29 ti49 rfl (St.now (SH.rd hS6 (.tail _ (.head _)))) rfl rfl (by first | omega | simp only [List.length_append, List.length_cons, List.length_nil, List.length_take, List.length_reverse, List.length_drop] at *; omega) (by first | omega | simp only [List.length_append, List.length_cons, List.length_nil, List.length_take, List.length_reverse, List.length_drop] at *; omega)) ?_
      rintro _ w4 ⟨A2, c2, rfl, hS7, hk4⟩
      refine WL.lv rfl (LV.asg rfl) ?_
      refine WL.nil (thenQ.n ?_)
      refine WC.seq ?_
      refine WC.region ?_
      refine WL.lv rfl (LV.mv rfl) ?_
      refine WL.lv rfl (LV.asg rfl) ?_
      refine WL.nil (thenQ.n ?_)
      refine WC.ret (?_)
      have hS8 : SH w No w4 [rowE eBt 49 (.slice A2 (((([] : List (Int × ByteArray)) ++ [((2 : Int), (a : ByteArray))]) ++ [((3 : Int), (b : ByteArray))]).length) c2) ((([] : List (Int × ByteArray)) ++ [((2 : Int), (a : ByteArray))]) ++ [((3 : Int), (b : ByteArray))])] := (SH.take 1 rfl hS7)
      have hres1 : (((([] : List (Int × ByteArray)) ++ [((2 : Int), (a : ByteArray))]) ++ [((3 : Int), (b : ByteArray))]) : List (Int × ByteArray)) = WHL a b := whl_tt h7 h14
      exact ⟨_, fun a ha => res1 rfl ha rfl, (by rw [← hres1]; exact ⟨_, _, rfl, hS8⟩)⟩
    · skip
      refine WC.skip (thenQ.n ?_)
      refine WC.seq ?_
      refine WC.region ?_
      refine WL.lv rfl (LV.mv rfl) ?_
      refine WL.lv rfl (LV.asg rfl) ?_
      refine WL.nil (thenQ.n ?_)
      refine WC.ret (?_)
      have hS9 : SH w No w2 [rowE eBt 49 (.slice A1 ((([] : List (Int × ByteArray)) ++ [((2 : Int), (a : ByteArray))]).length) c1) (([] : List (Int × ByteArray)) ++ [((2 : Int), (a : ByteArray))])] := (SH.take 1 rfl hS4)
      have hres2 : ((([] : List (Int × ByteArray)) ++ [((2 : Int), (a : ByteArray))]) : List (Int × ByteArray)) = WHL a b := whl_tf h7 (Decidable.not_not.1 h14)
      exact ⟨_, fun a ha => res1 rfl ha rfl, (by rw [← hres2]; exact ⟨_, _, rfl, hS9⟩)⟩
  · skip
    refine WC.skip (thenQ.n ?_)
    iterate 2 refine WC.seq ?_
    refine WC.region ?_
    refine WL.lv rfl (LV.mv rfl) ?_
    refine WL.lv rfl (LV.neSP (a := b) (b := ⟨#[]⟩) rfl rfl) ?_
    refine WL.nil (thenQ.n ?_)
    refine WC.condP (p := ¬ (b = ⟨#[]⟩)) rfl (fun h14 => ?_) (fun h14 => ?_)
    · skip
      refine WC.region ?_
      iterate 2 refine WL.lv rfl (LV.mv rfl) ?_
      refine WL.lv rfl (LV.build (vs := [(0, (.int .i64 3)), (1, (.string b))]) (places := #[(0, 1), (1, 1)]) (cs := #[(.int .i64 3), (.string b)]) Try.underlying49 ti49 (fun _ => by kernel_rfl) rfl rfl) ?_
      refine WL.xe rfl (XE.buildSlice (E := eBt) [(0, (.agg #[(.int .i64 3), (.string b)]))] #[(.int .i64 3), (.string b)] [((3 : Int), (b : ByteArray))] hS1 Try.underlying29 ti49 rfl (by decide) (by kernel_rfl) (.inr rfl) rfl rfl (by decide)) ?_
      rintro _ w5 ⟨b3, rfl, hS10, hk5⟩
      have hS11 : SH w No w5 [rowE eBt 49 (.slice none 0 0) [], rowE eBt 49 (.slice (some ⟨b3, 0, none⟩) 1 1) [((3 : Int), (b : ByteArray))]] := (SH.front [_] hS10)
      refine WL.xe rfl (XE.append hS11 Try.underlying29 ti49 rfl (St.now (SH.rd hS11 (.tail _ (.head _)))) rfl rfl (by first | omega | simp only [List.length_append, List.length_cons, List.length_nil, List.length_take, List.length_reverse, List.length_drop] at *; omega) (by first | omega | simp only [List.length_append, List.length_cons, List.length_nil, List.length_take, List.length_reverse, List.length_drop] at *; omega)) ?_
      rintro _ w6 ⟨A3, c3, rfl, hS12, hk6⟩
      refine WL.lv rfl (LV.asg rfl) ?_
      refine WL.nil (thenQ.n ?_)
      refine WC.seq ?_
      refine WC.region ?_
      refine WL.lv rfl (LV.mv rfl) ?_
      refine WL.lv rfl (LV.asg rfl) ?_
      refine WL.nil (thenQ.n ?_)
      refine WC.ret (?_)
      have hS13 : SH w No w6 [rowE eBt 49 (.slice A3 ((([] : List (Int × ByteArray)) ++ [((3 : Int), (b : ByteArray))]).length) c3) (([] : List (Int × ByteArray)) ++ [((3 : Int), (b : ByteArray))])] := (SH.take 1 rfl hS12)
      have hres3 : ((([] : List (Int × ByteArray)) ++ [((3 : Int), (b : ByteArray))]) : List (Int × ByteArray)) = WHL a b := whl_ft (Decidable.not_not.1 h7) h14
      exact ⟨_, fun a ha => res1 rfl ha rfl, (by rw [← hres3]; exact ⟨_, _, rfl, hS13⟩)⟩
    · skip
      refine WC.skip (thenQ.n ?_)
      refine WC.seq ?_
      refine WC.region ?_
      refine WL.lv rfl (LV.mv rfl) ?_
      refine WL.lv rfl (LV.asg rfl) ?_
      refine WL.nil (thenQ.n ?_)
      refine WC.ret (?_)
      have hres4 : ([] : List (Int × ByteArray)) = WHL a b := whl_ff (Decidable.not_not.1 h7) (Decidable.not_not.1 h14)
      exact ⟨_, fun a ha => res1 rfl ha rfl, (by rw [← hres4]; exact ⟨_, _, rfl, hS1⟩)⟩

set_option maxHeartbeats 8000000 in
theorem marked_calls {w : World} {a : ByteArray} {b : ByteArray} (ha : a.size ≤ 100000) (hb : b.size ≤ 100000) :
    Calls Try.prog 17 #[(.string a), (.string b)] w fun e w' => ∃ v, e = .returned v ∧ (fun v w' => v = .string (MARK a b) ∧ KB No w w') v w' := by
  have hS : SH w No w [] := SH.nil _ _
  refine calls (l := litOf [(.string a), (.string b)] 0) Try.func17 rfl (n := 50) rfl (Nat.le_of_ble_eq_true rfl) (lit_args _) ?_
  refine WC.seq ?_
  refine WC.region ?_
  refine WL.lv rfl (LV.asg rfl) ?_
  refine WL.nil (thenQ.n ?_)
  refine WC.seq ?_
  refine WC.region ?_
  iterate 2 refine WL.lv rfl (LV.mv rfl) ?_
  refine WL.call rfl (XC.fn Try.func15 (by kernel_rfl) rfl rfl rfl) (edits_calls (a := a) (b := b) (by omega) (by omega)) ?_
  rintro v_ w1 ⟨A1, c1, rfl, hS1⟩
  have hS2 := SH.joinN hS hS1
  refine WL.lv rfl (LV.asg rfl) ?_
  refine WL.nil (thenQ.n ?_)
  iterate 2 refine WC.seq ?_
  refine WC.region ?_
  refine WL.lv rfl (LV.mv rfl) ?_
  refine WL.call rfl (XC.fn Try.func7 (by kernel_rfl) rfl rfl rfl) (tokens_calls (s := a) (by first | omega | (simp only [ByteArray.size_append, lit1]; omega))) ?_
  rintro v_ w2 ⟨A2, c2, rfl, hS3⟩
  have hS4 := SH.joinN hS2 hS3
  rcases Decidable.em ((TOK a).length > 400) with hg1 | hg1
  · refine WL.call rfl (XC.fn Try.func27 (by kernel_rfl) rfl rfl rfl) (Calls.asB (wlong_calls  (SH.rd hS4 (.head _)) rfl ) (decide_eq_true (hg1))) ?_
    rintro v_ w3 ⟨rfl, hk1⟩
    have hS5 := SH.same hS4 hk1
    refine WL.lv rfl (LV.mv rfl) ?_
    iterate 3 refine WL.off rfl ?_
    refine WL.lv rfl (LV.pickT rfl rfl) ?_
    refine WL.nil (thenQ.n ?_)
    refine WC.condT rfl ?_
    refine WC.region ?_
    iterate 2 refine WL.lv rfl (LV.mv rfl) ?_
    refine WL.call rfl (XC.fn Try.func33 (by kernel_rfl) rfl rfl rfl) (whole_calls (a := a) (b := b) ) ?_
    rintro v_ w4 ⟨A3, c3, rfl, hS6⟩
    have hS7 := SH.joinN hS5 hS6
    refine WL.lv rfl (LV.asg rfl) ?_
    refine WL.nil (thenQ.n ?_)
    refine WC.seq ?_
    refine WC.region ?_
    refine WL.xe rfl (XE.alloc #[(.pointer none), (.slice none 0 0)] hS7 ti42 rfl) ?_
    rintro _ w5 ⟨b1, rfl, hS8, hk2⟩
    have hS9 := SH.nilRow (E := eU8) (T := 5) hS8
    refine WL.nil (thenQ.n ?_)
    iterate 2 refine WC.seq ?_
    refine WC.region ?_
    refine WL.lv rfl (LV.mv rfl) ?_
    refine WL.lv rfl (LV.lenL Try.underlying29 rfl) ?_
    refine WL.lv rfl (LV.mv rfl) ?_
    refine WL.nil (thenQ.n ?_)
    refine WC.block ?_
    refine WC.loop (fun m_ f_ w_ => ∃ (P_out : Value) (A_out : Option Addr) (c_out : Nat) (out : ByteArray) (ix : Int), (BP P_out b1) ∧ (0 ≤ ix) ∧ (ix ≤ ((WHL a b).length : Int)) ∧ (out = MRKB ((WHL a b).take ix.toNat)) ∧ SH w No w_ [rowE eU8 5 (.slice A_out ((bytesOf out).length) c_out) (bytesOf out), blkE b1 42 #[P_out, (.slice A_out ((bytesOf out).length) c_out)], rowE eBt 49 (.slice A3 ((WHL a b).length) c3) (WHL a b), rowE eS 9 (.slice A2 ((TOK a).length) c2) (TOK a), rowE eBt 49 (.slice A1 ((EDT a b).length) c1) (EDT a b)] ∧ m_ = ((((WHL a b).length : Int) - ix).toNat) ∧ Weak (lit [(6, (.pointer (some ⟨b1, 0, none⟩))), (23, (.slice A3 ((WHL a b).length) c3)), (24, (.int .i64 ((WHL a b).length : Int))), (25, (.int .i64 ix))]) f_) _ ⟨(.pointer none), none, 0, ⟨#[]⟩, 0, (.inl rfl), by omega, by omega, rfl, hS9, rfl, Weak.cons rfl <| Weak.cons rfl <| Weak.cons rfl <| Weak.cons rfl <| Weak.nil _⟩ ?_
    rintro m1 f1 w6 ⟨P_out, A_out, c_out, out, ix, hp_out, ixlo, ixhi, q1, hL1, rfl, hw1⟩
    refine WC.weak hw1 ?_
    clear hw1
    have hms_ := MRKB_sz (WHL a b) (k := ix) ixlo ixhi
    rw [← q1] at hms_
    have hez_ := WHL_sz a b
    refine WC.seq ?_
    refine WC.region ?_
    refine WL.lv rfl (LV.ltI rfl rfl) ?_
    refine WL.nil (thenQ.n ?_)
    refine WC.seq ?_
    refine WC.condP (p := ix < ((WHL a b).length : Int)) rfl (fun hk => ?_) (fun hk => ?_)
    · skip
      refine WC.skip (thenQ.n ?_)
      refine WC.seq ?_
      refine WC.block ?_
      refine WC.seq ?_
      refine WC.region ?_
      have htk_ : szB ((WHL a b).take ix.toNat) + ((WHL a b).getD ix.toNat (0, ByteArray.empty)).2.size ≤ szB (WHL a b) := szB_take (WHL a b) ixlo hk
      obtain ⟨A4, c4, e1, g1⟩ := St.elt (SH.rd hL1 (.tail _ (.tail _ (.head _)))) (0, ByteArray.empty) ix (by omega) (by omega)
      refine WL.lv rfl (LV.idxA Try.underlying29 ti49.sz rfl e1 rfl (by omega) (by omega)) ?_
      refine WL.lv rfl (LV.loadAgg (cs := [(.int .i64 (((WHL a b).getD (ix).toNat (0, ByteArray.empty)).1)), (.string (((WHL a b).getD (ix).toNat (0, ByteArray.empty)).2))]) Try.underlying49 rfl ti49 rfl rfl (fun j u hu => g1 _ (KB.refl No _) j u hu)) ?_
      refine WL.xe rfl (XE.alloc #[(.int .i64 0), (.string ⟨#[]⟩)] hL1 ti49 rfl) ?_
      rintro _ w7 ⟨b2, rfl, hS10, hk3⟩
      refine WL.xse rfl (XSE.blkAgg #[(.int .i64 (((WHL a b).getD (ix).toNat (0, ByteArray.empty)).1)), (.string (((WHL a b).getD (ix).toNat (0, ByteArray.empty)).2))] hS10 (by kernel_rfl) rfl (by kernel_rfl) rfl rfl) ?_
      rintro w8 ⟨hS11, hk4⟩
      refine WL.nil (thenQ.n ?_)
      refine WC.seq ?_
      refine WC.region ?_
      refine WL.lv rfl (LV.fieldA Try.underlying49 rfl ti47.sz rfl) ?_
      refine WL.lv rfl (LV.load1 Try.underlying47 rfl rfl (Blk.cellN (SH.at hS11 (.head _)) 0 rfl _ (KB.refl No _))) ?_
      refine WL.nil (thenQ.n ?_)
      refine WC.block ?_
      refine WC.seq ?_
      refine WC.region ?_
      refine WL.lv rfl (LV.eqI rfl rfl) ?_
      refine WL.lv rfl (LV.asg rfl) ?_
      refine WL.nil (thenQ.n ?_)
      refine WC.condP (p := (((WHL a b).getD (ix).toNat (0, ByteArray.empty)).1) = 2) rfl (fun h2 => ?_) (fun h2 => ?_)
      · skip
        refine WC.region ?_
        refine WL.lv rfl (LV.fieldA Try.underlying49 rfl ti9.sz rfl) ?_
        refine WL.lv rfl (LV.load1 Try.underlying9 rfl rfl (Blk.cellN (SH.at hS11 (.head _)) 1 rfl _ (KB.refl No _))) ?_
        refine WL.lv rfl (LV.addS rfl rfl (by first | omega | (simp only [ByteArray.size_append, ByteArray.size_extract, lit1, lit2, lit0]; omega))) ?_
        obtain ⟨tx_, htx_⟩ : ∃ t_ : ByteArray, t_ = (⟨#[91, 45]⟩ ++ (((WHL a b).getD (ix).toNat (0, ByteArray.empty)).2)) ++ ⟨#[45, 93]⟩ := ⟨_, rfl⟩
        refine WL.lv rfl (LV.to (v := .string ((⟨#[91, 45]⟩ ++ (((WHL a b).getD (ix).toNat (0, ByteArray.empty)).2)) ++ ⟨#[45, 93]⟩)) (v' := .string tx_) (congrArg Value.string htx_.symm) (LV.addS rfl rfl (by first | omega | (simp only [ByteArray.size_append, ByteArray.size_extract, lit1, lit2, lit0]; omega)))) ?_
        have hS12 : SH w No w8 [rowE eU8 5 (.slice A_out ((bytesOf out).length) c_out) (bytesOf out), blkE b2 49 #[(.int .i64 (((WHL a b).getD (ix).toNat (0, ByteArray.empty)).1)), (.string (((WHL a b).getD (ix).toNat (0, ByteArray.empty)).2))], blkE b1 42 #[P_out, (.slice A_out ((bytesOf out).length) c_out)], rowE eBt 49 (.slice A3 ((WHL a b).length) c3) (WHL a b), rowE eS 9 (.slice A2 ((TOK a).length) c2) (TOK a), rowE eBt 49 (.slice A1 ((EDT a b).length) c1) (EDT a b)] := (SH.front [_] hS11)
        have hS13 : SH w No w8 [blkE b1 42 #[P_out, (.slice A_out ((bytesOf out).length) c_out)], rowE eU8 5 (.slice A_out ((bytesOf out).length) c_out) (bytesOf out), blkE b2 49 #[(.int .i64 (((WHL a b).getD (ix).toNat (0, ByteArray.empty)).1)), (.string (((WHL a b).getD (ix).toNat (0, ByteArray.empty)).2))], rowE eBt 49 (.slice A3 ((WHL a b).length) c3) (WHL a b), rowE eS 9 (.slice A2 ((TOK a).length) c2) (TOK a), rowE eBt 49 (.slice A1 ((EDT a b).length) c1) (EDT a b)] := (SH.front [_, _] hS12)
        have hT1 := SH.sub (Es := [_, _]) hS13
        have z1 := ws_calls (t := out) (s := tx_) hT1 (hp_out) (by rw [htx_]; simp only [ByteArray.size_append, lit2]; omega)
        refine WL.call rfl (XC.fn Try.func34 (by kernel_rfl) rfl rfl rfl) (z1) ?_
        rintro v_ w9 ⟨A5, c5, rfl, hU1⟩
        have hS14 := SH.back (Es := [_, _]) hS13 hU1
        refine WL.nil (blockQ.n <| blockQ.n <| thenQ.n ?_)
        refine WC.region ?_
        refine WL.lv rfl (LV.add rfl rfl (wr64 (by omega) (by omega))) ?_
        refine WL.lv rfl (LV.mv rfl) ?_
        refine WL.nil (thenQ.n ?_)
        have hS15 : SH w No w9 [rowE eU8 5 (.slice A5 ((bytesOf (out ++ tx_)).length) c5) (bytesOf (out ++ tx_)), blkE b1 42 #[(.pointer (some ⟨b1, 0, none⟩)), (.slice A5 ((bytesOf (out ++ tx_)).length) c5)], rowE eBt 49 (.slice A3 ((WHL a b).length) c3) (WHL a b), rowE eS 9 (.slice A2 ((TOK a).length) c2) (TOK a), rowE eBt 49 (.slice A1 ((EDT a b).length) c1) (EDT a b)] := (SH.take 5 rfl (SH.front [_, _, _, _] (SH.front [_, _, _] (SH.front [_, _, _, _, _] (SH.front [_, _, _, _, _] (SH.front [_, _, _, _, _] hS14))))))
        exact ⟨_, by omega, (.pointer (some ⟨b1, 0, none⟩)), A5, c5, (out ++ tx_), ix + 1, (.inr rfl), by omega, by omega, (by rw [mrk2 ixlo hk h2, ← q1]; rw [htx_]), hS15, rfl, Weak.cons rfl <| Weak.cons rfl <| Weak.cons rfl <| Weak.cons rfl <| Weak.nil _⟩
      · skip
        refine WC.seq ?_
        refine WC.region ?_
        refine WL.lv rfl (LV.eqI rfl rfl) ?_
        refine WL.lv rfl (LV.asg rfl) ?_
        refine WL.nil (thenQ.n ?_)
        refine WC.condP (p := (((WHL a b).getD (ix).toNat (0, ByteArray.empty)).1) = 3) rfl (fun h3 => ?_) (fun h3 => ?_)
        · skip
          refine WC.region ?_
          refine WL.lv rfl (LV.fieldA Try.underlying49 rfl ti9.sz rfl) ?_
          refine WL.lv rfl (LV.load1 Try.underlying9 rfl rfl (Blk.cellN (SH.at hS11 (.head _)) 1 rfl _ (KB.refl No _))) ?_
          refine WL.lv rfl (LV.addS rfl rfl (by first | omega | (simp only [ByteArray.size_append, ByteArray.size_extract, lit1, lit2, lit0]; omega))) ?_
          obtain ⟨tx_, htx_⟩ : ∃ t_ : ByteArray, t_ = (⟨#[123, 43]⟩ ++ (((WHL a b).getD (ix).toNat (0, ByteArray.empty)).2)) ++ ⟨#[43, 125]⟩ := ⟨_, rfl⟩
          refine WL.lv rfl (LV.to (v := .string ((⟨#[123, 43]⟩ ++ (((WHL a b).getD (ix).toNat (0, ByteArray.empty)).2)) ++ ⟨#[43, 125]⟩)) (v' := .string tx_) (congrArg Value.string htx_.symm) (LV.addS rfl rfl (by first | omega | (simp only [ByteArray.size_append, ByteArray.size_extract, lit1, lit2, lit0]; omega)))) ?_
          have hS16 : SH w No w8 [rowE eU8 5 (.slice A_out ((bytesOf out).length) c_out) (bytesOf out), blkE b2 49 #[(.int .i64 (((WHL a b).getD (ix).toNat (0, ByteArray.empty)).1)), (.string (((WHL a b).getD (ix).toNat (0, ByteArray.empty)).2))], blkE b1 42 #[P_out, (.slice A_out ((bytesOf out).length) c_out)], rowE eBt 49 (.slice A3 ((WHL a b).length) c3) (WHL a b), rowE eS 9 (.slice A2 ((TOK a).length) c2) (TOK a), rowE eBt 49 (.slice A1 ((EDT a b).length) c1) (EDT a b)] := (SH.front [_] hS11)
          have hS17 : SH w No w8 [blkE b1 42 #[P_out, (.slice A_out ((bytesOf out).length) c_out)], rowE eU8 5 (.slice A_out ((bytesOf out).length) c_out) (bytesOf out), blkE b2 49 #[(.int .i64 (((WHL a b).getD (ix).toNat (0, ByteArray.empty)).1)), (.string (((WHL a b).getD (ix).toNat (0, ByteArray.empty)).2))], rowE eBt 49 (.slice A3 ((WHL a b).length) c3) (WHL a b), rowE eS 9 (.slice A2 ((TOK a).length) c2) (TOK a), rowE eBt 49 (.slice A1 ((EDT a b).length) c1) (EDT a b)] := (SH.front [_, _] hS16)
          have hT2 := SH.sub (Es := [_, _]) hS17
          have z2 := ws_calls (t := out) (s := tx_) hT2 (hp_out) (by rw [htx_]; simp only [ByteArray.size_append, lit2]; omega)
          refine WL.call rfl (XC.fn Try.func34 (by kernel_rfl) rfl rfl rfl) (z2) ?_
          rintro v_ w10 ⟨A6, c6, rfl, hU2⟩
          have hS18 := SH.back (Es := [_, _]) hS17 hU2
          refine WL.nil (blockQ.n <| blockQ.n <| thenQ.n ?_)
          refine WC.region ?_
          refine WL.lv rfl (LV.add rfl rfl (wr64 (by omega) (by omega))) ?_
          refine WL.lv rfl (LV.mv rfl) ?_
          refine WL.nil (thenQ.n ?_)
          have hS19 : SH w No w10 [rowE eU8 5 (.slice A6 ((bytesOf (out ++ tx_)).length) c6) (bytesOf (out ++ tx_)), blkE b1 42 #[(.pointer (some ⟨b1, 0, none⟩)), (.slice A6 ((bytesOf (out ++ tx_)).length) c6)], rowE eBt 49 (.slice A3 ((WHL a b).length) c3) (WHL a b), rowE eS 9 (.slice A2 ((TOK a).length) c2) (TOK a), rowE eBt 49 (.slice A1 ((EDT a b).length) c1) (EDT a b)] := (SH.take 5 rfl (SH.front [_, _, _, _] (SH.front [_, _, _] (SH.front [_, _, _, _, _] (SH.front [_, _, _, _, _] (SH.front [_, _, _, _, _] hS18))))))
          exact ⟨_, by omega, (.pointer (some ⟨b1, 0, none⟩)), A6, c6, (out ++ tx_), ix + 1, (.inr rfl), by omega, by omega, (by rw [mrk3 ixlo hk h2 h3, ← q1]; rw [htx_]), hS19, rfl, Weak.cons rfl <| Weak.cons rfl <| Weak.cons rfl <| Weak.cons rfl <| Weak.nil _⟩
        · skip
          refine WC.region ?_
          refine WL.lv rfl (LV.fieldA Try.underlying49 rfl ti9.sz rfl) ?_
          refine WL.lv rfl (LV.load1 Try.underlying9 rfl rfl (Blk.cellN (SH.at hS11 (.head _)) 1 rfl _ (KB.refl No _))) ?_
          have hS20 : SH w No w8 [rowE eU8 5 (.slice A_out ((bytesOf out).length) c_out) (bytesOf out), blkE b2 49 #[(.int .i64 (((WHL a b).getD (ix).toNat (0, ByteArray.empty)).1)), (.string (((WHL a b).getD (ix).toNat (0, ByteArray.empty)).2))], blkE b1 42 #[P_out, (.slice A_out ((bytesOf out).length) c_out)], rowE eBt 49 (.slice A3 ((WHL a b).length) c3) (WHL a b), rowE eS 9 (.slice A2 ((TOK a).length) c2) (TOK a), rowE eBt 49 (.slice A1 ((EDT a b).length) c1) (EDT a b)] := (SH.front [_] hS11)
          have hS21 : SH w No w8 [blkE b1 42 #[P_out, (.slice A_out ((bytesOf out).length) c_out)], rowE eU8 5 (.slice A_out ((bytesOf out).length) c_out) (bytesOf out), blkE b2 49 #[(.int .i64 (((WHL a b).getD (ix).toNat (0, ByteArray.empty)).1)), (.string (((WHL a b).getD (ix).toNat (0, ByteArray.empty)).2))], rowE eBt 49 (.slice A3 ((WHL a b).length) c3) (WHL a b), rowE eS 9 (.slice A2 ((TOK a).length) c2) (TOK a), rowE eBt 49 (.slice A1 ((EDT a b).length) c1) (EDT a b)] := (SH.front [_, _] hS20)
          have hT3 := SH.sub (Es := [_, _]) hS21
          have z3 := ws_calls (t := out) (s := (((WHL a b).getD (ix).toNat (0, ByteArray.empty)).2)) hT3 (hp_out) (by omega)
          refine WL.call rfl (XC.fn Try.func34 (by kernel_rfl) rfl rfl rfl) (z3) ?_
          rintro v_ w11 ⟨A7, c7, rfl, hU3⟩
          have hS22 := SH.back (Es := [_, _]) hS21 hU3
          refine WL.nil (blockQ.n <| blockQ.n <| thenQ.n ?_)
          refine WC.region ?_
          refine WL.lv rfl (LV.add rfl rfl (wr64 (by omega) (by omega))) ?_
          refine WL.lv rfl (LV.mv rfl) ?_
          refine WL.nil (thenQ.n ?_)
          have hS23 : SH w No w11 [rowE eU8 5 (.slice A7 ((bytesOf (out ++ (((WHL a b).getD (ix).toNat (0, ByteArray.empty)).2))).length) c7) (bytesOf (out ++ (((WHL a b).getD (ix).toNat (0, ByteArray.empty)).2))), blkE b1 42 #[(.pointer (some ⟨b1, 0, none⟩)), (.slice A7 ((bytesOf (out ++ (((WHL a b).getD (ix).toNat (0, ByteArray.empty)).2))).length) c7)], rowE eBt 49 (.slice A3 ((WHL a b).length) c3) (WHL a b), rowE eS 9 (.slice A2 ((TOK a).length) c2) (TOK a), rowE eBt 49 (.slice A1 ((EDT a b).length) c1) (EDT a b)] := (SH.take 5 rfl (SH.front [_, _, _, _] (SH.front [_, _, _] (SH.front [_, _, _, _, _] (SH.front [_, _, _, _, _] (SH.front [_, _, _, _, _] hS22))))))
          exact ⟨_, by omega, (.pointer (some ⟨b1, 0, none⟩)), A7, c7, (out ++ (((WHL a b).getD (ix).toNat (0, ByteArray.empty)).2)), ix + 1, (.inr rfl), by omega, by omega, (by rw [mrk1 ixlo hk h2 h3, ← q1]), hS23, rfl, Weak.cons rfl <| Weak.cons rfl <| Weak.cons rfl <| Weak.cons rfl <| Weak.nil _⟩
    · skip
      refine WC.exit (thenQ.x <| thenQ.x <| blockQ.hit <| thenQ.n ?_)
      refine WC.seq ?_
      refine WC.region ?_
      have hS24 : SH w No w6 [blkE b1 42 #[P_out, (.slice A_out ((bytesOf out).length) c_out)], rowE eU8 5 (.slice A_out ((bytesOf out).length) c_out) (bytesOf out), rowE eBt 49 (.slice A3 ((WHL a b).length) c3) (WHL a b), rowE eS 9 (.slice A2 ((TOK a).length) c2) (TOK a), rowE eBt 49 (.slice A1 ((EDT a b).length) c1) (EDT a b)] := (SH.front [_] hL1)
      have hT4 := SH.sub (Es := [_, _]) hS24
      refine WL.call rfl (XC.fn Try.func26 (by kernel_rfl) rfl rfl rfl) (bs_calls (t := out) hT4) ?_
      rintro v_ w12 ⟨rfl, hU4⟩
      have hS25 := SH.back (Es := [_, _]) hS24 hU4
      refine WL.lv rfl (LV.asg rfl) ?_
      refine WL.nil (thenQ.n ?_)
      refine WC.ret (?_)
      exact ⟨_, fun a ha => res1 rfl ha rfl, congrArg Value.string (by rw [mark_long (a := a) (b := b) (by omega), q1, List.take_of_length_le (by omega)]), hS25.kb⟩
  · refine WL.call rfl (XC.fn Try.func27 (by kernel_rfl) rfl rfl rfl) (Calls.asB (wlong_calls  (SH.rd hS4 (.head _)) rfl ) (decide_eq_false (hg1))) ?_
    rintro v_ w13 ⟨rfl, hk5⟩
    have hS26 := SH.same hS4 hk5
    iterate 2 refine WL.lv rfl (LV.mv rfl) ?_
    refine WL.call rfl (XC.fn Try.func7 (by kernel_rfl) rfl rfl rfl) (tokens_calls (s := b) (by first | omega | (simp only [ByteArray.size_append, lit1]; omega))) ?_
    rintro v_ w14 ⟨A8, c8, rfl, hS27⟩
    have hS28 := SH.joinN hS26 hS27
    refine WL.call rfl (XC.fn Try.func27 (by kernel_rfl) rfl rfl rfl) (wlong_calls  (SH.rd hS28 (.head _)) rfl ) ?_
    rintro v_ w15 ⟨rfl, hk6⟩
    have hS29 := SH.same hS28 hk6
    refine WL.lv rfl (LV.pickF rfl rfl) ?_
    refine WL.nil (thenQ.n ?_)
    refine WC.condP (p := (TOK b).length > 400) rfl (fun hlg => ?_) (fun hlg => ?_)
    · skip
      refine WC.region ?_
      iterate 2 refine WL.lv rfl (LV.mv rfl) ?_
      refine WL.call rfl (XC.fn Try.func33 (by kernel_rfl) rfl rfl rfl) (whole_calls (a := a) (b := b) ) ?_
      rintro v_ w16 ⟨A9, c9, rfl, hS30⟩
      have hS31 := SH.joinN hS29 hS30
      refine WL.lv rfl (LV.asg rfl) ?_
      refine WL.nil (thenQ.n ?_)
      refine WC.seq ?_
      refine WC.region ?_
      refine WL.xe rfl (XE.alloc #[(.pointer none), (.slice none 0 0)] hS31 ti42 rfl) ?_
      rintro _ w17 ⟨b3, rfl, hS32, hk7⟩
      have hS33 := SH.nilRow (E := eU8) (T := 5) hS32
      refine WL.nil (thenQ.n ?_)
      iterate 2 refine WC.seq ?_
      refine WC.region ?_
      refine WL.lv rfl (LV.mv rfl) ?_
      refine WL.lv rfl (LV.lenL Try.underlying29 rfl) ?_
      refine WL.lv rfl (LV.mv rfl) ?_
      refine WL.nil (thenQ.n ?_)
      refine WC.block ?_
      refine WC.loop (fun m_ f_ w_ => ∃ (P_out : Value) (A_out : Option Addr) (c_out : Nat) (out : ByteArray) (ix : Int), (BP P_out b3) ∧ (0 ≤ ix) ∧ (ix ≤ ((WHL a b).length : Int)) ∧ (out = MRKB ((WHL a b).take ix.toNat)) ∧ SH w No w_ [rowE eU8 5 (.slice A_out ((bytesOf out).length) c_out) (bytesOf out), blkE b3 42 #[P_out, (.slice A_out ((bytesOf out).length) c_out)], rowE eBt 49 (.slice A9 ((WHL a b).length) c9) (WHL a b), rowE eS 9 (.slice A8 ((TOK b).length) c8) (TOK b), rowE eS 9 (.slice A2 ((TOK a).length) c2) (TOK a), rowE eBt 49 (.slice A1 ((EDT a b).length) c1) (EDT a b)] ∧ m_ = ((((WHL a b).length : Int) - ix).toNat) ∧ Weak (lit [(6, (.pointer (some ⟨b3, 0, none⟩))), (23, (.slice A9 ((WHL a b).length) c9)), (24, (.int .i64 ((WHL a b).length : Int))), (25, (.int .i64 ix))]) f_) _ ⟨(.pointer none), none, 0, ⟨#[]⟩, 0, (.inl rfl), by omega, by omega, rfl, hS33, rfl, Weak.cons rfl <| Weak.cons rfl <| Weak.cons rfl <| Weak.cons rfl <| Weak.nil _⟩ ?_
      rintro m2 f2 w18 ⟨P_out, A_out, c_out, out, ix, hp_out, ixlo, ixhi, q1, hL2, rfl, hw2⟩
      refine WC.weak hw2 ?_
      clear hw2
      have hms_ := MRKB_sz (WHL a b) (k := ix) ixlo ixhi
      rw [← q1] at hms_
      have hez_ := WHL_sz a b
      refine WC.seq ?_
      refine WC.region ?_
      refine WL.lv rfl (LV.ltI rfl rfl) ?_
      refine WL.nil (thenQ.n ?_)
      refine WC.seq ?_
      refine WC.condP (p := ix < ((WHL a b).length : Int)) rfl (fun hk => ?_) (fun hk => ?_)
      · skip
        refine WC.skip (thenQ.n ?_)
        refine WC.seq ?_
        refine WC.block ?_
        refine WC.seq ?_
        refine WC.region ?_
        have htk_ : szB ((WHL a b).take ix.toNat) + ((WHL a b).getD ix.toNat (0, ByteArray.empty)).2.size ≤ szB (WHL a b) := szB_take (WHL a b) ixlo hk
        obtain ⟨A10, c10, e2, g2⟩ := St.elt (SH.rd hL2 (.tail _ (.tail _ (.head _)))) (0, ByteArray.empty) ix (by omega) (by omega)
        refine WL.lv rfl (LV.idxA Try.underlying29 ti49.sz rfl e2 rfl (by omega) (by omega)) ?_
        refine WL.lv rfl (LV.loadAgg (cs := [(.int .i64 (((WHL a b).getD (ix).toNat (0, ByteArray.empty)).1)), (.string (((WHL a b).getD (ix).toNat (0, ByteArray.empty)).2))]) Try.underlying49 rfl ti49 rfl rfl (fun j u hu => g2 _ (KB.refl No _) j u hu)) ?_
        refine WL.xe rfl (XE.alloc #[(.int .i64 0), (.string ⟨#[]⟩)] hL2 ti49 rfl) ?_
        rintro _ w19 ⟨b4, rfl, hS34, hk8⟩
        refine WL.xse rfl (XSE.blkAgg #[(.int .i64 (((WHL a b).getD (ix).toNat (0, ByteArray.empty)).1)), (.string (((WHL a b).getD (ix).toNat (0, ByteArray.empty)).2))] hS34 (by kernel_rfl) rfl (by kernel_rfl) rfl rfl) ?_
        rintro w20 ⟨hS35, hk9⟩
        refine WL.nil (thenQ.n ?_)
        refine WC.seq ?_
        refine WC.region ?_
        refine WL.lv rfl (LV.fieldA Try.underlying49 rfl ti47.sz rfl) ?_
        refine WL.lv rfl (LV.load1 Try.underlying47 rfl rfl (Blk.cellN (SH.at hS35 (.head _)) 0 rfl _ (KB.refl No _))) ?_
        refine WL.nil (thenQ.n ?_)
        refine WC.block ?_
        refine WC.seq ?_
        refine WC.region ?_
        refine WL.lv rfl (LV.eqI rfl rfl) ?_
        refine WL.lv rfl (LV.asg rfl) ?_
        refine WL.nil (thenQ.n ?_)
        refine WC.condP (p := (((WHL a b).getD (ix).toNat (0, ByteArray.empty)).1) = 2) rfl (fun h2 => ?_) (fun h2 => ?_)
        · skip
          refine WC.region ?_
          refine WL.lv rfl (LV.fieldA Try.underlying49 rfl ti9.sz rfl) ?_
          refine WL.lv rfl (LV.load1 Try.underlying9 rfl rfl (Blk.cellN (SH.at hS35 (.head _)) 1 rfl _ (KB.refl No _))) ?_
          refine WL.lv rfl (LV.addS rfl rfl (by first | omega | (simp only [ByteArray.size_append, ByteArray.size_extract, lit1, lit2, lit0]; omega))) ?_
          obtain ⟨tx_, htx_⟩ : ∃ t_ : ByteArray, t_ = (⟨#[91, 45]⟩ ++ (((WHL a b).getD (ix).toNat (0, ByteArray.empty)).2)) ++ ⟨#[45, 93]⟩ := ⟨_, rfl⟩
          refine WL.lv rfl (LV.to (v := .string ((⟨#[91, 45]⟩ ++ (((WHL a b).getD (ix).toNat (0, ByteArray.empty)).2)) ++ ⟨#[45, 93]⟩)) (v' := .string tx_) (congrArg Value.string htx_.symm) (LV.addS rfl rfl (by first | omega | (simp only [ByteArray.size_append, ByteArray.size_extract, lit1, lit2, lit0]; omega)))) ?_
          have hS36 : SH w No w20 [rowE eU8 5 (.slice A_out ((bytesOf out).length) c_out) (bytesOf out), blkE b4 49 #[(.int .i64 (((WHL a b).getD (ix).toNat (0, ByteArray.empty)).1)), (.string (((WHL a b).getD (ix).toNat (0, ByteArray.empty)).2))], blkE b3 42 #[P_out, (.slice A_out ((bytesOf out).length) c_out)], rowE eBt 49 (.slice A9 ((WHL a b).length) c9) (WHL a b), rowE eS 9 (.slice A8 ((TOK b).length) c8) (TOK b), rowE eS 9 (.slice A2 ((TOK a).length) c2) (TOK a), rowE eBt 49 (.slice A1 ((EDT a b).length) c1) (EDT a b)] := (SH.front [_] hS35)
          have hS37 : SH w No w20 [blkE b3 42 #[P_out, (.slice A_out ((bytesOf out).length) c_out)], rowE eU8 5 (.slice A_out ((bytesOf out).length) c_out) (bytesOf out), blkE b4 49 #[(.int .i64 (((WHL a b).getD (ix).toNat (0, ByteArray.empty)).1)), (.string (((WHL a b).getD (ix).toNat (0, ByteArray.empty)).2))], rowE eBt 49 (.slice A9 ((WHL a b).length) c9) (WHL a b), rowE eS 9 (.slice A8 ((TOK b).length) c8) (TOK b), rowE eS 9 (.slice A2 ((TOK a).length) c2) (TOK a), rowE eBt 49 (.slice A1 ((EDT a b).length) c1) (EDT a b)] := (SH.front [_, _] hS36)
          have hT5 := SH.sub (Es := [_, _]) hS37
          have z4 := ws_calls (t := out) (s := tx_) hT5 (hp_out) (by rw [htx_]; simp only [ByteArray.size_append, lit2]; omega)
          refine WL.call rfl (XC.fn Try.func34 (by kernel_rfl) rfl rfl rfl) (z4) ?_
          rintro v_ w21 ⟨A11, c11, rfl, hU5⟩
          have hS38 := SH.back (Es := [_, _]) hS37 hU5
          refine WL.nil (blockQ.n <| blockQ.n <| thenQ.n ?_)
          refine WC.region ?_
          refine WL.lv rfl (LV.add rfl rfl (wr64 (by omega) (by omega))) ?_
          refine WL.lv rfl (LV.mv rfl) ?_
          refine WL.nil (thenQ.n ?_)
          have hS39 : SH w No w21 [rowE eU8 5 (.slice A11 ((bytesOf (out ++ tx_)).length) c11) (bytesOf (out ++ tx_)), blkE b3 42 #[(.pointer (some ⟨b3, 0, none⟩)), (.slice A11 ((bytesOf (out ++ tx_)).length) c11)], rowE eBt 49 (.slice A9 ((WHL a b).length) c9) (WHL a b), rowE eS 9 (.slice A8 ((TOK b).length) c8) (TOK b), rowE eS 9 (.slice A2 ((TOK a).length) c2) (TOK a), rowE eBt 49 (.slice A1 ((EDT a b).length) c1) (EDT a b)] := (SH.take 6 rfl (SH.front [_, _, _, _, _] (SH.front [_, _, _, _] (SH.front [_, _, _, _, _, _] (SH.front [_, _, _, _, _, _] (SH.front [_, _, _, _, _, _] (SH.front [_, _, _, _, _, _] hS38)))))))
          exact ⟨_, by omega, (.pointer (some ⟨b3, 0, none⟩)), A11, c11, (out ++ tx_), ix + 1, (.inr rfl), by omega, by omega, (by rw [mrk2 ixlo hk h2, ← q1]; rw [htx_]), hS39, rfl, Weak.cons rfl <| Weak.cons rfl <| Weak.cons rfl <| Weak.cons rfl <| Weak.nil _⟩
        · skip
          refine WC.seq ?_
          refine WC.region ?_
          refine WL.lv rfl (LV.eqI rfl rfl) ?_
          refine WL.lv rfl (LV.asg rfl) ?_
          refine WL.nil (thenQ.n ?_)
          refine WC.condP (p := (((WHL a b).getD (ix).toNat (0, ByteArray.empty)).1) = 3) rfl (fun h3 => ?_) (fun h3 => ?_)
          · skip
            refine WC.region ?_
            refine WL.lv rfl (LV.fieldA Try.underlying49 rfl ti9.sz rfl) ?_
            refine WL.lv rfl (LV.load1 Try.underlying9 rfl rfl (Blk.cellN (SH.at hS35 (.head _)) 1 rfl _ (KB.refl No _))) ?_
            refine WL.lv rfl (LV.addS rfl rfl (by first | omega | (simp only [ByteArray.size_append, ByteArray.size_extract, lit1, lit2, lit0]; omega))) ?_
            obtain ⟨tx_, htx_⟩ : ∃ t_ : ByteArray, t_ = (⟨#[123, 43]⟩ ++ (((WHL a b).getD (ix).toNat (0, ByteArray.empty)).2)) ++ ⟨#[43, 125]⟩ := ⟨_, rfl⟩
            refine WL.lv rfl (LV.to (v := .string ((⟨#[123, 43]⟩ ++ (((WHL a b).getD (ix).toNat (0, ByteArray.empty)).2)) ++ ⟨#[43, 125]⟩)) (v' := .string tx_) (congrArg Value.string htx_.symm) (LV.addS rfl rfl (by first | omega | (simp only [ByteArray.size_append, ByteArray.size_extract, lit1, lit2, lit0]; omega)))) ?_
            have hS40 : SH w No w20 [rowE eU8 5 (.slice A_out ((bytesOf out).length) c_out) (bytesOf out), blkE b4 49 #[(.int .i64 (((WHL a b).getD (ix).toNat (0, ByteArray.empty)).1)), (.string (((WHL a b).getD (ix).toNat (0, ByteArray.empty)).2))], blkE b3 42 #[P_out, (.slice A_out ((bytesOf out).length) c_out)], rowE eBt 49 (.slice A9 ((WHL a b).length) c9) (WHL a b), rowE eS 9 (.slice A8 ((TOK b).length) c8) (TOK b), rowE eS 9 (.slice A2 ((TOK a).length) c2) (TOK a), rowE eBt 49 (.slice A1 ((EDT a b).length) c1) (EDT a b)] := (SH.front [_] hS35)
            have hS41 : SH w No w20 [blkE b3 42 #[P_out, (.slice A_out ((bytesOf out).length) c_out)], rowE eU8 5 (.slice A_out ((bytesOf out).length) c_out) (bytesOf out), blkE b4 49 #[(.int .i64 (((WHL a b).getD (ix).toNat (0, ByteArray.empty)).1)), (.string (((WHL a b).getD (ix).toNat (0, ByteArray.empty)).2))], rowE eBt 49 (.slice A9 ((WHL a b).length) c9) (WHL a b), rowE eS 9 (.slice A8 ((TOK b).length) c8) (TOK b), rowE eS 9 (.slice A2 ((TOK a).length) c2) (TOK a), rowE eBt 49 (.slice A1 ((EDT a b).length) c1) (EDT a b)] := (SH.front [_, _] hS40)
            have hT6 := SH.sub (Es := [_, _]) hS41
            have z5 := ws_calls (t := out) (s := tx_) hT6 (hp_out) (by rw [htx_]; simp only [ByteArray.size_append, lit2]; omega)
            refine WL.call rfl (XC.fn Try.func34 (by kernel_rfl) rfl rfl rfl) (z5) ?_
            rintro v_ w22 ⟨A12, c12, rfl, hU6⟩
            have hS42 := SH.back (Es := [_, _]) hS41 hU6
            refine WL.nil (blockQ.n <| blockQ.n <| thenQ.n ?_)
            refine WC.region ?_
            refine WL.lv rfl (LV.add rfl rfl (wr64 (by omega) (by omega))) ?_
            refine WL.lv rfl (LV.mv rfl) ?_
            refine WL.nil (thenQ.n ?_)
            have hS43 : SH w No w22 [rowE eU8 5 (.slice A12 ((bytesOf (out ++ tx_)).length) c12) (bytesOf (out ++ tx_)), blkE b3 42 #[(.pointer (some ⟨b3, 0, none⟩)), (.slice A12 ((bytesOf (out ++ tx_)).length) c12)], rowE eBt 49 (.slice A9 ((WHL a b).length) c9) (WHL a b), rowE eS 9 (.slice A8 ((TOK b).length) c8) (TOK b), rowE eS 9 (.slice A2 ((TOK a).length) c2) (TOK a), rowE eBt 49 (.slice A1 ((EDT a b).length) c1) (EDT a b)] := (SH.take 6 rfl (SH.front [_, _, _, _, _] (SH.front [_, _, _, _] (SH.front [_, _, _, _, _, _] (SH.front [_, _, _, _, _, _] (SH.front [_, _, _, _, _, _] (SH.front [_, _, _, _, _, _] hS42)))))))
            exact ⟨_, by omega, (.pointer (some ⟨b3, 0, none⟩)), A12, c12, (out ++ tx_), ix + 1, (.inr rfl), by omega, by omega, (by rw [mrk3 ixlo hk h2 h3, ← q1]; rw [htx_]), hS43, rfl, Weak.cons rfl <| Weak.cons rfl <| Weak.cons rfl <| Weak.cons rfl <| Weak.nil _⟩
          · skip
            refine WC.region ?_
            refine WL.lv rfl (LV.fieldA Try.underlying49 rfl ti9.sz rfl) ?_
            refine WL.lv rfl (LV.load1 Try.underlying9 rfl rfl (Blk.cellN (SH.at hS35 (.head _)) 1 rfl _ (KB.refl No _))) ?_
            have hS44 : SH w No w20 [rowE eU8 5 (.slice A_out ((bytesOf out).length) c_out) (bytesOf out), blkE b4 49 #[(.int .i64 (((WHL a b).getD (ix).toNat (0, ByteArray.empty)).1)), (.string (((WHL a b).getD (ix).toNat (0, ByteArray.empty)).2))], blkE b3 42 #[P_out, (.slice A_out ((bytesOf out).length) c_out)], rowE eBt 49 (.slice A9 ((WHL a b).length) c9) (WHL a b), rowE eS 9 (.slice A8 ((TOK b).length) c8) (TOK b), rowE eS 9 (.slice A2 ((TOK a).length) c2) (TOK a), rowE eBt 49 (.slice A1 ((EDT a b).length) c1) (EDT a b)] := (SH.front [_] hS35)
            have hS45 : SH w No w20 [blkE b3 42 #[P_out, (.slice A_out ((bytesOf out).length) c_out)], rowE eU8 5 (.slice A_out ((bytesOf out).length) c_out) (bytesOf out), blkE b4 49 #[(.int .i64 (((WHL a b).getD (ix).toNat (0, ByteArray.empty)).1)), (.string (((WHL a b).getD (ix).toNat (0, ByteArray.empty)).2))], rowE eBt 49 (.slice A9 ((WHL a b).length) c9) (WHL a b), rowE eS 9 (.slice A8 ((TOK b).length) c8) (TOK b), rowE eS 9 (.slice A2 ((TOK a).length) c2) (TOK a), rowE eBt 49 (.slice A1 ((EDT a b).length) c1) (EDT a b)] := (SH.front [_, _] hS44)
            have hT7 := SH.sub (Es := [_, _]) hS45
            have z6 := ws_calls (t := out) (s := (((WHL a b).getD (ix).toNat (0, ByteArray.empty)).2)) hT7 (hp_out) (by omega)
            refine WL.call rfl (XC.fn Try.func34 (by kernel_rfl) rfl rfl rfl) (z6) ?_
            rintro v_ w23 ⟨A13, c13, rfl, hU7⟩
            have hS46 := SH.back (Es := [_, _]) hS45 hU7
            refine WL.nil (blockQ.n <| blockQ.n <| thenQ.n ?_)
            refine WC.region ?_
            refine WL.lv rfl (LV.add rfl rfl (wr64 (by omega) (by omega))) ?_
            refine WL.lv rfl (LV.mv rfl) ?_
            refine WL.nil (thenQ.n ?_)
            have hS47 : SH w No w23 [rowE eU8 5 (.slice A13 ((bytesOf (out ++ (((WHL a b).getD (ix).toNat (0, ByteArray.empty)).2))).length) c13) (bytesOf (out ++ (((WHL a b).getD (ix).toNat (0, ByteArray.empty)).2))), blkE b3 42 #[(.pointer (some ⟨b3, 0, none⟩)), (.slice A13 ((bytesOf (out ++ (((WHL a b).getD (ix).toNat (0, ByteArray.empty)).2))).length) c13)], rowE eBt 49 (.slice A9 ((WHL a b).length) c9) (WHL a b), rowE eS 9 (.slice A8 ((TOK b).length) c8) (TOK b), rowE eS 9 (.slice A2 ((TOK a).length) c2) (TOK a), rowE eBt 49 (.slice A1 ((EDT a b).length) c1) (EDT a b)] := (SH.take 6 rfl (SH.front [_, _, _, _, _] (SH.front [_, _, _, _] (SH.front [_, _, _, _, _, _] (SH.front [_, _, _, _, _, _] (SH.front [_, _, _, _, _, _] (SH.front [_, _, _, _, _, _] hS46)))))))
            exact ⟨_, by omega, (.pointer (some ⟨b3, 0, none⟩)), A13, c13, (out ++ (((WHL a b).getD (ix).toNat (0, ByteArray.empty)).2)), ix + 1, (.inr rfl), by omega, by omega, (by rw [mrk1 ixlo hk h2 h3, ← q1]), hS47, rfl, Weak.cons rfl <| Weak.cons rfl <| Weak.cons rfl <| Weak.cons rfl <| Weak.nil _⟩
      · skip
        refine WC.exit (thenQ.x <| thenQ.x <| blockQ.hit <| thenQ.n ?_)
        refine WC.seq ?_
        refine WC.region ?_
        have hS48 : SH w No w18 [blkE b3 42 #[P_out, (.slice A_out ((bytesOf out).length) c_out)], rowE eU8 5 (.slice A_out ((bytesOf out).length) c_out) (bytesOf out), rowE eBt 49 (.slice A9 ((WHL a b).length) c9) (WHL a b), rowE eS 9 (.slice A8 ((TOK b).length) c8) (TOK b), rowE eS 9 (.slice A2 ((TOK a).length) c2) (TOK a), rowE eBt 49 (.slice A1 ((EDT a b).length) c1) (EDT a b)] := (SH.front [_] hL2)
        have hT8 := SH.sub (Es := [_, _]) hS48
        refine WL.call rfl (XC.fn Try.func26 (by kernel_rfl) rfl rfl rfl) (bs_calls (t := out) hT8) ?_
        rintro v_ w24 ⟨rfl, hU8⟩
        have hS49 := SH.back (Es := [_, _]) hS48 hU8
        refine WL.lv rfl (LV.asg rfl) ?_
        refine WL.nil (thenQ.n ?_)
        refine WC.ret (?_)
        exact ⟨_, fun a ha => res1 rfl ha rfl, congrArg Value.string (by rw [mark_long (a := a) (b := b) (by omega), q1, List.take_of_length_le (by omega)]), hS49.kb⟩
    · skip
      refine WC.skip (thenQ.n ?_)
      refine WC.seq ?_
      refine WC.region ?_
      refine WL.xe rfl (XE.alloc #[(.pointer none), (.slice none 0 0)] hS29 ti42 rfl) ?_
      rintro _ w25 ⟨b5, rfl, hS50, hk10⟩
      have hS51 := SH.nilRow (E := eU8) (T := 5) hS50
      refine WL.nil (thenQ.n ?_)
      iterate 2 refine WC.seq ?_
      refine WC.region ?_
      refine WL.lv rfl (LV.mv rfl) ?_
      refine WL.lv rfl (LV.lenL Try.underlying29 rfl) ?_
      refine WL.lv rfl (LV.mv rfl) ?_
      refine WL.nil (thenQ.n ?_)
      refine WC.block ?_
      refine WC.loop (fun m_ f_ w_ => ∃ (P_out : Value) (A_out : Option Addr) (c_out : Nat) (out : ByteArray) (ix : Int), (BP P_out b5) ∧ (0 ≤ ix) ∧ (ix ≤ ((EDT a b).length : Int)) ∧ (out = MRKB ((EDT a b).take ix.toNat)) ∧ SH w No w_ [rowE eU8 5 (.slice A_out ((bytesOf out).length) c_out) (bytesOf out), blkE b5 42 #[P_out, (.slice A_out ((bytesOf out).length) c_out)], rowE eS 9 (.slice A8 ((TOK b).length) c8) (TOK b), rowE eS 9 (.slice A2 ((TOK a).length) c2) (TOK a), rowE eBt 49 (.slice A1 ((EDT a b).length) c1) (EDT a b)] ∧ m_ = ((((EDT a b).length : Int) - ix).toNat) ∧ Weak (lit [(6, (.pointer (some ⟨b5, 0, none⟩))), (23, (.slice A1 ((EDT a b).length) c1)), (24, (.int .i64 ((EDT a b).length : Int))), (25, (.int .i64 ix))]) f_) _ ⟨(.pointer none), none, 0, ⟨#[]⟩, 0, (.inl rfl), by omega, by omega, rfl, hS51, rfl, Weak.cons rfl <| Weak.cons rfl <| Weak.cons rfl <| Weak.cons rfl <| Weak.nil _⟩ ?_
      rintro m3 f3 w26 ⟨P_out, A_out, c_out, out, ix, hp_out, ixlo, ixhi, q1, hL3, rfl, hw3⟩
      refine WC.weak hw3 ?_
      clear hw3
      have hms_ := MRKB_sz (EDT a b) (k := ix) ixlo ixhi
      rw [← q1] at hms_
      have hez_ := EDT_sz a b
      refine WC.seq ?_
      refine WC.region ?_
      refine WL.lv rfl (LV.ltI rfl rfl) ?_
      refine WL.nil (thenQ.n ?_)
      refine WC.seq ?_
      refine WC.condP (p := ix < ((EDT a b).length : Int)) rfl (fun hk => ?_) (fun hk => ?_)
      · skip
        refine WC.skip (thenQ.n ?_)
        refine WC.seq ?_
        refine WC.block ?_
        refine WC.seq ?_
        refine WC.region ?_
        have htk_ : szB ((EDT a b).take ix.toNat) + ((EDT a b).getD ix.toNat (0, ByteArray.empty)).2.size ≤ szB (EDT a b) := szB_take (EDT a b) ixlo hk
        obtain ⟨A14, c14, e3, g3⟩ := St.elt (SH.rd hL3 (.tail _ (.tail _ (.tail _ (.tail _ (.head _)))))) (0, ByteArray.empty) ix (by omega) (by omega)
        refine WL.lv rfl (LV.idxA Try.underlying29 ti49.sz rfl e3 rfl (by omega) (by omega)) ?_
        refine WL.lv rfl (LV.loadAgg (cs := [(.int .i64 (((EDT a b).getD (ix).toNat (0, ByteArray.empty)).1)), (.string (((EDT a b).getD (ix).toNat (0, ByteArray.empty)).2))]) Try.underlying49 rfl ti49 rfl rfl (fun j u hu => g3 _ (KB.refl No _) j u hu)) ?_
        refine WL.xe rfl (XE.alloc #[(.int .i64 0), (.string ⟨#[]⟩)] hL3 ti49 rfl) ?_
        rintro _ w27 ⟨b6, rfl, hS52, hk11⟩
        refine WL.xse rfl (XSE.blkAgg #[(.int .i64 (((EDT a b).getD (ix).toNat (0, ByteArray.empty)).1)), (.string (((EDT a b).getD (ix).toNat (0, ByteArray.empty)).2))] hS52 (by kernel_rfl) rfl (by kernel_rfl) rfl rfl) ?_
        rintro w28 ⟨hS53, hk12⟩
        refine WL.nil (thenQ.n ?_)
        refine WC.seq ?_
        refine WC.region ?_
        refine WL.lv rfl (LV.fieldA Try.underlying49 rfl ti47.sz rfl) ?_
        refine WL.lv rfl (LV.load1 Try.underlying47 rfl rfl (Blk.cellN (SH.at hS53 (.head _)) 0 rfl _ (KB.refl No _))) ?_
        refine WL.nil (thenQ.n ?_)
        refine WC.block ?_
        refine WC.seq ?_
        refine WC.region ?_
        refine WL.lv rfl (LV.eqI rfl rfl) ?_
        refine WL.lv rfl (LV.asg rfl) ?_
        refine WL.nil (thenQ.n ?_)
        refine WC.condP (p := (((EDT a b).getD (ix).toNat (0, ByteArray.empty)).1) = 2) rfl (fun h2 => ?_) (fun h2 => ?_)
        · skip
          refine WC.region ?_
          refine WL.lv rfl (LV.fieldA Try.underlying49 rfl ti9.sz rfl) ?_
          refine WL.lv rfl (LV.load1 Try.underlying9 rfl rfl (Blk.cellN (SH.at hS53 (.head _)) 1 rfl _ (KB.refl No _))) ?_
          refine WL.lv rfl (LV.addS rfl rfl (by first | omega | (simp only [ByteArray.size_append, ByteArray.size_extract, lit1, lit2, lit0]; omega))) ?_
          obtain ⟨tx_, htx_⟩ : ∃ t_ : ByteArray, t_ = (⟨#[91, 45]⟩ ++ (((EDT a b).getD (ix).toNat (0, ByteArray.empty)).2)) ++ ⟨#[45, 93]⟩ := ⟨_, rfl⟩
          refine WL.lv rfl (LV.to (v := .string ((⟨#[91, 45]⟩ ++ (((EDT a b).getD (ix).toNat (0, ByteArray.empty)).2)) ++ ⟨#[45, 93]⟩)) (v' := .string tx_) (congrArg Value.string htx_.symm) (LV.addS rfl rfl (by first | omega | (simp only [ByteArray.size_append, ByteArray.size_extract, lit1, lit2, lit0]; omega)))) ?_
          have hS54 : SH w No w28 [rowE eU8 5 (.slice A_out ((bytesOf out).length) c_out) (bytesOf out), blkE b6 49 #[(.int .i64 (((EDT a b).getD (ix).toNat (0, ByteArray.empty)).1)), (.string (((EDT a b).getD (ix).toNat (0, ByteArray.empty)).2))], blkE b5 42 #[P_out, (.slice A_out ((bytesOf out).length) c_out)], rowE eS 9 (.slice A8 ((TOK b).length) c8) (TOK b), rowE eS 9 (.slice A2 ((TOK a).length) c2) (TOK a), rowE eBt 49 (.slice A1 ((EDT a b).length) c1) (EDT a b)] := (SH.front [_] hS53)
          have hS55 : SH w No w28 [blkE b5 42 #[P_out, (.slice A_out ((bytesOf out).length) c_out)], rowE eU8 5 (.slice A_out ((bytesOf out).length) c_out) (bytesOf out), blkE b6 49 #[(.int .i64 (((EDT a b).getD (ix).toNat (0, ByteArray.empty)).1)), (.string (((EDT a b).getD (ix).toNat (0, ByteArray.empty)).2))], rowE eS 9 (.slice A8 ((TOK b).length) c8) (TOK b), rowE eS 9 (.slice A2 ((TOK a).length) c2) (TOK a), rowE eBt 49 (.slice A1 ((EDT a b).length) c1) (EDT a b)] := (SH.front [_, _] hS54)
          have hT9 := SH.sub (Es := [_, _]) hS55
          have z7 := ws_calls (t := out) (s := tx_) hT9 (hp_out) (by rw [htx_]; simp only [ByteArray.size_append, lit2]; omega)
          refine WL.call rfl (XC.fn Try.func34 (by kernel_rfl) rfl rfl rfl) (z7) ?_
          rintro v_ w29 ⟨A15, c15, rfl, hU9⟩
          have hS56 := SH.back (Es := [_, _]) hS55 hU9
          refine WL.nil (blockQ.n <| blockQ.n <| thenQ.n ?_)
          refine WC.region ?_
          refine WL.lv rfl (LV.add rfl rfl (wr64 (by omega) (by omega))) ?_
          refine WL.lv rfl (LV.mv rfl) ?_
          refine WL.nil (thenQ.n ?_)
          have hS57 : SH w No w29 [rowE eU8 5 (.slice A15 ((bytesOf (out ++ tx_)).length) c15) (bytesOf (out ++ tx_)), blkE b5 42 #[(.pointer (some ⟨b5, 0, none⟩)), (.slice A15 ((bytesOf (out ++ tx_)).length) c15)], rowE eS 9 (.slice A8 ((TOK b).length) c8) (TOK b), rowE eS 9 (.slice A2 ((TOK a).length) c2) (TOK a), rowE eBt 49 (.slice A1 ((EDT a b).length) c1) (EDT a b)] := (SH.take 5 rfl (SH.front [_, _, _, _] (SH.front [_, _, _] (SH.front [_, _, _, _, _] (SH.front [_, _, _, _, _] (SH.front [_, _, _, _, _] hS56))))))
          exact ⟨_, by omega, (.pointer (some ⟨b5, 0, none⟩)), A15, c15, (out ++ tx_), ix + 1, (.inr rfl), by omega, by omega, (by rw [mrk2 ixlo hk h2, ← q1]; rw [htx_]), hS57, rfl, Weak.cons rfl <| Weak.cons rfl <| Weak.cons rfl <| Weak.cons rfl <| Weak.nil _⟩
        · skip
          refine WC.seq ?_
          refine WC.region ?_
          refine WL.lv rfl (LV.eqI rfl rfl) ?_
          refine WL.lv rfl (LV.asg rfl) ?_
          refine WL.nil (thenQ.n ?_)
          refine WC.condP (p := (((EDT a b).getD (ix).toNat (0, ByteArray.empty)).1) = 3) rfl (fun h3 => ?_) (fun h3 => ?_)
          · skip
            refine WC.region ?_
            refine WL.lv rfl (LV.fieldA Try.underlying49 rfl ti9.sz rfl) ?_
            refine WL.lv rfl (LV.load1 Try.underlying9 rfl rfl (Blk.cellN (SH.at hS53 (.head _)) 1 rfl _ (KB.refl No _))) ?_
            refine WL.lv rfl (LV.addS rfl rfl (by first | omega | (simp only [ByteArray.size_append, ByteArray.size_extract, lit1, lit2, lit0]; omega))) ?_
            obtain ⟨tx_, htx_⟩ : ∃ t_ : ByteArray, t_ = (⟨#[123, 43]⟩ ++ (((EDT a b).getD (ix).toNat (0, ByteArray.empty)).2)) ++ ⟨#[43, 125]⟩ := ⟨_, rfl⟩
            refine WL.lv rfl (LV.to (v := .string ((⟨#[123, 43]⟩ ++ (((EDT a b).getD (ix).toNat (0, ByteArray.empty)).2)) ++ ⟨#[43, 125]⟩)) (v' := .string tx_) (congrArg Value.string htx_.symm) (LV.addS rfl rfl (by first | omega | (simp only [ByteArray.size_append, ByteArray.size_extract, lit1, lit2, lit0]; omega)))) ?_
            have hS58 : SH w No w28 [rowE eU8 5 (.slice A_out ((bytesOf out).length) c_out) (bytesOf out), blkE b6 49 #[(.int .i64 (((EDT a b).getD (ix).toNat (0, ByteArray.empty)).1)), (.string (((EDT a b).getD (ix).toNat (0, ByteArray.empty)).2))], blkE b5 42 #[P_out, (.slice A_out ((bytesOf out).length) c_out)], rowE eS 9 (.slice A8 ((TOK b).length) c8) (TOK b), rowE eS 9 (.slice A2 ((TOK a).length) c2) (TOK a), rowE eBt 49 (.slice A1 ((EDT a b).length) c1) (EDT a b)] := (SH.front [_] hS53)
            have hS59 : SH w No w28 [blkE b5 42 #[P_out, (.slice A_out ((bytesOf out).length) c_out)], rowE eU8 5 (.slice A_out ((bytesOf out).length) c_out) (bytesOf out), blkE b6 49 #[(.int .i64 (((EDT a b).getD (ix).toNat (0, ByteArray.empty)).1)), (.string (((EDT a b).getD (ix).toNat (0, ByteArray.empty)).2))], rowE eS 9 (.slice A8 ((TOK b).length) c8) (TOK b), rowE eS 9 (.slice A2 ((TOK a).length) c2) (TOK a), rowE eBt 49 (.slice A1 ((EDT a b).length) c1) (EDT a b)] := (SH.front [_, _] hS58)
            have hT10 := SH.sub (Es := [_, _]) hS59
            have z8 := ws_calls (t := out) (s := tx_) hT10 (hp_out) (by rw [htx_]; simp only [ByteArray.size_append, lit2]; omega)
            refine WL.call rfl (XC.fn Try.func34 (by kernel_rfl) rfl rfl rfl) (z8) ?_
            rintro v_ w30 ⟨A16, c16, rfl, hU10⟩
            have hS60 := SH.back (Es := [_, _]) hS59 hU10
            refine WL.nil (blockQ.n <| blockQ.n <| thenQ.n ?_)
            refine WC.region ?_
            refine WL.lv rfl (LV.add rfl rfl (wr64 (by omega) (by omega))) ?_
            refine WL.lv rfl (LV.mv rfl) ?_
            refine WL.nil (thenQ.n ?_)
            have hS61 : SH w No w30 [rowE eU8 5 (.slice A16 ((bytesOf (out ++ tx_)).length) c16) (bytesOf (out ++ tx_)), blkE b5 42 #[(.pointer (some ⟨b5, 0, none⟩)), (.slice A16 ((bytesOf (out ++ tx_)).length) c16)], rowE eS 9 (.slice A8 ((TOK b).length) c8) (TOK b), rowE eS 9 (.slice A2 ((TOK a).length) c2) (TOK a), rowE eBt 49 (.slice A1 ((EDT a b).length) c1) (EDT a b)] := (SH.take 5 rfl (SH.front [_, _, _, _] (SH.front [_, _, _] (SH.front [_, _, _, _, _] (SH.front [_, _, _, _, _] (SH.front [_, _, _, _, _] hS60))))))
            exact ⟨_, by omega, (.pointer (some ⟨b5, 0, none⟩)), A16, c16, (out ++ tx_), ix + 1, (.inr rfl), by omega, by omega, (by rw [mrk3 ixlo hk h2 h3, ← q1]; rw [htx_]), hS61, rfl, Weak.cons rfl <| Weak.cons rfl <| Weak.cons rfl <| Weak.cons rfl <| Weak.nil _⟩
          · skip
            refine WC.region ?_
            refine WL.lv rfl (LV.fieldA Try.underlying49 rfl ti9.sz rfl) ?_
            refine WL.lv rfl (LV.load1 Try.underlying9 rfl rfl (Blk.cellN (SH.at hS53 (.head _)) 1 rfl _ (KB.refl No _))) ?_
            have hS62 : SH w No w28 [rowE eU8 5 (.slice A_out ((bytesOf out).length) c_out) (bytesOf out), blkE b6 49 #[(.int .i64 (((EDT a b).getD (ix).toNat (0, ByteArray.empty)).1)), (.string (((EDT a b).getD (ix).toNat (0, ByteArray.empty)).2))], blkE b5 42 #[P_out, (.slice A_out ((bytesOf out).length) c_out)], rowE eS 9 (.slice A8 ((TOK b).length) c8) (TOK b), rowE eS 9 (.slice A2 ((TOK a).length) c2) (TOK a), rowE eBt 49 (.slice A1 ((EDT a b).length) c1) (EDT a b)] := (SH.front [_] hS53)
            have hS63 : SH w No w28 [blkE b5 42 #[P_out, (.slice A_out ((bytesOf out).length) c_out)], rowE eU8 5 (.slice A_out ((bytesOf out).length) c_out) (bytesOf out), blkE b6 49 #[(.int .i64 (((EDT a b).getD (ix).toNat (0, ByteArray.empty)).1)), (.string (((EDT a b).getD (ix).toNat (0, ByteArray.empty)).2))], rowE eS 9 (.slice A8 ((TOK b).length) c8) (TOK b), rowE eS 9 (.slice A2 ((TOK a).length) c2) (TOK a), rowE eBt 49 (.slice A1 ((EDT a b).length) c1) (EDT a b)] := (SH.front [_, _] hS62)
            have hT11 := SH.sub (Es := [_, _]) hS63
            have z9 := ws_calls (t := out) (s := (((EDT a b).getD (ix).toNat (0, ByteArray.empty)).2)) hT11 (hp_out) (by omega)
            refine WL.call rfl (XC.fn Try.func34 (by kernel_rfl) rfl rfl rfl) (z9) ?_
            rintro v_ w31 ⟨A17, c17, rfl, hU11⟩
            have hS64 := SH.back (Es := [_, _]) hS63 hU11
            refine WL.nil (blockQ.n <| blockQ.n <| thenQ.n ?_)
            refine WC.region ?_
            refine WL.lv rfl (LV.add rfl rfl (wr64 (by omega) (by omega))) ?_
            refine WL.lv rfl (LV.mv rfl) ?_
            refine WL.nil (thenQ.n ?_)
            have hS65 : SH w No w31 [rowE eU8 5 (.slice A17 ((bytesOf (out ++ (((EDT a b).getD (ix).toNat (0, ByteArray.empty)).2))).length) c17) (bytesOf (out ++ (((EDT a b).getD (ix).toNat (0, ByteArray.empty)).2))), blkE b5 42 #[(.pointer (some ⟨b5, 0, none⟩)), (.slice A17 ((bytesOf (out ++ (((EDT a b).getD (ix).toNat (0, ByteArray.empty)).2))).length) c17)], rowE eS 9 (.slice A8 ((TOK b).length) c8) (TOK b), rowE eS 9 (.slice A2 ((TOK a).length) c2) (TOK a), rowE eBt 49 (.slice A1 ((EDT a b).length) c1) (EDT a b)] := (SH.take 5 rfl (SH.front [_, _, _, _] (SH.front [_, _, _] (SH.front [_, _, _, _, _] (SH.front [_, _, _, _, _] (SH.front [_, _, _, _, _] hS64))))))
            exact ⟨_, by omega, (.pointer (some ⟨b5, 0, none⟩)), A17, c17, (out ++ (((EDT a b).getD (ix).toNat (0, ByteArray.empty)).2)), ix + 1, (.inr rfl), by omega, by omega, (by rw [mrk1 ixlo hk h2 h3, ← q1]), hS65, rfl, Weak.cons rfl <| Weak.cons rfl <| Weak.cons rfl <| Weak.cons rfl <| Weak.nil _⟩
      · skip
        refine WC.exit (thenQ.x <| thenQ.x <| blockQ.hit <| thenQ.n ?_)
        refine WC.seq ?_
        refine WC.region ?_
        have hS66 : SH w No w26 [blkE b5 42 #[P_out, (.slice A_out ((bytesOf out).length) c_out)], rowE eU8 5 (.slice A_out ((bytesOf out).length) c_out) (bytesOf out), rowE eS 9 (.slice A8 ((TOK b).length) c8) (TOK b), rowE eS 9 (.slice A2 ((TOK a).length) c2) (TOK a), rowE eBt 49 (.slice A1 ((EDT a b).length) c1) (EDT a b)] := (SH.front [_] hL3)
        have hT12 := SH.sub (Es := [_, _]) hS66
        refine WL.call rfl (XC.fn Try.func26 (by kernel_rfl) rfl rfl rfl) (bs_calls (t := out) hT12) ?_
        rintro v_ w32 ⟨rfl, hU12⟩
        have hS67 := SH.back (Es := [_, _]) hS66 hU12
        refine WL.lv rfl (LV.asg rfl) ?_
        refine WL.nil (thenQ.n ?_)
        refine WC.ret (?_)
        exact ⟨_, fun a ha => res1 rfl ha rfl, congrArg Value.string (by rw [mark_short (a := a) (b := b) (by omega), q1, List.take_of_length_le (by omega)]), hS67.kb⟩

set_option maxHeartbeats 8000000 in
theorem rmarked_calls {w : World} {a : ByteArray} {b : ByteArray} (ha : a.size ≤ 100000) (hb : b.size ≤ 100000) :
    Calls Try.prog 18 #[(.string a), (.string b)] w fun e w' => ∃ v, e = .returned v ∧ (fun v w' => v = .string (MARK a b) ∧ KB No w w') v w' := by
  have hS : SH w No w [] := SH.nil _ _
  refine calls (l := litOf [(.string a), (.string b)] 0) Try.func18 rfl (n := 80) rfl (Nat.le_of_ble_eq_true rfl) (lit_args _) ?_
  refine WC.seq ?_
  refine WC.region ?_
  refine WL.lv rfl (LV.asg rfl) ?_
  refine WL.nil (thenQ.n ?_)
  refine WC.seq ?_
  refine WC.region ?_
  refine WL.lv rfl (LV.asg rfl) ?_
  refine WL.nil (thenQ.n ?_)
  iterate 2 refine WC.seq ?_
  refine WC.region ?_
  refine WL.lv rfl (LV.mv rfl) ?_
  refine WL.call rfl (XC.fn Try.func10 (by kernel_rfl) rfl rfl rfl) (rtokens_calls (s := a) (by first | omega | (simp only [ByteArray.size_append, lit1]; omega))) ?_
  rintro v_ w1 ⟨A1, c1, rfl, hS1⟩
  have hS2 := SH.joinN hS hS1
  refine WL.lv rfl (LV.lenL Try.underlying22 rfl) ?_
  rcases Decidable.em (((TOK a).length : Int) > 400) with hg1 | hg1
  · refine WL.lv rfl (LV.as (LV.gtI rfl rfl) (decide_eq_true hg1)) ?_
    refine WL.lv rfl (LV.mv rfl) ?_
    iterate 4 refine WL.off rfl ?_
    refine WL.lv rfl (LV.pickT rfl rfl) ?_
    refine WL.nil (thenQ.n ?_)
    refine WC.condT rfl ?_
    iterate 2 refine WC.seq ?_
    refine WC.region ?_
    refine WL.lv rfl (LV.mv rfl) ?_
    refine WL.lv rfl (LV.lenS Try.underlying9 rfl) ?_
    refine WL.lv rfl (LV.gtI rfl rfl) ?_
    refine WL.nil (thenQ.n ?_)
    refine WC.condP (p := (a.size : Int) > 0) rfl (fun h20 => ?_) (fun h20 => ?_)
    · skip
      refine WC.region ?_
      refine WL.lv rfl (LV.mv rfl) ?_
      iterate 2 refine WL.lv rfl (LV.addS rfl rfl (by first | omega | (simp only [ByteArray.size_append, ByteArray.size_extract, lit1, lit2, lit0]; omega))) ?_
      refine WL.lv rfl (LV.asg rfl) ?_
      refine WL.nil (thenQ.n ?_)
      iterate 2 refine WC.seq ?_
      refine WC.region ?_
      refine WL.lv rfl (LV.mv rfl) ?_
      refine WL.lv rfl (LV.lenS Try.underlying9 rfl) ?_
      refine WL.lv rfl (LV.gtI rfl rfl) ?_
      refine WL.nil (thenQ.n ?_)
      refine WC.condP (p := (b.size : Int) > 0) rfl (fun h26 => ?_) (fun h26 => ?_)
      · skip
        refine WC.region ?_
        refine WL.lv rfl (LV.mv rfl) ?_
        refine WL.lv rfl (LV.addS rfl rfl (by first | omega | (simp only [ByteArray.size_append, ByteArray.size_extract, lit1, lit2, lit0]; omega))) ?_
        refine WL.lv rfl (LV.mv rfl) ?_
        iterate 2 refine WL.lv rfl (LV.addS rfl rfl (by first | omega | (simp only [ByteArray.size_append, ByteArray.size_extract, lit1, lit2, lit0]; omega))) ?_
        refine WL.lv rfl (LV.asg rfl) ?_
        refine WL.nil (thenQ.n ?_)
        refine WC.seq ?_
        refine WC.region ?_
        refine WL.lv rfl (LV.mv rfl) ?_
        refine WL.lv rfl (LV.asg rfl) ?_
        refine WL.nil (thenQ.n ?_)
        refine WC.ret (thenQ.r <| ?_)
        exact ⟨_, fun a ha => res1 rfl ha rfl, congrArg Value.string ((mark_long (a := a) (b := b) (by omega)).symm ▸ (whl_11 h20 h26).symm), hS2.kb⟩
      · skip
        refine WC.skip (thenQ.n ?_)
        refine WC.seq ?_
        refine WC.region ?_
        refine WL.lv rfl (LV.mv rfl) ?_
        refine WL.lv rfl (LV.asg rfl) ?_
        refine WL.nil (thenQ.n ?_)
        refine WC.ret (thenQ.r <| ?_)
        exact ⟨_, fun a ha => res1 rfl ha rfl, congrArg Value.string ((mark_long (a := a) (b := b) (by omega)).symm ▸ (whl_10 h20 h26).symm), hS2.kb⟩
    · skip
      refine WC.skip (thenQ.n ?_)
      iterate 2 refine WC.seq ?_
      refine WC.region ?_
      refine WL.lv rfl (LV.mv rfl) ?_
      refine WL.lv rfl (LV.lenS Try.underlying9 rfl) ?_
      refine WL.lv rfl (LV.gtI rfl rfl) ?_
      refine WL.nil (thenQ.n ?_)
      refine WC.condP (p := (b.size : Int) > 0) rfl (fun h26 => ?_) (fun h26 => ?_)
      · skip
        refine WC.region ?_
        refine WL.lv rfl (LV.mv rfl) ?_
        refine WL.lv rfl (LV.addS rfl rfl (by first | omega | (simp only [ByteArray.size_append, ByteArray.size_extract, lit1, lit2, lit0]; omega))) ?_
        refine WL.lv rfl (LV.mv rfl) ?_
        iterate 2 refine WL.lv rfl (LV.addS rfl rfl (by first | omega | (simp only [ByteArray.size_append, ByteArray.size_extract, lit1, lit2, lit0]; omega))) ?_
        refine WL.lv rfl (LV.asg rfl) ?_
        refine WL.nil (thenQ.n ?_)
        refine WC.seq ?_
        refine WC.region ?_
        refine WL.lv rfl (LV.mv rfl) ?_
        refine WL.lv rfl (LV.asg rfl) ?_
        refine WL.nil (thenQ.n ?_)
        refine WC.ret (thenQ.r <| ?_)
        exact ⟨_, fun a ha => res1 rfl ha rfl, congrArg Value.string ((mark_long (a := a) (b := b) (by omega)).symm ▸ (whl_01 h20 h26).symm), hS2.kb⟩
      · skip
        refine WC.skip (thenQ.n ?_)
        refine WC.seq ?_
        refine WC.region ?_
        refine WL.lv rfl (LV.mv rfl) ?_
        refine WL.lv rfl (LV.asg rfl) ?_
        refine WL.nil (thenQ.n ?_)
        refine WC.ret (thenQ.r <| ?_)
        exact ⟨_, fun a ha => res1 rfl ha rfl, congrArg Value.string ((mark_long (a := a) (b := b) (by omega)).symm ▸ (whl_00 h20 h26).symm), hS2.kb⟩
  · refine WL.lv rfl (LV.as (LV.gtI rfl rfl) (decide_eq_false hg1)) ?_
    iterate 2 refine WL.lv rfl (LV.mv rfl) ?_
    refine WL.call rfl (XC.fn Try.func10 (by kernel_rfl) rfl rfl rfl) (rtokens_calls (s := b) (by first | omega | (simp only [ByteArray.size_append, lit1]; omega))) ?_
    rintro v_ w2 ⟨A2, c2, rfl, hS3⟩
    have hS4 := SH.joinN hS2 hS3
    refine WL.lv rfl (LV.lenL Try.underlying22 rfl) ?_
    refine WL.lv rfl (LV.gtI rfl rfl) ?_
    refine WL.lv rfl (LV.pickF rfl rfl) ?_
    refine WL.nil (thenQ.n ?_)
    refine WC.condP (p := ((TOK b).length : Int) > 400) rfl (fun hlg => ?_) (fun hlg => ?_)
    · skip
      iterate 2 refine WC.seq ?_
      refine WC.region ?_
      refine WL.lv rfl (LV.mv rfl) ?_
      refine WL.lv rfl (LV.lenS Try.underlying9 rfl) ?_
      refine WL.lv rfl (LV.gtI rfl rfl) ?_
      refine WL.nil (thenQ.n ?_)
      refine WC.condP (p := (a.size : Int) > 0) rfl (fun h20 => ?_) (fun h20 => ?_)
      · skip
        refine WC.region ?_
        refine WL.lv rfl (LV.mv rfl) ?_
        iterate 2 refine WL.lv rfl (LV.addS rfl rfl (by first | omega | (simp only [ByteArray.size_append, ByteArray.size_extract, lit1, lit2, lit0]; omega))) ?_
        refine WL.lv rfl (LV.asg rfl) ?_
        refine WL.nil (thenQ.n ?_)
        iterate 2 refine WC.seq ?_
        refine WC.region ?_
        refine WL.lv rfl (LV.mv rfl) ?_
        refine WL.lv rfl (LV.lenS Try.underlying9 rfl) ?_
        refine WL.lv rfl (LV.gtI rfl rfl) ?_
        refine WL.nil (thenQ.n ?_)
        refine WC.condP (p := (b.size : Int) > 0) rfl (fun h26 => ?_) (fun h26 => ?_)
        · skip
          refine WC.region ?_
          refine WL.lv rfl (LV.mv rfl) ?_
          refine WL.lv rfl (LV.addS rfl rfl (by first | omega | (simp only [ByteArray.size_append, ByteArray.size_extract, lit1, lit2, lit0]; omega))) ?_
          refine WL.lv rfl (LV.mv rfl) ?_
          iterate 2 refine WL.lv rfl (LV.addS rfl rfl (by first | omega | (simp only [ByteArray.size_append, ByteArray.size_extract, lit1, lit2, lit0]; omega))) ?_
          refine WL.lv rfl (LV.asg rfl) ?_
          refine WL.nil (thenQ.n ?_)
          refine WC.seq ?_
          refine WC.region ?_
          refine WL.lv rfl (LV.mv rfl) ?_
          refine WL.lv rfl (LV.asg rfl) ?_
          refine WL.nil (thenQ.n ?_)
          refine WC.ret (thenQ.r <| ?_)
          exact ⟨_, fun a ha => res1 rfl ha rfl, congrArg Value.string ((mark_long (a := a) (b := b) (by omega)).symm ▸ (whl_11 h20 h26).symm), hS4.kb⟩
        · skip
          refine WC.skip (thenQ.n ?_)
          refine WC.seq ?_
          refine WC.region ?_
          refine WL.lv rfl (LV.mv rfl) ?_
          refine WL.lv rfl (LV.asg rfl) ?_
          refine WL.nil (thenQ.n ?_)
          refine WC.ret (thenQ.r <| ?_)
          exact ⟨_, fun a ha => res1 rfl ha rfl, congrArg Value.string ((mark_long (a := a) (b := b) (by omega)).symm ▸ (whl_10 h20 h26).symm), hS4.kb⟩
      · skip
        refine WC.skip (thenQ.n ?_)
        iterate 2 refine WC.seq ?_
        refine WC.region ?_
        refine WL.lv rfl (LV.mv rfl) ?_
        refine WL.lv rfl (LV.lenS Try.underlying9 rfl) ?_
        refine WL.lv rfl (LV.gtI rfl rfl) ?_
        refine WL.nil (thenQ.n ?_)
        refine WC.condP (p := (b.size : Int) > 0) rfl (fun h26 => ?_) (fun h26 => ?_)
        · skip
          refine WC.region ?_
          refine WL.lv rfl (LV.mv rfl) ?_
          refine WL.lv rfl (LV.addS rfl rfl (by first | omega | (simp only [ByteArray.size_append, ByteArray.size_extract, lit1, lit2, lit0]; omega))) ?_
          refine WL.lv rfl (LV.mv rfl) ?_
          iterate 2 refine WL.lv rfl (LV.addS rfl rfl (by first | omega | (simp only [ByteArray.size_append, ByteArray.size_extract, lit1, lit2, lit0]; omega))) ?_
          refine WL.lv rfl (LV.asg rfl) ?_
          refine WL.nil (thenQ.n ?_)
          refine WC.seq ?_
          refine WC.region ?_
          refine WL.lv rfl (LV.mv rfl) ?_
          refine WL.lv rfl (LV.asg rfl) ?_
          refine WL.nil (thenQ.n ?_)
          refine WC.ret (thenQ.r <| ?_)
          exact ⟨_, fun a ha => res1 rfl ha rfl, congrArg Value.string ((mark_long (a := a) (b := b) (by omega)).symm ▸ (whl_01 h20 h26).symm), hS4.kb⟩
        · skip
          refine WC.skip (thenQ.n ?_)
          refine WC.seq ?_
          refine WC.region ?_
          refine WL.lv rfl (LV.mv rfl) ?_
          refine WL.lv rfl (LV.asg rfl) ?_
          refine WL.nil (thenQ.n ?_)
          refine WC.ret (thenQ.r <| ?_)
          exact ⟨_, fun a ha => res1 rfl ha rfl, congrArg Value.string ((mark_long (a := a) (b := b) (by omega)).symm ▸ (whl_00 h20 h26).symm), hS4.kb⟩
    · skip
      refine WC.skip (thenQ.n ?_)
      refine WC.seq ?_
      refine WC.region ?_
      iterate 2 refine WL.lv rfl (LV.mv rfl) ?_
      refine WL.call rfl (XC.fn Try.func16 (by kernel_rfl) rfl rfl rfl) (redits_calls (a := a) (b := b) (by omega) (by omega)) ?_
      rintro v_ w3 ⟨A3, c3, rfl, hS5⟩
      have hS6 := SH.joinN hS4 hS5
      refine WL.lv rfl (LV.asg rfl) ?_
      refine WL.nil (thenQ.n ?_)
      iterate 2 refine WC.seq ?_
      refine WC.region ?_
      refine WL.lv rfl (LV.asg rfl) ?_
      refine WL.nil (thenQ.n ?_)
      refine WC.block ?_
      refine WC.loop (fun m_ f_ w_ => ∃ (out : ByteArray) (i : Int), (0 ≤ i) ∧ (i ≤ ((EDT a b).length : Int)) ∧ (out = MRKB ((EDT a b).take i.toNat)) ∧ SH w No w_ [rowE eBt 49 (.slice A3 ((EDT a b).length) c3) (EDT a b), rowE eS 9 (.slice A2 ((TOK b).length) c2) (TOK b), rowE eS 9 (.slice A1 ((TOK a).length) c1) (TOK a)] ∧ m_ = ((((EDT a b).length : Int) - i).toNat) ∧ Weak (lit [(5, (.string out)), (6, (.slice A3 ((EDT a b).length) c3)), (7, (.int .i64 i))]) f_) _ ⟨⟨#[]⟩, 0, by omega, by omega, rfl, hS6, rfl, Weak.cons rfl <| Weak.cons rfl <| Weak.cons rfl <| Weak.nil _⟩ ?_
      rintro m1 f1 w4 ⟨out, i, ilo, ihi, q1, hL1, rfl, hw1⟩
      refine WC.weak hw1 ?_
      clear hw1
      have hms_ := MRKB_sz (EDT a b) (k := i) ilo ihi
      rw [← q1] at hms_
      have hez_ := EDT_sz a b
      iterate 2 refine WC.seq ?_
      refine WC.region ?_
      iterate 2 refine WL.lv rfl (LV.mv rfl) ?_
      refine WL.lv rfl (LV.lenL Try.underlying29 rfl) ?_
      refine WL.lv rfl (LV.ltI rfl rfl) ?_
      refine WL.nil (thenQ.n ?_)
      refine WC.condP (p := i < ((EDT a b).length : Int)) rfl (fun hk => ?_) (fun hk => ?_)
      · skip
        refine WC.skip (thenQ.n ?_)
        refine WC.seq ?_
        refine WC.block ?_
        refine WC.seq ?_
        refine WC.region ?_
        have htk_ : szB ((EDT a b).take i.toNat) + ((EDT a b).getD i.toNat (0, ByteArray.empty)).2.size ≤ szB (EDT a b) := szB_take (EDT a b) ilo hk
        iterate 2 refine WL.lv rfl (LV.mv rfl) ?_
        obtain ⟨A4, c4, e1, g1⟩ := St.elt (SH.rd hL1 (.head _)) (0, ByteArray.empty) i (by omega) (by omega)
        refine WL.lv rfl (LV.idxA Try.underlying29 ti49.sz rfl e1 rfl (by omega) (by omega)) ?_
        refine WL.lv rfl (LV.fieldA Try.underlying49 rfl ti47.sz rfl) ?_
        refine WL.lv rfl (LV.load1 (v := (.int .i64 (((EDT a b).getD (i).toNat (0, ByteArray.empty)).1))) Try.underlying47 rfl rfl (g1 _ (KB.refl No _) 0 _ rfl)) ?_
        refine WL.lv rfl (LV.eqI rfl rfl) ?_
        refine WL.nil (thenQ.n ?_)
        refine WC.condP (p := (((EDT a b).getD (i).toNat (0, ByteArray.empty)).1) = 2) rfl (fun h2 => ?_) (fun h2 => ?_)
        · skip
          refine WC.region ?_
          refine WL.lv rfl (LV.mv rfl) ?_
          refine WL.lv rfl (LV.addS rfl rfl (by first | omega | (simp only [ByteArray.size_append, ByteArray.size_extract, lit1, lit2, lit0]; omega))) ?_
          iterate 2 refine WL.lv rfl (LV.mv rfl) ?_
          obtain ⟨A5, c5, e2, g2⟩ := St.elt (SH.rd hL1 (.head _)) (0, ByteArray.empty) i (by omega) (by omega)
          refine WL.lv rfl (LV.idxA Try.underlying29 ti49.sz rfl e2 rfl (by omega) (by omega)) ?_
          refine WL.lv rfl (LV.fieldA Try.underlying49 rfl ti9.sz rfl) ?_
          refine WL.lv rfl (LV.load1 (v := (.string (((EDT a b).getD (i).toNat (0, ByteArray.empty)).2))) Try.underlying9 rfl rfl (g2 _ (KB.refl No _) 1 _ rfl)) ?_
          iterate 2 refine WL.lv rfl (LV.addS rfl rfl (by first | omega | (simp only [ByteArray.size_append, ByteArray.size_extract, lit1, lit2, lit0]; omega))) ?_
          refine WL.lv rfl (LV.asg rfl) ?_
          refine WL.nil (blockQ.n <| thenQ.n ?_)
          refine WC.region ?_
          refine WL.lv rfl (LV.mv rfl) ?_
          refine WL.lv rfl (LV.add rfl rfl (wr64 (by omega) (by omega))) ?_
          refine WL.lv rfl (LV.asg rfl) ?_
          refine WL.nil (thenQ.n ?_)
          exact ⟨_, by omega, ((out ++ ⟨#[91, 45]⟩) ++ (((EDT a b).getD (i).toNat (0, ByteArray.empty)).2)) ++ ⟨#[45, 93]⟩, i + 1, by omega, by omega, (by rw [mrk2 ilo hk h2, ← q1]; simp only [ByteArray.append_assoc]), hL1, rfl, Weak.cons rfl <| Weak.cons rfl <| Weak.cons rfl <| Weak.nil _⟩
        · skip
          refine WC.seq ?_
          refine WC.region ?_
          iterate 2 refine WL.lv rfl (LV.mv rfl) ?_
          obtain ⟨A6, c6, e3, g3⟩ := St.elt (SH.rd hL1 (.head _)) (0, ByteArray.empty) i (by omega) (by omega)
          refine WL.lv rfl (LV.idxA Try.underlying29 ti49.sz rfl e3 rfl (by omega) (by omega)) ?_
          refine WL.lv rfl (LV.fieldA Try.underlying49 rfl ti47.sz rfl) ?_
          refine WL.lv rfl (LV.load1 (v := (.int .i64 (((EDT a b).getD (i).toNat (0, ByteArray.empty)).1))) Try.underlying47 rfl rfl (g3 _ (KB.refl No _) 0 _ rfl)) ?_
          refine WL.lv rfl (LV.eqI rfl rfl) ?_
          refine WL.nil (thenQ.n ?_)
          refine WC.condP (p := (((EDT a b).getD (i).toNat (0, ByteArray.empty)).1) = 3) rfl (fun h3 => ?_) (fun h3 => ?_)
          · skip
            refine WC.region ?_
            refine WL.lv rfl (LV.mv rfl) ?_
            refine WL.lv rfl (LV.addS rfl rfl (by first | omega | (simp only [ByteArray.size_append, ByteArray.size_extract, lit1, lit2, lit0]; omega))) ?_
            iterate 2 refine WL.lv rfl (LV.mv rfl) ?_
            obtain ⟨A7, c7, e4, g4⟩ := St.elt (SH.rd hL1 (.head _)) (0, ByteArray.empty) i (by omega) (by omega)
            refine WL.lv rfl (LV.idxA Try.underlying29 ti49.sz rfl e4 rfl (by omega) (by omega)) ?_
            refine WL.lv rfl (LV.fieldA Try.underlying49 rfl ti9.sz rfl) ?_
            refine WL.lv rfl (LV.load1 (v := (.string (((EDT a b).getD (i).toNat (0, ByteArray.empty)).2))) Try.underlying9 rfl rfl (g4 _ (KB.refl No _) 1 _ rfl)) ?_
            iterate 2 refine WL.lv rfl (LV.addS rfl rfl (by first | omega | (simp only [ByteArray.size_append, ByteArray.size_extract, lit1, lit2, lit0]; omega))) ?_
            refine WL.lv rfl (LV.asg rfl) ?_
            refine WL.nil (blockQ.n <| thenQ.n ?_)
            refine WC.region ?_
            refine WL.lv rfl (LV.mv rfl) ?_
            refine WL.lv rfl (LV.add rfl rfl (wr64 (by omega) (by omega))) ?_
            refine WL.lv rfl (LV.asg rfl) ?_
            refine WL.nil (thenQ.n ?_)
            exact ⟨_, by omega, ((out ++ ⟨#[123, 43]⟩) ++ (((EDT a b).getD (i).toNat (0, ByteArray.empty)).2)) ++ ⟨#[43, 125]⟩, i + 1, by omega, by omega, (by rw [mrk3 ilo hk h2 h3, ← q1]; simp only [ByteArray.append_assoc]), hL1, rfl, Weak.cons rfl <| Weak.cons rfl <| Weak.cons rfl <| Weak.nil _⟩
          · skip
            refine WC.region ?_
            iterate 3 refine WL.lv rfl (LV.mv rfl) ?_
            obtain ⟨A8, c8, e5, g5⟩ := St.elt (SH.rd hL1 (.head _)) (0, ByteArray.empty) i (by omega) (by omega)
            refine WL.lv rfl (LV.idxA Try.underlying29 ti49.sz rfl e5 rfl (by omega) (by omega)) ?_
            refine WL.lv rfl (LV.fieldA Try.underlying49 rfl ti9.sz rfl) ?_
            refine WL.lv rfl (LV.load1 (v := (.string (((EDT a b).getD (i).toNat (0, ByteArray.empty)).2))) Try.underlying9 rfl rfl (g5 _ (KB.refl No _) 1 _ rfl)) ?_
            refine WL.lv rfl (LV.addS rfl rfl (by first | omega | (simp only [ByteArray.size_append, ByteArray.size_extract, lit1, lit2, lit0]; omega))) ?_
            refine WL.lv rfl (LV.asg rfl) ?_
            refine WL.nil (blockQ.n <| thenQ.n ?_)
            refine WC.region ?_
            refine WL.lv rfl (LV.mv rfl) ?_
            refine WL.lv rfl (LV.add rfl rfl (wr64 (by omega) (by omega))) ?_
            refine WL.lv rfl (LV.asg rfl) ?_
            refine WL.nil (thenQ.n ?_)
            exact ⟨_, by omega, out ++ (((EDT a b).getD (i).toNat (0, ByteArray.empty)).2), i + 1, by omega, by omega, (by rw [mrk1 ilo hk h2 h3, ← q1]), hL1, rfl, Weak.cons rfl <| Weak.cons rfl <| Weak.cons rfl <| Weak.nil _⟩
      · skip
        refine WC.exit (thenQ.x <| thenQ.x <| blockQ.hit <| thenQ.n ?_)
        refine WC.seq ?_
        refine WC.region ?_
        refine WL.lv rfl (LV.mv rfl) ?_
        refine WL.lv rfl (LV.asg rfl) ?_
        refine WL.nil (thenQ.n ?_)
        refine WC.ret (?_)
        exact ⟨_, fun a ha => res1 rfl ha rfl, congrArg Value.string (by rw [mark_short (a := a) (b := b) (by omega), q1, List.take_of_length_le (by omega)]), hL1.kb⟩

end Go.Proofs.Ytjjilkibcomfcaa
