/- Likenesses as lines: the document's. -/
import Derived.Test.YthmjieikbeemhaaRkG
namespace Go.Proofs.Ythmjieikbeemhaa
open Go Go.Gv Go.RowKit Go.Flt Go.Mys Go.Num Go.Scr Go.Dec Go.Rnk
set_option linter.unusedVariables false
set_option linter.unusedSimpArgs false

set_option maxHeartbeats 1000000 in
theorem rprint_calls {w : World} {A_l : Option Addr} {n_l c_l : Nat} {l : List (Int × Nat)} (h_l : St No w (Rd eK (.slice A_l n_l c_l) l)) (hn_l : l.length = n_l) (wl : ∀ x ∈ l, x.2 < 18446744073709551616) (hl : l.length ≤ 1000) :
    Calls Try.prog 22 #[(.slice A_l n_l c_l)] w fun e w' => ∃ v, e = .returned v ∧ (fun v w' => ∃ A c, v = .slice A (PRT l).size c ∧ Rd eU8 (.slice A (PRT l).size c) (bytesOf (PRT l)) w' ∧ KB No w w') v w' := by
  subst hn_l
  have hS : SH w No w [] := SH.nil _ _
  refine calls (l := litOf [(.slice A_l l.length c_l)] 0) Try.func22 rfl (n := 44) rfl (Nat.le_of_ble_eq_true rfl) (lit_args _) ?_
  refine WC.seq ?_
  refine WC.region ?_
  refine WL.lv rfl (LV.asg rfl) ?_
  refine WL.nil (thenQ.n ?_)
  refine WC.seq ?_
  refine WC.region ?_
  refine WL.lv rfl (LV.asg rfl) ?_
  refine WL.nil (thenQ.n ?_)
  iterate 2 refine WC.seq ?_
  refine WC.region ?_
  refine WL.lv rfl (LV.asg rfl) ?_
  refine WL.nil (thenQ.n ?_)
  refine WC.block ?_
  refine WC.loop (fun m_ f_ w_ => ∃ (out : ByteArray) (i : Int), (0 ≤ i) ∧ (i ≤ (l.length : Int)) ∧ (out = PRT (l.take i.toNat)) ∧ SH w No w_ [] ∧ m_ = (((l.length : Int) - i).toNat) ∧ Weak (lit [(0, (.slice A_l l.length c_l)), (3, (.string out)), (4, (.int .i64 i))]) f_) _ ⟨⟨#[]⟩, 0, by omega, by omega, rfl, hS, rfl, Weak.cons rfl <| Weak.cons rfl <| Weak.cons rfl <| Weak.nil _⟩ ?_
  rintro m1 f1 w1 ⟨out, i, ilo, ihi, q1, hL1, rfl, hw1⟩
  refine WC.weak hw1 ?_
  clear hw1
  have hos_ : (out.size : Int) = ((PRT (l.take i.toNat)).size : Int) := by rw [q1]
  iterate 2 refine WC.seq ?_
  refine WC.region ?_
  iterate 2 refine WL.lv rfl (LV.mv rfl) ?_
  refine WL.lv rfl (LV.lenL Try.underlying32 rfl) ?_
  refine WL.lv rfl (LV.ltI rfl rfl) ?_
  refine WL.nil (thenQ.n ?_)
  refine WC.condP (p := i < (l.length : Int)) rfl (fun hk => ?_) (fun hk => ?_)
  · have hd1_ := DEC_size (l.getD i.toNat (0, 0)).1
    have hd2_ := DEC_size (MIL (l.getD i.toNat (0, 0)).2)
    have hps_ := PRT_size (l := l) ilo (by omega)
    have hpn_ := PRT_snoc (l := l) ilo hk
    have hwl_ := wl (l.getD i.toNat (0, 0)) (getD_mem (by omega))
    refine WC.skip (thenQ.n ?_)
    refine WC.seq ?_
    refine WC.block ?_
    refine WC.seq ?_
    refine WC.region ?_
    refine WL.lv rfl (LV.asg rfl) ?_
    refine WL.nil (thenQ.n ?_)
    iterate 2 refine WC.seq ?_
    have hS1 := SH.drew hL1
    refine WC.regionD [] (fun w_ => KB No w1.drew w_) [(.pure, 0), (.pure, 1), (.pure, 2), (.pure, 3), (.look, 4), (.pure, 5), (.pure, 6), (.pure, 7), (.pure, 8), (.look, 9), (.pure, 10)] (by kernel_rfl) (by kernel_rfl) (KB.refl _ _) ?_
    iterate 2 refine WS.pure rfl rfl (fun _ => LV.mv rfl) ?_
    obtain ⟨A1, c1, e1, g1⟩ := St.elt (SH.stN hS1 h_l) (0, 0) i (by omega) (by omega)
    refine WS.pure rfl rfl (fun _ => LV.idxA Try.underlying32 ti37.sz rfl e1 rfl (by omega) (by omega)) ?_
    refine WS.pure rfl rfl (fun _ => LV.fieldA Try.underlying37 rfl ti27.sz rfl) ?_
    refine WS.look rfl rfl (fun _ hk_ => LV.load1 (v := (.float .f64 ((l.getD (i).toNat (0, 0)).2))) Try.underlying27 rfl rfl (g1 _ hk_ 1 _ rfl)) ?_
    iterate 2 refine WS.pure rfl rfl (fun _ => LV.mv rfl) ?_
    obtain ⟨A2, c2, e2, g2⟩ := St.elt (SH.stN hS1 h_l) (0, 0) i (by omega) (by omega)
    refine WS.pure rfl rfl (fun _ => LV.idxA Try.underlying32 ti37.sz rfl e2 rfl (by omega) (by omega)) ?_
    refine WS.pure rfl rfl (fun _ => LV.fieldA Try.underlying37 rfl ti27.sz rfl) ?_
    refine WS.look rfl rfl (fun _ hk_ => LV.load1 (v := (.float .f64 ((l.getD (i).toNat (0, 0)).2))) Try.underlying27 rfl rfl (g2 _ hk_ 1 _ rfl)) ?_
    refine WS.pure rfl rfl (fun _ => LV.eqF (a := ((l.getD (i).toNat (0, 0)).2)) (b := ((l.getD (i).toNat (0, 0)).2)) rfl rfl) ?_
    refine WS.nil (thenQ.n ?_)
    refine WC.condP (p := ((-9218868437227405312 ≤ sk ((l.getD (i).toNat (0, 0)).2) ∧ sk ((l.getD (i).toNat (0, 0)).2) ≤ 9218868437227405312) ∧ (-9218868437227405312 ≤ sk ((l.getD (i).toNat (0, 0)).2) ∧ sk ((l.getD (i).toNat (0, 0)).2) ≤ 9218868437227405312)) ∧ sk ((l.getD (i).toNat (0, 0)).2) = sk ((l.getD (i).toNat (0, 0)).2)) rfl (fun hc1 => ?_) (fun hc1 => ?_)
    · skip
      refine WC.region ?_
      iterate 2 refine WL.lv rfl (LV.mv rfl) ?_
      obtain ⟨A3, c3, e3, g3⟩ := St.elt (SH.stN hS1 h_l) (0, 0) i (by omega) (by omega)
      refine WL.lv rfl (LV.idxA Try.underlying32 ti37.sz rfl e3 rfl (by omega) (by omega)) ?_
      refine WL.lv rfl (LV.fieldA Try.underlying37 rfl ti27.sz rfl) ?_
      refine WL.lv rfl (LV.load1 (v := (.float .f64 ((l.getD (i).toNat (0, 0)).2))) Try.underlying27 rfl rfl (g3 _ (KB.refl No _) 1 _ rfl)) ?_
      refine WL.call rfl (XC.fn Try.func39 (by kernel_rfl) rfl rfl rfl) (rmille_calls (x := ((l.getD (i).toNat (0, 0)).2)) (by first | assumption | omega | exact hp _ (getD_mem (by omega)) | exact hpz _ (getD_mem (by omega)))) ?_
      rintro v_ w2 ⟨rfl, hk1⟩
      have hS2 := SH.same hS1 hk1
      refine WL.call rfl (XC.fn Try.func38 (by kernel_rfl) rfl rfl rfl) (rdecimal_calls (n := (MIL ((l.getD (i).toNat (0, 0)).2))) ) ?_
      rintro v_ w3 ⟨rfl, hk2⟩
      have hS3 := SH.same hS2 hk2
      refine WL.lv rfl (LV.asg rfl) ?_
      refine WL.nil (thenQ.n ?_)
      refine WC.region ?_
      iterate 3 refine WL.lv rfl (LV.mv rfl) ?_
      obtain ⟨A4, c4, e4, g4⟩ := St.elt (SH.stN hS3 h_l) (0, 0) i (by omega) (by omega)
      refine WL.lv rfl (LV.idxA Try.underlying32 ti37.sz rfl e4 rfl (by omega) (by omega)) ?_
      refine WL.lv rfl (LV.fieldA Try.underlying37 rfl ti3.sz rfl) ?_
      refine WL.lv rfl (LV.load1 (v := (.int .i64 ((l.getD (i).toNat (0, 0)).1))) Try.underlying3 rfl rfl (g4 _ (KB.refl No _) 0 _ rfl)) ?_
      refine WL.call rfl (XC.fn Try.func38 (by kernel_rfl) rfl rfl rfl) (rdecimal_calls (n := ((l.getD (i).toNat (0, 0)).1)) ) ?_
      rintro v_ w4 ⟨rfl, hk3⟩
      have hS4 := SH.same hS3 hk3
      iterate 2 refine WL.lv rfl (LV.addS rfl rfl (by first | omega | (simp only [ByteArray.size_append, lit1]; omega) | (simp only [ByteArray.size_append, lit1, str_size, List.length_cons, List.length_nil]; omega))) ?_
      refine WL.lv rfl (LV.mv rfl) ?_
      iterate 2 refine WL.lv rfl (LV.addS rfl rfl (by first | omega | (simp only [ByteArray.size_append, lit1]; omega) | (simp only [ByteArray.size_append, lit1, str_size, List.length_cons, List.length_nil]; omega))) ?_
      refine WL.lv rfl (LV.asg rfl) ?_
      refine WL.nil (blockQ.n <| thenQ.n ?_)
      refine WC.region ?_
      refine WL.lv rfl (LV.mv rfl) ?_
      refine WL.lv rfl (LV.add rfl rfl (wr64 (by omega) (by omega))) ?_
      refine WL.lv rfl (LV.asg rfl) ?_
      refine WL.nil (thenQ.n ?_)
      exact ⟨_, by omega, (((out ++ (DEC ((l.getD (i).toNat (0, 0)).1))) ++ ⟨#[32]⟩) ++ (DEC (MIL ((l.getD (i).toNat (0, 0)).2)))) ++ ⟨#[10]⟩, i + 1, by omega, by omega, (by rw [hpn_, q1]; unfold LINE; rw [if_pos (by omega)]; simp only [ByteArray.append_assoc]), hS4, rfl, Weak.cons rfl <| Weak.cons rfl <| Weak.cons rfl <| Weak.nil _⟩
    · skip
      refine WC.skip (thenQ.n ?_)
      refine WC.region ?_
      iterate 3 refine WL.lv rfl (LV.mv rfl) ?_
      obtain ⟨A5, c5, e5, g5⟩ := St.elt (SH.stN hS1 h_l) (0, 0) i (by omega) (by omega)
      refine WL.lv rfl (LV.idxA Try.underlying32 ti37.sz rfl e5 rfl (by omega) (by omega)) ?_
      refine WL.lv rfl (LV.fieldA Try.underlying37 rfl ti3.sz rfl) ?_
      refine WL.lv rfl (LV.load1 (v := (.int .i64 ((l.getD (i).toNat (0, 0)).1))) Try.underlying3 rfl rfl (g5 _ (KB.refl No _) 0 _ rfl)) ?_
      refine WL.call rfl (XC.fn Try.func38 (by kernel_rfl) rfl rfl rfl) (rdecimal_calls (n := ((l.getD (i).toNat (0, 0)).1)) ) ?_
      rintro v_ w5 ⟨rfl, hk4⟩
      have hS5 := SH.same hS1 hk4
      iterate 2 refine WL.lv rfl (LV.addS rfl rfl (by first | omega | (simp only [ByteArray.size_append, lit1]; omega) | (simp only [ByteArray.size_append, lit1, str_size, List.length_cons, List.length_nil]; omega))) ?_
      refine WL.lv rfl (LV.mv rfl) ?_
      iterate 2 refine WL.lv rfl (LV.addS rfl rfl (by first | omega | (simp only [ByteArray.size_append, lit1]; omega) | (simp only [ByteArray.size_append, lit1, str_size, List.length_cons, List.length_nil]; omega))) ?_
      refine WL.lv rfl (LV.asg rfl) ?_
      refine WL.nil (blockQ.n <| thenQ.n ?_)
      refine WC.region ?_
      refine WL.lv rfl (LV.mv rfl) ?_
      refine WL.lv rfl (LV.add rfl rfl (wr64 (by omega) (by omega))) ?_
      refine WL.lv rfl (LV.asg rfl) ?_
      refine WL.nil (thenQ.n ?_)
      exact ⟨_, by omega, (((out ++ (DEC ((l.getD (i).toNat (0, 0)).1))) ++ ⟨#[32]⟩) ++ ⟨#[45]⟩) ++ ⟨#[10]⟩, i + 1, by omega, by omega, (by rw [hpn_, q1]; unfold LINE; rw [if_neg (by omega)]; simp only [ByteArray.append_assoc]), hS5, rfl, Weak.cons rfl <| Weak.cons rfl <| Weak.cons rfl <| Weak.nil _⟩
  · skip
    refine WC.exit (thenQ.x <| thenQ.x <| blockQ.hit <| thenQ.n ?_)
    refine WC.seq ?_
    refine WC.region ?_
    refine WL.lv rfl (LV.mv rfl) ?_
    refine WL.xe rfl (XE.bytes (s := out) hL1 Try.underlying9 Try.underlying40 Try.underlying5 rfl (by have h_ := PRT_size (l := l) ilo (by omega); rw [← q1] at h_; omega)) ?_
    rintro _ w6 ⟨A6, c6, rfl, hr1, hS6, hk5⟩
    refine WL.lv rfl (LV.asg rfl) ?_
    refine WL.nil (thenQ.n ?_)
    refine WC.ret (?_)
    exact ⟨_, fun a ha => res1 rfl ha rfl, (by have e_ : PRT l = out := (by rw [q1, List.take_of_length_le (by omega)]); rw [e_]; exact ⟨_, _, rfl, hr1, hS6.kb⟩)⟩

end Go.Proofs.Ythmjieikbeemhaa
