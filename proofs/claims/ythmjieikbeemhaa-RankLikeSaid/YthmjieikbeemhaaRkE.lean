/- Likenesses of texts. -/
import Derived.Test.YthmjieikbeemhaaRkD
import Derived.Test.YthmjieikbeemhaaRkF
namespace Go.Proofs.Ythmjieikbeemhaa
open Go Go.Gv Go.RowKit Go.Flt Go.Mys Go.Num Go.Scr Go.Dec Go.Rnk
set_option linter.unusedVariables false
set_option linter.unusedSimpArgs false

theorem all_calls {w : World} {A_inp : Option Addr} {n_inp c_inp : Nat} {inp : List (SV × List Ln)} {A_b : Option Addr} {n_b c_b : Nat} {b : List Ln} (h_inp : St No w (RdRR eL (.slice A_inp n_inp c_inp) inp)) (hn_inp : inp.length = n_inp) (h_b : St No w (Rd eL (.slice A_b n_b c_b) b)) (hn_b : b.length = n_b) (hl : inp.length ≤ 1000) :
    Calls Try.prog 20 #[(.slice A_inp n_inp c_inp), (.slice A_b n_b c_b)] w fun e w' => ∃ v, e = .returned v ∧ (fun v w' => ∃ (A' : Option Addr) (c' : Nat) (ys L : List (Int × Nat)), v = .slice A' ys.length c' ∧ KL (inp.map (·.2)) b L ∧ ys.Perm L ∧ SRK ys ∧ SH w No w' [rowE eK 37 (.slice A' ys.length c') ys]) v w' := by
  subst hn_inp hn_b
  have hS : SH w No w [] := SH.nil _ _
  refine calls (l := litOf [(.slice A_inp inp.length c_inp), (.slice A_b b.length c_b)] 0) Try.func20 rfl (n := 27) rfl (Nat.le_of_ble_eq_true rfl) (lit_args _) ?_
  refine WC.seq ?_
  refine WC.region ?_
  refine WL.lv rfl (LV.asg rfl) ?_
  refine WL.nil (thenQ.n ?_)
  refine WC.seq ?_
  refine WC.region ?_
  have hS1 := SH.nilRow (E := eK) (T := 37) hS
  refine WL.lv rfl (LV.asg rfl) ?_
  refine WL.nil (thenQ.n ?_)
  iterate 2 refine WC.seq ?_
  refine WC.region ?_
  refine WL.lv rfl (LV.mv rfl) ?_
  refine WL.lv rfl (LV.lenL Try.underlying30 rfl) ?_
  refine WL.lv rfl (LV.mv rfl) ?_
  refine WL.nil (thenQ.n ?_)
  refine WC.block ?_
  refine WC.loop (fun m_ f_ w_ => ∃ (A_out : Option Addr) (c_out : Nat) (out : List (Int × Nat)) (ix : Int), (0 ≤ ix) ∧ (ix ≤ (inp.length : Int)) ∧ (KLn (inp.map (·.2)) b out ix) ∧ ((out.length : Int) = ix) ∧ SH w No w_ [rowE eK 37 (.slice A_out out.length c_out) out] ∧ m_ = (((inp.length : Int) - ix).toNat) ∧ Weak (lit [(1, (.slice A_b b.length c_b)), (5, (.slice A_out out.length c_out)), (8, (.slice A_inp inp.length c_inp)), (9, (.int .i64 (inp.length : Int))), (10, (.int .i64 ix))]) f_) _ ⟨none, 0, [], 0, by omega, by omega, (KLn.z _ _), rfl, hS1, rfl, Weak.cons rfl <| Weak.cons rfl <| Weak.cons rfl <| Weak.cons rfl <| Weak.cons rfl <| Weak.nil _⟩ ?_
  rintro m1 f1 w1 ⟨A_out, c_out, out, ix, ixlo, ixhi, q1, q2, hL1, rfl, hw1⟩
  refine WC.weak hw1 ?_
  clear hw1
  refine WC.seq ?_
  refine WC.region ?_
  refine WL.lv rfl (LV.ltI rfl rfl) ?_
  refine WL.nil (thenQ.n ?_)
  refine WC.seq ?_
  refine WC.condP (p := ix < (inp.length : Int)) rfl (fun hk => ?_) (fun hk => ?_)
  · skip
    refine WC.skip (thenQ.n ?_)
    refine WC.seq ?_
    refine WC.block ?_
    refine WC.seq ?_
    refine WC.region ?_
    refine WL.lv rfl (LV.mv rfl) ?_
    obtain ⟨A1, c1, A2, c2, e1, g1, e2, r1⟩ := St.eltRR (SH.stN hL1 h_inp) default ix (by omega) (by omega)
    refine WL.lv rfl (LV.idxA Try.underlying30 ti22.sz rfl e1 rfl (by omega) (by omega)) ?_
    refine WL.lv rfl (LV.load1 Try.underlying22 rfl rfl (g1 _ (KB.refl No _))) ?_
    iterate 2 refine WL.lv rfl (LV.asg rfl) ?_
    refine WL.nil (thenQ.n ?_)
    refine WC.region ?_
    iterate 4 refine WL.lv rfl (LV.mv rfl) ?_
    refine WL.call rfl (XC.fn Try.func14 (by kernel_rfl) rfl rfl rfl) (like_calls  (St.inner (SH.stN hL1 h_inp) (getD_mem (by omega)) e2) rfl (SH.stN hL1 h_b) rfl ) ?_
    rintro v_ w2 ⟨r2, rfl, hf1, hf2, hk1⟩
    have hS2 := SH.same hL1 hk1
    have hlk_ := hf1
    have hlw_ := hf2
    refine WL.lv rfl (LV.build (vs := [(0, (.int .i64 ix)), (1, (.float .f64 r2))]) (places := #[(0, 1), (1, 1)]) (cs := #[(.int .i64 ix), (.float .f64 r2)]) Try.underlying37 ti37 (fun _ => by kernel_rfl) rfl rfl) ?_
    refine WL.xe rfl (XE.buildSlice (E := eK) [(0, (.agg #[(.int .i64 ix), (.float .f64 r2)]))] #[(.int .i64 ix), (.float .f64 r2)] [((ix : Int), (r2 : Nat))] hS2 Try.underlying32 ti37 rfl (by decide) (by kernel_rfl) (.inr rfl) rfl rfl (by decide)) ?_
    rintro _ w3 ⟨b1, rfl, hS3, hk2⟩
    have hS4 : SH w No w3 [rowE eK 37 (.slice A_out out.length c_out) out, rowE eK 37 (.slice (some ⟨b1, 0, none⟩) 1 1) [((ix : Int), (r2 : Nat))]] := (SH.front [rowE eK 37 (.slice (some ⟨b1, 0, none⟩) 1 1) [((ix : Int), (r2 : Nat))]] hS3)
    refine WL.xe rfl (XE.append hS4 Try.underlying32 ti37 rfl (St.now (SH.rd hS4 (.tail _ (.head _)))) rfl rfl (by first | omega | simp only [List.length_append, List.length_cons, List.length_nil, List.length_take, List.length_reverse, List.length_drop] at *; omega) (by first | omega | simp only [List.length_append, List.length_cons, List.length_nil, List.length_take, List.length_reverse, List.length_drop] at *; omega)) ?_
    rintro _ w4 ⟨A3, c3, rfl, hS5, hk3⟩
    refine WL.lv rfl (LV.asg rfl) ?_
    refine WL.nil (blockQ.n <| thenQ.n ?_)
    refine WC.region ?_
    refine WL.lv rfl (LV.add rfl rfl (wr64 (by omega) (by omega))) ?_
    refine WL.lv rfl (LV.mv rfl) ?_
    refine WL.nil (thenQ.n ?_)
    have hS6 : SH w No w4 [rowE eK 37 (.slice A3 ((out ++ [((ix : Int), (r2 : Nat))]).length) c3) (out ++ [((ix : Int), (r2 : Nat))])] := (SH.take 1 rfl hS5)
    exact ⟨_, by omega, A3, c3, (out ++ [((ix : Int), (r2 : Nat))]), ix + 1, by omega, by omega, (q1.snoc ixlo (by rw [List.length_map]; omega) (by rw [hlk_]; congr 1; exact (rr_at2 (by omega)).symm) hlw_), (by simp; omega), hS6, rfl, Weak.cons rfl <| Weak.cons rfl <| Weak.cons rfl <| Weak.cons rfl <| Weak.cons rfl <| Weak.nil _⟩
  · skip
    refine WC.exit (thenQ.x <| thenQ.x <| blockQ.hit <| thenQ.n ?_)
    refine WC.seq ?_
    refine WC.region ?_
    refine WL.lv rfl (LV.mv rfl) ?_
    refine WL.call rfl (XC.fn Try.func34 (by kernel_rfl) rfl rfl rfl) (sort_callsP (p := p_sortK) (cf := fun x y : (Int × Nat) => LCF x y) sortN_sortK sortK_sortK hL1 (q1.w6) (fun W_ hW_ x y hx hy => by rw [Array.append_empty]; exact (korder_calls (w := W_) (x := x) (y := y) hx hy).mono fun e_ w_ ⟨v_, he_, hv_, hk_⟩ => ⟨he_.trans (by rw [hv_]), hk_, hk_.dr (by unfold DR; trivial)⟩) (by omega)) ?_
    rintro v_ w5 ⟨ys1, rfl, hpm1, hpw1, hS7, hk4⟩
    refine WL.nil (thenQ.n ?_)
    refine WC.seq ?_
    refine WC.region ?_
    refine WL.lv rfl (LV.mv rfl) ?_
    refine WL.lv rfl (LV.asg rfl) ?_
    refine WL.nil (thenQ.n ?_)
    refine WC.ret (?_)
    exact ⟨_, fun a ha => res1 rfl ha rfl, (by have hln_ := hpm1.length_eq; have hs_ := hS7; have e_ : out.length = ys1.length := hln_.symm; rw [e_] at hs_; exact ⟨_, _, _, out, by rw [e_], q1.fin (by rw [List.length_map]; omega), hpm1, hpw1, hs_⟩)⟩

end Go.Proofs.Ythmjieikbeemhaa
