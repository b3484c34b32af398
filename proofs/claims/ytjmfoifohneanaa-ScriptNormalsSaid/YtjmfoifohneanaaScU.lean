/- What must be whatever is asked. -/
import Derived.Test.YtjmfoifohneanaaScT
import Derived.Test.YtjmfoifohneanaaScZ
namespace Go.Proofs.Ytjmfoifohneanaa
open Go Go.Gv Go.RowKit Go.Mys Go.Num Go.Scr
set_option linter.unusedVariables false
set_option linter.unusedSimpArgs false

theorem check_eq {w : World} {A_inp : Option Addr} {n_inp c_inp : Nat} {inp : List (ED × List Ln)} (h_inp : St No w (Rd eE (.slice A_inp n_inp c_inp) (inp.map (·.1)))) (hi_inp : St No w (RdIn (·.2) eL inp)) (hn_inp : inp.length = n_inp) (hm : ∀ p ∈ inp, p.2.length ≤ 140737488355328) :
    Calls Try.prog 21 #[(.slice A_inp n_inp c_inp)] w fun e w' => ∃ v, e = .returned v ∧ (fun v w' => v = .int .i64 (chk (scr inp)) ∧ KB No w w') v w' := by
  subst hn_inp; exact check_calls h_inp hi_inp hm

theorem rcheck_eq {w : World} {A_inp : Option Addr} {n_inp c_inp : Nat} {inp : List (ED × List Ln)} (h_inp : St No w (Rd eE (.slice A_inp n_inp c_inp) (inp.map (·.1)))) (hi_inp : St No w (RdIn (·.2) eL inp)) (hn_inp : inp.length = n_inp) (hm : ∀ p ∈ inp, p.2.length ≤ 140737488355328) :
    Calls Try.prog 17 #[(.slice A_inp n_inp c_inp)] w fun e w' => ∃ v, e = .returned v ∧ (fun v w' => v = .int .i64 (chk (scr inp)) ∧ KB No w w') v w' := by
  subst hn_inp; exact rcheck_calls h_inp hi_inp hm

theorem changed_eq {w : World} {A_inp : Option Addr} {n_inp c_inp : Nat} {inp : List (ED × List Ln)} (h_inp : St No w (Rd eE (.slice A_inp n_inp c_inp) (inp.map (·.1)))) (hi_inp : St No w (RdIn (·.2) eL inp)) (hn_inp : inp.length = n_inp)  :
    Calls Try.prog 18 #[(.slice A_inp n_inp c_inp)] w fun e w' => ∃ v, e = .returned v ∧ (fun v w' => v = .int .i64 (chgI (scr inp)) ∧ KB No w w') v w' := by
  subst hn_inp; exact changed_calls h_inp hi_inp

theorem rchanged_eq {w : World} {A_inp : Option Addr} {n_inp c_inp : Nat} {inp : List (ED × List Ln)} (h_inp : St No w (Rd eE (.slice A_inp n_inp c_inp) (inp.map (·.1)))) (hi_inp : St No w (RdIn (·.2) eL inp)) (hn_inp : inp.length = n_inp)  :
    Calls Try.prog 22 #[(.slice A_inp n_inp c_inp)] w fun e w' => ∃ v, e = .returned v ∧ (fun v w' => v = .int .i64 (chgI (scr inp)) ∧ KB No w w') v w' := by
  subst hn_inp; exact rchanged_calls h_inp hi_inp

theorem sides8_eq {w : World} {A_inp : Option Addr} {n_inp c_inp : Nat} {inp : List (ED × List Ln)} (h_inp : St No w (Rd eE (.slice A_inp n_inp c_inp) (inp.map (·.1)))) (hi_inp : St No w (RdIn (·.2) eL inp)) (hn_inp : inp.length = n_inp) (hm : ∀ p ∈ inp, p.2.length ≤ 140737488355328) :
    Calls Try.prog 16 #[(.slice A_inp n_inp c_inp)] w fun e w' => ∃ v, e = .returned v ∧ (fun v w' => ∃ (A0' : Option Addr) (c0' : Nat) (A1' : Option Addr) (c1' : Nat), v = .tuple #[.slice A0' (SA (scr inp)).length c0', .slice A1' (SB (scr inp)).length c1', .int .i64 (chk (scr inp))] ∧ SH w No w' [rowE eL 41 (.slice A0' (SA (scr inp)).length c0') (SA (scr inp)), rowE eL 41 (.slice A1' (SB (scr inp)).length c1') (SB (scr inp))]) v w' := by
  subst hn_inp; exact sides8_calls h_inp hi_inp hm

theorem rsides_eq {w : World} {A_inp : Option Addr} {n_inp c_inp : Nat} {inp : List (ED × List Ln)} (h_inp : St No w (Rd eE (.slice A_inp n_inp c_inp) (inp.map (·.1)))) (hi_inp : St No w (RdIn (·.2) eL inp)) (hn_inp : inp.length = n_inp) (hm : ∀ p ∈ inp, p.2.length ≤ 140737488355328) :
    Calls Try.prog 19 #[(.slice A_inp n_inp c_inp)] w fun e w' => ∃ v, e = .returned v ∧ (fun v w' => ∃ (A0' : Option Addr) (c0' : Nat) (A1' : Option Addr) (c1' : Nat), v = .tuple #[.slice A0' (SA (scr inp)).length c0', .slice A1' (SB (scr inp)).length c1', .int .i64 (chk (scr inp))] ∧ SH w No w' [rowE eL 41 (.slice A0' (SA (scr inp)).length c0') (SA (scr inp)), rowE eL 41 (.slice A1' (SB (scr inp)).length c1') (SB (scr inp))]) v w' := by
  subst hn_inp; exact rsides_calls h_inp hi_inp hm

theorem Normal_eq {w : World} {A_inp : Option Addr} {n_inp c_inp : Nat} {inp : List (ED × List Ln)} (h_inp : St No w (Rd eE (.slice A_inp n_inp c_inp) (inp.map (·.1)))) (hi_inp : St No w (RdIn (·.2) eL inp)) (hn_inp : inp.length = n_inp) (hm : ∀ p ∈ inp, p.2.length ≤ 140737488355328) :
    Calls Try.prog 23 #[(.slice A_inp n_inp c_inp)] w fun e w' => ∃ v, e = .returned v ∧ (fun v w' => ∃ (A0' : Option Addr) (c0' : Nat) (rows0' : List (ED × List Ln)), v = .tuple #[.slice A0' rows0'.length c0', .int .i64 (chk (scr inp))] ∧ scr rows0' = NF (scr inp) ∧ SH w No w' [rowE eE 39 (.slice A0' rows0'.length c0') (rows0'.map (fun p : ED × List Ln => p.1)), insE (fun p : ED => p.2) eL 41 rows0']) v w' := by
  subst hn_inp; exact Normal_calls h_inp hi_inp hm

theorem invert_eq {w : World} {A_inp : Option Addr} {n_inp c_inp : Nat} {inp : List (ED × List Ln)} (h_inp : St No w (Rd eE (.slice A_inp n_inp c_inp) (inp.map (·.1)))) (hi_inp : St No w (RdIn (·.2) eL inp)) (hn_inp : inp.length = n_inp) (hm : ∀ p ∈ inp, p.2.length ≤ 140737488355328) :
    Calls Try.prog 24 #[(.slice A_inp n_inp c_inp)] w fun e w' => ∃ v, e = .returned v ∧ (fun v w' => ∃ (A0' : Option Addr) (c0' : Nat) (rows0' : List (ED × List Ln)), v = .tuple #[.slice A0' rows0'.length c0', .int .i64 (chk (scr inp))] ∧ scr rows0' = IVS (scr inp) ∧ SH w No w' [rowE eE 39 (.slice A0' rows0'.length c0') (rows0'.map (fun p : ED × List Ln => p.1)), insE (fun p : ED => p.2) eL 41 rows0']) v w' := by
  subst hn_inp; exact invert_calls h_inp hi_inp hm

theorem apply_eq {w : World} {A_inp : Option Addr} {n_inp c_inp : Nat} {inp : List (ED × List Ln)} {A_a : Option Addr} {n_a c_a : Nat} {a : List Ln} (h_inp : St No w (Rd eE (.slice A_inp n_inp c_inp) (inp.map (·.1)))) (hi_inp : St No w (RdIn (·.2) eL inp)) (hn_inp : inp.length = n_inp) (h_a : St No w (Rd eL (.slice A_a n_a c_a) a)) (hn_a : a.length = n_a) (hm : ∀ p ∈ inp, p.2.length ≤ 140737488355328) :
    Calls Try.prog 26 #[(.slice A_inp n_inp c_inp), (.slice A_a n_a c_a)] w fun e w' => ∃ v, e = .returned v ∧ (fun v w' => ∃ (A0' : Option Addr) (c0' : Nat), v = .tuple #[.slice A0' (apT (scr inp) a).length c0', .int .i64 (apE (scr inp) a)] ∧ SH w No w' [rowE eL 41 (.slice A0' (apT (scr inp) a).length c0') (apT (scr inp) a)]) v w' := by
  subst hn_inp hn_a; exact apply_calls h_inp hi_inp hm h_a

theorem rapply_eq {w : World} {A_inp : Option Addr} {n_inp c_inp : Nat} {inp : List (ED × List Ln)} {A_a : Option Addr} {n_a c_a : Nat} {a : List Ln} (h_inp : St No w (Rd eE (.slice A_inp n_inp c_inp) (inp.map (·.1)))) (hi_inp : St No w (RdIn (·.2) eL inp)) (hn_inp : inp.length = n_inp) (h_a : St No w (Rd eL (.slice A_a n_a c_a) a)) (hn_a : a.length = n_a) (hm : ∀ p ∈ inp, p.2.length ≤ 140737488355328) :
    Calls Try.prog 27 #[(.slice A_inp n_inp c_inp), (.slice A_a n_a c_a)] w fun e w' => ∃ v, e = .returned v ∧ (fun v w' => ∃ (A0' : Option Addr) (c0' : Nat), v = .tuple #[.slice A0' (apT (scr inp) a).length c0', .int .i64 (apE (scr inp) a)] ∧ SH w No w' [rowE eL 41 (.slice A0' (apT (scr inp) a).length c0') (apT (scr inp) a)]) v w' := by
  subst hn_inp hn_a; exact rapply_calls h_inp hi_inp hm h_a

theorem same8_eq {w : World} {A_x : Option Addr} {n_x c_x : Nat} {x : List (ED × List Ln)} {A_y : Option Addr} {n_y c_y : Nat} {y : List (ED × List Ln)} (h_x : St No w (Rd eE (.slice A_x n_x c_x) (x.map (·.1)))) (hi_x : St No w (RdIn (·.2) eL x)) (hn_x : x.length = n_x) (h_y : St No w (Rd eE (.slice A_y n_y c_y) (y.map (·.1)))) (hi_y : St No w (RdIn (·.2) eL y)) (hn_y : y.length = n_y)  :
    Calls Try.prog 15 #[(.slice A_x n_x c_x), (.slice A_y n_y c_y)] w fun e w' => ∃ v, e = .returned v ∧ (fun v w' => v = .bool (decide (scr x = scr y)) ∧ KB No w w') v w' := by
  subst hn_x hn_y; exact same8_calls h_x hi_x h_y hi_y

theorem lines_eq {w : World} {A_x : Option Addr} {n_x c_x : Nat} {x : List Ln} {A_y : Option Addr} {n_y c_y : Nat} {y : List Ln} (h_x : St No w (Rd eL (.slice A_x n_x c_x) x)) (hn_x : x.length = n_x) (h_y : St No w (Rd eL (.slice A_y n_y c_y) y)) (hn_y : y.length = n_y)  :
    Calls Try.prog 20 #[(.slice A_x n_x c_x), (.slice A_y n_y c_y)] w fun e w' => ∃ v, e = .returned v ∧ (fun v w' => v = .bool (decide (x = y)) ∧ KB No w w') v w' := by
  subst hn_x hn_y; exact lines_calls h_x h_y

theorem live8_calls {w : World}  :
    Calls Try.prog 14 #[] w fun e w' => ∃ v, e = .returned v ∧ (fun v w' => v = .bool (decide (true)) ∧ KB No w w') v w' := by
  have hS : SH w No w [] := SH.nil _ _
  refine calls (l := litOf [] 0) Try.func14 rfl (n := 40) rfl (Nat.le_of_ble_eq_true rfl) (lit_args _) ?_
  refine WC.seq ?_
  refine WC.region ?_
  refine WL.lv rfl (LV.asg rfl) ?_
  refine WL.nil (thenQ.n ?_)
  refine WC.seq ?_
  refine WC.region ?_
  refine WL.lv rfl (LV.build (vs := [(0, (.string ⟨#[97]⟩))]) (places := #[(0, 1), (1, 1)]) (cs := #[(.string ⟨#[97]⟩), (.bool false)]) Try.underlying41 ti41 (fun _ => by kernel_rfl) rfl rfl) ?_
  refine WL.lv rfl (LV.build (vs := [(0, (.string ⟨#[98]⟩))]) (places := #[(0, 1), (1, 1)]) (cs := #[(.string ⟨#[98]⟩), (.bool false)]) Try.underlying41 ti41 (fun _ => by kernel_rfl) rfl rfl) ?_
  refine WL.lv rfl (LV.build (vs := [(0, (.string ⟨#[99]⟩))]) (places := #[(0, 1), (1, 1)]) (cs := #[(.string ⟨#[99]⟩), (.bool false)]) Try.underlying41 ti41 (fun _ => by kernel_rfl) rfl rfl) ?_
  refine WL.xe rfl (XE.alloc #[(.string ⟨#[]⟩), (.bool false)] hS ti41 rfl) ?_
  rintro _ w1 ⟨b1, rfl, hS1, hk1⟩
  refine WL.xe rfl (XE.alloc #[(.string ⟨#[]⟩), (.bool false)] hS1 ti41 rfl) ?_
  rintro _ w2 ⟨b2, rfl, hS2, hk2⟩
  refine WL.xe rfl (XE.alloc #[(.string ⟨#[]⟩), (.bool false)] hS2 ti41 rfl) ?_
  rintro _ w3 ⟨b3, rfl, hS3, hk3⟩
  have hS5 : SH w No w3 [blkE b1 41 #[(.string ⟨#[]⟩), (.bool false)], blkE b3 41 #[(.string ⟨#[]⟩), (.bool false)], blkE b2 41 #[(.string ⟨#[]⟩), (.bool false)]] := (SH.front [blkE b3 41 #[(.string ⟨#[]⟩), (.bool false)], blkE b2 41 #[(.string ⟨#[]⟩), (.bool false)]] hS3)
  refine WL.xse rfl (XSE.blkAgg #[(.string ⟨#[97]⟩), (.bool false)] hS5 (by kernel_rfl) rfl (by kernel_rfl) rfl rfl) ?_
  rintro w4 ⟨hS4, hk4⟩
  have hS7 : SH w No w4 [blkE b2 41 #[(.string ⟨#[]⟩), (.bool false)], blkE b1 41 #[(.string ⟨#[97]⟩), (.bool false)], blkE b3 41 #[(.string ⟨#[]⟩), (.bool false)]] := (SH.front [blkE b1 41 #[(.string ⟨#[97]⟩), (.bool false)], blkE b3 41 #[(.string ⟨#[]⟩), (.bool false)]] hS4)
  refine WL.xse rfl (XSE.blkAgg #[(.string ⟨#[98]⟩), (.bool false)] hS7 (by kernel_rfl) rfl (by kernel_rfl) rfl rfl) ?_
  rintro w5 ⟨hS6, hk5⟩
  have hS9 : SH w No w5 [blkE b3 41 #[(.string ⟨#[]⟩), (.bool false)], blkE b2 41 #[(.string ⟨#[98]⟩), (.bool false)], blkE b1 41 #[(.string ⟨#[97]⟩), (.bool false)]] := (SH.front [blkE b2 41 #[(.string ⟨#[98]⟩), (.bool false)], blkE b1 41 #[(.string ⟨#[97]⟩), (.bool false)]] hS6)
  refine WL.xse rfl (XSE.blkAgg #[(.string ⟨#[99]⟩), (.bool false)] hS9 (by kernel_rfl) rfl (by kernel_rfl) rfl rfl) ?_
  rintro w6 ⟨hS8, hk6⟩
  refine WL.nil (thenQ.n ?_)
  refine WC.seq ?_
  refine WC.region ?_
  refine WL.lv rfl (LV.loadAgg (cs := [(.string ⟨#[97]⟩), (.bool false)]) Try.underlying41 rfl ti41 rfl rfl (Blk.agg (SH.at hS8 (.tail _ (.tail _ (.head _)))) _ (KB.refl No _))) ?_
  refine WL.lv rfl (LV.loadAgg (cs := [(.string ⟨#[98]⟩), (.bool false)]) Try.underlying41 rfl ti41 rfl rfl (Blk.agg (SH.at hS8 (.tail _ (.head _))) _ (KB.refl No _))) ?_
  refine WL.xe rfl (XE.buildSlice (E := eL) [(0, (.agg #[(.string ⟨#[97]⟩), (.bool false)])), (1, (.agg #[(.string ⟨#[98]⟩), (.bool false)]))] #[(.string ⟨#[97]⟩), (.bool false), (.string ⟨#[98]⟩), (.bool false)] [(⟨#[97]⟩, false), (⟨#[98]⟩, false)] hS8 Try.underlying22 ti41 rfl (by decide) (by kernel_rfl) (.inr rfl) rfl rfl (by decide)) ?_
  rintro _ w7 ⟨b4, rfl, hS10, hk7⟩
  refine WL.lv rfl (LV.loadAgg (cs := [(.string ⟨#[97]⟩), (.bool false)]) Try.underlying41 rfl ti41 rfl rfl (Blk.agg (SH.at hS10 (.tail _ (.tail _ (.tail _ (.head _))))) _ (KB.refl No _))) ?_
  refine WL.lv rfl (LV.loadAgg (cs := [(.string ⟨#[99]⟩), (.bool false)]) Try.underlying41 rfl ti41 rfl rfl (Blk.agg (SH.at hS10 (.tail _ (.head _))) _ (KB.refl No _))) ?_
  refine WL.xe rfl (XE.buildSlice (E := eL) [(0, (.agg #[(.string ⟨#[97]⟩), (.bool false)])), (1, (.agg #[(.string ⟨#[99]⟩), (.bool false)]))] #[(.string ⟨#[97]⟩), (.bool false), (.string ⟨#[99]⟩), (.bool false)] [(⟨#[97]⟩, false), (⟨#[99]⟩, false)] hS10 Try.underlying22 ti41 rfl (by decide) (by kernel_rfl) (.inr rfl) rfl rfl (by decide)) ?_
  rintro _ w8 ⟨b5, rfl, hS11, hk8⟩
  refine WL.call rfl (XC.fn Try.func12 (by kernel_rfl) rfl rfl rfl) (make8_calls  (SH.rd hS11 (.tail _ (.head _))) rfl (SH.rd hS11 (.head _)) rfl ) ?_
  rintro v_ w9 ⟨A1, c1, rows1, rfl, hq1, hS12⟩
  have hS13 := SH.joinN hS11 hS12
  refine WL.lv rfl (LV.mv rfl) ?_
  iterate 2 refine WL.lv rfl (LV.extract rfl rfl) ?_
  iterate 2 refine WL.lv rfl (LV.asg rfl) ?_
  refine WL.nil (thenQ.n ?_)
  refine WC.seq ?_
  refine WC.region ?_
  refine WL.lv rfl (LV.mv rfl) ?_
  refine WL.lv rfl (LV.as (LV.eqI rfl rfl) (decide_eq_true (by decide))) ?_
  iterate 2 refine WL.lv rfl (LV.mv rfl) ?_
  refine WL.lv rfl (LV.loadAgg (cs := [(.string ⟨#[97]⟩), (.bool false)]) Try.underlying41 rfl ti41 rfl rfl (Blk.agg (SH.at hS13 (.tail _ (.tail _ (.tail _ (.tail _ (.tail _ (.tail _ (.head _)))))))) _ (KB.refl No _))) ?_
  refine WL.xe rfl (XE.buildSlice (E := eL) [(0, (.agg #[(.string ⟨#[97]⟩), (.bool false)]))] #[(.string ⟨#[97]⟩), (.bool false)] [(⟨#[97]⟩, false)] hS13 Try.underlying22 ti41 rfl (by decide) (by kernel_rfl) (.inr rfl) rfl rfl (by decide)) ?_
  rintro _ w10 ⟨b6, rfl, hS14, hk9⟩
  refine WL.lv rfl (LV.build (vs := [(0, (.int .i64 1)), (1, (.slice (some ⟨b6, 0, none⟩) 1 1))]) (places := #[(0, 1), (1, 1)]) (cs := #[(.int .i64 1), (.slice (some ⟨b6, 0, none⟩) 1 1)]) Try.underlying39 ti39 (fun _ => by kernel_rfl) rfl rfl) ?_
  refine WL.lv rfl (LV.loadAgg (cs := [(.string ⟨#[98]⟩), (.bool false)]) Try.underlying41 rfl ti41 rfl rfl (Blk.agg (SH.at hS14 (.tail _ (.tail _ (.tail _ (.tail _ (.tail _ (.tail _ (.head _)))))))) _ (KB.refl No _))) ?_
  refine WL.xe rfl (XE.buildSlice (E := eL) [(0, (.agg #[(.string ⟨#[98]⟩), (.bool false)]))] #[(.string ⟨#[98]⟩), (.bool false)] [(⟨#[98]⟩, false)] hS14 Try.underlying22 ti41 rfl (by decide) (by kernel_rfl) (.inr rfl) rfl rfl (by decide)) ?_
  rintro _ w11 ⟨b7, rfl, hS15, hk10⟩
  refine WL.lv rfl (LV.build (vs := [(0, (.int .i64 2)), (1, (.slice (some ⟨b7, 0, none⟩) 1 1))]) (places := #[(0, 1), (1, 1)]) (cs := #[(.int .i64 2), (.slice (some ⟨b7, 0, none⟩) 1 1)]) Try.underlying39 ti39 (fun _ => by kernel_rfl) rfl rfl) ?_
  refine WL.lv rfl (LV.loadAgg (cs := [(.string ⟨#[99]⟩), (.bool false)]) Try.underlying41 rfl ti41 rfl rfl (Blk.agg (SH.at hS15 (.tail _ (.tail _ (.tail _ (.tail _ (.tail _ (.tail _ (.head _)))))))) _ (KB.refl No _))) ?_
  refine WL.xe rfl (XE.buildSlice (E := eL) [(0, (.agg #[(.string ⟨#[99]⟩), (.bool false)]))] #[(.string ⟨#[99]⟩), (.bool false)] [(⟨#[99]⟩, false)] hS15 Try.underlying22 ti41 rfl (by decide) (by kernel_rfl) (.inr rfl) rfl rfl (by decide)) ?_
  rintro _ w12 ⟨b8, rfl, hS16, hk11⟩
  refine WL.lv rfl (LV.build (vs := [(0, (.int .i64 3)), (1, (.slice (some ⟨b8, 0, none⟩) 1 1))]) (places := #[(0, 1), (1, 1)]) (cs := #[(.int .i64 3), (.slice (some ⟨b8, 0, none⟩) 1 1)]) Try.underlying39 ti39 (fun _ => by kernel_rfl) rfl rfl) ?_
  refine WL.xe rfl (XE.buildSlice (E := eE) [(0, (.agg #[(.int .i64 1), (.slice (some ⟨b6, 0, none⟩) 1 1)])), (1, (.agg #[(.int .i64 2), (.slice (some ⟨b7, 0, none⟩) 1 1)])), (2, (.agg #[(.int .i64 3), (.slice (some ⟨b8, 0, none⟩) 1 1)]))] #[(.int .i64 1), (.slice (some ⟨b6, 0, none⟩) 1 1), (.int .i64 2), (.slice (some ⟨b7, 0, none⟩) 1 1), (.int .i64 3), (.slice (some ⟨b8, 0, none⟩) 1 1)] [((1 : Int), (⟨(some ⟨b6, 0, none⟩), 1, 1⟩ : SV)), ((2 : Int), (⟨(some ⟨b7, 0, none⟩), 1, 1⟩ : SV)), ((3 : Int), (⟨(some ⟨b8, 0, none⟩), 1, 1⟩ : SV))] hS16 Try.underlying24 ti39 rfl (by decide) (by kernel_rfl) (.inr rfl) rfl rfl (by decide)) ?_
  rintro _ w13 ⟨b9, rfl, hS17, hk12⟩
  refine WL.call rfl (XC.fn Try.func15 (by kernel_rfl) rfl rfl rfl) (Calls.asB (same8_eq  (SH.rd hS17 (.tail _ (.tail _ (.tail _ (.tail _ (.head _)))))) (SH.rdIn hS17 (.tail _ (.tail _ (.tail _ (.tail _ (.tail _ (.head _))))))) rfl (SH.rd hS17 (.head _)) (St.inCons (sv := fun p : ED => p.2) (r := ((1 : Int), (⟨(some ⟨b6, 0, none⟩), 1, 1⟩ : SV))) rfl (SH.rd hS17 (.tail _ (.tail _ (.tail _ (.head _))))) (St.inCons (sv := fun p : ED => p.2) (r := ((2 : Int), (⟨(some ⟨b7, 0, none⟩), 1, 1⟩ : SV))) rfl (SH.rd hS17 (.tail _ (.tail _ (.head _)))) (St.inCons (sv := fun p : ED => p.2) (r := ((3 : Int), (⟨(some ⟨b8, 0, none⟩), 1, 1⟩ : SV))) rfl (SH.rd hS17 (.tail _ (.head _))) (St.in0 (sv := fun p : ED => p.2))))) rfl ) (decide_eq_true (hq1.trans live8))) ?_
  rintro v_ w14 ⟨rfl, hk13⟩
  have hS18 := SH.same hS17 hk13
  refine WL.lv rfl (LV.pickT rfl rfl) ?_
  iterate 2 refine WL.lv rfl (LV.mv rfl) ?_
  refine WL.call rfl (XC.fn Try.func18 (by kernel_rfl) rfl rfl rfl) (changed_eq  (SH.rd hS18 (.tail _ (.tail _ (.tail _ (.tail _ (.head _)))))) (SH.rdIn hS18 (.tail _ (.tail _ (.tail _ (.tail _ (.tail _ (.head _))))))) rfl ) ?_
  rintro v_ w15 ⟨rfl, hk14⟩
  have hS19 := SH.same hS18 hk14
  refine WL.lv rfl (LV.as (LV.eqI rfl rfl) (decide_eq_true (by rw [hq1, live8]; decide))) ?_
  refine WL.lv rfl (LV.pickT rfl rfl) ?_
  refine WL.lv rfl (LV.asg rfl) ?_
  refine WL.nil (thenQ.n ?_)
  refine WC.ret (?_)
  exact ⟨_, fun a ha => res1 rfl ha rfl, rfl, hS19.kb⟩

end Go.Proofs.Ytjmfoifohneanaa
