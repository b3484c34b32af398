import Derived.RangeFuncMany
import Derived.RangeFuncLeaves
import Derived.RangeFuncBox
import Derived.RangeFuncNested
import Derived.RangeFuncBound
import Derived.RangeFuncCalls
import Derived.Sort.MapsRangeIn
import Derived.Sort.KeysCollected
import Derived.WalkKit
import Derived.OwnWalkIn
import Derived.TacticsInMore
import Derived.RegionIn
import Derived.LoopNIn
import Derived.LoopIn
import Derived.Maps.AppendAt
import Derived.Maps.OwnIn
import Derived.Shelf.Abstract
import Derived.WalkSmall
import Derived.Test.YtpgpiljnmhpnhaaIcA
import Derived.Test.YtpgpiljnmhpnhaaIcP
import Derived.Test.YtpgpiljnmhpnhaaGvS
import Derived.Shelf.SlSortCmp.NoneTotal
import Derived.Shelf.Lay
import Derived.Ground.SlsfProg

namespace Go.Proofs
open Go.RowKit Go.Maps Go.Sort Go.Shelf Go.Lib
open Go.Gv (St Rd eI eP SH KB No Row rowE mapE kI El SortsN SortsK sort_callsP)
open Go.Itn (oft CNT)
set_option linter.unusedVariables false
attribute [local go_sem] Oper.semAt_some
theorem nanC_in (n : Nat) (x : Int) (w : World) : CallsIn Fence.wide n Try.prog 30 #[.int .i64 x] w fun e w' => e = .returned (.bool false) ∧ w' = w := by
  refine callsIn_of_wp Try.func30 rfl trivial ?_ rfl
  simp only [Try.ntmps30, List.size_toArray, List.length_cons, List.length_nil, Nat.reduceAdd, Nat.reduceSub, Array.replicate_succ, Array.replicate_zero, List.push_toArray, List.append_toArray, List.nil_append, List.cons_append]
  gi_wp2
  go_ret
  exact ⟨by simp, rfl⟩
abbrev cmpI (x y : Int) : Int := if x < y then -1 else if y < x then 1 else 0
theorem cmpC_in (n : Nat) (hn : 1 ≤ n) (x y : Int) (w : World) : CallsIn Fence.wide n Try.prog 24 #[.int .i64 x, .int .i64 y] w fun e w' => e = .returned (.int .i64 (cmpI x y)) ∧ w' = w := by
  refine callsIn_of_wp Try.func24 rfl trivial ?_ rfl
  simp only [Try.ntmps24, List.size_toArray, List.length_cons, List.length_nil, Nat.reduceAdd, Nat.reduceSub, Array.replicate_succ, Array.replicate_zero, List.push_toArray, List.append_toArray, List.nil_append, List.cons_append]
  gi_wp2_with ((first | refine ⟨trivial, fun _ => by omega, ?_⟩ | refine ⟨trivial, ?_⟩ | skip); gi_at_call 30; refine (nanC_in _ _ _).mono ?_; rintro e w' ⟨rfl, rfl⟩)
  all_goals go_ret
  all_goals (refine ⟨?_, rfl⟩; unfold cmpI; first | (rw [if_pos (by assumption)]; rfl) | (rw [if_neg (by omega), if_pos (by omega)]; rfl) | (rw [if_neg (by omega), if_neg (by omega)]; rfl))
theorem cmpD_in (n : Nat) (hn : 3 ≤ n) (x y : Int × Int) (w : World) : CallsIn Fence.wide n Try.prog 23 #[.agg #[.int .i64 x.1, .int .i64 x.2], .agg #[.int .i64 y.1, .int .i64 y.2]] w fun e w' => e = .returned (.int .i64 (cmpI x.1 y.1)) ∧
    w' = (w.alloc (.cells #[.int .i64 x.1, .int .i64 x.2] 38)).alloc (.cells #[.int .i64 y.1, .int .i64 y.2] 38) := by
  refine callsIn_of_wp Try.func23 rfl trivial ?_ rfl
  simp only [Try.ntmps23, List.size_toArray, List.length_cons, List.length_nil, Nat.reduceAdd, Nat.reduceSub, Array.replicate_succ, Array.replicate_zero, List.push_toArray, List.append_toArray, List.nil_append, List.cons_append]
  gi_wp2_with ((first | refine ⟨trivial, fun _ => by omega, ?_⟩ | refine ⟨trivial, ?_⟩ | skip); gi_at_call 24; refine (cmpC_in _ (by omega) _ _ _).mono ?_; rintro e w' ⟨rfl, rfl⟩)
  go_ret
  exact ⟨rfl, rfl⟩
theorem infoC : (Try.prog.info? 38).map (fun i => (i.zero, i.size, i.bytes)) = some (some (.agg #[.int .i64 0, .int .i64 0]), 2, 16) := by kernel_rfl
def sortC_ren : Go.Shelf.Ren := ⟨fun | 6 => 22 | 15 => 29 | 14 => 28 | 28 => 39 | 29 => 40 | 20 => 31 | 21 => 32 | 22 => 33 | 23 => 34 | 24 => 35 | 25 => 36 | 26 => 37 | 27 => 38 | 46 => 41 | 47 => 42 | 48 => 43 | 49 => 44 | 50 => 45 | 57 => 46 | n => n, fun | 22 => 36 | 24 => 38 | 25 => 50 | 3 => 3 | 39 => 55 | 0 => 0 | 53 => 65 | 55 => 67 | 4 => 4 | 46 => 59 | 45 => 58 | 50 => 42 | 5 => 5 | 9 => 9 | 66 => 68 | 70 => 72 | 76 => 74 | 77 => 34 | n => n, fun | n => n⟩
theorem sortC : Go.Proofs.SlLaysF0.n6 Try.prog sortC_ren := {
  mixed := by kernel_rfl
  f6 := ⟨Try.f22.name, by decide, Try.func22.trans (congrArg some (by kernel_rfl))⟩
  f14 := ⟨Try.f28.name, by decide, Try.func28.trans (congrArg some (by kernel_rfl))⟩
  f15 := Try.func29.trans (congrArg some (by kernel_rfl))
  f20 := ⟨Try.f31.name, by decide, Try.func31.trans (congrArg some (by kernel_rfl))⟩
  f21 := ⟨Try.f32.name, by decide, Try.func32.trans (congrArg some (by kernel_rfl))⟩
  f22 := ⟨Try.f33.name, by decide, Try.func33.trans (congrArg some (by kernel_rfl))⟩
  f23 := ⟨Try.f34.name, by decide, Try.func34.trans (congrArg some (by kernel_rfl))⟩
  f24 := ⟨Try.f35.name, by decide, Try.func35.trans (congrArg some (by kernel_rfl))⟩
  f25 := ⟨Try.f36.name, by decide, Try.func36.trans (congrArg some (by kernel_rfl))⟩
  f26 := ⟨Try.f37.name, by decide, Try.func37.trans (congrArg some (by kernel_rfl))⟩
  f27 := ⟨Try.f38.name, by decide, Try.func38.trans (congrArg some (by kernel_rfl))⟩
  f28 := Try.func39.trans (congrArg some (by kernel_rfl))
  f29 := Try.func40.trans (congrArg some (by kernel_rfl))
  f46 := ⟨Try.f41.name, by decide, Try.func41.trans (congrArg some (by kernel_rfl))⟩
  f47 := Try.func42.trans (congrArg some (by kernel_rfl))
  f48 := Try.func43.trans (congrArg some (by kernel_rfl))
  f49 := ⟨Try.f44.name, by decide, Try.func44.trans (congrArg some (by kernel_rfl))⟩
  f50 := ⟨Try.f45.name, by decide, Try.func45.trans (congrArg some (by kernel_rfl))⟩
  f57 := ⟨Try.f46.name, by decide, Try.func46.trans (congrArg some (by kernel_rfl))⟩
  t0 := Try.underlying0
  a0 := Try.isAgg0
  z0 := Try.sizeOf0
  v0 := Try.zeroValue0
  t3 := Try.underlying3
  a3 := Try.isAgg3
  z3 := Try.sizeOf3
  v3 := Try.zeroValue3
  t4 := Try.underlying4
  a4 := Try.isAgg4
  z4 := Try.sizeOf4
  v4 := Try.zeroValue4
  t5 := Try.underlying5
  a5 := Try.isAgg5
  z5 := Try.sizeOf5
  v5 := Try.zeroValue5
  t9 := Try.underlying9
  a9 := Try.isAgg9
  z9 := Try.sizeOf9
  v9 := Try.zeroValue9
  t22 := Try.underlying36
  a22 := Try.isAgg36
  z22 := Try.sizeOf36
  v22 := Try.zeroValue36
  t25 := Try.underlying50
  a25 := Try.isAgg50
  z25 := Try.sizeOf50
  v25 := Try.zeroValue50
  t39 := Try.underlying55
  a39 := Try.isAgg55
  z39 := Try.sizeOf55
  v39 := Try.zeroValue55
  t45 := Try.underlying58
  a45 := Try.isAgg58
  z45 := Try.sizeOf58
  v45 := Try.zeroValue58
  t46 := Try.underlying59
  a46 := Try.isAgg59
  z46 := Try.sizeOf59
  v46 := Try.zeroValue59
  t50 := Try.underlying42
  a50 := Try.isAgg42
  z50 := Try.sizeOf42
  v50 := Try.zeroValue42
  t53 := Try.underlying65
  a53 := Try.isAgg65
  z53 := Try.sizeOf65
  v53 := Try.zeroValue65
  t55 := Try.underlying67
  a55 := Try.isAgg67
  z55 := Try.sizeOf67
  v55 := Try.zeroValue67
  t66 := Try.underlying68
  a66 := Try.isAgg68
  z66 := Try.sizeOf68
  v66 := Try.zeroValue68
  t70 := Try.underlying72
  a70 := Try.isAgg72
  z70 := Try.sizeOf72
  v70 := Try.zeroValue72
  t76 := Try.underlying74
  a76 := Try.isAgg74
  z76 := Try.sizeOf74
  v76 := Try.zeroValue74
  t77 := Try.underlying34
  a77 := Try.isAgg34
  z77 := Try.sizeOf34
  v77 := Try.zeroValue34 }
abbrev p_sortC (x : Int × Int) : Prop := True
instance : Inhabited {x : Int × Int // p_sortC x} := ⟨⟨(0, 0), trivial⟩⟩
theorem swo_sortC : Go.Sort.SWO (ltOf fun x y : {x : Int × Int // p_sortC x} => (fun x y : Int × Int => cmpI x.1 y.1) x.1 y.1) := by
  have key : ∀ x y : {x : Int × Int // p_sortC x}, ltOf (fun x y : {x : Int × Int // p_sortC x} => (fun x y : Int × Int => cmpI x.1 y.1) x.1 y.1) x y = decide (x.1.1 < y.1.1) := fun x y => decide_eq_decide.2 (by simp only [cmpI]; split <;> (try split) <;> omega)
  exact ⟨fun x => by rw [key]; simp, fun x y z h1 h2 => by rw [key] at *; simp at *; omega, fun x y z h1 h2 => by rw [key] at *; simp at *; omega⟩
theorem sortN_sortC {c : FuncId} {cb : Array Value} : SortsN Try.prog 22 c cb := fun p cap w => by
  have h := AnyF.slices_SortFunc_none sortC p cap (.func (.func c) #[] cb) w
  exact h
theorem tiC : Gv.TI Try.prog 38 (.agg #[(.int .i64 0), (.int .i64 0)]) 2 16 := by unfold Gv.TI; kernel_rfl
theorem sortK_sortC : SortsK Try.prog 22 23 #[] (eP.sub p_sortC) (fun x y => (fun x y : Int × Int => cmpI x.1 y.1) x.1 y.1) := fun blk cap d w hc hH hb hs => by
  have h := AnyQ.slices_SortFunc sortC 2 (Gv.isAgg_of Try.underlying38 rfl) (Gv.sizeOf_of tiC) (eP.sub p_sortC).enc (eP.sub p_sortC).len (eP.sub p_sortC).one (fun x y => (fun x y : Int × Int => cmpI x.1 y.1) x.1 y.1) swo_sortC 23 #[] blk 0 cap d w (enters_of Try.func23 (by kernel_rfl) rfl) hc hH hb hs
  exact h
theorem noDR {p : Prop} (h : Gv.DR) : p := (show False from h).elim
theorem kb_of {w W : World} (h : Below w.heap.size w W) : KB No w W := ⟨h.os, h.tape, h.output, fun d => noDR d, h.size, fun k hk _ => h.block k hk⟩
theorem kb_put {S : Nat → Prop} {W : World} {D : Nat} {o : Obj} (hD : S D) : KB S W (W.putObj D o) := ⟨rfl, rfl, rfl, fun d => noDR d, by simp [World.putObj], fun k hk hn => World.putObj_heap_other (fun e => hn (e ▸ hD))⟩
theorem wfI {x : Int} (h1 : -9223372036854775808 ≤ x) (h2 : x ≤ 9223372036854775807) : (Lit.int .i64 x).wf = true := by
  simp [Lit.wf, IntKind.min, IntKind.max, IntKind.signed, IntKind.bits]; omega
theorem key_none {w W : World} {v : Value} {e : TypeId} {s n : Nat} {xs : List Value} (h : W.ownsRow w.heap.size e s v n xs) : ∀ k ∈ Gv.Value.keys v, w.heap.size ≤ k := fun k hk => by
  rcases h.2 with ⟨rfl, _⟩ | ⟨g, cap, cur, rfl, hb, _⟩
  · simp [Gv.Value.keys, Value.ownBlock] at hk
  · simp [Gv.Value.keys, Value.ownBlock] at hk; omega
set_option maxRecDepth 100000 in
set_option maxHeartbeats 4000000 in
theorem counts_calls {w : World} {A : Option Addr} {n c : Nat} {l : List Int} (hl : St No w (Rd eI (.slice A n c) l)) (hn : l.length = n) (hlen : l.length ≤ 1000000) (hwf : ∀ x ∈ l, (Lit.int .i64 x).wf = true) :
    Calls Try.prog 15 #[.slice A n c] w fun e w' => ∃ v, e = .returned v ∧ (fun v w' => ∃ (A0' : Option Addr) (c0' : Nat), v = .slice A0' (CNT l).length c0' ∧ SH w No w' [rowE eP 38 (.slice A0' (CNT l).length c0') (CNT l)]) v w' := by
  refine (callsIn_wide (n := 8)).1 ?_
  obtain ⟨i0, hi, hz0, hz1, hz2⟩ := info_parts infoC
  have hlA : St No (w.alloc (.cells #[.slice none 0 0] 36)) (Rd eI (.slice A n c) l) := fun w' hk => hl w' ((KB.alloc w _).transN hk)
  refine callsIn_of_wp_marks Try.func15 rfl trivial ?_ rfl
  simp only [Try.ntmps15, List.size_toArray, List.length_cons, List.length_nil, Nat.reduceAdd, Nat.reduceSub, Array.replicate_succ, Array.replicate_zero, List.push_toArray, List.append_toArray, List.nil_append, List.cons_append]
  gi_wp2_with (first
    | ((first | refine ⟨trivial, fun _ => by omega, ?_⟩ | refine ⟨trivial, ?_⟩ | skip); gi_at_call 21; refine (callsIn_wide.2 (Ytpgpiljnmhpnhaa.often_calls hlA hn hlen)).mono ?_; rintro e w1 ⟨_, rfl, b, rfl, hS⟩)
    | ((first | refine ⟨trivial, fun _ => by omega, ?_⟩ | refine ⟨trivial, ?_⟩ | skip); gi_at_call 20; refine (all_in Fence.wide _ trivial rfl _ _).mono ?_; rintro e w' ⟨rfl, rfl⟩))
  have hof := Itn.oft_nodup l
  have hol := Itn.oft_len l
  have hml : (2000000 : Nat) ≤ maxLen := by unfold maxLen; omega
  obtain ⟨D0, hown, hhas, hval, hsz⟩ := owns_of (w := w1) hS.hd (fun p hp => ⟨hwf _ ((hof.2.1 _).1 (List.mem_map.2 ⟨p, hp, rfl⟩)), by
    have h1 := hof.2.2 p hp
    have h2 := List.count_le_length (a := p.1) (l := l)
    exact wfI (by omega) (by omega)⟩) hof.1 (by omega)
  have hs1 : w.heap.size + 1 ≤ w1.heap.size := by have := hS.kb.size; simpa using this
  have bO : Boxed w1 w.heap.size 36 (.slice none 0 0) := (hS.kb.blk w.heap.size (by simp) fun h => h).trans (Boxed.new w 36 (.slice none 0 0))
  have bN := Boxed.new w1 46 (.map (some b))
  have hB0 : Below w.heap.size w (w1.alloc (.cells #[.map (some b)] 46)) := ((KB.alloc w _).transN hS.kb).below.alloc (by omega) _
  refine wpIn_rangeFunc_ownG rfl (by omega) (gf := 27) (lb := #[.pointer (some ⟨w1.heap.size, 0, none⟩)]) rfl trivial (enters_of Try.func27 (by kernel_rfl) rfl)
    (seqStopsA_iff.1 (all_stops Fence.wide _ trivial rfl (by omega) w1.heap.size b _ D0 _ (by simp) bN.cell (hown.alloc _))) walksK_t walksK_b (Below.refl _ _) (fun _ => rfl)
    (fun pre W => (∃ v, Boxed W w.heap.size 36 v ∧ W.ownsRow w.heap.size 38 2 v pre.length (eP.cells pre) ∧ True) ∧ Below w.heap.size w W)
    (fun _ _ _ => False)
    (OwnFrom.and (Own.from (holdsRow_own w.heap.size w.heap.size 36 38 2 (fun pre : List (Int × Int) => pre.length) (fun pre => eP.cells pre) (fun _ _ => True)) _) (ownFrom_below (Nat.le_refl _) (by simp; omega)))
    (fun _ _ _ _ _ hs _ _ => hs)
    ⟨⟨_, bO.alloc _, World.ownsRow_nil _ _ _ _, trivial⟩, hB0⟩
    (fun x => { tmps := #[.slice A n c, undef, .slice none 0 0, .pointer (some ⟨w.heap.size, 0, none⟩), .int .i64 x.1, .int .i64 x.2, .slice A n c, .map (some b), .func (.func 27) #[] #[.pointer (some ⟨w1.heap.size, 0, none⟩)], .int .i64 x.1, .int .i64 x.2, undef, undef, undef, undef, undef, undef, undef, undef, undef], defers := [] }) ?assign ?body ?done ?stop
  case assign =>
    intro l' x W K hK
    gi_wp2
    exact hK
  case body =>
    rintro l' pre x W ⟨⟨v, hv, hrow, _⟩, hB⟩ hlt
    have hc := hv.cell
    gi_wp2_with (gi_at_builtin; refine wpListIn_append_own _ rfl _ _ 36 rfl w.heap.size 38 i0 (.agg #[.int .i64 0, .int .i64 0]) 2 16 Try.underlying36 hi hz0 hz1 hz2 rfl (by decide) _ _ _ rfl (hrow.alloc _) ⟨W.heap.size, 0, none⟩ 1 1 [.int .i64 x.1, .int .i64 x.2] rfl rfl (cell_two_new _ _ _ _) (by simp [Value.oneCell']) (by omega) (by omega) (by have := hB.size; simp; omega) ?_; intro v' w2 hown' hgrow _; obtain ⟨g', cap', rfl⟩ := ownsRow_succ hown'; obtain ⟨hv1, hv2, hr2, hk2, hb2⟩ := hv.appended (by decide) hrow hB.size (Nat.le_refl _) hown' hgrow; have hc1 := hv1.cell; have hf1 := hv1.frozen)
    exact ⟨hk2.from _, hk2.walks, ⟨_, hv2, (by rw [List.length_append, El.cells_append]; exact hr2)⟩, hB.trans hb2⟩
  case done =>
    rintro D ys W hD ⟨h1, h2, h3⟩ ⟨⟨v, hv, hrow, _⟩, hB⟩ hK
    have hc := hv.cell
    have hR : Row eP 38 v ys W := ⟨hrow.1, hrow.2.imp id fun ⟨g, cap, cur, a, _, rest⟩ => ⟨g, cap, cur, a, Nat.zero_le _, rest⟩⟩
    have hyl : ys.length ≤ l.length := by
      have := Itn.nd_len h1 (b := (oft l).map (·.1)) fun x hx => (hhas x).1 ((h2 x).1 hx)
      rw [List.length_map, List.length_map] at this; omega
    have hSH : SH W (· ∈ Gv.Value.keys v) W [rowE eP 38 v ys] := ⟨KB.refl _ _, by simpa using Gv.Row.ok hR, by simpa [Gv.keys, rowE] using Gv.keys_nodup v, fun k hk _ => by simpa [Gv.keys, rowE] using hk⟩
    have hnb : w.heap.size ∉ Gv.Value.keys v := fun h => by
      have := hv.not_row (by decide) hrow
      rcases hrow.2 with ⟨rfl, _⟩ | ⟨g, cap, cur, rfl, _⟩
      · simp [Gv.Value.keys, Value.ownBlock] at h
      · simp [Gv.Value.keys, Value.ownBlock] at h this; omega
    have hnd : D ∉ Gv.Value.keys v := fun h => by
      rcases hrow.2 with ⟨rfl, _⟩ | ⟨g, cap, cur, rfl, _, hg, _⟩
      · simp [Gv.Value.keys, Value.ownBlock] at h
      · simp [Gv.Value.keys, Value.ownBlock] at h; subst h; rw [hg] at hK; cases hK
    have hDl : D < W.heap.size := (Array.getElem?_eq_some_iff.1 hK).1
    gi_wp2_with ((first | refine ⟨trivial, fun _ => by omega, ?_⟩ | refine ⟨trivial, ?_⟩ | skip); gi_at_call 22; refine (callsIn_wide.2 (sort_callsP (p := p_sortC) (cf := fun x y : Int × Int => cmpI x.1 y.1) sortN_sortC sortK_sortC hSH (fun _ _ => trivial) (fun W' hW' x y _ _ => by rw [Array.append_empty]; exact (callsIn_wide.1 (cmpD_in 5 (by omega) x y W')).mono fun e w' ⟨he, hw⟩ => ⟨he, hw ▸ (KB.alloc _ _).transN (KB.alloc _ _), hw ▸ Nat.le_refl _⟩) (by omega))).mono ?_; rintro e w2 ⟨_, rfl, zs, rfl, hpm, hpw, hS2, hk2⟩; have hv2 : Boxed w2 w.heap.size 36 v := (hk2.blk _ hv.lt hnb).trans hv; have hc2 := hv2.cell; have hK2 : w2.heap[D]? = some (.deferred (some [])) := (hk2.blk _ hDl hnd).trans hK)
    obtain ⟨A', c', rfl⟩ := (Row.rd hS2.hd).len
    have hz : zs = CNT l := Itn.CNT_srt h1 (fun x => by rw [h2 x, hhas x, hof.2.1 x]) (fun p hp => hof.2.2 p (hval p (h3 p hp))) hpm (hpw.imp fun {a b} h hlt => by have h2 : 0 ≤ cmpI b.1 a.1 := by { first | exact h | exact Int.not_lt.1 h }; unfold cmpI at h2; rw [if_pos hlt] at h2; omega)
    subst hz
    refine ⟨by simp, .inl ⟨_, _, rfl, run_takeDeferred hK2, ?_⟩⟩
    refine ⟨_, results_tmp rfl _ _ _, _, rfl, A', c', rfl, ?_⟩
    have hkey := key_none hrow
    have hs2 : w.heap.size + 1 ≤ D := by simp at hD; omega
    refine ⟨((kb_of hB).trans (S := No) hk2 fun i hi h => by have := hkey i h; omega).trans (S := No) (kb_put (S := (· = D)) rfl) (fun i hi h => by subst h; omega), ?_, ?_, ?_⟩
    · intro e he
      rw [List.mem_singleton] at he
      subst he
      exact Gv.Row.ok (ownsRow_putObj hS2.hd _ hK2 rfl)
    · simpa [Gv.keys, rowE] using Gv.keys_nodup (.slice A' (CNT l).length c')
    · intro k hk hlt
      have := hkey k (by simpa [Gv.keys, rowE] using hk)
      omega
  case stop =>
    rintro D c pre W _ _ h _
    exact h.elim
end Go.Proofs
