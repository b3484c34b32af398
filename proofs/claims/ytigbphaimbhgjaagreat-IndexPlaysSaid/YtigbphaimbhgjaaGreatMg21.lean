/- strings.Builder: pointers compared, its check, its bytes as a string. -/
import Derived.Test.YtigbphaimbhgjaaGreatMg3
import Derived.Test.YtigbphaimbhgjaaGreatMg4
import Derived.Shelf.Strings.Builder1
import Derived.Shelf.Lay
import Derived.Test.YtigbphaimbhgjaaGreatMg20
namespace Go.Gv
open Go Go.RowKit Go.Proofs Go.Shelf
section
variable {P : Program} {f : Env} {w w0 : World} {S : Nat → Prop} {L : List Ent} {d : Option Tmp} {ty : TypeId} {ps : String} {af : Array Edge} {gd : Option (Nat × Bool)}
/-- A builder's own place, as it holds it: none yet, or where it is. -/
def BP (p : Value) (b : Nat) : Prop := p = .pointer none ∨ p = .pointer (some ⟨b, 0, none⟩)
theorem LV.eqPN {t t2 te : TypeId} {x y : Operand} (ht : P.underlying t = some (.pointer te)) (hx : ev f x = some (.pointer none)) (hy : ev f y = some (.pointer none)) : LV P ⟨d, .binOp .eql t x y t2, ty, ps, af, gd⟩ f w (.bool true) := fun a ha => by
  have h : ∀ k : Nat, (Op.equalIn (k + 1) t (.pointer none) (.pointer none)).run P w = .ok true w := fun k => by simp [Op.equalIn, run_underlying ht]
  simp [execOp, ev_eval ha hx, ev_eval ha hy, eqGuard, binOp, Op.equal, Op.maxDepth, h 9999]
theorem LV.eqPS {t t2 te : TypeId} {x y : Operand} {p : Addr} (ht : P.underlying t = some (.pointer te)) (hx : ev f x = some (.pointer (some p))) (hy : ev f y = some (.pointer none)) : LV P ⟨d, .binOp .eql t x y t2, ty, ps, af, gd⟩ f w (.bool false) := fun a ha => by
  have h : ∀ k : Nat, (Op.equalIn (k + 1) t (.pointer (some p)) (.pointer none)).run P w = .ok false w := fun k => by simp [Op.equalIn, run_underlying ht]
  simp [execOp, ev_eval ha hx, ev_eval ha hy, eqGuard, binOp, Op.equal, Op.maxDepth, h 9999]
theorem LV.nePP {t t2 te : TypeId} {x y : Operand} {p : Addr} {z : Value} {sz by_ : Nat} (ht : P.underlying t = some (.pointer te)) (hi : TI P te z sz by_) (hx : ev f x = some (.pointer (some p))) (hy : ev f y = some (.pointer (some p))) : LV P ⟨d, .binOp .neq t x y t2, ty, ps, af, gd⟩ f w (.bool false) := fun a ha => by
  obtain ⟨j, hj, _⟩ := hi.get
  have h := Lib.run_neq_ptr_same (P := P) w p ht hj
  simp [execOp, ev_eval ha hx, ev_eval ha hy, eqGuard, h]
theorem LV.toUns {src dst T U : TypeId} {x : Operand} {b sz by_ : Nat} {z : Value} {cs : Array Value} (hs : P.underlying src = some (.pointer T)) (hd : P.underlying dst = some .unsafePointer) (hi : TI P T z sz by_) (hz : sz ≠ 0) (hb : w.heap[b]? = some (.cells cs U (0, 0))) (h0 : 0 < cs.size)
    (hx : ev f x = some (.pointer (some ⟨b, 0, none⟩))) : LV P ⟨d, .convert src dst x, ty, ps, af, gd⟩ f w (.pointer (some ⟨b, 0, none⟩)) := fun a ha => by
  obtain ⟨j, hj, _, hs2, _⟩ := hi.get
  have h := Lib.run_to_unsafe (P := P) w ⟨b, 0, none⟩ hs hd hj (by omega) (show w.shape? b = some (U, cs.size) by simp [World.shape?, hb]) h0
  simp [execOp, ev_eval ha hx, h]
theorem LV.fromUns {src dst T : TypeId} {x : Operand} {b sz by_ : Nat} {z : Value} {cs : Array Value} (hs : P.underlying src = some .unsafePointer) (hd : P.underlying dst = some (.pointer T)) (hi : TI P T z sz by_) (hb : w.heap[b]? = some (.cells cs T (0, 0)))
    (hl : liesAt P P.depth T (cs.size / P.cellsOf T) 0 T 1 = true) (hx : ev f x = some (.pointer (some ⟨b, 0, none⟩))) : LV P ⟨d, .convert src dst x, ty, ps, af, gd⟩ f w (.pointer (some ⟨b, 0, none⟩)) := fun a ha => by
  obtain ⟨j, hj, _⟩ := hi.get
  have h := Lib.run_from_unsafe (P := P) w ⟨b, 0, none⟩ hs hd hj (show w.shape? b = some (T, cs.size) by simp [World.shape?, hb]) hl
  simp [execOp, ev_eval ha hx, h]
theorem LV.noEsc {g : FuncId} {fn : Func} {c x : Operand} {ats : Array TypeId} {v : Value} (hf : P.funcs[g]? = some fn) (hname : (fn.name == "runtime.NumGoroutine") = false) (hb : fn.body.isNone = true) (hn : Extern.findNext fn = none) (he : Extern.find fn = some Extern.AbiNoEscape.same)
    (hc : ev f c = some (.func (.func g) #[] #[])) (hx : ev f x = some v) : LV P ⟨d, .call { callee := .value c, args := #[x], argTypes := ats }, ty, ps, af, gd⟩ f w v := fun a ha => by
  have h := run_callFunc_extern hf hname hb hn he #[v] w
  have h2 : (Extern.AbiNoEscape.same #[v]).run P w = .ok v w := Lib.run_noEscape w v
  rw [h2] at h
  have h3 : (callFunc g #[v]).run P w = .ok (.value v) w := h
  simp [execOp, resolve, Deferred.ofValue, ev_eval ha hc, ev_eval ha hx, invoke, h3]
theorem keys_row1 {α : Type} {E : El α} {T : TypeId} {v : Value} {xs : List α} : keys [rowE E T v xs] = Value.keys v := by simp [keys, rowE]
theorem kb_freeze (w : World) (p : Addr) (n : Nat) : KB (· = p.block) w (w.freeze p n) := by
  unfold World.freeze
  split
  · exact KB.refl _ _
  · exact ⟨rfl, rfl, rfl, fun _ => Nat.le_refl _, by simp, fun k hk hn => by
      simp only [Array.getElem?_modify]
      rw [if_neg (fun e => hn e.symm)]⟩
/-- Where a slice's elements begin, if it has some. -/
def UD (v : Value) (ad : Option Addr) : Prop := ∀ A n c, v = .slice A n c → n ≠ 0 → ad = A
theorem XE.usd {t e e2 : TypeId} {x : Operand} {v : Value} {s : ByteArray} (h : SH w0 S w (rowE eU8 e v (bytesOf s) :: L)) (hx : ev f x = some v) (hty : P.underlying ty = some (.pointer e2)) :
    XE P ⟨d, .call { callee := .builtin .unsafeSliceData, args := #[x], argTypes := #[t] }, ty, ps, af, gd⟩ f w (fun v' w' => ∃ ad, v' = .pointer ad ∧ UD v ad ∧ SH w0 S w' (rowE eU8 e v (bytesOf s) :: L) ∧ KB No w w') := by
  have hR : Row eU8 e v (bytesOf s) w := h.hd
  rcases hR.2 with ⟨rfl, hn⟩ | ⟨g, cap, cur, rfl, _, hg, hnc, hcm, hcs, ht⟩
  · refine ⟨.pointer none, w, fun a ha => ?_, none, rfl, fun A n c e h0 => by cases e; exact absurd rfl h0, h, KB.refl _ _⟩
    have hr := Lib.run_unsafeSliceData_nil (P := P) w #[t] ty 0 0
    simp [execOp, resolve, invoke, builtin, ev_eval ha hx, hr]
  · by_cases hc : cap = 0
    · subst hc
      refine ⟨_, _, fun a ha => ?_, some ⟨w.heap.size, 0, none⟩, rfl, fun A n c e h0 => ?_, h.same (KB.alloc w (.view ⟨g, 0, none⟩ e2)), KB.alloc w _⟩
      · have hr := Lib.run_unsafeSliceData_zero (P := P) w #[t] ty e2 hty ⟨g, 0, none⟩ (bytesOf s).length (e, cur.size) (by simp [World.shape?, hg])
        simp [execOp, resolve, invoke, builtin, ev_eval ha hx, hr]
      · injection e with _ e2 _
        omega
    · refine ⟨_, w, fun a ha => ?_, some ⟨g, 0, none⟩, rfl, fun A n c e _ => by cases e; rfl, h, KB.refl _ _⟩
      have hr := Lib.run_unsafeSliceData_row (P := P) w #[t] ty ⟨g, 0, none⟩ (bytesOf s).length cap hc
      simp [execOp, resolve, invoke, builtin, ev_eval ha hx, hr]
theorem cells_byte (s : ByteArray) (j : Nat) (x : UInt8) (h : s.data.toList[j]? = some x) : (eU8.cells (bytesOf s))[j]? = some (.int .u8 x.toNat) := by
  have h2 := eU8.cells_get (bytesOf s) j (x.toNat : Int) 0 (.int .u8 x.toNat) (by unfold bytesOf; rw [List.getElem?_map, h]; rfl) rfl
  simpa [eU8] using h2
theorem addr_at (g j : Nat) : (⟨g, 0, none⟩ : Addr).add j = ⟨g, j, none⟩ := by unfold Addr.add; split <;> simp_all
theorem XE.us {pt it e : TypeId} {x y : Operand} {A : Option Addr} {n c : Nat} {ad : Option Addr} {s : ByteArray} (h : SH w0 S w (rowE eU8 e (.slice A n c) (bytesOf s) :: L)) (hn : n = s.size) (hx : ev f x = some (.pointer ad)) (hy : ev f y = some (.int .i64 n))
    (hu : UD (.slice A n c) ad) (hp : P.underlying pt = some (.pointer e)) (hc : P.cellsOf e = 1) :
    XE P ⟨d, .call { callee := .builtin .unsafeString, args := #[x, y], argTypes := #[pt, it] }, ty, ps, af, gd⟩ f w (fun v' w' => v' = .string s ∧ SH w0 S w' L ∧ KB (· ∈ Value.keys (.slice A n c)) w w') := by
  have hR : Row eU8 e (.slice A n c) (bytesOf s) w := h.hd
  have hl := bytesOf_len s
  by_cases h0 : n = 0
  · subst h0
    have hs : s = ByteArray.empty := by
      have h2 : s.data.toList = [] := List.eq_nil_of_length_eq_zero (by rw [Array.length_toList]; exact hn.symm)
      have : s.data = #[] := by simpa using h2
      exact ByteArray.ext this
    subst hs
    refine ⟨_, w, fun a ha => ?_, rfl, h.tail, KB.refl _ _⟩
    have hr := Lib.run_unsafeString_none (P := P) w pt it ty ad
    have hy' : ev f y = some (.int .i64 0) := hy
    simp [execOp, resolve, invoke, builtin, ev_eval ha hx, ev_eval ha hy', hr]
  · have had := hu A n c rfl h0
    subst had
    rcases hR.2 with ⟨he, hz⟩ | ⟨g, cap, cur, he, _, hg, hnc, hcm, hcs, ht⟩
    · omega
    · injection he with e1 e2 e3
      subst e1 e3
      have hsz : s.data.toList.length = s.size := by rw [Array.length_toList]; rfl
      have h63 : cur.size ≤ maxLen := by rw [hcs]; show c * 1 ≤ maxLen; omega
      have hmx : maxLen ≤ 9223372036854775807 := by unfold maxLen; omega
      have hcw : c = cur.size := by rw [hcs]; exact (Nat.mul_one c).symm
      refine ⟨_, _, fun a ha => ?_, rfl, ?_, (kb_freeze w ⟨g, 0, none⟩ s.size).mono fun i hi => by simp [Value.keys, Value.ownBlock, hi]⟩
      · have hr := Lib.run_unsafeString_row (P := P) w pt it ty e hp hc g cur.size (by simp [World.shape?, hg]) s.data.toList (by intro h2; rw [h2] at hsz; simp at hsz; omega) (by omega) (by omega) (fun j x hj => by
          have hlt : j < s.data.toList.length := (List.getElem?_eq_some_iff.1 hj).1
          have h3 := cells_byte s j x hj
          rw [← ht, List.getElem?_take, if_pos (by show j < (bytesOf s).length * 1; omega), Array.getElem?_toList] at h3
          rw [addr_at g j, cell_of_row w g j cur e (0, 0) hg]
          exact h3)
        have hy' : ev f y = some (.int .i64 s.size) := by rw [← hn]; exact hy
        have hs2 : (⟨s.data.toList.toArray⟩ : ByteArray) = s := by simp
        rw [hs2, hsz] at hr
        simp [execOp, resolve, invoke, builtin, ev_eval ha hx, ev_eval ha hy', hr]
      · exact SH.step (Es := [rowE eU8 e (.slice (some ⟨g, 0, none⟩) n c) (bytesOf s)]) (Es' := []) h ((kb_freeze w ⟨g, 0, none⟩ _).mono fun i hi => by rw [keys_row1]; simp [Value.keys, Value.ownBlock, hi]) (by simp) (by simp [keys]) (by simp [keys])
theorem bytesOf_lit (c : Int) (h0 : 0 ≤ c) (h1 : c ≤ 255) : bytesOf ⟨#[c.toNat.toUInt8]⟩ = [c] := by
  unfold bytesOf
  simp
  omega
end
end Go.Gv

namespace Go.Proofs.YtigbphaimbhgjaaGreat
open Go Go.Gv Go.RowKit Go.Tly Go.Wds Go.Idx
set_option linter.unusedVariables false
set_option linter.unusedSimpArgs false
theorem ti58 : TI Tryz.prog 58 (.map none) 1 8 := by unfold TI; kernel_rfl
theorem ti59 : TI Tryz.prog 59 (.slice none 0 0) 1 24 := by unfold TI; kernel_rfl

theorem find_calls {w : World} {X : IXS} {n_X : Nat} {word : ByteArray} {o : Lb} (h_X : St No w (IXR 62 X)) (hv_X : IXW n_X X) (hm_X : n_X ≤ 30) (hs : word.size ≤ 140737488355328) (wo : 0 ≤ o.2 ∧ o.2 < 18446744073709551616) :
    Calls Tryz.prog 13 #[(.pointer (some ⟨X.b, 0, none⟩)), (.string word), (.agg #[(.int .i64 ((o).1)), (.int .u64 ((o).2))])] w fun e w' => ∃ v, e = .returned v ∧ (fun v w' => ∃ (A0' : Option Addr) (c0' : Nat), v = .slice A0' (FIND X.F (LOW word) o).length c0' ∧ SH w No w' [rowE eSI 49 (.slice A0' (FIND X.F (LOW word) o).length c0') (FIND X.F (LOW word) o)]) v w' := by
  have hS : SH w No w [] := SH.nil _ _
  refine calls (l := litOf [(.pointer (some ⟨X.b, 0, none⟩)), (.string word), (.agg #[(.int .i64 ((o).1)), (.int .u64 ((o).2))])] 0) Tryz.func13 rfl (n := 45) rfl (Nat.le_of_ble_eq_true rfl) (lit_args _) ?_
  refine WC.seq ?_
  refine WC.region ?_
  refine WL.xe rfl (XE.box #[(.int .i64 ((o).1)), (.int .u64 ((o).2))] hS rfl rfl) ?_
  rintro _ w1 ⟨b1, rfl, hS1, hk1⟩
  refine WL.lv rfl (LV.asg rfl) ?_
  refine WL.nil (thenQ.n ?_)
  refine WC.seq ?_
  refine WC.region ?_
  have hS2 := SH.nilRow (E := eSI) (T := 49) hS1
  refine WL.lv rfl (LV.asg rfl) ?_
  refine WL.nil (thenQ.n ?_)
  iterate 2 refine WC.seq ?_
  refine WC.region ?_
  refine WL.lv rfl (LV.mv rfl) ?_
  refine WL.lv rfl (LV.eqPS Tryz.underlying27 rfl rfl) ?_
  refine WL.nil (thenQ.n ?_)
  refine WC.condF rfl ?_
  refine WC.skip (thenQ.n ?_)
  iterate 2 refine WC.seq ?_
  have hS3 := SH.drew hS2
  refine WC.regionD [] (fun _ => True) [(.pure, 0), (.pure, 1), (.pure, 2), (.pure, 4), (.pure, 8), (.fork, 0), (.fork, 0), (.fork, 0), (.fork, 0)] (by kernel_rfl) (by kernel_rfl) trivial ?_
  refine WS.pure rfl rfl (fun _ => LV.mv rfl) ?_
  refine WS.pure rfl rfl (fun _ => LV.nilCheck rfl) ?_
  refine WS.pure rfl rfl (fun _ => LV.fieldA Tryz.underlying62 rfl ti58.sz rfl) ?_
  iterate 2 refine WS.pure rfl rfl (fun _ => LV.mv rfl) ?_
  refine WS.fork (WSX.two 3 5 (by kernel_rfl) ?_ ?_)
  · refine WO.lvT rfl rfl (LV.load1 Tryz.underlying58 rfl rfl (Blk.cellN (SH.arg hS3 (h_X.imp fun _ h_ => h_.1)) 1 rfl _ (KB.refl No _))) ?_
    refine WSX.of [(.forced, 5), (.forced, 6), (.pure, 7)] (by kernel_rfl) rfl ?_
    refine WS.call rfl rfl (XC.fn Tryz.func33 (by kernel_rfl) rfl rfl rfl) (lower_calls (s := word) (by omega)) ?_
    rintro v_ w2 ⟨rfl, hk2⟩
    have hS4 := SH.same hS3 hk2
    refine ⟨fun h_ => trivial, ?_⟩
    obtain ⟨es1, hp1, ha1⟩ := ROWS.at hv_X.rs (LOW word)
    obtain ⟨A1, c1, hv1, hr1⟩ := look_at ha1 (h_X.imp fun _ h_ => h_.2.2.2.2)
    have hel_ := hp1.length_eq
    have heb_ := en_bd hv_X.sm hv_X.ln (LOW word)
    refine WS.lvT rfl rfl (LV.to hv1 (LV.lookG (q := (LOW word)) (V := kV) (z := svZ) (key_str Tryz.underlying9) Tryz.underlying58 ti59 (SH.arg hS4 (h_X.imp fun _ h_ => h_.2.2.1)) rfl rfl)) ?_
    refine WS.pure rfl rfl (fun _ => LV.lenL Tryz.underlying59 rfl) ?_
    refine WS.nil (thenQ.n ?_)
    refine WC.block ?_
    refine WC.loop (fun m_ f_ w_ => ∃ (A_out : Option Addr) (c_out : Nat) (out : List En) (ix : Int), (0 ≤ ix) ∧ (ix ≤ (es1.length : Int)) ∧ (out = (es1.take ix.toNat).filterMap (HITF X.F o)) ∧ ((out.length : Int) ≤ ix) ∧ SH w No w_ [rowE eSI 49 (.slice A_out out.length c_out) out, blkE b1 26 #[(.int .i64 ((o).1)), (.int .u64 ((o).2))]] ∧ m_ = (((es1.length : Int) - ix).toNat) ∧ Weak (lit [(0, (.pointer (some ⟨X.b, 0, none⟩))), (5, (.pointer (some ⟨b1, 0, none⟩))), (7, (.slice A_out out.length c_out)), (20, (.slice A1 es1.length c1)), (21, (.int .i64 (es1.length : Int))), (22, (.int .i64 ix))]) f_) _ ⟨none, 0, [], 0, by omega, by omega, rfl, (by simp), hS4, rfl, Weak.cons rfl <| Weak.cons rfl <| Weak.cons rfl <| Weak.cons rfl <| Weak.cons rfl <| Weak.cons rfl <| Weak.nil _⟩ ?_
    rintro m1 f1 w3 ⟨A_out, c_out, out, ix, ixlo, ixhi, q1, q2, hL1, rfl, hw1⟩
    refine WC.weak hw1 ?_
    clear hw1
    refine WC.seq ?_
    refine WC.region ?_
    refine WL.lv rfl (LV.ltI rfl rfl) ?_
    refine WL.nil (thenQ.n ?_)
    refine WC.seq ?_
    refine WC.condP (p := ix < (es1.length : Int)) rfl (fun hc1 => ?_) (fun hc1 => ?_)
    · skip
      refine WC.skip (thenQ.n ?_)
      refine WC.seq ?_
      refine WC.block ?_
      refine WC.seq ?_
      refine WC.region ?_
      have hat_ := hit_at (F := X.F) (o := o) ixlo (show ix < (es1.length : Int) by omega)
      have hme_ := hp1.mem_iff.1 (getD_mem (l := es1) (d := (ByteArray.empty, 0)) (i := ix.toNat) (by omega))
      have hen_ := en_look hv_X.ns hme_
      obtain ⟨A2, c2, e1, g1⟩ := St.elt (SH.stN hL1 hr1) (ByteArray.empty, 0) ix (by omega) (by omega)
      refine WL.lv rfl (LV.idxA Tryz.underlying59 ti76.sz rfl e1 rfl (by omega) (by omega)) ?_
      refine WL.lv rfl (LV.loadAgg (cs := [(.string ((es1.getD (ix).toNat (ByteArray.empty, 0)).1)), (.int .i64 ((es1.getD (ix).toNat (ByteArray.empty, 0)).2))]) Tryz.underlying76 rfl ti76 rfl rfl (fun j u hu => g1 _ (KB.refl No _) j u hu)) ?_
      refine WL.xe rfl (XE.alloc #[(.string ⟨#[]⟩), (.int .i64 0)] hL1 ti76 rfl) ?_
      rintro _ w4 ⟨b2, rfl, hS5, hk3⟩
      refine WL.xse rfl (XSE.blkAgg #[(.string ((es1.getD (ix).toNat (ByteArray.empty, 0)).1)), (.int .i64 ((es1.getD (ix).toNat (ByteArray.empty, 0)).2))] hS5 (by kernel_rfl) rfl (by kernel_rfl) rfl rfl) ?_
      rintro w5 ⟨hS6, hk4⟩
      refine WL.nil (thenQ.n ?_)
      refine WC.seq ?_
      refine WC.region ?_
      refine WL.lv rfl (LV.mv rfl) ?_
      refine WL.lv rfl (LV.loadAgg (cs := [(.string ((es1.getD (ix).toNat (ByteArray.empty, 0)).1)), (.int .i64 ((es1.getD (ix).toNat (ByteArray.empty, 0)).2))]) Tryz.underlying76 rfl ti76 rfl rfl (Blk.agg (SH.at hS6 (.head _)) _ (KB.refl No _))) ?_
      refine WL.lv rfl (LV.loadAgg (cs := [(.int .i64 ((o).1)), (.int .u64 ((o).2))]) Tryz.underlying26 rfl ti26 rfl rfl (Blk.agg (SH.at hS6 (.tail _ (.tail _ (.head _)))) _ (KB.refl No _))) ?_
      refine WL.call rfl (XC.fn Tryz.func34 (by kernel_rfl) rfl rfl rfl) (number_calls (en := (es1.getD (ix).toNat (ByteArray.empty, 0))) (o := o) (SH.stN hS6 h_X) hv_X (by omega) (⟨hen_.1, hen_.2.1⟩) (wo)) ?_
      rintro v_ w6 ⟨rfl, hk5⟩
      have hS7 := SH.same hS6 hk5
      refine WL.lv rfl (LV.mv rfl) ?_
      iterate 2 refine WL.lv rfl (LV.extract rfl rfl) ?_
      iterate 2 refine WL.lv rfl (LV.asg rfl) ?_
      refine WL.nil (thenQ.n ?_)
      refine WC.seq ?_
      refine WC.region ?_
      refine WL.lv rfl (LV.mv rfl) ?_
      refine WL.nil (thenQ.n ?_)
      refine WC.condP (p := BEL ((LKF X.F (es1.getD (ix).toNat (ByteArray.empty, 0)).1).getD (es1.getD (ix).toNat (ByteArray.empty, 0)).2.toNat dI).2.1 o) rfl (fun hb => ?_) (fun hb => ?_)
      · skip
        refine WC.region ?_
        refine WL.lv rfl (LV.mv rfl) ?_
        refine WL.lv rfl (LV.fieldA Tryz.underlying76 rfl ti9.sz rfl) ?_
        refine WL.lv rfl (LV.load1 Tryz.underlying9 rfl rfl (Blk.cellN (SH.at hS7 (.head _)) 0 rfl _ (KB.refl No _))) ?_
        refine WL.lv rfl (LV.mv rfl) ?_
        refine WL.lv rfl (LV.build (vs := [(0, (.string ((es1.getD (ix).toNat (ByteArray.empty, 0)).1))), (1, (.int .i64 (CNTB ((LKF X.F (es1.getD (ix).toNat (ByteArray.empty, 0)).1).take ((es1.getD (ix).toNat (ByteArray.empty, 0)).2 + 1).toNat) o)))]) (places := #[(0, 1), (1, 1)]) (cs := #[(.string ((es1.getD (ix).toNat (ByteArray.empty, 0)).1)), (.int .i64 (CNTB ((LKF X.F (es1.getD (ix).toNat (ByteArray.empty, 0)).1).take ((es1.getD (ix).toNat (ByteArray.empty, 0)).2 + 1).toNat) o))]) Tryz.underlying49 ti49 (fun _ => by kernel_rfl) rfl rfl) ?_
        refine WL.xe rfl (XE.buildSlice (E := eSI) [(0, (.agg #[(.string ((es1.getD (ix).toNat (ByteArray.empty, 0)).1)), (.int .i64 (CNTB ((LKF X.F (es1.getD (ix).toNat (ByteArray.empty, 0)).1).take ((es1.getD (ix).toNat (ByteArray.empty, 0)).2 + 1).toNat) o))]))] #[(.string ((es1.getD (ix).toNat (ByteArray.empty, 0)).1)), (.int .i64 (CNTB ((LKF X.F (es1.getD (ix).toNat (ByteArray.empty, 0)).1).take ((es1.getD (ix).toNat (ByteArray.empty, 0)).2 + 1).toNat) o))] [(((es1.getD (ix).toNat (ByteArray.empty, 0)).1, CNTB ((LKF X.F (es1.getD (ix).toNat (ByteArray.empty, 0)).1).take ((es1.getD (ix).toNat (ByteArray.empty, 0)).2 + 1).toNat) o) : En)] hS7 Tryz.underlying32 ti49 rfl (by decide) (by kernel_rfl) (.inr rfl) rfl rfl (by decide)) ?_
        rintro _ w7 ⟨b3, rfl, hS8, hk6⟩
        have hS9 : SH w No w7 [rowE eSI 49 (.slice A_out out.length c_out) out, rowE eSI 49 (.slice (some ⟨b3, 0, none⟩) 1 1) [(((es1.getD (ix).toNat (ByteArray.empty, 0)).1, CNTB ((LKF X.F (es1.getD (ix).toNat (ByteArray.empty, 0)).1).take ((es1.getD (ix).toNat (ByteArray.empty, 0)).2 + 1).toNat) o) : En)], blkE b2 76 #[(.string ((es1.getD (ix).toNat (ByteArray.empty, 0)).1)), (.int .i64 ((es1.getD (ix).toNat (ByteArray.empty, 0)).2))], blkE b1 26 #[(.int .i64 ((o).1)), (.int .u64 ((o).2))]] := (SH.front [_, _] hS8)
        refine WL.xe rfl (XE.append hS9 Tryz.underlying32 ti49 rfl (St.now (SH.rd hS9 (.tail _ (.head _)))) rfl rfl (by first | omega | simp only [List.length_append, List.length_cons, List.length_nil, List.length_take, List.length_reverse, List.length_drop] at *; omega) (by first | omega | simp only [List.length_append, List.length_cons, List.length_nil, List.length_take, List.length_reverse, List.length_drop] at *; omega)) ?_
        rintro _ w8 ⟨A3, c3, rfl, hS10, hk7⟩
        refine WL.lv rfl (LV.asg rfl) ?_
        refine WL.nil (blockQ.n <| thenQ.n ?_)
        refine WC.region ?_
        refine WL.lv rfl (LV.add rfl rfl (wr64 (by omega) (by omega))) ?_
        refine WL.lv rfl (LV.mv rfl) ?_
        refine WL.nil (thenQ.n ?_)
        have hS11 : SH w No w8 [rowE eSI 49 (.slice A3 ((out ++ [(((es1.getD (ix).toNat (ByteArray.empty, 0)).1, CNTB ((LKF X.F (es1.getD (ix).toNat (ByteArray.empty, 0)).1).take ((es1.getD (ix).toNat (ByteArray.empty, 0)).2 + 1).toNat) o) : En)]).length) c3) (out ++ [(((es1.getD (ix).toNat (ByteArray.empty, 0)).1, CNTB ((LKF X.F (es1.getD (ix).toNat (ByteArray.empty, 0)).1).take ((es1.getD (ix).toNat (ByteArray.empty, 0)).2 + 1).toNat) o) : En)]), blkE b1 26 #[(.int .i64 ((o).1)), (.int .u64 ((o).2))]] := (SH.take 2 rfl (SH.front [_] (SH.front [_, _, _] hS10)))
        exact ⟨_, by omega, A3, c3, (out ++ [(((es1.getD (ix).toNat (ByteArray.empty, 0)).1, CNTB ((LKF X.F (es1.getD (ix).toNat (ByteArray.empty, 0)).1).take ((es1.getD (ix).toNat (ByteArray.empty, 0)).2 + 1).toNat) o) : En)]), ix + 1, by omega, by omega, ((by rw [hat_, if_pos hb, ← q1])), (by first | omega | (simp; omega)), hS11, rfl, Weak.cons rfl <| Weak.cons rfl <| Weak.cons rfl <| Weak.cons rfl <| Weak.cons rfl <| Weak.cons rfl <| Weak.nil _⟩
      · skip
        refine WC.skip (blockQ.n <| thenQ.n ?_)
        refine WC.region ?_
        refine WL.lv rfl (LV.add rfl rfl (wr64 (by omega) (by omega))) ?_
        refine WL.lv rfl (LV.mv rfl) ?_
        refine WL.nil (thenQ.n ?_)
        have hS12 : SH w No w6 [rowE eSI 49 (.slice A_out out.length c_out) out, blkE b1 26 #[(.int .i64 ((o).1)), (.int .u64 ((o).2))]] := (SH.take 2 rfl (SH.front [_, _] (SH.front [_, _] hS7)))
        exact ⟨_, by omega, A_out, c_out, out, ix + 1, by omega, by omega, ((by rw [hat_, if_neg hb, ← q1, List.append_nil])), (by first | omega | (simp; omega)), hS12, rfl, Weak.cons rfl <| Weak.cons rfl <| Weak.cons rfl <| Weak.cons rfl <| Weak.cons rfl <| Weak.cons rfl <| Weak.nil _⟩
    · skip
      refine WC.exit (thenQ.x <| thenQ.x <| blockQ.hit <| thenQ.n ?_)
      refine WC.seq ?_
      refine WC.region ?_
      refine WL.lv rfl (LV.mv rfl) ?_
      refine WL.call rfl (XC.fn Tryz.func35 (by kernel_rfl) rfl rfl rfl) (sort_callsK sortN_h sortK_h hL1 (fun W_ hW_ x y => by rw [Array.append_empty]; exact order_drawn W_ x y) (by omega)) ?_
      rintro v_ w9 ⟨ys1, rfl, hpm1, hpw1, hS13, hk8⟩
      refine WL.nil (thenQ.n ?_)
      refine WC.seq ?_
      refine WC.region ?_
      refine WL.lv rfl (LV.mv rfl) ?_
      refine WL.lv rfl (LV.asg rfl) ?_
      refine WL.nil (thenQ.n ?_)
      refine WC.ret (?_)
      have hS14 : SH w No w9 [rowE eSI 49 (.slice A_out out.length c_out) ys1] := (SH.take 1 rfl hS13)
      have hres1 : (ys1 : List En) = FIND X.F (LOW word) o := find_of hv_X hp1 (by rw [q1, List.take_of_length_le (by omega)]) hpm1 hpw1
      have hlen1 : ys1.length = out.length := hpm1.length_eq
      exact ⟨_, fun a ha => res1 rfl ha rfl, (by rw [← hres1, hlen1]; exact ⟨_, _, rfl, hS14⟩)⟩
  · refine WO.call rfl rfl (XC.fn Tryz.func33 (by kernel_rfl) rfl rfl rfl) (lower_calls (s := word) (by omega)) ?_
    rintro v_ w10 ⟨rfl, hk9⟩
    have hS15 := SH.same hS3 hk9
    refine ⟨fun h_ => trivial, ?_⟩
    refine WSX.of [(.forced, 3), (.forced, 6), (.pure, 7)] (by kernel_rfl) rfl ?_
    refine WS.lvT rfl rfl (LV.load1 Tryz.underlying58 rfl rfl (Blk.cellN (SH.arg hS15 (h_X.imp fun _ h_ => h_.1)) 1 rfl _ (KB.refl No _))) ?_
    obtain ⟨es2, hp2, ha2⟩ := ROWS.at hv_X.rs (LOW word)
    obtain ⟨A4, c4, hv2, hr2⟩ := look_at ha2 (h_X.imp fun _ h_ => h_.2.2.2.2)
    have hel_ := hp2.length_eq
    have heb_ := en_bd hv_X.sm hv_X.ln (LOW word)
    refine WS.lvT rfl rfl (LV.to hv2 (LV.lookG (q := (LOW word)) (V := kV) (z := svZ) (key_str Tryz.underlying9) Tryz.underlying58 ti59 (SH.arg hS15 (h_X.imp fun _ h_ => h_.2.2.1)) rfl rfl)) ?_
    refine WS.pure rfl rfl (fun _ => LV.lenL Tryz.underlying59 rfl) ?_
    refine WS.nil (thenQ.n ?_)
    refine WC.block ?_
    refine WC.loop (fun m_ f_ w_ => ∃ (A_out : Option Addr) (c_out : Nat) (out : List En) (ix : Int), (0 ≤ ix) ∧ (ix ≤ (es2.length : Int)) ∧ (out = (es2.take ix.toNat).filterMap (HITF X.F o)) ∧ ((out.length : Int) ≤ ix) ∧ SH w No w_ [rowE eSI 49 (.slice A_out out.length c_out) out, blkE b1 26 #[(.int .i64 ((o).1)), (.int .u64 ((o).2))]] ∧ m_ = (((es2.length : Int) - ix).toNat) ∧ Weak (lit [(0, (.pointer (some ⟨X.b, 0, none⟩))), (5, (.pointer (some ⟨b1, 0, none⟩))), (7, (.slice A_out out.length c_out)), (20, (.slice A4 es2.length c4)), (21, (.int .i64 (es2.length : Int))), (22, (.int .i64 ix))]) f_) _ ⟨none, 0, [], 0, by omega, by omega, rfl, (by simp), hS15, rfl, Weak.cons rfl <| Weak.cons rfl <| Weak.cons rfl <| Weak.cons rfl <| Weak.cons rfl <| Weak.cons rfl <| Weak.nil _⟩ ?_
    rintro m2 f2 w11 ⟨A_out, c_out, out, ix, ixlo, ixhi, q1, q2, hL2, rfl, hw2⟩
    refine WC.weak hw2 ?_
    clear hw2
    refine WC.seq ?_
    refine WC.region ?_
    refine WL.lv rfl (LV.ltI rfl rfl) ?_
    refine WL.nil (thenQ.n ?_)
    refine WC.seq ?_
    refine WC.condP (p := ix < (es2.length : Int)) rfl (fun hc2 => ?_) (fun hc2 => ?_)
    · skip
      refine WC.skip (thenQ.n ?_)
      refine WC.seq ?_
      refine WC.block ?_
      refine WC.seq ?_
      refine WC.region ?_
      have hat_ := hit_at (F := X.F) (o := o) ixlo (show ix < (es2.length : Int) by omega)
      have hme_ := hp2.mem_iff.1 (getD_mem (l := es2) (d := (ByteArray.empty, 0)) (i := ix.toNat) (by omega))
      have hen_ := en_look hv_X.ns hme_
      obtain ⟨A5, c5, e2, g2⟩ := St.elt (SH.stN hL2 hr2) (ByteArray.empty, 0) ix (by omega) (by omega)
      refine WL.lv rfl (LV.idxA Tryz.underlying59 ti76.sz rfl e2 rfl (by omega) (by omega)) ?_
      refine WL.lv rfl (LV.loadAgg (cs := [(.string ((es2.getD (ix).toNat (ByteArray.empty, 0)).1)), (.int .i64 ((es2.getD (ix).toNat (ByteArray.empty, 0)).2))]) Tryz.underlying76 rfl ti76 rfl rfl (fun j u hu => g2 _ (KB.refl No _) j u hu)) ?_
      refine WL.xe rfl (XE.alloc #[(.string ⟨#[]⟩), (.int .i64 0)] hL2 ti76 rfl) ?_
      rintro _ w12 ⟨b4, rfl, hS16, hk10⟩
      refine WL.xse rfl (XSE.blkAgg #[(.string ((es2.getD (ix).toNat (ByteArray.empty, 0)).1)), (.int .i64 ((es2.getD (ix).toNat (ByteArray.empty, 0)).2))] hS16 (by kernel_rfl) rfl (by kernel_rfl) rfl rfl) ?_
      rintro w13 ⟨hS17, hk11⟩
      refine WL.nil (thenQ.n ?_)
      refine WC.seq ?_
      refine WC.region ?_
      refine WL.lv rfl (LV.mv rfl) ?_
      refine WL.lv rfl (LV.loadAgg (cs := [(.string ((es2.getD (ix).toNat (ByteArray.empty, 0)).1)), (.int .i64 ((es2.getD (ix).toNat (ByteArray.empty, 0)).2))]) Tryz.underlying76 rfl ti76 rfl rfl (Blk.agg (SH.at hS17 (.head _)) _ (KB.refl No _))) ?_
      refine WL.lv rfl (LV.loadAgg (cs := [(.int .i64 ((o).1)), (.int .u64 ((o).2))]) Tryz.underlying26 rfl ti26 rfl rfl (Blk.agg (SH.at hS17 (.tail _ (.tail _ (.head _)))) _ (KB.refl No _))) ?_
      refine WL.call rfl (XC.fn Tryz.func34 (by kernel_rfl) rfl rfl rfl) (number_calls (en := (es2.getD (ix).toNat (ByteArray.empty, 0))) (o := o) (SH.stN hS17 h_X) hv_X (by omega) (⟨hen_.1, hen_.2.1⟩) (wo)) ?_
      rintro v_ w14 ⟨rfl, hk12⟩
      have hS18 := SH.same hS17 hk12
      refine WL.lv rfl (LV.mv rfl) ?_
      iterate 2 refine WL.lv rfl (LV.extract rfl rfl) ?_
      iterate 2 refine WL.lv rfl (LV.asg rfl) ?_
      refine WL.nil (thenQ.n ?_)
      refine WC.seq ?_
      refine WC.region ?_
      refine WL.lv rfl (LV.mv rfl) ?_
      refine WL.nil (thenQ.n ?_)
      refine WC.condP (p := BEL ((LKF X.F (es2.getD (ix).toNat (ByteArray.empty, 0)).1).getD (es2.getD (ix).toNat (ByteArray.empty, 0)).2.toNat dI).2.1 o) rfl (fun hb => ?_) (fun hb => ?_)
      · skip
        refine WC.region ?_
        refine WL.lv rfl (LV.mv rfl) ?_
        refine WL.lv rfl (LV.fieldA Tryz.underlying76 rfl ti9.sz rfl) ?_
        refine WL.lv rfl (LV.load1 Tryz.underlying9 rfl rfl (Blk.cellN (SH.at hS18 (.head _)) 0 rfl _ (KB.refl No _))) ?_
        refine WL.lv rfl (LV.mv rfl) ?_
        refine WL.lv rfl (LV.build (vs := [(0, (.string ((es2.getD (ix).toNat (ByteArray.empty, 0)).1))), (1, (.int .i64 (CNTB ((LKF X.F (es2.getD (ix).toNat (ByteArray.empty, 0)).1).take ((es2.getD (ix).toNat (ByteArray.empty, 0)).2 + 1).toNat) o)))]) (places := #[(0, 1), (1, 1)]) (cs := #[(.string ((es2.getD (ix).toNat (ByteArray.empty, 0)).1)), (.int .i64 (CNTB ((LKF X.F (es2.getD (ix).toNat (ByteArray.empty, 0)).1).take ((es2.getD (ix).toNat (ByteArray.empty, 0)).2 + 1).toNat) o))]) Tryz.underlying49 ti49 (fun _ => by kernel_rfl) rfl rfl) ?_
        refine WL.xe rfl (XE.buildSlice (E := eSI) [(0, (.agg #[(.string ((es2.getD (ix).toNat (ByteArray.empty, 0)).1)), (.int .i64 (CNTB ((LKF X.F (es2.getD (ix).toNat (ByteArray.empty, 0)).1).take ((es2.getD (ix).toNat (ByteArray.empty, 0)).2 + 1).toNat) o))]))] #[(.string ((es2.getD (ix).toNat (ByteArray.empty, 0)).1)), (.int .i64 (CNTB ((LKF X.F (es2.getD (ix).toNat (ByteArray.empty, 0)).1).take ((es2.getD (ix).toNat (ByteArray.empty, 0)).2 + 1).toNat) o))] [(((es2.getD (ix).toNat (ByteArray.empty, 0)).1, CNTB ((LKF X.F (es2.getD (ix).toNat (ByteArray.empty, 0)).1).take ((es2.getD (ix).toNat (ByteArray.empty, 0)).2 + 1).toNat) o) : En)] hS18 Tryz.underlying32 ti49 rfl (by decide) (by kernel_rfl) (.inr rfl) rfl rfl (by decide)) ?_
        rintro _ w15 ⟨b5, rfl, hS19, hk13⟩
        have hS20 : SH w No w15 [rowE eSI 49 (.slice A_out out.length c_out) out, rowE eSI 49 (.slice (some ⟨b5, 0, none⟩) 1 1) [(((es2.getD (ix).toNat (ByteArray.empty, 0)).1, CNTB ((LKF X.F (es2.getD (ix).toNat (ByteArray.empty, 0)).1).take ((es2.getD (ix).toNat (ByteArray.empty, 0)).2 + 1).toNat) o) : En)], blkE b4 76 #[(.string ((es2.getD (ix).toNat (ByteArray.empty, 0)).1)), (.int .i64 ((es2.getD (ix).toNat (ByteArray.empty, 0)).2))], blkE b1 26 #[(.int .i64 ((o).1)), (.int .u64 ((o).2))]] := (SH.front [_, _] hS19)
        refine WL.xe rfl (XE.append hS20 Tryz.underlying32 ti49 rfl (St.now (SH.rd hS20 (.tail _ (.head _)))) rfl rfl (by first | omega | simp only [List.length_append, List.length_cons, List.length_nil, List.length_take, List.length_reverse, List.length_drop] at *; omega) (by first | omega | simp only [List.length_append, List.length_cons, List.length_nil, List.length_take, List.length_reverse, List.length_drop] at *; omega)) ?_
        rintro _ w16 ⟨A6, c6, rfl, hS21, hk14⟩
        refine WL.lv rfl (LV.asg rfl) ?_
        refine WL.nil (blockQ.n <| thenQ.n ?_)
        refine WC.region ?_
        refine WL.lv rfl (LV.add rfl rfl (wr64 (by omega) (by omega))) ?_
        refine WL.lv rfl (LV.mv rfl) ?_
        refine WL.nil (thenQ.n ?_)
        have hS22 : SH w No w16 [rowE eSI 49 (.slice A6 ((out ++ [(((es2.getD (ix).toNat (ByteArray.empty, 0)).1, CNTB ((LKF X.F (es2.getD (ix).toNat (ByteArray.empty, 0)).1).take ((es2.getD (ix).toNat (ByteArray.empty, 0)).2 + 1).toNat) o) : En)]).length) c6) (out ++ [(((es2.getD (ix).toNat (ByteArray.empty, 0)).1, CNTB ((LKF X.F (es2.getD (ix).toNat (ByteArray.empty, 0)).1).take ((es2.getD (ix).toNat (ByteArray.empty, 0)).2 + 1).toNat) o) : En)]), blkE b1 26 #[(.int .i64 ((o).1)), (.int .u64 ((o).2))]] := (SH.take 2 rfl (SH.front [_] (SH.front [_, _, _] hS21)))
        exact ⟨_, by omega, A6, c6, (out ++ [(((es2.getD (ix).toNat (ByteArray.empty, 0)).1, CNTB ((LKF X.F (es2.getD (ix).toNat (ByteArray.empty, 0)).1).take ((es2.getD (ix).toNat (ByteArray.empty, 0)).2 + 1).toNat) o) : En)]), ix + 1, by omega, by omega, ((by rw [hat_, if_pos hb, ← q1])), (by first | omega | (simp; omega)), hS22, rfl, Weak.cons rfl <| Weak.cons rfl <| Weak.cons rfl <| Weak.cons rfl <| Weak.cons rfl <| Weak.cons rfl <| Weak.nil _⟩
      · skip
        refine WC.skip (blockQ.n <| thenQ.n ?_)
        refine WC.region ?_
        refine WL.lv rfl (LV.add rfl rfl (wr64 (by omega) (by omega))) ?_
        refine WL.lv rfl (LV.mv rfl) ?_
        refine WL.nil (thenQ.n ?_)
        have hS23 : SH w No w14 [rowE eSI 49 (.slice A_out out.length c_out) out, blkE b1 26 #[(.int .i64 ((o).1)), (.int .u64 ((o).2))]] := (SH.take 2 rfl (SH.front [_, _] (SH.front [_, _] hS18)))
        exact ⟨_, by omega, A_out, c_out, out, ix + 1, by omega, by omega, ((by rw [hat_, if_neg hb, ← q1, List.append_nil])), (by first | omega | (simp; omega)), hS23, rfl, Weak.cons rfl <| Weak.cons rfl <| Weak.cons rfl <| Weak.cons rfl <| Weak.cons rfl <| Weak.cons rfl <| Weak.nil _⟩
    · skip
      refine WC.exit (thenQ.x <| thenQ.x <| blockQ.hit <| thenQ.n ?_)
      refine WC.seq ?_
      refine WC.region ?_
      refine WL.lv rfl (LV.mv rfl) ?_
      refine WL.call rfl (XC.fn Tryz.func35 (by kernel_rfl) rfl rfl rfl) (sort_callsK sortN_h sortK_h hL2 (fun W_ hW_ x y => by rw [Array.append_empty]; exact order_drawn W_ x y) (by omega)) ?_
      rintro v_ w17 ⟨ys2, rfl, hpm2, hpw2, hS24, hk15⟩
      refine WL.nil (thenQ.n ?_)
      refine WC.seq ?_
      refine WC.region ?_
      refine WL.lv rfl (LV.mv rfl) ?_
      refine WL.lv rfl (LV.asg rfl) ?_
      refine WL.nil (thenQ.n ?_)
      refine WC.ret (?_)
      have hS25 : SH w No w17 [rowE eSI 49 (.slice A_out out.length c_out) ys2] := (SH.take 1 rfl hS24)
      have hres2 : (ys2 : List En) = FIND X.F (LOW word) o := find_of hv_X hp2 (by rw [q1, List.take_of_length_le (by omega)]) hpm2 hpw2
      have hlen2 : ys2.length = out.length := hpm2.length_eq
      exact ⟨_, fun a ha => res1 rfl ha rfl, (by rw [← hres2, hlen2]; exact ⟨_, _, rfl, hS25⟩)⟩

end Go.Proofs.YtigbphaimbhgjaaGreat

