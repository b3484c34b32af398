/- internal/bytealg.MakeNoZero, of which nothing is taken yet. -/
import Derived.Test.YtomeffnlmefnlaaGvH
import Derived.Lib.MakeNoZero
import Derived.Laws.Externs
import Derived.Test.YtomeffnlmefnlaaBuA
import Derived.Test.YtomeffnlmefnlaaGvW
import Derived.Test.YtomeffnlmefnlaaGvN
import Derived.Lib.FrozenHead
import Derived.Test.YtomeffnlmefnlaaGvV
namespace Go.Gv
open Go Go.RowKit
section
variable {P : Program} {f : Env} {w w0 : World} {d : Option Tmp} {ty : TypeId} {ps : String} {af : Array Edge} {gd : Option (Nat × Bool)} {S : Nat → Prop} {L : List Ent}
theorem XE.mkNoZero {g : FuncId} {fn : Func} {t e : TypeId} {qs : Array TypeId} {x y : Operand} {n : Nat} {ats : Array TypeId} (h : SH w0 S w L) (hf : P.funcs[g]? = some fn) (hname : (fn.name == "runtime.NumGoroutine") = false) (hb : fn.body.isNone = true) (hn : Extern.findNext fn = none) (he : Extern.find fn = some (Extern.BytealgMakeNoZero.makeNoZero qs #[t]))
    (ht : P.underlying t = some (.slice e)) (hx : ev f x = some (.func (.func g) #[] #[])) (hy : ev f y = some (.int .i64 n)) (hl : n ≤ 140737488355328) :
    XE P ⟨d, .call { callee := .value x, args := #[y], argTypes := ats }, ty, ps, af, gd⟩ f w (fun v' w' => ∃ b c, v' = .slice (some ⟨b, 0, none⟩) n c ∧ n ≤ c ∧ SH w0 S w' (rowE eU8 e (.slice (some ⟨b, 0, none⟩) 0 c) ([] : List Int) :: L) ∧ KB No w w') := by
  obtain ⟨cs, hrun, hle, hmax⟩ := Lib.run_makeNoZero (P := P) w qs t e ht n (by omega)
  have hml : n ≤ maxLen := by unfold maxLen; omega
  have hkb : KB No w (w.drew.drew.alloc (.cells cs e)) := ((KB.drew w).transN (KB.drew _)).transN (KB.alloc _ _)
  refine ⟨_, _, fun a ha => ?_, w.heap.size, cs.size, rfl, hle, ?_, hkb⟩
  · have h1 : (#[y].map a.eval) = #[.int .i64 n] := by simp [ev_eval ha hy]
    have hc : (callFunc g #[.int .i64 n]).run P w = .ok (.value (.slice (some ⟨w.heap.size, 0, none⟩) n cs.size)) (w.drew.drew.alloc (.cells cs e)) := by
      rw [run_callFunc_extern hf hname hb hn he, hrun]; rfl
    simp [execOp, resolve, Deferred.ofValue, ev_eval ha hx, h1, invoke, hc]
  · refine h.more hkb (Row.ok (E := eU8) (T := e) (v := .slice (some ⟨w.heap.size, 0, none⟩) 0 cs.size) (xs := []) ⟨rfl, .inr ⟨w.heap.size, cs.size, cs, rfl, Nat.zero_le _, ?_, Nat.zero_le _, hmax hml, by show cs.size = cs.size * 1; omega, rfl⟩⟩) (by simpa [rowE] using keys_nodup (.slice (some ⟨w.heap.size, 0, none⟩) 0 cs.size)) (fun k hk => ?_)
    · show (w.heap.push _)[w.heap.size]? = _
      simp
    · simp [rowE, Value.keys, Value.ownBlock] at hk; omega
end
end Go.Gv
namespace Go.Gv
open Go Go.RowKit
theorem LV.capL {P : Program} {f : Env} {w : World} {d : Option Tmp} {ty : TypeId} {ps : String} {af : Array Edge} {gd : Option (Nat × Bool)} {t e : TypeId} {x : Operand} {a : Option Addr} {n c : Nat} (ht : P.underlying t = some (.slice e)) (hx : ev f x = some (.slice a n c)) :
    LV P ⟨d, .call { callee := .builtin .cap, args := #[x], argTypes := #[t] }, ty, ps, af, gd⟩ f w (.int .i64 c) := fun b hb => by
  simp [execOp, resolve, invoke, builtin, ev_eval hb hx, Builtin.cap_, run_underlying ht, goInt]
end Go.Gv

namespace Go.Rpt
open Go Go.Gv
def RPB (k : Nat) : ByteArray := ⟨(List.replicate k (35 : UInt8)).toArray⟩
theorem rpb_bytes (k : Nat) : bytesOf (RPB k) = List.replicate k 35 := by
  unfold bytesOf RPB
  simp
theorem rpb_size (k : Nat) : (RPB k).size = k := by
  show (List.replicate k (35 : UInt8)).toArray.size = k
  simp
theorem rpb_app (a b : Nat) : RPB a ++ RPB b = RPB (a + b) := bytesOf_inj (by rw [bytesOf_app, rpb_bytes, rpb_bytes, rpb_bytes, List.replicate_append_replicate])
theorem rpb_cut {k c : Nat} (h : c ≤ k) : (RPB k).extract 0 c = RPB c := bytesOf_inj (by
  rw [bytesOf_cut, rpb_bytes, rpb_bytes, List.take_replicate, List.drop_zero, Nat.min_eq_left h])
theorem rpb_one : RPB 1 = ⟨#[35]⟩ := rfl
/-- One more piece is written: as much as there is, or what is missing. -/
theorem rpb_step {k c : Nat} {t : ByteArray} (e : t = RPB k) (h : c ≤ k) : t ++ t.extract 0 c = RPB (k + c) := by rw [e, rpb_cut h, rpb_app]
end Go.Rpt

namespace Go.Gv
open Go Go.RowKit
section
variable {w w' w0 : World} {e : TypeId} {v : Value} {xs : List Int} {S : Nat → Prop} {L : List Ent}
def RowF (e : TypeId) (v : Value) (xs : List Int) (w : World) : Prop := w.ownsRowF 0 e 1 v xs.length (eU8.cells xs)
def rowF (e : TypeId) (v : Value) (xs : List Int) : Ent := ⟨Value.keys v, RowF e v xs⟩
theorem RowF.of (h : Row eU8 e v xs w) : RowF e v xs w := World.ownsRowF_of h
theorem RowF.lt (h : RowF e v xs w) : ∀ k ∈ Value.keys v, k < w.heap.size := fun k hk => by
  have := World.ownsRowF.lt h k (by simpa [Value.keys] using hk)
  exact this.2
theorem RowF.ok (h : RowF e v xs w) : (rowF e v xs).Ok w := ⟨h, RowF.lt h, fun w' hk _ => by
  obtain ⟨h1, h2⟩ := h
  refine ⟨h1, h2.imp id ?_⟩
  rintro ⟨g, cap, cur, fz, rfl, hb, hg, rest⟩
  exact ⟨g, cap, cur, fz, rfl, hb, (hk g (by simp [rowF, Value.keys, Value.ownBlock])).trans hg, rest⟩⟩
/-- What is known of a row's own bytes stays known where a head is frozen. -/
theorem SH.rowF (h : SH w0 S w (rowE eU8 e v xs :: L)) : SH w0 S w (Gv.rowF e v xs :: L) :=
  h.upd (KB.refl _ _) (RowF.ok (RowF.of h.hd)) (keys_nodup v) (fun k hk => .inl hk)
end
end Go.Gv
namespace Go.Gv
open Go Go.RowKit
theorem freeze_at {w : World} {g n : Nat} {cur : Array Value} {e : TypeId} {fz : Nat × Nat} (hg : w.heap[g]? = some (.cells cur e fz)) (hf : fz.2 ≤ n) : ∃ fz' : Nat × Nat, (w.freeze ⟨g, 0, none⟩ n).heap[g]? = some (.cells cur e fz') ∧ fz'.2 ≤ n := by
  unfold World.freeze
  split
  · exact ⟨fz, hg, hf⟩
  · have hlt := (Array.getElem?_eq_some_iff.1 hg).1
    obtain ⟨lo, hi⟩ := fz
    refine ⟨if lo == hi then (0, 0 + n) else (min lo 0, max hi (0 + n)), ?_, ?_⟩
    · show (w.heap.modify g _)[g]? = _
      rw [Array.getElem?_modify, if_pos rfl, hg]; rfl
    · have hf : hi ≤ n := hf
      split
      · show 0 + n ≤ n; omega
      · show max hi (0 + n) ≤ n; omega
end Go.Gv
namespace Go.Gv
open Go Go.RowKit
section
variable {P : Program} {f : Env} {w w0 : World} {d : Option Tmp} {ty : TypeId} {ps : String} {af : Array Edge} {gd : Option (Nat × Bool)} {S : Nat → Prop} {L : List Ent}
/-- A string is handed out; its bytes stay one's own, frozen. -/
theorem XE.usF {pt it e : TypeId} {x y : Operand} {A : Option Addr} {n c : Nat} {ad : Option Addr} {s : ByteArray} (h : SH w0 S w (rowF e (.slice A n c) (bytesOf s) :: L)) (hn : n = s.size) (hn0 : n ≠ 0) (hx : ev f x = some (.pointer ad)) (hy : ev f y = some (.int .i64 n))
    (hu : UD (.slice A n c) ad) (hp : P.underlying pt = some (.pointer e)) (hc : P.cellsOf e = 1) :
    XE P ⟨d, .call { callee := .builtin .unsafeString, args := #[x, y], argTypes := #[pt, it] }, ty, ps, af, gd⟩ f w (fun v' w' => v' = .string s ∧ SH w0 S w' (rowF e (.slice A n c) (bytesOf s) :: L) ∧ KB (· ∈ Value.keys (.slice A n c)) w w') := by
  have hR : RowF e (.slice A n c) (bytesOf s) w := h.hd
  have hl := bytesOf_len s
  have had := hu A n c rfl hn0
  subst had
  rcases hR.2 with ⟨he, hz⟩ | ⟨g, cap, cur, fz, he, _, hg, hfz, hnc, hcm, hcs, ht⟩
  · omega
  · injection he with e1 e2 e3
    subst e1 e3
    have hsz : s.data.toList.length = s.size := by rw [Array.length_toList]; rfl
    have h63 : cur.size ≤ maxLen := by rw [hcs]; show c * 1 ≤ maxLen; omega
    have hmx : maxLen ≤ 9223372036854775807 := by unfold maxLen; omega
    have hcw : c = cur.size := by rw [hcs]; exact (Nat.mul_one c).symm
    obtain ⟨fz', hg', hf'⟩ := freeze_at (n := s.size) hg (by omega)
    have hkb : KB (· ∈ Value.keys (.slice (some ⟨g, 0, none⟩) n c)) w (w.freeze ⟨g, 0, none⟩ s.size) := (kb_freeze w ⟨g, 0, none⟩ s.size).mono fun i hi => by simp [Value.keys, Value.ownBlock, hi]
    refine ⟨_, _, fun a ha => ?_, rfl, ?_, hkb⟩
    · have hr := Lib.run_unsafeString_row (P := P) w pt it ty e hp hc g cur.size (by simp [World.shape?, hg]) s.data.toList (by intro h2; rw [h2] at hsz; simp at hsz; omega) (by omega) (by omega) (fun j x hj => by
        have hlt : j < s.data.toList.length := (List.getElem?_eq_some_iff.1 hj).1
        have h3 := cells_byte s j x hj
        rw [← ht, List.getElem?_take, if_pos (by show j < (bytesOf s).length * 1; omega), Array.getElem?_toList] at h3
        rw [addr_at g j, cell_of_row w g j cur e fz hg]
        exact h3)
      have hy' : ev f y = some (.int .i64 s.size) := by rw [← hn]; exact hy
      have hs2 : (⟨s.data.toList.toArray⟩ : ByteArray) = s := by simp
      rw [hs2, hsz] at hr
      simp [execOp, resolve, invoke, builtin, ev_eval ha hx, ev_eval ha hy', hr]
    · exact h.upd (e' := rowF e (.slice (some ⟨g, 0, none⟩) n c) (bytesOf s)) hkb (RowF.ok ⟨hR.1, .inr ⟨g, c, cur, fz', by rw [← hl] at hn; rw [hn], Nat.zero_le _, hg', by omega, by omega, hcm, hcs, ht⟩⟩) (show (Value.keys (.slice (some ⟨g, 0, none⟩) n c)).Nodup from keys_nodup _) (fun k hk => .inl hk)
end
end Go.Gv
namespace Go.Gv
open Go Go.RowKit Go.Lib
section
variable {P : Program} {f : Env} {w w0 : World} {d : Option Tmp} {ps : String} {af : Array Edge} {gd : Option (Nat × Bool)} {S : Nat → Prop} {L : List Ent}
theorem append_strF {t u e : TypeId} {v : Value} {xs : List Int} (s : ByteArray) (ty : TypeId) (ht : P.underlying t = some (.slice e)) (hu : P.underlying u = some .string) (hi : TI P e (.int .u8 0) 1 1) (hR : RowF e v xs w) (h63 : xs.length + s.size ≤ maxLen) (hb : xs.length + s.size ≤ 140737488355328) :
    ∃ A c w', (Builtin.append_ #[t, u] ty #[v, .string s]).run P w = .ok (.slice A (xs ++ bytesOf s).length c) w' ∧ RowF e (.slice A (xs ++ bytesOf s).length c) (xs ++ bytesOf s) w' ∧ KB (· ∈ Value.keys v) w w' ∧ (∀ k ∈ Value.keys (.slice A (xs ++ bytesOf s).length c), k ∈ Value.keys v ∨ w.heap.size ≤ k) := by
  rcases hR.2 with ⟨rfl, h0⟩ | ⟨g, cap, cur, fz, rfl, hbg, hg, hfz, hnc, hcm, hcs, htake⟩
  · obtain ⟨A, c, w', h1, h2, h3, h4⟩ := append_str (P := P) s ty ht hu hi (show Row eU8 e (.slice none 0 0) xs w from ⟨hR.1, .inl ⟨rfl, h0⟩⟩) h63 hb
    exact ⟨A, c, w', h1, RowF.of h2, h3, h4⟩
  · obtain ⟨i, hj, hz0, hs, hby⟩ := hi.get
    have hsl := strCells_length s
    have hca : eU8.cells (xs ++ bytesOf s) = eU8.cells xs ++ strCells s := by rw [El.cells_append, strCells_eq]
    have hcl : (eU8.cells xs).length = xs.length := by rw [El.cells_length]; exact Nat.mul_one _
    have hel : (xs ++ bytesOf s).length = xs.length + s.size := by rw [List.length_append, bytesOf_len]
    have hlen : (eU8.cells (xs ++ bytesOf s)).length = (xs ++ bytesOf s).length * 1 := El.cells_length _ _
    by_cases hroom : xs.length + s.size ≤ cap
    · have hcs' : cur.size = cap := (show cur.size = cap * 1 from hcs).trans (Nat.mul_one _)
      have hr := run_append_room_stringF (P := P) w t u ty e i ht hu hj hs g xs.length cap cur fz hg (by omega) s hroom (by omega)
      refine ⟨some ⟨g, 0, none⟩, cap, _, (by rw [hel]; exact hr), ⟨hlen, .inr ⟨g, cap, _, fz, by rw [hel], hbg, setRow_heap w g cur _ e _ hg, by rw [hel]; omega, by rw [hel]; exact hroom, hcm, ?_, ?_⟩⟩, ⟨rfl, rfl, rfl, fun _ => Nat.le_refl _, by simp, fun k _ hk => setRow_other w g k _ (fun e => hk (by simp [Value.keys, Value.ownBlock, e]))⟩, fun k hk => .inl (by simpa [Value.keys, Value.ownBlock] using hk)⟩
      · simp only [List.size_toArray, List.length_append, List.length_take, List.length_drop, Array.length_toList, hsl]
        show _ = cap * 1
        omega
      · have ht' : cur.toList.take xs.length = eU8.cells xs := (congrArg (fun k => List.take k cur.toList) (Nat.mul_one xs.length).symm).trans htake
        show List.take ((xs ++ bytesOf s).length * 1) (_ ++ _ ++ _) = _
        rw [ht', hca, ← hlen, hca, List.take_left]
    · have holds : ∀ j u, (eU8.cells xs)[j]? = some u → w.cell? ((⟨g, 0, none⟩ : Addr).add j) = some u := World.ownsRowF.cells hR (g := g) rfl
      have hr := run_append_grow_string (P := P) w t u ty e i (.int .u8 0) ht hu hj hz0 ⟨g, 0, none⟩ xs.length cap (eU8.cells xs) (by rw [hs, hcl]; omega) holds s (by omega) (by omega) (by rw [hby]; exact growslice_fits (by omega) (by omega))
      have hge := grownCap_ge w (xs.length + s.size) cap e
      refine ⟨some ⟨w.heap.size, 0, none⟩, grownCap w (xs.length + s.size) cap e, _, (by rw [hel]; exact hr), ⟨hlen, .inr ⟨w.heap.size, grownCap w (xs.length + s.size) cap e, _, (0, 0), by rw [hel], by omega, heap_alloc_new w.drew _, Nat.zero_le _, by rw [hel]; exact hge, grownCap_le_maxLen w _ cap e h63, ?_, ?_⟩⟩, ⟨rfl, rfl, rfl, fun _ => Nat.le_succ _, by simp, fun k hk _ => Below.heap_alloc w.drew _ k hk⟩, ?_⟩
      · have hz1 : (Value.int IntKind.u8 0).cells.size = 1 := rfl
        simp only [Array.size_append, List.size_toArray, size_zeroCells, hz1, hcl, hsl]
        show _ = _ * 1
        omega
      · simp only [Array.toList_append]
        show List.take ((xs ++ bytesOf s).length * 1) (eU8.cells xs ++ strCells s ++ _) = _
        rw [← hlen, hca, List.take_left]
      · intro k hk
        right
        simp [Value.keys, Value.ownBlock] at hk
        omega
theorem XE.appendSF {t u e ty : TypeId} {v : Value} {xs : List Int} {s : ByteArray} {x y : Operand} (h : SH w0 S w (rowF e v xs :: L)) (ht : P.underlying t = some (.slice e)) (hu : P.underlying u = some .string) (hi : TI P e (.int .u8 0) 1 1) (hx1 : ev f x = some v) (hx2 : ev f y = some (.string s))
    (hb2 : xs.length + s.size ≤ 140737488355328) :
    XE P ⟨d, .call { callee := .builtin .append, args := #[x, y], argTypes := #[t, u] }, ty, ps, af, gd⟩ f w (fun v' w' =>
      ∃ A c, v' = .slice A (xs ++ bytesOf s).length c ∧ SH w0 S w' (rowF e (.slice A (xs ++ bytesOf s).length c) (xs ++ bytesOf s) :: L) ∧ KB (· ∈ Value.keys v) w w') := by
  obtain ⟨A, c, w', hr, hR, hk, hn⟩ := append_strF s ty ht hu hi h.hd (by unfold maxLen; omega) hb2
  refine ⟨.slice A (xs ++ bytesOf s).length c, w', fun a ha => ?_, A, c, rfl, h.upd (e' := rowF e (.slice A (xs ++ bytesOf s).length c) (xs ++ bytesOf s)) hk (RowF.ok hR) (show (Value.keys (.slice A (xs ++ bytesOf s).length c)).Nodup from keys_nodup _) hn, hk⟩
  simp [execOp, resolve, invoke, builtin, ev_eval ha hx1, ev_eval ha hx2, hr]
end
end Go.Gv
namespace Go.Gv
open Go Go.RowKit Go.Lib
section
variable {P : Program} {f : Env} {w w0 : World} {d : Option Tmp} {ty : TypeId} {ps : String} {af : Array Edge} {gd : Option (Nat × Bool)} {S : Nat → Prop} {L : List Ent}
theorem XE.usdF {t e e2 : TypeId} {x : Operand} {v : Value} {s : ByteArray} (h : SH w0 S w (rowF e v (bytesOf s) :: L)) (hx : ev f x = some v) (hty : P.underlying ty = some (.pointer e2)) :
    XE P ⟨d, .call { callee := .builtin .unsafeSliceData, args := #[x], argTypes := #[t] }, ty, ps, af, gd⟩ f w (fun v' w' => ∃ ad, v' = .pointer ad ∧ UD v ad ∧ SH w0 S w' (rowF e v (bytesOf s) :: L) ∧ KB No w w') := by
  have hR : RowF e v (bytesOf s) w := h.hd
  rcases hR.2 with ⟨rfl, hn⟩ | ⟨g, cap, cur, fz, rfl, _, hg, hfz, hnc, hcm, hcs, ht⟩
  · refine ⟨.pointer none, w, fun a ha => ?_, none, rfl, fun A n c e h0 => by cases e; exact absurd rfl h0, h, KB.refl _ _⟩
    have hr := Lib.run_unsafeSliceData_nil (P := P) w #[t] ty 0 0
    simp [execOp, resolve, invoke, builtin, ev_eval ha hx, hr]
  · by_cases hc : cap = 0
    · subst hc
      refine ⟨_, _, fun a ha => ?_, some ⟨w.heap.size, 0, none⟩, rfl, fun A n c e h0 => ?_, h.same (KB.alloc w (.view ⟨g, 0, none⟩ e2)), KB.alloc w _⟩
      · have hr := Lib.run_unsafeSliceData_zero (P := P) w #[t] ty e2 hty ⟨g, 0, none⟩ (bytesOf s).length (e, cur.size) (by simp [World.shape?, hg])
        simp [execOp, resolve, invoke, builtin, ev_eval ha hx, hr]
      · injection e with _ e2 _
        omega
    · refine ⟨_, w, fun a ha => ?_, some ⟨g, 0, none⟩, rfl, fun A n c e _ => by cases e; rfl, h, KB.refl _ _⟩
      have hr := Lib.run_unsafeSliceData_row (P := P) w #[t] ty ⟨g, 0, none⟩ (bytesOf s).length cap hc
      simp [execOp, resolve, invoke, builtin, ev_eval ha hx, hr]
end
end Go.Gv

namespace Go.Gv
open Go
theorem LV.min3 {P : Program} {f : Env} {w : World} {d : Option Tmp} {ty : TypeId} {ps : String} {af : Array Edge} {gd : Option (Nat × Bool)} {t0 t1 t2 : TypeId} {x y z : Operand} {k : IntKind} {a b c : Int} (hx : ev f x = some (.int k a)) (hy : ev f y = some (.int k b)) (hz : ev f z = some (.int k c)) :
    LV P ⟨d, .call { callee := .builtin .min, args := #[x, y, z], argTypes := #[t0, t1, t2] }, ty, ps, af, gd⟩ f w (.int k (min (min a b) c)) := fun e he => by
  have h : (if b < a then b else a) = min a b := by omega
  have h2 : (if c < min a b then c else min a b) = min (min a b) c := by omega
  simp [execOp, resolve, invoke, builtin, ev_eval he hx, ev_eval he hy, ev_eval he hz, Builtin.min_, Builtin.min2, h, h2]
end Go.Gv
