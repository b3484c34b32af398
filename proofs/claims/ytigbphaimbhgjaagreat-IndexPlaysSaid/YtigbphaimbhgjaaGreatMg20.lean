/- What an index answers: plain. -/
import Derived.Test.YtigbphaimbhgjaaGreatMg12
import Derived.Test.YtigbphaimbhgjaaGreatMg9
import Derived.Test.YtigbphaimbhgjaaGreatMg19
namespace Go.Idx
open Go Go.Gv Go.Wds Go.Tly
def LKF (F : List Fl) (q : ByteArray) : List Itm := (lookL F q).getD []
theorem FILES.atL {kv : List (ByteArray × SV)} {P : List (SV × List Itm)} {F : List Fl} (h : FILES kv P F) (q : ByteArray) : ((lookL kv q = none ∧ LKF F q = []) ∨ ∃ sv, lookL kv q = some sv ∧ (sv, LKF F q) ∈ P) := FILES.at h q
theorem lkf_small {F : List Fl} (h : SMALL F) (q : ByteArray) : (LKF F q).length ≤ 20 ∧ ∀ y ∈ LKF F q, y.2.2.2.1.size ≤ 60 ∧ 0 ≤ y.2.1.2 ∧ y.2.1.2 < 18446744073709551616 := by
  unfold LKF
  cases hl : lookL F q with
  | none => simp
  | some l => exact h (q, l) (lookL_mem hl)
theorem IXW.mono {n m : Nat} {X : IXS} (h : IXW n X) (hm : n ≤ m) : IXW m X := ⟨h.fs, h.rs, h.n1, h.n2, h.ns, h.sm, Nat.le_trans h.ln hm, h.nm⟩
theorem en_bd {n : Nat} {F : List Fl} (h : SMALL F) (hn : F.length ≤ n) (q : ByteArray) : (EN F q).length ≤ 20 * n := by
  have := EN_len F q 20 fun f hf => (h f hf).1
  have h2 : 20 * F.length ≤ 20 * n := Nat.mul_le_mul_left _ hn
  omega
theorem en_look {F : List Fl} (hF : NS F) {q : ByteArray} {e : En} (h : e ∈ EN F q) : 0 ≤ e.2 ∧ e.2 < (LKF F e.1).length ∧ HW ((LKF F e.1).getD e.2.toNat dI) q := by
  obtain ⟨f, hf, e1, e2, e3, e4⟩ := EN_mem h
  have : LKF F e.1 = f.2 := by unfold LKF; rw [e1, lookL_of_mem hF.nd hf]; rfl
  rw [this]
  exact ⟨e2, e3, e4⟩
/-! ### the words that an index keeps -/
abbrev WALL (F : List Fl) : List ByteArray := F.flatMap fun f => WLS f.2
theorem en_ne {F : List Fl} {q : ByteArray} (h : EN F q ≠ []) : q ∈ WALL F := by
  obtain ⟨e, he⟩ := List.exists_mem_of_ne_nil _ h
  obtain ⟨f, hf, _, e2, e3, e4⟩ := EN_mem he
  exact List.mem_flatMap.2 ⟨f, hf, List.mem_flatMap.2 ⟨_, getD_mem (d := dI) (by omega), e4.2⟩⟩
theorem wls_mem {l : List Itm} {q : ByteArray} (h : q ∈ WLS l) : ∃ y ∈ l, q ∈ OF y.2.2.2.1 := List.mem_flatMap.1 h
theorem wall_size {F : List Fl} (h : SMALL F) {q : ByteArray} (hq : q ∈ WALL F) : q.size ≤ 60 := by
  obtain ⟨f, hf, h1⟩ := List.mem_flatMap.1 hq
  obtain ⟨y, hy, h2⟩ := wls_mem h1
  exact Nat.le_trans (OF_size h2) ((h f hf).2 y hy).1
theorem wls_len {l : List Itm} (h : ∀ y ∈ l, y.2.2.2.1.size ≤ 60) : (WLS l).length ≤ 60 * l.length := by
  induction l with
  | nil => simp [WLS]
  | cons y l ih =>
    have h1 := ih fun z hz => h z (.tail _ hz)
    have h2 := OF_len y.2.2.2.1
    have h3 := h y (.head _)
    unfold WLS at h1 ⊢
    rw [List.flatMap_cons, List.length_append, List.length_cons]
    omega
theorem wall_len {F : List Fl} (h : SMALL F) : (WALL F).length ≤ 1200 * F.length := by
  induction F with
  | nil => simp
  | cons f F ih =>
    have h1 := ih fun g hg => h g (.tail _ hg)
    have h2 := wls_len fun y hy => ((h f (.head _)).2 y hy).1
    have h3 := (h f (.head _)).1
    have h4 : (WALL (f :: F)).length = (WLS f.2).length + (WALL F).length := by rw [WALL, List.flatMap_cons, List.length_append]
    rw [h4, List.length_cons]
    omega
theorem rows_mem {kv : List (ByteArray × SV)} {P : List (SV × List En)} {F : List Fl} (h : ROWS kv P (EN F)) (q : ByteArray) : q ∈ kv.map (·.1) ↔ EN F q ≠ [] := by
  rw [← lookL_key]
  rcases h q with ⟨h1, h2⟩ | ⟨sv, es, h1, _, h3, h4⟩
  · rw [h1, h2]; simp
  · rw [h1]
    refine ⟨fun _ e => h3 ?_, fun _ => rfl⟩
    rw [e] at h4
    exact List.perm_nil.1 h4
theorem IXW.k2 {n : Nat} {X : IXS} (h : IXW n X) (hn : n ≤ 100) : (∀ q ∈ X.kv2.map (·.1), q.size ≤ 1000000) ∧ X.kv2.length ≤ 1000000 := by
  have hm : ∀ q ∈ X.kv2.map (·.1), q ∈ WALL X.F := fun q hq => en_ne ((rows_mem h.rs q).1 hq)
  refine ⟨fun q hq => Nat.le_trans (wall_size h.sm (hm q hq)) (by omega), ?_⟩
  have h1 := nodup_len h.n2 hm
  have h2 := wall_len h.sm
  have h3 := h.ln
  rw [List.length_map] at h1
  have h4 : 1200 * X.F.length ≤ 1200 * 100 := Nat.mul_le_mul_left _ (by omega)
  omega
theorem files_mem {kv : List (ByteArray × SV)} {P : List (SV × List Itm)} {F : List Fl} (h : FILES kv P F) (q : ByteArray) : q ∈ kv.map (·.1) ↔ q ∈ F.map (·.1) := by
  rw [← lookL_key, ← lookL_key, files_known h q]
theorem IXW.k1 {n : Nat} {X : IXS} (h : IXW n X) (hn : n ≤ 100) : (∀ q ∈ X.kv1.map (·.1), q.size ≤ 1000000) ∧ X.kv1.length ≤ 1000000 := by
  refine ⟨fun q hq => ?_, ?_⟩
  · obtain ⟨f, hf, e⟩ := List.mem_map.1 ((files_mem h.fs q).1 hq)
    rw [← e]; exact Nat.le_trans (h.nm f hf) (by omega)
  · rw [files_len h.n1 h.ns.nd h.fs]; have := h.ln; omega
theorem IXW.len1 {n : Nat} {X : IXS} (h : IXW n X) : X.kv1.length = X.F.length := files_len h.n1 h.ns.nd h.fs
/-! ### what is found -/
theorem find_of {n : Nat} {X : IXS} (h : IXW n X) {q : ByteArray} {o : Lb} {es out ys : List En} (hp : es.Perm (EN X.F q)) (hq : out = es.filterMap (HITF X.F o)) (hy : ys.Perm out) (hs : ys.Pairwise fun a b => ¬ ORDH b a < 0) : ys = FIND X.F q o := by
  refine find_sorted h.ns (hy.trans ?_) hs
  rw [hq, ← find_hits h.ns.nd]
  exact hp.filterMap _
theorem hit_at {F : List Fl} {o : Lb} {es : List En} {i : Int} (h0 : 0 ≤ i) (h1 : i < es.length) : (es.take (i + 1).toNat).filterMap (HITF F o) = (es.take i.toNat).filterMap (HITF F o) ++ (if BEL ((LKF F (es.getD i.toNat (ByteArray.empty, 0)).1).getD (es.getD i.toNat (ByteArray.empty, 0)).2.toNat dI).2.1 o then [((es.getD i.toNat (ByteArray.empty, 0)).1, CNTB ((LKF F (es.getD i.toNat (ByteArray.empty, 0)).1).take ((es.getD i.toNat (ByteArray.empty, 0)).2 + 1).toNat) o)] else []) := by
  rw [Num.take_more (ByteArray.empty, 0) h0 h1, List.filterMap_append]
  congr 1
  generalize es.getD i.toNat (ByteArray.empty, 0) = e
  unfold HITF LKF
  split <;> rename_i hb
  · simp only [List.filterMap_cons, if_pos hb, List.filterMap_nil]
  · simp only [List.filterMap_cons, if_neg hb, List.filterMap_nil]
theorem hit_len {F : List Fl} {o : Lb} (es : List En) : (es.filterMap (HITF F o)).length ≤ es.length := List.length_filterMap_le _ _
theorem find_len {n : Nat} {X : IXS} (h : IXW n X) (q : ByteArray) (o : Lb) : (FIND X.F q o).length ≤ 20 * n := by
  have := FIND_len X.F q o 20 fun f hf => (h.sm f hf).1
  have h2 : 20 * X.F.length ≤ 20 * n := Nat.mul_le_mul_left _ h.ln
  omega
theorem fni_hw {f q : ByteArray} {o : Lb} : ∀ {n : Int} {l : List Itm} {e : En}, e ∈ FNI f q o n l → ∃ y ∈ l, HW y q ∧ BEL y.2.1 o
  | n, [], e, h => by cases h
  | n, y :: l, e, h => by
    rw [FNI] at h
    split at h
    · rename_i hb
      rcases List.mem_append.1 h with h | h
      · split at h
        · rename_i hw; exact ⟨y, .head _, hw, hb⟩
        · cases h
      · obtain ⟨z, hz, h2⟩ := fni_hw h; exact ⟨z, .tail _ hz, h2⟩
    · obtain ⟨z, hz, h2⟩ := fni_hw h; exact ⟨z, .tail _ hz, h2⟩
theorem fni_ne {f q : ByteArray} {o : Lb} : ∀ {n : Int} {l : List Itm} {y : Itm}, y ∈ l → HW y q → BEL y.2.1 o → FNI f q o n l ≠ []
  | n, z :: l, y, hy, hw, hb => by
    rw [FNI]
    rcases List.mem_cons.1 hy with e | e
    · subst e; rw [if_pos hb, if_pos hw]; simp
    · have h1 := fni_ne (f := f) (n := n + 1) e hw hb
      have h2 := fni_ne (f := f) (n := n) e hw hb
      split
      · intro h; exact h1 (List.append_eq_nil_iff.1 h).2
      · exact h2
/-- A word is found where a line has it that one may read. -/
theorem find_ne {F : List Fl} {q : ByteArray} {o : Lb} : FIND F q o ≠ [] ↔ ∃ f ∈ F, ∃ y ∈ f.2, HW y q ∧ BEL y.2.1 o := by
  constructor
  · intro h
    obtain ⟨e, he⟩ := List.exists_mem_of_ne_nil _ h
    obtain ⟨f, hf, h1⟩ := List.mem_flatMap.1 he
    obtain ⟨y, hy, h2⟩ := fni_hw h1
    exact ⟨f, hf, y, hy, h2⟩
  · rintro ⟨f, hf, y, hy, hw, hb⟩ h
    exact fni_ne (f := f.1) (n := 0) hy hw hb (List.eq_nil_iff_forall_not_mem.2 fun e he => by
      have : e ∈ FIND F q o := List.mem_flatMap.2 ⟨f, hf, he⟩
      rw [h] at this; cases this)
/-! ### the words that one finds; the files that one sees -/
def WRDS (F : List Fl) (o : Lb) : List ByteArray := (SRTB (WALL F)).filter fun w => decide (FIND F w o ≠ [])
theorem wrds_mem {F : List Fl} {o : Lb} {w : ByteArray} : w ∈ WRDS F o ↔ FIND F w o ≠ [] := by
  unfold WRDS
  rw [List.mem_filter, SRTB_mem, decide_eq_true_iff]
  refine ⟨fun h => h.2, fun h => ⟨?_, h⟩⟩
  obtain ⟨f, hf, y, hy, hw, _⟩ := find_ne.1 h
  exact List.mem_flatMap.2 ⟨f, hf, List.mem_flatMap.2 ⟨y, hy, hw.2⟩⟩
theorem wrds_ss (F : List Fl) (o : Lb) : SS (WRDS F o) := List.Pairwise.filter _ (SRTB_ss _)
theorem wrds_of {F : List Fl} {o : Lb} {ys : List ByteArray} (h : SS ys) (hm : ∀ a, a ∈ ys ↔ FIND F a o ≠ []) : ys = WRDS F o := ss_uniq h (wrds_ss F o) fun a => by rw [hm, wrds_mem]
theorem words_of {n : Nat} {X : IXS} (h : IXW n X) {o : Lb} {ys out : List ByteArray} (hs : SS ys) (hm : ∀ a, a ∈ ys ↔ a ∈ X.kv2.map (·.1)) (ho : out = ys.filter fun w => decide (FIND X.F (LOW w) o ≠ [])) : out = WRDS X.F o := by
  subst ho
  refine wrds_of (List.Pairwise.filter _ hs) fun a => ?_
  rw [List.mem_filter, decide_eq_true_iff, hm, rows_mem h.rs]
  have low : ∀ {a : ByteArray}, EN X.F a ≠ [] → LOW a = a := fun {a} ha => by
    obtain ⟨f, hf, h1⟩ := List.mem_flatMap.1 (en_ne ha)
    obtain ⟨y, hy, h2⟩ := wls_mem h1
    exact of_low h2
  constructor
  · rintro ⟨h1, h2⟩; rwa [low h1] at h2
  · intro h2
    have h1 : EN X.F a ≠ [] := fun e => h2 (by rw [← find_hits h.ns.nd, e]; rfl)
    exact ⟨h1, by rwa [low h1]⟩
def FLS (F : List Fl) (o : Lb) : List ByteArray := (F.filter fun f => decide (∃ y ∈ f.2, BEL y.2.1 o)).map (·.1)
theorem files_of {n : Nat} {X : IXS} (h : IXW n X) {o : Lb} {ys out : List ByteArray} (hs : SS ys) (hm : ∀ a, a ∈ ys ↔ a ∈ X.kv1.map (·.1)) (ho : out = ys.filter fun q => decide (∃ y ∈ LKF X.F q, BEL y.2.1 o)) : out = FLS X.F o := by
  have hy : ys = X.F.map (·.1) := ss_uniq hs h.ns fun a => by rw [hm, files_mem h.fs]
  subst ho
  subst hy
  unfold FLS
  rw [List.filter_map]
  congr 1
  refine List.filter_congr fun f hf => ?_
  have : LKF X.F f.1 = f.2 := by unfold LKF; rw [lookL_of_mem h.ns.nd hf]; rfl
  simp only [Function.comp, this]
theorem flt_at {l : List ByteArray} {p : ByteArray → Bool} {i : Int} (h0 : 0 ≤ i) (h1 : i < l.length) : (l.take (i + 1).toNat).filter p = (l.take i.toNat).filter p ++ (if p (l.getD i.toNat ByteArray.empty) then [l.getD i.toNat ByteArray.empty] else []) := by
  rw [Num.take_more ByteArray.empty h0 h1, List.filter_append, List.filter_cons, List.filter_nil]
/-! ### all of several words -/
def ALLF (F : List Fl) (o : Lb) : List ByteArray → List En
  | [] => []
  | w :: l => (w :: l).foldl (fun out v => out.filter fun h => decide (h ∈ FIND F (LOW v) o)) (FIND F (LOW w) o)
theorem all_0 {F : List Fl} {o : Lb} {l : List ByteArray} (h1 : 0 < l.length) : ALLF F o (l.take 1) = (FIND F (LOW (l.getD 0 ByteArray.empty)) o).filter fun h => decide (h ∈ FIND F (LOW (l.getD 0 ByteArray.empty)) o) := by
  cases l with
  | nil => simp at h1
  | cons w l => rfl
theorem all_at {F : List Fl} {o : Lb} {l : List ByteArray} {i : Int} (h0 : 0 < i) (h1 : i < l.length) : ALLF F o (l.take (i + 1).toNat) = (ALLF F o (l.take i.toNat)).filter fun h => decide (h ∈ FIND F (LOW (l.getD i.toNat ByteArray.empty)) o) := by
  rw [Num.take_more ByteArray.empty (by omega) h1]
  generalize l.getD i.toNat ByteArray.empty = v
  cases l with
  | nil => simp at h1; omega
  | cons w l =>
    obtain ⟨k, hk⟩ : ∃ k, i.toNat = k + 1 := ⟨i.toNat - 1, by omega⟩
    rw [hk, List.take_succ_cons, List.cons_append]
    show List.foldl _ _ (w :: (List.take k l ++ [v])) = _
    rw [← List.cons_append, List.foldl_append]
    rfl
theorem all_len (F : List Fl) (o : Lb) (m : Nat) (h : ∀ q, (FIND F q o).length ≤ m) : ∀ l, (ALLF F o l).length ≤ m
  | [] => Nat.zero_le _
  | w :: l => by
    have key : ∀ (l : List ByteArray) (out : List En), out.length ≤ m → (l.foldl (fun out v => out.filter fun h => decide (h ∈ FIND F (LOW v) o)) out).length ≤ m := by
      intro l
      induction l with
      | nil => intro out ho; exact ho
      | cons v l ih => intro out ho; exact ih _ (Nat.le_trans (List.length_filter_le _ _) ho)
    exact key _ _ (h _)
end Go.Idx

namespace Go.Proofs.YtigbphaimbhgjaaGreat
open Go Go.Gv Go.RowKit Go.Tly Go.Wds Go.Idx
set_option linter.unusedVariables false
set_option linter.unusedSimpArgs false
theorem ti45 : TI Tryz.prog 45 (.slice none 0 0) 1 24 := by unfold TI; kernel_rfl
theorem ti60 : TI Tryz.prog 60 (.map none) 1 8 := by unfold TI; kernel_rfl

theorem number_calls {w : World} {X : IXS} {n_X : Nat} {en : En} {o : Lb} (h_X : St No w (IXR 62 X)) (hv_X : IXW n_X X) (hm_X : n_X ≤ 30) (he : 0 ≤ en.2 ∧ en.2 < ((LKF X.F en.1).length : Int)) (wo : 0 ≤ o.2 ∧ o.2 < 18446744073709551616) :
    Calls Tryz.prog 34 #[(.pointer (some ⟨X.b, 0, none⟩)), (.agg #[(.string ((en).1)), (.int .i64 ((en).2))]), (.agg #[(.int .i64 ((o).1)), (.int .u64 ((o).2))])] w fun e w' => ∃ v, e = .returned v ∧ (fun v w' => v = .tuple #[.int .i64 (CNTB ((LKF X.F en.1).take (en.2 + 1).toNat) o), .bool (decide (BEL ((LKF X.F en.1).getD en.2.toNat dI).2.1 o))] ∧ KB No w w') v w' := by
  have hsm_ := lkf_small hv_X.sm en.1
  have hS : SH w No w [] := SH.nil _ _
  refine calls (l := litOf [(.pointer (some ⟨X.b, 0, none⟩)), (.agg #[(.string ((en).1)), (.int .i64 ((en).2))]), (.agg #[(.int .i64 ((o).1)), (.int .u64 ((o).2))])] 0) Tryz.func34 rfl (n := 45) rfl (Nat.le_of_ble_eq_true rfl) (lit_args _) ?_
  refine WC.seq ?_
  refine WC.region ?_
  refine WL.xe rfl (XE.box #[(.string ((en).1)), (.int .i64 ((en).2))] hS rfl rfl) ?_
  rintro _ w1 ⟨b1, rfl, hS1, hk1⟩
  refine WL.xe rfl (XE.box #[(.int .i64 ((o).1)), (.int .u64 ((o).2))] hS1 rfl rfl) ?_
  rintro _ w2 ⟨b2, rfl, hS2, hk2⟩
  iterate 2 refine WL.lv rfl (LV.asg rfl) ?_
  refine WL.nil (thenQ.n ?_)
  refine WC.seq ?_
  have hS3 := SH.drew hS2
  refine WC.regionD [] (fun _ => True) [(.pure, 0), (.pure, 1), (.pure, 2), (.pure, 4), (.fork, 0), (.fork, 0), (.fork, 0), (.fork, 0)] (by kernel_rfl) (by kernel_rfl) trivial ?_
  refine WS.pure rfl rfl (fun _ => LV.mv rfl) ?_
  refine WS.pure rfl rfl (fun _ => LV.nilCheck rfl) ?_
  refine WS.pure rfl rfl (fun _ => LV.fieldA Tryz.underlying62 rfl ti60.sz rfl) ?_
  refine WS.pure rfl rfl (fun _ => LV.fieldA Tryz.underlying76 rfl ti9.sz rfl) ?_
  refine WS.fork (WSX.two 3 5 (by kernel_rfl) ?_ ?_)
  · refine WO.lvT rfl rfl (LV.load1 Tryz.underlying60 rfl rfl (Blk.cellN (SH.arg hS3 (h_X.imp fun _ h_ => h_.1)) 0 rfl _ (KB.refl No _))) ?_
    refine WSX.of [(.forced, 5), (.forced, 6), (.pure, 7)] (by kernel_rfl) rfl ?_
    refine WS.lvT rfl rfl (LV.load1 Tryz.underlying9 rfl rfl (Blk.cellN (SH.at hS3 (.tail _ (.head _))) 0 rfl _ (KB.refl No _))) ?_
    obtain ⟨A1, c1, hv1, hr1⟩ := look_at (FILES.atL hv_X.fs ((en).1)) (h_X.imp fun _ h_ => h_.2.2.2.1)
    refine WS.lvT rfl rfl (LV.to hv1 (LV.lookG (q := ((en).1)) (V := kV) (z := svZ) (key_str Tryz.underlying9) Tryz.underlying60 ti45 (SH.arg hS3 (h_X.imp fun _ h_ => h_.2.1)) rfl rfl)) ?_
    refine WS.pure rfl rfl (fun _ => LV.asg rfl) ?_
    refine WS.nil (thenQ.n ?_)
    refine WC.seq ?_
    refine WC.region ?_
    refine WL.lv rfl (LV.asg rfl) ?_
    refine WL.nil (thenQ.n ?_)
    iterate 2 refine WC.seq ?_
    refine WC.region ?_
    refine WL.lv rfl (LV.mv rfl) ?_
    refine WL.lv rfl (LV.fieldA Tryz.underlying76 rfl ti3.sz rfl) ?_
    refine WL.lv rfl (LV.load1 Tryz.underlying3 rfl rfl (Blk.cellN (SH.at hS3 (.tail _ (.head _))) 1 rfl _ (KB.refl No _))) ?_
    refine WL.lv rfl (LV.add rfl rfl (wr64 (by omega) (by omega))) ?_
    have hcap1 : (LKF X.F ((en).1)).length ≤ c1 := (Rd.cap (St.now (SH.stN hS3 hr1)))
    refine WL.lv rfl (LV.cut Tryz.underlying45 ti68.sz rfl rfl rfl rfl ⟨.inl ⟨rfl, rfl⟩, .inr ⟨.i64, by rw [Int.toNat_of_nonneg (a := ((en).2) + 1) (by omega)] <;> rfl⟩, .inl ⟨rfl, rfl⟩⟩ (by omega) (by omega) (by omega)) ?_
    refine WL.lv rfl (LV.lenL Tryz.underlying45 rfl) ?_
    refine WL.lv rfl (LV.mv rfl) ?_
    refine WL.nil (thenQ.n ?_)
    refine WC.block ?_
    refine WC.loop (fun m_ f_ w_ => ∃ (n : Int) (ix : Int), (0 ≤ ix) ∧ (ix ≤ (((((en).2) + 1).toNat - 0) : Int)) ∧ (n = CNTB ((((LKF X.F en.1).take (en.2 + 1).toNat).drop 0).take ix.toNat) o) ∧ (0 ≤ n ∧ n ≤ ix) ∧ SH w No w_ [blkE b2 26 #[(.int .i64 ((o).1)), (.int .u64 ((o).2))], blkE b1 76 #[(.string ((en).1)), (.int .i64 ((en).2))]] ∧ m_ = (((((((en).2) + 1).toNat - 0) : Int) - ix).toNat) ∧ Weak (lit [(4, (.pointer (some ⟨b1, 0, none⟩))), (5, (.pointer (some ⟨b2, 0, none⟩))), (8, (.slice A1 ((LKF X.F ((en).1)).length) c1)), (9, (.int .i64 n)), (23, (.slice (if c1 = 0 then A1 else A1.map (·.add (0 * 6))) ((((en).2) + 1).toNat - 0) (c1 - 0))), (24, (.int .i64 (((((en).2) + 1).toNat - 0) : Int))), (25, (.int .i64 ix))]) f_) _ ⟨0, 0, by omega, by omega, rfl, by omega, hS3, rfl, Weak.cons rfl <| Weak.cons rfl <| Weak.cons rfl <| Weak.cons rfl <| Weak.cons rfl <| Weak.cons rfl <| Weak.cons rfl <| Weak.nil _⟩ ?_
    rintro m1 f1 w3 ⟨n, ix, ixlo, ixhi, q1, q2, hL1, rfl, hw1⟩
    refine WC.weak hw1 ?_
    clear hw1
    have hlc_ : (((LKF X.F en.1).take (en.2 + 1).toNat).drop 0).length = (en.2 + 1).toNat := by rw [List.length_drop, List.length_take]; omega
    refine WC.seq ?_
    refine WC.region ?_
    refine WL.lv rfl (LV.ltI rfl rfl) ?_
    refine WL.nil (thenQ.n ?_)
    refine WC.seq ?_
    refine WC.condP (p := ix < (((((en).2) + 1).toNat - 0) : Int)) rfl (fun hc1 => ?_) (fun hc1 => ?_)
    · skip
      refine WC.skip (thenQ.n ?_)
      refine WC.seq ?_
      refine WC.block ?_
      refine WC.seq ?_
      refine WC.region ?_
      obtain ⟨A2, c2, e1, g1⟩ := St.elt (show St No w3 (Rd eIt (.slice (if c1 = 0 then A1 else A1.map (·.add (0 * 6))) ((((en).2) + 1).toNat - 0) (c1 - 0)) (((LKF X.F ((en).1)).take ((((en).2) + 1).toNat)).drop 0)) from ((SH.stN hL1 hr1).imp fun _ h => Rd.cut h (by omega) (by omega) (by omega) (by omega))) dI ix (by omega) (by omega)
      refine WL.lv rfl (LV.idxA Tryz.underlying45 ti68.sz rfl e1 rfl (by omega) (by omega)) ?_
      refine WL.lv rfl (LV.loadAgg (cs := [(.int .i64 (((((LKF X.F ((en).1)).take ((((en).2) + 1).toNat)).drop 0).getD (ix).toNat dI).1)), (.int .i64 (((((LKF X.F ((en).1)).take ((((en).2) + 1).toNat)).drop 0).getD (ix).toNat dI).2.1.1)), (.int .u64 (((((LKF X.F ((en).1)).take ((((en).2) + 1).toNat)).drop 0).getD (ix).toNat dI).2.1.2)), (.bool (((((LKF X.F ((en).1)).take ((((en).2) + 1).toNat)).drop 0).getD (ix).toNat dI).2.2.1)), (.string (((((LKF X.F ((en).1)).take ((((en).2) + 1).toNat)).drop 0).getD (ix).toNat dI).2.2.2.1)), (.bool (((((LKF X.F ((en).1)).take ((((en).2) + 1).toNat)).drop 0).getD (ix).toNat dI).2.2.2.2))]) Tryz.underlying68 rfl ti68 rfl rfl (fun j u hu => g1 _ (KB.refl No _) j u hu)) ?_
      refine WL.xe rfl (XE.alloc #[(.int .i64 0), (.int .i64 0), (.int .u64 0), (.bool false), (.string ⟨#[]⟩), (.bool false)] hL1 ti68 rfl) ?_
      rintro _ w4 ⟨b3, rfl, hS4, hk3⟩
      refine WL.xse rfl (XSE.blkAgg #[(.int .i64 (((((LKF X.F ((en).1)).take ((((en).2) + 1).toNat)).drop 0).getD (ix).toNat dI).1)), (.int .i64 (((((LKF X.F ((en).1)).take ((((en).2) + 1).toNat)).drop 0).getD (ix).toNat dI).2.1.1)), (.int .u64 (((((LKF X.F ((en).1)).take ((((en).2) + 1).toNat)).drop 0).getD (ix).toNat dI).2.1.2)), (.bool (((((LKF X.F ((en).1)).take ((((en).2) + 1).toNat)).drop 0).getD (ix).toNat dI).2.2.1)), (.string (((((LKF X.F ((en).1)).take ((((en).2) + 1).toNat)).drop 0).getD (ix).toNat dI).2.2.2.1)), (.bool (((((LKF X.F ((en).1)).take ((((en).2) + 1).toNat)).drop 0).getD (ix).toNat dI).2.2.2.2))] hS4 (by kernel_rfl) rfl (by kernel_rfl) rfl rfl) ?_
      rintro w5 ⟨hS5, hk4⟩
      refine WL.nil (thenQ.n ?_)
      refine WC.seq ?_
      refine WC.region ?_
      have hyy_ := hsm_.2 _ (List.mem_of_mem_take (List.mem_of_mem_drop (getD_mem (l := (((LKF X.F en.1).take (en.2 + 1).toNat).drop 0)) (d := dI) (i := ix.toNat) (by omega))))
      have hca_ := CNTB_at (o := o) ixlo (show ix < ((((LKF X.F en.1).take (en.2 + 1).toNat).drop 0).length : Int) by omega)
      refine WL.lv rfl (LV.fieldA Tryz.underlying68 rfl ti26.sz rfl) ?_
      refine WL.lv rfl (LV.loadAgg (cs := [(.int .i64 (((((LKF X.F ((en).1)).take ((((en).2) + 1).toNat)).drop 0).getD (ix).toNat dI).2.1.1)), (.int .u64 (((((LKF X.F ((en).1)).take ((((en).2) + 1).toNat)).drop 0).getD (ix).toNat dI).2.1.2))]) Tryz.underlying26 rfl ti26 rfl rfl (Blk.part 1 2 (SH.at hS5 (.head _)) rfl _ (KB.refl No _))) ?_
      refine WL.lv rfl (LV.loadAgg (cs := [(.int .i64 ((o).1)), (.int .u64 ((o).2))]) Tryz.underlying26 rfl ti26 rfl rfl (Blk.agg (SH.at hS5 (.tail _ (.head _))) _ (KB.refl No _))) ?_
      refine WL.call rfl (XC.fn Tryz.func32 (by kernel_rfl) rfl rfl rfl) (below_calls (a := (((((LKF X.F ((en).1)).take ((((en).2) + 1).toNat)).drop 0).getD (ix).toNat dI).2.1)) (b := o) (by omega) (by omega)) ?_
      rintro v_ w6 ⟨rfl, hk5⟩
      have hS6 := SH.same hS5 hk5
      refine WL.nil (thenQ.n ?_)
      refine WC.condP (p := BEL (((((LKF X.F ((en).1)).take ((((en).2) + 1).toNat)).drop 0).getD (ix).toNat dI).2.1) o) rfl (fun hb => ?_) (fun hb => ?_)
      · skip
        refine WC.region ?_
        refine WL.lv rfl (LV.mv rfl) ?_
        refine WL.lv rfl (LV.add rfl rfl (wr64 (by omega) (by omega))) ?_
        refine WL.lv rfl (LV.asg rfl) ?_
        refine WL.nil (blockQ.n <| thenQ.n ?_)
        refine WC.region ?_
        refine WL.lv rfl (LV.add rfl rfl (wr64 (by omega) (by omega))) ?_
        refine WL.lv rfl (LV.mv rfl) ?_
        refine WL.nil (thenQ.n ?_)
        have hS7 : SH w No w6 [blkE b2 26 #[(.int .i64 ((o).1)), (.int .u64 ((o).2))], blkE b1 76 #[(.string ((en).1)), (.int .i64 ((en).2))]] := (SH.take 2 rfl (SH.front [_, _] (SH.front [_, _] hS6)))
        exact ⟨_, by omega, n + 1, ix + 1, by omega, by omega, ((by rw [hca_, if_pos hb, ← q1])), by omega, hS7, rfl, Weak.cons rfl <| Weak.cons rfl <| Weak.cons rfl <| Weak.cons rfl <| Weak.cons rfl <| Weak.cons rfl <| Weak.cons rfl <| Weak.nil _⟩
      · skip
        refine WC.skip (blockQ.n <| thenQ.n ?_)
        refine WC.region ?_
        refine WL.lv rfl (LV.add rfl rfl (wr64 (by omega) (by omega))) ?_
        refine WL.lv rfl (LV.mv rfl) ?_
        refine WL.nil (thenQ.n ?_)
        have hS8 : SH w No w6 [blkE b2 26 #[(.int .i64 ((o).1)), (.int .u64 ((o).2))], blkE b1 76 #[(.string ((en).1)), (.int .i64 ((en).2))]] := (SH.take 2 rfl (SH.front [_, _] (SH.front [_, _] hS6)))
        exact ⟨_, by omega, n, ix + 1, by omega, by omega, ((by rw [hca_, if_neg hb, ← q1, Int.add_zero])), by omega, hS8, rfl, Weak.cons rfl <| Weak.cons rfl <| Weak.cons rfl <| Weak.cons rfl <| Weak.cons rfl <| Weak.cons rfl <| Weak.cons rfl <| Weak.nil _⟩
    · skip
      refine WC.exit (thenQ.x <| thenQ.x <| blockQ.hit <| thenQ.n ?_)
      refine WC.seq ?_
      have hS9 := SH.drew hL1
      refine WC.regionD [] (fun _ => True) [(.pure, 0), (.pure, 1), (.pure, 2), (.fork, 0), (.fork, 0), (.fork, 0), (.fork, 0), (.fork, 0), (.fork, 0), (.fork, 0), (.fork, 0)] (by kernel_rfl) (by kernel_rfl) trivial ?_
      iterate 2 refine WS.pure rfl rfl (fun _ => LV.mv rfl) ?_
      refine WS.pure rfl rfl (fun _ => LV.fieldA Tryz.underlying76 rfl ti3.sz rfl) ?_
      refine WS.fork (WSX.two 3 7 (by kernel_rfl) ?_ ?_)
      · refine WO.lvT rfl rfl (LV.load1 Tryz.underlying3 rfl rfl (Blk.cellN (SH.at hS9 (.tail _ (.head _))) 1 rfl _ (KB.refl No _))) ?_
        refine WSX.of [(.pure, 4), (.pure, 5), (.fork, 0), (.fork, 0), (.fork, 0), (.fork, 0), (.fork, 0)] (by kernel_rfl) rfl ?_
        have hyz_ := hsm_.2 _ (getD_mem (l := (LKF X.F en.1)) (d := dI) (i := en.2.toNat) (by omega))
        have hcb_ := CNTB_bd ((((LKF X.F en.1).take (en.2 + 1).toNat).drop 0).take ix.toNat) o
        obtain ⟨A3, c3, e2, g2⟩ := St.elt (SH.stN hS9 hr1) dI ((en).2) (by omega) (by omega)
        refine WS.pure rfl rfl (fun _ => LV.idxA Tryz.underlying45 ti68.sz rfl e2 rfl (by omega) (by omega)) ?_
        refine WS.pure rfl rfl (fun _ => LV.fieldA Tryz.underlying68 rfl ti26.sz rfl) ?_
        refine WS.fork (WSX.two 6 7 (by kernel_rfl) ?_ ?_)
        · refine WO.lvT rfl rfl (LV.loadAgg (cs := [(.int .i64 (((LKF X.F ((en).1)).getD ((en).2).toNat dI).2.1.1)), (.int .u64 (((LKF X.F ((en).1)).getD ((en).2).toNat dI).2.1.2))]) Tryz.underlying26 rfl ti26 rfl rfl (elt_part (off := 1) (n := 2) g2 rfl _ (KB.refl No _))) ?_
          refine WSX.of [(.forced, 7), (.forced, 8), (.pure, 9), (.pure, 10)] (by kernel_rfl) rfl ?_
          refine WS.lvT rfl rfl (LV.loadAgg (cs := [(.int .i64 ((o).1)), (.int .u64 ((o).2))]) Tryz.underlying26 rfl ti26 rfl rfl (Blk.agg (SH.at hS9 (.head _)) _ (KB.refl No _))) ?_
          refine WS.call rfl rfl (XC.fn Tryz.func32 (by kernel_rfl) rfl rfl rfl) (below_calls (a := (((LKF X.F ((en).1)).getD ((en).2).toNat dI).2.1)) (b := o) (by omega) (by omega)) ?_
          rintro v_ w7 ⟨rfl, hk6⟩
          have hS10 := SH.same hS9 hk6
          refine ⟨fun h_ => trivial, ?_⟩
          iterate 2 refine WS.pure rfl rfl (fun _ => LV.asg rfl) ?_
          refine WS.nil (thenQ.n ?_)
          refine WC.ret (?_)
          exact ⟨_, fun a ha => res2 rfl ha rfl rfl, tup2 (congrArg (Value.int .i64) (by rw [q1, List.take_of_length_le (by omega), List.drop_zero])) (congrArg Value.bool (rfl)), hS10.kb⟩
        · refine WO.lvT rfl rfl (LV.loadAgg (cs := [(.int .i64 ((o).1)), (.int .u64 ((o).2))]) Tryz.underlying26 rfl ti26 rfl rfl (Blk.agg (SH.at hS9 (.head _)) _ (KB.refl No _))) ?_
          refine WSX.of [(.forced, 6), (.forced, 8), (.pure, 9), (.pure, 10)] (by kernel_rfl) rfl ?_
          refine WS.lvT rfl rfl (LV.loadAgg (cs := [(.int .i64 (((LKF X.F ((en).1)).getD ((en).2).toNat dI).2.1.1)), (.int .u64 (((LKF X.F ((en).1)).getD ((en).2).toNat dI).2.1.2))]) Tryz.underlying26 rfl ti26 rfl rfl (elt_part (off := 1) (n := 2) g2 rfl _ (KB.refl No _))) ?_
          refine WS.call rfl rfl (XC.fn Tryz.func32 (by kernel_rfl) rfl rfl rfl) (below_calls (a := (((LKF X.F ((en).1)).getD ((en).2).toNat dI).2.1)) (b := o) (by omega) (by omega)) ?_
          rintro v_ w8 ⟨rfl, hk7⟩
          have hS11 := SH.same hS9 hk7
          refine ⟨fun h_ => trivial, ?_⟩
          iterate 2 refine WS.pure rfl rfl (fun _ => LV.asg rfl) ?_
          refine WS.nil (thenQ.n ?_)
          refine WC.ret (?_)
          exact ⟨_, fun a ha => res2 rfl ha rfl rfl, tup2 (congrArg (Value.int .i64) (by rw [q1, List.take_of_length_le (by omega), List.drop_zero])) (congrArg Value.bool (rfl)), hS11.kb⟩
      · refine WO.lvT rfl rfl (LV.loadAgg (cs := [(.int .i64 ((o).1)), (.int .u64 ((o).2))]) Tryz.underlying26 rfl ti26 rfl rfl (Blk.agg (SH.at hS9 (.head _)) _ (KB.refl No _))) ?_
        refine WSX.of [(.forced, 3), (.pure, 4), (.pure, 5), (.forced, 6), (.forced, 8), (.pure, 9), (.pure, 10)] (by kernel_rfl) rfl ?_
        refine WS.lvT rfl rfl (LV.load1 Tryz.underlying3 rfl rfl (Blk.cellN (SH.at hS9 (.tail _ (.head _))) 1 rfl _ (KB.refl No _))) ?_
        have hyz_ := hsm_.2 _ (getD_mem (l := (LKF X.F en.1)) (d := dI) (i := en.2.toNat) (by omega))
        have hcb_ := CNTB_bd ((((LKF X.F en.1).take (en.2 + 1).toNat).drop 0).take ix.toNat) o
        obtain ⟨A4, c4, e3, g3⟩ := St.elt (SH.stN hS9 hr1) dI ((en).2) (by omega) (by omega)
        refine WS.pure rfl rfl (fun _ => LV.idxA Tryz.underlying45 ti68.sz rfl e3 rfl (by omega) (by omega)) ?_
        refine WS.pure rfl rfl (fun _ => LV.fieldA Tryz.underlying68 rfl ti26.sz rfl) ?_
        refine WS.lvT rfl rfl (LV.loadAgg (cs := [(.int .i64 (((LKF X.F ((en).1)).getD ((en).2).toNat dI).2.1.1)), (.int .u64 (((LKF X.F ((en).1)).getD ((en).2).toNat dI).2.1.2))]) Tryz.underlying26 rfl ti26 rfl rfl (elt_part (off := 1) (n := 2) g3 rfl _ (KB.refl No _))) ?_
        refine WS.call rfl rfl (XC.fn Tryz.func32 (by kernel_rfl) rfl rfl rfl) (below_calls (a := (((LKF X.F ((en).1)).getD ((en).2).toNat dI).2.1)) (b := o) (by omega) (by omega)) ?_
        rintro v_ w9 ⟨rfl, hk8⟩
        have hS12 := SH.same hS9 hk8
        refine ⟨fun h_ => trivial, ?_⟩
        iterate 2 refine WS.pure rfl rfl (fun _ => LV.asg rfl) ?_
        refine WS.nil (thenQ.n ?_)
        refine WC.ret (?_)
        exact ⟨_, fun a ha => res2 rfl ha rfl rfl, tup2 (congrArg (Value.int .i64) (by rw [q1, List.take_of_length_le (by omega), List.drop_zero])) (congrArg Value.bool (rfl)), hS12.kb⟩
  · refine WO.lvT rfl rfl (LV.load1 Tryz.underlying9 rfl rfl (Blk.cellN (SH.at hS3 (.tail _ (.head _))) 0 rfl _ (KB.refl No _))) ?_
    refine WSX.of [(.forced, 3), (.forced, 6), (.pure, 7)] (by kernel_rfl) rfl ?_
    refine WS.lvT rfl rfl (LV.load1 Tryz.underlying60 rfl rfl (Blk.cellN (SH.arg hS3 (h_X.imp fun _ h_ => h_.1)) 0 rfl _ (KB.refl No _))) ?_
    obtain ⟨A5, c5, hv2, hr2⟩ := look_at (FILES.atL hv_X.fs ((en).1)) (h_X.imp fun _ h_ => h_.2.2.2.1)
    refine WS.lvT rfl rfl (LV.to hv2 (LV.lookG (q := ((en).1)) (V := kV) (z := svZ) (key_str Tryz.underlying9) Tryz.underlying60 ti45 (SH.arg hS3 (h_X.imp fun _ h_ => h_.2.1)) rfl rfl)) ?_
    refine WS.pure rfl rfl (fun _ => LV.asg rfl) ?_
    refine WS.nil (thenQ.n ?_)
    refine WC.seq ?_
    refine WC.region ?_
    refine WL.lv rfl (LV.asg rfl) ?_
    refine WL.nil (thenQ.n ?_)
    iterate 2 refine WC.seq ?_
    refine WC.region ?_
    refine WL.lv rfl (LV.mv rfl) ?_
    refine WL.lv rfl (LV.fieldA Tryz.underlying76 rfl ti3.sz rfl) ?_
    refine WL.lv rfl (LV.load1 Tryz.underlying3 rfl rfl (Blk.cellN (SH.at hS3 (.tail _ (.head _))) 1 rfl _ (KB.refl No _))) ?_
    refine WL.lv rfl (LV.add rfl rfl (wr64 (by omega) (by omega))) ?_
    have hcap2 : (LKF X.F ((en).1)).length ≤ c5 := (Rd.cap (St.now (SH.stN hS3 hr2)))
    refine WL.lv rfl (LV.cut Tryz.underlying45 ti68.sz rfl rfl rfl rfl ⟨.inl ⟨rfl, rfl⟩, .inr ⟨.i64, by rw [Int.toNat_of_nonneg (a := ((en).2) + 1) (by omega)] <;> rfl⟩, .inl ⟨rfl, rfl⟩⟩ (by omega) (by omega) (by omega)) ?_
    refine WL.lv rfl (LV.lenL Tryz.underlying45 rfl) ?_
    refine WL.lv rfl (LV.mv rfl) ?_
    refine WL.nil (thenQ.n ?_)
    refine WC.block ?_
    refine WC.loop (fun m_ f_ w_ => ∃ (n : Int) (ix : Int), (0 ≤ ix) ∧ (ix ≤ (((((en).2) + 1).toNat - 0) : Int)) ∧ (n = CNTB ((((LKF X.F en.1).take (en.2 + 1).toNat).drop 0).take ix.toNat) o) ∧ (0 ≤ n ∧ n ≤ ix) ∧ SH w No w_ [blkE b2 26 #[(.int .i64 ((o).1)), (.int .u64 ((o).2))], blkE b1 76 #[(.string ((en).1)), (.int .i64 ((en).2))]] ∧ m_ = (((((((en).2) + 1).toNat - 0) : Int) - ix).toNat) ∧ Weak (lit [(4, (.pointer (some ⟨b1, 0, none⟩))), (5, (.pointer (some ⟨b2, 0, none⟩))), (8, (.slice A5 ((LKF X.F ((en).1)).length) c5)), (9, (.int .i64 n)), (23, (.slice (if c5 = 0 then A5 else A5.map (·.add (0 * 6))) ((((en).2) + 1).toNat - 0) (c5 - 0))), (24, (.int .i64 (((((en).2) + 1).toNat - 0) : Int))), (25, (.int .i64 ix))]) f_) _ ⟨0, 0, by omega, by omega, rfl, by omega, hS3, rfl, Weak.cons rfl <| Weak.cons rfl <| Weak.cons rfl <| Weak.cons rfl <| Weak.cons rfl <| Weak.cons rfl <| Weak.cons rfl <| Weak.nil _⟩ ?_
    rintro m2 f2 w10 ⟨n, ix, ixlo, ixhi, q1, q2, hL2, rfl, hw2⟩
    refine WC.weak hw2 ?_
    clear hw2
    have hlc_ : (((LKF X.F en.1).take (en.2 + 1).toNat).drop 0).length = (en.2 + 1).toNat := by rw [List.length_drop, List.length_take]; omega
    refine WC.seq ?_
    refine WC.region ?_
    refine WL.lv rfl (LV.ltI rfl rfl) ?_
    refine WL.nil (thenQ.n ?_)
    refine WC.seq ?_
    refine WC.condP (p := ix < (((((en).2) + 1).toNat - 0) : Int)) rfl (fun hc2 => ?_) (fun hc2 => ?_)
    · skip
      refine WC.skip (thenQ.n ?_)
      refine WC.seq ?_
      refine WC.block ?_
      refine WC.seq ?_
      refine WC.region ?_
      obtain ⟨A6, c6, e4, g4⟩ := St.elt (show St No w10 (Rd eIt (.slice (if c5 = 0 then A5 else A5.map (·.add (0 * 6))) ((((en).2) + 1).toNat - 0) (c5 - 0)) (((LKF X.F ((en).1)).take ((((en).2) + 1).toNat)).drop 0)) from ((SH.stN hL2 hr2).imp fun _ h => Rd.cut h (by omega) (by omega) (by omega) (by omega))) dI ix (by omega) (by omega)
      refine WL.lv rfl (LV.idxA Tryz.underlying45 ti68.sz rfl e4 rfl (by omega) (by omega)) ?_
      refine WL.lv rfl (LV.loadAgg (cs := [(.int .i64 (((((LKF X.F ((en).1)).take ((((en).2) + 1).toNat)).drop 0).getD (ix).toNat dI).1)), (.int .i64 (((((LKF X.F ((en).1)).take ((((en).2) + 1).toNat)).drop 0).getD (ix).toNat dI).2.1.1)), (.int .u64 (((((LKF X.F ((en).1)).take ((((en).2) + 1).toNat)).drop 0).getD (ix).toNat dI).2.1.2)), (.bool (((((LKF X.F ((en).1)).take ((((en).2) + 1).toNat)).drop 0).getD (ix).toNat dI).2.2.1)), (.string (((((LKF X.F ((en).1)).take ((((en).2) + 1).toNat)).drop 0).getD (ix).toNat dI).2.2.2.1)), (.bool (((((LKF X.F ((en).1)).take ((((en).2) + 1).toNat)).drop 0).getD (ix).toNat dI).2.2.2.2))]) Tryz.underlying68 rfl ti68 rfl rfl (fun j u hu => g4 _ (KB.refl No _) j u hu)) ?_
      refine WL.xe rfl (XE.alloc #[(.int .i64 0), (.int .i64 0), (.int .u64 0), (.bool false), (.string ⟨#[]⟩), (.bool false)] hL2 ti68 rfl) ?_
      rintro _ w11 ⟨b4, rfl, hS13, hk9⟩
      refine WL.xse rfl (XSE.blkAgg #[(.int .i64 (((((LKF X.F ((en).1)).take ((((en).2) + 1).toNat)).drop 0).getD (ix).toNat dI).1)), (.int .i64 (((((LKF X.F ((en).1)).take ((((en).2) + 1).toNat)).drop 0).getD (ix).toNat dI).2.1.1)), (.int .u64 (((((LKF X.F ((en).1)).take ((((en).2) + 1).toNat)).drop 0).getD (ix).toNat dI).2.1.2)), (.bool (((((LKF X.F ((en).1)).take ((((en).2) + 1).toNat)).drop 0).getD (ix).toNat dI).2.2.1)), (.string (((((LKF X.F ((en).1)).take ((((en).2) + 1).toNat)).drop 0).getD (ix).toNat dI).2.2.2.1)), (.bool (((((LKF X.F ((en).1)).take ((((en).2) + 1).toNat)).drop 0).getD (ix).toNat dI).2.2.2.2))] hS13 (by kernel_rfl) rfl (by kernel_rfl) rfl rfl) ?_
      rintro w12 ⟨hS14, hk10⟩
      refine WL.nil (thenQ.n ?_)
      refine WC.seq ?_
      refine WC.region ?_
      have hyy_ := hsm_.2 _ (List.mem_of_mem_take (List.mem_of_mem_drop (getD_mem (l := (((LKF X.F en.1).take (en.2 + 1).toNat).drop 0)) (d := dI) (i := ix.toNat) (by omega))))
      have hca_ := CNTB_at (o := o) ixlo (show ix < ((((LKF X.F en.1).take (en.2 + 1).toNat).drop 0).length : Int) by omega)
      refine WL.lv rfl (LV.fieldA Tryz.underlying68 rfl ti26.sz rfl) ?_
      refine WL.lv rfl (LV.loadAgg (cs := [(.int .i64 (((((LKF X.F ((en).1)).take ((((en).2) + 1).toNat)).drop 0).getD (ix).toNat dI).2.1.1)), (.int .u64 (((((LKF X.F ((en).1)).take ((((en).2) + 1).toNat)).drop 0).getD (ix).toNat dI).2.1.2))]) Tryz.underlying26 rfl ti26 rfl rfl (Blk.part 1 2 (SH.at hS14 (.head _)) rfl _ (KB.refl No _))) ?_
      refine WL.lv rfl (LV.loadAgg (cs := [(.int .i64 ((o).1)), (.int .u64 ((o).2))]) Tryz.underlying26 rfl ti26 rfl rfl (Blk.agg (SH.at hS14 (.tail _ (.head _))) _ (KB.refl No _))) ?_
      refine WL.call rfl (XC.fn Tryz.func32 (by kernel_rfl) rfl rfl rfl) (below_calls (a := (((((LKF X.F ((en).1)).take ((((en).2) + 1).toNat)).drop 0).getD (ix).toNat dI).2.1)) (b := o) (by omega) (by omega)) ?_
      rintro v_ w13 ⟨rfl, hk11⟩
      have hS15 := SH.same hS14 hk11
      refine WL.nil (thenQ.n ?_)
      refine WC.condP (p := BEL (((((LKF X.F ((en).1)).take ((((en).2) + 1).toNat)).drop 0).getD (ix).toNat dI).2.1) o) rfl (fun hb => ?_) (fun hb => ?_)
      · skip
        refine WC.region ?_
        refine WL.lv rfl (LV.mv rfl) ?_
        refine WL.lv rfl (LV.add rfl rfl (wr64 (by omega) (by omega))) ?_
        refine WL.lv rfl (LV.asg rfl) ?_
        refine WL.nil (blockQ.n <| thenQ.n ?_)
        refine WC.region ?_
        refine WL.lv rfl (LV.add rfl rfl (wr64 (by omega) (by omega))) ?_
        refine WL.lv rfl (LV.mv rfl) ?_
        refine WL.nil (thenQ.n ?_)
        have hS16 : SH w No w13 [blkE b2 26 #[(.int .i64 ((o).1)), (.int .u64 ((o).2))], blkE b1 76 #[(.string ((en).1)), (.int .i64 ((en).2))]] := (SH.take 2 rfl (SH.front [_, _] (SH.front [_, _] hS15)))
        exact ⟨_, by omega, n + 1, ix + 1, by omega, by omega, ((by rw [hca_, if_pos hb, ← q1])), by omega, hS16, rfl, Weak.cons rfl <| Weak.cons rfl <| Weak.cons rfl <| Weak.cons rfl <| Weak.cons rfl <| Weak.cons rfl <| Weak.cons rfl <| Weak.nil _⟩
      · skip
        refine WC.skip (blockQ.n <| thenQ.n ?_)
        refine WC.region ?_
        refine WL.lv rfl (LV.add rfl rfl (wr64 (by omega) (by omega))) ?_
        refine WL.lv rfl (LV.mv rfl) ?_
        refine WL.nil (thenQ.n ?_)
        have hS17 : SH w No w13 [blkE b2 26 #[(.int .i64 ((o).1)), (.int .u64 ((o).2))], blkE b1 76 #[(.string ((en).1)), (.int .i64 ((en).2))]] := (SH.take 2 rfl (SH.front [_, _] (SH.front [_, _] hS15)))
        exact ⟨_, by omega, n, ix + 1, by omega, by omega, ((by rw [hca_, if_neg hb, ← q1, Int.add_zero])), by omega, hS17, rfl, Weak.cons rfl <| Weak.cons rfl <| Weak.cons rfl <| Weak.cons rfl <| Weak.cons rfl <| Weak.cons rfl <| Weak.cons rfl <| Weak.nil _⟩
    · skip
      refine WC.exit (thenQ.x <| thenQ.x <| blockQ.hit <| thenQ.n ?_)
      refine WC.seq ?_
      have hS18 := SH.drew hL2
      refine WC.regionD [] (fun _ => True) [(.pure, 0), (.pure, 1), (.pure, 2), (.fork, 0), (.fork, 0), (.fork, 0), (.fork, 0), (.fork, 0), (.fork, 0), (.fork, 0), (.fork, 0)] (by kernel_rfl) (by kernel_rfl) trivial ?_
      iterate 2 refine WS.pure rfl rfl (fun _ => LV.mv rfl) ?_
      refine WS.pure rfl rfl (fun _ => LV.fieldA Tryz.underlying76 rfl ti3.sz rfl) ?_
      refine WS.fork (WSX.two 3 7 (by kernel_rfl) ?_ ?_)
      · refine WO.lvT rfl rfl (LV.load1 Tryz.underlying3 rfl rfl (Blk.cellN (SH.at hS18 (.tail _ (.head _))) 1 rfl _ (KB.refl No _))) ?_
        refine WSX.of [(.pure, 4), (.pure, 5), (.fork, 0), (.fork, 0), (.fork, 0), (.fork, 0), (.fork, 0)] (by kernel_rfl) rfl ?_
        have hyz_ := hsm_.2 _ (getD_mem (l := (LKF X.F en.1)) (d := dI) (i := en.2.toNat) (by omega))
        have hcb_ := CNTB_bd ((((LKF X.F en.1).take (en.2 + 1).toNat).drop 0).take ix.toNat) o
        obtain ⟨A7, c7, e5, g5⟩ := St.elt (SH.stN hS18 hr2) dI ((en).2) (by omega) (by omega)
        refine WS.pure rfl rfl (fun _ => LV.idxA Tryz.underlying45 ti68.sz rfl e5 rfl (by omega) (by omega)) ?_
        refine WS.pure rfl rfl (fun _ => LV.fieldA Tryz.underlying68 rfl ti26.sz rfl) ?_
        refine WS.fork (WSX.two 6 7 (by kernel_rfl) ?_ ?_)
        · refine WO.lvT rfl rfl (LV.loadAgg (cs := [(.int .i64 (((LKF X.F ((en).1)).getD ((en).2).toNat dI).2.1.1)), (.int .u64 (((LKF X.F ((en).1)).getD ((en).2).toNat dI).2.1.2))]) Tryz.underlying26 rfl ti26 rfl rfl (elt_part (off := 1) (n := 2) g5 rfl _ (KB.refl No _))) ?_
          refine WSX.of [(.forced, 7), (.forced, 8), (.pure, 9), (.pure, 10)] (by kernel_rfl) rfl ?_
          refine WS.lvT rfl rfl (LV.loadAgg (cs := [(.int .i64 ((o).1)), (.int .u64 ((o).2))]) Tryz.underlying26 rfl ti26 rfl rfl (Blk.agg (SH.at hS18 (.head _)) _ (KB.refl No _))) ?_
          refine WS.call rfl rfl (XC.fn Tryz.func32 (by kernel_rfl) rfl rfl rfl) (below_calls (a := (((LKF X.F ((en).1)).getD ((en).2).toNat dI).2.1)) (b := o) (by omega) (by omega)) ?_
          rintro v_ w14 ⟨rfl, hk12⟩
          have hS19 := SH.same hS18 hk12
          refine ⟨fun h_ => trivial, ?_⟩
          iterate 2 refine WS.pure rfl rfl (fun _ => LV.asg rfl) ?_
          refine WS.nil (thenQ.n ?_)
          refine WC.ret (?_)
          exact ⟨_, fun a ha => res2 rfl ha rfl rfl, tup2 (congrArg (Value.int .i64) (by rw [q1, List.take_of_length_le (by omega), List.drop_zero])) (congrArg Value.bool (rfl)), hS19.kb⟩
        · refine WO.lvT rfl rfl (LV.loadAgg (cs := [(.int .i64 ((o).1)), (.int .u64 ((o).2))]) Tryz.underlying26 rfl ti26 rfl rfl (Blk.agg (SH.at hS18 (.head _)) _ (KB.refl No _))) ?_
          refine WSX.of [(.forced, 6), (.forced, 8), (.pure, 9), (.pure, 10)] (by kernel_rfl) rfl ?_
          refine WS.lvT rfl rfl (LV.loadAgg (cs := [(.int .i64 (((LKF X.F ((en).1)).getD ((en).2).toNat dI).2.1.1)), (.int .u64 (((LKF X.F ((en).1)).getD ((en).2).toNat dI).2.1.2))]) Tryz.underlying26 rfl ti26 rfl rfl (elt_part (off := 1) (n := 2) g5 rfl _ (KB.refl No _))) ?_
          refine WS.call rfl rfl (XC.fn Tryz.func32 (by kernel_rfl) rfl rfl rfl) (below_calls (a := (((LKF X.F ((en).1)).getD ((en).2).toNat dI).2.1)) (b := o) (by omega) (by omega)) ?_
          rintro v_ w15 ⟨rfl, hk13⟩
          have hS20 := SH.same hS18 hk13
          refine ⟨fun h_ => trivial, ?_⟩
          iterate 2 refine WS.pure rfl rfl (fun _ => LV.asg rfl) ?_
          refine WS.nil (thenQ.n ?_)
          refine WC.ret (?_)
          exact ⟨_, fun a ha => res2 rfl ha rfl rfl, tup2 (congrArg (Value.int .i64) (by rw [q1, List.take_of_length_le (by omega), List.drop_zero])) (congrArg Value.bool (rfl)), hS20.kb⟩
      · refine WO.lvT rfl rfl (LV.loadAgg (cs := [(.int .i64 ((o).1)), (.int .u64 ((o).2))]) Tryz.underlying26 rfl ti26 rfl rfl (Blk.agg (SH.at hS18 (.head _)) _ (KB.refl No _))) ?_
        refine WSX.of [(.forced, 3), (.pure, 4), (.pure, 5), (.forced, 6), (.forced, 8), (.pure, 9), (.pure, 10)] (by kernel_rfl) rfl ?_
        refine WS.lvT rfl rfl (LV.load1 Tryz.underlying3 rfl rfl (Blk.cellN (SH.at hS18 (.tail _ (.head _))) 1 rfl _ (KB.refl No _))) ?_
        have hyz_ := hsm_.2 _ (getD_mem (l := (LKF X.F en.1)) (d := dI) (i := en.2.toNat) (by omega))
        have hcb_ := CNTB_bd ((((LKF X.F en.1).take (en.2 + 1).toNat).drop 0).take ix.toNat) o
        obtain ⟨A8, c8, e6, g6⟩ := St.elt (SH.stN hS18 hr2) dI ((en).2) (by omega) (by omega)
        refine WS.pure rfl rfl (fun _ => LV.idxA Tryz.underlying45 ti68.sz rfl e6 rfl (by omega) (by omega)) ?_
        refine WS.pure rfl rfl (fun _ => LV.fieldA Tryz.underlying68 rfl ti26.sz rfl) ?_
        refine WS.lvT rfl rfl (LV.loadAgg (cs := [(.int .i64 (((LKF X.F ((en).1)).getD ((en).2).toNat dI).2.1.1)), (.int .u64 (((LKF X.F ((en).1)).getD ((en).2).toNat dI).2.1.2))]) Tryz.underlying26 rfl ti26 rfl rfl (elt_part (off := 1) (n := 2) g6 rfl _ (KB.refl No _))) ?_
        refine WS.call rfl rfl (XC.fn Tryz.func32 (by kernel_rfl) rfl rfl rfl) (below_calls (a := (((LKF X.F ((en).1)).getD ((en).2).toNat dI).2.1)) (b := o) (by omega) (by omega)) ?_
        rintro v_ w16 ⟨rfl, hk14⟩
        have hS21 := SH.same hS18 hk14
        refine ⟨fun h_ => trivial, ?_⟩
        iterate 2 refine WS.pure rfl rfl (fun _ => LV.asg rfl) ?_
        refine WS.nil (thenQ.n ?_)
        refine WC.ret (?_)
        exact ⟨_, fun a ha => res2 rfl ha rfl rfl, tup2 (congrArg (Value.int .i64) (by rw [q1, List.take_of_length_le (by omega), List.drop_zero])) (congrArg Value.bool (rfl)), hS21.kb⟩

end Go.Proofs.YtigbphaimbhgjaaGreat

