/- Lines are alike just if their numbers are: plain. -/
import Derived.Test.YtpgpiljnmhpnhaaIcQ
import Derived.Test.YtpgpiljnmhpnhaaNuA
import Derived.Test.YtpgpiljnmhpnhaaGvX
namespace Go.Itn
open Go.Gv Go.Num
/-! ### the numbers' map -/
/-- Each number is one that was given, and each line has its own. -/
structure KVok (kv : KV) : Prop where
  bd : ∀ x n, lookL kv x = some n → 0 ≤ n ∧ n < kv.length
  inj : ∀ x y n, lookL kv x = some n → lookL kv y = some n → x = y
theorem KVok.nil : KVok [] := ⟨fun x n h => by simp [lookL] at h, fun x y n h => by simp [lookL] at h⟩
theorem upd_len {kv : KV} {x : Ln} (h : lookL kv x = none) : (updL kv x kv.length).length = kv.length + 1 := by rw [updL_new h]; simp
theorem KVok.step {kv : KV} (h : KVok kv) (x : Ln) : KVok (nk kv x) := by
  unfold nk
  split
  · exact h
  · next hn =>
    have hn' : lookL kv x = none := by simpa using hn
    refine ⟨fun y n hy => ?_, fun y z n hy hz => ?_⟩
    · rw [upd_len hn']
      rw [lookL_upd] at hy
      split at hy
      · simp at hy; omega
      · have := h.bd y n hy; omega
    · rw [lookL_upd] at hy hz
      split at hy <;> split at hz
      · next e1 e2 => rw [← e1, ← e2]
      · simp at hy; have := h.bd z n hz; omega
      · simp at hz; have := h.bd y n hy; omega
      · exact h.inj y z n hy hz
theorem nk_keep {kv : KV} {x y : Ln} {n : Int} (h : lookL kv y = some n) : lookL (nk kv x) y = some n := by
  unfold nk
  split
  · exact h
  · next hn =>
    rw [lookL_upd]
    split
    · next e => subst e; rw [h] at hn; simp at hn
    · exact h
theorem nk_self (kv : KV) (x : Ln) : lookL (nk kv x) x = some (nn kv x) := by
  unfold nk nn
  cases h : lookL kv x with
  | some n => simp [h]
  | none => simp [lookL_upd]
theorem nk_len {kv : KV} (hk : KVok kv) (x : Ln) : ((nk kv x).length : Int) = max (kv.length : Int) (nn kv x + 1) := by
  unfold nk nn
  cases h : lookL kv x with
  | some n => have := hk.bd x n h; simp; omega
  | none => simp only [Option.isSome_none, Bool.false_eq_true, if_false, upd_len h, Option.getD_none]; omega
theorem nn_bd {kv : KV} (hk : KVok kv) (x : Ln) : 0 ≤ nn kv x ∧ nn kv x ≤ kv.length := by
  unfold nn
  cases h : lookL kv x with
  | some n => have := hk.bd x n h; simp; omega
  | none => simp
/-- The state behind lists, and k lines of one more. -/
def kvAt (L : List (List Ln)) (i k : Int) : KV := nkv (nkvs [] (L.take i.toNat)) ((L.getD i.toNat []).take k.toNat)
theorem nkv_ok : ∀ (l : List Ln) {kv : KV}, KVok kv → KVok (nkv kv l)
  | [], _, h => h
  | x :: l, _, h => nkv_ok l (h.step x)
theorem nkvs_ok : ∀ (L : List (List Ln)) {kv : KV}, KVok kv → KVok (nkvs kv L)
  | [], _, h => h
  | l :: L, _, h => nkvs_ok L (nkv_ok l h)
theorem kvAt_ok (L : List (List Ln)) (i k : Int) : KVok (kvAt L i k) := nkv_ok _ (nkvs_ok _ KVok.nil)
section
variable {L : List (List Ln)} {i k : Int}
theorem kvAt_step (k0 : 0 ≤ k) (hk : k < (L.getD i.toNat []).length) : kvAt L i (k + 1) = nk (kvAt L i k) ((L.getD i.toNat []).getD k.toNat lnD) := by
  unfold kvAt
  rw [take_snoc lnD k0 hk, nkv_snoc]
theorem kvAt_next (i0 : 0 ≤ i) (hi : i < L.length) (hk : ((L.getD i.toNat []).length : Int) ≤ k) : kvAt L (i + 1) 0 = kvAt L i k := by
  unfold kvAt
  rw [take_snoc [] i0 hi, nkvs_snoc, take_all hk]; rfl
theorem kvAt_0 : kvAt L 0 0 = [] := rfl
/-- The numbers of one list, at a place. -/
theorem nums_at (i0 : 0 ≤ i) (hi : i < L.length) : (nnums [] L).getD i.toNat [] = nnum (nkvs [] (L.take i.toNat)) (L.getD i.toNat []) := by
  have key : ∀ (kv : KV) (L : List (List Ln)) (n : Nat), n < L.length → (nnums kv L).getD n [] = nnum (nkvs kv (L.take n)) (L.getD n []) := by
    intro kv L
    induction L generalizing kv with
    | nil => intro n hn; simp at hn
    | cons l L ih =>
      intro n hn
      cases n with
      | zero => rfl
      | succ n =>
        have := ih (nkv kv l) n (by simpa using hn)
        simpa [nnums, nkvs] using this
  exact key [] L i.toNat (by omega)
theorem num_at (k0 : 0 ≤ k) : ∀ {kv : KV} {l : List Ln}, k < l.length → gI (nnum kv l) k = nn (nkv kv (l.take k.toNat)) (l.getD k.toNat lnD) := by
  have key : ∀ (n : Nat) (kv : KV) (l : List Ln), n < l.length → (nnum kv l).getD n 0 = nn (nkv kv (l.take n)) (l.getD n lnD) := by
    intro n kv l
    induction l generalizing kv n with
    | nil => intro h; simp at h
    | cons x l ih =>
      intro h
      cases n with
      | zero => rfl
      | succ n => simpa [nnum, nkv] using ih n (nk kv x) (by simpa using h)
  intro kv l h
  exact key k.toNat kv l (by omega)
theorem nnums_length : ∀ (kv : KV) (L : List (List Ln)), (nnums kv L).length = L.length
  | _, [] => rfl
  | kv, l :: L => by simp [nnums, nnums_length]
end
/-- Lines with their numbers. -/
def NumOK (kv : KV) (lines : List Ln) (ns : List Int) : Prop := ns.length = lines.length ∧ ∀ t : Int, 0 ≤ t → t < lines.length → lookL kv (lines.getD t.toNat lnD) = some (gI ns t)
theorem NumOK.nil : NumOK [] [] [] := ⟨rfl, fun t h0 h1 => by simp at h1; omega⟩
theorem NumOK.snoc {kv : KV} {lines : List Ln} {ns : List Int} (h : NumOK kv lines ns) (x : Ln) : NumOK (nk kv x) (lines ++ [x]) (ns ++ [nn kv x]) := by
  refine ⟨by simp [h.1], fun t h0 h1 => ?_⟩
  rw [List.length_append] at h1
  simp only [List.length_cons, List.length_nil] at h1
  rcases Decidable.em (t < lines.length) with h2 | h2
  · have e1 : (lines ++ [x]).getD t.toNat lnD = lines.getD t.toNat lnD := by simp [List.getD, List.getElem?_append_left (show t.toNat < lines.length by omega)]
    have e2 : gI (ns ++ [nn kv x]) t = gI ns t := by unfold gI; have := h.1; simp [List.getD, List.getElem?_append_left (show t.toNat < ns.length by omega)]
    rw [e1, e2]; exact nk_keep (h.2 t h0 h2)
  · have e : t.toNat = lines.length := by omega
    have e1 : (lines ++ [x]).getD t.toNat lnD = x := by rw [e]; simp [List.getD]
    have e2 : gI (ns ++ [nn kv x]) t = nn kv x := by unfold gI; rw [e, ← h.1]; simp [List.getD]
    rw [e1, e2]; exact nk_self kv x
theorem NumOK.alike {kv : KV} {lines : List Ln} {ns : List Int} (hk : KVok kv) (h : NumOK kv lines ns) {i k : Int} (h0 : 0 ≤ i) (h1 : i < lines.length) (h2 : 0 ≤ k) (h3 : k < lines.length) : lines.getD i.toNat lnD = lines.getD k.toNat lnD ↔ gI ns i = gI ns k := by
  have e1 := h.2 i h0 h1
  have e2 := h.2 k h2 h3
  refine ⟨fun e => ?_, fun e => ?_⟩
  · rw [e, e2] at e1; simpa using e1.symm
  · rw [e] at e1; exact hk.inj _ _ _ e1 e2
theorem NumOK.bool {kv : KV} {lines : List Ln} {ns : List Int} (hk : KVok kv) (h : NumOK kv lines ns) {i k : Int} (h0 : 0 ≤ i) (h1 : i < lines.length) (h2 : 0 ≤ k) (h3 : k < lines.length) :
    ((lines.getD i.toNat lnD).1 = (lines.getD k.toNat lnD).1 ∧ (lines.getD i.toNat lnD).2 = (lines.getD k.toNat lnD).2) ↔ gI ns i = gI ns k := by
  rw [← h.alike hk h0 h1 h2 h3]
  exact ⟨fun e => Prod.ext e.1 e.2, fun e => by rw [e]; exact ⟨rfl, rfl⟩⟩
/-! ### rows of rows -/
theorem rr_eq {σ τ α : Type} [Inhabited σ] [Inhabited τ] [Inhabited α] {a : List (σ × List α)} {b : List (τ × List α)} (h : a.map (·.2) = b.map (·.2)) (i : Nat) : a.length = b.length ∧ (i < a.length → (a.getD i default).2 = (b.getD i default).2) := by
  have hl : a.length = b.length := by have := congrArg List.length h; simpa using this
  refine ⟨hl, fun hi => ?_⟩
  have h2 : (a.map (·.2))[i]? = (b.map (·.2))[i]? := by rw [h]
  have hb : i < b.length := by omega
  simp [hi, hb] at h2
  simpa [List.getD, hi, hb] using h2
theorem rr_at {σ α : Type} [Inhabited σ] [Inhabited α] {a : List (σ × List α)} {i : Nat} (hi : i < a.length) : (a.map (·.2)).getD i [] = (a.getD i default).2 := by simp [List.getD, hi]
/-- The first five lists, and of each sixty lines. -/
def few5 (L : List (List Ln)) : List (List Ln) := (L.take 5).map fun l => l.take 60
theorem few5_snoc {L : List (List Ln)} {i : Int} (h0 : 0 ≤ i) (hi : i < L.length) : (L.take i.toNat).map (fun l => l.take 60) ++ [(L.getD i.toNat []).take 60] = (L.take (i + 1).toNat).map (fun l => l.take 60) := by
  rw [take_snoc [] h0 hi, List.map_append]; rfl
theorem few5_of {L : List (List Ln)} {i : Int} (h0 : 0 ≤ i) (h5 : i ≤ 5) (h : ¬ (i < L.length ∧ i < 5)) : (L.take i.toNat).map (fun l => l.take 60) = few5 L := by
  unfold few5
  rcases Decidable.em (i < 5) with h1 | h1
  · rw [List.take_of_length_le (show L.length ≤ i.toNat by omega), List.take_of_length_le (show L.length ≤ 5 by omega)]
  · rw [show i.toNat = 5 by omega]
theorem few5_in {A : Option Addr} {c : Nat} {xs : List Ln} {w : World} (h : St No w (Rd eL (.slice A xs.length c) xs)) : St No w (Rd eL (.slice (if c = 0 then A else A.map (·.add (0 * 2))) ((min (xs.length : Int) 60).toNat - 0) (c - 0)) (xs.take 60)) := by
  have h2 := few_rd 60 h
  have e : (xs.take 60).length = (min (xs.length : Int) 60).toNat - 0 := by rw [List.length_take]; omega
  rw [e] at h2
  exact h2
theorem few5_bd {rows : List (SV × List Ln)} {L : List (List Ln)} (h : rows.map (·.2) = few5 L) : rows.length ≤ 5 ∧ ∀ p ∈ rows, p.2.length ≤ 60 := by
  refine ⟨?_, fun p hp => ?_⟩
  · have := congrArg List.length h
    unfold few5 at this
    rw [List.length_map, List.length_map, List.length_take] at this
    omega
  · have : p.2 ∈ few5 L := h ▸ List.mem_map.2 ⟨p, hp, rfl⟩
    unfold few5 at this
    obtain ⟨l, _, e⟩ := List.mem_map.1 this
    rw [← e, List.length_take]; omega
section
variable {σ τ : Type} [Inhabited σ] [Inhabited τ] {ra : List (σ × List Int)} {rl : List (τ × List Ln)} {i k : Int}
omit [Inhabited σ] [Inhabited τ] in
theorem row_len (h : ra.map (·.2) = nnums [] (rl.map (·.2))) : ra.length = rl.length := by
  have := congrArg List.length h
  rwa [List.length_map, nnums_length, List.length_map] at this
theorem row_i (h : ra.map (·.2) = nnums [] (rl.map (·.2))) (i0 : 0 ≤ i) (hi : i < rl.length) : (ra.getD i.toNat default).2 = nnum (nkvs [] ((rl.map (·.2)).take i.toNat)) (rl.getD i.toNat default).2 := by
  have hl := row_len h
  have h2 := nums_at (L := rl.map (·.2)) i0 (by simpa using hi)
  rw [← h, rr_at (by omega), rr_at (by omega)] at h2
  exact h2
theorem num_ik (h : (ra.getD i.toNat default).2 = nnum (nkvs [] ((rl.map (·.2)).take i.toNat)) (rl.getD i.toNat default).2) (i0 : 0 ≤ i) (hi : i < rl.length) (k0 : 0 ≤ k) (hk : k < (rl.getD i.toNat default).2.length) : gI (ra.getD i.toNat default).2 k = nn (kvAt (rl.map (·.2)) i k) ((rl.getD i.toNat default).2.getD k.toNat lnD) := by
  rw [h, num_at k0 hk]
  unfold kvAt
  rw [rr_at (by omega)]
theorem kv_ik (i0 : 0 ≤ i) (hi : i < rl.length) (k0 : 0 ≤ k) (hk : k < (rl.getD i.toNat default).2.length) : kvAt (rl.map (·.2)) i (k + 1) = nk (kvAt (rl.map (·.2)) i k) ((rl.getD i.toNat default).2.getD k.toNat lnD) := by
  have e := rr_at (a := rl) (i := i.toNat) (by omega)
  rw [kvAt_step k0 (by rw [e]; exact hk), e]
theorem kv_i (i0 : 0 ≤ i) (hi : i < rl.length) (hk : ((rl.getD i.toNat default).2.length : Int) ≤ k) : kvAt (rl.map (·.2)) (i + 1) 0 = kvAt (rl.map (·.2)) i k := by
  have e := rr_at (a := rl) (i := i.toNat) (by omega)
  exact kvAt_next i0 (by simpa using hi) (by rw [e]; exact hk)
end
theorem NumOK.ne {kv : KV} {lines : List Ln} {ns : List Int} (hk : KVok kv) (h : NumOK kv lines ns) {i k : Int} (h0 : 0 ≤ i) (h1 : i < lines.length) (h2 : 0 ≤ k) (h3 : k < lines.length) :
    (decide ((lines.getD i.toNat lnD).1 = (lines.getD k.toNat lnD).1 ∧ (lines.getD i.toNat lnD).2 = (lines.getD k.toNat lnD).2) != decide (gI ns i = gI ns k)) = false := by
  have e := h.bool hk h0 h1 h2 h3
  by_cases hq : gI ns i = gI ns k
  · rw [decide_eq_true hq, decide_eq_true (e.2 hq)]; rfl
  · rw [decide_eq_false hq, decide_eq_false (fun h' => hq (e.1 h'))]; rfl
end Go.Itn
