/- The laws of intern: plain. -/
import Derived.Test.YtpgpiljnmhpnhaaIcP
namespace Go.Itn
open Go.Gv
theorem CNT_bd {l : List Int} {i : Int} (h0 : 0 ≤ i) (hi : i < (CNT l).length) : 0 ≤ ((CNT l).getD i.toNat (0, 0)).2 ∧ ((CNT l).getD i.toNat (0, 0)).2 ≤ l.length := by
  have := (CNT_is l).cnt _ (gK_mem h0 hi)
  have h2 := List.count_le_length (a := ((CNT l).getD i.toNat (0, 0)).1) (l := l)
  omega
theorem nd_lenG {α : Type} [DecidableEq α] : ∀ {a b : List α}, a.Nodup → (∀ x ∈ a, x ∈ b) → a.length ≤ b.length
  | [], b, _, _ => by simp
  | x :: a, b, hnd, hs => by
    have hnd' := List.nodup_cons.1 hnd
    have hx := hs x (.head _)
    have := nd_lenG (b := b.erase x) hnd'.2 fun y hy => (List.mem_erase_of_ne (fun e => hnd'.1 (by rw [← e]; exact hy))).2 (hs y (.tail _ hy))
    rw [List.length_erase_of_mem hx] at this
    have := List.length_pos_of_mem hx
    rw [List.length_cons]; omega
theorem onc_mem {a b : List Int} {p : Int × Int} : p ∈ onc a b ↔ 0 ≤ p.1 ∧ p.1 < a.length ∧ 0 ≤ p.2 ∧ p.2 < b.length ∧ a.count (gI a p.1) = 1 ∧ b.count (gI a p.1) = 1 ∧ gI a p.1 = gI b p.2 := by
  unfold onc oncT
  rw [List.mem_flatMap]
  constructor
  · rintro ⟨t, ht, hp⟩
    have ht := List.mem_range.1 ht
    unfold onc1 at hp
    split at hp
    · next hc =>
      rw [List.mem_singleton.1 hp]
      have hb := idx_bd hc.2
      exact ⟨by show (0 : Int) ≤ t; omega, by show (t : Int) < a.length; omega, hb.1, hb.2.1, hc.1, hc.2, hb.2.2.symm⟩
    · cases hp
  · rintro ⟨h1, h2, h3, h4, h5, h6, h7⟩
    refine ⟨p.1.toNat, List.mem_range.2 (by omega), ?_⟩
    have e : ((p.1.toNat : Nat) : Int) = p.1 := by omega
    rw [e]
    unfold onc1
    rw [if_pos ⟨h5, h6⟩, List.mem_singleton, once_at h3 h4 h7 h6]
theorem onc_swap {a b : List Int} {p : Int × Int} (h : p ∈ onc a b) : (p.2, p.1) ∈ onc b a := by
  obtain ⟨h1, h2, h3, h4, h5, h6, h7⟩ := onc_mem.1 h
  exact onc_mem.2 ⟨h3, h4, h1, h2, by simp only; rw [← h7]; exact h6, by simp only; rw [← h7]; exact h5, h7.symm⟩
theorem onc_nd (a b : List Int) : (onc a b).Nodup := by
  have key : ∀ n : Nat, (oncT a b n).Nodup ∧ ∀ p ∈ oncT a b n, p.1 < n := by
    intro n
    induction n with
    | zero => exact ⟨.nil, fun p hp => by cases hp⟩
    | succ n ih =>
      have h := oncT_snoc a b (i := n) (by omega)
      rw [show ((n : Int) + 1).toNat = n + 1 by omega, show (n : Int).toNat = n by omega] at h
      have h1 : ∀ p ∈ onc1 a b n, p.1 = n := fun p hp => by
        unfold onc1 at hp; split at hp
        · rw [List.mem_singleton.1 hp]
        · cases hp
      rw [h]
      refine ⟨List.nodup_append.2 ⟨ih.1, by unfold onc1; split <;> simp, fun p hp q hq e => ?_⟩, fun p hp => ?_⟩
      · have := ih.2 p hp; have := h1 q hq; subst e; omega
      · rcases List.mem_append.1 hp with hp | hp
        · have := ih.2 p hp; omega
        · have := h1 p hp; omega
  exact (key a.length).1
theorem onc_len_le (a b : List Int) : (onc a b).length ≤ (onc b a).length := by
  have hinj : ((onc a b).map fun p => (p.2, p.1)).Nodup := List.pairwise_map.2 ((onc_nd a b).imp fun {p q} h e => h (by
    have e1 := congrArg Prod.fst e; have e2 := congrArg Prod.snd e; exact Prod.ext e2 e1))
  have := nd_lenG hinj (b := onc b a) fun x hx => by
    obtain ⟨p, hp, rfl⟩ := List.mem_map.1 hx
    exact onc_swap hp
  rwa [List.length_map] at this
theorem onc_len_eq (a b : List Int) : (onc a b).length = (onc b a).length := Nat.le_antisymm (onc_len_le a b) (onc_len_le b a)
theorem onc_at {a b : List Int} {i : Int} (h0 : 0 ≤ i) (hi : i < (onc a b).length) : 0 ≤ ((onc a b).getD i.toNat (0, 0)).1 ∧ ((onc a b).getD i.toNat (0, 0)).1 < a.length ∧ 0 ≤ ((onc a b).getD i.toNat (0, 0)).2 ∧ ((onc a b).getD i.toNat (0, 0)).2 < b.length ∧ gI a ((onc a b).getD i.toNat (0, 0)).1 = gI b ((onc a b).getD i.toNat (0, 0)).2 := by
  obtain ⟨h1, h2, h3, h4, h5, h6, h7⟩ := onc_mem.1 (gK_mem h0 hi)
  exact ⟨h1, h2, h3, h4, h7⟩
theorem onc_found {a b : List Int} {i : Int} (h0 : 0 ≤ i) (hi : i < (onc a b).length) (hn : ∀ t : Int, 0 ≤ t → t < (onc b a).length → ¬ (((onc b a).getD t.toNat (0, 0)).1 = ((onc a b).getD i.toNat (0, 0)).2 ∧ ((onc b a).getD t.toNat (0, 0)).2 = ((onc a b).getD i.toNat (0, 0)).1)) : False := by
  obtain ⟨k, hk, e⟩ := List.mem_iff_getElem.1 (onc_swap (gK_mem h0 hi))
  refine hn k (by omega) (by omega) ?_
  have e2 : (onc b a).getD (k : Int).toNat (0, 0) = (((onc a b).getD i.toNat (0, 0)).2, ((onc a b).getD i.toNat (0, 0)).1) := by simp [List.getD, hk, e]
  rw [e2]; exact ⟨rfl, rfl⟩
theorem onc_le (a b : List Int) : (onc a b).length ≤ a.length := oncT_len a b a.length
end Go.Itn
