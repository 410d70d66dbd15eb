/- The least way to a window of a partition is the first tick that delivers to it. No condition. -/
import Derived.Test.YtpkaaknlmpdpgaaSchF
namespace Go.Proofs.Ytpkaaknlmpdpgaa.sch
open Go Go.Proofs Go.AE Go.RowKit
set_option maxRecDepth 100000
set_option linter.unusedVariables false
theorem fi_ex {P : Nat → Bool} {n : Nat} : fi P n < n ↔ ∃ j, j < n ∧ P j = true := by
  constructor
  · intro h; exact ⟨_, h, fi_yes h⟩
  · rintro ⟨j, hj, g⟩
    rcases Nat.lt_or_ge (fi P n) n with k | k
    · exact k
    · have e : fi P n = n := by have := fi_le P n; omega
      rw [fi_all.1 e j hj] at g; cases g
theorem dOf_iff {z : Nat → Nat → Int} {major tick o : Int} {j k : Nat} (h1 : 1 ≤ major) (h3 : 0 ≤ tick) (ho : Int.tmod tick major = o) (hz : 0 ≤ z j 3 ∧ z j 3 < major) (hk : (k : Int) < major) : dOf z major o j = k ↔ z j 3 = Int.tmod (tick + k) major := by
  rw [Int.tmod_eq_emod_of_nonneg h3] at ho
  rw [Int.tmod_eq_emod_of_nonneg (show 0 ≤ tick + (k : Int) by omega)]
  have o1 : 0 ≤ o := by rw [← ho]; exact Int.emod_nonneg _ (by omega)
  have o2 : o < major := by rw [← ho]; exact Int.emod_lt_of_pos _ (by omega)
  have e : (tick + (k : Int)) % major = (o + k) % major := by rw [← ho]; first | exact (Int.emod_add_emod tick major k).symm | exact (Int.emod_add_mod tick major k).symm | simp
  rw [e]
  unfold dOf
  by_cases g : o + (k : Int) < major
  · rw [Int.emod_eq_of_lt (by omega) g]; split <;> omega
  · have e2 : (o + (k : Int)) % major = o + k - major := by
      rw [← Int.emod_eq_of_lt (a := o + (k : Int) - major) (b := major) (by omega) (by omega), Int.sub_emod_right]
    rw [e2]; split <;> omega
theorem bs_sp {z : Nat → Nat → Int} {major part o : Int} {len : Nat} (h0 : ∀ j, j < len → 0 ≤ dOf z major o j) : ∀ i, i ≤ len → (bs z major part o i = -1 ∧ ∀ j, j < i → z j 0 ≠ part) ∨ ((∃ j, j < i ∧ z j 0 = part ∧ bs z major part o i = dOf z major o j) ∧ ∀ j, j < i → z j 0 = part → bs z major part o i ≤ dOf z major o j)
  | 0, _ => .inl ⟨rfl, fun j hj => absurd hj (Nat.not_lt_zero _)⟩
  | i + 1, hi => by
    have ih := bs_sp (part := part) h0 i (by omega)
    have di := h0 i (by omega)
    simp only [bs]
    by_cases hp : z i 0 = part
    · rw [if_pos hp]
      refine .inr ?_
      by_cases c : bs z major part o i < 0 ∨ dOf z major o i < bs z major part o i
      · rw [if_pos c]
        refine ⟨⟨i, by omega, hp, rfl⟩, fun j hj hj2 => ?_⟩
        rcases Nat.lt_or_ge j i with k | k
        · rcases ih with ih | ⟨⟨j', a1, a2, a3⟩, ih⟩
          · exact absurd hj2 (ih.2 j k)
          · have := ih j k hj2; have := h0 j' (by omega); omega
        · rw [show j = i by omega]; exact Int.le_refl _
      · rw [if_neg c]
        rcases ih with ih | ⟨⟨j', a1, a2, a3⟩, ih⟩
        · omega
        · refine ⟨⟨j', by omega, a2, a3⟩, fun j hj hj2 => ?_⟩
          rcases Nat.lt_or_ge j i with k | k
          · exact ih j k hj2
          · rw [show j = i by omega]; omega
    · rw [if_neg hp]
      rcases ih with ih | ⟨⟨j', a1, a2, a3⟩, ih⟩
      · refine .inl ⟨ih.1, fun j hj => ?_⟩
        rcases Nat.lt_or_ge j i with k | k
        · exact ih.2 j k
        · rw [show j = i by omega]; exact hp
      · refine .inr ⟨⟨j', by omega, a2, a3⟩, fun j hj hj2 => ?_⟩
        rcases Nat.lt_or_ge j i with k | k
        · exact ih j k hj2
        · exact absurd (by rw [← show j = i by omega]; exact hj2) hp
/-- the least is the first tick -/
theorem bs_nN {z : Nat → Nat → Int} {major part tick o : Int} {len : Nat} (h1 : 1 ≤ major) (h3 : 0 ≤ tick) (ho : Int.tmod tick major = o) (hz : ∀ j, j < len → 0 ≤ z j 3 ∧ z j 3 < major) : (bs z major part o len = -1 ∧ nN z len major part tick = Int.toNat major) ∨ (bs z major part o len = nN z len major part tick ∧ nN z len major part tick < Int.toNat major) := by
  have ho' := ho
  rw [Int.tmod_eq_emod_of_nonneg h3] at ho'
  have o1 : 0 ≤ o := by rw [← ho']; exact Int.emod_nonneg _ (by omega)
  have o2 : o < major := by rw [← ho']; exact Int.emod_lt_of_pos _ (by omega)
  have dd : ∀ j, j < len → 0 ≤ dOf z major o j ∧ dOf z major o j < major := fun j hj => by have := hz j hj; unfold dOf; split <;> omega
  have nk : ∀ k : Nat, (k : Int) < major → (nK z len major part tick k = true ↔ ∃ j, j < len ∧ z j 0 = part ∧ dOf z major o j = k) := fun k hk => by
    unfold nK; rw [decide_eq_true_eq, fi_ex]
    constructor
    · rintro ⟨j, hj, g⟩
      simp only [pN, decide_eq_true_eq] at g
      exact ⟨j, hj, g.1, (dOf_iff h1 h3 ho (hz j hj) hk).2 g.2⟩
    · rintro ⟨j, hj, g, g2⟩
      exact ⟨j, hj, decide_eq_true ⟨g, (dOf_iff h1 h3 ho (hz j hj) hk).1 g2⟩⟩
  rcases bs_sp (part := part) (fun j hj => (dd j hj).1) len (Nat.le_refl _) with h | ⟨⟨j, a1, a2, a3⟩, h⟩
  · refine .inl ⟨h.1, fi_all.2 fun k hk => ?_⟩
    cases e : nK z len major part tick k with
    | false => rfl
    | true => obtain ⟨j, hj, g, _⟩ := (nk k (by omega)).1 e; exact absurd g (h.2 j hj)
  · have d := dd j a1
    have e : nN z len major part tick = (bs z major part o len).toNat := fi_eq (by omega) (fun k hk => by
      cases e : nK z len major part tick k with
      | false => rfl
      | true => obtain ⟨j', hj', g, g2⟩ := (nk k (by omega)).1 e; have := h j' hj' g; omega) (fun _ => (nk _ (by omega)).2 ⟨j, a1, a2, by omega⟩)
    exact .inr ⟨by omega, by omega⟩
end Go.Proofs.Ytpkaaknlmpdpgaa.sch
