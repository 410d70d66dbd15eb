/- Windows of a major frame, in plain numbers: what they deliver and open over one frame. No condition. -/
import Derived.Test.YtpkaaknlmpdpgaaSchC
namespace Go.Proofs.Ytpkaaknlmpdpgaa.sch
open Go Go.Proofs Go.AE Go.RowKit
set_option linter.unusedVariables false
set_option linter.unusedSimpArgs false
/-- how many numbers below n are so -/
def cnP (p : Nat → Bool) : Nat → Nat
  | 0 => 0
  | n + 1 => cnP p n + (if p n = true then 1 else 0)
theorem cnP_congr {p q : Nat → Bool} : ∀ {n : Nat}, (∀ k, k < n → p k = q k) → cnP p n = cnP q n
  | 0, _ => rfl
  | n + 1, h => by simp only [cnP, cnP_congr (n := n) fun k hk => h k (by omega), h n (by omega)]
theorem cnP_zero {p : Nat → Bool} : ∀ {n : Nat}, (∀ k, k < n → p k = false) → cnP p n = 0
  | 0, _ => rfl
  | n + 1, h => by simp only [cnP, cnP_zero (n := n) fun k hk => h k (by omega), h n (by omega)]; simp
theorem cnP_or {p q : Nat → Bool} : ∀ {n : Nat}, (∀ k, k < n → ¬ (p k = true ∧ q k = true)) → cnP (fun k => p k || q k) n = cnP p n + cnP q n
  | 0, _ => rfl
  | n + 1, h => by
    have h1 := cnP_or (p := p) (q := q) (n := n) fun k hk => h k (by omega)
    have h2 := h n (by omega)
    simp only [cnP, h1]
    by_cases hp : p n = true <;> by_cases hq : q n = true <;> simp [hp, hq] <;> first | omega | exact absurd ⟨hp, hq⟩ h2
theorem cnP_one {p : Nat → Bool} : ∀ {n k : Nat}, k < n → (∀ j, j < n → (p j = true ↔ j = k)) → cnP p n = 1
  | 0, k, hk, _ => absurd hk (Nat.not_lt_zero _)
  | n + 1, k, hk, h => by
    simp only [cnP]
    by_cases e : k = n
    · subst e
      rw [cnP_zero fun j hj => by
        cases hp : p j with
        | false => rfl
        | true => have := (h j (by omega)).1 hp; omega, if_pos ((h k (by omega)).2 rfl)]
    · rw [cnP_one (n := n) (k := k) (by omega) fun j hj => h j (by omega), if_neg fun hp => by have := (h n (by omega)).1 hp; omega]
/-- a frame of M offsets, from t on: numbers f 0 .. f (L - 1), unlike one another, are met once each -/
theorem cnP_frame (f : Nat → Int) (M : Nat) (hM : 1 ≤ M) (t : Int) (ht : 0 ≤ t) : ∀ (L : Nat), (∀ j, j < L → 0 ≤ f j ∧ f j < M) → (∀ i j, i < L → j < L → f i = f j → i = j) →
    cnP (fun k => decide (fi (fun j => decide (f j = (t + k) % M)) L < L)) M = L
  | 0, _, _ => cnP_zero fun k _ => by simp [fi]
  | L + 1, hb, hi => by
    have ih := cnP_frame f M hM t ht L (fun j hj => hb j (by omega)) fun i j h1 h2 => hi i j (by omega) (by omega)
    have e : cnP (fun k => decide (fi (fun j => decide (f j = (t + k) % M)) (L + 1) < L + 1)) M
        = cnP (fun k => decide (fi (fun j => decide (f j = (t + k) % M)) L < L) || decide (f L = (t + k) % M)) M := cnP_congr fun k hk => by
      have hle := fi_le (fun j => decide (f j = (t + k) % M)) L
      by_cases h1 : fi (fun j => decide (f j = (t + k) % M)) L < L
      · simp only [fi, if_pos h1, h1, decide_true, Bool.true_or]; simp; omega
      · by_cases h2 : f L = (t + k) % M
        · simp only [fi, if_neg h1, h2, decide_true, if_true, Bool.or_true]; simp
        · simp [fi, if_neg h1, h2, h1]
    rw [e, cnP_or, ih]
    · have hf := hb L (by omega)
      have : cnP (fun k => decide (f L = (t + k) % M)) M = 1 := by
        refine cnP_one (k := Int.toNat ((f L - t) % M)) ?_ fun j hj => ?_
        · have := Int.emod_nonneg (f L - t) (show (M : Int) ≠ 0 by omega); have := Int.emod_lt_of_pos (f L - t) (show (0 : Int) < M by omega); omega
        · have a1 := Int.emod_nonneg (f L - t) (show (M : Int) ≠ 0 by omega)
          have a2 := Int.emod_lt_of_pos (f L - t) (show (0 : Int) < M by omega)
          simp only [decide_eq_true_eq]
          constructor
          · intro h
            have h3 : (f L - t) % M = (j : Int) := by
              rw [h, Int.sub_emod, Int.emod_emod_of_dvd _ (Int.dvd_refl _), ← Int.sub_emod, show t + (j : Int) - t = j by omega]
              exact Int.emod_eq_of_lt (by omega) (by omega)
            omega
          · intro h
            have h3 : (j : Int) = (f L - t) % M := by omega
            rw [h3, Int.add_emod, Int.emod_emod_of_dvd _ (Int.dvd_refl _), ← Int.add_emod, show t + (f L - t) = f L by omega]
            exact (Int.emod_eq_of_lt hf.1 hf.2).symm
      omega
    · rintro k hk ⟨h1, h2⟩
      simp only [decide_eq_true_eq] at h1 h2
      have h3 := fi_yes (p := fun j => decide (f j = (t + k) % M)) h1
      simp only [decide_eq_true_eq] at h3
      have := hi _ L (by omega) (by omega) (h3.trans h2.symm)
      omega
/-- what windows are that may be -/
structure Wins (z : Nat → Nat → Int) (len : Nat) (major : Int) : Prop where
  h1 : 1 ≤ major
  h2 : major ≤ 64
  l1 : 1 ≤ len
  l2 : len ≤ 8
  win : ∀ i, i < len → 0 ≤ z i 0 ∧ 1 ≤ z i 2 ∧ 0 ≤ z i 1 ∧ z i 1 + z i 2 ≤ major ∧ z i 1 ≤ z i 3 ∧ z i 3 < z i 1 + z i 2
  apart : ∀ i j, i < len → j < i → z j 1 + z j 2 ≤ z i 1 ∨ z i 1 + z i 2 ≤ z j 1
theorem wins_of {z : Nat → Nat → Int} {len : Nat} {major parts : Int} (h : mayF z len major parts = true) : Wins z len major := by
  obtain ⟨h1, h2, l1, l2⟩ := may_of h
  simp only [mayF, Bool.and_eq_true, decide_eq_true_eq] at h
  have hb := fi_all.1 h.2
  have hw : ∀ i, i < len → 0 ≤ z i 0 ∧ 1 ≤ z i 2 ∧ 0 ≤ z i 1 ∧ z i 1 + z i 2 ≤ major ∧ z i 1 ≤ z i 3 ∧ z i 3 < z i 1 + z i 2 := fun i hi => by
    have := hb i hi
    simp only [bad, okI, Bool.not_eq_false', Bool.and_eq_true, decide_eq_true_eq, wmB] at this
    obtain ⟨⟨g1, g2, g3, g4, g5, g6, g7, g8⟩, _⟩ := this
    rw [wrap_id (by omega) (by omega)] at g6
    rw [wrap_id (by omega) (by omega)] at g8
    omega
  refine ⟨h1, h2, l1, l2, hw, fun i j hi hj => ?_⟩
  have := hb i hi
  simp only [bad, okI, Bool.not_eq_false', Bool.and_eq_true, decide_eq_true_eq] at this
  have h3 := fi_all.1 this.2 j hj
  simp only [na, Bool.not_eq_false', apB, decide_eq_true_eq] at h3
  have w1 := hw i hi
  have w2 := hw j (by omega)
  rwa [wrap_id (by omega) (by omega), wrap_id (by omega) (by omega)] at h3
theorem Wins.inj {z : Nat → Nat → Int} {len : Nat} {major : Int} (h : Wins z len major) {c : Nat} (hc : c = 1 ∨ c = 3) : ∀ i j, i < len → j < len → z i c = z j c → i = j := by
  intro i j hi hj e
  have w1 := h.win i hi
  have w2 := h.win j hj
  rcases Nat.lt_trichotomy i j with g | g | g
  · have := h.apart j i hj g
    rcases hc with rfl | rfl <;> omega
  · exact g
  · have := h.apart i j hi g
    rcases hc with rfl | rfl <;> omega
theorem pD_eq {z : Nat → Nat → Int} {c : Nat} {major tick : Int} (ht : 0 ≤ tick) : pD z c major tick = fun j => decide (z j c = tick % major) := by
  funext j; simp only [pD, tmod_nn ht]
theorem ofF_ge {z : Nat → Nat → Int} {len : Nat} {major tick : Int} (c : Nat) (hm : mayF z len major 4 = true) (h0 : 0 ≤ tick) (h1 : tick ≤ 1048575) : (0 ≤ ofF z c len major tick ↔ fi (fun j => decide (z j c = tick % major)) len < len) ∧ -1 ≤ ofF z c len major tick := by
  have hw := wins_of hm
  unfold ofF
  rw [pD_eq h0]
  by_cases h : fi (fun j => decide (z j c = tick % major)) len < len
  · rw [if_pos ⟨hm, h0, h1, h⟩]
    have := (hw.win _ h).1
    exact ⟨⟨fun _ => h, fun _ => this⟩, by omega⟩
  · rw [if_neg fun g => h g.2.2.2]
    exact ⟨⟨fun g => by omega, fun g => absurd g h⟩, by omega⟩
theorem ofF_per {z : Nat → Nat → Int} {len : Nat} {major tick : Int} (c : Nat) (hm : mayF z len major 4 = true) (h0 : 0 ≤ tick) (h1 : tick + major ≤ 1048575) : ofF z c len major (tick + major) = ofF z c len major tick := by
  have hw := wins_of hm
  have := hw.h1
  unfold ofF
  rw [pD_eq h0, pD_eq (show 0 ≤ tick + major by omega), Int.add_emod_right]
  by_cases h : fi (fun j => decide (z j c = tick % major)) len < len
  · rw [if_pos ⟨hm, by omega, h1, h⟩, if_pos ⟨hm, h0, by omega, h⟩]
  · rw [if_neg fun g => h g.2.2.2, if_neg fun g => h g.2.2.2]
theorem ofF_off {z : Nat → Nat → Int} {len : Nat} {major tick : Int} (c : Nat) (h : tick < 0 ∨ 1048575 < tick) : ofF z c len major tick = -1 := by
  unfold ofF
  rw [if_neg fun g => by have := g.2.1; have := g.2.2.1; omega]
theorem ofF_not {z : Nat → Nat → Int} {len : Nat} {major tick : Int} (c : Nat) (h : mayF z len major 4 = false) : ofF z c len major tick = -1 := by
  unfold ofF
  rw [if_neg fun g => by rw [h] at g; cases g.1]
/-- ticks from t on that open, that deliver -/
def ct (z : Nat → Nat → Int) (c len : Nat) (major t : Int) : Nat → Int
  | 0 => 0
  | k + 1 => ct z c len major t k + (if 0 ≤ ofF z c len major (t + k) then 1 else 0)
theorem ct_le (z : Nat → Nat → Int) (c len : Nat) (major t : Int) : ∀ k, 0 ≤ ct z c len major t k ∧ ct z c len major t k ≤ k
  | 0 => by simp [ct]
  | k + 1 => by have := ct_le z c len major t k; simp only [ct]; split <;> omega
theorem ct_cN {z : Nat → Nat → Int} {len : Nat} {major t : Int} (c : Nat) (hm : mayF z len major 4 = true) (h0 : 0 ≤ t) : ∀ k : Nat, t + k ≤ 1048576 → ct z c len major t k = cnP (fun k => decide (fi (fun j => decide (z j c = (t + k) % major)) len < len)) k
  | 0, _ => rfl
  | k + 1, h => by
    simp only [ct, cnP, ct_cN c hm h0 k (by omega)]
    have := (ofF_ge c hm (show 0 ≤ t + (k : Int) by omega) (by omega)).1
    by_cases g : fi (fun j => decide (z j c = (t + k) % major)) len < len
    · rw [if_pos (this.2 g), if_pos (by simpa using g)]; omega
    · rw [if_neg (fun x => g (this.1 x)), if_neg (by simpa using g)]; omega
theorem ct_all {z : Nat → Nat → Int} {len : Nat} {major t : Int} {c : Nat} (hc : c = 1 ∨ c = 3) (hm : mayF z len major 4 = true) (h0 : 0 ≤ t) (h1 : t ≤ 65535) : ct z c len major t (Int.toNat major) = len := by
  have hw := wins_of hm
  have g1 := hw.h1
  have g2 := hw.h2
  rw [ct_cN c hm h0 _ (by omega)]
  have := cnP_frame (fun j => z j c) (Int.toNat major) (by omega) t h0 len (fun j hj => by have := hw.win j hj; rcases hc with rfl | rfl <;> omega) (hw.inj hc)
  rw [show ((Int.toNat major : Nat) : Int) = major by omega] at this
  rw [this]
end Go.Proofs.Ytpkaaknlmpdpgaa.sch
