/- Windows of a major frame, in plain numbers: those of one partition alone. No condition. -/
import Derived.Test.YtpkaaknlmpdpgaaSchQ
namespace Go.Proofs.Ytpkaaknlmpdpgaa.sch
open Go Go.Proofs Go.AE Go.RowKit
set_option linter.unusedVariables false
set_option linter.unusedSimpArgs false
theorem may_mk {z : Nat → Nat → Int} {len : Nat} {major parts : Int} (h : 1 ≤ major ∧ major ≤ 64 ∧ 1 ≤ parts ∧ parts ≤ 4 ∧ 1 ≤ len ∧ len ≤ 8) (hw : ∀ i, i < len → wmB (z i 0) (z i 1) (z i 2) (z i 3) major parts = true) (ha : ∀ i j, i < len → j < i → na z i j = false) : mayF z len major parts = true := by
  simp only [mayF, Bool.and_eq_true, decide_eq_true_eq]
  exact ⟨h, fi_all.2 fun i hi => bad_0 (hw i hi) (fi_all.2 fun j hj => ha i j hi hj)⟩
theorem may_raw {z : Nat → Nat → Int} {len : Nat} {major parts : Int} (h : mayF z len major parts = true) : (1 ≤ major ∧ major ≤ 64 ∧ 1 ≤ parts ∧ parts ≤ 4 ∧ 1 ≤ len ∧ len ≤ 8) ∧ (∀ i, i < len → wmB (z i 0) (z i 1) (z i 2) (z i 3) major parts = true) ∧ (∀ i j, i < len → j < i → na z i j = false) := by
  simp only [mayF, Bool.and_eq_true, decide_eq_true_eq] at h
  have hb := fi_all.1 h.2
  refine ⟨h.1, fun i hi => ?_, fun i j hi hj => ?_⟩
  · have := hb i hi
    simp only [bad, okI, Bool.not_eq_false', Bool.and_eq_true] at this
    exact this.1
  · have := hb i hi
    simp only [bad, okI, Bool.not_eq_false', Bool.and_eq_true, decide_eq_true_eq] at this
    exact fi_all.1 this.2 j hj
/-- the windows below i that are of a partition -/
def idx (z : Nat → Nat → Int) (part : Int) : Nat → List Nat
  | 0 => []
  | i + 1 => if z i 0 = part then idx z part i ++ [i] else idx z part i
def sub (z : Nat → Nat → Int) (l : List Nat) (k j : Nat) : Int := z (l.getD k 0) j
theorem idx_yes {z : Nat → Nat → Int} {part : Int} {i : Nat} (h : z i 0 = part) : idx z part (i + 1) = idx z part i ++ [i] := if_pos h
theorem idx_not {z : Nat → Nat → Int} {part : Int} {i : Nat} (h : ¬ z i 0 = part) : idx z part (i + 1) = idx z part i := if_neg h
theorem idx_len (z : Nat → Nat → Int) (part : Int) : ∀ i, (idx z part i).length ≤ i
  | 0 => Nat.le_refl _
  | i + 1 => by
    have := idx_len z part i
    by_cases h : z i 0 = part
    · rw [idx_yes h, List.length_append]; simp; omega
    · rw [idx_not h]; omega
theorem idx_spec {z : Nat → Nat → Int} {part : Int} : ∀ {i k : Nat}, k < (idx z part i).length → (idx z part i).getD k 0 < i ∧ z ((idx z part i).getD k 0) 0 = part
  | 0, k, h => absurd h (Nat.not_lt_zero _)
  | i + 1, k, h => by
    by_cases hp : z i 0 = part
    · rw [idx_yes hp] at h ⊢
      rw [List.length_append] at h
      by_cases hk : k < (idx z part i).length
      · have := idx_spec hk
        rw [List.getD_eq_getElem?_getD, List.getElem?_append_left hk, ← List.getD_eq_getElem?_getD]
        exact ⟨by omega, this.2⟩
      · have hk : k = (idx z part i).length := by simp at h; omega
        subst hk
        simp [hp]
    · rw [idx_not hp] at h ⊢
      have := idx_spec h
      exact ⟨by omega, this.2⟩
theorem idx_mono {z : Nat → Nat → Int} {part : Int} : ∀ {i k m : Nat}, k < m → m < (idx z part i).length → (idx z part i).getD k 0 < (idx z part i).getD m 0
  | 0, k, m, _, h => absurd h (Nat.not_lt_zero _)
  | i + 1, k, m, hk, h => by
    by_cases hp : z i 0 = part
    · rw [idx_yes hp] at h ⊢
      rw [List.length_append] at h
      have hk' : k < (idx z part i).length := by simp at h; omega
      have e1 : (idx z part i ++ [i]).getD k 0 = (idx z part i).getD k 0 := by rw [List.getD_eq_getElem?_getD, List.getElem?_append_left hk', ← List.getD_eq_getElem?_getD]
      rw [e1]
      by_cases hm : m < (idx z part i).length
      · rw [List.getD_eq_getElem?_getD (l := idx z part i ++ [i]), List.getElem?_append_left hm, ← List.getD_eq_getElem?_getD]
        exact idx_mono hk hm
      · have hm : m = (idx z part i).length := by simp at h; omega
        subst hm
        have := (idx_spec hk').1
        simpa using this
    · rw [idx_not hp] at h ⊢
      exact idx_mono hk h
theorem idx_all {z : Nat → Nat → Int} {part : Int} : ∀ {i j : Nat}, j < i → z j 0 = part → ∃ k, k < (idx z part i).length ∧ (idx z part i).getD k 0 = j
  | 0, j, h, _ => absurd h (Nat.not_lt_zero _)
  | i + 1, j, h, hp => by
    by_cases e : j = i
    · subst e
      rw [idx_yes hp]
      exact ⟨(idx z part j).length, by simp, by simp⟩
    · obtain ⟨k, hk, e2⟩ := idx_all (i := i) (by omega) hp
      by_cases hpi : z i 0 = part
      · rw [idx_yes hpi]
        refine ⟨k, by simp; omega, ?_⟩
        rw [List.getD_eq_getElem?_getD, List.getElem?_append_left hk, ← List.getD_eq_getElem?_getD]
        exact e2
      · rw [idx_not hpi]; exact ⟨k, hk, e2⟩
theorem sub_may {z : Nat → Nat → Int} {len : Nat} {major parts part : Int} (h : mayF z len major parts = true) {j : Nat} (hj : j < len) (hp : z j 0 = part) : mayF (sub z (idx z part len)) (idx z part len).length major parts = true := by
  obtain ⟨h1, h2, h3⟩ := may_raw h
  obtain ⟨k, hk, _⟩ := idx_all hj hp
  have hl := idx_len z part len
  refine may_mk (by omega) (fun i hi => h2 _ (idx_spec hi).1) (fun i m hi hm => ?_)
  exact h3 _ _ (idx_spec hi).1 (idx_mono hm hi)
theorem fi_lt {p : Nat → Bool} {n : Nat} : fi p n < n ↔ ∃ j, j < n ∧ p j = true := by
  constructor
  · intro h; exact ⟨_, h, fi_yes h⟩
  · rintro ⟨j, hj, hp⟩
    have hle := fi_le p n
    rcases Nat.lt_or_ge (fi p n) n with h | h
    · exact h
    · have := fi_all.1 (show fi p n = n by omega) j hj
      rw [hp] at this; cases this
theorem sub_nK (z : Nat → Nat → Int) (len : Nat) (major part tick : Int) : nK (sub z (idx z part len)) (idx z part len).length major part tick = nK z len major part tick := by
  funext k
  unfold nK
  rw [decide_eq_decide, fi_lt, fi_lt]
  constructor
  · rintro ⟨j, hj, hp⟩
    exact ⟨_, (idx_spec hj).1, hp⟩
  · rintro ⟨j, hj, hp⟩
    have hp' := hp
    simp only [pN, decide_eq_true_eq] at hp'
    obtain ⟨k', hk', e⟩ := idx_all hj hp'.1
    refine ⟨k', hk', ?_⟩
    show pN (sub z (idx z part len)) part _ k' = true
    simp only [pN, sub, e, decide_eq_true_eq]
    exact hp'
theorem sub_ok {z : Nat → Nat → Int} {len : Nat} {major part tick : Int} (h : okN z len major part tick) : okN (sub z (idx z part len)) (idx z part len).length major part tick ∧ nN (sub z (idx z part len)) (idx z part len).length major part tick = nN z len major part tick := by
  have e : nN (sub z (idx z part len)) (idx z part len).length major part tick = nN z len major part tick := by unfold nN; rw [sub_nK]
  obtain ⟨j, hj, e1, _⟩ := nx_win h
  obtain ⟨hm, h0, h1, hn⟩ := h
  exact ⟨⟨sub_may hm hj e1, h0, h1, by rw [e]; exact hn⟩, e⟩
theorem ofF_part {z : Nat → Nat → Int} {len : Nat} {major part tick : Int} (hm : mayF z len major 4 = true) (h0 : 0 ≤ tick) (h1 : tick ≤ 1048575) (hp : 0 ≤ part) : ofF z 3 len major tick = part ↔ ∃ j, j < len ∧ z j 3 = tick % major ∧ z j 0 = part := by
  constructor
  · intro e
    have g := (ofF_ge 3 hm h0 h1).1.1 (by omega)
    have h3 := fi_yes g
    simp only [decide_eq_true_eq] at h3
    exact ⟨_, g, h3, (dl_at hm h0 h1 g h3).symm.trans e⟩
  · rintro ⟨j, hj, e1, e2⟩
    exact (dl_at hm h0 h1 hj e1).trans e2
theorem sub_dl {z : Nat → Nat → Int} {len : Nat} {major part tick : Int} (h : okN z len major part tick) : (ofF (sub z (idx z part len)) 3 (idx z part len).length major tick = part) = (ofF z 3 len major tick = part) := by
  obtain ⟨j, hj, e1, _⟩ := nx_win h
  obtain ⟨hm, h0, h1, hn⟩ := h
  have hp : 0 ≤ part := by have := ((wins_of hm).win _ hj).1; omega
  rw [ofF_part hm h0 h1 hp, ofF_part (sub_may hm hj e1) h0 h1 hp]
  apply propext
  constructor
  · rintro ⟨k, hk, g1, g2⟩; exact ⟨_, (idx_spec hk).1, g1, g2⟩
  · rintro ⟨k, hk, g1, g2⟩
    obtain ⟨k', hk', e⟩ := idx_all hk g2
    exact ⟨k', hk', by simp only [sub, e]; exact g1, by simp only [sub, e]; exact g2⟩
/-- one row more -/
theorem sub_app (z : Nat → Nat → Int) (l : List Nat) (i k j : Nat) : sub z (l ++ [i]) k j = if k < l.length then sub z l k j else if k = l.length then z i j else sub z [] k j := by
  unfold sub
  by_cases h : k < l.length
  · rw [if_pos h, List.getD_eq_getElem?_getD, List.getElem?_append_left h, ← List.getD_eq_getElem?_getD]
  · rw [if_neg h]
    by_cases h2 : k = l.length
    · subst h2; simp
    · rw [if_neg h2, List.getD_eq_getElem?_getD, List.getElem?_eq_none (by simp; omega)]; simp
end Go.Proofs.Ytpkaaknlmpdpgaa.sch
