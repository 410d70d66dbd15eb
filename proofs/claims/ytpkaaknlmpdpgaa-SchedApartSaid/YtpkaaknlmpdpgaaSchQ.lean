/- Windows of a major frame, in plain numbers: the next tick that delivers to a partition. No condition. -/
import Derived.Test.YtpkaaknlmpdpgaaSchP
namespace Go.Proofs.Ytpkaaknlmpdpgaa.sch
open Go Go.Proofs Go.AE Go.RowKit
set_option linter.unusedVariables false
set_option linter.unusedSimpArgs false
theorem pN_eq {z : Nat → Nat → Int} {major part tick : Int} {k : Nat} (ht : 0 ≤ tick) : pN z part (Int.tmod (tick + k) major) = fun j => decide (z j 0 = part ∧ z j 3 = (tick + k) % major) := by
  funext j; simp only [pN, tmod_nn (show 0 ≤ tick + (k : Int) by omega)]
/-- the window that an offset delivers, if some one does -/
theorem dl_at {z : Nat → Nat → Int} {len : Nat} {major tick : Int} (hm : mayF z len major 4 = true) (h0 : 0 ≤ tick) (h1 : tick ≤ 1048575) {j : Nat} (hj : j < len) (hd : z j 3 = tick % major) : ofF z 3 len major tick = z j 0 := by
  have hw := wins_of hm
  have hlt : fi (fun j => decide (z j 3 = tick % major)) len < len := by
    rcases Nat.lt_or_ge (fi (fun j => decide (z j 3 = tick % major)) len) len with h | h
    · exact h
    · have hle := fi_le (fun j => decide (z j 3 = tick % major)) len
      have := fi_all.1 (show fi (fun j => decide (z j 3 = tick % major)) len = len by omega) j hj
      simp [hd] at this
  have h3 := fi_yes hlt
  simp only [decide_eq_true_eq] at h3
  have e := hw.inj (.inr rfl) _ j hlt hj (h3.trans hd.symm)
  unfold ofF
  rw [pD_eq h0, if_pos ⟨hm, h0, h1, hlt⟩, e]
theorem nx_win {z : Nat → Nat → Int} {len : Nat} {major part tick : Int} (h : okN z len major part tick) : ∃ j, j < len ∧ z j 0 = part ∧ z j 3 = (tick + nN z len major part tick) % major := by
  obtain ⟨hm, h0, h1, hn⟩ := h
  have hy := fi_yes (p := nK z len major part tick) hn
  simp only [nK, decide_eq_true_eq] at hy
  have hx := fi_yes hy
  rw [pN_eq h0] at hy hx
  simp only [decide_eq_true_eq] at hx
  exact ⟨_, hy, hx⟩
theorem nx_lt {z : Nat → Nat → Int} {len : Nat} {major part tick : Int} (h : okN z len major part tick) : (nN z len major part tick : Int) < major ∧ major ≤ 64 := by
  obtain ⟨hm, h0, h1, hn⟩ := h
  have g2 := (wins_of hm).h2
  omega
theorem nx_at {z : Nat → Nat → Int} {len : Nat} {major part tick : Int} (h : okN z len major part tick) (hb : tick ≤ 1048000) : ofF z 3 len major (tick + nN z len major part tick) = part ∧ 0 ≤ part := by
  obtain ⟨j, hj, e1, e2⟩ := nx_win h
  have hl := nx_lt h
  obtain ⟨hm, h0, h1, hn⟩ := h
  exact ⟨(dl_at hm (by omega) (by omega) hj e2).trans e1, by have := ((wins_of hm).win _ hj).1; omega⟩
theorem nx_no {z : Nat → Nat → Int} {len : Nat} {major part tick : Int} (h : okN z len major part tick) (hb : tick ≤ 1048000) {k : Nat} (hk : k < nN z len major part tick) : ofF z 3 len major (tick + k) ≠ part := by
  have hp := (nx_at h hb).2
  have hl := nx_lt h
  obtain ⟨hm, h0, h1, hn⟩ := h
  have hno := fi_no (p := nK z len major part tick) hk
  simp only [nK, decide_eq_false_iff_not] at hno
  intro e
  have g := (ofF_ge 3 hm (show 0 ≤ tick + (k : Int) by omega) (by omega)).1.1 (by omega)
  have h3 := fi_yes g
  simp only [decide_eq_true_eq] at h3
  have e2 := dl_at hm (show 0 ≤ tick + (k : Int) by omega) (by omega) g h3
  rw [pN_eq h0] at hno
  have hle := fi_le (fun j => decide (z j 0 = part ∧ z j 3 = (tick + k) % major)) len
  have := fi_all.1 (show fi (fun j => decide (z j 0 = part ∧ z j 3 = (tick + k) % major)) len = len by omega) _ g
  simp only [decide_eq_false_iff_not] at this
  exact this ⟨e2.symm.trans e, h3⟩
theorem nx_some {z : Nat → Nat → Int} {len : Nat} {major part tick : Int} (hm : mayF z len major 4 = true) (h0 : 0 ≤ tick) (h1 : tick ≤ 1048575) {j : Nat} (hj : j < len) (hp : z j 0 = part) : okN z len major part tick := by
  have hw := wins_of hm
  have g1 := hw.h1
  have g2 := hw.h2
  have w := hw.win j hj
  refine ⟨hm, h0, h1, ?_⟩
  rcases Nat.lt_or_ge (nN z len major part tick) (Int.toNat major) with h | h
  · exact h
  · exfalso
    have hle : nN z len major part tick ≤ Int.toNat major := fi_le _ _
    have a1 := Int.emod_nonneg (z j 3 - tick) (show major ≠ 0 by omega)
    have a2 := Int.emod_lt_of_pos (z j 3 - tick) (show (0 : Int) < major by omega)
    have := fi_all.1 (show fi (nK z len major part tick) (Int.toNat major) = Int.toNat major by unfold nN at h hle; omega) (Int.toNat ((z j 3 - tick) % major)) (by omega)
    simp only [nK, decide_eq_false_iff_not] at this
    rw [pN_eq h0] at this
    have hle2 := fi_le (fun i => decide (z i 0 = part ∧ z i 3 = (tick + (Int.toNat ((z j 3 - tick) % major) : Nat)) % major)) len
    have hno := fi_all.1 (show fi (fun i => decide (z i 0 = part ∧ z i 3 = (tick + (Int.toNat ((z j 3 - tick) % major) : Nat)) % major)) len = len by omega) j hj
    simp only [decide_eq_false_iff_not] at hno
    apply hno
    refine ⟨hp, ?_⟩
    rw [show ((Int.toNat ((z j 3 - tick) % major) : Nat) : Int) = (z j 3 - tick) % major by omega, Int.add_emod, Int.emod_emod_of_dvd _ (Int.dvd_refl _), ← Int.add_emod, show tick + (z j 3 - tick) = z j 3 by omega]
    exact (Int.emod_eq_of_lt (by omega) (by omega)).symm
/-- has some window below i that partition? -/
def ownB (z : Nat → Nat → Int) (part : Int) : Nat → Bool
  | 0 => false
  | i + 1 => ownB z part i || decide (z i 0 = part)
theorem ownB_some {z : Nat → Nat → Int} {part : Int} : ∀ {i : Nat}, ownB z part i = true → ∃ j, j < i ∧ z j 0 = part
  | 0, h => by cases h
  | i + 1, h => by
    simp only [ownB, Bool.or_eq_true, decide_eq_true_eq] at h
    rcases h with h | h
    · obtain ⟨j, hj, e⟩ := ownB_some h; exact ⟨j, by omega, e⟩
    · exact ⟨i, by omega, h⟩
end Go.Proofs.Ytpkaaknlmpdpgaa.sch
