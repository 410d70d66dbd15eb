/- Package ring's Chain: where it goes, in plain words. No condition. -/
import Derived.Test.YtmjcfphcnnmgjaaRingD
namespace Go.Proofs.Ytmjcfphcnnmgjaa.rg
open Go Go.Proofs Go.AE Go.RowKit
set_option maxRecDepth 100000
set_option linter.unusedVariables false
set_option linter.unusedSimpArgs false
/-- the bytes of descriptor a of a ring -/
def ex (s : ByteArray) (a : Int) : ByteArray := s.extract (Int.toNat (a * 8)) (Int.toNat ((a + 1) * 8))
def atI (s : ByteArray) (h : Int) : Nat → Int
  | 0 => h
  | j + 1 => gD (ex s (atI s h j)) 1
def seenF (s : ByteArray) (h : Int) : Nat → Nat → Bool
  | 0, _ => false
  | j + 1, k => if k = Int.toNat (atI s h j) then true else seenF s h j k
def stp (s : ByteArray) (h : Int) (j : Nat) : Bool := decide (atI s h j = 255) || (seenF s h j (Int.toNat (atI s h j)) || !gv (ex s (atI s h j)))
theorem stp_f {s : ByteArray} {h : Int} {j : Nat} (g : stp s h j = false) : atI s h j ≠ 255 ∧ seenF s h j (Int.toNat (atI s h j)) = false ∧ gv (ex s (atI s h j)) = true := by
  unfold stp at g
  simp only [Bool.or_eq_false_iff, decide_eq_false_iff_not, Bool.not_eq_false'] at g
  exact ⟨g.1, g.2.1, g.2.2⟩
theorem gD1 {s : ByteArray} (h : gv s = true) : (0 ≤ gD s 1 ∧ gD s 1 < 8) ∨ gD s 1 = 255 := by
  have e : gD s 1 = byteAt s 1 := if_pos h
  rw [e]
  unfold gv mayD at h
  simp only [Bool.and_eq_true, decide_eq_true_eq] at h
  have := h.2.2.2.1
  omega
theorem at_rng {s : ByteArray} {h : Int} (h0 : 0 ≤ h ∧ h < 8) : ∀ {j : Nat}, fi (stp s h) j = j → (0 ≤ atI s h j ∧ atI s h j < 8) ∨ atI s h j = 255
  | 0, _ => .inl h0
  | j + 1, g => gD1 (stp_f (fi_all.1 g j (Nat.lt_succ_self _))).2.2
theorem fi_dn {p : Nat → Bool} {j : Nat} (g : fi p (j + 1) = j + 1) : fi p j = j := fi_all.2 fun k hk => fi_all.1 g k (by omega)
/-- how many are marked -/
def cnt (f : Nat → Bool) : Nat → Nat
  | 0 => 0
  | n + 1 => cnt f n + (if f n = true then 1 else 0)
theorem cnt_le (f : Nat → Bool) : ∀ n, cnt f n ≤ n
  | 0 => Nat.le_refl _
  | n + 1 => by have := cnt_le f n; unfold cnt; split <;> omega
theorem cnt_lt {f : Nat → Bool} {k : Nat} (hk : f k = false) : ∀ n, k < n → cnt f n < n
  | n + 1, h => by
    unfold cnt
    rcases Nat.lt_or_ge k n with g | g
    · have := cnt_lt hk n g; split <;> omega
    · obtain rfl : k = n := by omega
      rw [hk]; have := cnt_le f k; simp; omega
theorem cnt_up {f g : Nat → Bool} {k : Nat} (hk : f k = false) (hg : g k = true) (hs : ∀ i, i ≠ k → g i = f i) : ∀ n, cnt g n = cnt f n + (if k < n then 1 else 0)
  | 0 => rfl
  | n + 1 => by
    unfold cnt
    rw [cnt_up hk hg hs n]
    rcases Nat.lt_trichotomy k n with a | a | a
    · simp [hs n (by omega), show k < n by omega, show k < n + 1 by omega]; omega
    · subst a; simp [hk, hg]
    · simp [hs n (by omega), show ¬ k < n by omega, show ¬ k < n + 1 by omega]
theorem seen_cnt {s : ByteArray} {h : Int} (h0 : 0 ≤ h ∧ h < 8) : ∀ {j : Nat}, fi (stp s h) j = j → cnt (seenF s h j) 8 = j
  | 0, _ => rfl
  | j + 1, g => by
    have ih := seen_cnt h0 (fi_dn g)
    have hs := stp_f (fi_all.1 g j (Nat.lt_succ_self _))
    have hr := at_rng h0 (fi_dn g)
    rw [cnt_up (f := seenF s h j) (g := seenF s h (j + 1)) (k := Int.toNat (atI s h j)) hs.2.1 (if_pos rfl) (fun i hi => if_neg hi), ih, if_pos (by omega)]
theorem j_le {s : ByteArray} {h : Int} (h0 : 0 ≤ h ∧ h < 8) {j : Nat} (g : fi (stp s h) j = j) : j ≤ 8 := by
  have := seen_cnt h0 g; have := cnt_le (seenF s h j) 8; omega
theorem j_lt {s : ByteArray} {h : Int} (h0 : 0 ≤ h ∧ h < 8) {j : Nat} (g : fi (stp s h) j = j) (h1 : atI s h j ≠ 255) (h2 : seenF s h j (Int.toNat (atI s h j)) = false) : j < 8 := by
  have := seen_cnt h0 g; have := at_rng h0 g; have := cnt_lt h2 8 (by omega); omega
/-- where it stops, and how -/
def chJ (s : ByteArray) (h : Int) : Nat := fi (stp s h) 9
theorem chJ_lt {s : ByteArray} {h : Int} (h0 : 0 ≤ h ∧ h < 8) : chJ s h < 9 := by
  unfold chJ
  have := fi_le (stp s h) 9
  rcases Nat.lt_or_ge (fi (stp s h) 9) 9 with g | g
  · exact g
  · have e : fi (stp s h) 9 = 9 := by omega
    have := j_le h0 e; omega
theorem chJ_st {s : ByteArray} {h : Int} (h0 : 0 ≤ h ∧ h < 8) : stp s h (chJ s h) = true := fi_yes (chJ_lt h0)
theorem chJ_at {s : ByteArray} {h : Int} (h0 : 0 ≤ h ∧ h < 8) {j : Nat} (g : fi (stp s h) j = j) (g2 : stp s h j = true) : chJ s h = j := fi_at g g2 (by have := j_le h0 g; omega)
theorem chJ_fi (s : ByteArray) (h : Int) : fi (stp s h) (chJ s h) = chJ s h := fi_all.2 fun k hk => fi_no hk
def chE (s : ByteArray) (h : Int) : Int := if ¬ s.size = 64 then 1700 else if ¬ (0 ≤ h ∧ h < 8) then 1701 else if atI s h (chJ s h) = 255 then 0 else if seenF s h (chJ s h) (Int.toNat (atI s h (chJ s h))) = true then 1702 else 1700
def chN (s : ByteArray) (h : Int) : Nat := if chE s h = 0 then chJ s h else 0
def chZ (s : ByteArray) (h : Int) : Nat → Nat → Int := fun k c => gD (ex s (atI s h k)) c
theorem ex_ref (s : ByteArray) (a : Int) : s.extract (Int.toNat (a * 8)) (Int.toNat (a * 8 + 8)) = ex s a := by unfold ex; rw [show (a + 1) * 8 = a * 8 + 8 by omega]
theorem ex_fold (s : ByteArray) (a : Int) : s.extract (Int.toNat (a * 8)) (Int.toNat ((a + 1) * 8)) = ex s a := rfl
theorem row_at {z : Nat → Nat → Int} {j k c : Nat} {v : Int} (h : z j c = v) (e : k = j) : v = z k c := by subst e; exact h.symm
theorem chE_fi {s : ByteArray} {h : Int} (hs : s.size = 64) (h0 : 0 ≤ h ∧ h < 8) {j : Nat} (hj : fi (stp s h) j = j) (h1 : atI s h j ≠ 255) (h2 : stp s h j = true) : ¬ atI s h (chJ s h) = 255 ∧ chE s h = if seenF s h j (Int.toNat (atI s h j)) = true then 1702 else 1700 := by
  have e := chJ_at h0 hj h2
  rw [e]
  refine ⟨h1, ?_⟩
  unfold chE; rw [e, if_neg (by omega), if_neg (by omega), if_neg h1]
theorem gE_0 {s : ByteArray} : gE s = 0 ↔ gv s = true := by unfold gE; cases gv s <;> simp
theorem ch_no {s : ByteArray} {h : Int} (g : ¬ (s.size = 64 ∧ 0 ≤ h ∧ h < 8)) : chE s h = (if s.size = 64 then 1701 else 1700) ∧ chN s h = 0 := by
  have e : chE s h = (if s.size = 64 then 1701 else 1700) := by
    unfold chE
    by_cases a : s.size = 64
    · rw [if_neg (by omega), if_pos (by omega), if_pos a]
    · rw [if_pos a, if_neg a]
  refine ⟨e, ?_⟩
  unfold chN; rw [e]; split <;> rw [if_neg (by decide)]

end Go.Proofs.Ytmjcfphcnnmgjaa.rg
