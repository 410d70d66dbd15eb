/- Disks: what is there after so many acts. No condition. -/
import Derived.Test.YthnaenfonolmaaaDkB
namespace Go.Proofs.Ythnaenfonolmaaa.disks
open Go Go.Proofs Go.AE Go.RowKit
set_option maxRecDepth 100000
set_option linter.unusedVariables false
set_option linter.unusedSimpArgs false
abbrev fitA (z : Nat → Nat → Int) (n : Nat) (a : Nat → Nat → Int) (s : Nat → Nat → ByteArray) (i : Nat) : Prop := a i 0 < 3 ∧ 0 ≤ a i 1 ∧ a i 1 < n ∧ 0 ≤ a i 2 ∧ a i 2 ≤ z (a i 1).toNat 4 ∧ ((s i 4).size : Int) / 16 ≤ z (a i 1).toNat 4 - a i 2 ∧ ((s i 4).size : Int) % 16 = 0
/-- the bytes after i acts -/
def bts (z : Nat → Nat → Int) (n : Nat) (a : Nat → Nat → Int) (s : Nat → Nat → ByteArray) : Nat → Nat → Int
  | 0 => fun _ => 0
  | i + 1 => fun k => if fitA z n a s i then wb (bts z n a s i) (s i 4) ((z (a i 1).toNat 3 + a i 2) * 16).toNat (s i 4).size k else bts z n a s i k
/-- what each has left after i acts -/
def lfs (n : Nat) (a : Nat → Nat → Int) (q : Int) : Nat → Nat → Int
  | 0 => fun _ => q
  | i + 1 => fun k => if 6 ≤ a i 0 ∧ 0 ≤ a i 1 ∧ a i 1 < n ∧ k = (a i 1).toNat then (if 8 ≤ a i 0 then q else if 0 ≤ a i 3 ∧ a i 3 ≤ lfs n a q i k then IntKind.wrap .i64 (lfs n a q i k - a i 3) else lfs n a q i k) else lfs n a q i k
theorem bts_no {z : Nat → Nat → Int} {n : Nat} {a : Nat → Nat → Int} {s : Nat → Nat → ByteArray} {i : Nat} (h : ¬ fitA z n a s i) (k : Nat) : bts z n a s (i + 1) k = bts z n a s i k := if_neg h
theorem bts_yes {z : Nat → Nat → Int} {n : Nat} {a : Nat → Nat → Int} {s : Nat → Nat → ByteArray} {i : Nat} (h : fitA z n a s i) (k : Nat) : bts z n a s (i + 1) k = wb (bts z n a s i) (s i 4) ((z (a i 1).toNat 3 + a i 2) * 16).toNat (s i 4).size k := if_pos h
theorem lfs_no {n : Nat} {a : Nat → Nat → Int} {q : Int} {i k : Nat} (h : ¬ (6 ≤ a i 0 ∧ 0 ≤ a i 1 ∧ a i 1 < n ∧ k = (a i 1).toNat)) : lfs n a q (i + 1) k = lfs n a q i k := if_neg h
theorem lfs_yes {n : Nat} {a : Nat → Nat → Int} {q : Int} {i k : Nat} (h : 6 ≤ a i 0 ∧ 0 ≤ a i 1 ∧ a i 1 < n ∧ k = (a i 1).toNat) : lfs n a q (i + 1) k = if 8 ≤ a i 0 then q else if 0 ≤ a i 3 ∧ a i 3 ≤ lfs n a q i k then IntKind.wrap .i64 (lfs n a q i k - a i 3) else lfs n a q i k := if_pos h
theorem aw0 : (callK (Hn Try.prog False cond [] 100) Try.prog 12 [] s0 (fun v _ => v = .bool true)) = (SV.bool true = SV.bool true) := by kernel_rfl
theorem okc : okC Try.prog ctr := okC_cons pt.ok_CP <| okC_cons pt.ok_SP <| okC_cons em.ok_may <| okC_cons em.ok_em <| okC_cons (ok_trueE pk0 100 aw0) <| okC_nil _
theorem mW (z : Nat → Nat → Int) (L : Nat → Nat) (y : Nat → Nat → Int) (n : Nat) (s : Int) : em.mayZ (fun k m => gi (rW z k) m) n s = em.mayZ (fun k m => gi (rowP 0 z L y k) m) n s := by
  unfold em.mayZ em.mayY em.apZ; rfl
theorem mQ (z : Nat → Nat → Int) (L : Nat → Nat) (y : Nat → Nat → Int) (n : Nat) (s : Int) : em.mayZ (fun k m => gi (rQ z k) m) n s = em.mayZ (fun k m => gi (rowP 0 z L y k) m) n s := by
  unfold em.mayZ em.mayY em.apZ; rfl
theorem may_bd {z : Nat → Nat → Int} {n : Nat} {s : Int} (h : em.mayZ z n s = true) : 1 ≤ n ∧ n ≤ 4 ∧ (0 ≤ s ∧ s ≤ 64) ∧ ∀ i, i < n → em.bdZ z s i := by
  unfold em.mayZ em.mayY at h
  rw [Bool.and_eq_true, decide_eq_true_eq, decide_eq_true_eq] at h
  exact ⟨h.1.1, h.1.2.1, h.2, h.1.2.2.1⟩
theorem may_64 {z : Nat → Nat → Int} {n : Nat} {s : Int} (h : em.mayZ z n s = true) : em.mayZ z n 64 = true := by
  have hb := may_bd h
  unfold em.mayZ em.mayY at h ⊢
  rw [Bool.and_eq_true, decide_eq_true_eq, decide_eq_true_eq] at h ⊢
  refine ⟨⟨h.1.1, h.1.2.1, fun i hi => ?_, h.1.2.2.2⟩, by omega⟩
  have := hb.2.2.2 i hi
  unfold em.bdZ at this ⊢
  omega
section
variable {z : Nat → Nat → Int} {n : Nat} {a : Nat → Nat → Int} {s : Nat → Nat → ByteArray} {q : Int} {i P : Nat}
theorem lf_a (hK : 6 ≤ a i 0) (hPa : a i 1 = (P : Int)) (hPn : P < n) (h1 : a i 0 < 8) (h2 : 0 ≤ a i 3) (h3 : a i 3 ≤ lfs n a q i P) (k : Nat) : lfs n a q (i + 1) k = if k = P then IntKind.wrap .i64 (lfs n a q i P - a i 3) else lfs n a q i k := by
  by_cases hk : k = P
  · subst hk
    rw [lfs_yes (by omega), if_neg (by omega), if_pos ⟨h2, h3⟩, if_pos rfl]
  · rw [lfs_no (by omega), if_neg hk]
theorem lf_b (hK : 6 ≤ a i 0) (hPa : a i 1 = (P : Int)) (hPn : P < n) (h1 : a i 0 < 8) (h2 : ¬ (0 ≤ a i 3 ∧ a i 3 ≤ lfs n a q i P)) (k : Nat) : lfs n a q (i + 1) k = lfs n a q i k := by
  by_cases hk : k = P
  · subst hk
    rw [lfs_yes (by omega), if_neg (by omega), if_neg h2]
  · rw [lfs_no (by omega)]
theorem lf_c (hK : 8 ≤ a i 0) (hPa : a i 1 = (P : Int)) (hPn : P < n) (k : Nat) : lfs n a q (i + 1) k = if k = P then q else lfs n a q i k := by
  by_cases hk : k = P
  · subst hk
    rw [lfs_yes (by omega), if_pos hK, if_pos rfl]
  · rw [lfs_no (by omega), if_neg hk]
theorem lf_n (hK : a i 0 < 6) (k : Nat) : lfs n a q (i + 1) k = lfs n a q i k := lfs_no (by omega)
theorem lf_o (hP : a i 1 < 0 ∨ (n : Int) ≤ a i 1) (k : Nat) : lfs n a q (i + 1) k = lfs n a q i k := lfs_no (by omega)
theorem bt_o (hP : a i 1 < 0 ∨ (n : Int) ≤ a i 1) (k : Nat) : bts z n a s (i + 1) k = bts z n a s i k := bts_no (fun h => by have h1 := h.2.1; have h2 := h.2.2.1; omega) k
theorem bt_k (hK : 3 ≤ a i 0) (k : Nat) : bts z n a s (i + 1) k = bts z n a s i k := bts_no (fun h => by have := h.1; omega) k
theorem bt_w (hPa : a i 1 = (P : Int)) (hfit : ¬ (0 ≤ a i 2 ∧ a i 2 ≤ z P 4 ∧ ((s i 4).size : Int) / 16 ≤ z P 4 - a i 2 ∧ ((s i 4).size : Int) % 16 = 0)) (k : Nat) : bts z n a s (i + 1) k = bts z n a s i k :=
  bts_no (fun h => hfit (by
    have hPt : (a i 1).toNat = P := by omega
    obtain ⟨_, _, _, h1, h2, h3, h4⟩ := h
    rw [hPt] at h2 h3
    exact ⟨h1, h2, h3, h4⟩)) k
theorem bt_y (hPa : a i 1 = (P : Int)) (hPn : P < n) (hK : a i 0 < 3) (hfit : 0 ≤ a i 2 ∧ a i 2 ≤ z P 4 ∧ ((s i 4).size : Int) / 16 ≤ z P 4 - a i 2 ∧ ((s i 4).size : Int) % 16 = 0) (k : Nat) : bts z n a s (i + 1) k = wb (bts z n a s i) (s i 4) ((z P 3 + a i 2) * 16).toNat (s i 4).size k := by
  have hPt : (a i 1).toNat = P := by omega
  have := bts_yes (z := z) (n := n) (a := a) (s := s) (i := i) ⟨hK, by omega, by omega, hfit.1, by rw [hPt]; exact hfit.2.1, by rw [hPt]; exact hfit.2.2.1, hfit.2.2.2⟩ k
  rw [hPt] at this; exact this
theorem fit_B {S B : Nat} (zP : 0 ≤ z P 3 ∧ 0 ≤ z P 4 ∧ z P 3 + z P 4 ≤ S) (hB : B = S * 16) (hfit : 0 ≤ a i 2 ∧ a i 2 ≤ z P 4 ∧ ((s i 4).size : Int) / 16 ≤ z P 4 - a i 2 ∧ ((s i 4).size : Int) % 16 = 0) : 0 ≤ z P 3 + a i 2 ∧ (((z P 3 + a i 2) * 16).toNat : Int) = (z P 3 + a i 2) * 16 ∧ ((z P 3 + a i 2) * 16).toNat + (s i 4).size ≤ B := by omega
end
theorem sp3 (x : Int) : x < 3 ∨ (3 ≤ x ∧ x < 6) ∨ 6 ≤ x := by omega
theorem sp6 {x : Int} (h : x < 3) : x < 6 := by omega
theorem sp7 {x : Int} (h : 6 ≤ x) : 3 ≤ x := by omega
theorem spP (x : Int) (n : Nat) : (∃ P : Nat, x = (P : Int) ∧ P < n) ∨ (x < 0 ∨ (n : Int) ≤ x) := by
  by_cases h : 0 ≤ x ∧ x < n
  · exact .inl ⟨x.toNat, by omega, by omega⟩
  · exact .inr (by omega)

end Go.Proofs.Ythnaenfonolmaaa.disks
