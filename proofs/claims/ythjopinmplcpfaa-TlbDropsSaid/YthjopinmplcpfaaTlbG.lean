/- Package tlb: a cache of sixteen keys, as a set of keys. No condition. -/
import Derived.Test.YthjopinmplcpfaaTlbE
namespace Go.Proofs.Ythjopinmplcpfaa.tl
open Go Go.Proofs Go.AE Go.RowKit
set_option maxRecDepth 100000
set_option linter.unusedVariables false
set_option linter.unusedSimpArgs false
def b1 (b : Bool) : Nat := if b = true then 1 else 0
def cn (P : Nat → Bool) (n : Nat) : Nat := (idx P n).length
theorem cn_s (P : Nat → Bool) (n : Nat) : cn P (n + 1) = cn P n + b1 (P n) := by
  unfold cn b1
  cases h : P n with
  | true => rw [idx_yes h, List.length_append]; rfl
  | false => rw [idx_not h]; rfl
theorem cn_add {P Q R : Nat → Bool} : ∀ {n : Nat}, (∀ j, j < n → b1 (R j) = b1 (P j) + b1 (Q j)) → cn R n = cn P n + cn Q n
  | 0, _ => rfl
  | n + 1, h => by
    have := cn_add (n := n) fun j hj => h j (by omega)
    have := h n (by omega)
    rw [cn_s, cn_s, cn_s]; omega
theorem cn_congr {P Q : Nat → Bool} {n : Nat} (h : ∀ j, j < n → P j = Q j) : cn P n = cn Q n := by unfold cn; rw [idx_congr h]
theorem cn_zero {P : Nat → Bool} {n : Nat} (h : ∀ j, j < n → P j = false) : cn P n = 0 := by
  have e : ∀ m, cn (fun _ => false) m = 0 := by intro m; induction m with | zero => rfl | succ m ih => rw [cn_s, ih]; rfl
  rw [cn_congr (Q := fun _ => false) h, e]
theorem cn_full {P : Nat → Bool} {n : Nat} (h : ∀ j, j < n → P j = true) : cn P n = n := (idx_full h).1
theorem cn_le (P : Nat → Bool) (n : Nat) : cn P n ≤ n := idx_le P n
theorem cn_less {P : Nat → Bool} : ∀ {n k : Nat}, k < n → P k = false → cn P n < n
  | 0, k, h, _ => absurd h (Nat.not_lt_zero _)
  | n + 1, k, h, hk => by
    rw [cn_s]
    by_cases e : k = n
    · subst e; rw [hk]; have := cn_le P k; show cn P k + 0 < k + 1; omega
    · have := cn_less (n := n) (k := k) (by omega) hk
      have : b1 (P n) ≤ 1 := by unfold b1; split <;> omega
      omega
theorem cn_pos {P : Nat → Bool} {n : Nat} : 0 < cn P n ↔ fi P n < n := by
  constructor
  · intro h
    rcases Nat.lt_or_ge (fi P n) n with g | g
    · exact g
    · have e : fi P n = n := by have := fi_le P n; omega
      rw [cn_zero (fi_all.1 e)] at h; omega
  · intro h
    have e := cn_less (P := fun j => !P j) h (by show (!P (fi P n)) = false; simp only [fi_yes h, Bool.not_true])
    have := cn_add (P := P) (Q := fun j => !P j) (R := fun _ => true) (n := n) fun j _ => by cases P j <;> rfl
    rw [cn_full (P := fun _ => true) fun _ _ => rfl] at this
    omega
theorem cn_nq (P : Nat → Bool) (n : Nat) : cn (nq P) n + cn P n = n := by
  have := cn_add (P := nq P) (Q := P) (R := fun _ => true) (n := n) fun j _ => by simp only [nq]; cases P j <;> rfl
  rw [cn_full (P := fun _ => true) fun _ _ => rfl] at this
  omega
/-- what is filtered, counted -/
theorem cn_filter {P Q : Nat → Bool} : ∀ {n : Nat}, cn (fun x => Q ((idx P n).getD x 0)) (cn P n) = cn (fun j => Q j && P j) n
  | 0 => rfl
  | n + 1 => by
    rw [cn_s (fun j => Q j && P j) n]
    cases h : P n with
    | true =>
      have e : cn P (n + 1) = cn P n + 1 := by rw [cn_s, h]; rfl
      rw [e, cn_s]
      have e2 : ∀ x, (idx P (n + 1)).getD x 0 = if x < cn P n then (idx P n).getD x 0 else [n].getD (x - cn P n) 0 := fun x => by
        rw [idx_yes h, getD_app]
        by_cases g : x < cn P n
        · rw [if_pos g]; exact if_pos g
        · rw [if_neg g, if_neg (show ¬ x < (idx P n).length from g)]
          split
          · rename_i g2; rw [g2]; show n = [n].getD (cn P n - cn P n) 0; rw [Nat.sub_self]; rfl
          · rename_i g2
            have g3 : cn P n < x := by have : x ≠ cn P n := g2; omega
            rw [show x - cn P n = (x - cn P n - 1) + 1 by omega]; rfl
      rw [cn_congr (Q := fun x => Q ((idx P n).getD x 0)) fun x hx => by show Q _ = Q _; rw [e2, if_pos hx], cn_filter (n := n)]
      congr 1
      rw [e2, if_neg (Nat.lt_irrefl _), Nat.sub_self]
      simp
    | false =>
      have e : cn P (n + 1) = cn P n := by rw [cn_s, h]; rfl
      rw [e, idx_not h, cn_filter (n := n)]
      simp [b1]
/-- keys -/
def key (d p : Int) : Nat := d.toNat * 8 + p.toNat
abbrev kq (z : Nat → Nat → Int) (r j : Nat) : Nat := key (z (r + j) 0) (z (r + j) 1)
abbrev eqk (κ : Nat → Nat) (k : Nat) : Nat → Bool := fun j => decide (κ j = k)
theorem cn_sum {κ : Nat → Nat} {n : Nat} {B : Nat → Bool} : ∀ {m : Nat}, (∀ k, k < m → cn (eqk κ k) n = b1 (B k)) → cn B m = cn (fun j => decide (κ j < m)) n
  | 0, _ => by rw [cn_zero (P := fun j => decide (κ j < 0)) fun j _ => decide_eq_false (Nat.not_lt_zero _)]; rfl
  | m + 1, h => by
    rw [cn_s, cn_sum (m := m) fun k hk => h k (by omega), ← h m (by omega)]
    refine (cn_add fun j _ => ?_).symm
    simp only [b1, eqk, decide_eq_true_eq]
    (repeat' split) <;> omega
def ran (z : Nat → Nat → Int) (r n : Nat) : Prop := ∀ j, j < n → 0 ≤ z (r + j) 0 ∧ z (r + j) 0 ≤ 1 ∧ 0 ≤ z (r + j) 1 ∧ z (r + j) 1 ≤ 7 ∧ z (r + j) 2 = z (r + j) 1 ∧ z (r + j) 3 = 1 + z (r + j) 0
def Inv (z : Nat → Nat → Int) (r n : Nat) (B : Nat → Bool) : Prop := ran z r n ∧ ∀ k, k < 16 → cn (eqk (kq z r) k) n = b1 (B k)
def okd (d p : Int) : Prop := 0 ≤ d ∧ d ≤ 1 ∧ 0 ≤ p ∧ p ≤ 7
theorem key_lt {d p : Int} (h : okd d p) : key d p < 16 := by unfold okd at h; unfold key; omega
theorem Inv.n {z : Nat → Nat → Int} {r n : Nat} {B : Nat → Bool} (h : Inv z r n B) : cn B 16 = n := by
  rw [cn_sum h.2]
  exact cn_full fun j hj => by have := h.1 j hj; show decide (kq z r j < 16) = true; rw [decide_eq_true_eq]; show (z (r + j) 0).toNat * 8 + (z (r + j) 1).toNat < 16; omega
theorem Inv.qF {z : Nat → Nat → Int} {r n : Nat} {d p : Int} (h : ran z r n) (hd : okd d p) : ∀ j, j < n → qF z r d p j = eqk (kq z r) (key d p) j := fun j hj => by
  have := h j hj
  unfold okd at hd
  show decide (z (r + j) 0 = d ∧ z (r + j) 1 = p) = decide ((z (r + j) 0).toNat * 8 + (z (r + j) 1).toNat = d.toNat * 8 + p.toNat)
  rw [decide_eq_decide]
  omega
theorem Inv.cnt {z : Nat → Nat → Int} {r n : Nat} {B : Nat → Bool} (h : Inv z r n B) {d p : Int} (hd : okd d p) : cn (Go.Proofs.Ythjopinmplcpfaa.tl.qF z r d p) n = b1 (B (key d p)) := by
  rw [cn_congr (Inv.qF h.1 hd)]; exact h.2 _ (key_lt hd)
theorem Inv.found {z : Nat → Nat → Int} {r n : Nat} {B : Nat → Bool} (h : Inv z r n B) {d p : Int} (hd : okd d p) : fK z r n d p < n ↔ B (key d p) = true := by
  rw [← cn_pos, h.cnt hd]; unfold b1; split <;> simp_all
theorem Inv.gB {z : Nat → Nat → Int} {r n : Nat} {B : Nat → Bool} (h : Inv z r n B) {d p : Int} (hd : okd d p) : gB z r n d p = B (key d p) := by
  rw [Bool.eq_iff_iff, ← h.found hd]; simp only [Go.Proofs.Ythjopinmplcpfaa.tl.gB, decide_eq_true_eq]
theorem Inv.gV {z : Nat → Nat → Int} {r n : Nat} {B : Nat → Bool} (h : Inv z r n B) {d p : Int} (hd : okd d p) (hB : B (key d p) = true) : gV z r n d p 2 = p ∧ gV z r n d p 3 = 1 + d := by
  have hk := (h.found hd).2 hB
  have e := fi_yes hk
  simp only [Go.Proofs.Ythjopinmplcpfaa.tl.qF, decide_eq_true_eq] at e
  have := h.1 _ hk
  simp only [Go.Proofs.Ythjopinmplcpfaa.tl.gV, if_pos hk]
  have e0 : z (r + fK z r n d p) 0 = d := e.1
  have e1 : z (r + fK z r n d p) 1 = p := e.2
  omega
/-- Put -/
def bP (B : Nat → Bool) (k : Nat) : Nat → Bool := fun x => if x = k then true else B x
theorem Inv.put {z : Nat → Nat → Int} {r n : Nat} {B : Nat → Bool} (h : Inv z r n B) {d p : Int} (hd : okd d p) : Inv (pZ 16 z r n d p p (1 + d)) (pR 16 z r n d p p (1 + d)) (pN 16 z r n d p p (1 + d)) (bP B (key d p)) := by
  have hv : vP d p p (1 + d) := by unfold okd at hd; unfold vP; omega
  have hN := h.n
  by_cases hk : fK z r n d p < n
  · simp only [pZ, pR, pN, if_pos hv, if_pos hk]
    have hB := (h.found hd).1 hk
    have e := fi_yes hk
    simp only [Go.Proofs.Ythjopinmplcpfaa.tl.qF, decide_eq_true_eq] at e
    have e0 : z (r + fK z r n d p) 0 = d := e.1
    have e1 : z (r + fK z r n d p) 1 = p := e.2
    refine ⟨fun j hj => ?_, fun k hk2 => ?_⟩
    · have := h.1 j hj
      simp only [zF, c4]
      by_cases g : r + j = r + fK z r n d p
      · rw [g] at this ⊢; simp only [if_pos]; omega
      · rw [if_neg g, if_neg g]; exact this
    · have := h.2 k hk2
      have e2 : bP B (key d p) k = B k := by unfold bP; by_cases g : k = key d p <;> simp [g, hB]
      rw [e2, ← this]; rfl
  · have hB : B (key d p) = false := by cases hb : B (key d p); rfl; exact absurd ((h.found hd).2 hb) hk
    have hlt : n < 16 := by have := cn_less (key_lt hd) hB; omega
    simp only [pZ, pR, pN, if_pos hv, if_neg hk, if_pos (show (n : Int) < 16 by omega)]
    refine ⟨fun j hj => ?_, fun k hk2 => ?_⟩
    · simp only [zA, c4, Nat.zero_add]
      by_cases g : j = n
      · unfold okd at hd; refine ⟨?_, ?_, ?_, ?_, ?_, ?_⟩ <;> simp only [if_pos g] <;> omega
      · simp only [if_neg g]; exact h.1 j (by omega)
    · rw [cn_s, cn_congr (Q := eqk (kq z r) k) fun j hj => by simp only [eqk, kq, zA, c4, Nat.zero_add, if_neg (show j ≠ n by omega)], h.2 k hk2]
      simp only [eqk, kq, zA, c4, Nat.zero_add, if_pos]
      unfold bP b1
      by_cases g : k = key d p
      · rw [if_pos g, g, hB]; simp
      · rw [if_neg g, decide_eq_false (fun e => g e.symm)]; simp
/-- what stays -/
theorem Inv.stay {z : Nat → Nat → Int} {r n : Nat} {B B' : Nat → Bool} (h : Inv z r n B) {P : Nat → Bool} (hB : ∀ k, k < 16 → cn (fun j => eqk (kq z r) k j && nq P j) n = b1 (B' k)) : Inv (zD z r n P) r (lD n P) B' := by
  have row : ∀ j, j < lD n P → ∀ c, c < 4 → zD z r n P (r + j) c = z (r + (idx (nq P) n).getD j 0) c := fun j hj c hc => by
    have e : yD z r (nq P) n (r + j) c = z (r + (idx (nq P) n).getD j 0) c := by
      unfold lD at hj
      unfold yD; rw [if_pos (by omega), Nat.add_sub_cancel_left]
    rw [← e]
    match c, hc with
    | 0, _ => rfl
    | 1, _ => rfl
    | 2, _ => rfl
    | 3, _ => rfl
  refine ⟨fun j hj => ?_, fun k hk => ?_⟩
  · rw [row j hj 0 (by omega), row j hj 1 (by omega), row j hj 2 (by omega), row j hj 3 (by omega)]
    exact h.1 _ (idx_spec hj).1
  · rw [← hB k hk]
    have := cn_filter (P := nq P) (Q := eqk (kq z r) k) (n := n)
    rw [← this]
    exact cn_congr fun j hj => by simp only [eqk, kq, row j hj 0 (by omega), row j hj 1 (by omega)]
def bD (B : Nat → Bool) (k : Nat) : Nat → Bool := fun x => if x = k then false else B x
theorem Inv.drop {z : Nat → Nat → Int} {r n : Nat} {B : Nat → Bool} (h : Inv z r n B) {d p : Int} (hd : okd d p) : Inv (zD z r n (Go.Proofs.Ythjopinmplcpfaa.tl.qF z r d p)) r (lD n (Go.Proofs.Ythjopinmplcpfaa.tl.qF z r d p)) (bD B (key d p)) ∧ decide (lD n (Go.Proofs.Ythjopinmplcpfaa.tl.qF z r d p) < n) = B (key d p) := by
  refine ⟨h.stay fun k hk => ?_, ?_⟩
  · by_cases g : k = key d p
    · rw [cn_zero fun j hj => by simp only [nq, Inv.qF h.1 hd j hj, ← g]; cases eqk (kq z r) k j <;> rfl]
      unfold bD; rw [if_pos g]; rfl
    · unfold bD; rw [if_neg g, ← h.2 k hk]
      refine cn_congr fun j hj => ?_
      simp only [nq, Inv.qF h.1 hd j hj, eqk]
      rw [Bool.eq_iff_iff]; simp; omega
  · have e := cn_nq (Go.Proofs.Ythjopinmplcpfaa.tl.qF z r d p) n
    rw [h.cnt hd] at e
    unfold lD
    have e2 : (idx (nq (Go.Proofs.Ythjopinmplcpfaa.tl.qF z r d p)) n).length = cn (nq (Go.Proofs.Ythjopinmplcpfaa.tl.qF z r d p)) n := rfl
    rw [e2, Bool.eq_iff_iff, decide_eq_true_eq]
    unfold b1 at e
    split at e
    · simp_all; omega
    · simp_all
def bA (B : Nat → Bool) (D k : Nat) : Nat → Bool := fun x => if D * 8 ≤ x ∧ x < D * 8 + k then false else B x
theorem Inv.all {z : Nat → Nat → Int} {r n : Nat} {B : Nat → Bool} (h : Inv z r n B) {d : Int} (hd : 0 ≤ d ∧ d ≤ 1) : Inv (zD z r n (qA z r d)) r (lD n (qA z r d)) (bA B d.toNat 8) ∧ (n : Int) - lD n (qA z r d) = cn B (d.toNat * 8 + 8) - cn B (d.toNat * 8) := by
  refine ⟨h.stay fun k hk => ?_, ?_⟩
  · unfold bA
    split
    · rw [cn_zero fun j hj => ?_]; rfl
      have := h.1 j hj
      show (decide ((z (r + j) 0).toNat * 8 + (z (r + j) 1).toNat = k) && !decide (z (r + j) 0 = d)) = false
      simp only [Bool.and_eq_false_imp, decide_eq_true_eq, Bool.not_eq_false']
      omega
    · rw [← h.2 k hk]
      refine cn_congr fun j hj => ?_
      have := h.1 j hj
      show (decide ((z (r + j) 0).toNat * 8 + (z (r + j) 1).toNat = k) && !decide (z (r + j) 0 = d)) = decide ((z (r + j) 0).toNat * 8 + (z (r + j) 1).toNat = k)
      rw [Bool.eq_iff_iff]
      simp only [Bool.and_eq_true, decide_eq_true_eq, Bool.not_eq_true', decide_eq_false_iff_not]
      omega
  · have e := cn_nq (qA z r d) n
    have e1 := cn_sum (m := d.toNat * 8 + 8) (B := B) (n := n) (κ := kq z r) fun k hk => h.2 k (by omega)
    have e2 := cn_sum (m := d.toNat * 8) (B := B) (n := n) (κ := kq z r) fun k hk => h.2 k (by omega)
    have e3 : cn (fun j => decide (kq z r j < d.toNat * 8 + 8)) n = cn (fun j => decide (kq z r j < d.toNat * 8)) n + cn (qA z r d) n := cn_add fun j hj => by
      have := h.1 j hj
      show b1 (decide ((z (r + j) 0).toNat * 8 + (z (r + j) 1).toNat < d.toNat * 8 + 8)) = b1 (decide ((z (r + j) 0).toNat * 8 + (z (r + j) 1).toNat < d.toNat * 8)) + b1 (decide (z (r + j) 0 = d))
      simp only [b1, decide_eq_true_eq]
      (repeat' split) <;> omega
    have e4 : lD n (qA z r d) = cn (nq (qA z r d)) n := rfl
    omega
end Go.Proofs.Ythjopinmplcpfaa.tl
