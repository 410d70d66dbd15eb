/- Package tlb against the reference: two caches that hold the same lines. No condition. -/
import Derived.Test.YthjopinmplcpfaaTlbI
namespace Go.Proofs.Ythjopinmplcpfaa.tl
open Go Go.Proofs Go.AE Go.RowKit
set_option maxRecDepth 100000
set_option linter.unusedVariables false
set_option linter.unusedSimpArgs false
theorem fi_cong {P Q : Nat → Bool} {n : Nat} (h : ∀ j, j < n → P j = Q j) : fi P n = fi Q n :=
  fi_eq (fi_le _ _) (fun j hj => by rw [h j (by have := fi_le Q n; omega)]; exact fi_no hj) (fun hk => by rw [h _ hk]; exact fi_yes hk)
abbrev L := (Nat → Nat → Int) × Nat × Nat
abbrev L.z (m : L) := m.1
abbrev L.r (m : L) := m.2.1
abbrev L.n (m : L) := m.2.2
def EQ (a b : L) : Prop := a.n = b.n ∧ ∀ j, j < a.n → ∀ c, c < 4 → a.z (a.r + j) c = b.z (b.r + j) c
def DS (a : L) : Prop := ∀ i j, i < j → j < a.n → ¬ (a.z (a.r + i) 0 = a.z (a.r + j) 0 ∧ a.z (a.r + i) 1 = a.z (a.r + j) 1)
theorem EQ.qF {a b : L} (h : EQ a b) (d p : Int) : ∀ j, j < a.n → qF a.z a.r d p j = qF b.z b.r d p j := fun j hj => by
  unfold Go.Proofs.Ythjopinmplcpfaa.tl.qF; rw [h.2 j hj 0 (by omega), h.2 j hj 1 (by omega)]
theorem EQ.qA {a b : L} (h : EQ a b) (d : Int) : ∀ j, j < a.n → qA a.z a.r d j = qA b.z b.r d j := fun j hj => by
  unfold Go.Proofs.Ythjopinmplcpfaa.tl.qA; rw [h.2 j hj 0 (by omega)]
theorem EQ.fK {a b : L} (h : EQ a b) (d p : Int) : fK a.z a.r a.n d p = fK b.z b.r b.n d p := by
  rw [← h.1]; exact fi_cong (h.qF d p)
theorem EQ.gB {a b : L} (h : EQ a b) (d p : Int) : gB a.z a.r a.n d p = gB b.z b.r b.n d p := by
  unfold Go.Proofs.Ythjopinmplcpfaa.tl.gB; rw [h.fK, h.1]
theorem EQ.gV {a b : L} (h : EQ a b) (d p : Int) (c : Nat) (hc : c < 4) : gV a.z a.r a.n d p c = gV b.z b.r b.n d p c := by
  unfold Go.Proofs.Ythjopinmplcpfaa.tl.gV
  by_cases g : Go.Proofs.Ythjopinmplcpfaa.tl.fK a.z a.r a.n d p < a.n
  · rw [if_pos g, if_pos (by rw [← h.fK, ← h.1]; exact g), ← h.fK]; exact h.2 _ g c hc
  · rw [if_neg g, if_neg (by rw [← h.fK, ← h.1]; exact g)]
/-- no line behind the first that is found -/
theorem DS.one {a : L} (h : DS a) {d p : Int} (hk : fK a.z a.r a.n d p < a.n) : ∀ j, j < a.n → qF a.z a.r d p j = decide (j = fK a.z a.r a.n d p) := fun j hj => by
  have e := fi_yes hk
  have e' := e
  simp only [qF, decide_eq_true_eq] at e'
  by_cases g : j = fK a.z a.r a.n d p
  · rw [g, decide_eq_true rfl]; exact e
  · rw [decide_eq_false g]
    refine qF_n fun x => ?_
    rcases Nat.lt_or_gt_of_ne g with k | k
    · have := fi_no (p := qF a.z a.r d p) (n := a.n) k
      rw [qF_y x.1 x.2] at this; cases this
    · exact h _ _ k hj ⟨by rw [x.1]; exact e'.1, by rw [x.2]; exact e'.2⟩
theorem idx_but {P : Nat → Bool} {n k : Nat} (h : ∀ j, j < n → P j = !decide (j = k)) : ∀ m, m ≤ n → (idx P m).length = (if k < m then m - 1 else m) ∧ ∀ j, j < (idx P m).length → (idx P m).getD j 0 = if j < k then j else j + 1
  | 0, _ => ⟨rfl, fun j hj => absurd hj (Nat.not_lt_zero _)⟩
  | m + 1, hm => by
    obtain ⟨h1, h2⟩ := idx_but h m (by omega)
    by_cases e : m = k
    · rw [idx_not (by rw [h m (by omega), decide_eq_true e]; rfl)]
      rw [if_neg (by omega)] at h1
      refine ⟨by rw [h1, if_pos (by omega)]; omega, fun j hj => ?_⟩
      rw [h2 j hj]
    · have hP : P m = true := by rw [h m (by omega), decide_eq_false e]; rfl
      rw [idx_yes hP]
      refine ⟨by rw [List.length_append, h1]; show _ + 1 = _; (repeat' split) <;> omega, fun j hj => ?_⟩
      rw [List.length_append] at hj
      have hj2 : j < (idx P m).length + 1 := hj
      rw [getD_app]
      by_cases g : j < (idx P m).length
      · rw [if_pos g]; exact h2 j g
      · rw [if_neg g, if_pos (by omega)]
        rw [h1] at hj2 g
        (repeat' split at *) <;> omega
/-- the step of a Put -/
def aP (s : Int) (a : L) (d p f m : Int) : L := (pZ s a.z a.r a.n d p f m, pR s a.z a.r a.n d p f m, pN s a.z a.r a.n d p f m)
def bP' (s : Int) (a : L) (d p f m : Int) : L := (pZ' s a.z a.r a.n d p f m, pR' s a.z a.r a.n d p f m, pN s a.z a.r a.n d p f m)
def aD (a : L) (d p : Int) : L := (zD a.z a.r a.n (qF a.z a.r d p), a.r, lD a.n (qF a.z a.r d p))
def bD' (a : L) (d p : Int) : L := (dZ' a.z a.r a.n d p, dR' a.z a.r a.n d p, dN' a.z a.r a.n d p)
def aA (a : L) (d : Int) : L := (zD a.z a.r a.n (qA a.z a.r d), a.r, lD a.n (qA a.z a.r d))
def bA' (a : L) (d : Int) : L := (zC (rw4 a.z a.r d a.n), 0, lq a.z a.r d a.n)
theorem zC_at (z : Nat → Nat → Int) (j c : Nat) (h : c < 4) : zC z j c = z j c := match c, h with
  | 0, _ => rfl
  | 1, _ => rfl
  | 2, _ => rfl
  | 3, _ => rfl
theorem zA_at (z : Nat → Nat → Int) (r n : Nat) (d p f m : Int) {j : Nat} (hj : j ≠ n) (c : Nat) (h : c < 4) : zA z r n d p f m j c = z (r + j) c := match c, h with
  | 0, _ => if_neg hj
  | 1, _ => if_neg hj
  | 2, _ => if_neg hj
  | 3, _ => if_neg hj
theorem zA_n (z z2 : Nat → Nat → Int) (r r2 n : Nat) (d p f m : Int) (c : Nat) (h : c < 4) : zA z r n d p f m n c = zA z2 r2 n d p f m n c := match c, h with
  | 0, _ => by simp [zA, c4]
  | 1, _ => by simp [zA, c4]
  | 2, _ => by simp [zA, c4]
  | 3, _ => by simp [zA, c4]
theorem zO_at (z : Nat → Nat → Int) (r n : Nat) (d p f m : Int) (j c : Nat) (h : c < 4) : zO z r n d p f m j c = zA z r n d p f m (1 + j) c := match c, h with
  | 0, _ => rfl
  | 1, _ => rfl
  | 2, _ => rfl
  | 3, _ => rfl
theorem zX_at (z : Nat → Nat → Int) (r k j c : Nat) (h : c < 4) : zX z r k j c = if j < k then z (r + j) c else z (r + j + 1) c := match c, h with
  | 0, _ => rfl
  | 1, _ => rfl
  | 2, _ => rfl
  | 3, _ => rfl
theorem zD_at (z : Nat → Nat → Int) (r n : Nat) (P : Nat → Bool) {j : Nat} (hj : j < lD n P) (c : Nat) (h : c < 4) : zD z r n P (r + j) c = z (r + (idx (nq P) n).getD j 0) c := by
  unfold zD; rw [zC_at _ _ _ h]
  unfold lD at hj
  unfold yD; rw [if_pos (by omega), Nat.add_sub_cancel_left]
theorem zA_eq {a b : L} (h : EQ a b) (d p f m : Int) (j : Nat) (hj : j < a.n + 1) (c : Nat) (hc : c < 4) : zA a.z a.r a.n d p f m j c = zA b.z b.r b.n d p f m j c := by
  rw [← h.1]
  by_cases e : j = a.n
  · rw [e]; exact zA_n _ _ _ _ _ _ _ _ _ _ hc
  · rw [zA_at _ _ _ _ _ _ _ e _ hc, zA_at _ _ _ _ _ _ _ e _ hc]; exact h.2 j (by omega) c hc
theorem EQ.put {a b : L} (h : EQ a b) (s : Int) (d p f m : Int) : EQ (aP s a d p f m) (bP' s b d p f m) := by
  have hf := h.fK d p
  have hn := h.1
  unfold EQ aP bP' pZ pZ' pR pR' pN
  simp only [L.z, L.r, L.n] at *
  by_cases hv : vP d p f m
  · simp only [if_pos hv]
    by_cases hk : Go.Proofs.Ythjopinmplcpfaa.tl.fK a.1 a.2.1 a.2.2 d p < a.2.2
    · have hk2 := hk; rw [hf, hn] at hk2
      simp only [if_pos hk, if_pos hk2]
      refine ⟨hn, fun j hj c hc => ?_⟩
      rw [← hf]
      have e0 := h.2 j hj
      match c, hc with
      | 0, hc => exact e0 0 hc
      | 1, hc => exact e0 1 hc
      | 2, hc => simp only [zF, c4]; by_cases g : j = Go.Proofs.Ythjopinmplcpfaa.tl.fK a.1 a.2.1 a.2.2 d p
                 · rw [if_pos (by omega), if_pos (by omega)]
                 · rw [if_neg (by omega), if_neg (by omega)]; exact e0 2 hc
      | 3, hc => simp only [zF, c4]; by_cases g : j = Go.Proofs.Ythjopinmplcpfaa.tl.fK a.1 a.2.1 a.2.2 d p
                 · rw [if_pos (by omega), if_pos (by omega)]
                 · rw [if_neg (by omega), if_neg (by omega)]; exact e0 3 hc
    · have hk2 := hk; rw [hf, hn] at hk2
      simp only [if_neg hk, if_neg hk2]
      by_cases g : (a.2.2 : Int) < s
      · have g2 := g; rw [hn] at g2
        simp only [if_pos g, if_pos g2]
        exact ⟨by rw [hn], fun j hj c hc => zA_eq h d p f m (0 + j) (by show 0 + j < a.2.2 + 1; omega) c hc⟩
      · have g2 := g; rw [hn] at g2
        simp only [if_neg g, if_neg g2]
        refine ⟨hn, fun j hj c hc => ?_⟩
        rw [zO_at _ _ _ _ _ _ _ _ _ hc, Nat.zero_add]
        exact zA_eq h d p f m (1 + j) (by show 1 + j < a.2.2 + 1; omega) c hc
  · simp only [if_neg hv]
    exact ⟨hn, fun j hj c hc => by rw [zC_at _ _ _ hc, zC_at _ _ _ hc]; exact h.2 j hj c hc⟩
theorem EQ.all {a b : L} (h : EQ a b) (d : Int) : EQ (aA a d) (bA' b d) := by
  have e : idx (nq (Go.Proofs.Ythjopinmplcpfaa.tl.qA a.z a.r d)) a.n = idx (nq (Go.Proofs.Ythjopinmplcpfaa.tl.qA b.z b.r d)) b.n := by
    rw [← h.1]; exact idx_congr fun k hk => by simp only [nq, h.qA d k hk]
  refine ⟨by show (idx _ _).length = (idx _ _).length; rw [e], fun j hj c hc => ?_⟩
  show zD a.z a.r a.n (Go.Proofs.Ythjopinmplcpfaa.tl.qA a.z a.r d) (a.r + j) c = zC (rw4 b.z b.r d b.n) (0 + j) c
  rw [zD_at _ _ _ _ hj _ hc, zC_at _ _ _ hc, Nat.zero_add]
  unfold rw4
  rw [← e]
  exact h.2 _ (idx_spec hj).1 c hc
theorem EQ.drop {a b : L} (h : EQ a b) (hd : DS a) (d p : Int) : EQ (aD a d p) (bD' b d p) ∧ decide (lD a.n (Go.Proofs.Ythjopinmplcpfaa.tl.qF a.z a.r d p) < a.n) = Go.Proofs.Ythjopinmplcpfaa.tl.gB b.z b.r b.n d p := by
  have hf := h.fK d p
  have hn := h.1
  by_cases hk : Go.Proofs.Ythjopinmplcpfaa.tl.fK a.z a.r a.n d p < a.n
  · have hk2 := hk; rw [hf, hn] at hk2
    have B := idx_but (P := nq (Go.Proofs.Ythjopinmplcpfaa.tl.qF a.z a.r d p)) (k := Go.Proofs.Ythjopinmplcpfaa.tl.fK a.z a.r a.n d p) (fun j hj => by simp only [nq]; rw [hd.one hk j hj]) a.n (Nat.le_refl _)
    rw [if_pos hk] at B
    have el : lD a.n (Go.Proofs.Ythjopinmplcpfaa.tl.qF a.z a.r d p) = a.n - 1 := B.1
    refine ⟨⟨?_, fun j hj c hc => ?_⟩, ?_⟩
    · show lD a.n _ = dN' b.z b.r b.n d p
      unfold dN'; rw [if_pos hk2, el, hn]
    · have hj' : j < lD a.n (Go.Proofs.Ythjopinmplcpfaa.tl.qF a.z a.r d p) := hj
      show zD a.z a.r a.n (Go.Proofs.Ythjopinmplcpfaa.tl.qF a.z a.r d p) (a.r + j) c = dZ' b.z b.r b.n d p (dR' b.z b.r b.n d p + j) c
      rw [zD_at _ _ _ _ hj' _ hc, B.2 j hj']
      unfold dZ' dR'; rw [if_pos hk2, if_pos hk2, Nat.zero_add, zX_at _ _ _ _ _ hc, ← hf]
      rw [el] at hj'
      split
      · exact h.2 j (by omega) c hc
      · exact h.2 (j + 1) (by omega) c hc
    · rw [el]; unfold Go.Proofs.Ythjopinmplcpfaa.tl.gB; rw [decide_eq_true hk2, decide_eq_true (by omega)]
  · have hk2 := hk; rw [hf, hn] at hk2
    have ge : fi (Go.Proofs.Ythjopinmplcpfaa.tl.qF a.z a.r d p) a.n = a.n := by
      have := fi_le (Go.Proofs.Ythjopinmplcpfaa.tl.qF a.z a.r d p) a.n
      have k3 : ¬ fi (Go.Proofs.Ythjopinmplcpfaa.tl.qF a.z a.r d p) a.n < a.n := hk
      omega
    have f : ∀ j, j < a.n → nq (Go.Proofs.Ythjopinmplcpfaa.tl.qF a.z a.r d p) j = true := fun j hj => by simp only [nq, fi_all.1 ge j hj, Bool.not_false]
    have el : lD a.n (Go.Proofs.Ythjopinmplcpfaa.tl.qF a.z a.r d p) = a.n := (idx_full f).1
    refine ⟨⟨?_, fun j hj c hc => ?_⟩, ?_⟩
    · show lD a.n _ = dN' b.z b.r b.n d p
      unfold dN'; rw [if_neg hk2, el, hn]
    · have hj' : j < lD a.n (Go.Proofs.Ythjopinmplcpfaa.tl.qF a.z a.r d p) := hj
      show zD a.z a.r a.n (Go.Proofs.Ythjopinmplcpfaa.tl.qF a.z a.r d p) (a.r + j) c = dZ' b.z b.r b.n d p (dR' b.z b.r b.n d p + j) c
      rw [zD_at _ _ _ _ hj' _ hc]
      rw [el] at hj'
      rw [(idx_full f).2 j hj']
      unfold dZ' dR'; rw [if_neg hk2, if_neg hk2, zC_at _ _ _ hc]
      exact h.2 j hj' c hc
    · rw [el]; unfold Go.Proofs.Ythjopinmplcpfaa.tl.gB; rw [decide_eq_false hk2, decide_eq_false (by omega)]
theorem DS.stay {a : L} (h : DS a) (P : Nat → Bool) : DS (zD a.z a.r a.n P, a.r, lD a.n P) := fun i j hij hj => by
  have hj' : j < lD a.n P := hj
  show ¬ (zD a.z a.r a.n P (a.r + i) 0 = zD a.z a.r a.n P (a.r + j) 0 ∧ zD a.z a.r a.n P (a.r + i) 1 = zD a.z a.r a.n P (a.r + j) 1)
  rw [zD_at _ _ _ _ hj' _ (by omega), zD_at _ _ _ _ hj' _ (by omega), zD_at _ _ _ _ (by omega) _ (by omega), zD_at _ _ _ _ (by omega) _ (by omega)]
  exact h _ _ (idx_mono hij hj) (idx_spec hj).1
theorem DS.put {a : L} (h : DS a) (s : Int) (d p f m : Int) : DS (aP s a d p f m) := by
  unfold DS aP pZ pR pN
  simp only [L.z, L.r, L.n] at *
  by_cases hv : vP d p f m
  · simp only [if_pos hv]
    by_cases hk : fK a.1 a.2.1 a.2.2 d p < a.2.2
    · simp only [if_pos hk]; exact fun i j hij hj => h i j hij hj
    · simp only [if_neg hk]
      have no : ∀ j, j < a.2.2 → ¬ (a.1 (a.2.1 + j) 0 = d ∧ a.1 (a.2.1 + j) 1 = p) := fun j hj x => by
        have ge : fi (qF a.1 a.2.1 d p) a.2.2 = a.2.2 := by
          have := fi_le (qF a.1 a.2.1 d p) a.2.2
          have k3 : ¬ fi (qF a.1 a.2.1 d p) a.2.2 < a.2.2 := hk
          omega
        have := fi_all.1 ge j hj
        rw [qF_y x.1 x.2] at this; cases this
      have key : ∀ i j, i < j → j < a.2.2 + 1 → ¬ (zA a.1 a.2.1 a.2.2 d p f m i 0 = zA a.1 a.2.1 a.2.2 d p f m j 0 ∧ zA a.1 a.2.1 a.2.2 d p f m i 1 = zA a.1 a.2.1 a.2.2 d p f m j 1) := fun i j hij hj => by
        rw [zA_at _ _ _ _ _ _ _ (show i ≠ a.2.2 by omega) _ (by omega), zA_at _ _ _ _ _ _ _ (show i ≠ a.2.2 by omega) _ (by omega)]
        by_cases e : j = a.2.2
        · subst e; simp only [zA, c4, if_pos]; exact no i hij
        · rw [zA_at _ _ _ _ _ _ _ e _ (by omega), zA_at _ _ _ _ _ _ _ e _ (by omega)]; exact h i j hij (by show j < a.2.2; omega)
      by_cases g : (a.2.2 : Int) < s
      · simp only [if_pos g, Nat.zero_add]; exact key
      · simp only [if_neg g]; exact fun i j hij hj => key (1 + i) (1 + j) (by omega) (by omega)
  · simp only [if_neg hv]; exact fun i j hij hj => h i j hij hj
theorem pN_le {s : Int} {a : L} {d p f m : Int} (h : (a.n : Int) ≤ s) : ((aP s a d p f m).n : Int) ≤ s := by
  unfold aP pN; simp only [L.z, L.r, L.n] at *; (repeat' split) <;> omega
theorem lD_le (n : Nat) (P : Nat → Bool) : lD n P ≤ n := idx_le _ _
end Go.Proofs.Ythjopinmplcpfaa.tl
