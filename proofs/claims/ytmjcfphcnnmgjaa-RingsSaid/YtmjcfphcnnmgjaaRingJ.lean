/- The document's inside, over any frames. No condition. -/
import Derived.Test.YtmjcfphcnnmgjaaRingD
namespace Go.Proofs.Ytmjcfphcnnmgjaa.rg
open Go Go.Proofs Go.AE Go.RowKit
set_option maxRecDepth 100000
set_option linter.unusedVariables false
set_option linter.unusedSimpArgs false
/-- do all bytes lie in some frames -/
def insB (z : Nat → Nat → Int) (n : Nat) (at' k : Int) : Bool := decide (at' + k ≤ 4096 ∧ 0 ≤ ixF z n (at' / 64) ∧ (64 < at' % 64 + k → 0 ≤ ixF z n (at' / 64 + 1)))
/-- the loop that looks for a frame -/
def isF (z : Nat → Nat → Int) (v : Int) : Nat → Bool
  | 0 => false
  | j + 1 => decide (z j 0 = v)
def jF (z : Nat → Nat → Int) (n : Nat) (v : Int) : Nat := if fi (pI z v) n < n then fi (pI z v) n + 1 else n

def Tn3 (n m i : Nat) (e : Int) (b : Bool) (j : Nat) : List SV := fr 48 [(2, .sl 0 0 n n false), (6, .bool false), (7, .sl (3 - 1) 0 m m false), (8, .int .i64 e), (9, .int .i64 i), (10, .bool b), (11, .int .i64 j)]
def Tx3 (n m i : Nat) (e : Int) (b : Bool) : List SV := fr 48 [(2, .sl 0 0 n n false), (6, .bool false), (7, .sl (3 - 1) 0 m m false), (8, .int .i64 e), (9, .int .i64 i), (10, .bool b)]
def Sn3 (z pz : Nat → Nat → Int) (N m : Nat) : St := { h := [(0, 0, .fam 1 true N fun k => rowN z k 1 0), (3 - 1, 0, .fam 3 false m fun k => rowN pz k 3 0)], nx := 3, ck := 1, st := 1 }
theorem r_n3 (z pz : Nat → Nat → Int) (N n m i : Nat) (e v : Int) (is : Nat → Bool) (J : Nat) (hN : n ≤ N) (hb : n ≤ 9223372036854775807) (hm : i < m) (hm2 : m ≤ 2) (hv : pz i 0 = v) (j : Nat) (hj : j ≤ J) (hJ : J ≤ n) (his : is (j + 1) = decide (z j 0 = v)) (hgo : j < n → is j = false → j < J) (hst : is j = true → j = J) (hst2 : ¬ j < n → j = J) :
    ∃ r, exec (HS Try.prog [42] (ctrL [])) Try.prog (lp Try.prog 28 1) (Tn3 n m i e (is j) j) (Sn3 z pz N m) (kN 3 (fun j => Tn3 n m i e (is j) j) (fun _ => Sn3 z pz N m) (fun j => J - j) (fun j => j ≤ J) j) (kX 3 (fun _ => True) fun _ => .x 2 (Tx3 n m i e (is J)) (Sn3 z pz N m)) (kR 3 (fun _ => True) fun _ => .n [] s0) r := by
  refine ⟨.B (.Z <| .Z <| .B (.tn 4 <| .E (j + 1) []) (.E (0) [])) (.zn 3 <| .E (0) []), Go.AE.kchange (b := (((decide ((↑j : Int) < (↑n : Int))) = true → (((!is j) = true → (decide ((0 : Int) ≤ (↑j : Int)) && decide ((↑j : Int) < (↑n : Int))) = true ∧
 (decide (0 + Int.toNat (↑j : Int) * 1 < N)) = true ∧
 (decide ((0 : Int) ≤ (↑i : Int)) && decide ((↑i : Int) < (↑m : Int))) = true ∧
 (decide (0 + Int.toNat (↑i : Int) * 1 < m)) = true ∧
 j + 1 ≤ J ∧ J - (j + 1) < J - j ∧ ((0 = 0 ∧ n = n ∧ n ≤ n ∧ n ≤ n) ∧ Bool.false = Bool.false ∧ (0 = 0 ∧ m = m ∧ m ≤ m ∧ m ≤ m) ∧ e = e ∧ (↑i : Int) = (↑i : Int) ∧ decide (z (0 + Int.toNat (↑j : Int) * 1) 0 = pz (0 + Int.toNat (↑i : Int) * 1) 0) = is (j + 1) ∧ IntKind.wrap IntKind.i64 ((↑j : Int) + (1 : Int)) = (↑(j + 1) : Int) ∧ True) ∧ (N ≤ N ∧ (∀ (jj0 : Nat), (jj0 < N → True ∧ z jj0 0 = z jj0 0 ∧ True))) ∧ (m ≤ m ∧ (∀ (jj0 : Nat), (jj0 < m → True ∧ pz jj0 0 = pz jj0 0 ∧ pz jj0 1 = pz jj0 1 ∧ pz jj0 2 = pz jj0 2 ∧ True))) ∧ True) ∧ ((!is j) = false → True ∧ ((0 = 0 ∧ n = n ∧ n ≤ n ∧ n ≤ n) ∧ Bool.false = Bool.false ∧ (0 = 0 ∧ m = m ∧ m ≤ m ∧ m ≤ m) ∧ e = e ∧ (↑i : Int) = (↑i : Int) ∧ is j = is J ∧ True) ∧ (N ≤ N ∧ (∀ (jj0 : Nat), (jj0 < N → True ∧ z jj0 0 = z jj0 0 ∧ True))) ∧ (m ≤ m ∧ (∀ (jj0 : Nat), (jj0 < m → True ∧ pz jj0 0 = pz jj0 0 ∧ pz jj0 1 = pz jj0 1 ∧ pz jj0 2 = pz jj0 2 ∧ True))) ∧ True))) ∧ ((decide ((↑j : Int) < (↑n : Int))) = false → True ∧ ((0 = 0 ∧ n = n ∧ n ≤ n ∧ n ≤ n) ∧ Bool.false = Bool.false ∧ (0 = 0 ∧ m = m ∧ m ≤ m ∧ m ≤ m) ∧ e = e ∧ (↑i : Int) = (↑i : Int) ∧ is j = is J ∧ True) ∧ (N ≤ N ∧ (∀ (jj0 : Nat), (jj0 < N → True ∧ z jj0 0 = z jj0 0 ∧ True))) ∧ (m ≤ m ∧ (∀ (jj0 : Nat), (jj0 < m → True ∧ pz jj0 0 = pz jj0 0 ∧ pz jj0 1 = pz jj0 1 ∧ pz jj0 2 = pz jj0 2 ∧ True))) ∧ True))) (by kernel_rfl) ?_⟩
  repeat' (first | (refine And.intro ?_ ?_) | (with_reducible intro hh; (try simp (disch := omega) only [decide_eq_true_eq, decide_eq_false_iff_not, Bool.and_eq_true, Bool.and_eq_false_imp, Bool.not_eq_true', Bool.not_eq_false', reduceCtorEq, or_false, or_true, Bool.or_eq_true, Bool.or_eq_false_iff, Int.not_lt, Int.not_le, beq_iff_eq, beq_eq_false_iff_ne, Nat.zero_add, Nat.mul_one, Nat.sub_zero, Int.toNat_natCast, decide_true, decide_false, cond_true, cond_false, wrap_id, ixF_row, wb, Bool.true_and, Bool.and_true, true_and, and_true, and_self, tdiv_nn, tmod_nn] at hh)))
  all_goals (first | with_reducible rfl | exact True.intro | (first | with_reducible assumption | omega | (simp only [decide_eq_true_eq, decide_eq_false_iff_not, Bool.and_eq_true, Bool.and_eq_false_imp, Bool.not_eq_true', Bool.not_eq_false', reduceCtorEq, or_false, or_true, Bool.or_eq_true, Bool.or_eq_false_iff, Int.not_lt, Int.not_le, beq_iff_eq, beq_eq_false_iff_ne]; omega) | (simp (disch := omega) only [decide_eq_true_eq, decide_eq_false_iff_not, Bool.and_eq_true, Bool.and_eq_false_imp, Bool.not_eq_true', Bool.not_eq_false', reduceCtorEq, or_false, or_true, Bool.or_eq_true, Bool.or_eq_false_iff, Int.not_lt, Int.not_le, beq_iff_eq, beq_eq_false_iff_ne, Nat.zero_add, Nat.mul_one, Nat.sub_zero, Int.toNat_natCast, decide_true, decide_false, cond_true, cond_false, wrap_id, ixF_row, wb, Bool.true_and, Bool.and_true, true_and, and_true, and_self, tdiv_nn, tmod_nn]; first | done | omega) | omega) | (have g := hgo (by omega) (by assumption); first | omega | (rw [his, hv]; done) | (rw [his]; simp only [Nat.zero_add, Int.toNat_natCast, Nat.mul_one, hv]; done)) | (have g := hst (by assumption); first | omega | (rw [← g]; first | done | assumption | (symm; assumption))) | (have g := hst2 (by omega); first | omega | (rw [← g]; done)) | trace_state)
theorem l_n3 (z pz : Nat → Nat → Int) (N n m i : Nat) (e v : Int) (hN : n ≤ N) (hb : n ≤ 9223372036854775807) (hm : i < m) (hm2 : m ≤ 2) (hv : pz i 0 = v) : LO Try.prog (lp Try.prog 28 1) (Tn3 n m i e false 0) (Sn3 z pz N m) (.x 2 (Tx3 n m i e (decide (0 ≤ ixF z n v))) (Sn3 z pz N m)) := by
  have hJ : isF z v (jF z n v) = decide (0 ≤ ixF z n v) := by
    unfold jF ixF
    by_cases g : fi (pI z v) n < n
    · rw [if_pos g, if_pos g, decide_eq_true (by omega)]
      have := fi_yes g
      unfold pI at this
      exact decide_eq_true (of_decide_eq_true this).symm
    · rw [if_neg g, if_neg g, decide_eq_false (by omega)]
      cases n with
      | zero => rfl
      | succ n =>
        have e : fi (pI z v) (n + 1) = n + 1 := by have := fi_le (pI z v) (n + 1); omega
        exact decide_eq_false fun h => of_decide_eq_false (fi_all.1 e n (Nat.lt_succ_self _)) h.symm
  have hl : jF z n v ≤ n := by unfold jF; split <;> omega
  have hi : ∀ j, j ≤ jF z n v → (isF z v j = true ↔ j = jF z n v ∧ fi (pI z v) n < n) := fun j hj => by
    cases j with
    | zero => exact ⟨fun h => (by cases h), fun h => by have := h.1; unfold jF at this; rw [if_pos h.2] at this; omega⟩
    | succ j =>
      show decide (z j 0 = v) = true ↔ _
      rw [decide_eq_true_eq]
      constructor
      · intro h
        have hp : pI z v j = true := decide_eq_true h.symm
        have hle : fi (pI z v) n ≤ j := by
          rcases Nat.lt_or_ge j (fi (pI z v) n) with q | q
          · rw [fi_no q] at hp; cases hp
          · exact q
        unfold jF at hj ⊢
        by_cases g : fi (pI z v) n < n
        · rw [if_pos g] at hj ⊢; exact ⟨by omega, g⟩
        · rw [if_neg g] at hj; have := fi_le (pI z v) n; omega
      · rintro ⟨h1, h2⟩
        unfold jF at h1; rw [if_pos h2] at h1
        have hp := fi_yes h2
        rw [show fi (pI z v) n = j by omega] at hp
        exact (of_decide_eq_true hp).symm
  rw [← hJ]
  exact LQ.one (loop_scr pk (okC_nil _) (by kernel_rfl) 3 (fun j => Tn3 n m i e (isF z v j) j) (fun _ => Sn3 z pz N m) (fun j => jF z n v - j) (fun j => j ≤ jF z n v) (fun _ => True) (fun _ => .x 2 (Tx3 n m i e (isF z v (jF z n v))) (Sn3 z pz N m)) (fun _ => rfl)
    (fun j hj => r_n3 z pz N n m i e v (isF z v) (jF z n v) hN hb hm hm2 hv j hj hl rfl (fun h1 h2 => by
      rcases Nat.lt_or_ge j (jF z n v) with q | q
      · exact q
      · obtain rfl : j = jF z n v := by omega
        have : fi (pI z v) n < n := by unfold jF at h1; split at h1 <;> omega
        rw [(hi _ (Nat.le_refl _)).2 ⟨rfl, this⟩] at h2; cases h2) (fun h => ((hi j hj).1 h).1) (fun h => by omega)) (Nat.zero_le _) rfl)
def Tn5 (n m i : Nat) (e : Int) (b : Bool) (j : Nat) : List SV := fr 48 [(2, .sl 0 0 n n false), (6, .bool false), (7, .sl (5 - 1) 0 m m false), (8, .int .i64 e), (9, .int .i64 i), (10, .bool b), (11, .int .i64 j)]
def Tx5 (n m i : Nat) (e : Int) (b : Bool) : List SV := fr 48 [(2, .sl 0 0 n n false), (6, .bool false), (7, .sl (5 - 1) 0 m m false), (8, .int .i64 e), (9, .int .i64 i), (10, .bool b)]
def Sn5 (z pz : Nat → Nat → Int) (N m : Nat) : St := { h := [(0, 0, .fam 1 true N fun k => rowN z k 1 0), (5 - 1, 0, .fam 3 false m fun k => rowN pz k 3 0)], nx := 5, ck := 1, st := 1 }
theorem r_n5 (z pz : Nat → Nat → Int) (N n m i : Nat) (e v : Int) (is : Nat → Bool) (J : Nat) (hN : n ≤ N) (hb : n ≤ 9223372036854775807) (hm : i < m) (hm2 : m ≤ 2) (hv : pz i 0 = v) (j : Nat) (hj : j ≤ J) (hJ : J ≤ n) (his : is (j + 1) = decide (z j 0 = v)) (hgo : j < n → is j = false → j < J) (hst : is j = true → j = J) (hst2 : ¬ j < n → j = J) :
    ∃ r, exec (HS Try.prog [42] (ctrL [])) Try.prog (lp Try.prog 28 1) (Tn5 n m i e (is j) j) (Sn5 z pz N m) (kN 5 (fun j => Tn5 n m i e (is j) j) (fun _ => Sn5 z pz N m) (fun j => J - j) (fun j => j ≤ J) j) (kX 5 (fun _ => True) fun _ => .x 2 (Tx5 n m i e (is J)) (Sn5 z pz N m)) (kR 5 (fun _ => True) fun _ => .n [] s0) r := by
  refine ⟨.B (.Z <| .Z <| .B (.tn 4 <| .E (j + 1) []) (.E (0) [])) (.zn 3 <| .E (0) []), Go.AE.kchange (b := (((decide ((↑j : Int) < (↑n : Int))) = true → (((!is j) = true → (decide ((0 : Int) ≤ (↑j : Int)) && decide ((↑j : Int) < (↑n : Int))) = true ∧
 (decide (0 + Int.toNat (↑j : Int) * 1 < N)) = true ∧
 (decide ((0 : Int) ≤ (↑i : Int)) && decide ((↑i : Int) < (↑m : Int))) = true ∧
 (decide (0 + Int.toNat (↑i : Int) * 1 < m)) = true ∧
 j + 1 ≤ J ∧ J - (j + 1) < J - j ∧ ((0 = 0 ∧ n = n ∧ n ≤ n ∧ n ≤ n) ∧ Bool.false = Bool.false ∧ (0 = 0 ∧ m = m ∧ m ≤ m ∧ m ≤ m) ∧ e = e ∧ (↑i : Int) = (↑i : Int) ∧ decide (z (0 + Int.toNat (↑j : Int) * 1) 0 = pz (0 + Int.toNat (↑i : Int) * 1) 0) = is (j + 1) ∧ IntKind.wrap IntKind.i64 ((↑j : Int) + (1 : Int)) = (↑(j + 1) : Int) ∧ True) ∧ (N ≤ N ∧ (∀ (jj0 : Nat), (jj0 < N → True ∧ z jj0 0 = z jj0 0 ∧ True))) ∧ (m ≤ m ∧ (∀ (jj0 : Nat), (jj0 < m → True ∧ pz jj0 0 = pz jj0 0 ∧ pz jj0 1 = pz jj0 1 ∧ pz jj0 2 = pz jj0 2 ∧ True))) ∧ True) ∧ ((!is j) = false → True ∧ ((0 = 0 ∧ n = n ∧ n ≤ n ∧ n ≤ n) ∧ Bool.false = Bool.false ∧ (0 = 0 ∧ m = m ∧ m ≤ m ∧ m ≤ m) ∧ e = e ∧ (↑i : Int) = (↑i : Int) ∧ is j = is J ∧ True) ∧ (N ≤ N ∧ (∀ (jj0 : Nat), (jj0 < N → True ∧ z jj0 0 = z jj0 0 ∧ True))) ∧ (m ≤ m ∧ (∀ (jj0 : Nat), (jj0 < m → True ∧ pz jj0 0 = pz jj0 0 ∧ pz jj0 1 = pz jj0 1 ∧ pz jj0 2 = pz jj0 2 ∧ True))) ∧ True))) ∧ ((decide ((↑j : Int) < (↑n : Int))) = false → True ∧ ((0 = 0 ∧ n = n ∧ n ≤ n ∧ n ≤ n) ∧ Bool.false = Bool.false ∧ (0 = 0 ∧ m = m ∧ m ≤ m ∧ m ≤ m) ∧ e = e ∧ (↑i : Int) = (↑i : Int) ∧ is j = is J ∧ True) ∧ (N ≤ N ∧ (∀ (jj0 : Nat), (jj0 < N → True ∧ z jj0 0 = z jj0 0 ∧ True))) ∧ (m ≤ m ∧ (∀ (jj0 : Nat), (jj0 < m → True ∧ pz jj0 0 = pz jj0 0 ∧ pz jj0 1 = pz jj0 1 ∧ pz jj0 2 = pz jj0 2 ∧ True))) ∧ True))) (by kernel_rfl) ?_⟩
  repeat' (first | (refine And.intro ?_ ?_) | (with_reducible intro hh; (try simp (disch := omega) only [decide_eq_true_eq, decide_eq_false_iff_not, Bool.and_eq_true, Bool.and_eq_false_imp, Bool.not_eq_true', Bool.not_eq_false', reduceCtorEq, or_false, or_true, Bool.or_eq_true, Bool.or_eq_false_iff, Int.not_lt, Int.not_le, beq_iff_eq, beq_eq_false_iff_ne, Nat.zero_add, Nat.mul_one, Nat.sub_zero, Int.toNat_natCast, decide_true, decide_false, cond_true, cond_false, wrap_id, ixF_row, wb, Bool.true_and, Bool.and_true, true_and, and_true, and_self, tdiv_nn, tmod_nn] at hh)))
  all_goals (first | with_reducible rfl | exact True.intro | (first | with_reducible assumption | omega | (simp only [decide_eq_true_eq, decide_eq_false_iff_not, Bool.and_eq_true, Bool.and_eq_false_imp, Bool.not_eq_true', Bool.not_eq_false', reduceCtorEq, or_false, or_true, Bool.or_eq_true, Bool.or_eq_false_iff, Int.not_lt, Int.not_le, beq_iff_eq, beq_eq_false_iff_ne]; omega) | (simp (disch := omega) only [decide_eq_true_eq, decide_eq_false_iff_not, Bool.and_eq_true, Bool.and_eq_false_imp, Bool.not_eq_true', Bool.not_eq_false', reduceCtorEq, or_false, or_true, Bool.or_eq_true, Bool.or_eq_false_iff, Int.not_lt, Int.not_le, beq_iff_eq, beq_eq_false_iff_ne, Nat.zero_add, Nat.mul_one, Nat.sub_zero, Int.toNat_natCast, decide_true, decide_false, cond_true, cond_false, wrap_id, ixF_row, wb, Bool.true_and, Bool.and_true, true_and, and_true, and_self, tdiv_nn, tmod_nn]; first | done | omega) | omega) | (have g := hgo (by omega) (by assumption); first | omega | (rw [his, hv]; done) | (rw [his]; simp only [Nat.zero_add, Int.toNat_natCast, Nat.mul_one, hv]; done)) | (have g := hst (by assumption); first | omega | (rw [← g]; first | done | assumption | (symm; assumption))) | (have g := hst2 (by omega); first | omega | (rw [← g]; done)) | trace_state)
theorem l_n5 (z pz : Nat → Nat → Int) (N n m i : Nat) (e v : Int) (hN : n ≤ N) (hb : n ≤ 9223372036854775807) (hm : i < m) (hm2 : m ≤ 2) (hv : pz i 0 = v) : LO Try.prog (lp Try.prog 28 1) (Tn5 n m i e false 0) (Sn5 z pz N m) (.x 2 (Tx5 n m i e (decide (0 ≤ ixF z n v))) (Sn5 z pz N m)) := by
  have hJ : isF z v (jF z n v) = decide (0 ≤ ixF z n v) := by
    unfold jF ixF
    by_cases g : fi (pI z v) n < n
    · rw [if_pos g, if_pos g, decide_eq_true (by omega)]
      have := fi_yes g
      unfold pI at this
      exact decide_eq_true (of_decide_eq_true this).symm
    · rw [if_neg g, if_neg g, decide_eq_false (by omega)]
      cases n with
      | zero => rfl
      | succ n =>
        have e : fi (pI z v) (n + 1) = n + 1 := by have := fi_le (pI z v) (n + 1); omega
        exact decide_eq_false fun h => of_decide_eq_false (fi_all.1 e n (Nat.lt_succ_self _)) h.symm
  have hl : jF z n v ≤ n := by unfold jF; split <;> omega
  have hi : ∀ j, j ≤ jF z n v → (isF z v j = true ↔ j = jF z n v ∧ fi (pI z v) n < n) := fun j hj => by
    cases j with
    | zero => exact ⟨fun h => (by cases h), fun h => by have := h.1; unfold jF at this; rw [if_pos h.2] at this; omega⟩
    | succ j =>
      show decide (z j 0 = v) = true ↔ _
      rw [decide_eq_true_eq]
      constructor
      · intro h
        have hp : pI z v j = true := decide_eq_true h.symm
        have hle : fi (pI z v) n ≤ j := by
          rcases Nat.lt_or_ge j (fi (pI z v) n) with q | q
          · rw [fi_no q] at hp; cases hp
          · exact q
        unfold jF at hj ⊢
        by_cases g : fi (pI z v) n < n
        · rw [if_pos g] at hj ⊢; exact ⟨by omega, g⟩
        · rw [if_neg g] at hj; have := fi_le (pI z v) n; omega
      · rintro ⟨h1, h2⟩
        unfold jF at h1; rw [if_pos h2] at h1
        have hp := fi_yes h2
        rw [show fi (pI z v) n = j by omega] at hp
        exact (of_decide_eq_true hp).symm
  rw [← hJ]
  exact LQ.one (loop_scr pk (okC_nil _) (by kernel_rfl) 5 (fun j => Tn5 n m i e (isF z v j) j) (fun _ => Sn5 z pz N m) (fun j => jF z n v - j) (fun j => j ≤ jF z n v) (fun _ => True) (fun _ => .x 2 (Tx5 n m i e (isF z v (jF z n v))) (Sn5 z pz N m)) (fun _ => rfl)
    (fun j hj => r_n5 z pz N n m i e v (isF z v) (jF z n v) hN hb hm hm2 hv j hj hl rfl (fun h1 h2 => by
      rcases Nat.lt_or_ge j (jF z n v) with q | q
      · exact q
      · obtain rfl : j = jF z n v := by omega
        have : fi (pI z v) n < n := by unfold jF at h1; split at h1 <;> omega
        rw [(hi _ (Nat.le_refl _)).2 ⟨rfl, this⟩] at h2; cases h2) (fun h => ((hi j hj).1 h).1) (fun h => by omega)) (Nat.zero_le _) rfl)
def pZ (a k : Int) : Nat → Nat → Int
  | 0, 0 => a / 64
  | 0, 1 => a % 64
  | 0, _ => min k (64 - a % 64)
  | _ + 1, 0 => a / 64 + 1
  | _ + 1, 1 => 0
  | _ + 1, _ => k - min k (64 - a % 64)
theorem w_n (z : Nat → Nat → Int) (N n : Nat) (a k' : Int) (B0 B1 : Bool) (hN : n ≤ N) (hb : n ≤ 9223372036854775807) (ha : 0 ≤ a ∧ a ≤ 65535) (hk : 16 ≤ k' ∧ k' ≤ 64)
    (h3 : ∀ e, LO Try.prog (lp Try.prog 28 1) (Tn3 n 1 0 e false 0) (Sn3 z (pZ a k') N 1) (.x 2 (Tx3 n 1 0 e B0) (Sn3 z (pZ a k') N 1)))
    (h5 : ∀ e, LO Try.prog (lp Try.prog 28 1) (Tn5 n 2 0 e false 0) (Sn5 z (pZ a k') N 2) (.x 2 (Tx5 n 2 0 e B0) (Sn5 z (pZ a k') N 2)))
    (h5' : ∀ e, LO Try.prog (lp Try.prog 28 1) (Tn5 n 2 1 e false 0) (Sn5 z (pZ a k') N 2) (.x 2 (Tx5 n 2 1 e B1) (Sn5 z (pZ a k') N 2))) (R : Bool) (hR1 : a + k' ≤ 4096 → B0 = true → (64 < a % 64 + k' → B1 = true) → R = true) (hR2 : ¬ a + k' ≤ 4096 → R = false) (hR3 : B0 = false → R = false) (hR4 : 64 < a % 64 + k' → B1 = false → R = false) :
    ∃ r, callK (HS Try.prog [42] (ctrL [])) Try.prog 28 [.int .i64 a, .int .i64 k', .sl 0 0 n n false] (SR 1 z N) (kV (.bool R) (SR 1 z N) 1) r := by
  refine ⟨.T <| .Z <| .Z <| .T <| .zn 6 <| .B (.zn 5 <| .B (.U <| .Z <| .E (0) []) (.U <| .T <| .zn 4 <| .B (.zn 4 <| .N <| .U <| .Z <| .L (Tn5 n 2 0 (0 : Int) Bool.false 0) (Sn5 z (pZ a k') N 2) (Go.AE.Out.x 2 (Tx5 n 2 0 (0 : Int) B0) (Sn5 z (pZ a k') N 2)) <| .B (.E (0) []) (.Z <| .L (Tn5 n 2 1 (0 : Int) Bool.false 0) (Sn5 z (pZ a k') N 2) (Go.AE.Out.x 2 (Tx5 n 2 1 (0 : Int) B1) (Sn5 z (pZ a k') N 2)) <| .B (.E (0) []) (.Z <| .E (0) []))) (.U <| .Z <| .L (Tn3 n 1 0 (0 : Int) Bool.false 0) (Sn3 z (pZ a k') N 1) (Go.AE.Out.x 2 (Tx3 n 1 0 (0 : Int) B0) (Sn3 z (pZ a k') N 1)) <| .B (.E (0) []) (.Z <| .E (0) [])))) (.zn 6 <| .U <| .Z <| .E (0) []), Go.AE.kchange (b := (decide ((0 : Int) ≤ a)) = true ∧
 (decide ((0 : Int) ≤ k')) = true ∧
 (((decide (a ≤ (4096 : Int))) = true → (((!decide (k' ≤ IntKind.wrap IntKind.i64 ((4096 : Int) - a))) = true → (Bool.false = R ∧ True) ∧ (N ≤ N ∧ (∀ (jj0 : Nat), (jj0 < N → True ∧ z jj0 0 = z jj0 0 ∧ True))) ∧ True) ∧ ((!decide (k' ≤ IntKind.wrap IntKind.i64 ((4096 : Int) - a))) = false → (decide ((0 : Int) < k')) = true ∧
 (((decide ((0 : Int) < IntKind.wrap IntKind.i64 (k' - Min.min k' (IntKind.wrap IntKind.i64 ((64 : Int) - Int.tmod a (64 : Int)))))) = true → (decide ((0 : Int) < IntKind.wrap IntKind.i64 (IntKind.wrap IntKind.i64 (k' - Min.min k' (IntKind.wrap IntKind.i64 ((64 : Int) - Int.tmod a (64 : Int)))) - Min.min (IntKind.wrap IntKind.i64 (k' - Min.min k' (IntKind.wrap IntKind.i64 ((64 : Int) - Int.tmod a (64 : Int))))) (IntKind.wrap IntKind.i64 ((64 : Int) - Int.tmod (IntKind.wrap IntKind.i64 (a + Min.min k' (IntKind.wrap IntKind.i64 ((64 : Int) - Int.tmod a (64 : Int))))) (64 : Int)))))) = false ∧
 (((0 = 0 ∧ n = n ∧ n ≤ n ∧ n ≤ n) ∧ Bool.false = Bool.false ∧ (0 = 0 ∧ 2 = 2 ∧ 2 ≤ 2 ∧ 2 ≤ 2) ∧ (0 : Int) = (0 : Int) ∧ (0 : Int) = (0 : Int) ∧ Bool.false = Bool.false ∧ (0 : Int) = (0 : Int) ∧ True) ∧ (N ≤ N ∧ (∀ (jj0 : Nat), (jj0 < N → True ∧ z jj0 0 = z jj0 0 ∧ True))) ∧ (IntKind.wrap IntKind.i64 (Int.tdiv a (64 : Int)) = pZ a k' 0 0 ∧ Int.tmod a (64 : Int) = pZ a k' 0 1 ∧ Min.min k' (IntKind.wrap IntKind.i64 ((64 : Int) - Int.tmod a (64 : Int))) = pZ a k' 0 2 ∧ IntKind.wrap IntKind.i64 (Int.tdiv (IntKind.wrap IntKind.i64 (a + Min.min k' (IntKind.wrap IntKind.i64 ((64 : Int) - Int.tmod a (64 : Int))))) (64 : Int)) = pZ a k' 1 0 ∧ Int.tmod (IntKind.wrap IntKind.i64 (a + Min.min k' (IntKind.wrap IntKind.i64 ((64 : Int) - Int.tmod a (64 : Int))))) (64 : Int) = pZ a k' 1 1 ∧ Min.min (IntKind.wrap IntKind.i64 (k' - Min.min k' (IntKind.wrap IntKind.i64 ((64 : Int) - Int.tmod a (64 : Int))))) (IntKind.wrap IntKind.i64 ((64 : Int) - Int.tmod (IntKind.wrap IntKind.i64 (a + Min.min k' (IntKind.wrap IntKind.i64 ((64 : Int) - Int.tmod a (64 : Int))))) (64 : Int))) = pZ a k' 1 2 ∧ True) ∧ True) ∧
 LO (Go.Proofs.Try.prog) (Go.AE.lp Go.Proofs.Try.prog 28 1) (Tn5 n 2 0 (0 : Int) Bool.false 0) (Sn5 z (pZ a k') N 2) (Go.AE.Out.x 2 (Tx5 n 2 0 (0 : Int) B0) (Sn5 z (pZ a k') N 2)) ∧
 (((!B0) = true → (Bool.false = R ∧ True) ∧ (N ≤ N ∧ (∀ (jj0 : Nat), (jj0 < N → True ∧ z jj0 0 = z jj0 0 ∧ True))) ∧ True) ∧ ((!B0) = false → (((0 = 0 ∧ n = n ∧ n ≤ n ∧ n ≤ n) ∧ Bool.false = Bool.false ∧ (0 = 0 ∧ 2 = 2 ∧ 2 ≤ 2 ∧ 2 ≤ 2) ∧ (0 : Int) = (0 : Int) ∧ (1 : Int) = (1 : Int) ∧ Bool.false = Bool.false ∧ (0 : Int) = (0 : Int) ∧ True) ∧ (N ≤ N ∧ (∀ (jj0 : Nat), (jj0 < N → True ∧ z jj0 0 = z jj0 0 ∧ True))) ∧ (2 ≤ 2 ∧ (∀ (jj0 : Nat), (jj0 < 2 → True ∧ pZ a k' jj0 0 = pZ a k' jj0 0 ∧ pZ a k' jj0 1 = pZ a k' jj0 1 ∧ pZ a k' jj0 2 = pZ a k' jj0 2 ∧ True))) ∧ True) ∧
 LO (Go.Proofs.Try.prog) (Go.AE.lp Go.Proofs.Try.prog 28 1) (Tn5 n 2 1 (0 : Int) Bool.false 0) (Sn5 z (pZ a k') N 2) (Go.AE.Out.x 2 (Tx5 n 2 1 (0 : Int) B1) (Sn5 z (pZ a k') N 2)) ∧
 (((!B1) = true → (Bool.false = R ∧ True) ∧ (N ≤ N ∧ (∀ (jj0 : Nat), (jj0 < N → True ∧ z jj0 0 = z jj0 0 ∧ True))) ∧ True) ∧ ((!B1) = false → (Bool.true = R ∧ True) ∧ (N ≤ N ∧ (∀ (jj0 : Nat), (jj0 < N → True ∧ z jj0 0 = z jj0 0 ∧ True))) ∧ True))))) ∧ ((decide ((0 : Int) < IntKind.wrap IntKind.i64 (k' - Min.min k' (IntKind.wrap IntKind.i64 ((64 : Int) - Int.tmod a (64 : Int)))))) = false → (((0 = 0 ∧ n = n ∧ n ≤ n ∧ n ≤ n) ∧ Bool.false = Bool.false ∧ (0 = 0 ∧ 1 = 1 ∧ 1 ≤ 1 ∧ 1 ≤ 1) ∧ (0 : Int) = (0 : Int) ∧ (0 : Int) = (0 : Int) ∧ Bool.false = Bool.false ∧ (0 : Int) = (0 : Int) ∧ True) ∧ (N ≤ N ∧ (∀ (jj0 : Nat), (jj0 < N → True ∧ z jj0 0 = z jj0 0 ∧ True))) ∧ (IntKind.wrap IntKind.i64 (Int.tdiv a (64 : Int)) = pZ a k' 0 0 ∧ Int.tmod a (64 : Int) = pZ a k' 0 1 ∧ Min.min k' (IntKind.wrap IntKind.i64 ((64 : Int) - Int.tmod a (64 : Int))) = pZ a k' 0 2 ∧ True) ∧ True) ∧
 LO (Go.Proofs.Try.prog) (Go.AE.lp Go.Proofs.Try.prog 28 1) (Tn3 n 1 0 (0 : Int) Bool.false 0) (Sn3 z (pZ a k') N 1) (Go.AE.Out.x 2 (Tx3 n 1 0 (0 : Int) B0) (Sn3 z (pZ a k') N 1)) ∧
 (((!B0) = true → (Bool.false = R ∧ True) ∧ (N ≤ N ∧ (∀ (jj0 : Nat), (jj0 < N → True ∧ z jj0 0 = z jj0 0 ∧ True))) ∧ True) ∧ ((!B0) = false → (Bool.true = R ∧ True) ∧ (N ≤ N ∧ (∀ (jj0 : Nat), (jj0 < N → True ∧ z jj0 0 = z jj0 0 ∧ True))) ∧ True))))))) ∧ ((decide (a ≤ (4096 : Int))) = false → (Bool.false = R ∧ True) ∧ (N ≤ N ∧ (∀ (jj0 : Nat), (jj0 < N → True ∧ z jj0 0 = z jj0 0 ∧ True))) ∧ True))) (by kernel_rfl) ?_⟩
  repeat' (first | (with_reducible exact h3 _) | (with_reducible exact h5 _) | (with_reducible exact h5' _) | (refine And.intro ?_ ?_) | (with_reducible intro hh; (try simp (disch := omega) only [decide_eq_true_eq, decide_eq_false_iff_not, Bool.and_eq_true, Bool.and_eq_false_imp, Bool.not_eq_true', Bool.not_eq_false', reduceCtorEq, or_false, or_true, Bool.or_eq_true, Bool.or_eq_false_iff, Int.not_lt, Int.not_le, beq_iff_eq, beq_eq_false_iff_ne, Nat.zero_add, Nat.mul_one, Nat.sub_zero, Int.toNat_natCast, decide_true, decide_false, cond_true, cond_false, wrap_id, ixF_row, wb, Bool.true_and, Bool.and_true, true_and, and_true, and_self, tdiv_nn, tmod_nn] at hh)))
  all_goals (first | with_reducible rfl | exact True.intro | (first | with_reducible assumption | omega | (simp only [decide_eq_true_eq, decide_eq_false_iff_not, Bool.and_eq_true, Bool.and_eq_false_imp, Bool.not_eq_true', Bool.not_eq_false', reduceCtorEq, or_false, or_true, Bool.or_eq_true, Bool.or_eq_false_iff, Int.not_lt, Int.not_le, beq_iff_eq, beq_eq_false_iff_ne]; omega) | (simp (disch := omega) only [decide_eq_true_eq, decide_eq_false_iff_not, Bool.and_eq_true, Bool.and_eq_false_imp, Bool.not_eq_true', Bool.not_eq_false', reduceCtorEq, or_false, or_true, Bool.or_eq_true, Bool.or_eq_false_iff, Int.not_lt, Int.not_le, beq_iff_eq, beq_eq_false_iff_ne, Nat.zero_add, Nat.mul_one, Nat.sub_zero, Int.toNat_natCast, decide_true, decide_false, cond_true, cond_false, wrap_id, ixF_row, wb, Bool.true_and, Bool.and_true, true_and, and_true, and_self, tdiv_nn, tmod_nn]; first | done | omega) | omega) | exact (hR2 (by omega)).symm | exact (hR3 (by assumption)).symm | exact (hR4 (by omega) (by assumption)).symm | exact (hR1 (by omega) (by assumption) (fun _ => by first | assumption | omega)).symm | (simp (disch := omega) only [Nat.zero_add, Nat.mul_one, Nat.sub_zero, Int.toNat_natCast, decide_true, decide_false, cond_true, cond_false, wrap_id, ixF_row, wb, Bool.true_and, Bool.and_true, true_and, and_true, and_self, tdiv_nn, tmod_nn, pZ]; first | done | omega) | trace_state)
theorem cl_n (z : Nat → Nat → Int) (N n : Nat) (a k : Int) (hN : n ≤ N) (hb : n ≤ 9223372036854775807) (ha : 0 ≤ a ∧ a ≤ 65535) (hk : 16 ≤ k ∧ k ≤ 64) : CL Try.prog 28 [.int .i64 a, .int .i64 k, .sl 0 0 n n false] (SR 1 z N) (fun v s => v = .bool (insB z n a k) ∧ s = SR 1 z N) := by
  refine scr_to pk (okC_nil _) rfl (w_n z N n a k (decide (0 ≤ ixF z n (a / 64))) (decide (0 ≤ ixF z n (a / 64 + 1))) hN hb ha hk (fun e => l_n3 z (pZ a k) N n 1 0 e _ hN hb (by omega) (by omega) rfl) (fun e => l_n5 z (pZ a k) N n 2 0 e _ hN hb (by omega) (by omega) rfl) (fun e => l_n5 z (pZ a k) N n 2 1 e _ hN hb (by omega) (by omega) rfl) (insB z n a k) (fun h1 h2 h3 => ?_) (fun h => ?_) (fun h => ?_) (fun h h2 => ?_))
  · exact decide_eq_true ⟨h1, of_decide_eq_true h2, fun g => of_decide_eq_true (h3 g)⟩
  · exact decide_eq_false fun g => h g.1
  · exact decide_eq_false fun g => of_decide_eq_false h g.2.1
  · exact decide_eq_false fun g => of_decide_eq_false h2 (g.2.2 h)
def cIn : C1 := fun xs s => match xs with
  | [.int .i64 a, .int .i64 k, .sl b 0 n _ _] => match find s.h b with
    | some (_, .fam 1 _ N row) => some (n ≤ N ∧ n ≤ 9223372036854775807 ∧ (0 ≤ a ∧ a ≤ 65535) ∧ (16 ≤ k ∧ k ≤ 64) ∧ row = fun i => rowN (zOf row) i 1 0, .bool (insB (zOf row) n a k), s)
    | _ => none
  | _ => none
theorem ok_in : ok1 Try.prog 28 cIn := fun xs s q v s' hc hp => by
  unfold cIn at hc
  split at hc
  · rename_i a k b n cap x
    split at hc
    · rename_i ver ro N row hf
      simp only [Option.some.injEq, Prod.mk.injEq] at hc
      obtain ⟨rfl, rfl, rfl⟩ := hc
      obtain ⟨h1, h2, h3, h4, hrow⟩ := hp
      refine CL.args (ys := [.int .i64 a, .int .i64 k, .sl b 0 n n false]) (fun ρ us hv => by cases hv with | cons q1 q2 => cases q2 with | cons q2 q3 => cases q3 with | cons q3 q4 => exact .cons q1 (.cons q2 (.cons q3.forget q4))) ?_
      have h3 := CL.reads (π := fun _ => b) (s := s) ((cl_n (zOf row) N n a k h1 h2 h3 h4).imp (k' := fun v _ => v = .bool (insB (zOf row) n a k)) fun v s h => h.1) (fun k x hk => ?_) rfl rfl (fun k x hk => ?_)
      · exact h3
      · match k, hk with
        | 0, hk => cases hk; exact ⟨by decide, rfl, fun i _ => lowL_row 1 _ i _ 0⟩
        | k + 1, hk => have hk2 : (none : Option (Nat × Bk)) = some x := hk; cases hk2
      · match k, hk with
        | 0, hk => cases hk; exact ⟨ver, _, hf, by simp only [asRo, renB, renL_row]; rw [← hrow]⟩
        | k + 1, hk => have hk2 : (none : Option (Nat × Bk)) = some x := hk; cases hk2
    · cases hc
  · cases hc

end Go.Proofs.Ytmjcfphcnnmgjaa.rg
