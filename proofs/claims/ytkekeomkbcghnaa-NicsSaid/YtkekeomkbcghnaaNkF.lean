/- Nics: what is there after so many acts. No condition. -/
import Derived.Test.YtkekeomkbcghnaaNkB
namespace Go.Proofs.Ytkekeomkbcghnaa.nics
open Go Go.Proofs Go.AE Go.RowKit nc
set_option maxRecDepth 100000
set_option linter.unusedVariables false
set_option linter.unusedSimpArgs false
def SE (z : Nat → Nat → Int) (n : Nat) (a : Nat → Nat → Int) (s : Nat → Nat → ByteArray) (m : Nat) : St := { h := [(1000, 0, .flat 1 false [.sl 1001 0 n n false]), (1001, 0, .fam 4 false n fun k => [.int .i64 (z k 0), .int .i64 (z k 1), .nils, .int .i64 0]), (1002, 0, .flat 9 false [.sl 1003 0 n n false, .nils, .nils, .nils, .nils, .int .i64 0, .int .i64 0, .int .i64 0, .int .i64 0]), (1003, 0, .fam 2 false n (rL z)), (1, 0, .fam 4 true m (rA a s))], nx := 1004, ck := 1, st := 1 }
structure Qu where
  n : Nat
  f : Nat → Int
  d : Nat → ByteArray
  r : Int
/-- a send that is accepted -/
abbrev okS (z : Nat → Nat → Int) (n : Nat) (a : Nat → Nat → Int) (s : Nat → Nat → ByteArray) (i : Nat) : Prop := a i 0 < 6 ∧ (0 ≤ a i 1 ∧ a i 1 < n) ∧ (0 ≤ a i 2 ∧ a i 2 < n) ∧ (1 ≤ (s i 3).size ∧ (s i 3).size ≤ 32) ∧ z (a i 1).toNat 0 ≤ z (a i 2).toNat 0 ∧ bits .andNot .i64 (z (a i 1).toNat 1) (z (a i 2).toNat 1) = 0
abbrev okR' (n : Nat) (a : Nat → Nat → Int) (i p : Nat) : Prop := 6 ≤ a i 0 ∧ a i 2 = (p : Int) ∧ p < n
def qu (z : Nat → Nat → Int) (n : Nat) (a : Nat → Nat → Int) (s : Nat → Nat → ByteArray) : Nat → Nat → Qu
  | 0, _ => ⟨0, fun _ => 0, fun _ => .empty, 0⟩
  | i + 1, p => if okS z n a s i ∧ a i 2 = (p : Int) then (if (qu z n a s i p).n < 8 then ⟨(qu z n a s i p).n + 1, fun k => if k = (qu z n a s i p).n then a i 1 else (qu z n a s i p).f k, fun k => if k = (qu z n a s i p).n then s i 3 else (qu z n a s i p).d k, (qu z n a s i p).r⟩ else ⟨(qu z n a s i p).n, (qu z n a s i p).f, (qu z n a s i p).d, min ((qu z n a s i p).r + 1) 65535⟩)
    else if okR' n a i p ∧ 1 ≤ (qu z n a s i p).n then ⟨(qu z n a s i p).n - 1, fun k => (qu z n a s i p).f (k + 1), fun k => (qu z n a s i p).d (k + 1), (qu z n a s i p).r⟩ else qu z n a s i p
abbrev qc (z : Nat → Nat → Int) (n : Nat) (a : Nat → Nat → Int) (s : Nat → Nat → ByteArray) (p i : Nat) : Nat := (qu z n a s i p).n
abbrev qf (z : Nat → Nat → Int) (n : Nat) (a : Nat → Nat → Int) (s : Nat → Nat → ByteArray) (p i : Nat) : Nat → Int := (qu z n a s i p).f
abbrev qd (z : Nat → Nat → Int) (n : Nat) (a : Nat → Nat → Int) (s : Nat → Nat → ByteArray) (p i : Nat) : Nat → ByteArray := (qu z n a s i p).d
abbrev qr (z : Nat → Nat → Int) (n : Nat) (a : Nat → Nat → Int) (s : Nat → Nat → ByteArray) (p i : Nat) : Int := (qu z n a s i p).r
section
variable {z : Nat → Nat → Int} {n : Nat} {a : Nat → Nat → Int} {s : Nat → Nat → ByteArray} {i p : Nat}
theorem qu_bd : ∀ (i p : Nat), (qu z n a s i p).n ≤ 8 ∧ 0 ≤ (qu z n a s i p).r ∧ (qu z n a s i p).r ≤ 65535
  | 0, p => ⟨Nat.zero_le _, Int.le_refl _, by show (0 : Int) ≤ 65535; decide⟩
  | i + 1, p => by
    have ih := qu_bd i p
    unfold qu
    split
    · split
      · rename_i h; exact ⟨h, ih.2⟩
      · exact ⟨ih.1, by show 0 ≤ min _ _; omega, by show min _ _ ≤ 65535; omega⟩
    · split
      · exact ⟨by show _ - 1 ≤ 8; omega, ih.2⟩
      · exact ih
theorem qu_same (h1 : ¬ (okS z n a s i ∧ a i 2 = (p : Int))) (h2 : ¬ (okR' n a i p ∧ 1 ≤ (qu z n a s i p).n)) : qc z n a s p (i + 1) = qc z n a s p i ∧ (∀ k, qf z n a s p (i + 1) k = qf z n a s p i k) ∧ (∀ k, qd z n a s p (i + 1) k = qd z n a s p i k) ∧ qr z n a s p (i + 1) = qr z n a s p i := by
  have e : qu z n a s (i + 1) p = qu z n a s i p := by
    rw [qu, if_neg h1, if_neg h2]
  unfold qc qf qd qr
  rw [e]; exact ⟨rfl, fun _ => rfl, fun _ => rfl, rfl⟩
theorem qu_enq (h1 : okS z n a s i) (h2 : a i 2 = (p : Int)) (h3 : qc z n a s p i < 8) : qc z n a s p (i + 1) = qc z n a s p i + 1 ∧ (∀ k, k < qc z n a s p i → qf z n a s p (i + 1) k = qf z n a s p i k ∧ qd z n a s p (i + 1) k = qd z n a s p i k) ∧ qf z n a s p (i + 1) (qc z n a s p i) = a i 1 ∧ qd z n a s p (i + 1) (qc z n a s p i) = s i 3 ∧ qr z n a s p (i + 1) = qr z n a s p i := by
  unfold qc at h3
  unfold qc qf qd qr
  rw [qu, if_pos ⟨h1, h2⟩, if_pos h3]
  exact ⟨rfl, fun k hk => ⟨if_neg (by omega), if_neg (by omega)⟩, if_pos rfl, if_pos rfl, rfl⟩
theorem qu_drp (h1 : okS z n a s i) (h2 : a i 2 = (p : Int)) (h3 : qc z n a s p i = 8) : qc z n a s p (i + 1) = qc z n a s p i ∧ (∀ k, qf z n a s p (i + 1) k = qf z n a s p i k) ∧ (∀ k, qd z n a s p (i + 1) k = qd z n a s p i k) ∧ qr z n a s p (i + 1) = min (qr z n a s p i + 1) 65535 := by
  unfold qc at h3
  unfold qc qf qd qr
  rw [qu, if_pos ⟨h1, h2⟩, if_neg (by omega)]
  exact ⟨rfl, fun _ => rfl, fun _ => rfl, rfl⟩
theorem qu_rcv (h1 : okR' n a i p) (h3 : 1 ≤ qc z n a s p i) : qc z n a s p (i + 1) = qc z n a s p i - 1 ∧ (∀ k, qf z n a s p (i + 1) k = qf z n a s p i (k + 1)) ∧ (∀ k, qd z n a s p (i + 1) k = qd z n a s p i (k + 1)) ∧ qr z n a s p (i + 1) = qr z n a s p i := by
  unfold qc at h3
  unfold qc qf qd qr
  rw [qu, if_neg (fun h => by have h4 := h.1.1; have h5 := h1.1; omega), if_pos ⟨h1, h3⟩]
  exact ⟨rfl, fun _ => rfl, fun _ => rfl, rfl⟩
end
theorem bits16 : ∀ k, k < 16 → ∀ l, l < 16 → (bits .andNot .i64 ((k : Nat) : Int) ((l : Nat) : Int) = 0 ↔ bits .and .i64 ((l : Nat) : Int) ((k : Nat) : Int) = ((k : Nat) : Int)) := by decide +kernel
theorem an_iff {x y : Int} (hx : 0 ≤ x ∧ x ≤ 15) (hy : 0 ≤ y ∧ y ≤ 15) : bits .andNot .i64 x y = 0 ↔ bits .and .i64 y x = x := by
  obtain ⟨k, rfl⟩ : ∃ k : Nat, x = (k : Int) := ⟨x.toNat, by omega⟩
  obtain ⟨l, rfl⟩ : ∃ l : Nat, y = (l : Int) := ⟨y.toNat, by omega⟩
  exact bits16 k (by omega) l (by omega)

theorem eG (z : Nat → Nat → Int) (n : Nat) (a : Nat → Nat → Int) (s : Nat → Nat → ByteArray) (m : Nat) (hn : n ≤ 4) : tells 1004 [] (TL n m 0) (SE z n a s m) (TL n m 0) (S z n a s m (qc z n a s) (qf z n a s) (qd z n a s) (qr z n a s) 0) := by
  refine Go.AE.kchange (b := ((0 = 0 ∧ n = n ∧ n ≤ n ∧ n ≤ n) ∧ (0 = 0 ∧ m = m ∧ m ≤ m ∧ m ≤ m) ∧ Bool.false = Bool.false ∧ (0 = 0 ∧ 0 = 0) ∧ (0 = 0 ∧ 0 = 0) ∧ (0 : Int) = (0 : Int) ∧ True) ∧ qc z n a s 0 0 = 0 ∧ qc z n a s 1 0 = 0 ∧ qc z n a s 2 0 = 0 ∧ qc z n a s 3 0 = 0 ∧ qc z n a s 0 0 = 0 ∧ qc z n a s 1 0 = 0 ∧ qc z n a s 2 0 = 0 ∧ qc z n a s 3 0 = 0 ∧ ((0 = 0 ∧ n = n ∧ n ≤ n ∧ n ≤ n) ∧ True) ∧ (n ≤ n ∧ (∀ (jj0 : Nat), (jj0 < n → Go.AE.okL (Go.AE.St.nx (S z n a s m (qc z n a s) (qf z n a s) (qd z n a s) (qr z n a s) 0)) 4 (rowQ z (qc z n a s) (qr z n a s) 0 jj0) ∧ z jj0 0 = z jj0 0 ∧ z jj0 1 = z jj0 1 ∧ eqL [] [SV.nils, SV.int IntKind.i64 (0 : Int)] [match jj0 with
    | 0 => SV.sl 1004 0 (qc z n a s 0 0) (qc z n a s 0 0) Bool.false
    | 1 => SV.sl 1005 0 (qc z n a s 1 0) (qc z n a s 1 0) Bool.false
    | 2 => SV.sl 1006 0 (qc z n a s 2 0) (qc z n a s 2 0) Bool.false
    | 3 => SV.sl 1007 0 (qc z n a s 3 0) (qc z n a s 3 0) Bool.false
    | x => SV.nils,
    SV.int IntKind.i64 (qr z n a s jj0 0)]))) ∧ ((0 = 0 ∧ n = n ∧ n ≤ n ∧ n ≤ n) ∧ (qc z n a s 0 0 = 0 ∧ qc z n a s 0 0 = 0) ∧ (qc z n a s 1 0 = 0 ∧ qc z n a s 1 0 = 0) ∧ (qc z n a s 2 0 = 0 ∧ qc z n a s 2 0 = 0) ∧ (qc z n a s 3 0 = 0 ∧ qc z n a s 3 0 = 0) ∧ (0 : Int) = qr z n a s 0 0 ∧ (0 : Int) = qr z n a s 1 0 ∧ (0 : Int) = qr z n a s 2 0 ∧ (0 : Int) = qr z n a s 3 0 ∧ True) ∧ (n ≤ n ∧ (∀ (jj0 : Nat), (jj0 < n → True ∧ z jj0 0 = z jj0 0 ∧ z jj0 1 = z jj0 1 ∧ True))) ∧ (m ≤ m ∧ (∀ (jj0 : Nat), (jj0 < m → True ∧ a jj0 0 = a jj0 0 ∧ a jj0 1 = a jj0 1 ∧ a jj0 2 = a jj0 2 ∧ s jj0 3 = s jj0 3 ∧ True))) ∧ True) (by kernel_rfl) ?_
  repeat' (first | (refine And.intro ?_ ?_) | (with_reducible intro hh; (try simp (disch := omega) only [decide_eq_true_eq, decide_eq_false_iff_not, Bool.and_eq_true, Bool.and_eq_false_imp, Bool.not_eq_true', Bool.not_eq_false', reduceCtorEq, or_false, or_true, Bool.or_eq_true, Bool.or_eq_false_iff, Int.not_lt, Int.not_le, beq_iff_eq, beq_eq_false_iff_ne, sameM_self, fO_rM, dO_rM, Nat.zero_add, Nat.mul_one, Nat.sub_zero, Int.toNat_natCast, decide_true, decide_false, cond_true, cond_false, wrap_id, beq_self_eq_true, tmod_nn, tdiv_nn, Bool.true_and, Bool.and_true, true_and, and_true, and_self, Bool.not_true, Bool.not_false] at hh)))
  all_goals (first | with_reducible rfl | exact True.intro | (first | with_reducible assumption | omega | (simp only [decide_eq_true_eq, decide_eq_false_iff_not, Bool.and_eq_true, Bool.and_eq_false_imp, Bool.not_eq_true', Bool.not_eq_false', reduceCtorEq, or_false, or_true, Bool.or_eq_true, Bool.or_eq_false_iff, Int.not_lt, Int.not_le, beq_iff_eq, beq_eq_false_iff_ne]; omega) | (simp (disch := omega) only [decide_eq_true_eq, decide_eq_false_iff_not, Bool.and_eq_true, Bool.and_eq_false_imp, Bool.not_eq_true', Bool.not_eq_false', reduceCtorEq, or_false, or_true, Bool.or_eq_true, Bool.or_eq_false_iff, Int.not_lt, Int.not_le, beq_iff_eq, beq_eq_false_iff_ne, sameM_self, fO_rM, dO_rM, Nat.zero_add, Nat.mul_one, Nat.sub_zero, Int.toNat_natCast, decide_true, decide_false, cond_true, cond_false, wrap_id, beq_self_eq_true, tmod_nn, tdiv_nn, Bool.true_and, Bool.and_true, true_and, and_true, and_self, Bool.not_true, Bool.not_false]; first | done | omega) | (simp (disch := omega) only [decide_eq_true_eq, decide_eq_false_iff_not, Bool.and_eq_true, Bool.and_eq_false_imp, Bool.not_eq_true', Bool.not_eq_false', reduceCtorEq, or_false, or_true, Bool.or_eq_true, Bool.or_eq_false_iff, Int.not_lt, Int.not_le, beq_iff_eq, beq_eq_false_iff_ne, sameM_self, fO_rM, dO_rM, Nat.zero_add, Nat.mul_one, Nat.sub_zero, Int.toNat_natCast, decide_true, decide_false, cond_true, cond_false, wrap_id, beq_self_eq_true, tmod_nn, tdiv_nn, Bool.true_and, Bool.and_true, true_and, and_true, and_self, Bool.not_true, Bool.not_false] at *; first | done | omega)) | exact fun _ _ => rfl | (rename_i k; rcases (show k = 0 ∨ k = 1 ∨ k = 2 ∨ k = 3 by omega) with h | h | h | h <;> subst h <;> first | exact True.intro | exact ⟨⟨rfl, rfl⟩, rfl, True.intro⟩) | rfl | trace_state)
end Go.Proofs.Ytkekeomkbcghnaa.nics
