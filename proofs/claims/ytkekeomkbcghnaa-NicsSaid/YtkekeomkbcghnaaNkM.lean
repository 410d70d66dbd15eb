/- Nics: the law, from the acts' loop. No condition. -/
import Derived.Test.YtkekeomkbcghnaaNkF
namespace Go.Proofs.Ytkekeomkbcghnaa.nics
open Go Go.Proofs Go.AE Go.RowKit nc
set_option maxRecDepth 100000
set_option linter.unusedVariables false
set_option linter.unusedSimpArgs false
theorem pk54 : PK Try.prog [54, 41] := ⟨by kernel_rfl, by kernel_rfl, good_of (by kernel_rfl), nonum_of (by kernel_rfl)⟩
theorem main1 (z : Nat → Nat → Int) (a : Nat → Nat → Int) (s : Nat → Nat → ByteArray) (m : Nat) (p p2 : Pl) (g0 : 0 ≤ z 0 0 ∧ z 0 0 ≤ 3 ∧ 0 ≤ z 0 1 ∧ z 0 1 ≤ 15) (K : Nat) (hG : LO Try.prog (lp Try.prog 3 0) (TL 1 m 0) (SE z 1 a s m) (.x 0 (TL 1 m K) (S z 1 a s m (qc z 1 a s) (qf z 1 a s) (qd z 1 a s) (qr z 1 a s) K))) : ∃ r, callK (HS Try.prog [54, 41] ctr) Try.prog 3 [.sl 0 0 1 1 false, .sl 1 0 m m false] (sOf [(p, .flat 2 true [.int .i64 (z 0 0), .int .i64 (z 0 1)]), (p2, .fam 4 true m (rA a s))]) kTrue r := by
  refine ⟨.zn 13 <| .U <| .Z <| .Z <| .T <| .zn 3 <| .T <| .zn 3 <| .T <| .zn 3 <| .N <| .zn 3 <| .U <| .zn 5 <| .U <| .Z <| .Z <| .T <| .zn 3 <| .T <| .zn 3 <| .T <| .zn 3 <| .N <| .zn 18 <| .U <| .zn 3 <| .N <| .zn 23 <| .U <| .zn 4 <| .M ([(1003, 32), (1002, 33), (1001, 18), (1000, 8)]) (TL 1 m 0) (SE z 1 a s m) (Go.AE.Out.x 0 (TL 1 m K) (S z 1 a s m (qc z 1 a s) (qf z 1 a s) (qd z 1 a s) (qr z 1 a s) K)) <| .E (0) [], Go.AE.kchange (b := (decide ((0 : Int) ≤ z 0 0)) = true ∧
 (decide (z 0 0 ≤ (3 : Int))) = true ∧
 (decide ((0 : Int) ≤ z 0 1)) = true ∧
 (!decide (z 0 1 ≤ (15 : Int))) = false ∧
 (decide ((0 : Int) ≤ z 0 0)) = true ∧
 (decide (z 0 0 ≤ (3 : Int))) = true ∧
 (decide ((0 : Int) ≤ z 0 1)) = true ∧
 (!decide (z 0 1 ≤ (15 : Int))) = false ∧
 (!(z 0 0 == z 0 0 && (z 0 1 == z 0 1 && Bool.true))) = false ∧
 (((0 = 0 ∧ 1 = 1 ∧ 1 ≤ 1 ∧ 1 ≤ 1) ∧ (0 = 0 ∧ m = m ∧ m ≤ m ∧ m ≤ m) ∧ Bool.false = Bool.false ∧ (0 = 0 ∧ 0 = 0) ∧ (0 = 0 ∧ 0 = 0) ∧ (0 : Int) = (0 : Int) ∧ True) ∧ ((0 = 0 ∧ 1 = 1 ∧ 1 ≤ 1 ∧ 1 ≤ 1) ∧ True) ∧ (z 0 0 = z 0 0 ∧ z 0 1 = z 0 1 ∧ True ∧ (0 : Int) = (0 : Int) ∧ True) ∧ ((0 = 0 ∧ 1 = 1 ∧ 1 ≤ 1 ∧ 1 ≤ 1) ∧ True ∧ True ∧ True ∧ True ∧ (0 : Int) = (0 : Int) ∧ (0 : Int) = (0 : Int) ∧ (0 : Int) = (0 : Int) ∧ (0 : Int) = (0 : Int) ∧ True) ∧ (z 0 0 = z 0 0 ∧ z 0 1 = z 0 1 ∧ True) ∧ (m ≤ m ∧ (∀ (jj0 : Nat), (jj0 < m → True ∧ a jj0 0 = a jj0 0 ∧ a jj0 1 = a jj0 1 ∧ a jj0 2 = a jj0 2 ∧ s jj0 3 = s jj0 3 ∧ True))) ∧ True) ∧
 LO (Go.Proofs.Try.prog) (Go.AE.lp Go.Proofs.Try.prog 3 0) (TL 1 m 0) (SE z 1 a s m) (Go.AE.Out.x 0 (TL 1 m K) (S z 1 a s m (qc z 1 a s) (qf z 1 a s) (qd z 1 a s) (qr z 1 a s) K)) ∧
 (True) ∧
 Bool.true = Bool.true) (by kernel_rfl) ?_⟩
  repeat' (first | exact hG | (refine And.intro ?_ ?_) | (with_reducible intro hh; (try simp (disch := omega) only [decide_eq_true_eq, decide_eq_false_iff_not, Bool.and_eq_true, Bool.and_eq_false_imp, Bool.not_eq_true', Bool.not_eq_false', reduceCtorEq, or_false, or_true, Bool.or_eq_true, Bool.or_eq_false_iff, Int.not_lt, Int.not_le, beq_iff_eq, beq_eq_false_iff_ne, sameM_self, fO_rM, dO_rM, Nat.zero_add, Nat.mul_one, Nat.sub_zero, Int.toNat_natCast, decide_true, decide_false, cond_true, cond_false, wrap_id, beq_self_eq_true, tmod_nn, tdiv_nn, Bool.true_and, Bool.and_true, true_and, and_true, and_self, Bool.not_true, Bool.not_false] at hh)))
  all_goals (first | with_reducible rfl | exact True.intro | (first | with_reducible assumption | omega | (simp only [decide_eq_true_eq, decide_eq_false_iff_not, Bool.and_eq_true, Bool.and_eq_false_imp, Bool.not_eq_true', Bool.not_eq_false', reduceCtorEq, or_false, or_true, Bool.or_eq_true, Bool.or_eq_false_iff, Int.not_lt, Int.not_le, beq_iff_eq, beq_eq_false_iff_ne]; omega) | (simp (disch := omega) only [decide_eq_true_eq, decide_eq_false_iff_not, Bool.and_eq_true, Bool.and_eq_false_imp, Bool.not_eq_true', Bool.not_eq_false', reduceCtorEq, or_false, or_true, Bool.or_eq_true, Bool.or_eq_false_iff, Int.not_lt, Int.not_le, beq_iff_eq, beq_eq_false_iff_ne, sameM_self, fO_rM, dO_rM, Nat.zero_add, Nat.mul_one, Nat.sub_zero, Int.toNat_natCast, decide_true, decide_false, cond_true, cond_false, wrap_id, beq_self_eq_true, tmod_nn, tdiv_nn, Bool.true_and, Bool.and_true, true_and, and_true, and_self, Bool.not_true, Bool.not_false]; first | done | omega) | (simp (disch := omega) only [decide_eq_true_eq, decide_eq_false_iff_not, Bool.and_eq_true, Bool.and_eq_false_imp, Bool.not_eq_true', Bool.not_eq_false', reduceCtorEq, or_false, or_true, Bool.or_eq_true, Bool.or_eq_false_iff, Int.not_lt, Int.not_le, beq_iff_eq, beq_eq_false_iff_ne, sameM_self, fO_rM, dO_rM, Nat.zero_add, Nat.mul_one, Nat.sub_zero, Int.toNat_natCast, decide_true, decide_false, cond_true, cond_false, wrap_id, beq_self_eq_true, tmod_nn, tdiv_nn, Bool.true_and, Bool.and_true, true_and, and_true, and_self, Bool.not_true, Bool.not_false] at *; first | done | omega)) | exact fun _ _ => rfl | rfl | trace_state)
theorem refd1 (z : Nat → Nat → Int) (a : Nat → Nat → Int) (s : Nat → Nat → ByteArray) (m : Nat) (p p2 : Pl) (hb : ¬ ((0 ≤ z 0 0 ∧ z 0 0 ≤ 3 ∧ 0 ≤ z 0 1 ∧ z 0 1 ≤ 15))) : ∃ r, callK (HS Try.prog [54, 41] ctr) Try.prog 3 [.sl 0 0 1 1 false, .sl 1 0 m m false] (sOf [(p, .flat 2 true [.int .i64 (z 0 0), .int .i64 (z 0 1)]), (p2, .fam 4 true m (rA a s))]) kTrue r := by
  refine ⟨.zn 13 <| .U <| .Z <| .Z <| .B (.zn 3 <| .B (.zn 3 <| .B (.zn 3 <| .T <| .Z <| .Z <| .U <| .Z <| .Z <| .T <| .zn 3 <| .T <| .zn 3 <| .T <| .zn 3 <| .T <| .zn 6 <| .E (0) []) (.zn 6 <| .U <| .Z <| .Z <| .T <| .zn 3 <| .T <| .zn 3 <| .N <| .zn 10 <| .E (0) [])) (.zn 10 <| .U <| .Z <| .Z <| .T <| .zn 3 <| .N <| .zn 14 <| .E (0) [])) (.zn 14 <| .U <| .Z <| .Z <| .N <| .zn 18 <| .E (0) []), Go.AE.kchange (b := (((decide ((0 : Int) ≤ z 0 0)) = true → (((decide (z 0 0 ≤ (3 : Int))) = true → (((decide ((0 : Int) ≤ z 0 1)) = true → (!decide (z 0 1 ≤ (15 : Int))) = true ∧
 (decide ((0 : Int) ≤ z 0 0)) = true ∧
 (decide (z 0 0 ≤ (3 : Int))) = true ∧
 (decide ((0 : Int) ≤ z 0 1)) = true ∧
 (!decide (z 0 1 ≤ (15 : Int))) = true ∧
 (True) ∧
 Bool.true = Bool.true) ∧ ((decide ((0 : Int) ≤ z 0 1)) = false → (decide ((0 : Int) ≤ z 0 0)) = true ∧
 (decide (z 0 0 ≤ (3 : Int))) = true ∧
 (decide ((0 : Int) ≤ z 0 1)) = false ∧
 (True) ∧
 Bool.true = Bool.true))) ∧ ((decide (z 0 0 ≤ (3 : Int))) = false → (decide ((0 : Int) ≤ z 0 0)) = true ∧
 (decide (z 0 0 ≤ (3 : Int))) = false ∧
 (True) ∧
 Bool.true = Bool.true))) ∧ ((decide ((0 : Int) ≤ z 0 0)) = false → (decide ((0 : Int) ≤ z 0 0)) = false ∧
 (True) ∧
 Bool.true = Bool.true))) (by kernel_rfl) ?_⟩
  repeat' (first | (refine And.intro ?_ ?_) | (with_reducible intro hh; (try simp (disch := omega) only [decide_eq_true_eq, decide_eq_false_iff_not, Bool.and_eq_true, Bool.and_eq_false_imp, Bool.not_eq_true', Bool.not_eq_false', reduceCtorEq, or_false, or_true, Bool.or_eq_true, Bool.or_eq_false_iff, Int.not_lt, Int.not_le, beq_iff_eq, beq_eq_false_iff_ne, sameM_self, fO_rM, dO_rM, Nat.zero_add, Nat.mul_one, Nat.sub_zero, Int.toNat_natCast, decide_true, decide_false, cond_true, cond_false, wrap_id, beq_self_eq_true, tmod_nn, tdiv_nn, Bool.true_and, Bool.and_true, true_and, and_true, and_self, Bool.not_true, Bool.not_false] at hh)))
  all_goals (first | with_reducible rfl | exact True.intro | (first | with_reducible assumption | omega | (simp only [decide_eq_true_eq, decide_eq_false_iff_not, Bool.and_eq_true, Bool.and_eq_false_imp, Bool.not_eq_true', Bool.not_eq_false', reduceCtorEq, or_false, or_true, Bool.or_eq_true, Bool.or_eq_false_iff, Int.not_lt, Int.not_le, beq_iff_eq, beq_eq_false_iff_ne]; omega) | (simp (disch := omega) only [decide_eq_true_eq, decide_eq_false_iff_not, Bool.and_eq_true, Bool.and_eq_false_imp, Bool.not_eq_true', Bool.not_eq_false', reduceCtorEq, or_false, or_true, Bool.or_eq_true, Bool.or_eq_false_iff, Int.not_lt, Int.not_le, beq_iff_eq, beq_eq_false_iff_ne, sameM_self, fO_rM, dO_rM, Nat.zero_add, Nat.mul_one, Nat.sub_zero, Int.toNat_natCast, decide_true, decide_false, cond_true, cond_false, wrap_id, beq_self_eq_true, tmod_nn, tdiv_nn, Bool.true_and, Bool.and_true, true_and, and_true, and_self, Bool.not_true, Bool.not_false]; first | done | omega) | (simp (disch := omega) only [decide_eq_true_eq, decide_eq_false_iff_not, Bool.and_eq_true, Bool.and_eq_false_imp, Bool.not_eq_true', Bool.not_eq_false', reduceCtorEq, or_false, or_true, Bool.or_eq_true, Bool.or_eq_false_iff, Int.not_lt, Int.not_le, beq_iff_eq, beq_eq_false_iff_ne, sameM_self, fO_rM, dO_rM, Nat.zero_add, Nat.mul_one, Nat.sub_zero, Int.toNat_natCast, decide_true, decide_false, cond_true, cond_false, wrap_id, beq_self_eq_true, tmod_nn, tdiv_nn, Bool.true_and, Bool.and_true, true_and, and_true, and_self, Bool.not_true, Bool.not_false] at *; first | done | omega)) | trace_state)
theorem main2 (z : Nat → Nat → Int) (a : Nat → Nat → Int) (s : Nat → Nat → ByteArray) (m : Nat) (p p2 : Pl) (g0 : 0 ≤ z 0 0 ∧ z 0 0 ≤ 3 ∧ 0 ≤ z 0 1 ∧ z 0 1 ≤ 15) (g1 : 0 ≤ z 1 0 ∧ z 1 0 ≤ 3 ∧ 0 ≤ z 1 1 ∧ z 1 1 ≤ 15) (K : Nat) (hG : LO Try.prog (lp Try.prog 3 0) (TL 2 m 0) (SE z 2 a s m) (.x 0 (TL 2 m K) (S z 2 a s m (qc z 2 a s) (qf z 2 a s) (qd z 2 a s) (qr z 2 a s) K))) : ∃ r, callK (HS Try.prog [54, 41] ctr) Try.prog 3 [.sl 0 0 2 2 false, .sl 1 0 m m false] (sOf [(p, .flat 2 true [.int .i64 (z 0 0), .int .i64 (z 0 1), .int .i64 (z 1 0), .int .i64 (z 1 1)]), (p2, .fam 4 true m (rA a s))]) kTrue r := by
  refine ⟨.zn 13 <| .U <| .Z <| .Z <| .T <| .zn 3 <| .T <| .zn 3 <| .T <| .zn 3 <| .N <| .Z <| .Z <| .T <| .zn 3 <| .T <| .zn 3 <| .T <| .zn 3 <| .N <| .zn 3 <| .U <| .zn 9 <| .U <| .Z <| .Z <| .T <| .zn 3 <| .T <| .zn 3 <| .T <| .zn 3 <| .N <| .Z <| .Z <| .T <| .zn 3 <| .T <| .zn 3 <| .T <| .zn 3 <| .N <| .zn 18 <| .U <| .zn 3 <| .N <| .zn 3 <| .N <| .zn 23 <| .U <| .zn 7 <| .M ([(1003, 56), (1002, 57), (1001, 41), (1000, 10)]) (TL 2 m 0) (SE z 2 a s m) (Go.AE.Out.x 0 (TL 2 m K) (S z 2 a s m (qc z 2 a s) (qf z 2 a s) (qd z 2 a s) (qr z 2 a s) K)) <| .E (0) [], Go.AE.kchange (b := (decide ((0 : Int) ≤ z 0 0)) = true ∧
 (decide (z 0 0 ≤ (3 : Int))) = true ∧
 (decide ((0 : Int) ≤ z 0 1)) = true ∧
 (!decide (z 0 1 ≤ (15 : Int))) = false ∧
 (decide ((0 : Int) ≤ z 1 0)) = true ∧
 (decide (z 1 0 ≤ (3 : Int))) = true ∧
 (decide ((0 : Int) ≤ z 1 1)) = true ∧
 (!decide (z 1 1 ≤ (15 : Int))) = false ∧
 (decide ((0 : Int) ≤ z 0 0)) = true ∧
 (decide (z 0 0 ≤ (3 : Int))) = true ∧
 (decide ((0 : Int) ≤ z 0 1)) = true ∧
 (!decide (z 0 1 ≤ (15 : Int))) = false ∧
 (decide ((0 : Int) ≤ z 1 0)) = true ∧
 (decide (z 1 0 ≤ (3 : Int))) = true ∧
 (decide ((0 : Int) ≤ z 1 1)) = true ∧
 (!decide (z 1 1 ≤ (15 : Int))) = false ∧
 (!(z 0 0 == z 0 0 && (z 0 1 == z 0 1 && Bool.true))) = false ∧
 (!(z 1 0 == z 1 0 && (z 1 1 == z 1 1 && Bool.true))) = false ∧
 (((0 = 0 ∧ 2 = 2 ∧ 2 ≤ 2 ∧ 2 ≤ 2) ∧ (0 = 0 ∧ m = m ∧ m ≤ m ∧ m ≤ m) ∧ Bool.false = Bool.false ∧ (0 = 0 ∧ 0 = 0) ∧ (0 = 0 ∧ 0 = 0) ∧ (0 : Int) = (0 : Int) ∧ True) ∧ ((0 = 0 ∧ 2 = 2 ∧ 2 ≤ 2 ∧ 2 ≤ 2) ∧ True) ∧ (z 0 0 = z 0 0 ∧ z 0 1 = z 0 1 ∧ True ∧ (0 : Int) = (0 : Int) ∧ z 1 0 = z 1 0 ∧ z 1 1 = z 1 1 ∧ True ∧ (0 : Int) = (0 : Int) ∧ True) ∧ ((0 = 0 ∧ 2 = 2 ∧ 2 ≤ 2 ∧ 2 ≤ 2) ∧ True ∧ True ∧ True ∧ True ∧ (0 : Int) = (0 : Int) ∧ (0 : Int) = (0 : Int) ∧ (0 : Int) = (0 : Int) ∧ (0 : Int) = (0 : Int) ∧ True) ∧ (z 0 0 = z 0 0 ∧ z 0 1 = z 0 1 ∧ z 1 0 = z 1 0 ∧ z 1 1 = z 1 1 ∧ True) ∧ (m ≤ m ∧ (∀ (jj0 : Nat), (jj0 < m → True ∧ a jj0 0 = a jj0 0 ∧ a jj0 1 = a jj0 1 ∧ a jj0 2 = a jj0 2 ∧ s jj0 3 = s jj0 3 ∧ True))) ∧ True) ∧
 LO (Go.Proofs.Try.prog) (Go.AE.lp Go.Proofs.Try.prog 3 0) (TL 2 m 0) (SE z 2 a s m) (Go.AE.Out.x 0 (TL 2 m K) (S z 2 a s m (qc z 2 a s) (qf z 2 a s) (qd z 2 a s) (qr z 2 a s) K)) ∧
 (True) ∧
 Bool.true = Bool.true) (by kernel_rfl) ?_⟩
  repeat' (first | exact hG | (refine And.intro ?_ ?_) | (with_reducible intro hh; (try simp (disch := omega) only [decide_eq_true_eq, decide_eq_false_iff_not, Bool.and_eq_true, Bool.and_eq_false_imp, Bool.not_eq_true', Bool.not_eq_false', reduceCtorEq, or_false, or_true, Bool.or_eq_true, Bool.or_eq_false_iff, Int.not_lt, Int.not_le, beq_iff_eq, beq_eq_false_iff_ne, sameM_self, fO_rM, dO_rM, Nat.zero_add, Nat.mul_one, Nat.sub_zero, Int.toNat_natCast, decide_true, decide_false, cond_true, cond_false, wrap_id, beq_self_eq_true, tmod_nn, tdiv_nn, Bool.true_and, Bool.and_true, true_and, and_true, and_self, Bool.not_true, Bool.not_false] at hh)))
  all_goals (first | with_reducible rfl | exact True.intro | (first | with_reducible assumption | omega | (simp only [decide_eq_true_eq, decide_eq_false_iff_not, Bool.and_eq_true, Bool.and_eq_false_imp, Bool.not_eq_true', Bool.not_eq_false', reduceCtorEq, or_false, or_true, Bool.or_eq_true, Bool.or_eq_false_iff, Int.not_lt, Int.not_le, beq_iff_eq, beq_eq_false_iff_ne]; omega) | (simp (disch := omega) only [decide_eq_true_eq, decide_eq_false_iff_not, Bool.and_eq_true, Bool.and_eq_false_imp, Bool.not_eq_true', Bool.not_eq_false', reduceCtorEq, or_false, or_true, Bool.or_eq_true, Bool.or_eq_false_iff, Int.not_lt, Int.not_le, beq_iff_eq, beq_eq_false_iff_ne, sameM_self, fO_rM, dO_rM, Nat.zero_add, Nat.mul_one, Nat.sub_zero, Int.toNat_natCast, decide_true, decide_false, cond_true, cond_false, wrap_id, beq_self_eq_true, tmod_nn, tdiv_nn, Bool.true_and, Bool.and_true, true_and, and_true, and_self, Bool.not_true, Bool.not_false]; first | done | omega) | (simp (disch := omega) only [decide_eq_true_eq, decide_eq_false_iff_not, Bool.and_eq_true, Bool.and_eq_false_imp, Bool.not_eq_true', Bool.not_eq_false', reduceCtorEq, or_false, or_true, Bool.or_eq_true, Bool.or_eq_false_iff, Int.not_lt, Int.not_le, beq_iff_eq, beq_eq_false_iff_ne, sameM_self, fO_rM, dO_rM, Nat.zero_add, Nat.mul_one, Nat.sub_zero, Int.toNat_natCast, decide_true, decide_false, cond_true, cond_false, wrap_id, beq_self_eq_true, tmod_nn, tdiv_nn, Bool.true_and, Bool.and_true, true_and, and_true, and_self, Bool.not_true, Bool.not_false] at *; first | done | omega)) | exact fun _ _ => rfl | rfl | trace_state)
theorem refd2 (z : Nat → Nat → Int) (a : Nat → Nat → Int) (s : Nat → Nat → ByteArray) (m : Nat) (p p2 : Pl) (hb : ¬ ((0 ≤ z 0 0 ∧ z 0 0 ≤ 3 ∧ 0 ≤ z 0 1 ∧ z 0 1 ≤ 15) ∧ (0 ≤ z 1 0 ∧ z 1 0 ≤ 3 ∧ 0 ≤ z 1 1 ∧ z 1 1 ≤ 15))) : ∃ r, callK (HS Try.prog [54, 41] ctr) Try.prog 3 [.sl 0 0 2 2 false, .sl 1 0 m m false] (sOf [(p, .flat 2 true [.int .i64 (z 0 0), .int .i64 (z 0 1), .int .i64 (z 1 0), .int .i64 (z 1 1)]), (p2, .fam 4 true m (rA a s))]) kTrue r := by
  refine ⟨.zn 13 <| .U <| .Z <| .Z <| .B (.zn 3 <| .B (.zn 3 <| .B (.zn 3 <| .B (.Z <| .Z <| .U <| .Z <| .Z <| .T <| .zn 3 <| .T <| .zn 3 <| .T <| .zn 3 <| .T <| .zn 6 <| .E (0) []) (.Z <| .Z <| .B (.zn 3 <| .B (.zn 3 <| .B (.zn 3 <| .T <| .Z <| .Z <| .U <| .Z <| .Z <| .T <| .zn 3 <| .T <| .zn 3 <| .T <| .zn 3 <| .N <| .Z <| .Z <| .T <| .zn 3 <| .T <| .zn 3 <| .T <| .zn 3 <| .T <| .zn 6 <| .E (0) []) (.zn 6 <| .U <| .Z <| .Z <| .T <| .zn 3 <| .T <| .zn 3 <| .T <| .zn 3 <| .N <| .Z <| .Z <| .T <| .zn 3 <| .T <| .zn 3 <| .N <| .zn 10 <| .E (0) [])) (.zn 10 <| .U <| .Z <| .Z <| .T <| .zn 3 <| .T <| .zn 3 <| .T <| .zn 3 <| .N <| .Z <| .Z <| .T <| .zn 3 <| .N <| .zn 14 <| .E (0) [])) (.zn 14 <| .U <| .Z <| .Z <| .T <| .zn 3 <| .T <| .zn 3 <| .T <| .zn 3 <| .N <| .Z <| .Z <| .N <| .zn 18 <| .E (0) []))) (.zn 6 <| .U <| .Z <| .Z <| .T <| .zn 3 <| .T <| .zn 3 <| .N <| .zn 10 <| .E (0) [])) (.zn 10 <| .U <| .Z <| .Z <| .T <| .zn 3 <| .N <| .zn 14 <| .E (0) [])) (.zn 14 <| .U <| .Z <| .Z <| .N <| .zn 18 <| .E (0) []), Go.AE.kchange (b := (((decide ((0 : Int) ≤ z 0 0)) = true → (((decide (z 0 0 ≤ (3 : Int))) = true → (((decide ((0 : Int) ≤ z 0 1)) = true → (((!decide (z 0 1 ≤ (15 : Int))) = true → (decide ((0 : Int) ≤ z 0 0)) = true ∧
 (decide (z 0 0 ≤ (3 : Int))) = true ∧
 (decide ((0 : Int) ≤ z 0 1)) = true ∧
 (!decide (z 0 1 ≤ (15 : Int))) = true ∧
 (True) ∧
 Bool.true = Bool.true) ∧ ((!decide (z 0 1 ≤ (15 : Int))) = false → (((decide ((0 : Int) ≤ z 1 0)) = true → (((decide (z 1 0 ≤ (3 : Int))) = true → (((decide ((0 : Int) ≤ z 1 1)) = true → (!decide (z 1 1 ≤ (15 : Int))) = true ∧
 (decide ((0 : Int) ≤ z 0 0)) = true ∧
 (decide (z 0 0 ≤ (3 : Int))) = true ∧
 (decide ((0 : Int) ≤ z 0 1)) = true ∧
 (!decide (z 0 1 ≤ (15 : Int))) = false ∧
 (decide ((0 : Int) ≤ z 1 0)) = true ∧
 (decide (z 1 0 ≤ (3 : Int))) = true ∧
 (decide ((0 : Int) ≤ z 1 1)) = true ∧
 (!decide (z 1 1 ≤ (15 : Int))) = true ∧
 (True) ∧
 Bool.true = Bool.true) ∧ ((decide ((0 : Int) ≤ z 1 1)) = false → (decide ((0 : Int) ≤ z 0 0)) = true ∧
 (decide (z 0 0 ≤ (3 : Int))) = true ∧
 (decide ((0 : Int) ≤ z 0 1)) = true ∧
 (!decide (z 0 1 ≤ (15 : Int))) = false ∧
 (decide ((0 : Int) ≤ z 1 0)) = true ∧
 (decide (z 1 0 ≤ (3 : Int))) = true ∧
 (decide ((0 : Int) ≤ z 1 1)) = false ∧
 (True) ∧
 Bool.true = Bool.true))) ∧ ((decide (z 1 0 ≤ (3 : Int))) = false → (decide ((0 : Int) ≤ z 0 0)) = true ∧
 (decide (z 0 0 ≤ (3 : Int))) = true ∧
 (decide ((0 : Int) ≤ z 0 1)) = true ∧
 (!decide (z 0 1 ≤ (15 : Int))) = false ∧
 (decide ((0 : Int) ≤ z 1 0)) = true ∧
 (decide (z 1 0 ≤ (3 : Int))) = false ∧
 (True) ∧
 Bool.true = Bool.true))) ∧ ((decide ((0 : Int) ≤ z 1 0)) = false → (decide ((0 : Int) ≤ z 0 0)) = true ∧
 (decide (z 0 0 ≤ (3 : Int))) = true ∧
 (decide ((0 : Int) ≤ z 0 1)) = true ∧
 (!decide (z 0 1 ≤ (15 : Int))) = false ∧
 (decide ((0 : Int) ≤ z 1 0)) = false ∧
 (True) ∧
 Bool.true = Bool.true))))) ∧ ((decide ((0 : Int) ≤ z 0 1)) = false → (decide ((0 : Int) ≤ z 0 0)) = true ∧
 (decide (z 0 0 ≤ (3 : Int))) = true ∧
 (decide ((0 : Int) ≤ z 0 1)) = false ∧
 (True) ∧
 Bool.true = Bool.true))) ∧ ((decide (z 0 0 ≤ (3 : Int))) = false → (decide ((0 : Int) ≤ z 0 0)) = true ∧
 (decide (z 0 0 ≤ (3 : Int))) = false ∧
 (True) ∧
 Bool.true = Bool.true))) ∧ ((decide ((0 : Int) ≤ z 0 0)) = false → (decide ((0 : Int) ≤ z 0 0)) = false ∧
 (True) ∧
 Bool.true = Bool.true))) (by kernel_rfl) ?_⟩
  repeat' (first | (refine And.intro ?_ ?_) | (with_reducible intro hh; (try simp (disch := omega) only [decide_eq_true_eq, decide_eq_false_iff_not, Bool.and_eq_true, Bool.and_eq_false_imp, Bool.not_eq_true', Bool.not_eq_false', reduceCtorEq, or_false, or_true, Bool.or_eq_true, Bool.or_eq_false_iff, Int.not_lt, Int.not_le, beq_iff_eq, beq_eq_false_iff_ne, sameM_self, fO_rM, dO_rM, Nat.zero_add, Nat.mul_one, Nat.sub_zero, Int.toNat_natCast, decide_true, decide_false, cond_true, cond_false, wrap_id, beq_self_eq_true, tmod_nn, tdiv_nn, Bool.true_and, Bool.and_true, true_and, and_true, and_self, Bool.not_true, Bool.not_false] at hh)))
  all_goals (first | with_reducible rfl | exact True.intro | (first | with_reducible assumption | omega | (simp only [decide_eq_true_eq, decide_eq_false_iff_not, Bool.and_eq_true, Bool.and_eq_false_imp, Bool.not_eq_true', Bool.not_eq_false', reduceCtorEq, or_false, or_true, Bool.or_eq_true, Bool.or_eq_false_iff, Int.not_lt, Int.not_le, beq_iff_eq, beq_eq_false_iff_ne]; omega) | (simp (disch := omega) only [decide_eq_true_eq, decide_eq_false_iff_not, Bool.and_eq_true, Bool.and_eq_false_imp, Bool.not_eq_true', Bool.not_eq_false', reduceCtorEq, or_false, or_true, Bool.or_eq_true, Bool.or_eq_false_iff, Int.not_lt, Int.not_le, beq_iff_eq, beq_eq_false_iff_ne, sameM_self, fO_rM, dO_rM, Nat.zero_add, Nat.mul_one, Nat.sub_zero, Int.toNat_natCast, decide_true, decide_false, cond_true, cond_false, wrap_id, beq_self_eq_true, tmod_nn, tdiv_nn, Bool.true_and, Bool.and_true, true_and, and_true, and_self, Bool.not_true, Bool.not_false]; first | done | omega) | (simp (disch := omega) only [decide_eq_true_eq, decide_eq_false_iff_not, Bool.and_eq_true, Bool.and_eq_false_imp, Bool.not_eq_true', Bool.not_eq_false', reduceCtorEq, or_false, or_true, Bool.or_eq_true, Bool.or_eq_false_iff, Int.not_lt, Int.not_le, beq_iff_eq, beq_eq_false_iff_ne, sameM_self, fO_rM, dO_rM, Nat.zero_add, Nat.mul_one, Nat.sub_zero, Int.toNat_natCast, decide_true, decide_false, cond_true, cond_false, wrap_id, beq_self_eq_true, tmod_nn, tdiv_nn, Bool.true_and, Bool.and_true, true_and, and_true, and_self, Bool.not_true, Bool.not_false] at *; first | done | omega)) | trace_state)
theorem main3 (z : Nat → Nat → Int) (a : Nat → Nat → Int) (s : Nat → Nat → ByteArray) (m : Nat) (p p2 : Pl) (g0 : 0 ≤ z 0 0 ∧ z 0 0 ≤ 3 ∧ 0 ≤ z 0 1 ∧ z 0 1 ≤ 15) (g1 : 0 ≤ z 1 0 ∧ z 1 0 ≤ 3 ∧ 0 ≤ z 1 1 ∧ z 1 1 ≤ 15) (g2 : 0 ≤ z 2 0 ∧ z 2 0 ≤ 3 ∧ 0 ≤ z 2 1 ∧ z 2 1 ≤ 15) (K : Nat) (hG : LO Try.prog (lp Try.prog 3 0) (TL 3 m 0) (SE z 3 a s m) (.x 0 (TL 3 m K) (S z 3 a s m (qc z 3 a s) (qf z 3 a s) (qd z 3 a s) (qr z 3 a s) K))) : ∃ r, callK (HS Try.prog [54, 41] ctr) Try.prog 3 [.sl 0 0 3 3 false, .sl 1 0 m m false] (sOf [(p, .flat 2 true [.int .i64 (z 0 0), .int .i64 (z 0 1), .int .i64 (z 1 0), .int .i64 (z 1 1), .int .i64 (z 2 0), .int .i64 (z 2 1)]), (p2, .fam 4 true m (rA a s))]) kTrue r := by
  refine ⟨.zn 13 <| .U <| .Z <| .Z <| .T <| .zn 3 <| .T <| .zn 3 <| .T <| .zn 3 <| .N <| .Z <| .Z <| .T <| .zn 3 <| .T <| .zn 3 <| .T <| .zn 3 <| .N <| .Z <| .Z <| .T <| .zn 3 <| .T <| .zn 3 <| .T <| .zn 3 <| .N <| .zn 3 <| .U <| .zn 13 <| .U <| .Z <| .Z <| .T <| .zn 3 <| .T <| .zn 3 <| .T <| .zn 3 <| .N <| .Z <| .Z <| .T <| .zn 3 <| .T <| .zn 3 <| .T <| .zn 3 <| .N <| .Z <| .Z <| .T <| .zn 3 <| .T <| .zn 3 <| .T <| .zn 3 <| .N <| .zn 18 <| .U <| .zn 3 <| .N <| .zn 3 <| .N <| .zn 3 <| .N <| .zn 23 <| .U <| .zn 10 <| .M ([(1003, 80), (1002, 81), (1001, 64), (1000, 12)]) (TL 3 m 0) (SE z 3 a s m) (Go.AE.Out.x 0 (TL 3 m K) (S z 3 a s m (qc z 3 a s) (qf z 3 a s) (qd z 3 a s) (qr z 3 a s) K)) <| .E (0) [], Go.AE.kchange (b := (decide ((0 : Int) ≤ z 0 0)) = true ∧
 (decide (z 0 0 ≤ (3 : Int))) = true ∧
 (decide ((0 : Int) ≤ z 0 1)) = true ∧
 (!decide (z 0 1 ≤ (15 : Int))) = false ∧
 (decide ((0 : Int) ≤ z 1 0)) = true ∧
 (decide (z 1 0 ≤ (3 : Int))) = true ∧
 (decide ((0 : Int) ≤ z 1 1)) = true ∧
 (!decide (z 1 1 ≤ (15 : Int))) = false ∧
 (decide ((0 : Int) ≤ z 2 0)) = true ∧
 (decide (z 2 0 ≤ (3 : Int))) = true ∧
 (decide ((0 : Int) ≤ z 2 1)) = true ∧
 (!decide (z 2 1 ≤ (15 : Int))) = false ∧
 (decide ((0 : Int) ≤ z 0 0)) = true ∧
 (decide (z 0 0 ≤ (3 : Int))) = true ∧
 (decide ((0 : Int) ≤ z 0 1)) = true ∧
 (!decide (z 0 1 ≤ (15 : Int))) = false ∧
 (decide ((0 : Int) ≤ z 1 0)) = true ∧
 (decide (z 1 0 ≤ (3 : Int))) = true ∧
 (decide ((0 : Int) ≤ z 1 1)) = true ∧
 (!decide (z 1 1 ≤ (15 : Int))) = false ∧
 (decide ((0 : Int) ≤ z 2 0)) = true ∧
 (decide (z 2 0 ≤ (3 : Int))) = true ∧
 (decide ((0 : Int) ≤ z 2 1)) = true ∧
 (!decide (z 2 1 ≤ (15 : Int))) = false ∧
 (!(z 0 0 == z 0 0 && (z 0 1 == z 0 1 && Bool.true))) = false ∧
 (!(z 1 0 == z 1 0 && (z 1 1 == z 1 1 && Bool.true))) = false ∧
 (!(z 2 0 == z 2 0 && (z 2 1 == z 2 1 && Bool.true))) = false ∧
 (((0 = 0 ∧ 3 = 3 ∧ 3 ≤ 3 ∧ 3 ≤ 3) ∧ (0 = 0 ∧ m = m ∧ m ≤ m ∧ m ≤ m) ∧ Bool.false = Bool.false ∧ (0 = 0 ∧ 0 = 0) ∧ (0 = 0 ∧ 0 = 0) ∧ (0 : Int) = (0 : Int) ∧ True) ∧ ((0 = 0 ∧ 3 = 3 ∧ 3 ≤ 3 ∧ 3 ≤ 3) ∧ True) ∧ (z 0 0 = z 0 0 ∧ z 0 1 = z 0 1 ∧ True ∧ (0 : Int) = (0 : Int) ∧ z 1 0 = z 1 0 ∧ z 1 1 = z 1 1 ∧ True ∧ (0 : Int) = (0 : Int) ∧ z 2 0 = z 2 0 ∧ z 2 1 = z 2 1 ∧ True ∧ (0 : Int) = (0 : Int) ∧ True) ∧ ((0 = 0 ∧ 3 = 3 ∧ 3 ≤ 3 ∧ 3 ≤ 3) ∧ True ∧ True ∧ True ∧ True ∧ (0 : Int) = (0 : Int) ∧ (0 : Int) = (0 : Int) ∧ (0 : Int) = (0 : Int) ∧ (0 : Int) = (0 : Int) ∧ True) ∧ (z 0 0 = z 0 0 ∧ z 0 1 = z 0 1 ∧ z 1 0 = z 1 0 ∧ z 1 1 = z 1 1 ∧ z 2 0 = z 2 0 ∧ z 2 1 = z 2 1 ∧ True) ∧ (m ≤ m ∧ (∀ (jj0 : Nat), (jj0 < m → True ∧ a jj0 0 = a jj0 0 ∧ a jj0 1 = a jj0 1 ∧ a jj0 2 = a jj0 2 ∧ s jj0 3 = s jj0 3 ∧ True))) ∧ True) ∧
 LO (Go.Proofs.Try.prog) (Go.AE.lp Go.Proofs.Try.prog 3 0) (TL 3 m 0) (SE z 3 a s m) (Go.AE.Out.x 0 (TL 3 m K) (S z 3 a s m (qc z 3 a s) (qf z 3 a s) (qd z 3 a s) (qr z 3 a s) K)) ∧
 (True) ∧
 Bool.true = Bool.true) (by kernel_rfl) ?_⟩
  repeat' (first | exact hG | (refine And.intro ?_ ?_) | (with_reducible intro hh; (try simp (disch := omega) only [decide_eq_true_eq, decide_eq_false_iff_not, Bool.and_eq_true, Bool.and_eq_false_imp, Bool.not_eq_true', Bool.not_eq_false', reduceCtorEq, or_false, or_true, Bool.or_eq_true, Bool.or_eq_false_iff, Int.not_lt, Int.not_le, beq_iff_eq, beq_eq_false_iff_ne, sameM_self, fO_rM, dO_rM, Nat.zero_add, Nat.mul_one, Nat.sub_zero, Int.toNat_natCast, decide_true, decide_false, cond_true, cond_false, wrap_id, beq_self_eq_true, tmod_nn, tdiv_nn, Bool.true_and, Bool.and_true, true_and, and_true, and_self, Bool.not_true, Bool.not_false] at hh)))
  all_goals (first | with_reducible rfl | exact True.intro | (first | with_reducible assumption | omega | (simp only [decide_eq_true_eq, decide_eq_false_iff_not, Bool.and_eq_true, Bool.and_eq_false_imp, Bool.not_eq_true', Bool.not_eq_false', reduceCtorEq, or_false, or_true, Bool.or_eq_true, Bool.or_eq_false_iff, Int.not_lt, Int.not_le, beq_iff_eq, beq_eq_false_iff_ne]; omega) | (simp (disch := omega) only [decide_eq_true_eq, decide_eq_false_iff_not, Bool.and_eq_true, Bool.and_eq_false_imp, Bool.not_eq_true', Bool.not_eq_false', reduceCtorEq, or_false, or_true, Bool.or_eq_true, Bool.or_eq_false_iff, Int.not_lt, Int.not_le, beq_iff_eq, beq_eq_false_iff_ne, sameM_self, fO_rM, dO_rM, Nat.zero_add, Nat.mul_one, Nat.sub_zero, Int.toNat_natCast, decide_true, decide_false, cond_true, cond_false, wrap_id, beq_self_eq_true, tmod_nn, tdiv_nn, Bool.true_and, Bool.and_true, true_and, and_true, and_self, Bool.not_true, Bool.not_false]; first | done | omega) | (simp (disch := omega) only [decide_eq_true_eq, decide_eq_false_iff_not, Bool.and_eq_true, Bool.and_eq_false_imp, Bool.not_eq_true', Bool.not_eq_false', reduceCtorEq, or_false, or_true, Bool.or_eq_true, Bool.or_eq_false_iff, Int.not_lt, Int.not_le, beq_iff_eq, beq_eq_false_iff_ne, sameM_self, fO_rM, dO_rM, Nat.zero_add, Nat.mul_one, Nat.sub_zero, Int.toNat_natCast, decide_true, decide_false, cond_true, cond_false, wrap_id, beq_self_eq_true, tmod_nn, tdiv_nn, Bool.true_and, Bool.and_true, true_and, and_true, and_self, Bool.not_true, Bool.not_false] at *; first | done | omega)) | exact fun _ _ => rfl | rfl | trace_state)
theorem refd3 (z : Nat → Nat → Int) (a : Nat → Nat → Int) (s : Nat → Nat → ByteArray) (m : Nat) (p p2 : Pl) (hb : ¬ ((0 ≤ z 0 0 ∧ z 0 0 ≤ 3 ∧ 0 ≤ z 0 1 ∧ z 0 1 ≤ 15) ∧ (0 ≤ z 1 0 ∧ z 1 0 ≤ 3 ∧ 0 ≤ z 1 1 ∧ z 1 1 ≤ 15) ∧ (0 ≤ z 2 0 ∧ z 2 0 ≤ 3 ∧ 0 ≤ z 2 1 ∧ z 2 1 ≤ 15))) : ∃ r, callK (HS Try.prog [54, 41] ctr) Try.prog 3 [.sl 0 0 3 3 false, .sl 1 0 m m false] (sOf [(p, .flat 2 true [.int .i64 (z 0 0), .int .i64 (z 0 1), .int .i64 (z 1 0), .int .i64 (z 1 1), .int .i64 (z 2 0), .int .i64 (z 2 1)]), (p2, .fam 4 true m (rA a s))]) kTrue r := by
  refine ⟨.zn 13 <| .U <| .Z <| .Z <| .B (.zn 3 <| .B (.zn 3 <| .B (.zn 3 <| .B (.Z <| .Z <| .U <| .Z <| .Z <| .T <| .zn 3 <| .T <| .zn 3 <| .T <| .zn 3 <| .T <| .zn 6 <| .E (0) []) (.Z <| .Z <| .B (.zn 3 <| .B (.zn 3 <| .B (.zn 3 <| .B (.Z <| .Z <| .U <| .Z <| .Z <| .T <| .zn 3 <| .T <| .zn 3 <| .T <| .zn 3 <| .N <| .Z <| .Z <| .T <| .zn 3 <| .T <| .zn 3 <| .T <| .zn 3 <| .T <| .zn 6 <| .E (0) []) (.Z <| .Z <| .B (.zn 3 <| .B (.zn 3 <| .B (.zn 3 <| .T <| .Z <| .Z <| .U <| .Z <| .Z <| .T <| .zn 3 <| .T <| .zn 3 <| .T <| .zn 3 <| .N <| .Z <| .Z <| .T <| .zn 3 <| .T <| .zn 3 <| .T <| .zn 3 <| .N <| .Z <| .Z <| .T <| .zn 3 <| .T <| .zn 3 <| .T <| .zn 3 <| .T <| .zn 6 <| .E (0) []) (.zn 6 <| .U <| .Z <| .Z <| .T <| .zn 3 <| .T <| .zn 3 <| .T <| .zn 3 <| .N <| .Z <| .Z <| .T <| .zn 3 <| .T <| .zn 3 <| .T <| .zn 3 <| .N <| .Z <| .Z <| .T <| .zn 3 <| .T <| .zn 3 <| .N <| .zn 10 <| .E (0) [])) (.zn 10 <| .U <| .Z <| .Z <| .T <| .zn 3 <| .T <| .zn 3 <| .T <| .zn 3 <| .N <| .Z <| .Z <| .T <| .zn 3 <| .T <| .zn 3 <| .T <| .zn 3 <| .N <| .Z <| .Z <| .T <| .zn 3 <| .N <| .zn 14 <| .E (0) [])) (.zn 14 <| .U <| .Z <| .Z <| .T <| .zn 3 <| .T <| .zn 3 <| .T <| .zn 3 <| .N <| .Z <| .Z <| .T <| .zn 3 <| .T <| .zn 3 <| .T <| .zn 3 <| .N <| .Z <| .Z <| .N <| .zn 18 <| .E (0) []))) (.zn 6 <| .U <| .Z <| .Z <| .T <| .zn 3 <| .T <| .zn 3 <| .T <| .zn 3 <| .N <| .Z <| .Z <| .T <| .zn 3 <| .T <| .zn 3 <| .N <| .zn 10 <| .E (0) [])) (.zn 10 <| .U <| .Z <| .Z <| .T <| .zn 3 <| .T <| .zn 3 <| .T <| .zn 3 <| .N <| .Z <| .Z <| .T <| .zn 3 <| .N <| .zn 14 <| .E (0) [])) (.zn 14 <| .U <| .Z <| .Z <| .T <| .zn 3 <| .T <| .zn 3 <| .T <| .zn 3 <| .N <| .Z <| .Z <| .N <| .zn 18 <| .E (0) []))) (.zn 6 <| .U <| .Z <| .Z <| .T <| .zn 3 <| .T <| .zn 3 <| .N <| .zn 10 <| .E (0) [])) (.zn 10 <| .U <| .Z <| .Z <| .T <| .zn 3 <| .N <| .zn 14 <| .E (0) [])) (.zn 14 <| .U <| .Z <| .Z <| .N <| .zn 18 <| .E (0) []), Go.AE.kchange (b := (((decide ((0 : Int) ≤ z 0 0)) = true → (((decide (z 0 0 ≤ (3 : Int))) = true → (((decide ((0 : Int) ≤ z 0 1)) = true → (((!decide (z 0 1 ≤ (15 : Int))) = true → (decide ((0 : Int) ≤ z 0 0)) = true ∧
 (decide (z 0 0 ≤ (3 : Int))) = true ∧
 (decide ((0 : Int) ≤ z 0 1)) = true ∧
 (!decide (z 0 1 ≤ (15 : Int))) = true ∧
 (True) ∧
 Bool.true = Bool.true) ∧ ((!decide (z 0 1 ≤ (15 : Int))) = false → (((decide ((0 : Int) ≤ z 1 0)) = true → (((decide (z 1 0 ≤ (3 : Int))) = true → (((decide ((0 : Int) ≤ z 1 1)) = true → (((!decide (z 1 1 ≤ (15 : Int))) = true → (decide ((0 : Int) ≤ z 0 0)) = true ∧
 (decide (z 0 0 ≤ (3 : Int))) = true ∧
 (decide ((0 : Int) ≤ z 0 1)) = true ∧
 (!decide (z 0 1 ≤ (15 : Int))) = false ∧
 (decide ((0 : Int) ≤ z 1 0)) = true ∧
 (decide (z 1 0 ≤ (3 : Int))) = true ∧
 (decide ((0 : Int) ≤ z 1 1)) = true ∧
 (!decide (z 1 1 ≤ (15 : Int))) = true ∧
 (True) ∧
 Bool.true = Bool.true) ∧ ((!decide (z 1 1 ≤ (15 : Int))) = false → (((decide ((0 : Int) ≤ z 2 0)) = true → (((decide (z 2 0 ≤ (3 : Int))) = true → (((decide ((0 : Int) ≤ z 2 1)) = true → (!decide (z 2 1 ≤ (15 : Int))) = true ∧
 (decide ((0 : Int) ≤ z 0 0)) = true ∧
 (decide (z 0 0 ≤ (3 : Int))) = true ∧
 (decide ((0 : Int) ≤ z 0 1)) = true ∧
 (!decide (z 0 1 ≤ (15 : Int))) = false ∧
 (decide ((0 : Int) ≤ z 1 0)) = true ∧
 (decide (z 1 0 ≤ (3 : Int))) = true ∧
 (decide ((0 : Int) ≤ z 1 1)) = true ∧
 (!decide (z 1 1 ≤ (15 : Int))) = false ∧
 (decide ((0 : Int) ≤ z 2 0)) = true ∧
 (decide (z 2 0 ≤ (3 : Int))) = true ∧
 (decide ((0 : Int) ≤ z 2 1)) = true ∧
 (!decide (z 2 1 ≤ (15 : Int))) = true ∧
 (True) ∧
 Bool.true = Bool.true) ∧ ((decide ((0 : Int) ≤ z 2 1)) = false → (decide ((0 : Int) ≤ z 0 0)) = true ∧
 (decide (z 0 0 ≤ (3 : Int))) = true ∧
 (decide ((0 : Int) ≤ z 0 1)) = true ∧
 (!decide (z 0 1 ≤ (15 : Int))) = false ∧
 (decide ((0 : Int) ≤ z 1 0)) = true ∧
 (decide (z 1 0 ≤ (3 : Int))) = true ∧
 (decide ((0 : Int) ≤ z 1 1)) = true ∧
 (!decide (z 1 1 ≤ (15 : Int))) = false ∧
 (decide ((0 : Int) ≤ z 2 0)) = true ∧
 (decide (z 2 0 ≤ (3 : Int))) = true ∧
 (decide ((0 : Int) ≤ z 2 1)) = false ∧
 (True) ∧
 Bool.true = Bool.true))) ∧ ((decide (z 2 0 ≤ (3 : Int))) = false → (decide ((0 : Int) ≤ z 0 0)) = true ∧
 (decide (z 0 0 ≤ (3 : Int))) = true ∧
 (decide ((0 : Int) ≤ z 0 1)) = true ∧
 (!decide (z 0 1 ≤ (15 : Int))) = false ∧
 (decide ((0 : Int) ≤ z 1 0)) = true ∧
 (decide (z 1 0 ≤ (3 : Int))) = true ∧
 (decide ((0 : Int) ≤ z 1 1)) = true ∧
 (!decide (z 1 1 ≤ (15 : Int))) = false ∧
 (decide ((0 : Int) ≤ z 2 0)) = true ∧
 (decide (z 2 0 ≤ (3 : Int))) = false ∧
 (True) ∧
 Bool.true = Bool.true))) ∧ ((decide ((0 : Int) ≤ z 2 0)) = false → (decide ((0 : Int) ≤ z 0 0)) = true ∧
 (decide (z 0 0 ≤ (3 : Int))) = true ∧
 (decide ((0 : Int) ≤ z 0 1)) = true ∧
 (!decide (z 0 1 ≤ (15 : Int))) = false ∧
 (decide ((0 : Int) ≤ z 1 0)) = true ∧
 (decide (z 1 0 ≤ (3 : Int))) = true ∧
 (decide ((0 : Int) ≤ z 1 1)) = true ∧
 (!decide (z 1 1 ≤ (15 : Int))) = false ∧
 (decide ((0 : Int) ≤ z 2 0)) = false ∧
 (True) ∧
 Bool.true = Bool.true))))) ∧ ((decide ((0 : Int) ≤ z 1 1)) = false → (decide ((0 : Int) ≤ z 0 0)) = true ∧
 (decide (z 0 0 ≤ (3 : Int))) = true ∧
 (decide ((0 : Int) ≤ z 0 1)) = true ∧
 (!decide (z 0 1 ≤ (15 : Int))) = false ∧
 (decide ((0 : Int) ≤ z 1 0)) = true ∧
 (decide (z 1 0 ≤ (3 : Int))) = true ∧
 (decide ((0 : Int) ≤ z 1 1)) = false ∧
 (True) ∧
 Bool.true = Bool.true))) ∧ ((decide (z 1 0 ≤ (3 : Int))) = false → (decide ((0 : Int) ≤ z 0 0)) = true ∧
 (decide (z 0 0 ≤ (3 : Int))) = true ∧
 (decide ((0 : Int) ≤ z 0 1)) = true ∧
 (!decide (z 0 1 ≤ (15 : Int))) = false ∧
 (decide ((0 : Int) ≤ z 1 0)) = true ∧
 (decide (z 1 0 ≤ (3 : Int))) = false ∧
 (True) ∧
 Bool.true = Bool.true))) ∧ ((decide ((0 : Int) ≤ z 1 0)) = false → (decide ((0 : Int) ≤ z 0 0)) = true ∧
 (decide (z 0 0 ≤ (3 : Int))) = true ∧
 (decide ((0 : Int) ≤ z 0 1)) = true ∧
 (!decide (z 0 1 ≤ (15 : Int))) = false ∧
 (decide ((0 : Int) ≤ z 1 0)) = false ∧
 (True) ∧
 Bool.true = Bool.true))))) ∧ ((decide ((0 : Int) ≤ z 0 1)) = false → (decide ((0 : Int) ≤ z 0 0)) = true ∧
 (decide (z 0 0 ≤ (3 : Int))) = true ∧
 (decide ((0 : Int) ≤ z 0 1)) = false ∧
 (True) ∧
 Bool.true = Bool.true))) ∧ ((decide (z 0 0 ≤ (3 : Int))) = false → (decide ((0 : Int) ≤ z 0 0)) = true ∧
 (decide (z 0 0 ≤ (3 : Int))) = false ∧
 (True) ∧
 Bool.true = Bool.true))) ∧ ((decide ((0 : Int) ≤ z 0 0)) = false → (decide ((0 : Int) ≤ z 0 0)) = false ∧
 (True) ∧
 Bool.true = Bool.true))) (by kernel_rfl) ?_⟩
  repeat' (first | (refine And.intro ?_ ?_) | (with_reducible intro hh; (try simp (disch := omega) only [decide_eq_true_eq, decide_eq_false_iff_not, Bool.and_eq_true, Bool.and_eq_false_imp, Bool.not_eq_true', Bool.not_eq_false', reduceCtorEq, or_false, or_true, Bool.or_eq_true, Bool.or_eq_false_iff, Int.not_lt, Int.not_le, beq_iff_eq, beq_eq_false_iff_ne, sameM_self, fO_rM, dO_rM, Nat.zero_add, Nat.mul_one, Nat.sub_zero, Int.toNat_natCast, decide_true, decide_false, cond_true, cond_false, wrap_id, beq_self_eq_true, tmod_nn, tdiv_nn, Bool.true_and, Bool.and_true, true_and, and_true, and_self, Bool.not_true, Bool.not_false] at hh)))
  all_goals (first | with_reducible rfl | exact True.intro | (first | with_reducible assumption | omega | (simp only [decide_eq_true_eq, decide_eq_false_iff_not, Bool.and_eq_true, Bool.and_eq_false_imp, Bool.not_eq_true', Bool.not_eq_false', reduceCtorEq, or_false, or_true, Bool.or_eq_true, Bool.or_eq_false_iff, Int.not_lt, Int.not_le, beq_iff_eq, beq_eq_false_iff_ne]; omega) | (simp (disch := omega) only [decide_eq_true_eq, decide_eq_false_iff_not, Bool.and_eq_true, Bool.and_eq_false_imp, Bool.not_eq_true', Bool.not_eq_false', reduceCtorEq, or_false, or_true, Bool.or_eq_true, Bool.or_eq_false_iff, Int.not_lt, Int.not_le, beq_iff_eq, beq_eq_false_iff_ne, sameM_self, fO_rM, dO_rM, Nat.zero_add, Nat.mul_one, Nat.sub_zero, Int.toNat_natCast, decide_true, decide_false, cond_true, cond_false, wrap_id, beq_self_eq_true, tmod_nn, tdiv_nn, Bool.true_and, Bool.and_true, true_and, and_true, and_self, Bool.not_true, Bool.not_false]; first | done | omega) | (simp (disch := omega) only [decide_eq_true_eq, decide_eq_false_iff_not, Bool.and_eq_true, Bool.and_eq_false_imp, Bool.not_eq_true', Bool.not_eq_false', reduceCtorEq, or_false, or_true, Bool.or_eq_true, Bool.or_eq_false_iff, Int.not_lt, Int.not_le, beq_iff_eq, beq_eq_false_iff_ne, sameM_self, fO_rM, dO_rM, Nat.zero_add, Nat.mul_one, Nat.sub_zero, Int.toNat_natCast, decide_true, decide_false, cond_true, cond_false, wrap_id, beq_self_eq_true, tmod_nn, tdiv_nn, Bool.true_and, Bool.and_true, true_and, and_true, and_self, Bool.not_true, Bool.not_false] at *; first | done | omega)) | trace_state)
theorem main4 (z : Nat → Nat → Int) (a : Nat → Nat → Int) (s : Nat → Nat → ByteArray) (m : Nat) (p p2 : Pl) (g0 : 0 ≤ z 0 0 ∧ z 0 0 ≤ 3 ∧ 0 ≤ z 0 1 ∧ z 0 1 ≤ 15) (g1 : 0 ≤ z 1 0 ∧ z 1 0 ≤ 3 ∧ 0 ≤ z 1 1 ∧ z 1 1 ≤ 15) (g2 : 0 ≤ z 2 0 ∧ z 2 0 ≤ 3 ∧ 0 ≤ z 2 1 ∧ z 2 1 ≤ 15) (g3 : 0 ≤ z 3 0 ∧ z 3 0 ≤ 3 ∧ 0 ≤ z 3 1 ∧ z 3 1 ≤ 15) (K : Nat) (hG : LO Try.prog (lp Try.prog 3 0) (TL 4 m 0) (SE z 4 a s m) (.x 0 (TL 4 m K) (S z 4 a s m (qc z 4 a s) (qf z 4 a s) (qd z 4 a s) (qr z 4 a s) K))) : ∃ r, callK (HS Try.prog [54, 41] ctr) Try.prog 3 [.sl 0 0 4 4 false, .sl 1 0 m m false] (sOf [(p, .flat 2 true [.int .i64 (z 0 0), .int .i64 (z 0 1), .int .i64 (z 1 0), .int .i64 (z 1 1), .int .i64 (z 2 0), .int .i64 (z 2 1), .int .i64 (z 3 0), .int .i64 (z 3 1)]), (p2, .fam 4 true m (rA a s))]) kTrue r := by
  refine ⟨.zn 13 <| .U <| .Z <| .Z <| .T <| .zn 3 <| .T <| .zn 3 <| .T <| .zn 3 <| .N <| .Z <| .Z <| .T <| .zn 3 <| .T <| .zn 3 <| .T <| .zn 3 <| .N <| .Z <| .Z <| .T <| .zn 3 <| .T <| .zn 3 <| .T <| .zn 3 <| .N <| .Z <| .Z <| .T <| .zn 3 <| .T <| .zn 3 <| .T <| .zn 3 <| .N <| .zn 3 <| .U <| .zn 17 <| .U <| .Z <| .Z <| .T <| .zn 3 <| .T <| .zn 3 <| .T <| .zn 3 <| .N <| .Z <| .Z <| .T <| .zn 3 <| .T <| .zn 3 <| .T <| .zn 3 <| .N <| .Z <| .Z <| .T <| .zn 3 <| .T <| .zn 3 <| .T <| .zn 3 <| .N <| .Z <| .Z <| .T <| .zn 3 <| .T <| .zn 3 <| .T <| .zn 3 <| .N <| .zn 18 <| .U <| .zn 3 <| .N <| .zn 3 <| .N <| .zn 3 <| .N <| .zn 3 <| .N <| .zn 23 <| .U <| .zn 13 <| .M ([(1003, 104), (1002, 105), (1001, 87), (1000, 14)]) (TL 4 m 0) (SE z 4 a s m) (Go.AE.Out.x 0 (TL 4 m K) (S z 4 a s m (qc z 4 a s) (qf z 4 a s) (qd z 4 a s) (qr z 4 a s) K)) <| .E (0) [], Go.AE.kchange (b := (decide ((0 : Int) ≤ z 0 0)) = true ∧
 (decide (z 0 0 ≤ (3 : Int))) = true ∧
 (decide ((0 : Int) ≤ z 0 1)) = true ∧
 (!decide (z 0 1 ≤ (15 : Int))) = false ∧
 (decide ((0 : Int) ≤ z 1 0)) = true ∧
 (decide (z 1 0 ≤ (3 : Int))) = true ∧
 (decide ((0 : Int) ≤ z 1 1)) = true ∧
 (!decide (z 1 1 ≤ (15 : Int))) = false ∧
 (decide ((0 : Int) ≤ z 2 0)) = true ∧
 (decide (z 2 0 ≤ (3 : Int))) = true ∧
 (decide ((0 : Int) ≤ z 2 1)) = true ∧
 (!decide (z 2 1 ≤ (15 : Int))) = false ∧
 (decide ((0 : Int) ≤ z 3 0)) = true ∧
 (decide (z 3 0 ≤ (3 : Int))) = true ∧
 (decide ((0 : Int) ≤ z 3 1)) = true ∧
 (!decide (z 3 1 ≤ (15 : Int))) = false ∧
 (decide ((0 : Int) ≤ z 0 0)) = true ∧
 (decide (z 0 0 ≤ (3 : Int))) = true ∧
 (decide ((0 : Int) ≤ z 0 1)) = true ∧
 (!decide (z 0 1 ≤ (15 : Int))) = false ∧
 (decide ((0 : Int) ≤ z 1 0)) = true ∧
 (decide (z 1 0 ≤ (3 : Int))) = true ∧
 (decide ((0 : Int) ≤ z 1 1)) = true ∧
 (!decide (z 1 1 ≤ (15 : Int))) = false ∧
 (decide ((0 : Int) ≤ z 2 0)) = true ∧
 (decide (z 2 0 ≤ (3 : Int))) = true ∧
 (decide ((0 : Int) ≤ z 2 1)) = true ∧
 (!decide (z 2 1 ≤ (15 : Int))) = false ∧
 (decide ((0 : Int) ≤ z 3 0)) = true ∧
 (decide (z 3 0 ≤ (3 : Int))) = true ∧
 (decide ((0 : Int) ≤ z 3 1)) = true ∧
 (!decide (z 3 1 ≤ (15 : Int))) = false ∧
 (!(z 0 0 == z 0 0 && (z 0 1 == z 0 1 && Bool.true))) = false ∧
 (!(z 1 0 == z 1 0 && (z 1 1 == z 1 1 && Bool.true))) = false ∧
 (!(z 2 0 == z 2 0 && (z 2 1 == z 2 1 && Bool.true))) = false ∧
 (!(z 3 0 == z 3 0 && (z 3 1 == z 3 1 && Bool.true))) = false ∧
 (((0 = 0 ∧ 4 = 4 ∧ 4 ≤ 4 ∧ 4 ≤ 4) ∧ (0 = 0 ∧ m = m ∧ m ≤ m ∧ m ≤ m) ∧ Bool.false = Bool.false ∧ (0 = 0 ∧ 0 = 0) ∧ (0 = 0 ∧ 0 = 0) ∧ (0 : Int) = (0 : Int) ∧ True) ∧ ((0 = 0 ∧ 4 = 4 ∧ 4 ≤ 4 ∧ 4 ≤ 4) ∧ True) ∧ (z 0 0 = z 0 0 ∧ z 0 1 = z 0 1 ∧ True ∧ (0 : Int) = (0 : Int) ∧ z 1 0 = z 1 0 ∧ z 1 1 = z 1 1 ∧ True ∧ (0 : Int) = (0 : Int) ∧ z 2 0 = z 2 0 ∧ z 2 1 = z 2 1 ∧ True ∧ (0 : Int) = (0 : Int) ∧ z 3 0 = z 3 0 ∧ z 3 1 = z 3 1 ∧ True ∧ (0 : Int) = (0 : Int) ∧ True) ∧ ((0 = 0 ∧ 4 = 4 ∧ 4 ≤ 4 ∧ 4 ≤ 4) ∧ True ∧ True ∧ True ∧ True ∧ (0 : Int) = (0 : Int) ∧ (0 : Int) = (0 : Int) ∧ (0 : Int) = (0 : Int) ∧ (0 : Int) = (0 : Int) ∧ True) ∧ (z 0 0 = z 0 0 ∧ z 0 1 = z 0 1 ∧ z 1 0 = z 1 0 ∧ z 1 1 = z 1 1 ∧ z 2 0 = z 2 0 ∧ z 2 1 = z 2 1 ∧ z 3 0 = z 3 0 ∧ z 3 1 = z 3 1 ∧ True) ∧ (m ≤ m ∧ (∀ (jj0 : Nat), (jj0 < m → True ∧ a jj0 0 = a jj0 0 ∧ a jj0 1 = a jj0 1 ∧ a jj0 2 = a jj0 2 ∧ s jj0 3 = s jj0 3 ∧ True))) ∧ True) ∧
 LO (Go.Proofs.Try.prog) (Go.AE.lp Go.Proofs.Try.prog 3 0) (TL 4 m 0) (SE z 4 a s m) (Go.AE.Out.x 0 (TL 4 m K) (S z 4 a s m (qc z 4 a s) (qf z 4 a s) (qd z 4 a s) (qr z 4 a s) K)) ∧
 (True) ∧
 Bool.true = Bool.true) (by kernel_rfl) ?_⟩
  repeat' (first | exact hG | (refine And.intro ?_ ?_) | (with_reducible intro hh; (try simp (disch := omega) only [decide_eq_true_eq, decide_eq_false_iff_not, Bool.and_eq_true, Bool.and_eq_false_imp, Bool.not_eq_true', Bool.not_eq_false', reduceCtorEq, or_false, or_true, Bool.or_eq_true, Bool.or_eq_false_iff, Int.not_lt, Int.not_le, beq_iff_eq, beq_eq_false_iff_ne, sameM_self, fO_rM, dO_rM, Nat.zero_add, Nat.mul_one, Nat.sub_zero, Int.toNat_natCast, decide_true, decide_false, cond_true, cond_false, wrap_id, beq_self_eq_true, tmod_nn, tdiv_nn, Bool.true_and, Bool.and_true, true_and, and_true, and_self, Bool.not_true, Bool.not_false] at hh)))
  all_goals (first | with_reducible rfl | exact True.intro | (first | with_reducible assumption | omega | (simp only [decide_eq_true_eq, decide_eq_false_iff_not, Bool.and_eq_true, Bool.and_eq_false_imp, Bool.not_eq_true', Bool.not_eq_false', reduceCtorEq, or_false, or_true, Bool.or_eq_true, Bool.or_eq_false_iff, Int.not_lt, Int.not_le, beq_iff_eq, beq_eq_false_iff_ne]; omega) | (simp (disch := omega) only [decide_eq_true_eq, decide_eq_false_iff_not, Bool.and_eq_true, Bool.and_eq_false_imp, Bool.not_eq_true', Bool.not_eq_false', reduceCtorEq, or_false, or_true, Bool.or_eq_true, Bool.or_eq_false_iff, Int.not_lt, Int.not_le, beq_iff_eq, beq_eq_false_iff_ne, sameM_self, fO_rM, dO_rM, Nat.zero_add, Nat.mul_one, Nat.sub_zero, Int.toNat_natCast, decide_true, decide_false, cond_true, cond_false, wrap_id, beq_self_eq_true, tmod_nn, tdiv_nn, Bool.true_and, Bool.and_true, true_and, and_true, and_self, Bool.not_true, Bool.not_false]; first | done | omega) | (simp (disch := omega) only [decide_eq_true_eq, decide_eq_false_iff_not, Bool.and_eq_true, Bool.and_eq_false_imp, Bool.not_eq_true', Bool.not_eq_false', reduceCtorEq, or_false, or_true, Bool.or_eq_true, Bool.or_eq_false_iff, Int.not_lt, Int.not_le, beq_iff_eq, beq_eq_false_iff_ne, sameM_self, fO_rM, dO_rM, Nat.zero_add, Nat.mul_one, Nat.sub_zero, Int.toNat_natCast, decide_true, decide_false, cond_true, cond_false, wrap_id, beq_self_eq_true, tmod_nn, tdiv_nn, Bool.true_and, Bool.and_true, true_and, and_true, and_self, Bool.not_true, Bool.not_false] at *; first | done | omega)) | exact fun _ _ => rfl | rfl | trace_state)
theorem refd4 (z : Nat → Nat → Int) (a : Nat → Nat → Int) (s : Nat → Nat → ByteArray) (m : Nat) (p p2 : Pl) (hb : ¬ ((0 ≤ z 0 0 ∧ z 0 0 ≤ 3 ∧ 0 ≤ z 0 1 ∧ z 0 1 ≤ 15) ∧ (0 ≤ z 1 0 ∧ z 1 0 ≤ 3 ∧ 0 ≤ z 1 1 ∧ z 1 1 ≤ 15) ∧ (0 ≤ z 2 0 ∧ z 2 0 ≤ 3 ∧ 0 ≤ z 2 1 ∧ z 2 1 ≤ 15) ∧ (0 ≤ z 3 0 ∧ z 3 0 ≤ 3 ∧ 0 ≤ z 3 1 ∧ z 3 1 ≤ 15))) : ∃ r, callK (HS Try.prog [54, 41] ctr) Try.prog 3 [.sl 0 0 4 4 false, .sl 1 0 m m false] (sOf [(p, .flat 2 true [.int .i64 (z 0 0), .int .i64 (z 0 1), .int .i64 (z 1 0), .int .i64 (z 1 1), .int .i64 (z 2 0), .int .i64 (z 2 1), .int .i64 (z 3 0), .int .i64 (z 3 1)]), (p2, .fam 4 true m (rA a s))]) kTrue r := by
  refine ⟨.zn 13 <| .U <| .Z <| .Z <| .B (.zn 3 <| .B (.zn 3 <| .B (.zn 3 <| .B (.Z <| .Z <| .U <| .Z <| .Z <| .T <| .zn 3 <| .T <| .zn 3 <| .T <| .zn 3 <| .T <| .zn 6 <| .E (0) []) (.Z <| .Z <| .B (.zn 3 <| .B (.zn 3 <| .B (.zn 3 <| .B (.Z <| .Z <| .U <| .Z <| .Z <| .T <| .zn 3 <| .T <| .zn 3 <| .T <| .zn 3 <| .N <| .Z <| .Z <| .T <| .zn 3 <| .T <| .zn 3 <| .T <| .zn 3 <| .T <| .zn 6 <| .E (0) []) (.Z <| .Z <| .B (.zn 3 <| .B (.zn 3 <| .B (.zn 3 <| .B (.Z <| .Z <| .U <| .Z <| .Z <| .T <| .zn 3 <| .T <| .zn 3 <| .T <| .zn 3 <| .N <| .Z <| .Z <| .T <| .zn 3 <| .T <| .zn 3 <| .T <| .zn 3 <| .N <| .Z <| .Z <| .T <| .zn 3 <| .T <| .zn 3 <| .T <| .zn 3 <| .T <| .zn 6 <| .E (0) []) (.Z <| .Z <| .B (.zn 3 <| .B (.zn 3 <| .B (.zn 3 <| .T <| .Z <| .Z <| .U <| .Z <| .Z <| .T <| .zn 3 <| .T <| .zn 3 <| .T <| .zn 3 <| .N <| .Z <| .Z <| .T <| .zn 3 <| .T <| .zn 3 <| .T <| .zn 3 <| .N <| .Z <| .Z <| .T <| .zn 3 <| .T <| .zn 3 <| .T <| .zn 3 <| .N <| .Z <| .Z <| .T <| .zn 3 <| .T <| .zn 3 <| .T <| .zn 3 <| .T <| .zn 6 <| .E (0) []) (.zn 6 <| .U <| .Z <| .Z <| .T <| .zn 3 <| .T <| .zn 3 <| .T <| .zn 3 <| .N <| .Z <| .Z <| .T <| .zn 3 <| .T <| .zn 3 <| .T <| .zn 3 <| .N <| .Z <| .Z <| .T <| .zn 3 <| .T <| .zn 3 <| .T <| .zn 3 <| .N <| .Z <| .Z <| .T <| .zn 3 <| .T <| .zn 3 <| .N <| .zn 10 <| .E (0) [])) (.zn 10 <| .U <| .Z <| .Z <| .T <| .zn 3 <| .T <| .zn 3 <| .T <| .zn 3 <| .N <| .Z <| .Z <| .T <| .zn 3 <| .T <| .zn 3 <| .T <| .zn 3 <| .N <| .Z <| .Z <| .T <| .zn 3 <| .T <| .zn 3 <| .T <| .zn 3 <| .N <| .Z <| .Z <| .T <| .zn 3 <| .N <| .zn 14 <| .E (0) [])) (.zn 14 <| .U <| .Z <| .Z <| .T <| .zn 3 <| .T <| .zn 3 <| .T <| .zn 3 <| .N <| .Z <| .Z <| .T <| .zn 3 <| .T <| .zn 3 <| .T <| .zn 3 <| .N <| .Z <| .Z <| .T <| .zn 3 <| .T <| .zn 3 <| .T <| .zn 3 <| .N <| .Z <| .Z <| .N <| .zn 18 <| .E (0) []))) (.zn 6 <| .U <| .Z <| .Z <| .T <| .zn 3 <| .T <| .zn 3 <| .T <| .zn 3 <| .N <| .Z <| .Z <| .T <| .zn 3 <| .T <| .zn 3 <| .T <| .zn 3 <| .N <| .Z <| .Z <| .T <| .zn 3 <| .T <| .zn 3 <| .N <| .zn 10 <| .E (0) [])) (.zn 10 <| .U <| .Z <| .Z <| .T <| .zn 3 <| .T <| .zn 3 <| .T <| .zn 3 <| .N <| .Z <| .Z <| .T <| .zn 3 <| .T <| .zn 3 <| .T <| .zn 3 <| .N <| .Z <| .Z <| .T <| .zn 3 <| .N <| .zn 14 <| .E (0) [])) (.zn 14 <| .U <| .Z <| .Z <| .T <| .zn 3 <| .T <| .zn 3 <| .T <| .zn 3 <| .N <| .Z <| .Z <| .T <| .zn 3 <| .T <| .zn 3 <| .T <| .zn 3 <| .N <| .Z <| .Z <| .N <| .zn 18 <| .E (0) []))) (.zn 6 <| .U <| .Z <| .Z <| .T <| .zn 3 <| .T <| .zn 3 <| .T <| .zn 3 <| .N <| .Z <| .Z <| .T <| .zn 3 <| .T <| .zn 3 <| .N <| .zn 10 <| .E (0) [])) (.zn 10 <| .U <| .Z <| .Z <| .T <| .zn 3 <| .T <| .zn 3 <| .T <| .zn 3 <| .N <| .Z <| .Z <| .T <| .zn 3 <| .N <| .zn 14 <| .E (0) [])) (.zn 14 <| .U <| .Z <| .Z <| .T <| .zn 3 <| .T <| .zn 3 <| .T <| .zn 3 <| .N <| .Z <| .Z <| .N <| .zn 18 <| .E (0) []))) (.zn 6 <| .U <| .Z <| .Z <| .T <| .zn 3 <| .T <| .zn 3 <| .N <| .zn 10 <| .E (0) [])) (.zn 10 <| .U <| .Z <| .Z <| .T <| .zn 3 <| .N <| .zn 14 <| .E (0) [])) (.zn 14 <| .U <| .Z <| .Z <| .N <| .zn 18 <| .E (0) []), Go.AE.kchange (b := (((decide ((0 : Int) ≤ z 0 0)) = true → (((decide (z 0 0 ≤ (3 : Int))) = true → (((decide ((0 : Int) ≤ z 0 1)) = true → (((!decide (z 0 1 ≤ (15 : Int))) = true → (decide ((0 : Int) ≤ z 0 0)) = true ∧
 (decide (z 0 0 ≤ (3 : Int))) = true ∧
 (decide ((0 : Int) ≤ z 0 1)) = true ∧
 (!decide (z 0 1 ≤ (15 : Int))) = true ∧
 (True) ∧
 Bool.true = Bool.true) ∧ ((!decide (z 0 1 ≤ (15 : Int))) = false → (((decide ((0 : Int) ≤ z 1 0)) = true → (((decide (z 1 0 ≤ (3 : Int))) = true → (((decide ((0 : Int) ≤ z 1 1)) = true → (((!decide (z 1 1 ≤ (15 : Int))) = true → (decide ((0 : Int) ≤ z 0 0)) = true ∧
 (decide (z 0 0 ≤ (3 : Int))) = true ∧
 (decide ((0 : Int) ≤ z 0 1)) = true ∧
 (!decide (z 0 1 ≤ (15 : Int))) = false ∧
 (decide ((0 : Int) ≤ z 1 0)) = true ∧
 (decide (z 1 0 ≤ (3 : Int))) = true ∧
 (decide ((0 : Int) ≤ z 1 1)) = true ∧
 (!decide (z 1 1 ≤ (15 : Int))) = true ∧
 (True) ∧
 Bool.true = Bool.true) ∧ ((!decide (z 1 1 ≤ (15 : Int))) = false → (((decide ((0 : Int) ≤ z 2 0)) = true → (((decide (z 2 0 ≤ (3 : Int))) = true → (((decide ((0 : Int) ≤ z 2 1)) = true → (((!decide (z 2 1 ≤ (15 : Int))) = true → (decide ((0 : Int) ≤ z 0 0)) = true ∧
 (decide (z 0 0 ≤ (3 : Int))) = true ∧
 (decide ((0 : Int) ≤ z 0 1)) = true ∧
 (!decide (z 0 1 ≤ (15 : Int))) = false ∧
 (decide ((0 : Int) ≤ z 1 0)) = true ∧
 (decide (z 1 0 ≤ (3 : Int))) = true ∧
 (decide ((0 : Int) ≤ z 1 1)) = true ∧
 (!decide (z 1 1 ≤ (15 : Int))) = false ∧
 (decide ((0 : Int) ≤ z 2 0)) = true ∧
 (decide (z 2 0 ≤ (3 : Int))) = true ∧
 (decide ((0 : Int) ≤ z 2 1)) = true ∧
 (!decide (z 2 1 ≤ (15 : Int))) = true ∧
 (True) ∧
 Bool.true = Bool.true) ∧ ((!decide (z 2 1 ≤ (15 : Int))) = false → (((decide ((0 : Int) ≤ z 3 0)) = true → (((decide (z 3 0 ≤ (3 : Int))) = true → (((decide ((0 : Int) ≤ z 3 1)) = true → (!decide (z 3 1 ≤ (15 : Int))) = true ∧
 (decide ((0 : Int) ≤ z 0 0)) = true ∧
 (decide (z 0 0 ≤ (3 : Int))) = true ∧
 (decide ((0 : Int) ≤ z 0 1)) = true ∧
 (!decide (z 0 1 ≤ (15 : Int))) = false ∧
 (decide ((0 : Int) ≤ z 1 0)) = true ∧
 (decide (z 1 0 ≤ (3 : Int))) = true ∧
 (decide ((0 : Int) ≤ z 1 1)) = true ∧
 (!decide (z 1 1 ≤ (15 : Int))) = false ∧
 (decide ((0 : Int) ≤ z 2 0)) = true ∧
 (decide (z 2 0 ≤ (3 : Int))) = true ∧
 (decide ((0 : Int) ≤ z 2 1)) = true ∧
 (!decide (z 2 1 ≤ (15 : Int))) = false ∧
 (decide ((0 : Int) ≤ z 3 0)) = true ∧
 (decide (z 3 0 ≤ (3 : Int))) = true ∧
 (decide ((0 : Int) ≤ z 3 1)) = true ∧
 (!decide (z 3 1 ≤ (15 : Int))) = true ∧
 (True) ∧
 Bool.true = Bool.true) ∧ ((decide ((0 : Int) ≤ z 3 1)) = false → (decide ((0 : Int) ≤ z 0 0)) = true ∧
 (decide (z 0 0 ≤ (3 : Int))) = true ∧
 (decide ((0 : Int) ≤ z 0 1)) = true ∧
 (!decide (z 0 1 ≤ (15 : Int))) = false ∧
 (decide ((0 : Int) ≤ z 1 0)) = true ∧
 (decide (z 1 0 ≤ (3 : Int))) = true ∧
 (decide ((0 : Int) ≤ z 1 1)) = true ∧
 (!decide (z 1 1 ≤ (15 : Int))) = false ∧
 (decide ((0 : Int) ≤ z 2 0)) = true ∧
 (decide (z 2 0 ≤ (3 : Int))) = true ∧
 (decide ((0 : Int) ≤ z 2 1)) = true ∧
 (!decide (z 2 1 ≤ (15 : Int))) = false ∧
 (decide ((0 : Int) ≤ z 3 0)) = true ∧
 (decide (z 3 0 ≤ (3 : Int))) = true ∧
 (decide ((0 : Int) ≤ z 3 1)) = false ∧
 (True) ∧
 Bool.true = Bool.true))) ∧ ((decide (z 3 0 ≤ (3 : Int))) = false → (decide ((0 : Int) ≤ z 0 0)) = true ∧
 (decide (z 0 0 ≤ (3 : Int))) = true ∧
 (decide ((0 : Int) ≤ z 0 1)) = true ∧
 (!decide (z 0 1 ≤ (15 : Int))) = false ∧
 (decide ((0 : Int) ≤ z 1 0)) = true ∧
 (decide (z 1 0 ≤ (3 : Int))) = true ∧
 (decide ((0 : Int) ≤ z 1 1)) = true ∧
 (!decide (z 1 1 ≤ (15 : Int))) = false ∧
 (decide ((0 : Int) ≤ z 2 0)) = true ∧
 (decide (z 2 0 ≤ (3 : Int))) = true ∧
 (decide ((0 : Int) ≤ z 2 1)) = true ∧
 (!decide (z 2 1 ≤ (15 : Int))) = false ∧
 (decide ((0 : Int) ≤ z 3 0)) = true ∧
 (decide (z 3 0 ≤ (3 : Int))) = false ∧
 (True) ∧
 Bool.true = Bool.true))) ∧ ((decide ((0 : Int) ≤ z 3 0)) = false → (decide ((0 : Int) ≤ z 0 0)) = true ∧
 (decide (z 0 0 ≤ (3 : Int))) = true ∧
 (decide ((0 : Int) ≤ z 0 1)) = true ∧
 (!decide (z 0 1 ≤ (15 : Int))) = false ∧
 (decide ((0 : Int) ≤ z 1 0)) = true ∧
 (decide (z 1 0 ≤ (3 : Int))) = true ∧
 (decide ((0 : Int) ≤ z 1 1)) = true ∧
 (!decide (z 1 1 ≤ (15 : Int))) = false ∧
 (decide ((0 : Int) ≤ z 2 0)) = true ∧
 (decide (z 2 0 ≤ (3 : Int))) = true ∧
 (decide ((0 : Int) ≤ z 2 1)) = true ∧
 (!decide (z 2 1 ≤ (15 : Int))) = false ∧
 (decide ((0 : Int) ≤ z 3 0)) = false ∧
 (True) ∧
 Bool.true = Bool.true))))) ∧ ((decide ((0 : Int) ≤ z 2 1)) = false → (decide ((0 : Int) ≤ z 0 0)) = true ∧
 (decide (z 0 0 ≤ (3 : Int))) = true ∧
 (decide ((0 : Int) ≤ z 0 1)) = true ∧
 (!decide (z 0 1 ≤ (15 : Int))) = false ∧
 (decide ((0 : Int) ≤ z 1 0)) = true ∧
 (decide (z 1 0 ≤ (3 : Int))) = true ∧
 (decide ((0 : Int) ≤ z 1 1)) = true ∧
 (!decide (z 1 1 ≤ (15 : Int))) = false ∧
 (decide ((0 : Int) ≤ z 2 0)) = true ∧
 (decide (z 2 0 ≤ (3 : Int))) = true ∧
 (decide ((0 : Int) ≤ z 2 1)) = false ∧
 (True) ∧
 Bool.true = Bool.true))) ∧ ((decide (z 2 0 ≤ (3 : Int))) = false → (decide ((0 : Int) ≤ z 0 0)) = true ∧
 (decide (z 0 0 ≤ (3 : Int))) = true ∧
 (decide ((0 : Int) ≤ z 0 1)) = true ∧
 (!decide (z 0 1 ≤ (15 : Int))) = false ∧
 (decide ((0 : Int) ≤ z 1 0)) = true ∧
 (decide (z 1 0 ≤ (3 : Int))) = true ∧
 (decide ((0 : Int) ≤ z 1 1)) = true ∧
 (!decide (z 1 1 ≤ (15 : Int))) = false ∧
 (decide ((0 : Int) ≤ z 2 0)) = true ∧
 (decide (z 2 0 ≤ (3 : Int))) = false ∧
 (True) ∧
 Bool.true = Bool.true))) ∧ ((decide ((0 : Int) ≤ z 2 0)) = false → (decide ((0 : Int) ≤ z 0 0)) = true ∧
 (decide (z 0 0 ≤ (3 : Int))) = true ∧
 (decide ((0 : Int) ≤ z 0 1)) = true ∧
 (!decide (z 0 1 ≤ (15 : Int))) = false ∧
 (decide ((0 : Int) ≤ z 1 0)) = true ∧
 (decide (z 1 0 ≤ (3 : Int))) = true ∧
 (decide ((0 : Int) ≤ z 1 1)) = true ∧
 (!decide (z 1 1 ≤ (15 : Int))) = false ∧
 (decide ((0 : Int) ≤ z 2 0)) = false ∧
 (True) ∧
 Bool.true = Bool.true))))) ∧ ((decide ((0 : Int) ≤ z 1 1)) = false → (decide ((0 : Int) ≤ z 0 0)) = true ∧
 (decide (z 0 0 ≤ (3 : Int))) = true ∧
 (decide ((0 : Int) ≤ z 0 1)) = true ∧
 (!decide (z 0 1 ≤ (15 : Int))) = false ∧
 (decide ((0 : Int) ≤ z 1 0)) = true ∧
 (decide (z 1 0 ≤ (3 : Int))) = true ∧
 (decide ((0 : Int) ≤ z 1 1)) = false ∧
 (True) ∧
 Bool.true = Bool.true))) ∧ ((decide (z 1 0 ≤ (3 : Int))) = false → (decide ((0 : Int) ≤ z 0 0)) = true ∧
 (decide (z 0 0 ≤ (3 : Int))) = true ∧
 (decide ((0 : Int) ≤ z 0 1)) = true ∧
 (!decide (z 0 1 ≤ (15 : Int))) = false ∧
 (decide ((0 : Int) ≤ z 1 0)) = true ∧
 (decide (z 1 0 ≤ (3 : Int))) = false ∧
 (True) ∧
 Bool.true = Bool.true))) ∧ ((decide ((0 : Int) ≤ z 1 0)) = false → (decide ((0 : Int) ≤ z 0 0)) = true ∧
 (decide (z 0 0 ≤ (3 : Int))) = true ∧
 (decide ((0 : Int) ≤ z 0 1)) = true ∧
 (!decide (z 0 1 ≤ (15 : Int))) = false ∧
 (decide ((0 : Int) ≤ z 1 0)) = false ∧
 (True) ∧
 Bool.true = Bool.true))))) ∧ ((decide ((0 : Int) ≤ z 0 1)) = false → (decide ((0 : Int) ≤ z 0 0)) = true ∧
 (decide (z 0 0 ≤ (3 : Int))) = true ∧
 (decide ((0 : Int) ≤ z 0 1)) = false ∧
 (True) ∧
 Bool.true = Bool.true))) ∧ ((decide (z 0 0 ≤ (3 : Int))) = false → (decide ((0 : Int) ≤ z 0 0)) = true ∧
 (decide (z 0 0 ≤ (3 : Int))) = false ∧
 (True) ∧
 Bool.true = Bool.true))) ∧ ((decide ((0 : Int) ≤ z 0 0)) = false → (decide ((0 : Int) ≤ z 0 0)) = false ∧
 (True) ∧
 Bool.true = Bool.true))) (by kernel_rfl) ?_⟩
  repeat' (first | (refine And.intro ?_ ?_) | (with_reducible intro hh; (try simp (disch := omega) only [decide_eq_true_eq, decide_eq_false_iff_not, Bool.and_eq_true, Bool.and_eq_false_imp, Bool.not_eq_true', Bool.not_eq_false', reduceCtorEq, or_false, or_true, Bool.or_eq_true, Bool.or_eq_false_iff, Int.not_lt, Int.not_le, beq_iff_eq, beq_eq_false_iff_ne, sameM_self, fO_rM, dO_rM, Nat.zero_add, Nat.mul_one, Nat.sub_zero, Int.toNat_natCast, decide_true, decide_false, cond_true, cond_false, wrap_id, beq_self_eq_true, tmod_nn, tdiv_nn, Bool.true_and, Bool.and_true, true_and, and_true, and_self, Bool.not_true, Bool.not_false] at hh)))
  all_goals (first | with_reducible rfl | exact True.intro | (first | with_reducible assumption | omega | (simp only [decide_eq_true_eq, decide_eq_false_iff_not, Bool.and_eq_true, Bool.and_eq_false_imp, Bool.not_eq_true', Bool.not_eq_false', reduceCtorEq, or_false, or_true, Bool.or_eq_true, Bool.or_eq_false_iff, Int.not_lt, Int.not_le, beq_iff_eq, beq_eq_false_iff_ne]; omega) | (simp (disch := omega) only [decide_eq_true_eq, decide_eq_false_iff_not, Bool.and_eq_true, Bool.and_eq_false_imp, Bool.not_eq_true', Bool.not_eq_false', reduceCtorEq, or_false, or_true, Bool.or_eq_true, Bool.or_eq_false_iff, Int.not_lt, Int.not_le, beq_iff_eq, beq_eq_false_iff_ne, sameM_self, fO_rM, dO_rM, Nat.zero_add, Nat.mul_one, Nat.sub_zero, Int.toNat_natCast, decide_true, decide_false, cond_true, cond_false, wrap_id, beq_self_eq_true, tmod_nn, tdiv_nn, Bool.true_and, Bool.and_true, true_and, and_true, and_self, Bool.not_true, Bool.not_false]; first | done | omega) | (simp (disch := omega) only [decide_eq_true_eq, decide_eq_false_iff_not, Bool.and_eq_true, Bool.and_eq_false_imp, Bool.not_eq_true', Bool.not_eq_false', reduceCtorEq, or_false, or_true, Bool.or_eq_true, Bool.or_eq_false_iff, Int.not_lt, Int.not_le, beq_iff_eq, beq_eq_false_iff_ne, sameM_self, fO_rM, dO_rM, Nat.zero_add, Nat.mul_one, Nat.sub_zero, Int.toNat_natCast, decide_true, decide_false, cond_true, cond_false, wrap_id, beq_self_eq_true, tmod_nn, tdiv_nn, Bool.true_and, Bool.and_true, true_and, and_true, and_self, Bool.not_true, Bool.not_false] at *; first | done | omega)) | trace_state)
theorem refd0 (z : Nat → Nat → Int) (a : Nat → Nat → Int) (s : Nat → Nat → ByteArray) (m : Nat) (p p2 : Pl) : ∃ r, callK (HS Try.prog [54, 41] ctr) Try.prog 3 [.sl 0 0 0 0 false, .sl 1 0 m m false] (sOf [(p, .fam 2 true 0 (rL z)), (p2, .fam 4 true m (rA a s))]) kTrue r := by
  refine ⟨.zn 16 <| .U <| .zn 12 <| .E (0) [], Go.AE.kchange (b := (True) ∧
 Bool.true = Bool.true) (by kernel_rfl) ?_⟩
  repeat' (first | (refine And.intro ?_ ?_) | (with_reducible intro hh; (try simp (disch := omega) only [decide_eq_true_eq, decide_eq_false_iff_not, Bool.and_eq_true, Bool.and_eq_false_imp, Bool.not_eq_true', Bool.not_eq_false', reduceCtorEq, or_false, or_true, Bool.or_eq_true, Bool.or_eq_false_iff, Int.not_lt, Int.not_le, beq_iff_eq, beq_eq_false_iff_ne, sameM_self, fO_rM, dO_rM, Nat.zero_add, Nat.mul_one, Nat.sub_zero, Int.toNat_natCast, decide_true, decide_false, cond_true, cond_false, wrap_id, beq_self_eq_true, tmod_nn, tdiv_nn, Bool.true_and, Bool.and_true, true_and, and_true, and_self, Bool.not_true, Bool.not_false] at hh)))
  all_goals (first | with_reducible rfl | exact True.intro | (first | with_reducible assumption | omega | (simp only [decide_eq_true_eq, decide_eq_false_iff_not, Bool.and_eq_true, Bool.and_eq_false_imp, Bool.not_eq_true', Bool.not_eq_false', reduceCtorEq, or_false, or_true, Bool.or_eq_true, Bool.or_eq_false_iff, Int.not_lt, Int.not_le, beq_iff_eq, beq_eq_false_iff_ne]; omega) | (simp (disch := omega) only [decide_eq_true_eq, decide_eq_false_iff_not, Bool.and_eq_true, Bool.and_eq_false_imp, Bool.not_eq_true', Bool.not_eq_false', reduceCtorEq, or_false, or_true, Bool.or_eq_true, Bool.or_eq_false_iff, Int.not_lt, Int.not_le, beq_iff_eq, beq_eq_false_iff_ne, sameM_self, fO_rM, dO_rM, Nat.zero_add, Nat.mul_one, Nat.sub_zero, Int.toNat_natCast, decide_true, decide_false, cond_true, cond_false, wrap_id, beq_self_eq_true, tmod_nn, tdiv_nn, Bool.true_and, Bool.and_true, true_and, and_true, and_self, Bool.not_true, Bool.not_false]; first | done | omega) | (simp (disch := omega) only [decide_eq_true_eq, decide_eq_false_iff_not, Bool.and_eq_true, Bool.and_eq_false_imp, Bool.not_eq_true', Bool.not_eq_false', reduceCtorEq, or_false, or_true, Bool.or_eq_true, Bool.or_eq_false_iff, Int.not_lt, Int.not_le, beq_iff_eq, beq_eq_false_iff_ne, sameM_self, fO_rM, dO_rM, Nat.zero_add, Nat.mul_one, Nat.sub_zero, Int.toNat_natCast, decide_true, decide_false, cond_true, cond_false, wrap_id, beq_self_eq_true, tmod_nn, tdiv_nn, Bool.true_and, Bool.and_true, true_and, and_true, and_self, Bool.not_true, Bool.not_false] at *; first | done | omega)) | trace_state)
end Go.Proofs.Ytkekeomkbcghnaa.nics
