/- The walk of caissonlaw18.ExtentRuns: for every list of numbers and every three numbers it answers true. No condition. -/
import Derived.Test.YtabippmmepehpaaExtentRuns1
import Derived.Test.YtabippmmepehpaaProg
namespace Go.Proofs.Ytabippmmepehpaa.extentRuns
open Go Go.Proofs Go.AE Go.RowKit
set_option maxRecDepth 100000
set_option linter.unusedVariables false
set_option linter.unusedSimpArgs false
set_option maxHeartbeats 16000000 in
theorem r0_3_false (z : Nat → Nat → Int) (q a k : Int) (len cap : Nat)  (hl : len ≤ 9223372036854775807) (hL : min len 4 = 3)  :
    ∃ r, exec (HS Try.prog [1000000] ctr) Try.prog (lp Try.prog 6 0) (TA false z q a k len cap 0) (SA false z len 0) (kN (nb false) (TA false z q a k len cap) (SA false z len) (fun i => 3 - i) (fun i => i ≤ 3) 0) (kX (nb false) (fun _ => True) fun _ => .x 0 (TA false z q a k len cap 3) (SA false z len 3)) (kR (nb false) (fun _ => True) fun _ => .n [] s0) r := by
  refine ⟨.T <| .zn 3 <| .T <| .T <| .Z <| .Z <| .E (1) [(1, 2)], Go.AE.kchange (b := (decide ((0 : Int) < (↑len : Int))) = true ∧
 (Bool.true && decide ((0 : Int) < (↑len : Int))) = true ∧
 (decide (0 < len)) = true ∧
 1 ≤ 3 ∧ 2 < 3 ∧ ((0 = 0 ∧ len = len ∧ cap = cap) ∧ q = q ∧ a = a ∧ k = k ∧ Bool.false = Bool.false ∧ (0 = 0 ∧ 1 = 1 ∧ 1 = 1) ∧ IntKind.wrap IntKind.i64 ((0 : Int) + Go.bits BinOp.and IntKind.i64 (z 0 0) (15 : Int)) = PS z 1 ∧ (1 : Int) = (1 : Int) ∧ True) ∧ ((0 : Int) = (0 : Int) ∧ (0 : Int) = (0 : Int) ∧ True ∧ (0 : Int) = PS z 0 ∧ Go.bits BinOp.and IntKind.i64 (z 0 0) (15 : Int) = z 0 0 % (16 : Int) ∧ True) ∧ (len = len ∧ (∀ (jj0 : Nat), (jj0 < len → True ∧ z jj0 0 = z jj0 0 ∧ True))) ∧ True) (by kernel_rfl) ?_⟩
  repeat' (first | (refine And.intro ?_ ?_) | (with_reducible intro hh; (try simp (disch := omega) only [decide_eq_true_eq, decide_eq_false_iff_not, Bool.and_eq_true, Bool.and_eq_false_imp, Bool.not_eq_true', Bool.not_eq_false', reduceCtorEq, or_false, or_true, Bool.or_eq_true, Bool.or_eq_false_iff, Int.not_lt, Int.not_le, beq_iff_eq, beq_eq_false_iff_ne, Bool.cond_self, Bool.true_and, Bool.and_true, true_and, and_true, mask15, fdiv_nn, i64_bits, wrap_id, wrap_u64, tmod_nn, tdiv_nn, decide_true, decide_false, cond_true, cond_false, Nat.zero_add, Nat.mul_one, Int.toNat_natCast, Int.toNat_zero, Int.toNat_one, tn2, tn3] at hh)))
  all_goals (first | with_reducible rfl | trivial | (first | exact Go.AE.sveq_self _ rfl | (simp only [decide_eq_true_eq, decide_eq_false_iff_not, Bool.and_eq_true, Bool.and_eq_false_imp, Bool.not_eq_true', Bool.not_eq_false', reduceCtorEq, or_false, or_true, Bool.or_eq_true, Bool.or_eq_false_iff, Int.not_lt, Int.not_le, beq_iff_eq, beq_eq_false_iff_ne, Bool.cond_self, Bool.true_and, Bool.and_true, true_and, and_true]; omega) | (simp (disch := omega) only [decide_eq_true_eq, decide_eq_false_iff_not, Bool.and_eq_true, Bool.and_eq_false_imp, Bool.not_eq_true', Bool.not_eq_false', reduceCtorEq, or_false, or_true, Bool.or_eq_true, Bool.or_eq_false_iff, Int.not_lt, Int.not_le, beq_iff_eq, beq_eq_false_iff_ne, Bool.cond_self, Bool.true_and, Bool.and_true, true_and, and_true, mask15, fdiv_nn, i64_bits, wrap_id, wrap_u64, tmod_nn, tdiv_nn, decide_true, decide_false, cond_true, cond_false, Nat.zero_add, Nat.mul_one, Int.toNat_natCast, Int.toNat_zero, Int.toNat_one, tn2, tn3]; first | done | omega) | (simp (disch := omega) only [decide_eq_true_eq, decide_eq_false_iff_not, Bool.and_eq_true, Bool.and_eq_false_imp, Bool.not_eq_true', Bool.not_eq_false', reduceCtorEq, or_false, or_true, Bool.or_eq_true, Bool.or_eq_false_iff, Int.not_lt, Int.not_le, beq_iff_eq, beq_eq_false_iff_ne, Bool.cond_self, Bool.true_and, Bool.and_true, true_and, and_true, mask15, fdiv_nn, i64_bits, wrap_id, wrap_u64, tmod_nn, tdiv_nn, decide_true, decide_false, cond_true, cond_false, Nat.zero_add, Nat.mul_one, Int.toNat_natCast, Int.toNat_zero, Int.toNat_one, tn2, tn3] at *; first | done | omega)) | (simp only [Bool.cond_self, Go.AE.eqV, Go.AE.okL, Go.AE.eqL]; done) | (rw [show i + 1 = 3 by omega]; done) | ((try simp (disch := omega) only [decide_eq_true_eq, decide_eq_false_iff_not, Bool.and_eq_true, Bool.and_eq_false_imp, Bool.not_eq_true', Bool.not_eq_false', reduceCtorEq, or_false, or_true, Bool.or_eq_true, Bool.or_eq_false_iff, Int.not_lt, Int.not_le, beq_iff_eq, beq_eq_false_iff_ne, Bool.cond_self, Bool.true_and, Bool.and_true, true_and, and_true, mask15, fdiv_nn, i64_bits, wrap_id, wrap_u64, tmod_nn, tdiv_nn, decide_true, decide_false, cond_true, cond_false, Nat.zero_add, Nat.mul_one, Int.toNat_natCast, Int.toNat_zero, Int.toNat_one, tn2, tn3] at *) <;> (try simp only [cond_eq_ite, decide_eq_true_eq, decide_eq_false_iff_not, Bool.and_eq_true, Bool.and_eq_false_imp, Bool.not_eq_true', Bool.not_eq_false', reduceCtorEq, or_false, or_true, Bool.or_eq_true, Bool.or_eq_false_iff, Int.not_lt, Int.not_le, beq_iff_eq, beq_eq_false_iff_ne, Bool.cond_self, Bool.true_and, Bool.and_true, true_and, and_true]) <;> (repeat' split) <;> first | rfl | contradiction | omega | (congr 1 <;> omega) | (congr 2 <;> omega) | (simp only [PS]; omega) | (rw [show i + 1 = 3 by omega]; done) | trace_state))
set_option maxHeartbeats 16000000 in
theorem rs_3_false (z : Nat → Nat → Int) (q a k : Int) (len cap : Nat) (i : Nat) (hl : len ≤ 9223372036854775807) (hL : min len 4 = 3) (hi : i + 1 ≤ 3) (bp : 0 ≤ PS z (i + 1) ∧ PS z (i + 1) ≤ 15 * ((i + 1 : Nat) : Int)) :
    ∃ r, exec (HS Try.prog [1000000] ctr) Try.prog (lp Try.prog 6 0) (TA false z q a k len cap (i + 1)) (SA false z len (i + 1)) (kN (nb false) (TA false z q a k len cap) (SA false z len) (fun i => 3 - i) (fun i => i ≤ 3) (i + 1)) (kX (nb false) (fun _ => True) fun _ => .x 0 (TA false z q a k len cap 3) (SA false z len 3)) (kR (nb false) (fun _ => True) fun _ => .n [] s0) r := by
  refine ⟨.B (.Z <| .Z <| .tn 3 <| .N <| .T <| .T <| .E (i + 1 + 1) [(1, 3)]) (.zn 3 <| .E (0) []), Go.AE.kchange (b := (((decide ((↑(i + 1) : Int) < (↑len : Int))) = true → (decide ((↑(i + 1) : Int) < (4 : Int))) = true ∧
 (decide ((0 : Int) ≤ (↑(i + 1) : Int)) && decide ((↑(i + 1) : Int) < (↑len : Int))) = true ∧
 (decide (0 + Int.toNat (↑(i + 1) : Int) * 1 < len)) = true ∧
 (decide (i + 1 + 1 ≤ i + 1)) = false ∧
 (decide ((i + 1 + 1) * 56 ≤ 140737488355328)) = true ∧
 (decide (0 + (i + 1) ≤ i + 1)) = true ∧
 i + 1 + 1 ≤ 3 ∧ 3 - (i + 1 + 1) < 3 - (i + 1) ∧ ((0 = 0 ∧ len = len ∧ cap = cap) ∧ q = q ∧ a = a ∧ k = k ∧ Bool.false = Bool.false ∧ (0 = 0 ∧ i + 1 + 1 = Nat.succ i + 1 ∧ i + 1 + 1 = Nat.succ i + 1) ∧ IntKind.wrap IntKind.i64 (PS z (i + 1) + Go.bits BinOp.and IntKind.i64 (z (0 + Int.toNat (↑(i + 1) : Int) * 1) 0) (15 : Int)) = PS z (Nat.succ i + 1) ∧ IntKind.wrap IntKind.i64 ((↑(i + 1) : Int) + (1 : Int)) = (↑(Nat.succ i + 1) : Int) ∧ True) ∧ (i + 1 + 1 = Nat.succ i + 1 ∧ (∀ (jj0 : Nat), (jj0 < Nat.succ i + 1 → True ∧ (bif decide (jj0 < i + 1) then (0 : Int) else (0 : Int)) = (0 : Int) ∧ (bif decide (jj0 < i + 1) then (0 : Int) else (0 : Int)) = (0 : Int) ∧ Go.AE.eqV ([(1, 3)]) (bif decide (jj0 < i + 1) then SV.nils else SV.nils) (SV.nils) ∧ (bif decide (jj0 < i + 1) then PS z (0 + jj0) else PS z (i + 1)) = PS z jj0 ∧ (bif decide (jj0 < i + 1) then z (0 + jj0) 0 % (16 : Int) else Go.bits BinOp.and IntKind.i64 (z (0 + Int.toNat (↑(i + 1) : Int) * 1) 0) (15 : Int)) = z jj0 0 % (16 : Int) ∧ True))) ∧ (len = len ∧ (∀ (jj0 : Nat), (jj0 < len → True ∧ z jj0 0 = z jj0 0 ∧ True))) ∧ True) ∧ ((decide ((↑(i + 1) : Int) < (↑len : Int))) = false → True ∧ ((0 = 0 ∧ len = len ∧ cap = cap) ∧ q = q ∧ a = a ∧ k = k ∧ Bool.false = Bool.false ∧ (0 = 0 ∧ i + 1 = 3 ∧ i + 1 = 3) ∧ PS z (i + 1) = PS z 3 ∧ (↑(i + 1) : Int) = (3 : Int) ∧ True) ∧ (i + 1 = 3 ∧ (∀ (jj0 : Nat), (jj0 < 3 → True ∧ (0 : Int) = (0 : Int) ∧ (0 : Int) = (0 : Int) ∧ True ∧ PS z jj0 = PS z jj0 ∧ z jj0 0 % (16 : Int) = z jj0 0 % (16 : Int) ∧ True))) ∧ (len = len ∧ (∀ (jj0 : Nat), (jj0 < len → True ∧ z jj0 0 = z jj0 0 ∧ True))) ∧ True))) (by kernel_rfl) ?_⟩
  repeat' (first | (refine And.intro ?_ ?_) | (with_reducible intro hh; (try simp (disch := omega) only [decide_eq_true_eq, decide_eq_false_iff_not, Bool.and_eq_true, Bool.and_eq_false_imp, Bool.not_eq_true', Bool.not_eq_false', reduceCtorEq, or_false, or_true, Bool.or_eq_true, Bool.or_eq_false_iff, Int.not_lt, Int.not_le, beq_iff_eq, beq_eq_false_iff_ne, Bool.cond_self, Bool.true_and, Bool.and_true, true_and, and_true, mask15, fdiv_nn, i64_bits, wrap_id, wrap_u64, tmod_nn, tdiv_nn, decide_true, decide_false, cond_true, cond_false, Nat.zero_add, Nat.mul_one, Int.toNat_natCast, Int.toNat_zero, Int.toNat_one, tn2, tn3] at hh)))
  all_goals (first | with_reducible rfl | trivial | (first | exact Go.AE.sveq_self _ rfl | (simp only [decide_eq_true_eq, decide_eq_false_iff_not, Bool.and_eq_true, Bool.and_eq_false_imp, Bool.not_eq_true', Bool.not_eq_false', reduceCtorEq, or_false, or_true, Bool.or_eq_true, Bool.or_eq_false_iff, Int.not_lt, Int.not_le, beq_iff_eq, beq_eq_false_iff_ne, Bool.cond_self, Bool.true_and, Bool.and_true, true_and, and_true]; omega) | (simp (disch := omega) only [decide_eq_true_eq, decide_eq_false_iff_not, Bool.and_eq_true, Bool.and_eq_false_imp, Bool.not_eq_true', Bool.not_eq_false', reduceCtorEq, or_false, or_true, Bool.or_eq_true, Bool.or_eq_false_iff, Int.not_lt, Int.not_le, beq_iff_eq, beq_eq_false_iff_ne, Bool.cond_self, Bool.true_and, Bool.and_true, true_and, and_true, mask15, fdiv_nn, i64_bits, wrap_id, wrap_u64, tmod_nn, tdiv_nn, decide_true, decide_false, cond_true, cond_false, Nat.zero_add, Nat.mul_one, Int.toNat_natCast, Int.toNat_zero, Int.toNat_one, tn2, tn3]; first | done | omega) | (simp (disch := omega) only [decide_eq_true_eq, decide_eq_false_iff_not, Bool.and_eq_true, Bool.and_eq_false_imp, Bool.not_eq_true', Bool.not_eq_false', reduceCtorEq, or_false, or_true, Bool.or_eq_true, Bool.or_eq_false_iff, Int.not_lt, Int.not_le, beq_iff_eq, beq_eq_false_iff_ne, Bool.cond_self, Bool.true_and, Bool.and_true, true_and, and_true, mask15, fdiv_nn, i64_bits, wrap_id, wrap_u64, tmod_nn, tdiv_nn, decide_true, decide_false, cond_true, cond_false, Nat.zero_add, Nat.mul_one, Int.toNat_natCast, Int.toNat_zero, Int.toNat_one, tn2, tn3] at *; first | done | omega)) | (simp only [Bool.cond_self, Go.AE.eqV, Go.AE.okL, Go.AE.eqL]; done) | (rw [show i + 1 = 3 by omega]; done) | ((try simp (disch := omega) only [decide_eq_true_eq, decide_eq_false_iff_not, Bool.and_eq_true, Bool.and_eq_false_imp, Bool.not_eq_true', Bool.not_eq_false', reduceCtorEq, or_false, or_true, Bool.or_eq_true, Bool.or_eq_false_iff, Int.not_lt, Int.not_le, beq_iff_eq, beq_eq_false_iff_ne, Bool.cond_self, Bool.true_and, Bool.and_true, true_and, and_true, mask15, fdiv_nn, i64_bits, wrap_id, wrap_u64, tmod_nn, tdiv_nn, decide_true, decide_false, cond_true, cond_false, Nat.zero_add, Nat.mul_one, Int.toNat_natCast, Int.toNat_zero, Int.toNat_one, tn2, tn3] at *) <;> (try simp only [cond_eq_ite, decide_eq_true_eq, decide_eq_false_iff_not, Bool.and_eq_true, Bool.and_eq_false_imp, Bool.not_eq_true', Bool.not_eq_false', reduceCtorEq, or_false, or_true, Bool.or_eq_true, Bool.or_eq_false_iff, Int.not_lt, Int.not_le, beq_iff_eq, beq_eq_false_iff_ne, Bool.cond_self, Bool.true_and, Bool.and_true, true_and, and_true]) <;> (repeat' split) <;> first | rfl | contradiction | omega | (congr 1 <;> omega) | (congr 2 <;> omega) | (simp only [PS]; omega) | (rw [show i + 1 = 3 by omega]; done) | trace_state))
theorem loop_3_false (z : Nat → Nat → Int) (q a k : Int) (len cap : Nat) (hl : len ≤ 9223372036854775807) (hL : min len 4 = 3) : LO Try.prog (lp Try.prog 6 0) (TA false z q a k len cap 0) (SA false z len 0) (.x 0 (TA false z q a k len cap 3) (SA false z len 3)) :=
  LQ.one (loop_scr pk okc (by kernel_rfl) (nb false) (TA false z q a k len cap) (SA false z len) (fun i => 3 - i) (fun i => i ≤ 3) (fun _ => True) (fun _ => .x 0 (TA false z q a k len cap 3) (SA false z len 3)) (fun j => by cases j <;> rfl)
    (fun i hi => match i, hi with | 0, _ => r0_3_false z q a k len cap hl hL | i + 1, hi => rs_3_false z q a k len cap i hl hL hi (PS_bd z (i + 1))) (Nat.zero_le _) rfl)
set_option maxHeartbeats 16000000 in
theorem b_3_103 (z : Nat → Nat → Int) (q a k : Int) (len cap : Nat) (i : Nat) (hi : (i : Int) ≤ k % 16) (hps : PS z 0 = 0 ∧ PS z 1 = PS z 0 + z 0 0 % 16 ∧ PS z 2 = PS z 1 + z 1 0 % 16 ∧ PS z 3 = PS z 2 + z 2 0 % 16 ∧ PS z 4 = PS z 3 + z 3 0 % 16) (bpp : 0 ≤ PS z (Int.toNat (q % 18446744073709551616 % 3)) ∧ PS z (Int.toNat (q % 18446744073709551616 % 3)) ≤ 60) (hm : a % 16 + k % 16 ≤ z (Int.toNat (q % 18446744073709551616 % 3)) 0 % 16) :
    ∃ r, exec (HS Try.prog [1000000] ctr) Try.prog (lp Try.prog 6 1) (TB z q a k len cap 3 i) (SB z len 3 103) (kN (1 + 103) (TB z q a k len cap 3) (fun _ => (SB z len 3 103)) (fun i => Int.toNat (k % 16) - i) (fun i => (i : Int) ≤ k % 16) i) (kX (1 + 103) (fun _ => True) fun _ => .x 2 (TB z q a k len cap 3 (Int.toNat (k % 16))) (SB z len 3 103)) (kR (1 + 103) (fun _ => True) fun _ => .n [] s0) r := by
  refine ⟨.B (.zn 11 <| .U <| .zn 8 <| .T <| .zn 12 <| .N <| .U <| .zn 6 <| .T <| .Z <| .Z <| .T <| .zn 6 <| .T <| .zn 5 <| .N <| .U <| .zn 4 <| .B (.zn 42 <| .T <| .Z <| .Z <| .T <| .zn 6 <| .T <| .zn 5 <| .N <| .U <| .zn 4 <| .B (.zn 40 <| .T <| .zn 41 <| .N <| .zn 4 <| .N <| .tn 3 <| .zn 5 <| .T <| .zn 3 <| .T <| .zn 5 <| .N <| .T <| .T <| .zn 6 <| .N <| .E (i + 1) []) (.zn 6 <| .B (.zn 34 <| .N <| .zn 6 <| .T <| .zn 35 <| .N <| .zn 4 <| .N <| .tn 3 <| .zn 5 <| .T <| .zn 3 <| .T <| .zn 5 <| .N <| .T <| .T <| .zn 6 <| .N <| .E (i + 1) []) (.zn 17 <| .N <| .zn 17 <| .N <| .zn 4 <| .N <| .zn 6 <| .T <| .zn 35 <| .N <| .zn 4 <| .N <| .tn 3 <| .zn 5 <| .T <| .zn 3 <| .T <| .zn 5 <| .N <| .T <| .T <| .zn 6 <| .N <| .E (i + 1) []))) (.zn 6 <| .B (.zn 36 <| .T <| .Z <| .Z <| .T <| .zn 6 <| .T <| .zn 5 <| .N <| .U <| .zn 4 <| .B (.zn 40 <| .T <| .zn 41 <| .N <| .zn 4 <| .N <| .tn 3 <| .zn 5 <| .T <| .zn 3 <| .T <| .zn 5 <| .N <| .T <| .T <| .zn 6 <| .N <| .E (i + 1) []) (.zn 6 <| .T <| .zn 34 <| .N <| .zn 6 <| .N <| .zn 17 <| .N <| .zn 17 <| .N <| .zn 5 <| .N <| .zn 4 <| .N <| .tn 3 <| .zn 5 <| .T <| .zn 3 <| .T <| .zn 5 <| .N <| .T <| .T <| .zn 6 <| .N <| .E (i + 1) [])) (.zn 17 <| .N <| .zn 17 <| .N <| .zn 6 <| .T <| .Z <| .Z <| .T <| .zn 6 <| .T <| .zn 5 <| .N <| .U <| .zn 4 <| .B (.zn 40 <| .T <| .zn 41 <| .N <| .zn 4 <| .N <| .tn 3 <| .zn 5 <| .T <| .zn 3 <| .T <| .zn 5 <| .N <| .T <| .T <| .zn 6 <| .N <| .E (i + 1) []) (.zn 6 <| .N <| .zn 17 <| .N <| .zn 17 <| .N <| .zn 4 <| .N <| .zn 6 <| .N <| .zn 17 <| .N <| .zn 17 <| .N <| .zn 5 <| .N <| .zn 4 <| .N <| .tn 3 <| .zn 5 <| .T <| .zn 3 <| .T <| .zn 5 <| .N <| .T <| .T <| .zn 6 <| .N <| .E (i + 1) [])))) (.E (0) []), Go.AE.kchange (b := (((decide ((↑i : Int) < k % (16 : Int))) = true → (decide ((0 : Int) ≤ z 0 0 % (16 : Int))) = true ∧
 (!decide (z 0 0 % (16 : Int) ≤ IntKind.wrap IntKind.i64 ((64 : Int) - PS z 0))) = false ∧
 (decide ((0 : Int) ≤ PS z 1)) = true ∧
 (decide ((0 : Int) ≤ z 1 0 % (16 : Int))) = true ∧
 (decide (PS z 1 ≤ (64 : Int))) = true ∧
 (!decide (z 1 0 % (16 : Int) ≤ IntKind.wrap IntKind.i64 ((64 : Int) - PS z 1))) = false ∧
 (((decide (z 1 0 % (16 : Int) = (0 : Int))) = true → (decide ((0 : Int) ≤ PS z 2)) = true ∧
 (decide ((0 : Int) ≤ z 2 0 % (16 : Int))) = true ∧
 (decide (PS z 2 ≤ (64 : Int))) = true ∧
 (!decide (z 2 0 % (16 : Int) ≤ IntKind.wrap IntKind.i64 ((64 : Int) - PS z 2))) = false ∧
 (((decide (z 2 0 % (16 : Int) = (0 : Int))) = true → (decide (z 2 0 % (16 : Int) = (0 : Int))) = true ∧
 (decide (q % (18446744073709551616 : Int) % (3 : Int) < (0 : Int))) = false ∧
 (decide ((3 : Int) ≤ q % (18446744073709551616 : Int) % (3 : Int))) = false ∧
 (decide ((0 : Int) ≤ q % (18446744073709551616 : Int) % (3 : Int)) && decide (q % (18446744073709551616 : Int) % (3 : Int) < (3 : Int))) = true ∧
 (decide (0 + Int.toNat (q % (18446744073709551616 : Int) % (3 : Int)) * 1 < 3)) = true ∧
 (decide ((0 : Int) ≤ IntKind.wrap IntKind.i64 (a % (16 : Int) + (↑i : Int)))) = true ∧
 (decide ((0 : Int) ≤ z (0 + Int.toNat (q % (18446744073709551616 : Int) % (3 : Int)) * 1) 0 % (16 : Int))) = true ∧
 (decide (IntKind.wrap IntKind.i64 (a % (16 : Int) + (↑i : Int)) ≤ z (0 + Int.toNat (q % (18446744073709551616 : Int) % (3 : Int)) * 1) 0 % (16 : Int))) = true ∧
 (!decide ((1 : Int) ≤ IntKind.wrap IntKind.i64 (z (0 + Int.toNat (q % (18446744073709551616 : Int) % (3 : Int)) * 1) 0 % (16 : Int) - IntKind.wrap IntKind.i64 (a % (16 : Int) + (↑i : Int))))) = false ∧
 (decide ((0 : Int) ≤ q % (18446744073709551616 : Int) % (3 : Int)) && decide (q % (18446744073709551616 : Int) % (3 : Int) < (3 : Int))) = true ∧
 (decide (0 + Int.toNat (q % (18446744073709551616 : Int) % (3 : Int)) * 1 < 3)) = true ∧
 (!decide (IntKind.wrap IntKind.i64 (PS z (0 + Int.toNat (q % (18446744073709551616 : Int) % (3 : Int)) * 1) + IntKind.wrap IntKind.i64 (a % (16 : Int) + (↑i : Int))) = IntKind.wrap IntKind.i64 (PS z (Int.toNat (q % (18446744073709551616 : Int) % (3 : Int))) + a % (16 : Int) + (↑i : Int)))) = false ∧
 (↑(i + 1) : Int) ≤ k % (16 : Int) ∧ Int.toNat (k % (16 : Int)) - (i + 1) < Int.toNat (k % (16 : Int)) - i ∧ ((0 = 0 ∧ len = len ∧ cap = cap) ∧ q = q ∧ a = a ∧ k = k ∧ Bool.false = Bool.false ∧ (0 = 0 ∧ 3 = 3 ∧ 3 = 3) ∧ PS z 3 = PS z 3 ∧ q % (18446744073709551616 : Int) % (3 : Int) = q % (18446744073709551616 : Int) % (3 : Int) ∧ a % (16 : Int) = a % (16 : Int) ∧ k % (16 : Int) = k % (16 : Int) ∧ PS z (Int.toNat (q % (18446744073709551616 : Int) % (3 : Int))) + a % (16 : Int) = PS z (Int.toNat (q % (18446744073709551616 : Int) % (3 : Int))) + a % (16 : Int) ∧ IntKind.wrap IntKind.i64 ((↑i : Int) + (1 : Int)) = (↑(i + 1) : Int) ∧ True) ∧ (3 = 3 ∧ (∀ (jj0 : Nat), (jj0 < 3 → True ∧ (0 : Int) = (0 : Int) ∧ (0 : Int) = (0 : Int) ∧ True ∧ PS z jj0 = PS z jj0 ∧ z jj0 0 % (16 : Int) = z jj0 0 % (16 : Int) ∧ True))) ∧ (len = len ∧ (∀ (jj0 : Nat), (jj0 < len → True ∧ z jj0 0 = z jj0 0 ∧ True))) ∧ True) ∧ ((decide (z 2 0 % (16 : Int) = (0 : Int))) = false → (((decide (z 0 0 % (16 : Int) = (0 : Int))) = true → (decide (z 2 0 % (16 : Int) = (0 : Int))) = false ∧
 (decide (z 1 0 % (16 : Int) = (0 : Int))) = true ∧
 (decide (q % (18446744073709551616 : Int) % (3 : Int) < (0 : Int))) = false ∧
 (decide ((3 : Int) ≤ q % (18446744073709551616 : Int) % (3 : Int))) = false ∧
 (decide ((0 : Int) ≤ q % (18446744073709551616 : Int) % (3 : Int)) && decide (q % (18446744073709551616 : Int) % (3 : Int) < (3 : Int))) = true ∧
 (decide (0 + Int.toNat (q % (18446744073709551616 : Int) % (3 : Int)) * 1 < 3)) = true ∧
 (decide ((0 : Int) ≤ IntKind.wrap IntKind.i64 (a % (16 : Int) + (↑i : Int)))) = true ∧
 (decide ((0 : Int) ≤ z (0 + Int.toNat (q % (18446744073709551616 : Int) % (3 : Int)) * 1) 0 % (16 : Int))) = true ∧
 (decide (IntKind.wrap IntKind.i64 (a % (16 : Int) + (↑i : Int)) ≤ z (0 + Int.toNat (q % (18446744073709551616 : Int) % (3 : Int)) * 1) 0 % (16 : Int))) = true ∧
 (!decide ((1 : Int) ≤ IntKind.wrap IntKind.i64 (z (0 + Int.toNat (q % (18446744073709551616 : Int) % (3 : Int)) * 1) 0 % (16 : Int) - IntKind.wrap IntKind.i64 (a % (16 : Int) + (↑i : Int))))) = false ∧
 (decide ((0 : Int) ≤ q % (18446744073709551616 : Int) % (3 : Int)) && decide (q % (18446744073709551616 : Int) % (3 : Int) < (3 : Int))) = true ∧
 (decide (0 + Int.toNat (q % (18446744073709551616 : Int) % (3 : Int)) * 1 < 3)) = true ∧
 (!decide (IntKind.wrap IntKind.i64 (PS z (0 + Int.toNat (q % (18446744073709551616 : Int) % (3 : Int)) * 1) + IntKind.wrap IntKind.i64 (a % (16 : Int) + (↑i : Int))) = IntKind.wrap IntKind.i64 (PS z (Int.toNat (q % (18446744073709551616 : Int) % (3 : Int))) + a % (16 : Int) + (↑i : Int)))) = false ∧
 (↑(i + 1) : Int) ≤ k % (16 : Int) ∧ Int.toNat (k % (16 : Int)) - (i + 1) < Int.toNat (k % (16 : Int)) - i ∧ ((0 = 0 ∧ len = len ∧ cap = cap) ∧ q = q ∧ a = a ∧ k = k ∧ Bool.false = Bool.false ∧ (0 = 0 ∧ 3 = 3 ∧ 3 = 3) ∧ PS z 3 = PS z 3 ∧ q % (18446744073709551616 : Int) % (3 : Int) = q % (18446744073709551616 : Int) % (3 : Int) ∧ a % (16 : Int) = a % (16 : Int) ∧ k % (16 : Int) = k % (16 : Int) ∧ PS z (Int.toNat (q % (18446744073709551616 : Int) % (3 : Int))) + a % (16 : Int) = PS z (Int.toNat (q % (18446744073709551616 : Int) % (3 : Int))) + a % (16 : Int) ∧ IntKind.wrap IntKind.i64 ((↑i : Int) + (1 : Int)) = (↑(i + 1) : Int) ∧ True) ∧ (3 = 3 ∧ (∀ (jj0 : Nat), (jj0 < 3 → True ∧ (0 : Int) = (0 : Int) ∧ (0 : Int) = (0 : Int) ∧ True ∧ PS z jj0 = PS z jj0 ∧ z jj0 0 % (16 : Int) = z jj0 0 % (16 : Int) ∧ True))) ∧ (len = len ∧ (∀ (jj0 : Nat), (jj0 < len → True ∧ z jj0 0 = z jj0 0 ∧ True))) ∧ True) ∧ ((decide (z 0 0 % (16 : Int) = (0 : Int))) = false → (decide (IntKind.wrap IntKind.i64 (PS z 2 + z 2 0 % (16 : Int)) ≤ PS z 0)) = false ∧
 (!decide (IntKind.wrap IntKind.i64 (PS z 0 + z 0 0 % (16 : Int)) ≤ PS z 2)) = false ∧
 (decide (z 2 0 % (16 : Int) = (0 : Int))) = false ∧
 (decide (z 1 0 % (16 : Int) = (0 : Int))) = true ∧
 (decide (q % (18446744073709551616 : Int) % (3 : Int) < (0 : Int))) = false ∧
 (decide ((3 : Int) ≤ q % (18446744073709551616 : Int) % (3 : Int))) = false ∧
 (decide ((0 : Int) ≤ q % (18446744073709551616 : Int) % (3 : Int)) && decide (q % (18446744073709551616 : Int) % (3 : Int) < (3 : Int))) = true ∧
 (decide (0 + Int.toNat (q % (18446744073709551616 : Int) % (3 : Int)) * 1 < 3)) = true ∧
 (decide ((0 : Int) ≤ IntKind.wrap IntKind.i64 (a % (16 : Int) + (↑i : Int)))) = true ∧
 (decide ((0 : Int) ≤ z (0 + Int.toNat (q % (18446744073709551616 : Int) % (3 : Int)) * 1) 0 % (16 : Int))) = true ∧
 (decide (IntKind.wrap IntKind.i64 (a % (16 : Int) + (↑i : Int)) ≤ z (0 + Int.toNat (q % (18446744073709551616 : Int) % (3 : Int)) * 1) 0 % (16 : Int))) = true ∧
 (!decide ((1 : Int) ≤ IntKind.wrap IntKind.i64 (z (0 + Int.toNat (q % (18446744073709551616 : Int) % (3 : Int)) * 1) 0 % (16 : Int) - IntKind.wrap IntKind.i64 (a % (16 : Int) + (↑i : Int))))) = false ∧
 (decide ((0 : Int) ≤ q % (18446744073709551616 : Int) % (3 : Int)) && decide (q % (18446744073709551616 : Int) % (3 : Int) < (3 : Int))) = true ∧
 (decide (0 + Int.toNat (q % (18446744073709551616 : Int) % (3 : Int)) * 1 < 3)) = true ∧
 (!decide (IntKind.wrap IntKind.i64 (PS z (0 + Int.toNat (q % (18446744073709551616 : Int) % (3 : Int)) * 1) + IntKind.wrap IntKind.i64 (a % (16 : Int) + (↑i : Int))) = IntKind.wrap IntKind.i64 (PS z (Int.toNat (q % (18446744073709551616 : Int) % (3 : Int))) + a % (16 : Int) + (↑i : Int)))) = false ∧
 (↑(i + 1) : Int) ≤ k % (16 : Int) ∧ Int.toNat (k % (16 : Int)) - (i + 1) < Int.toNat (k % (16 : Int)) - i ∧ ((0 = 0 ∧ len = len ∧ cap = cap) ∧ q = q ∧ a = a ∧ k = k ∧ Bool.false = Bool.false ∧ (0 = 0 ∧ 3 = 3 ∧ 3 = 3) ∧ PS z 3 = PS z 3 ∧ q % (18446744073709551616 : Int) % (3 : Int) = q % (18446744073709551616 : Int) % (3 : Int) ∧ a % (16 : Int) = a % (16 : Int) ∧ k % (16 : Int) = k % (16 : Int) ∧ PS z (Int.toNat (q % (18446744073709551616 : Int) % (3 : Int))) + a % (16 : Int) = PS z (Int.toNat (q % (18446744073709551616 : Int) % (3 : Int))) + a % (16 : Int) ∧ IntKind.wrap IntKind.i64 ((↑i : Int) + (1 : Int)) = (↑(i + 1) : Int) ∧ True) ∧ (3 = 3 ∧ (∀ (jj0 : Nat), (jj0 < 3 → True ∧ (0 : Int) = (0 : Int) ∧ (0 : Int) = (0 : Int) ∧ True ∧ PS z jj0 = PS z jj0 ∧ z jj0 0 % (16 : Int) = z jj0 0 % (16 : Int) ∧ True))) ∧ (len = len ∧ (∀ (jj0 : Nat), (jj0 < len → True ∧ z jj0 0 = z jj0 0 ∧ True))) ∧ True))))) ∧ ((decide (z 1 0 % (16 : Int) = (0 : Int))) = false → (((decide (z 0 0 % (16 : Int) = (0 : Int))) = true → (decide ((0 : Int) ≤ PS z 2)) = true ∧
 (decide ((0 : Int) ≤ z 2 0 % (16 : Int))) = true ∧
 (decide (PS z 2 ≤ (64 : Int))) = true ∧
 (!decide (z 2 0 % (16 : Int) ≤ IntKind.wrap IntKind.i64 ((64 : Int) - PS z 2))) = false ∧
 (((decide (z 2 0 % (16 : Int) = (0 : Int))) = true → (decide (z 2 0 % (16 : Int) = (0 : Int))) = true ∧
 (decide (q % (18446744073709551616 : Int) % (3 : Int) < (0 : Int))) = false ∧
 (decide ((3 : Int) ≤ q % (18446744073709551616 : Int) % (3 : Int))) = false ∧
 (decide ((0 : Int) ≤ q % (18446744073709551616 : Int) % (3 : Int)) && decide (q % (18446744073709551616 : Int) % (3 : Int) < (3 : Int))) = true ∧
 (decide (0 + Int.toNat (q % (18446744073709551616 : Int) % (3 : Int)) * 1 < 3)) = true ∧
 (decide ((0 : Int) ≤ IntKind.wrap IntKind.i64 (a % (16 : Int) + (↑i : Int)))) = true ∧
 (decide ((0 : Int) ≤ z (0 + Int.toNat (q % (18446744073709551616 : Int) % (3 : Int)) * 1) 0 % (16 : Int))) = true ∧
 (decide (IntKind.wrap IntKind.i64 (a % (16 : Int) + (↑i : Int)) ≤ z (0 + Int.toNat (q % (18446744073709551616 : Int) % (3 : Int)) * 1) 0 % (16 : Int))) = true ∧
 (!decide ((1 : Int) ≤ IntKind.wrap IntKind.i64 (z (0 + Int.toNat (q % (18446744073709551616 : Int) % (3 : Int)) * 1) 0 % (16 : Int) - IntKind.wrap IntKind.i64 (a % (16 : Int) + (↑i : Int))))) = false ∧
 (decide ((0 : Int) ≤ q % (18446744073709551616 : Int) % (3 : Int)) && decide (q % (18446744073709551616 : Int) % (3 : Int) < (3 : Int))) = true ∧
 (decide (0 + Int.toNat (q % (18446744073709551616 : Int) % (3 : Int)) * 1 < 3)) = true ∧
 (!decide (IntKind.wrap IntKind.i64 (PS z (0 + Int.toNat (q % (18446744073709551616 : Int) % (3 : Int)) * 1) + IntKind.wrap IntKind.i64 (a % (16 : Int) + (↑i : Int))) = IntKind.wrap IntKind.i64 (PS z (Int.toNat (q % (18446744073709551616 : Int) % (3 : Int))) + a % (16 : Int) + (↑i : Int)))) = false ∧
 (↑(i + 1) : Int) ≤ k % (16 : Int) ∧ Int.toNat (k % (16 : Int)) - (i + 1) < Int.toNat (k % (16 : Int)) - i ∧ ((0 = 0 ∧ len = len ∧ cap = cap) ∧ q = q ∧ a = a ∧ k = k ∧ Bool.false = Bool.false ∧ (0 = 0 ∧ 3 = 3 ∧ 3 = 3) ∧ PS z 3 = PS z 3 ∧ q % (18446744073709551616 : Int) % (3 : Int) = q % (18446744073709551616 : Int) % (3 : Int) ∧ a % (16 : Int) = a % (16 : Int) ∧ k % (16 : Int) = k % (16 : Int) ∧ PS z (Int.toNat (q % (18446744073709551616 : Int) % (3 : Int))) + a % (16 : Int) = PS z (Int.toNat (q % (18446744073709551616 : Int) % (3 : Int))) + a % (16 : Int) ∧ IntKind.wrap IntKind.i64 ((↑i : Int) + (1 : Int)) = (↑(i + 1) : Int) ∧ True) ∧ (3 = 3 ∧ (∀ (jj0 : Nat), (jj0 < 3 → True ∧ (0 : Int) = (0 : Int) ∧ (0 : Int) = (0 : Int) ∧ True ∧ PS z jj0 = PS z jj0 ∧ z jj0 0 % (16 : Int) = z jj0 0 % (16 : Int) ∧ True))) ∧ (len = len ∧ (∀ (jj0 : Nat), (jj0 < len → True ∧ z jj0 0 = z jj0 0 ∧ True))) ∧ True) ∧ ((decide (z 2 0 % (16 : Int) = (0 : Int))) = false → (decide (z 0 0 % (16 : Int) = (0 : Int))) = true ∧
 (decide (z 2 0 % (16 : Int) = (0 : Int))) = false ∧
 (decide (z 1 0 % (16 : Int) = (0 : Int))) = false ∧
 (decide (IntKind.wrap IntKind.i64 (PS z 2 + z 2 0 % (16 : Int)) ≤ PS z 1)) = false ∧
 (!decide (IntKind.wrap IntKind.i64 (PS z 1 + z 1 0 % (16 : Int)) ≤ PS z 2)) = false ∧
 (decide (q % (18446744073709551616 : Int) % (3 : Int) < (0 : Int))) = false ∧
 (decide ((3 : Int) ≤ q % (18446744073709551616 : Int) % (3 : Int))) = false ∧
 (decide ((0 : Int) ≤ q % (18446744073709551616 : Int) % (3 : Int)) && decide (q % (18446744073709551616 : Int) % (3 : Int) < (3 : Int))) = true ∧
 (decide (0 + Int.toNat (q % (18446744073709551616 : Int) % (3 : Int)) * 1 < 3)) = true ∧
 (decide ((0 : Int) ≤ IntKind.wrap IntKind.i64 (a % (16 : Int) + (↑i : Int)))) = true ∧
 (decide ((0 : Int) ≤ z (0 + Int.toNat (q % (18446744073709551616 : Int) % (3 : Int)) * 1) 0 % (16 : Int))) = true ∧
 (decide (IntKind.wrap IntKind.i64 (a % (16 : Int) + (↑i : Int)) ≤ z (0 + Int.toNat (q % (18446744073709551616 : Int) % (3 : Int)) * 1) 0 % (16 : Int))) = true ∧
 (!decide ((1 : Int) ≤ IntKind.wrap IntKind.i64 (z (0 + Int.toNat (q % (18446744073709551616 : Int) % (3 : Int)) * 1) 0 % (16 : Int) - IntKind.wrap IntKind.i64 (a % (16 : Int) + (↑i : Int))))) = false ∧
 (decide ((0 : Int) ≤ q % (18446744073709551616 : Int) % (3 : Int)) && decide (q % (18446744073709551616 : Int) % (3 : Int) < (3 : Int))) = true ∧
 (decide (0 + Int.toNat (q % (18446744073709551616 : Int) % (3 : Int)) * 1 < 3)) = true ∧
 (!decide (IntKind.wrap IntKind.i64 (PS z (0 + Int.toNat (q % (18446744073709551616 : Int) % (3 : Int)) * 1) + IntKind.wrap IntKind.i64 (a % (16 : Int) + (↑i : Int))) = IntKind.wrap IntKind.i64 (PS z (Int.toNat (q % (18446744073709551616 : Int) % (3 : Int))) + a % (16 : Int) + (↑i : Int)))) = false ∧
 (↑(i + 1) : Int) ≤ k % (16 : Int) ∧ Int.toNat (k % (16 : Int)) - (i + 1) < Int.toNat (k % (16 : Int)) - i ∧ ((0 = 0 ∧ len = len ∧ cap = cap) ∧ q = q ∧ a = a ∧ k = k ∧ Bool.false = Bool.false ∧ (0 = 0 ∧ 3 = 3 ∧ 3 = 3) ∧ PS z 3 = PS z 3 ∧ q % (18446744073709551616 : Int) % (3 : Int) = q % (18446744073709551616 : Int) % (3 : Int) ∧ a % (16 : Int) = a % (16 : Int) ∧ k % (16 : Int) = k % (16 : Int) ∧ PS z (Int.toNat (q % (18446744073709551616 : Int) % (3 : Int))) + a % (16 : Int) = PS z (Int.toNat (q % (18446744073709551616 : Int) % (3 : Int))) + a % (16 : Int) ∧ IntKind.wrap IntKind.i64 ((↑i : Int) + (1 : Int)) = (↑(i + 1) : Int) ∧ True) ∧ (3 = 3 ∧ (∀ (jj0 : Nat), (jj0 < 3 → True ∧ (0 : Int) = (0 : Int) ∧ (0 : Int) = (0 : Int) ∧ True ∧ PS z jj0 = PS z jj0 ∧ z jj0 0 % (16 : Int) = z jj0 0 % (16 : Int) ∧ True))) ∧ (len = len ∧ (∀ (jj0 : Nat), (jj0 < len → True ∧ z jj0 0 = z jj0 0 ∧ True))) ∧ True))) ∧ ((decide (z 0 0 % (16 : Int) = (0 : Int))) = false → (decide (IntKind.wrap IntKind.i64 (PS z 1 + z 1 0 % (16 : Int)) ≤ PS z 0)) = false ∧
 (!decide (IntKind.wrap IntKind.i64 (PS z 0 + z 0 0 % (16 : Int)) ≤ PS z 1)) = false ∧
 (decide ((0 : Int) ≤ PS z 2)) = true ∧
 (decide ((0 : Int) ≤ z 2 0 % (16 : Int))) = true ∧
 (decide (PS z 2 ≤ (64 : Int))) = true ∧
 (!decide (z 2 0 % (16 : Int) ≤ IntKind.wrap IntKind.i64 ((64 : Int) - PS z 2))) = false ∧
 (((decide (z 2 0 % (16 : Int) = (0 : Int))) = true → (decide (z 2 0 % (16 : Int) = (0 : Int))) = true ∧
 (decide (q % (18446744073709551616 : Int) % (3 : Int) < (0 : Int))) = false ∧
 (decide ((3 : Int) ≤ q % (18446744073709551616 : Int) % (3 : Int))) = false ∧
 (decide ((0 : Int) ≤ q % (18446744073709551616 : Int) % (3 : Int)) && decide (q % (18446744073709551616 : Int) % (3 : Int) < (3 : Int))) = true ∧
 (decide (0 + Int.toNat (q % (18446744073709551616 : Int) % (3 : Int)) * 1 < 3)) = true ∧
 (decide ((0 : Int) ≤ IntKind.wrap IntKind.i64 (a % (16 : Int) + (↑i : Int)))) = true ∧
 (decide ((0 : Int) ≤ z (0 + Int.toNat (q % (18446744073709551616 : Int) % (3 : Int)) * 1) 0 % (16 : Int))) = true ∧
 (decide (IntKind.wrap IntKind.i64 (a % (16 : Int) + (↑i : Int)) ≤ z (0 + Int.toNat (q % (18446744073709551616 : Int) % (3 : Int)) * 1) 0 % (16 : Int))) = true ∧
 (!decide ((1 : Int) ≤ IntKind.wrap IntKind.i64 (z (0 + Int.toNat (q % (18446744073709551616 : Int) % (3 : Int)) * 1) 0 % (16 : Int) - IntKind.wrap IntKind.i64 (a % (16 : Int) + (↑i : Int))))) = false ∧
 (decide ((0 : Int) ≤ q % (18446744073709551616 : Int) % (3 : Int)) && decide (q % (18446744073709551616 : Int) % (3 : Int) < (3 : Int))) = true ∧
 (decide (0 + Int.toNat (q % (18446744073709551616 : Int) % (3 : Int)) * 1 < 3)) = true ∧
 (!decide (IntKind.wrap IntKind.i64 (PS z (0 + Int.toNat (q % (18446744073709551616 : Int) % (3 : Int)) * 1) + IntKind.wrap IntKind.i64 (a % (16 : Int) + (↑i : Int))) = IntKind.wrap IntKind.i64 (PS z (Int.toNat (q % (18446744073709551616 : Int) % (3 : Int))) + a % (16 : Int) + (↑i : Int)))) = false ∧
 (↑(i + 1) : Int) ≤ k % (16 : Int) ∧ Int.toNat (k % (16 : Int)) - (i + 1) < Int.toNat (k % (16 : Int)) - i ∧ ((0 = 0 ∧ len = len ∧ cap = cap) ∧ q = q ∧ a = a ∧ k = k ∧ Bool.false = Bool.false ∧ (0 = 0 ∧ 3 = 3 ∧ 3 = 3) ∧ PS z 3 = PS z 3 ∧ q % (18446744073709551616 : Int) % (3 : Int) = q % (18446744073709551616 : Int) % (3 : Int) ∧ a % (16 : Int) = a % (16 : Int) ∧ k % (16 : Int) = k % (16 : Int) ∧ PS z (Int.toNat (q % (18446744073709551616 : Int) % (3 : Int))) + a % (16 : Int) = PS z (Int.toNat (q % (18446744073709551616 : Int) % (3 : Int))) + a % (16 : Int) ∧ IntKind.wrap IntKind.i64 ((↑i : Int) + (1 : Int)) = (↑(i + 1) : Int) ∧ True) ∧ (3 = 3 ∧ (∀ (jj0 : Nat), (jj0 < 3 → True ∧ (0 : Int) = (0 : Int) ∧ (0 : Int) = (0 : Int) ∧ True ∧ PS z jj0 = PS z jj0 ∧ z jj0 0 % (16 : Int) = z jj0 0 % (16 : Int) ∧ True))) ∧ (len = len ∧ (∀ (jj0 : Nat), (jj0 < len → True ∧ z jj0 0 = z jj0 0 ∧ True))) ∧ True) ∧ ((decide (z 2 0 % (16 : Int) = (0 : Int))) = false → (decide (z 0 0 % (16 : Int) = (0 : Int))) = false ∧
 (decide (IntKind.wrap IntKind.i64 (PS z 2 + z 2 0 % (16 : Int)) ≤ PS z 0)) = false ∧
 (!decide (IntKind.wrap IntKind.i64 (PS z 0 + z 0 0 % (16 : Int)) ≤ PS z 2)) = false ∧
 (decide (z 2 0 % (16 : Int) = (0 : Int))) = false ∧
 (decide (z 1 0 % (16 : Int) = (0 : Int))) = false ∧
 (decide (IntKind.wrap IntKind.i64 (PS z 2 + z 2 0 % (16 : Int)) ≤ PS z 1)) = false ∧
 (!decide (IntKind.wrap IntKind.i64 (PS z 1 + z 1 0 % (16 : Int)) ≤ PS z 2)) = false ∧
 (decide (q % (18446744073709551616 : Int) % (3 : Int) < (0 : Int))) = false ∧
 (decide ((3 : Int) ≤ q % (18446744073709551616 : Int) % (3 : Int))) = false ∧
 (decide ((0 : Int) ≤ q % (18446744073709551616 : Int) % (3 : Int)) && decide (q % (18446744073709551616 : Int) % (3 : Int) < (3 : Int))) = true ∧
 (decide (0 + Int.toNat (q % (18446744073709551616 : Int) % (3 : Int)) * 1 < 3)) = true ∧
 (decide ((0 : Int) ≤ IntKind.wrap IntKind.i64 (a % (16 : Int) + (↑i : Int)))) = true ∧
 (decide ((0 : Int) ≤ z (0 + Int.toNat (q % (18446744073709551616 : Int) % (3 : Int)) * 1) 0 % (16 : Int))) = true ∧
 (decide (IntKind.wrap IntKind.i64 (a % (16 : Int) + (↑i : Int)) ≤ z (0 + Int.toNat (q % (18446744073709551616 : Int) % (3 : Int)) * 1) 0 % (16 : Int))) = true ∧
 (!decide ((1 : Int) ≤ IntKind.wrap IntKind.i64 (z (0 + Int.toNat (q % (18446744073709551616 : Int) % (3 : Int)) * 1) 0 % (16 : Int) - IntKind.wrap IntKind.i64 (a % (16 : Int) + (↑i : Int))))) = false ∧
 (decide ((0 : Int) ≤ q % (18446744073709551616 : Int) % (3 : Int)) && decide (q % (18446744073709551616 : Int) % (3 : Int) < (3 : Int))) = true ∧
 (decide (0 + Int.toNat (q % (18446744073709551616 : Int) % (3 : Int)) * 1 < 3)) = true ∧
 (!decide (IntKind.wrap IntKind.i64 (PS z (0 + Int.toNat (q % (18446744073709551616 : Int) % (3 : Int)) * 1) + IntKind.wrap IntKind.i64 (a % (16 : Int) + (↑i : Int))) = IntKind.wrap IntKind.i64 (PS z (Int.toNat (q % (18446744073709551616 : Int) % (3 : Int))) + a % (16 : Int) + (↑i : Int)))) = false ∧
 (↑(i + 1) : Int) ≤ k % (16 : Int) ∧ Int.toNat (k % (16 : Int)) - (i + 1) < Int.toNat (k % (16 : Int)) - i ∧ ((0 = 0 ∧ len = len ∧ cap = cap) ∧ q = q ∧ a = a ∧ k = k ∧ Bool.false = Bool.false ∧ (0 = 0 ∧ 3 = 3 ∧ 3 = 3) ∧ PS z 3 = PS z 3 ∧ q % (18446744073709551616 : Int) % (3 : Int) = q % (18446744073709551616 : Int) % (3 : Int) ∧ a % (16 : Int) = a % (16 : Int) ∧ k % (16 : Int) = k % (16 : Int) ∧ PS z (Int.toNat (q % (18446744073709551616 : Int) % (3 : Int))) + a % (16 : Int) = PS z (Int.toNat (q % (18446744073709551616 : Int) % (3 : Int))) + a % (16 : Int) ∧ IntKind.wrap IntKind.i64 ((↑i : Int) + (1 : Int)) = (↑(i + 1) : Int) ∧ True) ∧ (3 = 3 ∧ (∀ (jj0 : Nat), (jj0 < 3 → True ∧ (0 : Int) = (0 : Int) ∧ (0 : Int) = (0 : Int) ∧ True ∧ PS z jj0 = PS z jj0 ∧ z jj0 0 % (16 : Int) = z jj0 0 % (16 : Int) ∧ True))) ∧ (len = len ∧ (∀ (jj0 : Nat), (jj0 < len → True ∧ z jj0 0 = z jj0 0 ∧ True))) ∧ True))))))) ∧ ((decide ((↑i : Int) < k % (16 : Int))) = false → True ∧ ((0 = 0 ∧ len = len ∧ cap = cap) ∧ q = q ∧ a = a ∧ k = k ∧ Bool.false = Bool.false ∧ (0 = 0 ∧ 3 = 3 ∧ 3 = 3) ∧ PS z 3 = PS z 3 ∧ q % (18446744073709551616 : Int) % (3 : Int) = q % (18446744073709551616 : Int) % (3 : Int) ∧ a % (16 : Int) = a % (16 : Int) ∧ k % (16 : Int) = k % (16 : Int) ∧ PS z (Int.toNat (q % (18446744073709551616 : Int) % (3 : Int))) + a % (16 : Int) = PS z (Int.toNat (q % (18446744073709551616 : Int) % (3 : Int))) + a % (16 : Int) ∧ (↑i : Int) = (↑(Int.toNat (k % (16 : Int))) : Int) ∧ True) ∧ (3 = 3 ∧ (∀ (jj0 : Nat), (jj0 < 3 → True ∧ (0 : Int) = (0 : Int) ∧ (0 : Int) = (0 : Int) ∧ True ∧ PS z jj0 = PS z jj0 ∧ z jj0 0 % (16 : Int) = z jj0 0 % (16 : Int) ∧ True))) ∧ (len = len ∧ (∀ (jj0 : Nat), (jj0 < len → True ∧ z jj0 0 = z jj0 0 ∧ True))) ∧ True))) (by kernel_rfl) ?_⟩
  repeat' (first | (refine And.intro ?_ ?_) | (with_reducible intro hh; (try simp (disch := omega) only [decide_eq_true_eq, decide_eq_false_iff_not, Bool.and_eq_true, Bool.and_eq_false_imp, Bool.not_eq_true', Bool.not_eq_false', reduceCtorEq, or_false, or_true, Bool.or_eq_true, Bool.or_eq_false_iff, Int.not_lt, Int.not_le, beq_iff_eq, beq_eq_false_iff_ne, Bool.cond_self, Bool.true_and, Bool.and_true, true_and, and_true, mask15, fdiv_nn, i64_bits, wrap_id, wrap_u64, tmod_nn, tdiv_nn, decide_true, decide_false, cond_true, cond_false, Nat.zero_add, Nat.mul_one, Int.toNat_natCast, Int.toNat_zero, Int.toNat_one, tn2, tn3] at hh)))
  all_goals (first | with_reducible rfl | trivial | (first | exact Go.AE.sveq_self _ rfl | (simp only [decide_eq_true_eq, decide_eq_false_iff_not, Bool.and_eq_true, Bool.and_eq_false_imp, Bool.not_eq_true', Bool.not_eq_false', reduceCtorEq, or_false, or_true, Bool.or_eq_true, Bool.or_eq_false_iff, Int.not_lt, Int.not_le, beq_iff_eq, beq_eq_false_iff_ne, Bool.cond_self, Bool.true_and, Bool.and_true, true_and, and_true]; omega) | (simp (disch := omega) only [decide_eq_true_eq, decide_eq_false_iff_not, Bool.and_eq_true, Bool.and_eq_false_imp, Bool.not_eq_true', Bool.not_eq_false', reduceCtorEq, or_false, or_true, Bool.or_eq_true, Bool.or_eq_false_iff, Int.not_lt, Int.not_le, beq_iff_eq, beq_eq_false_iff_ne, Bool.cond_self, Bool.true_and, Bool.and_true, true_and, and_true, mask15, fdiv_nn, i64_bits, wrap_id, wrap_u64, tmod_nn, tdiv_nn, decide_true, decide_false, cond_true, cond_false, Nat.zero_add, Nat.mul_one, Int.toNat_natCast, Int.toNat_zero, Int.toNat_one, tn2, tn3]; first | done | omega) | (simp (disch := omega) only [decide_eq_true_eq, decide_eq_false_iff_not, Bool.and_eq_true, Bool.and_eq_false_imp, Bool.not_eq_true', Bool.not_eq_false', reduceCtorEq, or_false, or_true, Bool.or_eq_true, Bool.or_eq_false_iff, Int.not_lt, Int.not_le, beq_iff_eq, beq_eq_false_iff_ne, Bool.cond_self, Bool.true_and, Bool.and_true, true_and, and_true, mask15, fdiv_nn, i64_bits, wrap_id, wrap_u64, tmod_nn, tdiv_nn, decide_true, decide_false, cond_true, cond_false, Nat.zero_add, Nat.mul_one, Int.toNat_natCast, Int.toNat_zero, Int.toNat_one, tn2, tn3] at *; first | done | omega)) | (simp only [Bool.cond_self, Go.AE.eqV, Go.AE.okL, Go.AE.eqL]; done) | (rw [show i + 1 = 3 by omega]; done) | ((try simp (disch := omega) only [decide_eq_true_eq, decide_eq_false_iff_not, Bool.and_eq_true, Bool.and_eq_false_imp, Bool.not_eq_true', Bool.not_eq_false', reduceCtorEq, or_false, or_true, Bool.or_eq_true, Bool.or_eq_false_iff, Int.not_lt, Int.not_le, beq_iff_eq, beq_eq_false_iff_ne, Bool.cond_self, Bool.true_and, Bool.and_true, true_and, and_true, mask15, fdiv_nn, i64_bits, wrap_id, wrap_u64, tmod_nn, tdiv_nn, decide_true, decide_false, cond_true, cond_false, Nat.zero_add, Nat.mul_one, Int.toNat_natCast, Int.toNat_zero, Int.toNat_one, tn2, tn3] at *) <;> (try simp only [cond_eq_ite, decide_eq_true_eq, decide_eq_false_iff_not, Bool.and_eq_true, Bool.and_eq_false_imp, Bool.not_eq_true', Bool.not_eq_false', reduceCtorEq, or_false, or_true, Bool.or_eq_true, Bool.or_eq_false_iff, Int.not_lt, Int.not_le, beq_iff_eq, beq_eq_false_iff_ne, Bool.cond_self, Bool.true_and, Bool.and_true, true_and, and_true]) <;> (repeat' split) <;> first | rfl | contradiction | omega | (congr 1 <;> omega) | (congr 2 <;> omega) | (simp only [PS]; omega) | (rw [show i + 1 = 3 by omega]; done) | trace_state))
theorem lb_3_103 (z : Nat → Nat → Int) (q a k : Int) (len cap : Nat) (hps : PS z 0 = 0 ∧ PS z 1 = PS z 0 + z 0 0 % 16 ∧ PS z 2 = PS z 1 + z 1 0 % 16 ∧ PS z 3 = PS z 2 + z 2 0 % 16 ∧ PS z 4 = PS z 3 + z 3 0 % 16) (bpp : 0 ≤ PS z (Int.toNat (q % 18446744073709551616 % 3)) ∧ PS z (Int.toNat (q % 18446744073709551616 % 3)) ≤ 60) (hm : a % 16 + k % 16 ≤ z (Int.toNat (q % 18446744073709551616 % 3)) 0 % 16) : LO Try.prog (lp Try.prog 6 1) (TB z q a k len cap 3 0) (SB z len 3 103) (.x 2 (TB z q a k len cap 3 (Int.toNat (k % 16))) (SB z len 3 103)) :=
  LQ.one (loop_scr pk okc (by kernel_rfl) (1 + 103) (TB z q a k len cap 3) (fun _ => (SB z len 3 103)) (fun i => Int.toNat (k % 16) - i) (fun i => (i : Int) ≤ k % 16) (fun _ => True) (fun _ => .x 2 (TB z q a k len cap 3 (Int.toNat (k % 16))) (SB z len 3 103)) (fun _ => rfl) (fun i hi => b_3_103 z q a k len cap i hi hps bpp hm) (by show (((0 : Nat) : Int)) ≤ k % 16; omega) rfl)
set_option maxHeartbeats 8000000 in
theorem main_3_false (z : Nat → Nat → Int) (q a k : Int) (len cap : Nat) (p : Pl) (hL : min len 4 = 3) (hlo : LO Try.prog (lp Try.prog 6 0) (TA false z q a k len cap 0) (SA false z len 0) (.x 0 (TA false z q a k len cap 3) (SA false z len 3))) (hps : PS z 0 = 0 ∧ PS z 1 = PS z 0 + z 0 0 % 16 ∧ PS z 2 = PS z 1 + z 1 0 % 16 ∧ PS z 3 = PS z 2 + z 2 0 % 16 ∧ PS z 4 = PS z 3 + z 3 0 % 16) (bpp : 0 ≤ PS z (Int.toNat (q % 18446744073709551616 % 3)) ∧ PS z (Int.toNat (q % 18446744073709551616 % 3)) ≤ 60) (hb103 : a % 16 + k % 16 ≤ z (Int.toNat (q % 18446744073709551616 % 3)) 0 % 16 → LO Try.prog (lp Try.prog 6 1) (TB z q a k len cap 3 0) (SB z len 3 103) (.x 2 (TB z q a k len cap 3 (Int.toNat (k % 16))) (SB z len 3 103))) (hc : z (Int.toNat (3 - 1)) 0 % 16 = z (2) 0 % 16) :
    ∃ r, callK (HS Try.prog [1000000] ctr) Try.prog 6 [xv false len cap, .int .i64 q, .int .i64 a, .int .i64 k] (sOf (cond false [] [(p, .fam 1 true len fun i => [.int .i64 (z i 0)])])) kTrue r := by
  refine ⟨.Z <| .L (TA Bool.false z q a k len cap 0) (SA Bool.false z len 0) (Go.AE.Out.x 0 (TA Bool.false z q a k len cap 3) (SA Bool.false z len 3)) <| .zn 10 <| .N <| .Z <| .Z <| .N <| .U <| .zn 8 <| .T <| .Z <| .Z <| .T <| .zn 3 <| .T <| .zn 5 <| .N <| .U <| .zn 6 <| .T <| .Z <| .Z <| .T <| .Z <| .Z <| .T <| .zn 3 <| .T <| .zn 5 <| .N <| .U <| .zn 4 <| .B (.zn 42 <| .T <| .Z <| .Z <| .T <| .Z <| .Z <| .T <| .zn 3 <| .T <| .zn 5 <| .N <| .U <| .zn 4 <| .B (.zn 40 <| .T <| .zn 53 <| .U <| .zn 8 <| .T <| .zn 12 <| .N <| .U <| .zn 6 <| .T <| .Z <| .Z <| .T <| .zn 6 <| .T <| .zn 5 <| .N <| .U <| .zn 4 <| .T <| .zn 42 <| .T <| .Z <| .Z <| .T <| .zn 6 <| .T <| .zn 5 <| .N <| .U <| .zn 4 <| .T <| .zn 40 <| .T <| .zn 41 <| .N <| .zn 4 <| .N <| .tn 3 <| .Z <| .Z <| .T <| .Z <| .Z <| .T <| .zn 3 <| .B (.zn 5 <| .B (.tn 3 <| .zn 3 <| .E (0) []) (.tn 4 <| .N <| .zn 4 <| .T <| .Z <| .Z <| .T <| .zn 4 <| .N <| .L (TB z q a k len cap 3 0) (SB z len 3 103) (Go.AE.Out.x 2 (TB z q a k len cap 3 (Int.toNat (k % (16 : Int)))) (SB z len 3 103)) <| .B (.zn 14 <| .E (0) []) (.zn 10 <| .N <| .Z <| .Z <| .N <| .U <| .zn 8 <| .T <| .Z <| .Z <| .T <| .zn 3 <| .T <| .zn 5 <| .T <| .zn 11 <| .E (0) []))) (.zn 6 <| .tn 3 <| .zn 3 <| .E (0) [])) (.zn 6 <| .B (.zn 34 <| .N <| .zn 6 <| .T <| .zn 47 <| .U <| .zn 8 <| .T <| .zn 12 <| .N <| .U <| .zn 6 <| .T <| .Z <| .Z <| .T <| .zn 6 <| .T <| .zn 5 <| .N <| .U <| .zn 4 <| .T <| .zn 42 <| .T <| .Z <| .Z <| .T <| .zn 6 <| .T <| .zn 5 <| .N <| .U <| .zn 4 <| .N <| .zn 6 <| .T <| .zn 34 <| .N <| .zn 6 <| .T <| .zn 35 <| .N <| .zn 4 <| .N <| .tn 3 <| .Z <| .Z <| .T <| .Z <| .Z <| .T <| .zn 3 <| .B (.zn 5 <| .B (.tn 3 <| .zn 3 <| .E (0) []) (.tn 4 <| .N <| .zn 4 <| .T <| .Z <| .Z <| .T <| .zn 4 <| .N <| .L (TB z q a k len cap 3 0) (SB z len 3 103) (Go.AE.Out.x 2 (TB z q a k len cap 3 (Int.toNat (k % (16 : Int)))) (SB z len 3 103)) <| .N <| .zn 10 <| .N <| .Z <| .Z <| .N <| .U <| .zn 8 <| .T <| .Z <| .Z <| .T <| .zn 3 <| .T <| .zn 5 <| .N <| .U <| .zn 6 <| .T <| .Z <| .Z <| .T <| .Z <| .Z <| .T <| .zn 3 <| .T <| .zn 5 <| .N <| .U <| .zn 4 <| .T <| .zn 42 <| .T <| .Z <| .Z <| .T <| .Z <| .Z <| .T <| .zn 3 <| .T <| .zn 5 <| .T <| .zn 11 <| .E (0) [])) (.zn 6 <| .tn 3 <| .zn 3 <| .E (0) [])) (.zn 17 <| .N <| .zn 17 <| .N <| .zn 4 <| .N <| .zn 6 <| .T <| .zn 47 <| .U <| .zn 8 <| .T <| .zn 12 <| .N <| .U <| .zn 6 <| .T <| .Z <| .Z <| .T <| .zn 6 <| .T <| .zn 5 <| .N <| .U <| .zn 4 <| .T <| .zn 42 <| .T <| .Z <| .Z <| .T <| .zn 6 <| .T <| .zn 5 <| .N <| .U <| .zn 4 <| .N <| .zn 6 <| .N <| .zn 17 <| .N <| .zn 17 <| .N <| .zn 4 <| .N <| .zn 6 <| .T <| .zn 35 <| .N <| .zn 4 <| .N <| .tn 3 <| .Z <| .Z <| .T <| .Z <| .Z <| .T <| .zn 3 <| .B (.zn 5 <| .B (.tn 3 <| .zn 3 <| .E (0) []) (.tn 4 <| .N <| .zn 4 <| .T <| .Z <| .Z <| .T <| .zn 4 <| .N <| .L (TB z q a k len cap 3 0) (SB z len 3 103) (Go.AE.Out.x 2 (TB z q a k len cap 3 (Int.toNat (k % (16 : Int)))) (SB z len 3 103)) <| .N <| .zn 10 <| .N <| .Z <| .Z <| .N <| .U <| .zn 8 <| .T <| .Z <| .Z <| .T <| .zn 3 <| .T <| .zn 5 <| .N <| .U <| .zn 6 <| .T <| .Z <| .Z <| .T <| .Z <| .Z <| .T <| .zn 3 <| .T <| .zn 5 <| .N <| .U <| .zn 4 <| .T <| .zn 42 <| .T <| .Z <| .Z <| .T <| .Z <| .Z <| .T <| .zn 3 <| .T <| .zn 5 <| .T <| .zn 11 <| .E (0) [])) (.zn 6 <| .tn 3 <| .zn 3 <| .E (0) [])))) (.zn 6 <| .B (.zn 36 <| .T <| .Z <| .Z <| .T <| .Z <| .Z <| .T <| .zn 3 <| .T <| .zn 5 <| .N <| .U <| .zn 4 <| .B (.zn 40 <| .T <| .zn 53 <| .U <| .zn 8 <| .T <| .zn 12 <| .N <| .U <| .zn 6 <| .T <| .Z <| .Z <| .T <| .zn 6 <| .T <| .zn 5 <| .N <| .U <| .zn 4 <| .N <| .zn 6 <| .T <| .zn 36 <| .T <| .Z <| .Z <| .T <| .zn 6 <| .T <| .zn 5 <| .N <| .U <| .zn 4 <| .T <| .zn 40 <| .T <| .zn 41 <| .N <| .zn 4 <| .N <| .tn 3 <| .Z <| .Z <| .T <| .Z <| .Z <| .T <| .zn 3 <| .B (.zn 5 <| .B (.tn 3 <| .zn 3 <| .E (0) []) (.tn 4 <| .N <| .zn 4 <| .T <| .Z <| .Z <| .T <| .zn 4 <| .N <| .L (TB z q a k len cap 3 0) (SB z len 3 103) (Go.AE.Out.x 2 (TB z q a k len cap 3 (Int.toNat (k % (16 : Int)))) (SB z len 3 103)) <| .N <| .zn 10 <| .N <| .Z <| .Z <| .N <| .U <| .zn 8 <| .T <| .Z <| .Z <| .T <| .zn 3 <| .T <| .zn 5 <| .N <| .U <| .zn 6 <| .T <| .Z <| .Z <| .T <| .Z <| .Z <| .T <| .zn 3 <| .T <| .zn 5 <| .T <| .zn 11 <| .E (0) [])) (.zn 6 <| .tn 3 <| .zn 3 <| .E (0) [])) (.zn 6 <| .T <| .zn 34 <| .N <| .zn 6 <| .N <| .zn 17 <| .N <| .zn 17 <| .N <| .zn 17 <| .U <| .zn 8 <| .T <| .zn 12 <| .N <| .U <| .zn 6 <| .T <| .Z <| .Z <| .T <| .zn 6 <| .T <| .zn 5 <| .N <| .U <| .zn 4 <| .N <| .zn 6 <| .T <| .zn 36 <| .T <| .Z <| .Z <| .T <| .zn 6 <| .T <| .zn 5 <| .N <| .U <| .zn 4 <| .N <| .zn 6 <| .T <| .zn 34 <| .N <| .zn 6 <| .N <| .zn 17 <| .N <| .zn 17 <| .N <| .zn 5 <| .N <| .zn 4 <| .N <| .tn 3 <| .Z <| .Z <| .T <| .Z <| .Z <| .T <| .zn 3 <| .B (.zn 5 <| .B (.tn 3 <| .zn 3 <| .E (0) []) (.tn 4 <| .N <| .zn 4 <| .T <| .Z <| .Z <| .T <| .zn 4 <| .N <| .L (TB z q a k len cap 3 0) (SB z len 3 103) (Go.AE.Out.x 2 (TB z q a k len cap 3 (Int.toNat (k % (16 : Int)))) (SB z len 3 103)) <| .N <| .zn 10 <| .N <| .Z <| .Z <| .N <| .U <| .zn 8 <| .T <| .Z <| .Z <| .T <| .zn 3 <| .T <| .zn 5 <| .N <| .U <| .zn 6 <| .T <| .Z <| .Z <| .T <| .Z <| .Z <| .T <| .zn 3 <| .T <| .zn 5 <| .N <| .U <| .zn 4 <| .N <| .zn 6 <| .T <| .zn 36 <| .T <| .Z <| .Z <| .T <| .Z <| .Z <| .T <| .zn 3 <| .T <| .zn 5 <| .T <| .zn 11 <| .E (0) [])) (.zn 6 <| .tn 3 <| .zn 3 <| .E (0) []))) (.zn 17 <| .N <| .zn 17 <| .N <| .zn 6 <| .T <| .Z <| .Z <| .T <| .Z <| .Z <| .T <| .zn 3 <| .T <| .zn 5 <| .N <| .U <| .zn 4 <| .B (.zn 40 <| .T <| .zn 53 <| .U <| .zn 8 <| .T <| .zn 12 <| .N <| .U <| .zn 6 <| .T <| .Z <| .Z <| .T <| .zn 6 <| .T <| .zn 5 <| .N <| .U <| .zn 4 <| .N <| .zn 6 <| .N <| .zn 17 <| .N <| .zn 17 <| .N <| .zn 6 <| .T <| .Z <| .Z <| .T <| .zn 6 <| .T <| .zn 5 <| .N <| .U <| .zn 4 <| .T <| .zn 40 <| .T <| .zn 41 <| .N <| .zn 4 <| .N <| .tn 3 <| .Z <| .Z <| .T <| .Z <| .Z <| .T <| .zn 3 <| .B (.zn 5 <| .B (.tn 3 <| .zn 3 <| .E (0) []) (.tn 4 <| .N <| .zn 4 <| .T <| .Z <| .Z <| .T <| .zn 4 <| .N <| .L (TB z q a k len cap 3 0) (SB z len 3 103) (Go.AE.Out.x 2 (TB z q a k len cap 3 (Int.toNat (k % (16 : Int)))) (SB z len 3 103)) <| .N <| .zn 10 <| .N <| .Z <| .Z <| .N <| .U <| .zn 8 <| .T <| .Z <| .Z <| .T <| .zn 3 <| .T <| .zn 5 <| .N <| .U <| .zn 6 <| .T <| .Z <| .Z <| .T <| .Z <| .Z <| .T <| .zn 3 <| .T <| .zn 5 <| .T <| .zn 11 <| .E (0) [])) (.zn 6 <| .tn 3 <| .zn 3 <| .E (0) [])) (.zn 6 <| .N <| .zn 17 <| .N <| .zn 17 <| .N <| .zn 4 <| .N <| .zn 6 <| .N <| .zn 17 <| .N <| .zn 17 <| .N <| .zn 17 <| .U <| .zn 8 <| .T <| .zn 12 <| .N <| .U <| .zn 6 <| .T <| .Z <| .Z <| .T <| .zn 6 <| .T <| .zn 5 <| .N <| .U <| .zn 4 <| .N <| .zn 6 <| .N <| .zn 17 <| .N <| .zn 17 <| .N <| .zn 6 <| .T <| .Z <| .Z <| .T <| .zn 6 <| .T <| .zn 5 <| .N <| .U <| .zn 4 <| .N <| .zn 6 <| .N <| .zn 17 <| .N <| .zn 17 <| .N <| .zn 4 <| .N <| .zn 6 <| .N <| .zn 17 <| .N <| .zn 17 <| .N <| .zn 5 <| .N <| .zn 4 <| .N <| .tn 3 <| .Z <| .Z <| .T <| .Z <| .Z <| .T <| .zn 3 <| .B (.zn 5 <| .B (.tn 3 <| .zn 3 <| .E (0) []) (.tn 4 <| .N <| .zn 4 <| .T <| .Z <| .Z <| .T <| .zn 4 <| .N <| .L (TB z q a k len cap 3 0) (SB z len 3 103) (Go.AE.Out.x 2 (TB z q a k len cap 3 (Int.toNat (k % (16 : Int)))) (SB z len 3 103)) <| .N <| .zn 10 <| .N <| .Z <| .Z <| .N <| .U <| .zn 8 <| .T <| .Z <| .Z <| .T <| .zn 3 <| .T <| .zn 5 <| .N <| .U <| .zn 6 <| .T <| .Z <| .Z <| .T <| .Z <| .Z <| .T <| .zn 3 <| .T <| .zn 5 <| .N <| .U <| .zn 4 <| .N <| .zn 6 <| .N <| .zn 17 <| .N <| .zn 17 <| .N <| .zn 6 <| .T <| .Z <| .Z <| .T <| .Z <| .Z <| .T <| .zn 3 <| .T <| .zn 5 <| .T <| .zn 11 <| .E (0) [])) (.zn 6 <| .tn 3 <| .zn 3 <| .E (0) [])))), Go.AE.kchange (b := (True) ∧
 (((0 = 0 ∧ len = len ∧ cap = cap) ∧ q = q ∧ a = a ∧ k = k ∧ Bool.false = Bool.false ∧ True ∧ (0 : Int) = (0 : Int) ∧ (0 : Int) = (0 : Int) ∧ True) ∧ (len = len ∧ (∀ (jj0 : Nat), (jj0 < len → True ∧ z jj0 0 = z jj0 0 ∧ True))) ∧ True) ∧
 LO (Go.Proofs.Try.prog) (Go.AE.lp Go.Proofs.Try.prog 6 0) (TA Bool.false z q a k len cap 0) (SA Bool.false z len 0) (Go.AE.Out.x 0 (TA Bool.false z q a k len cap 3) (SA Bool.false z len 3)) ∧
 (decide (PS z 3 < (0 : Int))) = false ∧
 (decide ((64 : Int) < PS z 3)) = false ∧
 (decide ((0 : Int) ≤ z 0 0 % (16 : Int))) = true ∧
 (decide ((0 : Int) ≤ PS z 3)) = true ∧
 (decide (PS z 0 ≤ PS z 3)) = true ∧
 (!decide (z 0 0 % (16 : Int) ≤ IntKind.wrap IntKind.i64 (PS z 3 - PS z 0))) = false ∧
 (decide ((0 : Int) ≤ PS z 1)) = true ∧
 (decide ((0 : Int) ≤ z 1 0 % (16 : Int))) = true ∧
 (decide ((0 : Int) ≤ PS z 3)) = true ∧
 (decide (PS z 1 ≤ PS z 3)) = true ∧
 (!decide (z 1 0 % (16 : Int) ≤ IntKind.wrap IntKind.i64 (PS z 3 - PS z 1))) = false ∧
 (((decide (z 1 0 % (16 : Int) = (0 : Int))) = true → (decide ((0 : Int) ≤ PS z 2)) = true ∧
 (decide ((0 : Int) ≤ z 2 0 % (16 : Int))) = true ∧
 (decide ((0 : Int) ≤ PS z 3)) = true ∧
 (decide (PS z 2 ≤ PS z 3)) = true ∧
 (!decide (z 2 0 % (16 : Int) ≤ IntKind.wrap IntKind.i64 (PS z 3 - PS z 2))) = false ∧
 (((decide (z 2 0 % (16 : Int) = (0 : Int))) = true → (decide (z 2 0 % (16 : Int) = (0 : Int))) = true ∧
 (decide ((0 : Int) ≤ z 0 0 % (16 : Int))) = true ∧
 (!decide (z 0 0 % (16 : Int) ≤ IntKind.wrap IntKind.i64 ((64 : Int) - PS z 0))) = false ∧
 (decide ((0 : Int) ≤ PS z 1)) = true ∧
 (decide ((0 : Int) ≤ z 1 0 % (16 : Int))) = true ∧
 (decide (PS z 1 ≤ (64 : Int))) = true ∧
 (!decide (z 1 0 % (16 : Int) ≤ IntKind.wrap IntKind.i64 ((64 : Int) - PS z 1))) = false ∧
 (decide (z 1 0 % (16 : Int) = (0 : Int))) = true ∧
 (decide ((0 : Int) ≤ PS z 2)) = true ∧
 (decide ((0 : Int) ≤ z 2 0 % (16 : Int))) = true ∧
 (decide (PS z 2 ≤ (64 : Int))) = true ∧
 (!decide (z 2 0 % (16 : Int) ≤ IntKind.wrap IntKind.i64 ((64 : Int) - PS z 2))) = false ∧
 (decide (z 2 0 % (16 : Int) = (0 : Int))) = true ∧
 (decide (z 2 0 % (16 : Int) = (0 : Int))) = true ∧
 (decide (IntKind.wrap IntKind.i64 (Int.tmod (IntKind.wrap IntKind.u64 q) (3 : Int)) < (0 : Int))) = false ∧
 (decide ((3 : Int) ≤ IntKind.wrap IntKind.i64 (Int.tmod (IntKind.wrap IntKind.u64 q) (3 : Int)))) = false ∧
 (decide ((0 : Int) ≤ IntKind.wrap IntKind.i64 (Int.tmod (IntKind.wrap IntKind.u64 q) (3 : Int))) && decide (IntKind.wrap IntKind.i64 (Int.tmod (IntKind.wrap IntKind.u64 q) (3 : Int)) < (3 : Int))) = true ∧
 (decide (0 + Int.toNat (IntKind.wrap IntKind.i64 (Int.tmod (IntKind.wrap IntKind.u64 q) (3 : Int))) * 1 < 3)) = true ∧
 (decide ((0 : Int) ≤ Go.bits BinOp.and IntKind.i64 a (15 : Int))) = true ∧
 (decide ((0 : Int) ≤ Go.bits BinOp.and IntKind.i64 k (15 : Int))) = true ∧
 (decide ((0 : Int) ≤ z (0 + Int.toNat (IntKind.wrap IntKind.i64 (Int.tmod (IntKind.wrap IntKind.u64 q) (3 : Int))) * 1) 0 % (16 : Int))) = true ∧
 (((decide (Go.bits BinOp.and IntKind.i64 a (15 : Int) ≤ z (0 + Int.toNat (IntKind.wrap IntKind.i64 (Int.tmod (IntKind.wrap IntKind.u64 q) (3 : Int))) * 1) 0 % (16 : Int))) = true → (((!decide (Go.bits BinOp.and IntKind.i64 k (15 : Int) ≤ IntKind.wrap IntKind.i64 (z (0 + Int.toNat (IntKind.wrap IntKind.i64 (Int.tmod (IntKind.wrap IntKind.u64 q) (3 : Int))) * 1) 0 % (16 : Int) - Go.bits BinOp.and IntKind.i64 a (15 : Int)))) = true → (decide ((0 : Int) ≤ IntKind.wrap IntKind.i64 (Int.tmod (IntKind.wrap IntKind.u64 q) (3 : Int))) && decide (IntKind.wrap IntKind.i64 (Int.tmod (IntKind.wrap IntKind.u64 q) (3 : Int)) < (3 : Int))) = true ∧
 (decide (0 + Int.toNat (IntKind.wrap IntKind.i64 (Int.tmod (IntKind.wrap IntKind.u64 q) (3 : Int))) * 1 < 3)) = true ∧
 (decide (z (0 + Int.toNat (IntKind.wrap IntKind.i64 (Int.tmod (IntKind.wrap IntKind.u64 q) (3 : Int))) * 1) 0 % (16 : Int) < IntKind.wrap IntKind.i64 (Go.bits BinOp.and IntKind.i64 a (15 : Int) + Go.bits BinOp.and IntKind.i64 k (15 : Int)))) = true ∧
 Bool.true = Bool.true) ∧ ((!decide (Go.bits BinOp.and IntKind.i64 k (15 : Int) ≤ IntKind.wrap IntKind.i64 (z (0 + Int.toNat (IntKind.wrap IntKind.i64 (Int.tmod (IntKind.wrap IntKind.u64 q) (3 : Int))) * 1) 0 % (16 : Int) - Go.bits BinOp.and IntKind.i64 a (15 : Int)))) = false → (decide ((0 : Int) ≤ IntKind.wrap IntKind.i64 (Int.tmod (IntKind.wrap IntKind.u64 q) (3 : Int))) && decide (IntKind.wrap IntKind.i64 (Int.tmod (IntKind.wrap IntKind.u64 q) (3 : Int)) < (3 : Int))) = true ∧
 (decide (0 + Int.toNat (IntKind.wrap IntKind.i64 (Int.tmod (IntKind.wrap IntKind.u64 q) (3 : Int))) * 1 < 3)) = true ∧
 (decide ((0 : Int) ≤ IntKind.wrap IntKind.i64 (Int.tmod (IntKind.wrap IntKind.u64 q) (3 : Int))) && decide (IntKind.wrap IntKind.i64 (Int.tmod (IntKind.wrap IntKind.u64 q) (3 : Int)) < (3 : Int))) = true ∧
 (decide (0 + Int.toNat (IntKind.wrap IntKind.i64 (Int.tmod (IntKind.wrap IntKind.u64 q) (3 : Int))) * 1 < 3)) = true ∧
 (decide (z (0 + Int.toNat (IntKind.wrap IntKind.i64 (Int.tmod (IntKind.wrap IntKind.u64 q) (3 : Int))) * 1) 0 % (16 : Int) < IntKind.wrap IntKind.i64 (Go.bits BinOp.and IntKind.i64 a (15 : Int) + Go.bits BinOp.and IntKind.i64 k (15 : Int)))) = false ∧
 (decide ((0 : Int) ≤ IntKind.wrap IntKind.i64 (Int.tmod (IntKind.wrap IntKind.u64 q) (3 : Int))) && decide (IntKind.wrap IntKind.i64 (Int.tmod (IntKind.wrap IntKind.u64 q) (3 : Int)) < (3 : Int))) = true ∧
 (decide (0 + Int.toNat (IntKind.wrap IntKind.i64 (Int.tmod (IntKind.wrap IntKind.u64 q) (3 : Int))) * 1 < 3)) = true ∧
 (!decide (IntKind.wrap IntKind.i64 (PS z (0 + Int.toNat (IntKind.wrap IntKind.i64 (Int.tmod (IntKind.wrap IntKind.u64 q) (3 : Int))) * 1) + Go.bits BinOp.and IntKind.i64 a (15 : Int)) = IntKind.wrap IntKind.i64 (PS z (0 + Int.toNat (IntKind.wrap IntKind.i64 (Int.tmod (IntKind.wrap IntKind.u64 q) (3 : Int))) * 1) + Go.bits BinOp.and IntKind.i64 a (15 : Int)))) = false ∧
 (((0 = 0 ∧ len = len ∧ cap = cap) ∧ q = q ∧ a = a ∧ k = k ∧ Bool.false = Bool.false ∧ (0 = 0 ∧ 3 = 3 ∧ 3 = 3) ∧ PS z 3 = PS z 3 ∧ IntKind.wrap IntKind.i64 (Int.tmod (IntKind.wrap IntKind.u64 q) (3 : Int)) = q % (18446744073709551616 : Int) % (3 : Int) ∧ Go.bits BinOp.and IntKind.i64 a (15 : Int) = a % (16 : Int) ∧ Go.bits BinOp.and IntKind.i64 k (15 : Int) = k % (16 : Int) ∧ IntKind.wrap IntKind.i64 (PS z (0 + Int.toNat (IntKind.wrap IntKind.i64 (Int.tmod (IntKind.wrap IntKind.u64 q) (3 : Int))) * 1) + Go.bits BinOp.and IntKind.i64 a (15 : Int)) = PS z (Int.toNat (q % (18446744073709551616 : Int) % (3 : Int))) + a % (16 : Int) ∧ (0 : Int) = (0 : Int) ∧ True) ∧ (3 = 3 ∧ (∀ (jj0 : Nat), (jj0 < 3 → True ∧ (0 : Int) = (0 : Int) ∧ (0 : Int) = (0 : Int) ∧ True ∧ PS z jj0 = PS z jj0 ∧ z jj0 0 % (16 : Int) = z jj0 0 % (16 : Int) ∧ True))) ∧ (len = len ∧ (∀ (jj0 : Nat), (jj0 < len → True ∧ z jj0 0 = z jj0 0 ∧ True))) ∧ True) ∧
 LO (Go.Proofs.Try.prog) (Go.AE.lp Go.Proofs.Try.prog 6 1) (TB z q a k len cap 3 0) (SB z len 3 103) (Go.AE.Out.x 2 (TB z q a k len cap 3 (Int.toNat (k % (16 : Int)))) (SB z len 3 103)) ∧
 (((decide (PS z 3 = (0 : Int))) = true → Bool.true = Bool.true) ∧ ((decide (PS z 3 = (0 : Int))) = false → (decide (IntKind.wrap IntKind.i64 (PS z 3 - (1 : Int)) < (0 : Int))) = false ∧
 (decide ((64 : Int) < IntKind.wrap IntKind.i64 (PS z 3 - (1 : Int)))) = false ∧
 (decide ((0 : Int) ≤ z 0 0 % (16 : Int))) = true ∧
 (decide ((0 : Int) ≤ IntKind.wrap IntKind.i64 (PS z 3 - (1 : Int)))) = true ∧
 (decide (PS z 0 ≤ IntKind.wrap IntKind.i64 (PS z 3 - (1 : Int)))) = true ∧
 (!decide (z 0 0 % (16 : Int) ≤ IntKind.wrap IntKind.i64 (IntKind.wrap IntKind.i64 (PS z 3 - (1 : Int)) - PS z 0))) = true ∧
 Bool.true = Bool.true))))) ∧ ((decide (Go.bits BinOp.and IntKind.i64 a (15 : Int) ≤ z (0 + Int.toNat (IntKind.wrap IntKind.i64 (Int.tmod (IntKind.wrap IntKind.u64 q) (3 : Int))) * 1) 0 % (16 : Int))) = false → (decide ((0 : Int) ≤ IntKind.wrap IntKind.i64 (Int.tmod (IntKind.wrap IntKind.u64 q) (3 : Int))) && decide (IntKind.wrap IntKind.i64 (Int.tmod (IntKind.wrap IntKind.u64 q) (3 : Int)) < (3 : Int))) = true ∧
 (decide (0 + Int.toNat (IntKind.wrap IntKind.i64 (Int.tmod (IntKind.wrap IntKind.u64 q) (3 : Int))) * 1 < 3)) = true ∧
 (decide (z (0 + Int.toNat (IntKind.wrap IntKind.i64 (Int.tmod (IntKind.wrap IntKind.u64 q) (3 : Int))) * 1) 0 % (16 : Int) < IntKind.wrap IntKind.i64 (Go.bits BinOp.and IntKind.i64 a (15 : Int) + Go.bits BinOp.and IntKind.i64 k (15 : Int)))) = true ∧
 Bool.true = Bool.true))) ∧ ((decide (z 2 0 % (16 : Int) = (0 : Int))) = false → (((decide (z 0 0 % (16 : Int) = (0 : Int))) = true → (decide (z 2 0 % (16 : Int) = (0 : Int))) = false ∧
 (decide (z 1 0 % (16 : Int) = (0 : Int))) = true ∧
 (decide ((0 : Int) ≤ z 0 0 % (16 : Int))) = true ∧
 (!decide (z 0 0 % (16 : Int) ≤ IntKind.wrap IntKind.i64 ((64 : Int) - PS z 0))) = false ∧
 (decide ((0 : Int) ≤ PS z 1)) = true ∧
 (decide ((0 : Int) ≤ z 1 0 % (16 : Int))) = true ∧
 (decide (PS z 1 ≤ (64 : Int))) = true ∧
 (!decide (z 1 0 % (16 : Int) ≤ IntKind.wrap IntKind.i64 ((64 : Int) - PS z 1))) = false ∧
 (decide (z 1 0 % (16 : Int) = (0 : Int))) = true ∧
 (decide ((0 : Int) ≤ PS z 2)) = true ∧
 (decide ((0 : Int) ≤ z 2 0 % (16 : Int))) = true ∧
 (decide (PS z 2 ≤ (64 : Int))) = true ∧
 (!decide (z 2 0 % (16 : Int) ≤ IntKind.wrap IntKind.i64 ((64 : Int) - PS z 2))) = false ∧
 (decide (z 2 0 % (16 : Int) = (0 : Int))) = false ∧
 (decide (z 0 0 % (16 : Int) = (0 : Int))) = true ∧
 (decide (z 2 0 % (16 : Int) = (0 : Int))) = false ∧
 (decide (z 1 0 % (16 : Int) = (0 : Int))) = true ∧
 (decide (IntKind.wrap IntKind.i64 (Int.tmod (IntKind.wrap IntKind.u64 q) (3 : Int)) < (0 : Int))) = false ∧
 (decide ((3 : Int) ≤ IntKind.wrap IntKind.i64 (Int.tmod (IntKind.wrap IntKind.u64 q) (3 : Int)))) = false ∧
 (decide ((0 : Int) ≤ IntKind.wrap IntKind.i64 (Int.tmod (IntKind.wrap IntKind.u64 q) (3 : Int))) && decide (IntKind.wrap IntKind.i64 (Int.tmod (IntKind.wrap IntKind.u64 q) (3 : Int)) < (3 : Int))) = true ∧
 (decide (0 + Int.toNat (IntKind.wrap IntKind.i64 (Int.tmod (IntKind.wrap IntKind.u64 q) (3 : Int))) * 1 < 3)) = true ∧
 (decide ((0 : Int) ≤ Go.bits BinOp.and IntKind.i64 a (15 : Int))) = true ∧
 (decide ((0 : Int) ≤ Go.bits BinOp.and IntKind.i64 k (15 : Int))) = true ∧
 (decide ((0 : Int) ≤ z (0 + Int.toNat (IntKind.wrap IntKind.i64 (Int.tmod (IntKind.wrap IntKind.u64 q) (3 : Int))) * 1) 0 % (16 : Int))) = true ∧
 (((decide (Go.bits BinOp.and IntKind.i64 a (15 : Int) ≤ z (0 + Int.toNat (IntKind.wrap IntKind.i64 (Int.tmod (IntKind.wrap IntKind.u64 q) (3 : Int))) * 1) 0 % (16 : Int))) = true → (((!decide (Go.bits BinOp.and IntKind.i64 k (15 : Int) ≤ IntKind.wrap IntKind.i64 (z (0 + Int.toNat (IntKind.wrap IntKind.i64 (Int.tmod (IntKind.wrap IntKind.u64 q) (3 : Int))) * 1) 0 % (16 : Int) - Go.bits BinOp.and IntKind.i64 a (15 : Int)))) = true → (decide ((0 : Int) ≤ IntKind.wrap IntKind.i64 (Int.tmod (IntKind.wrap IntKind.u64 q) (3 : Int))) && decide (IntKind.wrap IntKind.i64 (Int.tmod (IntKind.wrap IntKind.u64 q) (3 : Int)) < (3 : Int))) = true ∧
 (decide (0 + Int.toNat (IntKind.wrap IntKind.i64 (Int.tmod (IntKind.wrap IntKind.u64 q) (3 : Int))) * 1 < 3)) = true ∧
 (decide (z (0 + Int.toNat (IntKind.wrap IntKind.i64 (Int.tmod (IntKind.wrap IntKind.u64 q) (3 : Int))) * 1) 0 % (16 : Int) < IntKind.wrap IntKind.i64 (Go.bits BinOp.and IntKind.i64 a (15 : Int) + Go.bits BinOp.and IntKind.i64 k (15 : Int)))) = true ∧
 Bool.true = Bool.true) ∧ ((!decide (Go.bits BinOp.and IntKind.i64 k (15 : Int) ≤ IntKind.wrap IntKind.i64 (z (0 + Int.toNat (IntKind.wrap IntKind.i64 (Int.tmod (IntKind.wrap IntKind.u64 q) (3 : Int))) * 1) 0 % (16 : Int) - Go.bits BinOp.and IntKind.i64 a (15 : Int)))) = false → (decide ((0 : Int) ≤ IntKind.wrap IntKind.i64 (Int.tmod (IntKind.wrap IntKind.u64 q) (3 : Int))) && decide (IntKind.wrap IntKind.i64 (Int.tmod (IntKind.wrap IntKind.u64 q) (3 : Int)) < (3 : Int))) = true ∧
 (decide (0 + Int.toNat (IntKind.wrap IntKind.i64 (Int.tmod (IntKind.wrap IntKind.u64 q) (3 : Int))) * 1 < 3)) = true ∧
 (decide ((0 : Int) ≤ IntKind.wrap IntKind.i64 (Int.tmod (IntKind.wrap IntKind.u64 q) (3 : Int))) && decide (IntKind.wrap IntKind.i64 (Int.tmod (IntKind.wrap IntKind.u64 q) (3 : Int)) < (3 : Int))) = true ∧
 (decide (0 + Int.toNat (IntKind.wrap IntKind.i64 (Int.tmod (IntKind.wrap IntKind.u64 q) (3 : Int))) * 1 < 3)) = true ∧
 (decide (z (0 + Int.toNat (IntKind.wrap IntKind.i64 (Int.tmod (IntKind.wrap IntKind.u64 q) (3 : Int))) * 1) 0 % (16 : Int) < IntKind.wrap IntKind.i64 (Go.bits BinOp.and IntKind.i64 a (15 : Int) + Go.bits BinOp.and IntKind.i64 k (15 : Int)))) = false ∧
 (decide ((0 : Int) ≤ IntKind.wrap IntKind.i64 (Int.tmod (IntKind.wrap IntKind.u64 q) (3 : Int))) && decide (IntKind.wrap IntKind.i64 (Int.tmod (IntKind.wrap IntKind.u64 q) (3 : Int)) < (3 : Int))) = true ∧
 (decide (0 + Int.toNat (IntKind.wrap IntKind.i64 (Int.tmod (IntKind.wrap IntKind.u64 q) (3 : Int))) * 1 < 3)) = true ∧
 (!decide (IntKind.wrap IntKind.i64 (PS z (0 + Int.toNat (IntKind.wrap IntKind.i64 (Int.tmod (IntKind.wrap IntKind.u64 q) (3 : Int))) * 1) + Go.bits BinOp.and IntKind.i64 a (15 : Int)) = IntKind.wrap IntKind.i64 (PS z (0 + Int.toNat (IntKind.wrap IntKind.i64 (Int.tmod (IntKind.wrap IntKind.u64 q) (3 : Int))) * 1) + Go.bits BinOp.and IntKind.i64 a (15 : Int)))) = false ∧
 (((0 = 0 ∧ len = len ∧ cap = cap) ∧ q = q ∧ a = a ∧ k = k ∧ Bool.false = Bool.false ∧ (0 = 0 ∧ 3 = 3 ∧ 3 = 3) ∧ PS z 3 = PS z 3 ∧ IntKind.wrap IntKind.i64 (Int.tmod (IntKind.wrap IntKind.u64 q) (3 : Int)) = q % (18446744073709551616 : Int) % (3 : Int) ∧ Go.bits BinOp.and IntKind.i64 a (15 : Int) = a % (16 : Int) ∧ Go.bits BinOp.and IntKind.i64 k (15 : Int) = k % (16 : Int) ∧ IntKind.wrap IntKind.i64 (PS z (0 + Int.toNat (IntKind.wrap IntKind.i64 (Int.tmod (IntKind.wrap IntKind.u64 q) (3 : Int))) * 1) + Go.bits BinOp.and IntKind.i64 a (15 : Int)) = PS z (Int.toNat (q % (18446744073709551616 : Int) % (3 : Int))) + a % (16 : Int) ∧ (0 : Int) = (0 : Int) ∧ True) ∧ (3 = 3 ∧ (∀ (jj0 : Nat), (jj0 < 3 → True ∧ (0 : Int) = (0 : Int) ∧ (0 : Int) = (0 : Int) ∧ True ∧ PS z jj0 = PS z jj0 ∧ z jj0 0 % (16 : Int) = z jj0 0 % (16 : Int) ∧ True))) ∧ (len = len ∧ (∀ (jj0 : Nat), (jj0 < len → True ∧ z jj0 0 = z jj0 0 ∧ True))) ∧ True) ∧
 LO (Go.Proofs.Try.prog) (Go.AE.lp Go.Proofs.Try.prog 6 1) (TB z q a k len cap 3 0) (SB z len 3 103) (Go.AE.Out.x 2 (TB z q a k len cap 3 (Int.toNat (k % (16 : Int)))) (SB z len 3 103)) ∧
 (decide (PS z 3 = (0 : Int))) = false ∧
 (decide (IntKind.wrap IntKind.i64 (PS z 3 - (1 : Int)) < (0 : Int))) = false ∧
 (decide ((64 : Int) < IntKind.wrap IntKind.i64 (PS z 3 - (1 : Int)))) = false ∧
 (decide ((0 : Int) ≤ z 0 0 % (16 : Int))) = true ∧
 (decide ((0 : Int) ≤ IntKind.wrap IntKind.i64 (PS z 3 - (1 : Int)))) = true ∧
 (decide (PS z 0 ≤ IntKind.wrap IntKind.i64 (PS z 3 - (1 : Int)))) = true ∧
 (!decide (z 0 0 % (16 : Int) ≤ IntKind.wrap IntKind.i64 (IntKind.wrap IntKind.i64 (PS z 3 - (1 : Int)) - PS z 0))) = false ∧
 (decide ((0 : Int) ≤ PS z 1)) = true ∧
 (decide ((0 : Int) ≤ z 1 0 % (16 : Int))) = true ∧
 (decide ((0 : Int) ≤ IntKind.wrap IntKind.i64 (PS z 3 - (1 : Int)))) = true ∧
 (decide (PS z 1 ≤ IntKind.wrap IntKind.i64 (PS z 3 - (1 : Int)))) = true ∧
 (!decide (z 1 0 % (16 : Int) ≤ IntKind.wrap IntKind.i64 (IntKind.wrap IntKind.i64 (PS z 3 - (1 : Int)) - PS z 1))) = false ∧
 (decide (z 1 0 % (16 : Int) = (0 : Int))) = true ∧
 (decide ((0 : Int) ≤ PS z 2)) = true ∧
 (decide ((0 : Int) ≤ z 2 0 % (16 : Int))) = true ∧
 (decide ((0 : Int) ≤ IntKind.wrap IntKind.i64 (PS z 3 - (1 : Int)))) = true ∧
 (decide (PS z 2 ≤ IntKind.wrap IntKind.i64 (PS z 3 - (1 : Int)))) = true ∧
 (!decide (z 2 0 % (16 : Int) ≤ IntKind.wrap IntKind.i64 (IntKind.wrap IntKind.i64 (PS z 3 - (1 : Int)) - PS z 2))) = true ∧
 Bool.true = Bool.true))) ∧ ((decide (Go.bits BinOp.and IntKind.i64 a (15 : Int) ≤ z (0 + Int.toNat (IntKind.wrap IntKind.i64 (Int.tmod (IntKind.wrap IntKind.u64 q) (3 : Int))) * 1) 0 % (16 : Int))) = false → (decide ((0 : Int) ≤ IntKind.wrap IntKind.i64 (Int.tmod (IntKind.wrap IntKind.u64 q) (3 : Int))) && decide (IntKind.wrap IntKind.i64 (Int.tmod (IntKind.wrap IntKind.u64 q) (3 : Int)) < (3 : Int))) = true ∧
 (decide (0 + Int.toNat (IntKind.wrap IntKind.i64 (Int.tmod (IntKind.wrap IntKind.u64 q) (3 : Int))) * 1 < 3)) = true ∧
 (decide (z (0 + Int.toNat (IntKind.wrap IntKind.i64 (Int.tmod (IntKind.wrap IntKind.u64 q) (3 : Int))) * 1) 0 % (16 : Int) < IntKind.wrap IntKind.i64 (Go.bits BinOp.and IntKind.i64 a (15 : Int) + Go.bits BinOp.and IntKind.i64 k (15 : Int)))) = true ∧
 Bool.true = Bool.true))) ∧ ((decide (z 0 0 % (16 : Int) = (0 : Int))) = false → (decide (IntKind.wrap IntKind.i64 (PS z 2 + z 2 0 % (16 : Int)) ≤ PS z 0)) = false ∧
 (!decide (IntKind.wrap IntKind.i64 (PS z 0 + z 0 0 % (16 : Int)) ≤ PS z 2)) = false ∧
 (decide (z 2 0 % (16 : Int) = (0 : Int))) = false ∧
 (decide (z 1 0 % (16 : Int) = (0 : Int))) = true ∧
 (decide ((0 : Int) ≤ z 0 0 % (16 : Int))) = true ∧
 (!decide (z 0 0 % (16 : Int) ≤ IntKind.wrap IntKind.i64 ((64 : Int) - PS z 0))) = false ∧
 (decide ((0 : Int) ≤ PS z 1)) = true ∧
 (decide ((0 : Int) ≤ z 1 0 % (16 : Int))) = true ∧
 (decide (PS z 1 ≤ (64 : Int))) = true ∧
 (!decide (z 1 0 % (16 : Int) ≤ IntKind.wrap IntKind.i64 ((64 : Int) - PS z 1))) = false ∧
 (decide (z 1 0 % (16 : Int) = (0 : Int))) = true ∧
 (decide ((0 : Int) ≤ PS z 2)) = true ∧
 (decide ((0 : Int) ≤ z 2 0 % (16 : Int))) = true ∧
 (decide (PS z 2 ≤ (64 : Int))) = true ∧
 (!decide (z 2 0 % (16 : Int) ≤ IntKind.wrap IntKind.i64 ((64 : Int) - PS z 2))) = false ∧
 (decide (z 2 0 % (16 : Int) = (0 : Int))) = false ∧
 (decide (z 0 0 % (16 : Int) = (0 : Int))) = false ∧
 (decide (IntKind.wrap IntKind.i64 (PS z 2 + z 2 0 % (16 : Int)) ≤ PS z 0)) = false ∧
 (!decide (IntKind.wrap IntKind.i64 (PS z 0 + z 0 0 % (16 : Int)) ≤ PS z 2)) = false ∧
 (decide (z 2 0 % (16 : Int) = (0 : Int))) = false ∧
 (decide (z 1 0 % (16 : Int) = (0 : Int))) = true ∧
 (decide (IntKind.wrap IntKind.i64 (Int.tmod (IntKind.wrap IntKind.u64 q) (3 : Int)) < (0 : Int))) = false ∧
 (decide ((3 : Int) ≤ IntKind.wrap IntKind.i64 (Int.tmod (IntKind.wrap IntKind.u64 q) (3 : Int)))) = false ∧
 (decide ((0 : Int) ≤ IntKind.wrap IntKind.i64 (Int.tmod (IntKind.wrap IntKind.u64 q) (3 : Int))) && decide (IntKind.wrap IntKind.i64 (Int.tmod (IntKind.wrap IntKind.u64 q) (3 : Int)) < (3 : Int))) = true ∧
 (decide (0 + Int.toNat (IntKind.wrap IntKind.i64 (Int.tmod (IntKind.wrap IntKind.u64 q) (3 : Int))) * 1 < 3)) = true ∧
 (decide ((0 : Int) ≤ Go.bits BinOp.and IntKind.i64 a (15 : Int))) = true ∧
 (decide ((0 : Int) ≤ Go.bits BinOp.and IntKind.i64 k (15 : Int))) = true ∧
 (decide ((0 : Int) ≤ z (0 + Int.toNat (IntKind.wrap IntKind.i64 (Int.tmod (IntKind.wrap IntKind.u64 q) (3 : Int))) * 1) 0 % (16 : Int))) = true ∧
 (((decide (Go.bits BinOp.and IntKind.i64 a (15 : Int) ≤ z (0 + Int.toNat (IntKind.wrap IntKind.i64 (Int.tmod (IntKind.wrap IntKind.u64 q) (3 : Int))) * 1) 0 % (16 : Int))) = true → (((!decide (Go.bits BinOp.and IntKind.i64 k (15 : Int) ≤ IntKind.wrap IntKind.i64 (z (0 + Int.toNat (IntKind.wrap IntKind.i64 (Int.tmod (IntKind.wrap IntKind.u64 q) (3 : Int))) * 1) 0 % (16 : Int) - Go.bits BinOp.and IntKind.i64 a (15 : Int)))) = true → (decide ((0 : Int) ≤ IntKind.wrap IntKind.i64 (Int.tmod (IntKind.wrap IntKind.u64 q) (3 : Int))) && decide (IntKind.wrap IntKind.i64 (Int.tmod (IntKind.wrap IntKind.u64 q) (3 : Int)) < (3 : Int))) = true ∧
 (decide (0 + Int.toNat (IntKind.wrap IntKind.i64 (Int.tmod (IntKind.wrap IntKind.u64 q) (3 : Int))) * 1 < 3)) = true ∧
 (decide (z (0 + Int.toNat (IntKind.wrap IntKind.i64 (Int.tmod (IntKind.wrap IntKind.u64 q) (3 : Int))) * 1) 0 % (16 : Int) < IntKind.wrap IntKind.i64 (Go.bits BinOp.and IntKind.i64 a (15 : Int) + Go.bits BinOp.and IntKind.i64 k (15 : Int)))) = true ∧
 Bool.true = Bool.true) ∧ ((!decide (Go.bits BinOp.and IntKind.i64 k (15 : Int) ≤ IntKind.wrap IntKind.i64 (z (0 + Int.toNat (IntKind.wrap IntKind.i64 (Int.tmod (IntKind.wrap IntKind.u64 q) (3 : Int))) * 1) 0 % (16 : Int) - Go.bits BinOp.and IntKind.i64 a (15 : Int)))) = false → (decide ((0 : Int) ≤ IntKind.wrap IntKind.i64 (Int.tmod (IntKind.wrap IntKind.u64 q) (3 : Int))) && decide (IntKind.wrap IntKind.i64 (Int.tmod (IntKind.wrap IntKind.u64 q) (3 : Int)) < (3 : Int))) = true ∧
 (decide (0 + Int.toNat (IntKind.wrap IntKind.i64 (Int.tmod (IntKind.wrap IntKind.u64 q) (3 : Int))) * 1 < 3)) = true ∧
 (decide ((0 : Int) ≤ IntKind.wrap IntKind.i64 (Int.tmod (IntKind.wrap IntKind.u64 q) (3 : Int))) && decide (IntKind.wrap IntKind.i64 (Int.tmod (IntKind.wrap IntKind.u64 q) (3 : Int)) < (3 : Int))) = true ∧
 (decide (0 + Int.toNat (IntKind.wrap IntKind.i64 (Int.tmod (IntKind.wrap IntKind.u64 q) (3 : Int))) * 1 < 3)) = true ∧
 (decide (z (0 + Int.toNat (IntKind.wrap IntKind.i64 (Int.tmod (IntKind.wrap IntKind.u64 q) (3 : Int))) * 1) 0 % (16 : Int) < IntKind.wrap IntKind.i64 (Go.bits BinOp.and IntKind.i64 a (15 : Int) + Go.bits BinOp.and IntKind.i64 k (15 : Int)))) = false ∧
 (decide ((0 : Int) ≤ IntKind.wrap IntKind.i64 (Int.tmod (IntKind.wrap IntKind.u64 q) (3 : Int))) && decide (IntKind.wrap IntKind.i64 (Int.tmod (IntKind.wrap IntKind.u64 q) (3 : Int)) < (3 : Int))) = true ∧
 (decide (0 + Int.toNat (IntKind.wrap IntKind.i64 (Int.tmod (IntKind.wrap IntKind.u64 q) (3 : Int))) * 1 < 3)) = true ∧
 (!decide (IntKind.wrap IntKind.i64 (PS z (0 + Int.toNat (IntKind.wrap IntKind.i64 (Int.tmod (IntKind.wrap IntKind.u64 q) (3 : Int))) * 1) + Go.bits BinOp.and IntKind.i64 a (15 : Int)) = IntKind.wrap IntKind.i64 (PS z (0 + Int.toNat (IntKind.wrap IntKind.i64 (Int.tmod (IntKind.wrap IntKind.u64 q) (3 : Int))) * 1) + Go.bits BinOp.and IntKind.i64 a (15 : Int)))) = false ∧
 (((0 = 0 ∧ len = len ∧ cap = cap) ∧ q = q ∧ a = a ∧ k = k ∧ Bool.false = Bool.false ∧ (0 = 0 ∧ 3 = 3 ∧ 3 = 3) ∧ PS z 3 = PS z 3 ∧ IntKind.wrap IntKind.i64 (Int.tmod (IntKind.wrap IntKind.u64 q) (3 : Int)) = q % (18446744073709551616 : Int) % (3 : Int) ∧ Go.bits BinOp.and IntKind.i64 a (15 : Int) = a % (16 : Int) ∧ Go.bits BinOp.and IntKind.i64 k (15 : Int) = k % (16 : Int) ∧ IntKind.wrap IntKind.i64 (PS z (0 + Int.toNat (IntKind.wrap IntKind.i64 (Int.tmod (IntKind.wrap IntKind.u64 q) (3 : Int))) * 1) + Go.bits BinOp.and IntKind.i64 a (15 : Int)) = PS z (Int.toNat (q % (18446744073709551616 : Int) % (3 : Int))) + a % (16 : Int) ∧ (0 : Int) = (0 : Int) ∧ True) ∧ (3 = 3 ∧ (∀ (jj0 : Nat), (jj0 < 3 → True ∧ (0 : Int) = (0 : Int) ∧ (0 : Int) = (0 : Int) ∧ True ∧ PS z jj0 = PS z jj0 ∧ z jj0 0 % (16 : Int) = z jj0 0 % (16 : Int) ∧ True))) ∧ (len = len ∧ (∀ (jj0 : Nat), (jj0 < len → True ∧ z jj0 0 = z jj0 0 ∧ True))) ∧ True) ∧
 LO (Go.Proofs.Try.prog) (Go.AE.lp Go.Proofs.Try.prog 6 1) (TB z q a k len cap 3 0) (SB z len 3 103) (Go.AE.Out.x 2 (TB z q a k len cap 3 (Int.toNat (k % (16 : Int)))) (SB z len 3 103)) ∧
 (decide (PS z 3 = (0 : Int))) = false ∧
 (decide (IntKind.wrap IntKind.i64 (PS z 3 - (1 : Int)) < (0 : Int))) = false ∧
 (decide ((64 : Int) < IntKind.wrap IntKind.i64 (PS z 3 - (1 : Int)))) = false ∧
 (decide ((0 : Int) ≤ z 0 0 % (16 : Int))) = true ∧
 (decide ((0 : Int) ≤ IntKind.wrap IntKind.i64 (PS z 3 - (1 : Int)))) = true ∧
 (decide (PS z 0 ≤ IntKind.wrap IntKind.i64 (PS z 3 - (1 : Int)))) = true ∧
 (!decide (z 0 0 % (16 : Int) ≤ IntKind.wrap IntKind.i64 (IntKind.wrap IntKind.i64 (PS z 3 - (1 : Int)) - PS z 0))) = false ∧
 (decide ((0 : Int) ≤ PS z 1)) = true ∧
 (decide ((0 : Int) ≤ z 1 0 % (16 : Int))) = true ∧
 (decide ((0 : Int) ≤ IntKind.wrap IntKind.i64 (PS z 3 - (1 : Int)))) = true ∧
 (decide (PS z 1 ≤ IntKind.wrap IntKind.i64 (PS z 3 - (1 : Int)))) = true ∧
 (!decide (z 1 0 % (16 : Int) ≤ IntKind.wrap IntKind.i64 (IntKind.wrap IntKind.i64 (PS z 3 - (1 : Int)) - PS z 1))) = false ∧
 (decide (z 1 0 % (16 : Int) = (0 : Int))) = true ∧
 (decide ((0 : Int) ≤ PS z 2)) = true ∧
 (decide ((0 : Int) ≤ z 2 0 % (16 : Int))) = true ∧
 (decide ((0 : Int) ≤ IntKind.wrap IntKind.i64 (PS z 3 - (1 : Int)))) = true ∧
 (decide (PS z 2 ≤ IntKind.wrap IntKind.i64 (PS z 3 - (1 : Int)))) = true ∧
 (!decide (z 2 0 % (16 : Int) ≤ IntKind.wrap IntKind.i64 (IntKind.wrap IntKind.i64 (PS z 3 - (1 : Int)) - PS z 2))) = true ∧
 Bool.true = Bool.true))) ∧ ((decide (Go.bits BinOp.and IntKind.i64 a (15 : Int) ≤ z (0 + Int.toNat (IntKind.wrap IntKind.i64 (Int.tmod (IntKind.wrap IntKind.u64 q) (3 : Int))) * 1) 0 % (16 : Int))) = false → (decide ((0 : Int) ≤ IntKind.wrap IntKind.i64 (Int.tmod (IntKind.wrap IntKind.u64 q) (3 : Int))) && decide (IntKind.wrap IntKind.i64 (Int.tmod (IntKind.wrap IntKind.u64 q) (3 : Int)) < (3 : Int))) = true ∧
 (decide (0 + Int.toNat (IntKind.wrap IntKind.i64 (Int.tmod (IntKind.wrap IntKind.u64 q) (3 : Int))) * 1 < 3)) = true ∧
 (decide (z (0 + Int.toNat (IntKind.wrap IntKind.i64 (Int.tmod (IntKind.wrap IntKind.u64 q) (3 : Int))) * 1) 0 % (16 : Int) < IntKind.wrap IntKind.i64 (Go.bits BinOp.and IntKind.i64 a (15 : Int) + Go.bits BinOp.and IntKind.i64 k (15 : Int)))) = true ∧
 Bool.true = Bool.true))))))) ∧ ((decide (z 1 0 % (16 : Int) = (0 : Int))) = false → (((decide (z 0 0 % (16 : Int) = (0 : Int))) = true → (decide ((0 : Int) ≤ PS z 2)) = true ∧
 (decide ((0 : Int) ≤ z 2 0 % (16 : Int))) = true ∧
 (decide ((0 : Int) ≤ PS z 3)) = true ∧
 (decide (PS z 2 ≤ PS z 3)) = true ∧
 (!decide (z 2 0 % (16 : Int) ≤ IntKind.wrap IntKind.i64 (PS z 3 - PS z 2))) = false ∧
 (((decide (z 2 0 % (16 : Int) = (0 : Int))) = true → (decide (z 2 0 % (16 : Int) = (0 : Int))) = true ∧
 (decide ((0 : Int) ≤ z 0 0 % (16 : Int))) = true ∧
 (!decide (z 0 0 % (16 : Int) ≤ IntKind.wrap IntKind.i64 ((64 : Int) - PS z 0))) = false ∧
 (decide ((0 : Int) ≤ PS z 1)) = true ∧
 (decide ((0 : Int) ≤ z 1 0 % (16 : Int))) = true ∧
 (decide (PS z 1 ≤ (64 : Int))) = true ∧
 (!decide (z 1 0 % (16 : Int) ≤ IntKind.wrap IntKind.i64 ((64 : Int) - PS z 1))) = false ∧
 (decide (z 1 0 % (16 : Int) = (0 : Int))) = false ∧
 (decide (z 0 0 % (16 : Int) = (0 : Int))) = true ∧
 (decide ((0 : Int) ≤ PS z 2)) = true ∧
 (decide ((0 : Int) ≤ z 2 0 % (16 : Int))) = true ∧
 (decide (PS z 2 ≤ (64 : Int))) = true ∧
 (!decide (z 2 0 % (16 : Int) ≤ IntKind.wrap IntKind.i64 ((64 : Int) - PS z 2))) = false ∧
 (decide (z 2 0 % (16 : Int) = (0 : Int))) = true ∧
 (decide (z 2 0 % (16 : Int) = (0 : Int))) = true ∧
 (decide (IntKind.wrap IntKind.i64 (Int.tmod (IntKind.wrap IntKind.u64 q) (3 : Int)) < (0 : Int))) = false ∧
 (decide ((3 : Int) ≤ IntKind.wrap IntKind.i64 (Int.tmod (IntKind.wrap IntKind.u64 q) (3 : Int)))) = false ∧
 (decide ((0 : Int) ≤ IntKind.wrap IntKind.i64 (Int.tmod (IntKind.wrap IntKind.u64 q) (3 : Int))) && decide (IntKind.wrap IntKind.i64 (Int.tmod (IntKind.wrap IntKind.u64 q) (3 : Int)) < (3 : Int))) = true ∧
 (decide (0 + Int.toNat (IntKind.wrap IntKind.i64 (Int.tmod (IntKind.wrap IntKind.u64 q) (3 : Int))) * 1 < 3)) = true ∧
 (decide ((0 : Int) ≤ Go.bits BinOp.and IntKind.i64 a (15 : Int))) = true ∧
 (decide ((0 : Int) ≤ Go.bits BinOp.and IntKind.i64 k (15 : Int))) = true ∧
 (decide ((0 : Int) ≤ z (0 + Int.toNat (IntKind.wrap IntKind.i64 (Int.tmod (IntKind.wrap IntKind.u64 q) (3 : Int))) * 1) 0 % (16 : Int))) = true ∧
 (((decide (Go.bits BinOp.and IntKind.i64 a (15 : Int) ≤ z (0 + Int.toNat (IntKind.wrap IntKind.i64 (Int.tmod (IntKind.wrap IntKind.u64 q) (3 : Int))) * 1) 0 % (16 : Int))) = true → (((!decide (Go.bits BinOp.and IntKind.i64 k (15 : Int) ≤ IntKind.wrap IntKind.i64 (z (0 + Int.toNat (IntKind.wrap IntKind.i64 (Int.tmod (IntKind.wrap IntKind.u64 q) (3 : Int))) * 1) 0 % (16 : Int) - Go.bits BinOp.and IntKind.i64 a (15 : Int)))) = true → (decide ((0 : Int) ≤ IntKind.wrap IntKind.i64 (Int.tmod (IntKind.wrap IntKind.u64 q) (3 : Int))) && decide (IntKind.wrap IntKind.i64 (Int.tmod (IntKind.wrap IntKind.u64 q) (3 : Int)) < (3 : Int))) = true ∧
 (decide (0 + Int.toNat (IntKind.wrap IntKind.i64 (Int.tmod (IntKind.wrap IntKind.u64 q) (3 : Int))) * 1 < 3)) = true ∧
 (decide (z (0 + Int.toNat (IntKind.wrap IntKind.i64 (Int.tmod (IntKind.wrap IntKind.u64 q) (3 : Int))) * 1) 0 % (16 : Int) < IntKind.wrap IntKind.i64 (Go.bits BinOp.and IntKind.i64 a (15 : Int) + Go.bits BinOp.and IntKind.i64 k (15 : Int)))) = true ∧
 Bool.true = Bool.true) ∧ ((!decide (Go.bits BinOp.and IntKind.i64 k (15 : Int) ≤ IntKind.wrap IntKind.i64 (z (0 + Int.toNat (IntKind.wrap IntKind.i64 (Int.tmod (IntKind.wrap IntKind.u64 q) (3 : Int))) * 1) 0 % (16 : Int) - Go.bits BinOp.and IntKind.i64 a (15 : Int)))) = false → (decide ((0 : Int) ≤ IntKind.wrap IntKind.i64 (Int.tmod (IntKind.wrap IntKind.u64 q) (3 : Int))) && decide (IntKind.wrap IntKind.i64 (Int.tmod (IntKind.wrap IntKind.u64 q) (3 : Int)) < (3 : Int))) = true ∧
 (decide (0 + Int.toNat (IntKind.wrap IntKind.i64 (Int.tmod (IntKind.wrap IntKind.u64 q) (3 : Int))) * 1 < 3)) = true ∧
 (decide ((0 : Int) ≤ IntKind.wrap IntKind.i64 (Int.tmod (IntKind.wrap IntKind.u64 q) (3 : Int))) && decide (IntKind.wrap IntKind.i64 (Int.tmod (IntKind.wrap IntKind.u64 q) (3 : Int)) < (3 : Int))) = true ∧
 (decide (0 + Int.toNat (IntKind.wrap IntKind.i64 (Int.tmod (IntKind.wrap IntKind.u64 q) (3 : Int))) * 1 < 3)) = true ∧
 (decide (z (0 + Int.toNat (IntKind.wrap IntKind.i64 (Int.tmod (IntKind.wrap IntKind.u64 q) (3 : Int))) * 1) 0 % (16 : Int) < IntKind.wrap IntKind.i64 (Go.bits BinOp.and IntKind.i64 a (15 : Int) + Go.bits BinOp.and IntKind.i64 k (15 : Int)))) = false ∧
 (decide ((0 : Int) ≤ IntKind.wrap IntKind.i64 (Int.tmod (IntKind.wrap IntKind.u64 q) (3 : Int))) && decide (IntKind.wrap IntKind.i64 (Int.tmod (IntKind.wrap IntKind.u64 q) (3 : Int)) < (3 : Int))) = true ∧
 (decide (0 + Int.toNat (IntKind.wrap IntKind.i64 (Int.tmod (IntKind.wrap IntKind.u64 q) (3 : Int))) * 1 < 3)) = true ∧
 (!decide (IntKind.wrap IntKind.i64 (PS z (0 + Int.toNat (IntKind.wrap IntKind.i64 (Int.tmod (IntKind.wrap IntKind.u64 q) (3 : Int))) * 1) + Go.bits BinOp.and IntKind.i64 a (15 : Int)) = IntKind.wrap IntKind.i64 (PS z (0 + Int.toNat (IntKind.wrap IntKind.i64 (Int.tmod (IntKind.wrap IntKind.u64 q) (3 : Int))) * 1) + Go.bits BinOp.and IntKind.i64 a (15 : Int)))) = false ∧
 (((0 = 0 ∧ len = len ∧ cap = cap) ∧ q = q ∧ a = a ∧ k = k ∧ Bool.false = Bool.false ∧ (0 = 0 ∧ 3 = 3 ∧ 3 = 3) ∧ PS z 3 = PS z 3 ∧ IntKind.wrap IntKind.i64 (Int.tmod (IntKind.wrap IntKind.u64 q) (3 : Int)) = q % (18446744073709551616 : Int) % (3 : Int) ∧ Go.bits BinOp.and IntKind.i64 a (15 : Int) = a % (16 : Int) ∧ Go.bits BinOp.and IntKind.i64 k (15 : Int) = k % (16 : Int) ∧ IntKind.wrap IntKind.i64 (PS z (0 + Int.toNat (IntKind.wrap IntKind.i64 (Int.tmod (IntKind.wrap IntKind.u64 q) (3 : Int))) * 1) + Go.bits BinOp.and IntKind.i64 a (15 : Int)) = PS z (Int.toNat (q % (18446744073709551616 : Int) % (3 : Int))) + a % (16 : Int) ∧ (0 : Int) = (0 : Int) ∧ True) ∧ (3 = 3 ∧ (∀ (jj0 : Nat), (jj0 < 3 → True ∧ (0 : Int) = (0 : Int) ∧ (0 : Int) = (0 : Int) ∧ True ∧ PS z jj0 = PS z jj0 ∧ z jj0 0 % (16 : Int) = z jj0 0 % (16 : Int) ∧ True))) ∧ (len = len ∧ (∀ (jj0 : Nat), (jj0 < len → True ∧ z jj0 0 = z jj0 0 ∧ True))) ∧ True) ∧
 LO (Go.Proofs.Try.prog) (Go.AE.lp Go.Proofs.Try.prog 6 1) (TB z q a k len cap 3 0) (SB z len 3 103) (Go.AE.Out.x 2 (TB z q a k len cap 3 (Int.toNat (k % (16 : Int)))) (SB z len 3 103)) ∧
 (decide (PS z 3 = (0 : Int))) = false ∧
 (decide (IntKind.wrap IntKind.i64 (PS z 3 - (1 : Int)) < (0 : Int))) = false ∧
 (decide ((64 : Int) < IntKind.wrap IntKind.i64 (PS z 3 - (1 : Int)))) = false ∧
 (decide ((0 : Int) ≤ z 0 0 % (16 : Int))) = true ∧
 (decide ((0 : Int) ≤ IntKind.wrap IntKind.i64 (PS z 3 - (1 : Int)))) = true ∧
 (decide (PS z 0 ≤ IntKind.wrap IntKind.i64 (PS z 3 - (1 : Int)))) = true ∧
 (!decide (z 0 0 % (16 : Int) ≤ IntKind.wrap IntKind.i64 (IntKind.wrap IntKind.i64 (PS z 3 - (1 : Int)) - PS z 0))) = false ∧
 (decide ((0 : Int) ≤ PS z 1)) = true ∧
 (decide ((0 : Int) ≤ z 1 0 % (16 : Int))) = true ∧
 (decide ((0 : Int) ≤ IntKind.wrap IntKind.i64 (PS z 3 - (1 : Int)))) = true ∧
 (decide (PS z 1 ≤ IntKind.wrap IntKind.i64 (PS z 3 - (1 : Int)))) = true ∧
 (!decide (z 1 0 % (16 : Int) ≤ IntKind.wrap IntKind.i64 (IntKind.wrap IntKind.i64 (PS z 3 - (1 : Int)) - PS z 1))) = true ∧
 Bool.true = Bool.true))) ∧ ((decide (Go.bits BinOp.and IntKind.i64 a (15 : Int) ≤ z (0 + Int.toNat (IntKind.wrap IntKind.i64 (Int.tmod (IntKind.wrap IntKind.u64 q) (3 : Int))) * 1) 0 % (16 : Int))) = false → (decide ((0 : Int) ≤ IntKind.wrap IntKind.i64 (Int.tmod (IntKind.wrap IntKind.u64 q) (3 : Int))) && decide (IntKind.wrap IntKind.i64 (Int.tmod (IntKind.wrap IntKind.u64 q) (3 : Int)) < (3 : Int))) = true ∧
 (decide (0 + Int.toNat (IntKind.wrap IntKind.i64 (Int.tmod (IntKind.wrap IntKind.u64 q) (3 : Int))) * 1 < 3)) = true ∧
 (decide (z (0 + Int.toNat (IntKind.wrap IntKind.i64 (Int.tmod (IntKind.wrap IntKind.u64 q) (3 : Int))) * 1) 0 % (16 : Int) < IntKind.wrap IntKind.i64 (Go.bits BinOp.and IntKind.i64 a (15 : Int) + Go.bits BinOp.and IntKind.i64 k (15 : Int)))) = true ∧
 Bool.true = Bool.true))) ∧ ((decide (z 2 0 % (16 : Int) = (0 : Int))) = false → (decide (z 0 0 % (16 : Int) = (0 : Int))) = true ∧
 (decide (z 2 0 % (16 : Int) = (0 : Int))) = false ∧
 (decide (z 1 0 % (16 : Int) = (0 : Int))) = false ∧
 (decide (IntKind.wrap IntKind.i64 (PS z 2 + z 2 0 % (16 : Int)) ≤ PS z 1)) = false ∧
 (!decide (IntKind.wrap IntKind.i64 (PS z 1 + z 1 0 % (16 : Int)) ≤ PS z 2)) = false ∧
 (decide ((0 : Int) ≤ z 0 0 % (16 : Int))) = true ∧
 (!decide (z 0 0 % (16 : Int) ≤ IntKind.wrap IntKind.i64 ((64 : Int) - PS z 0))) = false ∧
 (decide ((0 : Int) ≤ PS z 1)) = true ∧
 (decide ((0 : Int) ≤ z 1 0 % (16 : Int))) = true ∧
 (decide (PS z 1 ≤ (64 : Int))) = true ∧
 (!decide (z 1 0 % (16 : Int) ≤ IntKind.wrap IntKind.i64 ((64 : Int) - PS z 1))) = false ∧
 (decide (z 1 0 % (16 : Int) = (0 : Int))) = false ∧
 (decide (z 0 0 % (16 : Int) = (0 : Int))) = true ∧
 (decide ((0 : Int) ≤ PS z 2)) = true ∧
 (decide ((0 : Int) ≤ z 2 0 % (16 : Int))) = true ∧
 (decide (PS z 2 ≤ (64 : Int))) = true ∧
 (!decide (z 2 0 % (16 : Int) ≤ IntKind.wrap IntKind.i64 ((64 : Int) - PS z 2))) = false ∧
 (decide (z 2 0 % (16 : Int) = (0 : Int))) = false ∧
 (decide (z 0 0 % (16 : Int) = (0 : Int))) = true ∧
 (decide (z 2 0 % (16 : Int) = (0 : Int))) = false ∧
 (decide (z 1 0 % (16 : Int) = (0 : Int))) = false ∧
 (decide (IntKind.wrap IntKind.i64 (PS z 2 + z 2 0 % (16 : Int)) ≤ PS z 1)) = false ∧
 (!decide (IntKind.wrap IntKind.i64 (PS z 1 + z 1 0 % (16 : Int)) ≤ PS z 2)) = false ∧
 (decide (IntKind.wrap IntKind.i64 (Int.tmod (IntKind.wrap IntKind.u64 q) (3 : Int)) < (0 : Int))) = false ∧
 (decide ((3 : Int) ≤ IntKind.wrap IntKind.i64 (Int.tmod (IntKind.wrap IntKind.u64 q) (3 : Int)))) = false ∧
 (decide ((0 : Int) ≤ IntKind.wrap IntKind.i64 (Int.tmod (IntKind.wrap IntKind.u64 q) (3 : Int))) && decide (IntKind.wrap IntKind.i64 (Int.tmod (IntKind.wrap IntKind.u64 q) (3 : Int)) < (3 : Int))) = true ∧
 (decide (0 + Int.toNat (IntKind.wrap IntKind.i64 (Int.tmod (IntKind.wrap IntKind.u64 q) (3 : Int))) * 1 < 3)) = true ∧
 (decide ((0 : Int) ≤ Go.bits BinOp.and IntKind.i64 a (15 : Int))) = true ∧
 (decide ((0 : Int) ≤ Go.bits BinOp.and IntKind.i64 k (15 : Int))) = true ∧
 (decide ((0 : Int) ≤ z (0 + Int.toNat (IntKind.wrap IntKind.i64 (Int.tmod (IntKind.wrap IntKind.u64 q) (3 : Int))) * 1) 0 % (16 : Int))) = true ∧
 (((decide (Go.bits BinOp.and IntKind.i64 a (15 : Int) ≤ z (0 + Int.toNat (IntKind.wrap IntKind.i64 (Int.tmod (IntKind.wrap IntKind.u64 q) (3 : Int))) * 1) 0 % (16 : Int))) = true → (((!decide (Go.bits BinOp.and IntKind.i64 k (15 : Int) ≤ IntKind.wrap IntKind.i64 (z (0 + Int.toNat (IntKind.wrap IntKind.i64 (Int.tmod (IntKind.wrap IntKind.u64 q) (3 : Int))) * 1) 0 % (16 : Int) - Go.bits BinOp.and IntKind.i64 a (15 : Int)))) = true → (decide ((0 : Int) ≤ IntKind.wrap IntKind.i64 (Int.tmod (IntKind.wrap IntKind.u64 q) (3 : Int))) && decide (IntKind.wrap IntKind.i64 (Int.tmod (IntKind.wrap IntKind.u64 q) (3 : Int)) < (3 : Int))) = true ∧
 (decide (0 + Int.toNat (IntKind.wrap IntKind.i64 (Int.tmod (IntKind.wrap IntKind.u64 q) (3 : Int))) * 1 < 3)) = true ∧
 (decide (z (0 + Int.toNat (IntKind.wrap IntKind.i64 (Int.tmod (IntKind.wrap IntKind.u64 q) (3 : Int))) * 1) 0 % (16 : Int) < IntKind.wrap IntKind.i64 (Go.bits BinOp.and IntKind.i64 a (15 : Int) + Go.bits BinOp.and IntKind.i64 k (15 : Int)))) = true ∧
 Bool.true = Bool.true) ∧ ((!decide (Go.bits BinOp.and IntKind.i64 k (15 : Int) ≤ IntKind.wrap IntKind.i64 (z (0 + Int.toNat (IntKind.wrap IntKind.i64 (Int.tmod (IntKind.wrap IntKind.u64 q) (3 : Int))) * 1) 0 % (16 : Int) - Go.bits BinOp.and IntKind.i64 a (15 : Int)))) = false → (decide ((0 : Int) ≤ IntKind.wrap IntKind.i64 (Int.tmod (IntKind.wrap IntKind.u64 q) (3 : Int))) && decide (IntKind.wrap IntKind.i64 (Int.tmod (IntKind.wrap IntKind.u64 q) (3 : Int)) < (3 : Int))) = true ∧
 (decide (0 + Int.toNat (IntKind.wrap IntKind.i64 (Int.tmod (IntKind.wrap IntKind.u64 q) (3 : Int))) * 1 < 3)) = true ∧
 (decide ((0 : Int) ≤ IntKind.wrap IntKind.i64 (Int.tmod (IntKind.wrap IntKind.u64 q) (3 : Int))) && decide (IntKind.wrap IntKind.i64 (Int.tmod (IntKind.wrap IntKind.u64 q) (3 : Int)) < (3 : Int))) = true ∧
 (decide (0 + Int.toNat (IntKind.wrap IntKind.i64 (Int.tmod (IntKind.wrap IntKind.u64 q) (3 : Int))) * 1 < 3)) = true ∧
 (decide (z (0 + Int.toNat (IntKind.wrap IntKind.i64 (Int.tmod (IntKind.wrap IntKind.u64 q) (3 : Int))) * 1) 0 % (16 : Int) < IntKind.wrap IntKind.i64 (Go.bits BinOp.and IntKind.i64 a (15 : Int) + Go.bits BinOp.and IntKind.i64 k (15 : Int)))) = false ∧
 (decide ((0 : Int) ≤ IntKind.wrap IntKind.i64 (Int.tmod (IntKind.wrap IntKind.u64 q) (3 : Int))) && decide (IntKind.wrap IntKind.i64 (Int.tmod (IntKind.wrap IntKind.u64 q) (3 : Int)) < (3 : Int))) = true ∧
 (decide (0 + Int.toNat (IntKind.wrap IntKind.i64 (Int.tmod (IntKind.wrap IntKind.u64 q) (3 : Int))) * 1 < 3)) = true ∧
 (!decide (IntKind.wrap IntKind.i64 (PS z (0 + Int.toNat (IntKind.wrap IntKind.i64 (Int.tmod (IntKind.wrap IntKind.u64 q) (3 : Int))) * 1) + Go.bits BinOp.and IntKind.i64 a (15 : Int)) = IntKind.wrap IntKind.i64 (PS z (0 + Int.toNat (IntKind.wrap IntKind.i64 (Int.tmod (IntKind.wrap IntKind.u64 q) (3 : Int))) * 1) + Go.bits BinOp.and IntKind.i64 a (15 : Int)))) = false ∧
 (((0 = 0 ∧ len = len ∧ cap = cap) ∧ q = q ∧ a = a ∧ k = k ∧ Bool.false = Bool.false ∧ (0 = 0 ∧ 3 = 3 ∧ 3 = 3) ∧ PS z 3 = PS z 3 ∧ IntKind.wrap IntKind.i64 (Int.tmod (IntKind.wrap IntKind.u64 q) (3 : Int)) = q % (18446744073709551616 : Int) % (3 : Int) ∧ Go.bits BinOp.and IntKind.i64 a (15 : Int) = a % (16 : Int) ∧ Go.bits BinOp.and IntKind.i64 k (15 : Int) = k % (16 : Int) ∧ IntKind.wrap IntKind.i64 (PS z (0 + Int.toNat (IntKind.wrap IntKind.i64 (Int.tmod (IntKind.wrap IntKind.u64 q) (3 : Int))) * 1) + Go.bits BinOp.and IntKind.i64 a (15 : Int)) = PS z (Int.toNat (q % (18446744073709551616 : Int) % (3 : Int))) + a % (16 : Int) ∧ (0 : Int) = (0 : Int) ∧ True) ∧ (3 = 3 ∧ (∀ (jj0 : Nat), (jj0 < 3 → True ∧ (0 : Int) = (0 : Int) ∧ (0 : Int) = (0 : Int) ∧ True ∧ PS z jj0 = PS z jj0 ∧ z jj0 0 % (16 : Int) = z jj0 0 % (16 : Int) ∧ True))) ∧ (len = len ∧ (∀ (jj0 : Nat), (jj0 < len → True ∧ z jj0 0 = z jj0 0 ∧ True))) ∧ True) ∧
 LO (Go.Proofs.Try.prog) (Go.AE.lp Go.Proofs.Try.prog 6 1) (TB z q a k len cap 3 0) (SB z len 3 103) (Go.AE.Out.x 2 (TB z q a k len cap 3 (Int.toNat (k % (16 : Int)))) (SB z len 3 103)) ∧
 (decide (PS z 3 = (0 : Int))) = false ∧
 (decide (IntKind.wrap IntKind.i64 (PS z 3 - (1 : Int)) < (0 : Int))) = false ∧
 (decide ((64 : Int) < IntKind.wrap IntKind.i64 (PS z 3 - (1 : Int)))) = false ∧
 (decide ((0 : Int) ≤ z 0 0 % (16 : Int))) = true ∧
 (decide ((0 : Int) ≤ IntKind.wrap IntKind.i64 (PS z 3 - (1 : Int)))) = true ∧
 (decide (PS z 0 ≤ IntKind.wrap IntKind.i64 (PS z 3 - (1 : Int)))) = true ∧
 (!decide (z 0 0 % (16 : Int) ≤ IntKind.wrap IntKind.i64 (IntKind.wrap IntKind.i64 (PS z 3 - (1 : Int)) - PS z 0))) = false ∧
 (decide ((0 : Int) ≤ PS z 1)) = true ∧
 (decide ((0 : Int) ≤ z 1 0 % (16 : Int))) = true ∧
 (decide ((0 : Int) ≤ IntKind.wrap IntKind.i64 (PS z 3 - (1 : Int)))) = true ∧
 (decide (PS z 1 ≤ IntKind.wrap IntKind.i64 (PS z 3 - (1 : Int)))) = true ∧
 (!decide (z 1 0 % (16 : Int) ≤ IntKind.wrap IntKind.i64 (IntKind.wrap IntKind.i64 (PS z 3 - (1 : Int)) - PS z 1))) = false ∧
 (decide (z 1 0 % (16 : Int) = (0 : Int))) = false ∧
 (decide (z 0 0 % (16 : Int) = (0 : Int))) = true ∧
 (decide ((0 : Int) ≤ PS z 2)) = true ∧
 (decide ((0 : Int) ≤ z 2 0 % (16 : Int))) = true ∧
 (decide ((0 : Int) ≤ IntKind.wrap IntKind.i64 (PS z 3 - (1 : Int)))) = true ∧
 (decide (PS z 2 ≤ IntKind.wrap IntKind.i64 (PS z 3 - (1 : Int)))) = true ∧
 (!decide (z 2 0 % (16 : Int) ≤ IntKind.wrap IntKind.i64 (IntKind.wrap IntKind.i64 (PS z 3 - (1 : Int)) - PS z 2))) = true ∧
 Bool.true = Bool.true))) ∧ ((decide (Go.bits BinOp.and IntKind.i64 a (15 : Int) ≤ z (0 + Int.toNat (IntKind.wrap IntKind.i64 (Int.tmod (IntKind.wrap IntKind.u64 q) (3 : Int))) * 1) 0 % (16 : Int))) = false → (decide ((0 : Int) ≤ IntKind.wrap IntKind.i64 (Int.tmod (IntKind.wrap IntKind.u64 q) (3 : Int))) && decide (IntKind.wrap IntKind.i64 (Int.tmod (IntKind.wrap IntKind.u64 q) (3 : Int)) < (3 : Int))) = true ∧
 (decide (0 + Int.toNat (IntKind.wrap IntKind.i64 (Int.tmod (IntKind.wrap IntKind.u64 q) (3 : Int))) * 1 < 3)) = true ∧
 (decide (z (0 + Int.toNat (IntKind.wrap IntKind.i64 (Int.tmod (IntKind.wrap IntKind.u64 q) (3 : Int))) * 1) 0 % (16 : Int) < IntKind.wrap IntKind.i64 (Go.bits BinOp.and IntKind.i64 a (15 : Int) + Go.bits BinOp.and IntKind.i64 k (15 : Int)))) = true ∧
 Bool.true = Bool.true))))) ∧ ((decide (z 0 0 % (16 : Int) = (0 : Int))) = false → (decide (IntKind.wrap IntKind.i64 (PS z 1 + z 1 0 % (16 : Int)) ≤ PS z 0)) = false ∧
 (!decide (IntKind.wrap IntKind.i64 (PS z 0 + z 0 0 % (16 : Int)) ≤ PS z 1)) = false ∧
 (decide ((0 : Int) ≤ PS z 2)) = true ∧
 (decide ((0 : Int) ≤ z 2 0 % (16 : Int))) = true ∧
 (decide ((0 : Int) ≤ PS z 3)) = true ∧
 (decide (PS z 2 ≤ PS z 3)) = true ∧
 (!decide (z 2 0 % (16 : Int) ≤ IntKind.wrap IntKind.i64 (PS z 3 - PS z 2))) = false ∧
 (((decide (z 2 0 % (16 : Int) = (0 : Int))) = true → (decide (z 2 0 % (16 : Int) = (0 : Int))) = true ∧
 (decide ((0 : Int) ≤ z 0 0 % (16 : Int))) = true ∧
 (!decide (z 0 0 % (16 : Int) ≤ IntKind.wrap IntKind.i64 ((64 : Int) - PS z 0))) = false ∧
 (decide ((0 : Int) ≤ PS z 1)) = true ∧
 (decide ((0 : Int) ≤ z 1 0 % (16 : Int))) = true ∧
 (decide (PS z 1 ≤ (64 : Int))) = true ∧
 (!decide (z 1 0 % (16 : Int) ≤ IntKind.wrap IntKind.i64 ((64 : Int) - PS z 1))) = false ∧
 (decide (z 1 0 % (16 : Int) = (0 : Int))) = false ∧
 (decide (z 0 0 % (16 : Int) = (0 : Int))) = false ∧
 (decide (IntKind.wrap IntKind.i64 (PS z 1 + z 1 0 % (16 : Int)) ≤ PS z 0)) = false ∧
 (!decide (IntKind.wrap IntKind.i64 (PS z 0 + z 0 0 % (16 : Int)) ≤ PS z 1)) = false ∧
 (decide ((0 : Int) ≤ PS z 2)) = true ∧
 (decide ((0 : Int) ≤ z 2 0 % (16 : Int))) = true ∧
 (decide (PS z 2 ≤ (64 : Int))) = true ∧
 (!decide (z 2 0 % (16 : Int) ≤ IntKind.wrap IntKind.i64 ((64 : Int) - PS z 2))) = false ∧
 (decide (z 2 0 % (16 : Int) = (0 : Int))) = true ∧
 (decide (z 2 0 % (16 : Int) = (0 : Int))) = true ∧
 (decide (IntKind.wrap IntKind.i64 (Int.tmod (IntKind.wrap IntKind.u64 q) (3 : Int)) < (0 : Int))) = false ∧
 (decide ((3 : Int) ≤ IntKind.wrap IntKind.i64 (Int.tmod (IntKind.wrap IntKind.u64 q) (3 : Int)))) = false ∧
 (decide ((0 : Int) ≤ IntKind.wrap IntKind.i64 (Int.tmod (IntKind.wrap IntKind.u64 q) (3 : Int))) && decide (IntKind.wrap IntKind.i64 (Int.tmod (IntKind.wrap IntKind.u64 q) (3 : Int)) < (3 : Int))) = true ∧
 (decide (0 + Int.toNat (IntKind.wrap IntKind.i64 (Int.tmod (IntKind.wrap IntKind.u64 q) (3 : Int))) * 1 < 3)) = true ∧
 (decide ((0 : Int) ≤ Go.bits BinOp.and IntKind.i64 a (15 : Int))) = true ∧
 (decide ((0 : Int) ≤ Go.bits BinOp.and IntKind.i64 k (15 : Int))) = true ∧
 (decide ((0 : Int) ≤ z (0 + Int.toNat (IntKind.wrap IntKind.i64 (Int.tmod (IntKind.wrap IntKind.u64 q) (3 : Int))) * 1) 0 % (16 : Int))) = true ∧
 (((decide (Go.bits BinOp.and IntKind.i64 a (15 : Int) ≤ z (0 + Int.toNat (IntKind.wrap IntKind.i64 (Int.tmod (IntKind.wrap IntKind.u64 q) (3 : Int))) * 1) 0 % (16 : Int))) = true → (((!decide (Go.bits BinOp.and IntKind.i64 k (15 : Int) ≤ IntKind.wrap IntKind.i64 (z (0 + Int.toNat (IntKind.wrap IntKind.i64 (Int.tmod (IntKind.wrap IntKind.u64 q) (3 : Int))) * 1) 0 % (16 : Int) - Go.bits BinOp.and IntKind.i64 a (15 : Int)))) = true → (decide ((0 : Int) ≤ IntKind.wrap IntKind.i64 (Int.tmod (IntKind.wrap IntKind.u64 q) (3 : Int))) && decide (IntKind.wrap IntKind.i64 (Int.tmod (IntKind.wrap IntKind.u64 q) (3 : Int)) < (3 : Int))) = true ∧
 (decide (0 + Int.toNat (IntKind.wrap IntKind.i64 (Int.tmod (IntKind.wrap IntKind.u64 q) (3 : Int))) * 1 < 3)) = true ∧
 (decide (z (0 + Int.toNat (IntKind.wrap IntKind.i64 (Int.tmod (IntKind.wrap IntKind.u64 q) (3 : Int))) * 1) 0 % (16 : Int) < IntKind.wrap IntKind.i64 (Go.bits BinOp.and IntKind.i64 a (15 : Int) + Go.bits BinOp.and IntKind.i64 k (15 : Int)))) = true ∧
 Bool.true = Bool.true) ∧ ((!decide (Go.bits BinOp.and IntKind.i64 k (15 : Int) ≤ IntKind.wrap IntKind.i64 (z (0 + Int.toNat (IntKind.wrap IntKind.i64 (Int.tmod (IntKind.wrap IntKind.u64 q) (3 : Int))) * 1) 0 % (16 : Int) - Go.bits BinOp.and IntKind.i64 a (15 : Int)))) = false → (decide ((0 : Int) ≤ IntKind.wrap IntKind.i64 (Int.tmod (IntKind.wrap IntKind.u64 q) (3 : Int))) && decide (IntKind.wrap IntKind.i64 (Int.tmod (IntKind.wrap IntKind.u64 q) (3 : Int)) < (3 : Int))) = true ∧
 (decide (0 + Int.toNat (IntKind.wrap IntKind.i64 (Int.tmod (IntKind.wrap IntKind.u64 q) (3 : Int))) * 1 < 3)) = true ∧
 (decide ((0 : Int) ≤ IntKind.wrap IntKind.i64 (Int.tmod (IntKind.wrap IntKind.u64 q) (3 : Int))) && decide (IntKind.wrap IntKind.i64 (Int.tmod (IntKind.wrap IntKind.u64 q) (3 : Int)) < (3 : Int))) = true ∧
 (decide (0 + Int.toNat (IntKind.wrap IntKind.i64 (Int.tmod (IntKind.wrap IntKind.u64 q) (3 : Int))) * 1 < 3)) = true ∧
 (decide (z (0 + Int.toNat (IntKind.wrap IntKind.i64 (Int.tmod (IntKind.wrap IntKind.u64 q) (3 : Int))) * 1) 0 % (16 : Int) < IntKind.wrap IntKind.i64 (Go.bits BinOp.and IntKind.i64 a (15 : Int) + Go.bits BinOp.and IntKind.i64 k (15 : Int)))) = false ∧
 (decide ((0 : Int) ≤ IntKind.wrap IntKind.i64 (Int.tmod (IntKind.wrap IntKind.u64 q) (3 : Int))) && decide (IntKind.wrap IntKind.i64 (Int.tmod (IntKind.wrap IntKind.u64 q) (3 : Int)) < (3 : Int))) = true ∧
 (decide (0 + Int.toNat (IntKind.wrap IntKind.i64 (Int.tmod (IntKind.wrap IntKind.u64 q) (3 : Int))) * 1 < 3)) = true ∧
 (!decide (IntKind.wrap IntKind.i64 (PS z (0 + Int.toNat (IntKind.wrap IntKind.i64 (Int.tmod (IntKind.wrap IntKind.u64 q) (3 : Int))) * 1) + Go.bits BinOp.and IntKind.i64 a (15 : Int)) = IntKind.wrap IntKind.i64 (PS z (0 + Int.toNat (IntKind.wrap IntKind.i64 (Int.tmod (IntKind.wrap IntKind.u64 q) (3 : Int))) * 1) + Go.bits BinOp.and IntKind.i64 a (15 : Int)))) = false ∧
 (((0 = 0 ∧ len = len ∧ cap = cap) ∧ q = q ∧ a = a ∧ k = k ∧ Bool.false = Bool.false ∧ (0 = 0 ∧ 3 = 3 ∧ 3 = 3) ∧ PS z 3 = PS z 3 ∧ IntKind.wrap IntKind.i64 (Int.tmod (IntKind.wrap IntKind.u64 q) (3 : Int)) = q % (18446744073709551616 : Int) % (3 : Int) ∧ Go.bits BinOp.and IntKind.i64 a (15 : Int) = a % (16 : Int) ∧ Go.bits BinOp.and IntKind.i64 k (15 : Int) = k % (16 : Int) ∧ IntKind.wrap IntKind.i64 (PS z (0 + Int.toNat (IntKind.wrap IntKind.i64 (Int.tmod (IntKind.wrap IntKind.u64 q) (3 : Int))) * 1) + Go.bits BinOp.and IntKind.i64 a (15 : Int)) = PS z (Int.toNat (q % (18446744073709551616 : Int) % (3 : Int))) + a % (16 : Int) ∧ (0 : Int) = (0 : Int) ∧ True) ∧ (3 = 3 ∧ (∀ (jj0 : Nat), (jj0 < 3 → True ∧ (0 : Int) = (0 : Int) ∧ (0 : Int) = (0 : Int) ∧ True ∧ PS z jj0 = PS z jj0 ∧ z jj0 0 % (16 : Int) = z jj0 0 % (16 : Int) ∧ True))) ∧ (len = len ∧ (∀ (jj0 : Nat), (jj0 < len → True ∧ z jj0 0 = z jj0 0 ∧ True))) ∧ True) ∧
 LO (Go.Proofs.Try.prog) (Go.AE.lp Go.Proofs.Try.prog 6 1) (TB z q a k len cap 3 0) (SB z len 3 103) (Go.AE.Out.x 2 (TB z q a k len cap 3 (Int.toNat (k % (16 : Int)))) (SB z len 3 103)) ∧
 (decide (PS z 3 = (0 : Int))) = false ∧
 (decide (IntKind.wrap IntKind.i64 (PS z 3 - (1 : Int)) < (0 : Int))) = false ∧
 (decide ((64 : Int) < IntKind.wrap IntKind.i64 (PS z 3 - (1 : Int)))) = false ∧
 (decide ((0 : Int) ≤ z 0 0 % (16 : Int))) = true ∧
 (decide ((0 : Int) ≤ IntKind.wrap IntKind.i64 (PS z 3 - (1 : Int)))) = true ∧
 (decide (PS z 0 ≤ IntKind.wrap IntKind.i64 (PS z 3 - (1 : Int)))) = true ∧
 (!decide (z 0 0 % (16 : Int) ≤ IntKind.wrap IntKind.i64 (IntKind.wrap IntKind.i64 (PS z 3 - (1 : Int)) - PS z 0))) = false ∧
 (decide ((0 : Int) ≤ PS z 1)) = true ∧
 (decide ((0 : Int) ≤ z 1 0 % (16 : Int))) = true ∧
 (decide ((0 : Int) ≤ IntKind.wrap IntKind.i64 (PS z 3 - (1 : Int)))) = true ∧
 (decide (PS z 1 ≤ IntKind.wrap IntKind.i64 (PS z 3 - (1 : Int)))) = true ∧
 (!decide (z 1 0 % (16 : Int) ≤ IntKind.wrap IntKind.i64 (IntKind.wrap IntKind.i64 (PS z 3 - (1 : Int)) - PS z 1))) = true ∧
 Bool.true = Bool.true))) ∧ ((decide (Go.bits BinOp.and IntKind.i64 a (15 : Int) ≤ z (0 + Int.toNat (IntKind.wrap IntKind.i64 (Int.tmod (IntKind.wrap IntKind.u64 q) (3 : Int))) * 1) 0 % (16 : Int))) = false → (decide ((0 : Int) ≤ IntKind.wrap IntKind.i64 (Int.tmod (IntKind.wrap IntKind.u64 q) (3 : Int))) && decide (IntKind.wrap IntKind.i64 (Int.tmod (IntKind.wrap IntKind.u64 q) (3 : Int)) < (3 : Int))) = true ∧
 (decide (0 + Int.toNat (IntKind.wrap IntKind.i64 (Int.tmod (IntKind.wrap IntKind.u64 q) (3 : Int))) * 1 < 3)) = true ∧
 (decide (z (0 + Int.toNat (IntKind.wrap IntKind.i64 (Int.tmod (IntKind.wrap IntKind.u64 q) (3 : Int))) * 1) 0 % (16 : Int) < IntKind.wrap IntKind.i64 (Go.bits BinOp.and IntKind.i64 a (15 : Int) + Go.bits BinOp.and IntKind.i64 k (15 : Int)))) = true ∧
 Bool.true = Bool.true))) ∧ ((decide (z 2 0 % (16 : Int) = (0 : Int))) = false → (decide (z 0 0 % (16 : Int) = (0 : Int))) = false ∧
 (decide (IntKind.wrap IntKind.i64 (PS z 2 + z 2 0 % (16 : Int)) ≤ PS z 0)) = false ∧
 (!decide (IntKind.wrap IntKind.i64 (PS z 0 + z 0 0 % (16 : Int)) ≤ PS z 2)) = false ∧
 (decide (z 2 0 % (16 : Int) = (0 : Int))) = false ∧
 (decide (z 1 0 % (16 : Int) = (0 : Int))) = false ∧
 (decide (IntKind.wrap IntKind.i64 (PS z 2 + z 2 0 % (16 : Int)) ≤ PS z 1)) = false ∧
 (!decide (IntKind.wrap IntKind.i64 (PS z 1 + z 1 0 % (16 : Int)) ≤ PS z 2)) = false ∧
 (decide ((0 : Int) ≤ z 0 0 % (16 : Int))) = true ∧
 (!decide (z 0 0 % (16 : Int) ≤ IntKind.wrap IntKind.i64 ((64 : Int) - PS z 0))) = false ∧
 (decide ((0 : Int) ≤ PS z 1)) = true ∧
 (decide ((0 : Int) ≤ z 1 0 % (16 : Int))) = true ∧
 (decide (PS z 1 ≤ (64 : Int))) = true ∧
 (!decide (z 1 0 % (16 : Int) ≤ IntKind.wrap IntKind.i64 ((64 : Int) - PS z 1))) = false ∧
 (decide (z 1 0 % (16 : Int) = (0 : Int))) = false ∧
 (decide (z 0 0 % (16 : Int) = (0 : Int))) = false ∧
 (decide (IntKind.wrap IntKind.i64 (PS z 1 + z 1 0 % (16 : Int)) ≤ PS z 0)) = false ∧
 (!decide (IntKind.wrap IntKind.i64 (PS z 0 + z 0 0 % (16 : Int)) ≤ PS z 1)) = false ∧
 (decide ((0 : Int) ≤ PS z 2)) = true ∧
 (decide ((0 : Int) ≤ z 2 0 % (16 : Int))) = true ∧
 (decide (PS z 2 ≤ (64 : Int))) = true ∧
 (!decide (z 2 0 % (16 : Int) ≤ IntKind.wrap IntKind.i64 ((64 : Int) - PS z 2))) = false ∧
 (decide (z 2 0 % (16 : Int) = (0 : Int))) = false ∧
 (decide (z 0 0 % (16 : Int) = (0 : Int))) = false ∧
 (decide (IntKind.wrap IntKind.i64 (PS z 2 + z 2 0 % (16 : Int)) ≤ PS z 0)) = false ∧
 (!decide (IntKind.wrap IntKind.i64 (PS z 0 + z 0 0 % (16 : Int)) ≤ PS z 2)) = false ∧
 (decide (z 2 0 % (16 : Int) = (0 : Int))) = false ∧
 (decide (z 1 0 % (16 : Int) = (0 : Int))) = false ∧
 (decide (IntKind.wrap IntKind.i64 (PS z 2 + z 2 0 % (16 : Int)) ≤ PS z 1)) = false ∧
 (!decide (IntKind.wrap IntKind.i64 (PS z 1 + z 1 0 % (16 : Int)) ≤ PS z 2)) = false ∧
 (decide (IntKind.wrap IntKind.i64 (Int.tmod (IntKind.wrap IntKind.u64 q) (3 : Int)) < (0 : Int))) = false ∧
 (decide ((3 : Int) ≤ IntKind.wrap IntKind.i64 (Int.tmod (IntKind.wrap IntKind.u64 q) (3 : Int)))) = false ∧
 (decide ((0 : Int) ≤ IntKind.wrap IntKind.i64 (Int.tmod (IntKind.wrap IntKind.u64 q) (3 : Int))) && decide (IntKind.wrap IntKind.i64 (Int.tmod (IntKind.wrap IntKind.u64 q) (3 : Int)) < (3 : Int))) = true ∧
 (decide (0 + Int.toNat (IntKind.wrap IntKind.i64 (Int.tmod (IntKind.wrap IntKind.u64 q) (3 : Int))) * 1 < 3)) = true ∧
 (decide ((0 : Int) ≤ Go.bits BinOp.and IntKind.i64 a (15 : Int))) = true ∧
 (decide ((0 : Int) ≤ Go.bits BinOp.and IntKind.i64 k (15 : Int))) = true ∧
 (decide ((0 : Int) ≤ z (0 + Int.toNat (IntKind.wrap IntKind.i64 (Int.tmod (IntKind.wrap IntKind.u64 q) (3 : Int))) * 1) 0 % (16 : Int))) = true ∧
 (((decide (Go.bits BinOp.and IntKind.i64 a (15 : Int) ≤ z (0 + Int.toNat (IntKind.wrap IntKind.i64 (Int.tmod (IntKind.wrap IntKind.u64 q) (3 : Int))) * 1) 0 % (16 : Int))) = true → (((!decide (Go.bits BinOp.and IntKind.i64 k (15 : Int) ≤ IntKind.wrap IntKind.i64 (z (0 + Int.toNat (IntKind.wrap IntKind.i64 (Int.tmod (IntKind.wrap IntKind.u64 q) (3 : Int))) * 1) 0 % (16 : Int) - Go.bits BinOp.and IntKind.i64 a (15 : Int)))) = true → (decide ((0 : Int) ≤ IntKind.wrap IntKind.i64 (Int.tmod (IntKind.wrap IntKind.u64 q) (3 : Int))) && decide (IntKind.wrap IntKind.i64 (Int.tmod (IntKind.wrap IntKind.u64 q) (3 : Int)) < (3 : Int))) = true ∧
 (decide (0 + Int.toNat (IntKind.wrap IntKind.i64 (Int.tmod (IntKind.wrap IntKind.u64 q) (3 : Int))) * 1 < 3)) = true ∧
 (decide (z (0 + Int.toNat (IntKind.wrap IntKind.i64 (Int.tmod (IntKind.wrap IntKind.u64 q) (3 : Int))) * 1) 0 % (16 : Int) < IntKind.wrap IntKind.i64 (Go.bits BinOp.and IntKind.i64 a (15 : Int) + Go.bits BinOp.and IntKind.i64 k (15 : Int)))) = true ∧
 Bool.true = Bool.true) ∧ ((!decide (Go.bits BinOp.and IntKind.i64 k (15 : Int) ≤ IntKind.wrap IntKind.i64 (z (0 + Int.toNat (IntKind.wrap IntKind.i64 (Int.tmod (IntKind.wrap IntKind.u64 q) (3 : Int))) * 1) 0 % (16 : Int) - Go.bits BinOp.and IntKind.i64 a (15 : Int)))) = false → (decide ((0 : Int) ≤ IntKind.wrap IntKind.i64 (Int.tmod (IntKind.wrap IntKind.u64 q) (3 : Int))) && decide (IntKind.wrap IntKind.i64 (Int.tmod (IntKind.wrap IntKind.u64 q) (3 : Int)) < (3 : Int))) = true ∧
 (decide (0 + Int.toNat (IntKind.wrap IntKind.i64 (Int.tmod (IntKind.wrap IntKind.u64 q) (3 : Int))) * 1 < 3)) = true ∧
 (decide ((0 : Int) ≤ IntKind.wrap IntKind.i64 (Int.tmod (IntKind.wrap IntKind.u64 q) (3 : Int))) && decide (IntKind.wrap IntKind.i64 (Int.tmod (IntKind.wrap IntKind.u64 q) (3 : Int)) < (3 : Int))) = true ∧
 (decide (0 + Int.toNat (IntKind.wrap IntKind.i64 (Int.tmod (IntKind.wrap IntKind.u64 q) (3 : Int))) * 1 < 3)) = true ∧
 (decide (z (0 + Int.toNat (IntKind.wrap IntKind.i64 (Int.tmod (IntKind.wrap IntKind.u64 q) (3 : Int))) * 1) 0 % (16 : Int) < IntKind.wrap IntKind.i64 (Go.bits BinOp.and IntKind.i64 a (15 : Int) + Go.bits BinOp.and IntKind.i64 k (15 : Int)))) = false ∧
 (decide ((0 : Int) ≤ IntKind.wrap IntKind.i64 (Int.tmod (IntKind.wrap IntKind.u64 q) (3 : Int))) && decide (IntKind.wrap IntKind.i64 (Int.tmod (IntKind.wrap IntKind.u64 q) (3 : Int)) < (3 : Int))) = true ∧
 (decide (0 + Int.toNat (IntKind.wrap IntKind.i64 (Int.tmod (IntKind.wrap IntKind.u64 q) (3 : Int))) * 1 < 3)) = true ∧
 (!decide (IntKind.wrap IntKind.i64 (PS z (0 + Int.toNat (IntKind.wrap IntKind.i64 (Int.tmod (IntKind.wrap IntKind.u64 q) (3 : Int))) * 1) + Go.bits BinOp.and IntKind.i64 a (15 : Int)) = IntKind.wrap IntKind.i64 (PS z (0 + Int.toNat (IntKind.wrap IntKind.i64 (Int.tmod (IntKind.wrap IntKind.u64 q) (3 : Int))) * 1) + Go.bits BinOp.and IntKind.i64 a (15 : Int)))) = false ∧
 (((0 = 0 ∧ len = len ∧ cap = cap) ∧ q = q ∧ a = a ∧ k = k ∧ Bool.false = Bool.false ∧ (0 = 0 ∧ 3 = 3 ∧ 3 = 3) ∧ PS z 3 = PS z 3 ∧ IntKind.wrap IntKind.i64 (Int.tmod (IntKind.wrap IntKind.u64 q) (3 : Int)) = q % (18446744073709551616 : Int) % (3 : Int) ∧ Go.bits BinOp.and IntKind.i64 a (15 : Int) = a % (16 : Int) ∧ Go.bits BinOp.and IntKind.i64 k (15 : Int) = k % (16 : Int) ∧ IntKind.wrap IntKind.i64 (PS z (0 + Int.toNat (IntKind.wrap IntKind.i64 (Int.tmod (IntKind.wrap IntKind.u64 q) (3 : Int))) * 1) + Go.bits BinOp.and IntKind.i64 a (15 : Int)) = PS z (Int.toNat (q % (18446744073709551616 : Int) % (3 : Int))) + a % (16 : Int) ∧ (0 : Int) = (0 : Int) ∧ True) ∧ (3 = 3 ∧ (∀ (jj0 : Nat), (jj0 < 3 → True ∧ (0 : Int) = (0 : Int) ∧ (0 : Int) = (0 : Int) ∧ True ∧ PS z jj0 = PS z jj0 ∧ z jj0 0 % (16 : Int) = z jj0 0 % (16 : Int) ∧ True))) ∧ (len = len ∧ (∀ (jj0 : Nat), (jj0 < len → True ∧ z jj0 0 = z jj0 0 ∧ True))) ∧ True) ∧
 LO (Go.Proofs.Try.prog) (Go.AE.lp Go.Proofs.Try.prog 6 1) (TB z q a k len cap 3 0) (SB z len 3 103) (Go.AE.Out.x 2 (TB z q a k len cap 3 (Int.toNat (k % (16 : Int)))) (SB z len 3 103)) ∧
 (decide (PS z 3 = (0 : Int))) = false ∧
 (decide (IntKind.wrap IntKind.i64 (PS z 3 - (1 : Int)) < (0 : Int))) = false ∧
 (decide ((64 : Int) < IntKind.wrap IntKind.i64 (PS z 3 - (1 : Int)))) = false ∧
 (decide ((0 : Int) ≤ z 0 0 % (16 : Int))) = true ∧
 (decide ((0 : Int) ≤ IntKind.wrap IntKind.i64 (PS z 3 - (1 : Int)))) = true ∧
 (decide (PS z 0 ≤ IntKind.wrap IntKind.i64 (PS z 3 - (1 : Int)))) = true ∧
 (!decide (z 0 0 % (16 : Int) ≤ IntKind.wrap IntKind.i64 (IntKind.wrap IntKind.i64 (PS z 3 - (1 : Int)) - PS z 0))) = false ∧
 (decide ((0 : Int) ≤ PS z 1)) = true ∧
 (decide ((0 : Int) ≤ z 1 0 % (16 : Int))) = true ∧
 (decide ((0 : Int) ≤ IntKind.wrap IntKind.i64 (PS z 3 - (1 : Int)))) = true ∧
 (decide (PS z 1 ≤ IntKind.wrap IntKind.i64 (PS z 3 - (1 : Int)))) = true ∧
 (!decide (z 1 0 % (16 : Int) ≤ IntKind.wrap IntKind.i64 (IntKind.wrap IntKind.i64 (PS z 3 - (1 : Int)) - PS z 1))) = false ∧
 (decide (z 1 0 % (16 : Int) = (0 : Int))) = false ∧
 (decide (z 0 0 % (16 : Int) = (0 : Int))) = false ∧
 (decide (IntKind.wrap IntKind.i64 (PS z 1 + z 1 0 % (16 : Int)) ≤ PS z 0)) = false ∧
 (!decide (IntKind.wrap IntKind.i64 (PS z 0 + z 0 0 % (16 : Int)) ≤ PS z 1)) = false ∧
 (decide ((0 : Int) ≤ PS z 2)) = true ∧
 (decide ((0 : Int) ≤ z 2 0 % (16 : Int))) = true ∧
 (decide ((0 : Int) ≤ IntKind.wrap IntKind.i64 (PS z 3 - (1 : Int)))) = true ∧
 (decide (PS z 2 ≤ IntKind.wrap IntKind.i64 (PS z 3 - (1 : Int)))) = true ∧
 (!decide (z 2 0 % (16 : Int) ≤ IntKind.wrap IntKind.i64 (IntKind.wrap IntKind.i64 (PS z 3 - (1 : Int)) - PS z 2))) = true ∧
 Bool.true = Bool.true))) ∧ ((decide (Go.bits BinOp.and IntKind.i64 a (15 : Int) ≤ z (0 + Int.toNat (IntKind.wrap IntKind.i64 (Int.tmod (IntKind.wrap IntKind.u64 q) (3 : Int))) * 1) 0 % (16 : Int))) = false → (decide ((0 : Int) ≤ IntKind.wrap IntKind.i64 (Int.tmod (IntKind.wrap IntKind.u64 q) (3 : Int))) && decide (IntKind.wrap IntKind.i64 (Int.tmod (IntKind.wrap IntKind.u64 q) (3 : Int)) < (3 : Int))) = true ∧
 (decide (0 + Int.toNat (IntKind.wrap IntKind.i64 (Int.tmod (IntKind.wrap IntKind.u64 q) (3 : Int))) * 1 < 3)) = true ∧
 (decide (z (0 + Int.toNat (IntKind.wrap IntKind.i64 (Int.tmod (IntKind.wrap IntKind.u64 q) (3 : Int))) * 1) 0 % (16 : Int) < IntKind.wrap IntKind.i64 (Go.bits BinOp.and IntKind.i64 a (15 : Int) + Go.bits BinOp.and IntKind.i64 k (15 : Int)))) = true ∧
 Bool.true = Bool.true))))))))) (by kernel_rfl) ?_⟩
  repeat' (first | exact hlo | exact hb103 (by omega) | (refine And.intro ?_ ?_) | (with_reducible intro hh; (try simp (disch := omega) only [decide_eq_true_eq, decide_eq_false_iff_not, Bool.and_eq_true, Bool.and_eq_false_imp, Bool.not_eq_true', Bool.not_eq_false', reduceCtorEq, or_false, or_true, Bool.or_eq_true, Bool.or_eq_false_iff, Int.not_lt, Int.not_le, beq_iff_eq, beq_eq_false_iff_ne, Bool.cond_self, Bool.true_and, Bool.and_true, true_and, and_true, mask15, fdiv_nn, i64_bits, wrap_id, wrap_u64, tmod_nn, tdiv_nn, decide_true, decide_false, cond_true, cond_false, Nat.zero_add, Nat.mul_one, Int.toNat_natCast, Int.toNat_zero, Int.toNat_one, tn2, tn3] at hh)))
  all_goals (first | with_reducible rfl | trivial | (first | exact Go.AE.sveq_self _ rfl | (simp only [decide_eq_true_eq, decide_eq_false_iff_not, Bool.and_eq_true, Bool.and_eq_false_imp, Bool.not_eq_true', Bool.not_eq_false', reduceCtorEq, or_false, or_true, Bool.or_eq_true, Bool.or_eq_false_iff, Int.not_lt, Int.not_le, beq_iff_eq, beq_eq_false_iff_ne, Bool.cond_self, Bool.true_and, Bool.and_true, true_and, and_true]; omega) | (simp (disch := omega) only [decide_eq_true_eq, decide_eq_false_iff_not, Bool.and_eq_true, Bool.and_eq_false_imp, Bool.not_eq_true', Bool.not_eq_false', reduceCtorEq, or_false, or_true, Bool.or_eq_true, Bool.or_eq_false_iff, Int.not_lt, Int.not_le, beq_iff_eq, beq_eq_false_iff_ne, Bool.cond_self, Bool.true_and, Bool.and_true, true_and, and_true, mask15, fdiv_nn, i64_bits, wrap_id, wrap_u64, tmod_nn, tdiv_nn, decide_true, decide_false, cond_true, cond_false, Nat.zero_add, Nat.mul_one, Int.toNat_natCast, Int.toNat_zero, Int.toNat_one, tn2, tn3]; first | done | omega) | (simp (disch := omega) only [decide_eq_true_eq, decide_eq_false_iff_not, Bool.and_eq_true, Bool.and_eq_false_imp, Bool.not_eq_true', Bool.not_eq_false', reduceCtorEq, or_false, or_true, Bool.or_eq_true, Bool.or_eq_false_iff, Int.not_lt, Int.not_le, beq_iff_eq, beq_eq_false_iff_ne, Bool.cond_self, Bool.true_and, Bool.and_true, true_and, and_true, mask15, fdiv_nn, i64_bits, wrap_id, wrap_u64, tmod_nn, tdiv_nn, decide_true, decide_false, cond_true, cond_false, Nat.zero_add, Nat.mul_one, Int.toNat_natCast, Int.toNat_zero, Int.toNat_one, tn2, tn3] at *; first | done | omega)) | (simp only [Bool.cond_self, Go.AE.eqV, Go.AE.okL, Go.AE.eqL]; done) | (rw [show i + 1 = 3 by omega]; done) | ((try simp (disch := omega) only [decide_eq_true_eq, decide_eq_false_iff_not, Bool.and_eq_true, Bool.and_eq_false_imp, Bool.not_eq_true', Bool.not_eq_false', reduceCtorEq, or_false, or_true, Bool.or_eq_true, Bool.or_eq_false_iff, Int.not_lt, Int.not_le, beq_iff_eq, beq_eq_false_iff_ne, Bool.cond_self, Bool.true_and, Bool.and_true, true_and, and_true, mask15, fdiv_nn, i64_bits, wrap_id, wrap_u64, tmod_nn, tdiv_nn, decide_true, decide_false, cond_true, cond_false, Nat.zero_add, Nat.mul_one, Int.toNat_natCast, Int.toNat_zero, Int.toNat_one, tn2, tn3] at *) <;> (try simp only [cond_eq_ite, decide_eq_true_eq, decide_eq_false_iff_not, Bool.and_eq_true, Bool.and_eq_false_imp, Bool.not_eq_true', Bool.not_eq_false', reduceCtorEq, or_false, or_true, Bool.or_eq_true, Bool.or_eq_false_iff, Int.not_lt, Int.not_le, beq_iff_eq, beq_eq_false_iff_ne, Bool.cond_self, Bool.true_and, Bool.and_true, true_and, and_true]) <;> (repeat' split) <;> first | rfl | contradiction | omega | (congr 1 <;> omega) | (congr 2 <;> omega) | (simp only [PS]; omega) | (rw [show i + 1 = 3 by omega]; done) | trace_state))
end Go.Proofs.Ytabippmmepehpaa.extentRuns