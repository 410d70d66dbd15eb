/- The walk of caissonlaw20.NicLattice: for every list of labels and every two numbers it answers true. No condition. -/
import Derived.Test.YtkekeomkbcghnaaNicLattice1
import Derived.Test.YtkekeomkbcghnaaProg
namespace Go.Proofs.Ytkekeomkbcghnaa.nicLattice
open Go Go.Proofs Go.AE Go.RowKit
set_option maxRecDepth 100000
set_option linter.unusedVariables false
set_option linter.unusedSimpArgs false
set_option maxHeartbeats 16000000 in
theorem r0_3_false (z : Nat → Nat → Int) (f t : Int) (len cap : Nat)  (hl : len ≤ 9223372036854775807) (hL : min len 4 = 3)  :
    ∃ r, exec (HS Try.prog [41, 54, 1000002] ctr) Try.prog (lp Try.prog 7 0) (TA false f t len cap 0) (SA false z len 0) (kN (nb false) (TA false f t len cap) (SA false z len) (fun i => 3 - i) (fun i => i ≤ 3) 0) (kX (nb false) (fun _ => True) fun _ => .x 0 (TA false f t len cap 3) (SA false z len 3)) (kR (nb false) (fun _ => True) fun _ => .n [] s0) r := by
  refine ⟨.T <| .zn 3 <| .tn 4 <| .Z <| .Z <| .E (1) [(1, 16)], Go.AE.kchange (b := (decide ((0 : Int) < (↑len : Int))) = true ∧
 (Bool.true && decide ((0 : Int) < (↑len : Int))) = true ∧
 (decide (0 < len)) = true ∧
 (Bool.true && decide ((0 : Int) < (↑len : Int))) = true ∧
 (decide (0 < len)) = true ∧
 1 ≤ 3 ∧ 2 < 3 ∧ ((0 = 0 ∧ len = len ∧ cap = cap) ∧ f = f ∧ t = t ∧ Bool.false = Bool.false ∧ (0 = 0 ∧ 1 = 1 ∧ 1 = 1) ∧ (1 : Int) = (1 : Int) ∧ True) ∧ (Go.bits BinOp.and IntKind.i64 (z 0 0) (3 : Int) = z 0 0 % (4 : Int) ∧ Go.bits BinOp.and IntKind.i64 (z 0 1) (15 : Int) = z 0 1 % (16 : Int) ∧ True) ∧ (len = len ∧ (∀ (jj0 : Nat), (jj0 < len → True ∧ z jj0 0 = z jj0 0 ∧ z jj0 1 = z jj0 1 ∧ True))) ∧ True) (by kernel_rfl) ?_⟩
  repeat' (first | (refine And.intro ?_ ?_) | (with_reducible intro hh; (try simp (disch := omega) only [decide_eq_true_eq, decide_eq_false_iff_not, Bool.and_eq_true, Bool.and_eq_false_imp, Bool.not_eq_true', Bool.not_eq_false', reduceCtorEq, or_false, or_true, Bool.or_eq_true, Bool.or_eq_false_iff, Int.not_lt, Int.not_le, Bool.true_beq, Bool.false_beq, Bool.not_true, Bool.not_false, beq_iff_eq, beq_eq_false_iff_ne, Bool.cond_self, Bool.true_and, Bool.and_true, true_and, and_true, mask15, mask3, fdiv_nn, i64_bits, wrap_id, wrap_u64, tmod_nn, tdiv_nn, decide_true, decide_false, cond_true, cond_false, Nat.zero_add, Nat.mul_one, Int.toNat_natCast, Int.toNat_zero, Int.toNat_one, tn2, tn3, andNot_self, or_iff] at hh)))
  all_goals (first | with_reducible rfl | trivial | (first | exact Go.AE.sveq_self _ rfl | (simp only [decide_eq_true_eq, decide_eq_false_iff_not, Bool.and_eq_true, Bool.and_eq_false_imp, Bool.not_eq_true', Bool.not_eq_false', reduceCtorEq, or_false, or_true, Bool.or_eq_true, Bool.or_eq_false_iff, Int.not_lt, Int.not_le, Bool.true_beq, Bool.false_beq, Bool.not_true, Bool.not_false, beq_iff_eq, beq_eq_false_iff_ne, Bool.cond_self, Bool.true_and, Bool.and_true, true_and, and_true]; omega) | (simp (disch := omega) only [decide_eq_true_eq, decide_eq_false_iff_not, Bool.and_eq_true, Bool.and_eq_false_imp, Bool.not_eq_true', Bool.not_eq_false', reduceCtorEq, or_false, or_true, Bool.or_eq_true, Bool.or_eq_false_iff, Int.not_lt, Int.not_le, Bool.true_beq, Bool.false_beq, Bool.not_true, Bool.not_false, beq_iff_eq, beq_eq_false_iff_ne, Bool.cond_self, Bool.true_and, Bool.and_true, true_and, and_true, mask15, mask3, fdiv_nn, i64_bits, wrap_id, wrap_u64, tmod_nn, tdiv_nn, decide_true, decide_false, cond_true, cond_false, Nat.zero_add, Nat.mul_one, Int.toNat_natCast, Int.toNat_zero, Int.toNat_one, tn2, tn3, andNot_self, or_iff]; first | done | omega) | (simp (disch := omega) only [decide_eq_true_eq, decide_eq_false_iff_not, Bool.and_eq_true, Bool.and_eq_false_imp, Bool.not_eq_true', Bool.not_eq_false', reduceCtorEq, or_false, or_true, Bool.or_eq_true, Bool.or_eq_false_iff, Int.not_lt, Int.not_le, Bool.true_beq, Bool.false_beq, Bool.not_true, Bool.not_false, beq_iff_eq, beq_eq_false_iff_ne, Bool.cond_self, Bool.true_and, Bool.and_true, true_and, and_true, mask15, mask3, fdiv_nn, i64_bits, wrap_id, wrap_u64, tmod_nn, tdiv_nn, decide_true, decide_false, cond_true, cond_false, Nat.zero_add, Nat.mul_one, Int.toNat_natCast, Int.toNat_zero, Int.toNat_one, tn2, tn3, andNot_self, or_iff] at *; first | done | omega)) | (simp only [Bool.cond_self, Go.AE.eqV, Go.AE.okL, Go.AE.eqL]; done) | (rw [show i + 1 = 3 by omega]; done) | ((try simp (disch := omega) only [decide_eq_true_eq, decide_eq_false_iff_not, Bool.and_eq_true, Bool.and_eq_false_imp, Bool.not_eq_true', Bool.not_eq_false', reduceCtorEq, or_false, or_true, Bool.or_eq_true, Bool.or_eq_false_iff, Int.not_lt, Int.not_le, Bool.true_beq, Bool.false_beq, Bool.not_true, Bool.not_false, beq_iff_eq, beq_eq_false_iff_ne, Bool.cond_self, Bool.true_and, Bool.and_true, true_and, and_true, mask15, mask3, fdiv_nn, i64_bits, wrap_id, wrap_u64, tmod_nn, tdiv_nn, decide_true, decide_false, cond_true, cond_false, Nat.zero_add, Nat.mul_one, Int.toNat_natCast, Int.toNat_zero, Int.toNat_one, tn2, tn3, andNot_self, or_iff] at *) <;> (try simp only [cond_eq_ite, decide_eq_true_eq, decide_eq_false_iff_not, Bool.and_eq_true, Bool.and_eq_false_imp, Bool.not_eq_true', Bool.not_eq_false', reduceCtorEq, or_false, or_true, Bool.or_eq_true, Bool.or_eq_false_iff, Int.not_lt, Int.not_le, Bool.true_beq, Bool.false_beq, Bool.not_true, Bool.not_false, beq_iff_eq, beq_eq_false_iff_ne, Bool.cond_self, Bool.true_and, Bool.and_true, true_and, and_true]) <;> (repeat' split) <;> first | rfl | contradiction | omega | (congr 1 <;> omega) | (congr 2 <;> omega) | (rw [show i + 1 = 3 by omega]; done) | trace_state))
set_option maxHeartbeats 16000000 in
theorem rs_3_false (z : Nat → Nat → Int) (f t : Int) (len cap : Nat) (i : Nat) (hl : len ≤ 9223372036854775807) (hL : min len 4 = 3) (hi : i + 1 ≤ 3) :
    ∃ r, exec (HS Try.prog [41, 54, 1000002] ctr) Try.prog (lp Try.prog 7 0) (TA false f t len cap (i + 1)) (SA false z len (i + 1)) (kN (nb false) (TA false f t len cap) (SA false z len) (fun i => 3 - i) (fun i => i ≤ 3) (i + 1)) (kX (nb false) (fun _ => True) fun _ => .x 0 (TA false f t len cap 3) (SA false z len 3)) (kR (nb false) (fun _ => True) fun _ => .n [] s0) r := by
  refine ⟨.B (.Z <| .Z <| .tn 5 <| .N <| .T <| .T <| .E (i + 1 + 1) [(1, 17)]) (.zn 3 <| .E (0) []), Go.AE.kchange (b := (((decide ((↑(i + 1) : Int) < (↑len : Int))) = true → (decide ((↑(i + 1) : Int) < (4 : Int))) = true ∧
 (decide ((0 : Int) ≤ (↑(i + 1) : Int)) && decide ((↑(i + 1) : Int) < (↑len : Int))) = true ∧
 (decide (0 + Int.toNat (↑(i + 1) : Int) * 1 < len)) = true ∧
 (decide ((0 : Int) ≤ (↑(i + 1) : Int)) && decide ((↑(i + 1) : Int) < (↑len : Int))) = true ∧
 (decide (0 + Int.toNat (↑(i + 1) : Int) * 1 < len)) = true ∧
 (decide (i + 1 + 1 ≤ i + 1)) = false ∧
 (decide ((i + 1 + 1) * 16 ≤ 140737488355328)) = true ∧
 (decide (0 + (i + 1) ≤ i + 1)) = true ∧
 i + 1 + 1 ≤ 3 ∧ 3 - (i + 1 + 1) < 3 - (i + 1) ∧ ((0 = 0 ∧ len = len ∧ cap = cap) ∧ f = f ∧ t = t ∧ Bool.false = Bool.false ∧ (0 = 0 ∧ i + 1 + 1 = Nat.succ i + 1 ∧ i + 1 + 1 = Nat.succ i + 1) ∧ IntKind.wrap IntKind.i64 ((↑(i + 1) : Int) + (1 : Int)) = (↑(Nat.succ i + 1) : Int) ∧ True) ∧ (i + 1 + 1 = Nat.succ i + 1 ∧ (∀ (jj0 : Nat), (jj0 < Nat.succ i + 1 → True ∧ (bif decide (jj0 < i + 1) then z (0 + jj0) 0 % (4 : Int) else Go.bits BinOp.and IntKind.i64 (z (0 + Int.toNat (↑(i + 1) : Int) * 1) 0) (3 : Int)) = z jj0 0 % (4 : Int) ∧ (bif decide (jj0 < i + 1) then z (0 + jj0) 1 % (16 : Int) else Go.bits BinOp.and IntKind.i64 (z (0 + Int.toNat (↑(i + 1) : Int) * 1) 1) (15 : Int)) = z jj0 1 % (16 : Int) ∧ True))) ∧ (len = len ∧ (∀ (jj0 : Nat), (jj0 < len → True ∧ z jj0 0 = z jj0 0 ∧ z jj0 1 = z jj0 1 ∧ True))) ∧ True) ∧ ((decide ((↑(i + 1) : Int) < (↑len : Int))) = false → True ∧ ((0 = 0 ∧ len = len ∧ cap = cap) ∧ f = f ∧ t = t ∧ Bool.false = Bool.false ∧ (0 = 0 ∧ i + 1 = 3 ∧ i + 1 = 3) ∧ (↑(i + 1) : Int) = (3 : Int) ∧ True) ∧ (i + 1 = 3 ∧ (∀ (jj0 : Nat), (jj0 < 3 → True ∧ z jj0 0 % (4 : Int) = z jj0 0 % (4 : Int) ∧ z jj0 1 % (16 : Int) = z jj0 1 % (16 : Int) ∧ True))) ∧ (len = len ∧ (∀ (jj0 : Nat), (jj0 < len → True ∧ z jj0 0 = z jj0 0 ∧ z jj0 1 = z jj0 1 ∧ True))) ∧ True))) (by kernel_rfl) ?_⟩
  repeat' (first | (refine And.intro ?_ ?_) | (with_reducible intro hh; (try simp (disch := omega) only [decide_eq_true_eq, decide_eq_false_iff_not, Bool.and_eq_true, Bool.and_eq_false_imp, Bool.not_eq_true', Bool.not_eq_false', reduceCtorEq, or_false, or_true, Bool.or_eq_true, Bool.or_eq_false_iff, Int.not_lt, Int.not_le, Bool.true_beq, Bool.false_beq, Bool.not_true, Bool.not_false, beq_iff_eq, beq_eq_false_iff_ne, Bool.cond_self, Bool.true_and, Bool.and_true, true_and, and_true, mask15, mask3, fdiv_nn, i64_bits, wrap_id, wrap_u64, tmod_nn, tdiv_nn, decide_true, decide_false, cond_true, cond_false, Nat.zero_add, Nat.mul_one, Int.toNat_natCast, Int.toNat_zero, Int.toNat_one, tn2, tn3, andNot_self, or_iff] at hh)))
  all_goals (first | with_reducible rfl | trivial | (first | exact Go.AE.sveq_self _ rfl | (simp only [decide_eq_true_eq, decide_eq_false_iff_not, Bool.and_eq_true, Bool.and_eq_false_imp, Bool.not_eq_true', Bool.not_eq_false', reduceCtorEq, or_false, or_true, Bool.or_eq_true, Bool.or_eq_false_iff, Int.not_lt, Int.not_le, Bool.true_beq, Bool.false_beq, Bool.not_true, Bool.not_false, beq_iff_eq, beq_eq_false_iff_ne, Bool.cond_self, Bool.true_and, Bool.and_true, true_and, and_true]; omega) | (simp (disch := omega) only [decide_eq_true_eq, decide_eq_false_iff_not, Bool.and_eq_true, Bool.and_eq_false_imp, Bool.not_eq_true', Bool.not_eq_false', reduceCtorEq, or_false, or_true, Bool.or_eq_true, Bool.or_eq_false_iff, Int.not_lt, Int.not_le, Bool.true_beq, Bool.false_beq, Bool.not_true, Bool.not_false, beq_iff_eq, beq_eq_false_iff_ne, Bool.cond_self, Bool.true_and, Bool.and_true, true_and, and_true, mask15, mask3, fdiv_nn, i64_bits, wrap_id, wrap_u64, tmod_nn, tdiv_nn, decide_true, decide_false, cond_true, cond_false, Nat.zero_add, Nat.mul_one, Int.toNat_natCast, Int.toNat_zero, Int.toNat_one, tn2, tn3, andNot_self, or_iff]; first | done | omega) | (simp (disch := omega) only [decide_eq_true_eq, decide_eq_false_iff_not, Bool.and_eq_true, Bool.and_eq_false_imp, Bool.not_eq_true', Bool.not_eq_false', reduceCtorEq, or_false, or_true, Bool.or_eq_true, Bool.or_eq_false_iff, Int.not_lt, Int.not_le, Bool.true_beq, Bool.false_beq, Bool.not_true, Bool.not_false, beq_iff_eq, beq_eq_false_iff_ne, Bool.cond_self, Bool.true_and, Bool.and_true, true_and, and_true, mask15, mask3, fdiv_nn, i64_bits, wrap_id, wrap_u64, tmod_nn, tdiv_nn, decide_true, decide_false, cond_true, cond_false, Nat.zero_add, Nat.mul_one, Int.toNat_natCast, Int.toNat_zero, Int.toNat_one, tn2, tn3, andNot_self, or_iff] at *; first | done | omega)) | (simp only [Bool.cond_self, Go.AE.eqV, Go.AE.okL, Go.AE.eqL]; done) | (rw [show i + 1 = 3 by omega]; done) | ((try simp (disch := omega) only [decide_eq_true_eq, decide_eq_false_iff_not, Bool.and_eq_true, Bool.and_eq_false_imp, Bool.not_eq_true', Bool.not_eq_false', reduceCtorEq, or_false, or_true, Bool.or_eq_true, Bool.or_eq_false_iff, Int.not_lt, Int.not_le, Bool.true_beq, Bool.false_beq, Bool.not_true, Bool.not_false, beq_iff_eq, beq_eq_false_iff_ne, Bool.cond_self, Bool.true_and, Bool.and_true, true_and, and_true, mask15, mask3, fdiv_nn, i64_bits, wrap_id, wrap_u64, tmod_nn, tdiv_nn, decide_true, decide_false, cond_true, cond_false, Nat.zero_add, Nat.mul_one, Int.toNat_natCast, Int.toNat_zero, Int.toNat_one, tn2, tn3, andNot_self, or_iff] at *) <;> (try simp only [cond_eq_ite, decide_eq_true_eq, decide_eq_false_iff_not, Bool.and_eq_true, Bool.and_eq_false_imp, Bool.not_eq_true', Bool.not_eq_false', reduceCtorEq, or_false, or_true, Bool.or_eq_true, Bool.or_eq_false_iff, Int.not_lt, Int.not_le, Bool.true_beq, Bool.false_beq, Bool.not_true, Bool.not_false, beq_iff_eq, beq_eq_false_iff_ne, Bool.cond_self, Bool.true_and, Bool.and_true, true_and, and_true]) <;> (repeat' split) <;> first | rfl | contradiction | omega | (congr 1 <;> omega) | (congr 2 <;> omega) | (rw [show i + 1 = 3 by omega]; done) | trace_state))
theorem loop_3_false (z : Nat → Nat → Int) (f t : Int) (len cap : Nat) (hl : len ≤ 9223372036854775807) (hL : min len 4 = 3) : LO Try.prog (lp Try.prog 7 0) (TA false f t len cap 0) (SA false z len 0) (.x 0 (TA false f t len cap 3) (SA false z len 3)) :=
  LQ.one (loop_scr pk okc (by kernel_rfl) (nb false) (TA false f t len cap) (SA false z len) (fun i => 3 - i) (fun i => i ≤ 3) (fun _ => True) (fun _ => .x 0 (TA false f t len cap 3) (SA false z len 3)) (fun j => by cases j <;> rfl)
    (fun i hi => match i, hi with | 0, _ => r0_3_false z f t len cap hl hL | i + 1, hi => rs_3_false z f t len cap i hl hL hi) (Nat.zero_le _) rfl)
set_option maxHeartbeats 16000000 in
theorem main_3_false_0 (z : Nat → Nat → Int) (f t : Int) (len cap : Nat) (p : Pl) (hL : min len 4 = 3) (hlo : LO Try.prog (lp Try.prog 7 0) (TA false f t len cap 0) (SA false z len 0) (.x 0 (TA false f t len cap 3) (SA false z len 3))) (hA : f % 18446744073709551616 % 3 = 0) :
    ∃ r, callK (HS Try.prog [41, 54, 1000002] ctr) Try.prog 7 [xv false len cap, .int .i64 f, .int .i64 t] (sOf (cond false [] [(p, .fam 2 true len fun i => [.int .i64 (z i 0), .int .i64 (z i 1)])])) kTrue r := by
  refine ⟨.Z <| .L (TA Bool.false f t len cap 0) (SA Bool.false z len 0) (Go.AE.Out.x 0 (TA Bool.false f t len cap 3) (SA Bool.false z len 3)) <| .zn 7 <| .U <| .zn 3 <| .T <| .zn 3 <| .T <| .zn 3 <| .T <| .zn 3 <| .N <| .zn 3 <| .T <| .zn 3 <| .T <| .zn 3 <| .T <| .zn 3 <| .N <| .zn 3 <| .T <| .zn 3 <| .T <| .zn 3 <| .T <| .zn 3 <| .N <| .zn 3 <| .U <| .zn 22 <| .T <| .Z <| .B (.zn 38 <| .T <| .zn 3 <| .T <| .zn 3 <| .T <| .zn 3 <| .T <| .Z <| .T <| .zn 3 <| .T <| .zn 3 <| .T <| .zn 4 <| .T <| .zn 5 <| .T <| .zn 6 <| .N <| .zn 8 <| .T <| .zn 23 <| .T <| .U <| .zn 18 <| .T <| .zn 5 <| .U <| .zn 21 <| .T <| .zn 20 <| .T <| .zn 6 <| .E (0) []) (.B (.zn 38 <| .T <| .zn 3 <| .T <| .zn 3 <| .T <| .zn 3 <| .T <| .Z <| .T <| .zn 3 <| .T <| .zn 3 <| .T <| .zn 4 <| .T <| .zn 5 <| .B (.zn 6 <| .B (.zn 4 <| .T <| .zn 23 <| .N <| .U <| .zn 15 <| .N <| .zn 20 <| .N <| .zn 20 <| .N <| .zn 6 <| .E (0) []) (.zn 8 <| .T <| .zn 23 <| .T <| .U <| .zn 15 <| .T <| .zn 23 <| .T <| .zn 5 <| .U <| .zn 21 <| .T <| .zn 6 <| .E (0) [])) (.zn 11 <| .N <| .zn 18 <| .U <| .zn 64 <| .E (0) [])) (.T <| .zn 38 <| .T <| .zn 3 <| .T <| .zn 3 <| .T <| .zn 3 <| .T <| .Z <| .T <| .zn 3 <| .T <| .zn 3 <| .T <| .zn 4 <| .T <| .zn 5 <| .B (.zn 6 <| .B (.zn 4 <| .T <| .zn 23 <| .N <| .U <| .zn 15 <| .N <| .zn 20 <| .N <| .zn 20 <| .N <| .zn 6 <| .E (0) []) (.zn 8 <| .T <| .zn 23 <| .T <| .U <| .zn 15 <| .T <| .zn 20 <| .T <| .zn 23 <| .T <| .zn 5 <| .U <| .zn 7 <| .E (0) [])) (.zn 11 <| .N <| .zn 18 <| .U <| .zn 64 <| .E (0) []))), Go.AE.kchange (b := (True) ∧
 (((0 = 0 ∧ len = len ∧ cap = cap) ∧ f = f ∧ t = t ∧ Bool.false = Bool.false ∧ True ∧ (0 : Int) = (0 : Int) ∧ True) ∧ (len = len ∧ (∀ (jj0 : Nat), (jj0 < len → True ∧ z jj0 0 = z jj0 0 ∧ z jj0 1 = z jj0 1 ∧ True))) ∧ True) ∧
 LO (Go.Proofs.Try.prog) (Go.AE.lp Go.Proofs.Try.prog 7 0) (TA Bool.false f t len cap 0) (SA Bool.false z len 0) (Go.AE.Out.x 0 (TA Bool.false f t len cap 3) (SA Bool.false z len 3)) ∧
 (decide ((0 : Int) ≤ z 0 0 % (4 : Int))) = true ∧
 (decide (z 0 0 % (4 : Int) ≤ (3 : Int))) = true ∧
 (decide ((0 : Int) ≤ z 0 1 % (16 : Int))) = true ∧
 (!decide (z 0 1 % (16 : Int) ≤ (15 : Int))) = false ∧
 (decide ((0 : Int) ≤ z 1 0 % (4 : Int))) = true ∧
 (decide (z 1 0 % (4 : Int) ≤ (3 : Int))) = true ∧
 (decide ((0 : Int) ≤ z 1 1 % (16 : Int))) = true ∧
 (!decide (z 1 1 % (16 : Int) ≤ (15 : Int))) = false ∧
 (decide ((0 : Int) ≤ z 2 0 % (4 : Int))) = true ∧
 (decide (z 2 0 % (4 : Int) ≤ (3 : Int))) = true ∧
 (decide ((0 : Int) ≤ z 2 1 % (16 : Int))) = true ∧
 (!decide (z 2 1 % (16 : Int) ≤ (15 : Int))) = false ∧
 (decide (Int.tmod (IntKind.wrap IntKind.u64 f) (3 : Int) = (0 : Int))) = true ∧
 (((decide (Int.tmod (IntKind.wrap IntKind.u64 t) (3 : Int) = (0 : Int))) = true → (decide ((0 : Int) ≤ z 0 0 % (4 : Int))) = true ∧
 (decide (z 0 0 % (4 : Int) ≤ (3 : Int))) = true ∧
 (decide ((0 : Int) ≤ z 0 1 % (16 : Int))) = true ∧
 (decide (z 0 1 % (16 : Int) ≤ (15 : Int))) = true ∧
 (decide ((0 : Int) ≤ z 0 0 % (4 : Int))) = true ∧
 (decide (z 0 0 % (4 : Int) ≤ (3 : Int))) = true ∧
 (decide ((0 : Int) ≤ z 0 1 % (16 : Int))) = true ∧
 (decide (z 0 1 % (16 : Int) ≤ (15 : Int))) = true ∧
 (decide (z 0 0 % (4 : Int) ≤ z 0 0 % (4 : Int))) = true ∧
 (!decide (Go.bits BinOp.andNot IntKind.i64 (z 0 1 % (16 : Int)) (z 0 1 % (16 : Int)) = (0 : Int))) = false ∧
 (decide (z 0 0 % (4 : Int) ≤ z 0 0 % (4 : Int))) = true ∧
 (decide (Go.bits BinOp.or IntKind.i64 (z 0 1 % (16 : Int)) (z 0 1 % (16 : Int)) = z 0 1 % (16 : Int))) = true ∧
 (decide (Go.bits BinOp.or IntKind.i64 (z 0 1 % (16 : Int)) (z 0 1 % (16 : Int)) = z 0 1 % (16 : Int))) = true ∧
 (decide (Go.bits BinOp.or IntKind.i64 (z 0 1 % (16 : Int)) (z 0 1 % (16 : Int)) = z 0 1 % (16 : Int))) = true ∧
 (decide (Go.bits BinOp.or IntKind.i64 (z 0 1 % (16 : Int)) (z 0 1 % (16 : Int)) = z 0 1 % (16 : Int))) = true ∧
 Bool.true = Bool.true) ∧ ((decide (Int.tmod (IntKind.wrap IntKind.u64 t) (3 : Int) = (0 : Int))) = false → (((decide (Int.tmod (IntKind.wrap IntKind.u64 t) (3 : Int) = (1 : Int))) = true → (decide ((0 : Int) ≤ z 1 0 % (4 : Int))) = true ∧
 (decide (z 1 0 % (4 : Int) ≤ (3 : Int))) = true ∧
 (decide ((0 : Int) ≤ z 1 1 % (16 : Int))) = true ∧
 (decide (z 1 1 % (16 : Int) ≤ (15 : Int))) = true ∧
 (decide ((0 : Int) ≤ z 0 0 % (4 : Int))) = true ∧
 (decide (z 0 0 % (4 : Int) ≤ (3 : Int))) = true ∧
 (decide ((0 : Int) ≤ z 0 1 % (16 : Int))) = true ∧
 (decide (z 0 1 % (16 : Int) ≤ (15 : Int))) = true ∧
 (((decide (z 0 0 % (4 : Int) ≤ z 1 0 % (4 : Int))) = true → (((!decide (Go.bits BinOp.andNot IntKind.i64 (z 0 1 % (16 : Int)) (z 1 1 % (16 : Int)) = (0 : Int))) = true → (decide (z 0 0 % (4 : Int) ≤ z 1 0 % (4 : Int))) = true ∧
 (decide (Go.bits BinOp.or IntKind.i64 (z 1 1 % (16 : Int)) (z 0 1 % (16 : Int)) = z 1 1 % (16 : Int))) = false ∧
 (decide (Go.bits BinOp.or IntKind.i64 (z 1 1 % (16 : Int)) (z 0 1 % (16 : Int)) = z 1 1 % (16 : Int))) = false ∧
 (decide (Go.bits BinOp.or IntKind.i64 (z 1 1 % (16 : Int)) (z 0 1 % (16 : Int)) = z 1 1 % (16 : Int))) = false ∧
 (decide (Go.bits BinOp.or IntKind.i64 (z 1 1 % (16 : Int)) (z 0 1 % (16 : Int)) = z 1 1 % (16 : Int))) = false ∧
 Bool.true = Bool.true) ∧ ((!decide (Go.bits BinOp.andNot IntKind.i64 (z 0 1 % (16 : Int)) (z 1 1 % (16 : Int)) = (0 : Int))) = false → (decide (z 0 0 % (4 : Int) ≤ z 1 0 % (4 : Int))) = true ∧
 (decide (Go.bits BinOp.or IntKind.i64 (z 1 1 % (16 : Int)) (z 0 1 % (16 : Int)) = z 1 1 % (16 : Int))) = true ∧
 (decide (Go.bits BinOp.or IntKind.i64 (z 1 1 % (16 : Int)) (z 0 1 % (16 : Int)) = z 1 1 % (16 : Int))) = true ∧
 (decide (Go.bits BinOp.or IntKind.i64 (z 1 1 % (16 : Int)) (z 0 1 % (16 : Int)) = z 1 1 % (16 : Int))) = true ∧
 (decide (Go.bits BinOp.or IntKind.i64 (z 1 1 % (16 : Int)) (z 0 1 % (16 : Int)) = z 1 1 % (16 : Int))) = true ∧
 Bool.true = Bool.true))) ∧ ((decide (z 0 0 % (4 : Int) ≤ z 1 0 % (4 : Int))) = false → (decide (z 0 0 % (4 : Int) ≤ z 1 0 % (4 : Int))) = false ∧
 Bool.true = Bool.true))) ∧ ((decide (Int.tmod (IntKind.wrap IntKind.u64 t) (3 : Int) = (1 : Int))) = false → (decide (Int.tmod (IntKind.wrap IntKind.u64 t) (3 : Int) = (2 : Int))) = true ∧
 (decide ((0 : Int) ≤ z 2 0 % (4 : Int))) = true ∧
 (decide (z 2 0 % (4 : Int) ≤ (3 : Int))) = true ∧
 (decide ((0 : Int) ≤ z 2 1 % (16 : Int))) = true ∧
 (decide (z 2 1 % (16 : Int) ≤ (15 : Int))) = true ∧
 (decide ((0 : Int) ≤ z 0 0 % (4 : Int))) = true ∧
 (decide (z 0 0 % (4 : Int) ≤ (3 : Int))) = true ∧
 (decide ((0 : Int) ≤ z 0 1 % (16 : Int))) = true ∧
 (decide (z 0 1 % (16 : Int) ≤ (15 : Int))) = true ∧
 (((decide (z 0 0 % (4 : Int) ≤ z 2 0 % (4 : Int))) = true → (((!decide (Go.bits BinOp.andNot IntKind.i64 (z 0 1 % (16 : Int)) (z 2 1 % (16 : Int)) = (0 : Int))) = true → (decide (z 0 0 % (4 : Int) ≤ z 2 0 % (4 : Int))) = true ∧
 (decide (Go.bits BinOp.or IntKind.i64 (z 2 1 % (16 : Int)) (z 0 1 % (16 : Int)) = z 2 1 % (16 : Int))) = false ∧
 (decide (Go.bits BinOp.or IntKind.i64 (z 2 1 % (16 : Int)) (z 0 1 % (16 : Int)) = z 2 1 % (16 : Int))) = false ∧
 (decide (Go.bits BinOp.or IntKind.i64 (z 2 1 % (16 : Int)) (z 0 1 % (16 : Int)) = z 2 1 % (16 : Int))) = false ∧
 (decide (Go.bits BinOp.or IntKind.i64 (z 2 1 % (16 : Int)) (z 0 1 % (16 : Int)) = z 2 1 % (16 : Int))) = false ∧
 Bool.true = Bool.true) ∧ ((!decide (Go.bits BinOp.andNot IntKind.i64 (z 0 1 % (16 : Int)) (z 2 1 % (16 : Int)) = (0 : Int))) = false → (decide (z 0 0 % (4 : Int) ≤ z 2 0 % (4 : Int))) = true ∧
 (decide (Go.bits BinOp.or IntKind.i64 (z 2 1 % (16 : Int)) (z 0 1 % (16 : Int)) = z 2 1 % (16 : Int))) = true ∧
 (decide (Go.bits BinOp.or IntKind.i64 (z 2 1 % (16 : Int)) (z 0 1 % (16 : Int)) = z 2 1 % (16 : Int))) = true ∧
 (decide (Go.bits BinOp.or IntKind.i64 (z 2 1 % (16 : Int)) (z 0 1 % (16 : Int)) = z 2 1 % (16 : Int))) = true ∧
 (decide (Go.bits BinOp.or IntKind.i64 (z 2 1 % (16 : Int)) (z 0 1 % (16 : Int)) = z 2 1 % (16 : Int))) = true ∧
 Bool.true = Bool.true))) ∧ ((decide (z 0 0 % (4 : Int) ≤ z 2 0 % (4 : Int))) = false → (decide (z 0 0 % (4 : Int) ≤ z 2 0 % (4 : Int))) = false ∧
 Bool.true = Bool.true))))))) (by kernel_rfl) ?_⟩
  repeat' (first | exact hlo | (refine And.intro ?_ ?_) | (with_reducible intro hh; (try simp (disch := omega) only [decide_eq_true_eq, decide_eq_false_iff_not, Bool.and_eq_true, Bool.and_eq_false_imp, Bool.not_eq_true', Bool.not_eq_false', reduceCtorEq, or_false, or_true, Bool.or_eq_true, Bool.or_eq_false_iff, Int.not_lt, Int.not_le, Bool.true_beq, Bool.false_beq, Bool.not_true, Bool.not_false, beq_iff_eq, beq_eq_false_iff_ne, Bool.cond_self, Bool.true_and, Bool.and_true, true_and, and_true, mask15, mask3, fdiv_nn, i64_bits, wrap_id, wrap_u64, tmod_nn, tdiv_nn, decide_true, decide_false, cond_true, cond_false, Nat.zero_add, Nat.mul_one, Int.toNat_natCast, Int.toNat_zero, Int.toNat_one, tn2, tn3, andNot_self, or_iff] at hh)))
  all_goals (first | with_reducible rfl | trivial | (first | exact Go.AE.sveq_self _ rfl | (simp only [decide_eq_true_eq, decide_eq_false_iff_not, Bool.and_eq_true, Bool.and_eq_false_imp, Bool.not_eq_true', Bool.not_eq_false', reduceCtorEq, or_false, or_true, Bool.or_eq_true, Bool.or_eq_false_iff, Int.not_lt, Int.not_le, Bool.true_beq, Bool.false_beq, Bool.not_true, Bool.not_false, beq_iff_eq, beq_eq_false_iff_ne, Bool.cond_self, Bool.true_and, Bool.and_true, true_and, and_true]; omega) | (simp (disch := omega) only [decide_eq_true_eq, decide_eq_false_iff_not, Bool.and_eq_true, Bool.and_eq_false_imp, Bool.not_eq_true', Bool.not_eq_false', reduceCtorEq, or_false, or_true, Bool.or_eq_true, Bool.or_eq_false_iff, Int.not_lt, Int.not_le, Bool.true_beq, Bool.false_beq, Bool.not_true, Bool.not_false, beq_iff_eq, beq_eq_false_iff_ne, Bool.cond_self, Bool.true_and, Bool.and_true, true_and, and_true, mask15, mask3, fdiv_nn, i64_bits, wrap_id, wrap_u64, tmod_nn, tdiv_nn, decide_true, decide_false, cond_true, cond_false, Nat.zero_add, Nat.mul_one, Int.toNat_natCast, Int.toNat_zero, Int.toNat_one, tn2, tn3, andNot_self, or_iff]; first | done | omega) | (simp (disch := omega) only [decide_eq_true_eq, decide_eq_false_iff_not, Bool.and_eq_true, Bool.and_eq_false_imp, Bool.not_eq_true', Bool.not_eq_false', reduceCtorEq, or_false, or_true, Bool.or_eq_true, Bool.or_eq_false_iff, Int.not_lt, Int.not_le, Bool.true_beq, Bool.false_beq, Bool.not_true, Bool.not_false, beq_iff_eq, beq_eq_false_iff_ne, Bool.cond_self, Bool.true_and, Bool.and_true, true_and, and_true, mask15, mask3, fdiv_nn, i64_bits, wrap_id, wrap_u64, tmod_nn, tdiv_nn, decide_true, decide_false, cond_true, cond_false, Nat.zero_add, Nat.mul_one, Int.toNat_natCast, Int.toNat_zero, Int.toNat_one, tn2, tn3, andNot_self, or_iff] at *; first | done | omega)) | (simp only [Bool.cond_self, Go.AE.eqV, Go.AE.okL, Go.AE.eqL]; done) | (rw [show i + 1 = 3 by omega]; done) | ((try simp (disch := omega) only [decide_eq_true_eq, decide_eq_false_iff_not, Bool.and_eq_true, Bool.and_eq_false_imp, Bool.not_eq_true', Bool.not_eq_false', reduceCtorEq, or_false, or_true, Bool.or_eq_true, Bool.or_eq_false_iff, Int.not_lt, Int.not_le, Bool.true_beq, Bool.false_beq, Bool.not_true, Bool.not_false, beq_iff_eq, beq_eq_false_iff_ne, Bool.cond_self, Bool.true_and, Bool.and_true, true_and, and_true, mask15, mask3, fdiv_nn, i64_bits, wrap_id, wrap_u64, tmod_nn, tdiv_nn, decide_true, decide_false, cond_true, cond_false, Nat.zero_add, Nat.mul_one, Int.toNat_natCast, Int.toNat_zero, Int.toNat_one, tn2, tn3, andNot_self, or_iff] at *) <;> (try simp only [cond_eq_ite, decide_eq_true_eq, decide_eq_false_iff_not, Bool.and_eq_true, Bool.and_eq_false_imp, Bool.not_eq_true', Bool.not_eq_false', reduceCtorEq, or_false, or_true, Bool.or_eq_true, Bool.or_eq_false_iff, Int.not_lt, Int.not_le, Bool.true_beq, Bool.false_beq, Bool.not_true, Bool.not_false, beq_iff_eq, beq_eq_false_iff_ne, Bool.cond_self, Bool.true_and, Bool.and_true, true_and, and_true]) <;> (repeat' split) <;> first | rfl | contradiction | omega | (congr 1 <;> omega) | (congr 2 <;> omega) | (rw [show i + 1 = 3 by omega]; done) | trace_state))
set_option maxHeartbeats 16000000 in
theorem main_3_false_1 (z : Nat → Nat → Int) (f t : Int) (len cap : Nat) (p : Pl) (hL : min len 4 = 3) (hlo : LO Try.prog (lp Try.prog 7 0) (TA false f t len cap 0) (SA false z len 0) (.x 0 (TA false f t len cap 3) (SA false z len 3))) (hA : f % 18446744073709551616 % 3 = 1) :
    ∃ r, callK (HS Try.prog [41, 54, 1000002] ctr) Try.prog 7 [xv false len cap, .int .i64 f, .int .i64 t] (sOf (cond false [] [(p, .fam 2 true len fun i => [.int .i64 (z i 0), .int .i64 (z i 1)])])) kTrue r := by
  refine ⟨.Z <| .L (TA Bool.false f t len cap 0) (SA Bool.false z len 0) (Go.AE.Out.x 0 (TA Bool.false f t len cap 3) (SA Bool.false z len 3)) <| .zn 7 <| .U <| .zn 3 <| .T <| .zn 3 <| .T <| .zn 3 <| .T <| .zn 3 <| .N <| .zn 3 <| .T <| .zn 3 <| .T <| .zn 3 <| .T <| .zn 3 <| .N <| .zn 3 <| .T <| .zn 3 <| .T <| .zn 3 <| .T <| .zn 3 <| .N <| .zn 3 <| .U <| .zn 22 <| .N <| .T <| .Z <| .B (.zn 38 <| .T <| .zn 3 <| .T <| .zn 3 <| .T <| .zn 3 <| .T <| .Z <| .T <| .zn 3 <| .T <| .zn 3 <| .T <| .zn 4 <| .T <| .zn 5 <| .B (.zn 6 <| .B (.zn 4 <| .T <| .zn 23 <| .N <| .U <| .zn 15 <| .N <| .zn 20 <| .N <| .zn 20 <| .N <| .zn 6 <| .E (0) []) (.zn 8 <| .T <| .zn 23 <| .T <| .U <| .zn 18 <| .T <| .zn 5 <| .U <| .zn 21 <| .T <| .zn 20 <| .T <| .zn 6 <| .E (0) [])) (.zn 11 <| .N <| .zn 18 <| .U <| .zn 64 <| .E (0) [])) (.B (.zn 38 <| .T <| .zn 3 <| .T <| .zn 3 <| .T <| .zn 3 <| .T <| .Z <| .T <| .zn 3 <| .T <| .zn 3 <| .T <| .zn 4 <| .T <| .zn 5 <| .T <| .zn 6 <| .N <| .zn 8 <| .T <| .zn 23 <| .T <| .U <| .zn 15 <| .T <| .zn 23 <| .T <| .zn 5 <| .U <| .zn 21 <| .T <| .zn 6 <| .E (0) []) (.T <| .zn 38 <| .T <| .zn 3 <| .T <| .zn 3 <| .T <| .zn 3 <| .T <| .Z <| .T <| .zn 3 <| .T <| .zn 3 <| .T <| .zn 4 <| .T <| .zn 5 <| .B (.zn 6 <| .B (.zn 4 <| .T <| .zn 23 <| .N <| .U <| .zn 15 <| .N <| .zn 20 <| .N <| .zn 20 <| .N <| .zn 6 <| .E (0) []) (.zn 8 <| .T <| .zn 23 <| .T <| .U <| .zn 15 <| .T <| .zn 20 <| .T <| .zn 23 <| .T <| .zn 5 <| .U <| .zn 7 <| .E (0) [])) (.zn 11 <| .N <| .zn 18 <| .U <| .zn 64 <| .E (0) []))), Go.AE.kchange (b := (True) ∧
 (((0 = 0 ∧ len = len ∧ cap = cap) ∧ f = f ∧ t = t ∧ Bool.false = Bool.false ∧ True ∧ (0 : Int) = (0 : Int) ∧ True) ∧ (len = len ∧ (∀ (jj0 : Nat), (jj0 < len → True ∧ z jj0 0 = z jj0 0 ∧ z jj0 1 = z jj0 1 ∧ True))) ∧ True) ∧
 LO (Go.Proofs.Try.prog) (Go.AE.lp Go.Proofs.Try.prog 7 0) (TA Bool.false f t len cap 0) (SA Bool.false z len 0) (Go.AE.Out.x 0 (TA Bool.false f t len cap 3) (SA Bool.false z len 3)) ∧
 (decide ((0 : Int) ≤ z 0 0 % (4 : Int))) = true ∧
 (decide (z 0 0 % (4 : Int) ≤ (3 : Int))) = true ∧
 (decide ((0 : Int) ≤ z 0 1 % (16 : Int))) = true ∧
 (!decide (z 0 1 % (16 : Int) ≤ (15 : Int))) = false ∧
 (decide ((0 : Int) ≤ z 1 0 % (4 : Int))) = true ∧
 (decide (z 1 0 % (4 : Int) ≤ (3 : Int))) = true ∧
 (decide ((0 : Int) ≤ z 1 1 % (16 : Int))) = true ∧
 (!decide (z 1 1 % (16 : Int) ≤ (15 : Int))) = false ∧
 (decide ((0 : Int) ≤ z 2 0 % (4 : Int))) = true ∧
 (decide (z 2 0 % (4 : Int) ≤ (3 : Int))) = true ∧
 (decide ((0 : Int) ≤ z 2 1 % (16 : Int))) = true ∧
 (!decide (z 2 1 % (16 : Int) ≤ (15 : Int))) = false ∧
 (decide (Int.tmod (IntKind.wrap IntKind.u64 f) (3 : Int) = (0 : Int))) = false ∧
 (decide (Int.tmod (IntKind.wrap IntKind.u64 f) (3 : Int) = (1 : Int))) = true ∧
 (((decide (Int.tmod (IntKind.wrap IntKind.u64 t) (3 : Int) = (0 : Int))) = true → (decide ((0 : Int) ≤ z 0 0 % (4 : Int))) = true ∧
 (decide (z 0 0 % (4 : Int) ≤ (3 : Int))) = true ∧
 (decide ((0 : Int) ≤ z 0 1 % (16 : Int))) = true ∧
 (decide (z 0 1 % (16 : Int) ≤ (15 : Int))) = true ∧
 (decide ((0 : Int) ≤ z 1 0 % (4 : Int))) = true ∧
 (decide (z 1 0 % (4 : Int) ≤ (3 : Int))) = true ∧
 (decide ((0 : Int) ≤ z 1 1 % (16 : Int))) = true ∧
 (decide (z 1 1 % (16 : Int) ≤ (15 : Int))) = true ∧
 (((decide (z 1 0 % (4 : Int) ≤ z 0 0 % (4 : Int))) = true → (((!decide (Go.bits BinOp.andNot IntKind.i64 (z 1 1 % (16 : Int)) (z 0 1 % (16 : Int)) = (0 : Int))) = true → (decide (z 1 0 % (4 : Int) ≤ z 0 0 % (4 : Int))) = true ∧
 (decide (Go.bits BinOp.or IntKind.i64 (z 0 1 % (16 : Int)) (z 1 1 % (16 : Int)) = z 0 1 % (16 : Int))) = false ∧
 (decide (Go.bits BinOp.or IntKind.i64 (z 0 1 % (16 : Int)) (z 1 1 % (16 : Int)) = z 0 1 % (16 : Int))) = false ∧
 (decide (Go.bits BinOp.or IntKind.i64 (z 0 1 % (16 : Int)) (z 1 1 % (16 : Int)) = z 0 1 % (16 : Int))) = false ∧
 (decide (Go.bits BinOp.or IntKind.i64 (z 0 1 % (16 : Int)) (z 1 1 % (16 : Int)) = z 0 1 % (16 : Int))) = false ∧
 Bool.true = Bool.true) ∧ ((!decide (Go.bits BinOp.andNot IntKind.i64 (z 1 1 % (16 : Int)) (z 0 1 % (16 : Int)) = (0 : Int))) = false → (decide (z 1 0 % (4 : Int) ≤ z 0 0 % (4 : Int))) = true ∧
 (decide (Go.bits BinOp.or IntKind.i64 (z 0 1 % (16 : Int)) (z 1 1 % (16 : Int)) = z 0 1 % (16 : Int))) = true ∧
 (decide (Go.bits BinOp.or IntKind.i64 (z 0 1 % (16 : Int)) (z 1 1 % (16 : Int)) = z 0 1 % (16 : Int))) = true ∧
 (decide (Go.bits BinOp.or IntKind.i64 (z 0 1 % (16 : Int)) (z 1 1 % (16 : Int)) = z 0 1 % (16 : Int))) = true ∧
 (decide (Go.bits BinOp.or IntKind.i64 (z 0 1 % (16 : Int)) (z 1 1 % (16 : Int)) = z 0 1 % (16 : Int))) = true ∧
 Bool.true = Bool.true))) ∧ ((decide (z 1 0 % (4 : Int) ≤ z 0 0 % (4 : Int))) = false → (decide (z 1 0 % (4 : Int) ≤ z 0 0 % (4 : Int))) = false ∧
 Bool.true = Bool.true))) ∧ ((decide (Int.tmod (IntKind.wrap IntKind.u64 t) (3 : Int) = (0 : Int))) = false → (((decide (Int.tmod (IntKind.wrap IntKind.u64 t) (3 : Int) = (1 : Int))) = true → (decide ((0 : Int) ≤ z 1 0 % (4 : Int))) = true ∧
 (decide (z 1 0 % (4 : Int) ≤ (3 : Int))) = true ∧
 (decide ((0 : Int) ≤ z 1 1 % (16 : Int))) = true ∧
 (decide (z 1 1 % (16 : Int) ≤ (15 : Int))) = true ∧
 (decide ((0 : Int) ≤ z 1 0 % (4 : Int))) = true ∧
 (decide (z 1 0 % (4 : Int) ≤ (3 : Int))) = true ∧
 (decide ((0 : Int) ≤ z 1 1 % (16 : Int))) = true ∧
 (decide (z 1 1 % (16 : Int) ≤ (15 : Int))) = true ∧
 (decide (z 1 0 % (4 : Int) ≤ z 1 0 % (4 : Int))) = true ∧
 (!decide (Go.bits BinOp.andNot IntKind.i64 (z 1 1 % (16 : Int)) (z 1 1 % (16 : Int)) = (0 : Int))) = false ∧
 (decide (z 1 0 % (4 : Int) ≤ z 1 0 % (4 : Int))) = true ∧
 (decide (Go.bits BinOp.or IntKind.i64 (z 1 1 % (16 : Int)) (z 1 1 % (16 : Int)) = z 1 1 % (16 : Int))) = true ∧
 (decide (Go.bits BinOp.or IntKind.i64 (z 1 1 % (16 : Int)) (z 1 1 % (16 : Int)) = z 1 1 % (16 : Int))) = true ∧
 (decide (Go.bits BinOp.or IntKind.i64 (z 1 1 % (16 : Int)) (z 1 1 % (16 : Int)) = z 1 1 % (16 : Int))) = true ∧
 (decide (Go.bits BinOp.or IntKind.i64 (z 1 1 % (16 : Int)) (z 1 1 % (16 : Int)) = z 1 1 % (16 : Int))) = true ∧
 Bool.true = Bool.true) ∧ ((decide (Int.tmod (IntKind.wrap IntKind.u64 t) (3 : Int) = (1 : Int))) = false → (decide (Int.tmod (IntKind.wrap IntKind.u64 t) (3 : Int) = (2 : Int))) = true ∧
 (decide ((0 : Int) ≤ z 2 0 % (4 : Int))) = true ∧
 (decide (z 2 0 % (4 : Int) ≤ (3 : Int))) = true ∧
 (decide ((0 : Int) ≤ z 2 1 % (16 : Int))) = true ∧
 (decide (z 2 1 % (16 : Int) ≤ (15 : Int))) = true ∧
 (decide ((0 : Int) ≤ z 1 0 % (4 : Int))) = true ∧
 (decide (z 1 0 % (4 : Int) ≤ (3 : Int))) = true ∧
 (decide ((0 : Int) ≤ z 1 1 % (16 : Int))) = true ∧
 (decide (z 1 1 % (16 : Int) ≤ (15 : Int))) = true ∧
 (((decide (z 1 0 % (4 : Int) ≤ z 2 0 % (4 : Int))) = true → (((!decide (Go.bits BinOp.andNot IntKind.i64 (z 1 1 % (16 : Int)) (z 2 1 % (16 : Int)) = (0 : Int))) = true → (decide (z 1 0 % (4 : Int) ≤ z 2 0 % (4 : Int))) = true ∧
 (decide (Go.bits BinOp.or IntKind.i64 (z 2 1 % (16 : Int)) (z 1 1 % (16 : Int)) = z 2 1 % (16 : Int))) = false ∧
 (decide (Go.bits BinOp.or IntKind.i64 (z 2 1 % (16 : Int)) (z 1 1 % (16 : Int)) = z 2 1 % (16 : Int))) = false ∧
 (decide (Go.bits BinOp.or IntKind.i64 (z 2 1 % (16 : Int)) (z 1 1 % (16 : Int)) = z 2 1 % (16 : Int))) = false ∧
 (decide (Go.bits BinOp.or IntKind.i64 (z 2 1 % (16 : Int)) (z 1 1 % (16 : Int)) = z 2 1 % (16 : Int))) = false ∧
 Bool.true = Bool.true) ∧ ((!decide (Go.bits BinOp.andNot IntKind.i64 (z 1 1 % (16 : Int)) (z 2 1 % (16 : Int)) = (0 : Int))) = false → (decide (z 1 0 % (4 : Int) ≤ z 2 0 % (4 : Int))) = true ∧
 (decide (Go.bits BinOp.or IntKind.i64 (z 2 1 % (16 : Int)) (z 1 1 % (16 : Int)) = z 2 1 % (16 : Int))) = true ∧
 (decide (Go.bits BinOp.or IntKind.i64 (z 2 1 % (16 : Int)) (z 1 1 % (16 : Int)) = z 2 1 % (16 : Int))) = true ∧
 (decide (Go.bits BinOp.or IntKind.i64 (z 2 1 % (16 : Int)) (z 1 1 % (16 : Int)) = z 2 1 % (16 : Int))) = true ∧
 (decide (Go.bits BinOp.or IntKind.i64 (z 2 1 % (16 : Int)) (z 1 1 % (16 : Int)) = z 2 1 % (16 : Int))) = true ∧
 Bool.true = Bool.true))) ∧ ((decide (z 1 0 % (4 : Int) ≤ z 2 0 % (4 : Int))) = false → (decide (z 1 0 % (4 : Int) ≤ z 2 0 % (4 : Int))) = false ∧
 Bool.true = Bool.true))))))) (by kernel_rfl) ?_⟩
  repeat' (first | exact hlo | (refine And.intro ?_ ?_) | (with_reducible intro hh; (try simp (disch := omega) only [decide_eq_true_eq, decide_eq_false_iff_not, Bool.and_eq_true, Bool.and_eq_false_imp, Bool.not_eq_true', Bool.not_eq_false', reduceCtorEq, or_false, or_true, Bool.or_eq_true, Bool.or_eq_false_iff, Int.not_lt, Int.not_le, Bool.true_beq, Bool.false_beq, Bool.not_true, Bool.not_false, beq_iff_eq, beq_eq_false_iff_ne, Bool.cond_self, Bool.true_and, Bool.and_true, true_and, and_true, mask15, mask3, fdiv_nn, i64_bits, wrap_id, wrap_u64, tmod_nn, tdiv_nn, decide_true, decide_false, cond_true, cond_false, Nat.zero_add, Nat.mul_one, Int.toNat_natCast, Int.toNat_zero, Int.toNat_one, tn2, tn3, andNot_self, or_iff] at hh)))
  all_goals (first | with_reducible rfl | trivial | (first | exact Go.AE.sveq_self _ rfl | (simp only [decide_eq_true_eq, decide_eq_false_iff_not, Bool.and_eq_true, Bool.and_eq_false_imp, Bool.not_eq_true', Bool.not_eq_false', reduceCtorEq, or_false, or_true, Bool.or_eq_true, Bool.or_eq_false_iff, Int.not_lt, Int.not_le, Bool.true_beq, Bool.false_beq, Bool.not_true, Bool.not_false, beq_iff_eq, beq_eq_false_iff_ne, Bool.cond_self, Bool.true_and, Bool.and_true, true_and, and_true]; omega) | (simp (disch := omega) only [decide_eq_true_eq, decide_eq_false_iff_not, Bool.and_eq_true, Bool.and_eq_false_imp, Bool.not_eq_true', Bool.not_eq_false', reduceCtorEq, or_false, or_true, Bool.or_eq_true, Bool.or_eq_false_iff, Int.not_lt, Int.not_le, Bool.true_beq, Bool.false_beq, Bool.not_true, Bool.not_false, beq_iff_eq, beq_eq_false_iff_ne, Bool.cond_self, Bool.true_and, Bool.and_true, true_and, and_true, mask15, mask3, fdiv_nn, i64_bits, wrap_id, wrap_u64, tmod_nn, tdiv_nn, decide_true, decide_false, cond_true, cond_false, Nat.zero_add, Nat.mul_one, Int.toNat_natCast, Int.toNat_zero, Int.toNat_one, tn2, tn3, andNot_self, or_iff]; first | done | omega) | (simp (disch := omega) only [decide_eq_true_eq, decide_eq_false_iff_not, Bool.and_eq_true, Bool.and_eq_false_imp, Bool.not_eq_true', Bool.not_eq_false', reduceCtorEq, or_false, or_true, Bool.or_eq_true, Bool.or_eq_false_iff, Int.not_lt, Int.not_le, Bool.true_beq, Bool.false_beq, Bool.not_true, Bool.not_false, beq_iff_eq, beq_eq_false_iff_ne, Bool.cond_self, Bool.true_and, Bool.and_true, true_and, and_true, mask15, mask3, fdiv_nn, i64_bits, wrap_id, wrap_u64, tmod_nn, tdiv_nn, decide_true, decide_false, cond_true, cond_false, Nat.zero_add, Nat.mul_one, Int.toNat_natCast, Int.toNat_zero, Int.toNat_one, tn2, tn3, andNot_self, or_iff] at *; first | done | omega)) | (simp only [Bool.cond_self, Go.AE.eqV, Go.AE.okL, Go.AE.eqL]; done) | (rw [show i + 1 = 3 by omega]; done) | ((try simp (disch := omega) only [decide_eq_true_eq, decide_eq_false_iff_not, Bool.and_eq_true, Bool.and_eq_false_imp, Bool.not_eq_true', Bool.not_eq_false', reduceCtorEq, or_false, or_true, Bool.or_eq_true, Bool.or_eq_false_iff, Int.not_lt, Int.not_le, Bool.true_beq, Bool.false_beq, Bool.not_true, Bool.not_false, beq_iff_eq, beq_eq_false_iff_ne, Bool.cond_self, Bool.true_and, Bool.and_true, true_and, and_true, mask15, mask3, fdiv_nn, i64_bits, wrap_id, wrap_u64, tmod_nn, tdiv_nn, decide_true, decide_false, cond_true, cond_false, Nat.zero_add, Nat.mul_one, Int.toNat_natCast, Int.toNat_zero, Int.toNat_one, tn2, tn3, andNot_self, or_iff] at *) <;> (try simp only [cond_eq_ite, decide_eq_true_eq, decide_eq_false_iff_not, Bool.and_eq_true, Bool.and_eq_false_imp, Bool.not_eq_true', Bool.not_eq_false', reduceCtorEq, or_false, or_true, Bool.or_eq_true, Bool.or_eq_false_iff, Int.not_lt, Int.not_le, Bool.true_beq, Bool.false_beq, Bool.not_true, Bool.not_false, beq_iff_eq, beq_eq_false_iff_ne, Bool.cond_self, Bool.true_and, Bool.and_true, true_and, and_true]) <;> (repeat' split) <;> first | rfl | contradiction | omega | (congr 1 <;> omega) | (congr 2 <;> omega) | (rw [show i + 1 = 3 by omega]; done) | trace_state))
set_option maxHeartbeats 16000000 in
theorem main_3_false_2 (z : Nat → Nat → Int) (f t : Int) (len cap : Nat) (p : Pl) (hL : min len 4 = 3) (hlo : LO Try.prog (lp Try.prog 7 0) (TA false f t len cap 0) (SA false z len 0) (.x 0 (TA false f t len cap 3) (SA false z len 3))) (hA : f % 18446744073709551616 % 3 = 2) :
    ∃ r, callK (HS Try.prog [41, 54, 1000002] ctr) Try.prog 7 [xv false len cap, .int .i64 f, .int .i64 t] (sOf (cond false [] [(p, .fam 2 true len fun i => [.int .i64 (z i 0), .int .i64 (z i 1)])])) kTrue r := by
  refine ⟨.Z <| .L (TA Bool.false f t len cap 0) (SA Bool.false z len 0) (Go.AE.Out.x 0 (TA Bool.false f t len cap 3) (SA Bool.false z len 3)) <| .zn 7 <| .U <| .zn 3 <| .T <| .zn 3 <| .T <| .zn 3 <| .T <| .zn 3 <| .N <| .zn 3 <| .T <| .zn 3 <| .T <| .zn 3 <| .T <| .zn 3 <| .N <| .zn 3 <| .T <| .zn 3 <| .T <| .zn 3 <| .T <| .zn 3 <| .N <| .zn 3 <| .U <| .zn 22 <| .N <| .N <| .T <| .Z <| .B (.zn 38 <| .T <| .zn 3 <| .T <| .zn 3 <| .T <| .zn 3 <| .T <| .Z <| .T <| .zn 3 <| .T <| .zn 3 <| .T <| .zn 4 <| .T <| .zn 5 <| .B (.zn 6 <| .B (.zn 4 <| .T <| .zn 23 <| .N <| .U <| .zn 15 <| .N <| .zn 20 <| .N <| .zn 20 <| .N <| .zn 6 <| .E (0) []) (.zn 8 <| .T <| .zn 23 <| .T <| .U <| .zn 18 <| .T <| .zn 5 <| .U <| .zn 21 <| .T <| .zn 20 <| .T <| .zn 6 <| .E (0) [])) (.zn 11 <| .N <| .zn 18 <| .U <| .zn 64 <| .E (0) [])) (.B (.zn 38 <| .T <| .zn 3 <| .T <| .zn 3 <| .T <| .zn 3 <| .T <| .Z <| .T <| .zn 3 <| .T <| .zn 3 <| .T <| .zn 4 <| .T <| .zn 5 <| .B (.zn 6 <| .B (.zn 4 <| .T <| .zn 23 <| .N <| .U <| .zn 15 <| .N <| .zn 20 <| .N <| .zn 20 <| .N <| .zn 6 <| .E (0) []) (.zn 8 <| .T <| .zn 23 <| .T <| .U <| .zn 15 <| .T <| .zn 23 <| .T <| .zn 5 <| .U <| .zn 21 <| .T <| .zn 6 <| .E (0) [])) (.zn 11 <| .N <| .zn 18 <| .U <| .zn 64 <| .E (0) [])) (.T <| .zn 38 <| .T <| .zn 3 <| .T <| .zn 3 <| .T <| .zn 3 <| .T <| .Z <| .T <| .zn 3 <| .T <| .zn 3 <| .T <| .zn 4 <| .T <| .zn 5 <| .T <| .zn 6 <| .N <| .zn 8 <| .T <| .zn 23 <| .T <| .U <| .zn 15 <| .T <| .zn 20 <| .T <| .zn 23 <| .T <| .zn 5 <| .U <| .zn 7 <| .E (0) [])), Go.AE.kchange (b := (True) ∧
 (((0 = 0 ∧ len = len ∧ cap = cap) ∧ f = f ∧ t = t ∧ Bool.false = Bool.false ∧ True ∧ (0 : Int) = (0 : Int) ∧ True) ∧ (len = len ∧ (∀ (jj0 : Nat), (jj0 < len → True ∧ z jj0 0 = z jj0 0 ∧ z jj0 1 = z jj0 1 ∧ True))) ∧ True) ∧
 LO (Go.Proofs.Try.prog) (Go.AE.lp Go.Proofs.Try.prog 7 0) (TA Bool.false f t len cap 0) (SA Bool.false z len 0) (Go.AE.Out.x 0 (TA Bool.false f t len cap 3) (SA Bool.false z len 3)) ∧
 (decide ((0 : Int) ≤ z 0 0 % (4 : Int))) = true ∧
 (decide (z 0 0 % (4 : Int) ≤ (3 : Int))) = true ∧
 (decide ((0 : Int) ≤ z 0 1 % (16 : Int))) = true ∧
 (!decide (z 0 1 % (16 : Int) ≤ (15 : Int))) = false ∧
 (decide ((0 : Int) ≤ z 1 0 % (4 : Int))) = true ∧
 (decide (z 1 0 % (4 : Int) ≤ (3 : Int))) = true ∧
 (decide ((0 : Int) ≤ z 1 1 % (16 : Int))) = true ∧
 (!decide (z 1 1 % (16 : Int) ≤ (15 : Int))) = false ∧
 (decide ((0 : Int) ≤ z 2 0 % (4 : Int))) = true ∧
 (decide (z 2 0 % (4 : Int) ≤ (3 : Int))) = true ∧
 (decide ((0 : Int) ≤ z 2 1 % (16 : Int))) = true ∧
 (!decide (z 2 1 % (16 : Int) ≤ (15 : Int))) = false ∧
 (decide (Int.tmod (IntKind.wrap IntKind.u64 f) (3 : Int) = (0 : Int))) = false ∧
 (decide (Int.tmod (IntKind.wrap IntKind.u64 f) (3 : Int) = (1 : Int))) = false ∧
 (decide (Int.tmod (IntKind.wrap IntKind.u64 f) (3 : Int) = (2 : Int))) = true ∧
 (((decide (Int.tmod (IntKind.wrap IntKind.u64 t) (3 : Int) = (0 : Int))) = true → (decide ((0 : Int) ≤ z 0 0 % (4 : Int))) = true ∧
 (decide (z 0 0 % (4 : Int) ≤ (3 : Int))) = true ∧
 (decide ((0 : Int) ≤ z 0 1 % (16 : Int))) = true ∧
 (decide (z 0 1 % (16 : Int) ≤ (15 : Int))) = true ∧
 (decide ((0 : Int) ≤ z 2 0 % (4 : Int))) = true ∧
 (decide (z 2 0 % (4 : Int) ≤ (3 : Int))) = true ∧
 (decide ((0 : Int) ≤ z 2 1 % (16 : Int))) = true ∧
 (decide (z 2 1 % (16 : Int) ≤ (15 : Int))) = true ∧
 (((decide (z 2 0 % (4 : Int) ≤ z 0 0 % (4 : Int))) = true → (((!decide (Go.bits BinOp.andNot IntKind.i64 (z 2 1 % (16 : Int)) (z 0 1 % (16 : Int)) = (0 : Int))) = true → (decide (z 2 0 % (4 : Int) ≤ z 0 0 % (4 : Int))) = true ∧
 (decide (Go.bits BinOp.or IntKind.i64 (z 0 1 % (16 : Int)) (z 2 1 % (16 : Int)) = z 0 1 % (16 : Int))) = false ∧
 (decide (Go.bits BinOp.or IntKind.i64 (z 0 1 % (16 : Int)) (z 2 1 % (16 : Int)) = z 0 1 % (16 : Int))) = false ∧
 (decide (Go.bits BinOp.or IntKind.i64 (z 0 1 % (16 : Int)) (z 2 1 % (16 : Int)) = z 0 1 % (16 : Int))) = false ∧
 (decide (Go.bits BinOp.or IntKind.i64 (z 0 1 % (16 : Int)) (z 2 1 % (16 : Int)) = z 0 1 % (16 : Int))) = false ∧
 Bool.true = Bool.true) ∧ ((!decide (Go.bits BinOp.andNot IntKind.i64 (z 2 1 % (16 : Int)) (z 0 1 % (16 : Int)) = (0 : Int))) = false → (decide (z 2 0 % (4 : Int) ≤ z 0 0 % (4 : Int))) = true ∧
 (decide (Go.bits BinOp.or IntKind.i64 (z 0 1 % (16 : Int)) (z 2 1 % (16 : Int)) = z 0 1 % (16 : Int))) = true ∧
 (decide (Go.bits BinOp.or IntKind.i64 (z 0 1 % (16 : Int)) (z 2 1 % (16 : Int)) = z 0 1 % (16 : Int))) = true ∧
 (decide (Go.bits BinOp.or IntKind.i64 (z 0 1 % (16 : Int)) (z 2 1 % (16 : Int)) = z 0 1 % (16 : Int))) = true ∧
 (decide (Go.bits BinOp.or IntKind.i64 (z 0 1 % (16 : Int)) (z 2 1 % (16 : Int)) = z 0 1 % (16 : Int))) = true ∧
 Bool.true = Bool.true))) ∧ ((decide (z 2 0 % (4 : Int) ≤ z 0 0 % (4 : Int))) = false → (decide (z 2 0 % (4 : Int) ≤ z 0 0 % (4 : Int))) = false ∧
 Bool.true = Bool.true))) ∧ ((decide (Int.tmod (IntKind.wrap IntKind.u64 t) (3 : Int) = (0 : Int))) = false → (((decide (Int.tmod (IntKind.wrap IntKind.u64 t) (3 : Int) = (1 : Int))) = true → (decide ((0 : Int) ≤ z 1 0 % (4 : Int))) = true ∧
 (decide (z 1 0 % (4 : Int) ≤ (3 : Int))) = true ∧
 (decide ((0 : Int) ≤ z 1 1 % (16 : Int))) = true ∧
 (decide (z 1 1 % (16 : Int) ≤ (15 : Int))) = true ∧
 (decide ((0 : Int) ≤ z 2 0 % (4 : Int))) = true ∧
 (decide (z 2 0 % (4 : Int) ≤ (3 : Int))) = true ∧
 (decide ((0 : Int) ≤ z 2 1 % (16 : Int))) = true ∧
 (decide (z 2 1 % (16 : Int) ≤ (15 : Int))) = true ∧
 (((decide (z 2 0 % (4 : Int) ≤ z 1 0 % (4 : Int))) = true → (((!decide (Go.bits BinOp.andNot IntKind.i64 (z 2 1 % (16 : Int)) (z 1 1 % (16 : Int)) = (0 : Int))) = true → (decide (z 2 0 % (4 : Int) ≤ z 1 0 % (4 : Int))) = true ∧
 (decide (Go.bits BinOp.or IntKind.i64 (z 1 1 % (16 : Int)) (z 2 1 % (16 : Int)) = z 1 1 % (16 : Int))) = false ∧
 (decide (Go.bits BinOp.or IntKind.i64 (z 1 1 % (16 : Int)) (z 2 1 % (16 : Int)) = z 1 1 % (16 : Int))) = false ∧
 (decide (Go.bits BinOp.or IntKind.i64 (z 1 1 % (16 : Int)) (z 2 1 % (16 : Int)) = z 1 1 % (16 : Int))) = false ∧
 (decide (Go.bits BinOp.or IntKind.i64 (z 1 1 % (16 : Int)) (z 2 1 % (16 : Int)) = z 1 1 % (16 : Int))) = false ∧
 Bool.true = Bool.true) ∧ ((!decide (Go.bits BinOp.andNot IntKind.i64 (z 2 1 % (16 : Int)) (z 1 1 % (16 : Int)) = (0 : Int))) = false → (decide (z 2 0 % (4 : Int) ≤ z 1 0 % (4 : Int))) = true ∧
 (decide (Go.bits BinOp.or IntKind.i64 (z 1 1 % (16 : Int)) (z 2 1 % (16 : Int)) = z 1 1 % (16 : Int))) = true ∧
 (decide (Go.bits BinOp.or IntKind.i64 (z 1 1 % (16 : Int)) (z 2 1 % (16 : Int)) = z 1 1 % (16 : Int))) = true ∧
 (decide (Go.bits BinOp.or IntKind.i64 (z 1 1 % (16 : Int)) (z 2 1 % (16 : Int)) = z 1 1 % (16 : Int))) = true ∧
 (decide (Go.bits BinOp.or IntKind.i64 (z 1 1 % (16 : Int)) (z 2 1 % (16 : Int)) = z 1 1 % (16 : Int))) = true ∧
 Bool.true = Bool.true))) ∧ ((decide (z 2 0 % (4 : Int) ≤ z 1 0 % (4 : Int))) = false → (decide (z 2 0 % (4 : Int) ≤ z 1 0 % (4 : Int))) = false ∧
 Bool.true = Bool.true))) ∧ ((decide (Int.tmod (IntKind.wrap IntKind.u64 t) (3 : Int) = (1 : Int))) = false → (decide (Int.tmod (IntKind.wrap IntKind.u64 t) (3 : Int) = (2 : Int))) = true ∧
 (decide ((0 : Int) ≤ z 2 0 % (4 : Int))) = true ∧
 (decide (z 2 0 % (4 : Int) ≤ (3 : Int))) = true ∧
 (decide ((0 : Int) ≤ z 2 1 % (16 : Int))) = true ∧
 (decide (z 2 1 % (16 : Int) ≤ (15 : Int))) = true ∧
 (decide ((0 : Int) ≤ z 2 0 % (4 : Int))) = true ∧
 (decide (z 2 0 % (4 : Int) ≤ (3 : Int))) = true ∧
 (decide ((0 : Int) ≤ z 2 1 % (16 : Int))) = true ∧
 (decide (z 2 1 % (16 : Int) ≤ (15 : Int))) = true ∧
 (decide (z 2 0 % (4 : Int) ≤ z 2 0 % (4 : Int))) = true ∧
 (!decide (Go.bits BinOp.andNot IntKind.i64 (z 2 1 % (16 : Int)) (z 2 1 % (16 : Int)) = (0 : Int))) = false ∧
 (decide (z 2 0 % (4 : Int) ≤ z 2 0 % (4 : Int))) = true ∧
 (decide (Go.bits BinOp.or IntKind.i64 (z 2 1 % (16 : Int)) (z 2 1 % (16 : Int)) = z 2 1 % (16 : Int))) = true ∧
 (decide (Go.bits BinOp.or IntKind.i64 (z 2 1 % (16 : Int)) (z 2 1 % (16 : Int)) = z 2 1 % (16 : Int))) = true ∧
 (decide (Go.bits BinOp.or IntKind.i64 (z 2 1 % (16 : Int)) (z 2 1 % (16 : Int)) = z 2 1 % (16 : Int))) = true ∧
 (decide (Go.bits BinOp.or IntKind.i64 (z 2 1 % (16 : Int)) (z 2 1 % (16 : Int)) = z 2 1 % (16 : Int))) = true ∧
 Bool.true = Bool.true))))) (by kernel_rfl) ?_⟩
  repeat' (first | exact hlo | (refine And.intro ?_ ?_) | (with_reducible intro hh; (try simp (disch := omega) only [decide_eq_true_eq, decide_eq_false_iff_not, Bool.and_eq_true, Bool.and_eq_false_imp, Bool.not_eq_true', Bool.not_eq_false', reduceCtorEq, or_false, or_true, Bool.or_eq_true, Bool.or_eq_false_iff, Int.not_lt, Int.not_le, Bool.true_beq, Bool.false_beq, Bool.not_true, Bool.not_false, beq_iff_eq, beq_eq_false_iff_ne, Bool.cond_self, Bool.true_and, Bool.and_true, true_and, and_true, mask15, mask3, fdiv_nn, i64_bits, wrap_id, wrap_u64, tmod_nn, tdiv_nn, decide_true, decide_false, cond_true, cond_false, Nat.zero_add, Nat.mul_one, Int.toNat_natCast, Int.toNat_zero, Int.toNat_one, tn2, tn3, andNot_self, or_iff] at hh)))
  all_goals (first | with_reducible rfl | trivial | (first | exact Go.AE.sveq_self _ rfl | (simp only [decide_eq_true_eq, decide_eq_false_iff_not, Bool.and_eq_true, Bool.and_eq_false_imp, Bool.not_eq_true', Bool.not_eq_false', reduceCtorEq, or_false, or_true, Bool.or_eq_true, Bool.or_eq_false_iff, Int.not_lt, Int.not_le, Bool.true_beq, Bool.false_beq, Bool.not_true, Bool.not_false, beq_iff_eq, beq_eq_false_iff_ne, Bool.cond_self, Bool.true_and, Bool.and_true, true_and, and_true]; omega) | (simp (disch := omega) only [decide_eq_true_eq, decide_eq_false_iff_not, Bool.and_eq_true, Bool.and_eq_false_imp, Bool.not_eq_true', Bool.not_eq_false', reduceCtorEq, or_false, or_true, Bool.or_eq_true, Bool.or_eq_false_iff, Int.not_lt, Int.not_le, Bool.true_beq, Bool.false_beq, Bool.not_true, Bool.not_false, beq_iff_eq, beq_eq_false_iff_ne, Bool.cond_self, Bool.true_and, Bool.and_true, true_and, and_true, mask15, mask3, fdiv_nn, i64_bits, wrap_id, wrap_u64, tmod_nn, tdiv_nn, decide_true, decide_false, cond_true, cond_false, Nat.zero_add, Nat.mul_one, Int.toNat_natCast, Int.toNat_zero, Int.toNat_one, tn2, tn3, andNot_self, or_iff]; first | done | omega) | (simp (disch := omega) only [decide_eq_true_eq, decide_eq_false_iff_not, Bool.and_eq_true, Bool.and_eq_false_imp, Bool.not_eq_true', Bool.not_eq_false', reduceCtorEq, or_false, or_true, Bool.or_eq_true, Bool.or_eq_false_iff, Int.not_lt, Int.not_le, Bool.true_beq, Bool.false_beq, Bool.not_true, Bool.not_false, beq_iff_eq, beq_eq_false_iff_ne, Bool.cond_self, Bool.true_and, Bool.and_true, true_and, and_true, mask15, mask3, fdiv_nn, i64_bits, wrap_id, wrap_u64, tmod_nn, tdiv_nn, decide_true, decide_false, cond_true, cond_false, Nat.zero_add, Nat.mul_one, Int.toNat_natCast, Int.toNat_zero, Int.toNat_one, tn2, tn3, andNot_self, or_iff] at *; first | done | omega)) | (simp only [Bool.cond_self, Go.AE.eqV, Go.AE.okL, Go.AE.eqL]; done) | (rw [show i + 1 = 3 by omega]; done) | ((try simp (disch := omega) only [decide_eq_true_eq, decide_eq_false_iff_not, Bool.and_eq_true, Bool.and_eq_false_imp, Bool.not_eq_true', Bool.not_eq_false', reduceCtorEq, or_false, or_true, Bool.or_eq_true, Bool.or_eq_false_iff, Int.not_lt, Int.not_le, Bool.true_beq, Bool.false_beq, Bool.not_true, Bool.not_false, beq_iff_eq, beq_eq_false_iff_ne, Bool.cond_self, Bool.true_and, Bool.and_true, true_and, and_true, mask15, mask3, fdiv_nn, i64_bits, wrap_id, wrap_u64, tmod_nn, tdiv_nn, decide_true, decide_false, cond_true, cond_false, Nat.zero_add, Nat.mul_one, Int.toNat_natCast, Int.toNat_zero, Int.toNat_one, tn2, tn3, andNot_self, or_iff] at *) <;> (try simp only [cond_eq_ite, decide_eq_true_eq, decide_eq_false_iff_not, Bool.and_eq_true, Bool.and_eq_false_imp, Bool.not_eq_true', Bool.not_eq_false', reduceCtorEq, or_false, or_true, Bool.or_eq_true, Bool.or_eq_false_iff, Int.not_lt, Int.not_le, Bool.true_beq, Bool.false_beq, Bool.not_true, Bool.not_false, beq_iff_eq, beq_eq_false_iff_ne, Bool.cond_self, Bool.true_and, Bool.and_true, true_and, and_true]) <;> (repeat' split) <;> first | rfl | contradiction | omega | (congr 1 <;> omega) | (congr 2 <;> omega) | (rw [show i + 1 = 3 by omega]; done) | trace_state))
end Go.Proofs.Ytkekeomkbcghnaa.nicLattice