/- The walk of caissonlaw20.NicLattice: for every list of labels and every two numbers it answers true. No condition. -/
import Derived.Test.YtkekeomkbcghnaaNicLattice4
import Derived.Test.YtkekeomkbcghnaaProg
namespace Go.Proofs.Ytkekeomkbcghnaa.nicLattice
open Go Go.Proofs Go.AE Go.RowKit
set_option maxRecDepth 100000
set_option linter.unusedVariables false
set_option linter.unusedSimpArgs false
set_option maxHeartbeats 16000000 in
theorem main_4_false_2 (z : Nat → Nat → Int) (f t : Int) (len cap : Nat) (p : Pl) (hL : min len 4 = 4) (hlo : LO Try.prog (lp Try.prog 7 0) (TA false f t len cap 0) (SA false z len 0) (.x 0 (TA false f t len cap 4) (SA false z len 4))) (hA : f % 18446744073709551616 % 4 = 2) :
    ∃ r, callK (HS Try.prog [41, 54, 1000002] ctr) Try.prog 7 [xv false len cap, .int .i64 f, .int .i64 t] (sOf (cond false [] [(p, .fam 2 true len fun i => [.int .i64 (z i 0), .int .i64 (z i 1)])])) kTrue r := by
  refine ⟨.Z <| .L (TA Bool.false f t len cap 0) (SA Bool.false z len 0) (Go.AE.Out.x 0 (TA Bool.false f t len cap 4) (SA Bool.false z len 4)) <| .zn 7 <| .U <| .zn 3 <| .T <| .zn 3 <| .T <| .zn 3 <| .T <| .zn 3 <| .N <| .zn 3 <| .T <| .zn 3 <| .T <| .zn 3 <| .T <| .zn 3 <| .N <| .zn 3 <| .T <| .zn 3 <| .T <| .zn 3 <| .T <| .zn 3 <| .N <| .zn 3 <| .T <| .zn 3 <| .T <| .zn 3 <| .T <| .zn 3 <| .N <| .zn 3 <| .U <| .zn 27 <| .N <| .N <| .T <| .Z <| .B (.zn 38 <| .T <| .zn 3 <| .T <| .zn 3 <| .T <| .zn 3 <| .T <| .Z <| .T <| .zn 3 <| .T <| .zn 3 <| .T <| .zn 4 <| .T <| .zn 5 <| .B (.zn 6 <| .B (.zn 4 <| .T <| .zn 23 <| .N <| .U <| .zn 15 <| .N <| .zn 20 <| .N <| .zn 20 <| .N <| .zn 20 <| .N <| .zn 6 <| .E (0) []) (.zn 8 <| .T <| .zn 23 <| .T <| .U <| .zn 18 <| .T <| .zn 5 <| .U <| .zn 21 <| .T <| .zn 20 <| .T <| .zn 20 <| .T <| .zn 6 <| .E (0) [])) (.zn 11 <| .N <| .zn 18 <| .U <| .zn 85 <| .E (0) [])) (.B (.zn 38 <| .T <| .zn 3 <| .T <| .zn 3 <| .T <| .zn 3 <| .T <| .Z <| .T <| .zn 3 <| .T <| .zn 3 <| .T <| .zn 4 <| .T <| .zn 5 <| .B (.zn 6 <| .B (.zn 4 <| .T <| .zn 23 <| .N <| .U <| .zn 15 <| .N <| .zn 20 <| .N <| .zn 20 <| .N <| .zn 20 <| .N <| .zn 6 <| .E (0) []) (.zn 8 <| .T <| .zn 23 <| .T <| .U <| .zn 15 <| .T <| .zn 23 <| .T <| .zn 5 <| .U <| .zn 21 <| .T <| .zn 20 <| .T <| .zn 6 <| .E (0) [])) (.zn 11 <| .N <| .zn 18 <| .U <| .zn 85 <| .E (0) [])) (.B (.zn 38 <| .T <| .zn 3 <| .T <| .zn 3 <| .T <| .zn 3 <| .T <| .Z <| .T <| .zn 3 <| .T <| .zn 3 <| .T <| .zn 4 <| .T <| .zn 5 <| .T <| .zn 6 <| .N <| .zn 8 <| .T <| .zn 23 <| .T <| .U <| .zn 15 <| .T <| .zn 20 <| .T <| .zn 23 <| .T <| .zn 5 <| .U <| .zn 21 <| .T <| .zn 6 <| .E (0) []) (.T <| .zn 38 <| .T <| .zn 3 <| .T <| .zn 3 <| .T <| .zn 3 <| .T <| .Z <| .T <| .zn 3 <| .T <| .zn 3 <| .T <| .zn 4 <| .T <| .zn 5 <| .B (.zn 6 <| .B (.zn 4 <| .T <| .zn 23 <| .N <| .U <| .zn 15 <| .N <| .zn 20 <| .N <| .zn 20 <| .N <| .zn 20 <| .N <| .zn 6 <| .E (0) []) (.zn 8 <| .T <| .zn 23 <| .T <| .U <| .zn 15 <| .T <| .zn 20 <| .T <| .zn 20 <| .T <| .zn 23 <| .T <| .zn 5 <| .U <| .zn 7 <| .E (0) [])) (.zn 11 <| .N <| .zn 18 <| .U <| .zn 85 <| .E (0) [])))), Go.AE.kchange (b := (True) ∧
 (((0 = 0 ∧ len = len ∧ cap = cap) ∧ f = f ∧ t = t ∧ Bool.false = Bool.false ∧ True ∧ (0 : Int) = (0 : Int) ∧ True) ∧ (len = len ∧ (∀ (jj0 : Nat), (jj0 < len → True ∧ z jj0 0 = z jj0 0 ∧ z jj0 1 = z jj0 1 ∧ True))) ∧ True) ∧
 LO (Go.Proofs.Try.prog) (Go.AE.lp Go.Proofs.Try.prog 7 0) (TA Bool.false f t len cap 0) (SA Bool.false z len 0) (Go.AE.Out.x 0 (TA Bool.false f t len cap 4) (SA Bool.false z len 4)) ∧
 (decide ((0 : Int) ≤ z 0 0 % (4 : Int))) = true ∧
 (decide (z 0 0 % (4 : Int) ≤ (3 : Int))) = true ∧
 (decide ((0 : Int) ≤ z 0 1 % (16 : Int))) = true ∧
 (!decide (z 0 1 % (16 : Int) ≤ (15 : Int))) = false ∧
 (decide ((0 : Int) ≤ z 1 0 % (4 : Int))) = true ∧
 (decide (z 1 0 % (4 : Int) ≤ (3 : Int))) = true ∧
 (decide ((0 : Int) ≤ z 1 1 % (16 : Int))) = true ∧
 (!decide (z 1 1 % (16 : Int) ≤ (15 : Int))) = false ∧
 (decide ((0 : Int) ≤ z 2 0 % (4 : Int))) = true ∧
 (decide (z 2 0 % (4 : Int) ≤ (3 : Int))) = true ∧
 (decide ((0 : Int) ≤ z 2 1 % (16 : Int))) = true ∧
 (!decide (z 2 1 % (16 : Int) ≤ (15 : Int))) = false ∧
 (decide ((0 : Int) ≤ z 3 0 % (4 : Int))) = true ∧
 (decide (z 3 0 % (4 : Int) ≤ (3 : Int))) = true ∧
 (decide ((0 : Int) ≤ z 3 1 % (16 : Int))) = true ∧
 (!decide (z 3 1 % (16 : Int) ≤ (15 : Int))) = false ∧
 (decide (Int.tmod (IntKind.wrap IntKind.u64 f) (4 : Int) = (0 : Int))) = false ∧
 (decide (Int.tmod (IntKind.wrap IntKind.u64 f) (4 : Int) = (1 : Int))) = false ∧
 (decide (Int.tmod (IntKind.wrap IntKind.u64 f) (4 : Int) = (2 : Int))) = true ∧
 (((decide (Int.tmod (IntKind.wrap IntKind.u64 t) (4 : Int) = (0 : Int))) = true → (decide ((0 : Int) ≤ z 0 0 % (4 : Int))) = true ∧
 (decide (z 0 0 % (4 : Int) ≤ (3 : Int))) = true ∧
 (decide ((0 : Int) ≤ z 0 1 % (16 : Int))) = true ∧
 (decide (z 0 1 % (16 : Int) ≤ (15 : Int))) = true ∧
 (decide ((0 : Int) ≤ z 2 0 % (4 : Int))) = true ∧
 (decide (z 2 0 % (4 : Int) ≤ (3 : Int))) = true ∧
 (decide ((0 : Int) ≤ z 2 1 % (16 : Int))) = true ∧
 (decide (z 2 1 % (16 : Int) ≤ (15 : Int))) = true ∧
 (((decide (z 2 0 % (4 : Int) ≤ z 0 0 % (4 : Int))) = true → (((!decide (Go.bits BinOp.andNot IntKind.i64 (z 2 1 % (16 : Int)) (z 0 1 % (16 : Int)) = (0 : Int))) = true → (decide (z 2 0 % (4 : Int) ≤ z 0 0 % (4 : Int))) = true ∧
 (decide (Go.bits BinOp.or IntKind.i64 (z 0 1 % (16 : Int)) (z 2 1 % (16 : Int)) = z 0 1 % (16 : Int))) = false ∧
 (decide (Go.bits BinOp.or IntKind.i64 (z 0 1 % (16 : Int)) (z 2 1 % (16 : Int)) = z 0 1 % (16 : Int))) = false ∧
 (decide (Go.bits BinOp.or IntKind.i64 (z 0 1 % (16 : Int)) (z 2 1 % (16 : Int)) = z 0 1 % (16 : Int))) = false ∧
 (decide (Go.bits BinOp.or IntKind.i64 (z 0 1 % (16 : Int)) (z 2 1 % (16 : Int)) = z 0 1 % (16 : Int))) = false ∧
 (decide (Go.bits BinOp.or IntKind.i64 (z 0 1 % (16 : Int)) (z 2 1 % (16 : Int)) = z 0 1 % (16 : Int))) = false ∧
 Bool.true = Bool.true) ∧ ((!decide (Go.bits BinOp.andNot IntKind.i64 (z 2 1 % (16 : Int)) (z 0 1 % (16 : Int)) = (0 : Int))) = false → (decide (z 2 0 % (4 : Int) ≤ z 0 0 % (4 : Int))) = true ∧
 (decide (Go.bits BinOp.or IntKind.i64 (z 0 1 % (16 : Int)) (z 2 1 % (16 : Int)) = z 0 1 % (16 : Int))) = true ∧
 (decide (Go.bits BinOp.or IntKind.i64 (z 0 1 % (16 : Int)) (z 2 1 % (16 : Int)) = z 0 1 % (16 : Int))) = true ∧
 (decide (Go.bits BinOp.or IntKind.i64 (z 0 1 % (16 : Int)) (z 2 1 % (16 : Int)) = z 0 1 % (16 : Int))) = true ∧
 (decide (Go.bits BinOp.or IntKind.i64 (z 0 1 % (16 : Int)) (z 2 1 % (16 : Int)) = z 0 1 % (16 : Int))) = true ∧
 (decide (Go.bits BinOp.or IntKind.i64 (z 0 1 % (16 : Int)) (z 2 1 % (16 : Int)) = z 0 1 % (16 : Int))) = true ∧
 Bool.true = Bool.true))) ∧ ((decide (z 2 0 % (4 : Int) ≤ z 0 0 % (4 : Int))) = false → (decide (z 2 0 % (4 : Int) ≤ z 0 0 % (4 : Int))) = false ∧
 Bool.true = Bool.true))) ∧ ((decide (Int.tmod (IntKind.wrap IntKind.u64 t) (4 : Int) = (0 : Int))) = false → (((decide (Int.tmod (IntKind.wrap IntKind.u64 t) (4 : Int) = (1 : Int))) = true → (decide ((0 : Int) ≤ z 1 0 % (4 : Int))) = true ∧
 (decide (z 1 0 % (4 : Int) ≤ (3 : Int))) = true ∧
 (decide ((0 : Int) ≤ z 1 1 % (16 : Int))) = true ∧
 (decide (z 1 1 % (16 : Int) ≤ (15 : Int))) = true ∧
 (decide ((0 : Int) ≤ z 2 0 % (4 : Int))) = true ∧
 (decide (z 2 0 % (4 : Int) ≤ (3 : Int))) = true ∧
 (decide ((0 : Int) ≤ z 2 1 % (16 : Int))) = true ∧
 (decide (z 2 1 % (16 : Int) ≤ (15 : Int))) = true ∧
 (((decide (z 2 0 % (4 : Int) ≤ z 1 0 % (4 : Int))) = true → (((!decide (Go.bits BinOp.andNot IntKind.i64 (z 2 1 % (16 : Int)) (z 1 1 % (16 : Int)) = (0 : Int))) = true → (decide (z 2 0 % (4 : Int) ≤ z 1 0 % (4 : Int))) = true ∧
 (decide (Go.bits BinOp.or IntKind.i64 (z 1 1 % (16 : Int)) (z 2 1 % (16 : Int)) = z 1 1 % (16 : Int))) = false ∧
 (decide (Go.bits BinOp.or IntKind.i64 (z 1 1 % (16 : Int)) (z 2 1 % (16 : Int)) = z 1 1 % (16 : Int))) = false ∧
 (decide (Go.bits BinOp.or IntKind.i64 (z 1 1 % (16 : Int)) (z 2 1 % (16 : Int)) = z 1 1 % (16 : Int))) = false ∧
 (decide (Go.bits BinOp.or IntKind.i64 (z 1 1 % (16 : Int)) (z 2 1 % (16 : Int)) = z 1 1 % (16 : Int))) = false ∧
 (decide (Go.bits BinOp.or IntKind.i64 (z 1 1 % (16 : Int)) (z 2 1 % (16 : Int)) = z 1 1 % (16 : Int))) = false ∧
 Bool.true = Bool.true) ∧ ((!decide (Go.bits BinOp.andNot IntKind.i64 (z 2 1 % (16 : Int)) (z 1 1 % (16 : Int)) = (0 : Int))) = false → (decide (z 2 0 % (4 : Int) ≤ z 1 0 % (4 : Int))) = true ∧
 (decide (Go.bits BinOp.or IntKind.i64 (z 1 1 % (16 : Int)) (z 2 1 % (16 : Int)) = z 1 1 % (16 : Int))) = true ∧
 (decide (Go.bits BinOp.or IntKind.i64 (z 1 1 % (16 : Int)) (z 2 1 % (16 : Int)) = z 1 1 % (16 : Int))) = true ∧
 (decide (Go.bits BinOp.or IntKind.i64 (z 1 1 % (16 : Int)) (z 2 1 % (16 : Int)) = z 1 1 % (16 : Int))) = true ∧
 (decide (Go.bits BinOp.or IntKind.i64 (z 1 1 % (16 : Int)) (z 2 1 % (16 : Int)) = z 1 1 % (16 : Int))) = true ∧
 (decide (Go.bits BinOp.or IntKind.i64 (z 1 1 % (16 : Int)) (z 2 1 % (16 : Int)) = z 1 1 % (16 : Int))) = true ∧
 Bool.true = Bool.true))) ∧ ((decide (z 2 0 % (4 : Int) ≤ z 1 0 % (4 : Int))) = false → (decide (z 2 0 % (4 : Int) ≤ z 1 0 % (4 : Int))) = false ∧
 Bool.true = Bool.true))) ∧ ((decide (Int.tmod (IntKind.wrap IntKind.u64 t) (4 : Int) = (1 : Int))) = false → (((decide (Int.tmod (IntKind.wrap IntKind.u64 t) (4 : Int) = (2 : Int))) = true → (decide ((0 : Int) ≤ z 2 0 % (4 : Int))) = true ∧
 (decide (z 2 0 % (4 : Int) ≤ (3 : Int))) = true ∧
 (decide ((0 : Int) ≤ z 2 1 % (16 : Int))) = true ∧
 (decide (z 2 1 % (16 : Int) ≤ (15 : Int))) = true ∧
 (decide ((0 : Int) ≤ z 2 0 % (4 : Int))) = true ∧
 (decide (z 2 0 % (4 : Int) ≤ (3 : Int))) = true ∧
 (decide ((0 : Int) ≤ z 2 1 % (16 : Int))) = true ∧
 (decide (z 2 1 % (16 : Int) ≤ (15 : Int))) = true ∧
 (decide (z 2 0 % (4 : Int) ≤ z 2 0 % (4 : Int))) = true ∧
 (!decide (Go.bits BinOp.andNot IntKind.i64 (z 2 1 % (16 : Int)) (z 2 1 % (16 : Int)) = (0 : Int))) = false ∧
 (decide (z 2 0 % (4 : Int) ≤ z 2 0 % (4 : Int))) = true ∧
 (decide (Go.bits BinOp.or IntKind.i64 (z 2 1 % (16 : Int)) (z 2 1 % (16 : Int)) = z 2 1 % (16 : Int))) = true ∧
 (decide (Go.bits BinOp.or IntKind.i64 (z 2 1 % (16 : Int)) (z 2 1 % (16 : Int)) = z 2 1 % (16 : Int))) = true ∧
 (decide (Go.bits BinOp.or IntKind.i64 (z 2 1 % (16 : Int)) (z 2 1 % (16 : Int)) = z 2 1 % (16 : Int))) = true ∧
 (decide (Go.bits BinOp.or IntKind.i64 (z 2 1 % (16 : Int)) (z 2 1 % (16 : Int)) = z 2 1 % (16 : Int))) = true ∧
 (decide (Go.bits BinOp.or IntKind.i64 (z 2 1 % (16 : Int)) (z 2 1 % (16 : Int)) = z 2 1 % (16 : Int))) = true ∧
 Bool.true = Bool.true) ∧ ((decide (Int.tmod (IntKind.wrap IntKind.u64 t) (4 : Int) = (2 : Int))) = false → (decide (Int.tmod (IntKind.wrap IntKind.u64 t) (4 : Int) = (3 : Int))) = true ∧
 (decide ((0 : Int) ≤ z 3 0 % (4 : Int))) = true ∧
 (decide (z 3 0 % (4 : Int) ≤ (3 : Int))) = true ∧
 (decide ((0 : Int) ≤ z 3 1 % (16 : Int))) = true ∧
 (decide (z 3 1 % (16 : Int) ≤ (15 : Int))) = true ∧
 (decide ((0 : Int) ≤ z 2 0 % (4 : Int))) = true ∧
 (decide (z 2 0 % (4 : Int) ≤ (3 : Int))) = true ∧
 (decide ((0 : Int) ≤ z 2 1 % (16 : Int))) = true ∧
 (decide (z 2 1 % (16 : Int) ≤ (15 : Int))) = true ∧
 (((decide (z 2 0 % (4 : Int) ≤ z 3 0 % (4 : Int))) = true → (((!decide (Go.bits BinOp.andNot IntKind.i64 (z 2 1 % (16 : Int)) (z 3 1 % (16 : Int)) = (0 : Int))) = true → (decide (z 2 0 % (4 : Int) ≤ z 3 0 % (4 : Int))) = true ∧
 (decide (Go.bits BinOp.or IntKind.i64 (z 3 1 % (16 : Int)) (z 2 1 % (16 : Int)) = z 3 1 % (16 : Int))) = false ∧
 (decide (Go.bits BinOp.or IntKind.i64 (z 3 1 % (16 : Int)) (z 2 1 % (16 : Int)) = z 3 1 % (16 : Int))) = false ∧
 (decide (Go.bits BinOp.or IntKind.i64 (z 3 1 % (16 : Int)) (z 2 1 % (16 : Int)) = z 3 1 % (16 : Int))) = false ∧
 (decide (Go.bits BinOp.or IntKind.i64 (z 3 1 % (16 : Int)) (z 2 1 % (16 : Int)) = z 3 1 % (16 : Int))) = false ∧
 (decide (Go.bits BinOp.or IntKind.i64 (z 3 1 % (16 : Int)) (z 2 1 % (16 : Int)) = z 3 1 % (16 : Int))) = false ∧
 Bool.true = Bool.true) ∧ ((!decide (Go.bits BinOp.andNot IntKind.i64 (z 2 1 % (16 : Int)) (z 3 1 % (16 : Int)) = (0 : Int))) = false → (decide (z 2 0 % (4 : Int) ≤ z 3 0 % (4 : Int))) = true ∧
 (decide (Go.bits BinOp.or IntKind.i64 (z 3 1 % (16 : Int)) (z 2 1 % (16 : Int)) = z 3 1 % (16 : Int))) = true ∧
 (decide (Go.bits BinOp.or IntKind.i64 (z 3 1 % (16 : Int)) (z 2 1 % (16 : Int)) = z 3 1 % (16 : Int))) = true ∧
 (decide (Go.bits BinOp.or IntKind.i64 (z 3 1 % (16 : Int)) (z 2 1 % (16 : Int)) = z 3 1 % (16 : Int))) = true ∧
 (decide (Go.bits BinOp.or IntKind.i64 (z 3 1 % (16 : Int)) (z 2 1 % (16 : Int)) = z 3 1 % (16 : Int))) = true ∧
 (decide (Go.bits BinOp.or IntKind.i64 (z 3 1 % (16 : Int)) (z 2 1 % (16 : Int)) = z 3 1 % (16 : Int))) = true ∧
 Bool.true = Bool.true))) ∧ ((decide (z 2 0 % (4 : Int) ≤ z 3 0 % (4 : Int))) = false → (decide (z 2 0 % (4 : Int) ≤ z 3 0 % (4 : Int))) = false ∧
 Bool.true = Bool.true))))))))) (by kernel_rfl) ?_⟩
  repeat' (first | exact hlo | (refine And.intro ?_ ?_) | (with_reducible intro hh; (try simp (disch := omega) only [decide_eq_true_eq, decide_eq_false_iff_not, Bool.and_eq_true, Bool.and_eq_false_imp, Bool.not_eq_true', Bool.not_eq_false', reduceCtorEq, or_false, or_true, Bool.or_eq_true, Bool.or_eq_false_iff, Int.not_lt, Int.not_le, Bool.true_beq, Bool.false_beq, Bool.not_true, Bool.not_false, beq_iff_eq, beq_eq_false_iff_ne, Bool.cond_self, Bool.true_and, Bool.and_true, true_and, and_true, mask15, mask3, fdiv_nn, i64_bits, wrap_id, wrap_u64, tmod_nn, tdiv_nn, decide_true, decide_false, cond_true, cond_false, Nat.zero_add, Nat.mul_one, Int.toNat_natCast, Int.toNat_zero, Int.toNat_one, tn2, tn3, andNot_self, or_iff] at hh)))
  all_goals (first | with_reducible rfl | trivial | (first | exact Go.AE.sveq_self _ rfl | (simp only [decide_eq_true_eq, decide_eq_false_iff_not, Bool.and_eq_true, Bool.and_eq_false_imp, Bool.not_eq_true', Bool.not_eq_false', reduceCtorEq, or_false, or_true, Bool.or_eq_true, Bool.or_eq_false_iff, Int.not_lt, Int.not_le, Bool.true_beq, Bool.false_beq, Bool.not_true, Bool.not_false, beq_iff_eq, beq_eq_false_iff_ne, Bool.cond_self, Bool.true_and, Bool.and_true, true_and, and_true]; omega) | (simp (disch := omega) only [decide_eq_true_eq, decide_eq_false_iff_not, Bool.and_eq_true, Bool.and_eq_false_imp, Bool.not_eq_true', Bool.not_eq_false', reduceCtorEq, or_false, or_true, Bool.or_eq_true, Bool.or_eq_false_iff, Int.not_lt, Int.not_le, Bool.true_beq, Bool.false_beq, Bool.not_true, Bool.not_false, beq_iff_eq, beq_eq_false_iff_ne, Bool.cond_self, Bool.true_and, Bool.and_true, true_and, and_true, mask15, mask3, fdiv_nn, i64_bits, wrap_id, wrap_u64, tmod_nn, tdiv_nn, decide_true, decide_false, cond_true, cond_false, Nat.zero_add, Nat.mul_one, Int.toNat_natCast, Int.toNat_zero, Int.toNat_one, tn2, tn3, andNot_self, or_iff]; first | done | omega) | (simp (disch := omega) only [decide_eq_true_eq, decide_eq_false_iff_not, Bool.and_eq_true, Bool.and_eq_false_imp, Bool.not_eq_true', Bool.not_eq_false', reduceCtorEq, or_false, or_true, Bool.or_eq_true, Bool.or_eq_false_iff, Int.not_lt, Int.not_le, Bool.true_beq, Bool.false_beq, Bool.not_true, Bool.not_false, beq_iff_eq, beq_eq_false_iff_ne, Bool.cond_self, Bool.true_and, Bool.and_true, true_and, and_true, mask15, mask3, fdiv_nn, i64_bits, wrap_id, wrap_u64, tmod_nn, tdiv_nn, decide_true, decide_false, cond_true, cond_false, Nat.zero_add, Nat.mul_one, Int.toNat_natCast, Int.toNat_zero, Int.toNat_one, tn2, tn3, andNot_self, or_iff] at *; first | done | omega)) | (simp only [Bool.cond_self, Go.AE.eqV, Go.AE.okL, Go.AE.eqL]; done) | (rw [show i + 1 = 4 by omega]; done) | ((try simp (disch := omega) only [decide_eq_true_eq, decide_eq_false_iff_not, Bool.and_eq_true, Bool.and_eq_false_imp, Bool.not_eq_true', Bool.not_eq_false', reduceCtorEq, or_false, or_true, Bool.or_eq_true, Bool.or_eq_false_iff, Int.not_lt, Int.not_le, Bool.true_beq, Bool.false_beq, Bool.not_true, Bool.not_false, beq_iff_eq, beq_eq_false_iff_ne, Bool.cond_self, Bool.true_and, Bool.and_true, true_and, and_true, mask15, mask3, fdiv_nn, i64_bits, wrap_id, wrap_u64, tmod_nn, tdiv_nn, decide_true, decide_false, cond_true, cond_false, Nat.zero_add, Nat.mul_one, Int.toNat_natCast, Int.toNat_zero, Int.toNat_one, tn2, tn3, andNot_self, or_iff] at *) <;> (try simp only [cond_eq_ite, decide_eq_true_eq, decide_eq_false_iff_not, Bool.and_eq_true, Bool.and_eq_false_imp, Bool.not_eq_true', Bool.not_eq_false', reduceCtorEq, or_false, or_true, Bool.or_eq_true, Bool.or_eq_false_iff, Int.not_lt, Int.not_le, Bool.true_beq, Bool.false_beq, Bool.not_true, Bool.not_false, beq_iff_eq, beq_eq_false_iff_ne, Bool.cond_self, Bool.true_and, Bool.and_true, true_and, and_true]) <;> (repeat' split) <;> first | rfl | contradiction | omega | (congr 1 <;> omega) | (congr 2 <;> omega) | (rw [show i + 1 = 4 by omega]; done) | trace_state))
end Go.Proofs.Ytkekeomkbcghnaa.nicLattice