/- Package tlb: what Put answers and leaves, as Lean functions of the lines' numbers. No condition. -/
import Derived.Test.YthjopinmplcpfaaTlbC
namespace Go.Proofs.Ythjopinmplcpfaa.tl
open Go Go.Proofs Go.AE Go.RowKit
set_option maxRecDepth 100000
set_option linter.unusedVariables false
set_option linter.unusedSimpArgs false
/-! ### Put -/
def vP (d p f m : Int) : Prop := 0 ≤ d ∧ d < 4 ∧ 0 ≤ p ∧ p < 256 ∧ 1 ≤ m ∧ m ≤ 3 ∧ 0 ≤ f ∧ f < 64
instance (d p f m : Int) : Decidable (vP d p f m) := by unfold vP; exact inferInstance
/-- a line's entry is set; a line is put behind; -/
def c4 (a b c d : Nat → Int) : Nat → Nat → Int := fun j k => match k with
  | 0 => a j
  | 1 => b j
  | 2 => c j
  | 3 => d j
  | _ => 0
def zF (z : Nat → Nat → Int) (k : Nat) (f m : Int) : Nat → Nat → Int := c4 (fun j => z j 0) (fun j => z j 1) (fun j => if j = k then f else z j 2) (fun j => if j = k then m else z j 3)
def zA (z : Nat → Nat → Int) (r n : Nat) (d p f m : Int) : Nat → Nat → Int := c4 (fun j => if j = n then d else z (r + j) 0) (fun j => if j = n then p else z (r + j) 1) (fun j => if j = n then f else z (r + j) 2) (fun j => if j = n then m else z (r + j) 3)
def zC (z : Nat → Nat → Int) : Nat → Nat → Int := c4 (fun j => z j 0) (fun j => z j 1) (fun j => z j 2) (fun j => z j 3)
def qE (d p f m : Int) : Int := if vP d p f m then 0 else 600
theorem pw_f (size : Int) (z : Nat → Nat → Int) (N r n : Nat) (d p f m : Int) (hN : r + n ≤ N) (hb : n ≤ 64) (hs : 1 ≤ size ∧ size ≤ 16) (hv : vP d p f m) (g1 : fK z r n d p < n ∧ fV z r n d p = fK z r n d p) : ∃ r', callK (HS Try.prog [33] ctr0) Try.prog 11 [.ptr 0 0 0, .int .i64 d, .int .i64 p, .agg [.int .i64 f, .int .i64 m]] (SB false size z N r n) (kV (.int .i64 0) (SN size (zF z (r + fK z r n d p) f m) r n) 2) r' := by
  unfold vP at hv
  refine ⟨.Z <| .N <| .Z <| .Z <| .N <| .Z <| .T <| .zn 4 <| .N <| .Z <| .N <| .T <| .zn 3 <| .T <| .zn 3 <| .T <| .zn 5 <| .N <| .zn 3 <| .N <| .tn 3 <| .E (0) [(2, 1)], Go.AE.kchange (b := (decide (d < (0 : Int))) = false ∧
 (decide ((4 : Int) ≤ d)) = false ∧
 (decide ((0 : Int) ≤ p)) = true ∧
 (!decide (p < (256 : Int))) = false ∧
 (decide (m = (0 : Int))) = false ∧
 (decide ((1 : Int) ≤ m)) = true ∧
 (decide (m ≤ (3 : Int))) = true ∧
 (decide ((0 : Int) ≤ f)) = true ∧
 (!decide (f < (64 : Int))) = false ∧
 (decide (m = (0 : Int))) = false ∧
 (r + n ≤ N ∧ n = n ∧ R4 z = R4 (Go.AE.zOf (R4 z)) ∧ n ≤ 64) ∧
 (decide ((0 : Int) ≤ fV (Go.AE.zOf (R4 z)) r n d p)) = true ∧
 (decide ((0 : Int) ≤ fV (Go.AE.zOf (R4 z)) r n d p) && decide (fV (Go.AE.zOf (R4 z)) r n d p < (↑n : Int))) = true ∧
 (decide (r + Int.toNat (fV (Go.AE.zOf (R4 z)) r n d p) * 1 < N)) = true ∧
 ((0 : Int) = (0 : Int) ∧ True) ∧ (size = size ∧ (r = r ∧ n = n ∧ n ≤ n ∧ n ≤ n) ∧ True) ∧ (r + n ≤ N ∧ (∀ (jj0 : Nat), (jj0 < r + n → True ∧ z jj0 0 = zF z (r + fK z r n d p) f m jj0 0 ∧ z jj0 1 = zF z (r + fK z r n d p) f m jj0 1 ∧ ((bif decide (jj0 = r + Int.toNat (fV (Go.AE.zOf (R4 z)) r n d p) * 1) then f else z jj0 2) = zF z (r + fK z r n d p) f m jj0 2) ∧ ((bif decide (jj0 = r + Int.toNat (fV (Go.AE.zOf (R4 z)) r n d p) * 1) then m else z jj0 3) = zF z (r + fK z r n d p) f m jj0 3) ∧ True))) ∧ True) (by kernel_rfl) ?_⟩
  repeat' (first | (refine And.intro ?_ ?_) | (with_reducible intro hh; (try simp (disch := omega) only [decide_eq_true_eq, decide_eq_false_iff_not, Bool.and_eq_true, Bool.and_eq_false_imp, Bool.not_eq_true', Bool.not_eq_false', reduceCtorEq, or_false, or_true, Bool.or_eq_true, Bool.or_eq_false_iff, Int.not_lt, Int.not_le, beq_iff_eq, beq_eq_false_iff_ne, Nat.zero_add, Nat.mul_one, Nat.sub_zero, Int.toNat_natCast, decide_true, decide_false, cond_true, cond_false, wrap_id, fV_row] at hh)))
  all_goals (first | with_reducible rfl | trivial | (first | exact Go.AE.sveq_self _ rfl | with_reducible assumption | omega | (simp only [decide_eq_true_eq, decide_eq_false_iff_not, Bool.and_eq_true, Bool.and_eq_false_imp, Bool.not_eq_true', Bool.not_eq_false', reduceCtorEq, or_false, or_true, Bool.or_eq_true, Bool.or_eq_false_iff, Int.not_lt, Int.not_le, beq_iff_eq, beq_eq_false_iff_ne]; omega) | (simp (disch := omega) only [decide_eq_true_eq, decide_eq_false_iff_not, Bool.and_eq_true, Bool.and_eq_false_imp, Bool.not_eq_true', Bool.not_eq_false', reduceCtorEq, or_false, or_true, Bool.or_eq_true, Bool.or_eq_false_iff, Int.not_lt, Int.not_le, beq_iff_eq, beq_eq_false_iff_ne, Nat.zero_add, Nat.mul_one, Nat.sub_zero, Int.toNat_natCast, decide_true, decide_false, cond_true, cond_false, wrap_id, fV_row]; first | done | omega) | (simp (disch := omega) only [decide_eq_true_eq, decide_eq_false_iff_not, Bool.and_eq_true, Bool.and_eq_false_imp, Bool.not_eq_true', Bool.not_eq_false', reduceCtorEq, or_false, or_true, Bool.or_eq_true, Bool.or_eq_false_iff, Int.not_lt, Int.not_le, beq_iff_eq, beq_eq_false_iff_ne, Nat.zero_add, Nat.mul_one, Nat.sub_zero, Int.toNat_natCast, decide_true, decide_false, cond_true, cond_false, wrap_id, fV_row] at *; first | done | omega)) | (simp only [zF, zA, zC, c4, cond_eq_ite, decide_eq_true_eq, decide_eq_false_iff_not, Bool.and_eq_true, Bool.and_eq_false_imp, Bool.not_eq_true', Bool.not_eq_false', reduceCtorEq, or_false, or_true, Bool.or_eq_true, Bool.or_eq_false_iff, Int.not_lt, Int.not_le, beq_iff_eq, beq_eq_false_iff_ne, Nat.zero_add, Nat.mul_one, Nat.sub_zero, Int.toNat_natCast, decide_true, decide_false, cond_true, cond_false, wrap_id, fV_row]; (repeat' split) <;> first | rfl | contradiction | omega | (congr 1; omega)) | trace_state)
theorem pw_a (size : Int) (z : Nat → Nat → Int) (N r n : Nat) (d p f m : Int) (hN : r + n ≤ N) (hb : n ≤ 64) (hs : 1 ≤ size ∧ size ≤ 16) (hv : vP d p f m) (g1 : ¬ fK z r n d p < n ∧ fV z r n d p = -1) (g2 : n < size) : ∃ r', callK (HS Try.prog [33] ctr0) Try.prog 11 [.ptr 0 0 0, .int .i64 d, .int .i64 p, .agg [.int .i64 f, .int .i64 m]] (SB false size z N r n) (kV (.int .i64 0) (SN size (zA z r n d p f m) 0 (n + 1)) 2) r' := by
  unfold vP at hv
  refine ⟨.Z <| .N <| .Z <| .Z <| .N <| .Z <| .T <| .zn 4 <| .N <| .Z <| .N <| .T <| .zn 3 <| .T <| .zn 3 <| .T <| .zn 5 <| .N <| .zn 3 <| .N <| .N <| .N <| .tn 4 <| .E (0) [(2, 14)], Go.AE.kchange (b := (decide (d < (0 : Int))) = false ∧
 (decide ((4 : Int) ≤ d)) = false ∧
 (decide ((0 : Int) ≤ p)) = true ∧
 (!decide (p < (256 : Int))) = false ∧
 (decide (m = (0 : Int))) = false ∧
 (decide ((1 : Int) ≤ m)) = true ∧
 (decide (m ≤ (3 : Int))) = true ∧
 (decide ((0 : Int) ≤ f)) = true ∧
 (!decide (f < (64 : Int))) = false ∧
 (decide (m = (0 : Int))) = false ∧
 (r + n ≤ N ∧ n = n ∧ R4 z = R4 (Go.AE.zOf (R4 z)) ∧ n ≤ 64) ∧
 (decide ((0 : Int) ≤ fV (Go.AE.zOf (R4 z)) r n d p)) = false ∧
 (decide (n + 1 ≤ n)) = false ∧
 (decide ((n + 1) * 32 ≤ 140737488355328)) = true ∧
 (decide (r + n ≤ N)) = true ∧
 (decide ((0 : Int) ≤ Max.max (0 : Int) (IntKind.wrap IntKind.i64 ((↑(n + 1) : Int) - size)))) = true ∧
 (decide (Int.toNat (Max.max (0 : Int) (IntKind.wrap IntKind.i64 ((↑(n + 1) : Int) - size))) ≤ n + 1) && decide (n + 1 ≤ n + 1)) = true ∧
 ((0 : Int) = (0 : Int) ∧ True) ∧ (size = size ∧ (0 + Int.toNat (Max.max (0 : Int) (IntKind.wrap IntKind.i64 ((↑(n + 1) : Int) - size))) = 0 ∧ n + 1 - Int.toNat (Max.max (0 : Int) (IntKind.wrap IntKind.i64 ((↑(n + 1) : Int) - size))) = n + 1 ∧ n + 1 ≤ n + 1 ∧ n + 1 ≤ n + 1 - Int.toNat (Max.max (0 : Int) (IntKind.wrap IntKind.i64 ((↑(n + 1) : Int) - size)))) ∧ True) ∧ (0 + (n + 1) ≤ n + 1 ∧ (∀ (jj0 : Nat), (jj0 < 0 + (n + 1) → True ∧ ((bif decide (jj0 < n) then z (r + jj0) 0 else d) = zA z r n d p f m jj0 0) ∧ ((bif decide (jj0 < n) then z (r + jj0) 1 else p) = zA z r n d p f m jj0 1) ∧ ((bif decide (jj0 < n) then z (r + jj0) 2 else f) = zA z r n d p f m jj0 2) ∧ ((bif decide (jj0 < n) then z (r + jj0) 3 else m) = zA z r n d p f m jj0 3) ∧ True))) ∧ True) (by kernel_rfl) ?_⟩
  repeat' (first | (refine And.intro ?_ ?_) | (with_reducible intro hh; (try simp (disch := omega) only [decide_eq_true_eq, decide_eq_false_iff_not, Bool.and_eq_true, Bool.and_eq_false_imp, Bool.not_eq_true', Bool.not_eq_false', reduceCtorEq, or_false, or_true, Bool.or_eq_true, Bool.or_eq_false_iff, Int.not_lt, Int.not_le, beq_iff_eq, beq_eq_false_iff_ne, Nat.zero_add, Nat.mul_one, Nat.sub_zero, Int.toNat_natCast, decide_true, decide_false, cond_true, cond_false, wrap_id, fV_row] at hh)))
  all_goals (first | with_reducible rfl | trivial | (first | exact Go.AE.sveq_self _ rfl | with_reducible assumption | omega | (simp only [decide_eq_true_eq, decide_eq_false_iff_not, Bool.and_eq_true, Bool.and_eq_false_imp, Bool.not_eq_true', Bool.not_eq_false', reduceCtorEq, or_false, or_true, Bool.or_eq_true, Bool.or_eq_false_iff, Int.not_lt, Int.not_le, beq_iff_eq, beq_eq_false_iff_ne]; omega) | (simp (disch := omega) only [decide_eq_true_eq, decide_eq_false_iff_not, Bool.and_eq_true, Bool.and_eq_false_imp, Bool.not_eq_true', Bool.not_eq_false', reduceCtorEq, or_false, or_true, Bool.or_eq_true, Bool.or_eq_false_iff, Int.not_lt, Int.not_le, beq_iff_eq, beq_eq_false_iff_ne, Nat.zero_add, Nat.mul_one, Nat.sub_zero, Int.toNat_natCast, decide_true, decide_false, cond_true, cond_false, wrap_id, fV_row]; first | done | omega) | (simp (disch := omega) only [decide_eq_true_eq, decide_eq_false_iff_not, Bool.and_eq_true, Bool.and_eq_false_imp, Bool.not_eq_true', Bool.not_eq_false', reduceCtorEq, or_false, or_true, Bool.or_eq_true, Bool.or_eq_false_iff, Int.not_lt, Int.not_le, beq_iff_eq, beq_eq_false_iff_ne, Nat.zero_add, Nat.mul_one, Nat.sub_zero, Int.toNat_natCast, decide_true, decide_false, cond_true, cond_false, wrap_id, fV_row] at *; first | done | omega)) | (simp only [zF, zA, zC, c4, cond_eq_ite, decide_eq_true_eq, decide_eq_false_iff_not, Bool.and_eq_true, Bool.and_eq_false_imp, Bool.not_eq_true', Bool.not_eq_false', reduceCtorEq, or_false, or_true, Bool.or_eq_true, Bool.or_eq_false_iff, Int.not_lt, Int.not_le, beq_iff_eq, beq_eq_false_iff_ne, Nat.zero_add, Nat.mul_one, Nat.sub_zero, Int.toNat_natCast, decide_true, decide_false, cond_true, cond_false, wrap_id, fV_row]; (repeat' split) <;> first | rfl | contradiction | omega | (congr 1; omega)) | trace_state)
theorem pw_o (size : Int) (z : Nat → Nat → Int) (N r n : Nat) (d p f m : Int) (hN : r + n ≤ N) (hb : n ≤ 64) (hs : 1 ≤ size ∧ size ≤ 16) (hv : vP d p f m) (g1 : ¬ fK z r n d p < n ∧ fV z r n d p = -1) (g2 : size = n) : ∃ r', callK (HS Try.prog [33] ctr0) Try.prog 11 [.ptr 0 0 0, .int .i64 d, .int .i64 p, .agg [.int .i64 f, .int .i64 m]] (SB false size z N r n) (kV (.int .i64 0) (SN size (zA z r n d p f m) 1 n) 2) r' := by
  unfold vP at hv
  refine ⟨.Z <| .N <| .Z <| .Z <| .N <| .Z <| .T <| .zn 4 <| .N <| .Z <| .N <| .T <| .zn 3 <| .T <| .zn 3 <| .T <| .zn 5 <| .N <| .zn 3 <| .N <| .N <| .N <| .tn 4 <| .E (0) [(2, 14)], Go.AE.kchange (b := (decide (d < (0 : Int))) = false ∧
 (decide ((4 : Int) ≤ d)) = false ∧
 (decide ((0 : Int) ≤ p)) = true ∧
 (!decide (p < (256 : Int))) = false ∧
 (decide (m = (0 : Int))) = false ∧
 (decide ((1 : Int) ≤ m)) = true ∧
 (decide (m ≤ (3 : Int))) = true ∧
 (decide ((0 : Int) ≤ f)) = true ∧
 (!decide (f < (64 : Int))) = false ∧
 (decide (m = (0 : Int))) = false ∧
 (r + n ≤ N ∧ n = n ∧ R4 z = R4 (Go.AE.zOf (R4 z)) ∧ n ≤ 64) ∧
 (decide ((0 : Int) ≤ fV (Go.AE.zOf (R4 z)) r n d p)) = false ∧
 (decide (n + 1 ≤ n)) = false ∧
 (decide ((n + 1) * 32 ≤ 140737488355328)) = true ∧
 (decide (r + n ≤ N)) = true ∧
 (decide ((0 : Int) ≤ Max.max (0 : Int) (IntKind.wrap IntKind.i64 ((↑(n + 1) : Int) - size)))) = true ∧
 (decide (Int.toNat (Max.max (0 : Int) (IntKind.wrap IntKind.i64 ((↑(n + 1) : Int) - size))) ≤ n + 1) && decide (n + 1 ≤ n + 1)) = true ∧
 ((0 : Int) = (0 : Int) ∧ True) ∧ (size = size ∧ (0 + Int.toNat (Max.max (0 : Int) (IntKind.wrap IntKind.i64 ((↑(n + 1) : Int) - size))) = 1 ∧ n + 1 - Int.toNat (Max.max (0 : Int) (IntKind.wrap IntKind.i64 ((↑(n + 1) : Int) - size))) = n ∧ n ≤ n ∧ n ≤ n + 1 - Int.toNat (Max.max (0 : Int) (IntKind.wrap IntKind.i64 ((↑(n + 1) : Int) - size)))) ∧ True) ∧ (1 + n ≤ n + 1 ∧ (∀ (jj0 : Nat), (jj0 < 1 + n → True ∧ ((bif decide (jj0 < n) then z (r + jj0) 0 else d) = zA z r n d p f m jj0 0) ∧ ((bif decide (jj0 < n) then z (r + jj0) 1 else p) = zA z r n d p f m jj0 1) ∧ ((bif decide (jj0 < n) then z (r + jj0) 2 else f) = zA z r n d p f m jj0 2) ∧ ((bif decide (jj0 < n) then z (r + jj0) 3 else m) = zA z r n d p f m jj0 3) ∧ True))) ∧ True) (by kernel_rfl) ?_⟩
  repeat' (first | (refine And.intro ?_ ?_) | (with_reducible intro hh; (try simp (disch := omega) only [decide_eq_true_eq, decide_eq_false_iff_not, Bool.and_eq_true, Bool.and_eq_false_imp, Bool.not_eq_true', Bool.not_eq_false', reduceCtorEq, or_false, or_true, Bool.or_eq_true, Bool.or_eq_false_iff, Int.not_lt, Int.not_le, beq_iff_eq, beq_eq_false_iff_ne, Nat.zero_add, Nat.mul_one, Nat.sub_zero, Int.toNat_natCast, decide_true, decide_false, cond_true, cond_false, wrap_id, fV_row] at hh)))
  all_goals (first | with_reducible rfl | trivial | (first | exact Go.AE.sveq_self _ rfl | with_reducible assumption | omega | (simp only [decide_eq_true_eq, decide_eq_false_iff_not, Bool.and_eq_true, Bool.and_eq_false_imp, Bool.not_eq_true', Bool.not_eq_false', reduceCtorEq, or_false, or_true, Bool.or_eq_true, Bool.or_eq_false_iff, Int.not_lt, Int.not_le, beq_iff_eq, beq_eq_false_iff_ne]; omega) | (simp (disch := omega) only [decide_eq_true_eq, decide_eq_false_iff_not, Bool.and_eq_true, Bool.and_eq_false_imp, Bool.not_eq_true', Bool.not_eq_false', reduceCtorEq, or_false, or_true, Bool.or_eq_true, Bool.or_eq_false_iff, Int.not_lt, Int.not_le, beq_iff_eq, beq_eq_false_iff_ne, Nat.zero_add, Nat.mul_one, Nat.sub_zero, Int.toNat_natCast, decide_true, decide_false, cond_true, cond_false, wrap_id, fV_row]; first | done | omega) | (simp (disch := omega) only [decide_eq_true_eq, decide_eq_false_iff_not, Bool.and_eq_true, Bool.and_eq_false_imp, Bool.not_eq_true', Bool.not_eq_false', reduceCtorEq, or_false, or_true, Bool.or_eq_true, Bool.or_eq_false_iff, Int.not_lt, Int.not_le, beq_iff_eq, beq_eq_false_iff_ne, Nat.zero_add, Nat.mul_one, Nat.sub_zero, Int.toNat_natCast, decide_true, decide_false, cond_true, cond_false, wrap_id, fV_row] at *; first | done | omega)) | (simp only [zF, zA, zC, c4, cond_eq_ite, decide_eq_true_eq, decide_eq_false_iff_not, Bool.and_eq_true, Bool.and_eq_false_imp, Bool.not_eq_true', Bool.not_eq_false', reduceCtorEq, or_false, or_true, Bool.or_eq_true, Bool.or_eq_false_iff, Int.not_lt, Int.not_le, beq_iff_eq, beq_eq_false_iff_ne, Nat.zero_add, Nat.mul_one, Nat.sub_zero, Int.toNat_natCast, decide_true, decide_false, cond_true, cond_false, wrap_id, fV_row]; (repeat' split) <;> first | rfl | contradiction | omega | (congr 1; omega)) | trace_state)
theorem pw_i (size : Int) (z : Nat → Nat → Int) (N r n : Nat) (d p f m : Int) (hN : r + n ≤ N) (hb : n ≤ 64) (hs : 1 ≤ size ∧ size ≤ 16) (hv : ¬ vP d p f m) : ∃ r', callK (HS Try.prog [33] ctr0) Try.prog 11 [.ptr 0 0 0, .int .i64 d, .int .i64 p, .agg [.int .i64 f, .int .i64 m]] (SB false size z N r n) (kV (.int .i64 600) (SN size (zC z) r n) 2) r' := by
  unfold vP at hv
  refine ⟨.Z <| .B (.zn 15 <| .E (0) [(2, 1)]) (.Z <| .Z <| .B (.zn 12 <| .E (0) [(2, 1)]) (.Z <| .B (.zn 4 <| .B (.zn 8 <| .E (0) [(2, 1)]) (.Z <| .B (.Z <| .Z <| .B (.zn 4 <| .E (0) [(2, 1)]) (.zn 3 <| .T <| .E (0) [(2, 1)])) (.B (.zn 3 <| .B (.zn 3 <| .B (.zn 5 <| .T <| .zn 4 <| .E (0) [(2, 1)]) (.zn 10 <| .E (0) [(2, 1)])) (.zn 14 <| .E (0) [(2, 1)])) (.zn 18 <| .E (0) [(2, 1)])))) (.zn 13 <| .E (0) [(2, 1)]))), Go.AE.kchange (b := (((decide (d < (0 : Int))) = true → ((600 : Int) = (600 : Int) ∧ True) ∧ (size = size ∧ (r = r ∧ n = n ∧ n ≤ n ∧ n ≤ n) ∧ True) ∧ (r + n ≤ N ∧ (∀ (jj0 : Nat), (jj0 < r + n → True ∧ z jj0 0 = zC z jj0 0 ∧ z jj0 1 = zC z jj0 1 ∧ z jj0 2 = zC z jj0 2 ∧ z jj0 3 = zC z jj0 3 ∧ True))) ∧ True) ∧ ((decide (d < (0 : Int))) = false → (((decide ((4 : Int) ≤ d)) = true → ((600 : Int) = (600 : Int) ∧ True) ∧ (size = size ∧ (r = r ∧ n = n ∧ n ≤ n ∧ n ≤ n) ∧ True) ∧ (r + n ≤ N ∧ (∀ (jj0 : Nat), (jj0 < r + n → True ∧ z jj0 0 = zC z jj0 0 ∧ z jj0 1 = zC z jj0 1 ∧ z jj0 2 = zC z jj0 2 ∧ z jj0 3 = zC z jj0 3 ∧ True))) ∧ True) ∧ ((decide ((4 : Int) ≤ d)) = false → (((decide ((0 : Int) ≤ p)) = true → (((!decide (p < (256 : Int))) = true → ((600 : Int) = (600 : Int) ∧ True) ∧ (size = size ∧ (r = r ∧ n = n ∧ n ≤ n ∧ n ≤ n) ∧ True) ∧ (r + n ≤ N ∧ (∀ (jj0 : Nat), (jj0 < r + n → True ∧ z jj0 0 = zC z jj0 0 ∧ z jj0 1 = zC z jj0 1 ∧ z jj0 2 = zC z jj0 2 ∧ z jj0 3 = zC z jj0 3 ∧ True))) ∧ True) ∧ ((!decide (p < (256 : Int))) = false → (((decide (m = (0 : Int))) = true → (((!decide (f = (0 : Int))) = true → ((600 : Int) = (600 : Int) ∧ True) ∧ (size = size ∧ (r = r ∧ n = n ∧ n ≤ n ∧ n ≤ n) ∧ True) ∧ (r + n ≤ N ∧ (∀ (jj0 : Nat), (jj0 < r + n → True ∧ z jj0 0 = zC z jj0 0 ∧ z jj0 1 = zC z jj0 1 ∧ z jj0 2 = zC z jj0 2 ∧ z jj0 3 = zC z jj0 3 ∧ True))) ∧ True) ∧ ((!decide (f = (0 : Int))) = false → (decide (m = (0 : Int))) = true ∧
 ((600 : Int) = (600 : Int) ∧ True) ∧ (size = size ∧ (r = r ∧ n = n ∧ n ≤ n ∧ n ≤ n) ∧ True) ∧ (r + n ≤ N ∧ (∀ (jj0 : Nat), (jj0 < r + n → True ∧ z jj0 0 = zC z jj0 0 ∧ z jj0 1 = zC z jj0 1 ∧ z jj0 2 = zC z jj0 2 ∧ z jj0 3 = zC z jj0 3 ∧ True))) ∧ True))) ∧ ((decide (m = (0 : Int))) = false → (((decide ((1 : Int) ≤ m)) = true → (((decide (m ≤ (3 : Int))) = true → (((decide ((0 : Int) ≤ f)) = true → (!decide (f < (64 : Int))) = true ∧
 ((600 : Int) = (600 : Int) ∧ True) ∧ (size = size ∧ (r = r ∧ n = n ∧ n ≤ n ∧ n ≤ n) ∧ True) ∧ (r + n ≤ N ∧ (∀ (jj0 : Nat), (jj0 < r + n → True ∧ z jj0 0 = zC z jj0 0 ∧ z jj0 1 = zC z jj0 1 ∧ z jj0 2 = zC z jj0 2 ∧ z jj0 3 = zC z jj0 3 ∧ True))) ∧ True) ∧ ((decide ((0 : Int) ≤ f)) = false → ((600 : Int) = (600 : Int) ∧ True) ∧ (size = size ∧ (r = r ∧ n = n ∧ n ≤ n ∧ n ≤ n) ∧ True) ∧ (r + n ≤ N ∧ (∀ (jj0 : Nat), (jj0 < r + n → True ∧ z jj0 0 = zC z jj0 0 ∧ z jj0 1 = zC z jj0 1 ∧ z jj0 2 = zC z jj0 2 ∧ z jj0 3 = zC z jj0 3 ∧ True))) ∧ True))) ∧ ((decide (m ≤ (3 : Int))) = false → ((600 : Int) = (600 : Int) ∧ True) ∧ (size = size ∧ (r = r ∧ n = n ∧ n ≤ n ∧ n ≤ n) ∧ True) ∧ (r + n ≤ N ∧ (∀ (jj0 : Nat), (jj0 < r + n → True ∧ z jj0 0 = zC z jj0 0 ∧ z jj0 1 = zC z jj0 1 ∧ z jj0 2 = zC z jj0 2 ∧ z jj0 3 = zC z jj0 3 ∧ True))) ∧ True))) ∧ ((decide ((1 : Int) ≤ m)) = false → ((600 : Int) = (600 : Int) ∧ True) ∧ (size = size ∧ (r = r ∧ n = n ∧ n ≤ n ∧ n ≤ n) ∧ True) ∧ (r + n ≤ N ∧ (∀ (jj0 : Nat), (jj0 < r + n → True ∧ z jj0 0 = zC z jj0 0 ∧ z jj0 1 = zC z jj0 1 ∧ z jj0 2 = zC z jj0 2 ∧ z jj0 3 = zC z jj0 3 ∧ True))) ∧ True))))))) ∧ ((decide ((0 : Int) ≤ p)) = false → ((600 : Int) = (600 : Int) ∧ True) ∧ (size = size ∧ (r = r ∧ n = n ∧ n ≤ n ∧ n ≤ n) ∧ True) ∧ (r + n ≤ N ∧ (∀ (jj0 : Nat), (jj0 < r + n → True ∧ z jj0 0 = zC z jj0 0 ∧ z jj0 1 = zC z jj0 1 ∧ z jj0 2 = zC z jj0 2 ∧ z jj0 3 = zC z jj0 3 ∧ True))) ∧ True))))))) (by kernel_rfl) ?_⟩
  repeat' (first | (refine And.intro ?_ ?_) | (with_reducible intro hh; (try simp (disch := omega) only [decide_eq_true_eq, decide_eq_false_iff_not, Bool.and_eq_true, Bool.and_eq_false_imp, Bool.not_eq_true', Bool.not_eq_false', reduceCtorEq, or_false, or_true, Bool.or_eq_true, Bool.or_eq_false_iff, Int.not_lt, Int.not_le, beq_iff_eq, beq_eq_false_iff_ne, Nat.zero_add, Nat.mul_one, Nat.sub_zero, Int.toNat_natCast, decide_true, decide_false, cond_true, cond_false, wrap_id, fV_row] at hh)))
  all_goals (first | with_reducible rfl | trivial | (first | exact Go.AE.sveq_self _ rfl | with_reducible assumption | omega | (simp only [decide_eq_true_eq, decide_eq_false_iff_not, Bool.and_eq_true, Bool.and_eq_false_imp, Bool.not_eq_true', Bool.not_eq_false', reduceCtorEq, or_false, or_true, Bool.or_eq_true, Bool.or_eq_false_iff, Int.not_lt, Int.not_le, beq_iff_eq, beq_eq_false_iff_ne]; omega) | (simp (disch := omega) only [decide_eq_true_eq, decide_eq_false_iff_not, Bool.and_eq_true, Bool.and_eq_false_imp, Bool.not_eq_true', Bool.not_eq_false', reduceCtorEq, or_false, or_true, Bool.or_eq_true, Bool.or_eq_false_iff, Int.not_lt, Int.not_le, beq_iff_eq, beq_eq_false_iff_ne, Nat.zero_add, Nat.mul_one, Nat.sub_zero, Int.toNat_natCast, decide_true, decide_false, cond_true, cond_false, wrap_id, fV_row]; first | done | omega) | (simp (disch := omega) only [decide_eq_true_eq, decide_eq_false_iff_not, Bool.and_eq_true, Bool.and_eq_false_imp, Bool.not_eq_true', Bool.not_eq_false', reduceCtorEq, or_false, or_true, Bool.or_eq_true, Bool.or_eq_false_iff, Int.not_lt, Int.not_le, beq_iff_eq, beq_eq_false_iff_ne, Nat.zero_add, Nat.mul_one, Nat.sub_zero, Int.toNat_natCast, decide_true, decide_false, cond_true, cond_false, wrap_id, fV_row] at *; first | done | omega)) | (simp only [zF, zA, zC, c4, cond_eq_ite, decide_eq_true_eq, decide_eq_false_iff_not, Bool.and_eq_true, Bool.and_eq_false_imp, Bool.not_eq_true', Bool.not_eq_false', reduceCtorEq, or_false, or_true, Bool.or_eq_true, Bool.or_eq_false_iff, Int.not_lt, Int.not_le, beq_iff_eq, beq_eq_false_iff_ne, Nat.zero_add, Nat.mul_one, Nat.sub_zero, Int.toNat_natCast, decide_true, decide_false, cond_true, cond_false, wrap_id, fV_row]; (repeat' split) <;> first | rfl | contradiction | omega | (congr 1; omega)) | trace_state)
def pZ (size : Int) (z : Nat → Nat → Int) (r n : Nat) (d p f m : Int) : Nat → Nat → Int := if vP d p f m then (if fK z r n d p < n then zF z (r + fK z r n d p) f m else zA z r n d p f m) else zC z
def pR (size : Int) (z : Nat → Nat → Int) (r n : Nat) (d p f m : Int) : Nat := if vP d p f m then (if fK z r n d p < n then r else if n < size then 0 else 1) else r
def pN (size : Int) (z : Nat → Nat → Int) (r n : Nat) (d p f m : Int) : Nat := if vP d p f m then (if fK z r n d p < n then n else if n < size then n + 1 else n) else n
theorem pZ_row (size : Int) (z : Nat → Nat → Int) : pZ size (zOf fun i => rowN z i 4 0) = pZ size z := id rfl
theorem pR_row (size : Int) (z : Nat → Nat → Int) : pR size (zOf fun i => rowN z i 4 0) = pR size z := id rfl
theorem pN_row (size : Int) (z : Nat → Nat → Int) : pN size (zOf fun i => rowN z i 4 0) = pN size z := id rfl
def decP : List SV → Option (List Int)
  | [.int .i64 d, .int .i64 p, .agg [.int .i64 f, .int .i64 m]] => some [d, p, f, m]
  | _ => none
def encP : List Int → List SV
  | [d, p, f, m] => [.int .i64 d, .int .i64 p, .agg [.int .i64 f, .int .i64 m]]
  | _ => []
def rP : ResW := fun size z r n l => match l with
  | [d, p, f, m] => some (n ≤ 16 ∧ n ≤ size ∧ 1 ≤ size ∧ size ≤ 16, .int .i64 (qE d p f m), pZ size z r n d p f m, pR size z r n d p f m, pN size z r n d p f m)
  | _ => none
theorem ok_p : ok1 Try.prog 11 (cTm decP rP) := ok_tm (enc := encP) (fun ys l h => by
    unfold decP at h; split at h
    · cases h; rfl
    · cases h) (fun l => by unfold encP; split <;> rfl) (fun π l => by unfold encP; split <;> rfl) fun size z N r n l q v z' r' n' h hN hp => by
  unfold rP at h
  split at h
  · rename_i d p f m
    cases h
    obtain ⟨h1, h2, h3, h4⟩ := hp
    refine ⟨⟨fun _ => rfl, rfl⟩, ?_⟩
    have hle : fK z r n d p ≤ n := fi_le _ _
    by_cases hv : vP d p f m
    · rcases fV_or z r n d p with g | g
      · have := scr_to pk okc0 rfl (pw_f size z N r n d p f m hN (by omega) ⟨h3, h4⟩ hv g)
        simp only [qE, pZ, pR, pN, if_pos hv, if_pos g.1]; exact this
      · rcases (show (n : Int) < size ∨ size ≤ n by omega) with g2 | g2
        · have := scr_to pk okc0 rfl (pw_a size z N r n d p f m hN (by omega) ⟨h3, h4⟩ hv g g2)
          simp only [qE, pZ, pR, pN, if_pos hv, if_neg g.1, if_pos g2]; exact this
        · have := scr_to pk okc0 rfl (pw_o size z N r n d p f m hN (by omega) ⟨h3, h4⟩ hv g (by omega))
          simp only [qE, pZ, pR, pN, if_pos hv, if_neg g.1, if_neg (show ¬ (n : Int) < size by omega)]; exact this
    · have := scr_to pk okc0 rfl (pw_i size z N r n d p f m hN (by omega) ⟨h3, h4⟩ hv)
      simp only [qE, pZ, pR, pN, if_neg hv]; exact this
  · cases h
end Go.Proofs.Ythjopinmplcpfaa.tl