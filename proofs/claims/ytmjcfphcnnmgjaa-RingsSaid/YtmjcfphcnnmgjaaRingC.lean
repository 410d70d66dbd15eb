/- Package ring: contracts of functions that only read a list. No condition. -/
import Derived.Test.YtmjcfphcnnmgjaaE4
import Derived.Test.YtmjcfphcnnmgjaaProg
namespace Go.Proofs.Ytmjcfphcnnmgjaa.rg
open Go Go.Proofs Go.AE Go.RowKit
set_option maxRecDepth 100000
set_option linter.unusedVariables false
set_option linter.unusedSimpArgs false
theorem pk : PK Try.prog [42] := ⟨by kernel_rfl, by kernel_rfl, good_of (by kernel_rfl), nonum_of (by kernel_rfl)⟩
/-- the first row that holds v, or -1 -/
def pI (z : Nat → Nat → Int) (v : Int) (j : Nat) : Bool := decide (v = z j 0)
def ixF (z : Nat → Nat → Int) (n : Nat) (v : Int) : Int := if fi (pI z v) n < n then ((fi (pI z v) n : Nat) : Int) else -1
theorem ixF_row (z : Nat → Nat → Int) (n : Nat) (v : Int) : ixF (zOf fun i => rowN z i 1 0) n v = ixF z n v := id rfl
theorem ixF_ge {z : Nat → Nat → Int} {n : Nat} {v : Int} : 0 ≤ ixF z n v ↔ ∃ j, j < n ∧ z j 0 = v := by
  unfold ixF
  by_cases h : fi (pI z v) n < n
  · rw [if_pos h]
    exact ⟨fun _ => ⟨_, h, (of_decide_eq_true (fi_yes h)).symm⟩, fun _ => by omega⟩
  · rw [if_neg h]
    refine ⟨fun g => by omega, fun ⟨j, hj, g⟩ => ?_⟩
    have e : fi (pI z v) n = n := by have := fi_le (pI z v) n; omega
    have := fi_all.1 e j hj
    exact absurd g.symm (of_decide_eq_false this)
def T_i (v : Int) (n i : Nat) : List SV := fr 19 [(0, .sl 0 0 n n false), (1, .int .i64 v), (4, .int .i64 0), (7, .int .i64 n), (8, .int .i64 i)]
def Tr_i (k : Nat) : List SV := fr 19 [(4, .int .i64 k)]
theorem r_i (z : Nat → Nat → Int) (v : Int) (N n i : Nat) (hN : n ≤ N) (hb : n ≤ 9223372036854775807) (hi : i ≤ n) (hI : fi (pI z v) i = i) : ∃ r, exec (HS Try.prog [42] (ctrL [])) Try.prog (lp Try.prog 38 0) (T_i v n i) (SR 1 z N) (kN 1 (T_i v n) (fun _ => SR 1 z N) (fun i => n - i) (fun i => i ≤ n ∧ fi (pI z v) i = i) i) (kX 1 (two (fi (pI z v) n = n) (fi (pI z v) n < n)) (out2 (.x 0 (T_i v n n) (SR 1 z N)) (.r (Tr_i (fi (pI z v) n)) (SR 1 z N)))) (kR 1 (two (fi (pI z v) n = n) (fi (pI z v) n < n)) (out2 (.x 0 (T_i v n n) (SR 1 z N)) (.r (Tr_i (fi (pI z v) n)) (SR 1 z N)))) r := by
  refine ⟨.B (.T <| .T <| .B (.E (1) []) (.E (i + 1) [])) (.E (0) []), Go.AE.kchange (b := (((decide ((↑i : Int) < (↑n : Int))) = true → (decide ((0 : Int) ≤ (↑i : Int)) && decide ((↑i : Int) < (↑n : Int))) = true ∧
 (decide (0 + Int.toNat (↑i : Int) * 1 < N)) = true ∧
 (((decide (v = z (0 + Int.toNat (↑i : Int) * 1) 0)) = true → Go.AE.fi (pI z v) n < n ∧ ((↑i : Int) = (↑(Go.AE.fi (pI z v) n) : Int) ∧ True) ∧ (N ≤ N ∧ (∀ (jj0 : Nat), (jj0 < N → True ∧ z jj0 0 = z jj0 0 ∧ True))) ∧ True) ∧ ((decide (v = z (0 + Int.toNat (↑i : Int) * 1) 0)) = false → (i + 1 ≤ n ∧ Go.AE.fi (pI z v) (i + 1) = i + 1) ∧ n - (i + 1) < n - i ∧ ((0 = 0 ∧ n = n ∧ n ≤ n ∧ n ≤ n) ∧ v = v ∧ (0 : Int) = (0 : Int) ∧ (↑n : Int) = (↑n : Int) ∧ IntKind.wrap IntKind.i64 ((↑i : Int) + (1 : Int)) = (↑(i + 1) : Int) ∧ True) ∧ (N ≤ N ∧ (∀ (jj0 : Nat), (jj0 < N → True ∧ z jj0 0 = z jj0 0 ∧ True))) ∧ True))) ∧ ((decide ((↑i : Int) < (↑n : Int))) = false → Go.AE.fi (pI z v) n = n ∧ ((0 = 0 ∧ n = n ∧ n ≤ n ∧ n ≤ n) ∧ v = v ∧ (0 : Int) = (0 : Int) ∧ (↑n : Int) = (↑n : Int) ∧ (↑i : Int) = (↑n : Int) ∧ True) ∧ (N ≤ N ∧ (∀ (jj0 : Nat), (jj0 < N → True ∧ z jj0 0 = z jj0 0 ∧ True))) ∧ True))) (by kernel_rfl) ?_⟩
  repeat' (first | (refine And.intro ?_ ?_) | (with_reducible intro hh; (try simp (disch := omega) only [decide_eq_true_eq, decide_eq_false_iff_not, Bool.and_eq_true, Bool.and_eq_false_imp, Bool.not_eq_true', Bool.not_eq_false', reduceCtorEq, or_false, or_true, Bool.or_eq_true, Bool.or_eq_false_iff, Int.not_lt, Int.not_le, beq_iff_eq, beq_eq_false_iff_ne, Nat.zero_add, Nat.mul_one, Nat.sub_zero, Int.toNat_natCast, decide_true, decide_false, cond_true, cond_false, wrap_id] at hh)))
  all_goals (first | with_reducible rfl | trivial | (first | exact Go.AE.sveq_self _ rfl | with_reducible assumption | omega | (simp only [decide_eq_true_eq, decide_eq_false_iff_not, Bool.and_eq_true, Bool.and_eq_false_imp, Bool.not_eq_true', Bool.not_eq_false', reduceCtorEq, or_false, or_true, Bool.or_eq_true, Bool.or_eq_false_iff, Int.not_lt, Int.not_le, beq_iff_eq, beq_eq_false_iff_ne]; omega) | (simp (disch := omega) only [decide_eq_true_eq, decide_eq_false_iff_not, Bool.and_eq_true, Bool.and_eq_false_imp, Bool.not_eq_true', Bool.not_eq_false', reduceCtorEq, or_false, or_true, Bool.or_eq_true, Bool.or_eq_false_iff, Int.not_lt, Int.not_le, beq_iff_eq, beq_eq_false_iff_ne, Nat.zero_add, Nat.mul_one, Nat.sub_zero, Int.toNat_natCast, decide_true, decide_false, cond_true, cond_false, wrap_id]; first | done | omega) | (simp (disch := omega) only [decide_eq_true_eq, decide_eq_false_iff_not, Bool.and_eq_true, Bool.and_eq_false_imp, Bool.not_eq_true', Bool.not_eq_false', reduceCtorEq, or_false, or_true, Bool.or_eq_true, Bool.or_eq_false_iff, Int.not_lt, Int.not_le, beq_iff_eq, beq_eq_false_iff_ne, Nat.zero_add, Nat.mul_one, Nat.sub_zero, Int.toNat_natCast, decide_true, decide_false, cond_true, cond_false, wrap_id] at *; first | done | omega)) | exact fi_step hI (decide_eq_false (by assumption)) | (have := fi_at hI (decide_eq_true (by assumption)) (n := n) (by omega); omega) | (rw [show n = i by omega]; first | exact hI | done) | trace_state)
theorem l_i (z : Nat → Nat → Int) (v : Int) (N n : Nat) (hN : n ≤ N) (hb : n ≤ 9223372036854775807) : LQ Try.prog (lp Try.prog 38 0) (T_i v n 0) (SR 1 z N) (two (fi (pI z v) n = n) (fi (pI z v) n < n)) (out2 (.x 0 (T_i v n n) (SR 1 z N)) (.r (Tr_i (fi (pI z v) n)) (SR 1 z N))) :=
  loop_scr pk (okC_nil _) (by kernel_rfl) 1 (T_i v n) (fun _ => SR 1 z N) (fun i => n - i) (fun i => i ≤ n ∧ fi (pI z v) i = i) _ _ (fun _ => rfl) (fun i hi => r_i z v N n i hN hb hi.1 hi.2) ⟨Nat.zero_le _, rfl⟩ rfl
theorem w_i_a (z : Nat → Nat → Int) (v : Int) (N n : Nat) (hN : n ≤ N) (hC : (fi (pI z v) n = n)) (hL : LO Try.prog (lp Try.prog 38 0) (T_i v n 0) (SR 1 z N) (.x 0 (T_i v n n) (SR 1 z N))) : ∃ r, callK (HS Try.prog [42] (ctrL [])) Try.prog 38 [.sl 0 0 n n false, .int .i64 v] (SR 1 z N) (kV (.int .i64 (ixF z n v)) (SR 1 z N) 1) r := by
  rw [show ixF z n v = (-1) by first | exact if_pos hC | exact if_neg (by omega)]
  refine ⟨.L (T_i v n 0) (Go.AE.SR 1 z N) (Go.AE.Out.x 0 (T_i v n n) (Go.AE.SR 1 z N)) <| .E (0) [], Go.AE.kchange (b := (((0 = 0 ∧ n = n ∧ n ≤ n ∧ n ≤ n) ∧ v = v ∧ (0 : Int) = (0 : Int) ∧ (↑n : Int) = (↑n : Int) ∧ (0 : Int) = (0 : Int) ∧ True) ∧ (N ≤ N ∧ (∀ (jj0 : Nat), (jj0 < N → True ∧ z jj0 0 = z jj0 0 ∧ True))) ∧ True) ∧
 LO (Go.Proofs.Try.prog) (Go.AE.lp Go.Proofs.Try.prog 38 0) (T_i v n 0) (Go.AE.SR 1 z N) (Go.AE.Out.x 0 (T_i v n n) (Go.AE.SR 1 z N)) ∧
 ((-1 : Int) = (-1 : Int) ∧ True) ∧ (N ≤ N ∧ (∀ (jj0 : Nat), (jj0 < N → True ∧ z jj0 0 = z jj0 0 ∧ True))) ∧ True) (by kernel_rfl) ?_⟩
  repeat' (first | exact hL | (refine And.intro ?_ ?_) | (with_reducible intro hh; (try simp (disch := omega) only [decide_eq_true_eq, decide_eq_false_iff_not, Bool.and_eq_true, Bool.and_eq_false_imp, Bool.not_eq_true', Bool.not_eq_false', reduceCtorEq, or_false, or_true, Bool.or_eq_true, Bool.or_eq_false_iff, Int.not_lt, Int.not_le, beq_iff_eq, beq_eq_false_iff_ne, Nat.zero_add, Nat.mul_one, Nat.sub_zero, Int.toNat_natCast, decide_true, decide_false, cond_true, cond_false, wrap_id] at hh)))
  all_goals (first | with_reducible rfl | trivial | (first | exact Go.AE.sveq_self _ rfl | with_reducible assumption | omega | (simp only [decide_eq_true_eq, decide_eq_false_iff_not, Bool.and_eq_true, Bool.and_eq_false_imp, Bool.not_eq_true', Bool.not_eq_false', reduceCtorEq, or_false, or_true, Bool.or_eq_true, Bool.or_eq_false_iff, Int.not_lt, Int.not_le, beq_iff_eq, beq_eq_false_iff_ne]; omega) | (simp (disch := omega) only [decide_eq_true_eq, decide_eq_false_iff_not, Bool.and_eq_true, Bool.and_eq_false_imp, Bool.not_eq_true', Bool.not_eq_false', reduceCtorEq, or_false, or_true, Bool.or_eq_true, Bool.or_eq_false_iff, Int.not_lt, Int.not_le, beq_iff_eq, beq_eq_false_iff_ne, Nat.zero_add, Nat.mul_one, Nat.sub_zero, Int.toNat_natCast, decide_true, decide_false, cond_true, cond_false, wrap_id]; first | done | omega) | (simp (disch := omega) only [decide_eq_true_eq, decide_eq_false_iff_not, Bool.and_eq_true, Bool.and_eq_false_imp, Bool.not_eq_true', Bool.not_eq_false', reduceCtorEq, or_false, or_true, Bool.or_eq_true, Bool.or_eq_false_iff, Int.not_lt, Int.not_le, beq_iff_eq, beq_eq_false_iff_ne, Nat.zero_add, Nat.mul_one, Nat.sub_zero, Int.toNat_natCast, decide_true, decide_false, cond_true, cond_false, wrap_id] at *; first | done | omega)) | trace_state)
theorem w_i_b (z : Nat → Nat → Int) (v : Int) (N n : Nat) (hN : n ≤ N) (hC : (fi (pI z v) n < n)) (hL : LO Try.prog (lp Try.prog 38 0) (T_i v n 0) (SR 1 z N) (.r (Tr_i (fi (pI z v) n)) (SR 1 z N))) : ∃ r, callK (HS Try.prog [42] (ctrL [])) Try.prog 38 [.sl 0 0 n n false, .int .i64 v] (SR 1 z N) (kV (.int .i64 (ixF z n v)) (SR 1 z N) 1) r := by
  rw [show ixF z n v = (fi (pI z v) n : Nat) by first | exact if_pos hC | exact if_neg (by omega)]
  refine ⟨.L (T_i v n 0) (Go.AE.SR 1 z N) (Go.AE.Out.r (Tr_i (Go.AE.fi (pI z v) n)) (Go.AE.SR 1 z N)) <| .E (0) [], Go.AE.kchange (b := (((0 = 0 ∧ n = n ∧ n ≤ n ∧ n ≤ n) ∧ v = v ∧ (0 : Int) = (0 : Int) ∧ (↑n : Int) = (↑n : Int) ∧ (0 : Int) = (0 : Int) ∧ True) ∧ (N ≤ N ∧ (∀ (jj0 : Nat), (jj0 < N → True ∧ z jj0 0 = z jj0 0 ∧ True))) ∧ True) ∧
 LO (Go.Proofs.Try.prog) (Go.AE.lp Go.Proofs.Try.prog 38 0) (T_i v n 0) (Go.AE.SR 1 z N) (Go.AE.Out.r (Tr_i (Go.AE.fi (pI z v) n)) (Go.AE.SR 1 z N)) ∧
 ((↑(Go.AE.fi (pI z v) n) : Int) = (↑(Go.AE.fi (pI z v) n) : Int) ∧ True) ∧ (N ≤ N ∧ (∀ (jj0 : Nat), (jj0 < N → True ∧ z jj0 0 = z jj0 0 ∧ True))) ∧ True) (by kernel_rfl) ?_⟩
  repeat' (first | exact hL | (refine And.intro ?_ ?_) | (with_reducible intro hh; (try simp (disch := omega) only [decide_eq_true_eq, decide_eq_false_iff_not, Bool.and_eq_true, Bool.and_eq_false_imp, Bool.not_eq_true', Bool.not_eq_false', reduceCtorEq, or_false, or_true, Bool.or_eq_true, Bool.or_eq_false_iff, Int.not_lt, Int.not_le, beq_iff_eq, beq_eq_false_iff_ne, Nat.zero_add, Nat.mul_one, Nat.sub_zero, Int.toNat_natCast, decide_true, decide_false, cond_true, cond_false, wrap_id] at hh)))
  all_goals (first | with_reducible rfl | trivial | (first | exact Go.AE.sveq_self _ rfl | with_reducible assumption | omega | (simp only [decide_eq_true_eq, decide_eq_false_iff_not, Bool.and_eq_true, Bool.and_eq_false_imp, Bool.not_eq_true', Bool.not_eq_false', reduceCtorEq, or_false, or_true, Bool.or_eq_true, Bool.or_eq_false_iff, Int.not_lt, Int.not_le, beq_iff_eq, beq_eq_false_iff_ne]; omega) | (simp (disch := omega) only [decide_eq_true_eq, decide_eq_false_iff_not, Bool.and_eq_true, Bool.and_eq_false_imp, Bool.not_eq_true', Bool.not_eq_false', reduceCtorEq, or_false, or_true, Bool.or_eq_true, Bool.or_eq_false_iff, Int.not_lt, Int.not_le, beq_iff_eq, beq_eq_false_iff_ne, Nat.zero_add, Nat.mul_one, Nat.sub_zero, Int.toNat_natCast, decide_true, decide_false, cond_true, cond_false, wrap_id]; first | done | omega) | (simp (disch := omega) only [decide_eq_true_eq, decide_eq_false_iff_not, Bool.and_eq_true, Bool.and_eq_false_imp, Bool.not_eq_true', Bool.not_eq_false', reduceCtorEq, or_false, or_true, Bool.or_eq_true, Bool.or_eq_false_iff, Int.not_lt, Int.not_le, beq_iff_eq, beq_eq_false_iff_ne, Nat.zero_add, Nat.mul_one, Nat.sub_zero, Int.toNat_natCast, decide_true, decide_false, cond_true, cond_false, wrap_id] at *; first | done | omega)) | trace_state)
def rIx : Res := fun z n l => match l with
  | [v] => some (n ≤ 9223372036854775807, .int .i64 (ixF z n v))
  | _ => none
theorem ok_ix : ok1 Try.prog 38 (cSl 1 rIx) := ok_sl fun z N n l p v h hn hp => by
  unfold rIx at h
  split at h
  · cases h
    rename_i v
    refine ⟨free_int _ _, ?_⟩
    have hle := fi_le (pI z v) n
    rcases Nat.lt_or_ge (fi (pI z v) n) n with g | g
    · exact scr_to pk (okC_nil _) rfl (w_i_b z v N n hn g ((l_i z v N n hn hp).snd (by omega)))
    · exact scr_to pk (okC_nil _) rfl (w_i_a z v N n hn (by omega) ((l_i z v N n hn hp).fst (by omega)))
  · cases h
theorem aw0 : (callK (Hn Try.prog False cond [42] 100) Try.prog 19 [] s0 (fun v _ => v = .bool true)) = (SV.bool true = SV.bool true) := by kernel_rfl
end Go.Proofs.Ytmjcfphcnnmgjaa.rg
