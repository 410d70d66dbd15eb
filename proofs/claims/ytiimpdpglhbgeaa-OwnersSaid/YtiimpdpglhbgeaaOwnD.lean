/- Package frames: what the document's Row answers; a list written over is forgotten. No condition. -/
import Derived.Test.YtiimpdpglhbgeaaOwnC
namespace Go.Proofs.Ytiimpdpglhbgeaa.own
open Go Go.Proofs Go.AE Go.RowKit
set_option maxRecDepth 100000
set_option linter.unusedVariables false
set_option linter.unusedSimpArgs false
def SZr (z : Nat → Nat → Int) (n N : Nat) : St := { h := [(0, 0, .flat 1 true [.sl 1 0 n n false]), (1, 0, .fam 1 true N fun i => rowN z i 1 0)], nx := 2, ck := 1, st := 1 }
def TZr (p : Int) : List SV := fr 30 [(0, .ptr 0 0 0), (1, .int .i64 p), (5, .nils), (6, .int .i64 0)]
def TR (z : Nat → Nat → Int) (p : Int) (i : Nat) : List SV := fr 30 [(0, .ptr 0 0 0), (1, .int .i64 p), (5, .sl 2 0 (idx (isO z p) i).length (idx (isO z p) i).length false), (6, .int .i64 i)]
def SRr (z : Nat → Nat → Int) (p : Int) (n N i : Nat) : St := { h := [(2, 0, .fam 1 false (idx (isO z p) i).length fun k => rowN (rwA z p i) k 1 0), (0, 0, .flat 1 true [.sl 1 0 n n false]), (1, 0, .fam 1 true N fun i => rowN z i 1 0)], nx := 3, ck := 1, st := 1 }
theorem rr (z : Nat → Nat → Int) (p : Int) (n N i : Nat) (hN : n ≤ N) (hb : n ≤ 1000000) (hi : i ≤ n) (hx : (idx (isO z p) i).length ≤ i) : ∃ r, exec (HS Try.prog [] (ctrL [])) Try.prog (lp Try.prog 17 0) (TR z p i) (SRr z p n N i) (kN 2 (TR z p) (SRr z p n N) (fun i => n - i) (fun i => i ≤ n) i) (kX 2 (fun _ => True) fun _ => .x 0 (TR z p n) (SRr z p n N n)) (kR 2 (fun _ => True) fun _ => .n [] s0) r := by
  refine ⟨.B (.T <| .T <| .B (.N <| .T <| .T <| .E (i + 1) [(2, 4)]) (.E (i + 1) [])) (.E (0) []), Go.AE.kchange (b := (((decide ((↑i : Int) < (↑n : Int))) = true → (decide ((0 : Int) ≤ (↑i : Int)) && decide ((↑i : Int) < (↑n : Int))) = true ∧
 (decide (0 + Int.toNat (↑i : Int) * 1 < N)) = true ∧
 (((decide (z (0 + Int.toNat (↑i : Int) * 1) 0 = p)) = true → (decide (List.length (Go.AE.idx (isO z p) i) + 1 ≤ List.length (Go.AE.idx (isO z p) i))) = false ∧
 (decide ((List.length (Go.AE.idx (isO z p) i) + 1) * 8 ≤ 140737488355328)) = true ∧
 (decide (0 + List.length (Go.AE.idx (isO z p) i) ≤ List.length (Go.AE.idx (isO z p) i))) = true ∧
 i + 1 ≤ n ∧ n - (i + 1) < n - i ∧ ((0 = 0 ∧ 0 = 0) ∧ p = p ∧ (0 = 0 ∧ List.length (Go.AE.idx (isO z p) i) + 1 = List.length (Go.AE.idx (isO z p) (i + 1)) ∧ List.length (Go.AE.idx (isO z p) (i + 1)) ≤ List.length (Go.AE.idx (isO z p) (i + 1)) ∧ List.length (Go.AE.idx (isO z p) (i + 1)) ≤ List.length (Go.AE.idx (isO z p) i) + 1) ∧ IntKind.wrap IntKind.i64 ((↑i : Int) + (1 : Int)) = (↑(i + 1) : Int) ∧ True) ∧ (List.length (Go.AE.idx (isO z p) (i + 1)) ≤ List.length (Go.AE.idx (isO z p) i) + 1 ∧ (∀ (jj0 : Nat), (jj0 < List.length (Go.AE.idx (isO z p) (i + 1)) → True ∧ (bif decide (jj0 < List.length (Go.AE.idx (isO z p) i)) then rwA z p i (0 + jj0) 0 else (↑i : Int)) = rwA z p (i + 1) jj0 0 ∧ True))) ∧ ((0 = 0 ∧ n = n ∧ n ≤ n ∧ n ≤ n) ∧ True) ∧ (N ≤ N ∧ (∀ (jj0 : Nat), (jj0 < N → True ∧ z jj0 0 = z jj0 0 ∧ True))) ∧ True) ∧ ((decide (z (0 + Int.toNat (↑i : Int) * 1) 0 = p)) = false → i + 1 ≤ n ∧ n - (i + 1) < n - i ∧ ((0 = 0 ∧ 0 = 0) ∧ p = p ∧ (0 = 0 ∧ List.length (Go.AE.idx (isO z p) i) = List.length (Go.AE.idx (isO z p) (i + 1)) ∧ List.length (Go.AE.idx (isO z p) (i + 1)) ≤ List.length (Go.AE.idx (isO z p) (i + 1)) ∧ List.length (Go.AE.idx (isO z p) (i + 1)) ≤ List.length (Go.AE.idx (isO z p) i)) ∧ IntKind.wrap IntKind.i64 ((↑i : Int) + (1 : Int)) = (↑(i + 1) : Int) ∧ True) ∧ (List.length (Go.AE.idx (isO z p) (i + 1)) ≤ List.length (Go.AE.idx (isO z p) i) ∧ (∀ (jj0 : Nat), (jj0 < List.length (Go.AE.idx (isO z p) (i + 1)) → True ∧ rwA z p i jj0 0 = rwA z p (i + 1) jj0 0 ∧ True))) ∧ ((0 = 0 ∧ n = n ∧ n ≤ n ∧ n ≤ n) ∧ True) ∧ (N ≤ N ∧ (∀ (jj0 : Nat), (jj0 < N → True ∧ z jj0 0 = z jj0 0 ∧ True))) ∧ True))) ∧ ((decide ((↑i : Int) < (↑n : Int))) = false → True ∧ ((0 = 0 ∧ 0 = 0) ∧ p = p ∧ (0 = 0 ∧ List.length (Go.AE.idx (isO z p) i) = List.length (Go.AE.idx (isO z p) n) ∧ List.length (Go.AE.idx (isO z p) n) ≤ List.length (Go.AE.idx (isO z p) n) ∧ List.length (Go.AE.idx (isO z p) n) ≤ List.length (Go.AE.idx (isO z p) i)) ∧ (↑i : Int) = (↑n : Int) ∧ True) ∧ (List.length (Go.AE.idx (isO z p) n) ≤ List.length (Go.AE.idx (isO z p) i) ∧ (∀ (jj0 : Nat), (jj0 < List.length (Go.AE.idx (isO z p) n) → True ∧ rwA z p i jj0 0 = rwA z p n jj0 0 ∧ True))) ∧ ((0 = 0 ∧ n = n ∧ n ≤ n ∧ n ≤ n) ∧ True) ∧ (N ≤ N ∧ (∀ (jj0 : Nat), (jj0 < N → True ∧ z jj0 0 = z jj0 0 ∧ True))) ∧ True))) (by kernel_rfl) ?_⟩
  repeat' (first | (refine And.intro ?_ ?_) | (with_reducible intro hh; (try simp (disch := omega) only [decide_eq_true_eq, decide_eq_false_iff_not, Bool.and_eq_true, Bool.and_eq_false_imp, Bool.not_eq_true', Bool.not_eq_false', reduceCtorEq, or_false, or_true, Bool.or_eq_true, Bool.or_eq_false_iff, Int.not_lt, Int.not_le, beq_iff_eq, beq_eq_false_iff_ne, Nat.zero_add, Nat.mul_one, Nat.sub_zero, Int.toNat_natCast, decide_true, decide_false, cond_true, cond_false, wrap_id] at hh)))
  all_goals (first | with_reducible rfl | trivial | (first | exact Go.AE.sveq_self _ rfl | with_reducible assumption | omega | (simp only [decide_eq_true_eq, decide_eq_false_iff_not, Bool.and_eq_true, Bool.and_eq_false_imp, Bool.not_eq_true', Bool.not_eq_false', reduceCtorEq, or_false, or_true, Bool.or_eq_true, Bool.or_eq_false_iff, Int.not_lt, Int.not_le, beq_iff_eq, beq_eq_false_iff_ne]; omega) | (simp (disch := omega) only [decide_eq_true_eq, decide_eq_false_iff_not, Bool.and_eq_true, Bool.and_eq_false_imp, Bool.not_eq_true', Bool.not_eq_false', reduceCtorEq, or_false, or_true, Bool.or_eq_true, Bool.or_eq_false_iff, Int.not_lt, Int.not_le, beq_iff_eq, beq_eq_false_iff_ne, Nat.zero_add, Nat.mul_one, Nat.sub_zero, Int.toNat_natCast, decide_true, decide_false, cond_true, cond_false, wrap_id]; first | done | omega) | (simp (disch := omega) only [decide_eq_true_eq, decide_eq_false_iff_not, Bool.and_eq_true, Bool.and_eq_false_imp, Bool.not_eq_true', Bool.not_eq_false', reduceCtorEq, or_false, or_true, Bool.or_eq_true, Bool.or_eq_false_iff, Int.not_lt, Int.not_le, beq_iff_eq, beq_eq_false_iff_ne, Nat.zero_add, Nat.mul_one, Nat.sub_zero, Int.toNat_natCast, decide_true, decide_false, cond_true, cond_false, wrap_id] at *; first | done | omega)) | (rw [idx_not (isO_0 (by assumption))]; done) | ((first | rw [idx_yes (isO_1 (by assumption))] | rw [idx_not (isO_0 (by assumption))]); first | rfl | (simp; done)) | ((first | rw [idx_yes (isO_1 (by assumption))] at hh | rw [idx_not (isO_0 (by assumption))] at hh | skip); simp only [rwA]; (first | rw [idx_yes (isO_1 (by assumption))] | rw [idx_not (isO_0 (by assumption))]); first | rfl | (simp only [getD_app, cond_eq_ite, decide_eq_true_eq, decide_eq_false_iff_not, Bool.and_eq_true, Bool.and_eq_false_imp, Bool.not_eq_true', Bool.not_eq_false', reduceCtorEq, or_false, or_true, Bool.or_eq_true, Bool.or_eq_false_iff, Int.not_lt, Int.not_le, beq_iff_eq, beq_eq_false_iff_ne, Nat.zero_add, Nat.mul_one, Nat.sub_zero, Int.toNat_natCast, decide_true, decide_false, cond_true, cond_false, wrap_id]; simp only [List.length_append, List.length_singleton] at *; (repeat' split) <;> first | rfl | omega)) | (simp only [rwA]; rw [idx_not (isO_0 (by assumption))]; done) | (rw [show n = i by omega]; done) | exact Nat.le_of_eq (by rw [show n = i by omega]) | trace_state)
theorem rl (z : Nat → Nat → Int) (p : Int) (n N : Nat) (hN : n ≤ N) (hb : n ≤ 1000000) : LO Try.prog (lp Try.prog 17 0) (TZr p) (SZr z n N) (.x 0 (TR z p n) (SRr z p n N n)) := by
  refine LQ.one (loop_scr2 pk (okC_nil _) (by kernel_rfl) 2 (TR z p) (SRr z p n N) (fun i => n - i) (fun i => i ≤ n) (fun _ => True) (fun _ => .x 0 (TR z p n) (SRr z p n N n)) (fun i hi => rr z p n N i hN hb hi (idx_le _ i)) (j0 := 0) (Nat.zero_le _) rfl rfl (π := []) ?_)
  refine Go.AE.kchange (b := ((0 = 0 ∧ 0 = 0) ∧ p = p ∧ (List.length (Go.AE.idx (isO z p) 0) = 0 ∧ List.length (Go.AE.idx (isO z p) 0) = 0) ∧ (0 : Int) = (0 : Int) ∧ True) ∧ List.length (Go.AE.idx (isO z p) 0) = 0 ∧ ((0 = 0 ∧ n = n ∧ n ≤ n ∧ n ≤ n) ∧ True) ∧ (N ≤ N ∧ (∀ (jj0 : Nat), (jj0 < N → True ∧ z jj0 0 = z jj0 0 ∧ True))) ∧ True) (by kernel_rfl) ?_
  repeat' (first | (refine And.intro ?_ ?_) | (with_reducible intro hh; (try simp (disch := omega) only [decide_eq_true_eq, decide_eq_false_iff_not, Bool.and_eq_true, Bool.and_eq_false_imp, Bool.not_eq_true', Bool.not_eq_false', reduceCtorEq, or_false, or_true, Bool.or_eq_true, Bool.or_eq_false_iff, Int.not_lt, Int.not_le, beq_iff_eq, beq_eq_false_iff_ne, Nat.zero_add, Nat.mul_one, Nat.sub_zero, Int.toNat_natCast, decide_true, decide_false, cond_true, cond_false, wrap_id] at hh)))
  all_goals (first | with_reducible rfl | trivial | (first | exact Go.AE.sveq_self _ rfl | with_reducible assumption | omega | (simp only [decide_eq_true_eq, decide_eq_false_iff_not, Bool.and_eq_true, Bool.and_eq_false_imp, Bool.not_eq_true', Bool.not_eq_false', reduceCtorEq, or_false, or_true, Bool.or_eq_true, Bool.or_eq_false_iff, Int.not_lt, Int.not_le, beq_iff_eq, beq_eq_false_iff_ne]; omega) | (simp (disch := omega) only [decide_eq_true_eq, decide_eq_false_iff_not, Bool.and_eq_true, Bool.and_eq_false_imp, Bool.not_eq_true', Bool.not_eq_false', reduceCtorEq, or_false, or_true, Bool.or_eq_true, Bool.or_eq_false_iff, Int.not_lt, Int.not_le, beq_iff_eq, beq_eq_false_iff_ne, Nat.zero_add, Nat.mul_one, Nat.sub_zero, Int.toNat_natCast, decide_true, decide_false, cond_true, cond_false, wrap_id]; first | done | omega) | (simp (disch := omega) only [decide_eq_true_eq, decide_eq_false_iff_not, Bool.and_eq_true, Bool.and_eq_false_imp, Bool.not_eq_true', Bool.not_eq_false', reduceCtorEq, or_false, or_true, Bool.or_eq_true, Bool.or_eq_false_iff, Int.not_lt, Int.not_le, beq_iff_eq, beq_eq_false_iff_ne, Nat.zero_add, Nat.mul_one, Nat.sub_zero, Int.toNat_natCast, decide_true, decide_false, cond_true, cond_false, wrap_id] at *; first | done | omega)) | rfl | trace_state)
theorem rw' (z : Nat → Nat → Int) (p : Int) (n N cap : Nat) (x : Bool) (hN : n ≤ N) (hc : n ≤ cap) (hL : LO Try.prog (lp Try.prog 17 0) (TZr p) (SZr z n N) (.x 0 (TR z p n) (SRr z p n N n))) :
    ∃ r, callK (HS Try.prog [] (ctrL [])) Try.prog 17 [.ptr 0 0 0, .int .i64 p] (SA z n N cap x) (kV (.sl 2 0 (idx (isO z p) n).length (idx (isO z p) n).length false) (SC z p n) 2) r := by
  refine ⟨.L (TZr p) (SZr z n N) (Go.AE.Out.x 0 (TR z p n) (SRr z p n N n)) <| .E (0) [], Go.AE.kchange (b := (((0 = 0 ∧ 0 = 0) ∧ p = p ∧ True ∧ (0 : Int) = (0 : Int) ∧ True) ∧ ((0 = 0 ∧ n = n ∧ n ≤ n ∧ n ≤ cap) ∧ True) ∧ (N ≤ N ∧ (∀ (jj0 : Nat), (jj0 < N → True ∧ z jj0 0 = z jj0 0 ∧ True))) ∧ True) ∧
 LO (Go.Proofs.Try.prog) (Go.AE.lp Go.Proofs.Try.prog 17 0) (TZr p) (SZr z n N) (Go.AE.Out.x 0 (TR z p n) (SRr z p n N n)) ∧
 ((0 = 0 ∧ List.length (Go.AE.idx (isO z p) n) = List.length (Go.AE.idx (isO z p) n) ∧ List.length (Go.AE.idx (isO z p) n) ≤ List.length (Go.AE.idx (isO z p) n) ∧ List.length (Go.AE.idx (isO z p) n) ≤ List.length (Go.AE.idx (isO z p) n)) ∧ True) ∧ (List.length (Go.AE.idx (isO z p) n) ≤ List.length (Go.AE.idx (isO z p) n) ∧ (∀ (jj0 : Nat), (jj0 < List.length (Go.AE.idx (isO z p) n) → True ∧ rwA z p n jj0 0 = rwA z p n jj0 0 ∧ True))) ∧ True) (by kernel_rfl) ?_⟩
  repeat' (first | exact hL | (refine And.intro ?_ ?_) | (with_reducible intro hh; (try simp (disch := omega) only [decide_eq_true_eq, decide_eq_false_iff_not, Bool.and_eq_true, Bool.and_eq_false_imp, Bool.not_eq_true', Bool.not_eq_false', reduceCtorEq, or_false, or_true, Bool.or_eq_true, Bool.or_eq_false_iff, Int.not_lt, Int.not_le, beq_iff_eq, beq_eq_false_iff_ne, Nat.zero_add, Nat.mul_one, Nat.sub_zero, Int.toNat_natCast, decide_true, decide_false, cond_true, cond_false, wrap_id] at hh)))
  all_goals (first | with_reducible rfl | trivial | (first | exact Go.AE.sveq_self _ rfl | with_reducible assumption | omega | (simp only [decide_eq_true_eq, decide_eq_false_iff_not, Bool.and_eq_true, Bool.and_eq_false_imp, Bool.not_eq_true', Bool.not_eq_false', reduceCtorEq, or_false, or_true, Bool.or_eq_true, Bool.or_eq_false_iff, Int.not_lt, Int.not_le, beq_iff_eq, beq_eq_false_iff_ne]; omega) | (simp (disch := omega) only [decide_eq_true_eq, decide_eq_false_iff_not, Bool.and_eq_true, Bool.and_eq_false_imp, Bool.not_eq_true', Bool.not_eq_false', reduceCtorEq, or_false, or_true, Bool.or_eq_true, Bool.or_eq_false_iff, Int.not_lt, Int.not_le, beq_iff_eq, beq_eq_false_iff_ne, Nat.zero_add, Nat.mul_one, Nat.sub_zero, Int.toNat_natCast, decide_true, decide_false, cond_true, cond_false, wrap_id]; first | done | omega) | (simp (disch := omega) only [decide_eq_true_eq, decide_eq_false_iff_not, Bool.and_eq_true, Bool.and_eq_false_imp, Bool.not_eq_true', Bool.not_eq_false', reduceCtorEq, or_false, or_true, Bool.or_eq_true, Bool.or_eq_false_iff, Int.not_lt, Int.not_le, beq_iff_eq, beq_eq_false_iff_ne, Nat.zero_add, Nat.mul_one, Nat.sub_zero, Int.toNat_natCast, decide_true, decide_false, cond_true, cond_false, wrap_id] at *; first | done | omega)) | trace_state)
theorem ok_row : ok1 Try.prog 17 cAll := fun xs s q v s' hc hp => by
  unfold cAll at hc
  split at hc
  · rename_i b p
    split at hc
    · rename_i ver ro b1 n cap x hf
      split at hc
      · rename_i ver' ro' N row hf'
        cases hbb : Nat.beq b b1 with
        | true => rw [hbb] at hc; cases hc
        | false =>
          rw [hbb] at hc
          simp only [cond_false, newC_eq, Option.some.injEq, Prod.mk.injEq] at hc
          obtain ⟨rfl, rfl, rfl⟩ := hc
          obtain ⟨h1, h2, h3, hrow⟩ := hp
          have hne : b ≠ b1 := fun h => by subst h; rw [Nat.beq_refl] at hbb; cases hbb
          have hcl := scr_to pk (okC_nil _) rfl (rw' (zOf row) p n N cap x h1 h2 (rl (zOf row) p n N h1 h3))
          have := CL.frame (bs := [b, b1]) (wr := 0) (m := 1) (h1 := [(2, 0, .fam 1 false (idx (isO (zOf row) p) n).length fun k => rowN (rwA (zOf row) p n) k 1 0)]) (hF := (SC (zOf row) p n).h) hcl (fun i x e => ?_) (by simp) rfl rfl (fun i x e => ?_) (fun i j hi hj h => ?_) (s := s) (fun i x e => ?_)
          · exact this.imp fun v s' h => ⟨by rw [h.1]; show SV.sl (s.nx + 0 * s.st) 0 _ _ false = _; rw [Nat.zero_mul]; rfl, by rw [h.2]; simp only [frS, renHp, appH, delL, List.take, renB, renL_row, Nat.one_mul]; rw [show nmF [b, b1] s.nx s.st 2 = s.nx by show s.nx + 0 * s.st = s.nx; rw [Nat.zero_mul]; rfl]⟩
          · match i, e with
            | 0, e => cases e; exact ⟨by simp, rfl, fun h => by cases h⟩
            | 1, e => cases e; exact ⟨by simp, fun i _ => lowL_row 2 _ i _ 0, fun h => by cases h⟩
            | i + 2, e => have e2 : (none : Option (Nat × Bk)) = some x := e; cases e2
          · match i, e with
            | 0, e => cases e
            | 1, e => cases e
            | 2, e => cases e; exact ⟨rfl, rfl, by simp, fun i _ => lowL_row 3 _ i _ 0⟩
            | i + 3, e => have e2 : (none : Option (Nat × Bk)) = some x := e; cases e2
          · match i, j, hi, hj, h with
            | 0, 0, _, _, _ => rfl
            | 1, 1, _, _, _ => rfl
            | 0, 1, _, _, h => exact absurd h hne
            | 1, 0, _, _, h => exact absurd h.symm hne
          · match i, e with
            | 0, e => cases e; exact ⟨ver, _, hf, .inr ⟨rfl, rfl⟩⟩
            | 1, e => cases e; exact ⟨ver', _, hf', .inr ⟨rfl, by simp only [asRo, renB, renL_row]; rw [← hrow]⟩⟩
            | i + 2, e => have e2 : (none : Option (Nat × Bk)) = some x := e; cases e2
      · cases hc
    · cases hc
  · cases hc
/-- a list that was written over, up to i -/
def spz (z : Nat → Nat → Int) (i : Nat) : Nat → Nat → Int := fun k _ => if k < i then IntKind.wrap .i64 (-9 - z k 0) else z k 0
def TS (n i : Nat) : List SV := fr 17 [(0, .sl 0 0 n n false), (2, .int .i64 i)]
def SS (z : Nat → Nat → Int) (N i : Nat) : St := { h := [(0, 0, .fam 1 false N fun k => rowN (spz z i) k 1 0)], nx := 1, ck := 1, st := 1 }
def SW (z : Nat → Nat → Int) (N : Nat) : St := { h := [(0, 0, .fam 1 false N fun k => rowN z k 1 0)], nx := 1, ck := 1, st := 1 }
def SN : St := { h := [], nx := 1, ck := 1, st := 1 }
theorem sr (z : Nat → Nat → Int) (n N i : Nat) (hN : n ≤ N) (hb : n ≤ 1000000) (hi : i ≤ n) : ∃ r, exec (HS Try.prog [] (ctrL [])) Try.prog (lp Try.prog 18 0) (TS n i) (SS z N i) (kN 1 (TS n) (SS z N) (fun i => n - i) (fun i => i ≤ n) i) (kX 1 (fun _ => True) fun _ => .x 0 (TS n n) (SS z N n)) (kR 1 (fun _ => True) fun _ => .n [] s0) r := by
  refine ⟨.B (.tn 4 <| .E (i + 1) []) (.E (0) []), Go.AE.kchange (b := (((decide ((↑i : Int) < (↑n : Int))) = true → (decide ((0 : Int) ≤ (↑i : Int)) && decide ((↑i : Int) < (↑n : Int))) = true ∧
 (decide (0 + Int.toNat (↑i : Int) * 1 < N)) = true ∧
 (decide ((0 : Int) ≤ (↑i : Int)) && decide ((↑i : Int) < (↑n : Int))) = true ∧
 (decide (0 + Int.toNat (↑i : Int) * 1 < N)) = true ∧
 i + 1 ≤ n ∧ n - (i + 1) < n - i ∧ ((0 = 0 ∧ n = n ∧ n ≤ n ∧ n ≤ n) ∧ IntKind.wrap IntKind.i64 ((↑i : Int) + (1 : Int)) = (↑(i + 1) : Int) ∧ True) ∧ (N ≤ N ∧ (∀ (jj0 : Nat), (jj0 < N → True ∧ (bif decide (jj0 = 0 + Int.toNat (↑i : Int) * 1) then IntKind.wrap IntKind.i64 ((-9 : Int) - spz z i (0 + Int.toNat (↑i : Int) * 1) 0) else spz z i jj0 0) = spz z (i + 1) jj0 0 ∧ True))) ∧ True) ∧ ((decide ((↑i : Int) < (↑n : Int))) = false → True ∧ ((0 = 0 ∧ n = n ∧ n ≤ n ∧ n ≤ n) ∧ (↑i : Int) = (↑n : Int) ∧ True) ∧ (N ≤ N ∧ (∀ (jj0 : Nat), (jj0 < N → True ∧ spz z i jj0 0 = spz z n jj0 0 ∧ True))) ∧ True))) (by kernel_rfl) ?_⟩
  repeat' (first | (refine And.intro ?_ ?_) | (with_reducible intro hh; (try simp (disch := omega) only [decide_eq_true_eq, decide_eq_false_iff_not, Bool.and_eq_true, Bool.and_eq_false_imp, Bool.not_eq_true', Bool.not_eq_false', reduceCtorEq, or_false, or_true, Bool.or_eq_true, Bool.or_eq_false_iff, Int.not_lt, Int.not_le, beq_iff_eq, beq_eq_false_iff_ne, Nat.zero_add, Nat.mul_one, Nat.sub_zero, Int.toNat_natCast, decide_true, decide_false, cond_true, cond_false, wrap_id] at hh)))
  all_goals (first | with_reducible rfl | trivial | (first | exact Go.AE.sveq_self _ rfl | with_reducible assumption | omega | (simp only [decide_eq_true_eq, decide_eq_false_iff_not, Bool.and_eq_true, Bool.and_eq_false_imp, Bool.not_eq_true', Bool.not_eq_false', reduceCtorEq, or_false, or_true, Bool.or_eq_true, Bool.or_eq_false_iff, Int.not_lt, Int.not_le, beq_iff_eq, beq_eq_false_iff_ne]; omega) | (simp (disch := omega) only [decide_eq_true_eq, decide_eq_false_iff_not, Bool.and_eq_true, Bool.and_eq_false_imp, Bool.not_eq_true', Bool.not_eq_false', reduceCtorEq, or_false, or_true, Bool.or_eq_true, Bool.or_eq_false_iff, Int.not_lt, Int.not_le, beq_iff_eq, beq_eq_false_iff_ne, Nat.zero_add, Nat.mul_one, Nat.sub_zero, Int.toNat_natCast, decide_true, decide_false, cond_true, cond_false, wrap_id]; first | done | omega) | (simp (disch := omega) only [decide_eq_true_eq, decide_eq_false_iff_not, Bool.and_eq_true, Bool.and_eq_false_imp, Bool.not_eq_true', Bool.not_eq_false', reduceCtorEq, or_false, or_true, Bool.or_eq_true, Bool.or_eq_false_iff, Int.not_lt, Int.not_le, beq_iff_eq, beq_eq_false_iff_ne, Nat.zero_add, Nat.mul_one, Nat.sub_zero, Int.toNat_natCast, decide_true, decide_false, cond_true, cond_false, wrap_id] at *; first | done | omega)) | (rw [show n = i by omega]; done) | (simp only [spz, cond_eq_ite, decide_eq_true_eq, decide_eq_false_iff_not, Bool.and_eq_true, Bool.and_eq_false_imp, Bool.not_eq_true', Bool.not_eq_false', reduceCtorEq, or_false, or_true, Bool.or_eq_true, Bool.or_eq_false_iff, Int.not_lt, Int.not_le, beq_iff_eq, beq_eq_false_iff_ne, Nat.zero_add, Nat.mul_one, Nat.sub_zero, Int.toNat_natCast, decide_true, decide_false, cond_true, cond_false, wrap_id]; (repeat' split) <;> first | rfl | omega | (subst_vars; rfl) | (congr 1; congr 1; congr 1; omega)) | trace_state)
theorem sl' (z : Nat → Nat → Int) (n N : Nat) (hN : n ≤ N) (hb : n ≤ 1000000) : LO Try.prog (lp Try.prog 18 0) (TS n 0) (SS z N 0) (.x 0 (TS n n) (SS z N n)) :=
  LQ.one (loop_scr pk (okC_nil _) (by kernel_rfl) 1 (TS n) (SS z N) (fun i => n - i) (fun i => i ≤ n) (fun _ => True) (fun _ => .x 0 (TS n n) (SS z N n)) (fun _ => rfl) (fun i hi => sr z n N i hN hb hi) (Nat.zero_le _) rfl)
theorem sw (z : Nat → Nat → Int) (n N : Nat) (hN : n ≤ N) (hL : LO Try.prog (lp Try.prog 18 0) (TS n 0) (SS z N 0) (.x 0 (TS n n) (SS z N n))) :
    ∃ r, callK (HS Try.prog [] (ctrL [])) Try.prog 18 [.sl 0 0 n n false] (SW z N) (kV (.tup []) SN 1) r := by
  refine ⟨.L (TS n 0) (SS z N 0) (Go.AE.Out.x 0 (TS n n) (SS z N n)) <| .E (0) [], Go.AE.kchange (b := (((0 = 0 ∧ n = n ∧ n ≤ n ∧ n ≤ n) ∧ (0 : Int) = (0 : Int) ∧ True) ∧ (N ≤ N ∧ (∀ (jj0 : Nat), (jj0 < N → True ∧ z jj0 0 = spz z 0 jj0 0 ∧ True))) ∧ True) ∧
 LO (Go.Proofs.Try.prog) (Go.AE.lp Go.Proofs.Try.prog 18 0) (TS n 0) (SS z N 0) (Go.AE.Out.x 0 (TS n n) (SS z N n)) ∧
 (True ∧ True) ∧ True) (by kernel_rfl) ?_⟩
  repeat' (first | exact hL | (refine And.intro ?_ ?_) | (with_reducible intro hh; (try simp (disch := omega) only [decide_eq_true_eq, decide_eq_false_iff_not, Bool.and_eq_true, Bool.and_eq_false_imp, Bool.not_eq_true', Bool.not_eq_false', reduceCtorEq, or_false, or_true, Bool.or_eq_true, Bool.or_eq_false_iff, Int.not_lt, Int.not_le, beq_iff_eq, beq_eq_false_iff_ne, Nat.zero_add, Nat.mul_one, Nat.sub_zero, Int.toNat_natCast, decide_true, decide_false, cond_true, cond_false, wrap_id] at hh)))
  all_goals (first | with_reducible rfl | trivial | (first | exact Go.AE.sveq_self _ rfl | with_reducible assumption | omega | (simp only [decide_eq_true_eq, decide_eq_false_iff_not, Bool.and_eq_true, Bool.and_eq_false_imp, Bool.not_eq_true', Bool.not_eq_false', reduceCtorEq, or_false, or_true, Bool.or_eq_true, Bool.or_eq_false_iff, Int.not_lt, Int.not_le, beq_iff_eq, beq_eq_false_iff_ne]; omega) | (simp (disch := omega) only [decide_eq_true_eq, decide_eq_false_iff_not, Bool.and_eq_true, Bool.and_eq_false_imp, Bool.not_eq_true', Bool.not_eq_false', reduceCtorEq, or_false, or_true, Bool.or_eq_true, Bool.or_eq_false_iff, Int.not_lt, Int.not_le, beq_iff_eq, beq_eq_false_iff_ne, Nat.zero_add, Nat.mul_one, Nat.sub_zero, Int.toNat_natCast, decide_true, decide_false, cond_true, cond_false, wrap_id]; first | done | omega) | (simp (disch := omega) only [decide_eq_true_eq, decide_eq_false_iff_not, Bool.and_eq_true, Bool.and_eq_false_imp, Bool.not_eq_true', Bool.not_eq_false', reduceCtorEq, or_false, or_true, Bool.or_eq_true, Bool.or_eq_false_iff, Int.not_lt, Int.not_le, beq_iff_eq, beq_eq_false_iff_ne, Nat.zero_add, Nat.mul_one, Nat.sub_zero, Int.toNat_natCast, decide_true, decide_false, cond_true, cond_false, wrap_id] at *; first | done | omega)) | (simp only [spz]; rw [if_neg (Nat.not_lt_zero _)]; done) | trace_state)
def cSp : C1 := fun xs s => match xs with
  | [.sl b 0 n _ _] => match find s.h b with
    | some (_, .fam 1 false N row) => forgC s b (n ≤ N ∧ n ≤ 1000000 ∧ row = fun i => rowN (zOf row) i 1 0)
    | _ => none
  | _ => none
theorem ok_sp : ok1 Try.prog 18 cSp := fun xs s q v s' hc hp => by
  unfold cSp at hc
  split at hc
  · rename_i b n cap x
    split at hc
    · rename_i ver N row hf
      simp only [forgC_eq, Option.some.injEq, Prod.mk.injEq] at hc
      obtain ⟨rfl, rfl, rfl⟩ := hc
      obtain ⟨h1, h2, hrow⟩ := hp
      refine CL.args (ys := [.sl b 0 n n false]) (fun ρ us hv => by cases hv with | cons h1 h2 => exact .cons h1.forget h2) ?_
      have hcl := scr_to pk (okC_nil _) rfl (sw (zOf row) n N h1 (sl' (zOf row) n N h1 h2))
      have := CL.frame (bs := [b]) (wr := 1) (m := 0) (h1 := []) (hF := []) (ck' := 1) (hcl : CL Try.prog 18 _ (SW (zOf row) N) _) (fun i x e => ?_) (by simp) rfl rfl (fun i x e => by cases e) (fun i j hi hj h => ?_) (s := s) (fun i x e => ?_)
      · exact this.imp fun v s' h => ⟨h.1, by rw [h.2]; simp only [frS, renHp, appH, delL, List.take, Nat.zero_mul, Nat.add_zero]⟩
      · match i, e with
        | 0, e => cases e; exact ⟨by simp, fun i _ => lowL_row 1 _ i _ 0, fun _ => by simp⟩
        | i + 1, e => have e2 : (none : Option (Nat × Bk)) = some x := e; cases e2
      · match i, j, hi, hj, h with
        | 0, 0, _, _, _ => rfl
      · match i, e with
        | 0, e => cases e; exact ⟨ver, _, hf, .inl (by simp only [renB, renL_row]; rw [← hrow])⟩
        | i + 1, e => have e2 : (none : Option (Nat × Bk)) = some x := e; cases e2
    · cases hc
  · cases hc
end Go.Proofs.Ytiimpdpglhbgeaa.own