/- Nics: messages written over, compared. No condition. -/
import Derived.Test.YtkekeomkbcghnaaNicC
namespace Go.Proofs.Ytkekeomkbcghnaa.nics
open Go Go.Proofs Go.AE Go.RowKit nc
set_option maxRecDepth 100000
set_option linter.unusedVariables false
set_option linter.unusedSimpArgs false
abbrev rA (a : Nat → Nat → Int) (s : Nat → Nat → ByteArray) (i : Nat) : List SV := [.int .i64 (a i 0), .int .i64 (a i 1), .int .i64 (a i 2), .str (s i 3)]
theorem sq0 (x : ByteArray) : seqB x (ByteArray.mk #[]) = decide (x.size = 0) := by
  unfold seqB
  rw [ByteArray.toList_eq, ByteArray.toList_eq]
  apply Bool.eq_iff_iff.2
  rw [beq_iff_eq, decide_eq_true_eq]
  constructor
  · intro h
    show x.data.size = 0
    rw [← Array.length_toList, h]; rfl
  · intro h
    have h : x.data.size = 0 := h
    have : x.data = #[] := Array.eq_empty_of_size_eq_zero h
    rw [this]
theorem sqs (x : ByteArray) : seqB x x = true := seqB_of rfl
theorem eqB_e {N : Nat} {π : List (Nat × Nat)} {m : Nat} {row : Nat → List SV} (h : m = 0) : eqB N π (.flat 2 false []) (.fam 2 false m row) := by subst h; exact trivial
theorem eqL_sh {π : List (Nat × Nat)} {f f' : Nat → Int} {d d' : Nat → ByteArray} {n k : Nat} (hf : f' k = f (k + 1)) (hd : d' k = d (k + 1)) : eqL π (selL (decide (k < 0)) (Rows.row 2 (Rows.lst []) k) (Rows.row 2 (Rows.fam n fun i => rM f d (1 + i)) (k - 0))) (rM f' d' k) := by
  rw [selL0]; simp only [row_fam, Nat.sub_zero]
  rw [Nat.add_comm 1 k]; exact ⟨hf.symm, hd.symm, trivial⟩
theorem sameM_self (f : Nat → Int) (d : Nat → ByteArray) (n : Nat) : sameM f d n f d n = true := sameM_yes rfl fun _ _ => ⟨rfl, rfl⟩
theorem fO_rM (f : Nat → Int) (d : Nat → ByteArray) : fO (rM f d) = f := rfl
theorem dO_rM (f : Nat → Int) (d : Nat → ByteArray) : dO (rM f d) = d := rfl
/-! ### written over -/
def sp (f : Nat → Int) (i k : Nat) : Int := if k < i then bits .xor .i64 (f k) 90 else f k
def TS (n i : Nat) : List SV := fr 19 [(0, .sl 0 0 n n false), (2, .int .i64 i)]
def SS (f : Nat → Int) (d : Nat → ByteArray) (n i : Nat) : St := { h := [(0, 0, .fam 2 false n (rM (sp f i) d))], nx := 1, ck := 1, st := 1 }
def SW (f : Nat → Int) (d : Nat → ByteArray) (n : Nat) : St := { h := [(0, 0, .fam 2 false n (rM f d))], nx := 1, ck := 1, st := 1 }
def SN : St := { h := [], nx := 1, ck := 1, st := 1 }
theorem sr (f : Nat → Int) (d : Nat → ByteArray) (n i : Nat) (hb : n ≤ 1000000) (hi : i ≤ n) : ∃ r, exec (HS Try.prog [41] (ctrL [])) Try.prog (lp Try.prog 24 0) (TS n i) (SS f d n i) (kN 1 (TS n) (SS f d n) (fun i => n - i) (fun i => i ≤ n) i) (kX 1 (fun _ => True) fun _ => .x 0 (TS n n) (SS f d n n)) (kR 1 (fun _ => True) fun _ => .n [] s0) r := by
  refine ⟨.B (.tn 4 <| .E (i + 1) []) (.E (0) []), Go.AE.kchange (b := (((decide ((↑i : Int) < (↑n : Int))) = true → (decide ((0 : Int) ≤ (↑i : Int)) && decide ((↑i : Int) < (↑n : Int))) = true ∧
 (decide (0 + Int.toNat (↑i : Int) * 1 < n)) = true ∧
 (decide ((0 : Int) ≤ (↑i : Int)) && decide ((↑i : Int) < (↑n : Int))) = true ∧
 (decide (0 + Int.toNat (↑i : Int) * 1 < n)) = true ∧
 i + 1 ≤ n ∧ n - (i + 1) < n - i ∧ ((0 = 0 ∧ n = n ∧ n ≤ n ∧ n ≤ n) ∧ IntKind.wrap IntKind.i64 ((↑i : Int) + (1 : Int)) = (↑(i + 1) : Int) ∧ True) ∧ (n ≤ n ∧ (∀ (jj0 : Nat), (jj0 < n → True ∧ ((bif decide (jj0 = 0 + Int.toNat (↑i : Int) * 1) then Go.bits BinOp.xor IntKind.i64 (sp f i (0 + Int.toNat (↑i : Int) * 1)) (90 : Int) else sp f i jj0) = sp f (i + 1) jj0) ∧ d jj0 = d jj0 ∧ True))) ∧ True) ∧ ((decide ((↑i : Int) < (↑n : Int))) = false → True ∧ ((0 = 0 ∧ n = n ∧ n ≤ n ∧ n ≤ n) ∧ (↑i : Int) = (↑n : Int) ∧ True) ∧ (n ≤ n ∧ (∀ (jj0 : Nat), (jj0 < n → True ∧ sp f i jj0 = sp f n jj0 ∧ d jj0 = d jj0 ∧ True))) ∧ True))) (by kernel_rfl) ?_⟩
  repeat' (first | (refine And.intro ?_ ?_) | (with_reducible intro hh; (try simp (disch := omega) only [decide_eq_true_eq, decide_eq_false_iff_not, Bool.and_eq_true, Bool.and_eq_false_imp, Bool.not_eq_true', Bool.not_eq_false', reduceCtorEq, or_false, or_true, Bool.or_eq_true, Bool.or_eq_false_iff, Int.not_lt, Int.not_le, beq_iff_eq, beq_eq_false_iff_ne, Nat.zero_add, Nat.mul_one, Nat.sub_zero, Int.toNat_natCast, decide_true, decide_false, cond_true, cond_false, wrap_id, beq_self_eq_true, tmod_nn, tdiv_nn, Bool.true_and, Bool.and_true, true_and, and_true, and_self, Bool.not_true, Bool.not_false] at hh)))
  all_goals (first | with_reducible rfl | exact True.intro | (first | with_reducible assumption | omega | (simp only [decide_eq_true_eq, decide_eq_false_iff_not, Bool.and_eq_true, Bool.and_eq_false_imp, Bool.not_eq_true', Bool.not_eq_false', reduceCtorEq, or_false, or_true, Bool.or_eq_true, Bool.or_eq_false_iff, Int.not_lt, Int.not_le, beq_iff_eq, beq_eq_false_iff_ne]; omega) | (simp (disch := omega) only [decide_eq_true_eq, decide_eq_false_iff_not, Bool.and_eq_true, Bool.and_eq_false_imp, Bool.not_eq_true', Bool.not_eq_false', reduceCtorEq, or_false, or_true, Bool.or_eq_true, Bool.or_eq_false_iff, Int.not_lt, Int.not_le, beq_iff_eq, beq_eq_false_iff_ne, Nat.zero_add, Nat.mul_one, Nat.sub_zero, Int.toNat_natCast, decide_true, decide_false, cond_true, cond_false, wrap_id, beq_self_eq_true, tmod_nn, tdiv_nn, Bool.true_and, Bool.and_true, true_and, and_true, and_self, Bool.not_true, Bool.not_false]; first | done | omega) | (simp (disch := omega) only [decide_eq_true_eq, decide_eq_false_iff_not, Bool.and_eq_true, Bool.and_eq_false_imp, Bool.not_eq_true', Bool.not_eq_false', reduceCtorEq, or_false, or_true, Bool.or_eq_true, Bool.or_eq_false_iff, Int.not_lt, Int.not_le, beq_iff_eq, beq_eq_false_iff_ne, Nat.zero_add, Nat.mul_one, Nat.sub_zero, Int.toNat_natCast, decide_true, decide_false, cond_true, cond_false, wrap_id, beq_self_eq_true, tmod_nn, tdiv_nn, Bool.true_and, Bool.and_true, true_and, and_true, and_self, Bool.not_true, Bool.not_false] at *; first | done | omega)) | (rw [show n = i by omega]; done) | (simp only [sp, cond_eq_ite, decide_eq_true_eq, Nat.zero_add, Nat.mul_one, Int.toNat_natCast]; (repeat' split) <;> first | rfl | (exfalso; omega) | (subst_vars; rfl) | (congr 1; omega)) | (rw [Bool.cond_self]; first | exact trivial | rfl) | trace_state)
theorem sl' (f : Nat → Int) (d : Nat → ByteArray) (n : Nat) (hb : n ≤ 1000000) : LO Try.prog (lp Try.prog 24 0) (TS n 0) (SS f d n 0) (.x 0 (TS n n) (SS f d n n)) :=
  LQ.one (loop_scr pk (okC_nil _) (by kernel_rfl) 1 (TS n) (SS f d n) (fun i => n - i) (fun i => i ≤ n) (fun _ => True) (fun _ => .x 0 (TS n n) (SS f d n n)) (fun _ => rfl) (fun i hi => sr f d n i hb hi) (Nat.zero_le _) rfl)
theorem sw (f : Nat → Int) (d : Nat → ByteArray) (n : Nat) (hL : LO Try.prog (lp Try.prog 24 0) (TS n 0) (SS f d n 0) (.x 0 (TS n n) (SS f d n n))) : ∃ r, callK (HS Try.prog [41] (ctrL [])) Try.prog 24 [.sl 0 0 n n false] (SW f d n) (kV (.tup []) SN 1) r := by
  refine ⟨.L (TS n 0) (SS f d n 0) (Go.AE.Out.x 0 (TS n n) (SS f d n n)) <| .E (0) [], Go.AE.kchange (b := (((0 = 0 ∧ n = n ∧ n ≤ n ∧ n ≤ n) ∧ (0 : Int) = (0 : Int) ∧ True) ∧ (n ≤ n ∧ (∀ (jj0 : Nat), (jj0 < n → True ∧ f jj0 = sp f 0 jj0 ∧ d jj0 = d jj0 ∧ True))) ∧ True) ∧
 LO (Go.Proofs.Try.prog) (Go.AE.lp Go.Proofs.Try.prog 24 0) (TS n 0) (SS f d n 0) (Go.AE.Out.x 0 (TS n n) (SS f d n n)) ∧
 (True ∧ True) ∧ True) (by kernel_rfl) ?_⟩
  repeat' (first | exact hL | (refine And.intro ?_ ?_) | (with_reducible intro hh; (try simp (disch := omega) only [decide_eq_true_eq, decide_eq_false_iff_not, Bool.and_eq_true, Bool.and_eq_false_imp, Bool.not_eq_true', Bool.not_eq_false', reduceCtorEq, or_false, or_true, Bool.or_eq_true, Bool.or_eq_false_iff, Int.not_lt, Int.not_le, beq_iff_eq, beq_eq_false_iff_ne, Nat.zero_add, Nat.mul_one, Nat.sub_zero, Int.toNat_natCast, decide_true, decide_false, cond_true, cond_false, wrap_id, beq_self_eq_true, tmod_nn, tdiv_nn, Bool.true_and, Bool.and_true, true_and, and_true, and_self, Bool.not_true, Bool.not_false] at hh)))
  all_goals (first | with_reducible rfl | exact True.intro | (first | with_reducible assumption | omega | (simp only [decide_eq_true_eq, decide_eq_false_iff_not, Bool.and_eq_true, Bool.and_eq_false_imp, Bool.not_eq_true', Bool.not_eq_false', reduceCtorEq, or_false, or_true, Bool.or_eq_true, Bool.or_eq_false_iff, Int.not_lt, Int.not_le, beq_iff_eq, beq_eq_false_iff_ne]; omega) | (simp (disch := omega) only [decide_eq_true_eq, decide_eq_false_iff_not, Bool.and_eq_true, Bool.and_eq_false_imp, Bool.not_eq_true', Bool.not_eq_false', reduceCtorEq, or_false, or_true, Bool.or_eq_true, Bool.or_eq_false_iff, Int.not_lt, Int.not_le, beq_iff_eq, beq_eq_false_iff_ne, Nat.zero_add, Nat.mul_one, Nat.sub_zero, Int.toNat_natCast, decide_true, decide_false, cond_true, cond_false, wrap_id, beq_self_eq_true, tmod_nn, tdiv_nn, Bool.true_and, Bool.and_true, true_and, and_true, and_self, Bool.not_true, Bool.not_false]; first | done | omega) | (simp (disch := omega) only [decide_eq_true_eq, decide_eq_false_iff_not, Bool.and_eq_true, Bool.and_eq_false_imp, Bool.not_eq_true', Bool.not_eq_false', reduceCtorEq, or_false, or_true, Bool.or_eq_true, Bool.or_eq_false_iff, Int.not_lt, Int.not_le, beq_iff_eq, beq_eq_false_iff_ne, Nat.zero_add, Nat.mul_one, Nat.sub_zero, Int.toNat_natCast, decide_true, decide_false, cond_true, cond_false, wrap_id, beq_self_eq_true, tmod_nn, tdiv_nn, Bool.true_and, Bool.and_true, true_and, and_true, and_self, Bool.not_true, Bool.not_false] at *; first | done | omega)) | (exact (if_neg (Nat.not_lt_zero _)).symm) | trace_state)
theorem sw0 : ∃ r, callK (HS Try.prog [41] (ctrL [])) Try.prog 24 [.nils] s0 (kV (.tup []) s0 0) r := by
  refine ⟨.U <| .Z <| .E (0) [], Go.AE.kchange (b := (True ∧ True) ∧ True) (by kernel_rfl) ?_⟩
  repeat' (first | (refine And.intro ?_ ?_) | (with_reducible intro hh; (try simp (disch := omega) only [decide_eq_true_eq, decide_eq_false_iff_not, Bool.and_eq_true, Bool.and_eq_false_imp, Bool.not_eq_true', Bool.not_eq_false', reduceCtorEq, or_false, or_true, Bool.or_eq_true, Bool.or_eq_false_iff, Int.not_lt, Int.not_le, beq_iff_eq, beq_eq_false_iff_ne, Nat.zero_add, Nat.mul_one, Nat.sub_zero, Int.toNat_natCast, decide_true, decide_false, cond_true, cond_false, wrap_id, beq_self_eq_true, tmod_nn, tdiv_nn, Bool.true_and, Bool.and_true, true_and, and_true, and_self, Bool.not_true, Bool.not_false] at hh)))
  all_goals (first | with_reducible rfl | exact True.intro | (first | with_reducible assumption | omega | (simp only [decide_eq_true_eq, decide_eq_false_iff_not, Bool.and_eq_true, Bool.and_eq_false_imp, Bool.not_eq_true', Bool.not_eq_false', reduceCtorEq, or_false, or_true, Bool.or_eq_true, Bool.or_eq_false_iff, Int.not_lt, Int.not_le, beq_iff_eq, beq_eq_false_iff_ne]; omega) | (simp (disch := omega) only [decide_eq_true_eq, decide_eq_false_iff_not, Bool.and_eq_true, Bool.and_eq_false_imp, Bool.not_eq_true', Bool.not_eq_false', reduceCtorEq, or_false, or_true, Bool.or_eq_true, Bool.or_eq_false_iff, Int.not_lt, Int.not_le, beq_iff_eq, beq_eq_false_iff_ne, Nat.zero_add, Nat.mul_one, Nat.sub_zero, Int.toNat_natCast, decide_true, decide_false, cond_true, cond_false, wrap_id, beq_self_eq_true, tmod_nn, tdiv_nn, Bool.true_and, Bool.and_true, true_and, and_true, and_self, Bool.not_true, Bool.not_false]; first | done | omega) | (simp (disch := omega) only [decide_eq_true_eq, decide_eq_false_iff_not, Bool.and_eq_true, Bool.and_eq_false_imp, Bool.not_eq_true', Bool.not_eq_false', reduceCtorEq, or_false, or_true, Bool.or_eq_true, Bool.or_eq_false_iff, Int.not_lt, Int.not_le, beq_iff_eq, beq_eq_false_iff_ne, Nat.zero_add, Nat.mul_one, Nat.sub_zero, Int.toNat_natCast, decide_true, decide_false, cond_true, cond_false, wrap_id, beq_self_eq_true, tmod_nn, tdiv_nn, Bool.true_and, Bool.and_true, true_and, and_true, and_self, Bool.not_true, Bool.not_false] at *; first | done | omega)) | trace_state)
def cSpM : C1 := fun xs s => match xs with
  | [.sl b 0 n _ _] => match find s.h b with
    | some (_, .fam 2 false N row) => forgC s b (N = n ∧ n ≤ 1000000 ∧ row = rM (fO row) (dO row))
    | _ => none
  | [.nils] => some (True, .tup [], s)
  | _ => none
theorem ok_spM : ok1 Try.prog 24 cSpM := fun xs s q v s' hc hp => by
  unfold cSpM at hc
  split at hc
  · rename_i b n cap x
    split at hc
    · rename_i ver N row hf
      simp only [forgC_eq, Option.some.injEq, Prod.mk.injEq] at hc
      obtain ⟨rfl, rfl, rfl⟩ := hc
      obtain ⟨h1, h2, hrow⟩ := hp
      subst h1
      refine CL.args (ys := [.sl b 0 N N false]) (fun ρ us hv => by cases hv with | cons h1 h2 => exact .cons h1.forget h2) ?_
      have hcl := scr_to pk (okC_nil _) rfl (sw (fO row) (dO row) N (sl' (fO row) (dO row) N h2))
      have := CL.frame' (bs := [b]) (wr := 1) (m := 0) (h1 := []) (hF := []) (ck' := 1) (hcl : CL Try.prog 24 _ (SW (fO row) (dO row) N) _) (fun i x e => ?_) (by simp) rfl rfl (fun i x e => by cases e) (fun i j hi hj h => ?_) (s := s) (fun i x e => ?_)
      · exact this.imp fun v s' h => ⟨h.1, by rw [h.2]; simp only [frS, renHp, appH, delL, List.take, Nat.zero_mul, Nat.add_zero]⟩
      · match i, e with
        | 0, e => cases e; exact ⟨by simp, fun i _ => rfl, fun _ => by simp⟩
        | i + 1, e => have e2 : (none : Option (Nat × Bk)) = some x := e; cases e2
      · match i, j, hi, hj, h with
        | 0, 0, _, _, _ => rfl
      · match i, e with
        | 0, e => cases e; exact ⟨ver, _, hf, .inl (by rw [hrow]; rfl)⟩
        | i + 1, e => have e2 : (none : Option (Nat × Bk)) = some x := e; cases e2
    · cases hc
  · simp only [Option.some.injEq, Prod.mk.injEq] at hc
    obtain ⟨rfl, rfl, rfl⟩ := hc
    exact CL.reads (xs := [.nils]) (v0 := .tup []) (h0 := []) (k1 := 0) (ck := 0) (π := fun i => i) ((scr_to pk (okC_nil _) rfl sw0).imp (k' := fun v _ => v = .tup []) fun v s h => h.1) (fun i x h => by cases h) rfl rfl (fun i x h => by cases h)
  · cases hc

/-! ### compared: nothing, or lists -/
theorem sm0 : ∃ r, callK (HS Try.prog [41] (ctrL [])) Try.prog 20 [.nils, .nils] s0 (kV (.bool true) s0 0) r := by
  refine ⟨.Z <| .U <| .Z <| .E (0) [], Go.AE.kchange (b := (Bool.true = Bool.true ∧ True) ∧ True) (by kernel_rfl) ?_⟩
  repeat' (first | (refine And.intro ?_ ?_) | (with_reducible intro hh; (try simp (disch := omega) only [decide_eq_true_eq, decide_eq_false_iff_not, Bool.and_eq_true, Bool.and_eq_false_imp, Bool.not_eq_true', Bool.not_eq_false', reduceCtorEq, or_false, or_true, Bool.or_eq_true, Bool.or_eq_false_iff, Int.not_lt, Int.not_le, beq_iff_eq, beq_eq_false_iff_ne, Nat.zero_add, Nat.mul_one, Nat.sub_zero, Int.toNat_natCast, decide_true, decide_false, cond_true, cond_false, wrap_id, beq_self_eq_true, tmod_nn, tdiv_nn, Bool.true_and, Bool.and_true, true_and, and_true, and_self, Bool.not_true, Bool.not_false] at hh)))
  all_goals (first | with_reducible rfl | exact True.intro | (first | with_reducible assumption | omega | (simp only [decide_eq_true_eq, decide_eq_false_iff_not, Bool.and_eq_true, Bool.and_eq_false_imp, Bool.not_eq_true', Bool.not_eq_false', reduceCtorEq, or_false, or_true, Bool.or_eq_true, Bool.or_eq_false_iff, Int.not_lt, Int.not_le, beq_iff_eq, beq_eq_false_iff_ne]; omega) | (simp (disch := omega) only [decide_eq_true_eq, decide_eq_false_iff_not, Bool.and_eq_true, Bool.and_eq_false_imp, Bool.not_eq_true', Bool.not_eq_false', reduceCtorEq, or_false, or_true, Bool.or_eq_true, Bool.or_eq_false_iff, Int.not_lt, Int.not_le, beq_iff_eq, beq_eq_false_iff_ne, Nat.zero_add, Nat.mul_one, Nat.sub_zero, Int.toNat_natCast, decide_true, decide_false, cond_true, cond_false, wrap_id, beq_self_eq_true, tmod_nn, tdiv_nn, Bool.true_and, Bool.and_true, true_and, and_true, and_self, Bool.not_true, Bool.not_false]; first | done | omega) | (simp (disch := omega) only [decide_eq_true_eq, decide_eq_false_iff_not, Bool.and_eq_true, Bool.and_eq_false_imp, Bool.not_eq_true', Bool.not_eq_false', reduceCtorEq, or_false, or_true, Bool.or_eq_true, Bool.or_eq_false_iff, Int.not_lt, Int.not_le, beq_iff_eq, beq_eq_false_iff_ne, Nat.zero_add, Nat.mul_one, Nat.sub_zero, Int.toNat_natCast, decide_true, decide_false, cond_true, cond_false, wrap_id, beq_self_eq_true, tmod_nn, tdiv_nn, Bool.true_and, Bool.and_true, true_and, and_true, and_self, Bool.not_true, Bool.not_false] at *; first | done | omega)) | trace_state)
def cSM2 : C1 := fun xs s => match xs with
  | [.nils, .nils] => some (True, .bool true, s)
  | xs => cSM xs s
theorem ok_m2 : ok1 Try.prog 20 cSM2 := fun xs s q v s' hc hp => by
  unfold cSM2 at hc
  split at hc
  · simp only [Option.some.injEq, Prod.mk.injEq] at hc
    obtain ⟨rfl, rfl, rfl⟩ := hc
    exact CL.reads (xs := [.nils, .nils]) (v0 := .bool true) (h0 := []) (k1 := 0) (ck := 0) (π := fun i => i) ((scr_to pk (okC_nil _) rfl sm0).imp (k' := fun v _ => v = .bool true) fun v s h => h.1) (fun i x h => by cases h) rfl rfl (fun i x h => by cases h)
  · exact ok_m _ s q v s' hc hp
def ctr : Ctr := ctrL [(12, cTrue), (20, cSM2), (24, cSpM), (37, cCl)]
theorem okc : okC Try.prog ctr := okC_cons (ok_trueE pk 100 aw0) <| okC_cons ok_m2 <| okC_cons ok_spM <| okC_cons ok_cl <| okC_nil _

end Go.Proofs.Ytkekeomkbcghnaa.nics
