/- Package tlb: what find, Get, Put and Len answer, as Lean functions of the lines' numbers. No condition. -/
import Derived.Test.YthjopinmplcpfaaE4
import Derived.Test.YthjopinmplcpfaaProg
namespace Go.Proofs.Ythjopinmplcpfaa.tl
open Go Go.Proofs Go.AE Go.RowKit
set_option maxRecDepth 100000
set_option linter.unusedVariables false
set_option linter.unusedSimpArgs false
theorem pk : PK Try.prog [33] := ⟨by kernel_rfl, by kernel_rfl, good_of (by kernel_rfl), nonum_of (by kernel_rfl)⟩
abbrev R4 (z : Nat → Nat → Int) : Nat → List SV := fun k => rowN z k 4 0
/-! ### Contracts over a cache: its size, its lines r .. r + n - 1 of a block of rows -/
def SB (ro : Bool) (size : Int) (z : Nat → Nat → Int) (N r n : Nat) : St := { h := [(0, 0, .flat 2 ro [.int .i64 size, .sl 1 r n n false]), (1, 0, .fam 4 ro N (R4 z))], nx := 2, ck := 1, st := 1 }
def SN (size : Int) (z : Nat → Nat → Int) (r n : Nat) : St := { h := [(0, 0, .flat 2 false [.int .i64 size, .sl 2 r n n false]), (2, 0, .fam 4 false (r + n) (R4 z))], nx := 3, ck := 1, st := 1 }
abbrev ResR := Int → (Nat → Nat → Int) → Nat → Nat → List Int → Option (Prop × SV)
def cTb (res : ResR) : C1 := fun xs s => match xs with
  | .ptr b 0 0 :: ys => match find s.h b with
    | some (_, .flat 2 _ [.int .i64 size, .sl b1 r n cap false]) => match find s.h b1 with
      | some (_, .fam 4 _ N row) => match intsOf ys with
        | some l => match res size (zOf row) r n l with
          | some (p, v) => some ((r + n ≤ N ∧ cap = n ∧ (row = R4 (zOf row)) ∧ p), v, s)
          | none => none
        | none => none
      | _ => none
    | _ => none
  | _ => none
theorem ok_tb {f : FuncId} {res : ResR} (H : ∀ size z N r n l p v, res size z r n l = some (p, v) → r + n ≤ N → p → ((∀ π, ren π v = v) ∧ low 2 v = true) ∧ CL Try.prog f (.ptr 0 0 0 :: svInts l) (SB true size z N r n) (fun v' _ => v' = v)) : ok1 Try.prog f (cTb res) := fun xs s p v s' hc hp => by
  unfold cTb at hc
  split at hc
  · rename_i b ys
    split at hc
    · rename_i ver ro size b1 r n cap hf
      split at hc
      · rename_i ver' ro' N row hf'
        cases hl : intsOf ys with
        | none => rw [hl] at hc; cases hc
        | some l =>
          rw [hl] at hc
          simp only at hc
          cases hr : res size (zOf row) r n l with
          | none => rw [hr] at hc; cases hc
          | some y =>
            obtain ⟨p', v'⟩ := y
            rw [hr] at hc
            simp only [Option.some.injEq, Prod.mk.injEq] at hc
            obtain ⟨rfl, rfl, rfl⟩ := hc
            obtain ⟨hn, rfl, hrow, hp⟩ := hp
            have hys := intsOf_eq hl
            subst hys
            obtain ⟨hfr, hc⟩ := H size _ N r cap l p' v' hr hn hp
            have h3 := CL.reads (π := fun i => match i with | 0 => b | _ => b1) (s := s) hc (fun k x hk => ?_) ?_ hfr.2 (fun k x hk => ?_)
            · rw [hfr.1] at h3
              have e : renL (fun i => match i with | 0 => b | _ => b1) (.ptr 0 0 0 :: svInts l) = .ptr b 0 0 :: svInts l := by simp only [renL, ren, renL_ints]
              rw [e] at h3
              exact h3
            · match k, hk with
              | 0, hk => cases hk; exact ⟨by omega, rfl, rfl⟩
              | 1, hk => cases hk; exact ⟨by omega, rfl, fun i _ => lowL_row 2 _ i _ 0⟩
              | k + 2, hk => have hk2 : (none : Option (Nat × Bk)) = some x := hk; cases hk2
            · simp only [lowL, low, lowL_ints, Bool.and_true]; rfl
            · match k, hk with
              | 0, hk => cases hk; exact ⟨ver, _, hf, rfl⟩
              | 1, hk => cases hk; exact ⟨ver', _, hf', by simp only [asRo, renB, renL_row]; exact congrArg _ hrow⟩
              | k + 2, hk => have hk2 : (none : Option (Nat × Bk)) = some x := hk; cases hk2
      · cases hc
    · cases hc
  · cases hc
/-- a call that writes the cache: its lines are told anew -/
abbrev ResW := Int → (Nat → Nat → Int) → Nat → Nat → List Int → Option (Prop × SV × (Nat → Nat → Int) × Nat × Nat)
def tmS (s : St) (b b1 : Nat) (size : Int) (p : Prop) (v : SV) (z : Nat → Nat → Int) (r n : Nat) : Option (Prop × SV × St) := match s with
  | ⟨h, nx, ck, st⟩ => delK h b fun h => delK h b1 fun h => forceN nx fun m => forceN (nx + st) fun m2 => some (p, v, ⟨(b, ck, .flat 2 false [.int .i64 size, .sl m r n n false]) :: (m, ck, .fam 4 false (r + n) (R4 z)) :: h, m2, ck, st⟩)
theorem tmS_eq (s : St) (b b1 : Nat) (size : Int) (p : Prop) (v : SV) (z : Nat → Nat → Int) (r n : Nat) : tmS s b b1 size p v z r n = some (p, v, ⟨(b, s.ck, .flat 2 false [.int .i64 size, .sl s.nx r n n false]) :: (s.nx, s.ck, .fam 4 false (r + n) (R4 z)) :: del (del s.h b) b1, s.nx + s.st, s.ck, s.st⟩) := by
  unfold tmS; simp only [delK_eq, forceN_eq]
def cTm (dec : List SV → Option (List Int)) (res : ResW) : C1 := fun xs s => match xs with
  | .ptr b 0 0 :: ys => match find s.h b with
    | some (_, .flat 2 false [.int .i64 size, .sl b1 r n cap false]) => match find s.h b1 with
      | some (_, .fam 4 false N row) => cond (Nat.beq b b1) none (match dec ys with
        | some l => match res size (zOf row) r n l with
          | some (p, v, z', r', n') => tmS s b b1 size (r + n ≤ N ∧ cap = n ∧ (row = R4 (zOf row)) ∧ p) v z' r' n'
          | none => none
        | none => none)
      | _ => none
    | _ => none
  | _ => none
theorem ok_tm {f : FuncId} {dec : List SV → Option (List Int)} {enc : List Int → List SV} {res : ResW} (hde : ∀ ys l, dec ys = some l → ys = enc l) (hel : ∀ l, lowL 2 (enc l) = true) (her : ∀ π l, renL π (enc l) = enc l)
    (H : ∀ size z N r n l p v z' r' n', res size z r n l = some (p, v, z', r', n') → r + n ≤ N → p → ((∀ π, ren π v = v) ∧ low 3 v = true) ∧ CL Try.prog f (.ptr 0 0 0 :: enc l) (SB false size z N r n) (fun v' s' => v' = v ∧ s' = SN size z' r' n')) : ok1 Try.prog f (cTm dec res) := fun xs s p v s' hc hp => by
  unfold cTm at hc
  split at hc
  · rename_i b ys
    split at hc
    · rename_i ver size b1 r n cap hf
      split at hc
      · rename_i ver' N row hf'
        cases hbb : Nat.beq b b1 with
        | true => rw [hbb] at hc; cases hc
        | false =>
          rw [hbb, cond_false] at hc
          cases hl : dec ys with
          | none => rw [hl] at hc; cases hc
          | some l =>
            rw [hl] at hc
            simp only at hc
            cases hr : res size (zOf row) r n l with
            | none => rw [hr] at hc; cases hc
            | some y =>
              obtain ⟨p', v', z', r', n'⟩ := y
              rw [hr] at hc
              simp only [tmS_eq, Option.some.injEq, Prod.mk.injEq] at hc
              obtain ⟨rfl, rfl, rfl⟩ := hc
              obtain ⟨hn, rfl, hrow, hp⟩ := hp
              have hys := hde _ _ hl
              subst hys
              have hne : b ≠ b1 := fun h => by subst h; rw [Nat.beq_refl] at hbb; cases hbb
              obtain ⟨hfr, hcl⟩ := H size _ N r cap l p' v' z' r' n' hr hn hp
              have h3 := CL.frame (bs := [b, b1]) (wr := 2) (m := 1) (h1 := [(0, 0, .flat 2 false [.int .i64 size, .sl 2 r' n' n' false]), (2, 0, .fam 4 false (r' + n') (R4 z'))]) (hF := (SN size z' r' n').h) hcl (fun i x e => ?_) (by simp) (by show lowL 2 (.ptr 0 0 0 :: enc l) = true; simp only [lowL, hel, Bool.and_true]; rfl) hfr.2 (fun i x e => ?_) (fun i j hi hj h => ?_) (s := s) (fun i x e => ?_)
              · have e : renL (nmF [b, b1] s.nx s.st) (.ptr 0 0 0 :: enc l) = .ptr b 0 0 :: enc l := by simp only [renL, ren, her]; rfl
                rw [e, hfr.1] at h3
                refine h3.imp fun v s' h => ⟨h.1, ?_⟩
                rw [h.2]
                have e2 : nmF [b, b1] s.nx s.st 2 = s.nx := by show s.nx + 0 * s.st = s.nx; rw [Nat.zero_mul]; rfl
                simp only [frS, renHp, appH, delL, List.take, renB, renL, ren, renL_row, Nat.one_mul, e2]
                rfl
              · match i, e with
                | 0, e => cases e; exact ⟨by simp, rfl, fun _ => by simp⟩
                | 1, e => cases e; exact ⟨by simp, fun i _ => lowL_row 2 _ i _ 0, fun _ => by simp⟩
                | i + 2, e => have e2 : (none : Option (Nat × Bk)) = some x := e; cases e2
              · match i, e with
                | 0, e => cases e; exact ⟨rfl, rfl, by simp, rfl⟩
                | 1, e => cases e
                | 2, e => cases e; exact ⟨rfl, rfl, by simp, fun i _ => lowL_row 3 _ i _ 0⟩
                | i + 3, e => have e2 : (none : Option (Nat × Bk)) = some x := e; cases e2
              · match i, j, hi, hj, h with
                | 0, 0, _, _, _ => rfl
                | 1, 1, _, _, _ => rfl
                | 0, 1, _, _, h => exact absurd h hne
                | 1, 0, _, _, h => exact absurd h.symm hne
              · match i, e with
                | 0, e => cases e; exact ⟨ver, _, hf, .inl rfl⟩
                | 1, e => cases e; exact ⟨ver', _, hf', .inl (by simp only [renB, renL_row]; exact congrArg _ hrow)⟩
                | i + 2, e => have e2 : (none : Option (Nat × Bk)) = some x := e; cases e2
      · cases hc
    · cases hc
  · cases hc
/-! ### find -/
def qF (z : Nat → Nat → Int) (r : Nat) (d p : Int) (j : Nat) : Bool := decide (z (r + j) 0 = d ∧ z (r + j) 1 = p)
abbrev fK (z : Nat → Nat → Int) (r n : Nat) (d p : Int) : Nat := fi (qF z r d p) n
def fV (z : Nat → Nat → Int) (r n : Nat) (d p : Int) : Int := if fK z r n d p < n then fK z r n d p else -1
theorem qF_y {z : Nat → Nat → Int} {r : Nat} {d p : Int} {j : Nat} (h : z (r + j) 0 = d) (h' : z (r + j) 1 = p) : qF z r d p j = true := decide_eq_true ⟨h, h'⟩
theorem qF_n {z : Nat → Nat → Int} {r : Nat} {d p : Int} {j : Nat} (h : ¬ (z (r + j) 0 = d ∧ z (r + j) 1 = p)) : qF z r d p j = false := decide_eq_false h
def cF : SV := .fn (.func 30) [] [.ptr 2 0 0, .ptr 3 0 0]
def TF (r n j : Nat) : List SV := fr 19 [(0, .sl 1 r n n false), (1, cF), (4, .int .i64 0), (6, .sl 1 r n n false), (7, .int .i64 n), (8, .int .i64 j)]
def TFr (k : Nat) : List SV := fr 19 [(4, .int .i64 k)]
def SF (size : Int) (z : Nat → Nat → Int) (N r n : Nat) (d p : Int) : St := { h := [(3, 0, .flat 1 false [.int .i64 p]), (2, 0, .flat 1 false [.int .i64 d]), (1, 0, .fam 4 true N (R4 z)), (0, 0, .flat 2 true [.int .i64 size, .sl 1 r n n false])], nx := 4, ck := 1, st := 1 }
theorem fr' (size : Int) (z : Nat → Nat → Int) (N r n j : Nat) (d p : Int) (hN : r + n ≤ N) (hb : n ≤ 64) (hj : j ≤ n) (hI : fK z r j d p = j) : ∃ r', exec (HS Try.prog [33] (ctrL [])) Try.prog (lp Try.prog 29 0) (TF r n j) (SF size z N r n d p) (kN 4 (TF r n) (fun _ => SF size z N r n d p) (fun j => n - j) (fun j => j ≤ n ∧ fK z r j d p = j) j) (kX 4 (two (fK z r n d p = n) (fK z r n d p < n)) (out2 (.x 0 (TF r n n) (SF size z N r n d p)) (.r (TFr (fK z r n d p)) (SF size z N r n d p)))) (kR 4 (two (fK z r n d p = n) (fK z r n d p < n)) (out2 (.x 0 (TF r n n) (SF size z N r n d p)) (.r (TFr (fK z r n d p)) (SF size z N r n d p)))) r' := by
  refine ⟨.B (.T <| .T <| .B (.zn 4 <| .B (.E (1) []) (.E (j + 1) [])) (.zn 5 <| .E (j + 1) [])) (.E (0) []), Go.AE.kchange (b := (((decide ((↑j : Int) < (↑n : Int))) = true → (decide ((0 : Int) ≤ (↑j : Int)) && decide ((↑j : Int) < (↑n : Int))) = true ∧
 (decide (r + Int.toNat (↑j : Int) * 1 < N)) = true ∧
 (((decide (z (r + Int.toNat (↑j : Int) * 1) 0 = d)) = true → (((decide (z (r + Int.toNat (↑j : Int) * 1) 1 = p)) = true → fK z r n d p < n ∧ ((↑j : Int) = (↑(fK z r n d p) : Int) ∧ True) ∧ (p = p ∧ True) ∧ (d = d ∧ True) ∧ (N ≤ N ∧ (∀ (jj0 : Nat), (jj0 < N → True ∧ z jj0 0 = z jj0 0 ∧ z jj0 1 = z jj0 1 ∧ z jj0 2 = z jj0 2 ∧ z jj0 3 = z jj0 3 ∧ True))) ∧ (size = size ∧ (r = r ∧ n = n ∧ n ≤ n ∧ n ≤ n) ∧ True) ∧ True) ∧ ((decide (z (r + Int.toNat (↑j : Int) * 1) 1 = p)) = false → (j + 1 ≤ n ∧ fK z r (j + 1) d p = j + 1) ∧ n - (j + 1) < n - j ∧ ((r = r ∧ n = n ∧ n ≤ n ∧ n ≤ n) ∧ (True ∧ (0 = 0 ∧ 0 = 0) ∧ (0 = 0 ∧ 0 = 0) ∧ True) ∧ (0 : Int) = (0 : Int) ∧ (r = r ∧ n = n ∧ n ≤ n ∧ n ≤ n) ∧ (↑n : Int) = (↑n : Int) ∧ IntKind.wrap IntKind.i64 ((↑j : Int) + (1 : Int)) = (↑(j + 1) : Int) ∧ True) ∧ (p = p ∧ True) ∧ (d = d ∧ True) ∧ (N ≤ N ∧ (∀ (jj0 : Nat), (jj0 < N → True ∧ z jj0 0 = z jj0 0 ∧ z jj0 1 = z jj0 1 ∧ z jj0 2 = z jj0 2 ∧ z jj0 3 = z jj0 3 ∧ True))) ∧ (size = size ∧ (r = r ∧ n = n ∧ n ≤ n ∧ n ≤ n) ∧ True) ∧ True))) ∧ ((decide (z (r + Int.toNat (↑j : Int) * 1) 0 = d)) = false → (j + 1 ≤ n ∧ fK z r (j + 1) d p = j + 1) ∧ n - (j + 1) < n - j ∧ ((r = r ∧ n = n ∧ n ≤ n ∧ n ≤ n) ∧ (True ∧ (0 = 0 ∧ 0 = 0) ∧ (0 = 0 ∧ 0 = 0) ∧ True) ∧ (0 : Int) = (0 : Int) ∧ (r = r ∧ n = n ∧ n ≤ n ∧ n ≤ n) ∧ (↑n : Int) = (↑n : Int) ∧ IntKind.wrap IntKind.i64 ((↑j : Int) + (1 : Int)) = (↑(j + 1) : Int) ∧ True) ∧ (p = p ∧ True) ∧ (d = d ∧ True) ∧ (N ≤ N ∧ (∀ (jj0 : Nat), (jj0 < N → True ∧ z jj0 0 = z jj0 0 ∧ z jj0 1 = z jj0 1 ∧ z jj0 2 = z jj0 2 ∧ z jj0 3 = z jj0 3 ∧ True))) ∧ (size = size ∧ (r = r ∧ n = n ∧ n ≤ n ∧ n ≤ n) ∧ True) ∧ True))) ∧ ((decide ((↑j : Int) < (↑n : Int))) = false → fK z r n d p = n ∧ ((r = r ∧ n = n ∧ n ≤ n ∧ n ≤ n) ∧ (True ∧ (0 = 0 ∧ 0 = 0) ∧ (0 = 0 ∧ 0 = 0) ∧ True) ∧ (0 : Int) = (0 : Int) ∧ (r = r ∧ n = n ∧ n ≤ n ∧ n ≤ n) ∧ (↑n : Int) = (↑n : Int) ∧ (↑j : Int) = (↑n : Int) ∧ True) ∧ (p = p ∧ True) ∧ (d = d ∧ True) ∧ (N ≤ N ∧ (∀ (jj0 : Nat), (jj0 < N → True ∧ z jj0 0 = z jj0 0 ∧ z jj0 1 = z jj0 1 ∧ z jj0 2 = z jj0 2 ∧ z jj0 3 = z jj0 3 ∧ True))) ∧ (size = size ∧ (r = r ∧ n = n ∧ n ≤ n ∧ n ≤ n) ∧ True) ∧ True))) (by kernel_rfl) ?_⟩
  repeat' (first | (refine And.intro ?_ ?_) | (with_reducible intro hh; (try simp (disch := omega) only [decide_eq_true_eq, decide_eq_false_iff_not, Bool.and_eq_true, Bool.and_eq_false_imp, Bool.not_eq_true', Bool.not_eq_false', reduceCtorEq, or_false, or_true, Bool.or_eq_true, Bool.or_eq_false_iff, Int.not_lt, Int.not_le, beq_iff_eq, beq_eq_false_iff_ne, Nat.zero_add, Nat.mul_one, Nat.sub_zero, Int.toNat_natCast, decide_true, decide_false, cond_true, cond_false, wrap_id] at hh)))
  all_goals (first | with_reducible rfl | trivial | (first | exact Go.AE.sveq_self _ rfl | with_reducible assumption | omega | (simp only [decide_eq_true_eq, decide_eq_false_iff_not, Bool.and_eq_true, Bool.and_eq_false_imp, Bool.not_eq_true', Bool.not_eq_false', reduceCtorEq, or_false, or_true, Bool.or_eq_true, Bool.or_eq_false_iff, Int.not_lt, Int.not_le, beq_iff_eq, beq_eq_false_iff_ne]; omega) | (simp (disch := omega) only [decide_eq_true_eq, decide_eq_false_iff_not, Bool.and_eq_true, Bool.and_eq_false_imp, Bool.not_eq_true', Bool.not_eq_false', reduceCtorEq, or_false, or_true, Bool.or_eq_true, Bool.or_eq_false_iff, Int.not_lt, Int.not_le, beq_iff_eq, beq_eq_false_iff_ne, Nat.zero_add, Nat.mul_one, Nat.sub_zero, Int.toNat_natCast, decide_true, decide_false, cond_true, cond_false, wrap_id]; first | done | omega) | (simp (disch := omega) only [decide_eq_true_eq, decide_eq_false_iff_not, Bool.and_eq_true, Bool.and_eq_false_imp, Bool.not_eq_true', Bool.not_eq_false', reduceCtorEq, or_false, or_true, Bool.or_eq_true, Bool.or_eq_false_iff, Int.not_lt, Int.not_le, beq_iff_eq, beq_eq_false_iff_ne, Nat.zero_add, Nat.mul_one, Nat.sub_zero, Int.toNat_natCast, decide_true, decide_false, cond_true, cond_false, wrap_id] at *; first | done | omega)) | exact fi_step hI (qF_n (by omega)) | (have hat : fK z r n d p = j := fi_at hI (qF_y (by assumption) (by assumption)) (by omega); omega) | (rw [show n = j by omega]; first | exact hI | done) | trace_state)
theorem fl (size : Int) (z : Nat → Nat → Int) (N r n : Nat) (d p : Int) (hN : r + n ≤ N) (hb : n ≤ 64) : LQ Try.prog (lp Try.prog 29 0) (TF r n 0) (SF size z N r n d p) (two (fK z r n d p = n) (fK z r n d p < n)) (out2 (.x 0 (TF r n n) (SF size z N r n d p)) (.r (TFr (fK z r n d p)) (SF size z N r n d p))) :=
  loop_scr pk (okC_nil _) (by kernel_rfl) 4 (TF r n) (fun _ => SF size z N r n d p) (fun j => n - j) (fun j => j ≤ n ∧ fK z r j d p = j) _ _ (fun _ => rfl) (fun j hj => fr' size z N r n j d p hN hb hj.1 hj.2) ⟨Nat.zero_le _, rfl⟩ rfl
theorem fw_a (size : Int) (z : Nat → Nat → Int) (N r n : Nat) (d p : Int) (hN : r + n ≤ N) (hb : n ≤ 64) (hC : (fK z r n d p = n)) (hL : LO Try.prog (lp Try.prog 29 0) (TF r n 0) (SF size z N r n d p) (.x 0 (TF r n n) (SF size z N r n d p))) : ∃ r', callK (HS Try.prog [33] (ctrL [])) Try.prog 23 [.ptr 0 0 0, .int .i64 d, .int .i64 p] (SB true size z N r n) (kV (.int .i64 (fV z r n d p)) (SB true size z N r n) 2) r' := by
  refine ⟨.L (TF r n 0) (SF size z N r n d p) (Go.AE.Out.x 0 (TF r n n) (SF size z N r n d p)) <| .E (0) [], Go.AE.kchange (b := (((r = r ∧ n = n ∧ n ≤ n ∧ n ≤ n) ∧ (True ∧ (0 = 0 ∧ 0 = 0) ∧ (0 = 0 ∧ 0 = 0) ∧ True) ∧ (0 : Int) = (0 : Int) ∧ (r = r ∧ n = n ∧ n ≤ n ∧ n ≤ n) ∧ (↑n : Int) = (↑n : Int) ∧ (0 : Int) = (0 : Int) ∧ True) ∧ (p = p ∧ True) ∧ (d = d ∧ True) ∧ (N ≤ N ∧ (∀ (jj0 : Nat), (jj0 < N → True ∧ z jj0 0 = z jj0 0 ∧ z jj0 1 = z jj0 1 ∧ z jj0 2 = z jj0 2 ∧ z jj0 3 = z jj0 3 ∧ True))) ∧ (size = size ∧ (r = r ∧ n = n ∧ n ≤ n ∧ n ≤ n) ∧ True) ∧ True) ∧
 LO (Go.Proofs.Try.prog) (Go.AE.lp Go.Proofs.Try.prog 29 0) (TF r n 0) (SF size z N r n d p) (Go.AE.Out.x 0 (TF r n n) (SF size z N r n d p)) ∧
 ((-1 : Int) = fV z r n d p ∧ True) ∧ (size = size ∧ (r = r ∧ n = n ∧ n ≤ n ∧ n ≤ n) ∧ True) ∧ (N ≤ N ∧ (∀ (jj0 : Nat), (jj0 < N → True ∧ z jj0 0 = z jj0 0 ∧ z jj0 1 = z jj0 1 ∧ z jj0 2 = z jj0 2 ∧ z jj0 3 = z jj0 3 ∧ True))) ∧ True) (by kernel_rfl) ?_⟩
  repeat' (first | exact hL | (refine And.intro ?_ ?_) | (with_reducible intro hh; (try simp (disch := omega) only [decide_eq_true_eq, decide_eq_false_iff_not, Bool.and_eq_true, Bool.and_eq_false_imp, Bool.not_eq_true', Bool.not_eq_false', reduceCtorEq, or_false, or_true, Bool.or_eq_true, Bool.or_eq_false_iff, Int.not_lt, Int.not_le, beq_iff_eq, beq_eq_false_iff_ne, Nat.zero_add, Nat.mul_one, Nat.sub_zero, Int.toNat_natCast, decide_true, decide_false, cond_true, cond_false, wrap_id] at hh)))
  all_goals (first | with_reducible rfl | trivial | (first | exact Go.AE.sveq_self _ rfl | with_reducible assumption | omega | (simp only [decide_eq_true_eq, decide_eq_false_iff_not, Bool.and_eq_true, Bool.and_eq_false_imp, Bool.not_eq_true', Bool.not_eq_false', reduceCtorEq, or_false, or_true, Bool.or_eq_true, Bool.or_eq_false_iff, Int.not_lt, Int.not_le, beq_iff_eq, beq_eq_false_iff_ne]; omega) | (simp (disch := omega) only [decide_eq_true_eq, decide_eq_false_iff_not, Bool.and_eq_true, Bool.and_eq_false_imp, Bool.not_eq_true', Bool.not_eq_false', reduceCtorEq, or_false, or_true, Bool.or_eq_true, Bool.or_eq_false_iff, Int.not_lt, Int.not_le, beq_iff_eq, beq_eq_false_iff_ne, Nat.zero_add, Nat.mul_one, Nat.sub_zero, Int.toNat_natCast, decide_true, decide_false, cond_true, cond_false, wrap_id]; first | done | omega) | (simp (disch := omega) only [decide_eq_true_eq, decide_eq_false_iff_not, Bool.and_eq_true, Bool.and_eq_false_imp, Bool.not_eq_true', Bool.not_eq_false', reduceCtorEq, or_false, or_true, Bool.or_eq_true, Bool.or_eq_false_iff, Int.not_lt, Int.not_le, beq_iff_eq, beq_eq_false_iff_ne, Nat.zero_add, Nat.mul_one, Nat.sub_zero, Int.toNat_natCast, decide_true, decide_false, cond_true, cond_false, wrap_id] at *; first | done | omega)) | (unfold fV; rw [if_pos hC]; done) | (unfold fV; rw [if_neg (by omega)]; done) | trace_state)
theorem fw_b (size : Int) (z : Nat → Nat → Int) (N r n : Nat) (d p : Int) (hN : r + n ≤ N) (hb : n ≤ 64) (hC : (fK z r n d p < n)) (hL : LO Try.prog (lp Try.prog 29 0) (TF r n 0) (SF size z N r n d p) (.r (TFr (fK z r n d p)) (SF size z N r n d p))) : ∃ r', callK (HS Try.prog [33] (ctrL [])) Try.prog 23 [.ptr 0 0 0, .int .i64 d, .int .i64 p] (SB true size z N r n) (kV (.int .i64 (fV z r n d p)) (SB true size z N r n) 2) r' := by
  refine ⟨.L (TF r n 0) (SF size z N r n d p) (Go.AE.Out.r (TFr (fK z r n d p)) (SF size z N r n d p)) <| .E (0) [], Go.AE.kchange (b := (((r = r ∧ n = n ∧ n ≤ n ∧ n ≤ n) ∧ (True ∧ (0 = 0 ∧ 0 = 0) ∧ (0 = 0 ∧ 0 = 0) ∧ True) ∧ (0 : Int) = (0 : Int) ∧ (r = r ∧ n = n ∧ n ≤ n ∧ n ≤ n) ∧ (↑n : Int) = (↑n : Int) ∧ (0 : Int) = (0 : Int) ∧ True) ∧ (p = p ∧ True) ∧ (d = d ∧ True) ∧ (N ≤ N ∧ (∀ (jj0 : Nat), (jj0 < N → True ∧ z jj0 0 = z jj0 0 ∧ z jj0 1 = z jj0 1 ∧ z jj0 2 = z jj0 2 ∧ z jj0 3 = z jj0 3 ∧ True))) ∧ (size = size ∧ (r = r ∧ n = n ∧ n ≤ n ∧ n ≤ n) ∧ True) ∧ True) ∧
 LO (Go.Proofs.Try.prog) (Go.AE.lp Go.Proofs.Try.prog 29 0) (TF r n 0) (SF size z N r n d p) (Go.AE.Out.r (TFr (fK z r n d p)) (SF size z N r n d p)) ∧
 ((↑(fK z r n d p) : Int) = fV z r n d p ∧ True) ∧ (size = size ∧ (r = r ∧ n = n ∧ n ≤ n ∧ n ≤ n) ∧ True) ∧ (N ≤ N ∧ (∀ (jj0 : Nat), (jj0 < N → True ∧ z jj0 0 = z jj0 0 ∧ z jj0 1 = z jj0 1 ∧ z jj0 2 = z jj0 2 ∧ z jj0 3 = z jj0 3 ∧ True))) ∧ True) (by kernel_rfl) ?_⟩
  repeat' (first | exact hL | (refine And.intro ?_ ?_) | (with_reducible intro hh; (try simp (disch := omega) only [decide_eq_true_eq, decide_eq_false_iff_not, Bool.and_eq_true, Bool.and_eq_false_imp, Bool.not_eq_true', Bool.not_eq_false', reduceCtorEq, or_false, or_true, Bool.or_eq_true, Bool.or_eq_false_iff, Int.not_lt, Int.not_le, beq_iff_eq, beq_eq_false_iff_ne, Nat.zero_add, Nat.mul_one, Nat.sub_zero, Int.toNat_natCast, decide_true, decide_false, cond_true, cond_false, wrap_id] at hh)))
  all_goals (first | with_reducible rfl | trivial | (first | exact Go.AE.sveq_self _ rfl | with_reducible assumption | omega | (simp only [decide_eq_true_eq, decide_eq_false_iff_not, Bool.and_eq_true, Bool.and_eq_false_imp, Bool.not_eq_true', Bool.not_eq_false', reduceCtorEq, or_false, or_true, Bool.or_eq_true, Bool.or_eq_false_iff, Int.not_lt, Int.not_le, beq_iff_eq, beq_eq_false_iff_ne]; omega) | (simp (disch := omega) only [decide_eq_true_eq, decide_eq_false_iff_not, Bool.and_eq_true, Bool.and_eq_false_imp, Bool.not_eq_true', Bool.not_eq_false', reduceCtorEq, or_false, or_true, Bool.or_eq_true, Bool.or_eq_false_iff, Int.not_lt, Int.not_le, beq_iff_eq, beq_eq_false_iff_ne, Nat.zero_add, Nat.mul_one, Nat.sub_zero, Int.toNat_natCast, decide_true, decide_false, cond_true, cond_false, wrap_id]; first | done | omega) | (simp (disch := omega) only [decide_eq_true_eq, decide_eq_false_iff_not, Bool.and_eq_true, Bool.and_eq_false_imp, Bool.not_eq_true', Bool.not_eq_false', reduceCtorEq, or_false, or_true, Bool.or_eq_true, Bool.or_eq_false_iff, Int.not_lt, Int.not_le, beq_iff_eq, beq_eq_false_iff_ne, Nat.zero_add, Nat.mul_one, Nat.sub_zero, Int.toNat_natCast, decide_true, decide_false, cond_true, cond_false, wrap_id] at *; first | done | omega)) | (unfold fV; rw [if_pos hC]; done) | (unfold fV; rw [if_neg (by omega)]; done) | trace_state)
def rF : ResR := fun size z r n l => match l with
  | [d, p] => some (n ≤ 64, .int .i64 (fV z r n d p))
  | _ => none
theorem ok_f : ok1 Try.prog 23 (cTb rF) := ok_tb fun size z N r n l q v h hN hp => by
  unfold rF at h
  split at h
  · rename_i d p
    cases h
    refine ⟨⟨fun _ => rfl, rfl⟩, CL.imp (k := fun v' s' => v' = _ ∧ s' = SB true size z N r n) ?_ fun v s h => h.1⟩
    have hle : fK z r n d p ≤ n := fi_le _ _
    rcases Nat.lt_or_ge (fK z r n d p) n with g | g
    · exact scr_to pk (okC_nil _) rfl (fw_b size z N r n d p hN hp g ((fl size z N r n d p hN hp).snd (by omega)))
    · exact scr_to pk (okC_nil _) rfl (fw_a size z N r n d p hN hp (by omega) ((fl size z N r n d p hN hp).fst (by omega)))
  · cases h
def ctr0 : Ctr := ctrL [(23, cTb rF)]
theorem okc0 : okC Try.prog ctr0 := okC_cons ok_f (okC_nil _)
theorem fV_row (z : Nat → Nat → Int) : fV (zOf fun i => rowN z i 4 0) = fV z := id rfl
/-! ### Get, Len -/
def gV (z : Nat → Nat → Int) (r n : Nat) (d p : Int) (c : Nat) : Int := if fK z r n d p < n then z (r + fK z r n d p) c else 0
def gB (z : Nat → Nat → Int) (r n : Nat) (d p : Int) : Bool := decide (fK z r n d p < n)
theorem gw (size : Int) (z : Nat → Nat → Int) (N r n : Nat) (d p : Int) (hN : r + n ≤ N) (hb : n ≤ 64) (hf : fK z r n d p < n ∧ fV z r n d p = fK z r n d p ∨ ¬ fK z r n d p < n ∧ fV z r n d p = -1) : ∃ r', callK (HS Try.prog [33] ctr0) Try.prog 17 [.ptr 0 0 0, .int .i64 d, .int .i64 p] (SB true size z N r n) (kV (.tup [.agg [.int .i64 (gV z r n d p 2), .int .i64 (gV z r n d p 3)], .bool (gB z r n d p)]) (SB true size z N r n) 2) r' := by
  refine ⟨.Z <| .B (.T <| .T <| .E (0) []) (.E (0) []), Go.AE.kchange (b := (r + n ≤ N ∧ n = n ∧ R4 z = R4 (Go.AE.zOf (R4 z)) ∧ n ≤ 64) ∧
 (((decide ((0 : Int) ≤ fV (Go.AE.zOf (R4 z)) r n d p)) = true → (decide ((0 : Int) ≤ fV (Go.AE.zOf (R4 z)) r n d p) && decide (fV (Go.AE.zOf (R4 z)) r n d p < (↑n : Int))) = true ∧
 (decide (r + Int.toNat (fV (Go.AE.zOf (R4 z)) r n d p) * 1 < N)) = true ∧
 (((z (r + Int.toNat (fV (Go.AE.zOf (R4 z)) r n d p) * 1) 2 = gV z r n d p 2 ∧ z (r + Int.toNat (fV (Go.AE.zOf (R4 z)) r n d p) * 1) 3 = gV z r n d p 3 ∧ True) ∧ Bool.true = gB z r n d p ∧ True) ∧ True) ∧ (size = size ∧ (r = r ∧ n = n ∧ n ≤ n ∧ n ≤ n) ∧ True) ∧ (N ≤ N ∧ (∀ (jj0 : Nat), (jj0 < N → True ∧ z jj0 0 = z jj0 0 ∧ z jj0 1 = z jj0 1 ∧ z jj0 2 = z jj0 2 ∧ z jj0 3 = z jj0 3 ∧ True))) ∧ True) ∧ ((decide ((0 : Int) ≤ fV (Go.AE.zOf (R4 z)) r n d p)) = false → ((((0 : Int) = gV z r n d p 2 ∧ (0 : Int) = gV z r n d p 3 ∧ True) ∧ Bool.false = gB z r n d p ∧ True) ∧ True) ∧ (size = size ∧ (r = r ∧ n = n ∧ n ≤ n ∧ n ≤ n) ∧ True) ∧ (N ≤ N ∧ (∀ (jj0 : Nat), (jj0 < N → True ∧ z jj0 0 = z jj0 0 ∧ z jj0 1 = z jj0 1 ∧ z jj0 2 = z jj0 2 ∧ z jj0 3 = z jj0 3 ∧ True))) ∧ True))) (by kernel_rfl) ?_⟩
  repeat' (first | (refine And.intro ?_ ?_) | (with_reducible intro hh; try simp (disch := omega) only [fV_row, decide_eq_true_eq, decide_eq_false_iff_not, Bool.and_eq_true, Bool.and_eq_false_imp, Bool.not_eq_true', Bool.not_eq_false', reduceCtorEq, or_false, or_true, Bool.or_eq_true, Bool.or_eq_false_iff, Int.not_lt, Int.not_le, beq_iff_eq, beq_eq_false_iff_ne, Nat.zero_add, Nat.mul_one, Nat.sub_zero, Int.toNat_natCast, decide_true, decide_false, cond_true, cond_false, wrap_id] at hh))
  all_goals (first | with_reducible rfl | trivial | (first | exact Go.AE.sveq_self _ rfl | with_reducible assumption | omega | (simp only [decide_eq_true_eq, decide_eq_false_iff_not, Bool.and_eq_true, Bool.and_eq_false_imp, Bool.not_eq_true', Bool.not_eq_false', reduceCtorEq, or_false, or_true, Bool.or_eq_true, Bool.or_eq_false_iff, Int.not_lt, Int.not_le, beq_iff_eq, beq_eq_false_iff_ne]; omega) | (simp (disch := omega) only [decide_eq_true_eq, decide_eq_false_iff_not, Bool.and_eq_true, Bool.and_eq_false_imp, Bool.not_eq_true', Bool.not_eq_false', reduceCtorEq, or_false, or_true, Bool.or_eq_true, Bool.or_eq_false_iff, Int.not_lt, Int.not_le, beq_iff_eq, beq_eq_false_iff_ne, Nat.zero_add, Nat.mul_one, Nat.sub_zero, Int.toNat_natCast, decide_true, decide_false, cond_true, cond_false, wrap_id]; first | done | omega) | (simp (disch := omega) only [decide_eq_true_eq, decide_eq_false_iff_not, Bool.and_eq_true, Bool.and_eq_false_imp, Bool.not_eq_true', Bool.not_eq_false', reduceCtorEq, or_false, or_true, Bool.or_eq_true, Bool.or_eq_false_iff, Int.not_lt, Int.not_le, beq_iff_eq, beq_eq_false_iff_ne, Nat.zero_add, Nat.mul_one, Nat.sub_zero, Int.toNat_natCast, decide_true, decide_false, cond_true, cond_false, wrap_id] at *; first | done | omega)) | (simp (disch := omega) only [fV_row, decide_eq_true_eq, decide_eq_false_iff_not, Bool.and_eq_true, Bool.and_eq_false_imp, Bool.not_eq_true', Bool.not_eq_false', reduceCtorEq, or_false, or_true, Bool.or_eq_true, Bool.or_eq_false_iff, Int.not_lt, Int.not_le, beq_iff_eq, beq_eq_false_iff_ne, Nat.zero_add, Nat.mul_one, Nat.sub_zero, Int.toNat_natCast, decide_true, decide_false, cond_true, cond_false, wrap_id]; first | done | omega) | (unfold gV; rw [if_neg (by omega)]; done) | (unfold gV; rw [if_pos (by omega)]; simp only [fV_row]; congr 1; omega) | (unfold gV; rw [if_pos (by omega)]; simp only [fV_row]; congr 2; omega) | (unfold gB; rw [eq_comm, decide_eq_true_eq]; omega) | (unfold gB; rw [eq_comm, decide_eq_false_iff_not]; omega) | trace_state)
theorem fV_or (z : Nat → Nat → Int) (r n : Nat) (d p : Int) : fK z r n d p < n ∧ fV z r n d p = fK z r n d p ∨ ¬ fK z r n d p < n ∧ fV z r n d p = -1 := by
  unfold fV; by_cases h : fK z r n d p < n
  · rw [if_pos h]; exact .inl ⟨h, rfl⟩
  · rw [if_neg h]; exact .inr ⟨h, rfl⟩
def rG : ResR := fun size z r n l => match l with
  | [d, p] => some (n ≤ 64, .tup [.agg [.int .i64 (gV z r n d p 2), .int .i64 (gV z r n d p 3)], .bool (gB z r n d p)])
  | _ => none
theorem ok_g : ok1 Try.prog 17 (cTb rG) := ok_tb fun size z N r n l q v h hN hp => by
  unfold rG at h
  split at h
  · rename_i d p
    cases h
    exact ⟨⟨fun _ => rfl, rfl⟩, CL.imp (k := fun v' s' => v' = _ ∧ s' = SB true size z N r n) (scr_to pk okc0 rfl (gw size z N r n d p hN hp (fV_or z r n d p))) fun v s h => h.1⟩
  · cases h
theorem lw (size : Int) (z : Nat → Nat → Int) (N r n : Nat) : ∃ r', callK (HS Try.prog [33] ctr0) Try.prog 19 [.ptr 0 0 0] (SB true size z N r n) (kV (.int .i64 n) (SB true size z N r n) 2) r' := by
  refine ⟨.Z <| .E (0) [], Go.AE.kchange (b := ((↑n : Int) = (↑n : Int) ∧ True) ∧ (size = size ∧ (r = r ∧ n = n ∧ n ≤ n ∧ n ≤ n) ∧ True) ∧ (N ≤ N ∧ (∀ (jj0 : Nat), (jj0 < N → True ∧ z jj0 0 = z jj0 0 ∧ z jj0 1 = z jj0 1 ∧ z jj0 2 = z jj0 2 ∧ z jj0 3 = z jj0 3 ∧ True))) ∧ True) (by kernel_rfl) ?_⟩
  repeat' (first | (refine And.intro ?_ ?_) | (with_reducible intro hh; (try simp (disch := omega) only [decide_eq_true_eq, decide_eq_false_iff_not, Bool.and_eq_true, Bool.and_eq_false_imp, Bool.not_eq_true', Bool.not_eq_false', reduceCtorEq, or_false, or_true, Bool.or_eq_true, Bool.or_eq_false_iff, Int.not_lt, Int.not_le, beq_iff_eq, beq_eq_false_iff_ne, Nat.zero_add, Nat.mul_one, Nat.sub_zero, Int.toNat_natCast, decide_true, decide_false, cond_true, cond_false, wrap_id] at hh)))
  all_goals (first | with_reducible rfl | trivial | (first | exact Go.AE.sveq_self _ rfl | with_reducible assumption | omega | (simp only [decide_eq_true_eq, decide_eq_false_iff_not, Bool.and_eq_true, Bool.and_eq_false_imp, Bool.not_eq_true', Bool.not_eq_false', reduceCtorEq, or_false, or_true, Bool.or_eq_true, Bool.or_eq_false_iff, Int.not_lt, Int.not_le, beq_iff_eq, beq_eq_false_iff_ne]; omega) | (simp (disch := omega) only [decide_eq_true_eq, decide_eq_false_iff_not, Bool.and_eq_true, Bool.and_eq_false_imp, Bool.not_eq_true', Bool.not_eq_false', reduceCtorEq, or_false, or_true, Bool.or_eq_true, Bool.or_eq_false_iff, Int.not_lt, Int.not_le, beq_iff_eq, beq_eq_false_iff_ne, Nat.zero_add, Nat.mul_one, Nat.sub_zero, Int.toNat_natCast, decide_true, decide_false, cond_true, cond_false, wrap_id]; first | done | omega) | (simp (disch := omega) only [decide_eq_true_eq, decide_eq_false_iff_not, Bool.and_eq_true, Bool.and_eq_false_imp, Bool.not_eq_true', Bool.not_eq_false', reduceCtorEq, or_false, or_true, Bool.or_eq_true, Bool.or_eq_false_iff, Int.not_lt, Int.not_le, beq_iff_eq, beq_eq_false_iff_ne, Nat.zero_add, Nat.mul_one, Nat.sub_zero, Int.toNat_natCast, decide_true, decide_false, cond_true, cond_false, wrap_id] at *; first | done | omega)) | trace_state)
def rL : ResR := fun size z r n l => match l with
  | [] => some (True, .int .i64 n)
  | _ => none
theorem ok_l : ok1 Try.prog 19 (cTb rL) := ok_tb fun size z N r n l q v h hN hp => by
  unfold rL at h
  split at h
  · cases h; exact ⟨⟨fun _ => rfl, rfl⟩, CL.imp (k := fun v' s' => v' = _ ∧ s' = SB true size z N r n) (scr_to pk okc0 rfl (lw size z N r n)) fun v s h => h.1⟩
  · cases h
end Go.Proofs.Ythjopinmplcpfaa.tl