/- The law's ringed: a ring's bytes; and what is read of them. No condition. -/
import Derived.Test.YtmjcfphcnnmgjaaRingE
namespace Go.Proofs.Ytmjcfphcnnmgjaa.rg
open Go Go.Proofs Go.AE Go.RowKit
set_option maxRecDepth 100000
set_option linter.unusedVariables false
set_option linter.unusedSimpArgs false
/-- the bytes of row j -/
def Z8 : ByteArray := ⟨#[0, 0, 0, 0, 0, 0, 0, 0]⟩
def mayZ (z : Nat → Nat → Int) (j : Nat) : Bool := mayD (z j 0) (z j 1) (z j 2) (z j 3) (z j 4)
def rB (z : Nat → Nat → Int) (len j : Nat) : ByteArray := if j < len ∧ mayZ z j = true then pB (z j 0) (z j 1) (z j 2) (z j 3) (z j 4) else Z8
def rG (z : Nat → Nat → Int) (len : Nat) : Nat → ByteArray
  | 0 => ⟨#[]⟩
  | j + 1 => rG z len j ++ rB z len j
theorem size_rB (z : Nat → Nat → Int) (len j : Nat) : (rB z len j).size = 8 := by
  unfold rB; split
  · rename_i h; unfold pB; rw [if_pos (show mayD _ _ _ _ _ = true from h.2)]; rfl
  · rfl
theorem size_rG (z : Nat → Nat → Int) (len : Nat) : ∀ j, (rG z len j).size = 8 * j
  | 0 => rfl
  | j + 1 => by simp only [rG, ByteArray.size_append, size_rG z len j, size_rB]; omega
theorem sz_pB (a b c d e : Int) : (pB a b c d e).size ≤ 1000 := by unfold pB; split <;> exact Nat.le_of_ble_eq_true rfl
theorem add_s8 {a : ByteArray} (ha : a.size ≤ 1000) : decide (a.size + 8 ≤ maxLen) = true := decide_eq_true (by unfold maxLen; omega)
theorem add_sz {a b : ByteArray} (ha : a.size ≤ 1000) (hb : b.size ≤ 1000) : decide (a.size + b.size ≤ maxLen) = true := decide_eq_true (by unfold maxLen; omega)
def ctrP : Ctr := ctrL [(30, cVal rPut)]
theorem okcP : okC Try.prog ctrP := okC_cons ok_put <| okC_nil _
def Th (len : Nat) (G : Nat → ByteArray) (i : Nat) : List SV := fr 33 [(0, .sl 0 0 len len false), (2, .str ⟨#[]⟩), (3, .str (G i)), (4, .int .i64 i)]
theorem r_h (z : Nat → Nat → Int) (N len : Nat) (G : Nat → ByteArray) (hl : len ≤ N) (hb : len ≤ 9223372036854775807) (i : Nat) (hi : i ≤ 8) (hG : (G i).size = 8 * i) (hn : ∀ b : ByteArray, (i < len → pE (z i 0) (z i 1) (z i 2) (z i 3) (z i 4) = 0 → b = pB (z i 0) (z i 1) (z i 2) (z i 3) (z i 4)) → (¬ (i < len ∧ pE (z i 0) (z i 1) (z i 2) (z i 3) (z i 4) = 0) → b = Z8) → G i ++ b = G (i + 1)) : ∃ r, exec (HS Try.prog [42] ctrP) Try.prog (lp Try.prog 20 0) (Th len G i) (SR 5 z N) (kN 1 (Th len G) (fun _ => SR 5 z N) (fun i => 8 - i) (fun i => i ≤ 8) i) (kX 1 (fun _ => True) fun _ => .x 0 (Th len G 8) (SR 5 z N)) (kR 1 (fun _ => True) fun _ => .n [] s0) r := by
  refine ⟨.B (.Z <| .B (.T <| .T <| .B (.T <| .E (i + 1) []) (.T <| .E (i + 1) [])) (.T <| .E (i + 1) [])) (.E (0) []), Go.AE.kchange (b := (((decide ((↑i : Int) < (8 : Int))) = true → (((decide ((↑i : Int) < (↑len : Int))) = true → (decide ((0 : Int) ≤ (↑i : Int)) && decide ((↑i : Int) < (↑len : Int))) = true ∧
 (decide (0 + Int.toNat (↑i : Int) * 1 < N)) = true ∧
 (True) ∧
 (((decide (pE (z (0 + Int.toNat (↑i : Int) * 1) 0) (z (0 + Int.toNat (↑i : Int) * 1) 1) (z (0 + Int.toNat (↑i : Int) * 1) 2) (z (0 + Int.toNat (↑i : Int) * 1) 3) (z (0 + Int.toNat (↑i : Int) * 1) 4) = (0 : Int))) = true → (decide (ByteArray.size (G i) + ByteArray.size (pB (z (0 + Int.toNat (↑i : Int) * 1) 0) (z (0 + Int.toNat (↑i : Int) * 1) 1) (z (0 + Int.toNat (↑i : Int) * 1) 2) (z (0 + Int.toNat (↑i : Int) * 1) 3) (z (0 + Int.toNat (↑i : Int) * 1) 4)) ≤ Go.maxLen)) = true ∧
 i + 1 ≤ 8 ∧ 8 - (i + 1) < 8 - i ∧ ((0 = 0 ∧ len = len ∧ len ≤ len ∧ len ≤ len) ∧ (ByteArray.mk #[]) = (ByteArray.mk #[]) ∧ G i ++ pB (z (0 + Int.toNat (↑i : Int) * 1) 0) (z (0 + Int.toNat (↑i : Int) * 1) 1) (z (0 + Int.toNat (↑i : Int) * 1) 2) (z (0 + Int.toNat (↑i : Int) * 1) 3) (z (0 + Int.toNat (↑i : Int) * 1) 4) = G (i + 1) ∧ IntKind.wrap IntKind.i64 ((↑i : Int) + (1 : Int)) = (↑(i + 1) : Int) ∧ True) ∧ (N ≤ N ∧ (∀ (jj0 : Nat), (jj0 < N → True ∧ z jj0 0 = z jj0 0 ∧ z jj0 1 = z jj0 1 ∧ z jj0 2 = z jj0 2 ∧ z jj0 3 = z jj0 3 ∧ z jj0 4 = z jj0 4 ∧ True))) ∧ True) ∧ ((decide (pE (z (0 + Int.toNat (↑i : Int) * 1) 0) (z (0 + Int.toNat (↑i : Int) * 1) 1) (z (0 + Int.toNat (↑i : Int) * 1) 2) (z (0 + Int.toNat (↑i : Int) * 1) 3) (z (0 + Int.toNat (↑i : Int) * 1) 4) = (0 : Int))) = false → (decide (ByteArray.size (G i) + 8 ≤ Go.maxLen)) = true ∧
 i + 1 ≤ 8 ∧ 8 - (i + 1) < 8 - i ∧ ((0 = 0 ∧ len = len ∧ len ≤ len ∧ len ≤ len) ∧ (ByteArray.mk #[]) = (ByteArray.mk #[]) ∧ G i ++ (ByteArray.mk #[UInt8.ofNat 0, UInt8.ofNat 0, UInt8.ofNat 0, UInt8.ofNat 0, UInt8.ofNat 0, UInt8.ofNat 0, UInt8.ofNat 0, UInt8.ofNat 0]) = G (i + 1) ∧ IntKind.wrap IntKind.i64 ((↑i : Int) + (1 : Int)) = (↑(i + 1) : Int) ∧ True) ∧ (N ≤ N ∧ (∀ (jj0 : Nat), (jj0 < N → True ∧ z jj0 0 = z jj0 0 ∧ z jj0 1 = z jj0 1 ∧ z jj0 2 = z jj0 2 ∧ z jj0 3 = z jj0 3 ∧ z jj0 4 = z jj0 4 ∧ True))) ∧ True))) ∧ ((decide ((↑i : Int) < (↑len : Int))) = false → (decide (ByteArray.size (G i) + 8 ≤ Go.maxLen)) = true ∧
 i + 1 ≤ 8 ∧ 8 - (i + 1) < 8 - i ∧ ((0 = 0 ∧ len = len ∧ len ≤ len ∧ len ≤ len) ∧ (ByteArray.mk #[]) = (ByteArray.mk #[]) ∧ G i ++ (ByteArray.mk #[UInt8.ofNat 0, UInt8.ofNat 0, UInt8.ofNat 0, UInt8.ofNat 0, UInt8.ofNat 0, UInt8.ofNat 0, UInt8.ofNat 0, UInt8.ofNat 0]) = G (i + 1) ∧ IntKind.wrap IntKind.i64 ((↑i : Int) + (1 : Int)) = (↑(i + 1) : Int) ∧ True) ∧ (N ≤ N ∧ (∀ (jj0 : Nat), (jj0 < N → True ∧ z jj0 0 = z jj0 0 ∧ z jj0 1 = z jj0 1 ∧ z jj0 2 = z jj0 2 ∧ z jj0 3 = z jj0 3 ∧ z jj0 4 = z jj0 4 ∧ True))) ∧ True))) ∧ ((decide ((↑i : Int) < (8 : Int))) = false → True ∧ ((0 = 0 ∧ len = len ∧ len ≤ len ∧ len ≤ len) ∧ (ByteArray.mk #[]) = (ByteArray.mk #[]) ∧ G i = G 8 ∧ (↑i : Int) = (8 : Int) ∧ True) ∧ (N ≤ N ∧ (∀ (jj0 : Nat), (jj0 < N → True ∧ z jj0 0 = z jj0 0 ∧ z jj0 1 = z jj0 1 ∧ z jj0 2 = z jj0 2 ∧ z jj0 3 = z jj0 3 ∧ z jj0 4 = z jj0 4 ∧ True))) ∧ True))) (by kernel_rfl) ?_⟩
  repeat' (first | (refine And.intro ?_ ?_) | (with_reducible intro hh; (try simp (disch := omega) only [decide_eq_true_eq, decide_eq_false_iff_not, Bool.and_eq_true, Bool.and_eq_false_imp, Bool.not_eq_true', Bool.not_eq_false', reduceCtorEq, or_false, or_true, Bool.or_eq_true, Bool.or_eq_false_iff, Int.not_lt, Int.not_le, beq_iff_eq, beq_eq_false_iff_ne, Nat.zero_add, Nat.mul_one, Nat.sub_zero, Int.toNat_natCast, decide_true, decide_false, cond_true, cond_false, wrap_id, wb, Bool.true_and, Bool.and_true, true_and, and_true, and_self] at hh)))
  all_goals (first | with_reducible rfl | exact True.intro | exact add_sz (by omega) (sz_pB _ _ _ _ _) | exact add_s8 (by omega) | (first | with_reducible assumption | omega | (simp only [decide_eq_true_eq, decide_eq_false_iff_not, Bool.and_eq_true, Bool.and_eq_false_imp, Bool.not_eq_true', Bool.not_eq_false', reduceCtorEq, or_false, or_true, Bool.or_eq_true, Bool.or_eq_false_iff, Int.not_lt, Int.not_le, beq_iff_eq, beq_eq_false_iff_ne]; omega) | (simp (disch := omega) only [decide_eq_true_eq, decide_eq_false_iff_not, Bool.and_eq_true, Bool.and_eq_false_imp, Bool.not_eq_true', Bool.not_eq_false', reduceCtorEq, or_false, or_true, Bool.or_eq_true, Bool.or_eq_false_iff, Int.not_lt, Int.not_le, beq_iff_eq, beq_eq_false_iff_ne, Nat.zero_add, Nat.mul_one, Nat.sub_zero, Int.toNat_natCast, decide_true, decide_false, cond_true, cond_false, wrap_id, wb, Bool.true_and, Bool.and_true, true_and, and_true, and_self]; first | done | omega)) | (simp only [Nat.zero_add, Int.toNat_natCast, Nat.mul_one]; exact hn _ (fun _ _ => rfl) (fun g => absurd ⟨by omega, by assumption⟩ g)) | exact hn _ (fun g => absurd g (by omega)) (fun _ => rfl) | exact hn _ (fun g g2 => absurd g2 (by assumption)) (fun _ => rfl) | (rw [show i = 8 by omega]; done) | trace_state)
theorem l_h (z : Nat → Nat → Int) (N len : Nat) (hl : len ≤ N) (hb : len ≤ 9223372036854775807) : LO Try.prog (lp Try.prog 20 0) (Th len (rG z len) 0) (SR 5 z N) (.x 0 (Th len (rG z len) 8) (SR 5 z N)) := by
  refine LQ.one (loop_scr pk okcP (by kernel_rfl) 1 (Th len (rG z len)) (fun _ => SR 5 z N) (fun i => 8 - i) (fun i => i ≤ 8) (fun _ => True) (fun _ => .x 0 (Th len (rG z len) 8) (SR 5 z N)) (fun _ => rfl) (fun i hi => r_h z N len (rG z len) hl hb i hi (size_rG z len i) (fun b h1 h2 => ?_)) (Nat.zero_le _) rfl)
  show rG z len i ++ b = rG z len i ++ rB z len i
  congr 1
  unfold rB
  have e : pE (z i 0) (z i 1) (z i 2) (z i 3) (z i 4) = 0 ↔ mayZ z i = true := by unfold pE mayZ; cases mayD (z i 0) (z i 1) (z i 2) (z i 3) (z i 4) <;> simp
  by_cases g : i < len ∧ mayZ z i = true
  · rw [if_pos g]; exact h1 g.1 (e.2 g.2)
  · rw [if_neg g]; exact h2 fun k => g ⟨k.1, e.1 k.2⟩
def rRg : Res := fun z n l => match l with
  | [] => some (n ≤ 9223372036854775807, .str (rG z n 8))
  | _ => none
theorem w_h (z : Nat → Nat → Int) (N len : Nat) (s : ByteArray) (hl : len ≤ N) (T T' : List SV) (hT : T = Th len (fun i => if i = 0 then ⟨#[]⟩ else s) 0) (hT' : T' = Th len (fun i => if i = 0 then ⟨#[]⟩ else s) 8) (hL : LO Try.prog (lp Try.prog 20 0) T (SR 5 z N) (.x 0 T' (SR 5 z N))) : ∃ r, callK (HS Try.prog [42] ctrP) Try.prog 20 [.sl 0 0 len len false] (SR 5 z N) (kV (.str s) (SR 5 z N) 1) r := by
  subst hT hT'
  refine ⟨.L (Th len (fun (i : Nat) => if i = 0 then (ByteArray.mk #[]) else s) 0) (Go.AE.SR 5 z N) (Go.AE.Out.x 0 (Th len (fun (i : Nat) => if i = 0 then (ByteArray.mk #[]) else s) 8) (Go.AE.SR 5 z N)) <| .E (0) [], Go.AE.kchange (b := (((0 = 0 ∧ len = len ∧ len ≤ len ∧ len ≤ len) ∧ (ByteArray.mk #[]) = (ByteArray.mk #[]) ∧ ((ByteArray.mk #[]) = if 0 = 0 then (ByteArray.mk #[]) else s) ∧ (0 : Int) = (0 : Int) ∧ True) ∧ (N ≤ N ∧ (∀ (jj0 : Nat), (jj0 < N → True ∧ z jj0 0 = z jj0 0 ∧ z jj0 1 = z jj0 1 ∧ z jj0 2 = z jj0 2 ∧ z jj0 3 = z jj0 3 ∧ z jj0 4 = z jj0 4 ∧ True))) ∧ True) ∧
 LO (Go.Proofs.Try.prog) (Go.AE.lp Go.Proofs.Try.prog 20 0) (Th len (fun (i : Nat) => if i = 0 then (ByteArray.mk #[]) else s) 0) (Go.AE.SR 5 z N) (Go.AE.Out.x 0 (Th len (fun (i : Nat) => if i = 0 then (ByteArray.mk #[]) else s) 8) (Go.AE.SR 5 z N)) ∧
 (((if 8 = 0 then (ByteArray.mk #[]) else s) = s) ∧ True) ∧ (N ≤ N ∧ (∀ (jj0 : Nat), (jj0 < N → True ∧ z jj0 0 = z jj0 0 ∧ z jj0 1 = z jj0 1 ∧ z jj0 2 = z jj0 2 ∧ z jj0 3 = z jj0 3 ∧ z jj0 4 = z jj0 4 ∧ True))) ∧ True) (by kernel_rfl) ?_⟩
  repeat' (first | exact hL | (refine And.intro ?_ ?_) | (with_reducible intro hh; (try simp (disch := omega) only [decide_eq_true_eq, decide_eq_false_iff_not, Bool.and_eq_true, Bool.and_eq_false_imp, Bool.not_eq_true', Bool.not_eq_false', reduceCtorEq, or_false, or_true, Bool.or_eq_true, Bool.or_eq_false_iff, Int.not_lt, Int.not_le, beq_iff_eq, beq_eq_false_iff_ne, Nat.zero_add, Nat.mul_one, Nat.sub_zero, Int.toNat_natCast, decide_true, decide_false, cond_true, cond_false, wrap_id, wb, Bool.true_and, Bool.and_true, true_and, and_true, and_self] at hh)))
  all_goals (first | with_reducible rfl | exact True.intro | (first | with_reducible assumption | omega | (simp only [decide_eq_true_eq, decide_eq_false_iff_not, Bool.and_eq_true, Bool.and_eq_false_imp, Bool.not_eq_true', Bool.not_eq_false', reduceCtorEq, or_false, or_true, Bool.or_eq_true, Bool.or_eq_false_iff, Int.not_lt, Int.not_le, beq_iff_eq, beq_eq_false_iff_ne]; omega) | (simp (disch := omega) only [decide_eq_true_eq, decide_eq_false_iff_not, Bool.and_eq_true, Bool.and_eq_false_imp, Bool.not_eq_true', Bool.not_eq_false', reduceCtorEq, or_false, or_true, Bool.or_eq_true, Bool.or_eq_false_iff, Int.not_lt, Int.not_le, beq_iff_eq, beq_eq_false_iff_ne, Nat.zero_add, Nat.mul_one, Nat.sub_zero, Int.toNat_natCast, decide_true, decide_false, cond_true, cond_false, wrap_id, wb, Bool.true_and, Bool.and_true, true_and, and_true, and_self]; first | done | omega)) | rfl | trace_state)
theorem ok_rg : ok1 Try.prog 20 (cSl 5 rRg) := ok_sl fun z N n l p v h hn hp => by
  unfold rRg at h
  split at h
  · cases h
    exact ⟨free_str _, scr_to pk okcP rfl (w_h z N n (rG z n 8) hn _ _ rfl rfl (l_h z N n hn hp))⟩
  · cases h
/-! ### what is read of a ring's bytes -/
theorem byte_u8 (x : Int) : ((u8 x).toNat : Int) = x % 256 := by
  unfold u8
  have e : IntKind.wrap .u8 x = x % 256 := by simp [IntKind.wrap, IntKind.bits, IntKind.signed]
  rw [e, UInt8.toNat_ofNat']
  omega
theorem ex_rG (z : Nat → Nat → Int) (len : Nat) : ∀ {n j : Nat}, j < n → (rG z len n).extract (8 * j) (8 * j + 8) = rB z len j
  | n + 1, j, h => by
    rcases Nat.lt_or_ge j n with g | g
    · have ih := ex_rG z len g
      have hs := size_rG z len n
      rw [← ih]
      apply ByteArray.ext
      simp only [rG, ByteArray.data_extract, ByteArray.data_append]
      rw [Array.extract_append]
      have hs2 : (rG z len n).data.size = 8 * n := hs
      rw [hs2, show 8 * j + 8 - 8 * n = 0 by omega]
      simp
    · obtain rfl : j = n := by omega
      have hs : (rG z len j).data.size = 8 * j := size_rG z len j
      have hs3 : (rB z len j).data.size = 8 := size_rB z len j
      have k : (rB z len j).data.extract 0 8 = (rB z len j).data := by
        have := Array.extract_size (xs := (rB z len j).data); rw [hs3] at this; exact this
      apply ByteArray.ext
      simp only [rG, ByteArray.data_extract, ByteArray.data_append]
      rw [Array.extract_append, hs, show 8 * j - 8 * j = 0 by omega, show 8 * j + 8 - 8 * j = 8 by omega, k]
      simp
      rw [size_rG]; omega
/-- row j as it is read: zeros where none may be -/
def yR (z : Nat → Nat → Int) (len : Nat) (j c : Nat) : Int := if j < len ∧ mayZ z j = true then z j c else 0
theorem or_bytes (x y : UInt8) : bits .or .i64 (x.toNat : Int) ((y.toNat : Int) * 256) = (x.toNat : Int) + 256 * (y.toNat : Int) := by
  have hx := x.toNat_lt
  have hy := y.toNat_lt
  have h1 : (BitVec.ofInt 64 (x.toNat : Int)).toNat = x.toNat := by rw [BitVec.toNat_ofInt]; omega
  have h2 : (BitVec.ofInt 64 ((y.toNat : Int) * 256)).toNat = 256 * y.toNat := by rw [BitVec.toNat_ofInt]; omega
  have key : (BitVec.ofInt 64 (x.toNat : Int) ||| BitVec.ofInt 64 ((y.toNat : Int) * 256)).toNat = 256 * y.toNat + x.toNat := by
    rw [BitVec.toNat_or, h1, h2, Nat.or_comm, show 256 * y.toNat = 2 ^ 8 * y.toNat from rfl, ← Nat.two_pow_add_eq_or_of_lt (by omega)]
  show IntKind.i64.wrap ((BitVec.ofInt 64 (x.toNat : Int) ||| BitVec.ofInt 64 ((y.toNat : Int) * 256)).toNat : Nat) = _
  rw [key, IntKind.wrap_i64]
  omega
theorem two_b {x y : UInt8} {v : Int} (h : 0 ≤ v ∧ v ≤ 65535) (hx : x = u8 v) (hy : y = u8 (Int.fdiv v (2 ^ 8))) : bits .or .i64 (x.toNat : Int) (IntKind.wrap .i64 ((y.toNat : Int) * 256)) = v := by
  have hy2 := y.toNat_lt
  rw [wrap_id (by omega) (by omega), or_bytes, hx, hy, byte_u8, byte_u8, show ((2 : Int) ^ 8) = 256 from rfl, fdiv_nn (by omega)]
  omega
theorem gD_pB {a b c d e : Int} (h : mayD a b c d e = true) : gv (pB a b c d e) = true ∧ gD (pB a b c d e) 0 = a ∧ gD (pB a b c d e) 1 = b ∧ gD (pB a b c d e) 2 = c ∧ gD (pB a b c d e) 3 = d ∧ ∀ k, 4 ≤ k → gD (pB a b c d e) k = e := by
  have q := h
  unfold mayD at q
  simp only [decide_eq_true_eq] at q
  obtain ⟨q1, q2, q3, q4, q5, q6, q7, q8, q9⟩ := q
  have hp : pB a b c d e = ⟨#[u8 a, u8 b, u8 c, u8 (Int.fdiv c (2 ^ 8)), u8 d, u8 (Int.fdiv d (2 ^ 8)), u8 e, 0]⟩ := if_pos h
  rw [hp]
  have b0 : byteAt ⟨#[u8 a, u8 b, u8 c, u8 (Int.fdiv c (2 ^ 8)), u8 d, u8 (Int.fdiv d (2 ^ 8)), u8 e, 0]⟩ 0 = a := by show ((u8 a).toNat : Int) = a; rw [byte_u8]; omega
  have b1 : byteAt ⟨#[u8 a, u8 b, u8 c, u8 (Int.fdiv c (2 ^ 8)), u8 d, u8 (Int.fdiv d (2 ^ 8)), u8 e, 0]⟩ 1 = b := by show ((u8 b).toNat : Int) = b; rw [byte_u8]; omega
  have b6 : byteAt ⟨#[u8 a, u8 b, u8 c, u8 (Int.fdiv c (2 ^ 8)), u8 d, u8 (Int.fdiv d (2 ^ 8)), u8 e, 0]⟩ 6 = e := by show ((u8 e).toNat : Int) = e; rw [byte_u8]; omega
  have b7 : byteAt ⟨#[u8 a, u8 b, u8 c, u8 (Int.fdiv c (2 ^ 8)), u8 d, u8 (Int.fdiv d (2 ^ 8)), u8 e, 0]⟩ 7 = 0 := rfl
  have w2 : W2 ⟨#[u8 a, u8 b, u8 c, u8 (Int.fdiv c (2 ^ 8)), u8 d, u8 (Int.fdiv d (2 ^ 8)), u8 e, 0]⟩ 2 = c := two_b ⟨q4, q5⟩ rfl rfl
  have w4 : W2 ⟨#[u8 a, u8 b, u8 c, u8 (Int.fdiv c (2 ^ 8)), u8 d, u8 (Int.fdiv d (2 ^ 8)), u8 e, 0]⟩ 4 = d := two_b ⟨q6, q7⟩ rfl rfl
  have hv : gv ⟨#[u8 a, u8 b, u8 c, u8 (Int.fdiv c (2 ^ 8)), u8 d, u8 (Int.fdiv d (2 ^ 8)), u8 e, 0]⟩ = true := by
    unfold gv; rw [b0, b1, b6, w2, w4, h, b7, decide_eq_true ⟨rfl, rfl⟩]; rfl
  refine ⟨hv, ?_, ?_, ?_, ?_, fun k hk => ?_⟩
  · exact (if_pos hv).trans b0
  · exact (if_pos hv).trans b1
  · exact (if_pos hv).trans w2
  · exact (if_pos hv).trans w4
  · match k, hk with
    | k + 4, _ => exact (if_pos hv).trans b6
theorem gv_Z8 : gv Z8 = true := by kernel_rfl
theorem gD_Z8 (k : Nat) : gD Z8 k = 0 := match k with
  | 0 => by kernel_rfl | 1 => by kernel_rfl | 2 => by kernel_rfl | 3 => by kernel_rfl | _ + 4 => (if_pos gv_Z8 : (if gv Z8 = true then byteAt Z8 6 else (0 : Int)) = byteAt Z8 6).trans (by kernel_rfl)
/-- what is read of the ring of some rows -/
theorem ex_ring (z : Nat → Nat → Int) (len : Nat) {a : Int} (ha : 0 ≤ a ∧ a < 8) : gv (ex (rG z len 8) a) = true ∧ ∀ c, c < 5 → gD (ex (rG z len 8) a) c = yR z len (Int.toNat a) c := by
  have e : ex (rG z len 8) a = rB z len (Int.toNat a) := by
    unfold ex
    rw [show Int.toNat (a * 8) = 8 * Int.toNat a by omega, show Int.toNat ((a + 1) * 8) = 8 * Int.toNat a + 8 by omega]
    exact ex_rG z len (by omega)
  rw [e]
  unfold rB yR
  by_cases g : Int.toNat a < len ∧ mayZ z (Int.toNat a) = true
  · simp only [if_pos g]
    have k := gD_pB (show mayD _ _ _ _ _ = true from g.2)
    exact ⟨k.1, fun c hc => match c, hc with
      | 0, _ => k.2.1 | 1, _ => k.2.2.1 | 2, _ => k.2.2.2.1 | 3, _ => k.2.2.2.2.1 | 4, _ => k.2.2.2.2.2 4 (Nat.le_refl _)⟩
  · simp only [if_neg g]
    exact ⟨gv_Z8, fun c _ => gD_Z8 c⟩

end Go.Proofs.Ytmjcfphcnnmgjaa.rg
