/- NicRows: its states. No condition. -/
import Derived.Test.YtkekeomkbcghnaaNicC
namespace Go.Proofs.Ytkekeomkbcghnaa.nicRows
open Go Go.Proofs Go.AE Go.RowKit nc
set_option maxRecDepth 100000
set_option linter.unusedVariables false
set_option linter.unusedSimpArgs false
theorem tn2 : Int.toNat 2 = 2 := rfl
theorem sameM_self (f : Nat → Int) (d : Nat → ByteArray) (n : Nat) : sameM f d n f d n = true := sameM_yes rfl fun _ _ => ⟨rfl, rfl⟩
theorem fO_rM (f : Nat → Int) (d : Nat → ByteArray) : fO (rM f d) = f := rfl
theorem dO_rM (f : Nat → Int) (d : Nat → ByteArray) : dO (rM f d) = d := rfl
theorem eqB_e {N : Nat} {π : List (Nat × Nat)} {m : Nat} {row : Nat → List SV} (h : m = 0) : eqB N π (.flat 2 false []) (.fam 2 false m row) := by subst h; exact trivial
theorem eqL_sh {π : List (Nat × Nat)} {f f' : Nat → Int} {d d' : Nat → ByteArray} {n k : Nat} (hf : f' k = f (k + 1)) (hd : d' k = d (k + 1)) : eqL π (selL (decide (k < 0)) (Rows.row 2 (Rows.lst []) k) (Rows.row 2 (Rows.fam n fun i => rM f d (1 + i)) (k - 0))) (rM f' d' k) := by
  rw [selL0]; simp only [row_fam, Nat.sub_zero]
  rw [Nat.add_comm 1 k]; exact ⟨hf.symm, hd.symm, trivial⟩
theorem rM_of {R : Nat → List SV} {k : Nat} {a : Int} {b : ByteArray} (h : R k = [.int .i64 a, .str b]) : R k = rM (fO R) (dO R) k := by unfold rM fO dO; rw [h]; rfl
theorem rowsel {f : Nat → Int} {d : Nat → ByteArray} {n k : Nat} {x : Int} {b : ByteArray} (hk : k < n + 1) : selL (decide (k < n)) (Rows.row 2 (Rows.fam n fun i => rM f d (0 + i)) k) (Rows.row 2 (Rows.lst [.int .i64 x, .str b]) (k - n)) = rM (fO fun k => selL (decide (k < n)) (Rows.row 2 (Rows.fam n fun i => rM f d (0 + i)) k) (Rows.row 2 (Rows.lst [.int .i64 x, .str b]) (k - n))) (dO fun k => selL (decide (k < n)) (Rows.row 2 (Rows.fam n fun i => rM f d (0 + i)) k) (Rows.row 2 (Rows.lst [.int .i64 x, .str b]) (k - n))) k := by
  have e0 : Rows.row 2 (Rows.lst [.int .i64 x, .str b]) 0 = [.int .i64 x, .str b] := by simp [Rows.row]
  rcases Nat.lt_or_ge k n with h | h
  · refine rM_of (R := fun k => selL (decide (k < n)) (Rows.row 2 (Rows.fam n fun i => rM f d (0 + i)) k) (Rows.row 2 (Rows.lst [.int .i64 x, .str b]) (k - n))) (a := f (0 + k)) (b := d (0 + k)) ?_
    show selL (decide (k < n)) _ (Rows.row 2 _ (k - n)) = _
    rw [decide_eq_true h, show k - n = 0 by omega, e0]; rfl
  · obtain rfl : k = n := by omega
    refine rM_of (R := fun i => selL (decide (i < k)) (Rows.row 2 (Rows.fam k fun i => rM f d (0 + i)) i) (Rows.row 2 (Rows.lst [.int .i64 x, .str b]) (i - k))) (a := x) (b := b) ?_
    show selL (decide (k < k)) _ (Rows.row 2 _ (k - k)) = _
    rw [decide_eq_false (by omega), show k - k = 0 by omega, e0]; rfl
theorem ex1 {i len : Nat} (h : i ≤ min len 60) (h2 : (len : Int) ≤ (i : Int)) : min len 60 = i := by omega
theorem ex2 {i len : Nat} (h : i ≤ min len 60) (h2 : (60 : Int) ≤ (i : Int)) : min len 60 = i := by omega
/-- the text of a round -/
def dat (i : Nat) : ByteArray := ⟨#[109]⟩ ++ decB i
def TT (len i : Nat) : List SV := fr 166 [(0, .sl 0 0 len len false), (2, .bool false), (3, .ptr 8 0 0), (5, .ptr 72 0 0), (6, .ptr 73 0 0), (7, .int .i64 i)]
def SS (z : Nat → Nat → Int) (len : Nat) (n : Nat → Nat → Nat) (f : Nat → Nat → Nat → Int) (d : Nat → Nat → Nat → ByteArray) (r : Nat → Nat → Int) (j : Nat) : St := { h := [(74, 0, .fam 2 false (n 0 j) (rM (f 0 j) (d 0 j))), (75, 0, .fam 2 false (n 1 j) (rM (f 1 j) (d 1 j))), (76, 0, .fam 2 false (n 2 j) (rM (f 2 j) (d 2 j))), (77, 0, .fam 2 false (n 0 j) (rM (f 0 j) (d 0 j))), (78, 0, .fam 2 false (n 1 j) (rM (f 1 j) (d 1 j))), (79, 0, .fam 2 false (n 2 j) (rM (f 2 j) (d 2 j))), (60, 0, .flat 4 false [.int .i64 0, .int .i64 0, .sl 74 0 (n 0 j) (n 0 j) false, .int .i64 (r 0 j), .int .i64 1, .int .i64 0, .sl 75 0 (n 1 j) (n 1 j) false, .int .i64 (r 1 j), .int .i64 1, .int .i64 0, .sl 76 0 (n 2 j) (n 2 j) false, .int .i64 (r 2 j)]), (72, 0, .flat 1 false [.sl 77 0 (n 0 j) (n 0 j) false, .sl 78 0 (n 1 j) (n 1 j) false, .sl 79 0 (n 2 j) (n 2 j) false]), (73, 0, .flat 1 false [.int .i64 (r 0 j), .int .i64 (r 1 j), .int .i64 (r 2 j)]), (8, 0, .flat 1 false [.sl 60 0 3 3 false]), (0, 0, .fam 1 true len fun k => rowN z k 1 0)], nx := 80, ck := 1, st := 1 }
abbrev ctr : Ctr := ctrL [(12, cTrue), (25, cDec), (20, cSM), (37, cCl)]
theorem okc : okC Try.prog ctr := okC_cons (ok_trueE pk 100 aw0) <| okC_cons ok_dec <| okC_cons ok_m <| okC_cons ok_cl <| okC_nil _
theorem seqB_iff {a b : ByteArray} : seqB a b = true ↔ a = b := by
  unfold seqB
  rw [beq_iff_eq, ByteArray.toList_eq, ByteArray.toList_eq]
  exact ⟨fun h => ByteArray.ext (Array.toList_inj.1 h), fun h => by rw [h]⟩
theorem seqB_self (a : ByteArray) : seqB a a = true := seqB_iff.2 rfl
theorem seqd (x : ByteArray) : seqB (ByteArray.mk #[109] ++ x) (ByteArray.mk #[]) = false := by
  rw [Bool.eq_false_iff]; intro h
  have e := congrArg ByteArray.size (seqB_iff.1 h)
  rw [ByteArray.size_append] at e
  have e2 : (ByteArray.mk #[109]).size = 1 := rfl
  have e3 : (ByteArray.mk #[]).size = 0 := rfl
  omega
theorem dsz (x : Nat) : decide (1 + (decB x).size ≤ maxLen) = true := decide_eq_true (by have := size_decB x; unfold maxLen; omega)
theorem dsz2 (x : Nat) : decide ((32 : Int) < ((ByteArray.size (ByteArray.mk #[109] ++ decB x) : Nat) : Int)) = false := decide_eq_false (by
  have := size_decB x
  have e2 : (ByteArray.mk #[109]).size = 1 := rfl
  rw [ByteArray.size_append]; omega)

end Go.Proofs.Ytkekeomkbcghnaa.nicRows
