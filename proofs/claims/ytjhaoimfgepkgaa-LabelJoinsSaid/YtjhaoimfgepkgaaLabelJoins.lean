/- The walk of caissonlaw9.LabelJoins: for every list of numbers it answers true. No condition. -/
import Derived.Test.YtjhaoimfgepkgaaE4
import Derived.Test.YtjhaoimfgepkgaaProg
namespace Go.Proofs.Ytjhaoimfgepkgaa.labelJoins
open Go Go.Proofs Go.AE Go.RowKit
set_option maxRecDepth 100000
set_option linter.unusedVariables false
set_option linter.unusedSimpArgs false
def lv (z : Nat → Int) (j : Nat) : Int := z j % 4
def ct (z : Nat → Int) (j : Nat) : Int := z j / 4 % 16
def mxU (z : Nat → Int) : Nat → Int
  | 0 => 0
  | i + 1 => max (mxU z i) (lv z i)
def orU (z : Nat → Int) : Nat → Int
  | 0 => 0
  | i + 1 => bits .or .i64 (orU z i) (ct z i)
def mxD (z : Nat → Int) (k : Nat) : Nat → Int
  | 0 => 0
  | i + 1 => max (lv z (k - 1 - i)) (mxD z k i)
def orD (z : Nat → Int) (k : Nat) : Nat → Int
  | 0 => 0
  | i + 1 => bits .or .i64 (ct z (k - 1 - i)) (orD z k i)
theorem mxU_bd (z : Nat → Int) : ∀ i, 0 ≤ mxU z i ∧ mxU z i ≤ 3
  | 0 => by simp [mxU]
  | i + 1 => by have := mxU_bd z i; simp only [mxU, lv]; omega
theorem mxD_bd (z : Nat → Int) (k : Nat) : ∀ i, 0 ≤ mxD z k i ∧ mxD z k i ≤ 3
  | 0 => by simp [mxD]
  | i + 1 => by have := mxD_bd z k i; simp only [mxD, lv]; omega
theorem or16 (a b : Int) (ha : 0 ≤ a ∧ a ≤ 15) (hb : 0 ≤ b ∧ b ≤ 15) : 0 ≤ bits .or .i64 a b ∧ bits .or .i64 a b ≤ 15 := by
  have := or_bd 4 (by decide) a b ha.1 (by have := ha.2; omega) hb.1 (by have := hb.2; omega)
  omega
theorem orU_bd (z : Nat → Int) : ∀ i, 0 ≤ orU z i ∧ orU z i ≤ 15
  | 0 => by simp [orU]
  | i + 1 => or16 _ _ (orU_bd z i) (by unfold ct; omega)
theorem orD_bd (z : Nat → Int) (k : Nat) : ∀ i, 0 ≤ orD z k i ∧ orD z k i ≤ 15
  | 0 => by simp [orD]
  | i + 1 => or16 _ _ (by unfold ct; omega) (orD_bd z k i)
/-- the one from below, from some place on -/
def mxF (z : Nat → Int) : Nat → Nat → Int
  | _, 0 => 0
  | a, n + 1 => max (lv z a) (mxF z (a + 1) n)
def orF (z : Nat → Int) : Nat → Nat → Int
  | _, 0 => 0
  | a, n + 1 => bits .or .i64 (ct z a) (orF z (a + 1) n)
theorem mxF_bd (z : Nat → Int) : ∀ n a, 0 ≤ mxF z a n
  | 0, _ => by simp [mxF]
  | n + 1, a => by have := mxF_bd z n (a + 1); simp only [mxF]; omega
theorem orF_bd (z : Nat → Int) : ∀ n a, 0 ≤ orF z a n ∧ orF z a n ≤ 15
  | 0, _ => by simp [orF]
  | n + 1, a => or16 _ _ (by unfold ct; omega) (orF_bd z n (a + 1))
theorem mxF_snoc (z : Nat → Int) : ∀ n a, mxF z a (n + 1) = max (mxF z a n) (lv z (a + n))
  | 0, a => by simp only [mxF, Nat.add_zero, lv]; omega
  | n + 1, a => by
    have := mxF_snoc z n (a + 1)
    rw [mxF, this, mxF, show a + 1 + n = a + (n + 1) by omega]; omega
theorem orF_snoc (z : Nat → Int) : ∀ n a, orF z a (n + 1) = bits .or .i64 (orF z a n) (ct z (a + n))
  | 0, a => by
    have h : 0 ≤ ct z a ∧ ct z a ≤ 15 := by unfold ct; omega
    simp only [orF, Nat.add_zero]
    rw [or_zero_i64 _ (by omega) (by omega), or_comm_i64, or_zero_i64 _ (by omega) (by omega)]
  | n + 1, a => by
    have := orF_snoc z n (a + 1)
    rw [orF, this, orF, or_assoc_i64, show a + 1 + n = a + (n + 1) by omega]
theorem mxU_F (z : Nat → Int) : ∀ i, mxU z i = mxF z 0 i
  | 0 => rfl
  | i + 1 => by rw [mxU, mxU_F z i, mxF_snoc, Nat.zero_add]
theorem orU_F (z : Nat → Int) : ∀ i, orU z i = orF z 0 i
  | 0 => rfl
  | i + 1 => by rw [orU, orU_F z i, orF_snoc, Nat.zero_add]
theorem mxD_F (z : Nat → Int) (k : Nat) : ∀ i, i ≤ k → mxD z k i = mxF z (k - i) i
  | 0, _ => rfl
  | i + 1, h => by rw [mxD, mxD_F z k i (by omega), mxF, show k - 1 - i = k - (i + 1) by omega, show k - (i + 1) + 1 = k - i by omega]
theorem orD_F (z : Nat → Int) (k : Nat) : ∀ i, i ≤ k → orD z k i = orF z (k - i) i
  | 0, _ => rfl
  | i + 1, h => by rw [orD, orD_F z k i (by omega), orF, show k - 1 - i = k - (i + 1) by omega, show k - (i + 1) + 1 = k - i by omega]
theorem mx_same (z : Nat → Int) (k : Nat) : mxD z k k = mxU z k := by rw [mxD_F z k k (Nat.le_refl _), mxU_F, Nat.sub_self]
theorem or_same (z : Nat → Int) (k : Nat) : orD z k k = orU z k := by rw [orD_F z k k (Nat.le_refl _), orU_F, Nat.sub_self]

def kk (len : Nat) : Nat := min len 20
def xv (nl : Bool) (len cap : Nat) : SV := cond nl .z0 (.sl 0 0 len cap true)
def hb (nl : Bool) (z : Nat → Int) (len : Nat) : Hp := cond nl [] [(0, 0, .fam 1 true len fun i => [.int .i64 (z i)])]
def nb (nl : Bool) : Nat := cond nl 0 1
def TT (nl : Bool) (z : Nat → Int) (len cap i : Nat) : List SV := fr 127 [(0, xv nl len cap), (2, .bool false), (3, .ptr (nb nl) 0 0), (4, .ptr (nb nl + 1) 0 0), (5, .int .i64 (mxU z i)), (6, .int .i64 (orU z i)), (7, .int .i64 (min (len : Int) 20)), (8, .int .i64 i)]
def SS (nl : Bool) (z : Nat → Int) (len i : Nat) : St := { h := [(nb nl + 1, 0, .flat 2 false [.int .i64 (mxD z (kk len) i), .int .i64 (orD z (kk len) i)]), (nb nl, 0, .flat 2 false [.int .i64 (mxU z i), .int .i64 (orU z i)])] ++ hb nl z len, nx := nb nl + 2, ck := 1, st := 1 }
theorem pk : PK Try.prog [23] := ⟨by kernel_rfl, by kernel_rfl, good_of (by kernel_rfl), nonum_of (by kernel_rfl)⟩
def ctr : Ctr := ctrL [(14, cTrue)]
theorem okc : okC Try.prog ctr := okC_cons (ok_true pk 100 ((by kernel_rfl : (SV.bool true = SV.bool true) = callK (Hn Try.prog False cond [23] 100) Try.prog 14 [] s0 (fun v _ => v = .bool true)) ▸ rfl)) (okC_nil _)
theorem round_false (z : Nat → Int) (len cap i : Nat) (hi : i ≤ kk len) (hk : kk len = min len 20) (hn : len = 0 ∨ false = false) (b1 : 0 ≤ mxU z i ∧ mxU z i ≤ 3) (b2 : 0 ≤ orU z i ∧ orU z i ≤ 15) (b3 : 0 ≤ mxD z (kk len) i ∧ mxD z (kk len) i ≤ 3) (b4 : 0 ≤ orD z (kk len) i ∧ orD z (kk len) i ≤ 15)
   (e1 : (min (len : Int) 20 - 1 - (i : Int)).toNat = kk len - 1 - i)
   (o1 : 0 ≤ bits .or .i64 (orU z i) (z i / 4 % 16) ∧ bits .or .i64 (orU z i) (z i / 4 % 16) ≤ 15) (s4 : ((2 : Int) ^ min (Int.toNat 2) 64) = 4) :
    ∃ r, exec (HS Try.prog [23] ctr) Try.prog (lp Try.prog 6 0) (TT false z len cap i) (SS false z len i) (kN (nb false + 2) (TT false z len cap) (SS false z len) (fun i => kk len - i) (fun i => i ≤ kk len) i) (kX (nb false + 2) (fun _ => True) fun _ => .x 0 (TT false z len cap (kk len)) (SS false z len (kk len))) (kR (nb false + 2) (fun _ => True) fun _ => .n [] s0) r := by
  refine ⟨.B (.T <| .T <| .T <| .T <| .Z <| .T <| .T <| .T <| .T <| .Z <| .T <| .Z <| .Z <| .Z <| .T <| .Z <| .Z <| .Z <| .T <| .Z <| .Z <| .Z <| .N <| .Z <| .T <| .Z <| .Z <| .Z <| .T <| .Z <| .Z <| .Z <| .T <| .Z <| .Z <| .Z <| .Z <| .Z <| .N <| .T <| .Z <| .Z <| .Z <| .T <| .Z <| .Z <| .Z <| .T <| .Z <| .Z <| .Z <| .N <| .Z <| .T <| .Z <| .Z <| .Z <| .T <| .Z <| .Z <| .Z <| .T <| .Z <| .Z <| .Z <| .Z <| .Z <| .N <| .Z <| .Z <| .Z <| .Z <| .Z <| .Z <| .Z <| .T <| .Z <| .Z <| .Z <| .T <| .Z <| .Z <| .Z <| .T <| .Z <| .Z <| .Z <| .T <| .Z <| .T <| .Z <| .Z <| .Z <| .T <| .Z <| .Z <| .Z <| .T <| .Z <| .Z <| .Z <| .Z <| .T <| .Z <| .Z <| .Z <| .Z <| .Z <| .T <| .Z <| .Z <| .Z <| .Z <| .Z <| .Z <| .Z <| .Z <| .N <| .Z <| .Z <| .T <| .Z <| .Z <| .Z <| .T <| .Z <| .Z <| .Z <| .T <| .Z <| .Z <| .Z <| .T <| .Z <| .T <| .Z <| .Z <| .Z <| .T <| .Z <| .Z <| .Z <| .T <| .Z <| .Z <| .Z <| .Z <| .T <| .Z <| .Z <| .Z <| .Z <| .Z <| .T <| .Z <| .Z <| .Z <| .Z <| .Z <| .Z <| .Z <| .Z <| .N <| .E (i + (1 : Nat)) []) (.E ((0 : Nat)) []), Go.AE.kchange (b := (((Decidable.decide ((↑i : Int) < Min.min (↑len : Int) (20 : Int))) = true → (Decidable.decide ((0 : Int) ≤ (↑i : Int)) && Decidable.decide ((↑i : Int) < (↑len : Int))) = true ∧
 (Decidable.decide ((0 : Nat) + Int.toNat (↑i : Int) * (0 + (1 : Nat)) < len)) = true ∧
 (Decidable.decide ((0 : Int) ≤ (↑i : Int)) && Decidable.decide ((↑i : Int) < (↑len : Int))) = true ∧
 (Decidable.decide ((0 : Nat) + Int.toNat (↑i : Int) * (0 + (1 : Nat)) < len)) = true ∧
 (Decidable.decide ((0 : Int) ≤ Go.IntKind.wrap Go.IntKind.i64 (Go.IntKind.wrap Go.IntKind.i64 (Min.min (↑len : Int) (20 : Int) - (1 : Int)) - (↑i : Int))) && Decidable.decide (Go.IntKind.wrap Go.IntKind.i64 (Go.IntKind.wrap Go.IntKind.i64 (Min.min (↑len : Int) (20 : Int) - (1 : Int)) - (↑i : Int)) < (↑len : Int))) = true ∧
 (Decidable.decide ((0 : Nat) + Int.toNat (Go.IntKind.wrap Go.IntKind.i64 (Go.IntKind.wrap Go.IntKind.i64 (Min.min (↑len : Int) (20 : Int) - (1 : Int)) - (↑i : Int))) * (0 + (1 : Nat)) < len)) = true ∧
 (Decidable.decide ((0 : Int) ≤ Go.IntKind.wrap Go.IntKind.i64 (Go.IntKind.wrap Go.IntKind.i64 (Min.min (↑len : Int) (20 : Int) - (1 : Int)) - (↑i : Int))) && Decidable.decide (Go.IntKind.wrap Go.IntKind.i64 (Go.IntKind.wrap Go.IntKind.i64 (Min.min (↑len : Int) (20 : Int) - (1 : Int)) - (↑i : Int)) < (↑len : Int))) = true ∧
 (Decidable.decide ((0 : Nat) + Int.toNat (Go.IntKind.wrap Go.IntKind.i64 (Go.IntKind.wrap Go.IntKind.i64 (Min.min (↑len : Int) (20 : Int) - (1 : Int)) - (↑i : Int))) * (0 + (1 : Nat)) < len)) = true ∧
 (Decidable.decide ((0 : Int) ≤ Go.Proofs.Ytjhaoimfgepkgaa.labelJoins.mxU z i)) = true ∧
 (Decidable.decide (Go.Proofs.Ytjhaoimfgepkgaa.labelJoins.mxU z i ≤ (3 : Int))) = true ∧
 (Decidable.decide ((0 : Int) ≤ Go.Proofs.Ytjhaoimfgepkgaa.labelJoins.orU z i)) = true ∧
 (!Decidable.decide (Go.Proofs.Ytjhaoimfgepkgaa.labelJoins.orU z i ≤ (15 : Int))) = false ∧
 (Decidable.decide ((0 : Int) ≤ Go.bits Go.BinOp.and Go.IntKind.i64 (z ((0 : Nat) + Int.toNat (↑i : Int) * (0 + (1 : Nat)))) (3 : Int))) = true ∧
 (Decidable.decide (Go.bits Go.BinOp.and Go.IntKind.i64 (z ((0 : Nat) + Int.toNat (↑i : Int) * (0 + (1 : Nat)))) (3 : Int) ≤ (3 : Int))) = true ∧
 (Decidable.decide ((0 : Int) ≤ Go.bits Go.BinOp.and Go.IntKind.i64 (Int.fdiv (z ((0 : Nat) + Int.toNat (↑i : Int) * (0 + (1 : Nat)))) ((2 : Int) ^ Min.min (Int.toNat (2 : Int)) (Go.IntKind.bits Go.IntKind.i64))) (15 : Int))) = true ∧
 (!Decidable.decide (Go.bits Go.BinOp.and Go.IntKind.i64 (Int.fdiv (z ((0 : Nat) + Int.toNat (↑i : Int) * (0 + (1 : Nat)))) ((2 : Int) ^ Min.min (Int.toNat (2 : Int)) (Go.IntKind.bits Go.IntKind.i64))) (15 : Int) ≤ (15 : Int))) = false ∧
 (Decidable.decide ((0 : Int) ≤ Go.bits Go.BinOp.and Go.IntKind.i64 (z ((0 : Nat) + Int.toNat (Go.IntKind.wrap Go.IntKind.i64 (Go.IntKind.wrap Go.IntKind.i64 (Min.min (↑len : Int) (20 : Int) - (1 : Int)) - (↑i : Int))) * (0 + (1 : Nat)))) (3 : Int))) = true ∧
 (Decidable.decide (Go.bits Go.BinOp.and Go.IntKind.i64 (z ((0 : Nat) + Int.toNat (Go.IntKind.wrap Go.IntKind.i64 (Go.IntKind.wrap Go.IntKind.i64 (Min.min (↑len : Int) (20 : Int) - (1 : Int)) - (↑i : Int))) * (0 + (1 : Nat)))) (3 : Int) ≤ (3 : Int))) = true ∧
 (Decidable.decide ((0 : Int) ≤ Go.bits Go.BinOp.and Go.IntKind.i64 (Int.fdiv (z ((0 : Nat) + Int.toNat (Go.IntKind.wrap Go.IntKind.i64 (Go.IntKind.wrap Go.IntKind.i64 (Min.min (↑len : Int) (20 : Int) - (1 : Int)) - (↑i : Int))) * (0 + (1 : Nat)))) ((2 : Int) ^ Min.min (Int.toNat (2 : Int)) (Go.IntKind.bits Go.IntKind.i64))) (15 : Int))) = true ∧
 (!Decidable.decide (Go.bits Go.BinOp.and Go.IntKind.i64 (Int.fdiv (z ((0 : Nat) + Int.toNat (Go.IntKind.wrap Go.IntKind.i64 (Go.IntKind.wrap Go.IntKind.i64 (Min.min (↑len : Int) (20 : Int) - (1 : Int)) - (↑i : Int))) * (0 + (1 : Nat)))) ((2 : Int) ^ Min.min (Int.toNat (2 : Int)) (Go.IntKind.bits Go.IntKind.i64))) (15 : Int) ≤ (15 : Int))) = false ∧
 (Decidable.decide ((0 : Int) ≤ Go.Proofs.Ytjhaoimfgepkgaa.labelJoins.mxD z (Go.Proofs.Ytjhaoimfgepkgaa.labelJoins.kk len) i)) = true ∧
 (Decidable.decide (Go.Proofs.Ytjhaoimfgepkgaa.labelJoins.mxD z (Go.Proofs.Ytjhaoimfgepkgaa.labelJoins.kk len) i ≤ (3 : Int))) = true ∧
 (Decidable.decide ((0 : Int) ≤ Go.Proofs.Ytjhaoimfgepkgaa.labelJoins.orD z (Go.Proofs.Ytjhaoimfgepkgaa.labelJoins.kk len) i)) = true ∧
 (!Decidable.decide (Go.Proofs.Ytjhaoimfgepkgaa.labelJoins.orD z (Go.Proofs.Ytjhaoimfgepkgaa.labelJoins.kk len) i ≤ (15 : Int))) = false ∧
 (Decidable.decide ((0 : Int) ≤ Max.max (Go.Proofs.Ytjhaoimfgepkgaa.labelJoins.mxU z i) (Go.bits Go.BinOp.and Go.IntKind.i64 (z ((0 : Nat) + Int.toNat (↑i : Int) * (0 + (1 : Nat)))) (3 : Int)))) = true ∧
 (Decidable.decide (Max.max (Go.Proofs.Ytjhaoimfgepkgaa.labelJoins.mxU z i) (Go.bits Go.BinOp.and Go.IntKind.i64 (z ((0 : Nat) + Int.toNat (↑i : Int) * (0 + (1 : Nat)))) (3 : Int)) ≤ (3 : Int))) = true ∧
 (Decidable.decide ((0 : Int) ≤ Go.bits Go.BinOp.or Go.IntKind.i64 (Go.Proofs.Ytjhaoimfgepkgaa.labelJoins.orU z i) (Go.bits Go.BinOp.and Go.IntKind.i64 (Int.fdiv (z ((0 : Nat) + Int.toNat (↑i : Int) * (0 + (1 : Nat)))) ((2 : Int) ^ Min.min (Int.toNat (2 : Int)) (Go.IntKind.bits Go.IntKind.i64))) (15 : Int)))) = true ∧
 (Decidable.decide (Go.bits Go.BinOp.or Go.IntKind.i64 (Go.Proofs.Ytjhaoimfgepkgaa.labelJoins.orU z i) (Go.bits Go.BinOp.and Go.IntKind.i64 (Int.fdiv (z ((0 : Nat) + Int.toNat (↑i : Int) * (0 + (1 : Nat)))) ((2 : Int) ^ Min.min (Int.toNat (2 : Int)) (Go.IntKind.bits Go.IntKind.i64))) (15 : Int)) ≤ (15 : Int))) = true ∧
 (Decidable.decide ((0 : Int) ≤ Go.Proofs.Ytjhaoimfgepkgaa.labelJoins.mxU z i)) = true ∧
 (Decidable.decide (Go.Proofs.Ytjhaoimfgepkgaa.labelJoins.mxU z i ≤ (3 : Int))) = true ∧
 (Decidable.decide ((0 : Int) ≤ Go.Proofs.Ytjhaoimfgepkgaa.labelJoins.orU z i)) = true ∧
 (Decidable.decide (Go.Proofs.Ytjhaoimfgepkgaa.labelJoins.orU z i ≤ (15 : Int))) = true ∧
 (Decidable.decide (Go.Proofs.Ytjhaoimfgepkgaa.labelJoins.mxU z i ≤ Max.max (Go.Proofs.Ytjhaoimfgepkgaa.labelJoins.mxU z i) (Go.bits Go.BinOp.and Go.IntKind.i64 (z ((0 : Nat) + Int.toNat (↑i : Int) * (0 + (1 : Nat)))) (3 : Int)))) = true ∧
 (!Decidable.decide (Go.bits Go.BinOp.andNot Go.IntKind.i64 (Go.Proofs.Ytjhaoimfgepkgaa.labelJoins.orU z i) (Go.bits Go.BinOp.or Go.IntKind.i64 (Go.Proofs.Ytjhaoimfgepkgaa.labelJoins.orU z i) (Go.bits Go.BinOp.and Go.IntKind.i64 (Int.fdiv (z ((0 : Nat) + Int.toNat (↑i : Int) * (0 + (1 : Nat)))) ((2 : Int) ^ Min.min (Int.toNat (2 : Int)) (Go.IntKind.bits Go.IntKind.i64))) (15 : Int))) = (0 : Int))) = false ∧
 (Decidable.decide ((0 : Int) ≤ Max.max (Go.Proofs.Ytjhaoimfgepkgaa.labelJoins.mxU z i) (Go.bits Go.BinOp.and Go.IntKind.i64 (z ((0 : Nat) + Int.toNat (↑i : Int) * (0 + (1 : Nat)))) (3 : Int)))) = true ∧
 (Decidable.decide (Max.max (Go.Proofs.Ytjhaoimfgepkgaa.labelJoins.mxU z i) (Go.bits Go.BinOp.and Go.IntKind.i64 (z ((0 : Nat) + Int.toNat (↑i : Int) * (0 + (1 : Nat)))) (3 : Int)) ≤ (3 : Int))) = true ∧
 (Decidable.decide ((0 : Int) ≤ Go.bits Go.BinOp.or Go.IntKind.i64 (Go.Proofs.Ytjhaoimfgepkgaa.labelJoins.orU z i) (Go.bits Go.BinOp.and Go.IntKind.i64 (Int.fdiv (z ((0 : Nat) + Int.toNat (↑i : Int) * (0 + (1 : Nat)))) ((2 : Int) ^ Min.min (Int.toNat (2 : Int)) (Go.IntKind.bits Go.IntKind.i64))) (15 : Int)))) = true ∧
 (Decidable.decide (Go.bits Go.BinOp.or Go.IntKind.i64 (Go.Proofs.Ytjhaoimfgepkgaa.labelJoins.orU z i) (Go.bits Go.BinOp.and Go.IntKind.i64 (Int.fdiv (z ((0 : Nat) + Int.toNat (↑i : Int) * (0 + (1 : Nat)))) ((2 : Int) ^ Min.min (Int.toNat (2 : Int)) (Go.IntKind.bits Go.IntKind.i64))) (15 : Int)) ≤ (15 : Int))) = true ∧
 (Decidable.decide ((0 : Int) ≤ Go.bits Go.BinOp.and Go.IntKind.i64 (z ((0 : Nat) + Int.toNat (↑i : Int) * (0 + (1 : Nat)))) (3 : Int))) = true ∧
 (Decidable.decide (Go.bits Go.BinOp.and Go.IntKind.i64 (z ((0 : Nat) + Int.toNat (↑i : Int) * (0 + (1 : Nat)))) (3 : Int) ≤ (3 : Int))) = true ∧
 (Decidable.decide ((0 : Int) ≤ Go.bits Go.BinOp.and Go.IntKind.i64 (Int.fdiv (z ((0 : Nat) + Int.toNat (↑i : Int) * (0 + (1 : Nat)))) ((2 : Int) ^ Min.min (Int.toNat (2 : Int)) (Go.IntKind.bits Go.IntKind.i64))) (15 : Int))) = true ∧
 (Decidable.decide (Go.bits Go.BinOp.and Go.IntKind.i64 (Int.fdiv (z ((0 : Nat) + Int.toNat (↑i : Int) * (0 + (1 : Nat)))) ((2 : Int) ^ Min.min (Int.toNat (2 : Int)) (Go.IntKind.bits Go.IntKind.i64))) (15 : Int) ≤ (15 : Int))) = true ∧
 (Decidable.decide (Go.bits Go.BinOp.and Go.IntKind.i64 (z ((0 : Nat) + Int.toNat (↑i : Int) * (0 + (1 : Nat)))) (3 : Int) ≤ Max.max (Go.Proofs.Ytjhaoimfgepkgaa.labelJoins.mxU z i) (Go.bits Go.BinOp.and Go.IntKind.i64 (z ((0 : Nat) + Int.toNat (↑i : Int) * (0 + (1 : Nat)))) (3 : Int)))) = true ∧
 (!Decidable.decide (Go.bits Go.BinOp.andNot Go.IntKind.i64 (Go.bits Go.BinOp.and Go.IntKind.i64 (Int.fdiv (z ((0 : Nat) + Int.toNat (↑i : Int) * (0 + (1 : Nat)))) ((2 : Int) ^ Min.min (Int.toNat (2 : Int)) (Go.IntKind.bits Go.IntKind.i64))) (15 : Int)) (Go.bits Go.BinOp.or Go.IntKind.i64 (Go.Proofs.Ytjhaoimfgepkgaa.labelJoins.orU z i) (Go.bits Go.BinOp.and Go.IntKind.i64 (Int.fdiv (z ((0 : Nat) + Int.toNat (↑i : Int) * (0 + (1 : Nat)))) ((2 : Int) ^ Min.min (Int.toNat (2 : Int)) (Go.IntKind.bits Go.IntKind.i64))) (15 : Int))) = (0 : Int))) = false ∧
 i + (1 : Nat) ≤ Go.Proofs.Ytjhaoimfgepkgaa.labelJoins.kk len ∧ Go.Proofs.Ytjhaoimfgepkgaa.labelJoins.kk len - (i + (1 : Nat)) < Go.Proofs.Ytjhaoimfgepkgaa.labelJoins.kk len - i ∧ (((0 : Nat) = (0 : Nat) ∧ len = len ∧ cap = cap) ∧ Bool.false = Bool.false ∧ ((0 : Nat) = (0 : Nat) ∧ (0 : Nat) = (0 : Nat)) ∧ ((0 : Nat) = (0 : Nat) ∧ (0 : Nat) = (0 : Nat)) ∧ Max.max (Go.Proofs.Ytjhaoimfgepkgaa.labelJoins.mxU z i) (Go.bits Go.BinOp.and Go.IntKind.i64 (z ((0 : Nat) + Int.toNat (↑i : Int) * (0 + (1 : Nat)))) (3 : Int)) = Go.Proofs.Ytjhaoimfgepkgaa.labelJoins.mxU z (i + (1 : Nat)) ∧ Go.bits Go.BinOp.or Go.IntKind.i64 (Go.Proofs.Ytjhaoimfgepkgaa.labelJoins.orU z i) (Go.bits Go.BinOp.and Go.IntKind.i64 (Int.fdiv (z ((0 : Nat) + Int.toNat (↑i : Int) * (0 + (1 : Nat)))) ((2 : Int) ^ Min.min (Int.toNat (2 : Int)) (Go.IntKind.bits Go.IntKind.i64))) (15 : Int)) = Go.Proofs.Ytjhaoimfgepkgaa.labelJoins.orU z (i + (1 : Nat)) ∧ Min.min (↑len : Int) (20 : Int) = Min.min (↑len : Int) (20 : Int) ∧ Go.IntKind.wrap Go.IntKind.i64 ((↑i : Int) + (1 : Int)) = (↑(i + (1 : Nat)) : Int) ∧ True) ∧ (Max.max (Go.bits Go.BinOp.and Go.IntKind.i64 (z ((0 : Nat) + Int.toNat (Go.IntKind.wrap Go.IntKind.i64 (Go.IntKind.wrap Go.IntKind.i64 (Min.min (↑len : Int) (20 : Int) - (1 : Int)) - (↑i : Int))) * (0 + (1 : Nat)))) (3 : Int)) (Go.Proofs.Ytjhaoimfgepkgaa.labelJoins.mxD z (Go.Proofs.Ytjhaoimfgepkgaa.labelJoins.kk len) i) = Go.Proofs.Ytjhaoimfgepkgaa.labelJoins.mxD z (Go.Proofs.Ytjhaoimfgepkgaa.labelJoins.kk len) (i + (1 : Nat)) ∧ Go.bits Go.BinOp.or Go.IntKind.i64 (Go.bits Go.BinOp.and Go.IntKind.i64 (Int.fdiv (z ((0 : Nat) + Int.toNat (Go.IntKind.wrap Go.IntKind.i64 (Go.IntKind.wrap Go.IntKind.i64 (Min.min (↑len : Int) (20 : Int) - (1 : Int)) - (↑i : Int))) * (0 + (1 : Nat)))) ((2 : Int) ^ Min.min (Int.toNat (2 : Int)) (Go.IntKind.bits Go.IntKind.i64))) (15 : Int)) (Go.Proofs.Ytjhaoimfgepkgaa.labelJoins.orD z (Go.Proofs.Ytjhaoimfgepkgaa.labelJoins.kk len) i) = Go.Proofs.Ytjhaoimfgepkgaa.labelJoins.orD z (Go.Proofs.Ytjhaoimfgepkgaa.labelJoins.kk len) (i + (1 : Nat)) ∧ True) ∧ (Max.max (Go.Proofs.Ytjhaoimfgepkgaa.labelJoins.mxU z i) (Go.bits Go.BinOp.and Go.IntKind.i64 (z ((0 : Nat) + Int.toNat (↑i : Int) * (0 + (1 : Nat)))) (3 : Int)) = Go.Proofs.Ytjhaoimfgepkgaa.labelJoins.mxU z (i + (1 : Nat)) ∧ Go.bits Go.BinOp.or Go.IntKind.i64 (Go.Proofs.Ytjhaoimfgepkgaa.labelJoins.orU z i) (Go.bits Go.BinOp.and Go.IntKind.i64 (Int.fdiv (z ((0 : Nat) + Int.toNat (↑i : Int) * (0 + (1 : Nat)))) ((2 : Int) ^ Min.min (Int.toNat (2 : Int)) (Go.IntKind.bits Go.IntKind.i64))) (15 : Int)) = Go.Proofs.Ytjhaoimfgepkgaa.labelJoins.orU z (i + (1 : Nat)) ∧ True) ∧ (len = len ∧ (∀ (i : Nat), (i < len → True ∧ z i = z i ∧ True))) ∧ True) ∧ ((Decidable.decide ((↑i : Int) < Min.min (↑len : Int) (20 : Int))) = false → True ∧ (((0 : Nat) = (0 : Nat) ∧ len = len ∧ cap = cap) ∧ Bool.false = Bool.false ∧ ((0 : Nat) = (0 : Nat) ∧ (0 : Nat) = (0 : Nat)) ∧ ((0 : Nat) = (0 : Nat) ∧ (0 : Nat) = (0 : Nat)) ∧ Go.Proofs.Ytjhaoimfgepkgaa.labelJoins.mxU z i = Go.Proofs.Ytjhaoimfgepkgaa.labelJoins.mxU z (Go.Proofs.Ytjhaoimfgepkgaa.labelJoins.kk len) ∧ Go.Proofs.Ytjhaoimfgepkgaa.labelJoins.orU z i = Go.Proofs.Ytjhaoimfgepkgaa.labelJoins.orU z (Go.Proofs.Ytjhaoimfgepkgaa.labelJoins.kk len) ∧ Min.min (↑len : Int) (20 : Int) = Min.min (↑len : Int) (20 : Int) ∧ (↑i : Int) = (↑(Go.Proofs.Ytjhaoimfgepkgaa.labelJoins.kk len) : Int) ∧ True) ∧ (Go.Proofs.Ytjhaoimfgepkgaa.labelJoins.mxD z (Go.Proofs.Ytjhaoimfgepkgaa.labelJoins.kk len) i = Go.Proofs.Ytjhaoimfgepkgaa.labelJoins.mxD z (Go.Proofs.Ytjhaoimfgepkgaa.labelJoins.kk len) (Go.Proofs.Ytjhaoimfgepkgaa.labelJoins.kk len) ∧ Go.Proofs.Ytjhaoimfgepkgaa.labelJoins.orD z (Go.Proofs.Ytjhaoimfgepkgaa.labelJoins.kk len) i = Go.Proofs.Ytjhaoimfgepkgaa.labelJoins.orD z (Go.Proofs.Ytjhaoimfgepkgaa.labelJoins.kk len) (Go.Proofs.Ytjhaoimfgepkgaa.labelJoins.kk len) ∧ True) ∧ (Go.Proofs.Ytjhaoimfgepkgaa.labelJoins.mxU z i = Go.Proofs.Ytjhaoimfgepkgaa.labelJoins.mxU z (Go.Proofs.Ytjhaoimfgepkgaa.labelJoins.kk len) ∧ Go.Proofs.Ytjhaoimfgepkgaa.labelJoins.orU z i = Go.Proofs.Ytjhaoimfgepkgaa.labelJoins.orU z (Go.Proofs.Ytjhaoimfgepkgaa.labelJoins.kk len) ∧ True) ∧ (len = len ∧ (∀ (i : Nat), (i < len → True ∧ z i = z i ∧ True))) ∧ True))) (by kernel_rfl) ?_⟩
  repeat' (first | (refine And.intro ?_ ?_) | (with_reducible intro h))
  all_goals (try (first | with_reducible rfl | ((try simp only [decide_eq_true_eq, decide_eq_false_iff_not, Bool.and_eq_true, Bool.not_eq_true', Bool.not_eq_false', reduceCtorEq, or_false, or_true] at *); omega) | ((try simp only [decide_eq_true_eq, decide_eq_false_iff_not, Bool.and_eq_true, Bool.not_eq_true', Bool.not_eq_false', reduceCtorEq, or_false, or_true] at *); (try simp (disch := omega) only [mask3, mask15, fdiv_nn, i64_bits, wrap_id, Nat.zero_add, Nat.mul_one, Int.toNat_natCast, andNot_or_left, andNot_or_right, s4, e1]); first | done | omega)))
  all_goals (try simp only [decide_eq_true_eq, decide_eq_false_iff_not, Bool.and_eq_true, Bool.not_eq_true', Bool.not_eq_false', reduceCtorEq, or_false, or_true] at *)
  all_goals (try simp (disch := omega) only [mask3, mask15, fdiv_nn, i64_bits, wrap_id, Nat.zero_add, Nat.mul_one, Int.toNat_natCast, andNot_or_left, andNot_or_right, s4, e1, orD, mxD, orU, mxU, lv, ct])
  all_goals (first | done | omega | (rw [show i = kk len by omega]; done) | trace_state)
theorem round_true (z : Nat → Int) (len cap i : Nat) (hi : i ≤ kk len) (hk : kk len = min len 20) (hn : len = 0 ∨ true = false) (b1 : 0 ≤ mxU z i ∧ mxU z i ≤ 3) (b2 : 0 ≤ orU z i ∧ orU z i ≤ 15) (b3 : 0 ≤ mxD z (kk len) i ∧ mxD z (kk len) i ≤ 3) (b4 : 0 ≤ orD z (kk len) i ∧ orD z (kk len) i ≤ 15)
   (e1 : (min (len : Int) 20 - 1 - (i : Int)).toNat = kk len - 1 - i)
   (o1 : 0 ≤ bits .or .i64 (orU z i) (z i / 4 % 16) ∧ bits .or .i64 (orU z i) (z i / 4 % 16) ≤ 15) (s4 : ((2 : Int) ^ min (Int.toNat 2) 64) = 4) :
    ∃ r, exec (HS Try.prog [23] ctr) Try.prog (lp Try.prog 6 0) (TT true z len cap i) (SS true z len i) (kN (nb true + 2) (TT true z len cap) (SS true z len) (fun i => kk len - i) (fun i => i ≤ kk len) i) (kX (nb true + 2) (fun _ => True) fun _ => .x 0 (TT true z len cap (kk len)) (SS true z len (kk len))) (kR (nb true + 2) (fun _ => True) fun _ => .n [] s0) r := by
  refine ⟨.N <| .E ((0 : Nat)) [], Go.AE.kchange (b := (Decidable.decide ((↑i : Int) < Min.min (↑len : Int) (20 : Int))) = false ∧
 True ∧ (True ∧ Bool.false = Bool.false ∧ ((0 : Nat) = (0 : Nat) ∧ (0 : Nat) = (0 : Nat)) ∧ ((0 : Nat) = (0 : Nat) ∧ (0 : Nat) = (0 : Nat)) ∧ Go.Proofs.Ytjhaoimfgepkgaa.labelJoins.mxU z i = Go.Proofs.Ytjhaoimfgepkgaa.labelJoins.mxU z (Go.Proofs.Ytjhaoimfgepkgaa.labelJoins.kk len) ∧ Go.Proofs.Ytjhaoimfgepkgaa.labelJoins.orU z i = Go.Proofs.Ytjhaoimfgepkgaa.labelJoins.orU z (Go.Proofs.Ytjhaoimfgepkgaa.labelJoins.kk len) ∧ Min.min (↑len : Int) (20 : Int) = Min.min (↑len : Int) (20 : Int) ∧ (↑i : Int) = (↑(Go.Proofs.Ytjhaoimfgepkgaa.labelJoins.kk len) : Int) ∧ True) ∧ (Go.Proofs.Ytjhaoimfgepkgaa.labelJoins.mxD z (Go.Proofs.Ytjhaoimfgepkgaa.labelJoins.kk len) i = Go.Proofs.Ytjhaoimfgepkgaa.labelJoins.mxD z (Go.Proofs.Ytjhaoimfgepkgaa.labelJoins.kk len) (Go.Proofs.Ytjhaoimfgepkgaa.labelJoins.kk len) ∧ Go.Proofs.Ytjhaoimfgepkgaa.labelJoins.orD z (Go.Proofs.Ytjhaoimfgepkgaa.labelJoins.kk len) i = Go.Proofs.Ytjhaoimfgepkgaa.labelJoins.orD z (Go.Proofs.Ytjhaoimfgepkgaa.labelJoins.kk len) (Go.Proofs.Ytjhaoimfgepkgaa.labelJoins.kk len) ∧ True) ∧ (Go.Proofs.Ytjhaoimfgepkgaa.labelJoins.mxU z i = Go.Proofs.Ytjhaoimfgepkgaa.labelJoins.mxU z (Go.Proofs.Ytjhaoimfgepkgaa.labelJoins.kk len) ∧ Go.Proofs.Ytjhaoimfgepkgaa.labelJoins.orU z i = Go.Proofs.Ytjhaoimfgepkgaa.labelJoins.orU z (Go.Proofs.Ytjhaoimfgepkgaa.labelJoins.kk len) ∧ True) ∧ True) (by kernel_rfl) ?_⟩
  repeat' (first | (refine And.intro ?_ ?_) | (with_reducible intro h))
  all_goals (try (first | with_reducible rfl | ((try simp only [decide_eq_true_eq, decide_eq_false_iff_not, Bool.and_eq_true, Bool.not_eq_true', Bool.not_eq_false', reduceCtorEq, or_false, or_true] at *); omega) | ((try simp only [decide_eq_true_eq, decide_eq_false_iff_not, Bool.and_eq_true, Bool.not_eq_true', Bool.not_eq_false', reduceCtorEq, or_false, or_true] at *); (try simp (disch := omega) only [mask3, mask15, fdiv_nn, i64_bits, wrap_id, Nat.zero_add, Nat.mul_one, Int.toNat_natCast, andNot_or_left, andNot_or_right, s4, e1]); first | done | omega)))
  all_goals (try simp only [decide_eq_true_eq, decide_eq_false_iff_not, Bool.and_eq_true, Bool.not_eq_true', Bool.not_eq_false', reduceCtorEq, or_false, or_true] at *)
  all_goals (try simp (disch := omega) only [mask3, mask15, fdiv_nn, i64_bits, wrap_id, Nat.zero_add, Nat.mul_one, Int.toNat_natCast, andNot_or_left, andNot_or_right, s4, e1, orD, mxD, orU, mxU, lv, ct])
  all_goals (first | done | omega | (rw [show i = kk len by omega]; done) | trace_state)

theorem pow4 : ((2 : Int) ^ min (Int.toNat 2) 64) = 4 := by decide
theorem loop_false (z : Nat → Int) (len cap : Nat) (hn : len = 0 ∨ false = false) : LO Try.prog (lp Try.prog 6 0) (TT false z len cap 0) (SS false z len 0) (.x 0 (TT false z len cap (kk len)) (SS false z len (kk len))) :=
  LQ.one (loop_scr pk okc (by kernel_rfl) (nb false + 2) (TT false z len cap) (SS false z len) (fun i => kk len - i) (fun i => i ≤ kk len) (fun _ => True) (fun _ => .x 0 (TT false z len cap (kk len)) (SS false z len (kk len))) (fun _ => rfl)
    (fun i hi => round_false z len cap i hi rfl hn (mxU_bd z i) (orU_bd z i) (mxD_bd z _ i) (orD_bd z _ i) (by unfold kk; omega) (orU_bd z (i + 1)) pow4) (Nat.zero_le _) rfl)
theorem main_false (z : Nat → Int) (len cap : Nat) (p : Pl) (hn : len = 0 ∨ false = false) (k1 : mxD z (kk len) (kk len) = mxU z (kk len)) (k2 : orD z (kk len) (kk len) = orU z (kk len)) (b1 : 0 ≤ mxU z (kk len) ∧ mxU z (kk len) ≤ 3) (b2 : 0 ≤ orU z (kk len) ∧ orU z (kk len) ≤ 15)
    (o1 : bits .or .i64 (orU z (kk len)) (orU z (kk len)) = orU z (kk len)) :
    ∃ r, callK (HS Try.prog [23] ctr) Try.prog 6 [xv false len cap] (sOf (cond false [] [(p, .fam 1 true len fun i => [.int .i64 (z i)])])) kTrue r := by
  refine ⟨.Z <| .L (Go.Proofs.Ytjhaoimfgepkgaa.labelJoins.TT Bool.false z len cap (0 : Nat)) (Go.Proofs.Ytjhaoimfgepkgaa.labelJoins.SS Bool.false z len (0 : Nat)) (Go.AE.Out.x (0 : Nat) (Go.Proofs.Ytjhaoimfgepkgaa.labelJoins.TT Bool.false z len cap (Go.Proofs.Ytjhaoimfgepkgaa.labelJoins.kk len)) (Go.Proofs.Ytjhaoimfgepkgaa.labelJoins.SS Bool.false z len (Go.Proofs.Ytjhaoimfgepkgaa.labelJoins.kk len))) <| .T <| .Z <| .Z <| .Z <| .T <| .Z <| .Z <| .Z <| .T <| .Z <| .Z <| .Z <| .N <| .Z <| .T <| .Z <| .Z <| .Z <| .T <| .Z <| .Z <| .Z <| .T <| .Z <| .Z <| .Z <| .Z <| .Z <| .N <| .T <| .Z <| .Z <| .Z <| .Z <| .Z <| .T <| .Z <| .Z <| .Z <| .Z <| .Z <| .Z <| .Z <| .E ((0 : Nat)) [], Go.AE.kchange (b := (True) ∧
 ((((0 : Nat) = (0 : Nat) ∧ len = len ∧ cap = cap) ∧ Bool.false = Bool.false ∧ ((0 : Nat) = (0 : Nat) ∧ (0 : Nat) = (0 : Nat)) ∧ ((0 : Nat) = (0 : Nat) ∧ (0 : Nat) = (0 : Nat)) ∧ (0 : Int) = Go.Proofs.Ytjhaoimfgepkgaa.labelJoins.mxU z (0 : Nat) ∧ (0 : Int) = Go.Proofs.Ytjhaoimfgepkgaa.labelJoins.orU z (0 : Nat) ∧ Min.min (↑len : Int) (20 : Int) = Min.min (↑len : Int) (20 : Int) ∧ (0 : Int) = (↑(0 : Nat) : Int) ∧ True) ∧ ((0 : Int) = Go.Proofs.Ytjhaoimfgepkgaa.labelJoins.mxD z (Go.Proofs.Ytjhaoimfgepkgaa.labelJoins.kk len) (0 : Nat) ∧ (0 : Int) = Go.Proofs.Ytjhaoimfgepkgaa.labelJoins.orD z (Go.Proofs.Ytjhaoimfgepkgaa.labelJoins.kk len) (0 : Nat) ∧ True) ∧ ((0 : Int) = Go.Proofs.Ytjhaoimfgepkgaa.labelJoins.mxU z (0 : Nat) ∧ (0 : Int) = Go.Proofs.Ytjhaoimfgepkgaa.labelJoins.orU z (0 : Nat) ∧ True) ∧ (len = len ∧ (∀ (i : Nat), (i < len → True ∧ z i = z i ∧ True))) ∧ True) ∧
 Go.AE.LO (Go.Proofs.Try.prog) (Go.AE.lp Go.Proofs.Try.prog (6 : Nat) (0 : Nat)) (Go.Proofs.Ytjhaoimfgepkgaa.labelJoins.TT Bool.false z len cap (0 : Nat)) (Go.Proofs.Ytjhaoimfgepkgaa.labelJoins.SS Bool.false z len (0 : Nat)) (Go.AE.Out.x (0 : Nat) (Go.Proofs.Ytjhaoimfgepkgaa.labelJoins.TT Bool.false z len cap (Go.Proofs.Ytjhaoimfgepkgaa.labelJoins.kk len)) (Go.Proofs.Ytjhaoimfgepkgaa.labelJoins.SS Bool.false z len (Go.Proofs.Ytjhaoimfgepkgaa.labelJoins.kk len))) ∧
 (Decidable.decide ((0 : Int) ≤ Go.Proofs.Ytjhaoimfgepkgaa.labelJoins.mxU z (Go.Proofs.Ytjhaoimfgepkgaa.labelJoins.kk len))) = true ∧
 (Decidable.decide (Go.Proofs.Ytjhaoimfgepkgaa.labelJoins.mxU z (Go.Proofs.Ytjhaoimfgepkgaa.labelJoins.kk len) ≤ (3 : Int))) = true ∧
 (Decidable.decide ((0 : Int) ≤ Go.Proofs.Ytjhaoimfgepkgaa.labelJoins.orU z (Go.Proofs.Ytjhaoimfgepkgaa.labelJoins.kk len))) = true ∧
 (!Decidable.decide (Go.Proofs.Ytjhaoimfgepkgaa.labelJoins.orU z (Go.Proofs.Ytjhaoimfgepkgaa.labelJoins.kk len) ≤ (15 : Int))) = false ∧
 (Decidable.decide ((0 : Int) ≤ Go.Proofs.Ytjhaoimfgepkgaa.labelJoins.mxD z (Go.Proofs.Ytjhaoimfgepkgaa.labelJoins.kk len) (Go.Proofs.Ytjhaoimfgepkgaa.labelJoins.kk len))) = true ∧
 (Decidable.decide (Go.Proofs.Ytjhaoimfgepkgaa.labelJoins.mxD z (Go.Proofs.Ytjhaoimfgepkgaa.labelJoins.kk len) (Go.Proofs.Ytjhaoimfgepkgaa.labelJoins.kk len) ≤ (3 : Int))) = true ∧
 (Decidable.decide ((0 : Int) ≤ Go.Proofs.Ytjhaoimfgepkgaa.labelJoins.orD z (Go.Proofs.Ytjhaoimfgepkgaa.labelJoins.kk len) (Go.Proofs.Ytjhaoimfgepkgaa.labelJoins.kk len))) = true ∧
 (!Decidable.decide (Go.Proofs.Ytjhaoimfgepkgaa.labelJoins.orD z (Go.Proofs.Ytjhaoimfgepkgaa.labelJoins.kk len) (Go.Proofs.Ytjhaoimfgepkgaa.labelJoins.kk len) ≤ (15 : Int))) = false ∧
 (Go.Proofs.Ytjhaoimfgepkgaa.labelJoins.mxU z (Go.Proofs.Ytjhaoimfgepkgaa.labelJoins.kk len) == Go.Proofs.Ytjhaoimfgepkgaa.labelJoins.mxD z (Go.Proofs.Ytjhaoimfgepkgaa.labelJoins.kk len) (Go.Proofs.Ytjhaoimfgepkgaa.labelJoins.kk len) && (Go.Proofs.Ytjhaoimfgepkgaa.labelJoins.orU z (Go.Proofs.Ytjhaoimfgepkgaa.labelJoins.kk len) == Go.Proofs.Ytjhaoimfgepkgaa.labelJoins.orD z (Go.Proofs.Ytjhaoimfgepkgaa.labelJoins.kk len) (Go.Proofs.Ytjhaoimfgepkgaa.labelJoins.kk len) && Bool.true)) = true ∧
 (Go.Proofs.Ytjhaoimfgepkgaa.labelJoins.mxU z (Go.Proofs.Ytjhaoimfgepkgaa.labelJoins.kk len) == Go.Proofs.Ytjhaoimfgepkgaa.labelJoins.mxU z (Go.Proofs.Ytjhaoimfgepkgaa.labelJoins.kk len) && (Go.Proofs.Ytjhaoimfgepkgaa.labelJoins.orU z (Go.Proofs.Ytjhaoimfgepkgaa.labelJoins.kk len) == Go.Proofs.Ytjhaoimfgepkgaa.labelJoins.orU z (Go.Proofs.Ytjhaoimfgepkgaa.labelJoins.kk len) && Bool.true)) = true ∧
 (Max.max (Go.Proofs.Ytjhaoimfgepkgaa.labelJoins.mxU z (Go.Proofs.Ytjhaoimfgepkgaa.labelJoins.kk len)) (Go.Proofs.Ytjhaoimfgepkgaa.labelJoins.mxD z (Go.Proofs.Ytjhaoimfgepkgaa.labelJoins.kk len) (Go.Proofs.Ytjhaoimfgepkgaa.labelJoins.kk len)) == Go.Proofs.Ytjhaoimfgepkgaa.labelJoins.mxU z (Go.Proofs.Ytjhaoimfgepkgaa.labelJoins.kk len) && (Go.bits Go.BinOp.or Go.IntKind.i64 (Go.Proofs.Ytjhaoimfgepkgaa.labelJoins.orU z (Go.Proofs.Ytjhaoimfgepkgaa.labelJoins.kk len)) (Go.Proofs.Ytjhaoimfgepkgaa.labelJoins.orD z (Go.Proofs.Ytjhaoimfgepkgaa.labelJoins.kk len) (Go.Proofs.Ytjhaoimfgepkgaa.labelJoins.kk len)) == Go.Proofs.Ytjhaoimfgepkgaa.labelJoins.orU z (Go.Proofs.Ytjhaoimfgepkgaa.labelJoins.kk len) && Bool.true)) = Bool.true) (by kernel_rfl) ?_⟩
  repeat' (first | (refine And.intro ?_ ?_) | (with_reducible intro h))
  all_goals (first | with_reducible rfl | trivial | exact loop_false z len cap hn | (simp [k1, k2, o1]; done) | ((try simp only [decide_eq_true_eq, decide_eq_false_iff_not, Bool.and_eq_true, Bool.not_eq_true', Bool.not_eq_false', reduceCtorEq, or_false, or_true, k1, k2] at *); omega) | trace_state)
theorem loop_true (z : Nat → Int) (len cap : Nat) (hn : len = 0 ∨ true = false) : LO Try.prog (lp Try.prog 6 0) (TT true z len cap 0) (SS true z len 0) (.x 0 (TT true z len cap (kk len)) (SS true z len (kk len))) :=
  LQ.one (loop_scr pk okc (by kernel_rfl) (nb true + 2) (TT true z len cap) (SS true z len) (fun i => kk len - i) (fun i => i ≤ kk len) (fun _ => True) (fun _ => .x 0 (TT true z len cap (kk len)) (SS true z len (kk len))) (fun _ => rfl)
    (fun i hi => round_true z len cap i hi rfl hn (mxU_bd z i) (orU_bd z i) (mxD_bd z _ i) (orD_bd z _ i) (by unfold kk; omega) (orU_bd z (i + 1)) pow4) (Nat.zero_le _) rfl)
theorem main_true (z : Nat → Int) (len cap : Nat) (p : Pl) (hn : len = 0 ∨ true = false) (k1 : mxD z (kk len) (kk len) = mxU z (kk len)) (k2 : orD z (kk len) (kk len) = orU z (kk len)) (b1 : 0 ≤ mxU z (kk len) ∧ mxU z (kk len) ≤ 3) (b2 : 0 ≤ orU z (kk len) ∧ orU z (kk len) ≤ 15)
    (o1 : bits .or .i64 (orU z (kk len)) (orU z (kk len)) = orU z (kk len)) :
    ∃ r, callK (HS Try.prog [23] ctr) Try.prog 6 [xv true len cap] (sOf (cond true [] [(p, .fam 1 true len fun i => [.int .i64 (z i)])])) kTrue r := by
  refine ⟨.Z <| .L (Go.Proofs.Ytjhaoimfgepkgaa.labelJoins.TT Bool.true z len cap (0 : Nat)) (Go.Proofs.Ytjhaoimfgepkgaa.labelJoins.SS Bool.true z len (0 : Nat)) (Go.AE.Out.x (0 : Nat) (Go.Proofs.Ytjhaoimfgepkgaa.labelJoins.TT Bool.true z len cap (Go.Proofs.Ytjhaoimfgepkgaa.labelJoins.kk len)) (Go.Proofs.Ytjhaoimfgepkgaa.labelJoins.SS Bool.true z len (Go.Proofs.Ytjhaoimfgepkgaa.labelJoins.kk len))) <| .T <| .Z <| .Z <| .Z <| .T <| .Z <| .Z <| .Z <| .T <| .Z <| .Z <| .Z <| .N <| .Z <| .T <| .Z <| .Z <| .Z <| .T <| .Z <| .Z <| .Z <| .T <| .Z <| .Z <| .Z <| .Z <| .Z <| .N <| .T <| .Z <| .Z <| .Z <| .Z <| .Z <| .T <| .Z <| .Z <| .Z <| .Z <| .Z <| .Z <| .Z <| .E ((0 : Nat)) [], Go.AE.kchange (b := (True) ∧
 ((True ∧ Bool.false = Bool.false ∧ ((0 : Nat) = (0 : Nat) ∧ (0 : Nat) = (0 : Nat)) ∧ ((0 : Nat) = (0 : Nat) ∧ (0 : Nat) = (0 : Nat)) ∧ (0 : Int) = Go.Proofs.Ytjhaoimfgepkgaa.labelJoins.mxU z (0 : Nat) ∧ (0 : Int) = Go.Proofs.Ytjhaoimfgepkgaa.labelJoins.orU z (0 : Nat) ∧ Min.min (0 : Int) (20 : Int) = Min.min (↑len : Int) (20 : Int) ∧ (0 : Int) = (↑(0 : Nat) : Int) ∧ True) ∧ ((0 : Int) = Go.Proofs.Ytjhaoimfgepkgaa.labelJoins.mxD z (Go.Proofs.Ytjhaoimfgepkgaa.labelJoins.kk len) (0 : Nat) ∧ (0 : Int) = Go.Proofs.Ytjhaoimfgepkgaa.labelJoins.orD z (Go.Proofs.Ytjhaoimfgepkgaa.labelJoins.kk len) (0 : Nat) ∧ True) ∧ ((0 : Int) = Go.Proofs.Ytjhaoimfgepkgaa.labelJoins.mxU z (0 : Nat) ∧ (0 : Int) = Go.Proofs.Ytjhaoimfgepkgaa.labelJoins.orU z (0 : Nat) ∧ True) ∧ True) ∧
 Go.AE.LO (Go.Proofs.Try.prog) (Go.AE.lp Go.Proofs.Try.prog (6 : Nat) (0 : Nat)) (Go.Proofs.Ytjhaoimfgepkgaa.labelJoins.TT Bool.true z len cap (0 : Nat)) (Go.Proofs.Ytjhaoimfgepkgaa.labelJoins.SS Bool.true z len (0 : Nat)) (Go.AE.Out.x (0 : Nat) (Go.Proofs.Ytjhaoimfgepkgaa.labelJoins.TT Bool.true z len cap (Go.Proofs.Ytjhaoimfgepkgaa.labelJoins.kk len)) (Go.Proofs.Ytjhaoimfgepkgaa.labelJoins.SS Bool.true z len (Go.Proofs.Ytjhaoimfgepkgaa.labelJoins.kk len))) ∧
 (Decidable.decide ((0 : Int) ≤ Go.Proofs.Ytjhaoimfgepkgaa.labelJoins.mxU z (Go.Proofs.Ytjhaoimfgepkgaa.labelJoins.kk len))) = true ∧
 (Decidable.decide (Go.Proofs.Ytjhaoimfgepkgaa.labelJoins.mxU z (Go.Proofs.Ytjhaoimfgepkgaa.labelJoins.kk len) ≤ (3 : Int))) = true ∧
 (Decidable.decide ((0 : Int) ≤ Go.Proofs.Ytjhaoimfgepkgaa.labelJoins.orU z (Go.Proofs.Ytjhaoimfgepkgaa.labelJoins.kk len))) = true ∧
 (!Decidable.decide (Go.Proofs.Ytjhaoimfgepkgaa.labelJoins.orU z (Go.Proofs.Ytjhaoimfgepkgaa.labelJoins.kk len) ≤ (15 : Int))) = false ∧
 (Decidable.decide ((0 : Int) ≤ Go.Proofs.Ytjhaoimfgepkgaa.labelJoins.mxD z (Go.Proofs.Ytjhaoimfgepkgaa.labelJoins.kk len) (Go.Proofs.Ytjhaoimfgepkgaa.labelJoins.kk len))) = true ∧
 (Decidable.decide (Go.Proofs.Ytjhaoimfgepkgaa.labelJoins.mxD z (Go.Proofs.Ytjhaoimfgepkgaa.labelJoins.kk len) (Go.Proofs.Ytjhaoimfgepkgaa.labelJoins.kk len) ≤ (3 : Int))) = true ∧
 (Decidable.decide ((0 : Int) ≤ Go.Proofs.Ytjhaoimfgepkgaa.labelJoins.orD z (Go.Proofs.Ytjhaoimfgepkgaa.labelJoins.kk len) (Go.Proofs.Ytjhaoimfgepkgaa.labelJoins.kk len))) = true ∧
 (!Decidable.decide (Go.Proofs.Ytjhaoimfgepkgaa.labelJoins.orD z (Go.Proofs.Ytjhaoimfgepkgaa.labelJoins.kk len) (Go.Proofs.Ytjhaoimfgepkgaa.labelJoins.kk len) ≤ (15 : Int))) = false ∧
 (Go.Proofs.Ytjhaoimfgepkgaa.labelJoins.mxU z (Go.Proofs.Ytjhaoimfgepkgaa.labelJoins.kk len) == Go.Proofs.Ytjhaoimfgepkgaa.labelJoins.mxD z (Go.Proofs.Ytjhaoimfgepkgaa.labelJoins.kk len) (Go.Proofs.Ytjhaoimfgepkgaa.labelJoins.kk len) && (Go.Proofs.Ytjhaoimfgepkgaa.labelJoins.orU z (Go.Proofs.Ytjhaoimfgepkgaa.labelJoins.kk len) == Go.Proofs.Ytjhaoimfgepkgaa.labelJoins.orD z (Go.Proofs.Ytjhaoimfgepkgaa.labelJoins.kk len) (Go.Proofs.Ytjhaoimfgepkgaa.labelJoins.kk len) && Bool.true)) = true ∧
 (Go.Proofs.Ytjhaoimfgepkgaa.labelJoins.mxU z (Go.Proofs.Ytjhaoimfgepkgaa.labelJoins.kk len) == Go.Proofs.Ytjhaoimfgepkgaa.labelJoins.mxU z (Go.Proofs.Ytjhaoimfgepkgaa.labelJoins.kk len) && (Go.Proofs.Ytjhaoimfgepkgaa.labelJoins.orU z (Go.Proofs.Ytjhaoimfgepkgaa.labelJoins.kk len) == Go.Proofs.Ytjhaoimfgepkgaa.labelJoins.orU z (Go.Proofs.Ytjhaoimfgepkgaa.labelJoins.kk len) && Bool.true)) = true ∧
 (Max.max (Go.Proofs.Ytjhaoimfgepkgaa.labelJoins.mxU z (Go.Proofs.Ytjhaoimfgepkgaa.labelJoins.kk len)) (Go.Proofs.Ytjhaoimfgepkgaa.labelJoins.mxD z (Go.Proofs.Ytjhaoimfgepkgaa.labelJoins.kk len) (Go.Proofs.Ytjhaoimfgepkgaa.labelJoins.kk len)) == Go.Proofs.Ytjhaoimfgepkgaa.labelJoins.mxU z (Go.Proofs.Ytjhaoimfgepkgaa.labelJoins.kk len) && (Go.bits Go.BinOp.or Go.IntKind.i64 (Go.Proofs.Ytjhaoimfgepkgaa.labelJoins.orU z (Go.Proofs.Ytjhaoimfgepkgaa.labelJoins.kk len)) (Go.Proofs.Ytjhaoimfgepkgaa.labelJoins.orD z (Go.Proofs.Ytjhaoimfgepkgaa.labelJoins.kk len) (Go.Proofs.Ytjhaoimfgepkgaa.labelJoins.kk len)) == Go.Proofs.Ytjhaoimfgepkgaa.labelJoins.orU z (Go.Proofs.Ytjhaoimfgepkgaa.labelJoins.kk len) && Bool.true)) = Bool.true) (by kernel_rfl) ?_⟩
  repeat' (first | (refine And.intro ?_ ?_) | (with_reducible intro h))
  all_goals (first | with_reducible rfl | trivial | exact loop_true z len cap hn | (simp [k1, k2, o1]; done) | ((try simp only [decide_eq_true_eq, decide_eq_false_iff_not, Bool.and_eq_true, Bool.not_eq_true', Bool.not_eq_false', reduceCtorEq, or_false, or_true, k1, k2] at *); omega) | trace_state)

theorem or_self (z : Nat → Int) (i : Nat) : bits .or .i64 (orU z i) (orU z i) = orU z i := by
  have h := orU_bd z i
  obtain ⟨n, hn⟩ : ∃ n : Fin 16, orU z i = (n.val : Int) := ⟨⟨(orU z i).toNat, by omega⟩, by simp only; omega⟩
  rw [hn]
  revert n
  intro n _
  exact (by decide +kernel : ∀ n : Fin 16, bits .or .i64 (n.val : Int) (n.val : Int) = (n.val : Int)) n
theorem walk (a : Option Addr) (len cap : Nat) (zi : Nat → Nat → Int) (zs : Nat → Nat → ByteArray) (zb : Nat → Nat → Bool) (w : World) (hin : IsIn 1 w a len cap (fun i => kv zi zs zb i [.int .i64] 0)) (hle : len ≤ cap) (hcm : cap ≤ maxLen) (hwf : ∀ i j, i < len → (∀ k, [Kd.int .i64][j]? = some (.int k) → (Lit.int k (zi i j)).wf = true) ∧ ([Kd.int .i64][j]? = some .str → (zs i j).size ≤ maxLen)) :
    Calls Try.prog 6 #[.slice a len cap] w fun e w' => e = .returned (.bool true) ∧ Below w.heap.size w w' := by
  rcases hin with ⟨rfl, rfl⟩ | ⟨p, hp⟩
  · refine law_of [] (fun e h => by cases h) (VRs.cons (.z0 _) VRs.nil) (scr_true pk okc (main_true (fun i => zi i 0) 0 0 ⟨0, 0, 0, 0⟩ (.inl rfl) (mx_same _ _) (or_same _ _) (mxU_bd _ _) (orU_bd _ _) (or_self _ _)))
  · refine law_of [(p, _)] (fun e h => by simp at h; subst h; exact ⟨hp.br, rfl⟩) (VRs.cons (hp.vr rfl) VRs.nil) (scr_true pk okc (main_false (fun i => zi i 0) len cap p (.inr rfl) (mx_same _ _) (or_same _ _) (mxU_bd _ _) (orU_bd _ _) (or_self _ _)))
end Go.Proofs.Ytjhaoimfgepkgaa.labelJoins
