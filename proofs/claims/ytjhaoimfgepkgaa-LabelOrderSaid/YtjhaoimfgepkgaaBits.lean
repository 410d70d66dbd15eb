/- Bits of 64-bit ints as plain arithmetic: masks. No program in sight. -/
import Derived.Test.YtjhaoimfgepkgaaKit
import Derived.Laws.BitsLemmas
namespace Go.Proofs.Ytjhaoimfgepkgaa
open Go Go.RowKit

theorem i64_mask (k : Nat) (hk : k ≤ 62) (n : Int) : bits .and .i64 n (((2 ^ k - 1 : Nat) : Int)) = n % ((2 ^ k : Nat) : Int) := by
  have hp : (2 : Nat) ^ k ≤ 2 ^ 62 := Nat.pow_le_pow_right (by decide) hk
  have hpos : 0 < (2 : Nat) ^ k := Nat.pos_of_ne_zero (by simp)
  have h1 : (BitVec.ofInt 64 (((2 ^ k - 1 : Nat) : Int))).toNat = 2 ^ k - 1 := by
    rw [BitVec.toNat_ofInt]
    omega
  have key : (BitVec.ofInt 64 n &&& BitVec.ofInt 64 (((2 ^ k - 1 : Nat) : Int))).toNat = (n % ((2 ^ 64 : Nat) : Int)).toNat % 2 ^ k := by
    rw [BitVec.toNat_and, BitVec.toNat_ofInt, h1, Nat.and_two_pow_sub_one_eq_mod]
  show IntKind.i64.wrap ((BitVec.ofInt 64 n &&& BitVec.ofInt 64 (((2 ^ k - 1 : Nat) : Int))).toNat : Nat) = _
  rw [key, IntKind.wrap_i64]
  have hd : (2 ^ k : Nat) ∣ 2 ^ 64 := Nat.pow_dvd_pow 2 (by omega)
  have h2 : 0 ≤ n % ((2 ^ 64 : Nat) : Int) := Int.emod_nonneg _ (by decide)
  have h3 : (((n % ((2 ^ 64 : Nat) : Int)).toNat % 2 ^ k : Nat) : Int) = n % ((2 ^ k : Nat) : Int) := by
    rw [Int.natCast_emod, Int.toNat_of_nonneg h2, Int.emod_emod_of_dvd n (Int.natCast_dvd_natCast.2 hd)]
  have h4 : (n % ((2 ^ 64 : Nat) : Int)).toNat % 2 ^ k < 2 ^ k := Nat.mod_lt _ hpos
  rw [← h3]
  omega
theorem mask1 (n : Int) : bits .and .i64 n 1 = n % 2 := i64_mask 1 (by decide) n
theorem mask3 (n : Int) : bits .and .i64 n 3 = n % 4 := i64_mask 2 (by decide) n
theorem mask7 (n : Int) : bits .and .i64 n 7 = n % 8 := i64_mask 3 (by decide) n
theorem mask15 (n : Int) : bits .and .i64 n 15 = n % 16 := i64_mask 4 (by decide) n
theorem mask31 (n : Int) : bits .and .i64 n 31 = n % 32 := i64_mask 5 (by decide) n
theorem mask63 (n : Int) : bits .and .i64 n 63 = n % 64 := i64_mask 6 (by decide) n
theorem mask127 (n : Int) : bits .and .i64 n 127 = n % 128 := i64_mask 7 (by decide) n
theorem mask255 (n : Int) : bits .and .i64 n 255 = n % 256 := i64_mask 8 (by decide) n
theorem mask511 (n : Int) : bits .and .i64 n 511 = n % 512 := i64_mask 9 (by decide) n
theorem mask1023 (n : Int) : bits .and .i64 n 1023 = n % 1024 := i64_mask 10 (by decide) n
theorem mask16383 (n : Int) : bits .and .i64 n 16383 = n % 16384 := i64_mask 14 (by decide) n
theorem mask65535 (n : Int) : bits .and .i64 n 65535 = n % 65536 := i64_mask 16 (by decide) n
theorem mask1048575 (n : Int) : bits .and .i64 n 1048575 = n % 1048576 := i64_mask 20 (by decide) n
end Go.Proofs.Ytjhaoimfgepkgaa
