/- PROVED, over plain numbers: a word's rights are its own. -/
import Derived.Test.YtoiaffobmccnjaaPEntryRightsx2
import Derived.Laws.BitsLemmas
namespace Go.Proofs.Ytoiaffobmccnjaa.Pure
open Go.RowKit Go.Proofs.Ytoiaffobmccnjaa.PEntryRights Go.Proofs.YtoiaffobmccnjaaW.PrintWords Go.Proofs.YtoiaffobmccnjaaW.PrintLast

theorem i64_mask (k : Nat) (hk : k ≤ 62) (n : Int) : Go.bits .and .i64 n (((2 ^ k - 1 : Nat) : Int)) = n % ((2 ^ k : Nat) : Int) := by
  have hp : (2 : Nat) ^ k ≤ 2 ^ 62 := Nat.pow_le_pow_right (by decide) hk
  have hpos : 0 < (2 : Nat) ^ k := Nat.pos_of_ne_zero (by simp)
  have h1 : (BitVec.ofInt 64 (((2 ^ k - 1 : Nat) : Int))).toNat = 2 ^ k - 1 := by
    rw [BitVec.toNat_ofInt]
    omega
  have key : (BitVec.ofInt 64 n &&& BitVec.ofInt 64 (((2 ^ k - 1 : Nat) : Int))).toNat = (n % ((2 ^ 64 : Nat) : Int)).toNat % 2 ^ k := by
    rw [BitVec.toNat_and, BitVec.toNat_ofInt, h1, Nat.and_two_pow_sub_one_eq_mod]
  show IntKind.i64.wrap ((BitVec.ofInt 64 n &&& BitVec.ofInt 64 (((2 ^ k - 1 : Nat) : Int))).toNat : Nat) = _
  rw [key, IntKind.wrap_i64]
  have hd : (2 ^ k : Nat) ∣ 2 ^ 64 := Nat.pow_dvd_pow 2 (by omega)
  have h2 : 0 ≤ n % ((2 ^ 64 : Nat) : Int) := Int.emod_nonneg _ (by decide)
  have h3 : (((n % ((2 ^ 64 : Nat) : Int)).toNat % 2 ^ k : Nat) : Int) = n % ((2 ^ k : Nat) : Int) := by
    rw [Int.natCast_emod, Int.toNat_of_nonneg h2, Int.emod_emod_of_dvd n (Int.natCast_dvd_natCast.2 hd)]
  have h4 : (n % ((2 ^ 64 : Nat) : Int)).toNat % 2 ^ k < 2 ^ k := Nat.mod_lt _ hpos
  rw [← h3]
  omega
theorem fin_mask63 (n : Int) : ∃ x : Fin 64, Go.bits .and .i64 n 63 = (x.val : Int) := ⟨⟨(n % 64).toNat, by omega⟩, (i64_mask 6 (by decide) n).trans (by simp only; omega)⟩
theorem fin_mask31 (n : Int) : ∃ x : Fin 32, Go.bits .and .i64 n 31 = (x.val : Int) := ⟨⟨(n % 32).toNat, by omega⟩, (i64_mask 5 (by decide) n).trans (by simp only; omega)⟩
theorem fin_mask1023 (n : Int) : ∃ x : Int, Go.bits .and .i64 n 1023 = x ∧ 0 ≤ x ∧ x < 1024 := ⟨n % 1024, i64_mask 10 (by decide) n, by omega, by omega⟩
theorem umod (n : Int) (m : Nat) (h0 : 0 < m) (h1 : m ≤ 1000) : ∃ x : Fin m, wrap64 (Int.tmod (IntKind.u64.wrap n) (m : Int)) = (x.val : Int) := by
  have hu : 0 ≤ IntKind.u64.wrap n := by rw [IntKind.wrap_u64]; omega
  have ht : (IntKind.u64.wrap n).tmod (m : Int) = IntKind.u64.wrap n % (m : Int) := Int.tmod_eq_emod_of_nonneg hu
  have h2 : 0 ≤ IntKind.u64.wrap n % (m : Int) := Int.emod_nonneg _ (by omega)
  have h3 : IntKind.u64.wrap n % (m : Int) < m := Int.emod_lt_of_pos _ (by omega)
  refine ⟨⟨(IntKind.u64.wrap n % (m : Int)).toNat, by omega⟩, ?_⟩
  rw [ht]
  simp only
  unfold wrap64
  omega
theorem one_plus {m : Nat} (x : Fin m) (h : m ≤ 1000) : wrap64 (1 + (x.val : Int)) = 1 + (x.val : Int) := by
  have := x.isLt
  unfold wrap64
  omega

theorem EntryRights : caissonlaw4_EntryRights.Pure := by
  intro a0 a1 a2 _ _ _
  obtain ⟨f, hf⟩ := fin_mask63 a0
  obtain ⟨p, hp⟩ := umod a1 3 (by decide) (by decide)
  obtain ⟨q, hq⟩ := umod a2 3 (by decide) (by decide)
  unfold caissonlaw4_EntryRights.f
  rw [hf, show ((3 : Int)) = ((3 : Nat) : Int) from rfl, hp, hq, one_plus p (by decide), one_plus q (by decide)]
  clear hf hp hq
  revert f p q
  decide +kernel

end Go.Proofs.Ytoiaffobmccnjaa.Pure
