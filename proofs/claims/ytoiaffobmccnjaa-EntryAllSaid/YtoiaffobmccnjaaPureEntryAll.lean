/- PROVED, over plain numbers: all entries have words of their own, in the row of frames, then of rights. -/
import Derived.Test.YtoiaffobmccnjaaPEntryAllx2
import Derived.Laws.BitsLemmas
namespace Go.Proofs.Ytoiaffobmccnjaa.Pure
open Go.RowKit Go.Proofs.Ytoiaffobmccnjaa.PEntryAll Go.Proofs.YtoiaffobmccnjaaW.PrintWords Go.Proofs.YtoiaffobmccnjaaW.PrintLast

theorem i64_mask (k : Nat) (hk : k ≤ 62) (n : Int) : Go.bits .and .i64 n (((2 ^ k - 1 : Nat) : Int)) = n % ((2 ^ k : Nat) : Int) := by
  have hp : (2 : Nat) ^ k ≤ 2 ^ 62 := Nat.pow_le_pow_right (by decide) hk
  have hpos : 0 < (2 : Nat) ^ k := Nat.pos_of_ne_zero (by simp)
  have h1 : (BitVec.ofInt 64 (((2 ^ k - 1 : Nat) : Int))).toNat = 2 ^ k - 1 := by
    rw [BitVec.toNat_ofInt]
    omega
  have key : (BitVec.ofInt 64 n &&& BitVec.ofInt 64 (((2 ^ k - 1 : Nat) : Int))).toNat = (n % ((2 ^ 64 : Nat) : Int)).toNat % 2 ^ k := by
    rw [BitVec.toNat_and, BitVec.toNat_ofInt, h1, Nat.and_two_pow_sub_one_eq_mod]
  show IntKind.i64.wrap ((BitVec.ofInt 64 n &&& BitVec.ofInt 64 (((2 ^ k - 1 : Nat) : Int))).toNat : Nat) = _
  rw [key, IntKind.wrap_i64]
  have hd : (2 ^ k : Nat) ∣ 2 ^ 64 := Nat.pow_dvd_pow 2 (by omega)
  have h2 : 0 ≤ n % ((2 ^ 64 : Nat) : Int) := Int.emod_nonneg _ (by decide)
  have h3 : (((n % ((2 ^ 64 : Nat) : Int)).toNat % 2 ^ k : Nat) : Int) = n % ((2 ^ k : Nat) : Int) := by
    rw [Int.natCast_emod, Int.toNat_of_nonneg h2, Int.emod_emod_of_dvd n (Int.natCast_dvd_natCast.2 hd)]
  have h4 : (n % ((2 ^ 64 : Nat) : Int)).toNat % 2 ^ k < 2 ^ k := Nat.mod_lt _ hpos
  rw [← h3]
  omega
theorem fin_mask63 (n : Int) : ∃ x : Fin 64, Go.bits .and .i64 n 63 = (x.val : Int) := ⟨⟨(n % 64).toNat, by omega⟩, (i64_mask 6 (by decide) n).trans (by simp only; omega)⟩
theorem fin_mask31 (n : Int) : ∃ x : Fin 32, Go.bits .and .i64 n 31 = (x.val : Int) := ⟨⟨(n % 32).toNat, by omega⟩, (i64_mask 5 (by decide) n).trans (by simp only; omega)⟩
theorem fin_mask1023 (n : Int) : ∃ x : Int, Go.bits .and .i64 n 1023 = x ∧ 0 ≤ x ∧ x < 1024 := ⟨n % 1024, i64_mask 10 (by decide) n, by omega, by omega⟩
theorem umod (n : Int) (m : Nat) (h0 : 0 < m) (h1 : m ≤ 1000) : ∃ x : Fin m, wrap64 (Int.tmod (IntKind.u64.wrap n) (m : Int)) = (x.val : Int) := by
  have hu : 0 ≤ IntKind.u64.wrap n := by rw [IntKind.wrap_u64]; omega
  have ht : (IntKind.u64.wrap n).tmod (m : Int) = IntKind.u64.wrap n % (m : Int) := Int.tmod_eq_emod_of_nonneg hu
  have h2 : 0 ≤ IntKind.u64.wrap n % (m : Int) := Int.emod_nonneg _ (by omega)
  have h3 : IntKind.u64.wrap n % (m : Int) < m := Int.emod_lt_of_pos _ (by omega)
  refine ⟨⟨(IntKind.u64.wrap n % (m : Int)).toNat, by omega⟩, ?_⟩
  rw [ht]
  simp only
  unfold wrap64
  omega
theorem one_plus {m : Nat} (x : Fin m) (h : m ≤ 1000) : wrap64 (1 + (x.val : Int)) = 1 + (x.val : Int) := by
  have := x.isLt
  unfold wrap64
  omega

theorem put_all : ∀ i : Fin 192, pte_Put.f (wrap64 (Int.tdiv (i.val : Int) 3)) (wrap64 (1 + (Int.tmod (i.val : Int) 3))) = some (1 + 2 * (1 + (i.val : Int) % 3) + 4096 * ((i.val : Int) / 3), 0) := by decide +kernel
theorem awake_true : caissonlaw4_awake.f = some true := by decide +kernel
theorem plain (x y : Nat) : (if ((decide (1 + 2 * (1 + (x : Int) % 3) + 4096 * ((x : Int) / 3) < 1 + 2 * (1 + (y : Int) % 3) + 4096 * ((y : Int) / 3))) == decide ((x : Int) < (y : Int))) = true then (if ((1 + 2 * (1 + (x : Int) % 3) + 4096 * ((x : Int) / 3) == 1 + 2 * (1 + (y : Int) % 3) + 4096 * ((y : Int) / 3)) == ((x : Int) == (y : Int))) = true then (some (decide (1 + 2 * (1 + (x : Int) % 3) + 4096 * ((x : Int) / 3) > 0))) else (some false)) else (some false)) = some true := by
  have e1 : decide (1 + 2 * (1 + (x : Int) % 3) + 4096 * ((x : Int) / 3) < 1 + 2 * (1 + (y : Int) % 3) + 4096 * ((y : Int) / 3)) = decide ((x : Int) < (y : Int)) := by
    apply decide_eq_decide.2; omega
  have e2 : (1 + 2 * (1 + (x : Int) % 3) + 4096 * ((x : Int) / 3) == 1 + 2 * (1 + (y : Int) % 3) + 4096 * ((y : Int) / 3)) = ((x : Int) == (y : Int)) := by
    rw [Bool.eq_iff_iff, beq_iff_eq, beq_iff_eq]; omega
  rw [e1, e2, if_pos (by simp), if_pos (by simp)]
  congr 1
  simp
  omega
theorem core (g h : Int) (x y : Nat) (hg : g = (x : Int)) (hh : h = (y : Int)) (h1 : pte_Put.f (wrap64 (Int.tdiv g 3)) (wrap64 (1 + (Int.tmod g 3))) = some (1 + 2 * (1 + (x : Int) % 3) + 4096 * ((x : Int) / 3), 0))
    (h2 : pte_Put.f (wrap64 (Int.tdiv h 3)) (wrap64 (1 + (Int.tmod h 3))) = some (1 + 2 * (1 + (y : Int) % 3) + 4096 * ((y : Int) / 3), 0)) (a0 a1 : Int) (e0 : wrap64 (Int.tmod (IntKind.u64.wrap a0) 192) = g) (e1 : wrap64 (Int.tmod (IntKind.u64.wrap a1) 192) = h) : caissonlaw4_EntryAll.f a0 a1 = some true := by
  unfold caissonlaw4_EntryAll.f
  simp only [awake_true, e0, e1, h1, h2, Option.bind_some, if_true, caissonlaw0_Num.f]
  rw [hg, hh]
  exact plain x y
theorem EntryAll : caissonlaw4_EntryAll.Pure := by
  intro a0 a1 _ _
  obtain ⟨i, hi⟩ := umod a0 192 (by omega) (by omega)
  obtain ⟨j, hj⟩ := umod a1 192 (by omega) (by omega)
  exact core _ _ i.val j.val hi hj (by rw [hi]; exact put_all i) (by rw [hj]; exact put_all j) a0 a1 rfl rfl

end Go.Proofs.Ytoiaffobmccnjaa.Pure
