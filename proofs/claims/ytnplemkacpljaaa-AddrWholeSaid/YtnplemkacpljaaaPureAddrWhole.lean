/- PROVED, over plain numbers: the pieces of a run are its bytes, each once, in their row, each within its frame. -/
import Derived.Test.YtnplemkacpljaaaPAddrWholex2
import Derived.Laws.BitsLemmas
namespace Go.Proofs.Ytnplemkacpljaaa.Pure
open Go.RowKit Go.Proofs.Ytnplemkacpljaaa.PAddrWhole Go.Proofs.YtnplemkacpljaaaW.PrintWords Go.Proofs.YtnplemkacpljaaaW.PrintLast
set_option linter.unusedVariables false

theorem i64_mask (k : Nat) (hk : k ≤ 62) (n : Int) : Go.bits .and .i64 n (((2 ^ k - 1 : Nat) : Int)) = n % ((2 ^ k : Nat) : Int) := by
  have hp : (2 : Nat) ^ k ≤ 2 ^ 62 := Nat.pow_le_pow_right (by decide) hk
  have hpos : 0 < (2 : Nat) ^ k := Nat.pos_of_ne_zero (by simp)
  have h1 : (BitVec.ofInt 64 (((2 ^ k - 1 : Nat) : Int))).toNat = 2 ^ k - 1 := by
    rw [BitVec.toNat_ofInt]
    omega
  have key : (BitVec.ofInt 64 n &&& BitVec.ofInt 64 (((2 ^ k - 1 : Nat) : Int))).toNat = (n % ((2 ^ 64 : Nat) : Int)).toNat % 2 ^ k := by
    rw [BitVec.toNat_and, BitVec.toNat_ofInt, h1, Nat.and_two_pow_sub_one_eq_mod]
  show IntKind.i64.wrap ((BitVec.ofInt 64 n &&& BitVec.ofInt 64 (((2 ^ k - 1 : Nat) : Int))).toNat : Nat) = _
  rw [key, IntKind.wrap_i64]
  have hd : (2 ^ k : Nat) ∣ 2 ^ 64 := Nat.pow_dvd_pow 2 (by omega)
  have h2 : 0 ≤ n % ((2 ^ 64 : Nat) : Int) := Int.emod_nonneg _ (by decide)
  have h3 : (((n % ((2 ^ 64 : Nat) : Int)).toNat % 2 ^ k : Nat) : Int) = n % ((2 ^ k : Nat) : Int) := by
    rw [Int.natCast_emod, Int.toNat_of_nonneg h2, Int.emod_emod_of_dvd n (Int.natCast_dvd_natCast.2 hd)]
  have h4 : (n % ((2 ^ 64 : Nat) : Int)).toNat % 2 ^ k < 2 ^ k := Nat.mod_lt _ hpos
  rw [← h3]
  omega
theorem w64 {n : Int} (h0 : -9223372036854775808 ≤ n) (h1 : n ≤ 9223372036854775807) : wrap64 n = n := by unfold wrap64; omega
theorem umod_pos (n m : Int) (h0 : 0 < m) (h1 : m ≤ 100000) : 0 ≤ (IntKind.u64.wrap n).tmod m ∧ (IntKind.u64.wrap n).tmod m < m ∧ wrap64 ((IntKind.u64.wrap n).tmod m) = (IntKind.u64.wrap n).tmod m := by
  have hu : 0 ≤ IntKind.u64.wrap n := by rw [IntKind.wrap_u64]; omega
  have ht : (IntKind.u64.wrap n).tmod m = IntKind.u64.wrap n % m := Int.tmod_eq_emod_of_nonneg hu
  have h2 : 0 ≤ IntKind.u64.wrap n % m := Int.emod_nonneg _ (by omega)
  have h3 : IntKind.u64.wrap n % m < m := Int.emod_lt_of_pos _ h0
  rw [ht]
  exact ⟨h2, h3, w64 (by omega) (by omega)⟩
theorem u64_of {n : Int} (h0 : 0 ≤ n) (h1 : n ≤ 100000) : IntKind.u64.wrap n = n := by rw [IntKind.wrap_u64]; omega

/-- How long the first piece of a run is. -/
def m1 (x n : Int) : Int := if n ≤ 64 - x % 64 then n else 64 - x % 64
/-- The pieces of a run. -/
def pcs : Nat → Int → Int → List S35
  | 0, _, _ => []
  | d + 1, x, n => if n > 0 then (⟨x / 64, x % 64, m1 x n⟩ : S35) :: pcs d (x + m1 x n) (n - m1 x n) else []
theorem m1_bd {x n : Int} (hn : 0 < n) : 0 < m1 x n ∧ m1 x n ≤ n ∧ m1 x n ≤ 64 - x % 64 ∧ (m1 x n = n ∨ m1 x n = 64 - x % 64) := by
  unfold m1; split <;> omega
/-- So many rounds are enough. -/
def enough (d : Nat) (x n : Int) : Prop := 0 < d ∧ (0 < n → (x % 64 + n + 63) / 64 < (d : Int))
theorem enough_step {d : Nat} {x n : Int} (hx : 0 ≤ x) (hn : 0 < n) (h : enough (d + 1) x n) : enough d (x + m1 x n) (n - m1 x n) := by
  obtain ⟨b1, b2, b3, b4⟩ := m1_bd (x := x) hn
  have h2 := h.2 hn
  refine ⟨by omega, fun h3 => ?_⟩
  rcases b4 with b4 | b4 <;> omega
theorem len_pcs : ∀ (d : Nat) (x n : Int), 0 ≤ x → 0 ≤ n → enough d x n → ((pcs d x n).length : Int) = if 0 < n then (x % 64 + n + 63) / 64 else 0
  | 0, x, n, _, _, h => absurd h.1 (by omega)
  | d + 1, x, n, hx, hn, h => by
    unfold pcs
    by_cases c : n > 0
    · have e := enough_step hx c h
      obtain ⟨b1, b2, b3, b4⟩ := m1_bd (x := x) c
      have ih := len_pcs d (x + m1 x n) (n - m1 x n) (by omega) (by omega) e
      rw [if_pos c, if_pos c, List.length_cons, Int.natCast_add, ih]
      by_cases c2 : 0 < n - m1 x n
      · rw [if_pos c2]; rcases b4 with b4 | b4 <;> omega
      · rw [if_neg c2]; rcases b4 with b4 | b4 <;> omega
    · rw [if_neg c, if_neg c]; rfl
theorem split_l0 : ∀ (k : Nat) (x n : Int) (acc : List S35), 0 ≤ x → 0 ≤ n → x + n ≤ 4096 → enough k x n → acc.length + k < 5864062014805 → addr_Split.l0 k x n acc = some (acc ++ pcs k x n, 0)
  | 0, x, n, _, _, _, _, h, _ => absurd h.1 (by omega)
  | k + 1, x, n, acc, hx, hn, hs, h, ha => by
    unfold addr_Split.l0 pcs
    by_cases c : n > 0
    · obtain ⟨b1, b2, b3, b4⟩ := m1_bd (x := x) c
      have e1 : Int.tmod x 64 = x % 64 := Int.tmod_eq_emod_of_nonneg hx
      have e2 : Int.tdiv x 64 = x / 64 := Int.tdiv_eq_ediv_of_nonneg hx
      have e3 : wrap64 (64 - x % 64) = 64 - x % 64 := w64 (by omega) (by omega)
      have e4 : mn n (64 - x % 64) = m1 x n := by unfold mn m1; split <;> (first | rfl | omega | (split <;> omega))
      have e5 : wrap64 (x + m1 x n) = x + m1 x n := w64 (by omega) (by omega)
      have e6 : wrap64 (n - m1 x n) = n - m1 x n := w64 (by omega) (by omega)
      have e7 : wrap64 (x / 64) = x / 64 := w64 (by omega) (by omega)
      rw [if_pos c, if_pos c, if_pos (by omega), e1, e2, e3, e4, e5, e6, e7]
      rw [split_l0 k _ _ _ (by omega) (by omega) (by omega) (enough_step hx c h) (by simp; omega)]
      simp
    · rw [if_neg c, if_neg c]; simp
theorem may_yes {x n s : Int} (h0 : 0 ≤ x) (h1 : 0 ≤ n) (h2 : x + n ≤ s) (h3 : s ≤ 100000) : addr_May.f x n s = some true := by
  unfold addr_May.f
  rw [if_pos (by omega), if_pos (by omega), if_pos (by omega), if_pos (by omega), w64 (by omega) (by omega)]
  congr 1
  simp
  omega
theorem split_f (k : Nat) (x n : Int) (h0 : 0 ≤ x) (h1 : 0 ≤ n) (h2 : x + n ≤ 4096) (hk : enough k x n) (hk2 : k < 100000) : addr_Split.f k x n = some (pcs k x n, 0) := by
  unfold addr_Split.f
  rw [may_yes h0 h1 h2 (by omega)]
  simp only [Option.bind_some, if_true]
  rw [split_l0 k x n [] h0 h1 h2 hk (by simp; omega)]
  rfl
theorem lt_mid (pre : List S35) (p : S35) (L : List S35) : (pre.length : Int) < ((pre ++ p :: L).length : Int) := by
  rw [List.length_append, List.length_cons]; omega
theorem nn_len (pre : List S35) : (0 : Int) ≤ (pre.length : Int) := by omega
theorem w_succ {l : Nat} (h : l < 100000) : wrap64 ((l : Int) + 1) = ((l + 1 : Nat) : Int) := w64 (by omega) (by omega)
theorem rd_mid (pre : List S35) (p : S35) (L : List S35) : rd_T35 (pre ++ p :: L) (pre.length : Int) = p := by
  unfold rd_T35
  simp

theorem awake_true : caissonlaw1_awake.f 200 = some true := by decide +kernel
theorem whole_l0 (a m : Int) (ha : 0 ≤ a) (hm : 0 ≤ m) (hs : a + m ≤ 4096) : ∀ (d k : Nat) (pre : List S35) (x n : Int), 0 ≤ x → 0 ≤ n → x + n = a + m → enough d x n → d ≤ k → pre.length + d < 1000 → caissonlaw1_AddrWhole.l0 k a m (pre ++ pcs d x n) x (pre.length : Int) = some true
  | 0, _, _, _, _, _, _, _, h, _, _ => absurd h.1 (by omega)
  | d + 1, 0, _, _, _, _, _, _, h, hk, _ => absurd hk (by omega)
  | d + 1, k + 1, pre, x, n, hx, hn, he, h, hk, hp => by
    unfold caissonlaw1_AddrWhole.l0
    by_cases c : n > 0
    · obtain ⟨b1, b2, b3, b4⟩ := m1_bd (x := x) c
      have ep : pcs (d + 1) x n = (⟨x / 64, x % 64, m1 x n⟩ : S35) :: pcs d (x + m1 x n) (n - m1 x n) := by rw [pcs, if_pos c]
      have e1 : wrap64 (wrap64 (x / 64 * 64) + x % 64) = x := by rw [w64 (n := x / 64 * 64) (by omega) (by omega), w64 (by omega) (by omega)]; omega
      have e2 : wrap64 (x % 64 + m1 x n) = x % 64 + m1 x n := w64 (by omega) (by omega)
      have e3 : wrap64 (x + m1 x n) = x + m1 x n := w64 (by omega) (by omega)
      have hC : ¬ m1 x n < 1 := by omega
      have hD : ¬ x % 64 < 0 := by omega
      have hE : ¬ x % 64 + m1 x n > 64 := by omega
      rw [ep, rd_mid, if_pos (lt_mid _ _ _), if_pos (nn_len _)]
      dsimp only
      rw [e1, if_pos rfl, if_neg hC, if_neg hD, e2, if_neg hE, e3, w_succ (by omega)]
      have ih := whole_l0 a m ha hm hs d k (pre ++ [(⟨x / 64, x % 64, m1 x n⟩ : S35)]) (x + m1 x n) (n - m1 x n) (by omega) (by omega) (by omega) (enough_step hx c h) (by omega) (by simp; omega)
      simpa using ih
    · have ep : pcs (d + 1) x n = [] := by rw [pcs, if_neg c]
      have hx2 : x = a + m := by omega
      rw [ep, if_neg (by simp), w64 (n := a + m) (by omega) (by omega), if_pos hx2, may_yes ha hm hs (by omega)]
      rfl
theorem AddrWhole : caissonlaw1_AddrWhole.Pure := by
  intro a0 a1 _ _
  refine ⟨200, ?_⟩
  obtain ⟨p1, p2, p3⟩ := umod_pos a0 4096 (by omega) (by omega)
  unfold caissonlaw1_AddrWhole.f
  rw [awake_true, p3]
  generalize (IntKind.u64.wrap a0).tmod 4096 = a at *
  simp only [Option.bind_some, if_true]
  have e1 : wrap64 (4096 - a) = 4096 - a := w64 (by omega) (by omega)
  have e2 : wrap64 (4096 - a + 1) = 4096 - a + 1 := w64 (by omega) (by omega)
  rw [e1, e2, u64_of (by omega) (by omega), if_neg (by omega)]
  obtain ⟨q1, q2, q3⟩ := umod_pos a1 (4096 - a + 1) (by omega) (by omega)
  rw [q3]
  generalize (IntKind.u64.wrap a1).tmod (4096 - a + 1) = m at *
  have he : enough 200 a m := ⟨by omega, fun _ => by omega⟩
  rw [split_f 200 a m p1 q1 (by omega) he (by omega)]
  simp only [Option.bind_some, caissonlaw0_Num.f, if_true]
  exact whole_l0 a m p1 q1 (by omega) 200 200 [] a m p1 q1 rfl he (by omega) (by simp)

end Go.Proofs.Ytnplemkacpljaaa.Pure
