/- PROVED, over plain numbers: a run touches just the frames in which its bytes are. -/
import Derived.Test.YtnplemkacpljaaaPAddrFramesx2
import Derived.Laws.BitsLemmas
namespace Go.Proofs.Ytnplemkacpljaaa.Pure
open Go.RowKit Go.Proofs.Ytnplemkacpljaaa.PAddrFrames Go.Proofs.YtnplemkacpljaaaW.PrintWords Go.Proofs.YtnplemkacpljaaaW.PrintLast
set_option linter.unusedVariables false

theorem i64_mask (k : Nat) (hk : k ≤ 62) (n : Int) : Go.bits .and .i64 n (((2 ^ k - 1 : Nat) : Int)) = n % ((2 ^ k : Nat) : Int) := by
  have hp : (2 : Nat) ^ k ≤ 2 ^ 62 := Nat.pow_le_pow_right (by decide) hk
  have hpos : 0 < (2 : Nat) ^ k := Nat.pos_of_ne_zero (by simp)
  have h1 : (BitVec.ofInt 64 (((2 ^ k - 1 : Nat) : Int))).toNat = 2 ^ k - 1 := by
    rw [BitVec.toNat_ofInt]
    omega
  have key : (BitVec.ofInt 64 n &&& BitVec.ofInt 64 (((2 ^ k - 1 : Nat) : Int))).toNat = (n % ((2 ^ 64 : Nat) : Int)).toNat % 2 ^ k := by
    rw [BitVec.toNat_and, BitVec.toNat_ofInt, h1, Nat.and_two_pow_sub_one_eq_mod]
  show IntKind.i64.wrap ((BitVec.ofInt 64 n &&& BitVec.ofInt 64 (((2 ^ k - 1 : Nat) : Int))).toNat : Nat) = _
  rw [key, IntKind.wrap_i64]
  have hd : (2 ^ k : Nat) ∣ 2 ^ 64 := Nat.pow_dvd_pow 2 (by omega)
  have h2 : 0 ≤ n % ((2 ^ 64 : Nat) : Int) := Int.emod_nonneg _ (by decide)
  have h3 : (((n % ((2 ^ 64 : Nat) : Int)).toNat % 2 ^ k : Nat) : Int) = n % ((2 ^ k : Nat) : Int) := by
    rw [Int.natCast_emod, Int.toNat_of_nonneg h2, Int.emod_emod_of_dvd n (Int.natCast_dvd_natCast.2 hd)]
  have h4 : (n % ((2 ^ 64 : Nat) : Int)).toNat % 2 ^ k < 2 ^ k := Nat.mod_lt _ hpos
  rw [← h3]
  omega
theorem w64 {n : Int} (h0 : -9223372036854775808 ≤ n) (h1 : n ≤ 9223372036854775807) : wrap64 n = n := by unfold wrap64; omega
theorem umod_pos (n m : Int) (h0 : 0 < m) (h1 : m ≤ 100000) : 0 ≤ (IntKind.u64.wrap n).tmod m ∧ (IntKind.u64.wrap n).tmod m < m ∧ wrap64 ((IntKind.u64.wrap n).tmod m) = (IntKind.u64.wrap n).tmod m := by
  have hu : 0 ≤ IntKind.u64.wrap n := by rw [IntKind.wrap_u64]; omega
  have ht : (IntKind.u64.wrap n).tmod m = IntKind.u64.wrap n % m := Int.tmod_eq_emod_of_nonneg hu
  have h2 : 0 ≤ IntKind.u64.wrap n % m := Int.emod_nonneg _ (by omega)
  have h3 : IntKind.u64.wrap n % m < m := Int.emod_lt_of_pos _ h0
  rw [ht]
  exact ⟨h2, h3, w64 (by omega) (by omega)⟩
theorem u64_of {n : Int} (h0 : 0 ≤ n) (h1 : n ≤ 100000) : IntKind.u64.wrap n = n := by rw [IntKind.wrap_u64]; omega

/-- How long the first piece of a run is. -/
def m1 (x n : Int) : Int := if n ≤ 64 - x % 64 then n else 64 - x % 64
/-- The pieces of a run. -/
def pcs : Nat → Int → Int → List S35
  | 0, _, _ => []
  | d + 1, x, n => if n > 0 then (⟨x / 64, x % 64, m1 x n⟩ : S35) :: pcs d (x + m1 x n) (n - m1 x n) else []
theorem m1_bd {x n : Int} (hn : 0 < n) : 0 < m1 x n ∧ m1 x n ≤ n ∧ m1 x n ≤ 64 - x % 64 ∧ (m1 x n = n ∨ m1 x n = 64 - x % 64) := by
  unfold m1; split <;> omega
/-- So many rounds are enough. -/
def enough (d : Nat) (x n : Int) : Prop := 0 < d ∧ (0 < n → (x % 64 + n + 63) / 64 < (d : Int))
theorem enough_step {d : Nat} {x n : Int} (hx : 0 ≤ x) (hn : 0 < n) (h : enough (d + 1) x n) : enough d (x + m1 x n) (n - m1 x n) := by
  obtain ⟨b1, b2, b3, b4⟩ := m1_bd (x := x) hn
  have h2 := h.2 hn
  refine ⟨by omega, fun h3 => ?_⟩
  rcases b4 with b4 | b4 <;> omega
theorem pcs_same : ∀ (d e : Nat) (x n : Int), 0 ≤ x → 0 ≤ n → enough d x n → enough e x n → pcs d x n = pcs e x n
  | 0, _, _, _, _, _, h, _ => absurd h.1 (by omega)
  | d + 1, 0, _, _, _, _, _, h => absurd h.1 (by omega)
  | d + 1, e + 1, x, n, hx, hn, h, g => by
    unfold pcs
    by_cases c : n > 0
    · obtain ⟨b1, b2, b3, b4⟩ := m1_bd (x := x) c
      rw [if_pos c, if_pos c, pcs_same d e _ _ (by omega) (by omega) (enough_step hx c h) (enough_step hx c g)]
    · rw [if_neg c, if_neg c]
theorem len_pcs : ∀ (d : Nat) (x n : Int), 0 ≤ x → 0 ≤ n → enough d x n → ((pcs d x n).length : Int) = if 0 < n then (x % 64 + n + 63) / 64 else 0
  | 0, x, n, _, _, h => absurd h.1 (by omega)
  | d + 1, x, n, hx, hn, h => by
    unfold pcs
    by_cases c : n > 0
    · have e := enough_step hx c h
      obtain ⟨b1, b2, b3, b4⟩ := m1_bd (x := x) c
      have ih := len_pcs d (x + m1 x n) (n - m1 x n) (by omega) (by omega) e
      rw [if_pos c, if_pos c, List.length_cons, Int.natCast_add, ih]
      by_cases c2 : 0 < n - m1 x n
      · rw [if_pos c2]; rcases b4 with b4 | b4 <;> omega
      · rw [if_neg c2]; rcases b4 with b4 | b4 <;> omega
    · rw [if_neg c, if_neg c]; rfl
theorem split_l0 : ∀ (k : Nat) (x n : Int) (acc : List S35), 0 ≤ x → 0 ≤ n → x + n ≤ 4096 → enough k x n → acc.length + k < 5864062014805 → addr_Split.l0 k x n acc = some (acc ++ pcs k x n, 0)
  | 0, x, n, _, _, _, _, h, _ => absurd h.1 (by omega)
  | k + 1, x, n, acc, hx, hn, hs, h, ha => by
    unfold addr_Split.l0 pcs
    by_cases c : n > 0
    · obtain ⟨b1, b2, b3, b4⟩ := m1_bd (x := x) c
      have e1 : Int.tmod x 64 = x % 64 := Int.tmod_eq_emod_of_nonneg hx
      have e2 : Int.tdiv x 64 = x / 64 := Int.tdiv_eq_ediv_of_nonneg hx
      have e3 : wrap64 (64 - x % 64) = 64 - x % 64 := w64 (by omega) (by omega)
      have e4 : mn n (64 - x % 64) = m1 x n := by unfold mn m1; split <;> (first | rfl | omega | (split <;> omega))
      have e5 : wrap64 (x + m1 x n) = x + m1 x n := w64 (by omega) (by omega)
      have e6 : wrap64 (n - m1 x n) = n - m1 x n := w64 (by omega) (by omega)
      have e7 : wrap64 (x / 64) = x / 64 := w64 (by omega) (by omega)
      rw [if_pos c, if_pos c, if_pos (by omega), e1, e2, e3, e4, e5, e6, e7]
      rw [split_l0 k _ _ _ (by omega) (by omega) (by omega) (enough_step hx c h) (by simp; omega)]
      simp
    · rw [if_neg c, if_neg c]; simp
theorem may_yes {x n s : Int} (h0 : 0 ≤ x) (h1 : 0 ≤ n) (h2 : x + n ≤ s) (h3 : s ≤ 100000) : addr_May.f x n s = some true := by
  unfold addr_May.f
  rw [if_pos (by omega), if_pos (by omega), if_pos (by omega), if_pos (by omega), w64 (by omega) (by omega)]
  congr 1
  simp
  omega
theorem split_f (k : Nat) (x n : Int) (h0 : 0 ≤ x) (h1 : 0 ≤ n) (h2 : x + n ≤ 4096) (hk : enough k x n) (hk2 : k < 100000) : addr_Split.f k x n = some (pcs k x n, 0) := by
  unfold addr_Split.f
  rw [may_yes h0 h1 h2 (by omega)]
  simp only [Option.bind_some, if_true]
  rw [split_l0 k x n [] h0 h1 h2 hk (by simp; omega)]
  rfl
theorem lt_mid (pre : List S35) (p : S35) (L : List S35) : (pre.length : Int) < ((pre ++ p :: L).length : Int) := by
  rw [List.length_append, List.length_cons]; omega
theorem nn_len (pre : List S35) : (0 : Int) ≤ (pre.length : Int) := by omega
theorem w_succ {l : Nat} (h : l < 100000) : wrap64 ((l : Int) + 1) = ((l + 1 : Nat) : Int) := w64 (by omega) (by omega)
theorem rd_mid (pre : List S35) (p : S35) (L : List S35) : rd_T35 (pre ++ p :: L) (pre.length : Int) = p := by
  unfold rd_T35
  simp

theorem awake_true : caissonlaw1_awake.f 2000 = some true := by decide +kernel
theorem inner (a m : Int) (pre : List S35) (p : S35) (L : List S35) (hp : pre.length < 1000) : ∀ (t k : Nat) (i o : Int), 0 ≤ i → i + t < 100000 → 0 ≤ o → o + t = p.f2 → p.f2 ≤ 64 → p.f0 = i / 64 → p.f1 + o = i % 64 → 0 ≤ p.f1 → p.f1 + p.f2 ≤ 64 →
    caissonlaw1_AddrFrames.l1 (k + t + 1) a m (pre ++ p :: L) i (pre.length : Int) o = caissonlaw1_AddrFrames.l0 k a m (pre ++ p :: L) (i + t) ((pre.length + 1 : Nat) : Int)
  | 0, k, i, o, hi, hi2, ho, hot, h64, h0, h1, h2, h3 => by
    show caissonlaw1_AddrFrames.l1 (k + 1) a m (pre ++ p :: L) i (pre.length : Int) o = _
    unfold caissonlaw1_AddrFrames.l1
    have hC : ¬ o < p.f2 := by omega
    rw [if_pos (nn_len _), if_pos (lt_mid _ _ _), rd_mid, if_neg hC, w_succ (by omega)]
    simp
  | t + 1, k, i, o, hi, hi2, ho, hot, h64, h0, h1, h2, h3 => by
    show caissonlaw1_AddrFrames.l1 (k + t + 1 + 1) a m (pre ++ p :: L) i (pre.length : Int) o = _
    unfold caissonlaw1_AddrFrames.l1
    have e2 : Int.tdiv i 64 = i / 64 := Int.tdiv_eq_ediv_of_nonneg hi
    have e1 : Int.tmod i 64 = i % 64 := Int.tmod_eq_emod_of_nonneg hi
    have hC : o < p.f2 := by omega
    rw [if_pos (nn_len _), if_pos (lt_mid _ _ _), rd_mid, if_pos hC, e1, e2, w64 (n := i / 64) (by omega) (by omega), if_pos h0, w64 (n := p.f1 + o) (by omega) (by omega), if_pos h1, w64 (n := i + 1) (by omega) (by omega), w64 (n := o + 1) (by omega) (by omega)]
    by_cases ht : t = 0
    · subst ht
      have hC2 : ¬ o + 1 < p.f2 := by omega
      show caissonlaw1_AddrFrames.l1 (k + 1) a m (pre ++ p :: L) (i + 1) (pre.length : Int) (o + 1) = _
      unfold caissonlaw1_AddrFrames.l1
      rw [if_pos (nn_len _), if_pos (lt_mid _ _ _), rd_mid, if_neg hC2, w_succ (by omega)]
      simp
    · rw [inner a m pre p L hp t k (i + 1) (o + 1) (by omega) (by omega) (by omega) (by omega) h64 (by omega) (by omega) h2 h3]
      congr 1
      omega
theorem frames_l0 (a m : Int) (hs : a + m ≤ 4096) : ∀ (d k : Nat) (pre : List S35) (x n : Int), 0 ≤ x → 0 ≤ n → x + n = a + m → enough d x n → n + 2 * d < k → pre.length + d < 1000 → caissonlaw1_AddrFrames.l0 k a m (pre ++ pcs d x n) x (pre.length : Int) = some true
  | 0, _, _, _, _, _, _, _, h, _, _ => absurd h.1 (by omega)
  | d + 1, 0, _, _, _, _, _, _, h, hk, _ => absurd hk (by omega)
  | d + 1, k + 1, pre, x, n, hx, hn, he, h, hk, hp => by
    unfold caissonlaw1_AddrFrames.l0
    by_cases c : n > 0
    · obtain ⟨b1, b2, b3, b4⟩ := m1_bd (x := x) c
      have ep : pcs (d + 1) x n = (⟨x / 64, x % 64, m1 x n⟩ : S35) :: pcs d (x + m1 x n) (n - m1 x n) := by rw [pcs, if_pos c]
      rw [ep, if_pos (lt_mid _ _ _)]
      obtain ⟨t, ht⟩ := Int.eq_ofNat_of_zero_le (a := m1 x n) (by omega)
      obtain ⟨j, rfl⟩ : ∃ j, k = j + t + 1 := ⟨k - t - 1, by omega⟩
      rw [inner a m pre _ _ (by omega) t j x 0 hx (by omega) (by omega) (by simp only; omega) (by simp only; omega) rfl (by simp) (by simp only; omega) (by simp only; omega)]
      have ih := frames_l0 a m hs d j (pre ++ [(⟨x / 64, x % 64, m1 x n⟩ : S35)]) (x + m1 x n) (n - m1 x n) (by omega) (by omega) (by omega) (enough_step hx c h) (by omega) (by simp; omega)
      rw [← ht]
      simpa using ih
    · have ep : pcs (d + 1) x n = [] := by rw [pcs, if_neg c]
      rw [ep, if_neg (by simp), w64 (n := a + m) (by omega) (by omega)]
      congr 1
      simp
      omega
theorem AddrFrames : caissonlaw1_AddrFrames.Pure := by
  intro a0 a1 _ _
  refine ⟨2000, ?_⟩
  have e1 : Go.bits .and .i64 a0 1023 = a0 % 1024 := i64_mask 10 (by decide) a0
  have e2 : Go.bits .and .i64 a1 255 = a1 % 256 := i64_mask 8 (by decide) a1
  unfold caissonlaw1_AddrFrames.f
  rw [awake_true, e1, e2]
  have h1 : 0 ≤ a0 % 1024 ∧ a0 % 1024 < 1024 := by omega
  have h2 : 0 ≤ a1 % 256 ∧ a1 % 256 < 256 := by omega
  generalize a0 % 1024 = a at *
  generalize a1 % 256 = m at *
  have he : enough 2000 a m := ⟨by omega, fun _ => by omega⟩
  have he2 : enough 100 a m := ⟨by omega, fun _ => by omega⟩
  simp only [Option.bind_some, if_true]
  rw [split_f 2000 a m h1.1 h2.1 (by omega) he (by omega)]
  simp only [Option.bind_some, caissonlaw0_Num.f, if_true]
  rw [pcs_same 2000 100 a m h1.1 h2.1 he he2]
  exact frames_l0 a m (by omega) 100 2000 [] a m h1.1 h2.1 rfl he2 (by omega) (by simp)

end Go.Proofs.Ytnplemkacpljaaa.Pure
