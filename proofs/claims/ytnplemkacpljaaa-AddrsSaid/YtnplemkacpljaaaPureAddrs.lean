/- PROVED, over plain numbers: for any numbers the pieces are those of the document, what was handed out may be spoilt, and whether a run may be is told alike. -/
import Derived.Test.YtnplemkacpljaaaPAddrsx3
import Derived.Laws.BitsLemmas
namespace Go.Proofs.Ytnplemkacpljaaa.Pure
open Go.RowKit Go.Proofs.Ytnplemkacpljaaa.PAddrs Go.Proofs.YtnplemkacpljaaaW.PrintWords Go.Proofs.YtnplemkacpljaaaW.PrintLast
set_option linter.unusedVariables false

theorem i64_mask (k : Nat) (hk : k ≤ 62) (n : Int) : Go.bits .and .i64 n (((2 ^ k - 1 : Nat) : Int)) = n % ((2 ^ k : Nat) : Int) := by
  have hp : (2 : Nat) ^ k ≤ 2 ^ 62 := Nat.pow_le_pow_right (by decide) hk
  have hpos : 0 < (2 : Nat) ^ k := Nat.pos_of_ne_zero (by simp)
  have h1 : (BitVec.ofInt 64 (((2 ^ k - 1 : Nat) : Int))).toNat = 2 ^ k - 1 := by
    rw [BitVec.toNat_ofInt]
    omega
  have key : (BitVec.ofInt 64 n &&& BitVec.ofInt 64 (((2 ^ k - 1 : Nat) : Int))).toNat = (n % ((2 ^ 64 : Nat) : Int)).toNat % 2 ^ k := by
    rw [BitVec.toNat_and, BitVec.toNat_ofInt, h1, Nat.and_two_pow_sub_one_eq_mod]
  show IntKind.i64.wrap ((BitVec.ofInt 64 n &&& BitVec.ofInt 64 (((2 ^ k - 1 : Nat) : Int))).toNat : Nat) = _
  rw [key, IntKind.wrap_i64]
  have hd : (2 ^ k : Nat) ∣ 2 ^ 64 := Nat.pow_dvd_pow 2 (by omega)
  have h2 : 0 ≤ n % ((2 ^ 64 : Nat) : Int) := Int.emod_nonneg _ (by decide)
  have h3 : (((n % ((2 ^ 64 : Nat) : Int)).toNat % 2 ^ k : Nat) : Int) = n % ((2 ^ k : Nat) : Int) := by
    rw [Int.natCast_emod, Int.toNat_of_nonneg h2, Int.emod_emod_of_dvd n (Int.natCast_dvd_natCast.2 hd)]
  have h4 : (n % ((2 ^ 64 : Nat) : Int)).toNat % 2 ^ k < 2 ^ k := Nat.mod_lt _ hpos
  rw [← h3]
  omega
theorem w64 {n : Int} (h0 : -9223372036854775808 ≤ n) (h1 : n ≤ 9223372036854775807) : wrap64 n = n := by unfold wrap64; omega
theorem umod_pos (n m : Int) (h0 : 0 < m) (h1 : m ≤ 100000) : 0 ≤ (IntKind.u64.wrap n).tmod m ∧ (IntKind.u64.wrap n).tmod m < m ∧ wrap64 ((IntKind.u64.wrap n).tmod m) = (IntKind.u64.wrap n).tmod m := by
  have hu : 0 ≤ IntKind.u64.wrap n := by rw [IntKind.wrap_u64]; omega
  have ht : (IntKind.u64.wrap n).tmod m = IntKind.u64.wrap n % m := Int.tmod_eq_emod_of_nonneg hu
  have h2 : 0 ≤ IntKind.u64.wrap n % m := Int.emod_nonneg _ (by omega)
  have h3 : IntKind.u64.wrap n % m < m := Int.emod_lt_of_pos _ h0
  rw [ht]
  exact ⟨h2, h3, w64 (by omega) (by omega)⟩
theorem u64_of {n : Int} (h0 : 0 ≤ n) (h1 : n ≤ 100000) : IntKind.u64.wrap n = n := by rw [IntKind.wrap_u64]; omega

/-- How long the first piece of a run is. -/
def m1 (x n : Int) : Int := if n ≤ 64 - x % 64 then n else 64 - x % 64
/-- The pieces of a run. -/
def pcs : Nat → Int → Int → List S35
  | 0, _, _ => []
  | d + 1, x, n => if n > 0 then (⟨x / 64, x % 64, m1 x n⟩ : S35) :: pcs d (x + m1 x n) (n - m1 x n) else []
theorem m1_bd {x n : Int} (hn : 0 < n) : 0 < m1 x n ∧ m1 x n ≤ n ∧ m1 x n ≤ 64 - x % 64 ∧ (m1 x n = n ∨ m1 x n = 64 - x % 64) := by
  unfold m1; split <;> omega
/-- So many rounds are enough. -/
def enough (d : Nat) (x n : Int) : Prop := 0 < d ∧ (0 < n → (x % 64 + n + 63) / 64 < (d : Int))
theorem enough_step {d : Nat} {x n : Int} (hx : 0 ≤ x) (hn : 0 < n) (h : enough (d + 1) x n) : enough d (x + m1 x n) (n - m1 x n) := by
  obtain ⟨b1, b2, b3, b4⟩ := m1_bd (x := x) hn
  have h2 := h.2 hn
  refine ⟨by omega, fun h3 => ?_⟩
  rcases b4 with b4 | b4 <;> omega
theorem pcs_same : ∀ (d e : Nat) (x n : Int), 0 ≤ x → 0 ≤ n → enough d x n → enough e x n → pcs d x n = pcs e x n
  | 0, _, _, _, _, _, h, _ => absurd h.1 (by omega)
  | d + 1, 0, _, _, _, _, _, h => absurd h.1 (by omega)
  | d + 1, e + 1, x, n, hx, hn, h, g => by
    unfold pcs
    by_cases c : n > 0
    · obtain ⟨b1, b2, b3, b4⟩ := m1_bd (x := x) c
      rw [if_pos c, if_pos c, pcs_same d e _ _ (by omega) (by omega) (enough_step hx c h) (enough_step hx c g)]
    · rw [if_neg c, if_neg c]
theorem len_pcs : ∀ (d : Nat) (x n : Int), 0 ≤ x → 0 ≤ n → enough d x n → ((pcs d x n).length : Int) = if 0 < n then (x % 64 + n + 63) / 64 else 0
  | 0, x, n, _, _, h => absurd h.1 (by omega)
  | d + 1, x, n, hx, hn, h => by
    unfold pcs
    by_cases c : n > 0
    · have e := enough_step hx c h
      obtain ⟨b1, b2, b3, b4⟩ := m1_bd (x := x) c
      have ih := len_pcs d (x + m1 x n) (n - m1 x n) (by omega) (by omega) e
      rw [if_pos c, if_pos c, List.length_cons, Int.natCast_add, ih]
      by_cases c2 : 0 < n - m1 x n
      · rw [if_pos c2]; rcases b4 with b4 | b4 <;> omega
      · rw [if_neg c2]; rcases b4 with b4 | b4 <;> omega
    · rw [if_neg c, if_neg c]; rfl
theorem split_l0 : ∀ (k : Nat) (x n : Int) (acc : List S35), 0 ≤ x → 0 ≤ n → x + n ≤ 4096 → enough k x n → acc.length + k < 5864062014805 → addr_Split.l0 k x n acc = some (acc ++ pcs k x n, 0)
  | 0, x, n, _, _, _, _, h, _ => absurd h.1 (by omega)
  | k + 1, x, n, acc, hx, hn, hs, h, ha => by
    unfold addr_Split.l0 pcs
    by_cases c : n > 0
    · obtain ⟨b1, b2, b3, b4⟩ := m1_bd (x := x) c
      have e1 : Int.tmod x 64 = x % 64 := Int.tmod_eq_emod_of_nonneg hx
      have e2 : Int.tdiv x 64 = x / 64 := Int.tdiv_eq_ediv_of_nonneg hx
      have e3 : wrap64 (64 - x % 64) = 64 - x % 64 := w64 (by omega) (by omega)
      have e4 : mn n (64 - x % 64) = m1 x n := by unfold mn m1; split <;> (first | rfl | omega | (split <;> omega))
      have e5 : wrap64 (x + m1 x n) = x + m1 x n := w64 (by omega) (by omega)
      have e6 : wrap64 (n - m1 x n) = n - m1 x n := w64 (by omega) (by omega)
      have e7 : wrap64 (x / 64) = x / 64 := w64 (by omega) (by omega)
      rw [if_pos c, if_pos c, if_pos (by omega), e1, e2, e3, e4, e5, e6, e7]
      rw [split_l0 k _ _ _ (by omega) (by omega) (by omega) (enough_step hx c h) (by simp; omega)]
      simp
    · rw [if_neg c, if_neg c]; simp
theorem may_yes {x n s : Int} (h0 : 0 ≤ x) (h1 : 0 ≤ n) (h2 : x + n ≤ s) (h3 : s ≤ 100000) : addr_May.f x n s = some true := by
  unfold addr_May.f
  rw [if_pos (by omega), if_pos (by omega), if_pos (by omega), if_pos (by omega), w64 (by omega) (by omega)]
  congr 1
  simp
  omega
theorem split_f (k : Nat) (x n : Int) (h0 : 0 ≤ x) (h1 : 0 ≤ n) (h2 : x + n ≤ 4096) (hk : enough k x n) (hk2 : k < 100000) : addr_Split.f k x n = some (pcs k x n, 0) := by
  unfold addr_Split.f
  rw [may_yes h0 h1 h2 (by omega)]
  simp only [Option.bind_some, if_true]
  rw [split_l0 k x n [] h0 h1 h2 hk (by simp; omega)]
  rfl
theorem lt_mid (pre : List S35) (p : S35) (L : List S35) : (pre.length : Int) < ((pre ++ p :: L).length : Int) := by
  rw [List.length_append, List.length_cons]; omega
theorem nn_len (pre : List S35) : (0 : Int) ≤ (pre.length : Int) := by omega
theorem w_succ {l : Nat} (h : l < 100000) : wrap64 ((l : Int) + 1) = ((l + 1 : Nat) : Int) := w64 (by omega) (by omega)
theorem rd_mid (pre : List S35) (p : S35) (L : List S35) : rd_T35 (pre ++ p :: L) (pre.length : Int) = p := by
  unfold rd_T35
  simp

theorem awake_true : caissonlaw1_awake.f 200 = some true := by decide +kernel
theorem ref_may : caissonref1_May.f = addr_May.f := by funext a b c; rfl
theorem ref_l0 : ∀ k, caissonref1_Split.l0 k = addr_Split.l0 k
  | 0 => by funext a b c; rfl
  | k + 1 => by funext a b c; unfold caissonref1_Split.l0 addr_Split.l0; rw [ref_l0 k]
theorem ref_split (k : Nat) (a b : Int) : caissonref1_Split.f k a b = addr_Split.f k a b := by
  unfold caissonref1_Split.f addr_Split.f; rw [ref_may, ref_l0]
theorem same_l0 : ∀ (k : Nat) (xs : List S35) (i : Nat), i ≤ xs.length → xs.length < 1000 → xs.length - i < k → caissonlaw0_SamePieces.l0 k xs xs (i : Int) = some true
  | 0, _, _, _, _, h => absurd h (by omega)
  | k + 1, xs, i, h0, h1, h => by
    unfold caissonlaw0_SamePieces.l0
    by_cases c : i < xs.length
    · rw [if_pos (by omega), if_pos (by omega), if_pos (by omega), if_neg (by simp), w64 (n := (i : Int) + 1) (by omega) (by omega)]
      exact same_l0 k xs (i + 1) (by omega) h1 (by omega)
    · rw [if_neg (by omega)]
theorem same_f (xs : List S35) (h : xs.length < 150) : caissonlaw0_SamePieces.f 200 xs xs = some true := by
  unfold caissonlaw0_SamePieces.f
  rw [if_pos rfl]
  exact same_l0 200 xs 0 (by omega) (by omega) (by omega)
theorem same_f1 (xs : List S35) (h : xs.length < 150) : caissonlaw0_SamePieces.f 199 xs xs = some true := by
  unfold caissonlaw0_SamePieces.f
  rw [if_pos rfl]
  exact same_l0 199 xs 0 (by omega) (by omega) (by omega)
theorem spoil_l0 : ∀ (k : Nat) (xs : List S35) (i : Nat), i ≤ xs.length → xs.length < 1000 → xs.length - i < k → ∃ ys, caissonlaw0_SpoilPieces.l0 k xs (i : Int) = some ys
  | 0, _, _, _, _, h => absurd h (by omega)
  | k + 1, xs, i, h0, h1, h => by
    unfold caissonlaw0_SpoilPieces.l0
    by_cases c : i < xs.length
    · rw [if_pos (by omega), if_pos (by omega), w64 (n := (i : Int) + 1) (by omega) (by omega)]
      exact spoil_l0 k _ (i + 1) (by simp; omega) (by simp; omega) (by simp; omega)
    · rw [if_neg (by omega)]; exact ⟨_, rfl⟩
theorem awake_true1 : caissonlaw1_awake.f 199 = some true := by decide +kernel
theorem may_some (a b c : Int) : ∃ r, addr_May.f a b c = some r := by
  unfold addr_May.f
  repeat' split
  all_goals exact ⟨_, rfl⟩
theorem split_no (k : Nat) (a b : Int) (h : addr_May.f a b 4096 = some false) : addr_Split.f k a b = some ([], 100) := by
  unfold addr_Split.f; rw [h]; rfl
theorem may_yes_inv {a b : Int} (wa : (Lit.int .i64 a).wf = true) (wb : (Lit.int .i64 b).wf = true) (h : addr_May.f a b 4096 = some true) : 0 ≤ a ∧ 0 ≤ b ∧ a + b ≤ 4096 := by
  unfold addr_May.f at h
  by_cases c1 : a ≥ 0
  · by_cases c2 : b ≥ 0
    · by_cases c3 : a ≤ 4096
      · rw [if_pos c1, if_pos c2, if_pos (by omega), if_pos c3, w64 (by omega) (by omega)] at h
        simp at h
        omega
      · rw [if_pos c1, if_pos c2, if_pos (by omega), if_neg c3] at h; simp at h
    · rw [if_pos c1, if_neg c2] at h; simp at h
  · rw [if_neg c1] at h; simp at h
theorem Addrs : caissonlaw1_Addrs.Pure := by
  intro a0 a1 a2 w0 w1 _
  refine ⟨200, ?_⟩
  obtain ⟨xs, e, h1, h2, hl⟩ : ∃ xs e, addr_Split.f 200 a0 a1 = some (xs, e) ∧ addr_Split.f 199 a0 a1 = some (xs, e) ∧ xs.length < 150 := by
    obtain ⟨r, hr⟩ := may_some a0 a1 4096
    cases r with
    | false => exact ⟨_, _, split_no 200 a0 a1 hr, split_no 199 a0 a1 hr, by simp⟩
    | true =>
      obtain ⟨b0, b1, b2⟩ := may_yes_inv w0 w1 hr
      have g1 : enough 200 a0 a1 := ⟨by omega, fun _ => by omega⟩
      have g2 : enough 199 a0 a1 := ⟨by omega, fun _ => by omega⟩
      have hl := len_pcs 200 a0 a1 b0 b1 g1
      refine ⟨_, _, split_f 200 a0 a1 b0 b1 b2 g1 (by omega), ?_, ?_⟩
      · rw [pcs_same 200 199 a0 a1 b0 b1 g1 g2]; exact split_f 199 a0 a1 b0 b1 b2 g2 (by omega)
      · split at hl <;> omega
  obtain ⟨r, hr⟩ := may_some a0 a1 a2
  obtain ⟨ys, hy⟩ := spoil_l0 199 xs 0 (by omega) (by omega) (by omega)
  have hy' : caissonlaw0_SpoilPieces.f 199 xs = some ys := hy
  unfold caissonlaw1_Addrs.f
  rw [ref_split, h1]
  simp only [Option.bind_some]
  rw [same_f xs hl]
  simp only [Option.bind_some, if_true, caissonlaw0_Num.f]
  rw [ref_may, hr]
  simp only [Option.bind_some]
  change (if (r != r) = true then some false else ((caissonlaw0_SpoilPieces.f 199 xs).bind fun t142 => ((addr_Split.f 199 a0 a1).bind fun bt143 => ((caissonlaw0_SamePieces.f 199 bt143.1 xs).bind fun t147 => (if t147 = true then ((caissonlaw1_awake.f 199).bind fun t148 => (some t148)) else (some false)))))) = some true
  rw [if_neg (by simp), hy']
  simp only [Option.bind_some]
  rw [h2]
  simp only [Option.bind_some]
  rw [same_f1 xs hl]
  simp only [Option.bind_some, if_true]
  rw [awake_true1]
  rfl

end Go.Proofs.Ytnplemkacpljaaa.Pure
