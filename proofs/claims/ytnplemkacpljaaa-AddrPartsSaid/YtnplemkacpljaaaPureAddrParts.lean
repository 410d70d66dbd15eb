/- PROVED, over plain numbers: the pieces of a run are those of its two parts, but for one that is cut. -/
import Derived.Test.YtnplemkacpljaaaPAddrPartsx3
import Derived.Laws.BitsLemmas
namespace Go.Proofs.Ytnplemkacpljaaa.Pure
open Go.RowKit Go.Proofs.Ytnplemkacpljaaa.PAddrParts Go.Proofs.YtnplemkacpljaaaW.PrintWords Go.Proofs.YtnplemkacpljaaaW.PrintLast
set_option linter.unusedVariables false

theorem i64_mask (k : Nat) (hk : k ≤ 62) (n : Int) : Go.bits .and .i64 n (((2 ^ k - 1 : Nat) : Int)) = n % ((2 ^ k : Nat) : Int) := by
  have hp : (2 : Nat) ^ k ≤ 2 ^ 62 := Nat.pow_le_pow_right (by decide) hk
  have hpos : 0 < (2 : Nat) ^ k := Nat.pos_of_ne_zero (by simp)
  have h1 : (BitVec.ofInt 64 (((2 ^ k - 1 : Nat) : Int))).toNat = 2 ^ k - 1 := by
    rw [BitVec.toNat_ofInt]
    omega
  have key : (BitVec.ofInt 64 n &&& BitVec.ofInt 64 (((2 ^ k - 1 : Nat) : Int))).toNat = (n % ((2 ^ 64 : Nat) : Int)).toNat % 2 ^ k := by
    rw [BitVec.toNat_and, BitVec.toNat_ofInt, h1, Nat.and_two_pow_sub_one_eq_mod]
  show IntKind.i64.wrap ((BitVec.ofInt 64 n &&& BitVec.ofInt 64 (((2 ^ k - 1 : Nat) : Int))).toNat : Nat) = _
  rw [key, IntKind.wrap_i64]
  have hd : (2 ^ k : Nat) ∣ 2 ^ 64 := Nat.pow_dvd_pow 2 (by omega)
  have h2 : 0 ≤ n % ((2 ^ 64 : Nat) : Int) := Int.emod_nonneg _ (by decide)
  have h3 : (((n % ((2 ^ 64 : Nat) : Int)).toNat % 2 ^ k : Nat) : Int) = n % ((2 ^ k : Nat) : Int) := by
    rw [Int.natCast_emod, Int.toNat_of_nonneg h2, Int.emod_emod_of_dvd n (Int.natCast_dvd_natCast.2 hd)]
  have h4 : (n % ((2 ^ 64 : Nat) : Int)).toNat % 2 ^ k < 2 ^ k := Nat.mod_lt _ hpos
  rw [← h3]
  omega
theorem w64 {n : Int} (h0 : -9223372036854775808 ≤ n) (h1 : n ≤ 9223372036854775807) : wrap64 n = n := by unfold wrap64; omega
theorem umod_pos (n m : Int) (h0 : 0 < m) (h1 : m ≤ 100000) : 0 ≤ (IntKind.u64.wrap n).tmod m ∧ (IntKind.u64.wrap n).tmod m < m ∧ wrap64 ((IntKind.u64.wrap n).tmod m) = (IntKind.u64.wrap n).tmod m := by
  have hu : 0 ≤ IntKind.u64.wrap n := by rw [IntKind.wrap_u64]; omega
  have ht : (IntKind.u64.wrap n).tmod m = IntKind.u64.wrap n % m := Int.tmod_eq_emod_of_nonneg hu
  have h2 : 0 ≤ IntKind.u64.wrap n % m := Int.emod_nonneg _ (by omega)
  have h3 : IntKind.u64.wrap n % m < m := Int.emod_lt_of_pos _ h0
  rw [ht]
  exact ⟨h2, h3, w64 (by omega) (by omega)⟩
theorem u64_of {n : Int} (h0 : 0 ≤ n) (h1 : n ≤ 100000) : IntKind.u64.wrap n = n := by rw [IntKind.wrap_u64]; omega

/-- How long the first piece of a run is. -/
def m1 (x n : Int) : Int := if n ≤ 64 - x % 64 then n else 64 - x % 64
/-- The pieces of a run. -/
def pcs : Nat → Int → Int → List S35
  | 0, _, _ => []
  | d + 1, x, n => if n > 0 then (⟨x / 64, x % 64, m1 x n⟩ : S35) :: pcs d (x + m1 x n) (n - m1 x n) else []
theorem m1_bd {x n : Int} (hn : 0 < n) : 0 < m1 x n ∧ m1 x n ≤ n ∧ m1 x n ≤ 64 - x % 64 ∧ (m1 x n = n ∨ m1 x n = 64 - x % 64) := by
  unfold m1; split <;> omega
/-- So many rounds are enough. -/
def enough (d : Nat) (x n : Int) : Prop := 0 < d ∧ (0 < n → (x % 64 + n + 63) / 64 < (d : Int))
theorem enough_step {d : Nat} {x n : Int} (hx : 0 ≤ x) (hn : 0 < n) (h : enough (d + 1) x n) : enough d (x + m1 x n) (n - m1 x n) := by
  obtain ⟨b1, b2, b3, b4⟩ := m1_bd (x := x) hn
  have h2 := h.2 hn
  refine ⟨by omega, fun h3 => ?_⟩
  rcases b4 with b4 | b4 <;> omega
theorem pcs_same : ∀ (d e : Nat) (x n : Int), 0 ≤ x → 0 ≤ n → enough d x n → enough e x n → pcs d x n = pcs e x n
  | 0, _, _, _, _, _, h, _ => absurd h.1 (by omega)
  | d + 1, 0, _, _, _, _, _, h => absurd h.1 (by omega)
  | d + 1, e + 1, x, n, hx, hn, h, g => by
    unfold pcs
    by_cases c : n > 0
    · obtain ⟨b1, b2, b3, b4⟩ := m1_bd (x := x) c
      rw [if_pos c, if_pos c, pcs_same d e _ _ (by omega) (by omega) (enough_step hx c h) (enough_step hx c g)]
    · rw [if_neg c, if_neg c]
theorem len_pcs : ∀ (d : Nat) (x n : Int), 0 ≤ x → 0 ≤ n → enough d x n → ((pcs d x n).length : Int) = if 0 < n then (x % 64 + n + 63) / 64 else 0
  | 0, x, n, _, _, h => absurd h.1 (by omega)
  | d + 1, x, n, hx, hn, h => by
    unfold pcs
    by_cases c : n > 0
    · have e := enough_step hx c h
      obtain ⟨b1, b2, b3, b4⟩ := m1_bd (x := x) c
      have ih := len_pcs d (x + m1 x n) (n - m1 x n) (by omega) (by omega) e
      rw [if_pos c, if_pos c, List.length_cons, Int.natCast_add, ih]
      by_cases c2 : 0 < n - m1 x n
      · rw [if_pos c2]; rcases b4 with b4 | b4 <;> omega
      · rw [if_neg c2]; rcases b4 with b4 | b4 <;> omega
    · rw [if_neg c, if_neg c]; rfl
theorem split_l0 : ∀ (k : Nat) (x n : Int) (acc : List S35), 0 ≤ x → 0 ≤ n → x + n ≤ 4096 → enough k x n → acc.length + k < 5864062014805 → addr_Split.l0 k x n acc = some (acc ++ pcs k x n, 0)
  | 0, x, n, _, _, _, _, h, _ => absurd h.1 (by omega)
  | k + 1, x, n, acc, hx, hn, hs, h, ha => by
    unfold addr_Split.l0 pcs
    by_cases c : n > 0
    · obtain ⟨b1, b2, b3, b4⟩ := m1_bd (x := x) c
      have e1 : Int.tmod x 64 = x % 64 := Int.tmod_eq_emod_of_nonneg hx
      have e2 : Int.tdiv x 64 = x / 64 := Int.tdiv_eq_ediv_of_nonneg hx
      have e3 : wrap64 (64 - x % 64) = 64 - x % 64 := w64 (by omega) (by omega)
      have e4 : mn n (64 - x % 64) = m1 x n := by unfold mn m1; split <;> (first | rfl | omega | (split <;> omega))
      have e5 : wrap64 (x + m1 x n) = x + m1 x n := w64 (by omega) (by omega)
      have e6 : wrap64 (n - m1 x n) = n - m1 x n := w64 (by omega) (by omega)
      have e7 : wrap64 (x / 64) = x / 64 := w64 (by omega) (by omega)
      rw [if_pos c, if_pos c, if_pos (by omega), e1, e2, e3, e4, e5, e6, e7]
      rw [split_l0 k _ _ _ (by omega) (by omega) (by omega) (enough_step hx c h) (by simp; omega)]
      simp
    · rw [if_neg c, if_neg c]; simp
theorem may_yes {x n s : Int} (h0 : 0 ≤ x) (h1 : 0 ≤ n) (h2 : x + n ≤ s) (h3 : s ≤ 100000) : addr_May.f x n s = some true := by
  unfold addr_May.f
  rw [if_pos (by omega), if_pos (by omega), if_pos (by omega), if_pos (by omega), w64 (by omega) (by omega)]
  congr 1
  simp
  omega
theorem split_f (k : Nat) (x n : Int) (h0 : 0 ≤ x) (h1 : 0 ≤ n) (h2 : x + n ≤ 4096) (hk : enough k x n) (hk2 : k < 100000) : addr_Split.f k x n = some (pcs k x n, 0) := by
  unfold addr_Split.f
  rw [may_yes h0 h1 h2 (by omega)]
  simp only [Option.bind_some, if_true]
  rw [split_l0 k x n [] h0 h1 h2 hk (by simp; omega)]
  rfl
theorem lt_mid (pre : List S35) (p : S35) (L : List S35) : (pre.length : Int) < ((pre ++ p :: L).length : Int) := by
  rw [List.length_append, List.length_cons]; omega
theorem nn_len (pre : List S35) : (0 : Int) ≤ (pre.length : Int) := by omega
theorem w_succ {l : Nat} (h : l < 100000) : wrap64 ((l : Int) + 1) = ((l + 1 : Nat) : Int) := w64 (by omega) (by omega)
theorem rd_mid (pre : List S35) (p : S35) (L : List S35) : rd_T35 (pre ++ p :: L) (pre.length : Int) = p := by
  unfold rd_T35
  simp

theorem awake_true : caissonlaw1_awake.f 200 = some true := by decide +kernel
theorem sum_l0 (mm w : Int) : ∀ (d k : Nat) (pre : List S35) (x n acc : Int), 0 ≤ x → 0 ≤ n → x + n ≤ 4096 → enough d x n → d ≤ k → 0 ≤ acc → acc + n ≤ 4096 → pre.length + d < 1000 → ((pre ++ pcs d x n).length : Int) = w → acc + n = mm → caissonlaw1_AddrParts.l0 k mm (pre ++ pcs d x n) w acc (pre.length : Int) = some true
  | 0, _, _, _, _, _, _, _, _, h, _, _, _, _, _, _ => absurd h.1 (by omega)
  | d + 1, 0, _, _, _, _, _, _, _, h, hk, _, _, _, _, _ => absurd hk (by omega)
  | d + 1, k + 1, pre, x, n, acc, hx, hn, hs, h, hk, ha, hb, hp, hw, he => by
    unfold caissonlaw1_AddrParts.l0
    by_cases c : n > 0
    · obtain ⟨b1, b2, b3, b4⟩ := m1_bd (x := x) c
      have ep : pcs (d + 1) x n = (⟨x / 64, x % 64, m1 x n⟩ : S35) :: pcs d (x + m1 x n) (n - m1 x n) := by rw [pcs, if_pos c]
      rw [ep] at hw ⊢
      rw [rd_mid, if_pos (lt_mid _ _ _), if_pos (nn_len _)]
      dsimp only
      rw [w64 (n := acc + m1 x n) (by omega) (by omega), w_succ (by omega)]
      have ih := sum_l0 mm w d k (pre ++ [(⟨x / 64, x % 64, m1 x n⟩ : S35)]) (x + m1 x n) (n - m1 x n) (acc + m1 x n) (by omega) (by omega) (by omega) (enough_step hx c h) (by omega) (by omega) (by omega) (by simp; omega) (by simpa using hw) (by omega)
      simpa using ih
    · have ep : pcs (d + 1) x n = [] := by rw [pcs, if_neg c]
      rw [ep] at hw ⊢
      rw [if_neg (by simp), if_pos hw]
      congr 1
      simp
      omega
theorem j0_eq (k : Nat) (x7 x8 x9 : Int) (l1 l2 l3 : List S35) : caissonlaw1_AddrParts.j0 (k + 1) x7 x8 x9 l1 l2 l3 ((0 : Int) != 0) = (if (Int.tmod (wrap64 (x7 + x9)) 64) = 0 then (caissonlaw1_AddrParts.j1 k x8 l1 l2 l3 false) else (if x9 > 0 then (caissonlaw1_AddrParts.j1 k x8 l1 l2 l3 (decide (x9 < x8))) else (caissonlaw1_AddrParts.j1 k x8 l1 l2 l3 false))) := by
  change (if ((0 : Int) != 0) = true then some false else (if (Int.tmod (wrap64 (x7 + x9)) 64) = 0 then (caissonlaw1_AddrParts.j1 k x8 l1 l2 l3 false) else (if x9 > 0 then (caissonlaw1_AddrParts.j1 k x8 l1 l2 l3 (decide (x9 < x8))) else (caissonlaw1_AddrParts.j1 k x8 l1 l2 l3 false)))) = _
  rw [if_neg (by simp)]
theorem j1_no (k : Nat) (x8 : Int) (l1 l2 l3 : List S35) (h : (l2.length : Int) + (l3.length : Int) ≤ 10000) : caissonlaw1_AddrParts.j1 (k + 2) x8 l1 l2 l3 false = caissonlaw1_AddrParts.l0 k x8 l1 ((l2.length : Int) + (l3.length : Int)) 0 0 := by
  change (if false = true then caissonlaw1_AddrParts.j2 (k + 1) x8 l1 (wrap64 (wrap64 ((l2.length : Int) + (l3.length : Int)) - 1)) else caissonlaw1_AddrParts.l0 k x8 l1 (wrap64 ((l2.length : Int) + (l3.length : Int))) 0 0) = _
  rw [if_neg (by simp), w64 (by omega) (by omega)]
theorem j1_yes (k : Nat) (x8 : Int) (l1 l2 l3 : List S35) (h : (l2.length : Int) + (l3.length : Int) ≤ 10000) : caissonlaw1_AddrParts.j1 (k + 2) x8 l1 l2 l3 true = caissonlaw1_AddrParts.l0 k x8 l1 ((l2.length : Int) + (l3.length : Int) - 1) 0 0 := by
  change (if true = true then caissonlaw1_AddrParts.l0 k x8 l1 (wrap64 (wrap64 ((l2.length : Int) + (l3.length : Int)) - 1)) 0 0 else caissonlaw1_AddrParts.j2 (k + 1) x8 l1 (wrap64 ((l2.length : Int) + (l3.length : Int)))) = _
  rw [if_pos rfl, w64 (n := (l2.length : Int) + (l3.length : Int)) (by omega) (by omega), w64 (n := (l2.length : Int) + (l3.length : Int) - 1) (by omega) (by omega)]
theorem fin_l0 (a m w : Int) (h1 : 0 ≤ a) (h2 : 0 ≤ m) (h3 : a + m ≤ 4096) (h4 : m ≤ 600) (hw : ((pcs 200 a m).length : Int) = w) : caissonlaw1_AddrParts.l0 197 m (pcs 200 a m) w 0 0 = some true := by
  have g1 : enough 200 a m := ⟨by omega, fun _ => by omega⟩
  have g4 : enough 100 a m := ⟨by omega, fun _ => by omega⟩
  have hs := pcs_same 200 100 a m h1 h2 g1 g4
  rw [hs] at hw ⊢
  exact sum_l0 m w 100 197 [] a m 0 h1 h2 h3 g4 (by omega) (by omega) (by omega) (by simp) (by simpa using hw) (by omega)
theorem arith_zero (a m c : Int) (h0 : 0 ≤ a) (h1 : 0 ≤ m) (h2 : 0 ≤ c) (h3 : c ≤ m) (h : (a + c) % 64 = 0 ∨ c = 0 ∨ c = m) : (if 0 < m then (a % 64 + m + 63) / 64 else 0) = (if 0 < c then (a % 64 + c + 63) / 64 else 0) + (if 0 < m - c then ((a + c) % 64 + (m - c) + 63) / 64 else 0) := by
  by_cases d1 : 0 < m <;> by_cases d2 : 0 < c <;> by_cases d3 : 0 < m - c <;> simp only [d1, d2, d3, if_true, if_false] <;> omega
theorem arith_one (a m c : Int) (h0 : 0 ≤ a) (h2 : 0 < c) (h3 : c < m) (h : (a + c) % 64 ≠ 0) : (if 0 < m then (a % 64 + m + 63) / 64 else 0) = (if 0 < c then (a % 64 + c + 63) / 64 else 0) + (if 0 < m - c then ((a + c) % 64 + (m - c) + 63) / 64 else 0) - 1 := by
  rw [if_pos (by omega), if_pos (by omega), if_pos (by omega)]
  omega
theorem core (a m c : Int) (h1 : 0 ≤ a) (h1b : a < 1024) (h2 : 0 ≤ m) (h2b : m < 512) (h3 : 0 ≤ c) (h4 : c ≤ m) : caissonlaw1_AddrParts.j0 200 a m c (pcs 200 a m) (pcs 200 a c) (pcs 200 (a + c) (m - c)) ((0 : Int) != 0) = some true := by
  have g1 : enough 200 a m := ⟨by omega, fun _ => by omega⟩
  have g2 : enough 200 a c := ⟨by omega, fun _ => by omega⟩
  have g3 : enough 200 (a + c) (m - c) := ⟨by omega, fun _ => by omega⟩
  have l1 := len_pcs 200 a m h1 h2 g1
  have l2 := len_pcs 200 a c h1 h3 g2
  have l3 := len_pcs 200 (a + c) (m - c) (by omega) (by omega) g3
  have b2 : ((pcs 200 a c).length : Int) ≤ 100 := by rw [l2]; split <;> omega
  have b3 : ((pcs 200 (a + c) (m - c)).length : Int) ≤ 100 := by rw [l3]; split <;> omega
  have et : Int.tmod (wrap64 (a + c)) 64 = (a + c) % 64 := by rw [w64 (by omega) (by omega)]; exact Int.tmod_eq_emod_of_nonneg (by omega)
  refine (j0_eq 199 a m c _ _ _).trans ?_
  rw [et]
  have no : ((a + c) % 64 = 0 ∨ c = 0 ∨ c = m) → caissonlaw1_AddrParts.j1 199 m (pcs 200 a m) (pcs 200 a c) (pcs 200 (a + c) (m - c)) false = some true := fun h =>
    (j1_no 197 m _ _ _ (by omega)).trans (fin_l0 a m _ h1 h2 (by omega) (by omega) (by rw [l1, l2, l3]; exact arith_zero a m c h1 h2 h3 h4 h))
  by_cases c1 : (a + c) % 64 = 0
  · rw [if_pos c1]; exact no (.inl c1)
  · rw [if_neg c1]
    by_cases c2 : c > 0
    · rw [if_pos c2]
      by_cases c3 : c < m
      · rw [decide_eq_true c3]
        exact (j1_yes 197 m _ _ _ (by omega)).trans (fin_l0 a m _ h1 h2 (by omega) (by omega) (by rw [l1, l2, l3]; exact arith_one a m c h1 c2 c3 c1))
      · rw [decide_eq_false c3]; exact no (.inr (.inr (by omega)))
    · rw [if_neg c2]; exact no (.inr (.inl (by omega)))
theorem AddrParts : caissonlaw1_AddrParts.Pure := by
  intro a0 a1 a2 _ _ _
  refine ⟨200, ?_⟩
  have e1 : Go.bits .and .i64 a0 1023 = a0 % 1024 := i64_mask 10 (by decide) a0
  have e2 : Go.bits .and .i64 a1 511 = a1 % 512 := i64_mask 9 (by decide) a1
  unfold caissonlaw1_AddrParts.f
  rw [awake_true, e1, e2]
  have h1 : 0 ≤ a0 % 1024 ∧ a0 % 1024 < 1024 := by omega
  have h2 : 0 ≤ a1 % 512 ∧ a1 % 512 < 512 := by omega
  generalize a0 % 1024 = a at *
  generalize a1 % 512 = m at *
  have e3 : wrap64 (m + 1) = m + 1 := w64 (by omega) (by omega)
  simp only [Option.bind_some, if_true]
  rw [e3, u64_of (by omega) (by omega), if_neg (by omega)]
  obtain ⟨q1, q2, q3⟩ := umod_pos a2 (m + 1) (by omega) (by omega)
  rw [q3]
  generalize (IntKind.u64.wrap a2).tmod (m + 1) = c at *
  have e4 : wrap64 (a + c) = a + c := w64 (by omega) (by omega)
  have e5 : wrap64 (m - c) = m - c := w64 (by omega) (by omega)
  rw [e4, e5]
  have g1 : enough 200 a m := ⟨by omega, fun _ => by omega⟩
  have g2 : enough 200 a c := ⟨by omega, fun _ => by omega⟩
  have g3 : enough 200 (a + c) (m - c) := ⟨by omega, fun _ => by omega⟩
  rw [split_f 200 a m h1.1 h2.1 (by omega) g1 (by omega), split_f 200 a c h1.1 q1 (by omega) g2 (by omega), split_f 200 (a + c) (m - c) (by omega) (by omega) (by omega) g3 (by omega)]
  simp only [Option.bind_some, caissonlaw0_Num.f, if_true]
  exact core a m c h1.1 h1.2 h2.1 h2.2 q1 (by omega)

end Go.Proofs.Ytnplemkacpljaaa.Pure
