/- The walk of caissonlaw19.DiskShares: for every shares, two numbers and every text it answers true. No condition. -/
import Derived.Test.YthnaenfonolmaaaDskS
namespace Go.Proofs.Ythnaenfonolmaaa.diskShares
open Go Go.Proofs Go.AE Go.RowKit dk
set_option maxRecDepth 100000
set_option linter.unusedVariables false
set_option linter.unusedSimpArgs false
theorem ap_of {z : Nat → Nat → Int} {i j : Nat} (hi : 0 ≤ z i 3 ∧ 0 ≤ z i 4 ∧ z i 3 + z i 4 ≤ 64) (hj : 0 ≤ z j 3 ∧ 0 ≤ z j 4 ∧ z j 3 + z j 4 ≤ 64) (h : apZ (fun k m => gi (rI z k) m) i j = true) : z i 4 = 0 ∨ z j 4 = 0 ∨ z i 3 + z i 4 ≤ z j 3 ∨ z j 3 + z j 4 ≤ z i 3 := by
  have g : (decide (z i 4 = 0) || (decide (z j 4 = 0) || (decide (IntKind.wrap .i64 (z i 3 + z i 4) ≤ z j 3) || decide (IntKind.wrap .i64 (z j 3 + z j 4) ≤ z i 3)))) = true := h
  rw [wrap_id (by omega) (by omega), wrap_id (by omega) (by omega)] at g
  simpa only [Bool.or_eq_true, decide_eq_true_eq] using g
theorem walk (a : Option Addr) (len cap : Nat) (zi : Nat → Nat → Int) (zs : Nat → Nat → ByteArray) (zb : Nat → Nat → Bool) (part lba : Int) (text : ByteArray) (w : World) (hin : IsIn 5 w a len cap (fun i => kv zi zs zb i [.int .i64, .int .i64, .opq, .int .i64, .int .i64] 0)) (hle : len ≤ cap) (hcm : cap ≤ maxLen)
    (hwf : ∀ i j, i < len → (∀ k, [Kd.int .i64, Kd.int .i64, Kd.opq, Kd.int .i64, Kd.int .i64][j]? = some (.int k) → (Lit.int k (zi i j)).wf = true) ∧ ([Kd.int .i64, Kd.int .i64, Kd.opq, Kd.int .i64, Kd.int .i64][j]? = some .str → (zs i j).size ≤ maxLen)) (hby : cap * 56 ≤ 140737488351232) (wp : (Lit.int .i64 part).wf = true) (wl : (Lit.int .i64 lba).wf = true) (wt : text.size ≤ maxLen) (ht : text.size ≤ 140737488351232) :
    Calls Try.prog 7 #[.slice a len cap, .int .i64 part, .int .i64 lba, .string text] w fun e w' => e = .returned (.bool true) ∧ Below w.heap.size w w' := by
  obtain ⟨p, hp, hv⟩ := in_any hin hle
  unfold maxLen at hcm
  refine law_of [(p, _)] (fun e h => by simp at h; subst h; exact ⟨hp, rfl⟩) (VRs.cons (hv _ 0 rfl) (VRs.cons (.int _ _) (VRs.cons (.int _ _) (VRs.cons (.str _) VRs.nil)))) (scr_true pk okc ?_)
  cases hM : mayZ (fun k m => gi (rI zi k) m) len 64 with
  | false => exact main_n zi len part lba text p (by omega) hM
  | true =>
    obtain ⟨h1, h4, hbd, hapz⟩ := of_decide_eq_true hM
    have hz : ∀ i, i < len → 0 ≤ zi i 3 ∧ 0 ≤ zi i 4 ∧ zi i 3 + zi i 4 ≤ 64 := fun i hi => by
      have g : 0 ≤ zi i 3 ∧ 0 ≤ zi i 4 ∧ zi i 3 ≤ 64 ∧ zi i 4 ≤ 64 - zi i 3 := hbd i hi
      omega
    have hd : ∀ x : Int, 0 ≤ IntKind.wrap .u64 x := fun x => by rw [wrap_u64]; omega
    have r0 := Int.emod_nonneg (IntKind.wrap .u64 part) (show (len : Int) ≠ 0 by omega)
    have r1 := Int.emod_lt_of_pos (IntKind.wrap .u64 part) (show (0 : Int) < len by omega)
    obtain ⟨P, hPe⟩ : ∃ P : Nat, IntKind.wrap .u64 part % (len : Int) = (P : Int) := ⟨Int.toNat (IntKind.wrap .u64 part % (len : Int)), by omega⟩
    have hP : P < len := by omega
    have hap : ∀ q, q < len → ¬ q = P → zi q 4 = 0 ∨ zi P 4 = 0 ∨ zi q 3 + zi q 4 ≤ zi P 3 ∨ zi P 3 + zi P 4 ≤ zi q 3 := fun q hq hne => by
      rcases Nat.lt_or_ge q P with g | g
      · have := ap_of (hz P hP) (hz q hq) (hapz P hP q g); omega
      · exact ap_of (hz q hq) (hz P hP) (hapz q hq P (by omega))
    have hM' : mayZ (fun k m => gi (rP zi k) m) len 64 = true := hM
    have zP := hz P hP
    have hk : ¬ zi P 4 = 0 → Int.tmod (IntKind.wrap .u64 lba) (zi P 4) = IntKind.wrap .u64 lba % zi P 4 ∧ 0 ≤ IntKind.wrap .u64 lba % zi P 4 ∧ IntKind.wrap .u64 lba % zi P 4 < zi P 4 := fun g => ⟨tmod_nn (hd _), Int.emod_nonneg _ g, Int.emod_lt_of_pos _ (by omega)⟩
    have hk0 : 0 ≤ IntKind.wrap .u64 lba % zi P 4 := by
      by_cases g : zi P 4 = 0
      · rw [g, Int.emod_zero]; exact hd _
      · exact (hk g).2.1
    refine main zi (BB (ByteArray.extract (text ++ (ByteArray.mk #[35, 35, 35, 35, 35, 35, 35, 35, 35, 35, 35, 35, 35, 35, 35, 35])) 0 16) (Int.toNat ((zi P 3 + IntKind.wrap .u64 lba % zi P 4) * 16))) len part lba text p hM h1 h4 P hP hM' ((tmod_nn (hd _)).trans hPe) ht hz zP (IntKind.wrap .u64 lba % zi P 4) hk ?_ ?_ (lN zi len h4) (fun g => loopL zi len P _ _ _ (sz16 text) h4 hP (hk g).2 hM' hz hap ?_ ?_)
    · intro x hx; exact if_neg (by omega)
    · intro j x hj hx; exact (if_pos (by omega)).trans (by congr 1; omega)
    · intro x hx; exact if_neg (by omega)
    · intro j x hj hx; exact (if_pos (by omega)).trans (by congr 1; omega)
end Go.Proofs.Ythnaenfonolmaaa.diskShares
