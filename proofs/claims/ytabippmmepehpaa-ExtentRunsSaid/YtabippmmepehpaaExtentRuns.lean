/- The walk of caissonlaw18.ExtentRuns: for every list of numbers and every three numbers it answers true. No condition. -/
import Derived.Test.YtabippmmepehpaaExtentRuns1
import Derived.Test.YtabippmmepehpaaExtentRuns2
import Derived.Test.YtabippmmepehpaaExtentRuns3
import Derived.Test.YtabippmmepehpaaExtentRuns4
import Derived.Test.YtabippmmepehpaaProg
namespace Go.Proofs.Ytabippmmepehpaa.extentRuns
open Go Go.Proofs Go.AE Go.RowKit
set_option maxRecDepth 100000
set_option linter.unusedVariables false
set_option linter.unusedSimpArgs false
theorem walk (a0 : Option Addr) (len cap : Nat) (zi : Nat → Nat → Int) (zs : Nat → Nat → ByteArray) (zb : Nat → Nat → Bool) (q a k : Int) (w : World) (hin : IsIn 1 w a0 len cap (fun i => kv zi zs zb i [.int .i64] 0)) (hle : len ≤ cap) (hcm : cap ≤ maxLen)
    (hwf : ∀ i j, i < len → (∀ k, [Kd.int .i64][j]? = some (.int k) → (Lit.int k (zi i j)).wf = true) ∧ ([Kd.int .i64][j]? = some .str → (zs i j).size ≤ maxLen)) (wq : (Lit.int .i64 q).wf = true) (wa : (Lit.int .i64 a).wf = true) (wk : (Lit.int .i64 k).wf = true) :
    Calls Try.prog 6 #[.slice a0 len cap, .int .i64 q, .int .i64 a, .int .i64 k] w fun e w' => e = .returned (.bool true) ∧ Below w.heap.size w w' := by
  unfold maxLen at hcm
  rcases hin with ⟨rfl, rfl⟩ | ⟨p, hp⟩
  · exact law_of [] (fun e h => by cases h) (VRs.cons (.z0 _) (VRs.cons (.int _ _) (VRs.cons (.int _ _) (VRs.cons (.int _ _) VRs.nil)))) (scr_true pk okc (main_0_true zi q a k 0 0 ⟨0, 0, 0, 0⟩ rfl (loop_0_true zi q a k _ _ (by omega) rfl)))
  · rcases (show min len 4 = 0 ∨ min len 4 = 1 ∨ min len 4 = 2 ∨ min len 4 = 3 ∨ min len 4 = 4 by omega) with hh | hh | hh | hh | hh
    · exact law_of [(p, _)] (fun e h => by simp at h; subst h; exact ⟨hp.br, rfl⟩) (VRs.cons (hp.vr rfl) (VRs.cons (.int _ _) (VRs.cons (.int _ _) (VRs.cons (.int _ _) VRs.nil)))) (scr_true pk okc (main_0_false zi q a k len cap p hh (loop_0_false zi q a k _ _ (by omega) hh)))
    · exact law_of [(p, _)] (fun e h => by simp at h; subst h; exact ⟨hp.br, rfl⟩) (VRs.cons (hp.vr rfl) (VRs.cons (.int _ _) (VRs.cons (.int _ _) (VRs.cons (.int _ _) VRs.nil)))) (scr_true pk okc (main_1_false zi q a k len cap p hh (loop_1_false zi q a k _ _ (by omega) hh) ⟨rfl, rfl, rfl, rfl, rfl⟩ (by have := PS_bd zi (Int.toNat (q % 18446744073709551616 % 1)); omega) (lb_1_23 zi q a k _ _ ⟨rfl, rfl, rfl, rfl, rfl⟩ (by have := PS_bd zi (Int.toNat (q % 18446744073709551616 % 1)); omega)) rfl))
    · exact law_of [(p, _)] (fun e h => by simp at h; subst h; exact ⟨hp.br, rfl⟩) (VRs.cons (hp.vr rfl) (VRs.cons (.int _ _) (VRs.cons (.int _ _) (VRs.cons (.int _ _) VRs.nil)))) (scr_true pk okc (main_2_false zi q a k len cap p hh (loop_2_false zi q a k _ _ (by omega) hh) ⟨rfl, rfl, rfl, rfl, rfl⟩ (by have := PS_bd zi (Int.toNat (q % 18446744073709551616 % 2)); omega) (lb_2_57 zi q a k _ _ ⟨rfl, rfl, rfl, rfl, rfl⟩ (by have := PS_bd zi (Int.toNat (q % 18446744073709551616 % 2)); omega)) rfl))
    · exact law_of [(p, _)] (fun e h => by simp at h; subst h; exact ⟨hp.br, rfl⟩) (VRs.cons (hp.vr rfl) (VRs.cons (.int _ _) (VRs.cons (.int _ _) (VRs.cons (.int _ _) VRs.nil)))) (scr_true pk okc (main_3_false zi q a k len cap p hh (loop_3_false zi q a k _ _ (by omega) hh) ⟨rfl, rfl, rfl, rfl, rfl⟩ (by have := PS_bd zi (Int.toNat (q % 18446744073709551616 % 3)); omega) (lb_3_103 zi q a k _ _ ⟨rfl, rfl, rfl, rfl, rfl⟩ (by have := PS_bd zi (Int.toNat (q % 18446744073709551616 % 3)); omega)) rfl))
    · exact law_of [(p, _)] (fun e h => by simp at h; subst h; exact ⟨hp.br, rfl⟩) (VRs.cons (hp.vr rfl) (VRs.cons (.int _ _) (VRs.cons (.int _ _) (VRs.cons (.int _ _) VRs.nil)))) (scr_true pk okc (main_4_false zi q a k len cap p hh (loop_4_false zi q a k _ _ (by omega) hh) ⟨rfl, rfl, rfl, rfl, rfl⟩ (by have := PS_bd zi (Int.toNat (q % 18446744073709551616 % 4)); omega) (lb_4_161 zi q a k _ _ ⟨rfl, rfl, rfl, rfl, rfl⟩ (by have := PS_bd zi (Int.toNat (q % 18446744073709551616 % 4)); omega)) rfl))
end Go.Proofs.Ytabippmmepehpaa.extentRuns