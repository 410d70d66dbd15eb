/- The walk of caissonlaw20.NicLattice: for every list of labels and every two numbers it answers true. No condition. -/
import Derived.Test.YtkekeomkbcghnaaNicLattice6
import Derived.Test.YtkekeomkbcghnaaProg
namespace Go.Proofs.Ytkekeomkbcghnaa.nicLattice
open Go Go.Proofs Go.AE Go.RowKit
set_option maxRecDepth 100000
set_option linter.unusedVariables false
set_option linter.unusedSimpArgs false
theorem walk (a0 : Option Addr) (len cap : Nat) (zi : Nat → Nat → Int) (zs : Nat → Nat → ByteArray) (zb : Nat → Nat → Bool) (f t : Int) (w : World) (hin : IsIn 2 w a0 len cap (fun i => kv zi zs zb i [.int .i64, .int .i64] 0)) (hle : len ≤ cap) (hcm : cap ≤ maxLen)
    (hwf : ∀ i j, i < len → (∀ k, [Kd.int .i64, Kd.int .i64][j]? = some (.int k) → (Lit.int k (zi i j)).wf = true) ∧ ([Kd.int .i64, Kd.int .i64][j]? = some .str → (zs i j).size ≤ maxLen)) (wf : (Lit.int .i64 f).wf = true) (wt : (Lit.int .i64 t).wf = true) :
    Calls Try.prog 7 #[.slice a0 len cap, .int .i64 f, .int .i64 t] w fun e w' => e = .returned (.bool true) ∧ Below w.heap.size w w' := by
  unfold maxLen at hcm
  rcases hin with ⟨rfl, rfl⟩ | ⟨p, hp⟩
  · exact law_of [] (fun e h => by cases h) (VRs.cons (.z0 _) (VRs.cons (.int _ _) (VRs.cons (.int _ _) VRs.nil))) (scr_true pk okc (main_0_true_0 zi f t 0 0 ⟨0, 0, 0, 0⟩ rfl (loop_0_true zi f t _ _ (by omega) rfl)))
  · rcases (show min len 4 = 0 ∨ min len 4 = 1 ∨ min len 4 = 2 ∨ min len 4 = 3 ∨ min len 4 = 4 by omega) with hh | hh | hh | hh | hh
    · exact law_of [(p, _)] (fun e h => by simp at h; subst h; exact ⟨hp.br, rfl⟩) (VRs.cons (hp.vr rfl) (VRs.cons (.int _ _) (VRs.cons (.int _ _) VRs.nil))) (scr_true pk okc (main_0_false_0 zi f t len cap p hh (loop_0_false zi f t _ _ (by omega) hh)))
    · rcases (show f % 18446744073709551616 % 1 = 0 by omega) with hA
      · exact law_of [(p, _)] (fun e h => by simp at h; subst h; exact ⟨hp.br, rfl⟩) (VRs.cons (hp.vr rfl) (VRs.cons (.int _ _) (VRs.cons (.int _ _) VRs.nil))) (scr_true pk okc (main_1_false_0 zi f t len cap p hh (loop_1_false zi f t _ _ (by omega) hh) hA))
    · rcases (show f % 18446744073709551616 % 2 = 0 ∨ f % 18446744073709551616 % 2 = 1 by omega) with hA | hA
      · exact law_of [(p, _)] (fun e h => by simp at h; subst h; exact ⟨hp.br, rfl⟩) (VRs.cons (hp.vr rfl) (VRs.cons (.int _ _) (VRs.cons (.int _ _) VRs.nil))) (scr_true pk okc (main_2_false_0 zi f t len cap p hh (loop_2_false zi f t _ _ (by omega) hh) hA))
      · exact law_of [(p, _)] (fun e h => by simp at h; subst h; exact ⟨hp.br, rfl⟩) (VRs.cons (hp.vr rfl) (VRs.cons (.int _ _) (VRs.cons (.int _ _) VRs.nil))) (scr_true pk okc (main_2_false_1 zi f t len cap p hh (loop_2_false zi f t _ _ (by omega) hh) hA))
    · rcases (show f % 18446744073709551616 % 3 = 0 ∨ f % 18446744073709551616 % 3 = 1 ∨ f % 18446744073709551616 % 3 = 2 by omega) with hA | hA | hA
      · exact law_of [(p, _)] (fun e h => by simp at h; subst h; exact ⟨hp.br, rfl⟩) (VRs.cons (hp.vr rfl) (VRs.cons (.int _ _) (VRs.cons (.int _ _) VRs.nil))) (scr_true pk okc (main_3_false_0 zi f t len cap p hh (loop_3_false zi f t _ _ (by omega) hh) hA))
      · exact law_of [(p, _)] (fun e h => by simp at h; subst h; exact ⟨hp.br, rfl⟩) (VRs.cons (hp.vr rfl) (VRs.cons (.int _ _) (VRs.cons (.int _ _) VRs.nil))) (scr_true pk okc (main_3_false_1 zi f t len cap p hh (loop_3_false zi f t _ _ (by omega) hh) hA))
      · exact law_of [(p, _)] (fun e h => by simp at h; subst h; exact ⟨hp.br, rfl⟩) (VRs.cons (hp.vr rfl) (VRs.cons (.int _ _) (VRs.cons (.int _ _) VRs.nil))) (scr_true pk okc (main_3_false_2 zi f t len cap p hh (loop_3_false zi f t _ _ (by omega) hh) hA))
    · rcases (show f % 18446744073709551616 % 4 = 0 ∨ f % 18446744073709551616 % 4 = 1 ∨ f % 18446744073709551616 % 4 = 2 ∨ f % 18446744073709551616 % 4 = 3 by omega) with hA | hA | hA | hA
      · exact law_of [(p, _)] (fun e h => by simp at h; subst h; exact ⟨hp.br, rfl⟩) (VRs.cons (hp.vr rfl) (VRs.cons (.int _ _) (VRs.cons (.int _ _) VRs.nil))) (scr_true pk okc (main_4_false_0 zi f t len cap p hh (loop_4_false zi f t _ _ (by omega) hh) hA))
      · exact law_of [(p, _)] (fun e h => by simp at h; subst h; exact ⟨hp.br, rfl⟩) (VRs.cons (hp.vr rfl) (VRs.cons (.int _ _) (VRs.cons (.int _ _) VRs.nil))) (scr_true pk okc (main_4_false_1 zi f t len cap p hh (loop_4_false zi f t _ _ (by omega) hh) hA))
      · exact law_of [(p, _)] (fun e h => by simp at h; subst h; exact ⟨hp.br, rfl⟩) (VRs.cons (hp.vr rfl) (VRs.cons (.int _ _) (VRs.cons (.int _ _) VRs.nil))) (scr_true pk okc (main_4_false_2 zi f t len cap p hh (loop_4_false zi f t _ _ (by omega) hh) hA))
      · exact law_of [(p, _)] (fun e h => by simp at h; subst h; exact ⟨hp.br, rfl⟩) (VRs.cons (hp.vr rfl) (VRs.cons (.int _ _) (VRs.cons (.int _ _) VRs.nil))) (scr_true pk okc (main_4_false_3 zi f t len cap p hh (loop_4_false zi f t _ _ (by omega) hh) hA))
end Go.Proofs.Ytkekeomkbcghnaa.nicLattice