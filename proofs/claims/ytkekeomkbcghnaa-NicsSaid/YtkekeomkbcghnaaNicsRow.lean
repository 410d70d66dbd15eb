/- THE ROW of caissonlaw20.Nics over its walk, written by a small program of this claim's author. -/
import Derived.Test.YtkekeomkbcghnaaRows
import Derived.Test.YtkekeomkbcghnaaNics
import Derived.SizedLaws
import Derived.WalkKit
import Derived.ProofKit
import Derived.OpenShut
import Derived.ShutString
import Derived.Below
import Derived.Lib.SmallJoins
namespace Go.Proofs.Ytkekeomkbcghnaa.nics
open Go.ChangeShapes Go.WideShapes Go.ChangeAt Go.RowKit Go.Joins Go.AE
open Go.ChangeMaps (open_string shut_string)
set_option linter.unusedVariables false
theorem own : ownKnob Try.prog.godebug = none := by kernel_rfl
theorem laidOut : laidOutB Try.prog = true := by kernel_rfl
set_option maxRecDepth 100000 in
theorem lifted (os : Os) (started : os.Started) (H : Type) (enc : TypeId × Value → H) :
    ReturnsInHanded {} Try.checked os 3 .any (Rows.nicsSpec.pre6 enc Try.prog Try.f3 Rows.nicsRow.domain false) (Rows.nicsSpec.post enc Try.prog Try.f3 false true false false) := by
  refine returnsInHanded_of_change_sized (C := Try.checked) own started (by kernel_rfl) Try.func3
    (ChangeSpec.witness6 (enc := enc) (C := Try.checked) false ⟨#[], #[.slice none 0 0, .slice none 0 0], []⟩ 8 (by kernel_rfl) (by kernel_rfl) (by kernel_rfl) (by kernel_rfl)) ?_
  intro W base args ds gs before hval0 hW hcnd hsz _
  have hval : ∀ (j : Nat) t v, Try.f3.params[j]? = some t → args[j]? = some v → Value.okWide Try.prog W .any base t v := hval0
  have hW' := hW
  obtain ⟨p, q, hA0, hV, rfl, hfz, hnd⟩ := hW
  have hA : DataW.TrodAll enc Try.prog W 0 (fun _ => true) true Try.f3.params.toList args.toList ds p := hA0
  rw [Try.params3] at hA hval hsz
  obtain ⟨v0, vs0, d0, ds0, p0, q0, hargs, rfl, rfl, h0, r0⟩ := trodAll_cons hA
  obtain ⟨v1, vs1, d1, ds1, p1, q1, rfl, rfl, rfl, h1, r1⟩ := trodAll_cons r0
  obtain ⟨rfl, rfl, rfl⟩ := trodAll_nil r1
  obtain rfl : args = #[v0, v1] := by cases args; simp_all
  obtain ⟨rfl, rfl⟩ := trodVars_none hV
  obtain ⟨sz0, sz1⟩ : (d0.weights Try.prog 22).all (· ≤ reachBytes) = true ∧ (d1.weights Try.prog 23).all (· ≤ reachBytes) = true := by
    obtain ⟨s0, q0⟩ := Go.AE.weights_cons hsz
    obtain ⟨s1, q1⟩ := Go.AE.weights_cons q0
    exact ⟨s0, s1⟩
  have k0 := h0
  have lt0 : ∀ x ∈ p0, x.block < W.heap.size := by obtain ⟨m, hm⟩ := k0; exact DataW.trod_lt m _ _ _ hm
  obtain ⟨a0, len0, cap0, rfl⟩ := okWide_slice Try.underlying22 (hval 0 22 v0 rfl rfl)
  obtain ⟨zi0, zs0, zb0, in0, le0, cm0, wf0⟩ := Go.AE.in_slice [Kd.int .i64, Kd.int .i64] Try.underlying22 (by kernel_rfl) (by decide) (fun j hj => by match j, hj with | 0, _ => exact ⟨_, rfl, by kernel_rfl⟩ | 1, _ => exact ⟨_, rfl, by kernel_rfl⟩) rfl h0
  have by0 := Go.AE.trod_bytes (k := 16) Try.underlying22 (by kernel_rfl) sz0 h0
  have k1 := h1
  have lt1 : ∀ x ∈ p1, x.block < W.heap.size := by obtain ⟨m, hm⟩ := k1; exact DataW.trod_lt m _ _ _ hm
  obtain ⟨a1, len1, cap1, rfl⟩ := okWide_slice Try.underlying23 (hval 1 23 v1 rfl rfl)
  obtain ⟨zi1, zs1, zb1, in1, le1, cm1, wf1⟩ := Go.AE.in_slice [Kd.int .i64, Kd.int .i64, Kd.int .i64, Kd.str] Try.underlying23 (by kernel_rfl) (by decide) (fun j hj => by match j, hj with | 0, _ => exact ⟨_, rfl, by kernel_rfl⟩ | 1, _ => exact ⟨_, rfl, by kernel_rfl⟩ | 2, _ => exact ⟨_, rfl, by kernel_rfl⟩ | 3, _ => exact ⟨_, rfl, by kernel_rfl⟩) rfl h1
  have by1 := Go.AE.trod_bytes (k := 40) Try.underlying23 (by kernel_rfl) sz1 h1
  clear hA0 hval0
  refine (walk a0 len0 cap0 zi0 zs0 zb0 a1 len1 cap1 zi1 zs1 zb1 W in0 le0 cm0 wf0 by0 in1 le1 cm1 wf1 by1).mono fun e W' ⟨he, bel⟩ => ?_
  subst he
  exact ⟨_, rfl, _, _, _, [], _, [], hW', trodAll_mk1 (shut_bool Try.underlying4 _), (trodAll_cons_mk (Below.trod laidOut (by kernel_rfl) (of_decide_eq_true (by kernel_rfl)) k0 bel lt0) (trodAll_cons_mk (Below.trod laidOut (by kernel_rfl) (of_decide_eq_true (by kernel_rfl)) k1 bel lt1) trodAll_mk0)), rfl, bel.frame _, fun h => by cases h⟩
theorem over : Rows.nicsRow.holds Try.pinned (OpenSpec.ofChange Rows.nicsSpec) :=
  OpenClaim.holds_of_wide 3 Try.f3 rfl rfl rfl rfl rfl rfl rfl ⟨rfl, rfl, rfl, rfl, rfl⟩ rfl rfl rfl rfl rfl (by kernel_rfl) Try.func3 (by kernel_rfl)
    (of_decide_eq_true (by kernel_rfl)) (by unfold Func.isWrapper; first | (rw [if_pos (by decide +kernel)]; kernel_rfl) | (rw [if_neg (by decide +kernel)]; exact ⟨rfl, rfl⟩))
    (fun os started H enc _ => lifted os started H enc)
/-- THE STATEMENT. -/
theorem proved : Rows.NicsSaid := over
end Go.Proofs.Ytkekeomkbcghnaa.nics
