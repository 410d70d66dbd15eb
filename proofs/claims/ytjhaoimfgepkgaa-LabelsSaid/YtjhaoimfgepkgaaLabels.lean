/- The walk of caissonlaw9.Labels: for every two labels it answers true. No condition. -/
import Derived.Test.YtjhaoimfgepkgaaLattice
import Derived.Test.YtjhaoimfgepkgaaNum
import Derived.Test.YtjhaoimfgepkgaaAwakeNine
namespace Go.Proofs.Ytjhaoimfgepkgaa.labels
open Go.RowKit

theorem fin_and : ∀ c d : Fin 16, (bits .andNot .i64 (d.val : Int) (c.val : Int) == 0) = (bits .and .i64 (c.val : Int) (d.val : Int) == (d.val : Int)) := by decide +kernel

theorem dom_same (l c m d : Int) : domB l c m d = rdomB l c m d := by
  unfold domB rdomB
  cases h1 : mayB l c with
  | false => simp
  | true =>
    cases h2 : mayB m d with
    | false => simp
    | true =>
      simp only [mayB, decide_eq_true_eq] at h1 h2
      obtain ⟨_, _, h3, h4⟩ := h1
      obtain ⟨_, _, h5, h6⟩ := h2
      obtain ⟨x, rfl⟩ := Int.eq_ofNat_of_zero_le h3
      obtain ⟨y, rfl⟩ := Int.eq_ofNat_of_zero_le h5
      have := fin_and ⟨x, by omega⟩ ⟨y, by omega⟩
      simp only at this
      rw [this]

set_option maxHeartbeats 1000000 in
theorem walk1 (l c m d x y z : Int) (w : World) (hd : domB l c m d = rdomB l c m d) (hj : joinV l c m d = .tuple #[.agg #[.int .i64 x, .int .i64 y], .int .i64 z]) :
    Calls Try.prog 3 #[.agg #[.int .i64 l, .int .i64 c], .agg #[.int .i64 m, .int .i64 d]] w fun e w' => e = .returned (.bool true) ∧ Below w.heap.size w w' := by
  go_enter Try.func3, Try.ntmps3
  go_wp2_with fail
  refine (join_any _ _ _ _ _).mono ?_; rintro e w1 ⟨rfl, hb1⟩; obtain ⟨hc1, hf1⟩ := bcell hb1; rw [hj]
  have hz1 := hb1.size; simp at hz1; have hs1 : w.heap.size < w1.heap.size := (by omega); have hs2 : w.heap.size + 1 < w1.heap.size := (by omega)
  go_wp2_with fail
  refine (rjoin_any _ _ _ _ _).mono ?_; rintro e w2 ⟨rfl, hb2⟩; obtain ⟨hc2, hf2⟩ := bcell hb2; rw [hj]
  have hz2 := hb2.size; simp at hz2; have hs3 : w.heap.size < w2.heap.size := (by omega); have hs4 : w.heap.size + 1 < w2.heap.size := (by omega); have hs5 : w1.heap.size < w2.heap.size := (by omega)
  go_wp2_with fail
  refine name_world fun W hW => ?_
  have k0 : W.cell? ⟨w.heap.size, 0, none⟩ = some (.int .i64 l) := by rw [hW]; go_simp
  have k1 : W.cell? ⟨w.heap.size, 1, none⟩ = some (.int .i64 c) := by rw [hW]; go_simp
  have k2 : W.cell? ⟨w.heap.size + 1, 0, none⟩ = some (.int .i64 m) := by rw [hW]; go_simp
  have k3 : W.cell? ⟨w.heap.size + 1, 1, none⟩ = some (.int .i64 d) := by rw [hW]; go_simp
  have k4 : W.cell? ⟨w1.heap.size, 0, none⟩ = some (.int .i64 x) := by rw [hW]; go_simp
  have k5 : W.cell? ⟨w1.heap.size, 1, none⟩ = some (.int .i64 y) := by rw [hW]; go_simp
  have k6 : W.cell? ⟨w2.heap.size, 0, none⟩ = some (.int .i64 x) := by rw [hW]; go_simp
  have k7 : W.cell? ⟨w2.heap.size, 1, none⟩ = some (.int .i64 y) := by rw [hW]; go_simp
  have hB : Below w.heap.size w W := by
    rw [hW]
    repeat (first | exact Below.refl _ _ | (refine Below.alloc ?_ (by first | omega | (simp; omega) | simp) _) | (refine bthen (by assumption) ?_ (by first | omega | (simp; omega) | simp)))
  have z0 : w.heap.size < W.heap.size := by rw [hW]; simp; omega
  have z1 : w.heap.size + 1 < W.heap.size := by rw [hW]; simp; omega
  have z2 : w1.heap.size < W.heap.size := by rw [hW]; simp; omega
  have z3 : w2.heap.size < W.heap.size := by rw [hW]; simp
  clear hW hs1 hs2 hs3 hs4 hs5 hz1 hc1 hf1 hz2 hc2 hf2 hb1 hb2
  have hS := startS W
  go_region_held3 (fun w' => (∀ b o, b < W.heap.size → w'.cell? ⟨b, o, none⟩ = W.cell? ⟨b, o, none⟩) ∧ Below W.heap.size W w')
    (first | exact startSd W | assumption | exact keepS (by assumption) (by assumption))
    (first
      | (go_at_call 9; refine (num_any _ _).mono ?_; rintro e w3 ⟨rfl, rfl⟩)
      | (go_at_call 10; refine (dom_any _ _ _ _ _).mono ?_; rintro e w3 ⟨rfl, hb3⟩)
      | (go_at_call 11; refine (rdom_any _ _ _ _ _).mono ?_; rintro e w3 ⟨rfl, hb3⟩)
      | (go_at_call 12; refine (may_any _ _ _).mono ?_; rintro e w3 ⟨rfl, hb3⟩)
      | (go_at_call 13; refine (rmay_any _ _ _).mono ?_; rintro e w3 ⟨rfl, hb3⟩)
      | (go_at_call 14; refine (awake_any _).mono ?_; rintro e w3 ⟨rfl, hb3⟩))
  rename_i hHeld
  go_wp2
  go_returns
  exact ⟨rfl, bthen hHeld.2 hB (by omega)⟩

theorem walk (l c m d : Int) (w : World) (_ : (Lit.int .i64 l).wf = true) (_ : (Lit.int .i64 c).wf = true) (_ : (Lit.int .i64 m).wf = true) (_ : (Lit.int .i64 d).wf = true) :
    Calls Try.prog 3 #[.agg #[.int .i64 l, .int .i64 c], .agg #[.int .i64 m, .int .i64 d]] w fun e w' => e = .returned (.bool true) ∧ Below w.heap.size w w' := by
  by_cases h : (mayB l c && mayB m d) = true
  · exact walk1 l c m d (max l m) (bits .or .i64 c d) 0 w (dom_same l c m d) (by simp [joinV, h])
  · exact walk1 l c m d 0 0 900 w (dom_same l c m d) (by simp [joinV, h])
end Go.Proofs.Ytjhaoimfgepkgaa.labels
