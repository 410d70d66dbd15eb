/- caissonlaw9.awake answers true. No condition. -/
import Derived.Test.YtjhaoimfgepkgaaLattice
import Derived.Test.YtjhaoimfgepkgaaNum
namespace Go.Proofs.Ytjhaoimfgepkgaa
open Go.RowKit

set_option maxHeartbeats 1000000 in
theorem awake_any (w : World) :
    Calls Try.prog 14 #[] w fun e w' => e = .returned (.bool true) ∧ Below w.heap.size w w' := by
  have j1 : joinV 2 5 3 2 = .tuple #[.agg #[.int .i64 3, .int .i64 7], .int .i64 0] := by kernel_rfl
  have j2 : joinV 2 5 4 0 = .tuple #[.agg #[.int .i64 0, .int .i64 0], .int .i64 900] := by kernel_rfl
  have d1 : domB 2 5 1 4 = true := by kernel_rfl
  have d2 : domB 1 4 2 5 = false := by kernel_rfl
  have d3 : domB 2 5 2 5 = true := by kernel_rfl
  have d4 : domB 2 5 0 2 = false := by kernel_rfl
  have m1 : mayB 2 5 = true := by kernel_rfl
  have m2 : mayB 0 16 = false := by kernel_rfl
  go_enter Try.func14, Try.ntmps14
  go_wp2_with fail
  refine (join_any _ _ _ _ _).mono ?_; rintro e w1 ⟨rfl, hb1⟩; obtain ⟨hc1, hf1⟩ := bcell hb1
  have hz1 := hb1.size; simp at hz1; have hs1 : w.heap.size < w1.heap.size := (by omega); have hs2 : w.heap.size + 1 < w1.heap.size := (by omega)
  go_wp2_with fail
  refine (join_any _ _ _ _ _).mono ?_; rintro e w2 ⟨rfl, hb2⟩; obtain ⟨hc2, hf2⟩ := bcell hb2
  have hz2 := hb2.size; simp at hz2; have hs3 : w.heap.size < w2.heap.size := (by omega); have hs4 : w.heap.size + 1 < w2.heap.size := (by omega); have hs5 : w1.heap.size < w2.heap.size := (by omega)
  go_wp2_with fail
  refine name_calls fun W hW => ?_
  have k0 : W.cell? ⟨w.heap.size, 0, none⟩ = some (.int .i64 2) := by rw [hW]; go_simp
  have k1 : W.cell? ⟨w.heap.size, 1, none⟩ = some (.int .i64 5) := by rw [hW]; go_simp
  have k2 : W.cell? ⟨w.heap.size + 1, 0, none⟩ = some (.int .i64 1) := by rw [hW]; go_simp
  have k3 : W.cell? ⟨w.heap.size + 1, 1, none⟩ = some (.int .i64 4) := by rw [hW]; go_simp
  have k4 : W.cell? ⟨w1.heap.size, 0, none⟩ = some (.int .i64 3) := by rw [hW]; go_simp
  have k5 : W.cell? ⟨w1.heap.size, 1, none⟩ = some (.int .i64 7) := by rw [hW]; go_simp
  have z0 : w.heap.size < W.heap.size := by rw [hW]; simp; omega
  have z1 : w.heap.size + 1 < W.heap.size := by rw [hW]; simp; omega
  have z2 : w1.heap.size < W.heap.size := by rw [hW]; simp; omega
  have hB : Below w.heap.size w W := by
    rw [hW]
    repeat (first | exact Below.refl _ _ | (refine Below.alloc ?_ (by first | omega | (simp; omega) | simp) _) | (refine bthen (by assumption) ?_ (by first | omega | (simp; omega) | simp)))
  clear hW hs1 hs2 hs3 hs4 hs5 hz1 hz2 hc1 hc2 hf1 hf2 hb1 hb2
  have hS := startS W
  go_wp2_with (first
    | (go_at_call 9; refine (num_any _ _).mono ?_; rintro e w3 ⟨rfl, rfl⟩)
    | (go_at_call 10; refine (dom_any _ _ _ _ _).mono ?_; rintro e w3 ⟨rfl, hb⟩; replace hS := keepS hS hb; clear hb; obtain ⟨hc, hB3⟩ := hS; have hS := And.intro hc hB3)
    | (go_at_call 12; refine (may_any _ _ _).mono ?_; rintro e w3 ⟨rfl, hb⟩; replace hS := keepS hS hb; clear hb; obtain ⟨hc, hB3⟩ := hS; have hS := And.intro hc hB3))
  go_returns
  exact ⟨rfl, bthen hB3 hB (by omega)⟩

end Go.Proofs.Ytjhaoimfgepkgaa
