/- The walk of caissonlaw9.LabelForms: for every two numbers it answers true. No condition. -/
import Derived.Test.YtjhaoimfgepkgaaLattice
import Derived.Test.YtjhaoimfgepkgaaNum
import Derived.Test.YtjhaoimfgepkgaaBits
import Derived.Test.YtjhaoimfgepkgaaAwakeNine
namespace Go.Proofs.Ytjhaoimfgepkgaa.labelForms
open Go.RowKit
set_option linter.unusedVariables false

set_option maxHeartbeats 4000000 in
theorem walk0 (which x d : Int) (w : World) (hx : bits .and .i64 x 1023 = d) (h0 : 0 ≤ d) (h1 : d ≤ 1023) (hi : (IntKind.u64.wrap which).tmod 4 = 0) :
    Calls Try.prog 5 #[.int .i64 which, .int .i64 x] w fun e w' => e = .returned (.bool true) ∧ Below w.heap.size w w' := by
  have m1 : mayB (3 + (1 + d)) (0) = false := by simp [mayB]; omega
  have m2 : mayB 3 15 = true := by kernel_rfl
  have m3 : mayB 0 0 = true := by kernel_rfl
  have j1 : joinV 3 15 (3 + (1 + d)) (0) = .tuple #[.agg #[.int .i64 0, .int .i64 0], .int .i64 900] := by simp [joinV, m1]
  have j2 : joinV (3 + (1 + d)) (0) 3 15 = .tuple #[.agg #[.int .i64 0, .int .i64 0], .int .i64 900] := by simp [joinV, m1]
  have j3 : joinV 3 15 0 0 = .tuple #[.agg #[.int .i64 3, .int .i64 15], .int .i64 0] := by kernel_rfl
  have d1 : domB 3 15 (3 + (1 + d)) (0) = false := by simp [domB, m1]
  have d2 : domB (3 + (1 + d)) (0) 0 0 = false := by simp [domB, m1]
  have d3 : domB (3 + (1 + d)) (0) (3 + (1 + d)) (0) = false := by simp [domB, m1]
  go_enter Try.func5, Try.ntmps5
  go_wp2_with fail
  refine (awake_any _).mono ?_; rintro e w1 ⟨rfl, hbw1⟩
  have hzw1 := hbw1.size; (try simp at hzw1)
  have hBw1 : Below w.heap.size w w1 := by
    refine bthen hbw1 ?_ (by first | omega | (simp; omega) | simp)
    repeat (first | exact Below.refl _ _ | (with_reducible assumption) | (refine Below.drew ?_) | (refine Below.setCell ?_ (by first | omega | (simp; omega) | simp) _) | (refine Below.alloc ?_ (by first | omega | (simp; omega) | simp) _) | (refine bthen (by assumption) ?_ (by first | omega | (simp; omega) | simp)))
  have hvw1 := hBw1.size
  clear hbw1
  go_wp2_with fail
  refine (join_any _ _ _ _ _).mono ?_; rintro e w2 ⟨rfl, hbw2⟩
  have hzw2 := hbw2.size; (try simp at hzw2)
  have kw2_0_0 : w2.cell? ⟨w1.heap.size, 0, none⟩ = some (.int .i64 3) := (hbw2.cell (p := ⟨w1.heap.size, 0, none⟩) (by first | omega | (simp; omega) | simp)).trans (by first | (go_simp; done) | ((repeat rw [cell_al (by first | omega | (simp; omega) | simp)]); first | assumption | (go_simp; done)))
  have kw2_0_1 : w2.cell? ⟨w1.heap.size, 1, none⟩ = some (.int .i64 15) := (hbw2.cell (p := ⟨w1.heap.size, 1, none⟩) (by first | omega | (simp; omega) | simp)).trans (by first | (go_simp; done) | ((repeat rw [cell_al (by first | omega | (simp; omega) | simp)]); first | assumption | (go_simp; done)))
  have hsw2_0 : w1.heap.size < w2.heap.size := (by omega)
  have kw2_1_0 : w2.cell? ⟨w1.heap.size + 1 + 1, 0, none⟩ = some (.int .i64 (3 + (1 + d))) := (hbw2.cell (p := ⟨w1.heap.size + 1 + 1, 0, none⟩) (by first | omega | (simp; omega) | simp)).trans (by first | (go_simp; done) | ((repeat rw [cell_al (by first | omega | (simp; omega) | simp)]); first | assumption | (go_simp; done)))
  have kw2_1_1 : w2.cell? ⟨w1.heap.size + 1 + 1, 1, none⟩ = some (.int .i64 (0)) := (hbw2.cell (p := ⟨w1.heap.size + 1 + 1, 1, none⟩) (by first | omega | (simp; omega) | simp)).trans (by first | (go_simp; done) | ((repeat rw [cell_al (by first | omega | (simp; omega) | simp)]); first | assumption | (go_simp; done)))
  have hsw2_1 : w1.heap.size + 1 + 1 < w2.heap.size := (by omega)
  have hBw2 : Below w.heap.size w w2 := by
    refine bthen hbw2 ?_ (by first | omega | (simp; omega) | simp)
    repeat (first | exact Below.refl _ _ | (with_reducible assumption) | (refine Below.drew ?_) | (refine Below.setCell ?_ (by first | omega | (simp; omega) | simp) _) | (refine Below.alloc ?_ (by first | omega | (simp; omega) | simp) _) | (refine bthen (by assumption) ?_ (by first | omega | (simp; omega) | simp)))
  have hvw2 := hBw2.size
  clear hBw1 hvw1 hzw1
  clear hbw2
  rw [j1]
  go_wp2_with fail
  refine (join_any _ _ _ _ _).mono ?_; rintro e w3 ⟨rfl, hbw3⟩
  have hzw3 := hbw3.size; (try simp at hzw3)
  have kw3_0_0 : w3.cell? ⟨w1.heap.size, 0, none⟩ = some (.int .i64 3) := (hbw3.cell (p := ⟨w1.heap.size, 0, none⟩) (by first | omega | (simp; omega) | simp)).trans (by first | (go_simp; done) | ((repeat rw [cell_al (by first | omega | (simp; omega) | simp)]); first | assumption | (go_simp; done)))
  have kw3_0_1 : w3.cell? ⟨w1.heap.size, 1, none⟩ = some (.int .i64 15) := (hbw3.cell (p := ⟨w1.heap.size, 1, none⟩) (by first | omega | (simp; omega) | simp)).trans (by first | (go_simp; done) | ((repeat rw [cell_al (by first | omega | (simp; omega) | simp)]); first | assumption | (go_simp; done)))
  have hsw3_0 : w1.heap.size < w3.heap.size := (by omega)
  have kw3_1_0 : w3.cell? ⟨w1.heap.size + 1 + 1, 0, none⟩ = some (.int .i64 (3 + (1 + d))) := (hbw3.cell (p := ⟨w1.heap.size + 1 + 1, 0, none⟩) (by first | omega | (simp; omega) | simp)).trans (by first | (go_simp; done) | ((repeat rw [cell_al (by first | omega | (simp; omega) | simp)]); first | assumption | (go_simp; done)))
  have kw3_1_1 : w3.cell? ⟨w1.heap.size + 1 + 1, 1, none⟩ = some (.int .i64 (0)) := (hbw3.cell (p := ⟨w1.heap.size + 1 + 1, 1, none⟩) (by first | omega | (simp; omega) | simp)).trans (by first | (go_simp; done) | ((repeat rw [cell_al (by first | omega | (simp; omega) | simp)]); first | assumption | (go_simp; done)))
  have hsw3_1 : w1.heap.size + 1 + 1 < w3.heap.size := (by omega)
  have kw3_2_0 : w3.cell? ⟨w2.heap.size, 0, none⟩ = some (.int .i64 0) := (hbw3.cell (p := ⟨w2.heap.size, 0, none⟩) (by first | omega | (simp; omega) | simp)).trans (by first | (go_simp; done) | ((repeat rw [cell_al (by first | omega | (simp; omega) | simp)]); first | assumption | (go_simp; done)))
  have kw3_2_1 : w3.cell? ⟨w2.heap.size, 1, none⟩ = some (.int .i64 0) := (hbw3.cell (p := ⟨w2.heap.size, 1, none⟩) (by first | omega | (simp; omega) | simp)).trans (by first | (go_simp; done) | ((repeat rw [cell_al (by first | omega | (simp; omega) | simp)]); first | assumption | (go_simp; done)))
  have hsw3_2 : w2.heap.size < w3.heap.size := (by omega)
  have hBw3 : Below w.heap.size w w3 := by
    refine bthen hbw3 ?_ (by first | omega | (simp; omega) | simp)
    repeat (first | exact Below.refl _ _ | (with_reducible assumption) | (refine Below.drew ?_) | (refine Below.setCell ?_ (by first | omega | (simp; omega) | simp) _) | (refine Below.alloc ?_ (by first | omega | (simp; omega) | simp) _) | (refine bthen (by assumption) ?_ (by first | omega | (simp; omega) | simp)))
  have hvw3 := hBw3.size
  clear kw2_0_0 kw2_0_1 hsw2_0 kw2_1_0 kw2_1_1 hsw2_1 hBw2 hvw2 hzw2
  clear hbw3
  rw [j2]
  go_wp2_with fail
  refine (join_any _ _ _ _ _).mono ?_; rintro e w4 ⟨rfl, hbw4⟩
  have hzw4 := hbw4.size; (try simp at hzw4)
  have kw4_0_0 : w4.cell? ⟨w1.heap.size, 0, none⟩ = some (.int .i64 3) := (hbw4.cell (p := ⟨w1.heap.size, 0, none⟩) (by first | omega | (simp; omega) | simp)).trans (by first | (go_simp; done) | ((repeat rw [cell_al (by first | omega | (simp; omega) | simp)]); first | assumption | (go_simp; done)))
  have kw4_0_1 : w4.cell? ⟨w1.heap.size, 1, none⟩ = some (.int .i64 15) := (hbw4.cell (p := ⟨w1.heap.size, 1, none⟩) (by first | omega | (simp; omega) | simp)).trans (by first | (go_simp; done) | ((repeat rw [cell_al (by first | omega | (simp; omega) | simp)]); first | assumption | (go_simp; done)))
  have hsw4_0 : w1.heap.size < w4.heap.size := (by omega)
  have kw4_1_0 : w4.cell? ⟨w1.heap.size + 1 + 1, 0, none⟩ = some (.int .i64 (3 + (1 + d))) := (hbw4.cell (p := ⟨w1.heap.size + 1 + 1, 0, none⟩) (by first | omega | (simp; omega) | simp)).trans (by first | (go_simp; done) | ((repeat rw [cell_al (by first | omega | (simp; omega) | simp)]); first | assumption | (go_simp; done)))
  have kw4_1_1 : w4.cell? ⟨w1.heap.size + 1 + 1, 1, none⟩ = some (.int .i64 (0)) := (hbw4.cell (p := ⟨w1.heap.size + 1 + 1, 1, none⟩) (by first | omega | (simp; omega) | simp)).trans (by first | (go_simp; done) | ((repeat rw [cell_al (by first | omega | (simp; omega) | simp)]); first | assumption | (go_simp; done)))
  have hsw4_1 : w1.heap.size + 1 + 1 < w4.heap.size := (by omega)
  have kw4_2_0 : w4.cell? ⟨w2.heap.size, 0, none⟩ = some (.int .i64 0) := (hbw4.cell (p := ⟨w2.heap.size, 0, none⟩) (by first | omega | (simp; omega) | simp)).trans (by first | (go_simp; done) | ((repeat rw [cell_al (by first | omega | (simp; omega) | simp)]); first | assumption | (go_simp; done)))
  have kw4_2_1 : w4.cell? ⟨w2.heap.size, 1, none⟩ = some (.int .i64 0) := (hbw4.cell (p := ⟨w2.heap.size, 1, none⟩) (by first | omega | (simp; omega) | simp)).trans (by first | (go_simp; done) | ((repeat rw [cell_al (by first | omega | (simp; omega) | simp)]); first | assumption | (go_simp; done)))
  have hsw4_2 : w2.heap.size < w4.heap.size := (by omega)
  have kw4_3_0 : w4.cell? ⟨w3.heap.size, 0, none⟩ = some (.int .i64 0) := (hbw4.cell (p := ⟨w3.heap.size, 0, none⟩) (by first | omega | (simp; omega) | simp)).trans (by first | (go_simp; done) | ((repeat rw [cell_al (by first | omega | (simp; omega) | simp)]); first | assumption | (go_simp; done)))
  have kw4_3_1 : w4.cell? ⟨w3.heap.size, 1, none⟩ = some (.int .i64 0) := (hbw4.cell (p := ⟨w3.heap.size, 1, none⟩) (by first | omega | (simp; omega) | simp)).trans (by first | (go_simp; done) | ((repeat rw [cell_al (by first | omega | (simp; omega) | simp)]); first | assumption | (go_simp; done)))
  have hsw4_3 : w3.heap.size < w4.heap.size := (by omega)
  have hBw4 : Below w.heap.size w w4 := by
    refine bthen hbw4 ?_ (by first | omega | (simp; omega) | simp)
    repeat (first | exact Below.refl _ _ | (with_reducible assumption) | (refine Below.drew ?_) | (refine Below.setCell ?_ (by first | omega | (simp; omega) | simp) _) | (refine Below.alloc ?_ (by first | omega | (simp; omega) | simp) _) | (refine bthen (by assumption) ?_ (by first | omega | (simp; omega) | simp)))
  have hvw4 := hBw4.size
  clear kw3_0_0 kw3_0_1 hsw3_0 kw3_1_0 kw3_1_1 hsw3_1 kw3_2_0 kw3_2_1 hsw3_2 hBw3 hvw3 hzw3
  clear hbw4
  rw [j3]
  go_wp2_with fail
  refine name_calls fun W hW => ?_
  have kW_0_0 : W.cell? ⟨w1.heap.size, 0, none⟩ = some (.int .i64 3) := by rw [hW]; exact (by first | (go_simp; done) | ((repeat rw [cell_al (by first | omega | (simp; omega) | simp)]); first | assumption | (go_simp; done)))
  have kW_0_1 : W.cell? ⟨w1.heap.size, 1, none⟩ = some (.int .i64 15) := by rw [hW]; exact (by first | (go_simp; done) | ((repeat rw [cell_al (by first | omega | (simp; omega) | simp)]); first | assumption | (go_simp; done)))
  have zW_0 : w1.heap.size < W.heap.size := by rw [hW]; first | omega | (simp; omega) | simp
  have kW_1_0 : W.cell? ⟨w1.heap.size + 1 + 1, 0, none⟩ = some (.int .i64 (3 + (1 + d))) := by rw [hW]; exact (by first | (go_simp; done) | ((repeat rw [cell_al (by first | omega | (simp; omega) | simp)]); first | assumption | (go_simp; done)))
  have kW_1_1 : W.cell? ⟨w1.heap.size + 1 + 1, 1, none⟩ = some (.int .i64 (0)) := by rw [hW]; exact (by first | (go_simp; done) | ((repeat rw [cell_al (by first | omega | (simp; omega) | simp)]); first | assumption | (go_simp; done)))
  have zW_1 : w1.heap.size + 1 + 1 < W.heap.size := by rw [hW]; first | omega | (simp; omega) | simp
  have kW_2_0 : W.cell? ⟨w2.heap.size, 0, none⟩ = some (.int .i64 0) := by rw [hW]; exact (by first | (go_simp; done) | ((repeat rw [cell_al (by first | omega | (simp; omega) | simp)]); first | assumption | (go_simp; done)))
  have kW_2_1 : W.cell? ⟨w2.heap.size, 1, none⟩ = some (.int .i64 0) := by rw [hW]; exact (by first | (go_simp; done) | ((repeat rw [cell_al (by first | omega | (simp; omega) | simp)]); first | assumption | (go_simp; done)))
  have zW_2 : w2.heap.size < W.heap.size := by rw [hW]; first | omega | (simp; omega) | simp
  have kW_3_0 : W.cell? ⟨w3.heap.size, 0, none⟩ = some (.int .i64 0) := by rw [hW]; exact (by first | (go_simp; done) | ((repeat rw [cell_al (by first | omega | (simp; omega) | simp)]); first | assumption | (go_simp; done)))
  have kW_3_1 : W.cell? ⟨w3.heap.size, 1, none⟩ = some (.int .i64 0) := by rw [hW]; exact (by first | (go_simp; done) | ((repeat rw [cell_al (by first | omega | (simp; omega) | simp)]); first | assumption | (go_simp; done)))
  have zW_3 : w3.heap.size < W.heap.size := by rw [hW]; first | omega | (simp; omega) | simp
  have kW_4_0 : W.cell? ⟨w4.heap.size, 0, none⟩ = some (.int .i64 3) := by rw [hW]; exact (by first | (go_simp; done) | ((repeat rw [cell_al (by first | omega | (simp; omega) | simp)]); first | assumption | (go_simp; done)))
  have kW_4_1 : W.cell? ⟨w4.heap.size, 1, none⟩ = some (.int .i64 15) := by rw [hW]; exact (by first | (go_simp; done) | ((repeat rw [cell_al (by first | omega | (simp; omega) | simp)]); first | assumption | (go_simp; done)))
  have zW_4 : w4.heap.size < W.heap.size := by rw [hW]; first | omega | (simp; omega) | simp
  have hBW : Below w.heap.size w W := by
    rw [hW]
    repeat (first | exact Below.refl _ _ | assumption | (refine Below.drew ?_) | (refine Below.setCell ?_ (by first | omega | (simp; omega) | simp) _) | (refine Below.alloc ?_ (by first | omega | (simp; omega) | simp) _) | (refine bthen (by assumption) ?_ (by first | omega | (simp; omega) | simp)))
  clear hW kw4_0_0 kw4_0_1 hsw4_0 kw4_1_0 kw4_1_1 hsw4_1 kw4_2_0 kw4_2_1 hsw4_2 kw4_3_0 kw4_3_1 hsw4_3 hBw4 hvw4
  have HS := SW.start W; have hB3 := Below.refl W.heap.size W; have hc := True.intro
  go_wp2_with (first
    | (go_at_call 9; refine (num_any _ _).mono ?_; rintro e w3 ⟨rfl, rfl⟩)
    | (go_at_call 10; refine (dom_any _ _ _ _ _).mono ?_; rintro e w3 ⟨rfl, hb⟩; have hS' := HS.keep hb; clear hb HS hc hB3; have HS := hS'; clear hS'; have hc := HS.cells; have hB3 := HS.below; (try simp only [*]))
    | (go_at_call 12; refine (may_any _ _ _).mono ?_; rintro e w3 ⟨rfl, hb⟩; have hS' := HS.keep hb; clear hb HS hc hB3; have HS := hS'; clear hS'; have hc := HS.cells; have hB3 := HS.below; (try simp only [*])))
  try go_wp2
  go_returns
  exact ⟨rfl, bthen hB3 hBW hBW.size⟩
set_option maxHeartbeats 4000000 in
theorem walk1 (which x d : Int) (w : World) (hx : bits .and .i64 x 1023 = d) (h0 : 0 ≤ d) (h1 : d ≤ 1023) (hi : (IntKind.u64.wrap which).tmod 4 = 1) :
    Calls Try.prog 5 #[.int .i64 which, .int .i64 x] w fun e w' => e = .returned (.bool true) ∧ Below w.heap.size w w' := by
  have m1 : mayB (-(1 + d)) (0) = false := by simp [mayB]; omega
  have m2 : mayB 3 15 = true := by kernel_rfl
  have m3 : mayB 0 0 = true := by kernel_rfl
  have j1 : joinV 3 15 (-(1 + d)) (0) = .tuple #[.agg #[.int .i64 0, .int .i64 0], .int .i64 900] := by simp [joinV, m1]
  have j2 : joinV (-(1 + d)) (0) 3 15 = .tuple #[.agg #[.int .i64 0, .int .i64 0], .int .i64 900] := by simp [joinV, m1]
  have j3 : joinV 3 15 0 0 = .tuple #[.agg #[.int .i64 3, .int .i64 15], .int .i64 0] := by kernel_rfl
  have d1 : domB 3 15 (-(1 + d)) (0) = false := by simp [domB, m1]
  have d2 : domB (-(1 + d)) (0) 0 0 = false := by simp [domB, m1]
  have d3 : domB (-(1 + d)) (0) (-(1 + d)) (0) = false := by simp [domB, m1]
  go_enter Try.func5, Try.ntmps5
  go_wp2_with fail
  refine (awake_any _).mono ?_; rintro e w1 ⟨rfl, hbw1⟩
  have hzw1 := hbw1.size; (try simp at hzw1)
  have hBw1 : Below w.heap.size w w1 := by
    refine bthen hbw1 ?_ (by first | omega | (simp; omega) | simp)
    repeat (first | exact Below.refl _ _ | (with_reducible assumption) | (refine Below.drew ?_) | (refine Below.setCell ?_ (by first | omega | (simp; omega) | simp) _) | (refine Below.alloc ?_ (by first | omega | (simp; omega) | simp) _) | (refine bthen (by assumption) ?_ (by first | omega | (simp; omega) | simp)))
  have hvw1 := hBw1.size
  clear hbw1
  go_wp2_with fail
  refine (join_any _ _ _ _ _).mono ?_; rintro e w2 ⟨rfl, hbw2⟩
  have hzw2 := hbw2.size; (try simp at hzw2)
  have kw2_0_0 : w2.cell? ⟨w1.heap.size, 0, none⟩ = some (.int .i64 3) := (hbw2.cell (p := ⟨w1.heap.size, 0, none⟩) (by first | omega | (simp; omega) | simp)).trans (by first | (go_simp; done) | ((repeat rw [cell_al (by first | omega | (simp; omega) | simp)]); first | assumption | (go_simp; done)))
  have kw2_0_1 : w2.cell? ⟨w1.heap.size, 1, none⟩ = some (.int .i64 15) := (hbw2.cell (p := ⟨w1.heap.size, 1, none⟩) (by first | omega | (simp; omega) | simp)).trans (by first | (go_simp; done) | ((repeat rw [cell_al (by first | omega | (simp; omega) | simp)]); first | assumption | (go_simp; done)))
  have hsw2_0 : w1.heap.size < w2.heap.size := (by omega)
  have kw2_1_0 : w2.cell? ⟨w1.heap.size + 1 + 1, 0, none⟩ = some (.int .i64 (-(1 + d))) := (hbw2.cell (p := ⟨w1.heap.size + 1 + 1, 0, none⟩) (by first | omega | (simp; omega) | simp)).trans (by first | (go_simp; done) | ((repeat rw [cell_al (by first | omega | (simp; omega) | simp)]); first | assumption | (go_simp; done)))
  have kw2_1_1 : w2.cell? ⟨w1.heap.size + 1 + 1, 1, none⟩ = some (.int .i64 (0)) := (hbw2.cell (p := ⟨w1.heap.size + 1 + 1, 1, none⟩) (by first | omega | (simp; omega) | simp)).trans (by first | (go_simp; done) | ((repeat rw [cell_al (by first | omega | (simp; omega) | simp)]); first | assumption | (go_simp; done)))
  have hsw2_1 : w1.heap.size + 1 + 1 < w2.heap.size := (by omega)
  have hBw2 : Below w.heap.size w w2 := by
    refine bthen hbw2 ?_ (by first | omega | (simp; omega) | simp)
    repeat (first | exact Below.refl _ _ | (with_reducible assumption) | (refine Below.drew ?_) | (refine Below.setCell ?_ (by first | omega | (simp; omega) | simp) _) | (refine Below.alloc ?_ (by first | omega | (simp; omega) | simp) _) | (refine bthen (by assumption) ?_ (by first | omega | (simp; omega) | simp)))
  have hvw2 := hBw2.size
  clear hBw1 hvw1 hzw1
  clear hbw2
  rw [j1]
  go_wp2_with fail
  refine (join_any _ _ _ _ _).mono ?_; rintro e w3 ⟨rfl, hbw3⟩
  have hzw3 := hbw3.size; (try simp at hzw3)
  have kw3_0_0 : w3.cell? ⟨w1.heap.size, 0, none⟩ = some (.int .i64 3) := (hbw3.cell (p := ⟨w1.heap.size, 0, none⟩) (by first | omega | (simp; omega) | simp)).trans (by first | (go_simp; done) | ((repeat rw [cell_al (by first | omega | (simp; omega) | simp)]); first | assumption | (go_simp; done)))
  have kw3_0_1 : w3.cell? ⟨w1.heap.size, 1, none⟩ = some (.int .i64 15) := (hbw3.cell (p := ⟨w1.heap.size, 1, none⟩) (by first | omega | (simp; omega) | simp)).trans (by first | (go_simp; done) | ((repeat rw [cell_al (by first | omega | (simp; omega) | simp)]); first | assumption | (go_simp; done)))
  have hsw3_0 : w1.heap.size < w3.heap.size := (by omega)
  have kw3_1_0 : w3.cell? ⟨w1.heap.size + 1 + 1, 0, none⟩ = some (.int .i64 (-(1 + d))) := (hbw3.cell (p := ⟨w1.heap.size + 1 + 1, 0, none⟩) (by first | omega | (simp; omega) | simp)).trans (by first | (go_simp; done) | ((repeat rw [cell_al (by first | omega | (simp; omega) | simp)]); first | assumption | (go_simp; done)))
  have kw3_1_1 : w3.cell? ⟨w1.heap.size + 1 + 1, 1, none⟩ = some (.int .i64 (0)) := (hbw3.cell (p := ⟨w1.heap.size + 1 + 1, 1, none⟩) (by first | omega | (simp; omega) | simp)).trans (by first | (go_simp; done) | ((repeat rw [cell_al (by first | omega | (simp; omega) | simp)]); first | assumption | (go_simp; done)))
  have hsw3_1 : w1.heap.size + 1 + 1 < w3.heap.size := (by omega)
  have kw3_2_0 : w3.cell? ⟨w2.heap.size, 0, none⟩ = some (.int .i64 0) := (hbw3.cell (p := ⟨w2.heap.size, 0, none⟩) (by first | omega | (simp; omega) | simp)).trans (by first | (go_simp; done) | ((repeat rw [cell_al (by first | omega | (simp; omega) | simp)]); first | assumption | (go_simp; done)))
  have kw3_2_1 : w3.cell? ⟨w2.heap.size, 1, none⟩ = some (.int .i64 0) := (hbw3.cell (p := ⟨w2.heap.size, 1, none⟩) (by first | omega | (simp; omega) | simp)).trans (by first | (go_simp; done) | ((repeat rw [cell_al (by first | omega | (simp; omega) | simp)]); first | assumption | (go_simp; done)))
  have hsw3_2 : w2.heap.size < w3.heap.size := (by omega)
  have hBw3 : Below w.heap.size w w3 := by
    refine bthen hbw3 ?_ (by first | omega | (simp; omega) | simp)
    repeat (first | exact Below.refl _ _ | (with_reducible assumption) | (refine Below.drew ?_) | (refine Below.setCell ?_ (by first | omega | (simp; omega) | simp) _) | (refine Below.alloc ?_ (by first | omega | (simp; omega) | simp) _) | (refine bthen (by assumption) ?_ (by first | omega | (simp; omega) | simp)))
  have hvw3 := hBw3.size
  clear kw2_0_0 kw2_0_1 hsw2_0 kw2_1_0 kw2_1_1 hsw2_1 hBw2 hvw2 hzw2
  clear hbw3
  rw [j2]
  go_wp2_with fail
  refine (join_any _ _ _ _ _).mono ?_; rintro e w4 ⟨rfl, hbw4⟩
  have hzw4 := hbw4.size; (try simp at hzw4)
  have kw4_0_0 : w4.cell? ⟨w1.heap.size, 0, none⟩ = some (.int .i64 3) := (hbw4.cell (p := ⟨w1.heap.size, 0, none⟩) (by first | omega | (simp; omega) | simp)).trans (by first | (go_simp; done) | ((repeat rw [cell_al (by first | omega | (simp; omega) | simp)]); first | assumption | (go_simp; done)))
  have kw4_0_1 : w4.cell? ⟨w1.heap.size, 1, none⟩ = some (.int .i64 15) := (hbw4.cell (p := ⟨w1.heap.size, 1, none⟩) (by first | omega | (simp; omega) | simp)).trans (by first | (go_simp; done) | ((repeat rw [cell_al (by first | omega | (simp; omega) | simp)]); first | assumption | (go_simp; done)))
  have hsw4_0 : w1.heap.size < w4.heap.size := (by omega)
  have kw4_1_0 : w4.cell? ⟨w1.heap.size + 1 + 1, 0, none⟩ = some (.int .i64 (-(1 + d))) := (hbw4.cell (p := ⟨w1.heap.size + 1 + 1, 0, none⟩) (by first | omega | (simp; omega) | simp)).trans (by first | (go_simp; done) | ((repeat rw [cell_al (by first | omega | (simp; omega) | simp)]); first | assumption | (go_simp; done)))
  have kw4_1_1 : w4.cell? ⟨w1.heap.size + 1 + 1, 1, none⟩ = some (.int .i64 (0)) := (hbw4.cell (p := ⟨w1.heap.size + 1 + 1, 1, none⟩) (by first | omega | (simp; omega) | simp)).trans (by first | (go_simp; done) | ((repeat rw [cell_al (by first | omega | (simp; omega) | simp)]); first | assumption | (go_simp; done)))
  have hsw4_1 : w1.heap.size + 1 + 1 < w4.heap.size := (by omega)
  have kw4_2_0 : w4.cell? ⟨w2.heap.size, 0, none⟩ = some (.int .i64 0) := (hbw4.cell (p := ⟨w2.heap.size, 0, none⟩) (by first | omega | (simp; omega) | simp)).trans (by first | (go_simp; done) | ((repeat rw [cell_al (by first | omega | (simp; omega) | simp)]); first | assumption | (go_simp; done)))
  have kw4_2_1 : w4.cell? ⟨w2.heap.size, 1, none⟩ = some (.int .i64 0) := (hbw4.cell (p := ⟨w2.heap.size, 1, none⟩) (by first | omega | (simp; omega) | simp)).trans (by first | (go_simp; done) | ((repeat rw [cell_al (by first | omega | (simp; omega) | simp)]); first | assumption | (go_simp; done)))
  have hsw4_2 : w2.heap.size < w4.heap.size := (by omega)
  have kw4_3_0 : w4.cell? ⟨w3.heap.size, 0, none⟩ = some (.int .i64 0) := (hbw4.cell (p := ⟨w3.heap.size, 0, none⟩) (by first | omega | (simp; omega) | simp)).trans (by first | (go_simp; done) | ((repeat rw [cell_al (by first | omega | (simp; omega) | simp)]); first | assumption | (go_simp; done)))
  have kw4_3_1 : w4.cell? ⟨w3.heap.size, 1, none⟩ = some (.int .i64 0) := (hbw4.cell (p := ⟨w3.heap.size, 1, none⟩) (by first | omega | (simp; omega) | simp)).trans (by first | (go_simp; done) | ((repeat rw [cell_al (by first | omega | (simp; omega) | simp)]); first | assumption | (go_simp; done)))
  have hsw4_3 : w3.heap.size < w4.heap.size := (by omega)
  have hBw4 : Below w.heap.size w w4 := by
    refine bthen hbw4 ?_ (by first | omega | (simp; omega) | simp)
    repeat (first | exact Below.refl _ _ | (with_reducible assumption) | (refine Below.drew ?_) | (refine Below.setCell ?_ (by first | omega | (simp; omega) | simp) _) | (refine Below.alloc ?_ (by first | omega | (simp; omega) | simp) _) | (refine bthen (by assumption) ?_ (by first | omega | (simp; omega) | simp)))
  have hvw4 := hBw4.size
  clear kw3_0_0 kw3_0_1 hsw3_0 kw3_1_0 kw3_1_1 hsw3_1 kw3_2_0 kw3_2_1 hsw3_2 hBw3 hvw3 hzw3
  clear hbw4
  rw [j3]
  go_wp2_with fail
  refine name_calls fun W hW => ?_
  have kW_0_0 : W.cell? ⟨w1.heap.size, 0, none⟩ = some (.int .i64 3) := by rw [hW]; exact (by first | (go_simp; done) | ((repeat rw [cell_al (by first | omega | (simp; omega) | simp)]); first | assumption | (go_simp; done)))
  have kW_0_1 : W.cell? ⟨w1.heap.size, 1, none⟩ = some (.int .i64 15) := by rw [hW]; exact (by first | (go_simp; done) | ((repeat rw [cell_al (by first | omega | (simp; omega) | simp)]); first | assumption | (go_simp; done)))
  have zW_0 : w1.heap.size < W.heap.size := by rw [hW]; first | omega | (simp; omega) | simp
  have kW_1_0 : W.cell? ⟨w1.heap.size + 1 + 1, 0, none⟩ = some (.int .i64 (-(1 + d))) := by rw [hW]; exact (by first | (go_simp; done) | ((repeat rw [cell_al (by first | omega | (simp; omega) | simp)]); first | assumption | (go_simp; done)))
  have kW_1_1 : W.cell? ⟨w1.heap.size + 1 + 1, 1, none⟩ = some (.int .i64 (0)) := by rw [hW]; exact (by first | (go_simp; done) | ((repeat rw [cell_al (by first | omega | (simp; omega) | simp)]); first | assumption | (go_simp; done)))
  have zW_1 : w1.heap.size + 1 + 1 < W.heap.size := by rw [hW]; first | omega | (simp; omega) | simp
  have kW_2_0 : W.cell? ⟨w2.heap.size, 0, none⟩ = some (.int .i64 0) := by rw [hW]; exact (by first | (go_simp; done) | ((repeat rw [cell_al (by first | omega | (simp; omega) | simp)]); first | assumption | (go_simp; done)))
  have kW_2_1 : W.cell? ⟨w2.heap.size, 1, none⟩ = some (.int .i64 0) := by rw [hW]; exact (by first | (go_simp; done) | ((repeat rw [cell_al (by first | omega | (simp; omega) | simp)]); first | assumption | (go_simp; done)))
  have zW_2 : w2.heap.size < W.heap.size := by rw [hW]; first | omega | (simp; omega) | simp
  have kW_3_0 : W.cell? ⟨w3.heap.size, 0, none⟩ = some (.int .i64 0) := by rw [hW]; exact (by first | (go_simp; done) | ((repeat rw [cell_al (by first | omega | (simp; omega) | simp)]); first | assumption | (go_simp; done)))
  have kW_3_1 : W.cell? ⟨w3.heap.size, 1, none⟩ = some (.int .i64 0) := by rw [hW]; exact (by first | (go_simp; done) | ((repeat rw [cell_al (by first | omega | (simp; omega) | simp)]); first | assumption | (go_simp; done)))
  have zW_3 : w3.heap.size < W.heap.size := by rw [hW]; first | omega | (simp; omega) | simp
  have kW_4_0 : W.cell? ⟨w4.heap.size, 0, none⟩ = some (.int .i64 3) := by rw [hW]; exact (by first | (go_simp; done) | ((repeat rw [cell_al (by first | omega | (simp; omega) | simp)]); first | assumption | (go_simp; done)))
  have kW_4_1 : W.cell? ⟨w4.heap.size, 1, none⟩ = some (.int .i64 15) := by rw [hW]; exact (by first | (go_simp; done) | ((repeat rw [cell_al (by first | omega | (simp; omega) | simp)]); first | assumption | (go_simp; done)))
  have zW_4 : w4.heap.size < W.heap.size := by rw [hW]; first | omega | (simp; omega) | simp
  have hBW : Below w.heap.size w W := by
    rw [hW]
    repeat (first | exact Below.refl _ _ | assumption | (refine Below.drew ?_) | (refine Below.setCell ?_ (by first | omega | (simp; omega) | simp) _) | (refine Below.alloc ?_ (by first | omega | (simp; omega) | simp) _) | (refine bthen (by assumption) ?_ (by first | omega | (simp; omega) | simp)))
  clear hW kw4_0_0 kw4_0_1 hsw4_0 kw4_1_0 kw4_1_1 hsw4_1 kw4_2_0 kw4_2_1 hsw4_2 kw4_3_0 kw4_3_1 hsw4_3 hBw4 hvw4
  have HS := SW.start W; have hB3 := Below.refl W.heap.size W; have hc := True.intro
  go_wp2_with (first
    | (go_at_call 9; refine (num_any _ _).mono ?_; rintro e w3 ⟨rfl, rfl⟩)
    | (go_at_call 10; refine (dom_any _ _ _ _ _).mono ?_; rintro e w3 ⟨rfl, hb⟩; have hS' := HS.keep hb; clear hb HS hc hB3; have HS := hS'; clear hS'; have hc := HS.cells; have hB3 := HS.below; (try simp only [*]))
    | (go_at_call 12; refine (may_any _ _ _).mono ?_; rintro e w3 ⟨rfl, hb⟩; have hS' := HS.keep hb; clear hb HS hc hB3; have HS := hS'; clear hS'; have hc := HS.cells; have hB3 := HS.below; (try simp only [*])))
  try go_wp2
  go_returns
  exact ⟨rfl, bthen hB3 hBW hBW.size⟩
set_option maxHeartbeats 4000000 in
theorem walk2 (which x d : Int) (w : World) (hx : bits .and .i64 x 1023 = d) (h0 : 0 ≤ d) (h1 : d ≤ 1023) (hi : (IntKind.u64.wrap which).tmod 4 = 2) :
    Calls Try.prog 5 #[.int .i64 which, .int .i64 x] w fun e w' => e = .returned (.bool true) ∧ Below w.heap.size w w' := by
  have m1 : mayB (0) (15 + (1 + d)) = false := by simp [mayB]; omega
  have m2 : mayB 3 15 = true := by kernel_rfl
  have m3 : mayB 0 0 = true := by kernel_rfl
  have j1 : joinV 3 15 (0) (15 + (1 + d)) = .tuple #[.agg #[.int .i64 0, .int .i64 0], .int .i64 900] := by simp [joinV, m1]
  have j2 : joinV (0) (15 + (1 + d)) 3 15 = .tuple #[.agg #[.int .i64 0, .int .i64 0], .int .i64 900] := by simp [joinV, m1]
  have j3 : joinV 3 15 0 0 = .tuple #[.agg #[.int .i64 3, .int .i64 15], .int .i64 0] := by kernel_rfl
  have d1 : domB 3 15 (0) (15 + (1 + d)) = false := by simp [domB, m1]
  have d2 : domB (0) (15 + (1 + d)) 0 0 = false := by simp [domB, m1]
  have d3 : domB (0) (15 + (1 + d)) (0) (15 + (1 + d)) = false := by simp [domB, m1]
  go_enter Try.func5, Try.ntmps5
  go_wp2_with fail
  refine (awake_any _).mono ?_; rintro e w1 ⟨rfl, hbw1⟩
  have hzw1 := hbw1.size; (try simp at hzw1)
  have hBw1 : Below w.heap.size w w1 := by
    refine bthen hbw1 ?_ (by first | omega | (simp; omega) | simp)
    repeat (first | exact Below.refl _ _ | (with_reducible assumption) | (refine Below.drew ?_) | (refine Below.setCell ?_ (by first | omega | (simp; omega) | simp) _) | (refine Below.alloc ?_ (by first | omega | (simp; omega) | simp) _) | (refine bthen (by assumption) ?_ (by first | omega | (simp; omega) | simp)))
  have hvw1 := hBw1.size
  clear hbw1
  go_wp2_with fail
  refine (join_any _ _ _ _ _).mono ?_; rintro e w2 ⟨rfl, hbw2⟩
  have hzw2 := hbw2.size; (try simp at hzw2)
  have kw2_0_0 : w2.cell? ⟨w1.heap.size, 0, none⟩ = some (.int .i64 3) := (hbw2.cell (p := ⟨w1.heap.size, 0, none⟩) (by first | omega | (simp; omega) | simp)).trans (by first | (go_simp; done) | ((repeat rw [cell_al (by first | omega | (simp; omega) | simp)]); first | assumption | (go_simp; done)))
  have kw2_0_1 : w2.cell? ⟨w1.heap.size, 1, none⟩ = some (.int .i64 15) := (hbw2.cell (p := ⟨w1.heap.size, 1, none⟩) (by first | omega | (simp; omega) | simp)).trans (by first | (go_simp; done) | ((repeat rw [cell_al (by first | omega | (simp; omega) | simp)]); first | assumption | (go_simp; done)))
  have hsw2_0 : w1.heap.size < w2.heap.size := (by omega)
  have kw2_1_0 : w2.cell? ⟨w1.heap.size + 1 + 1, 0, none⟩ = some (.int .i64 (0)) := (hbw2.cell (p := ⟨w1.heap.size + 1 + 1, 0, none⟩) (by first | omega | (simp; omega) | simp)).trans (by first | (go_simp; done) | ((repeat rw [cell_al (by first | omega | (simp; omega) | simp)]); first | assumption | (go_simp; done)))
  have kw2_1_1 : w2.cell? ⟨w1.heap.size + 1 + 1, 1, none⟩ = some (.int .i64 (15 + (1 + d))) := (hbw2.cell (p := ⟨w1.heap.size + 1 + 1, 1, none⟩) (by first | omega | (simp; omega) | simp)).trans (by first | (go_simp; done) | ((repeat rw [cell_al (by first | omega | (simp; omega) | simp)]); first | assumption | (go_simp; done)))
  have hsw2_1 : w1.heap.size + 1 + 1 < w2.heap.size := (by omega)
  have hBw2 : Below w.heap.size w w2 := by
    refine bthen hbw2 ?_ (by first | omega | (simp; omega) | simp)
    repeat (first | exact Below.refl _ _ | (with_reducible assumption) | (refine Below.drew ?_) | (refine Below.setCell ?_ (by first | omega | (simp; omega) | simp) _) | (refine Below.alloc ?_ (by first | omega | (simp; omega) | simp) _) | (refine bthen (by assumption) ?_ (by first | omega | (simp; omega) | simp)))
  have hvw2 := hBw2.size
  clear hBw1 hvw1 hzw1
  clear hbw2
  rw [j1]
  go_wp2_with fail
  refine (join_any _ _ _ _ _).mono ?_; rintro e w3 ⟨rfl, hbw3⟩
  have hzw3 := hbw3.size; (try simp at hzw3)
  have kw3_0_0 : w3.cell? ⟨w1.heap.size, 0, none⟩ = some (.int .i64 3) := (hbw3.cell (p := ⟨w1.heap.size, 0, none⟩) (by first | omega | (simp; omega) | simp)).trans (by first | (go_simp; done) | ((repeat rw [cell_al (by first | omega | (simp; omega) | simp)]); first | assumption | (go_simp; done)))
  have kw3_0_1 : w3.cell? ⟨w1.heap.size, 1, none⟩ = some (.int .i64 15) := (hbw3.cell (p := ⟨w1.heap.size, 1, none⟩) (by first | omega | (simp; omega) | simp)).trans (by first | (go_simp; done) | ((repeat rw [cell_al (by first | omega | (simp; omega) | simp)]); first | assumption | (go_simp; done)))
  have hsw3_0 : w1.heap.size < w3.heap.size := (by omega)
  have kw3_1_0 : w3.cell? ⟨w1.heap.size + 1 + 1, 0, none⟩ = some (.int .i64 (0)) := (hbw3.cell (p := ⟨w1.heap.size + 1 + 1, 0, none⟩) (by first | omega | (simp; omega) | simp)).trans (by first | (go_simp; done) | ((repeat rw [cell_al (by first | omega | (simp; omega) | simp)]); first | assumption | (go_simp; done)))
  have kw3_1_1 : w3.cell? ⟨w1.heap.size + 1 + 1, 1, none⟩ = some (.int .i64 (15 + (1 + d))) := (hbw3.cell (p := ⟨w1.heap.size + 1 + 1, 1, none⟩) (by first | omega | (simp; omega) | simp)).trans (by first | (go_simp; done) | ((repeat rw [cell_al (by first | omega | (simp; omega) | simp)]); first | assumption | (go_simp; done)))
  have hsw3_1 : w1.heap.size + 1 + 1 < w3.heap.size := (by omega)
  have kw3_2_0 : w3.cell? ⟨w2.heap.size, 0, none⟩ = some (.int .i64 0) := (hbw3.cell (p := ⟨w2.heap.size, 0, none⟩) (by first | omega | (simp; omega) | simp)).trans (by first | (go_simp; done) | ((repeat rw [cell_al (by first | omega | (simp; omega) | simp)]); first | assumption | (go_simp; done)))
  have kw3_2_1 : w3.cell? ⟨w2.heap.size, 1, none⟩ = some (.int .i64 0) := (hbw3.cell (p := ⟨w2.heap.size, 1, none⟩) (by first | omega | (simp; omega) | simp)).trans (by first | (go_simp; done) | ((repeat rw [cell_al (by first | omega | (simp; omega) | simp)]); first | assumption | (go_simp; done)))
  have hsw3_2 : w2.heap.size < w3.heap.size := (by omega)
  have hBw3 : Below w.heap.size w w3 := by
    refine bthen hbw3 ?_ (by first | omega | (simp; omega) | simp)
    repeat (first | exact Below.refl _ _ | (with_reducible assumption) | (refine Below.drew ?_) | (refine Below.setCell ?_ (by first | omega | (simp; omega) | simp) _) | (refine Below.alloc ?_ (by first | omega | (simp; omega) | simp) _) | (refine bthen (by assumption) ?_ (by first | omega | (simp; omega) | simp)))
  have hvw3 := hBw3.size
  clear kw2_0_0 kw2_0_1 hsw2_0 kw2_1_0 kw2_1_1 hsw2_1 hBw2 hvw2 hzw2
  clear hbw3
  rw [j2]
  go_wp2_with fail
  refine (join_any _ _ _ _ _).mono ?_; rintro e w4 ⟨rfl, hbw4⟩
  have hzw4 := hbw4.size; (try simp at hzw4)
  have kw4_0_0 : w4.cell? ⟨w1.heap.size, 0, none⟩ = some (.int .i64 3) := (hbw4.cell (p := ⟨w1.heap.size, 0, none⟩) (by first | omega | (simp; omega) | simp)).trans (by first | (go_simp; done) | ((repeat rw [cell_al (by first | omega | (simp; omega) | simp)]); first | assumption | (go_simp; done)))
  have kw4_0_1 : w4.cell? ⟨w1.heap.size, 1, none⟩ = some (.int .i64 15) := (hbw4.cell (p := ⟨w1.heap.size, 1, none⟩) (by first | omega | (simp; omega) | simp)).trans (by first | (go_simp; done) | ((repeat rw [cell_al (by first | omega | (simp; omega) | simp)]); first | assumption | (go_simp; done)))
  have hsw4_0 : w1.heap.size < w4.heap.size := (by omega)
  have kw4_1_0 : w4.cell? ⟨w1.heap.size + 1 + 1, 0, none⟩ = some (.int .i64 (0)) := (hbw4.cell (p := ⟨w1.heap.size + 1 + 1, 0, none⟩) (by first | omega | (simp; omega) | simp)).trans (by first | (go_simp; done) | ((repeat rw [cell_al (by first | omega | (simp; omega) | simp)]); first | assumption | (go_simp; done)))
  have kw4_1_1 : w4.cell? ⟨w1.heap.size + 1 + 1, 1, none⟩ = some (.int .i64 (15 + (1 + d))) := (hbw4.cell (p := ⟨w1.heap.size + 1 + 1, 1, none⟩) (by first | omega | (simp; omega) | simp)).trans (by first | (go_simp; done) | ((repeat rw [cell_al (by first | omega | (simp; omega) | simp)]); first | assumption | (go_simp; done)))
  have hsw4_1 : w1.heap.size + 1 + 1 < w4.heap.size := (by omega)
  have kw4_2_0 : w4.cell? ⟨w2.heap.size, 0, none⟩ = some (.int .i64 0) := (hbw4.cell (p := ⟨w2.heap.size, 0, none⟩) (by first | omega | (simp; omega) | simp)).trans (by first | (go_simp; done) | ((repeat rw [cell_al (by first | omega | (simp; omega) | simp)]); first | assumption | (go_simp; done)))
  have kw4_2_1 : w4.cell? ⟨w2.heap.size, 1, none⟩ = some (.int .i64 0) := (hbw4.cell (p := ⟨w2.heap.size, 1, none⟩) (by first | omega | (simp; omega) | simp)).trans (by first | (go_simp; done) | ((repeat rw [cell_al (by first | omega | (simp; omega) | simp)]); first | assumption | (go_simp; done)))
  have hsw4_2 : w2.heap.size < w4.heap.size := (by omega)
  have kw4_3_0 : w4.cell? ⟨w3.heap.size, 0, none⟩ = some (.int .i64 0) := (hbw4.cell (p := ⟨w3.heap.size, 0, none⟩) (by first | omega | (simp; omega) | simp)).trans (by first | (go_simp; done) | ((repeat rw [cell_al (by first | omega | (simp; omega) | simp)]); first | assumption | (go_simp; done)))
  have kw4_3_1 : w4.cell? ⟨w3.heap.size, 1, none⟩ = some (.int .i64 0) := (hbw4.cell (p := ⟨w3.heap.size, 1, none⟩) (by first | omega | (simp; omega) | simp)).trans (by first | (go_simp; done) | ((repeat rw [cell_al (by first | omega | (simp; omega) | simp)]); first | assumption | (go_simp; done)))
  have hsw4_3 : w3.heap.size < w4.heap.size := (by omega)
  have hBw4 : Below w.heap.size w w4 := by
    refine bthen hbw4 ?_ (by first | omega | (simp; omega) | simp)
    repeat (first | exact Below.refl _ _ | (with_reducible assumption) | (refine Below.drew ?_) | (refine Below.setCell ?_ (by first | omega | (simp; omega) | simp) _) | (refine Below.alloc ?_ (by first | omega | (simp; omega) | simp) _) | (refine bthen (by assumption) ?_ (by first | omega | (simp; omega) | simp)))
  have hvw4 := hBw4.size
  clear kw3_0_0 kw3_0_1 hsw3_0 kw3_1_0 kw3_1_1 hsw3_1 kw3_2_0 kw3_2_1 hsw3_2 hBw3 hvw3 hzw3
  clear hbw4
  rw [j3]
  go_wp2_with fail
  refine name_calls fun W hW => ?_
  have kW_0_0 : W.cell? ⟨w1.heap.size, 0, none⟩ = some (.int .i64 3) := by rw [hW]; exact (by first | (go_simp; done) | ((repeat rw [cell_al (by first | omega | (simp; omega) | simp)]); first | assumption | (go_simp; done)))
  have kW_0_1 : W.cell? ⟨w1.heap.size, 1, none⟩ = some (.int .i64 15) := by rw [hW]; exact (by first | (go_simp; done) | ((repeat rw [cell_al (by first | omega | (simp; omega) | simp)]); first | assumption | (go_simp; done)))
  have zW_0 : w1.heap.size < W.heap.size := by rw [hW]; first | omega | (simp; omega) | simp
  have kW_1_0 : W.cell? ⟨w1.heap.size + 1 + 1, 0, none⟩ = some (.int .i64 (0)) := by rw [hW]; exact (by first | (go_simp; done) | ((repeat rw [cell_al (by first | omega | (simp; omega) | simp)]); first | assumption | (go_simp; done)))
  have kW_1_1 : W.cell? ⟨w1.heap.size + 1 + 1, 1, none⟩ = some (.int .i64 (15 + (1 + d))) := by rw [hW]; exact (by first | (go_simp; done) | ((repeat rw [cell_al (by first | omega | (simp; omega) | simp)]); first | assumption | (go_simp; done)))
  have zW_1 : w1.heap.size + 1 + 1 < W.heap.size := by rw [hW]; first | omega | (simp; omega) | simp
  have kW_2_0 : W.cell? ⟨w2.heap.size, 0, none⟩ = some (.int .i64 0) := by rw [hW]; exact (by first | (go_simp; done) | ((repeat rw [cell_al (by first | omega | (simp; omega) | simp)]); first | assumption | (go_simp; done)))
  have kW_2_1 : W.cell? ⟨w2.heap.size, 1, none⟩ = some (.int .i64 0) := by rw [hW]; exact (by first | (go_simp; done) | ((repeat rw [cell_al (by first | omega | (simp; omega) | simp)]); first | assumption | (go_simp; done)))
  have zW_2 : w2.heap.size < W.heap.size := by rw [hW]; first | omega | (simp; omega) | simp
  have kW_3_0 : W.cell? ⟨w3.heap.size, 0, none⟩ = some (.int .i64 0) := by rw [hW]; exact (by first | (go_simp; done) | ((repeat rw [cell_al (by first | omega | (simp; omega) | simp)]); first | assumption | (go_simp; done)))
  have kW_3_1 : W.cell? ⟨w3.heap.size, 1, none⟩ = some (.int .i64 0) := by rw [hW]; exact (by first | (go_simp; done) | ((repeat rw [cell_al (by first | omega | (simp; omega) | simp)]); first | assumption | (go_simp; done)))
  have zW_3 : w3.heap.size < W.heap.size := by rw [hW]; first | omega | (simp; omega) | simp
  have kW_4_0 : W.cell? ⟨w4.heap.size, 0, none⟩ = some (.int .i64 3) := by rw [hW]; exact (by first | (go_simp; done) | ((repeat rw [cell_al (by first | omega | (simp; omega) | simp)]); first | assumption | (go_simp; done)))
  have kW_4_1 : W.cell? ⟨w4.heap.size, 1, none⟩ = some (.int .i64 15) := by rw [hW]; exact (by first | (go_simp; done) | ((repeat rw [cell_al (by first | omega | (simp; omega) | simp)]); first | assumption | (go_simp; done)))
  have zW_4 : w4.heap.size < W.heap.size := by rw [hW]; first | omega | (simp; omega) | simp
  have hBW : Below w.heap.size w W := by
    rw [hW]
    repeat (first | exact Below.refl _ _ | assumption | (refine Below.drew ?_) | (refine Below.setCell ?_ (by first | omega | (simp; omega) | simp) _) | (refine Below.alloc ?_ (by first | omega | (simp; omega) | simp) _) | (refine bthen (by assumption) ?_ (by first | omega | (simp; omega) | simp)))
  clear hW kw4_0_0 kw4_0_1 hsw4_0 kw4_1_0 kw4_1_1 hsw4_1 kw4_2_0 kw4_2_1 hsw4_2 kw4_3_0 kw4_3_1 hsw4_3 hBw4 hvw4
  have HS := SW.start W; have hB3 := Below.refl W.heap.size W; have hc := True.intro
  go_wp2_with (first
    | (go_at_call 9; refine (num_any _ _).mono ?_; rintro e w3 ⟨rfl, rfl⟩)
    | (go_at_call 10; refine (dom_any _ _ _ _ _).mono ?_; rintro e w3 ⟨rfl, hb⟩; have hS' := HS.keep hb; clear hb HS hc hB3; have HS := hS'; clear hS'; have hc := HS.cells; have hB3 := HS.below; (try simp only [*]))
    | (go_at_call 12; refine (may_any _ _ _).mono ?_; rintro e w3 ⟨rfl, hb⟩; have hS' := HS.keep hb; clear hb HS hc hB3; have HS := hS'; clear hS'; have hc := HS.cells; have hB3 := HS.below; (try simp only [*])))
  try go_wp2
  go_returns
  exact ⟨rfl, bthen hB3 hBW hBW.size⟩
set_option maxHeartbeats 4000000 in
theorem walk3 (which x d : Int) (w : World) (hx : bits .and .i64 x 1023 = d) (h0 : 0 ≤ d) (h1 : d ≤ 1023) (hi : (IntKind.u64.wrap which).tmod 4 = 3) :
    Calls Try.prog 5 #[.int .i64 which, .int .i64 x] w fun e w' => e = .returned (.bool true) ∧ Below w.heap.size w w' := by
  have m1 : mayB (0) (-(1 + d)) = false := by simp [mayB]; omega
  have m2 : mayB 3 15 = true := by kernel_rfl
  have m3 : mayB 0 0 = true := by kernel_rfl
  have j1 : joinV 3 15 (0) (-(1 + d)) = .tuple #[.agg #[.int .i64 0, .int .i64 0], .int .i64 900] := by simp [joinV, m1]
  have j2 : joinV (0) (-(1 + d)) 3 15 = .tuple #[.agg #[.int .i64 0, .int .i64 0], .int .i64 900] := by simp [joinV, m1]
  have j3 : joinV 3 15 0 0 = .tuple #[.agg #[.int .i64 3, .int .i64 15], .int .i64 0] := by kernel_rfl
  have d1 : domB 3 15 (0) (-(1 + d)) = false := by simp [domB, m1]
  have d2 : domB (0) (-(1 + d)) 0 0 = false := by simp [domB, m1]
  have d3 : domB (0) (-(1 + d)) (0) (-(1 + d)) = false := by simp [domB, m1]
  go_enter Try.func5, Try.ntmps5
  go_wp2_with fail
  refine (awake_any _).mono ?_; rintro e w1 ⟨rfl, hbw1⟩
  have hzw1 := hbw1.size; (try simp at hzw1)
  have hBw1 : Below w.heap.size w w1 := by
    refine bthen hbw1 ?_ (by first | omega | (simp; omega) | simp)
    repeat (first | exact Below.refl _ _ | (with_reducible assumption) | (refine Below.drew ?_) | (refine Below.setCell ?_ (by first | omega | (simp; omega) | simp) _) | (refine Below.alloc ?_ (by first | omega | (simp; omega) | simp) _) | (refine bthen (by assumption) ?_ (by first | omega | (simp; omega) | simp)))
  have hvw1 := hBw1.size
  clear hbw1
  go_wp2_with fail
  refine (join_any _ _ _ _ _).mono ?_; rintro e w2 ⟨rfl, hbw2⟩
  have hzw2 := hbw2.size; (try simp at hzw2)
  have kw2_0_0 : w2.cell? ⟨w1.heap.size, 0, none⟩ = some (.int .i64 3) := (hbw2.cell (p := ⟨w1.heap.size, 0, none⟩) (by first | omega | (simp; omega) | simp)).trans (by first | (go_simp; done) | ((repeat rw [cell_al (by first | omega | (simp; omega) | simp)]); first | assumption | (go_simp; done)))
  have kw2_0_1 : w2.cell? ⟨w1.heap.size, 1, none⟩ = some (.int .i64 15) := (hbw2.cell (p := ⟨w1.heap.size, 1, none⟩) (by first | omega | (simp; omega) | simp)).trans (by first | (go_simp; done) | ((repeat rw [cell_al (by first | omega | (simp; omega) | simp)]); first | assumption | (go_simp; done)))
  have hsw2_0 : w1.heap.size < w2.heap.size := (by omega)
  have kw2_1_0 : w2.cell? ⟨w1.heap.size + 1 + 1, 0, none⟩ = some (.int .i64 (0)) := (hbw2.cell (p := ⟨w1.heap.size + 1 + 1, 0, none⟩) (by first | omega | (simp; omega) | simp)).trans (by first | (go_simp; done) | ((repeat rw [cell_al (by first | omega | (simp; omega) | simp)]); first | assumption | (go_simp; done)))
  have kw2_1_1 : w2.cell? ⟨w1.heap.size + 1 + 1, 1, none⟩ = some (.int .i64 (-(1 + d))) := (hbw2.cell (p := ⟨w1.heap.size + 1 + 1, 1, none⟩) (by first | omega | (simp; omega) | simp)).trans (by first | (go_simp; done) | ((repeat rw [cell_al (by first | omega | (simp; omega) | simp)]); first | assumption | (go_simp; done)))
  have hsw2_1 : w1.heap.size + 1 + 1 < w2.heap.size := (by omega)
  have hBw2 : Below w.heap.size w w2 := by
    refine bthen hbw2 ?_ (by first | omega | (simp; omega) | simp)
    repeat (first | exact Below.refl _ _ | (with_reducible assumption) | (refine Below.drew ?_) | (refine Below.setCell ?_ (by first | omega | (simp; omega) | simp) _) | (refine Below.alloc ?_ (by first | omega | (simp; omega) | simp) _) | (refine bthen (by assumption) ?_ (by first | omega | (simp; omega) | simp)))
  have hvw2 := hBw2.size
  clear hBw1 hvw1 hzw1
  clear hbw2
  rw [j1]
  go_wp2_with fail
  refine (join_any _ _ _ _ _).mono ?_; rintro e w3 ⟨rfl, hbw3⟩
  have hzw3 := hbw3.size; (try simp at hzw3)
  have kw3_0_0 : w3.cell? ⟨w1.heap.size, 0, none⟩ = some (.int .i64 3) := (hbw3.cell (p := ⟨w1.heap.size, 0, none⟩) (by first | omega | (simp; omega) | simp)).trans (by first | (go_simp; done) | ((repeat rw [cell_al (by first | omega | (simp; omega) | simp)]); first | assumption | (go_simp; done)))
  have kw3_0_1 : w3.cell? ⟨w1.heap.size, 1, none⟩ = some (.int .i64 15) := (hbw3.cell (p := ⟨w1.heap.size, 1, none⟩) (by first | omega | (simp; omega) | simp)).trans (by first | (go_simp; done) | ((repeat rw [cell_al (by first | omega | (simp; omega) | simp)]); first | assumption | (go_simp; done)))
  have hsw3_0 : w1.heap.size < w3.heap.size := (by omega)
  have kw3_1_0 : w3.cell? ⟨w1.heap.size + 1 + 1, 0, none⟩ = some (.int .i64 (0)) := (hbw3.cell (p := ⟨w1.heap.size + 1 + 1, 0, none⟩) (by first | omega | (simp; omega) | simp)).trans (by first | (go_simp; done) | ((repeat rw [cell_al (by first | omega | (simp; omega) | simp)]); first | assumption | (go_simp; done)))
  have kw3_1_1 : w3.cell? ⟨w1.heap.size + 1 + 1, 1, none⟩ = some (.int .i64 (-(1 + d))) := (hbw3.cell (p := ⟨w1.heap.size + 1 + 1, 1, none⟩) (by first | omega | (simp; omega) | simp)).trans (by first | (go_simp; done) | ((repeat rw [cell_al (by first | omega | (simp; omega) | simp)]); first | assumption | (go_simp; done)))
  have hsw3_1 : w1.heap.size + 1 + 1 < w3.heap.size := (by omega)
  have kw3_2_0 : w3.cell? ⟨w2.heap.size, 0, none⟩ = some (.int .i64 0) := (hbw3.cell (p := ⟨w2.heap.size, 0, none⟩) (by first | omega | (simp; omega) | simp)).trans (by first | (go_simp; done) | ((repeat rw [cell_al (by first | omega | (simp; omega) | simp)]); first | assumption | (go_simp; done)))
  have kw3_2_1 : w3.cell? ⟨w2.heap.size, 1, none⟩ = some (.int .i64 0) := (hbw3.cell (p := ⟨w2.heap.size, 1, none⟩) (by first | omega | (simp; omega) | simp)).trans (by first | (go_simp; done) | ((repeat rw [cell_al (by first | omega | (simp; omega) | simp)]); first | assumption | (go_simp; done)))
  have hsw3_2 : w2.heap.size < w3.heap.size := (by omega)
  have hBw3 : Below w.heap.size w w3 := by
    refine bthen hbw3 ?_ (by first | omega | (simp; omega) | simp)
    repeat (first | exact Below.refl _ _ | (with_reducible assumption) | (refine Below.drew ?_) | (refine Below.setCell ?_ (by first | omega | (simp; omega) | simp) _) | (refine Below.alloc ?_ (by first | omega | (simp; omega) | simp) _) | (refine bthen (by assumption) ?_ (by first | omega | (simp; omega) | simp)))
  have hvw3 := hBw3.size
  clear kw2_0_0 kw2_0_1 hsw2_0 kw2_1_0 kw2_1_1 hsw2_1 hBw2 hvw2 hzw2
  clear hbw3
  rw [j2]
  go_wp2_with fail
  refine (join_any _ _ _ _ _).mono ?_; rintro e w4 ⟨rfl, hbw4⟩
  have hzw4 := hbw4.size; (try simp at hzw4)
  have kw4_0_0 : w4.cell? ⟨w1.heap.size, 0, none⟩ = some (.int .i64 3) := (hbw4.cell (p := ⟨w1.heap.size, 0, none⟩) (by first | omega | (simp; omega) | simp)).trans (by first | (go_simp; done) | ((repeat rw [cell_al (by first | omega | (simp; omega) | simp)]); first | assumption | (go_simp; done)))
  have kw4_0_1 : w4.cell? ⟨w1.heap.size, 1, none⟩ = some (.int .i64 15) := (hbw4.cell (p := ⟨w1.heap.size, 1, none⟩) (by first | omega | (simp; omega) | simp)).trans (by first | (go_simp; done) | ((repeat rw [cell_al (by first | omega | (simp; omega) | simp)]); first | assumption | (go_simp; done)))
  have hsw4_0 : w1.heap.size < w4.heap.size := (by omega)
  have kw4_1_0 : w4.cell? ⟨w1.heap.size + 1 + 1, 0, none⟩ = some (.int .i64 (0)) := (hbw4.cell (p := ⟨w1.heap.size + 1 + 1, 0, none⟩) (by first | omega | (simp; omega) | simp)).trans (by first | (go_simp; done) | ((repeat rw [cell_al (by first | omega | (simp; omega) | simp)]); first | assumption | (go_simp; done)))
  have kw4_1_1 : w4.cell? ⟨w1.heap.size + 1 + 1, 1, none⟩ = some (.int .i64 (-(1 + d))) := (hbw4.cell (p := ⟨w1.heap.size + 1 + 1, 1, none⟩) (by first | omega | (simp; omega) | simp)).trans (by first | (go_simp; done) | ((repeat rw [cell_al (by first | omega | (simp; omega) | simp)]); first | assumption | (go_simp; done)))
  have hsw4_1 : w1.heap.size + 1 + 1 < w4.heap.size := (by omega)
  have kw4_2_0 : w4.cell? ⟨w2.heap.size, 0, none⟩ = some (.int .i64 0) := (hbw4.cell (p := ⟨w2.heap.size, 0, none⟩) (by first | omega | (simp; omega) | simp)).trans (by first | (go_simp; done) | ((repeat rw [cell_al (by first | omega | (simp; omega) | simp)]); first | assumption | (go_simp; done)))
  have kw4_2_1 : w4.cell? ⟨w2.heap.size, 1, none⟩ = some (.int .i64 0) := (hbw4.cell (p := ⟨w2.heap.size, 1, none⟩) (by first | omega | (simp; omega) | simp)).trans (by first | (go_simp; done) | ((repeat rw [cell_al (by first | omega | (simp; omega) | simp)]); first | assumption | (go_simp; done)))
  have hsw4_2 : w2.heap.size < w4.heap.size := (by omega)
  have kw4_3_0 : w4.cell? ⟨w3.heap.size, 0, none⟩ = some (.int .i64 0) := (hbw4.cell (p := ⟨w3.heap.size, 0, none⟩) (by first | omega | (simp; omega) | simp)).trans (by first | (go_simp; done) | ((repeat rw [cell_al (by first | omega | (simp; omega) | simp)]); first | assumption | (go_simp; done)))
  have kw4_3_1 : w4.cell? ⟨w3.heap.size, 1, none⟩ = some (.int .i64 0) := (hbw4.cell (p := ⟨w3.heap.size, 1, none⟩) (by first | omega | (simp; omega) | simp)).trans (by first | (go_simp; done) | ((repeat rw [cell_al (by first | omega | (simp; omega) | simp)]); first | assumption | (go_simp; done)))
  have hsw4_3 : w3.heap.size < w4.heap.size := (by omega)
  have hBw4 : Below w.heap.size w w4 := by
    refine bthen hbw4 ?_ (by first | omega | (simp; omega) | simp)
    repeat (first | exact Below.refl _ _ | (with_reducible assumption) | (refine Below.drew ?_) | (refine Below.setCell ?_ (by first | omega | (simp; omega) | simp) _) | (refine Below.alloc ?_ (by first | omega | (simp; omega) | simp) _) | (refine bthen (by assumption) ?_ (by first | omega | (simp; omega) | simp)))
  have hvw4 := hBw4.size
  clear kw3_0_0 kw3_0_1 hsw3_0 kw3_1_0 kw3_1_1 hsw3_1 kw3_2_0 kw3_2_1 hsw3_2 hBw3 hvw3 hzw3
  clear hbw4
  rw [j3]
  go_wp2_with fail
  refine name_calls fun W hW => ?_
  have kW_0_0 : W.cell? ⟨w1.heap.size, 0, none⟩ = some (.int .i64 3) := by rw [hW]; exact (by first | (go_simp; done) | ((repeat rw [cell_al (by first | omega | (simp; omega) | simp)]); first | assumption | (go_simp; done)))
  have kW_0_1 : W.cell? ⟨w1.heap.size, 1, none⟩ = some (.int .i64 15) := by rw [hW]; exact (by first | (go_simp; done) | ((repeat rw [cell_al (by first | omega | (simp; omega) | simp)]); first | assumption | (go_simp; done)))
  have zW_0 : w1.heap.size < W.heap.size := by rw [hW]; first | omega | (simp; omega) | simp
  have kW_1_0 : W.cell? ⟨w1.heap.size + 1 + 1, 0, none⟩ = some (.int .i64 (0)) := by rw [hW]; exact (by first | (go_simp; done) | ((repeat rw [cell_al (by first | omega | (simp; omega) | simp)]); first | assumption | (go_simp; done)))
  have kW_1_1 : W.cell? ⟨w1.heap.size + 1 + 1, 1, none⟩ = some (.int .i64 (-(1 + d))) := by rw [hW]; exact (by first | (go_simp; done) | ((repeat rw [cell_al (by first | omega | (simp; omega) | simp)]); first | assumption | (go_simp; done)))
  have zW_1 : w1.heap.size + 1 + 1 < W.heap.size := by rw [hW]; first | omega | (simp; omega) | simp
  have kW_2_0 : W.cell? ⟨w2.heap.size, 0, none⟩ = some (.int .i64 0) := by rw [hW]; exact (by first | (go_simp; done) | ((repeat rw [cell_al (by first | omega | (simp; omega) | simp)]); first | assumption | (go_simp; done)))
  have kW_2_1 : W.cell? ⟨w2.heap.size, 1, none⟩ = some (.int .i64 0) := by rw [hW]; exact (by first | (go_simp; done) | ((repeat rw [cell_al (by first | omega | (simp; omega) | simp)]); first | assumption | (go_simp; done)))
  have zW_2 : w2.heap.size < W.heap.size := by rw [hW]; first | omega | (simp; omega) | simp
  have kW_3_0 : W.cell? ⟨w3.heap.size, 0, none⟩ = some (.int .i64 0) := by rw [hW]; exact (by first | (go_simp; done) | ((repeat rw [cell_al (by first | omega | (simp; omega) | simp)]); first | assumption | (go_simp; done)))
  have kW_3_1 : W.cell? ⟨w3.heap.size, 1, none⟩ = some (.int .i64 0) := by rw [hW]; exact (by first | (go_simp; done) | ((repeat rw [cell_al (by first | omega | (simp; omega) | simp)]); first | assumption | (go_simp; done)))
  have zW_3 : w3.heap.size < W.heap.size := by rw [hW]; first | omega | (simp; omega) | simp
  have kW_4_0 : W.cell? ⟨w4.heap.size, 0, none⟩ = some (.int .i64 3) := by rw [hW]; exact (by first | (go_simp; done) | ((repeat rw [cell_al (by first | omega | (simp; omega) | simp)]); first | assumption | (go_simp; done)))
  have kW_4_1 : W.cell? ⟨w4.heap.size, 1, none⟩ = some (.int .i64 15) := by rw [hW]; exact (by first | (go_simp; done) | ((repeat rw [cell_al (by first | omega | (simp; omega) | simp)]); first | assumption | (go_simp; done)))
  have zW_4 : w4.heap.size < W.heap.size := by rw [hW]; first | omega | (simp; omega) | simp
  have hBW : Below w.heap.size w W := by
    rw [hW]
    repeat (first | exact Below.refl _ _ | assumption | (refine Below.drew ?_) | (refine Below.setCell ?_ (by first | omega | (simp; omega) | simp) _) | (refine Below.alloc ?_ (by first | omega | (simp; omega) | simp) _) | (refine bthen (by assumption) ?_ (by first | omega | (simp; omega) | simp)))
  clear hW kw4_0_0 kw4_0_1 hsw4_0 kw4_1_0 kw4_1_1 hsw4_1 kw4_2_0 kw4_2_1 hsw4_2 kw4_3_0 kw4_3_1 hsw4_3 hBw4 hvw4
  have HS := SW.start W; have hB3 := Below.refl W.heap.size W; have hc := True.intro
  go_wp2_with (first
    | (go_at_call 9; refine (num_any _ _).mono ?_; rintro e w3 ⟨rfl, rfl⟩)
    | (go_at_call 10; refine (dom_any _ _ _ _ _).mono ?_; rintro e w3 ⟨rfl, hb⟩; have hS' := HS.keep hb; clear hb HS hc hB3; have HS := hS'; clear hS'; have hc := HS.cells; have hB3 := HS.below; (try simp only [*]))
    | (go_at_call 12; refine (may_any _ _ _).mono ?_; rintro e w3 ⟨rfl, hb⟩; have hS' := HS.keep hb; clear hb HS hc hB3; have HS := hS'; clear hS'; have hc := HS.cells; have hB3 := HS.below; (try simp only [*])))
  try go_wp2
  go_returns
  exact ⟨rfl, bthen hB3 hBW hBW.size⟩

theorem walk (which x : Int) (w : World) (_ : (Lit.int .i64 which).wf = true) (_ : (Lit.int .i64 x).wf = true) :
    Calls Try.prog 5 #[.int .i64 which, .int .i64 x] w fun e w' => e = .returned (.bool true) ∧ Below w.heap.size w w' := by
  have hu : 0 ≤ IntKind.u64.wrap which := by rw [IntKind.wrap_u64]; omega
  have ht : (IntKind.u64.wrap which).tmod 4 = IntKind.u64.wrap which % 4 := Int.tmod_eq_emod_of_nonneg hu
  have hd := mask1023 x
  have c : (IntKind.u64.wrap which).tmod 4 = 0 ∨ (IntKind.u64.wrap which).tmod 4 = 1 ∨ (IntKind.u64.wrap which).tmod 4 = 2 ∨ (IntKind.u64.wrap which).tmod 4 = 3 := by omega
  rcases c with c | c | c | c
  · exact walk0 which x (x % 1024) w hd (by omega) (by omega) c
  · exact walk1 which x (x % 1024) w hd (by omega) (by omega) c
  · exact walk2 which x (x % 1024) w hd (by omega) (by omega) c
  · exact walk3 which x (x % 1024) w hd (by omega) (by omega) c
end Go.Proofs.Ytjhaoimfgepkgaa.labelForms

