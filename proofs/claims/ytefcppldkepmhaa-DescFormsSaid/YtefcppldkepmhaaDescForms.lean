/- caissonlaw16.DescForms answers true, whatever it is given. No condition. -/
import Derived.Test.YtefcppldkepmhaaDescE
import Derived.Test.YtefcppldkepmhaaDescP
import Derived.Test.YtefcppldkepmhaaBits
namespace Go.Proofs.Ytefcppldkepmhaa.descForms
open Go.RowKit
set_option linter.unusedVariables false
set_option linter.unusedSimpArgs false
theorem bad_any (v : Value) (w : World) (h : ∃ s, v = .string s ∧ getV s = .tuple #[.agg #[.int .i64 0, .int .i64 0, .int .i64 0, .int .i64 0, .int .i64 0], .int .i64 1600]) :
    Calls Try.prog 9 #[v] w fun e' w' => e' = .returned (.tuple #[.agg #[.int .i64 0, .int .i64 0, .int .i64 0, .int .i64 0, .int .i64 0], .int .i64 1600]) ∧ Below w.heap.size w w' := by
  obtain ⟨s, rfl, hs⟩ := h
  exact get_is s _ w hs
set_option maxHeartbeats 8000000 in
theorem walk0 (which x d q j : Int) (w : World) (hx : bits .and .i64 x 1023 = d) (h0 : 0 ≤ d) (h1 : d ≤ 1023) (hq : (1 + d).tmod 200 = q) (hq0 : 0 ≤ q) (hq1 : q < 200) (hi : (IntKind.u64.wrap which).tmod 9 = 0)
    (hj : (IntKind.u64.wrap which).tmod 7 = j) (hj0 : 0 ≤ j) (hj1 : j < 7) (hm : mayD (3 + (1 + d)) (7) (65535) (65535) (255) = false) (hp : putB (3 + (1 + d)) (7) (65535) (65535) (255) = ⟨#[]⟩) (hpe : putE (3 + (1 + d)) (7) (65535) (65535) (255) = 1600) :
    Calls Try.prog 5 #[.int .i64 which, .int .i64 x] w fun e w' => e = .returned (.bool true) ∧ Below w.heap.size w w' := by
  go_enter Try.func5, Try.ntmps5
  go_wp2_with fail
  refine (awakeD _).mono ?_; rintro e w0 ⟨rfl, hbw0⟩
  have hzw0 := hbw0.size; (try simp at hzw0)
  have hBw0 : Below w.heap.size w w0 := by
    refine bthen hbw0 ?_ (by first | omega | (simp; omega) | simp)
    repeat (first | exact Below.refl _ _ | (with_reducible assumption) | (refine Below.drew ?_) | (refine Below.setCell ?_ (by first | omega | (simp; omega) | simp) _) | (refine Below.alloc ?_ (by first | omega | (simp; omega) | simp) _) | (refine bthen (by assumption) ?_ (by first | omega | (simp; omega) | simp)))
  have hvw0 := hBw0.size
  clear hbw0
  go_wp2_with fail
  refine (put_is _ _ _ _ _ ⟨#[3, 7, 255, 255, 255, 255, 255, 0]⟩ 0 _ (by kernel_rfl) (by kernel_rfl)).mono ?_; rintro e w1 ⟨rfl, hbw1⟩
  have hzw1 := hbw1.size; (try simp at hzw1)
  have kw1_0_0 : w1.cell? ⟨w0.heap.size, 0, none⟩ = some (.int .i64 3) := (hbw1.cell (p := ⟨w0.heap.size, 0, none⟩) (by first | omega | (simp; omega) | simp)).trans (by first | (go_simp; done) | ((repeat rw [cell_al (by first | omega | (simp; omega) | simp)]); first | assumption | (go_simp; done)))
  have fw1_0_0 : w1.frozen? ⟨w0.heap.size, 0, none⟩ = false := (hbw1.frozen (p := ⟨w0.heap.size, 0, none⟩) (by first | omega | (simp; omega) | simp)).trans (by first | (go_simp; done) | ((repeat rw [cell_al (by first | omega | (simp; omega) | simp)]); first | assumption | (go_simp; done)))
  have kw1_0_1 : w1.cell? ⟨w0.heap.size, 1, none⟩ = some (.int .i64 7) := (hbw1.cell (p := ⟨w0.heap.size, 1, none⟩) (by first | omega | (simp; omega) | simp)).trans (by first | (go_simp; done) | ((repeat rw [cell_al (by first | omega | (simp; omega) | simp)]); first | assumption | (go_simp; done)))
  have fw1_0_1 : w1.frozen? ⟨w0.heap.size, 1, none⟩ = false := (hbw1.frozen (p := ⟨w0.heap.size, 1, none⟩) (by first | omega | (simp; omega) | simp)).trans (by first | (go_simp; done) | ((repeat rw [cell_al (by first | omega | (simp; omega) | simp)]); first | assumption | (go_simp; done)))
  have kw1_0_2 : w1.cell? ⟨w0.heap.size, 2, none⟩ = some (.int .i64 65535) := (hbw1.cell (p := ⟨w0.heap.size, 2, none⟩) (by first | omega | (simp; omega) | simp)).trans (by first | (go_simp; done) | ((repeat rw [cell_al (by first | omega | (simp; omega) | simp)]); first | assumption | (go_simp; done)))
  have fw1_0_2 : w1.frozen? ⟨w0.heap.size, 2, none⟩ = false := (hbw1.frozen (p := ⟨w0.heap.size, 2, none⟩) (by first | omega | (simp; omega) | simp)).trans (by first | (go_simp; done) | ((repeat rw [cell_al (by first | omega | (simp; omega) | simp)]); first | assumption | (go_simp; done)))
  have kw1_0_3 : w1.cell? ⟨w0.heap.size, 3, none⟩ = some (.int .i64 65535) := (hbw1.cell (p := ⟨w0.heap.size, 3, none⟩) (by first | omega | (simp; omega) | simp)).trans (by first | (go_simp; done) | ((repeat rw [cell_al (by first | omega | (simp; omega) | simp)]); first | assumption | (go_simp; done)))
  have fw1_0_3 : w1.frozen? ⟨w0.heap.size, 3, none⟩ = false := (hbw1.frozen (p := ⟨w0.heap.size, 3, none⟩) (by first | omega | (simp; omega) | simp)).trans (by first | (go_simp; done) | ((repeat rw [cell_al (by first | omega | (simp; omega) | simp)]); first | assumption | (go_simp; done)))
  have kw1_0_4 : w1.cell? ⟨w0.heap.size, 4, none⟩ = some (.int .i64 255) := (hbw1.cell (p := ⟨w0.heap.size, 4, none⟩) (by first | omega | (simp; omega) | simp)).trans (by first | (go_simp; done) | ((repeat rw [cell_al (by first | omega | (simp; omega) | simp)]); first | assumption | (go_simp; done)))
  have fw1_0_4 : w1.frozen? ⟨w0.heap.size, 4, none⟩ = false := (hbw1.frozen (p := ⟨w0.heap.size, 4, none⟩) (by first | omega | (simp; omega) | simp)).trans (by first | (go_simp; done) | ((repeat rw [cell_al (by first | omega | (simp; omega) | simp)]); first | assumption | (go_simp; done)))
  have hsw1_0 : w0.heap.size < w1.heap.size := (by omega)
  have hBw1 : Below w.heap.size w w1 := by
    refine bthen hbw1 ?_ (by first | omega | (simp; omega) | simp)
    repeat (first | exact Below.refl _ _ | (with_reducible assumption) | (refine Below.drew ?_) | (refine Below.setCell ?_ (by first | omega | (simp; omega) | simp) _) | (refine Below.alloc ?_ (by first | omega | (simp; omega) | simp) _) | (refine bthen (by assumption) ?_ (by first | omega | (simp; omega) | simp)))
  have hvw1 := hBw1.size
  clear hBw0 hzw0
  clear hbw1
  go_wp2_with fail
  refine (num_any _ _).mono ?_; rintro e w2 ⟨rfl, rfl⟩
  go_wp2_with fail
  refine (put_is _ _ _ _ _ _ _ _ hp hpe).mono ?_; rintro e w3 ⟨rfl, hbw3⟩
  have hzw3 := hbw3.size; (try simp at hzw3)
  have kw3_0_0 : w3.cell? ⟨w0.heap.size, 0, none⟩ = some (.int .i64 (3 + (1 + d))) := (hbw3.cell (p := ⟨w0.heap.size, 0, none⟩) (by first | omega | (simp; omega) | simp)).trans (by first | (go_simp; done) | ((repeat rw [cell_al (by first | omega | (simp; omega) | simp)]); first | assumption | (go_simp; done)))
  have fw3_0_0 : w3.frozen? ⟨w0.heap.size, 0, none⟩ = false := (hbw3.frozen (p := ⟨w0.heap.size, 0, none⟩) (by first | omega | (simp; omega) | simp)).trans (by first | (go_simp; done) | ((repeat rw [cell_al (by first | omega | (simp; omega) | simp)]); first | assumption | (go_simp; done)))
  have kw3_0_1 : w3.cell? ⟨w0.heap.size, 1, none⟩ = some (.int .i64 (7)) := (hbw3.cell (p := ⟨w0.heap.size, 1, none⟩) (by first | omega | (simp; omega) | simp)).trans (by first | (go_simp; done) | ((repeat rw [cell_al (by first | omega | (simp; omega) | simp)]); first | assumption | (go_simp; done)))
  have fw3_0_1 : w3.frozen? ⟨w0.heap.size, 1, none⟩ = false := (hbw3.frozen (p := ⟨w0.heap.size, 1, none⟩) (by first | omega | (simp; omega) | simp)).trans (by first | (go_simp; done) | ((repeat rw [cell_al (by first | omega | (simp; omega) | simp)]); first | assumption | (go_simp; done)))
  have kw3_0_2 : w3.cell? ⟨w0.heap.size, 2, none⟩ = some (.int .i64 (65535)) := (hbw3.cell (p := ⟨w0.heap.size, 2, none⟩) (by first | omega | (simp; omega) | simp)).trans (by first | (go_simp; done) | ((repeat rw [cell_al (by first | omega | (simp; omega) | simp)]); first | assumption | (go_simp; done)))
  have fw3_0_2 : w3.frozen? ⟨w0.heap.size, 2, none⟩ = false := (hbw3.frozen (p := ⟨w0.heap.size, 2, none⟩) (by first | omega | (simp; omega) | simp)).trans (by first | (go_simp; done) | ((repeat rw [cell_al (by first | omega | (simp; omega) | simp)]); first | assumption | (go_simp; done)))
  have kw3_0_3 : w3.cell? ⟨w0.heap.size, 3, none⟩ = some (.int .i64 (65535)) := (hbw3.cell (p := ⟨w0.heap.size, 3, none⟩) (by first | omega | (simp; omega) | simp)).trans (by first | (go_simp; done) | ((repeat rw [cell_al (by first | omega | (simp; omega) | simp)]); first | assumption | (go_simp; done)))
  have fw3_0_3 : w3.frozen? ⟨w0.heap.size, 3, none⟩ = false := (hbw3.frozen (p := ⟨w0.heap.size, 3, none⟩) (by first | omega | (simp; omega) | simp)).trans (by first | (go_simp; done) | ((repeat rw [cell_al (by first | omega | (simp; omega) | simp)]); first | assumption | (go_simp; done)))
  have kw3_0_4 : w3.cell? ⟨w0.heap.size, 4, none⟩ = some (.int .i64 (255)) := (hbw3.cell (p := ⟨w0.heap.size, 4, none⟩) (by first | omega | (simp; omega) | simp)).trans (by first | (go_simp; done) | ((repeat rw [cell_al (by first | omega | (simp; omega) | simp)]); first | assumption | (go_simp; done)))
  have fw3_0_4 : w3.frozen? ⟨w0.heap.size, 4, none⟩ = false := (hbw3.frozen (p := ⟨w0.heap.size, 4, none⟩) (by first | omega | (simp; omega) | simp)).trans (by first | (go_simp; done) | ((repeat rw [cell_al (by first | omega | (simp; omega) | simp)]); first | assumption | (go_simp; done)))
  have hsw3_0 : w0.heap.size < w3.heap.size := (by omega)
  have hBw3 : Below w.heap.size w w3 := by
    refine bthen hbw3 ?_ (by first | omega | (simp; omega) | simp)
    repeat (first | exact Below.refl _ _ | (with_reducible assumption) | (refine Below.drew ?_) | (refine Below.setCell ?_ (by first | omega | (simp; omega) | simp) _) | (refine Below.alloc ?_ (by first | omega | (simp; omega) | simp) _) | (refine bthen (by assumption) ?_ (by first | omega | (simp; omega) | simp)))
  have hvw3 := hBw3.size
  clear kw1_0_0 fw1_0_0 kw1_0_1 fw1_0_1 kw1_0_2 fw1_0_2 kw1_0_3 fw1_0_3 kw1_0_4 fw1_0_4 hsw1_0 hBw1 hzw1
  clear hbw3
  go_wp2_with fail
  refine name_world fun W hW => ?_
  have kW_0_0 : W.cell? ⟨w0.heap.size, 0, none⟩ = some (.int .i64 (3 + (1 + d))) := by rw [hW]; exact (by first | (go_simp; done) | ((repeat rw [cell_al (by first | omega | (simp; omega) | simp)]); first | assumption | (go_simp; done)))
  have fW_0_0 : W.frozen? ⟨w0.heap.size, 0, none⟩ = false := by rw [hW]; exact (by first | (go_simp; done) | ((repeat rw [cell_al (by first | omega | (simp; omega) | simp)]); first | assumption | (go_simp; done)))
  have kW_0_1 : W.cell? ⟨w0.heap.size, 1, none⟩ = some (.int .i64 (7)) := by rw [hW]; exact (by first | (go_simp; done) | ((repeat rw [cell_al (by first | omega | (simp; omega) | simp)]); first | assumption | (go_simp; done)))
  have fW_0_1 : W.frozen? ⟨w0.heap.size, 1, none⟩ = false := by rw [hW]; exact (by first | (go_simp; done) | ((repeat rw [cell_al (by first | omega | (simp; omega) | simp)]); first | assumption | (go_simp; done)))
  have kW_0_2 : W.cell? ⟨w0.heap.size, 2, none⟩ = some (.int .i64 (65535)) := by rw [hW]; exact (by first | (go_simp; done) | ((repeat rw [cell_al (by first | omega | (simp; omega) | simp)]); first | assumption | (go_simp; done)))
  have fW_0_2 : W.frozen? ⟨w0.heap.size, 2, none⟩ = false := by rw [hW]; exact (by first | (go_simp; done) | ((repeat rw [cell_al (by first | omega | (simp; omega) | simp)]); first | assumption | (go_simp; done)))
  have kW_0_3 : W.cell? ⟨w0.heap.size, 3, none⟩ = some (.int .i64 (65535)) := by rw [hW]; exact (by first | (go_simp; done) | ((repeat rw [cell_al (by first | omega | (simp; omega) | simp)]); first | assumption | (go_simp; done)))
  have fW_0_3 : W.frozen? ⟨w0.heap.size, 3, none⟩ = false := by rw [hW]; exact (by first | (go_simp; done) | ((repeat rw [cell_al (by first | omega | (simp; omega) | simp)]); first | assumption | (go_simp; done)))
  have kW_0_4 : W.cell? ⟨w0.heap.size, 4, none⟩ = some (.int .i64 (255)) := by rw [hW]; exact (by first | (go_simp; done) | ((repeat rw [cell_al (by first | omega | (simp; omega) | simp)]); first | assumption | (go_simp; done)))
  have fW_0_4 : W.frozen? ⟨w0.heap.size, 4, none⟩ = false := by rw [hW]; exact (by first | (go_simp; done) | ((repeat rw [cell_al (by first | omega | (simp; omega) | simp)]); first | assumption | (go_simp; done)))
  have zW_0 : w0.heap.size < W.heap.size := by rw [hW]; first | omega | (simp; omega) | simp
  have hBW : Below w.heap.size w W := by
    rw [hW]
    repeat (first | exact Below.refl _ _ | assumption | (refine Below.drew ?_) | (refine Below.setCell ?_ (by first | omega | (simp; omega) | simp) _) | (refine Below.alloc ?_ (by first | omega | (simp; omega) | simp) _) | (refine bthen (by assumption) ?_ (by first | omega | (simp; omega) | simp)))
  clear hW kw3_0_0 fw3_0_0 kw3_0_1 fw3_0_1 kw3_0_2 fw3_0_2 kw3_0_3 fw3_0_3 kw3_0_4 fw3_0_4 hsw3_0 hBw3
  have hvW := hBW.size
  have HS := SW.start W; have hB3 := Below.refl W.heap.size W; have hc := True.intro; have hcf := True.intro
  go_region
  clear HS hB3 hc hcf
  go_wp2_with fail
  refine (bad_any _ _ (by rcases (show j = 0 ∨ j = 1 ∨ j = 2 ∨ j = 3 ∨ j = 4 ∨ j = 5 ∨ j = 6 by omega) with rfl | rfl | rfl | rfl | rfl | rfl | rfl <;> exact ⟨_, rfl, by kernel_rfl⟩)).mono ?_; rintro e w4 ⟨rfl, hbw4⟩
  have hzw4 := hbw4.size; (try simp at hzw4)
  have kw4_0_0 : w4.cell? ⟨w0.heap.size, 0, none⟩ = some (.int .i64 (3 + (1 + d))) := (hbw4.cell (p := ⟨w0.heap.size, 0, none⟩) (by first | omega | (simp; omega) | simp)).trans (by first | (go_simp; done) | ((repeat rw [cell_al (by first | omega | (simp; omega) | simp)]); first | assumption | (go_simp; done)))
  have fw4_0_0 : w4.frozen? ⟨w0.heap.size, 0, none⟩ = false := (hbw4.frozen (p := ⟨w0.heap.size, 0, none⟩) (by first | omega | (simp; omega) | simp)).trans (by first | (go_simp; done) | ((repeat rw [cell_al (by first | omega | (simp; omega) | simp)]); first | assumption | (go_simp; done)))
  have kw4_0_1 : w4.cell? ⟨w0.heap.size, 1, none⟩ = some (.int .i64 (7)) := (hbw4.cell (p := ⟨w0.heap.size, 1, none⟩) (by first | omega | (simp; omega) | simp)).trans (by first | (go_simp; done) | ((repeat rw [cell_al (by first | omega | (simp; omega) | simp)]); first | assumption | (go_simp; done)))
  have fw4_0_1 : w4.frozen? ⟨w0.heap.size, 1, none⟩ = false := (hbw4.frozen (p := ⟨w0.heap.size, 1, none⟩) (by first | omega | (simp; omega) | simp)).trans (by first | (go_simp; done) | ((repeat rw [cell_al (by first | omega | (simp; omega) | simp)]); first | assumption | (go_simp; done)))
  have kw4_0_2 : w4.cell? ⟨w0.heap.size, 2, none⟩ = some (.int .i64 (65535)) := (hbw4.cell (p := ⟨w0.heap.size, 2, none⟩) (by first | omega | (simp; omega) | simp)).trans (by first | (go_simp; done) | ((repeat rw [cell_al (by first | omega | (simp; omega) | simp)]); first | assumption | (go_simp; done)))
  have fw4_0_2 : w4.frozen? ⟨w0.heap.size, 2, none⟩ = false := (hbw4.frozen (p := ⟨w0.heap.size, 2, none⟩) (by first | omega | (simp; omega) | simp)).trans (by first | (go_simp; done) | ((repeat rw [cell_al (by first | omega | (simp; omega) | simp)]); first | assumption | (go_simp; done)))
  have kw4_0_3 : w4.cell? ⟨w0.heap.size, 3, none⟩ = some (.int .i64 (65535)) := (hbw4.cell (p := ⟨w0.heap.size, 3, none⟩) (by first | omega | (simp; omega) | simp)).trans (by first | (go_simp; done) | ((repeat rw [cell_al (by first | omega | (simp; omega) | simp)]); first | assumption | (go_simp; done)))
  have fw4_0_3 : w4.frozen? ⟨w0.heap.size, 3, none⟩ = false := (hbw4.frozen (p := ⟨w0.heap.size, 3, none⟩) (by first | omega | (simp; omega) | simp)).trans (by first | (go_simp; done) | ((repeat rw [cell_al (by first | omega | (simp; omega) | simp)]); first | assumption | (go_simp; done)))
  have kw4_0_4 : w4.cell? ⟨w0.heap.size, 4, none⟩ = some (.int .i64 (255)) := (hbw4.cell (p := ⟨w0.heap.size, 4, none⟩) (by first | omega | (simp; omega) | simp)).trans (by first | (go_simp; done) | ((repeat rw [cell_al (by first | omega | (simp; omega) | simp)]); first | assumption | (go_simp; done)))
  have fw4_0_4 : w4.frozen? ⟨w0.heap.size, 4, none⟩ = false := (hbw4.frozen (p := ⟨w0.heap.size, 4, none⟩) (by first | omega | (simp; omega) | simp)).trans (by first | (go_simp; done) | ((repeat rw [cell_al (by first | omega | (simp; omega) | simp)]); first | assumption | (go_simp; done)))
  have hsw4_0 : w0.heap.size < w4.heap.size := (by omega)
  have hBw4 : Below w.heap.size w w4 := by
    refine bthen hbw4 ?_ (by first | omega | (simp; omega) | simp)
    repeat (first | exact Below.refl _ _ | (with_reducible assumption) | (refine Below.drew ?_) | (refine Below.setCell ?_ (by first | omega | (simp; omega) | simp) _) | (refine Below.alloc ?_ (by first | omega | (simp; omega) | simp) _) | (refine bthen (by assumption) ?_ (by first | omega | (simp; omega) | simp)))
  have hvw4 := hBw4.size
  clear kW_0_0 kW_0_1 kW_0_2 kW_0_3 kW_0_4 zW_0
  clear hbw4
  go_wp2_with fail
  refine name_calls fun V hV => ?_
  have kV_0_0 : V.cell? ⟨w0.heap.size, 0, none⟩ = some (.int .i64 (3 + (1 + d))) := by rw [hV]; exact (by first | (go_simp; done) | ((repeat rw [cell_al (by first | omega | (simp; omega) | simp)]); first | assumption | (go_simp; done)))
  have fV_0_0 : V.frozen? ⟨w0.heap.size, 0, none⟩ = false := by rw [hV]; exact (by first | (go_simp; done) | ((repeat rw [cell_al (by first | omega | (simp; omega) | simp)]); first | assumption | (go_simp; done)))
  have kV_0_1 : V.cell? ⟨w0.heap.size, 1, none⟩ = some (.int .i64 (7)) := by rw [hV]; exact (by first | (go_simp; done) | ((repeat rw [cell_al (by first | omega | (simp; omega) | simp)]); first | assumption | (go_simp; done)))
  have fV_0_1 : V.frozen? ⟨w0.heap.size, 1, none⟩ = false := by rw [hV]; exact (by first | (go_simp; done) | ((repeat rw [cell_al (by first | omega | (simp; omega) | simp)]); first | assumption | (go_simp; done)))
  have kV_0_2 : V.cell? ⟨w0.heap.size, 2, none⟩ = some (.int .i64 (65535)) := by rw [hV]; exact (by first | (go_simp; done) | ((repeat rw [cell_al (by first | omega | (simp; omega) | simp)]); first | assumption | (go_simp; done)))
  have fV_0_2 : V.frozen? ⟨w0.heap.size, 2, none⟩ = false := by rw [hV]; exact (by first | (go_simp; done) | ((repeat rw [cell_al (by first | omega | (simp; omega) | simp)]); first | assumption | (go_simp; done)))
  have kV_0_3 : V.cell? ⟨w0.heap.size, 3, none⟩ = some (.int .i64 (65535)) := by rw [hV]; exact (by first | (go_simp; done) | ((repeat rw [cell_al (by first | omega | (simp; omega) | simp)]); first | assumption | (go_simp; done)))
  have fV_0_3 : V.frozen? ⟨w0.heap.size, 3, none⟩ = false := by rw [hV]; exact (by first | (go_simp; done) | ((repeat rw [cell_al (by first | omega | (simp; omega) | simp)]); first | assumption | (go_simp; done)))
  have kV_0_4 : V.cell? ⟨w0.heap.size, 4, none⟩ = some (.int .i64 (255)) := by rw [hV]; exact (by first | (go_simp; done) | ((repeat rw [cell_al (by first | omega | (simp; omega) | simp)]); first | assumption | (go_simp; done)))
  have fV_0_4 : V.frozen? ⟨w0.heap.size, 4, none⟩ = false := by rw [hV]; exact (by first | (go_simp; done) | ((repeat rw [cell_al (by first | omega | (simp; omega) | simp)]); first | assumption | (go_simp; done)))
  have zV_0 : w0.heap.size < V.heap.size := by rw [hV]; first | omega | (simp; omega) | simp
  have kV_1_0 : V.cell? ⟨w4.heap.size, 0, none⟩ = some (.int .i64 0) := by rw [hV]; exact (by first | (go_simp; done) | ((repeat rw [cell_al (by first | omega | (simp; omega) | simp)]); first | assumption | (go_simp; done)))
  have kV_1_1 : V.cell? ⟨w4.heap.size, 1, none⟩ = some (.int .i64 0) := by rw [hV]; exact (by first | (go_simp; done) | ((repeat rw [cell_al (by first | omega | (simp; omega) | simp)]); first | assumption | (go_simp; done)))
  have kV_1_2 : V.cell? ⟨w4.heap.size, 2, none⟩ = some (.int .i64 0) := by rw [hV]; exact (by first | (go_simp; done) | ((repeat rw [cell_al (by first | omega | (simp; omega) | simp)]); first | assumption | (go_simp; done)))
  have kV_1_3 : V.cell? ⟨w4.heap.size, 3, none⟩ = some (.int .i64 0) := by rw [hV]; exact (by first | (go_simp; done) | ((repeat rw [cell_al (by first | omega | (simp; omega) | simp)]); first | assumption | (go_simp; done)))
  have kV_1_4 : V.cell? ⟨w4.heap.size, 4, none⟩ = some (.int .i64 0) := by rw [hV]; exact (by first | (go_simp; done) | ((repeat rw [cell_al (by first | omega | (simp; omega) | simp)]); first | assumption | (go_simp; done)))
  have zV_1 : w4.heap.size < V.heap.size := by rw [hV]; first | omega | (simp; omega) | simp
  have hBV : Below w.heap.size w V := by
    rw [hV]
    repeat (first | exact Below.refl _ _ | assumption | (refine Below.drew ?_) | (refine Below.setCell ?_ (by first | omega | (simp; omega) | simp) _) | (refine Below.alloc ?_ (by first | omega | (simp; omega) | simp) _) | (refine bthen (by assumption) ?_ (by first | omega | (simp; omega) | simp)))
  clear hV kw4_0_0 fw4_0_0 kw4_0_1 fw4_0_1 kw4_0_2 fw4_0_2 kw4_0_3 fw4_0_3 kw4_0_4 fw4_0_4 hsw4_0 hBw4
  have hvV := hBV.size
  have HS := SW.start V; have hB3 := Below.refl V.heap.size V; have hc := True.intro; have hcf := True.intro
  go_wp2_with (first
    | (go_at_call 11; (with_reducible refine (num_any _ _).mono ?_); rintro e w3 ⟨rfl, rfl⟩)
    | (go_at_call 12; (with_reducible refine (mayD_is _ _ _ _ _ _ _ hm).mono ?_); rintro e w3 ⟨rfl, hb⟩; have hS' := HS.keep hb; clear hb HS hc hB3 hcf; have HS := hS'; clear hS'; have hc := HS.cells; have hB3 := HS.below; have hcf := HS.frz))
  try go_wp2
  go_returns
  exact ⟨rfl, bthen hB3 hBV hBV.size⟩
set_option maxHeartbeats 8000000 in
theorem walk1 (which x d q j : Int) (w : World) (hx : bits .and .i64 x 1023 = d) (h0 : 0 ≤ d) (h1 : d ≤ 1023) (hq : (1 + d).tmod 200 = q) (hq0 : 0 ≤ q) (hq1 : q < 200) (hi : (IntKind.u64.wrap which).tmod 9 = 1)
    (hj : (IntKind.u64.wrap which).tmod 7 = j) (hj0 : 0 ≤ j) (hj1 : j < 7) (hm : mayD (-(1 + d)) (7) (65535) (65535) (255) = false) (hp : putB (-(1 + d)) (7) (65535) (65535) (255) = ⟨#[]⟩) (hpe : putE (-(1 + d)) (7) (65535) (65535) (255) = 1600) :
    Calls Try.prog 5 #[.int .i64 which, .int .i64 x] w fun e w' => e = .returned (.bool true) ∧ Below w.heap.size w w' := by
  go_enter Try.func5, Try.ntmps5
  go_wp2_with fail
  refine (awakeD _).mono ?_; rintro e w0 ⟨rfl, hbw0⟩
  have hzw0 := hbw0.size; (try simp at hzw0)
  have hBw0 : Below w.heap.size w w0 := by
    refine bthen hbw0 ?_ (by first | omega | (simp; omega) | simp)
    repeat (first | exact Below.refl _ _ | (with_reducible assumption) | (refine Below.drew ?_) | (refine Below.setCell ?_ (by first | omega | (simp; omega) | simp) _) | (refine Below.alloc ?_ (by first | omega | (simp; omega) | simp) _) | (refine bthen (by assumption) ?_ (by first | omega | (simp; omega) | simp)))
  have hvw0 := hBw0.size
  clear hbw0
  go_wp2_with fail
  refine (put_is _ _ _ _ _ ⟨#[3, 7, 255, 255, 255, 255, 255, 0]⟩ 0 _ (by kernel_rfl) (by kernel_rfl)).mono ?_; rintro e w1 ⟨rfl, hbw1⟩
  have hzw1 := hbw1.size; (try simp at hzw1)
  have kw1_0_0 : w1.cell? ⟨w0.heap.size, 0, none⟩ = some (.int .i64 3) := (hbw1.cell (p := ⟨w0.heap.size, 0, none⟩) (by first | omega | (simp; omega) | simp)).trans (by first | (go_simp; done) | ((repeat rw [cell_al (by first | omega | (simp; omega) | simp)]); first | assumption | (go_simp; done)))
  have fw1_0_0 : w1.frozen? ⟨w0.heap.size, 0, none⟩ = false := (hbw1.frozen (p := ⟨w0.heap.size, 0, none⟩) (by first | omega | (simp; omega) | simp)).trans (by first | (go_simp; done) | ((repeat rw [cell_al (by first | omega | (simp; omega) | simp)]); first | assumption | (go_simp; done)))
  have kw1_0_1 : w1.cell? ⟨w0.heap.size, 1, none⟩ = some (.int .i64 7) := (hbw1.cell (p := ⟨w0.heap.size, 1, none⟩) (by first | omega | (simp; omega) | simp)).trans (by first | (go_simp; done) | ((repeat rw [cell_al (by first | omega | (simp; omega) | simp)]); first | assumption | (go_simp; done)))
  have fw1_0_1 : w1.frozen? ⟨w0.heap.size, 1, none⟩ = false := (hbw1.frozen (p := ⟨w0.heap.size, 1, none⟩) (by first | omega | (simp; omega) | simp)).trans (by first | (go_simp; done) | ((repeat rw [cell_al (by first | omega | (simp; omega) | simp)]); first | assumption | (go_simp; done)))
  have kw1_0_2 : w1.cell? ⟨w0.heap.size, 2, none⟩ = some (.int .i64 65535) := (hbw1.cell (p := ⟨w0.heap.size, 2, none⟩) (by first | omega | (simp; omega) | simp)).trans (by first | (go_simp; done) | ((repeat rw [cell_al (by first | omega | (simp; omega) | simp)]); first | assumption | (go_simp; done)))
  have fw1_0_2 : w1.frozen? ⟨w0.heap.size, 2, none⟩ = false := (hbw1.frozen (p := ⟨w0.heap.size, 2, none⟩) (by first | omega | (simp; omega) | simp)).trans (by first | (go_simp; done) | ((repeat rw [cell_al (by first | omega | (simp; omega) | simp)]); first | assumption | (go_simp; done)))
  have kw1_0_3 : w1.cell? ⟨w0.heap.size, 3, none⟩ = some (.int .i64 65535) := (hbw1.cell (p := ⟨w0.heap.size, 3, none⟩) (by first | omega | (simp; omega) | simp)).trans (by first | (go_simp; done) | ((repeat rw [cell_al (by first | omega | (simp; omega) | simp)]); first | assumption | (go_simp; done)))
  have fw1_0_3 : w1.frozen? ⟨w0.heap.size, 3, none⟩ = false := (hbw1.frozen (p := ⟨w0.heap.size, 3, none⟩) (by first | omega | (simp; omega) | simp)).trans (by first | (go_simp; done) | ((repeat rw [cell_al (by first | omega | (simp; omega) | simp)]); first | assumption | (go_simp; done)))
  have kw1_0_4 : w1.cell? ⟨w0.heap.size, 4, none⟩ = some (.int .i64 255) := (hbw1.cell (p := ⟨w0.heap.size, 4, none⟩) (by first | omega | (simp; omega) | simp)).trans (by first | (go_simp; done) | ((repeat rw [cell_al (by first | omega | (simp; omega) | simp)]); first | assumption | (go_simp; done)))
  have fw1_0_4 : w1.frozen? ⟨w0.heap.size, 4, none⟩ = false := (hbw1.frozen (p := ⟨w0.heap.size, 4, none⟩) (by first | omega | (simp; omega) | simp)).trans (by first | (go_simp; done) | ((repeat rw [cell_al (by first | omega | (simp; omega) | simp)]); first | assumption | (go_simp; done)))
  have hsw1_0 : w0.heap.size < w1.heap.size := (by omega)
  have hBw1 : Below w.heap.size w w1 := by
    refine bthen hbw1 ?_ (by first | omega | (simp; omega) | simp)
    repeat (first | exact Below.refl _ _ | (with_reducible assumption) | (refine Below.drew ?_) | (refine Below.setCell ?_ (by first | omega | (simp; omega) | simp) _) | (refine Below.alloc ?_ (by first | omega | (simp; omega) | simp) _) | (refine bthen (by assumption) ?_ (by first | omega | (simp; omega) | simp)))
  have hvw1 := hBw1.size
  clear hBw0 hzw0
  clear hbw1
  go_wp2_with fail
  refine (num_any _ _).mono ?_; rintro e w2 ⟨rfl, rfl⟩
  go_wp2_with fail
  refine (put_is _ _ _ _ _ _ _ _ hp hpe).mono ?_; rintro e w3 ⟨rfl, hbw3⟩
  have hzw3 := hbw3.size; (try simp at hzw3)
  have kw3_0_0 : w3.cell? ⟨w0.heap.size, 0, none⟩ = some (.int .i64 (-(1 + d))) := (hbw3.cell (p := ⟨w0.heap.size, 0, none⟩) (by first | omega | (simp; omega) | simp)).trans (by first | (go_simp; done) | ((repeat rw [cell_al (by first | omega | (simp; omega) | simp)]); first | assumption | (go_simp; done)))
  have fw3_0_0 : w3.frozen? ⟨w0.heap.size, 0, none⟩ = false := (hbw3.frozen (p := ⟨w0.heap.size, 0, none⟩) (by first | omega | (simp; omega) | simp)).trans (by first | (go_simp; done) | ((repeat rw [cell_al (by first | omega | (simp; omega) | simp)]); first | assumption | (go_simp; done)))
  have kw3_0_1 : w3.cell? ⟨w0.heap.size, 1, none⟩ = some (.int .i64 (7)) := (hbw3.cell (p := ⟨w0.heap.size, 1, none⟩) (by first | omega | (simp; omega) | simp)).trans (by first | (go_simp; done) | ((repeat rw [cell_al (by first | omega | (simp; omega) | simp)]); first | assumption | (go_simp; done)))
  have fw3_0_1 : w3.frozen? ⟨w0.heap.size, 1, none⟩ = false := (hbw3.frozen (p := ⟨w0.heap.size, 1, none⟩) (by first | omega | (simp; omega) | simp)).trans (by first | (go_simp; done) | ((repeat rw [cell_al (by first | omega | (simp; omega) | simp)]); first | assumption | (go_simp; done)))
  have kw3_0_2 : w3.cell? ⟨w0.heap.size, 2, none⟩ = some (.int .i64 (65535)) := (hbw3.cell (p := ⟨w0.heap.size, 2, none⟩) (by first | omega | (simp; omega) | simp)).trans (by first | (go_simp; done) | ((repeat rw [cell_al (by first | omega | (simp; omega) | simp)]); first | assumption | (go_simp; done)))
  have fw3_0_2 : w3.frozen? ⟨w0.heap.size, 2, none⟩ = false := (hbw3.frozen (p := ⟨w0.heap.size, 2, none⟩) (by first | omega | (simp; omega) | simp)).trans (by first | (go_simp; done) | ((repeat rw [cell_al (by first | omega | (simp; omega) | simp)]); first | assumption | (go_simp; done)))
  have kw3_0_3 : w3.cell? ⟨w0.heap.size, 3, none⟩ = some (.int .i64 (65535)) := (hbw3.cell (p := ⟨w0.heap.size, 3, none⟩) (by first | omega | (simp; omega) | simp)).trans (by first | (go_simp; done) | ((repeat rw [cell_al (by first | omega | (simp; omega) | simp)]); first | assumption | (go_simp; done)))
  have fw3_0_3 : w3.frozen? ⟨w0.heap.size, 3, none⟩ = false := (hbw3.frozen (p := ⟨w0.heap.size, 3, none⟩) (by first | omega | (simp; omega) | simp)).trans (by first | (go_simp; done) | ((repeat rw [cell_al (by first | omega | (simp; omega) | simp)]); first | assumption | (go_simp; done)))
  have kw3_0_4 : w3.cell? ⟨w0.heap.size, 4, none⟩ = some (.int .i64 (255)) := (hbw3.cell (p := ⟨w0.heap.size, 4, none⟩) (by first | omega | (simp; omega) | simp)).trans (by first | (go_simp; done) | ((repeat rw [cell_al (by first | omega | (simp; omega) | simp)]); first | assumption | (go_simp; done)))
  have fw3_0_4 : w3.frozen? ⟨w0.heap.size, 4, none⟩ = false := (hbw3.frozen (p := ⟨w0.heap.size, 4, none⟩) (by first | omega | (simp; omega) | simp)).trans (by first | (go_simp; done) | ((repeat rw [cell_al (by first | omega | (simp; omega) | simp)]); first | assumption | (go_simp; done)))
  have hsw3_0 : w0.heap.size < w3.heap.size := (by omega)
  have hBw3 : Below w.heap.size w w3 := by
    refine bthen hbw3 ?_ (by first | omega | (simp; omega) | simp)
    repeat (first | exact Below.refl _ _ | (with_reducible assumption) | (refine Below.drew ?_) | (refine Below.setCell ?_ (by first | omega | (simp; omega) | simp) _) | (refine Below.alloc ?_ (by first | omega | (simp; omega) | simp) _) | (refine bthen (by assumption) ?_ (by first | omega | (simp; omega) | simp)))
  have hvw3 := hBw3.size
  clear kw1_0_0 fw1_0_0 kw1_0_1 fw1_0_1 kw1_0_2 fw1_0_2 kw1_0_3 fw1_0_3 kw1_0_4 fw1_0_4 hsw1_0 hBw1 hzw1
  clear hbw3
  go_wp2_with fail
  refine name_world fun W hW => ?_
  have kW_0_0 : W.cell? ⟨w0.heap.size, 0, none⟩ = some (.int .i64 (-(1 + d))) := by rw [hW]; exact (by first | (go_simp; done) | ((repeat rw [cell_al (by first | omega | (simp; omega) | simp)]); first | assumption | (go_simp; done)))
  have fW_0_0 : W.frozen? ⟨w0.heap.size, 0, none⟩ = false := by rw [hW]; exact (by first | (go_simp; done) | ((repeat rw [cell_al (by first | omega | (simp; omega) | simp)]); first | assumption | (go_simp; done)))
  have kW_0_1 : W.cell? ⟨w0.heap.size, 1, none⟩ = some (.int .i64 (7)) := by rw [hW]; exact (by first | (go_simp; done) | ((repeat rw [cell_al (by first | omega | (simp; omega) | simp)]); first | assumption | (go_simp; done)))
  have fW_0_1 : W.frozen? ⟨w0.heap.size, 1, none⟩ = false := by rw [hW]; exact (by first | (go_simp; done) | ((repeat rw [cell_al (by first | omega | (simp; omega) | simp)]); first | assumption | (go_simp; done)))
  have kW_0_2 : W.cell? ⟨w0.heap.size, 2, none⟩ = some (.int .i64 (65535)) := by rw [hW]; exact (by first | (go_simp; done) | ((repeat rw [cell_al (by first | omega | (simp; omega) | simp)]); first | assumption | (go_simp; done)))
  have fW_0_2 : W.frozen? ⟨w0.heap.size, 2, none⟩ = false := by rw [hW]; exact (by first | (go_simp; done) | ((repeat rw [cell_al (by first | omega | (simp; omega) | simp)]); first | assumption | (go_simp; done)))
  have kW_0_3 : W.cell? ⟨w0.heap.size, 3, none⟩ = some (.int .i64 (65535)) := by rw [hW]; exact (by first | (go_simp; done) | ((repeat rw [cell_al (by first | omega | (simp; omega) | simp)]); first | assumption | (go_simp; done)))
  have fW_0_3 : W.frozen? ⟨w0.heap.size, 3, none⟩ = false := by rw [hW]; exact (by first | (go_simp; done) | ((repeat rw [cell_al (by first | omega | (simp; omega) | simp)]); first | assumption | (go_simp; done)))
  have kW_0_4 : W.cell? ⟨w0.heap.size, 4, none⟩ = some (.int .i64 (255)) := by rw [hW]; exact (by first | (go_simp; done) | ((repeat rw [cell_al (by first | omega | (simp; omega) | simp)]); first | assumption | (go_simp; done)))
  have fW_0_4 : W.frozen? ⟨w0.heap.size, 4, none⟩ = false := by rw [hW]; exact (by first | (go_simp; done) | ((repeat rw [cell_al (by first | omega | (simp; omega) | simp)]); first | assumption | (go_simp; done)))
  have zW_0 : w0.heap.size < W.heap.size := by rw [hW]; first | omega | (simp; omega) | simp
  have hBW : Below w.heap.size w W := by
    rw [hW]
    repeat (first | exact Below.refl _ _ | assumption | (refine Below.drew ?_) | (refine Below.setCell ?_ (by first | omega | (simp; omega) | simp) _) | (refine Below.alloc ?_ (by first | omega | (simp; omega) | simp) _) | (refine bthen (by assumption) ?_ (by first | omega | (simp; omega) | simp)))
  clear hW kw3_0_0 fw3_0_0 kw3_0_1 fw3_0_1 kw3_0_2 fw3_0_2 kw3_0_3 fw3_0_3 kw3_0_4 fw3_0_4 hsw3_0 hBw3
  have hvW := hBW.size
  have HS := SW.start W; have hB3 := Below.refl W.heap.size W; have hc := True.intro; have hcf := True.intro
  go_region
  clear HS hB3 hc hcf
  go_wp2_with fail
  refine (bad_any _ _ (by rcases (show j = 0 ∨ j = 1 ∨ j = 2 ∨ j = 3 ∨ j = 4 ∨ j = 5 ∨ j = 6 by omega) with rfl | rfl | rfl | rfl | rfl | rfl | rfl <;> exact ⟨_, rfl, by kernel_rfl⟩)).mono ?_; rintro e w4 ⟨rfl, hbw4⟩
  have hzw4 := hbw4.size; (try simp at hzw4)
  have kw4_0_0 : w4.cell? ⟨w0.heap.size, 0, none⟩ = some (.int .i64 (-(1 + d))) := (hbw4.cell (p := ⟨w0.heap.size, 0, none⟩) (by first | omega | (simp; omega) | simp)).trans (by first | (go_simp; done) | ((repeat rw [cell_al (by first | omega | (simp; omega) | simp)]); first | assumption | (go_simp; done)))
  have fw4_0_0 : w4.frozen? ⟨w0.heap.size, 0, none⟩ = false := (hbw4.frozen (p := ⟨w0.heap.size, 0, none⟩) (by first | omega | (simp; omega) | simp)).trans (by first | (go_simp; done) | ((repeat rw [cell_al (by first | omega | (simp; omega) | simp)]); first | assumption | (go_simp; done)))
  have kw4_0_1 : w4.cell? ⟨w0.heap.size, 1, none⟩ = some (.int .i64 (7)) := (hbw4.cell (p := ⟨w0.heap.size, 1, none⟩) (by first | omega | (simp; omega) | simp)).trans (by first | (go_simp; done) | ((repeat rw [cell_al (by first | omega | (simp; omega) | simp)]); first | assumption | (go_simp; done)))
  have fw4_0_1 : w4.frozen? ⟨w0.heap.size, 1, none⟩ = false := (hbw4.frozen (p := ⟨w0.heap.size, 1, none⟩) (by first | omega | (simp; omega) | simp)).trans (by first | (go_simp; done) | ((repeat rw [cell_al (by first | omega | (simp; omega) | simp)]); first | assumption | (go_simp; done)))
  have kw4_0_2 : w4.cell? ⟨w0.heap.size, 2, none⟩ = some (.int .i64 (65535)) := (hbw4.cell (p := ⟨w0.heap.size, 2, none⟩) (by first | omega | (simp; omega) | simp)).trans (by first | (go_simp; done) | ((repeat rw [cell_al (by first | omega | (simp; omega) | simp)]); first | assumption | (go_simp; done)))
  have fw4_0_2 : w4.frozen? ⟨w0.heap.size, 2, none⟩ = false := (hbw4.frozen (p := ⟨w0.heap.size, 2, none⟩) (by first | omega | (simp; omega) | simp)).trans (by first | (go_simp; done) | ((repeat rw [cell_al (by first | omega | (simp; omega) | simp)]); first | assumption | (go_simp; done)))
  have kw4_0_3 : w4.cell? ⟨w0.heap.size, 3, none⟩ = some (.int .i64 (65535)) := (hbw4.cell (p := ⟨w0.heap.size, 3, none⟩) (by first | omega | (simp; omega) | simp)).trans (by first | (go_simp; done) | ((repeat rw [cell_al (by first | omega | (simp; omega) | simp)]); first | assumption | (go_simp; done)))
  have fw4_0_3 : w4.frozen? ⟨w0.heap.size, 3, none⟩ = false := (hbw4.frozen (p := ⟨w0.heap.size, 3, none⟩) (by first | omega | (simp; omega) | simp)).trans (by first | (go_simp; done) | ((repeat rw [cell_al (by first | omega | (simp; omega) | simp)]); first | assumption | (go_simp; done)))
  have kw4_0_4 : w4.cell? ⟨w0.heap.size, 4, none⟩ = some (.int .i64 (255)) := (hbw4.cell (p := ⟨w0.heap.size, 4, none⟩) (by first | omega | (simp; omega) | simp)).trans (by first | (go_simp; done) | ((repeat rw [cell_al (by first | omega | (simp; omega) | simp)]); first | assumption | (go_simp; done)))
  have fw4_0_4 : w4.frozen? ⟨w0.heap.size, 4, none⟩ = false := (hbw4.frozen (p := ⟨w0.heap.size, 4, none⟩) (by first | omega | (simp; omega) | simp)).trans (by first | (go_simp; done) | ((repeat rw [cell_al (by first | omega | (simp; omega) | simp)]); first | assumption | (go_simp; done)))
  have hsw4_0 : w0.heap.size < w4.heap.size := (by omega)
  have hBw4 : Below w.heap.size w w4 := by
    refine bthen hbw4 ?_ (by first | omega | (simp; omega) | simp)
    repeat (first | exact Below.refl _ _ | (with_reducible assumption) | (refine Below.drew ?_) | (refine Below.setCell ?_ (by first | omega | (simp; omega) | simp) _) | (refine Below.alloc ?_ (by first | omega | (simp; omega) | simp) _) | (refine bthen (by assumption) ?_ (by first | omega | (simp; omega) | simp)))
  have hvw4 := hBw4.size
  clear kW_0_0 kW_0_1 kW_0_2 kW_0_3 kW_0_4 zW_0
  clear hbw4
  go_wp2_with fail
  refine name_calls fun V hV => ?_
  have kV_0_0 : V.cell? ⟨w0.heap.size, 0, none⟩ = some (.int .i64 (-(1 + d))) := by rw [hV]; exact (by first | (go_simp; done) | ((repeat rw [cell_al (by first | omega | (simp; omega) | simp)]); first | assumption | (go_simp; done)))
  have fV_0_0 : V.frozen? ⟨w0.heap.size, 0, none⟩ = false := by rw [hV]; exact (by first | (go_simp; done) | ((repeat rw [cell_al (by first | omega | (simp; omega) | simp)]); first | assumption | (go_simp; done)))
  have kV_0_1 : V.cell? ⟨w0.heap.size, 1, none⟩ = some (.int .i64 (7)) := by rw [hV]; exact (by first | (go_simp; done) | ((repeat rw [cell_al (by first | omega | (simp; omega) | simp)]); first | assumption | (go_simp; done)))
  have fV_0_1 : V.frozen? ⟨w0.heap.size, 1, none⟩ = false := by rw [hV]; exact (by first | (go_simp; done) | ((repeat rw [cell_al (by first | omega | (simp; omega) | simp)]); first | assumption | (go_simp; done)))
  have kV_0_2 : V.cell? ⟨w0.heap.size, 2, none⟩ = some (.int .i64 (65535)) := by rw [hV]; exact (by first | (go_simp; done) | ((repeat rw [cell_al (by first | omega | (simp; omega) | simp)]); first | assumption | (go_simp; done)))
  have fV_0_2 : V.frozen? ⟨w0.heap.size, 2, none⟩ = false := by rw [hV]; exact (by first | (go_simp; done) | ((repeat rw [cell_al (by first | omega | (simp; omega) | simp)]); first | assumption | (go_simp; done)))
  have kV_0_3 : V.cell? ⟨w0.heap.size, 3, none⟩ = some (.int .i64 (65535)) := by rw [hV]; exact (by first | (go_simp; done) | ((repeat rw [cell_al (by first | omega | (simp; omega) | simp)]); first | assumption | (go_simp; done)))
  have fV_0_3 : V.frozen? ⟨w0.heap.size, 3, none⟩ = false := by rw [hV]; exact (by first | (go_simp; done) | ((repeat rw [cell_al (by first | omega | (simp; omega) | simp)]); first | assumption | (go_simp; done)))
  have kV_0_4 : V.cell? ⟨w0.heap.size, 4, none⟩ = some (.int .i64 (255)) := by rw [hV]; exact (by first | (go_simp; done) | ((repeat rw [cell_al (by first | omega | (simp; omega) | simp)]); first | assumption | (go_simp; done)))
  have fV_0_4 : V.frozen? ⟨w0.heap.size, 4, none⟩ = false := by rw [hV]; exact (by first | (go_simp; done) | ((repeat rw [cell_al (by first | omega | (simp; omega) | simp)]); first | assumption | (go_simp; done)))
  have zV_0 : w0.heap.size < V.heap.size := by rw [hV]; first | omega | (simp; omega) | simp
  have kV_1_0 : V.cell? ⟨w4.heap.size, 0, none⟩ = some (.int .i64 0) := by rw [hV]; exact (by first | (go_simp; done) | ((repeat rw [cell_al (by first | omega | (simp; omega) | simp)]); first | assumption | (go_simp; done)))
  have kV_1_1 : V.cell? ⟨w4.heap.size, 1, none⟩ = some (.int .i64 0) := by rw [hV]; exact (by first | (go_simp; done) | ((repeat rw [cell_al (by first | omega | (simp; omega) | simp)]); first | assumption | (go_simp; done)))
  have kV_1_2 : V.cell? ⟨w4.heap.size, 2, none⟩ = some (.int .i64 0) := by rw [hV]; exact (by first | (go_simp; done) | ((repeat rw [cell_al (by first | omega | (simp; omega) | simp)]); first | assumption | (go_simp; done)))
  have kV_1_3 : V.cell? ⟨w4.heap.size, 3, none⟩ = some (.int .i64 0) := by rw [hV]; exact (by first | (go_simp; done) | ((repeat rw [cell_al (by first | omega | (simp; omega) | simp)]); first | assumption | (go_simp; done)))
  have kV_1_4 : V.cell? ⟨w4.heap.size, 4, none⟩ = some (.int .i64 0) := by rw [hV]; exact (by first | (go_simp; done) | ((repeat rw [cell_al (by first | omega | (simp; omega) | simp)]); first | assumption | (go_simp; done)))
  have zV_1 : w4.heap.size < V.heap.size := by rw [hV]; first | omega | (simp; omega) | simp
  have hBV : Below w.heap.size w V := by
    rw [hV]
    repeat (first | exact Below.refl _ _ | assumption | (refine Below.drew ?_) | (refine Below.setCell ?_ (by first | omega | (simp; omega) | simp) _) | (refine Below.alloc ?_ (by first | omega | (simp; omega) | simp) _) | (refine bthen (by assumption) ?_ (by first | omega | (simp; omega) | simp)))
  clear hV kw4_0_0 fw4_0_0 kw4_0_1 fw4_0_1 kw4_0_2 fw4_0_2 kw4_0_3 fw4_0_3 kw4_0_4 fw4_0_4 hsw4_0 hBw4
  have hvV := hBV.size
  have HS := SW.start V; have hB3 := Below.refl V.heap.size V; have hc := True.intro; have hcf := True.intro
  go_wp2_with (first
    | (go_at_call 11; (with_reducible refine (num_any _ _).mono ?_); rintro e w3 ⟨rfl, rfl⟩)
    | (go_at_call 12; (with_reducible refine (mayD_is _ _ _ _ _ _ _ hm).mono ?_); rintro e w3 ⟨rfl, hb⟩; have hS' := HS.keep hb; clear hb HS hc hB3 hcf; have HS := hS'; clear hS'; have hc := HS.cells; have hB3 := HS.below; have hcf := HS.frz))
  try go_wp2
  go_returns
  exact ⟨rfl, bthen hB3 hBV hBV.size⟩
set_option maxHeartbeats 8000000 in
theorem walk2 (which x d q j : Int) (w : World) (hx : bits .and .i64 x 1023 = d) (h0 : 0 ≤ d) (h1 : d ≤ 1023) (hq : (1 + d).tmod 200 = q) (hq0 : 0 ≤ q) (hq1 : q < 200) (hi : (IntKind.u64.wrap which).tmod 9 = 2)
    (hj : (IntKind.u64.wrap which).tmod 7 = j) (hj0 : 0 ≤ j) (hj1 : j < 7) (hm : mayD (3) (8 + q) (65535) (65535) (255) = false) (hp : putB (3) (8 + q) (65535) (65535) (255) = ⟨#[]⟩) (hpe : putE (3) (8 + q) (65535) (65535) (255) = 1600) :
    Calls Try.prog 5 #[.int .i64 which, .int .i64 x] w fun e w' => e = .returned (.bool true) ∧ Below w.heap.size w w' := by
  go_enter Try.func5, Try.ntmps5
  go_wp2_with fail
  refine (awakeD _).mono ?_; rintro e w0 ⟨rfl, hbw0⟩
  have hzw0 := hbw0.size; (try simp at hzw0)
  have hBw0 : Below w.heap.size w w0 := by
    refine bthen hbw0 ?_ (by first | omega | (simp; omega) | simp)
    repeat (first | exact Below.refl _ _ | (with_reducible assumption) | (refine Below.drew ?_) | (refine Below.setCell ?_ (by first | omega | (simp; omega) | simp) _) | (refine Below.alloc ?_ (by first | omega | (simp; omega) | simp) _) | (refine bthen (by assumption) ?_ (by first | omega | (simp; omega) | simp)))
  have hvw0 := hBw0.size
  clear hbw0
  go_wp2_with fail
  refine (put_is _ _ _ _ _ ⟨#[3, 7, 255, 255, 255, 255, 255, 0]⟩ 0 _ (by kernel_rfl) (by kernel_rfl)).mono ?_; rintro e w1 ⟨rfl, hbw1⟩
  have hzw1 := hbw1.size; (try simp at hzw1)
  have kw1_0_0 : w1.cell? ⟨w0.heap.size, 0, none⟩ = some (.int .i64 3) := (hbw1.cell (p := ⟨w0.heap.size, 0, none⟩) (by first | omega | (simp; omega) | simp)).trans (by first | (go_simp; done) | ((repeat rw [cell_al (by first | omega | (simp; omega) | simp)]); first | assumption | (go_simp; done)))
  have fw1_0_0 : w1.frozen? ⟨w0.heap.size, 0, none⟩ = false := (hbw1.frozen (p := ⟨w0.heap.size, 0, none⟩) (by first | omega | (simp; omega) | simp)).trans (by first | (go_simp; done) | ((repeat rw [cell_al (by first | omega | (simp; omega) | simp)]); first | assumption | (go_simp; done)))
  have kw1_0_1 : w1.cell? ⟨w0.heap.size, 1, none⟩ = some (.int .i64 7) := (hbw1.cell (p := ⟨w0.heap.size, 1, none⟩) (by first | omega | (simp; omega) | simp)).trans (by first | (go_simp; done) | ((repeat rw [cell_al (by first | omega | (simp; omega) | simp)]); first | assumption | (go_simp; done)))
  have fw1_0_1 : w1.frozen? ⟨w0.heap.size, 1, none⟩ = false := (hbw1.frozen (p := ⟨w0.heap.size, 1, none⟩) (by first | omega | (simp; omega) | simp)).trans (by first | (go_simp; done) | ((repeat rw [cell_al (by first | omega | (simp; omega) | simp)]); first | assumption | (go_simp; done)))
  have kw1_0_2 : w1.cell? ⟨w0.heap.size, 2, none⟩ = some (.int .i64 65535) := (hbw1.cell (p := ⟨w0.heap.size, 2, none⟩) (by first | omega | (simp; omega) | simp)).trans (by first | (go_simp; done) | ((repeat rw [cell_al (by first | omega | (simp; omega) | simp)]); first | assumption | (go_simp; done)))
  have fw1_0_2 : w1.frozen? ⟨w0.heap.size, 2, none⟩ = false := (hbw1.frozen (p := ⟨w0.heap.size, 2, none⟩) (by first | omega | (simp; omega) | simp)).trans (by first | (go_simp; done) | ((repeat rw [cell_al (by first | omega | (simp; omega) | simp)]); first | assumption | (go_simp; done)))
  have kw1_0_3 : w1.cell? ⟨w0.heap.size, 3, none⟩ = some (.int .i64 65535) := (hbw1.cell (p := ⟨w0.heap.size, 3, none⟩) (by first | omega | (simp; omega) | simp)).trans (by first | (go_simp; done) | ((repeat rw [cell_al (by first | omega | (simp; omega) | simp)]); first | assumption | (go_simp; done)))
  have fw1_0_3 : w1.frozen? ⟨w0.heap.size, 3, none⟩ = false := (hbw1.frozen (p := ⟨w0.heap.size, 3, none⟩) (by first | omega | (simp; omega) | simp)).trans (by first | (go_simp; done) | ((repeat rw [cell_al (by first | omega | (simp; omega) | simp)]); first | assumption | (go_simp; done)))
  have kw1_0_4 : w1.cell? ⟨w0.heap.size, 4, none⟩ = some (.int .i64 255) := (hbw1.cell (p := ⟨w0.heap.size, 4, none⟩) (by first | omega | (simp; omega) | simp)).trans (by first | (go_simp; done) | ((repeat rw [cell_al (by first | omega | (simp; omega) | simp)]); first | assumption | (go_simp; done)))
  have fw1_0_4 : w1.frozen? ⟨w0.heap.size, 4, none⟩ = false := (hbw1.frozen (p := ⟨w0.heap.size, 4, none⟩) (by first | omega | (simp; omega) | simp)).trans (by first | (go_simp; done) | ((repeat rw [cell_al (by first | omega | (simp; omega) | simp)]); first | assumption | (go_simp; done)))
  have hsw1_0 : w0.heap.size < w1.heap.size := (by omega)
  have hBw1 : Below w.heap.size w w1 := by
    refine bthen hbw1 ?_ (by first | omega | (simp; omega) | simp)
    repeat (first | exact Below.refl _ _ | (with_reducible assumption) | (refine Below.drew ?_) | (refine Below.setCell ?_ (by first | omega | (simp; omega) | simp) _) | (refine Below.alloc ?_ (by first | omega | (simp; omega) | simp) _) | (refine bthen (by assumption) ?_ (by first | omega | (simp; omega) | simp)))
  have hvw1 := hBw1.size
  clear hBw0 hzw0
  clear hbw1
  go_wp2_with fail
  refine (num_any _ _).mono ?_; rintro e w2 ⟨rfl, rfl⟩
  go_wp2_with fail
  refine (put_is _ _ _ _ _ _ _ _ hp hpe).mono ?_; rintro e w3 ⟨rfl, hbw3⟩
  have hzw3 := hbw3.size; (try simp at hzw3)
  have kw3_0_0 : w3.cell? ⟨w0.heap.size, 0, none⟩ = some (.int .i64 (3)) := (hbw3.cell (p := ⟨w0.heap.size, 0, none⟩) (by first | omega | (simp; omega) | simp)).trans (by first | (go_simp; done) | ((repeat rw [cell_al (by first | omega | (simp; omega) | simp)]); first | assumption | (go_simp; done)))
  have fw3_0_0 : w3.frozen? ⟨w0.heap.size, 0, none⟩ = false := (hbw3.frozen (p := ⟨w0.heap.size, 0, none⟩) (by first | omega | (simp; omega) | simp)).trans (by first | (go_simp; done) | ((repeat rw [cell_al (by first | omega | (simp; omega) | simp)]); first | assumption | (go_simp; done)))
  have kw3_0_1 : w3.cell? ⟨w0.heap.size, 1, none⟩ = some (.int .i64 (8 + q)) := (hbw3.cell (p := ⟨w0.heap.size, 1, none⟩) (by first | omega | (simp; omega) | simp)).trans (by first | (go_simp; done) | ((repeat rw [cell_al (by first | omega | (simp; omega) | simp)]); first | assumption | (go_simp; done)))
  have fw3_0_1 : w3.frozen? ⟨w0.heap.size, 1, none⟩ = false := (hbw3.frozen (p := ⟨w0.heap.size, 1, none⟩) (by first | omega | (simp; omega) | simp)).trans (by first | (go_simp; done) | ((repeat rw [cell_al (by first | omega | (simp; omega) | simp)]); first | assumption | (go_simp; done)))
  have kw3_0_2 : w3.cell? ⟨w0.heap.size, 2, none⟩ = some (.int .i64 (65535)) := (hbw3.cell (p := ⟨w0.heap.size, 2, none⟩) (by first | omega | (simp; omega) | simp)).trans (by first | (go_simp; done) | ((repeat rw [cell_al (by first | omega | (simp; omega) | simp)]); first | assumption | (go_simp; done)))
  have fw3_0_2 : w3.frozen? ⟨w0.heap.size, 2, none⟩ = false := (hbw3.frozen (p := ⟨w0.heap.size, 2, none⟩) (by first | omega | (simp; omega) | simp)).trans (by first | (go_simp; done) | ((repeat rw [cell_al (by first | omega | (simp; omega) | simp)]); first | assumption | (go_simp; done)))
  have kw3_0_3 : w3.cell? ⟨w0.heap.size, 3, none⟩ = some (.int .i64 (65535)) := (hbw3.cell (p := ⟨w0.heap.size, 3, none⟩) (by first | omega | (simp; omega) | simp)).trans (by first | (go_simp; done) | ((repeat rw [cell_al (by first | omega | (simp; omega) | simp)]); first | assumption | (go_simp; done)))
  have fw3_0_3 : w3.frozen? ⟨w0.heap.size, 3, none⟩ = false := (hbw3.frozen (p := ⟨w0.heap.size, 3, none⟩) (by first | omega | (simp; omega) | simp)).trans (by first | (go_simp; done) | ((repeat rw [cell_al (by first | omega | (simp; omega) | simp)]); first | assumption | (go_simp; done)))
  have kw3_0_4 : w3.cell? ⟨w0.heap.size, 4, none⟩ = some (.int .i64 (255)) := (hbw3.cell (p := ⟨w0.heap.size, 4, none⟩) (by first | omega | (simp; omega) | simp)).trans (by first | (go_simp; done) | ((repeat rw [cell_al (by first | omega | (simp; omega) | simp)]); first | assumption | (go_simp; done)))
  have fw3_0_4 : w3.frozen? ⟨w0.heap.size, 4, none⟩ = false := (hbw3.frozen (p := ⟨w0.heap.size, 4, none⟩) (by first | omega | (simp; omega) | simp)).trans (by first | (go_simp; done) | ((repeat rw [cell_al (by first | omega | (simp; omega) | simp)]); first | assumption | (go_simp; done)))
  have hsw3_0 : w0.heap.size < w3.heap.size := (by omega)
  have hBw3 : Below w.heap.size w w3 := by
    refine bthen hbw3 ?_ (by first | omega | (simp; omega) | simp)
    repeat (first | exact Below.refl _ _ | (with_reducible assumption) | (refine Below.drew ?_) | (refine Below.setCell ?_ (by first | omega | (simp; omega) | simp) _) | (refine Below.alloc ?_ (by first | omega | (simp; omega) | simp) _) | (refine bthen (by assumption) ?_ (by first | omega | (simp; omega) | simp)))
  have hvw3 := hBw3.size
  clear kw1_0_0 fw1_0_0 kw1_0_1 fw1_0_1 kw1_0_2 fw1_0_2 kw1_0_3 fw1_0_3 kw1_0_4 fw1_0_4 hsw1_0 hBw1 hzw1
  clear hbw3
  go_wp2_with fail
  refine name_world fun W hW => ?_
  have kW_0_0 : W.cell? ⟨w0.heap.size, 0, none⟩ = some (.int .i64 (3)) := by rw [hW]; exact (by first | (go_simp; done) | ((repeat rw [cell_al (by first | omega | (simp; omega) | simp)]); first | assumption | (go_simp; done)))
  have fW_0_0 : W.frozen? ⟨w0.heap.size, 0, none⟩ = false := by rw [hW]; exact (by first | (go_simp; done) | ((repeat rw [cell_al (by first | omega | (simp; omega) | simp)]); first | assumption | (go_simp; done)))
  have kW_0_1 : W.cell? ⟨w0.heap.size, 1, none⟩ = some (.int .i64 (8 + q)) := by rw [hW]; exact (by first | (go_simp; done) | ((repeat rw [cell_al (by first | omega | (simp; omega) | simp)]); first | assumption | (go_simp; done)))
  have fW_0_1 : W.frozen? ⟨w0.heap.size, 1, none⟩ = false := by rw [hW]; exact (by first | (go_simp; done) | ((repeat rw [cell_al (by first | omega | (simp; omega) | simp)]); first | assumption | (go_simp; done)))
  have kW_0_2 : W.cell? ⟨w0.heap.size, 2, none⟩ = some (.int .i64 (65535)) := by rw [hW]; exact (by first | (go_simp; done) | ((repeat rw [cell_al (by first | omega | (simp; omega) | simp)]); first | assumption | (go_simp; done)))
  have fW_0_2 : W.frozen? ⟨w0.heap.size, 2, none⟩ = false := by rw [hW]; exact (by first | (go_simp; done) | ((repeat rw [cell_al (by first | omega | (simp; omega) | simp)]); first | assumption | (go_simp; done)))
  have kW_0_3 : W.cell? ⟨w0.heap.size, 3, none⟩ = some (.int .i64 (65535)) := by rw [hW]; exact (by first | (go_simp; done) | ((repeat rw [cell_al (by first | omega | (simp; omega) | simp)]); first | assumption | (go_simp; done)))
  have fW_0_3 : W.frozen? ⟨w0.heap.size, 3, none⟩ = false := by rw [hW]; exact (by first | (go_simp; done) | ((repeat rw [cell_al (by first | omega | (simp; omega) | simp)]); first | assumption | (go_simp; done)))
  have kW_0_4 : W.cell? ⟨w0.heap.size, 4, none⟩ = some (.int .i64 (255)) := by rw [hW]; exact (by first | (go_simp; done) | ((repeat rw [cell_al (by first | omega | (simp; omega) | simp)]); first | assumption | (go_simp; done)))
  have fW_0_4 : W.frozen? ⟨w0.heap.size, 4, none⟩ = false := by rw [hW]; exact (by first | (go_simp; done) | ((repeat rw [cell_al (by first | omega | (simp; omega) | simp)]); first | assumption | (go_simp; done)))
  have zW_0 : w0.heap.size < W.heap.size := by rw [hW]; first | omega | (simp; omega) | simp
  have hBW : Below w.heap.size w W := by
    rw [hW]
    repeat (first | exact Below.refl _ _ | assumption | (refine Below.drew ?_) | (refine Below.setCell ?_ (by first | omega | (simp; omega) | simp) _) | (refine Below.alloc ?_ (by first | omega | (simp; omega) | simp) _) | (refine bthen (by assumption) ?_ (by first | omega | (simp; omega) | simp)))
  clear hW kw3_0_0 fw3_0_0 kw3_0_1 fw3_0_1 kw3_0_2 fw3_0_2 kw3_0_3 fw3_0_3 kw3_0_4 fw3_0_4 hsw3_0 hBw3
  have hvW := hBW.size
  have HS := SW.start W; have hB3 := Below.refl W.heap.size W; have hc := True.intro; have hcf := True.intro
  go_region
  clear HS hB3 hc hcf
  go_wp2_with fail
  refine (bad_any _ _ (by rcases (show j = 0 ∨ j = 1 ∨ j = 2 ∨ j = 3 ∨ j = 4 ∨ j = 5 ∨ j = 6 by omega) with rfl | rfl | rfl | rfl | rfl | rfl | rfl <;> exact ⟨_, rfl, by kernel_rfl⟩)).mono ?_; rintro e w4 ⟨rfl, hbw4⟩
  have hzw4 := hbw4.size; (try simp at hzw4)
  have kw4_0_0 : w4.cell? ⟨w0.heap.size, 0, none⟩ = some (.int .i64 (3)) := (hbw4.cell (p := ⟨w0.heap.size, 0, none⟩) (by first | omega | (simp; omega) | simp)).trans (by first | (go_simp; done) | ((repeat rw [cell_al (by first | omega | (simp; omega) | simp)]); first | assumption | (go_simp; done)))
  have fw4_0_0 : w4.frozen? ⟨w0.heap.size, 0, none⟩ = false := (hbw4.frozen (p := ⟨w0.heap.size, 0, none⟩) (by first | omega | (simp; omega) | simp)).trans (by first | (go_simp; done) | ((repeat rw [cell_al (by first | omega | (simp; omega) | simp)]); first | assumption | (go_simp; done)))
  have kw4_0_1 : w4.cell? ⟨w0.heap.size, 1, none⟩ = some (.int .i64 (8 + q)) := (hbw4.cell (p := ⟨w0.heap.size, 1, none⟩) (by first | omega | (simp; omega) | simp)).trans (by first | (go_simp; done) | ((repeat rw [cell_al (by first | omega | (simp; omega) | simp)]); first | assumption | (go_simp; done)))
  have fw4_0_1 : w4.frozen? ⟨w0.heap.size, 1, none⟩ = false := (hbw4.frozen (p := ⟨w0.heap.size, 1, none⟩) (by first | omega | (simp; omega) | simp)).trans (by first | (go_simp; done) | ((repeat rw [cell_al (by first | omega | (simp; omega) | simp)]); first | assumption | (go_simp; done)))
  have kw4_0_2 : w4.cell? ⟨w0.heap.size, 2, none⟩ = some (.int .i64 (65535)) := (hbw4.cell (p := ⟨w0.heap.size, 2, none⟩) (by first | omega | (simp; omega) | simp)).trans (by first | (go_simp; done) | ((repeat rw [cell_al (by first | omega | (simp; omega) | simp)]); first | assumption | (go_simp; done)))
  have fw4_0_2 : w4.frozen? ⟨w0.heap.size, 2, none⟩ = false := (hbw4.frozen (p := ⟨w0.heap.size, 2, none⟩) (by first | omega | (simp; omega) | simp)).trans (by first | (go_simp; done) | ((repeat rw [cell_al (by first | omega | (simp; omega) | simp)]); first | assumption | (go_simp; done)))
  have kw4_0_3 : w4.cell? ⟨w0.heap.size, 3, none⟩ = some (.int .i64 (65535)) := (hbw4.cell (p := ⟨w0.heap.size, 3, none⟩) (by first | omega | (simp; omega) | simp)).trans (by first | (go_simp; done) | ((repeat rw [cell_al (by first | omega | (simp; omega) | simp)]); first | assumption | (go_simp; done)))
  have fw4_0_3 : w4.frozen? ⟨w0.heap.size, 3, none⟩ = false := (hbw4.frozen (p := ⟨w0.heap.size, 3, none⟩) (by first | omega | (simp; omega) | simp)).trans (by first | (go_simp; done) | ((repeat rw [cell_al (by first | omega | (simp; omega) | simp)]); first | assumption | (go_simp; done)))
  have kw4_0_4 : w4.cell? ⟨w0.heap.size, 4, none⟩ = some (.int .i64 (255)) := (hbw4.cell (p := ⟨w0.heap.size, 4, none⟩) (by first | omega | (simp; omega) | simp)).trans (by first | (go_simp; done) | ((repeat rw [cell_al (by first | omega | (simp; omega) | simp)]); first | assumption | (go_simp; done)))
  have fw4_0_4 : w4.frozen? ⟨w0.heap.size, 4, none⟩ = false := (hbw4.frozen (p := ⟨w0.heap.size, 4, none⟩) (by first | omega | (simp; omega) | simp)).trans (by first | (go_simp; done) | ((repeat rw [cell_al (by first | omega | (simp; omega) | simp)]); first | assumption | (go_simp; done)))
  have hsw4_0 : w0.heap.size < w4.heap.size := (by omega)
  have hBw4 : Below w.heap.size w w4 := by
    refine bthen hbw4 ?_ (by first | omega | (simp; omega) | simp)
    repeat (first | exact Below.refl _ _ | (with_reducible assumption) | (refine Below.drew ?_) | (refine Below.setCell ?_ (by first | omega | (simp; omega) | simp) _) | (refine Below.alloc ?_ (by first | omega | (simp; omega) | simp) _) | (refine bthen (by assumption) ?_ (by first | omega | (simp; omega) | simp)))
  have hvw4 := hBw4.size
  clear kW_0_0 kW_0_1 kW_0_2 kW_0_3 kW_0_4 zW_0
  clear hbw4
  go_wp2_with fail
  refine name_calls fun V hV => ?_
  have kV_0_0 : V.cell? ⟨w0.heap.size, 0, none⟩ = some (.int .i64 (3)) := by rw [hV]; exact (by first | (go_simp; done) | ((repeat rw [cell_al (by first | omega | (simp; omega) | simp)]); first | assumption | (go_simp; done)))
  have fV_0_0 : V.frozen? ⟨w0.heap.size, 0, none⟩ = false := by rw [hV]; exact (by first | (go_simp; done) | ((repeat rw [cell_al (by first | omega | (simp; omega) | simp)]); first | assumption | (go_simp; done)))
  have kV_0_1 : V.cell? ⟨w0.heap.size, 1, none⟩ = some (.int .i64 (8 + q)) := by rw [hV]; exact (by first | (go_simp; done) | ((repeat rw [cell_al (by first | omega | (simp; omega) | simp)]); first | assumption | (go_simp; done)))
  have fV_0_1 : V.frozen? ⟨w0.heap.size, 1, none⟩ = false := by rw [hV]; exact (by first | (go_simp; done) | ((repeat rw [cell_al (by first | omega | (simp; omega) | simp)]); first | assumption | (go_simp; done)))
  have kV_0_2 : V.cell? ⟨w0.heap.size, 2, none⟩ = some (.int .i64 (65535)) := by rw [hV]; exact (by first | (go_simp; done) | ((repeat rw [cell_al (by first | omega | (simp; omega) | simp)]); first | assumption | (go_simp; done)))
  have fV_0_2 : V.frozen? ⟨w0.heap.size, 2, none⟩ = false := by rw [hV]; exact (by first | (go_simp; done) | ((repeat rw [cell_al (by first | omega | (simp; omega) | simp)]); first | assumption | (go_simp; done)))
  have kV_0_3 : V.cell? ⟨w0.heap.size, 3, none⟩ = some (.int .i64 (65535)) := by rw [hV]; exact (by first | (go_simp; done) | ((repeat rw [cell_al (by first | omega | (simp; omega) | simp)]); first | assumption | (go_simp; done)))
  have fV_0_3 : V.frozen? ⟨w0.heap.size, 3, none⟩ = false := by rw [hV]; exact (by first | (go_simp; done) | ((repeat rw [cell_al (by first | omega | (simp; omega) | simp)]); first | assumption | (go_simp; done)))
  have kV_0_4 : V.cell? ⟨w0.heap.size, 4, none⟩ = some (.int .i64 (255)) := by rw [hV]; exact (by first | (go_simp; done) | ((repeat rw [cell_al (by first | omega | (simp; omega) | simp)]); first | assumption | (go_simp; done)))
  have fV_0_4 : V.frozen? ⟨w0.heap.size, 4, none⟩ = false := by rw [hV]; exact (by first | (go_simp; done) | ((repeat rw [cell_al (by first | omega | (simp; omega) | simp)]); first | assumption | (go_simp; done)))
  have zV_0 : w0.heap.size < V.heap.size := by rw [hV]; first | omega | (simp; omega) | simp
  have kV_1_0 : V.cell? ⟨w4.heap.size, 0, none⟩ = some (.int .i64 0) := by rw [hV]; exact (by first | (go_simp; done) | ((repeat rw [cell_al (by first | omega | (simp; omega) | simp)]); first | assumption | (go_simp; done)))
  have kV_1_1 : V.cell? ⟨w4.heap.size, 1, none⟩ = some (.int .i64 0) := by rw [hV]; exact (by first | (go_simp; done) | ((repeat rw [cell_al (by first | omega | (simp; omega) | simp)]); first | assumption | (go_simp; done)))
  have kV_1_2 : V.cell? ⟨w4.heap.size, 2, none⟩ = some (.int .i64 0) := by rw [hV]; exact (by first | (go_simp; done) | ((repeat rw [cell_al (by first | omega | (simp; omega) | simp)]); first | assumption | (go_simp; done)))
  have kV_1_3 : V.cell? ⟨w4.heap.size, 3, none⟩ = some (.int .i64 0) := by rw [hV]; exact (by first | (go_simp; done) | ((repeat rw [cell_al (by first | omega | (simp; omega) | simp)]); first | assumption | (go_simp; done)))
  have kV_1_4 : V.cell? ⟨w4.heap.size, 4, none⟩ = some (.int .i64 0) := by rw [hV]; exact (by first | (go_simp; done) | ((repeat rw [cell_al (by first | omega | (simp; omega) | simp)]); first | assumption | (go_simp; done)))
  have zV_1 : w4.heap.size < V.heap.size := by rw [hV]; first | omega | (simp; omega) | simp
  have hBV : Below w.heap.size w V := by
    rw [hV]
    repeat (first | exact Below.refl _ _ | assumption | (refine Below.drew ?_) | (refine Below.setCell ?_ (by first | omega | (simp; omega) | simp) _) | (refine Below.alloc ?_ (by first | omega | (simp; omega) | simp) _) | (refine bthen (by assumption) ?_ (by first | omega | (simp; omega) | simp)))
  clear hV kw4_0_0 fw4_0_0 kw4_0_1 fw4_0_1 kw4_0_2 fw4_0_2 kw4_0_3 fw4_0_3 kw4_0_4 fw4_0_4 hsw4_0 hBw4
  have hvV := hBV.size
  have HS := SW.start V; have hB3 := Below.refl V.heap.size V; have hc := True.intro; have hcf := True.intro
  go_wp2_with (first
    | (go_at_call 11; (with_reducible refine (num_any _ _).mono ?_); rintro e w3 ⟨rfl, rfl⟩)
    | (go_at_call 12; (with_reducible refine (mayD_is _ _ _ _ _ _ _ hm).mono ?_); rintro e w3 ⟨rfl, hb⟩; have hS' := HS.keep hb; clear hb HS hc hB3 hcf; have HS := hS'; clear hS'; have hc := HS.cells; have hB3 := HS.below; have hcf := HS.frz))
  try go_wp2
  go_returns
  exact ⟨rfl, bthen hB3 hBV hBV.size⟩
set_option maxHeartbeats 8000000 in
theorem walk3 (which x d q j : Int) (w : World) (hx : bits .and .i64 x 1023 = d) (h0 : 0 ≤ d) (h1 : d ≤ 1023) (hq : (1 + d).tmod 200 = q) (hq0 : 0 ≤ q) (hq1 : q < 200) (hi : (IntKind.u64.wrap which).tmod 9 = 3)
    (hj : (IntKind.u64.wrap which).tmod 7 = j) (hj0 : 0 ≤ j) (hj1 : j < 7) (hm : mayD (3) (-(1 + d)) (65535) (65535) (255) = false) (hp : putB (3) (-(1 + d)) (65535) (65535) (255) = ⟨#[]⟩) (hpe : putE (3) (-(1 + d)) (65535) (65535) (255) = 1600) :
    Calls Try.prog 5 #[.int .i64 which, .int .i64 x] w fun e w' => e = .returned (.bool true) ∧ Below w.heap.size w w' := by
  go_enter Try.func5, Try.ntmps5
  go_wp2_with fail
  refine (awakeD _).mono ?_; rintro e w0 ⟨rfl, hbw0⟩
  have hzw0 := hbw0.size; (try simp at hzw0)
  have hBw0 : Below w.heap.size w w0 := by
    refine bthen hbw0 ?_ (by first | omega | (simp; omega) | simp)
    repeat (first | exact Below.refl _ _ | (with_reducible assumption) | (refine Below.drew ?_) | (refine Below.setCell ?_ (by first | omega | (simp; omega) | simp) _) | (refine Below.alloc ?_ (by first | omega | (simp; omega) | simp) _) | (refine bthen (by assumption) ?_ (by first | omega | (simp; omega) | simp)))
  have hvw0 := hBw0.size
  clear hbw0
  go_wp2_with fail
  refine (put_is _ _ _ _ _ ⟨#[3, 7, 255, 255, 255, 255, 255, 0]⟩ 0 _ (by kernel_rfl) (by kernel_rfl)).mono ?_; rintro e w1 ⟨rfl, hbw1⟩
  have hzw1 := hbw1.size; (try simp at hzw1)
  have kw1_0_0 : w1.cell? ⟨w0.heap.size, 0, none⟩ = some (.int .i64 3) := (hbw1.cell (p := ⟨w0.heap.size, 0, none⟩) (by first | omega | (simp; omega) | simp)).trans (by first | (go_simp; done) | ((repeat rw [cell_al (by first | omega | (simp; omega) | simp)]); first | assumption | (go_simp; done)))
  have fw1_0_0 : w1.frozen? ⟨w0.heap.size, 0, none⟩ = false := (hbw1.frozen (p := ⟨w0.heap.size, 0, none⟩) (by first | omega | (simp; omega) | simp)).trans (by first | (go_simp; done) | ((repeat rw [cell_al (by first | omega | (simp; omega) | simp)]); first | assumption | (go_simp; done)))
  have kw1_0_1 : w1.cell? ⟨w0.heap.size, 1, none⟩ = some (.int .i64 7) := (hbw1.cell (p := ⟨w0.heap.size, 1, none⟩) (by first | omega | (simp; omega) | simp)).trans (by first | (go_simp; done) | ((repeat rw [cell_al (by first | omega | (simp; omega) | simp)]); first | assumption | (go_simp; done)))
  have fw1_0_1 : w1.frozen? ⟨w0.heap.size, 1, none⟩ = false := (hbw1.frozen (p := ⟨w0.heap.size, 1, none⟩) (by first | omega | (simp; omega) | simp)).trans (by first | (go_simp; done) | ((repeat rw [cell_al (by first | omega | (simp; omega) | simp)]); first | assumption | (go_simp; done)))
  have kw1_0_2 : w1.cell? ⟨w0.heap.size, 2, none⟩ = some (.int .i64 65535) := (hbw1.cell (p := ⟨w0.heap.size, 2, none⟩) (by first | omega | (simp; omega) | simp)).trans (by first | (go_simp; done) | ((repeat rw [cell_al (by first | omega | (simp; omega) | simp)]); first | assumption | (go_simp; done)))
  have fw1_0_2 : w1.frozen? ⟨w0.heap.size, 2, none⟩ = false := (hbw1.frozen (p := ⟨w0.heap.size, 2, none⟩) (by first | omega | (simp; omega) | simp)).trans (by first | (go_simp; done) | ((repeat rw [cell_al (by first | omega | (simp; omega) | simp)]); first | assumption | (go_simp; done)))
  have kw1_0_3 : w1.cell? ⟨w0.heap.size, 3, none⟩ = some (.int .i64 65535) := (hbw1.cell (p := ⟨w0.heap.size, 3, none⟩) (by first | omega | (simp; omega) | simp)).trans (by first | (go_simp; done) | ((repeat rw [cell_al (by first | omega | (simp; omega) | simp)]); first | assumption | (go_simp; done)))
  have fw1_0_3 : w1.frozen? ⟨w0.heap.size, 3, none⟩ = false := (hbw1.frozen (p := ⟨w0.heap.size, 3, none⟩) (by first | omega | (simp; omega) | simp)).trans (by first | (go_simp; done) | ((repeat rw [cell_al (by first | omega | (simp; omega) | simp)]); first | assumption | (go_simp; done)))
  have kw1_0_4 : w1.cell? ⟨w0.heap.size, 4, none⟩ = some (.int .i64 255) := (hbw1.cell (p := ⟨w0.heap.size, 4, none⟩) (by first | omega | (simp; omega) | simp)).trans (by first | (go_simp; done) | ((repeat rw [cell_al (by first | omega | (simp; omega) | simp)]); first | assumption | (go_simp; done)))
  have fw1_0_4 : w1.frozen? ⟨w0.heap.size, 4, none⟩ = false := (hbw1.frozen (p := ⟨w0.heap.size, 4, none⟩) (by first | omega | (simp; omega) | simp)).trans (by first | (go_simp; done) | ((repeat rw [cell_al (by first | omega | (simp; omega) | simp)]); first | assumption | (go_simp; done)))
  have hsw1_0 : w0.heap.size < w1.heap.size := (by omega)
  have hBw1 : Below w.heap.size w w1 := by
    refine bthen hbw1 ?_ (by first | omega | (simp; omega) | simp)
    repeat (first | exact Below.refl _ _ | (with_reducible assumption) | (refine Below.drew ?_) | (refine Below.setCell ?_ (by first | omega | (simp; omega) | simp) _) | (refine Below.alloc ?_ (by first | omega | (simp; omega) | simp) _) | (refine bthen (by assumption) ?_ (by first | omega | (simp; omega) | simp)))
  have hvw1 := hBw1.size
  clear hBw0 hzw0
  clear hbw1
  go_wp2_with fail
  refine (num_any _ _).mono ?_; rintro e w2 ⟨rfl, rfl⟩
  go_wp2_with fail
  refine (put_is _ _ _ _ _ _ _ _ hp hpe).mono ?_; rintro e w3 ⟨rfl, hbw3⟩
  have hzw3 := hbw3.size; (try simp at hzw3)
  have kw3_0_0 : w3.cell? ⟨w0.heap.size, 0, none⟩ = some (.int .i64 (3)) := (hbw3.cell (p := ⟨w0.heap.size, 0, none⟩) (by first | omega | (simp; omega) | simp)).trans (by first | (go_simp; done) | ((repeat rw [cell_al (by first | omega | (simp; omega) | simp)]); first | assumption | (go_simp; done)))
  have fw3_0_0 : w3.frozen? ⟨w0.heap.size, 0, none⟩ = false := (hbw3.frozen (p := ⟨w0.heap.size, 0, none⟩) (by first | omega | (simp; omega) | simp)).trans (by first | (go_simp; done) | ((repeat rw [cell_al (by first | omega | (simp; omega) | simp)]); first | assumption | (go_simp; done)))
  have kw3_0_1 : w3.cell? ⟨w0.heap.size, 1, none⟩ = some (.int .i64 (-(1 + d))) := (hbw3.cell (p := ⟨w0.heap.size, 1, none⟩) (by first | omega | (simp; omega) | simp)).trans (by first | (go_simp; done) | ((repeat rw [cell_al (by first | omega | (simp; omega) | simp)]); first | assumption | (go_simp; done)))
  have fw3_0_1 : w3.frozen? ⟨w0.heap.size, 1, none⟩ = false := (hbw3.frozen (p := ⟨w0.heap.size, 1, none⟩) (by first | omega | (simp; omega) | simp)).trans (by first | (go_simp; done) | ((repeat rw [cell_al (by first | omega | (simp; omega) | simp)]); first | assumption | (go_simp; done)))
  have kw3_0_2 : w3.cell? ⟨w0.heap.size, 2, none⟩ = some (.int .i64 (65535)) := (hbw3.cell (p := ⟨w0.heap.size, 2, none⟩) (by first | omega | (simp; omega) | simp)).trans (by first | (go_simp; done) | ((repeat rw [cell_al (by first | omega | (simp; omega) | simp)]); first | assumption | (go_simp; done)))
  have fw3_0_2 : w3.frozen? ⟨w0.heap.size, 2, none⟩ = false := (hbw3.frozen (p := ⟨w0.heap.size, 2, none⟩) (by first | omega | (simp; omega) | simp)).trans (by first | (go_simp; done) | ((repeat rw [cell_al (by first | omega | (simp; omega) | simp)]); first | assumption | (go_simp; done)))
  have kw3_0_3 : w3.cell? ⟨w0.heap.size, 3, none⟩ = some (.int .i64 (65535)) := (hbw3.cell (p := ⟨w0.heap.size, 3, none⟩) (by first | omega | (simp; omega) | simp)).trans (by first | (go_simp; done) | ((repeat rw [cell_al (by first | omega | (simp; omega) | simp)]); first | assumption | (go_simp; done)))
  have fw3_0_3 : w3.frozen? ⟨w0.heap.size, 3, none⟩ = false := (hbw3.frozen (p := ⟨w0.heap.size, 3, none⟩) (by first | omega | (simp; omega) | simp)).trans (by first | (go_simp; done) | ((repeat rw [cell_al (by first | omega | (simp; omega) | simp)]); first | assumption | (go_simp; done)))
  have kw3_0_4 : w3.cell? ⟨w0.heap.size, 4, none⟩ = some (.int .i64 (255)) := (hbw3.cell (p := ⟨w0.heap.size, 4, none⟩) (by first | omega | (simp; omega) | simp)).trans (by first | (go_simp; done) | ((repeat rw [cell_al (by first | omega | (simp; omega) | simp)]); first | assumption | (go_simp; done)))
  have fw3_0_4 : w3.frozen? ⟨w0.heap.size, 4, none⟩ = false := (hbw3.frozen (p := ⟨w0.heap.size, 4, none⟩) (by first | omega | (simp; omega) | simp)).trans (by first | (go_simp; done) | ((repeat rw [cell_al (by first | omega | (simp; omega) | simp)]); first | assumption | (go_simp; done)))
  have hsw3_0 : w0.heap.size < w3.heap.size := (by omega)
  have hBw3 : Below w.heap.size w w3 := by
    refine bthen hbw3 ?_ (by first | omega | (simp; omega) | simp)
    repeat (first | exact Below.refl _ _ | (with_reducible assumption) | (refine Below.drew ?_) | (refine Below.setCell ?_ (by first | omega | (simp; omega) | simp) _) | (refine Below.alloc ?_ (by first | omega | (simp; omega) | simp) _) | (refine bthen (by assumption) ?_ (by first | omega | (simp; omega) | simp)))
  have hvw3 := hBw3.size
  clear kw1_0_0 fw1_0_0 kw1_0_1 fw1_0_1 kw1_0_2 fw1_0_2 kw1_0_3 fw1_0_3 kw1_0_4 fw1_0_4 hsw1_0 hBw1 hzw1
  clear hbw3
  go_wp2_with fail
  refine name_world fun W hW => ?_
  have kW_0_0 : W.cell? ⟨w0.heap.size, 0, none⟩ = some (.int .i64 (3)) := by rw [hW]; exact (by first | (go_simp; done) | ((repeat rw [cell_al (by first | omega | (simp; omega) | simp)]); first | assumption | (go_simp; done)))
  have fW_0_0 : W.frozen? ⟨w0.heap.size, 0, none⟩ = false := by rw [hW]; exact (by first | (go_simp; done) | ((repeat rw [cell_al (by first | omega | (simp; omega) | simp)]); first | assumption | (go_simp; done)))
  have kW_0_1 : W.cell? ⟨w0.heap.size, 1, none⟩ = some (.int .i64 (-(1 + d))) := by rw [hW]; exact (by first | (go_simp; done) | ((repeat rw [cell_al (by first | omega | (simp; omega) | simp)]); first | assumption | (go_simp; done)))
  have fW_0_1 : W.frozen? ⟨w0.heap.size, 1, none⟩ = false := by rw [hW]; exact (by first | (go_simp; done) | ((repeat rw [cell_al (by first | omega | (simp; omega) | simp)]); first | assumption | (go_simp; done)))
  have kW_0_2 : W.cell? ⟨w0.heap.size, 2, none⟩ = some (.int .i64 (65535)) := by rw [hW]; exact (by first | (go_simp; done) | ((repeat rw [cell_al (by first | omega | (simp; omega) | simp)]); first | assumption | (go_simp; done)))
  have fW_0_2 : W.frozen? ⟨w0.heap.size, 2, none⟩ = false := by rw [hW]; exact (by first | (go_simp; done) | ((repeat rw [cell_al (by first | omega | (simp; omega) | simp)]); first | assumption | (go_simp; done)))
  have kW_0_3 : W.cell? ⟨w0.heap.size, 3, none⟩ = some (.int .i64 (65535)) := by rw [hW]; exact (by first | (go_simp; done) | ((repeat rw [cell_al (by first | omega | (simp; omega) | simp)]); first | assumption | (go_simp; done)))
  have fW_0_3 : W.frozen? ⟨w0.heap.size, 3, none⟩ = false := by rw [hW]; exact (by first | (go_simp; done) | ((repeat rw [cell_al (by first | omega | (simp; omega) | simp)]); first | assumption | (go_simp; done)))
  have kW_0_4 : W.cell? ⟨w0.heap.size, 4, none⟩ = some (.int .i64 (255)) := by rw [hW]; exact (by first | (go_simp; done) | ((repeat rw [cell_al (by first | omega | (simp; omega) | simp)]); first | assumption | (go_simp; done)))
  have fW_0_4 : W.frozen? ⟨w0.heap.size, 4, none⟩ = false := by rw [hW]; exact (by first | (go_simp; done) | ((repeat rw [cell_al (by first | omega | (simp; omega) | simp)]); first | assumption | (go_simp; done)))
  have zW_0 : w0.heap.size < W.heap.size := by rw [hW]; first | omega | (simp; omega) | simp
  have hBW : Below w.heap.size w W := by
    rw [hW]
    repeat (first | exact Below.refl _ _ | assumption | (refine Below.drew ?_) | (refine Below.setCell ?_ (by first | omega | (simp; omega) | simp) _) | (refine Below.alloc ?_ (by first | omega | (simp; omega) | simp) _) | (refine bthen (by assumption) ?_ (by first | omega | (simp; omega) | simp)))
  clear hW kw3_0_0 fw3_0_0 kw3_0_1 fw3_0_1 kw3_0_2 fw3_0_2 kw3_0_3 fw3_0_3 kw3_0_4 fw3_0_4 hsw3_0 hBw3
  have hvW := hBW.size
  have HS := SW.start W; have hB3 := Below.refl W.heap.size W; have hc := True.intro; have hcf := True.intro
  go_region
  clear HS hB3 hc hcf
  go_wp2_with fail
  refine (bad_any _ _ (by rcases (show j = 0 ∨ j = 1 ∨ j = 2 ∨ j = 3 ∨ j = 4 ∨ j = 5 ∨ j = 6 by omega) with rfl | rfl | rfl | rfl | rfl | rfl | rfl <;> exact ⟨_, rfl, by kernel_rfl⟩)).mono ?_; rintro e w4 ⟨rfl, hbw4⟩
  have hzw4 := hbw4.size; (try simp at hzw4)
  have kw4_0_0 : w4.cell? ⟨w0.heap.size, 0, none⟩ = some (.int .i64 (3)) := (hbw4.cell (p := ⟨w0.heap.size, 0, none⟩) (by first | omega | (simp; omega) | simp)).trans (by first | (go_simp; done) | ((repeat rw [cell_al (by first | omega | (simp; omega) | simp)]); first | assumption | (go_simp; done)))
  have fw4_0_0 : w4.frozen? ⟨w0.heap.size, 0, none⟩ = false := (hbw4.frozen (p := ⟨w0.heap.size, 0, none⟩) (by first | omega | (simp; omega) | simp)).trans (by first | (go_simp; done) | ((repeat rw [cell_al (by first | omega | (simp; omega) | simp)]); first | assumption | (go_simp; done)))
  have kw4_0_1 : w4.cell? ⟨w0.heap.size, 1, none⟩ = some (.int .i64 (-(1 + d))) := (hbw4.cell (p := ⟨w0.heap.size, 1, none⟩) (by first | omega | (simp; omega) | simp)).trans (by first | (go_simp; done) | ((repeat rw [cell_al (by first | omega | (simp; omega) | simp)]); first | assumption | (go_simp; done)))
  have fw4_0_1 : w4.frozen? ⟨w0.heap.size, 1, none⟩ = false := (hbw4.frozen (p := ⟨w0.heap.size, 1, none⟩) (by first | omega | (simp; omega) | simp)).trans (by first | (go_simp; done) | ((repeat rw [cell_al (by first | omega | (simp; omega) | simp)]); first | assumption | (go_simp; done)))
  have kw4_0_2 : w4.cell? ⟨w0.heap.size, 2, none⟩ = some (.int .i64 (65535)) := (hbw4.cell (p := ⟨w0.heap.size, 2, none⟩) (by first | omega | (simp; omega) | simp)).trans (by first | (go_simp; done) | ((repeat rw [cell_al (by first | omega | (simp; omega) | simp)]); first | assumption | (go_simp; done)))
  have fw4_0_2 : w4.frozen? ⟨w0.heap.size, 2, none⟩ = false := (hbw4.frozen (p := ⟨w0.heap.size, 2, none⟩) (by first | omega | (simp; omega) | simp)).trans (by first | (go_simp; done) | ((repeat rw [cell_al (by first | omega | (simp; omega) | simp)]); first | assumption | (go_simp; done)))
  have kw4_0_3 : w4.cell? ⟨w0.heap.size, 3, none⟩ = some (.int .i64 (65535)) := (hbw4.cell (p := ⟨w0.heap.size, 3, none⟩) (by first | omega | (simp; omega) | simp)).trans (by first | (go_simp; done) | ((repeat rw [cell_al (by first | omega | (simp; omega) | simp)]); first | assumption | (go_simp; done)))
  have fw4_0_3 : w4.frozen? ⟨w0.heap.size, 3, none⟩ = false := (hbw4.frozen (p := ⟨w0.heap.size, 3, none⟩) (by first | omega | (simp; omega) | simp)).trans (by first | (go_simp; done) | ((repeat rw [cell_al (by first | omega | (simp; omega) | simp)]); first | assumption | (go_simp; done)))
  have kw4_0_4 : w4.cell? ⟨w0.heap.size, 4, none⟩ = some (.int .i64 (255)) := (hbw4.cell (p := ⟨w0.heap.size, 4, none⟩) (by first | omega | (simp; omega) | simp)).trans (by first | (go_simp; done) | ((repeat rw [cell_al (by first | omega | (simp; omega) | simp)]); first | assumption | (go_simp; done)))
  have fw4_0_4 : w4.frozen? ⟨w0.heap.size, 4, none⟩ = false := (hbw4.frozen (p := ⟨w0.heap.size, 4, none⟩) (by first | omega | (simp; omega) | simp)).trans (by first | (go_simp; done) | ((repeat rw [cell_al (by first | omega | (simp; omega) | simp)]); first | assumption | (go_simp; done)))
  have hsw4_0 : w0.heap.size < w4.heap.size := (by omega)
  have hBw4 : Below w.heap.size w w4 := by
    refine bthen hbw4 ?_ (by first | omega | (simp; omega) | simp)
    repeat (first | exact Below.refl _ _ | (with_reducible assumption) | (refine Below.drew ?_) | (refine Below.setCell ?_ (by first | omega | (simp; omega) | simp) _) | (refine Below.alloc ?_ (by first | omega | (simp; omega) | simp) _) | (refine bthen (by assumption) ?_ (by first | omega | (simp; omega) | simp)))
  have hvw4 := hBw4.size
  clear kW_0_0 kW_0_1 kW_0_2 kW_0_3 kW_0_4 zW_0
  clear hbw4
  go_wp2_with fail
  refine name_calls fun V hV => ?_
  have kV_0_0 : V.cell? ⟨w0.heap.size, 0, none⟩ = some (.int .i64 (3)) := by rw [hV]; exact (by first | (go_simp; done) | ((repeat rw [cell_al (by first | omega | (simp; omega) | simp)]); first | assumption | (go_simp; done)))
  have fV_0_0 : V.frozen? ⟨w0.heap.size, 0, none⟩ = false := by rw [hV]; exact (by first | (go_simp; done) | ((repeat rw [cell_al (by first | omega | (simp; omega) | simp)]); first | assumption | (go_simp; done)))
  have kV_0_1 : V.cell? ⟨w0.heap.size, 1, none⟩ = some (.int .i64 (-(1 + d))) := by rw [hV]; exact (by first | (go_simp; done) | ((repeat rw [cell_al (by first | omega | (simp; omega) | simp)]); first | assumption | (go_simp; done)))
  have fV_0_1 : V.frozen? ⟨w0.heap.size, 1, none⟩ = false := by rw [hV]; exact (by first | (go_simp; done) | ((repeat rw [cell_al (by first | omega | (simp; omega) | simp)]); first | assumption | (go_simp; done)))
  have kV_0_2 : V.cell? ⟨w0.heap.size, 2, none⟩ = some (.int .i64 (65535)) := by rw [hV]; exact (by first | (go_simp; done) | ((repeat rw [cell_al (by first | omega | (simp; omega) | simp)]); first | assumption | (go_simp; done)))
  have fV_0_2 : V.frozen? ⟨w0.heap.size, 2, none⟩ = false := by rw [hV]; exact (by first | (go_simp; done) | ((repeat rw [cell_al (by first | omega | (simp; omega) | simp)]); first | assumption | (go_simp; done)))
  have kV_0_3 : V.cell? ⟨w0.heap.size, 3, none⟩ = some (.int .i64 (65535)) := by rw [hV]; exact (by first | (go_simp; done) | ((repeat rw [cell_al (by first | omega | (simp; omega) | simp)]); first | assumption | (go_simp; done)))
  have fV_0_3 : V.frozen? ⟨w0.heap.size, 3, none⟩ = false := by rw [hV]; exact (by first | (go_simp; done) | ((repeat rw [cell_al (by first | omega | (simp; omega) | simp)]); first | assumption | (go_simp; done)))
  have kV_0_4 : V.cell? ⟨w0.heap.size, 4, none⟩ = some (.int .i64 (255)) := by rw [hV]; exact (by first | (go_simp; done) | ((repeat rw [cell_al (by first | omega | (simp; omega) | simp)]); first | assumption | (go_simp; done)))
  have fV_0_4 : V.frozen? ⟨w0.heap.size, 4, none⟩ = false := by rw [hV]; exact (by first | (go_simp; done) | ((repeat rw [cell_al (by first | omega | (simp; omega) | simp)]); first | assumption | (go_simp; done)))
  have zV_0 : w0.heap.size < V.heap.size := by rw [hV]; first | omega | (simp; omega) | simp
  have kV_1_0 : V.cell? ⟨w4.heap.size, 0, none⟩ = some (.int .i64 0) := by rw [hV]; exact (by first | (go_simp; done) | ((repeat rw [cell_al (by first | omega | (simp; omega) | simp)]); first | assumption | (go_simp; done)))
  have kV_1_1 : V.cell? ⟨w4.heap.size, 1, none⟩ = some (.int .i64 0) := by rw [hV]; exact (by first | (go_simp; done) | ((repeat rw [cell_al (by first | omega | (simp; omega) | simp)]); first | assumption | (go_simp; done)))
  have kV_1_2 : V.cell? ⟨w4.heap.size, 2, none⟩ = some (.int .i64 0) := by rw [hV]; exact (by first | (go_simp; done) | ((repeat rw [cell_al (by first | omega | (simp; omega) | simp)]); first | assumption | (go_simp; done)))
  have kV_1_3 : V.cell? ⟨w4.heap.size, 3, none⟩ = some (.int .i64 0) := by rw [hV]; exact (by first | (go_simp; done) | ((repeat rw [cell_al (by first | omega | (simp; omega) | simp)]); first | assumption | (go_simp; done)))
  have kV_1_4 : V.cell? ⟨w4.heap.size, 4, none⟩ = some (.int .i64 0) := by rw [hV]; exact (by first | (go_simp; done) | ((repeat rw [cell_al (by first | omega | (simp; omega) | simp)]); first | assumption | (go_simp; done)))
  have zV_1 : w4.heap.size < V.heap.size := by rw [hV]; first | omega | (simp; omega) | simp
  have hBV : Below w.heap.size w V := by
    rw [hV]
    repeat (first | exact Below.refl _ _ | assumption | (refine Below.drew ?_) | (refine Below.setCell ?_ (by first | omega | (simp; omega) | simp) _) | (refine Below.alloc ?_ (by first | omega | (simp; omega) | simp) _) | (refine bthen (by assumption) ?_ (by first | omega | (simp; omega) | simp)))
  clear hV kw4_0_0 fw4_0_0 kw4_0_1 fw4_0_1 kw4_0_2 fw4_0_2 kw4_0_3 fw4_0_3 kw4_0_4 fw4_0_4 hsw4_0 hBw4
  have hvV := hBV.size
  have HS := SW.start V; have hB3 := Below.refl V.heap.size V; have hc := True.intro; have hcf := True.intro
  go_wp2_with (first
    | (go_at_call 11; (with_reducible refine (num_any _ _).mono ?_); rintro e w3 ⟨rfl, rfl⟩)
    | (go_at_call 12; (with_reducible refine (mayD_is _ _ _ _ _ _ _ hm).mono ?_); rintro e w3 ⟨rfl, hb⟩; have hS' := HS.keep hb; clear hb HS hc hB3 hcf; have HS := hS'; clear hS'; have hc := HS.cells; have hB3 := HS.below; have hcf := HS.frz))
  try go_wp2
  go_returns
  exact ⟨rfl, bthen hB3 hBV hBV.size⟩
set_option maxHeartbeats 8000000 in
theorem walk4 (which x d q j : Int) (w : World) (hx : bits .and .i64 x 1023 = d) (h0 : 0 ≤ d) (h1 : d ≤ 1023) (hq : (1 + d).tmod 200 = q) (hq0 : 0 ≤ q) (hq1 : q < 200) (hi : (IntKind.u64.wrap which).tmod 9 = 4)
    (hj : (IntKind.u64.wrap which).tmod 7 = j) (hj0 : 0 ≤ j) (hj1 : j < 7) (hm : mayD (3) (7) (65535 + (1 + d)) (65535) (255) = false) (hp : putB (3) (7) (65535 + (1 + d)) (65535) (255) = ⟨#[]⟩) (hpe : putE (3) (7) (65535 + (1 + d)) (65535) (255) = 1600) :
    Calls Try.prog 5 #[.int .i64 which, .int .i64 x] w fun e w' => e = .returned (.bool true) ∧ Below w.heap.size w w' := by
  go_enter Try.func5, Try.ntmps5
  go_wp2_with fail
  refine (awakeD _).mono ?_; rintro e w0 ⟨rfl, hbw0⟩
  have hzw0 := hbw0.size; (try simp at hzw0)
  have hBw0 : Below w.heap.size w w0 := by
    refine bthen hbw0 ?_ (by first | omega | (simp; omega) | simp)
    repeat (first | exact Below.refl _ _ | (with_reducible assumption) | (refine Below.drew ?_) | (refine Below.setCell ?_ (by first | omega | (simp; omega) | simp) _) | (refine Below.alloc ?_ (by first | omega | (simp; omega) | simp) _) | (refine bthen (by assumption) ?_ (by first | omega | (simp; omega) | simp)))
  have hvw0 := hBw0.size
  clear hbw0
  go_wp2_with fail
  refine (put_is _ _ _ _ _ ⟨#[3, 7, 255, 255, 255, 255, 255, 0]⟩ 0 _ (by kernel_rfl) (by kernel_rfl)).mono ?_; rintro e w1 ⟨rfl, hbw1⟩
  have hzw1 := hbw1.size; (try simp at hzw1)
  have kw1_0_0 : w1.cell? ⟨w0.heap.size, 0, none⟩ = some (.int .i64 3) := (hbw1.cell (p := ⟨w0.heap.size, 0, none⟩) (by first | omega | (simp; omega) | simp)).trans (by first | (go_simp; done) | ((repeat rw [cell_al (by first | omega | (simp; omega) | simp)]); first | assumption | (go_simp; done)))
  have fw1_0_0 : w1.frozen? ⟨w0.heap.size, 0, none⟩ = false := (hbw1.frozen (p := ⟨w0.heap.size, 0, none⟩) (by first | omega | (simp; omega) | simp)).trans (by first | (go_simp; done) | ((repeat rw [cell_al (by first | omega | (simp; omega) | simp)]); first | assumption | (go_simp; done)))
  have kw1_0_1 : w1.cell? ⟨w0.heap.size, 1, none⟩ = some (.int .i64 7) := (hbw1.cell (p := ⟨w0.heap.size, 1, none⟩) (by first | omega | (simp; omega) | simp)).trans (by first | (go_simp; done) | ((repeat rw [cell_al (by first | omega | (simp; omega) | simp)]); first | assumption | (go_simp; done)))
  have fw1_0_1 : w1.frozen? ⟨w0.heap.size, 1, none⟩ = false := (hbw1.frozen (p := ⟨w0.heap.size, 1, none⟩) (by first | omega | (simp; omega) | simp)).trans (by first | (go_simp; done) | ((repeat rw [cell_al (by first | omega | (simp; omega) | simp)]); first | assumption | (go_simp; done)))
  have kw1_0_2 : w1.cell? ⟨w0.heap.size, 2, none⟩ = some (.int .i64 65535) := (hbw1.cell (p := ⟨w0.heap.size, 2, none⟩) (by first | omega | (simp; omega) | simp)).trans (by first | (go_simp; done) | ((repeat rw [cell_al (by first | omega | (simp; omega) | simp)]); first | assumption | (go_simp; done)))
  have fw1_0_2 : w1.frozen? ⟨w0.heap.size, 2, none⟩ = false := (hbw1.frozen (p := ⟨w0.heap.size, 2, none⟩) (by first | omega | (simp; omega) | simp)).trans (by first | (go_simp; done) | ((repeat rw [cell_al (by first | omega | (simp; omega) | simp)]); first | assumption | (go_simp; done)))
  have kw1_0_3 : w1.cell? ⟨w0.heap.size, 3, none⟩ = some (.int .i64 65535) := (hbw1.cell (p := ⟨w0.heap.size, 3, none⟩) (by first | omega | (simp; omega) | simp)).trans (by first | (go_simp; done) | ((repeat rw [cell_al (by first | omega | (simp; omega) | simp)]); first | assumption | (go_simp; done)))
  have fw1_0_3 : w1.frozen? ⟨w0.heap.size, 3, none⟩ = false := (hbw1.frozen (p := ⟨w0.heap.size, 3, none⟩) (by first | omega | (simp; omega) | simp)).trans (by first | (go_simp; done) | ((repeat rw [cell_al (by first | omega | (simp; omega) | simp)]); first | assumption | (go_simp; done)))
  have kw1_0_4 : w1.cell? ⟨w0.heap.size, 4, none⟩ = some (.int .i64 255) := (hbw1.cell (p := ⟨w0.heap.size, 4, none⟩) (by first | omega | (simp; omega) | simp)).trans (by first | (go_simp; done) | ((repeat rw [cell_al (by first | omega | (simp; omega) | simp)]); first | assumption | (go_simp; done)))
  have fw1_0_4 : w1.frozen? ⟨w0.heap.size, 4, none⟩ = false := (hbw1.frozen (p := ⟨w0.heap.size, 4, none⟩) (by first | omega | (simp; omega) | simp)).trans (by first | (go_simp; done) | ((repeat rw [cell_al (by first | omega | (simp; omega) | simp)]); first | assumption | (go_simp; done)))
  have hsw1_0 : w0.heap.size < w1.heap.size := (by omega)
  have hBw1 : Below w.heap.size w w1 := by
    refine bthen hbw1 ?_ (by first | omega | (simp; omega) | simp)
    repeat (first | exact Below.refl _ _ | (with_reducible assumption) | (refine Below.drew ?_) | (refine Below.setCell ?_ (by first | omega | (simp; omega) | simp) _) | (refine Below.alloc ?_ (by first | omega | (simp; omega) | simp) _) | (refine bthen (by assumption) ?_ (by first | omega | (simp; omega) | simp)))
  have hvw1 := hBw1.size
  clear hBw0 hzw0
  clear hbw1
  go_wp2_with fail
  refine (num_any _ _).mono ?_; rintro e w2 ⟨rfl, rfl⟩
  go_wp2_with fail
  refine (put_is _ _ _ _ _ _ _ _ hp hpe).mono ?_; rintro e w3 ⟨rfl, hbw3⟩
  have hzw3 := hbw3.size; (try simp at hzw3)
  have kw3_0_0 : w3.cell? ⟨w0.heap.size, 0, none⟩ = some (.int .i64 (3)) := (hbw3.cell (p := ⟨w0.heap.size, 0, none⟩) (by first | omega | (simp; omega) | simp)).trans (by first | (go_simp; done) | ((repeat rw [cell_al (by first | omega | (simp; omega) | simp)]); first | assumption | (go_simp; done)))
  have fw3_0_0 : w3.frozen? ⟨w0.heap.size, 0, none⟩ = false := (hbw3.frozen (p := ⟨w0.heap.size, 0, none⟩) (by first | omega | (simp; omega) | simp)).trans (by first | (go_simp; done) | ((repeat rw [cell_al (by first | omega | (simp; omega) | simp)]); first | assumption | (go_simp; done)))
  have kw3_0_1 : w3.cell? ⟨w0.heap.size, 1, none⟩ = some (.int .i64 (7)) := (hbw3.cell (p := ⟨w0.heap.size, 1, none⟩) (by first | omega | (simp; omega) | simp)).trans (by first | (go_simp; done) | ((repeat rw [cell_al (by first | omega | (simp; omega) | simp)]); first | assumption | (go_simp; done)))
  have fw3_0_1 : w3.frozen? ⟨w0.heap.size, 1, none⟩ = false := (hbw3.frozen (p := ⟨w0.heap.size, 1, none⟩) (by first | omega | (simp; omega) | simp)).trans (by first | (go_simp; done) | ((repeat rw [cell_al (by first | omega | (simp; omega) | simp)]); first | assumption | (go_simp; done)))
  have kw3_0_2 : w3.cell? ⟨w0.heap.size, 2, none⟩ = some (.int .i64 (65535 + (1 + d))) := (hbw3.cell (p := ⟨w0.heap.size, 2, none⟩) (by first | omega | (simp; omega) | simp)).trans (by first | (go_simp; done) | ((repeat rw [cell_al (by first | omega | (simp; omega) | simp)]); first | assumption | (go_simp; done)))
  have fw3_0_2 : w3.frozen? ⟨w0.heap.size, 2, none⟩ = false := (hbw3.frozen (p := ⟨w0.heap.size, 2, none⟩) (by first | omega | (simp; omega) | simp)).trans (by first | (go_simp; done) | ((repeat rw [cell_al (by first | omega | (simp; omega) | simp)]); first | assumption | (go_simp; done)))
  have kw3_0_3 : w3.cell? ⟨w0.heap.size, 3, none⟩ = some (.int .i64 (65535)) := (hbw3.cell (p := ⟨w0.heap.size, 3, none⟩) (by first | omega | (simp; omega) | simp)).trans (by first | (go_simp; done) | ((repeat rw [cell_al (by first | omega | (simp; omega) | simp)]); first | assumption | (go_simp; done)))
  have fw3_0_3 : w3.frozen? ⟨w0.heap.size, 3, none⟩ = false := (hbw3.frozen (p := ⟨w0.heap.size, 3, none⟩) (by first | omega | (simp; omega) | simp)).trans (by first | (go_simp; done) | ((repeat rw [cell_al (by first | omega | (simp; omega) | simp)]); first | assumption | (go_simp; done)))
  have kw3_0_4 : w3.cell? ⟨w0.heap.size, 4, none⟩ = some (.int .i64 (255)) := (hbw3.cell (p := ⟨w0.heap.size, 4, none⟩) (by first | omega | (simp; omega) | simp)).trans (by first | (go_simp; done) | ((repeat rw [cell_al (by first | omega | (simp; omega) | simp)]); first | assumption | (go_simp; done)))
  have fw3_0_4 : w3.frozen? ⟨w0.heap.size, 4, none⟩ = false := (hbw3.frozen (p := ⟨w0.heap.size, 4, none⟩) (by first | omega | (simp; omega) | simp)).trans (by first | (go_simp; done) | ((repeat rw [cell_al (by first | omega | (simp; omega) | simp)]); first | assumption | (go_simp; done)))
  have hsw3_0 : w0.heap.size < w3.heap.size := (by omega)
  have hBw3 : Below w.heap.size w w3 := by
    refine bthen hbw3 ?_ (by first | omega | (simp; omega) | simp)
    repeat (first | exact Below.refl _ _ | (with_reducible assumption) | (refine Below.drew ?_) | (refine Below.setCell ?_ (by first | omega | (simp; omega) | simp) _) | (refine Below.alloc ?_ (by first | omega | (simp; omega) | simp) _) | (refine bthen (by assumption) ?_ (by first | omega | (simp; omega) | simp)))
  have hvw3 := hBw3.size
  clear kw1_0_0 fw1_0_0 kw1_0_1 fw1_0_1 kw1_0_2 fw1_0_2 kw1_0_3 fw1_0_3 kw1_0_4 fw1_0_4 hsw1_0 hBw1 hzw1
  clear hbw3
  go_wp2_with fail
  refine name_world fun W hW => ?_
  have kW_0_0 : W.cell? ⟨w0.heap.size, 0, none⟩ = some (.int .i64 (3)) := by rw [hW]; exact (by first | (go_simp; done) | ((repeat rw [cell_al (by first | omega | (simp; omega) | simp)]); first | assumption | (go_simp; done)))
  have fW_0_0 : W.frozen? ⟨w0.heap.size, 0, none⟩ = false := by rw [hW]; exact (by first | (go_simp; done) | ((repeat rw [cell_al (by first | omega | (simp; omega) | simp)]); first | assumption | (go_simp; done)))
  have kW_0_1 : W.cell? ⟨w0.heap.size, 1, none⟩ = some (.int .i64 (7)) := by rw [hW]; exact (by first | (go_simp; done) | ((repeat rw [cell_al (by first | omega | (simp; omega) | simp)]); first | assumption | (go_simp; done)))
  have fW_0_1 : W.frozen? ⟨w0.heap.size, 1, none⟩ = false := by rw [hW]; exact (by first | (go_simp; done) | ((repeat rw [cell_al (by first | omega | (simp; omega) | simp)]); first | assumption | (go_simp; done)))
  have kW_0_2 : W.cell? ⟨w0.heap.size, 2, none⟩ = some (.int .i64 (65535 + (1 + d))) := by rw [hW]; exact (by first | (go_simp; done) | ((repeat rw [cell_al (by first | omega | (simp; omega) | simp)]); first | assumption | (go_simp; done)))
  have fW_0_2 : W.frozen? ⟨w0.heap.size, 2, none⟩ = false := by rw [hW]; exact (by first | (go_simp; done) | ((repeat rw [cell_al (by first | omega | (simp; omega) | simp)]); first | assumption | (go_simp; done)))
  have kW_0_3 : W.cell? ⟨w0.heap.size, 3, none⟩ = some (.int .i64 (65535)) := by rw [hW]; exact (by first | (go_simp; done) | ((repeat rw [cell_al (by first | omega | (simp; omega) | simp)]); first | assumption | (go_simp; done)))
  have fW_0_3 : W.frozen? ⟨w0.heap.size, 3, none⟩ = false := by rw [hW]; exact (by first | (go_simp; done) | ((repeat rw [cell_al (by first | omega | (simp; omega) | simp)]); first | assumption | (go_simp; done)))
  have kW_0_4 : W.cell? ⟨w0.heap.size, 4, none⟩ = some (.int .i64 (255)) := by rw [hW]; exact (by first | (go_simp; done) | ((repeat rw [cell_al (by first | omega | (simp; omega) | simp)]); first | assumption | (go_simp; done)))
  have fW_0_4 : W.frozen? ⟨w0.heap.size, 4, none⟩ = false := by rw [hW]; exact (by first | (go_simp; done) | ((repeat rw [cell_al (by first | omega | (simp; omega) | simp)]); first | assumption | (go_simp; done)))
  have zW_0 : w0.heap.size < W.heap.size := by rw [hW]; first | omega | (simp; omega) | simp
  have hBW : Below w.heap.size w W := by
    rw [hW]
    repeat (first | exact Below.refl _ _ | assumption | (refine Below.drew ?_) | (refine Below.setCell ?_ (by first | omega | (simp; omega) | simp) _) | (refine Below.alloc ?_ (by first | omega | (simp; omega) | simp) _) | (refine bthen (by assumption) ?_ (by first | omega | (simp; omega) | simp)))
  clear hW kw3_0_0 fw3_0_0 kw3_0_1 fw3_0_1 kw3_0_2 fw3_0_2 kw3_0_3 fw3_0_3 kw3_0_4 fw3_0_4 hsw3_0 hBw3
  have hvW := hBW.size
  have HS := SW.start W; have hB3 := Below.refl W.heap.size W; have hc := True.intro; have hcf := True.intro
  go_region
  clear HS hB3 hc hcf
  go_wp2_with fail
  refine (bad_any _ _ (by rcases (show j = 0 ∨ j = 1 ∨ j = 2 ∨ j = 3 ∨ j = 4 ∨ j = 5 ∨ j = 6 by omega) with rfl | rfl | rfl | rfl | rfl | rfl | rfl <;> exact ⟨_, rfl, by kernel_rfl⟩)).mono ?_; rintro e w4 ⟨rfl, hbw4⟩
  have hzw4 := hbw4.size; (try simp at hzw4)
  have kw4_0_0 : w4.cell? ⟨w0.heap.size, 0, none⟩ = some (.int .i64 (3)) := (hbw4.cell (p := ⟨w0.heap.size, 0, none⟩) (by first | omega | (simp; omega) | simp)).trans (by first | (go_simp; done) | ((repeat rw [cell_al (by first | omega | (simp; omega) | simp)]); first | assumption | (go_simp; done)))
  have fw4_0_0 : w4.frozen? ⟨w0.heap.size, 0, none⟩ = false := (hbw4.frozen (p := ⟨w0.heap.size, 0, none⟩) (by first | omega | (simp; omega) | simp)).trans (by first | (go_simp; done) | ((repeat rw [cell_al (by first | omega | (simp; omega) | simp)]); first | assumption | (go_simp; done)))
  have kw4_0_1 : w4.cell? ⟨w0.heap.size, 1, none⟩ = some (.int .i64 (7)) := (hbw4.cell (p := ⟨w0.heap.size, 1, none⟩) (by first | omega | (simp; omega) | simp)).trans (by first | (go_simp; done) | ((repeat rw [cell_al (by first | omega | (simp; omega) | simp)]); first | assumption | (go_simp; done)))
  have fw4_0_1 : w4.frozen? ⟨w0.heap.size, 1, none⟩ = false := (hbw4.frozen (p := ⟨w0.heap.size, 1, none⟩) (by first | omega | (simp; omega) | simp)).trans (by first | (go_simp; done) | ((repeat rw [cell_al (by first | omega | (simp; omega) | simp)]); first | assumption | (go_simp; done)))
  have kw4_0_2 : w4.cell? ⟨w0.heap.size, 2, none⟩ = some (.int .i64 (65535 + (1 + d))) := (hbw4.cell (p := ⟨w0.heap.size, 2, none⟩) (by first | omega | (simp; omega) | simp)).trans (by first | (go_simp; done) | ((repeat rw [cell_al (by first | omega | (simp; omega) | simp)]); first | assumption | (go_simp; done)))
  have fw4_0_2 : w4.frozen? ⟨w0.heap.size, 2, none⟩ = false := (hbw4.frozen (p := ⟨w0.heap.size, 2, none⟩) (by first | omega | (simp; omega) | simp)).trans (by first | (go_simp; done) | ((repeat rw [cell_al (by first | omega | (simp; omega) | simp)]); first | assumption | (go_simp; done)))
  have kw4_0_3 : w4.cell? ⟨w0.heap.size, 3, none⟩ = some (.int .i64 (65535)) := (hbw4.cell (p := ⟨w0.heap.size, 3, none⟩) (by first | omega | (simp; omega) | simp)).trans (by first | (go_simp; done) | ((repeat rw [cell_al (by first | omega | (simp; omega) | simp)]); first | assumption | (go_simp; done)))
  have fw4_0_3 : w4.frozen? ⟨w0.heap.size, 3, none⟩ = false := (hbw4.frozen (p := ⟨w0.heap.size, 3, none⟩) (by first | omega | (simp; omega) | simp)).trans (by first | (go_simp; done) | ((repeat rw [cell_al (by first | omega | (simp; omega) | simp)]); first | assumption | (go_simp; done)))
  have kw4_0_4 : w4.cell? ⟨w0.heap.size, 4, none⟩ = some (.int .i64 (255)) := (hbw4.cell (p := ⟨w0.heap.size, 4, none⟩) (by first | omega | (simp; omega) | simp)).trans (by first | (go_simp; done) | ((repeat rw [cell_al (by first | omega | (simp; omega) | simp)]); first | assumption | (go_simp; done)))
  have fw4_0_4 : w4.frozen? ⟨w0.heap.size, 4, none⟩ = false := (hbw4.frozen (p := ⟨w0.heap.size, 4, none⟩) (by first | omega | (simp; omega) | simp)).trans (by first | (go_simp; done) | ((repeat rw [cell_al (by first | omega | (simp; omega) | simp)]); first | assumption | (go_simp; done)))
  have hsw4_0 : w0.heap.size < w4.heap.size := (by omega)
  have hBw4 : Below w.heap.size w w4 := by
    refine bthen hbw4 ?_ (by first | omega | (simp; omega) | simp)
    repeat (first | exact Below.refl _ _ | (with_reducible assumption) | (refine Below.drew ?_) | (refine Below.setCell ?_ (by first | omega | (simp; omega) | simp) _) | (refine Below.alloc ?_ (by first | omega | (simp; omega) | simp) _) | (refine bthen (by assumption) ?_ (by first | omega | (simp; omega) | simp)))
  have hvw4 := hBw4.size
  clear kW_0_0 kW_0_1 kW_0_2 kW_0_3 kW_0_4 zW_0
  clear hbw4
  go_wp2_with fail
  refine name_calls fun V hV => ?_
  have kV_0_0 : V.cell? ⟨w0.heap.size, 0, none⟩ = some (.int .i64 (3)) := by rw [hV]; exact (by first | (go_simp; done) | ((repeat rw [cell_al (by first | omega | (simp; omega) | simp)]); first | assumption | (go_simp; done)))
  have fV_0_0 : V.frozen? ⟨w0.heap.size, 0, none⟩ = false := by rw [hV]; exact (by first | (go_simp; done) | ((repeat rw [cell_al (by first | omega | (simp; omega) | simp)]); first | assumption | (go_simp; done)))
  have kV_0_1 : V.cell? ⟨w0.heap.size, 1, none⟩ = some (.int .i64 (7)) := by rw [hV]; exact (by first | (go_simp; done) | ((repeat rw [cell_al (by first | omega | (simp; omega) | simp)]); first | assumption | (go_simp; done)))
  have fV_0_1 : V.frozen? ⟨w0.heap.size, 1, none⟩ = false := by rw [hV]; exact (by first | (go_simp; done) | ((repeat rw [cell_al (by first | omega | (simp; omega) | simp)]); first | assumption | (go_simp; done)))
  have kV_0_2 : V.cell? ⟨w0.heap.size, 2, none⟩ = some (.int .i64 (65535 + (1 + d))) := by rw [hV]; exact (by first | (go_simp; done) | ((repeat rw [cell_al (by first | omega | (simp; omega) | simp)]); first | assumption | (go_simp; done)))
  have fV_0_2 : V.frozen? ⟨w0.heap.size, 2, none⟩ = false := by rw [hV]; exact (by first | (go_simp; done) | ((repeat rw [cell_al (by first | omega | (simp; omega) | simp)]); first | assumption | (go_simp; done)))
  have kV_0_3 : V.cell? ⟨w0.heap.size, 3, none⟩ = some (.int .i64 (65535)) := by rw [hV]; exact (by first | (go_simp; done) | ((repeat rw [cell_al (by first | omega | (simp; omega) | simp)]); first | assumption | (go_simp; done)))
  have fV_0_3 : V.frozen? ⟨w0.heap.size, 3, none⟩ = false := by rw [hV]; exact (by first | (go_simp; done) | ((repeat rw [cell_al (by first | omega | (simp; omega) | simp)]); first | assumption | (go_simp; done)))
  have kV_0_4 : V.cell? ⟨w0.heap.size, 4, none⟩ = some (.int .i64 (255)) := by rw [hV]; exact (by first | (go_simp; done) | ((repeat rw [cell_al (by first | omega | (simp; omega) | simp)]); first | assumption | (go_simp; done)))
  have fV_0_4 : V.frozen? ⟨w0.heap.size, 4, none⟩ = false := by rw [hV]; exact (by first | (go_simp; done) | ((repeat rw [cell_al (by first | omega | (simp; omega) | simp)]); first | assumption | (go_simp; done)))
  have zV_0 : w0.heap.size < V.heap.size := by rw [hV]; first | omega | (simp; omega) | simp
  have kV_1_0 : V.cell? ⟨w4.heap.size, 0, none⟩ = some (.int .i64 0) := by rw [hV]; exact (by first | (go_simp; done) | ((repeat rw [cell_al (by first | omega | (simp; omega) | simp)]); first | assumption | (go_simp; done)))
  have kV_1_1 : V.cell? ⟨w4.heap.size, 1, none⟩ = some (.int .i64 0) := by rw [hV]; exact (by first | (go_simp; done) | ((repeat rw [cell_al (by first | omega | (simp; omega) | simp)]); first | assumption | (go_simp; done)))
  have kV_1_2 : V.cell? ⟨w4.heap.size, 2, none⟩ = some (.int .i64 0) := by rw [hV]; exact (by first | (go_simp; done) | ((repeat rw [cell_al (by first | omega | (simp; omega) | simp)]); first | assumption | (go_simp; done)))
  have kV_1_3 : V.cell? ⟨w4.heap.size, 3, none⟩ = some (.int .i64 0) := by rw [hV]; exact (by first | (go_simp; done) | ((repeat rw [cell_al (by first | omega | (simp; omega) | simp)]); first | assumption | (go_simp; done)))
  have kV_1_4 : V.cell? ⟨w4.heap.size, 4, none⟩ = some (.int .i64 0) := by rw [hV]; exact (by first | (go_simp; done) | ((repeat rw [cell_al (by first | omega | (simp; omega) | simp)]); first | assumption | (go_simp; done)))
  have zV_1 : w4.heap.size < V.heap.size := by rw [hV]; first | omega | (simp; omega) | simp
  have hBV : Below w.heap.size w V := by
    rw [hV]
    repeat (first | exact Below.refl _ _ | assumption | (refine Below.drew ?_) | (refine Below.setCell ?_ (by first | omega | (simp; omega) | simp) _) | (refine Below.alloc ?_ (by first | omega | (simp; omega) | simp) _) | (refine bthen (by assumption) ?_ (by first | omega | (simp; omega) | simp)))
  clear hV kw4_0_0 fw4_0_0 kw4_0_1 fw4_0_1 kw4_0_2 fw4_0_2 kw4_0_3 fw4_0_3 kw4_0_4 fw4_0_4 hsw4_0 hBw4
  have hvV := hBV.size
  have HS := SW.start V; have hB3 := Below.refl V.heap.size V; have hc := True.intro; have hcf := True.intro
  go_wp2_with (first
    | (go_at_call 11; (with_reducible refine (num_any _ _).mono ?_); rintro e w3 ⟨rfl, rfl⟩)
    | (go_at_call 12; (with_reducible refine (mayD_is _ _ _ _ _ _ _ hm).mono ?_); rintro e w3 ⟨rfl, hb⟩; have hS' := HS.keep hb; clear hb HS hc hB3 hcf; have HS := hS'; clear hS'; have hc := HS.cells; have hB3 := HS.below; have hcf := HS.frz))
  try go_wp2
  go_returns
  exact ⟨rfl, bthen hB3 hBV hBV.size⟩
set_option maxHeartbeats 8000000 in
theorem walk5 (which x d q j : Int) (w : World) (hx : bits .and .i64 x 1023 = d) (h0 : 0 ≤ d) (h1 : d ≤ 1023) (hq : (1 + d).tmod 200 = q) (hq0 : 0 ≤ q) (hq1 : q < 200) (hi : (IntKind.u64.wrap which).tmod 9 = 5)
    (hj : (IntKind.u64.wrap which).tmod 7 = j) (hj0 : 0 ≤ j) (hj1 : j < 7) (hm : mayD (3) (7) (65535) (-(1 + d)) (255) = false) (hp : putB (3) (7) (65535) (-(1 + d)) (255) = ⟨#[]⟩) (hpe : putE (3) (7) (65535) (-(1 + d)) (255) = 1600) :
    Calls Try.prog 5 #[.int .i64 which, .int .i64 x] w fun e w' => e = .returned (.bool true) ∧ Below w.heap.size w w' := by
  go_enter Try.func5, Try.ntmps5
  go_wp2_with fail
  refine (awakeD _).mono ?_; rintro e w0 ⟨rfl, hbw0⟩
  have hzw0 := hbw0.size; (try simp at hzw0)
  have hBw0 : Below w.heap.size w w0 := by
    refine bthen hbw0 ?_ (by first | omega | (simp; omega) | simp)
    repeat (first | exact Below.refl _ _ | (with_reducible assumption) | (refine Below.drew ?_) | (refine Below.setCell ?_ (by first | omega | (simp; omega) | simp) _) | (refine Below.alloc ?_ (by first | omega | (simp; omega) | simp) _) | (refine bthen (by assumption) ?_ (by first | omega | (simp; omega) | simp)))
  have hvw0 := hBw0.size
  clear hbw0
  go_wp2_with fail
  refine (put_is _ _ _ _ _ ⟨#[3, 7, 255, 255, 255, 255, 255, 0]⟩ 0 _ (by kernel_rfl) (by kernel_rfl)).mono ?_; rintro e w1 ⟨rfl, hbw1⟩
  have hzw1 := hbw1.size; (try simp at hzw1)
  have kw1_0_0 : w1.cell? ⟨w0.heap.size, 0, none⟩ = some (.int .i64 3) := (hbw1.cell (p := ⟨w0.heap.size, 0, none⟩) (by first | omega | (simp; omega) | simp)).trans (by first | (go_simp; done) | ((repeat rw [cell_al (by first | omega | (simp; omega) | simp)]); first | assumption | (go_simp; done)))
  have fw1_0_0 : w1.frozen? ⟨w0.heap.size, 0, none⟩ = false := (hbw1.frozen (p := ⟨w0.heap.size, 0, none⟩) (by first | omega | (simp; omega) | simp)).trans (by first | (go_simp; done) | ((repeat rw [cell_al (by first | omega | (simp; omega) | simp)]); first | assumption | (go_simp; done)))
  have kw1_0_1 : w1.cell? ⟨w0.heap.size, 1, none⟩ = some (.int .i64 7) := (hbw1.cell (p := ⟨w0.heap.size, 1, none⟩) (by first | omega | (simp; omega) | simp)).trans (by first | (go_simp; done) | ((repeat rw [cell_al (by first | omega | (simp; omega) | simp)]); first | assumption | (go_simp; done)))
  have fw1_0_1 : w1.frozen? ⟨w0.heap.size, 1, none⟩ = false := (hbw1.frozen (p := ⟨w0.heap.size, 1, none⟩) (by first | omega | (simp; omega) | simp)).trans (by first | (go_simp; done) | ((repeat rw [cell_al (by first | omega | (simp; omega) | simp)]); first | assumption | (go_simp; done)))
  have kw1_0_2 : w1.cell? ⟨w0.heap.size, 2, none⟩ = some (.int .i64 65535) := (hbw1.cell (p := ⟨w0.heap.size, 2, none⟩) (by first | omega | (simp; omega) | simp)).trans (by first | (go_simp; done) | ((repeat rw [cell_al (by first | omega | (simp; omega) | simp)]); first | assumption | (go_simp; done)))
  have fw1_0_2 : w1.frozen? ⟨w0.heap.size, 2, none⟩ = false := (hbw1.frozen (p := ⟨w0.heap.size, 2, none⟩) (by first | omega | (simp; omega) | simp)).trans (by first | (go_simp; done) | ((repeat rw [cell_al (by first | omega | (simp; omega) | simp)]); first | assumption | (go_simp; done)))
  have kw1_0_3 : w1.cell? ⟨w0.heap.size, 3, none⟩ = some (.int .i64 65535) := (hbw1.cell (p := ⟨w0.heap.size, 3, none⟩) (by first | omega | (simp; omega) | simp)).trans (by first | (go_simp; done) | ((repeat rw [cell_al (by first | omega | (simp; omega) | simp)]); first | assumption | (go_simp; done)))
  have fw1_0_3 : w1.frozen? ⟨w0.heap.size, 3, none⟩ = false := (hbw1.frozen (p := ⟨w0.heap.size, 3, none⟩) (by first | omega | (simp; omega) | simp)).trans (by first | (go_simp; done) | ((repeat rw [cell_al (by first | omega | (simp; omega) | simp)]); first | assumption | (go_simp; done)))
  have kw1_0_4 : w1.cell? ⟨w0.heap.size, 4, none⟩ = some (.int .i64 255) := (hbw1.cell (p := ⟨w0.heap.size, 4, none⟩) (by first | omega | (simp; omega) | simp)).trans (by first | (go_simp; done) | ((repeat rw [cell_al (by first | omega | (simp; omega) | simp)]); first | assumption | (go_simp; done)))
  have fw1_0_4 : w1.frozen? ⟨w0.heap.size, 4, none⟩ = false := (hbw1.frozen (p := ⟨w0.heap.size, 4, none⟩) (by first | omega | (simp; omega) | simp)).trans (by first | (go_simp; done) | ((repeat rw [cell_al (by first | omega | (simp; omega) | simp)]); first | assumption | (go_simp; done)))
  have hsw1_0 : w0.heap.size < w1.heap.size := (by omega)
  have hBw1 : Below w.heap.size w w1 := by
    refine bthen hbw1 ?_ (by first | omega | (simp; omega) | simp)
    repeat (first | exact Below.refl _ _ | (with_reducible assumption) | (refine Below.drew ?_) | (refine Below.setCell ?_ (by first | omega | (simp; omega) | simp) _) | (refine Below.alloc ?_ (by first | omega | (simp; omega) | simp) _) | (refine bthen (by assumption) ?_ (by first | omega | (simp; omega) | simp)))
  have hvw1 := hBw1.size
  clear hBw0 hzw0
  clear hbw1
  go_wp2_with fail
  refine (num_any _ _).mono ?_; rintro e w2 ⟨rfl, rfl⟩
  go_wp2_with fail
  refine (put_is _ _ _ _ _ _ _ _ hp hpe).mono ?_; rintro e w3 ⟨rfl, hbw3⟩
  have hzw3 := hbw3.size; (try simp at hzw3)
  have kw3_0_0 : w3.cell? ⟨w0.heap.size, 0, none⟩ = some (.int .i64 (3)) := (hbw3.cell (p := ⟨w0.heap.size, 0, none⟩) (by first | omega | (simp; omega) | simp)).trans (by first | (go_simp; done) | ((repeat rw [cell_al (by first | omega | (simp; omega) | simp)]); first | assumption | (go_simp; done)))
  have fw3_0_0 : w3.frozen? ⟨w0.heap.size, 0, none⟩ = false := (hbw3.frozen (p := ⟨w0.heap.size, 0, none⟩) (by first | omega | (simp; omega) | simp)).trans (by first | (go_simp; done) | ((repeat rw [cell_al (by first | omega | (simp; omega) | simp)]); first | assumption | (go_simp; done)))
  have kw3_0_1 : w3.cell? ⟨w0.heap.size, 1, none⟩ = some (.int .i64 (7)) := (hbw3.cell (p := ⟨w0.heap.size, 1, none⟩) (by first | omega | (simp; omega) | simp)).trans (by first | (go_simp; done) | ((repeat rw [cell_al (by first | omega | (simp; omega) | simp)]); first | assumption | (go_simp; done)))
  have fw3_0_1 : w3.frozen? ⟨w0.heap.size, 1, none⟩ = false := (hbw3.frozen (p := ⟨w0.heap.size, 1, none⟩) (by first | omega | (simp; omega) | simp)).trans (by first | (go_simp; done) | ((repeat rw [cell_al (by first | omega | (simp; omega) | simp)]); first | assumption | (go_simp; done)))
  have kw3_0_2 : w3.cell? ⟨w0.heap.size, 2, none⟩ = some (.int .i64 (65535)) := (hbw3.cell (p := ⟨w0.heap.size, 2, none⟩) (by first | omega | (simp; omega) | simp)).trans (by first | (go_simp; done) | ((repeat rw [cell_al (by first | omega | (simp; omega) | simp)]); first | assumption | (go_simp; done)))
  have fw3_0_2 : w3.frozen? ⟨w0.heap.size, 2, none⟩ = false := (hbw3.frozen (p := ⟨w0.heap.size, 2, none⟩) (by first | omega | (simp; omega) | simp)).trans (by first | (go_simp; done) | ((repeat rw [cell_al (by first | omega | (simp; omega) | simp)]); first | assumption | (go_simp; done)))
  have kw3_0_3 : w3.cell? ⟨w0.heap.size, 3, none⟩ = some (.int .i64 (-(1 + d))) := (hbw3.cell (p := ⟨w0.heap.size, 3, none⟩) (by first | omega | (simp; omega) | simp)).trans (by first | (go_simp; done) | ((repeat rw [cell_al (by first | omega | (simp; omega) | simp)]); first | assumption | (go_simp; done)))
  have fw3_0_3 : w3.frozen? ⟨w0.heap.size, 3, none⟩ = false := (hbw3.frozen (p := ⟨w0.heap.size, 3, none⟩) (by first | omega | (simp; omega) | simp)).trans (by first | (go_simp; done) | ((repeat rw [cell_al (by first | omega | (simp; omega) | simp)]); first | assumption | (go_simp; done)))
  have kw3_0_4 : w3.cell? ⟨w0.heap.size, 4, none⟩ = some (.int .i64 (255)) := (hbw3.cell (p := ⟨w0.heap.size, 4, none⟩) (by first | omega | (simp; omega) | simp)).trans (by first | (go_simp; done) | ((repeat rw [cell_al (by first | omega | (simp; omega) | simp)]); first | assumption | (go_simp; done)))
  have fw3_0_4 : w3.frozen? ⟨w0.heap.size, 4, none⟩ = false := (hbw3.frozen (p := ⟨w0.heap.size, 4, none⟩) (by first | omega | (simp; omega) | simp)).trans (by first | (go_simp; done) | ((repeat rw [cell_al (by first | omega | (simp; omega) | simp)]); first | assumption | (go_simp; done)))
  have hsw3_0 : w0.heap.size < w3.heap.size := (by omega)
  have hBw3 : Below w.heap.size w w3 := by
    refine bthen hbw3 ?_ (by first | omega | (simp; omega) | simp)
    repeat (first | exact Below.refl _ _ | (with_reducible assumption) | (refine Below.drew ?_) | (refine Below.setCell ?_ (by first | omega | (simp; omega) | simp) _) | (refine Below.alloc ?_ (by first | omega | (simp; omega) | simp) _) | (refine bthen (by assumption) ?_ (by first | omega | (simp; omega) | simp)))
  have hvw3 := hBw3.size
  clear kw1_0_0 fw1_0_0 kw1_0_1 fw1_0_1 kw1_0_2 fw1_0_2 kw1_0_3 fw1_0_3 kw1_0_4 fw1_0_4 hsw1_0 hBw1 hzw1
  clear hbw3
  go_wp2_with fail
  refine name_world fun W hW => ?_
  have kW_0_0 : W.cell? ⟨w0.heap.size, 0, none⟩ = some (.int .i64 (3)) := by rw [hW]; exact (by first | (go_simp; done) | ((repeat rw [cell_al (by first | omega | (simp; omega) | simp)]); first | assumption | (go_simp; done)))
  have fW_0_0 : W.frozen? ⟨w0.heap.size, 0, none⟩ = false := by rw [hW]; exact (by first | (go_simp; done) | ((repeat rw [cell_al (by first | omega | (simp; omega) | simp)]); first | assumption | (go_simp; done)))
  have kW_0_1 : W.cell? ⟨w0.heap.size, 1, none⟩ = some (.int .i64 (7)) := by rw [hW]; exact (by first | (go_simp; done) | ((repeat rw [cell_al (by first | omega | (simp; omega) | simp)]); first | assumption | (go_simp; done)))
  have fW_0_1 : W.frozen? ⟨w0.heap.size, 1, none⟩ = false := by rw [hW]; exact (by first | (go_simp; done) | ((repeat rw [cell_al (by first | omega | (simp; omega) | simp)]); first | assumption | (go_simp; done)))
  have kW_0_2 : W.cell? ⟨w0.heap.size, 2, none⟩ = some (.int .i64 (65535)) := by rw [hW]; exact (by first | (go_simp; done) | ((repeat rw [cell_al (by first | omega | (simp; omega) | simp)]); first | assumption | (go_simp; done)))
  have fW_0_2 : W.frozen? ⟨w0.heap.size, 2, none⟩ = false := by rw [hW]; exact (by first | (go_simp; done) | ((repeat rw [cell_al (by first | omega | (simp; omega) | simp)]); first | assumption | (go_simp; done)))
  have kW_0_3 : W.cell? ⟨w0.heap.size, 3, none⟩ = some (.int .i64 (-(1 + d))) := by rw [hW]; exact (by first | (go_simp; done) | ((repeat rw [cell_al (by first | omega | (simp; omega) | simp)]); first | assumption | (go_simp; done)))
  have fW_0_3 : W.frozen? ⟨w0.heap.size, 3, none⟩ = false := by rw [hW]; exact (by first | (go_simp; done) | ((repeat rw [cell_al (by first | omega | (simp; omega) | simp)]); first | assumption | (go_simp; done)))
  have kW_0_4 : W.cell? ⟨w0.heap.size, 4, none⟩ = some (.int .i64 (255)) := by rw [hW]; exact (by first | (go_simp; done) | ((repeat rw [cell_al (by first | omega | (simp; omega) | simp)]); first | assumption | (go_simp; done)))
  have fW_0_4 : W.frozen? ⟨w0.heap.size, 4, none⟩ = false := by rw [hW]; exact (by first | (go_simp; done) | ((repeat rw [cell_al (by first | omega | (simp; omega) | simp)]); first | assumption | (go_simp; done)))
  have zW_0 : w0.heap.size < W.heap.size := by rw [hW]; first | omega | (simp; omega) | simp
  have hBW : Below w.heap.size w W := by
    rw [hW]
    repeat (first | exact Below.refl _ _ | assumption | (refine Below.drew ?_) | (refine Below.setCell ?_ (by first | omega | (simp; omega) | simp) _) | (refine Below.alloc ?_ (by first | omega | (simp; omega) | simp) _) | (refine bthen (by assumption) ?_ (by first | omega | (simp; omega) | simp)))
  clear hW kw3_0_0 fw3_0_0 kw3_0_1 fw3_0_1 kw3_0_2 fw3_0_2 kw3_0_3 fw3_0_3 kw3_0_4 fw3_0_4 hsw3_0 hBw3
  have hvW := hBW.size
  have HS := SW.start W; have hB3 := Below.refl W.heap.size W; have hc := True.intro; have hcf := True.intro
  go_region
  clear HS hB3 hc hcf
  go_wp2_with fail
  refine (bad_any _ _ (by rcases (show j = 0 ∨ j = 1 ∨ j = 2 ∨ j = 3 ∨ j = 4 ∨ j = 5 ∨ j = 6 by omega) with rfl | rfl | rfl | rfl | rfl | rfl | rfl <;> exact ⟨_, rfl, by kernel_rfl⟩)).mono ?_; rintro e w4 ⟨rfl, hbw4⟩
  have hzw4 := hbw4.size; (try simp at hzw4)
  have kw4_0_0 : w4.cell? ⟨w0.heap.size, 0, none⟩ = some (.int .i64 (3)) := (hbw4.cell (p := ⟨w0.heap.size, 0, none⟩) (by first | omega | (simp; omega) | simp)).trans (by first | (go_simp; done) | ((repeat rw [cell_al (by first | omega | (simp; omega) | simp)]); first | assumption | (go_simp; done)))
  have fw4_0_0 : w4.frozen? ⟨w0.heap.size, 0, none⟩ = false := (hbw4.frozen (p := ⟨w0.heap.size, 0, none⟩) (by first | omega | (simp; omega) | simp)).trans (by first | (go_simp; done) | ((repeat rw [cell_al (by first | omega | (simp; omega) | simp)]); first | assumption | (go_simp; done)))
  have kw4_0_1 : w4.cell? ⟨w0.heap.size, 1, none⟩ = some (.int .i64 (7)) := (hbw4.cell (p := ⟨w0.heap.size, 1, none⟩) (by first | omega | (simp; omega) | simp)).trans (by first | (go_simp; done) | ((repeat rw [cell_al (by first | omega | (simp; omega) | simp)]); first | assumption | (go_simp; done)))
  have fw4_0_1 : w4.frozen? ⟨w0.heap.size, 1, none⟩ = false := (hbw4.frozen (p := ⟨w0.heap.size, 1, none⟩) (by first | omega | (simp; omega) | simp)).trans (by first | (go_simp; done) | ((repeat rw [cell_al (by first | omega | (simp; omega) | simp)]); first | assumption | (go_simp; done)))
  have kw4_0_2 : w4.cell? ⟨w0.heap.size, 2, none⟩ = some (.int .i64 (65535)) := (hbw4.cell (p := ⟨w0.heap.size, 2, none⟩) (by first | omega | (simp; omega) | simp)).trans (by first | (go_simp; done) | ((repeat rw [cell_al (by first | omega | (simp; omega) | simp)]); first | assumption | (go_simp; done)))
  have fw4_0_2 : w4.frozen? ⟨w0.heap.size, 2, none⟩ = false := (hbw4.frozen (p := ⟨w0.heap.size, 2, none⟩) (by first | omega | (simp; omega) | simp)).trans (by first | (go_simp; done) | ((repeat rw [cell_al (by first | omega | (simp; omega) | simp)]); first | assumption | (go_simp; done)))
  have kw4_0_3 : w4.cell? ⟨w0.heap.size, 3, none⟩ = some (.int .i64 (-(1 + d))) := (hbw4.cell (p := ⟨w0.heap.size, 3, none⟩) (by first | omega | (simp; omega) | simp)).trans (by first | (go_simp; done) | ((repeat rw [cell_al (by first | omega | (simp; omega) | simp)]); first | assumption | (go_simp; done)))
  have fw4_0_3 : w4.frozen? ⟨w0.heap.size, 3, none⟩ = false := (hbw4.frozen (p := ⟨w0.heap.size, 3, none⟩) (by first | omega | (simp; omega) | simp)).trans (by first | (go_simp; done) | ((repeat rw [cell_al (by first | omega | (simp; omega) | simp)]); first | assumption | (go_simp; done)))
  have kw4_0_4 : w4.cell? ⟨w0.heap.size, 4, none⟩ = some (.int .i64 (255)) := (hbw4.cell (p := ⟨w0.heap.size, 4, none⟩) (by first | omega | (simp; omega) | simp)).trans (by first | (go_simp; done) | ((repeat rw [cell_al (by first | omega | (simp; omega) | simp)]); first | assumption | (go_simp; done)))
  have fw4_0_4 : w4.frozen? ⟨w0.heap.size, 4, none⟩ = false := (hbw4.frozen (p := ⟨w0.heap.size, 4, none⟩) (by first | omega | (simp; omega) | simp)).trans (by first | (go_simp; done) | ((repeat rw [cell_al (by first | omega | (simp; omega) | simp)]); first | assumption | (go_simp; done)))
  have hsw4_0 : w0.heap.size < w4.heap.size := (by omega)
  have hBw4 : Below w.heap.size w w4 := by
    refine bthen hbw4 ?_ (by first | omega | (simp; omega) | simp)
    repeat (first | exact Below.refl _ _ | (with_reducible assumption) | (refine Below.drew ?_) | (refine Below.setCell ?_ (by first | omega | (simp; omega) | simp) _) | (refine Below.alloc ?_ (by first | omega | (simp; omega) | simp) _) | (refine bthen (by assumption) ?_ (by first | omega | (simp; omega) | simp)))
  have hvw4 := hBw4.size
  clear kW_0_0 kW_0_1 kW_0_2 kW_0_3 kW_0_4 zW_0
  clear hbw4
  go_wp2_with fail
  refine name_calls fun V hV => ?_
  have kV_0_0 : V.cell? ⟨w0.heap.size, 0, none⟩ = some (.int .i64 (3)) := by rw [hV]; exact (by first | (go_simp; done) | ((repeat rw [cell_al (by first | omega | (simp; omega) | simp)]); first | assumption | (go_simp; done)))
  have fV_0_0 : V.frozen? ⟨w0.heap.size, 0, none⟩ = false := by rw [hV]; exact (by first | (go_simp; done) | ((repeat rw [cell_al (by first | omega | (simp; omega) | simp)]); first | assumption | (go_simp; done)))
  have kV_0_1 : V.cell? ⟨w0.heap.size, 1, none⟩ = some (.int .i64 (7)) := by rw [hV]; exact (by first | (go_simp; done) | ((repeat rw [cell_al (by first | omega | (simp; omega) | simp)]); first | assumption | (go_simp; done)))
  have fV_0_1 : V.frozen? ⟨w0.heap.size, 1, none⟩ = false := by rw [hV]; exact (by first | (go_simp; done) | ((repeat rw [cell_al (by first | omega | (simp; omega) | simp)]); first | assumption | (go_simp; done)))
  have kV_0_2 : V.cell? ⟨w0.heap.size, 2, none⟩ = some (.int .i64 (65535)) := by rw [hV]; exact (by first | (go_simp; done) | ((repeat rw [cell_al (by first | omega | (simp; omega) | simp)]); first | assumption | (go_simp; done)))
  have fV_0_2 : V.frozen? ⟨w0.heap.size, 2, none⟩ = false := by rw [hV]; exact (by first | (go_simp; done) | ((repeat rw [cell_al (by first | omega | (simp; omega) | simp)]); first | assumption | (go_simp; done)))
  have kV_0_3 : V.cell? ⟨w0.heap.size, 3, none⟩ = some (.int .i64 (-(1 + d))) := by rw [hV]; exact (by first | (go_simp; done) | ((repeat rw [cell_al (by first | omega | (simp; omega) | simp)]); first | assumption | (go_simp; done)))
  have fV_0_3 : V.frozen? ⟨w0.heap.size, 3, none⟩ = false := by rw [hV]; exact (by first | (go_simp; done) | ((repeat rw [cell_al (by first | omega | (simp; omega) | simp)]); first | assumption | (go_simp; done)))
  have kV_0_4 : V.cell? ⟨w0.heap.size, 4, none⟩ = some (.int .i64 (255)) := by rw [hV]; exact (by first | (go_simp; done) | ((repeat rw [cell_al (by first | omega | (simp; omega) | simp)]); first | assumption | (go_simp; done)))
  have fV_0_4 : V.frozen? ⟨w0.heap.size, 4, none⟩ = false := by rw [hV]; exact (by first | (go_simp; done) | ((repeat rw [cell_al (by first | omega | (simp; omega) | simp)]); first | assumption | (go_simp; done)))
  have zV_0 : w0.heap.size < V.heap.size := by rw [hV]; first | omega | (simp; omega) | simp
  have kV_1_0 : V.cell? ⟨w4.heap.size, 0, none⟩ = some (.int .i64 0) := by rw [hV]; exact (by first | (go_simp; done) | ((repeat rw [cell_al (by first | omega | (simp; omega) | simp)]); first | assumption | (go_simp; done)))
  have kV_1_1 : V.cell? ⟨w4.heap.size, 1, none⟩ = some (.int .i64 0) := by rw [hV]; exact (by first | (go_simp; done) | ((repeat rw [cell_al (by first | omega | (simp; omega) | simp)]); first | assumption | (go_simp; done)))
  have kV_1_2 : V.cell? ⟨w4.heap.size, 2, none⟩ = some (.int .i64 0) := by rw [hV]; exact (by first | (go_simp; done) | ((repeat rw [cell_al (by first | omega | (simp; omega) | simp)]); first | assumption | (go_simp; done)))
  have kV_1_3 : V.cell? ⟨w4.heap.size, 3, none⟩ = some (.int .i64 0) := by rw [hV]; exact (by first | (go_simp; done) | ((repeat rw [cell_al (by first | omega | (simp; omega) | simp)]); first | assumption | (go_simp; done)))
  have kV_1_4 : V.cell? ⟨w4.heap.size, 4, none⟩ = some (.int .i64 0) := by rw [hV]; exact (by first | (go_simp; done) | ((repeat rw [cell_al (by first | omega | (simp; omega) | simp)]); first | assumption | (go_simp; done)))
  have zV_1 : w4.heap.size < V.heap.size := by rw [hV]; first | omega | (simp; omega) | simp
  have hBV : Below w.heap.size w V := by
    rw [hV]
    repeat (first | exact Below.refl _ _ | assumption | (refine Below.drew ?_) | (refine Below.setCell ?_ (by first | omega | (simp; omega) | simp) _) | (refine Below.alloc ?_ (by first | omega | (simp; omega) | simp) _) | (refine bthen (by assumption) ?_ (by first | omega | (simp; omega) | simp)))
  clear hV kw4_0_0 fw4_0_0 kw4_0_1 fw4_0_1 kw4_0_2 fw4_0_2 kw4_0_3 fw4_0_3 kw4_0_4 fw4_0_4 hsw4_0 hBw4
  have hvV := hBV.size
  have HS := SW.start V; have hB3 := Below.refl V.heap.size V; have hc := True.intro; have hcf := True.intro
  go_wp2_with (first
    | (go_at_call 11; (with_reducible refine (num_any _ _).mono ?_); rintro e w3 ⟨rfl, rfl⟩)
    | (go_at_call 12; (with_reducible refine (mayD_is _ _ _ _ _ _ _ hm).mono ?_); rintro e w3 ⟨rfl, hb⟩; have hS' := HS.keep hb; clear hb HS hc hB3 hcf; have HS := hS'; clear hS'; have hc := HS.cells; have hB3 := HS.below; have hcf := HS.frz))
  try go_wp2
  go_returns
  exact ⟨rfl, bthen hB3 hBV hBV.size⟩
set_option maxHeartbeats 8000000 in
theorem walk6 (which x d q j : Int) (w : World) (hx : bits .and .i64 x 1023 = d) (h0 : 0 ≤ d) (h1 : d ≤ 1023) (hq : (1 + d).tmod 200 = q) (hq0 : 0 ≤ q) (hq1 : q < 200) (hi : (IntKind.u64.wrap which).tmod 9 = 6)
    (hj : (IntKind.u64.wrap which).tmod 7 = j) (hj0 : 0 ≤ j) (hj1 : j < 7) (hm : mayD (3) (7) (65535) (65535 + (1 + d)) (255) = false) (hp : putB (3) (7) (65535) (65535 + (1 + d)) (255) = ⟨#[]⟩) (hpe : putE (3) (7) (65535) (65535 + (1 + d)) (255) = 1600) :
    Calls Try.prog 5 #[.int .i64 which, .int .i64 x] w fun e w' => e = .returned (.bool true) ∧ Below w.heap.size w w' := by
  go_enter Try.func5, Try.ntmps5
  go_wp2_with fail
  refine (awakeD _).mono ?_; rintro e w0 ⟨rfl, hbw0⟩
  have hzw0 := hbw0.size; (try simp at hzw0)
  have hBw0 : Below w.heap.size w w0 := by
    refine bthen hbw0 ?_ (by first | omega | (simp; omega) | simp)
    repeat (first | exact Below.refl _ _ | (with_reducible assumption) | (refine Below.drew ?_) | (refine Below.setCell ?_ (by first | omega | (simp; omega) | simp) _) | (refine Below.alloc ?_ (by first | omega | (simp; omega) | simp) _) | (refine bthen (by assumption) ?_ (by first | omega | (simp; omega) | simp)))
  have hvw0 := hBw0.size
  clear hbw0
  go_wp2_with fail
  refine (put_is _ _ _ _ _ ⟨#[3, 7, 255, 255, 255, 255, 255, 0]⟩ 0 _ (by kernel_rfl) (by kernel_rfl)).mono ?_; rintro e w1 ⟨rfl, hbw1⟩
  have hzw1 := hbw1.size; (try simp at hzw1)
  have kw1_0_0 : w1.cell? ⟨w0.heap.size, 0, none⟩ = some (.int .i64 3) := (hbw1.cell (p := ⟨w0.heap.size, 0, none⟩) (by first | omega | (simp; omega) | simp)).trans (by first | (go_simp; done) | ((repeat rw [cell_al (by first | omega | (simp; omega) | simp)]); first | assumption | (go_simp; done)))
  have fw1_0_0 : w1.frozen? ⟨w0.heap.size, 0, none⟩ = false := (hbw1.frozen (p := ⟨w0.heap.size, 0, none⟩) (by first | omega | (simp; omega) | simp)).trans (by first | (go_simp; done) | ((repeat rw [cell_al (by first | omega | (simp; omega) | simp)]); first | assumption | (go_simp; done)))
  have kw1_0_1 : w1.cell? ⟨w0.heap.size, 1, none⟩ = some (.int .i64 7) := (hbw1.cell (p := ⟨w0.heap.size, 1, none⟩) (by first | omega | (simp; omega) | simp)).trans (by first | (go_simp; done) | ((repeat rw [cell_al (by first | omega | (simp; omega) | simp)]); first | assumption | (go_simp; done)))
  have fw1_0_1 : w1.frozen? ⟨w0.heap.size, 1, none⟩ = false := (hbw1.frozen (p := ⟨w0.heap.size, 1, none⟩) (by first | omega | (simp; omega) | simp)).trans (by first | (go_simp; done) | ((repeat rw [cell_al (by first | omega | (simp; omega) | simp)]); first | assumption | (go_simp; done)))
  have kw1_0_2 : w1.cell? ⟨w0.heap.size, 2, none⟩ = some (.int .i64 65535) := (hbw1.cell (p := ⟨w0.heap.size, 2, none⟩) (by first | omega | (simp; omega) | simp)).trans (by first | (go_simp; done) | ((repeat rw [cell_al (by first | omega | (simp; omega) | simp)]); first | assumption | (go_simp; done)))
  have fw1_0_2 : w1.frozen? ⟨w0.heap.size, 2, none⟩ = false := (hbw1.frozen (p := ⟨w0.heap.size, 2, none⟩) (by first | omega | (simp; omega) | simp)).trans (by first | (go_simp; done) | ((repeat rw [cell_al (by first | omega | (simp; omega) | simp)]); first | assumption | (go_simp; done)))
  have kw1_0_3 : w1.cell? ⟨w0.heap.size, 3, none⟩ = some (.int .i64 65535) := (hbw1.cell (p := ⟨w0.heap.size, 3, none⟩) (by first | omega | (simp; omega) | simp)).trans (by first | (go_simp; done) | ((repeat rw [cell_al (by first | omega | (simp; omega) | simp)]); first | assumption | (go_simp; done)))
  have fw1_0_3 : w1.frozen? ⟨w0.heap.size, 3, none⟩ = false := (hbw1.frozen (p := ⟨w0.heap.size, 3, none⟩) (by first | omega | (simp; omega) | simp)).trans (by first | (go_simp; done) | ((repeat rw [cell_al (by first | omega | (simp; omega) | simp)]); first | assumption | (go_simp; done)))
  have kw1_0_4 : w1.cell? ⟨w0.heap.size, 4, none⟩ = some (.int .i64 255) := (hbw1.cell (p := ⟨w0.heap.size, 4, none⟩) (by first | omega | (simp; omega) | simp)).trans (by first | (go_simp; done) | ((repeat rw [cell_al (by first | omega | (simp; omega) | simp)]); first | assumption | (go_simp; done)))
  have fw1_0_4 : w1.frozen? ⟨w0.heap.size, 4, none⟩ = false := (hbw1.frozen (p := ⟨w0.heap.size, 4, none⟩) (by first | omega | (simp; omega) | simp)).trans (by first | (go_simp; done) | ((repeat rw [cell_al (by first | omega | (simp; omega) | simp)]); first | assumption | (go_simp; done)))
  have hsw1_0 : w0.heap.size < w1.heap.size := (by omega)
  have hBw1 : Below w.heap.size w w1 := by
    refine bthen hbw1 ?_ (by first | omega | (simp; omega) | simp)
    repeat (first | exact Below.refl _ _ | (with_reducible assumption) | (refine Below.drew ?_) | (refine Below.setCell ?_ (by first | omega | (simp; omega) | simp) _) | (refine Below.alloc ?_ (by first | omega | (simp; omega) | simp) _) | (refine bthen (by assumption) ?_ (by first | omega | (simp; omega) | simp)))
  have hvw1 := hBw1.size
  clear hBw0 hzw0
  clear hbw1
  go_wp2_with fail
  refine (num_any _ _).mono ?_; rintro e w2 ⟨rfl, rfl⟩
  go_wp2_with fail
  refine (put_is _ _ _ _ _ _ _ _ hp hpe).mono ?_; rintro e w3 ⟨rfl, hbw3⟩
  have hzw3 := hbw3.size; (try simp at hzw3)
  have kw3_0_0 : w3.cell? ⟨w0.heap.size, 0, none⟩ = some (.int .i64 (3)) := (hbw3.cell (p := ⟨w0.heap.size, 0, none⟩) (by first | omega | (simp; omega) | simp)).trans (by first | (go_simp; done) | ((repeat rw [cell_al (by first | omega | (simp; omega) | simp)]); first | assumption | (go_simp; done)))
  have fw3_0_0 : w3.frozen? ⟨w0.heap.size, 0, none⟩ = false := (hbw3.frozen (p := ⟨w0.heap.size, 0, none⟩) (by first | omega | (simp; omega) | simp)).trans (by first | (go_simp; done) | ((repeat rw [cell_al (by first | omega | (simp; omega) | simp)]); first | assumption | (go_simp; done)))
  have kw3_0_1 : w3.cell? ⟨w0.heap.size, 1, none⟩ = some (.int .i64 (7)) := (hbw3.cell (p := ⟨w0.heap.size, 1, none⟩) (by first | omega | (simp; omega) | simp)).trans (by first | (go_simp; done) | ((repeat rw [cell_al (by first | omega | (simp; omega) | simp)]); first | assumption | (go_simp; done)))
  have fw3_0_1 : w3.frozen? ⟨w0.heap.size, 1, none⟩ = false := (hbw3.frozen (p := ⟨w0.heap.size, 1, none⟩) (by first | omega | (simp; omega) | simp)).trans (by first | (go_simp; done) | ((repeat rw [cell_al (by first | omega | (simp; omega) | simp)]); first | assumption | (go_simp; done)))
  have kw3_0_2 : w3.cell? ⟨w0.heap.size, 2, none⟩ = some (.int .i64 (65535)) := (hbw3.cell (p := ⟨w0.heap.size, 2, none⟩) (by first | omega | (simp; omega) | simp)).trans (by first | (go_simp; done) | ((repeat rw [cell_al (by first | omega | (simp; omega) | simp)]); first | assumption | (go_simp; done)))
  have fw3_0_2 : w3.frozen? ⟨w0.heap.size, 2, none⟩ = false := (hbw3.frozen (p := ⟨w0.heap.size, 2, none⟩) (by first | omega | (simp; omega) | simp)).trans (by first | (go_simp; done) | ((repeat rw [cell_al (by first | omega | (simp; omega) | simp)]); first | assumption | (go_simp; done)))
  have kw3_0_3 : w3.cell? ⟨w0.heap.size, 3, none⟩ = some (.int .i64 (65535 + (1 + d))) := (hbw3.cell (p := ⟨w0.heap.size, 3, none⟩) (by first | omega | (simp; omega) | simp)).trans (by first | (go_simp; done) | ((repeat rw [cell_al (by first | omega | (simp; omega) | simp)]); first | assumption | (go_simp; done)))
  have fw3_0_3 : w3.frozen? ⟨w0.heap.size, 3, none⟩ = false := (hbw3.frozen (p := ⟨w0.heap.size, 3, none⟩) (by first | omega | (simp; omega) | simp)).trans (by first | (go_simp; done) | ((repeat rw [cell_al (by first | omega | (simp; omega) | simp)]); first | assumption | (go_simp; done)))
  have kw3_0_4 : w3.cell? ⟨w0.heap.size, 4, none⟩ = some (.int .i64 (255)) := (hbw3.cell (p := ⟨w0.heap.size, 4, none⟩) (by first | omega | (simp; omega) | simp)).trans (by first | (go_simp; done) | ((repeat rw [cell_al (by first | omega | (simp; omega) | simp)]); first | assumption | (go_simp; done)))
  have fw3_0_4 : w3.frozen? ⟨w0.heap.size, 4, none⟩ = false := (hbw3.frozen (p := ⟨w0.heap.size, 4, none⟩) (by first | omega | (simp; omega) | simp)).trans (by first | (go_simp; done) | ((repeat rw [cell_al (by first | omega | (simp; omega) | simp)]); first | assumption | (go_simp; done)))
  have hsw3_0 : w0.heap.size < w3.heap.size := (by omega)
  have hBw3 : Below w.heap.size w w3 := by
    refine bthen hbw3 ?_ (by first | omega | (simp; omega) | simp)
    repeat (first | exact Below.refl _ _ | (with_reducible assumption) | (refine Below.drew ?_) | (refine Below.setCell ?_ (by first | omega | (simp; omega) | simp) _) | (refine Below.alloc ?_ (by first | omega | (simp; omega) | simp) _) | (refine bthen (by assumption) ?_ (by first | omega | (simp; omega) | simp)))
  have hvw3 := hBw3.size
  clear kw1_0_0 fw1_0_0 kw1_0_1 fw1_0_1 kw1_0_2 fw1_0_2 kw1_0_3 fw1_0_3 kw1_0_4 fw1_0_4 hsw1_0 hBw1 hzw1
  clear hbw3
  go_wp2_with fail
  refine name_world fun W hW => ?_
  have kW_0_0 : W.cell? ⟨w0.heap.size, 0, none⟩ = some (.int .i64 (3)) := by rw [hW]; exact (by first | (go_simp; done) | ((repeat rw [cell_al (by first | omega | (simp; omega) | simp)]); first | assumption | (go_simp; done)))
  have fW_0_0 : W.frozen? ⟨w0.heap.size, 0, none⟩ = false := by rw [hW]; exact (by first | (go_simp; done) | ((repeat rw [cell_al (by first | omega | (simp; omega) | simp)]); first | assumption | (go_simp; done)))
  have kW_0_1 : W.cell? ⟨w0.heap.size, 1, none⟩ = some (.int .i64 (7)) := by rw [hW]; exact (by first | (go_simp; done) | ((repeat rw [cell_al (by first | omega | (simp; omega) | simp)]); first | assumption | (go_simp; done)))
  have fW_0_1 : W.frozen? ⟨w0.heap.size, 1, none⟩ = false := by rw [hW]; exact (by first | (go_simp; done) | ((repeat rw [cell_al (by first | omega | (simp; omega) | simp)]); first | assumption | (go_simp; done)))
  have kW_0_2 : W.cell? ⟨w0.heap.size, 2, none⟩ = some (.int .i64 (65535)) := by rw [hW]; exact (by first | (go_simp; done) | ((repeat rw [cell_al (by first | omega | (simp; omega) | simp)]); first | assumption | (go_simp; done)))
  have fW_0_2 : W.frozen? ⟨w0.heap.size, 2, none⟩ = false := by rw [hW]; exact (by first | (go_simp; done) | ((repeat rw [cell_al (by first | omega | (simp; omega) | simp)]); first | assumption | (go_simp; done)))
  have kW_0_3 : W.cell? ⟨w0.heap.size, 3, none⟩ = some (.int .i64 (65535 + (1 + d))) := by rw [hW]; exact (by first | (go_simp; done) | ((repeat rw [cell_al (by first | omega | (simp; omega) | simp)]); first | assumption | (go_simp; done)))
  have fW_0_3 : W.frozen? ⟨w0.heap.size, 3, none⟩ = false := by rw [hW]; exact (by first | (go_simp; done) | ((repeat rw [cell_al (by first | omega | (simp; omega) | simp)]); first | assumption | (go_simp; done)))
  have kW_0_4 : W.cell? ⟨w0.heap.size, 4, none⟩ = some (.int .i64 (255)) := by rw [hW]; exact (by first | (go_simp; done) | ((repeat rw [cell_al (by first | omega | (simp; omega) | simp)]); first | assumption | (go_simp; done)))
  have fW_0_4 : W.frozen? ⟨w0.heap.size, 4, none⟩ = false := by rw [hW]; exact (by first | (go_simp; done) | ((repeat rw [cell_al (by first | omega | (simp; omega) | simp)]); first | assumption | (go_simp; done)))
  have zW_0 : w0.heap.size < W.heap.size := by rw [hW]; first | omega | (simp; omega) | simp
  have hBW : Below w.heap.size w W := by
    rw [hW]
    repeat (first | exact Below.refl _ _ | assumption | (refine Below.drew ?_) | (refine Below.setCell ?_ (by first | omega | (simp; omega) | simp) _) | (refine Below.alloc ?_ (by first | omega | (simp; omega) | simp) _) | (refine bthen (by assumption) ?_ (by first | omega | (simp; omega) | simp)))
  clear hW kw3_0_0 fw3_0_0 kw3_0_1 fw3_0_1 kw3_0_2 fw3_0_2 kw3_0_3 fw3_0_3 kw3_0_4 fw3_0_4 hsw3_0 hBw3
  have hvW := hBW.size
  have HS := SW.start W; have hB3 := Below.refl W.heap.size W; have hc := True.intro; have hcf := True.intro
  go_region
  clear HS hB3 hc hcf
  go_wp2_with fail
  refine (bad_any _ _ (by rcases (show j = 0 ∨ j = 1 ∨ j = 2 ∨ j = 3 ∨ j = 4 ∨ j = 5 ∨ j = 6 by omega) with rfl | rfl | rfl | rfl | rfl | rfl | rfl <;> exact ⟨_, rfl, by kernel_rfl⟩)).mono ?_; rintro e w4 ⟨rfl, hbw4⟩
  have hzw4 := hbw4.size; (try simp at hzw4)
  have kw4_0_0 : w4.cell? ⟨w0.heap.size, 0, none⟩ = some (.int .i64 (3)) := (hbw4.cell (p := ⟨w0.heap.size, 0, none⟩) (by first | omega | (simp; omega) | simp)).trans (by first | (go_simp; done) | ((repeat rw [cell_al (by first | omega | (simp; omega) | simp)]); first | assumption | (go_simp; done)))
  have fw4_0_0 : w4.frozen? ⟨w0.heap.size, 0, none⟩ = false := (hbw4.frozen (p := ⟨w0.heap.size, 0, none⟩) (by first | omega | (simp; omega) | simp)).trans (by first | (go_simp; done) | ((repeat rw [cell_al (by first | omega | (simp; omega) | simp)]); first | assumption | (go_simp; done)))
  have kw4_0_1 : w4.cell? ⟨w0.heap.size, 1, none⟩ = some (.int .i64 (7)) := (hbw4.cell (p := ⟨w0.heap.size, 1, none⟩) (by first | omega | (simp; omega) | simp)).trans (by first | (go_simp; done) | ((repeat rw [cell_al (by first | omega | (simp; omega) | simp)]); first | assumption | (go_simp; done)))
  have fw4_0_1 : w4.frozen? ⟨w0.heap.size, 1, none⟩ = false := (hbw4.frozen (p := ⟨w0.heap.size, 1, none⟩) (by first | omega | (simp; omega) | simp)).trans (by first | (go_simp; done) | ((repeat rw [cell_al (by first | omega | (simp; omega) | simp)]); first | assumption | (go_simp; done)))
  have kw4_0_2 : w4.cell? ⟨w0.heap.size, 2, none⟩ = some (.int .i64 (65535)) := (hbw4.cell (p := ⟨w0.heap.size, 2, none⟩) (by first | omega | (simp; omega) | simp)).trans (by first | (go_simp; done) | ((repeat rw [cell_al (by first | omega | (simp; omega) | simp)]); first | assumption | (go_simp; done)))
  have fw4_0_2 : w4.frozen? ⟨w0.heap.size, 2, none⟩ = false := (hbw4.frozen (p := ⟨w0.heap.size, 2, none⟩) (by first | omega | (simp; omega) | simp)).trans (by first | (go_simp; done) | ((repeat rw [cell_al (by first | omega | (simp; omega) | simp)]); first | assumption | (go_simp; done)))
  have kw4_0_3 : w4.cell? ⟨w0.heap.size, 3, none⟩ = some (.int .i64 (65535 + (1 + d))) := (hbw4.cell (p := ⟨w0.heap.size, 3, none⟩) (by first | omega | (simp; omega) | simp)).trans (by first | (go_simp; done) | ((repeat rw [cell_al (by first | omega | (simp; omega) | simp)]); first | assumption | (go_simp; done)))
  have fw4_0_3 : w4.frozen? ⟨w0.heap.size, 3, none⟩ = false := (hbw4.frozen (p := ⟨w0.heap.size, 3, none⟩) (by first | omega | (simp; omega) | simp)).trans (by first | (go_simp; done) | ((repeat rw [cell_al (by first | omega | (simp; omega) | simp)]); first | assumption | (go_simp; done)))
  have kw4_0_4 : w4.cell? ⟨w0.heap.size, 4, none⟩ = some (.int .i64 (255)) := (hbw4.cell (p := ⟨w0.heap.size, 4, none⟩) (by first | omega | (simp; omega) | simp)).trans (by first | (go_simp; done) | ((repeat rw [cell_al (by first | omega | (simp; omega) | simp)]); first | assumption | (go_simp; done)))
  have fw4_0_4 : w4.frozen? ⟨w0.heap.size, 4, none⟩ = false := (hbw4.frozen (p := ⟨w0.heap.size, 4, none⟩) (by first | omega | (simp; omega) | simp)).trans (by first | (go_simp; done) | ((repeat rw [cell_al (by first | omega | (simp; omega) | simp)]); first | assumption | (go_simp; done)))
  have hsw4_0 : w0.heap.size < w4.heap.size := (by omega)
  have hBw4 : Below w.heap.size w w4 := by
    refine bthen hbw4 ?_ (by first | omega | (simp; omega) | simp)
    repeat (first | exact Below.refl _ _ | (with_reducible assumption) | (refine Below.drew ?_) | (refine Below.setCell ?_ (by first | omega | (simp; omega) | simp) _) | (refine Below.alloc ?_ (by first | omega | (simp; omega) | simp) _) | (refine bthen (by assumption) ?_ (by first | omega | (simp; omega) | simp)))
  have hvw4 := hBw4.size
  clear kW_0_0 kW_0_1 kW_0_2 kW_0_3 kW_0_4 zW_0
  clear hbw4
  go_wp2_with fail
  refine name_calls fun V hV => ?_
  have kV_0_0 : V.cell? ⟨w0.heap.size, 0, none⟩ = some (.int .i64 (3)) := by rw [hV]; exact (by first | (go_simp; done) | ((repeat rw [cell_al (by first | omega | (simp; omega) | simp)]); first | assumption | (go_simp; done)))
  have fV_0_0 : V.frozen? ⟨w0.heap.size, 0, none⟩ = false := by rw [hV]; exact (by first | (go_simp; done) | ((repeat rw [cell_al (by first | omega | (simp; omega) | simp)]); first | assumption | (go_simp; done)))
  have kV_0_1 : V.cell? ⟨w0.heap.size, 1, none⟩ = some (.int .i64 (7)) := by rw [hV]; exact (by first | (go_simp; done) | ((repeat rw [cell_al (by first | omega | (simp; omega) | simp)]); first | assumption | (go_simp; done)))
  have fV_0_1 : V.frozen? ⟨w0.heap.size, 1, none⟩ = false := by rw [hV]; exact (by first | (go_simp; done) | ((repeat rw [cell_al (by first | omega | (simp; omega) | simp)]); first | assumption | (go_simp; done)))
  have kV_0_2 : V.cell? ⟨w0.heap.size, 2, none⟩ = some (.int .i64 (65535)) := by rw [hV]; exact (by first | (go_simp; done) | ((repeat rw [cell_al (by first | omega | (simp; omega) | simp)]); first | assumption | (go_simp; done)))
  have fV_0_2 : V.frozen? ⟨w0.heap.size, 2, none⟩ = false := by rw [hV]; exact (by first | (go_simp; done) | ((repeat rw [cell_al (by first | omega | (simp; omega) | simp)]); first | assumption | (go_simp; done)))
  have kV_0_3 : V.cell? ⟨w0.heap.size, 3, none⟩ = some (.int .i64 (65535 + (1 + d))) := by rw [hV]; exact (by first | (go_simp; done) | ((repeat rw [cell_al (by first | omega | (simp; omega) | simp)]); first | assumption | (go_simp; done)))
  have fV_0_3 : V.frozen? ⟨w0.heap.size, 3, none⟩ = false := by rw [hV]; exact (by first | (go_simp; done) | ((repeat rw [cell_al (by first | omega | (simp; omega) | simp)]); first | assumption | (go_simp; done)))
  have kV_0_4 : V.cell? ⟨w0.heap.size, 4, none⟩ = some (.int .i64 (255)) := by rw [hV]; exact (by first | (go_simp; done) | ((repeat rw [cell_al (by first | omega | (simp; omega) | simp)]); first | assumption | (go_simp; done)))
  have fV_0_4 : V.frozen? ⟨w0.heap.size, 4, none⟩ = false := by rw [hV]; exact (by first | (go_simp; done) | ((repeat rw [cell_al (by first | omega | (simp; omega) | simp)]); first | assumption | (go_simp; done)))
  have zV_0 : w0.heap.size < V.heap.size := by rw [hV]; first | omega | (simp; omega) | simp
  have kV_1_0 : V.cell? ⟨w4.heap.size, 0, none⟩ = some (.int .i64 0) := by rw [hV]; exact (by first | (go_simp; done) | ((repeat rw [cell_al (by first | omega | (simp; omega) | simp)]); first | assumption | (go_simp; done)))
  have kV_1_1 : V.cell? ⟨w4.heap.size, 1, none⟩ = some (.int .i64 0) := by rw [hV]; exact (by first | (go_simp; done) | ((repeat rw [cell_al (by first | omega | (simp; omega) | simp)]); first | assumption | (go_simp; done)))
  have kV_1_2 : V.cell? ⟨w4.heap.size, 2, none⟩ = some (.int .i64 0) := by rw [hV]; exact (by first | (go_simp; done) | ((repeat rw [cell_al (by first | omega | (simp; omega) | simp)]); first | assumption | (go_simp; done)))
  have kV_1_3 : V.cell? ⟨w4.heap.size, 3, none⟩ = some (.int .i64 0) := by rw [hV]; exact (by first | (go_simp; done) | ((repeat rw [cell_al (by first | omega | (simp; omega) | simp)]); first | assumption | (go_simp; done)))
  have kV_1_4 : V.cell? ⟨w4.heap.size, 4, none⟩ = some (.int .i64 0) := by rw [hV]; exact (by first | (go_simp; done) | ((repeat rw [cell_al (by first | omega | (simp; omega) | simp)]); first | assumption | (go_simp; done)))
  have zV_1 : w4.heap.size < V.heap.size := by rw [hV]; first | omega | (simp; omega) | simp
  have hBV : Below w.heap.size w V := by
    rw [hV]
    repeat (first | exact Below.refl _ _ | assumption | (refine Below.drew ?_) | (refine Below.setCell ?_ (by first | omega | (simp; omega) | simp) _) | (refine Below.alloc ?_ (by first | omega | (simp; omega) | simp) _) | (refine bthen (by assumption) ?_ (by first | omega | (simp; omega) | simp)))
  clear hV kw4_0_0 fw4_0_0 kw4_0_1 fw4_0_1 kw4_0_2 fw4_0_2 kw4_0_3 fw4_0_3 kw4_0_4 fw4_0_4 hsw4_0 hBw4
  have hvV := hBV.size
  have HS := SW.start V; have hB3 := Below.refl V.heap.size V; have hc := True.intro; have hcf := True.intro
  go_wp2_with (first
    | (go_at_call 11; (with_reducible refine (num_any _ _).mono ?_); rintro e w3 ⟨rfl, rfl⟩)
    | (go_at_call 12; (with_reducible refine (mayD_is _ _ _ _ _ _ _ hm).mono ?_); rintro e w3 ⟨rfl, hb⟩; have hS' := HS.keep hb; clear hb HS hc hB3 hcf; have HS := hS'; clear hS'; have hc := HS.cells; have hB3 := HS.below; have hcf := HS.frz))
  try go_wp2
  go_returns
  exact ⟨rfl, bthen hB3 hBV hBV.size⟩
set_option maxHeartbeats 8000000 in
theorem walk7 (which x d q j : Int) (w : World) (hx : bits .and .i64 x 1023 = d) (h0 : 0 ≤ d) (h1 : d ≤ 1023) (hq : (1 + d).tmod 200 = q) (hq0 : 0 ≤ q) (hq1 : q < 200) (hi : (IntKind.u64.wrap which).tmod 9 = 7)
    (hj : (IntKind.u64.wrap which).tmod 7 = j) (hj0 : 0 ≤ j) (hj1 : j < 7) (hm : mayD (3) (7) (65535) (65535) (255 + (1 + d)) = false) (hp : putB (3) (7) (65535) (65535) (255 + (1 + d)) = ⟨#[]⟩) (hpe : putE (3) (7) (65535) (65535) (255 + (1 + d)) = 1600) :
    Calls Try.prog 5 #[.int .i64 which, .int .i64 x] w fun e w' => e = .returned (.bool true) ∧ Below w.heap.size w w' := by
  go_enter Try.func5, Try.ntmps5
  go_wp2_with fail
  refine (awakeD _).mono ?_; rintro e w0 ⟨rfl, hbw0⟩
  have hzw0 := hbw0.size; (try simp at hzw0)
  have hBw0 : Below w.heap.size w w0 := by
    refine bthen hbw0 ?_ (by first | omega | (simp; omega) | simp)
    repeat (first | exact Below.refl _ _ | (with_reducible assumption) | (refine Below.drew ?_) | (refine Below.setCell ?_ (by first | omega | (simp; omega) | simp) _) | (refine Below.alloc ?_ (by first | omega | (simp; omega) | simp) _) | (refine bthen (by assumption) ?_ (by first | omega | (simp; omega) | simp)))
  have hvw0 := hBw0.size
  clear hbw0
  go_wp2_with fail
  refine (put_is _ _ _ _ _ ⟨#[3, 7, 255, 255, 255, 255, 255, 0]⟩ 0 _ (by kernel_rfl) (by kernel_rfl)).mono ?_; rintro e w1 ⟨rfl, hbw1⟩
  have hzw1 := hbw1.size; (try simp at hzw1)
  have kw1_0_0 : w1.cell? ⟨w0.heap.size, 0, none⟩ = some (.int .i64 3) := (hbw1.cell (p := ⟨w0.heap.size, 0, none⟩) (by first | omega | (simp; omega) | simp)).trans (by first | (go_simp; done) | ((repeat rw [cell_al (by first | omega | (simp; omega) | simp)]); first | assumption | (go_simp; done)))
  have fw1_0_0 : w1.frozen? ⟨w0.heap.size, 0, none⟩ = false := (hbw1.frozen (p := ⟨w0.heap.size, 0, none⟩) (by first | omega | (simp; omega) | simp)).trans (by first | (go_simp; done) | ((repeat rw [cell_al (by first | omega | (simp; omega) | simp)]); first | assumption | (go_simp; done)))
  have kw1_0_1 : w1.cell? ⟨w0.heap.size, 1, none⟩ = some (.int .i64 7) := (hbw1.cell (p := ⟨w0.heap.size, 1, none⟩) (by first | omega | (simp; omega) | simp)).trans (by first | (go_simp; done) | ((repeat rw [cell_al (by first | omega | (simp; omega) | simp)]); first | assumption | (go_simp; done)))
  have fw1_0_1 : w1.frozen? ⟨w0.heap.size, 1, none⟩ = false := (hbw1.frozen (p := ⟨w0.heap.size, 1, none⟩) (by first | omega | (simp; omega) | simp)).trans (by first | (go_simp; done) | ((repeat rw [cell_al (by first | omega | (simp; omega) | simp)]); first | assumption | (go_simp; done)))
  have kw1_0_2 : w1.cell? ⟨w0.heap.size, 2, none⟩ = some (.int .i64 65535) := (hbw1.cell (p := ⟨w0.heap.size, 2, none⟩) (by first | omega | (simp; omega) | simp)).trans (by first | (go_simp; done) | ((repeat rw [cell_al (by first | omega | (simp; omega) | simp)]); first | assumption | (go_simp; done)))
  have fw1_0_2 : w1.frozen? ⟨w0.heap.size, 2, none⟩ = false := (hbw1.frozen (p := ⟨w0.heap.size, 2, none⟩) (by first | omega | (simp; omega) | simp)).trans (by first | (go_simp; done) | ((repeat rw [cell_al (by first | omega | (simp; omega) | simp)]); first | assumption | (go_simp; done)))
  have kw1_0_3 : w1.cell? ⟨w0.heap.size, 3, none⟩ = some (.int .i64 65535) := (hbw1.cell (p := ⟨w0.heap.size, 3, none⟩) (by first | omega | (simp; omega) | simp)).trans (by first | (go_simp; done) | ((repeat rw [cell_al (by first | omega | (simp; omega) | simp)]); first | assumption | (go_simp; done)))
  have fw1_0_3 : w1.frozen? ⟨w0.heap.size, 3, none⟩ = false := (hbw1.frozen (p := ⟨w0.heap.size, 3, none⟩) (by first | omega | (simp; omega) | simp)).trans (by first | (go_simp; done) | ((repeat rw [cell_al (by first | omega | (simp; omega) | simp)]); first | assumption | (go_simp; done)))
  have kw1_0_4 : w1.cell? ⟨w0.heap.size, 4, none⟩ = some (.int .i64 255) := (hbw1.cell (p := ⟨w0.heap.size, 4, none⟩) (by first | omega | (simp; omega) | simp)).trans (by first | (go_simp; done) | ((repeat rw [cell_al (by first | omega | (simp; omega) | simp)]); first | assumption | (go_simp; done)))
  have fw1_0_4 : w1.frozen? ⟨w0.heap.size, 4, none⟩ = false := (hbw1.frozen (p := ⟨w0.heap.size, 4, none⟩) (by first | omega | (simp; omega) | simp)).trans (by first | (go_simp; done) | ((repeat rw [cell_al (by first | omega | (simp; omega) | simp)]); first | assumption | (go_simp; done)))
  have hsw1_0 : w0.heap.size < w1.heap.size := (by omega)
  have hBw1 : Below w.heap.size w w1 := by
    refine bthen hbw1 ?_ (by first | omega | (simp; omega) | simp)
    repeat (first | exact Below.refl _ _ | (with_reducible assumption) | (refine Below.drew ?_) | (refine Below.setCell ?_ (by first | omega | (simp; omega) | simp) _) | (refine Below.alloc ?_ (by first | omega | (simp; omega) | simp) _) | (refine bthen (by assumption) ?_ (by first | omega | (simp; omega) | simp)))
  have hvw1 := hBw1.size
  clear hBw0 hzw0
  clear hbw1
  go_wp2_with fail
  refine (num_any _ _).mono ?_; rintro e w2 ⟨rfl, rfl⟩
  go_wp2_with fail
  refine (put_is _ _ _ _ _ _ _ _ hp hpe).mono ?_; rintro e w3 ⟨rfl, hbw3⟩
  have hzw3 := hbw3.size; (try simp at hzw3)
  have kw3_0_0 : w3.cell? ⟨w0.heap.size, 0, none⟩ = some (.int .i64 (3)) := (hbw3.cell (p := ⟨w0.heap.size, 0, none⟩) (by first | omega | (simp; omega) | simp)).trans (by first | (go_simp; done) | ((repeat rw [cell_al (by first | omega | (simp; omega) | simp)]); first | assumption | (go_simp; done)))
  have fw3_0_0 : w3.frozen? ⟨w0.heap.size, 0, none⟩ = false := (hbw3.frozen (p := ⟨w0.heap.size, 0, none⟩) (by first | omega | (simp; omega) | simp)).trans (by first | (go_simp; done) | ((repeat rw [cell_al (by first | omega | (simp; omega) | simp)]); first | assumption | (go_simp; done)))
  have kw3_0_1 : w3.cell? ⟨w0.heap.size, 1, none⟩ = some (.int .i64 (7)) := (hbw3.cell (p := ⟨w0.heap.size, 1, none⟩) (by first | omega | (simp; omega) | simp)).trans (by first | (go_simp; done) | ((repeat rw [cell_al (by first | omega | (simp; omega) | simp)]); first | assumption | (go_simp; done)))
  have fw3_0_1 : w3.frozen? ⟨w0.heap.size, 1, none⟩ = false := (hbw3.frozen (p := ⟨w0.heap.size, 1, none⟩) (by first | omega | (simp; omega) | simp)).trans (by first | (go_simp; done) | ((repeat rw [cell_al (by first | omega | (simp; omega) | simp)]); first | assumption | (go_simp; done)))
  have kw3_0_2 : w3.cell? ⟨w0.heap.size, 2, none⟩ = some (.int .i64 (65535)) := (hbw3.cell (p := ⟨w0.heap.size, 2, none⟩) (by first | omega | (simp; omega) | simp)).trans (by first | (go_simp; done) | ((repeat rw [cell_al (by first | omega | (simp; omega) | simp)]); first | assumption | (go_simp; done)))
  have fw3_0_2 : w3.frozen? ⟨w0.heap.size, 2, none⟩ = false := (hbw3.frozen (p := ⟨w0.heap.size, 2, none⟩) (by first | omega | (simp; omega) | simp)).trans (by first | (go_simp; done) | ((repeat rw [cell_al (by first | omega | (simp; omega) | simp)]); first | assumption | (go_simp; done)))
  have kw3_0_3 : w3.cell? ⟨w0.heap.size, 3, none⟩ = some (.int .i64 (65535)) := (hbw3.cell (p := ⟨w0.heap.size, 3, none⟩) (by first | omega | (simp; omega) | simp)).trans (by first | (go_simp; done) | ((repeat rw [cell_al (by first | omega | (simp; omega) | simp)]); first | assumption | (go_simp; done)))
  have fw3_0_3 : w3.frozen? ⟨w0.heap.size, 3, none⟩ = false := (hbw3.frozen (p := ⟨w0.heap.size, 3, none⟩) (by first | omega | (simp; omega) | simp)).trans (by first | (go_simp; done) | ((repeat rw [cell_al (by first | omega | (simp; omega) | simp)]); first | assumption | (go_simp; done)))
  have kw3_0_4 : w3.cell? ⟨w0.heap.size, 4, none⟩ = some (.int .i64 (255 + (1 + d))) := (hbw3.cell (p := ⟨w0.heap.size, 4, none⟩) (by first | omega | (simp; omega) | simp)).trans (by first | (go_simp; done) | ((repeat rw [cell_al (by first | omega | (simp; omega) | simp)]); first | assumption | (go_simp; done)))
  have fw3_0_4 : w3.frozen? ⟨w0.heap.size, 4, none⟩ = false := (hbw3.frozen (p := ⟨w0.heap.size, 4, none⟩) (by first | omega | (simp; omega) | simp)).trans (by first | (go_simp; done) | ((repeat rw [cell_al (by first | omega | (simp; omega) | simp)]); first | assumption | (go_simp; done)))
  have hsw3_0 : w0.heap.size < w3.heap.size := (by omega)
  have hBw3 : Below w.heap.size w w3 := by
    refine bthen hbw3 ?_ (by first | omega | (simp; omega) | simp)
    repeat (first | exact Below.refl _ _ | (with_reducible assumption) | (refine Below.drew ?_) | (refine Below.setCell ?_ (by first | omega | (simp; omega) | simp) _) | (refine Below.alloc ?_ (by first | omega | (simp; omega) | simp) _) | (refine bthen (by assumption) ?_ (by first | omega | (simp; omega) | simp)))
  have hvw3 := hBw3.size
  clear kw1_0_0 fw1_0_0 kw1_0_1 fw1_0_1 kw1_0_2 fw1_0_2 kw1_0_3 fw1_0_3 kw1_0_4 fw1_0_4 hsw1_0 hBw1 hzw1
  clear hbw3
  go_wp2_with fail
  refine name_world fun W hW => ?_
  have kW_0_0 : W.cell? ⟨w0.heap.size, 0, none⟩ = some (.int .i64 (3)) := by rw [hW]; exact (by first | (go_simp; done) | ((repeat rw [cell_al (by first | omega | (simp; omega) | simp)]); first | assumption | (go_simp; done)))
  have fW_0_0 : W.frozen? ⟨w0.heap.size, 0, none⟩ = false := by rw [hW]; exact (by first | (go_simp; done) | ((repeat rw [cell_al (by first | omega | (simp; omega) | simp)]); first | assumption | (go_simp; done)))
  have kW_0_1 : W.cell? ⟨w0.heap.size, 1, none⟩ = some (.int .i64 (7)) := by rw [hW]; exact (by first | (go_simp; done) | ((repeat rw [cell_al (by first | omega | (simp; omega) | simp)]); first | assumption | (go_simp; done)))
  have fW_0_1 : W.frozen? ⟨w0.heap.size, 1, none⟩ = false := by rw [hW]; exact (by first | (go_simp; done) | ((repeat rw [cell_al (by first | omega | (simp; omega) | simp)]); first | assumption | (go_simp; done)))
  have kW_0_2 : W.cell? ⟨w0.heap.size, 2, none⟩ = some (.int .i64 (65535)) := by rw [hW]; exact (by first | (go_simp; done) | ((repeat rw [cell_al (by first | omega | (simp; omega) | simp)]); first | assumption | (go_simp; done)))
  have fW_0_2 : W.frozen? ⟨w0.heap.size, 2, none⟩ = false := by rw [hW]; exact (by first | (go_simp; done) | ((repeat rw [cell_al (by first | omega | (simp; omega) | simp)]); first | assumption | (go_simp; done)))
  have kW_0_3 : W.cell? ⟨w0.heap.size, 3, none⟩ = some (.int .i64 (65535)) := by rw [hW]; exact (by first | (go_simp; done) | ((repeat rw [cell_al (by first | omega | (simp; omega) | simp)]); first | assumption | (go_simp; done)))
  have fW_0_3 : W.frozen? ⟨w0.heap.size, 3, none⟩ = false := by rw [hW]; exact (by first | (go_simp; done) | ((repeat rw [cell_al (by first | omega | (simp; omega) | simp)]); first | assumption | (go_simp; done)))
  have kW_0_4 : W.cell? ⟨w0.heap.size, 4, none⟩ = some (.int .i64 (255 + (1 + d))) := by rw [hW]; exact (by first | (go_simp; done) | ((repeat rw [cell_al (by first | omega | (simp; omega) | simp)]); first | assumption | (go_simp; done)))
  have fW_0_4 : W.frozen? ⟨w0.heap.size, 4, none⟩ = false := by rw [hW]; exact (by first | (go_simp; done) | ((repeat rw [cell_al (by first | omega | (simp; omega) | simp)]); first | assumption | (go_simp; done)))
  have zW_0 : w0.heap.size < W.heap.size := by rw [hW]; first | omega | (simp; omega) | simp
  have hBW : Below w.heap.size w W := by
    rw [hW]
    repeat (first | exact Below.refl _ _ | assumption | (refine Below.drew ?_) | (refine Below.setCell ?_ (by first | omega | (simp; omega) | simp) _) | (refine Below.alloc ?_ (by first | omega | (simp; omega) | simp) _) | (refine bthen (by assumption) ?_ (by first | omega | (simp; omega) | simp)))
  clear hW kw3_0_0 fw3_0_0 kw3_0_1 fw3_0_1 kw3_0_2 fw3_0_2 kw3_0_3 fw3_0_3 kw3_0_4 fw3_0_4 hsw3_0 hBw3
  have hvW := hBW.size
  have HS := SW.start W; have hB3 := Below.refl W.heap.size W; have hc := True.intro; have hcf := True.intro
  go_region
  clear HS hB3 hc hcf
  go_wp2_with fail
  refine (bad_any _ _ (by rcases (show j = 0 ∨ j = 1 ∨ j = 2 ∨ j = 3 ∨ j = 4 ∨ j = 5 ∨ j = 6 by omega) with rfl | rfl | rfl | rfl | rfl | rfl | rfl <;> exact ⟨_, rfl, by kernel_rfl⟩)).mono ?_; rintro e w4 ⟨rfl, hbw4⟩
  have hzw4 := hbw4.size; (try simp at hzw4)
  have kw4_0_0 : w4.cell? ⟨w0.heap.size, 0, none⟩ = some (.int .i64 (3)) := (hbw4.cell (p := ⟨w0.heap.size, 0, none⟩) (by first | omega | (simp; omega) | simp)).trans (by first | (go_simp; done) | ((repeat rw [cell_al (by first | omega | (simp; omega) | simp)]); first | assumption | (go_simp; done)))
  have fw4_0_0 : w4.frozen? ⟨w0.heap.size, 0, none⟩ = false := (hbw4.frozen (p := ⟨w0.heap.size, 0, none⟩) (by first | omega | (simp; omega) | simp)).trans (by first | (go_simp; done) | ((repeat rw [cell_al (by first | omega | (simp; omega) | simp)]); first | assumption | (go_simp; done)))
  have kw4_0_1 : w4.cell? ⟨w0.heap.size, 1, none⟩ = some (.int .i64 (7)) := (hbw4.cell (p := ⟨w0.heap.size, 1, none⟩) (by first | omega | (simp; omega) | simp)).trans (by first | (go_simp; done) | ((repeat rw [cell_al (by first | omega | (simp; omega) | simp)]); first | assumption | (go_simp; done)))
  have fw4_0_1 : w4.frozen? ⟨w0.heap.size, 1, none⟩ = false := (hbw4.frozen (p := ⟨w0.heap.size, 1, none⟩) (by first | omega | (simp; omega) | simp)).trans (by first | (go_simp; done) | ((repeat rw [cell_al (by first | omega | (simp; omega) | simp)]); first | assumption | (go_simp; done)))
  have kw4_0_2 : w4.cell? ⟨w0.heap.size, 2, none⟩ = some (.int .i64 (65535)) := (hbw4.cell (p := ⟨w0.heap.size, 2, none⟩) (by first | omega | (simp; omega) | simp)).trans (by first | (go_simp; done) | ((repeat rw [cell_al (by first | omega | (simp; omega) | simp)]); first | assumption | (go_simp; done)))
  have fw4_0_2 : w4.frozen? ⟨w0.heap.size, 2, none⟩ = false := (hbw4.frozen (p := ⟨w0.heap.size, 2, none⟩) (by first | omega | (simp; omega) | simp)).trans (by first | (go_simp; done) | ((repeat rw [cell_al (by first | omega | (simp; omega) | simp)]); first | assumption | (go_simp; done)))
  have kw4_0_3 : w4.cell? ⟨w0.heap.size, 3, none⟩ = some (.int .i64 (65535)) := (hbw4.cell (p := ⟨w0.heap.size, 3, none⟩) (by first | omega | (simp; omega) | simp)).trans (by first | (go_simp; done) | ((repeat rw [cell_al (by first | omega | (simp; omega) | simp)]); first | assumption | (go_simp; done)))
  have fw4_0_3 : w4.frozen? ⟨w0.heap.size, 3, none⟩ = false := (hbw4.frozen (p := ⟨w0.heap.size, 3, none⟩) (by first | omega | (simp; omega) | simp)).trans (by first | (go_simp; done) | ((repeat rw [cell_al (by first | omega | (simp; omega) | simp)]); first | assumption | (go_simp; done)))
  have kw4_0_4 : w4.cell? ⟨w0.heap.size, 4, none⟩ = some (.int .i64 (255 + (1 + d))) := (hbw4.cell (p := ⟨w0.heap.size, 4, none⟩) (by first | omega | (simp; omega) | simp)).trans (by first | (go_simp; done) | ((repeat rw [cell_al (by first | omega | (simp; omega) | simp)]); first | assumption | (go_simp; done)))
  have fw4_0_4 : w4.frozen? ⟨w0.heap.size, 4, none⟩ = false := (hbw4.frozen (p := ⟨w0.heap.size, 4, none⟩) (by first | omega | (simp; omega) | simp)).trans (by first | (go_simp; done) | ((repeat rw [cell_al (by first | omega | (simp; omega) | simp)]); first | assumption | (go_simp; done)))
  have hsw4_0 : w0.heap.size < w4.heap.size := (by omega)
  have hBw4 : Below w.heap.size w w4 := by
    refine bthen hbw4 ?_ (by first | omega | (simp; omega) | simp)
    repeat (first | exact Below.refl _ _ | (with_reducible assumption) | (refine Below.drew ?_) | (refine Below.setCell ?_ (by first | omega | (simp; omega) | simp) _) | (refine Below.alloc ?_ (by first | omega | (simp; omega) | simp) _) | (refine bthen (by assumption) ?_ (by first | omega | (simp; omega) | simp)))
  have hvw4 := hBw4.size
  clear kW_0_0 kW_0_1 kW_0_2 kW_0_3 kW_0_4 zW_0
  clear hbw4
  go_wp2_with fail
  refine name_calls fun V hV => ?_
  have kV_0_0 : V.cell? ⟨w0.heap.size, 0, none⟩ = some (.int .i64 (3)) := by rw [hV]; exact (by first | (go_simp; done) | ((repeat rw [cell_al (by first | omega | (simp; omega) | simp)]); first | assumption | (go_simp; done)))
  have fV_0_0 : V.frozen? ⟨w0.heap.size, 0, none⟩ = false := by rw [hV]; exact (by first | (go_simp; done) | ((repeat rw [cell_al (by first | omega | (simp; omega) | simp)]); first | assumption | (go_simp; done)))
  have kV_0_1 : V.cell? ⟨w0.heap.size, 1, none⟩ = some (.int .i64 (7)) := by rw [hV]; exact (by first | (go_simp; done) | ((repeat rw [cell_al (by first | omega | (simp; omega) | simp)]); first | assumption | (go_simp; done)))
  have fV_0_1 : V.frozen? ⟨w0.heap.size, 1, none⟩ = false := by rw [hV]; exact (by first | (go_simp; done) | ((repeat rw [cell_al (by first | omega | (simp; omega) | simp)]); first | assumption | (go_simp; done)))
  have kV_0_2 : V.cell? ⟨w0.heap.size, 2, none⟩ = some (.int .i64 (65535)) := by rw [hV]; exact (by first | (go_simp; done) | ((repeat rw [cell_al (by first | omega | (simp; omega) | simp)]); first | assumption | (go_simp; done)))
  have fV_0_2 : V.frozen? ⟨w0.heap.size, 2, none⟩ = false := by rw [hV]; exact (by first | (go_simp; done) | ((repeat rw [cell_al (by first | omega | (simp; omega) | simp)]); first | assumption | (go_simp; done)))
  have kV_0_3 : V.cell? ⟨w0.heap.size, 3, none⟩ = some (.int .i64 (65535)) := by rw [hV]; exact (by first | (go_simp; done) | ((repeat rw [cell_al (by first | omega | (simp; omega) | simp)]); first | assumption | (go_simp; done)))
  have fV_0_3 : V.frozen? ⟨w0.heap.size, 3, none⟩ = false := by rw [hV]; exact (by first | (go_simp; done) | ((repeat rw [cell_al (by first | omega | (simp; omega) | simp)]); first | assumption | (go_simp; done)))
  have kV_0_4 : V.cell? ⟨w0.heap.size, 4, none⟩ = some (.int .i64 (255 + (1 + d))) := by rw [hV]; exact (by first | (go_simp; done) | ((repeat rw [cell_al (by first | omega | (simp; omega) | simp)]); first | assumption | (go_simp; done)))
  have fV_0_4 : V.frozen? ⟨w0.heap.size, 4, none⟩ = false := by rw [hV]; exact (by first | (go_simp; done) | ((repeat rw [cell_al (by first | omega | (simp; omega) | simp)]); first | assumption | (go_simp; done)))
  have zV_0 : w0.heap.size < V.heap.size := by rw [hV]; first | omega | (simp; omega) | simp
  have kV_1_0 : V.cell? ⟨w4.heap.size, 0, none⟩ = some (.int .i64 0) := by rw [hV]; exact (by first | (go_simp; done) | ((repeat rw [cell_al (by first | omega | (simp; omega) | simp)]); first | assumption | (go_simp; done)))
  have kV_1_1 : V.cell? ⟨w4.heap.size, 1, none⟩ = some (.int .i64 0) := by rw [hV]; exact (by first | (go_simp; done) | ((repeat rw [cell_al (by first | omega | (simp; omega) | simp)]); first | assumption | (go_simp; done)))
  have kV_1_2 : V.cell? ⟨w4.heap.size, 2, none⟩ = some (.int .i64 0) := by rw [hV]; exact (by first | (go_simp; done) | ((repeat rw [cell_al (by first | omega | (simp; omega) | simp)]); first | assumption | (go_simp; done)))
  have kV_1_3 : V.cell? ⟨w4.heap.size, 3, none⟩ = some (.int .i64 0) := by rw [hV]; exact (by first | (go_simp; done) | ((repeat rw [cell_al (by first | omega | (simp; omega) | simp)]); first | assumption | (go_simp; done)))
  have kV_1_4 : V.cell? ⟨w4.heap.size, 4, none⟩ = some (.int .i64 0) := by rw [hV]; exact (by first | (go_simp; done) | ((repeat rw [cell_al (by first | omega | (simp; omega) | simp)]); first | assumption | (go_simp; done)))
  have zV_1 : w4.heap.size < V.heap.size := by rw [hV]; first | omega | (simp; omega) | simp
  have hBV : Below w.heap.size w V := by
    rw [hV]
    repeat (first | exact Below.refl _ _ | assumption | (refine Below.drew ?_) | (refine Below.setCell ?_ (by first | omega | (simp; omega) | simp) _) | (refine Below.alloc ?_ (by first | omega | (simp; omega) | simp) _) | (refine bthen (by assumption) ?_ (by first | omega | (simp; omega) | simp)))
  clear hV kw4_0_0 fw4_0_0 kw4_0_1 fw4_0_1 kw4_0_2 fw4_0_2 kw4_0_3 fw4_0_3 kw4_0_4 fw4_0_4 hsw4_0 hBw4
  have hvV := hBV.size
  have HS := SW.start V; have hB3 := Below.refl V.heap.size V; have hc := True.intro; have hcf := True.intro
  go_wp2_with (first
    | (go_at_call 11; (with_reducible refine (num_any _ _).mono ?_); rintro e w3 ⟨rfl, rfl⟩)
    | (go_at_call 12; (with_reducible refine (mayD_is _ _ _ _ _ _ _ hm).mono ?_); rintro e w3 ⟨rfl, hb⟩; have hS' := HS.keep hb; clear hb HS hc hB3 hcf; have HS := hS'; clear hS'; have hc := HS.cells; have hB3 := HS.below; have hcf := HS.frz))
  try go_wp2
  go_returns
  exact ⟨rfl, bthen hB3 hBV hBV.size⟩
set_option maxHeartbeats 8000000 in
theorem walk8 (which x d q j : Int) (w : World) (hx : bits .and .i64 x 1023 = d) (h0 : 0 ≤ d) (h1 : d ≤ 1023) (hq : (1 + d).tmod 200 = q) (hq0 : 0 ≤ q) (hq1 : q < 200) (hi : (IntKind.u64.wrap which).tmod 9 = 8)
    (hj : (IntKind.u64.wrap which).tmod 7 = j) (hj0 : 0 ≤ j) (hj1 : j < 7) (hm : mayD (3) (7) (65535) (65535) (-(1 + d)) = false) (hp : putB (3) (7) (65535) (65535) (-(1 + d)) = ⟨#[]⟩) (hpe : putE (3) (7) (65535) (65535) (-(1 + d)) = 1600) :
    Calls Try.prog 5 #[.int .i64 which, .int .i64 x] w fun e w' => e = .returned (.bool true) ∧ Below w.heap.size w w' := by
  go_enter Try.func5, Try.ntmps5
  go_wp2_with fail
  refine (awakeD _).mono ?_; rintro e w0 ⟨rfl, hbw0⟩
  have hzw0 := hbw0.size; (try simp at hzw0)
  have hBw0 : Below w.heap.size w w0 := by
    refine bthen hbw0 ?_ (by first | omega | (simp; omega) | simp)
    repeat (first | exact Below.refl _ _ | (with_reducible assumption) | (refine Below.drew ?_) | (refine Below.setCell ?_ (by first | omega | (simp; omega) | simp) _) | (refine Below.alloc ?_ (by first | omega | (simp; omega) | simp) _) | (refine bthen (by assumption) ?_ (by first | omega | (simp; omega) | simp)))
  have hvw0 := hBw0.size
  clear hbw0
  go_wp2_with fail
  refine (put_is _ _ _ _ _ ⟨#[3, 7, 255, 255, 255, 255, 255, 0]⟩ 0 _ (by kernel_rfl) (by kernel_rfl)).mono ?_; rintro e w1 ⟨rfl, hbw1⟩
  have hzw1 := hbw1.size; (try simp at hzw1)
  have kw1_0_0 : w1.cell? ⟨w0.heap.size, 0, none⟩ = some (.int .i64 3) := (hbw1.cell (p := ⟨w0.heap.size, 0, none⟩) (by first | omega | (simp; omega) | simp)).trans (by first | (go_simp; done) | ((repeat rw [cell_al (by first | omega | (simp; omega) | simp)]); first | assumption | (go_simp; done)))
  have fw1_0_0 : w1.frozen? ⟨w0.heap.size, 0, none⟩ = false := (hbw1.frozen (p := ⟨w0.heap.size, 0, none⟩) (by first | omega | (simp; omega) | simp)).trans (by first | (go_simp; done) | ((repeat rw [cell_al (by first | omega | (simp; omega) | simp)]); first | assumption | (go_simp; done)))
  have kw1_0_1 : w1.cell? ⟨w0.heap.size, 1, none⟩ = some (.int .i64 7) := (hbw1.cell (p := ⟨w0.heap.size, 1, none⟩) (by first | omega | (simp; omega) | simp)).trans (by first | (go_simp; done) | ((repeat rw [cell_al (by first | omega | (simp; omega) | simp)]); first | assumption | (go_simp; done)))
  have fw1_0_1 : w1.frozen? ⟨w0.heap.size, 1, none⟩ = false := (hbw1.frozen (p := ⟨w0.heap.size, 1, none⟩) (by first | omega | (simp; omega) | simp)).trans (by first | (go_simp; done) | ((repeat rw [cell_al (by first | omega | (simp; omega) | simp)]); first | assumption | (go_simp; done)))
  have kw1_0_2 : w1.cell? ⟨w0.heap.size, 2, none⟩ = some (.int .i64 65535) := (hbw1.cell (p := ⟨w0.heap.size, 2, none⟩) (by first | omega | (simp; omega) | simp)).trans (by first | (go_simp; done) | ((repeat rw [cell_al (by first | omega | (simp; omega) | simp)]); first | assumption | (go_simp; done)))
  have fw1_0_2 : w1.frozen? ⟨w0.heap.size, 2, none⟩ = false := (hbw1.frozen (p := ⟨w0.heap.size, 2, none⟩) (by first | omega | (simp; omega) | simp)).trans (by first | (go_simp; done) | ((repeat rw [cell_al (by first | omega | (simp; omega) | simp)]); first | assumption | (go_simp; done)))
  have kw1_0_3 : w1.cell? ⟨w0.heap.size, 3, none⟩ = some (.int .i64 65535) := (hbw1.cell (p := ⟨w0.heap.size, 3, none⟩) (by first | omega | (simp; omega) | simp)).trans (by first | (go_simp; done) | ((repeat rw [cell_al (by first | omega | (simp; omega) | simp)]); first | assumption | (go_simp; done)))
  have fw1_0_3 : w1.frozen? ⟨w0.heap.size, 3, none⟩ = false := (hbw1.frozen (p := ⟨w0.heap.size, 3, none⟩) (by first | omega | (simp; omega) | simp)).trans (by first | (go_simp; done) | ((repeat rw [cell_al (by first | omega | (simp; omega) | simp)]); first | assumption | (go_simp; done)))
  have kw1_0_4 : w1.cell? ⟨w0.heap.size, 4, none⟩ = some (.int .i64 255) := (hbw1.cell (p := ⟨w0.heap.size, 4, none⟩) (by first | omega | (simp; omega) | simp)).trans (by first | (go_simp; done) | ((repeat rw [cell_al (by first | omega | (simp; omega) | simp)]); first | assumption | (go_simp; done)))
  have fw1_0_4 : w1.frozen? ⟨w0.heap.size, 4, none⟩ = false := (hbw1.frozen (p := ⟨w0.heap.size, 4, none⟩) (by first | omega | (simp; omega) | simp)).trans (by first | (go_simp; done) | ((repeat rw [cell_al (by first | omega | (simp; omega) | simp)]); first | assumption | (go_simp; done)))
  have hsw1_0 : w0.heap.size < w1.heap.size := (by omega)
  have hBw1 : Below w.heap.size w w1 := by
    refine bthen hbw1 ?_ (by first | omega | (simp; omega) | simp)
    repeat (first | exact Below.refl _ _ | (with_reducible assumption) | (refine Below.drew ?_) | (refine Below.setCell ?_ (by first | omega | (simp; omega) | simp) _) | (refine Below.alloc ?_ (by first | omega | (simp; omega) | simp) _) | (refine bthen (by assumption) ?_ (by first | omega | (simp; omega) | simp)))
  have hvw1 := hBw1.size
  clear hBw0 hzw0
  clear hbw1
  go_wp2_with fail
  refine (num_any _ _).mono ?_; rintro e w2 ⟨rfl, rfl⟩
  go_wp2_with fail
  refine (put_is _ _ _ _ _ _ _ _ hp hpe).mono ?_; rintro e w3 ⟨rfl, hbw3⟩
  have hzw3 := hbw3.size; (try simp at hzw3)
  have kw3_0_0 : w3.cell? ⟨w0.heap.size, 0, none⟩ = some (.int .i64 (3)) := (hbw3.cell (p := ⟨w0.heap.size, 0, none⟩) (by first | omega | (simp; omega) | simp)).trans (by first | (go_simp; done) | ((repeat rw [cell_al (by first | omega | (simp; omega) | simp)]); first | assumption | (go_simp; done)))
  have fw3_0_0 : w3.frozen? ⟨w0.heap.size, 0, none⟩ = false := (hbw3.frozen (p := ⟨w0.heap.size, 0, none⟩) (by first | omega | (simp; omega) | simp)).trans (by first | (go_simp; done) | ((repeat rw [cell_al (by first | omega | (simp; omega) | simp)]); first | assumption | (go_simp; done)))
  have kw3_0_1 : w3.cell? ⟨w0.heap.size, 1, none⟩ = some (.int .i64 (7)) := (hbw3.cell (p := ⟨w0.heap.size, 1, none⟩) (by first | omega | (simp; omega) | simp)).trans (by first | (go_simp; done) | ((repeat rw [cell_al (by first | omega | (simp; omega) | simp)]); first | assumption | (go_simp; done)))
  have fw3_0_1 : w3.frozen? ⟨w0.heap.size, 1, none⟩ = false := (hbw3.frozen (p := ⟨w0.heap.size, 1, none⟩) (by first | omega | (simp; omega) | simp)).trans (by first | (go_simp; done) | ((repeat rw [cell_al (by first | omega | (simp; omega) | simp)]); first | assumption | (go_simp; done)))
  have kw3_0_2 : w3.cell? ⟨w0.heap.size, 2, none⟩ = some (.int .i64 (65535)) := (hbw3.cell (p := ⟨w0.heap.size, 2, none⟩) (by first | omega | (simp; omega) | simp)).trans (by first | (go_simp; done) | ((repeat rw [cell_al (by first | omega | (simp; omega) | simp)]); first | assumption | (go_simp; done)))
  have fw3_0_2 : w3.frozen? ⟨w0.heap.size, 2, none⟩ = false := (hbw3.frozen (p := ⟨w0.heap.size, 2, none⟩) (by first | omega | (simp; omega) | simp)).trans (by first | (go_simp; done) | ((repeat rw [cell_al (by first | omega | (simp; omega) | simp)]); first | assumption | (go_simp; done)))
  have kw3_0_3 : w3.cell? ⟨w0.heap.size, 3, none⟩ = some (.int .i64 (65535)) := (hbw3.cell (p := ⟨w0.heap.size, 3, none⟩) (by first | omega | (simp; omega) | simp)).trans (by first | (go_simp; done) | ((repeat rw [cell_al (by first | omega | (simp; omega) | simp)]); first | assumption | (go_simp; done)))
  have fw3_0_3 : w3.frozen? ⟨w0.heap.size, 3, none⟩ = false := (hbw3.frozen (p := ⟨w0.heap.size, 3, none⟩) (by first | omega | (simp; omega) | simp)).trans (by first | (go_simp; done) | ((repeat rw [cell_al (by first | omega | (simp; omega) | simp)]); first | assumption | (go_simp; done)))
  have kw3_0_4 : w3.cell? ⟨w0.heap.size, 4, none⟩ = some (.int .i64 (-(1 + d))) := (hbw3.cell (p := ⟨w0.heap.size, 4, none⟩) (by first | omega | (simp; omega) | simp)).trans (by first | (go_simp; done) | ((repeat rw [cell_al (by first | omega | (simp; omega) | simp)]); first | assumption | (go_simp; done)))
  have fw3_0_4 : w3.frozen? ⟨w0.heap.size, 4, none⟩ = false := (hbw3.frozen (p := ⟨w0.heap.size, 4, none⟩) (by first | omega | (simp; omega) | simp)).trans (by first | (go_simp; done) | ((repeat rw [cell_al (by first | omega | (simp; omega) | simp)]); first | assumption | (go_simp; done)))
  have hsw3_0 : w0.heap.size < w3.heap.size := (by omega)
  have hBw3 : Below w.heap.size w w3 := by
    refine bthen hbw3 ?_ (by first | omega | (simp; omega) | simp)
    repeat (first | exact Below.refl _ _ | (with_reducible assumption) | (refine Below.drew ?_) | (refine Below.setCell ?_ (by first | omega | (simp; omega) | simp) _) | (refine Below.alloc ?_ (by first | omega | (simp; omega) | simp) _) | (refine bthen (by assumption) ?_ (by first | omega | (simp; omega) | simp)))
  have hvw3 := hBw3.size
  clear kw1_0_0 fw1_0_0 kw1_0_1 fw1_0_1 kw1_0_2 fw1_0_2 kw1_0_3 fw1_0_3 kw1_0_4 fw1_0_4 hsw1_0 hBw1 hzw1
  clear hbw3
  go_wp2_with fail
  refine name_world fun W hW => ?_
  have kW_0_0 : W.cell? ⟨w0.heap.size, 0, none⟩ = some (.int .i64 (3)) := by rw [hW]; exact (by first | (go_simp; done) | ((repeat rw [cell_al (by first | omega | (simp; omega) | simp)]); first | assumption | (go_simp; done)))
  have fW_0_0 : W.frozen? ⟨w0.heap.size, 0, none⟩ = false := by rw [hW]; exact (by first | (go_simp; done) | ((repeat rw [cell_al (by first | omega | (simp; omega) | simp)]); first | assumption | (go_simp; done)))
  have kW_0_1 : W.cell? ⟨w0.heap.size, 1, none⟩ = some (.int .i64 (7)) := by rw [hW]; exact (by first | (go_simp; done) | ((repeat rw [cell_al (by first | omega | (simp; omega) | simp)]); first | assumption | (go_simp; done)))
  have fW_0_1 : W.frozen? ⟨w0.heap.size, 1, none⟩ = false := by rw [hW]; exact (by first | (go_simp; done) | ((repeat rw [cell_al (by first | omega | (simp; omega) | simp)]); first | assumption | (go_simp; done)))
  have kW_0_2 : W.cell? ⟨w0.heap.size, 2, none⟩ = some (.int .i64 (65535)) := by rw [hW]; exact (by first | (go_simp; done) | ((repeat rw [cell_al (by first | omega | (simp; omega) | simp)]); first | assumption | (go_simp; done)))
  have fW_0_2 : W.frozen? ⟨w0.heap.size, 2, none⟩ = false := by rw [hW]; exact (by first | (go_simp; done) | ((repeat rw [cell_al (by first | omega | (simp; omega) | simp)]); first | assumption | (go_simp; done)))
  have kW_0_3 : W.cell? ⟨w0.heap.size, 3, none⟩ = some (.int .i64 (65535)) := by rw [hW]; exact (by first | (go_simp; done) | ((repeat rw [cell_al (by first | omega | (simp; omega) | simp)]); first | assumption | (go_simp; done)))
  have fW_0_3 : W.frozen? ⟨w0.heap.size, 3, none⟩ = false := by rw [hW]; exact (by first | (go_simp; done) | ((repeat rw [cell_al (by first | omega | (simp; omega) | simp)]); first | assumption | (go_simp; done)))
  have kW_0_4 : W.cell? ⟨w0.heap.size, 4, none⟩ = some (.int .i64 (-(1 + d))) := by rw [hW]; exact (by first | (go_simp; done) | ((repeat rw [cell_al (by first | omega | (simp; omega) | simp)]); first | assumption | (go_simp; done)))
  have fW_0_4 : W.frozen? ⟨w0.heap.size, 4, none⟩ = false := by rw [hW]; exact (by first | (go_simp; done) | ((repeat rw [cell_al (by first | omega | (simp; omega) | simp)]); first | assumption | (go_simp; done)))
  have zW_0 : w0.heap.size < W.heap.size := by rw [hW]; first | omega | (simp; omega) | simp
  have hBW : Below w.heap.size w W := by
    rw [hW]
    repeat (first | exact Below.refl _ _ | assumption | (refine Below.drew ?_) | (refine Below.setCell ?_ (by first | omega | (simp; omega) | simp) _) | (refine Below.alloc ?_ (by first | omega | (simp; omega) | simp) _) | (refine bthen (by assumption) ?_ (by first | omega | (simp; omega) | simp)))
  clear hW kw3_0_0 fw3_0_0 kw3_0_1 fw3_0_1 kw3_0_2 fw3_0_2 kw3_0_3 fw3_0_3 kw3_0_4 fw3_0_4 hsw3_0 hBw3
  have hvW := hBW.size
  have HS := SW.start W; have hB3 := Below.refl W.heap.size W; have hc := True.intro; have hcf := True.intro
  go_region
  clear HS hB3 hc hcf
  go_wp2_with fail
  refine (bad_any _ _ (by rcases (show j = 0 ∨ j = 1 ∨ j = 2 ∨ j = 3 ∨ j = 4 ∨ j = 5 ∨ j = 6 by omega) with rfl | rfl | rfl | rfl | rfl | rfl | rfl <;> exact ⟨_, rfl, by kernel_rfl⟩)).mono ?_; rintro e w4 ⟨rfl, hbw4⟩
  have hzw4 := hbw4.size; (try simp at hzw4)
  have kw4_0_0 : w4.cell? ⟨w0.heap.size, 0, none⟩ = some (.int .i64 (3)) := (hbw4.cell (p := ⟨w0.heap.size, 0, none⟩) (by first | omega | (simp; omega) | simp)).trans (by first | (go_simp; done) | ((repeat rw [cell_al (by first | omega | (simp; omega) | simp)]); first | assumption | (go_simp; done)))
  have fw4_0_0 : w4.frozen? ⟨w0.heap.size, 0, none⟩ = false := (hbw4.frozen (p := ⟨w0.heap.size, 0, none⟩) (by first | omega | (simp; omega) | simp)).trans (by first | (go_simp; done) | ((repeat rw [cell_al (by first | omega | (simp; omega) | simp)]); first | assumption | (go_simp; done)))
  have kw4_0_1 : w4.cell? ⟨w0.heap.size, 1, none⟩ = some (.int .i64 (7)) := (hbw4.cell (p := ⟨w0.heap.size, 1, none⟩) (by first | omega | (simp; omega) | simp)).trans (by first | (go_simp; done) | ((repeat rw [cell_al (by first | omega | (simp; omega) | simp)]); first | assumption | (go_simp; done)))
  have fw4_0_1 : w4.frozen? ⟨w0.heap.size, 1, none⟩ = false := (hbw4.frozen (p := ⟨w0.heap.size, 1, none⟩) (by first | omega | (simp; omega) | simp)).trans (by first | (go_simp; done) | ((repeat rw [cell_al (by first | omega | (simp; omega) | simp)]); first | assumption | (go_simp; done)))
  have kw4_0_2 : w4.cell? ⟨w0.heap.size, 2, none⟩ = some (.int .i64 (65535)) := (hbw4.cell (p := ⟨w0.heap.size, 2, none⟩) (by first | omega | (simp; omega) | simp)).trans (by first | (go_simp; done) | ((repeat rw [cell_al (by first | omega | (simp; omega) | simp)]); first | assumption | (go_simp; done)))
  have fw4_0_2 : w4.frozen? ⟨w0.heap.size, 2, none⟩ = false := (hbw4.frozen (p := ⟨w0.heap.size, 2, none⟩) (by first | omega | (simp; omega) | simp)).trans (by first | (go_simp; done) | ((repeat rw [cell_al (by first | omega | (simp; omega) | simp)]); first | assumption | (go_simp; done)))
  have kw4_0_3 : w4.cell? ⟨w0.heap.size, 3, none⟩ = some (.int .i64 (65535)) := (hbw4.cell (p := ⟨w0.heap.size, 3, none⟩) (by first | omega | (simp; omega) | simp)).trans (by first | (go_simp; done) | ((repeat rw [cell_al (by first | omega | (simp; omega) | simp)]); first | assumption | (go_simp; done)))
  have fw4_0_3 : w4.frozen? ⟨w0.heap.size, 3, none⟩ = false := (hbw4.frozen (p := ⟨w0.heap.size, 3, none⟩) (by first | omega | (simp; omega) | simp)).trans (by first | (go_simp; done) | ((repeat rw [cell_al (by first | omega | (simp; omega) | simp)]); first | assumption | (go_simp; done)))
  have kw4_0_4 : w4.cell? ⟨w0.heap.size, 4, none⟩ = some (.int .i64 (-(1 + d))) := (hbw4.cell (p := ⟨w0.heap.size, 4, none⟩) (by first | omega | (simp; omega) | simp)).trans (by first | (go_simp; done) | ((repeat rw [cell_al (by first | omega | (simp; omega) | simp)]); first | assumption | (go_simp; done)))
  have fw4_0_4 : w4.frozen? ⟨w0.heap.size, 4, none⟩ = false := (hbw4.frozen (p := ⟨w0.heap.size, 4, none⟩) (by first | omega | (simp; omega) | simp)).trans (by first | (go_simp; done) | ((repeat rw [cell_al (by first | omega | (simp; omega) | simp)]); first | assumption | (go_simp; done)))
  have hsw4_0 : w0.heap.size < w4.heap.size := (by omega)
  have hBw4 : Below w.heap.size w w4 := by
    refine bthen hbw4 ?_ (by first | omega | (simp; omega) | simp)
    repeat (first | exact Below.refl _ _ | (with_reducible assumption) | (refine Below.drew ?_) | (refine Below.setCell ?_ (by first | omega | (simp; omega) | simp) _) | (refine Below.alloc ?_ (by first | omega | (simp; omega) | simp) _) | (refine bthen (by assumption) ?_ (by first | omega | (simp; omega) | simp)))
  have hvw4 := hBw4.size
  clear kW_0_0 kW_0_1 kW_0_2 kW_0_3 kW_0_4 zW_0
  clear hbw4
  go_wp2_with fail
  refine name_calls fun V hV => ?_
  have kV_0_0 : V.cell? ⟨w0.heap.size, 0, none⟩ = some (.int .i64 (3)) := by rw [hV]; exact (by first | (go_simp; done) | ((repeat rw [cell_al (by first | omega | (simp; omega) | simp)]); first | assumption | (go_simp; done)))
  have fV_0_0 : V.frozen? ⟨w0.heap.size, 0, none⟩ = false := by rw [hV]; exact (by first | (go_simp; done) | ((repeat rw [cell_al (by first | omega | (simp; omega) | simp)]); first | assumption | (go_simp; done)))
  have kV_0_1 : V.cell? ⟨w0.heap.size, 1, none⟩ = some (.int .i64 (7)) := by rw [hV]; exact (by first | (go_simp; done) | ((repeat rw [cell_al (by first | omega | (simp; omega) | simp)]); first | assumption | (go_simp; done)))
  have fV_0_1 : V.frozen? ⟨w0.heap.size, 1, none⟩ = false := by rw [hV]; exact (by first | (go_simp; done) | ((repeat rw [cell_al (by first | omega | (simp; omega) | simp)]); first | assumption | (go_simp; done)))
  have kV_0_2 : V.cell? ⟨w0.heap.size, 2, none⟩ = some (.int .i64 (65535)) := by rw [hV]; exact (by first | (go_simp; done) | ((repeat rw [cell_al (by first | omega | (simp; omega) | simp)]); first | assumption | (go_simp; done)))
  have fV_0_2 : V.frozen? ⟨w0.heap.size, 2, none⟩ = false := by rw [hV]; exact (by first | (go_simp; done) | ((repeat rw [cell_al (by first | omega | (simp; omega) | simp)]); first | assumption | (go_simp; done)))
  have kV_0_3 : V.cell? ⟨w0.heap.size, 3, none⟩ = some (.int .i64 (65535)) := by rw [hV]; exact (by first | (go_simp; done) | ((repeat rw [cell_al (by first | omega | (simp; omega) | simp)]); first | assumption | (go_simp; done)))
  have fV_0_3 : V.frozen? ⟨w0.heap.size, 3, none⟩ = false := by rw [hV]; exact (by first | (go_simp; done) | ((repeat rw [cell_al (by first | omega | (simp; omega) | simp)]); first | assumption | (go_simp; done)))
  have kV_0_4 : V.cell? ⟨w0.heap.size, 4, none⟩ = some (.int .i64 (-(1 + d))) := by rw [hV]; exact (by first | (go_simp; done) | ((repeat rw [cell_al (by first | omega | (simp; omega) | simp)]); first | assumption | (go_simp; done)))
  have fV_0_4 : V.frozen? ⟨w0.heap.size, 4, none⟩ = false := by rw [hV]; exact (by first | (go_simp; done) | ((repeat rw [cell_al (by first | omega | (simp; omega) | simp)]); first | assumption | (go_simp; done)))
  have zV_0 : w0.heap.size < V.heap.size := by rw [hV]; first | omega | (simp; omega) | simp
  have kV_1_0 : V.cell? ⟨w4.heap.size, 0, none⟩ = some (.int .i64 0) := by rw [hV]; exact (by first | (go_simp; done) | ((repeat rw [cell_al (by first | omega | (simp; omega) | simp)]); first | assumption | (go_simp; done)))
  have kV_1_1 : V.cell? ⟨w4.heap.size, 1, none⟩ = some (.int .i64 0) := by rw [hV]; exact (by first | (go_simp; done) | ((repeat rw [cell_al (by first | omega | (simp; omega) | simp)]); first | assumption | (go_simp; done)))
  have kV_1_2 : V.cell? ⟨w4.heap.size, 2, none⟩ = some (.int .i64 0) := by rw [hV]; exact (by first | (go_simp; done) | ((repeat rw [cell_al (by first | omega | (simp; omega) | simp)]); first | assumption | (go_simp; done)))
  have kV_1_3 : V.cell? ⟨w4.heap.size, 3, none⟩ = some (.int .i64 0) := by rw [hV]; exact (by first | (go_simp; done) | ((repeat rw [cell_al (by first | omega | (simp; omega) | simp)]); first | assumption | (go_simp; done)))
  have kV_1_4 : V.cell? ⟨w4.heap.size, 4, none⟩ = some (.int .i64 0) := by rw [hV]; exact (by first | (go_simp; done) | ((repeat rw [cell_al (by first | omega | (simp; omega) | simp)]); first | assumption | (go_simp; done)))
  have zV_1 : w4.heap.size < V.heap.size := by rw [hV]; first | omega | (simp; omega) | simp
  have hBV : Below w.heap.size w V := by
    rw [hV]
    repeat (first | exact Below.refl _ _ | assumption | (refine Below.drew ?_) | (refine Below.setCell ?_ (by first | omega | (simp; omega) | simp) _) | (refine Below.alloc ?_ (by first | omega | (simp; omega) | simp) _) | (refine bthen (by assumption) ?_ (by first | omega | (simp; omega) | simp)))
  clear hV kw4_0_0 fw4_0_0 kw4_0_1 fw4_0_1 kw4_0_2 fw4_0_2 kw4_0_3 fw4_0_3 kw4_0_4 fw4_0_4 hsw4_0 hBw4
  have hvV := hBV.size
  have HS := SW.start V; have hB3 := Below.refl V.heap.size V; have hc := True.intro; have hcf := True.intro
  go_wp2_with (first
    | (go_at_call 11; (with_reducible refine (num_any _ _).mono ?_); rintro e w3 ⟨rfl, rfl⟩)
    | (go_at_call 12; (with_reducible refine (mayD_is _ _ _ _ _ _ _ hm).mono ?_); rintro e w3 ⟨rfl, hb⟩; have hS' := HS.keep hb; clear hb HS hc hB3 hcf; have HS := hS'; clear hS'; have hc := HS.cells; have hB3 := HS.below; have hcf := HS.frz))
  try go_wp2
  go_returns
  exact ⟨rfl, bthen hB3 hBV hBV.size⟩
theorem walk (which x : Int) (w : World) (_ : (Lit.int .i64 which).wf = true) (_ : (Lit.int .i64 x).wf = true) :
    Calls Try.prog 5 #[.int .i64 which, .int .i64 x] w fun e w' => e = .returned (.bool true) ∧ Below w.heap.size w w' := by
  have hd : bits .and .i64 x 1023 = x % 1024 := mask1023 x
  have h0 : 0 ≤ x % 1024 := by omega
  have h1 : x % 1024 ≤ 1023 := by omega
  generalize x % 1024 = d at hd h0 h1
  have hu : 0 ≤ IntKind.u64.wrap which := by rw [IntKind.wrap_u64]; omega
  have ht : (IntKind.u64.wrap which).tmod 9 = IntKind.u64.wrap which % 9 := Int.tmod_eq_emod_of_nonneg hu
  have hs : (IntKind.u64.wrap which).tmod 7 = IntKind.u64.wrap which % 7 := Int.tmod_eq_emod_of_nonneg hu
  have hq : (1 + d).tmod 200 = (1 + d) % 200 := Int.tmod_eq_emod_of_nonneg (by omega)
  have j0 : 0 ≤ (IntKind.u64.wrap which).tmod 7 := by omega
  have j1 : (IntKind.u64.wrap which).tmod 7 < 7 := by omega
  have q0 : 0 ≤ (1 + d).tmod 200 := by omega
  have q1 : (1 + d).tmod 200 < 200 := by omega
  have m : ∀ {a b c d e : Int}, ¬ (0 ≤ a ∧ a ≤ 3 ∧ (0 ≤ b ∧ b < 8 ∨ b = 255) ∧ 0 ≤ c ∧ c ≤ 65535 ∧ 0 ≤ d ∧ d ≤ 65535 ∧ 0 ≤ e ∧ e ≤ 255) → mayD a b c d e = false := fun h => decide_eq_false h
  have c : (IntKind.u64.wrap which).tmod 9 = 0 ∨ (IntKind.u64.wrap which).tmod 9 = 1 ∨ (IntKind.u64.wrap which).tmod 9 = 2 ∨ (IntKind.u64.wrap which).tmod 9 = 3 ∨ (IntKind.u64.wrap which).tmod 9 = 4 ∨ (IntKind.u64.wrap which).tmod 9 = 5 ∨ (IntKind.u64.wrap which).tmod 9 = 6 ∨ (IntKind.u64.wrap which).tmod 9 = 7 ∨ (IntKind.u64.wrap which).tmod 9 = 8 := by omega
  rcases c with c | c | c | c | c | c | c | c | c
  · exact walk0 which x d _ _ w hd h0 h1 rfl q0 q1 c rfl j0 j1 (m (by omega)) (putB_no (m (by omega))).1 (putB_no (m (by omega))).2
  · exact walk1 which x d _ _ w hd h0 h1 rfl q0 q1 c rfl j0 j1 (m (by omega)) (putB_no (m (by omega))).1 (putB_no (m (by omega))).2
  · exact walk2 which x d _ _ w hd h0 h1 rfl q0 q1 c rfl j0 j1 (m (by omega)) (putB_no (m (by omega))).1 (putB_no (m (by omega))).2
  · exact walk3 which x d _ _ w hd h0 h1 rfl q0 q1 c rfl j0 j1 (m (by omega)) (putB_no (m (by omega))).1 (putB_no (m (by omega))).2
  · exact walk4 which x d _ _ w hd h0 h1 rfl q0 q1 c rfl j0 j1 (m (by omega)) (putB_no (m (by omega))).1 (putB_no (m (by omega))).2
  · exact walk5 which x d _ _ w hd h0 h1 rfl q0 q1 c rfl j0 j1 (m (by omega)) (putB_no (m (by omega))).1 (putB_no (m (by omega))).2
  · exact walk6 which x d _ _ w hd h0 h1 rfl q0 q1 c rfl j0 j1 (m (by omega)) (putB_no (m (by omega))).1 (putB_no (m (by omega))).2
  · exact walk7 which x d _ _ w hd h0 h1 rfl q0 q1 c rfl j0 j1 (m (by omega)) (putB_no (m (by omega))).1 (putB_no (m (by omega))).2
  · exact walk8 which x d _ _ w hd h0 h1 rfl q0 q1 c rfl j0 j1 (m (by omega)) (putB_no (m (by omega))).1 (putB_no (m (by omega))).2
end Go.Proofs.Ytefcppldkepmhaa.descForms

