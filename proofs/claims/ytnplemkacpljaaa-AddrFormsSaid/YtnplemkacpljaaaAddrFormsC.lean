/- The walk of caissonlaw1.AddrForms: for every two numbers it answers true. No condition. -/
import Derived.Test.YtnplemkacpljaaaAddrMay
import Derived.Test.YtnplemkacpljaaaNum
import Derived.Test.YtnplemkacpljaaaBits
import Derived.Test.YtnplemkacpljaaaAddrFormsW
namespace Go.Proofs.Ytnplemkacpljaaa.addrForms
open Go.RowKit
set_option linter.unusedVariables false
set_option maxHeartbeats 4000000 in
theorem walk6 (which x d : Int) (w : World) (hx : bits .and .i64 x 1048575 = d) (h0 : 0 ≤ d) (h1 : d ≤ 1048575) (hi : (IntKind.u64.wrap which).tmod 9 = 6) :
    Calls Try.prog 5 #[.int .i64 which, .int .i64 x] w fun e w' => e = .returned (.bool true) ∧ Below w.heap.size w w' := by
  have m1 : mayA (9223372036854775807 - (1 + d)) (1 + d + 5) 4096 = false := by rw [mayA_false]; omega
  have m2 : mayA 0 0 0 = true := by kernel_rfl
  have m3 : mayA 4096 0 4096 = true := by kernel_rfl
  have m4 : mayA 0 0 (-(1 + d)) = false := by rw [mayA_false]; omega
  have m5 : mayA (1 + d) (9223372036854775807 - (1 + d)) 9223372036854775807 = true := by rw [mayA_true]; omega
  have m6 : mayA (1 + d) (9223372036854775807 - (1 + d) + 1) 9223372036854775807 = false := by rw [mayA_false]; omega
  go_enter Try.func5, Try.ntmps5
  go_wp2_with fail
  refine (awake_any _).mono ?_; rintro e w1 ⟨rfl, hbw1⟩
  have hzw1 := hbw1.size; (try simp at hzw1)
  have hBw1 : Below w.heap.size w w1 := by
    refine bthen hbw1 ?_ (by first | omega | (simp; omega) | simp)
    repeat (first | exact Below.refl _ _ | (with_reducible assumption) | (refine Below.drew ?_) | (refine Below.setCell ?_ (by first | omega | (simp; omega) | simp) _) | (refine Below.alloc ?_ (by first | omega | (simp; omega) | simp) _) | (refine bthen (by assumption) ?_ (by first | omega | (simp; omega) | simp)))
  have hvw1 := hBw1.size
  clear hbw1
  go_wp2_with fail
  refine name_world fun W hW => ?_
  have kW_0_0 : W.cell? ⟨w1.heap.size, 0, none⟩ = some (.int .i64 (-(1 + d))) := by rw [hW]; exact (by first | (go_simp; done) | ((repeat rw [cell_al (by first | omega | (simp; omega) | simp)]); first | assumption | (go_simp; done)))
  have kW_0_1 : W.cell? ⟨w1.heap.size, 1, none⟩ = some (.int .i64 0) := by rw [hW]; exact (by first | (go_simp; done) | ((repeat rw [cell_al (by first | omega | (simp; omega) | simp)]); first | assumption | (go_simp; done)))
  have kW_0_2 : W.cell? ⟨w1.heap.size, 2, none⟩ = some (.int .i64 (4096 + (1 + d))) := by rw [hW]; exact (by first | (go_simp; done) | ((repeat rw [cell_al (by first | omega | (simp; omega) | simp)]); first | assumption | (go_simp; done)))
  have kW_0_3 : W.cell? ⟨w1.heap.size, 3, none⟩ = some (.int .i64 1) := by rw [hW]; exact (by first | (go_simp; done) | ((repeat rw [cell_al (by first | omega | (simp; omega) | simp)]); first | assumption | (go_simp; done)))
  have kW_0_4 : W.cell? ⟨w1.heap.size, 4, none⟩ = some (.int .i64 4096) := by rw [hW]; exact (by first | (go_simp; done) | ((repeat rw [cell_al (by first | omega | (simp; omega) | simp)]); first | assumption | (go_simp; done)))
  have kW_0_5 : W.cell? ⟨w1.heap.size, 5, none⟩ = some (.int .i64 9223372036854775807) := by rw [hW]; exact (by first | (go_simp; done) | ((repeat rw [cell_al (by first | omega | (simp; omega) | simp)]); first | assumption | (go_simp; done)))
  have kW_0_6 : W.cell? ⟨w1.heap.size, 6, none⟩ = some (.int .i64 (9223372036854775807 - (1 + d))) := by rw [hW]; exact (by first | (go_simp; done) | ((repeat rw [cell_al (by first | omega | (simp; omega) | simp)]); first | assumption | (go_simp; done)))
  have kW_0_7 : W.cell? ⟨w1.heap.size, 7, none⟩ = some (.int .i64 (-9223372036854775807)) := by rw [hW]; exact (by first | (go_simp; done) | ((repeat rw [cell_al (by first | omega | (simp; omega) | simp)]); first | assumption | (go_simp; done)))
  have kW_0_8 : W.cell? ⟨w1.heap.size, 8, none⟩ = some (.int .i64 0) := by rw [hW]; exact (by first | (go_simp; done) | ((repeat rw [cell_al (by first | omega | (simp; omega) | simp)]); first | assumption | (go_simp; done)))
  have zW_0 : w1.heap.size < W.heap.size := by rw [hW]; first | omega | (simp; omega) | simp
  have kW_1_0 : W.cell? ⟨w1.heap.size + 1, 0, none⟩ = some (.int .i64 1) := by rw [hW]; exact (by first | (go_simp; done) | ((repeat rw [cell_al (by first | omega | (simp; omega) | simp)]); first | assumption | (go_simp; done)))
  have kW_1_1 : W.cell? ⟨w1.heap.size + 1, 1, none⟩ = some (.int .i64 (-(1 + d))) := by rw [hW]; exact (by first | (go_simp; done) | ((repeat rw [cell_al (by first | omega | (simp; omega) | simp)]); first | assumption | (go_simp; done)))
  have kW_1_2 : W.cell? ⟨w1.heap.size + 1, 2, none⟩ = some (.int .i64 0) := by rw [hW]; exact (by first | (go_simp; done) | ((repeat rw [cell_al (by first | omega | (simp; omega) | simp)]); first | assumption | (go_simp; done)))
  have kW_1_3 : W.cell? ⟨w1.heap.size + 1, 3, none⟩ = some (.int .i64 4096) := by rw [hW]; exact (by first | (go_simp; done) | ((repeat rw [cell_al (by first | omega | (simp; omega) | simp)]); first | assumption | (go_simp; done)))
  have kW_1_4 : W.cell? ⟨w1.heap.size + 1, 4, none⟩ = some (.int .i64 (1 + d)) := by rw [hW]; exact (by first | (go_simp; done) | ((repeat rw [cell_al (by first | omega | (simp; omega) | simp)]); first | assumption | (go_simp; done)))
  have kW_1_5 : W.cell? ⟨w1.heap.size + 1, 5, none⟩ = some (.int .i64 9223372036854775807) := by rw [hW]; exact (by first | (go_simp; done) | ((repeat rw [cell_al (by first | omega | (simp; omega) | simp)]); first | assumption | (go_simp; done)))
  have kW_1_6 : W.cell? ⟨w1.heap.size + 1, 6, none⟩ = some (.int .i64 (1 + d + 5)) := by rw [hW]; exact (by first | (go_simp; done) | ((repeat rw [cell_al (by first | omega | (simp; omega) | simp)]); first | assumption | (go_simp; done)))
  have kW_1_7 : W.cell? ⟨w1.heap.size + 1, 7, none⟩ = some (.int .i64 1) := by rw [hW]; exact (by first | (go_simp; done) | ((repeat rw [cell_al (by first | omega | (simp; omega) | simp)]); first | assumption | (go_simp; done)))
  have kW_1_8 : W.cell? ⟨w1.heap.size + 1, 8, none⟩ = some (.int .i64 (4096 + (1 + d))) := by rw [hW]; exact (by first | (go_simp; done) | ((repeat rw [cell_al (by first | omega | (simp; omega) | simp)]); first | assumption | (go_simp; done)))
  have zW_1 : w1.heap.size + 1 < W.heap.size := by rw [hW]; first | omega | (simp; omega) | simp
  have hBW : Below w.heap.size w W := by
    rw [hW]
    repeat (first | exact Below.refl _ _ | assumption | (refine Below.drew ?_) | (refine Below.setCell ?_ (by first | omega | (simp; omega) | simp) _) | (refine Below.alloc ?_ (by first | omega | (simp; omega) | simp) _) | (refine bthen (by assumption) ?_ (by first | omega | (simp; omega) | simp)))
  clear hW hBw1 hvw1
  have hvW := hBW.size
  have HS := SW.start W; have hB3 := Below.refl W.heap.size W; have hc := True.intro
  go_region_held3 (fun w' => (∀ b o, b < W.heap.size → w'.cell? ⟨b, o, none⟩ = W.cell? ⟨b, o, none⟩) ∧ Below W.heap.size W w')
    (first | exact keepSd HS.both | assumption | exact startSd W | exact keepS (by assumption) (by assumption))
    (first
      | (go_at_call 8; refine (split_bad _ _ _ (by omega) m1).mono ?_; rintro e w3 ⟨rfl, rfl⟩)
      | (go_at_call 11; refine (num_any _ _).mono ?_; rintro e w3 ⟨rfl, rfl⟩)
      | (go_at_call 12; refine (addrMay_any _ _ _ _ (by omega) (by omega)).mono ?_; rintro e w3 ⟨rfl, rfl⟩; (try simp only [m1, m2, m3, m4, m5, m6])))
  rename_i hHeld
  clear HS hc hB3; have HS := SW.of hHeld; clear hHeld; have hc := HS.cells; have hB3 := HS.below
  go_wp2_with fail
  have q1 : IntKind.i64.wrap (-(1 + d)) = -(1 + d) := IntWalk.i64_in _ ⟨by omega, by omega⟩
  have q2 : IntKind.i64.wrap (9223372036854775807 - (1 + d)) = 9223372036854775807 - (1 + d) := IntWalk.i64_in _ ⟨by omega, by omega⟩
  have q3 : IntKind.i64.wrap (9223372036854775807 - (1 + d) + 1) = 9223372036854775807 - (1 + d) + 1 := IntWalk.i64_in _ ⟨by omega, by omega⟩
  go_region_held3 (fun w' => (∀ b o, b < W.heap.size → w'.cell? ⟨b, o, none⟩ = W.cell? ⟨b, o, none⟩) ∧ Below W.heap.size W w')
    (first | exact keepSd HS.both | assumption | exact startSd W | exact keepS (by assumption) (by assumption))
    (first
      | (go_at_call 8; refine (split_bad _ _ _ (by omega) m1).mono ?_; rintro e w3 ⟨rfl, rfl⟩)
      | (go_at_call 11; refine (num_any _ _).mono ?_; rintro e w3 ⟨rfl, rfl⟩)
      | (go_at_call 12; refine (addrMay_any _ _ _ _ (by omega) (by omega)).mono ?_; rintro e w3 ⟨rfl, rfl⟩; (try simp only [m1, m2, m3, m4, m5, m6])))
  rename_i hHeld
  clear HS hc hB3; have HS := SW.of hHeld; clear hHeld; have hc := HS.cells; have hB3 := HS.below
  try go_wp2
  go_returns
  exact ⟨rfl, bthen hB3 hBW hBW.size⟩
set_option maxHeartbeats 4000000 in
theorem walk7 (which x d : Int) (w : World) (hx : bits .and .i64 x 1048575 = d) (h0 : 0 ≤ d) (h1 : d ≤ 1048575) (hi : (IntKind.u64.wrap which).tmod 9 = 7) :
    Calls Try.prog 5 #[.int .i64 which, .int .i64 x] w fun e w' => e = .returned (.bool true) ∧ Below w.heap.size w w' := by
  have m1 : mayA (-9223372036854775807) (1) 4096 = false := by rw [mayA_false]; omega
  have m2 : mayA 0 0 0 = true := by kernel_rfl
  have m3 : mayA 4096 0 4096 = true := by kernel_rfl
  have m4 : mayA 0 0 (-(1 + d)) = false := by rw [mayA_false]; omega
  have m5 : mayA (1 + d) (9223372036854775807 - (1 + d)) 9223372036854775807 = true := by rw [mayA_true]; omega
  have m6 : mayA (1 + d) (9223372036854775807 - (1 + d) + 1) 9223372036854775807 = false := by rw [mayA_false]; omega
  go_enter Try.func5, Try.ntmps5
  go_wp2_with fail
  refine (awake_any _).mono ?_; rintro e w1 ⟨rfl, hbw1⟩
  have hzw1 := hbw1.size; (try simp at hzw1)
  have hBw1 : Below w.heap.size w w1 := by
    refine bthen hbw1 ?_ (by first | omega | (simp; omega) | simp)
    repeat (first | exact Below.refl _ _ | (with_reducible assumption) | (refine Below.drew ?_) | (refine Below.setCell ?_ (by first | omega | (simp; omega) | simp) _) | (refine Below.alloc ?_ (by first | omega | (simp; omega) | simp) _) | (refine bthen (by assumption) ?_ (by first | omega | (simp; omega) | simp)))
  have hvw1 := hBw1.size
  clear hbw1
  go_wp2_with fail
  refine name_world fun W hW => ?_
  have kW_0_0 : W.cell? ⟨w1.heap.size, 0, none⟩ = some (.int .i64 (-(1 + d))) := by rw [hW]; exact (by first | (go_simp; done) | ((repeat rw [cell_al (by first | omega | (simp; omega) | simp)]); first | assumption | (go_simp; done)))
  have kW_0_1 : W.cell? ⟨w1.heap.size, 1, none⟩ = some (.int .i64 0) := by rw [hW]; exact (by first | (go_simp; done) | ((repeat rw [cell_al (by first | omega | (simp; omega) | simp)]); first | assumption | (go_simp; done)))
  have kW_0_2 : W.cell? ⟨w1.heap.size, 2, none⟩ = some (.int .i64 (4096 + (1 + d))) := by rw [hW]; exact (by first | (go_simp; done) | ((repeat rw [cell_al (by first | omega | (simp; omega) | simp)]); first | assumption | (go_simp; done)))
  have kW_0_3 : W.cell? ⟨w1.heap.size, 3, none⟩ = some (.int .i64 1) := by rw [hW]; exact (by first | (go_simp; done) | ((repeat rw [cell_al (by first | omega | (simp; omega) | simp)]); first | assumption | (go_simp; done)))
  have kW_0_4 : W.cell? ⟨w1.heap.size, 4, none⟩ = some (.int .i64 4096) := by rw [hW]; exact (by first | (go_simp; done) | ((repeat rw [cell_al (by first | omega | (simp; omega) | simp)]); first | assumption | (go_simp; done)))
  have kW_0_5 : W.cell? ⟨w1.heap.size, 5, none⟩ = some (.int .i64 9223372036854775807) := by rw [hW]; exact (by first | (go_simp; done) | ((repeat rw [cell_al (by first | omega | (simp; omega) | simp)]); first | assumption | (go_simp; done)))
  have kW_0_6 : W.cell? ⟨w1.heap.size, 6, none⟩ = some (.int .i64 (9223372036854775807 - (1 + d))) := by rw [hW]; exact (by first | (go_simp; done) | ((repeat rw [cell_al (by first | omega | (simp; omega) | simp)]); first | assumption | (go_simp; done)))
  have kW_0_7 : W.cell? ⟨w1.heap.size, 7, none⟩ = some (.int .i64 (-9223372036854775807)) := by rw [hW]; exact (by first | (go_simp; done) | ((repeat rw [cell_al (by first | omega | (simp; omega) | simp)]); first | assumption | (go_simp; done)))
  have kW_0_8 : W.cell? ⟨w1.heap.size, 8, none⟩ = some (.int .i64 0) := by rw [hW]; exact (by first | (go_simp; done) | ((repeat rw [cell_al (by first | omega | (simp; omega) | simp)]); first | assumption | (go_simp; done)))
  have zW_0 : w1.heap.size < W.heap.size := by rw [hW]; first | omega | (simp; omega) | simp
  have kW_1_0 : W.cell? ⟨w1.heap.size + 1, 0, none⟩ = some (.int .i64 1) := by rw [hW]; exact (by first | (go_simp; done) | ((repeat rw [cell_al (by first | omega | (simp; omega) | simp)]); first | assumption | (go_simp; done)))
  have kW_1_1 : W.cell? ⟨w1.heap.size + 1, 1, none⟩ = some (.int .i64 (-(1 + d))) := by rw [hW]; exact (by first | (go_simp; done) | ((repeat rw [cell_al (by first | omega | (simp; omega) | simp)]); first | assumption | (go_simp; done)))
  have kW_1_2 : W.cell? ⟨w1.heap.size + 1, 2, none⟩ = some (.int .i64 0) := by rw [hW]; exact (by first | (go_simp; done) | ((repeat rw [cell_al (by first | omega | (simp; omega) | simp)]); first | assumption | (go_simp; done)))
  have kW_1_3 : W.cell? ⟨w1.heap.size + 1, 3, none⟩ = some (.int .i64 4096) := by rw [hW]; exact (by first | (go_simp; done) | ((repeat rw [cell_al (by first | omega | (simp; omega) | simp)]); first | assumption | (go_simp; done)))
  have kW_1_4 : W.cell? ⟨w1.heap.size + 1, 4, none⟩ = some (.int .i64 (1 + d)) := by rw [hW]; exact (by first | (go_simp; done) | ((repeat rw [cell_al (by first | omega | (simp; omega) | simp)]); first | assumption | (go_simp; done)))
  have kW_1_5 : W.cell? ⟨w1.heap.size + 1, 5, none⟩ = some (.int .i64 9223372036854775807) := by rw [hW]; exact (by first | (go_simp; done) | ((repeat rw [cell_al (by first | omega | (simp; omega) | simp)]); first | assumption | (go_simp; done)))
  have kW_1_6 : W.cell? ⟨w1.heap.size + 1, 6, none⟩ = some (.int .i64 (1 + d + 5)) := by rw [hW]; exact (by first | (go_simp; done) | ((repeat rw [cell_al (by first | omega | (simp; omega) | simp)]); first | assumption | (go_simp; done)))
  have kW_1_7 : W.cell? ⟨w1.heap.size + 1, 7, none⟩ = some (.int .i64 1) := by rw [hW]; exact (by first | (go_simp; done) | ((repeat rw [cell_al (by first | omega | (simp; omega) | simp)]); first | assumption | (go_simp; done)))
  have kW_1_8 : W.cell? ⟨w1.heap.size + 1, 8, none⟩ = some (.int .i64 (4096 + (1 + d))) := by rw [hW]; exact (by first | (go_simp; done) | ((repeat rw [cell_al (by first | omega | (simp; omega) | simp)]); first | assumption | (go_simp; done)))
  have zW_1 : w1.heap.size + 1 < W.heap.size := by rw [hW]; first | omega | (simp; omega) | simp
  have hBW : Below w.heap.size w W := by
    rw [hW]
    repeat (first | exact Below.refl _ _ | assumption | (refine Below.drew ?_) | (refine Below.setCell ?_ (by first | omega | (simp; omega) | simp) _) | (refine Below.alloc ?_ (by first | omega | (simp; omega) | simp) _) | (refine bthen (by assumption) ?_ (by first | omega | (simp; omega) | simp)))
  clear hW hBw1 hvw1
  have hvW := hBW.size
  have HS := SW.start W; have hB3 := Below.refl W.heap.size W; have hc := True.intro
  go_region_held3 (fun w' => (∀ b o, b < W.heap.size → w'.cell? ⟨b, o, none⟩ = W.cell? ⟨b, o, none⟩) ∧ Below W.heap.size W w')
    (first | exact keepSd HS.both | assumption | exact startSd W | exact keepS (by assumption) (by assumption))
    (first
      | (go_at_call 8; refine (split_bad _ _ _ (by omega) m1).mono ?_; rintro e w3 ⟨rfl, rfl⟩)
      | (go_at_call 11; refine (num_any _ _).mono ?_; rintro e w3 ⟨rfl, rfl⟩)
      | (go_at_call 12; refine (addrMay_any _ _ _ _ (by omega) (by omega)).mono ?_; rintro e w3 ⟨rfl, rfl⟩; (try simp only [m1, m2, m3, m4, m5, m6])))
  rename_i hHeld
  clear HS hc hB3; have HS := SW.of hHeld; clear hHeld; have hc := HS.cells; have hB3 := HS.below
  go_wp2_with fail
  have q1 : IntKind.i64.wrap (-(1 + d)) = -(1 + d) := IntWalk.i64_in _ ⟨by omega, by omega⟩
  have q2 : IntKind.i64.wrap (9223372036854775807 - (1 + d)) = 9223372036854775807 - (1 + d) := IntWalk.i64_in _ ⟨by omega, by omega⟩
  have q3 : IntKind.i64.wrap (9223372036854775807 - (1 + d) + 1) = 9223372036854775807 - (1 + d) + 1 := IntWalk.i64_in _ ⟨by omega, by omega⟩
  go_region_held3 (fun w' => (∀ b o, b < W.heap.size → w'.cell? ⟨b, o, none⟩ = W.cell? ⟨b, o, none⟩) ∧ Below W.heap.size W w')
    (first | exact keepSd HS.both | assumption | exact startSd W | exact keepS (by assumption) (by assumption))
    (first
      | (go_at_call 8; refine (split_bad _ _ _ (by omega) m1).mono ?_; rintro e w3 ⟨rfl, rfl⟩)
      | (go_at_call 11; refine (num_any _ _).mono ?_; rintro e w3 ⟨rfl, rfl⟩)
      | (go_at_call 12; refine (addrMay_any _ _ _ _ (by omega) (by omega)).mono ?_; rintro e w3 ⟨rfl, rfl⟩; (try simp only [m1, m2, m3, m4, m5, m6])))
  rename_i hHeld
  clear HS hc hB3; have HS := SW.of hHeld; clear hHeld; have hc := HS.cells; have hB3 := HS.below
  try go_wp2
  go_returns
  exact ⟨rfl, bthen hB3 hBW hBW.size⟩
set_option maxHeartbeats 4000000 in
theorem walk8 (which x d : Int) (w : World) (hx : bits .and .i64 x 1048575 = d) (h0 : 0 ≤ d) (h1 : d ≤ 1048575) (hi : (IntKind.u64.wrap which).tmod 9 = 8) :
    Calls Try.prog 5 #[.int .i64 which, .int .i64 x] w fun e w' => e = .returned (.bool true) ∧ Below w.heap.size w w' := by
  have m1 : mayA (0) (4096 + (1 + d)) 4096 = false := by rw [mayA_false]; omega
  have m2 : mayA 0 0 0 = true := by kernel_rfl
  have m3 : mayA 4096 0 4096 = true := by kernel_rfl
  have m4 : mayA 0 0 (-(1 + d)) = false := by rw [mayA_false]; omega
  have m5 : mayA (1 + d) (9223372036854775807 - (1 + d)) 9223372036854775807 = true := by rw [mayA_true]; omega
  have m6 : mayA (1 + d) (9223372036854775807 - (1 + d) + 1) 9223372036854775807 = false := by rw [mayA_false]; omega
  go_enter Try.func5, Try.ntmps5
  go_wp2_with fail
  refine (awake_any _).mono ?_; rintro e w1 ⟨rfl, hbw1⟩
  have hzw1 := hbw1.size; (try simp at hzw1)
  have hBw1 : Below w.heap.size w w1 := by
    refine bthen hbw1 ?_ (by first | omega | (simp; omega) | simp)
    repeat (first | exact Below.refl _ _ | (with_reducible assumption) | (refine Below.drew ?_) | (refine Below.setCell ?_ (by first | omega | (simp; omega) | simp) _) | (refine Below.alloc ?_ (by first | omega | (simp; omega) | simp) _) | (refine bthen (by assumption) ?_ (by first | omega | (simp; omega) | simp)))
  have hvw1 := hBw1.size
  clear hbw1
  go_wp2_with fail
  refine name_world fun W hW => ?_
  have kW_0_0 : W.cell? ⟨w1.heap.size, 0, none⟩ = some (.int .i64 (-(1 + d))) := by rw [hW]; exact (by first | (go_simp; done) | ((repeat rw [cell_al (by first | omega | (simp; omega) | simp)]); first | assumption | (go_simp; done)))
  have kW_0_1 : W.cell? ⟨w1.heap.size, 1, none⟩ = some (.int .i64 0) := by rw [hW]; exact (by first | (go_simp; done) | ((repeat rw [cell_al (by first | omega | (simp; omega) | simp)]); first | assumption | (go_simp; done)))
  have kW_0_2 : W.cell? ⟨w1.heap.size, 2, none⟩ = some (.int .i64 (4096 + (1 + d))) := by rw [hW]; exact (by first | (go_simp; done) | ((repeat rw [cell_al (by first | omega | (simp; omega) | simp)]); first | assumption | (go_simp; done)))
  have kW_0_3 : W.cell? ⟨w1.heap.size, 3, none⟩ = some (.int .i64 1) := by rw [hW]; exact (by first | (go_simp; done) | ((repeat rw [cell_al (by first | omega | (simp; omega) | simp)]); first | assumption | (go_simp; done)))
  have kW_0_4 : W.cell? ⟨w1.heap.size, 4, none⟩ = some (.int .i64 4096) := by rw [hW]; exact (by first | (go_simp; done) | ((repeat rw [cell_al (by first | omega | (simp; omega) | simp)]); first | assumption | (go_simp; done)))
  have kW_0_5 : W.cell? ⟨w1.heap.size, 5, none⟩ = some (.int .i64 9223372036854775807) := by rw [hW]; exact (by first | (go_simp; done) | ((repeat rw [cell_al (by first | omega | (simp; omega) | simp)]); first | assumption | (go_simp; done)))
  have kW_0_6 : W.cell? ⟨w1.heap.size, 6, none⟩ = some (.int .i64 (9223372036854775807 - (1 + d))) := by rw [hW]; exact (by first | (go_simp; done) | ((repeat rw [cell_al (by first | omega | (simp; omega) | simp)]); first | assumption | (go_simp; done)))
  have kW_0_7 : W.cell? ⟨w1.heap.size, 7, none⟩ = some (.int .i64 (-9223372036854775807)) := by rw [hW]; exact (by first | (go_simp; done) | ((repeat rw [cell_al (by first | omega | (simp; omega) | simp)]); first | assumption | (go_simp; done)))
  have kW_0_8 : W.cell? ⟨w1.heap.size, 8, none⟩ = some (.int .i64 0) := by rw [hW]; exact (by first | (go_simp; done) | ((repeat rw [cell_al (by first | omega | (simp; omega) | simp)]); first | assumption | (go_simp; done)))
  have zW_0 : w1.heap.size < W.heap.size := by rw [hW]; first | omega | (simp; omega) | simp
  have kW_1_0 : W.cell? ⟨w1.heap.size + 1, 0, none⟩ = some (.int .i64 1) := by rw [hW]; exact (by first | (go_simp; done) | ((repeat rw [cell_al (by first | omega | (simp; omega) | simp)]); first | assumption | (go_simp; done)))
  have kW_1_1 : W.cell? ⟨w1.heap.size + 1, 1, none⟩ = some (.int .i64 (-(1 + d))) := by rw [hW]; exact (by first | (go_simp; done) | ((repeat rw [cell_al (by first | omega | (simp; omega) | simp)]); first | assumption | (go_simp; done)))
  have kW_1_2 : W.cell? ⟨w1.heap.size + 1, 2, none⟩ = some (.int .i64 0) := by rw [hW]; exact (by first | (go_simp; done) | ((repeat rw [cell_al (by first | omega | (simp; omega) | simp)]); first | assumption | (go_simp; done)))
  have kW_1_3 : W.cell? ⟨w1.heap.size + 1, 3, none⟩ = some (.int .i64 4096) := by rw [hW]; exact (by first | (go_simp; done) | ((repeat rw [cell_al (by first | omega | (simp; omega) | simp)]); first | assumption | (go_simp; done)))
  have kW_1_4 : W.cell? ⟨w1.heap.size + 1, 4, none⟩ = some (.int .i64 (1 + d)) := by rw [hW]; exact (by first | (go_simp; done) | ((repeat rw [cell_al (by first | omega | (simp; omega) | simp)]); first | assumption | (go_simp; done)))
  have kW_1_5 : W.cell? ⟨w1.heap.size + 1, 5, none⟩ = some (.int .i64 9223372036854775807) := by rw [hW]; exact (by first | (go_simp; done) | ((repeat rw [cell_al (by first | omega | (simp; omega) | simp)]); first | assumption | (go_simp; done)))
  have kW_1_6 : W.cell? ⟨w1.heap.size + 1, 6, none⟩ = some (.int .i64 (1 + d + 5)) := by rw [hW]; exact (by first | (go_simp; done) | ((repeat rw [cell_al (by first | omega | (simp; omega) | simp)]); first | assumption | (go_simp; done)))
  have kW_1_7 : W.cell? ⟨w1.heap.size + 1, 7, none⟩ = some (.int .i64 1) := by rw [hW]; exact (by first | (go_simp; done) | ((repeat rw [cell_al (by first | omega | (simp; omega) | simp)]); first | assumption | (go_simp; done)))
  have kW_1_8 : W.cell? ⟨w1.heap.size + 1, 8, none⟩ = some (.int .i64 (4096 + (1 + d))) := by rw [hW]; exact (by first | (go_simp; done) | ((repeat rw [cell_al (by first | omega | (simp; omega) | simp)]); first | assumption | (go_simp; done)))
  have zW_1 : w1.heap.size + 1 < W.heap.size := by rw [hW]; first | omega | (simp; omega) | simp
  have hBW : Below w.heap.size w W := by
    rw [hW]
    repeat (first | exact Below.refl _ _ | assumption | (refine Below.drew ?_) | (refine Below.setCell ?_ (by first | omega | (simp; omega) | simp) _) | (refine Below.alloc ?_ (by first | omega | (simp; omega) | simp) _) | (refine bthen (by assumption) ?_ (by first | omega | (simp; omega) | simp)))
  clear hW hBw1 hvw1
  have hvW := hBW.size
  have HS := SW.start W; have hB3 := Below.refl W.heap.size W; have hc := True.intro
  go_region_held3 (fun w' => (∀ b o, b < W.heap.size → w'.cell? ⟨b, o, none⟩ = W.cell? ⟨b, o, none⟩) ∧ Below W.heap.size W w')
    (first | exact keepSd HS.both | assumption | exact startSd W | exact keepS (by assumption) (by assumption))
    (first
      | (go_at_call 8; refine (split_bad _ _ _ (by omega) m1).mono ?_; rintro e w3 ⟨rfl, rfl⟩)
      | (go_at_call 11; refine (num_any _ _).mono ?_; rintro e w3 ⟨rfl, rfl⟩)
      | (go_at_call 12; refine (addrMay_any _ _ _ _ (by omega) (by omega)).mono ?_; rintro e w3 ⟨rfl, rfl⟩; (try simp only [m1, m2, m3, m4, m5, m6])))
  rename_i hHeld
  clear HS hc hB3; have HS := SW.of hHeld; clear hHeld; have hc := HS.cells; have hB3 := HS.below
  go_wp2_with fail
  have q1 : IntKind.i64.wrap (-(1 + d)) = -(1 + d) := IntWalk.i64_in _ ⟨by omega, by omega⟩
  have q2 : IntKind.i64.wrap (9223372036854775807 - (1 + d)) = 9223372036854775807 - (1 + d) := IntWalk.i64_in _ ⟨by omega, by omega⟩
  have q3 : IntKind.i64.wrap (9223372036854775807 - (1 + d) + 1) = 9223372036854775807 - (1 + d) + 1 := IntWalk.i64_in _ ⟨by omega, by omega⟩
  go_region_held3 (fun w' => (∀ b o, b < W.heap.size → w'.cell? ⟨b, o, none⟩ = W.cell? ⟨b, o, none⟩) ∧ Below W.heap.size W w')
    (first | exact keepSd HS.both | assumption | exact startSd W | exact keepS (by assumption) (by assumption))
    (first
      | (go_at_call 8; refine (split_bad _ _ _ (by omega) m1).mono ?_; rintro e w3 ⟨rfl, rfl⟩)
      | (go_at_call 11; refine (num_any _ _).mono ?_; rintro e w3 ⟨rfl, rfl⟩)
      | (go_at_call 12; refine (addrMay_any _ _ _ _ (by omega) (by omega)).mono ?_; rintro e w3 ⟨rfl, rfl⟩; (try simp only [m1, m2, m3, m4, m5, m6])))
  rename_i hHeld
  clear HS hc hB3; have HS := SW.of hHeld; clear hHeld; have hc := HS.cells; have hB3 := HS.below
  try go_wp2
  go_returns
  exact ⟨rfl, bthen hB3 hBW hBW.size⟩

end Go.Proofs.Ytnplemkacpljaaa.addrForms

