/- The walk of caissonlaw4.EntryForms: for every two numbers it answers true. No condition. -/
import Derived.Test.YtoiaffobmccnjaaKit
import Derived.Test.YtoiaffobmccnjaaNum
import Derived.Test.YtoiaffobmccnjaaBits
import Derived.Test.YtoiaffobmccnjaaPEntryFormsx2
namespace Go.Proofs.Ytoiaffobmccnjaa.entryForms
open Go.RowKit
open Go.Proofs.Ytoiaffobmccnjaa.PEntryForms
set_option linter.unusedVariables false
theorem awake_any (w : World) : Calls Try.prog 15 #[] w fun e w' => e = .returned (.bool true) ∧ Below w.heap.size w w' :=
  caissonlaw4_awake.calls true w (by decide +kernel)
theorem may_bad (f p : Int) (h : p = 0 ∧ f ≠ 0 ∨ p < 0 ∨ 3 < p ∨ (1 ≤ p ∧ p ≤ 3 ∧ (f < 0 ∨ 63 < f))) : pte_May.f f p = some false := by
  unfold pte_May.f
  by_cases h1 : p = 0
  · rw [if_pos h1]; congr 1; simp; omega
  · rw [if_neg h1]
    by_cases h2 : p ≥ 1
    · rw [if_pos h2]
      by_cases h3 : p ≤ 3
      · rw [if_pos h3]
        by_cases h4 : f ≥ 0
        · rw [if_pos h4]; congr 1; simp; omega
        · rw [if_neg h4]
      · rw [if_neg h3]
    · rw [if_neg h2]
theorem put_bad {f p : Int} (h : pte_May.f f p = some false) : pte_Put.f f p = some (0, 400) := by
  unfold pte_Put.f; rw [h]; rfl

set_option maxHeartbeats 4000000 in
theorem walk0 (which x d : Int) (j : Nat) (w : World) (hx : bits .and .i64 x 1023 = d) (h0 : 0 ≤ d) (h1 : d ≤ 1023) (hi : (IntKind.u64.wrap which).tmod 6 = 0) (hj : (IntKind.u64.wrap which).tmod 11 = (j : Int)) (hj1 : j < 11) :
    Calls Try.prog 5 #[.int .i64 which, .int .i64 x] w fun e w' => e = .returned (.bool true) ∧ Below w.heap.size w w' := by
  have m1 := Lib.hid (may_bad (1 + d) (0) (by omega))
  go_enter Try.func5, Try.ntmps5
  go_wp2_with fail
  refine (awake_any _).mono ?_; rintro e w1 ⟨rfl, hbw1⟩
  have hzw1 := hbw1.size; (try simp at hzw1)
  have hBw1 : Below w.heap.size w w1 := by
    refine bthen hbw1 ?_ (by first | omega | (simp; omega) | simp)
    repeat (first | exact Below.refl _ _ | (with_reducible assumption) | (refine Below.drew ?_) | (refine Below.setCell ?_ (by first | omega | (simp; omega) | simp) _) | (refine Below.alloc ?_ (by first | omega | (simp; omega) | simp) _) | (refine bthen (by assumption) ?_ (by first | omega | (simp; omega) | simp)))
  have hvw1 := hBw1.size
  clear hbw1
  go_wp2_with fail
  refine (pte_Put.calls _ _ 0 400 _ (put_bad m1.out)).mono ?_; rintro e w2 ⟨rfl, hbw2⟩
  have hzw2 := hbw2.size; (try simp at hzw2)
  have kw2_0_0 : w2.cell? ⟨w1.heap.size, 0, none⟩ = some (.int .i64 (1 + d)) := (hbw2.cell (p := ⟨w1.heap.size, 0, none⟩) (by first | omega | (simp; omega) | simp)).trans (by first | (go_simp; done) | ((repeat rw [cell_al (by first | omega | (simp; omega) | simp)]); first | assumption | (go_simp; done)))
  have kw2_0_1 : w2.cell? ⟨w1.heap.size, 1, none⟩ = some (.int .i64 (0)) := (hbw2.cell (p := ⟨w1.heap.size, 1, none⟩) (by first | omega | (simp; omega) | simp)).trans (by first | (go_simp; done) | ((repeat rw [cell_al (by first | omega | (simp; omega) | simp)]); first | assumption | (go_simp; done)))
  have hsw2_0 : w1.heap.size < w2.heap.size := (by omega)
  have hBw2 : Below w.heap.size w w2 := by
    refine bthen hbw2 ?_ (by first | omega | (simp; omega) | simp)
    repeat (first | exact Below.refl _ _ | (with_reducible assumption) | (refine Below.drew ?_) | (refine Below.setCell ?_ (by first | omega | (simp; omega) | simp) _) | (refine Below.alloc ?_ (by first | omega | (simp; omega) | simp) _) | (refine bthen (by assumption) ?_ (by first | omega | (simp; omega) | simp)))
  have hvw2 := hBw2.size
  clear hBw1 hvw1 hzw1
  clear hbw2
  go_upto_region 9 with (fail)
  refine name_world fun V hV => ?_
  obtain ⟨y, hy, ky⟩ : ∃ y, Hid (pte_Get.f y = some (0, 0, 400)) ∧ V.cell? ⟨w2.heap.size, j, none⟩ = some (.int .i64 y) := by
    rw [hV]
    have hc : j = 0 ∨ j = 1 ∨ j = 2 ∨ j = 3 ∨ j = 4 ∨ j = 5 ∨ j = 6 ∨ j = 7 ∨ j = 8 ∨ j = 9 ∨ j = 10 := by omega
    rcases hc with rfl | rfl | rfl | rfl | rfl | rfl | rfl | rfl | rfl | rfl | rfl
    · exact ⟨1, Lib.hid (by decide +kernel), by go_simp⟩
    · exact ⟨2, Lib.hid (by decide +kernel), by go_simp⟩
    · exact ⟨4, Lib.hid (by decide +kernel), by go_simp⟩
    · exact ⟨6, Lib.hid (by decide +kernel), by go_simp⟩
    · exact ⟨9, Lib.hid (by decide +kernel), by go_simp⟩
    · exact ⟨4096, Lib.hid (by decide +kernel), by go_simp⟩
    · exact ⟨11, Lib.hid (by decide +kernel), by go_simp⟩
    · exact ⟨262147, Lib.hid (by decide +kernel), by go_simp⟩
    · exact ⟨-3, Lib.hid (by decide +kernel), by go_simp⟩
    · exact ⟨4294967299, Lib.hid (by decide +kernel), by go_simp⟩
    · exact ⟨2051, Lib.hid (by decide +kernel), by go_simp⟩
  have kV_0_0 : V.cell? ⟨w1.heap.size, 0, none⟩ = some (.int .i64 (1 + d)) := by rw [hV]; exact (by first | (go_simp; done) | ((repeat rw [cell_al (by first | omega | (simp; omega) | simp)]); first | assumption | (go_simp; done)))
  have kV_0_1 : V.cell? ⟨w1.heap.size, 1, none⟩ = some (.int .i64 (0)) := by rw [hV]; exact (by first | (go_simp; done) | ((repeat rw [cell_al (by first | omega | (simp; omega) | simp)]); first | assumption | (go_simp; done)))
  have zV_0 : w1.heap.size < V.heap.size := by rw [hV]; first | omega | (simp; omega) | simp
  have hBV : Below w.heap.size w V := by
    rw [hV]
    repeat (first | exact Below.refl _ _ | assumption | (refine Below.drew ?_) | (refine Below.setCell ?_ (by first | omega | (simp; omega) | simp) _) | (refine Below.alloc ?_ (by first | omega | (simp; omega) | simp) _) | (refine bthen (by assumption) ?_ (by first | omega | (simp; omega) | simp)))
  clear hV kw2_0_0 kw2_0_1 hsw2_0 hBw2 hvw2
  have hvV := hBV.size
  have HS := SW.start V; have hB3 := Below.refl V.heap.size V; have hc := True.intro
  clear HS hB3 hc
  go_wp2_with fail
  refine (pte_Get.calls _ 0 0 400 _ hy.out).mono ?_; rintro e w3 ⟨rfl, hbw3⟩
  have hzw3 := hbw3.size; (try simp at hzw3)
  have kw3_0_0 : w3.cell? ⟨w1.heap.size, 0, none⟩ = some (.int .i64 (1 + d)) := (hbw3.cell (p := ⟨w1.heap.size, 0, none⟩) (by first | omega | (simp; omega) | simp)).trans (by first | (go_simp; done) | ((repeat rw [cell_al (by first | omega | (simp; omega) | simp)]); first | assumption | (go_simp; done)))
  have kw3_0_1 : w3.cell? ⟨w1.heap.size, 1, none⟩ = some (.int .i64 (0)) := (hbw3.cell (p := ⟨w1.heap.size, 1, none⟩) (by first | omega | (simp; omega) | simp)).trans (by first | (go_simp; done) | ((repeat rw [cell_al (by first | omega | (simp; omega) | simp)]); first | assumption | (go_simp; done)))
  have hsw3_0 : w1.heap.size < w3.heap.size := (by omega)
  have hBw3 : Below w.heap.size w w3 := by
    refine bthen hbw3 ?_ (by first | omega | (simp; omega) | simp)
    repeat (first | exact Below.refl _ _ | (with_reducible assumption) | (refine Below.drew ?_) | (refine Below.setCell ?_ (by first | omega | (simp; omega) | simp) _) | (refine Below.alloc ?_ (by first | omega | (simp; omega) | simp) _) | (refine bthen (by assumption) ?_ (by first | omega | (simp; omega) | simp)))
  have hvw3 := hBw3.size
  clear kV_0_0 kV_0_1 zV_0
  clear hbw3
  go_wp2_with fail
  refine (pte_Get.calls _ 0 0 0 _ (by decide +kernel)).mono ?_; rintro e w4 ⟨rfl, hbw4⟩
  have hzw4 := hbw4.size; (try simp at hzw4)
  have kw4_0_0 : w4.cell? ⟨w1.heap.size, 0, none⟩ = some (.int .i64 (1 + d)) := (hbw4.cell (p := ⟨w1.heap.size, 0, none⟩) (by first | omega | (simp; omega) | simp)).trans (by first | (go_simp; done) | ((repeat rw [cell_al (by first | omega | (simp; omega) | simp)]); first | assumption | (go_simp; done)))
  have kw4_0_1 : w4.cell? ⟨w1.heap.size, 1, none⟩ = some (.int .i64 (0)) := (hbw4.cell (p := ⟨w1.heap.size, 1, none⟩) (by first | omega | (simp; omega) | simp)).trans (by first | (go_simp; done) | ((repeat rw [cell_al (by first | omega | (simp; omega) | simp)]); first | assumption | (go_simp; done)))
  have hsw4_0 : w1.heap.size < w4.heap.size := (by omega)
  have kw4_1_0 : w4.cell? ⟨w3.heap.size, 0, none⟩ = some (.int .i64 0) := (hbw4.cell (p := ⟨w3.heap.size, 0, none⟩) (by first | omega | (simp; omega) | simp)).trans (by first | (go_simp; done) | ((repeat rw [cell_al (by first | omega | (simp; omega) | simp)]); first | assumption | (go_simp; done)))
  have kw4_1_1 : w4.cell? ⟨w3.heap.size, 1, none⟩ = some (.int .i64 0) := (hbw4.cell (p := ⟨w3.heap.size, 1, none⟩) (by first | omega | (simp; omega) | simp)).trans (by first | (go_simp; done) | ((repeat rw [cell_al (by first | omega | (simp; omega) | simp)]); first | assumption | (go_simp; done)))
  have hsw4_1 : w3.heap.size < w4.heap.size := (by omega)
  have hBw4 : Below w.heap.size w w4 := by
    refine bthen hbw4 ?_ (by first | omega | (simp; omega) | simp)
    repeat (first | exact Below.refl _ _ | (with_reducible assumption) | (refine Below.drew ?_) | (refine Below.setCell ?_ (by first | omega | (simp; omega) | simp) _) | (refine Below.alloc ?_ (by first | omega | (simp; omega) | simp) _) | (refine bthen (by assumption) ?_ (by first | omega | (simp; omega) | simp)))
  have hvw4 := hBw4.size
  clear kw3_0_0 kw3_0_1 hsw3_0 hBw3 hvw3 hzw3
  clear hbw4
  go_wp2_with fail
  refine name_calls fun W hW => ?_
  have kW_0_0 : W.cell? ⟨w1.heap.size, 0, none⟩ = some (.int .i64 (1 + d)) := by rw [hW]; exact (by first | (go_simp; done) | ((repeat rw [cell_al (by first | omega | (simp; omega) | simp)]); first | assumption | (go_simp; done)))
  have kW_0_1 : W.cell? ⟨w1.heap.size, 1, none⟩ = some (.int .i64 (0)) := by rw [hW]; exact (by first | (go_simp; done) | ((repeat rw [cell_al (by first | omega | (simp; omega) | simp)]); first | assumption | (go_simp; done)))
  have zW_0 : w1.heap.size < W.heap.size := by rw [hW]; first | omega | (simp; omega) | simp
  have kW_1_0 : W.cell? ⟨w3.heap.size, 0, none⟩ = some (.int .i64 0) := by rw [hW]; exact (by first | (go_simp; done) | ((repeat rw [cell_al (by first | omega | (simp; omega) | simp)]); first | assumption | (go_simp; done)))
  have kW_1_1 : W.cell? ⟨w3.heap.size, 1, none⟩ = some (.int .i64 0) := by rw [hW]; exact (by first | (go_simp; done) | ((repeat rw [cell_al (by first | omega | (simp; omega) | simp)]); first | assumption | (go_simp; done)))
  have zW_1 : w3.heap.size < W.heap.size := by rw [hW]; first | omega | (simp; omega) | simp
  have kW_2_0 : W.cell? ⟨w4.heap.size, 0, none⟩ = some (.int .i64 0) := by rw [hW]; exact (by first | (go_simp; done) | ((repeat rw [cell_al (by first | omega | (simp; omega) | simp)]); first | assumption | (go_simp; done)))
  have kW_2_1 : W.cell? ⟨w4.heap.size, 1, none⟩ = some (.int .i64 0) := by rw [hW]; exact (by first | (go_simp; done) | ((repeat rw [cell_al (by first | omega | (simp; omega) | simp)]); first | assumption | (go_simp; done)))
  have zW_2 : w4.heap.size < W.heap.size := by rw [hW]; first | omega | (simp; omega) | simp
  have hBW : Below w.heap.size w W := by
    rw [hW]
    repeat (first | exact Below.refl _ _ | assumption | (refine Below.drew ?_) | (refine Below.setCell ?_ (by first | omega | (simp; omega) | simp) _) | (refine Below.alloc ?_ (by first | omega | (simp; omega) | simp) _) | (refine bthen (by assumption) ?_ (by first | omega | (simp; omega) | simp)))
  clear hW kw4_0_0 kw4_0_1 hsw4_0 kw4_1_0 kw4_1_1 hsw4_1 hBw4 hvw4
  have hvW := hBW.size
  have HS := SW.start W; have hB3 := Below.refl W.heap.size W; have hc := True.intro
  go_wp2_with (first
    | (go_at_call 12; refine (num_any _ _).mono ?_; rintro e w3 ⟨rfl, rfl⟩)
    | (go_at_call 13; refine (pte_May.calls _ _ false _ m1.out).mono ?_; rintro e w3 ⟨rfl, hb⟩; have hS' := HS.keep hb; clear hb HS hc hB3; have HS := hS'; clear hS'; have hc := HS.cells; have hB3 := HS.below))
  try go_wp2
  go_returns
  exact ⟨rfl, bthen hB3 hBW hBW.size⟩
set_option maxHeartbeats 4000000 in
theorem walk1 (which x d : Int) (j : Nat) (w : World) (hx : bits .and .i64 x 1023 = d) (h0 : 0 ≤ d) (h1 : d ≤ 1023) (hi : (IntKind.u64.wrap which).tmod 6 = 1) (hj : (IntKind.u64.wrap which).tmod 11 = (j : Int)) (hj1 : j < 11) :
    Calls Try.prog 5 #[.int .i64 which, .int .i64 x] w fun e w' => e = .returned (.bool true) ∧ Below w.heap.size w w' := by
  have m1 := Lib.hid (may_bad (-(1 + d)) (0) (by omega))
  go_enter Try.func5, Try.ntmps5
  go_wp2_with fail
  refine (awake_any _).mono ?_; rintro e w1 ⟨rfl, hbw1⟩
  have hzw1 := hbw1.size; (try simp at hzw1)
  have hBw1 : Below w.heap.size w w1 := by
    refine bthen hbw1 ?_ (by first | omega | (simp; omega) | simp)
    repeat (first | exact Below.refl _ _ | (with_reducible assumption) | (refine Below.drew ?_) | (refine Below.setCell ?_ (by first | omega | (simp; omega) | simp) _) | (refine Below.alloc ?_ (by first | omega | (simp; omega) | simp) _) | (refine bthen (by assumption) ?_ (by first | omega | (simp; omega) | simp)))
  have hvw1 := hBw1.size
  clear hbw1
  go_wp2_with fail
  refine (pte_Put.calls _ _ 0 400 _ (put_bad m1.out)).mono ?_; rintro e w2 ⟨rfl, hbw2⟩
  have hzw2 := hbw2.size; (try simp at hzw2)
  have kw2_0_2 : w2.cell? ⟨w1.heap.size, 2, none⟩ = some (.int .i64 (-(1 + d))) := (hbw2.cell (p := ⟨w1.heap.size, 2, none⟩) (by first | omega | (simp; omega) | simp)).trans (by first | (go_simp; done) | ((repeat rw [cell_al (by first | omega | (simp; omega) | simp)]); first | assumption | (go_simp; done)))
  have kw2_0_3 : w2.cell? ⟨w1.heap.size, 3, none⟩ = some (.int .i64 (0)) := (hbw2.cell (p := ⟨w1.heap.size, 3, none⟩) (by first | omega | (simp; omega) | simp)).trans (by first | (go_simp; done) | ((repeat rw [cell_al (by first | omega | (simp; omega) | simp)]); first | assumption | (go_simp; done)))
  have hsw2_0 : w1.heap.size < w2.heap.size := (by omega)
  have hBw2 : Below w.heap.size w w2 := by
    refine bthen hbw2 ?_ (by first | omega | (simp; omega) | simp)
    repeat (first | exact Below.refl _ _ | (with_reducible assumption) | (refine Below.drew ?_) | (refine Below.setCell ?_ (by first | omega | (simp; omega) | simp) _) | (refine Below.alloc ?_ (by first | omega | (simp; omega) | simp) _) | (refine bthen (by assumption) ?_ (by first | omega | (simp; omega) | simp)))
  have hvw2 := hBw2.size
  clear hBw1 hvw1 hzw1
  clear hbw2
  go_upto_region 9 with (fail)
  refine name_world fun V hV => ?_
  obtain ⟨y, hy, ky⟩ : ∃ y, Hid (pte_Get.f y = some (0, 0, 400)) ∧ V.cell? ⟨w2.heap.size, j, none⟩ = some (.int .i64 y) := by
    rw [hV]
    have hc : j = 0 ∨ j = 1 ∨ j = 2 ∨ j = 3 ∨ j = 4 ∨ j = 5 ∨ j = 6 ∨ j = 7 ∨ j = 8 ∨ j = 9 ∨ j = 10 := by omega
    rcases hc with rfl | rfl | rfl | rfl | rfl | rfl | rfl | rfl | rfl | rfl | rfl
    · exact ⟨1, Lib.hid (by decide +kernel), by go_simp⟩
    · exact ⟨2, Lib.hid (by decide +kernel), by go_simp⟩
    · exact ⟨4, Lib.hid (by decide +kernel), by go_simp⟩
    · exact ⟨6, Lib.hid (by decide +kernel), by go_simp⟩
    · exact ⟨9, Lib.hid (by decide +kernel), by go_simp⟩
    · exact ⟨4096, Lib.hid (by decide +kernel), by go_simp⟩
    · exact ⟨11, Lib.hid (by decide +kernel), by go_simp⟩
    · exact ⟨262147, Lib.hid (by decide +kernel), by go_simp⟩
    · exact ⟨-3, Lib.hid (by decide +kernel), by go_simp⟩
    · exact ⟨4294967299, Lib.hid (by decide +kernel), by go_simp⟩
    · exact ⟨2051, Lib.hid (by decide +kernel), by go_simp⟩
  have kV_0_2 : V.cell? ⟨w1.heap.size, 2, none⟩ = some (.int .i64 (-(1 + d))) := by rw [hV]; exact (by first | (go_simp; done) | ((repeat rw [cell_al (by first | omega | (simp; omega) | simp)]); first | assumption | (go_simp; done)))
  have kV_0_3 : V.cell? ⟨w1.heap.size, 3, none⟩ = some (.int .i64 (0)) := by rw [hV]; exact (by first | (go_simp; done) | ((repeat rw [cell_al (by first | omega | (simp; omega) | simp)]); first | assumption | (go_simp; done)))
  have zV_0 : w1.heap.size < V.heap.size := by rw [hV]; first | omega | (simp; omega) | simp
  have hBV : Below w.heap.size w V := by
    rw [hV]
    repeat (first | exact Below.refl _ _ | assumption | (refine Below.drew ?_) | (refine Below.setCell ?_ (by first | omega | (simp; omega) | simp) _) | (refine Below.alloc ?_ (by first | omega | (simp; omega) | simp) _) | (refine bthen (by assumption) ?_ (by first | omega | (simp; omega) | simp)))
  clear hV kw2_0_2 kw2_0_3 hsw2_0 hBw2 hvw2
  have hvV := hBV.size
  have HS := SW.start V; have hB3 := Below.refl V.heap.size V; have hc := True.intro
  clear HS hB3 hc
  go_wp2_with fail
  refine (pte_Get.calls _ 0 0 400 _ hy.out).mono ?_; rintro e w3 ⟨rfl, hbw3⟩
  have hzw3 := hbw3.size; (try simp at hzw3)
  have kw3_0_2 : w3.cell? ⟨w1.heap.size, 2, none⟩ = some (.int .i64 (-(1 + d))) := (hbw3.cell (p := ⟨w1.heap.size, 2, none⟩) (by first | omega | (simp; omega) | simp)).trans (by first | (go_simp; done) | ((repeat rw [cell_al (by first | omega | (simp; omega) | simp)]); first | assumption | (go_simp; done)))
  have kw3_0_3 : w3.cell? ⟨w1.heap.size, 3, none⟩ = some (.int .i64 (0)) := (hbw3.cell (p := ⟨w1.heap.size, 3, none⟩) (by first | omega | (simp; omega) | simp)).trans (by first | (go_simp; done) | ((repeat rw [cell_al (by first | omega | (simp; omega) | simp)]); first | assumption | (go_simp; done)))
  have hsw3_0 : w1.heap.size < w3.heap.size := (by omega)
  have hBw3 : Below w.heap.size w w3 := by
    refine bthen hbw3 ?_ (by first | omega | (simp; omega) | simp)
    repeat (first | exact Below.refl _ _ | (with_reducible assumption) | (refine Below.drew ?_) | (refine Below.setCell ?_ (by first | omega | (simp; omega) | simp) _) | (refine Below.alloc ?_ (by first | omega | (simp; omega) | simp) _) | (refine bthen (by assumption) ?_ (by first | omega | (simp; omega) | simp)))
  have hvw3 := hBw3.size
  clear kV_0_2 kV_0_3 zV_0
  clear hbw3
  go_wp2_with fail
  refine (pte_Get.calls _ 0 0 0 _ (by decide +kernel)).mono ?_; rintro e w4 ⟨rfl, hbw4⟩
  have hzw4 := hbw4.size; (try simp at hzw4)
  have kw4_0_2 : w4.cell? ⟨w1.heap.size, 2, none⟩ = some (.int .i64 (-(1 + d))) := (hbw4.cell (p := ⟨w1.heap.size, 2, none⟩) (by first | omega | (simp; omega) | simp)).trans (by first | (go_simp; done) | ((repeat rw [cell_al (by first | omega | (simp; omega) | simp)]); first | assumption | (go_simp; done)))
  have kw4_0_3 : w4.cell? ⟨w1.heap.size, 3, none⟩ = some (.int .i64 (0)) := (hbw4.cell (p := ⟨w1.heap.size, 3, none⟩) (by first | omega | (simp; omega) | simp)).trans (by first | (go_simp; done) | ((repeat rw [cell_al (by first | omega | (simp; omega) | simp)]); first | assumption | (go_simp; done)))
  have hsw4_0 : w1.heap.size < w4.heap.size := (by omega)
  have kw4_1_0 : w4.cell? ⟨w3.heap.size, 0, none⟩ = some (.int .i64 0) := (hbw4.cell (p := ⟨w3.heap.size, 0, none⟩) (by first | omega | (simp; omega) | simp)).trans (by first | (go_simp; done) | ((repeat rw [cell_al (by first | omega | (simp; omega) | simp)]); first | assumption | (go_simp; done)))
  have kw4_1_1 : w4.cell? ⟨w3.heap.size, 1, none⟩ = some (.int .i64 0) := (hbw4.cell (p := ⟨w3.heap.size, 1, none⟩) (by first | omega | (simp; omega) | simp)).trans (by first | (go_simp; done) | ((repeat rw [cell_al (by first | omega | (simp; omega) | simp)]); first | assumption | (go_simp; done)))
  have hsw4_1 : w3.heap.size < w4.heap.size := (by omega)
  have hBw4 : Below w.heap.size w w4 := by
    refine bthen hbw4 ?_ (by first | omega | (simp; omega) | simp)
    repeat (first | exact Below.refl _ _ | (with_reducible assumption) | (refine Below.drew ?_) | (refine Below.setCell ?_ (by first | omega | (simp; omega) | simp) _) | (refine Below.alloc ?_ (by first | omega | (simp; omega) | simp) _) | (refine bthen (by assumption) ?_ (by first | omega | (simp; omega) | simp)))
  have hvw4 := hBw4.size
  clear kw3_0_2 kw3_0_3 hsw3_0 hBw3 hvw3 hzw3
  clear hbw4
  go_wp2_with fail
  refine name_calls fun W hW => ?_
  have kW_0_2 : W.cell? ⟨w1.heap.size, 2, none⟩ = some (.int .i64 (-(1 + d))) := by rw [hW]; exact (by first | (go_simp; done) | ((repeat rw [cell_al (by first | omega | (simp; omega) | simp)]); first | assumption | (go_simp; done)))
  have kW_0_3 : W.cell? ⟨w1.heap.size, 3, none⟩ = some (.int .i64 (0)) := by rw [hW]; exact (by first | (go_simp; done) | ((repeat rw [cell_al (by first | omega | (simp; omega) | simp)]); first | assumption | (go_simp; done)))
  have zW_0 : w1.heap.size < W.heap.size := by rw [hW]; first | omega | (simp; omega) | simp
  have kW_1_0 : W.cell? ⟨w3.heap.size, 0, none⟩ = some (.int .i64 0) := by rw [hW]; exact (by first | (go_simp; done) | ((repeat rw [cell_al (by first | omega | (simp; omega) | simp)]); first | assumption | (go_simp; done)))
  have kW_1_1 : W.cell? ⟨w3.heap.size, 1, none⟩ = some (.int .i64 0) := by rw [hW]; exact (by first | (go_simp; done) | ((repeat rw [cell_al (by first | omega | (simp; omega) | simp)]); first | assumption | (go_simp; done)))
  have zW_1 : w3.heap.size < W.heap.size := by rw [hW]; first | omega | (simp; omega) | simp
  have kW_2_0 : W.cell? ⟨w4.heap.size, 0, none⟩ = some (.int .i64 0) := by rw [hW]; exact (by first | (go_simp; done) | ((repeat rw [cell_al (by first | omega | (simp; omega) | simp)]); first | assumption | (go_simp; done)))
  have kW_2_1 : W.cell? ⟨w4.heap.size, 1, none⟩ = some (.int .i64 0) := by rw [hW]; exact (by first | (go_simp; done) | ((repeat rw [cell_al (by first | omega | (simp; omega) | simp)]); first | assumption | (go_simp; done)))
  have zW_2 : w4.heap.size < W.heap.size := by rw [hW]; first | omega | (simp; omega) | simp
  have hBW : Below w.heap.size w W := by
    rw [hW]
    repeat (first | exact Below.refl _ _ | assumption | (refine Below.drew ?_) | (refine Below.setCell ?_ (by first | omega | (simp; omega) | simp) _) | (refine Below.alloc ?_ (by first | omega | (simp; omega) | simp) _) | (refine bthen (by assumption) ?_ (by first | omega | (simp; omega) | simp)))
  clear hW kw4_0_2 kw4_0_3 hsw4_0 kw4_1_0 kw4_1_1 hsw4_1 hBw4 hvw4
  have hvW := hBW.size
  have HS := SW.start W; have hB3 := Below.refl W.heap.size W; have hc := True.intro
  go_wp2_with (first
    | (go_at_call 12; refine (num_any _ _).mono ?_; rintro e w3 ⟨rfl, rfl⟩)
    | (go_at_call 13; refine (pte_May.calls _ _ false _ m1.out).mono ?_; rintro e w3 ⟨rfl, hb⟩; have hS' := HS.keep hb; clear hb HS hc hB3; have HS := hS'; clear hS'; have hc := HS.cells; have hB3 := HS.below))
  try go_wp2
  go_returns
  exact ⟨rfl, bthen hB3 hBW hBW.size⟩
set_option maxHeartbeats 4000000 in
theorem walk2 (which x d : Int) (j : Nat) (w : World) (hx : bits .and .i64 x 1023 = d) (h0 : 0 ≤ d) (h1 : d ≤ 1023) (hi : (IntKind.u64.wrap which).tmod 6 = 2) (hj : (IntKind.u64.wrap which).tmod 11 = (j : Int)) (hj1 : j < 11) :
    Calls Try.prog 5 #[.int .i64 which, .int .i64 x] w fun e w' => e = .returned (.bool true) ∧ Below w.heap.size w w' := by
  have m1 := Lib.hid (may_bad (0) (3 + (1 + d)) (by omega))
  go_enter Try.func5, Try.ntmps5
  go_wp2_with fail
  refine (awake_any _).mono ?_; rintro e w1 ⟨rfl, hbw1⟩
  have hzw1 := hbw1.size; (try simp at hzw1)
  have hBw1 : Below w.heap.size w w1 := by
    refine bthen hbw1 ?_ (by first | omega | (simp; omega) | simp)
    repeat (first | exact Below.refl _ _ | (with_reducible assumption) | (refine Below.drew ?_) | (refine Below.setCell ?_ (by first | omega | (simp; omega) | simp) _) | (refine Below.alloc ?_ (by first | omega | (simp; omega) | simp) _) | (refine bthen (by assumption) ?_ (by first | omega | (simp; omega) | simp)))
  have hvw1 := hBw1.size
  clear hbw1
  go_wp2_with fail
  refine (pte_Put.calls _ _ 0 400 _ (put_bad m1.out)).mono ?_; rintro e w2 ⟨rfl, hbw2⟩
  have hzw2 := hbw2.size; (try simp at hzw2)
  have kw2_0_4 : w2.cell? ⟨w1.heap.size, 4, none⟩ = some (.int .i64 (0)) := (hbw2.cell (p := ⟨w1.heap.size, 4, none⟩) (by first | omega | (simp; omega) | simp)).trans (by first | (go_simp; done) | ((repeat rw [cell_al (by first | omega | (simp; omega) | simp)]); first | assumption | (go_simp; done)))
  have kw2_0_5 : w2.cell? ⟨w1.heap.size, 5, none⟩ = some (.int .i64 (3 + (1 + d))) := (hbw2.cell (p := ⟨w1.heap.size, 5, none⟩) (by first | omega | (simp; omega) | simp)).trans (by first | (go_simp; done) | ((repeat rw [cell_al (by first | omega | (simp; omega) | simp)]); first | assumption | (go_simp; done)))
  have hsw2_0 : w1.heap.size < w2.heap.size := (by omega)
  have hBw2 : Below w.heap.size w w2 := by
    refine bthen hbw2 ?_ (by first | omega | (simp; omega) | simp)
    repeat (first | exact Below.refl _ _ | (with_reducible assumption) | (refine Below.drew ?_) | (refine Below.setCell ?_ (by first | omega | (simp; omega) | simp) _) | (refine Below.alloc ?_ (by first | omega | (simp; omega) | simp) _) | (refine bthen (by assumption) ?_ (by first | omega | (simp; omega) | simp)))
  have hvw2 := hBw2.size
  clear hBw1 hvw1 hzw1
  clear hbw2
  go_upto_region 9 with (fail)
  refine name_world fun V hV => ?_
  obtain ⟨y, hy, ky⟩ : ∃ y, Hid (pte_Get.f y = some (0, 0, 400)) ∧ V.cell? ⟨w2.heap.size, j, none⟩ = some (.int .i64 y) := by
    rw [hV]
    have hc : j = 0 ∨ j = 1 ∨ j = 2 ∨ j = 3 ∨ j = 4 ∨ j = 5 ∨ j = 6 ∨ j = 7 ∨ j = 8 ∨ j = 9 ∨ j = 10 := by omega
    rcases hc with rfl | rfl | rfl | rfl | rfl | rfl | rfl | rfl | rfl | rfl | rfl
    · exact ⟨1, Lib.hid (by decide +kernel), by go_simp⟩
    · exact ⟨2, Lib.hid (by decide +kernel), by go_simp⟩
    · exact ⟨4, Lib.hid (by decide +kernel), by go_simp⟩
    · exact ⟨6, Lib.hid (by decide +kernel), by go_simp⟩
    · exact ⟨9, Lib.hid (by decide +kernel), by go_simp⟩
    · exact ⟨4096, Lib.hid (by decide +kernel), by go_simp⟩
    · exact ⟨11, Lib.hid (by decide +kernel), by go_simp⟩
    · exact ⟨262147, Lib.hid (by decide +kernel), by go_simp⟩
    · exact ⟨-3, Lib.hid (by decide +kernel), by go_simp⟩
    · exact ⟨4294967299, Lib.hid (by decide +kernel), by go_simp⟩
    · exact ⟨2051, Lib.hid (by decide +kernel), by go_simp⟩
  have kV_0_4 : V.cell? ⟨w1.heap.size, 4, none⟩ = some (.int .i64 (0)) := by rw [hV]; exact (by first | (go_simp; done) | ((repeat rw [cell_al (by first | omega | (simp; omega) | simp)]); first | assumption | (go_simp; done)))
  have kV_0_5 : V.cell? ⟨w1.heap.size, 5, none⟩ = some (.int .i64 (3 + (1 + d))) := by rw [hV]; exact (by first | (go_simp; done) | ((repeat rw [cell_al (by first | omega | (simp; omega) | simp)]); first | assumption | (go_simp; done)))
  have zV_0 : w1.heap.size < V.heap.size := by rw [hV]; first | omega | (simp; omega) | simp
  have hBV : Below w.heap.size w V := by
    rw [hV]
    repeat (first | exact Below.refl _ _ | assumption | (refine Below.drew ?_) | (refine Below.setCell ?_ (by first | omega | (simp; omega) | simp) _) | (refine Below.alloc ?_ (by first | omega | (simp; omega) | simp) _) | (refine bthen (by assumption) ?_ (by first | omega | (simp; omega) | simp)))
  clear hV kw2_0_4 kw2_0_5 hsw2_0 hBw2 hvw2
  have hvV := hBV.size
  have HS := SW.start V; have hB3 := Below.refl V.heap.size V; have hc := True.intro
  clear HS hB3 hc
  go_wp2_with fail
  refine (pte_Get.calls _ 0 0 400 _ hy.out).mono ?_; rintro e w3 ⟨rfl, hbw3⟩
  have hzw3 := hbw3.size; (try simp at hzw3)
  have kw3_0_4 : w3.cell? ⟨w1.heap.size, 4, none⟩ = some (.int .i64 (0)) := (hbw3.cell (p := ⟨w1.heap.size, 4, none⟩) (by first | omega | (simp; omega) | simp)).trans (by first | (go_simp; done) | ((repeat rw [cell_al (by first | omega | (simp; omega) | simp)]); first | assumption | (go_simp; done)))
  have kw3_0_5 : w3.cell? ⟨w1.heap.size, 5, none⟩ = some (.int .i64 (3 + (1 + d))) := (hbw3.cell (p := ⟨w1.heap.size, 5, none⟩) (by first | omega | (simp; omega) | simp)).trans (by first | (go_simp; done) | ((repeat rw [cell_al (by first | omega | (simp; omega) | simp)]); first | assumption | (go_simp; done)))
  have hsw3_0 : w1.heap.size < w3.heap.size := (by omega)
  have hBw3 : Below w.heap.size w w3 := by
    refine bthen hbw3 ?_ (by first | omega | (simp; omega) | simp)
    repeat (first | exact Below.refl _ _ | (with_reducible assumption) | (refine Below.drew ?_) | (refine Below.setCell ?_ (by first | omega | (simp; omega) | simp) _) | (refine Below.alloc ?_ (by first | omega | (simp; omega) | simp) _) | (refine bthen (by assumption) ?_ (by first | omega | (simp; omega) | simp)))
  have hvw3 := hBw3.size
  clear kV_0_4 kV_0_5 zV_0
  clear hbw3
  go_wp2_with fail
  refine (pte_Get.calls _ 0 0 0 _ (by decide +kernel)).mono ?_; rintro e w4 ⟨rfl, hbw4⟩
  have hzw4 := hbw4.size; (try simp at hzw4)
  have kw4_0_4 : w4.cell? ⟨w1.heap.size, 4, none⟩ = some (.int .i64 (0)) := (hbw4.cell (p := ⟨w1.heap.size, 4, none⟩) (by first | omega | (simp; omega) | simp)).trans (by first | (go_simp; done) | ((repeat rw [cell_al (by first | omega | (simp; omega) | simp)]); first | assumption | (go_simp; done)))
  have kw4_0_5 : w4.cell? ⟨w1.heap.size, 5, none⟩ = some (.int .i64 (3 + (1 + d))) := (hbw4.cell (p := ⟨w1.heap.size, 5, none⟩) (by first | omega | (simp; omega) | simp)).trans (by first | (go_simp; done) | ((repeat rw [cell_al (by first | omega | (simp; omega) | simp)]); first | assumption | (go_simp; done)))
  have hsw4_0 : w1.heap.size < w4.heap.size := (by omega)
  have kw4_1_0 : w4.cell? ⟨w3.heap.size, 0, none⟩ = some (.int .i64 0) := (hbw4.cell (p := ⟨w3.heap.size, 0, none⟩) (by first | omega | (simp; omega) | simp)).trans (by first | (go_simp; done) | ((repeat rw [cell_al (by first | omega | (simp; omega) | simp)]); first | assumption | (go_simp; done)))
  have kw4_1_1 : w4.cell? ⟨w3.heap.size, 1, none⟩ = some (.int .i64 0) := (hbw4.cell (p := ⟨w3.heap.size, 1, none⟩) (by first | omega | (simp; omega) | simp)).trans (by first | (go_simp; done) | ((repeat rw [cell_al (by first | omega | (simp; omega) | simp)]); first | assumption | (go_simp; done)))
  have hsw4_1 : w3.heap.size < w4.heap.size := (by omega)
  have hBw4 : Below w.heap.size w w4 := by
    refine bthen hbw4 ?_ (by first | omega | (simp; omega) | simp)
    repeat (first | exact Below.refl _ _ | (with_reducible assumption) | (refine Below.drew ?_) | (refine Below.setCell ?_ (by first | omega | (simp; omega) | simp) _) | (refine Below.alloc ?_ (by first | omega | (simp; omega) | simp) _) | (refine bthen (by assumption) ?_ (by first | omega | (simp; omega) | simp)))
  have hvw4 := hBw4.size
  clear kw3_0_4 kw3_0_5 hsw3_0 hBw3 hvw3 hzw3
  clear hbw4
  go_wp2_with fail
  refine name_calls fun W hW => ?_
  have kW_0_4 : W.cell? ⟨w1.heap.size, 4, none⟩ = some (.int .i64 (0)) := by rw [hW]; exact (by first | (go_simp; done) | ((repeat rw [cell_al (by first | omega | (simp; omega) | simp)]); first | assumption | (go_simp; done)))
  have kW_0_5 : W.cell? ⟨w1.heap.size, 5, none⟩ = some (.int .i64 (3 + (1 + d))) := by rw [hW]; exact (by first | (go_simp; done) | ((repeat rw [cell_al (by first | omega | (simp; omega) | simp)]); first | assumption | (go_simp; done)))
  have zW_0 : w1.heap.size < W.heap.size := by rw [hW]; first | omega | (simp; omega) | simp
  have kW_1_0 : W.cell? ⟨w3.heap.size, 0, none⟩ = some (.int .i64 0) := by rw [hW]; exact (by first | (go_simp; done) | ((repeat rw [cell_al (by first | omega | (simp; omega) | simp)]); first | assumption | (go_simp; done)))
  have kW_1_1 : W.cell? ⟨w3.heap.size, 1, none⟩ = some (.int .i64 0) := by rw [hW]; exact (by first | (go_simp; done) | ((repeat rw [cell_al (by first | omega | (simp; omega) | simp)]); first | assumption | (go_simp; done)))
  have zW_1 : w3.heap.size < W.heap.size := by rw [hW]; first | omega | (simp; omega) | simp
  have kW_2_0 : W.cell? ⟨w4.heap.size, 0, none⟩ = some (.int .i64 0) := by rw [hW]; exact (by first | (go_simp; done) | ((repeat rw [cell_al (by first | omega | (simp; omega) | simp)]); first | assumption | (go_simp; done)))
  have kW_2_1 : W.cell? ⟨w4.heap.size, 1, none⟩ = some (.int .i64 0) := by rw [hW]; exact (by first | (go_simp; done) | ((repeat rw [cell_al (by first | omega | (simp; omega) | simp)]); first | assumption | (go_simp; done)))
  have zW_2 : w4.heap.size < W.heap.size := by rw [hW]; first | omega | (simp; omega) | simp
  have hBW : Below w.heap.size w W := by
    rw [hW]
    repeat (first | exact Below.refl _ _ | assumption | (refine Below.drew ?_) | (refine Below.setCell ?_ (by first | omega | (simp; omega) | simp) _) | (refine Below.alloc ?_ (by first | omega | (simp; omega) | simp) _) | (refine bthen (by assumption) ?_ (by first | omega | (simp; omega) | simp)))
  clear hW kw4_0_4 kw4_0_5 hsw4_0 kw4_1_0 kw4_1_1 hsw4_1 hBw4 hvw4
  have hvW := hBW.size
  have HS := SW.start W; have hB3 := Below.refl W.heap.size W; have hc := True.intro
  go_wp2_with (first
    | (go_at_call 12; refine (num_any _ _).mono ?_; rintro e w3 ⟨rfl, rfl⟩)
    | (go_at_call 13; refine (pte_May.calls _ _ false _ m1.out).mono ?_; rintro e w3 ⟨rfl, hb⟩; have hS' := HS.keep hb; clear hb HS hc hB3; have HS := hS'; clear hS'; have hc := HS.cells; have hB3 := HS.below))
  try go_wp2
  go_returns
  exact ⟨rfl, bthen hB3 hBW hBW.size⟩
set_option maxHeartbeats 4000000 in
theorem walk3 (which x d : Int) (j : Nat) (w : World) (hx : bits .and .i64 x 1023 = d) (h0 : 0 ≤ d) (h1 : d ≤ 1023) (hi : (IntKind.u64.wrap which).tmod 6 = 3) (hj : (IntKind.u64.wrap which).tmod 11 = (j : Int)) (hj1 : j < 11) :
    Calls Try.prog 5 #[.int .i64 which, .int .i64 x] w fun e w' => e = .returned (.bool true) ∧ Below w.heap.size w w' := by
  have m1 := Lib.hid (may_bad (0) (-(1 + d)) (by omega))
  go_enter Try.func5, Try.ntmps5
  go_wp2_with fail
  refine (awake_any _).mono ?_; rintro e w1 ⟨rfl, hbw1⟩
  have hzw1 := hbw1.size; (try simp at hzw1)
  have hBw1 : Below w.heap.size w w1 := by
    refine bthen hbw1 ?_ (by first | omega | (simp; omega) | simp)
    repeat (first | exact Below.refl _ _ | (with_reducible assumption) | (refine Below.drew ?_) | (refine Below.setCell ?_ (by first | omega | (simp; omega) | simp) _) | (refine Below.alloc ?_ (by first | omega | (simp; omega) | simp) _) | (refine bthen (by assumption) ?_ (by first | omega | (simp; omega) | simp)))
  have hvw1 := hBw1.size
  clear hbw1
  go_wp2_with fail
  refine (pte_Put.calls _ _ 0 400 _ (put_bad m1.out)).mono ?_; rintro e w2 ⟨rfl, hbw2⟩
  have hzw2 := hbw2.size; (try simp at hzw2)
  have kw2_0_6 : w2.cell? ⟨w1.heap.size, 6, none⟩ = some (.int .i64 (0)) := (hbw2.cell (p := ⟨w1.heap.size, 6, none⟩) (by first | omega | (simp; omega) | simp)).trans (by first | (go_simp; done) | ((repeat rw [cell_al (by first | omega | (simp; omega) | simp)]); first | assumption | (go_simp; done)))
  have kw2_0_7 : w2.cell? ⟨w1.heap.size, 7, none⟩ = some (.int .i64 (-(1 + d))) := (hbw2.cell (p := ⟨w1.heap.size, 7, none⟩) (by first | omega | (simp; omega) | simp)).trans (by first | (go_simp; done) | ((repeat rw [cell_al (by first | omega | (simp; omega) | simp)]); first | assumption | (go_simp; done)))
  have hsw2_0 : w1.heap.size < w2.heap.size := (by omega)
  have hBw2 : Below w.heap.size w w2 := by
    refine bthen hbw2 ?_ (by first | omega | (simp; omega) | simp)
    repeat (first | exact Below.refl _ _ | (with_reducible assumption) | (refine Below.drew ?_) | (refine Below.setCell ?_ (by first | omega | (simp; omega) | simp) _) | (refine Below.alloc ?_ (by first | omega | (simp; omega) | simp) _) | (refine bthen (by assumption) ?_ (by first | omega | (simp; omega) | simp)))
  have hvw2 := hBw2.size
  clear hBw1 hvw1 hzw1
  clear hbw2
  go_upto_region 9 with (fail)
  refine name_world fun V hV => ?_
  obtain ⟨y, hy, ky⟩ : ∃ y, Hid (pte_Get.f y = some (0, 0, 400)) ∧ V.cell? ⟨w2.heap.size, j, none⟩ = some (.int .i64 y) := by
    rw [hV]
    have hc : j = 0 ∨ j = 1 ∨ j = 2 ∨ j = 3 ∨ j = 4 ∨ j = 5 ∨ j = 6 ∨ j = 7 ∨ j = 8 ∨ j = 9 ∨ j = 10 := by omega
    rcases hc with rfl | rfl | rfl | rfl | rfl | rfl | rfl | rfl | rfl | rfl | rfl
    · exact ⟨1, Lib.hid (by decide +kernel), by go_simp⟩
    · exact ⟨2, Lib.hid (by decide +kernel), by go_simp⟩
    · exact ⟨4, Lib.hid (by decide +kernel), by go_simp⟩
    · exact ⟨6, Lib.hid (by decide +kernel), by go_simp⟩
    · exact ⟨9, Lib.hid (by decide +kernel), by go_simp⟩
    · exact ⟨4096, Lib.hid (by decide +kernel), by go_simp⟩
    · exact ⟨11, Lib.hid (by decide +kernel), by go_simp⟩
    · exact ⟨262147, Lib.hid (by decide +kernel), by go_simp⟩
    · exact ⟨-3, Lib.hid (by decide +kernel), by go_simp⟩
    · exact ⟨4294967299, Lib.hid (by decide +kernel), by go_simp⟩
    · exact ⟨2051, Lib.hid (by decide +kernel), by go_simp⟩
  have kV_0_6 : V.cell? ⟨w1.heap.size, 6, none⟩ = some (.int .i64 (0)) := by rw [hV]; exact (by first | (go_simp; done) | ((repeat rw [cell_al (by first | omega | (simp; omega) | simp)]); first | assumption | (go_simp; done)))
  have kV_0_7 : V.cell? ⟨w1.heap.size, 7, none⟩ = some (.int .i64 (-(1 + d))) := by rw [hV]; exact (by first | (go_simp; done) | ((repeat rw [cell_al (by first | omega | (simp; omega) | simp)]); first | assumption | (go_simp; done)))
  have zV_0 : w1.heap.size < V.heap.size := by rw [hV]; first | omega | (simp; omega) | simp
  have hBV : Below w.heap.size w V := by
    rw [hV]
    repeat (first | exact Below.refl _ _ | assumption | (refine Below.drew ?_) | (refine Below.setCell ?_ (by first | omega | (simp; omega) | simp) _) | (refine Below.alloc ?_ (by first | omega | (simp; omega) | simp) _) | (refine bthen (by assumption) ?_ (by first | omega | (simp; omega) | simp)))
  clear hV kw2_0_6 kw2_0_7 hsw2_0 hBw2 hvw2
  have hvV := hBV.size
  have HS := SW.start V; have hB3 := Below.refl V.heap.size V; have hc := True.intro
  clear HS hB3 hc
  go_wp2_with fail
  refine (pte_Get.calls _ 0 0 400 _ hy.out).mono ?_; rintro e w3 ⟨rfl, hbw3⟩
  have hzw3 := hbw3.size; (try simp at hzw3)
  have kw3_0_6 : w3.cell? ⟨w1.heap.size, 6, none⟩ = some (.int .i64 (0)) := (hbw3.cell (p := ⟨w1.heap.size, 6, none⟩) (by first | omega | (simp; omega) | simp)).trans (by first | (go_simp; done) | ((repeat rw [cell_al (by first | omega | (simp; omega) | simp)]); first | assumption | (go_simp; done)))
  have kw3_0_7 : w3.cell? ⟨w1.heap.size, 7, none⟩ = some (.int .i64 (-(1 + d))) := (hbw3.cell (p := ⟨w1.heap.size, 7, none⟩) (by first | omega | (simp; omega) | simp)).trans (by first | (go_simp; done) | ((repeat rw [cell_al (by first | omega | (simp; omega) | simp)]); first | assumption | (go_simp; done)))
  have hsw3_0 : w1.heap.size < w3.heap.size := (by omega)
  have hBw3 : Below w.heap.size w w3 := by
    refine bthen hbw3 ?_ (by first | omega | (simp; omega) | simp)
    repeat (first | exact Below.refl _ _ | (with_reducible assumption) | (refine Below.drew ?_) | (refine Below.setCell ?_ (by first | omega | (simp; omega) | simp) _) | (refine Below.alloc ?_ (by first | omega | (simp; omega) | simp) _) | (refine bthen (by assumption) ?_ (by first | omega | (simp; omega) | simp)))
  have hvw3 := hBw3.size
  clear kV_0_6 kV_0_7 zV_0
  clear hbw3
  go_wp2_with fail
  refine (pte_Get.calls _ 0 0 0 _ (by decide +kernel)).mono ?_; rintro e w4 ⟨rfl, hbw4⟩
  have hzw4 := hbw4.size; (try simp at hzw4)
  have kw4_0_6 : w4.cell? ⟨w1.heap.size, 6, none⟩ = some (.int .i64 (0)) := (hbw4.cell (p := ⟨w1.heap.size, 6, none⟩) (by first | omega | (simp; omega) | simp)).trans (by first | (go_simp; done) | ((repeat rw [cell_al (by first | omega | (simp; omega) | simp)]); first | assumption | (go_simp; done)))
  have kw4_0_7 : w4.cell? ⟨w1.heap.size, 7, none⟩ = some (.int .i64 (-(1 + d))) := (hbw4.cell (p := ⟨w1.heap.size, 7, none⟩) (by first | omega | (simp; omega) | simp)).trans (by first | (go_simp; done) | ((repeat rw [cell_al (by first | omega | (simp; omega) | simp)]); first | assumption | (go_simp; done)))
  have hsw4_0 : w1.heap.size < w4.heap.size := (by omega)
  have kw4_1_0 : w4.cell? ⟨w3.heap.size, 0, none⟩ = some (.int .i64 0) := (hbw4.cell (p := ⟨w3.heap.size, 0, none⟩) (by first | omega | (simp; omega) | simp)).trans (by first | (go_simp; done) | ((repeat rw [cell_al (by first | omega | (simp; omega) | simp)]); first | assumption | (go_simp; done)))
  have kw4_1_1 : w4.cell? ⟨w3.heap.size, 1, none⟩ = some (.int .i64 0) := (hbw4.cell (p := ⟨w3.heap.size, 1, none⟩) (by first | omega | (simp; omega) | simp)).trans (by first | (go_simp; done) | ((repeat rw [cell_al (by first | omega | (simp; omega) | simp)]); first | assumption | (go_simp; done)))
  have hsw4_1 : w3.heap.size < w4.heap.size := (by omega)
  have hBw4 : Below w.heap.size w w4 := by
    refine bthen hbw4 ?_ (by first | omega | (simp; omega) | simp)
    repeat (first | exact Below.refl _ _ | (with_reducible assumption) | (refine Below.drew ?_) | (refine Below.setCell ?_ (by first | omega | (simp; omega) | simp) _) | (refine Below.alloc ?_ (by first | omega | (simp; omega) | simp) _) | (refine bthen (by assumption) ?_ (by first | omega | (simp; omega) | simp)))
  have hvw4 := hBw4.size
  clear kw3_0_6 kw3_0_7 hsw3_0 hBw3 hvw3 hzw3
  clear hbw4
  go_wp2_with fail
  refine name_calls fun W hW => ?_
  have kW_0_6 : W.cell? ⟨w1.heap.size, 6, none⟩ = some (.int .i64 (0)) := by rw [hW]; exact (by first | (go_simp; done) | ((repeat rw [cell_al (by first | omega | (simp; omega) | simp)]); first | assumption | (go_simp; done)))
  have kW_0_7 : W.cell? ⟨w1.heap.size, 7, none⟩ = some (.int .i64 (-(1 + d))) := by rw [hW]; exact (by first | (go_simp; done) | ((repeat rw [cell_al (by first | omega | (simp; omega) | simp)]); first | assumption | (go_simp; done)))
  have zW_0 : w1.heap.size < W.heap.size := by rw [hW]; first | omega | (simp; omega) | simp
  have kW_1_0 : W.cell? ⟨w3.heap.size, 0, none⟩ = some (.int .i64 0) := by rw [hW]; exact (by first | (go_simp; done) | ((repeat rw [cell_al (by first | omega | (simp; omega) | simp)]); first | assumption | (go_simp; done)))
  have kW_1_1 : W.cell? ⟨w3.heap.size, 1, none⟩ = some (.int .i64 0) := by rw [hW]; exact (by first | (go_simp; done) | ((repeat rw [cell_al (by first | omega | (simp; omega) | simp)]); first | assumption | (go_simp; done)))
  have zW_1 : w3.heap.size < W.heap.size := by rw [hW]; first | omega | (simp; omega) | simp
  have kW_2_0 : W.cell? ⟨w4.heap.size, 0, none⟩ = some (.int .i64 0) := by rw [hW]; exact (by first | (go_simp; done) | ((repeat rw [cell_al (by first | omega | (simp; omega) | simp)]); first | assumption | (go_simp; done)))
  have kW_2_1 : W.cell? ⟨w4.heap.size, 1, none⟩ = some (.int .i64 0) := by rw [hW]; exact (by first | (go_simp; done) | ((repeat rw [cell_al (by first | omega | (simp; omega) | simp)]); first | assumption | (go_simp; done)))
  have zW_2 : w4.heap.size < W.heap.size := by rw [hW]; first | omega | (simp; omega) | simp
  have hBW : Below w.heap.size w W := by
    rw [hW]
    repeat (first | exact Below.refl _ _ | assumption | (refine Below.drew ?_) | (refine Below.setCell ?_ (by first | omega | (simp; omega) | simp) _) | (refine Below.alloc ?_ (by first | omega | (simp; omega) | simp) _) | (refine bthen (by assumption) ?_ (by first | omega | (simp; omega) | simp)))
  clear hW kw4_0_6 kw4_0_7 hsw4_0 kw4_1_0 kw4_1_1 hsw4_1 hBw4 hvw4
  have hvW := hBW.size
  have HS := SW.start W; have hB3 := Below.refl W.heap.size W; have hc := True.intro
  go_wp2_with (first
    | (go_at_call 12; refine (num_any _ _).mono ?_; rintro e w3 ⟨rfl, rfl⟩)
    | (go_at_call 13; refine (pte_May.calls _ _ false _ m1.out).mono ?_; rintro e w3 ⟨rfl, hb⟩; have hS' := HS.keep hb; clear hb HS hc hB3; have HS := hS'; clear hS'; have hc := HS.cells; have hB3 := HS.below))
  try go_wp2
  go_returns
  exact ⟨rfl, bthen hB3 hBW hBW.size⟩
set_option maxHeartbeats 4000000 in
theorem walk4 (which x d : Int) (j : Nat) (w : World) (hx : bits .and .i64 x 1023 = d) (h0 : 0 ≤ d) (h1 : d ≤ 1023) (hi : (IntKind.u64.wrap which).tmod 6 = 4) (hj : (IntKind.u64.wrap which).tmod 11 = (j : Int)) (hj1 : j < 11) :
    Calls Try.prog 5 #[.int .i64 which, .int .i64 x] w fun e w' => e = .returned (.bool true) ∧ Below w.heap.size w w' := by
  have m1 := Lib.hid (may_bad (63 + (1 + d)) (1) (by omega))
  go_enter Try.func5, Try.ntmps5
  go_wp2_with fail
  refine (awake_any _).mono ?_; rintro e w1 ⟨rfl, hbw1⟩
  have hzw1 := hbw1.size; (try simp at hzw1)
  have hBw1 : Below w.heap.size w w1 := by
    refine bthen hbw1 ?_ (by first | omega | (simp; omega) | simp)
    repeat (first | exact Below.refl _ _ | (with_reducible assumption) | (refine Below.drew ?_) | (refine Below.setCell ?_ (by first | omega | (simp; omega) | simp) _) | (refine Below.alloc ?_ (by first | omega | (simp; omega) | simp) _) | (refine bthen (by assumption) ?_ (by first | omega | (simp; omega) | simp)))
  have hvw1 := hBw1.size
  clear hbw1
  go_wp2_with fail
  refine (pte_Put.calls _ _ 0 400 _ (put_bad m1.out)).mono ?_; rintro e w2 ⟨rfl, hbw2⟩
  have hzw2 := hbw2.size; (try simp at hzw2)
  have kw2_0_8 : w2.cell? ⟨w1.heap.size, 8, none⟩ = some (.int .i64 (63 + (1 + d))) := (hbw2.cell (p := ⟨w1.heap.size, 8, none⟩) (by first | omega | (simp; omega) | simp)).trans (by first | (go_simp; done) | ((repeat rw [cell_al (by first | omega | (simp; omega) | simp)]); first | assumption | (go_simp; done)))
  have kw2_0_9 : w2.cell? ⟨w1.heap.size, 9, none⟩ = some (.int .i64 (1)) := (hbw2.cell (p := ⟨w1.heap.size, 9, none⟩) (by first | omega | (simp; omega) | simp)).trans (by first | (go_simp; done) | ((repeat rw [cell_al (by first | omega | (simp; omega) | simp)]); first | assumption | (go_simp; done)))
  have hsw2_0 : w1.heap.size < w2.heap.size := (by omega)
  have hBw2 : Below w.heap.size w w2 := by
    refine bthen hbw2 ?_ (by first | omega | (simp; omega) | simp)
    repeat (first | exact Below.refl _ _ | (with_reducible assumption) | (refine Below.drew ?_) | (refine Below.setCell ?_ (by first | omega | (simp; omega) | simp) _) | (refine Below.alloc ?_ (by first | omega | (simp; omega) | simp) _) | (refine bthen (by assumption) ?_ (by first | omega | (simp; omega) | simp)))
  have hvw2 := hBw2.size
  clear hBw1 hvw1 hzw1
  clear hbw2
  go_upto_region 9 with (fail)
  refine name_world fun V hV => ?_
  obtain ⟨y, hy, ky⟩ : ∃ y, Hid (pte_Get.f y = some (0, 0, 400)) ∧ V.cell? ⟨w2.heap.size, j, none⟩ = some (.int .i64 y) := by
    rw [hV]
    have hc : j = 0 ∨ j = 1 ∨ j = 2 ∨ j = 3 ∨ j = 4 ∨ j = 5 ∨ j = 6 ∨ j = 7 ∨ j = 8 ∨ j = 9 ∨ j = 10 := by omega
    rcases hc with rfl | rfl | rfl | rfl | rfl | rfl | rfl | rfl | rfl | rfl | rfl
    · exact ⟨1, Lib.hid (by decide +kernel), by go_simp⟩
    · exact ⟨2, Lib.hid (by decide +kernel), by go_simp⟩
    · exact ⟨4, Lib.hid (by decide +kernel), by go_simp⟩
    · exact ⟨6, Lib.hid (by decide +kernel), by go_simp⟩
    · exact ⟨9, Lib.hid (by decide +kernel), by go_simp⟩
    · exact ⟨4096, Lib.hid (by decide +kernel), by go_simp⟩
    · exact ⟨11, Lib.hid (by decide +kernel), by go_simp⟩
    · exact ⟨262147, Lib.hid (by decide +kernel), by go_simp⟩
    · exact ⟨-3, Lib.hid (by decide +kernel), by go_simp⟩
    · exact ⟨4294967299, Lib.hid (by decide +kernel), by go_simp⟩
    · exact ⟨2051, Lib.hid (by decide +kernel), by go_simp⟩
  have kV_0_8 : V.cell? ⟨w1.heap.size, 8, none⟩ = some (.int .i64 (63 + (1 + d))) := by rw [hV]; exact (by first | (go_simp; done) | ((repeat rw [cell_al (by first | omega | (simp; omega) | simp)]); first | assumption | (go_simp; done)))
  have kV_0_9 : V.cell? ⟨w1.heap.size, 9, none⟩ = some (.int .i64 (1)) := by rw [hV]; exact (by first | (go_simp; done) | ((repeat rw [cell_al (by first | omega | (simp; omega) | simp)]); first | assumption | (go_simp; done)))
  have zV_0 : w1.heap.size < V.heap.size := by rw [hV]; first | omega | (simp; omega) | simp
  have hBV : Below w.heap.size w V := by
    rw [hV]
    repeat (first | exact Below.refl _ _ | assumption | (refine Below.drew ?_) | (refine Below.setCell ?_ (by first | omega | (simp; omega) | simp) _) | (refine Below.alloc ?_ (by first | omega | (simp; omega) | simp) _) | (refine bthen (by assumption) ?_ (by first | omega | (simp; omega) | simp)))
  clear hV kw2_0_8 kw2_0_9 hsw2_0 hBw2 hvw2
  have hvV := hBV.size
  have HS := SW.start V; have hB3 := Below.refl V.heap.size V; have hc := True.intro
  clear HS hB3 hc
  go_wp2_with fail
  refine (pte_Get.calls _ 0 0 400 _ hy.out).mono ?_; rintro e w3 ⟨rfl, hbw3⟩
  have hzw3 := hbw3.size; (try simp at hzw3)
  have kw3_0_8 : w3.cell? ⟨w1.heap.size, 8, none⟩ = some (.int .i64 (63 + (1 + d))) := (hbw3.cell (p := ⟨w1.heap.size, 8, none⟩) (by first | omega | (simp; omega) | simp)).trans (by first | (go_simp; done) | ((repeat rw [cell_al (by first | omega | (simp; omega) | simp)]); first | assumption | (go_simp; done)))
  have kw3_0_9 : w3.cell? ⟨w1.heap.size, 9, none⟩ = some (.int .i64 (1)) := (hbw3.cell (p := ⟨w1.heap.size, 9, none⟩) (by first | omega | (simp; omega) | simp)).trans (by first | (go_simp; done) | ((repeat rw [cell_al (by first | omega | (simp; omega) | simp)]); first | assumption | (go_simp; done)))
  have hsw3_0 : w1.heap.size < w3.heap.size := (by omega)
  have hBw3 : Below w.heap.size w w3 := by
    refine bthen hbw3 ?_ (by first | omega | (simp; omega) | simp)
    repeat (first | exact Below.refl _ _ | (with_reducible assumption) | (refine Below.drew ?_) | (refine Below.setCell ?_ (by first | omega | (simp; omega) | simp) _) | (refine Below.alloc ?_ (by first | omega | (simp; omega) | simp) _) | (refine bthen (by assumption) ?_ (by first | omega | (simp; omega) | simp)))
  have hvw3 := hBw3.size
  clear kV_0_8 kV_0_9 zV_0
  clear hbw3
  go_wp2_with fail
  refine (pte_Get.calls _ 0 0 0 _ (by decide +kernel)).mono ?_; rintro e w4 ⟨rfl, hbw4⟩
  have hzw4 := hbw4.size; (try simp at hzw4)
  have kw4_0_8 : w4.cell? ⟨w1.heap.size, 8, none⟩ = some (.int .i64 (63 + (1 + d))) := (hbw4.cell (p := ⟨w1.heap.size, 8, none⟩) (by first | omega | (simp; omega) | simp)).trans (by first | (go_simp; done) | ((repeat rw [cell_al (by first | omega | (simp; omega) | simp)]); first | assumption | (go_simp; done)))
  have kw4_0_9 : w4.cell? ⟨w1.heap.size, 9, none⟩ = some (.int .i64 (1)) := (hbw4.cell (p := ⟨w1.heap.size, 9, none⟩) (by first | omega | (simp; omega) | simp)).trans (by first | (go_simp; done) | ((repeat rw [cell_al (by first | omega | (simp; omega) | simp)]); first | assumption | (go_simp; done)))
  have hsw4_0 : w1.heap.size < w4.heap.size := (by omega)
  have kw4_1_0 : w4.cell? ⟨w3.heap.size, 0, none⟩ = some (.int .i64 0) := (hbw4.cell (p := ⟨w3.heap.size, 0, none⟩) (by first | omega | (simp; omega) | simp)).trans (by first | (go_simp; done) | ((repeat rw [cell_al (by first | omega | (simp; omega) | simp)]); first | assumption | (go_simp; done)))
  have kw4_1_1 : w4.cell? ⟨w3.heap.size, 1, none⟩ = some (.int .i64 0) := (hbw4.cell (p := ⟨w3.heap.size, 1, none⟩) (by first | omega | (simp; omega) | simp)).trans (by first | (go_simp; done) | ((repeat rw [cell_al (by first | omega | (simp; omega) | simp)]); first | assumption | (go_simp; done)))
  have hsw4_1 : w3.heap.size < w4.heap.size := (by omega)
  have hBw4 : Below w.heap.size w w4 := by
    refine bthen hbw4 ?_ (by first | omega | (simp; omega) | simp)
    repeat (first | exact Below.refl _ _ | (with_reducible assumption) | (refine Below.drew ?_) | (refine Below.setCell ?_ (by first | omega | (simp; omega) | simp) _) | (refine Below.alloc ?_ (by first | omega | (simp; omega) | simp) _) | (refine bthen (by assumption) ?_ (by first | omega | (simp; omega) | simp)))
  have hvw4 := hBw4.size
  clear kw3_0_8 kw3_0_9 hsw3_0 hBw3 hvw3 hzw3
  clear hbw4
  go_wp2_with fail
  refine name_calls fun W hW => ?_
  have kW_0_8 : W.cell? ⟨w1.heap.size, 8, none⟩ = some (.int .i64 (63 + (1 + d))) := by rw [hW]; exact (by first | (go_simp; done) | ((repeat rw [cell_al (by first | omega | (simp; omega) | simp)]); first | assumption | (go_simp; done)))
  have kW_0_9 : W.cell? ⟨w1.heap.size, 9, none⟩ = some (.int .i64 (1)) := by rw [hW]; exact (by first | (go_simp; done) | ((repeat rw [cell_al (by first | omega | (simp; omega) | simp)]); first | assumption | (go_simp; done)))
  have zW_0 : w1.heap.size < W.heap.size := by rw [hW]; first | omega | (simp; omega) | simp
  have kW_1_0 : W.cell? ⟨w3.heap.size, 0, none⟩ = some (.int .i64 0) := by rw [hW]; exact (by first | (go_simp; done) | ((repeat rw [cell_al (by first | omega | (simp; omega) | simp)]); first | assumption | (go_simp; done)))
  have kW_1_1 : W.cell? ⟨w3.heap.size, 1, none⟩ = some (.int .i64 0) := by rw [hW]; exact (by first | (go_simp; done) | ((repeat rw [cell_al (by first | omega | (simp; omega) | simp)]); first | assumption | (go_simp; done)))
  have zW_1 : w3.heap.size < W.heap.size := by rw [hW]; first | omega | (simp; omega) | simp
  have kW_2_0 : W.cell? ⟨w4.heap.size, 0, none⟩ = some (.int .i64 0) := by rw [hW]; exact (by first | (go_simp; done) | ((repeat rw [cell_al (by first | omega | (simp; omega) | simp)]); first | assumption | (go_simp; done)))
  have kW_2_1 : W.cell? ⟨w4.heap.size, 1, none⟩ = some (.int .i64 0) := by rw [hW]; exact (by first | (go_simp; done) | ((repeat rw [cell_al (by first | omega | (simp; omega) | simp)]); first | assumption | (go_simp; done)))
  have zW_2 : w4.heap.size < W.heap.size := by rw [hW]; first | omega | (simp; omega) | simp
  have hBW : Below w.heap.size w W := by
    rw [hW]
    repeat (first | exact Below.refl _ _ | assumption | (refine Below.drew ?_) | (refine Below.setCell ?_ (by first | omega | (simp; omega) | simp) _) | (refine Below.alloc ?_ (by first | omega | (simp; omega) | simp) _) | (refine bthen (by assumption) ?_ (by first | omega | (simp; omega) | simp)))
  clear hW kw4_0_8 kw4_0_9 hsw4_0 kw4_1_0 kw4_1_1 hsw4_1 hBw4 hvw4
  have hvW := hBW.size
  have HS := SW.start W; have hB3 := Below.refl W.heap.size W; have hc := True.intro
  go_wp2_with (first
    | (go_at_call 12; refine (num_any _ _).mono ?_; rintro e w3 ⟨rfl, rfl⟩)
    | (go_at_call 13; refine (pte_May.calls _ _ false _ m1.out).mono ?_; rintro e w3 ⟨rfl, hb⟩; have hS' := HS.keep hb; clear hb HS hc hB3; have HS := hS'; clear hS'; have hc := HS.cells; have hB3 := HS.below))
  try go_wp2
  go_returns
  exact ⟨rfl, bthen hB3 hBW hBW.size⟩
set_option maxHeartbeats 4000000 in
theorem walk5 (which x d : Int) (j : Nat) (w : World) (hx : bits .and .i64 x 1023 = d) (h0 : 0 ≤ d) (h1 : d ≤ 1023) (hi : (IntKind.u64.wrap which).tmod 6 = 5) (hj : (IntKind.u64.wrap which).tmod 11 = (j : Int)) (hj1 : j < 11) :
    Calls Try.prog 5 #[.int .i64 which, .int .i64 x] w fun e w' => e = .returned (.bool true) ∧ Below w.heap.size w w' := by
  have m1 := Lib.hid (may_bad (-(1 + d)) (1) (by omega))
  go_enter Try.func5, Try.ntmps5
  go_wp2_with fail
  refine (awake_any _).mono ?_; rintro e w1 ⟨rfl, hbw1⟩
  have hzw1 := hbw1.size; (try simp at hzw1)
  have hBw1 : Below w.heap.size w w1 := by
    refine bthen hbw1 ?_ (by first | omega | (simp; omega) | simp)
    repeat (first | exact Below.refl _ _ | (with_reducible assumption) | (refine Below.drew ?_) | (refine Below.setCell ?_ (by first | omega | (simp; omega) | simp) _) | (refine Below.alloc ?_ (by first | omega | (simp; omega) | simp) _) | (refine bthen (by assumption) ?_ (by first | omega | (simp; omega) | simp)))
  have hvw1 := hBw1.size
  clear hbw1
  go_wp2_with fail
  refine (pte_Put.calls _ _ 0 400 _ (put_bad m1.out)).mono ?_; rintro e w2 ⟨rfl, hbw2⟩
  have hzw2 := hbw2.size; (try simp at hzw2)
  have kw2_0_10 : w2.cell? ⟨w1.heap.size, 10, none⟩ = some (.int .i64 (-(1 + d))) := (hbw2.cell (p := ⟨w1.heap.size, 10, none⟩) (by first | omega | (simp; omega) | simp)).trans (by first | (go_simp; done) | ((repeat rw [cell_al (by first | omega | (simp; omega) | simp)]); first | assumption | (go_simp; done)))
  have kw2_0_11 : w2.cell? ⟨w1.heap.size, 11, none⟩ = some (.int .i64 (1)) := (hbw2.cell (p := ⟨w1.heap.size, 11, none⟩) (by first | omega | (simp; omega) | simp)).trans (by first | (go_simp; done) | ((repeat rw [cell_al (by first | omega | (simp; omega) | simp)]); first | assumption | (go_simp; done)))
  have hsw2_0 : w1.heap.size < w2.heap.size := (by omega)
  have hBw2 : Below w.heap.size w w2 := by
    refine bthen hbw2 ?_ (by first | omega | (simp; omega) | simp)
    repeat (first | exact Below.refl _ _ | (with_reducible assumption) | (refine Below.drew ?_) | (refine Below.setCell ?_ (by first | omega | (simp; omega) | simp) _) | (refine Below.alloc ?_ (by first | omega | (simp; omega) | simp) _) | (refine bthen (by assumption) ?_ (by first | omega | (simp; omega) | simp)))
  have hvw2 := hBw2.size
  clear hBw1 hvw1 hzw1
  clear hbw2
  go_upto_region 9 with (fail)
  refine name_world fun V hV => ?_
  obtain ⟨y, hy, ky⟩ : ∃ y, Hid (pte_Get.f y = some (0, 0, 400)) ∧ V.cell? ⟨w2.heap.size, j, none⟩ = some (.int .i64 y) := by
    rw [hV]
    have hc : j = 0 ∨ j = 1 ∨ j = 2 ∨ j = 3 ∨ j = 4 ∨ j = 5 ∨ j = 6 ∨ j = 7 ∨ j = 8 ∨ j = 9 ∨ j = 10 := by omega
    rcases hc with rfl | rfl | rfl | rfl | rfl | rfl | rfl | rfl | rfl | rfl | rfl
    · exact ⟨1, Lib.hid (by decide +kernel), by go_simp⟩
    · exact ⟨2, Lib.hid (by decide +kernel), by go_simp⟩
    · exact ⟨4, Lib.hid (by decide +kernel), by go_simp⟩
    · exact ⟨6, Lib.hid (by decide +kernel), by go_simp⟩
    · exact ⟨9, Lib.hid (by decide +kernel), by go_simp⟩
    · exact ⟨4096, Lib.hid (by decide +kernel), by go_simp⟩
    · exact ⟨11, Lib.hid (by decide +kernel), by go_simp⟩
    · exact ⟨262147, Lib.hid (by decide +kernel), by go_simp⟩
    · exact ⟨-3, Lib.hid (by decide +kernel), by go_simp⟩
    · exact ⟨4294967299, Lib.hid (by decide +kernel), by go_simp⟩
    · exact ⟨2051, Lib.hid (by decide +kernel), by go_simp⟩
  have kV_0_10 : V.cell? ⟨w1.heap.size, 10, none⟩ = some (.int .i64 (-(1 + d))) := by rw [hV]; exact (by first | (go_simp; done) | ((repeat rw [cell_al (by first | omega | (simp; omega) | simp)]); first | assumption | (go_simp; done)))
  have kV_0_11 : V.cell? ⟨w1.heap.size, 11, none⟩ = some (.int .i64 (1)) := by rw [hV]; exact (by first | (go_simp; done) | ((repeat rw [cell_al (by first | omega | (simp; omega) | simp)]); first | assumption | (go_simp; done)))
  have zV_0 : w1.heap.size < V.heap.size := by rw [hV]; first | omega | (simp; omega) | simp
  have hBV : Below w.heap.size w V := by
    rw [hV]
    repeat (first | exact Below.refl _ _ | assumption | (refine Below.drew ?_) | (refine Below.setCell ?_ (by first | omega | (simp; omega) | simp) _) | (refine Below.alloc ?_ (by first | omega | (simp; omega) | simp) _) | (refine bthen (by assumption) ?_ (by first | omega | (simp; omega) | simp)))
  clear hV kw2_0_10 kw2_0_11 hsw2_0 hBw2 hvw2
  have hvV := hBV.size
  have HS := SW.start V; have hB3 := Below.refl V.heap.size V; have hc := True.intro
  clear HS hB3 hc
  go_wp2_with fail
  refine (pte_Get.calls _ 0 0 400 _ hy.out).mono ?_; rintro e w3 ⟨rfl, hbw3⟩
  have hzw3 := hbw3.size; (try simp at hzw3)
  have kw3_0_10 : w3.cell? ⟨w1.heap.size, 10, none⟩ = some (.int .i64 (-(1 + d))) := (hbw3.cell (p := ⟨w1.heap.size, 10, none⟩) (by first | omega | (simp; omega) | simp)).trans (by first | (go_simp; done) | ((repeat rw [cell_al (by first | omega | (simp; omega) | simp)]); first | assumption | (go_simp; done)))
  have kw3_0_11 : w3.cell? ⟨w1.heap.size, 11, none⟩ = some (.int .i64 (1)) := (hbw3.cell (p := ⟨w1.heap.size, 11, none⟩) (by first | omega | (simp; omega) | simp)).trans (by first | (go_simp; done) | ((repeat rw [cell_al (by first | omega | (simp; omega) | simp)]); first | assumption | (go_simp; done)))
  have hsw3_0 : w1.heap.size < w3.heap.size := (by omega)
  have hBw3 : Below w.heap.size w w3 := by
    refine bthen hbw3 ?_ (by first | omega | (simp; omega) | simp)
    repeat (first | exact Below.refl _ _ | (with_reducible assumption) | (refine Below.drew ?_) | (refine Below.setCell ?_ (by first | omega | (simp; omega) | simp) _) | (refine Below.alloc ?_ (by first | omega | (simp; omega) | simp) _) | (refine bthen (by assumption) ?_ (by first | omega | (simp; omega) | simp)))
  have hvw3 := hBw3.size
  clear kV_0_10 kV_0_11 zV_0
  clear hbw3
  go_wp2_with fail
  refine (pte_Get.calls _ 0 0 0 _ (by decide +kernel)).mono ?_; rintro e w4 ⟨rfl, hbw4⟩
  have hzw4 := hbw4.size; (try simp at hzw4)
  have kw4_0_10 : w4.cell? ⟨w1.heap.size, 10, none⟩ = some (.int .i64 (-(1 + d))) := (hbw4.cell (p := ⟨w1.heap.size, 10, none⟩) (by first | omega | (simp; omega) | simp)).trans (by first | (go_simp; done) | ((repeat rw [cell_al (by first | omega | (simp; omega) | simp)]); first | assumption | (go_simp; done)))
  have kw4_0_11 : w4.cell? ⟨w1.heap.size, 11, none⟩ = some (.int .i64 (1)) := (hbw4.cell (p := ⟨w1.heap.size, 11, none⟩) (by first | omega | (simp; omega) | simp)).trans (by first | (go_simp; done) | ((repeat rw [cell_al (by first | omega | (simp; omega) | simp)]); first | assumption | (go_simp; done)))
  have hsw4_0 : w1.heap.size < w4.heap.size := (by omega)
  have kw4_1_0 : w4.cell? ⟨w3.heap.size, 0, none⟩ = some (.int .i64 0) := (hbw4.cell (p := ⟨w3.heap.size, 0, none⟩) (by first | omega | (simp; omega) | simp)).trans (by first | (go_simp; done) | ((repeat rw [cell_al (by first | omega | (simp; omega) | simp)]); first | assumption | (go_simp; done)))
  have kw4_1_1 : w4.cell? ⟨w3.heap.size, 1, none⟩ = some (.int .i64 0) := (hbw4.cell (p := ⟨w3.heap.size, 1, none⟩) (by first | omega | (simp; omega) | simp)).trans (by first | (go_simp; done) | ((repeat rw [cell_al (by first | omega | (simp; omega) | simp)]); first | assumption | (go_simp; done)))
  have hsw4_1 : w3.heap.size < w4.heap.size := (by omega)
  have hBw4 : Below w.heap.size w w4 := by
    refine bthen hbw4 ?_ (by first | omega | (simp; omega) | simp)
    repeat (first | exact Below.refl _ _ | (with_reducible assumption) | (refine Below.drew ?_) | (refine Below.setCell ?_ (by first | omega | (simp; omega) | simp) _) | (refine Below.alloc ?_ (by first | omega | (simp; omega) | simp) _) | (refine bthen (by assumption) ?_ (by first | omega | (simp; omega) | simp)))
  have hvw4 := hBw4.size
  clear kw3_0_10 kw3_0_11 hsw3_0 hBw3 hvw3 hzw3
  clear hbw4
  go_wp2_with fail
  refine name_calls fun W hW => ?_
  have kW_0_10 : W.cell? ⟨w1.heap.size, 10, none⟩ = some (.int .i64 (-(1 + d))) := by rw [hW]; exact (by first | (go_simp; done) | ((repeat rw [cell_al (by first | omega | (simp; omega) | simp)]); first | assumption | (go_simp; done)))
  have kW_0_11 : W.cell? ⟨w1.heap.size, 11, none⟩ = some (.int .i64 (1)) := by rw [hW]; exact (by first | (go_simp; done) | ((repeat rw [cell_al (by first | omega | (simp; omega) | simp)]); first | assumption | (go_simp; done)))
  have zW_0 : w1.heap.size < W.heap.size := by rw [hW]; first | omega | (simp; omega) | simp
  have kW_1_0 : W.cell? ⟨w3.heap.size, 0, none⟩ = some (.int .i64 0) := by rw [hW]; exact (by first | (go_simp; done) | ((repeat rw [cell_al (by first | omega | (simp; omega) | simp)]); first | assumption | (go_simp; done)))
  have kW_1_1 : W.cell? ⟨w3.heap.size, 1, none⟩ = some (.int .i64 0) := by rw [hW]; exact (by first | (go_simp; done) | ((repeat rw [cell_al (by first | omega | (simp; omega) | simp)]); first | assumption | (go_simp; done)))
  have zW_1 : w3.heap.size < W.heap.size := by rw [hW]; first | omega | (simp; omega) | simp
  have kW_2_0 : W.cell? ⟨w4.heap.size, 0, none⟩ = some (.int .i64 0) := by rw [hW]; exact (by first | (go_simp; done) | ((repeat rw [cell_al (by first | omega | (simp; omega) | simp)]); first | assumption | (go_simp; done)))
  have kW_2_1 : W.cell? ⟨w4.heap.size, 1, none⟩ = some (.int .i64 0) := by rw [hW]; exact (by first | (go_simp; done) | ((repeat rw [cell_al (by first | omega | (simp; omega) | simp)]); first | assumption | (go_simp; done)))
  have zW_2 : w4.heap.size < W.heap.size := by rw [hW]; first | omega | (simp; omega) | simp
  have hBW : Below w.heap.size w W := by
    rw [hW]
    repeat (first | exact Below.refl _ _ | assumption | (refine Below.drew ?_) | (refine Below.setCell ?_ (by first | omega | (simp; omega) | simp) _) | (refine Below.alloc ?_ (by first | omega | (simp; omega) | simp) _) | (refine bthen (by assumption) ?_ (by first | omega | (simp; omega) | simp)))
  clear hW kw4_0_10 kw4_0_11 hsw4_0 kw4_1_0 kw4_1_1 hsw4_1 hBw4 hvw4
  have hvW := hBW.size
  have HS := SW.start W; have hB3 := Below.refl W.heap.size W; have hc := True.intro
  go_wp2_with (first
    | (go_at_call 12; refine (num_any _ _).mono ?_; rintro e w3 ⟨rfl, rfl⟩)
    | (go_at_call 13; refine (pte_May.calls _ _ false _ m1.out).mono ?_; rintro e w3 ⟨rfl, hb⟩; have hS' := HS.keep hb; clear hb HS hc hB3; have HS := hS'; clear hS'; have hc := HS.cells; have hB3 := HS.below))
  try go_wp2
  go_returns
  exact ⟨rfl, bthen hB3 hBW hBW.size⟩

theorem walk (which x : Int) (w : World) (_ : (Lit.int .i64 which).wf = true) (_ : (Lit.int .i64 x).wf = true) :
    Calls Try.prog 5 #[.int .i64 which, .int .i64 x] w fun e w' => e = .returned (.bool true) ∧ Below w.heap.size w w' := by
  have hu : 0 ≤ IntKind.u64.wrap which := by rw [IntKind.wrap_u64]; omega
  have ht : (IntKind.u64.wrap which).tmod 6 = IntKind.u64.wrap which % 6 := Int.tmod_eq_emod_of_nonneg hu
  have hv : (IntKind.u64.wrap which).tmod 11 = IntKind.u64.wrap which % 11 := Int.tmod_eq_emod_of_nonneg hu
  have hd := mask1023 x
  have h0 : 0 ≤ x % 1024 := by omega
  have h1 : x % 1024 ≤ 1023 := by omega
  obtain ⟨j, hj⟩ := Int.eq_ofNat_of_zero_le (a := (IntKind.u64.wrap which).tmod 11) (by omega)
  have hj1 : j < 11 := by omega
  have c : (IntKind.u64.wrap which).tmod 6 = 0 ∨ (IntKind.u64.wrap which).tmod 6 = 1 ∨ (IntKind.u64.wrap which).tmod 6 = 2 ∨ (IntKind.u64.wrap which).tmod 6 = 3 ∨ (IntKind.u64.wrap which).tmod 6 = 4 ∨ (IntKind.u64.wrap which).tmod 6 = 5 := by omega
  rcases c with c | c | c | c | c | c
  · exact walk0 which x _ j w hd h0 h1 c hj hj1
  · exact walk1 which x _ j w hd h0 h1 c hj hj1
  · exact walk2 which x _ j w hd h0 h1 c hj hj1
  · exact walk3 which x _ j w hd h0 h1 c hj hj1
  · exact walk4 which x _ j w hd h0 h1 c hj hj1
  · exact walk5 which x _ j w hd h0 h1 c hj hj1
end Go.Proofs.Ytoiaffobmccnjaa.entryForms

