/- caissonlaw16.Descs answers true, whatever it is given. No condition. -/
import Derived.Test.YtefcppldkepmhaaDescE
namespace Go.Proofs.Ytefcppldkepmhaa.descs
open Go.RowKit
set_option linter.unusedVariables false
set_option linter.unusedSimpArgs false
set_option maxHeartbeats 8000000 in
theorem walk (a b c d e : Int) (s : ByteArray) (w : World) (ha : (Lit.int .i64 a).wf = true) (hb : (Lit.int .i64 b).wf = true) (hc : (Lit.int .i64 c).wf = true) (hd : (Lit.int .i64 d).wf = true) (he : (Lit.int .i64 e).wf = true) (hs : s.size ≤ maxLen) :
    Calls Try.prog 3 #[.agg #[.int .i64 a, .int .i64 b, .int .i64 c, .int .i64 d, .int .i64 e], .string s] w fun e w' => e = .returned (.bool true) ∧ Below w.heap.size w w' := by
  clear ha hb hc hd he hs
  generalize hg : getN s = g
  obtain ⟨g1, g2, g3, g4, g5, g6⟩ := g
  go_enter Try.func3, Try.ntmps3
  go_wp2_with fail
  refine (put_any _ _ _ _ _ _).mono ?_; rintro e w1 ⟨rfl, hbw1⟩
  have hzw1 := hbw1.size; (try simp at hzw1)
  have kw1_0_0 : w1.cell? ⟨w.heap.size, 0, none⟩ = some (.int .i64 a) := (hbw1.cell (p := ⟨w.heap.size, 0, none⟩) (by first | omega | (simp; omega) | simp)).trans (by first | (go_simp; done) | ((repeat rw [cell_al (by first | omega | (simp; omega) | simp)]); first | assumption | (go_simp; done)))
  have kw1_0_1 : w1.cell? ⟨w.heap.size, 1, none⟩ = some (.int .i64 b) := (hbw1.cell (p := ⟨w.heap.size, 1, none⟩) (by first | omega | (simp; omega) | simp)).trans (by first | (go_simp; done) | ((repeat rw [cell_al (by first | omega | (simp; omega) | simp)]); first | assumption | (go_simp; done)))
  have kw1_0_2 : w1.cell? ⟨w.heap.size, 2, none⟩ = some (.int .i64 c) := (hbw1.cell (p := ⟨w.heap.size, 2, none⟩) (by first | omega | (simp; omega) | simp)).trans (by first | (go_simp; done) | ((repeat rw [cell_al (by first | omega | (simp; omega) | simp)]); first | assumption | (go_simp; done)))
  have kw1_0_3 : w1.cell? ⟨w.heap.size, 3, none⟩ = some (.int .i64 d) := (hbw1.cell (p := ⟨w.heap.size, 3, none⟩) (by first | omega | (simp; omega) | simp)).trans (by first | (go_simp; done) | ((repeat rw [cell_al (by first | omega | (simp; omega) | simp)]); first | assumption | (go_simp; done)))
  have kw1_0_4 : w1.cell? ⟨w.heap.size, 4, none⟩ = some (.int .i64 e) := (hbw1.cell (p := ⟨w.heap.size, 4, none⟩) (by first | omega | (simp; omega) | simp)).trans (by first | (go_simp; done) | ((repeat rw [cell_al (by first | omega | (simp; omega) | simp)]); first | assumption | (go_simp; done)))
  have hsw1_0 : w.heap.size < w1.heap.size := (by omega)
  have hBw1 : Below w.heap.size w w1 := by
    refine bthen hbw1 ?_ (by first | omega | (simp; omega) | simp)
    repeat (first | exact Below.refl _ _ | (with_reducible assumption) | (refine Below.drew ?_) | (refine Below.setCell ?_ (by first | omega | (simp; omega) | simp) _) | (refine Below.alloc ?_ (by first | omega | (simp; omega) | simp) _) | (refine bthen (by assumption) ?_ (by first | omega | (simp; omega) | simp)))
  have hvw1 := hBw1.size
  clear hbw1
  go_wp2_with fail
  refine (rput_any _ _ _ _ _ _).mono ?_; rintro e w2 ⟨rfl, hbw2⟩
  have hzw2 := hbw2.size; (try simp at hzw2)
  have kw2_0_0 : w2.cell? ⟨w.heap.size, 0, none⟩ = some (.int .i64 a) := (hbw2.cell (p := ⟨w.heap.size, 0, none⟩) (by first | omega | (simp; omega) | simp)).trans (by first | (go_simp; done) | ((repeat rw [cell_al (by first | omega | (simp; omega) | simp)]); first | assumption | (go_simp; done)))
  have kw2_0_1 : w2.cell? ⟨w.heap.size, 1, none⟩ = some (.int .i64 b) := (hbw2.cell (p := ⟨w.heap.size, 1, none⟩) (by first | omega | (simp; omega) | simp)).trans (by first | (go_simp; done) | ((repeat rw [cell_al (by first | omega | (simp; omega) | simp)]); first | assumption | (go_simp; done)))
  have kw2_0_2 : w2.cell? ⟨w.heap.size, 2, none⟩ = some (.int .i64 c) := (hbw2.cell (p := ⟨w.heap.size, 2, none⟩) (by first | omega | (simp; omega) | simp)).trans (by first | (go_simp; done) | ((repeat rw [cell_al (by first | omega | (simp; omega) | simp)]); first | assumption | (go_simp; done)))
  have kw2_0_3 : w2.cell? ⟨w.heap.size, 3, none⟩ = some (.int .i64 d) := (hbw2.cell (p := ⟨w.heap.size, 3, none⟩) (by first | omega | (simp; omega) | simp)).trans (by first | (go_simp; done) | ((repeat rw [cell_al (by first | omega | (simp; omega) | simp)]); first | assumption | (go_simp; done)))
  have kw2_0_4 : w2.cell? ⟨w.heap.size, 4, none⟩ = some (.int .i64 e) := (hbw2.cell (p := ⟨w.heap.size, 4, none⟩) (by first | omega | (simp; omega) | simp)).trans (by first | (go_simp; done) | ((repeat rw [cell_al (by first | omega | (simp; omega) | simp)]); first | assumption | (go_simp; done)))
  have hsw2_0 : w.heap.size < w2.heap.size := (by omega)
  have hBw2 : Below w.heap.size w w2 := by
    refine bthen hbw2 ?_ (by first | omega | (simp; omega) | simp)
    repeat (first | exact Below.refl _ _ | (with_reducible assumption) | (refine Below.drew ?_) | (refine Below.setCell ?_ (by first | omega | (simp; omega) | simp) _) | (refine Below.alloc ?_ (by first | omega | (simp; omega) | simp) _) | (refine bthen (by assumption) ?_ (by first | omega | (simp; omega) | simp)))
  have hvw2 := hBw2.size
  clear kw1_0_0 kw1_0_1 kw1_0_2 kw1_0_3 kw1_0_4 hsw1_0 hBw1 hvw1 hzw1
  clear hbw2
  go_wp2_with fail
  refine (get_is _ (.tuple #[.agg #[.int .i64 g1, .int .i64 g2, .int .i64 g3, .int .i64 g4, .int .i64 g5], .int .i64 g6]) _ (by unfold getV; rw [hg])).mono ?_; rintro e w3 ⟨rfl, hbw3⟩
  have hzw3 := hbw3.size; (try simp at hzw3)
  have kw3_0_0 : w3.cell? ⟨w.heap.size, 0, none⟩ = some (.int .i64 a) := (hbw3.cell (p := ⟨w.heap.size, 0, none⟩) (by first | omega | (simp; omega) | simp)).trans (by first | (go_simp; done) | ((repeat rw [cell_al (by first | omega | (simp; omega) | simp)]); first | assumption | (go_simp; done)))
  have kw3_0_1 : w3.cell? ⟨w.heap.size, 1, none⟩ = some (.int .i64 b) := (hbw3.cell (p := ⟨w.heap.size, 1, none⟩) (by first | omega | (simp; omega) | simp)).trans (by first | (go_simp; done) | ((repeat rw [cell_al (by first | omega | (simp; omega) | simp)]); first | assumption | (go_simp; done)))
  have kw3_0_2 : w3.cell? ⟨w.heap.size, 2, none⟩ = some (.int .i64 c) := (hbw3.cell (p := ⟨w.heap.size, 2, none⟩) (by first | omega | (simp; omega) | simp)).trans (by first | (go_simp; done) | ((repeat rw [cell_al (by first | omega | (simp; omega) | simp)]); first | assumption | (go_simp; done)))
  have kw3_0_3 : w3.cell? ⟨w.heap.size, 3, none⟩ = some (.int .i64 d) := (hbw3.cell (p := ⟨w.heap.size, 3, none⟩) (by first | omega | (simp; omega) | simp)).trans (by first | (go_simp; done) | ((repeat rw [cell_al (by first | omega | (simp; omega) | simp)]); first | assumption | (go_simp; done)))
  have kw3_0_4 : w3.cell? ⟨w.heap.size, 4, none⟩ = some (.int .i64 e) := (hbw3.cell (p := ⟨w.heap.size, 4, none⟩) (by first | omega | (simp; omega) | simp)).trans (by first | (go_simp; done) | ((repeat rw [cell_al (by first | omega | (simp; omega) | simp)]); first | assumption | (go_simp; done)))
  have hsw3_0 : w.heap.size < w3.heap.size := (by omega)
  have hBw3 : Below w.heap.size w w3 := by
    refine bthen hbw3 ?_ (by first | omega | (simp; omega) | simp)
    repeat (first | exact Below.refl _ _ | (with_reducible assumption) | (refine Below.drew ?_) | (refine Below.setCell ?_ (by first | omega | (simp; omega) | simp) _) | (refine Below.alloc ?_ (by first | omega | (simp; omega) | simp) _) | (refine bthen (by assumption) ?_ (by first | omega | (simp; omega) | simp)))
  have hvw3 := hBw3.size
  clear kw2_0_0 kw2_0_1 kw2_0_2 kw2_0_3 kw2_0_4 hsw2_0 hBw2 hvw2 hzw2
  clear hbw3
  go_wp2_with fail
  refine (rget_is _ (.tuple #[.agg #[.int .i64 g1, .int .i64 g2, .int .i64 g3, .int .i64 g4, .int .i64 g5], .int .i64 g6]) _ (by unfold getV; rw [hg])).mono ?_; rintro e w4 ⟨rfl, hbw4⟩
  have hzw4 := hbw4.size; (try simp at hzw4)
  have kw4_0_0 : w4.cell? ⟨w.heap.size, 0, none⟩ = some (.int .i64 a) := (hbw4.cell (p := ⟨w.heap.size, 0, none⟩) (by first | omega | (simp; omega) | simp)).trans (by first | (go_simp; done) | ((repeat rw [cell_al (by first | omega | (simp; omega) | simp)]); first | assumption | (go_simp; done)))
  have kw4_0_1 : w4.cell? ⟨w.heap.size, 1, none⟩ = some (.int .i64 b) := (hbw4.cell (p := ⟨w.heap.size, 1, none⟩) (by first | omega | (simp; omega) | simp)).trans (by first | (go_simp; done) | ((repeat rw [cell_al (by first | omega | (simp; omega) | simp)]); first | assumption | (go_simp; done)))
  have kw4_0_2 : w4.cell? ⟨w.heap.size, 2, none⟩ = some (.int .i64 c) := (hbw4.cell (p := ⟨w.heap.size, 2, none⟩) (by first | omega | (simp; omega) | simp)).trans (by first | (go_simp; done) | ((repeat rw [cell_al (by first | omega | (simp; omega) | simp)]); first | assumption | (go_simp; done)))
  have kw4_0_3 : w4.cell? ⟨w.heap.size, 3, none⟩ = some (.int .i64 d) := (hbw4.cell (p := ⟨w.heap.size, 3, none⟩) (by first | omega | (simp; omega) | simp)).trans (by first | (go_simp; done) | ((repeat rw [cell_al (by first | omega | (simp; omega) | simp)]); first | assumption | (go_simp; done)))
  have kw4_0_4 : w4.cell? ⟨w.heap.size, 4, none⟩ = some (.int .i64 e) := (hbw4.cell (p := ⟨w.heap.size, 4, none⟩) (by first | omega | (simp; omega) | simp)).trans (by first | (go_simp; done) | ((repeat rw [cell_al (by first | omega | (simp; omega) | simp)]); first | assumption | (go_simp; done)))
  have hsw4_0 : w.heap.size < w4.heap.size := (by omega)
  have kw4_1_0 : w4.cell? ⟨w3.heap.size, 0, none⟩ = some (.int .i64 g1) := (hbw4.cell (p := ⟨w3.heap.size, 0, none⟩) (by first | omega | (simp; omega) | simp)).trans (by first | (go_simp; done) | ((repeat rw [cell_al (by first | omega | (simp; omega) | simp)]); first | assumption | (go_simp; done)))
  have kw4_1_1 : w4.cell? ⟨w3.heap.size, 1, none⟩ = some (.int .i64 g2) := (hbw4.cell (p := ⟨w3.heap.size, 1, none⟩) (by first | omega | (simp; omega) | simp)).trans (by first | (go_simp; done) | ((repeat rw [cell_al (by first | omega | (simp; omega) | simp)]); first | assumption | (go_simp; done)))
  have kw4_1_2 : w4.cell? ⟨w3.heap.size, 2, none⟩ = some (.int .i64 g3) := (hbw4.cell (p := ⟨w3.heap.size, 2, none⟩) (by first | omega | (simp; omega) | simp)).trans (by first | (go_simp; done) | ((repeat rw [cell_al (by first | omega | (simp; omega) | simp)]); first | assumption | (go_simp; done)))
  have kw4_1_3 : w4.cell? ⟨w3.heap.size, 3, none⟩ = some (.int .i64 g4) := (hbw4.cell (p := ⟨w3.heap.size, 3, none⟩) (by first | omega | (simp; omega) | simp)).trans (by first | (go_simp; done) | ((repeat rw [cell_al (by first | omega | (simp; omega) | simp)]); first | assumption | (go_simp; done)))
  have kw4_1_4 : w4.cell? ⟨w3.heap.size, 4, none⟩ = some (.int .i64 g5) := (hbw4.cell (p := ⟨w3.heap.size, 4, none⟩) (by first | omega | (simp; omega) | simp)).trans (by first | (go_simp; done) | ((repeat rw [cell_al (by first | omega | (simp; omega) | simp)]); first | assumption | (go_simp; done)))
  have hsw4_1 : w3.heap.size < w4.heap.size := (by omega)
  have hBw4 : Below w.heap.size w w4 := by
    refine bthen hbw4 ?_ (by first | omega | (simp; omega) | simp)
    repeat (first | exact Below.refl _ _ | (with_reducible assumption) | (refine Below.drew ?_) | (refine Below.setCell ?_ (by first | omega | (simp; omega) | simp) _) | (refine Below.alloc ?_ (by first | omega | (simp; omega) | simp) _) | (refine bthen (by assumption) ?_ (by first | omega | (simp; omega) | simp)))
  have hvw4 := hBw4.size
  clear kw3_0_0 kw3_0_1 kw3_0_2 kw3_0_3 kw3_0_4 hsw3_0 hBw3 hvw3 hzw3
  clear hbw4
  go_wp2_with fail
  refine name_world fun W hW => ?_
  have kW_0_0 : W.cell? ⟨w.heap.size, 0, none⟩ = some (.int .i64 a) := by rw [hW]; exact (by first | (go_simp; done) | ((repeat rw [cell_al (by first | omega | (simp; omega) | simp)]); first | assumption | (go_simp; done)))
  have kW_0_1 : W.cell? ⟨w.heap.size, 1, none⟩ = some (.int .i64 b) := by rw [hW]; exact (by first | (go_simp; done) | ((repeat rw [cell_al (by first | omega | (simp; omega) | simp)]); first | assumption | (go_simp; done)))
  have kW_0_2 : W.cell? ⟨w.heap.size, 2, none⟩ = some (.int .i64 c) := by rw [hW]; exact (by first | (go_simp; done) | ((repeat rw [cell_al (by first | omega | (simp; omega) | simp)]); first | assumption | (go_simp; done)))
  have kW_0_3 : W.cell? ⟨w.heap.size, 3, none⟩ = some (.int .i64 d) := by rw [hW]; exact (by first | (go_simp; done) | ((repeat rw [cell_al (by first | omega | (simp; omega) | simp)]); first | assumption | (go_simp; done)))
  have kW_0_4 : W.cell? ⟨w.heap.size, 4, none⟩ = some (.int .i64 e) := by rw [hW]; exact (by first | (go_simp; done) | ((repeat rw [cell_al (by first | omega | (simp; omega) | simp)]); first | assumption | (go_simp; done)))
  have zW_0 : w.heap.size < W.heap.size := by rw [hW]; first | omega | (simp; omega) | simp
  have kW_1_0 : W.cell? ⟨w3.heap.size, 0, none⟩ = some (.int .i64 g1) := by rw [hW]; exact (by first | (go_simp; done) | ((repeat rw [cell_al (by first | omega | (simp; omega) | simp)]); first | assumption | (go_simp; done)))
  have kW_1_1 : W.cell? ⟨w3.heap.size, 1, none⟩ = some (.int .i64 g2) := by rw [hW]; exact (by first | (go_simp; done) | ((repeat rw [cell_al (by first | omega | (simp; omega) | simp)]); first | assumption | (go_simp; done)))
  have kW_1_2 : W.cell? ⟨w3.heap.size, 2, none⟩ = some (.int .i64 g3) := by rw [hW]; exact (by first | (go_simp; done) | ((repeat rw [cell_al (by first | omega | (simp; omega) | simp)]); first | assumption | (go_simp; done)))
  have kW_1_3 : W.cell? ⟨w3.heap.size, 3, none⟩ = some (.int .i64 g4) := by rw [hW]; exact (by first | (go_simp; done) | ((repeat rw [cell_al (by first | omega | (simp; omega) | simp)]); first | assumption | (go_simp; done)))
  have kW_1_4 : W.cell? ⟨w3.heap.size, 4, none⟩ = some (.int .i64 g5) := by rw [hW]; exact (by first | (go_simp; done) | ((repeat rw [cell_al (by first | omega | (simp; omega) | simp)]); first | assumption | (go_simp; done)))
  have zW_1 : w3.heap.size < W.heap.size := by rw [hW]; first | omega | (simp; omega) | simp
  have kW_2_0 : W.cell? ⟨w4.heap.size, 0, none⟩ = some (.int .i64 g1) := by rw [hW]; exact (by first | (go_simp; done) | ((repeat rw [cell_al (by first | omega | (simp; omega) | simp)]); first | assumption | (go_simp; done)))
  have kW_2_1 : W.cell? ⟨w4.heap.size, 1, none⟩ = some (.int .i64 g2) := by rw [hW]; exact (by first | (go_simp; done) | ((repeat rw [cell_al (by first | omega | (simp; omega) | simp)]); first | assumption | (go_simp; done)))
  have kW_2_2 : W.cell? ⟨w4.heap.size, 2, none⟩ = some (.int .i64 g3) := by rw [hW]; exact (by first | (go_simp; done) | ((repeat rw [cell_al (by first | omega | (simp; omega) | simp)]); first | assumption | (go_simp; done)))
  have kW_2_3 : W.cell? ⟨w4.heap.size, 3, none⟩ = some (.int .i64 g4) := by rw [hW]; exact (by first | (go_simp; done) | ((repeat rw [cell_al (by first | omega | (simp; omega) | simp)]); first | assumption | (go_simp; done)))
  have kW_2_4 : W.cell? ⟨w4.heap.size, 4, none⟩ = some (.int .i64 g5) := by rw [hW]; exact (by first | (go_simp; done) | ((repeat rw [cell_al (by first | omega | (simp; omega) | simp)]); first | assumption | (go_simp; done)))
  have zW_2 : w4.heap.size < W.heap.size := by rw [hW]; first | omega | (simp; omega) | simp
  have hBW : Below w.heap.size w W := by
    rw [hW]
    repeat (first | exact Below.refl _ _ | assumption | (refine Below.drew ?_) | (refine Below.setCell ?_ (by first | omega | (simp; omega) | simp) _) | (refine Below.alloc ?_ (by first | omega | (simp; omega) | simp) _) | (refine bthen (by assumption) ?_ (by first | omega | (simp; omega) | simp)))
  clear hW kw4_0_0 kw4_0_1 kw4_0_2 kw4_0_3 kw4_0_4 hsw4_0 kw4_1_0 kw4_1_1 kw4_1_2 kw4_1_3 kw4_1_4 hsw4_1 hBw4 hvw4
  have hvW := hBW.size
  have HS := SW.start W; have hB3 := Below.refl W.heap.size W; have hc := True.intro
  clear HS hc hB3
  refine wp_region_once (S := fun w' => Below W.heap.size W w') (by kernel_rfl) (by kernel_rfl) (Below.refl _ _).drew ?_
  refine' WalkO.op rfl ?hs0 ?hr0
  case hs0 =>
    intro w' hb
    have hc := (bcell hb).1
    have hz' := hb.size
    go_simp
    exact Gives.value ⟨rfl, hb⟩
  simp only [Act.put, List.setIfInBounds_toArray, List.set_cons_zero, List.set_cons_succ, Nat.reduceAdd, Nat.zero_add]
  refine' WalkO.op rfl ?hs1 ?hr1
  case hs1 =>
    intro w' hb
    have hc := (bcell hb).1
    have hz' := hb.size
    go_simp
    exact Gives.value ⟨rfl, hb⟩
  simp only [Act.put, List.setIfInBounds_toArray, List.set_cons_zero, List.set_cons_succ, Nat.reduceAdd, Nat.zero_add]
  refine' WalkO.op rfl ?hs2 ?hr2
  case hs2 =>
    intro w' hb
    have hc := (bcell hb).1
    have hz' := hb.size
    go_simp
    exact Gives.value ⟨rfl, hb⟩
  simp only [Act.put, List.setIfInBounds_toArray, List.set_cons_zero, List.set_cons_succ, Nat.reduceAdd, Nat.zero_add]
  refine' WalkO.op rfl ?hs3 ?hr3
  case hs3 =>
    intro w' hb
    have hc := (bcell hb).1
    have hz' := hb.size
    go_simp
    exact Gives.value ⟨rfl, hb⟩
  simp only [Act.put, List.setIfInBounds_toArray, List.set_cons_zero, List.set_cons_succ, Nat.reduceAdd, Nat.zero_add]
  first
  | refine WalkO.opU rfl rfl rfl ?_; simp only [Act.put, List.setIfInBounds_toArray, List.set_cons_zero, List.set_cons_succ, Nat.reduceAdd, Nat.zero_add]
  | refine' WalkO.opT rfl rfl rfl ?hs4 ?hr4
    case hs4 =>
      intro w' hb
      have hc := (bcell hb).1
      have hz' := hb.size
      go_simp
      exact Gives.value ⟨rfl, hb⟩
    simp only [Act.put, List.setIfInBounds_toArray, List.set_cons_zero, List.set_cons_succ, Nat.reduceAdd, Nat.zero_add]
  first
  | refine WalkO.opU rfl rfl rfl ?_; simp only [Act.put, List.setIfInBounds_toArray, List.set_cons_zero, List.set_cons_succ, Nat.reduceAdd, Nat.zero_add]
  | refine' WalkO.opT rfl rfl rfl ?hs5 ?hr5
    case hs5 =>
      intro w' hb
      have hc := (bcell hb).1
      have hz' := hb.size
      go_simp
      refine Gives.enter ?_
      first
      | (go_at_call 11; (with_reducible refine (num_any _ _).mono ?_); rintro e w3 ⟨rfl, rfl⟩; exact ⟨_, rfl, rfl, hb⟩)
      | (go_at_call 12; (with_reducible refine (mayD_any _ _ _ _ _ _).mono ?_); rintro e w3 ⟨rfl, hb3⟩; exact ⟨_, rfl, rfl, bthen hb3 hb hb.size⟩)
      | (go_at_call 13; (with_reducible refine (rmayD_any _ _ _ _ _ _).mono ?_); rintro e w3 ⟨rfl, hb3⟩; exact ⟨_, rfl, rfl, bthen hb3 hb hb.size⟩)
      | (go_at_call 14; (with_reducible refine (awakeD _).mono ?_); rintro e w3 ⟨rfl, hb3⟩; exact ⟨_, rfl, rfl, bthen hb3 hb hb.size⟩)
    simp only [Act.put, List.setIfInBounds_toArray, List.set_cons_zero, List.set_cons_succ, Nat.reduceAdd, Nat.zero_add]
  first
  | refine WalkO.opU rfl rfl rfl ?_; simp only [Act.put, List.setIfInBounds_toArray, List.set_cons_zero, List.set_cons_succ, Nat.reduceAdd, Nat.zero_add]
  | refine' WalkO.opT rfl rfl rfl ?hs6 ?hr6
    case hs6 =>
      intro w' hb
      have hc := (bcell hb).1
      have hz' := hb.size
      go_simp
      exact Gives.value ⟨rfl, hb⟩
    simp only [Act.put, List.setIfInBounds_toArray, List.set_cons_zero, List.set_cons_succ, Nat.reduceAdd, Nat.zero_add]
  first
  | refine WalkO.opU rfl rfl rfl ?_; simp only [Act.put, List.setIfInBounds_toArray, List.set_cons_zero, List.set_cons_succ, Nat.reduceAdd, Nat.zero_add]
  | refine' WalkO.opT rfl rfl rfl ?hs7 ?hr7
    case hs7 =>
      intro w' hb
      have hc := (bcell hb).1
      have hz' := hb.size
      go_simp
      exact Gives.value ⟨rfl, hb⟩
    simp only [Act.put, List.setIfInBounds_toArray, List.set_cons_zero, List.set_cons_succ, Nat.reduceAdd, Nat.zero_add]
  refine' WalkO.op rfl ?hs8 ?hr8
  case hs8 =>
    intro w' hb
    have hc := (bcell hb).1
    have hz' := hb.size
    go_simp
    exact Gives.value ⟨rfl, hb⟩
  simp only [Act.put, List.setIfInBounds_toArray, List.set_cons_zero, List.set_cons_succ, Nat.reduceAdd, Nat.zero_add]
  refine' WalkO.op rfl ?hs9 ?hr9
  case hs9 =>
    intro w' hb
    have hc := (bcell hb).1
    have hz' := hb.size
    go_simp
    exact Gives.value ⟨rfl, hb⟩
  simp only [Act.put, List.setIfInBounds_toArray, List.set_cons_zero, List.set_cons_succ, Nat.reduceAdd, Nat.zero_add]
  first
  | refine WalkO.opU rfl rfl rfl ?_; simp only [Act.put, List.setIfInBounds_toArray, List.set_cons_zero, List.set_cons_succ, Nat.reduceAdd, Nat.zero_add]
  | refine' WalkO.opT rfl rfl rfl ?hs10 ?hr10
    case hs10 =>
      intro w' hb
      have hc := (bcell hb).1
      have hz' := hb.size
      go_simp
      exact Gives.value ⟨rfl, hb⟩
    simp only [Act.put, List.setIfInBounds_toArray, List.set_cons_zero, List.set_cons_succ, Nat.reduceAdd, Nat.zero_add]
  first
  | refine WalkO.opU rfl rfl rfl ?_; simp only [Act.put, List.setIfInBounds_toArray, List.set_cons_zero, List.set_cons_succ, Nat.reduceAdd, Nat.zero_add]
  | refine' WalkO.opT rfl rfl rfl ?hs11 ?hr11
    case hs11 =>
      intro w' hb
      have hc := (bcell hb).1
      have hz' := hb.size
      go_simp
      exact Gives.value ⟨rfl, hb⟩
    simp only [Act.put, List.setIfInBounds_toArray, List.set_cons_zero, List.set_cons_succ, Nat.reduceAdd, Nat.zero_add]
  first
  | refine WalkO.opU rfl rfl rfl ?_; simp only [Act.put, List.setIfInBounds_toArray, List.set_cons_zero, List.set_cons_succ, Nat.reduceAdd, Nat.zero_add]
  | refine' WalkO.opT rfl rfl rfl ?hs12 ?hr12
    case hs12 =>
      intro w' hb
      have hc := (bcell hb).1
      have hz' := hb.size
      go_simp
      exact Gives.value ⟨rfl, hb⟩
    simp only [Act.put, List.setIfInBounds_toArray, List.set_cons_zero, List.set_cons_succ, Nat.reduceAdd, Nat.zero_add]
  refine' WalkO.op rfl ?hs13 ?hr13
  case hs13 =>
    intro w' hb
    have hc := (bcell hb).1
    have hz' := hb.size
    go_simp
    exact Gives.value ⟨rfl, hb⟩
  simp only [Act.put, List.setIfInBounds_toArray, List.set_cons_zero, List.set_cons_succ, Nat.reduceAdd, Nat.zero_add]
  refine' WalkO.op rfl ?hs14 ?hr14
  case hs14 =>
    intro w' hb
    have hc := (bcell hb).1
    have hz' := hb.size
    go_simp
    exact Gives.value ⟨rfl, hb⟩
  simp only [Act.put, List.setIfInBounds_toArray, List.set_cons_zero, List.set_cons_succ, Nat.reduceAdd, Nat.zero_add]
  first
  | refine WalkO.opU rfl rfl rfl ?_; simp only [Act.put, List.setIfInBounds_toArray, List.set_cons_zero, List.set_cons_succ, Nat.reduceAdd, Nat.zero_add]
  | refine' WalkO.opT rfl rfl rfl ?hs15 ?hr15
    case hs15 =>
      intro w' hb
      have hc := (bcell hb).1
      have hz' := hb.size
      go_simp
      exact Gives.value ⟨rfl, hb⟩
    simp only [Act.put, List.setIfInBounds_toArray, List.set_cons_zero, List.set_cons_succ, Nat.reduceAdd, Nat.zero_add]
  first
  | refine WalkO.opU rfl rfl rfl ?_; simp only [Act.put, List.setIfInBounds_toArray, List.set_cons_zero, List.set_cons_succ, Nat.reduceAdd, Nat.zero_add]
  | refine' WalkO.opT rfl rfl rfl ?hs16 ?hr16
    case hs16 =>
      intro w' hb
      have hc := (bcell hb).1
      have hz' := hb.size
      go_simp
      refine Gives.enter ?_
      first
      | (go_at_call 11; (with_reducible refine (num_any _ _).mono ?_); rintro e w3 ⟨rfl, rfl⟩; exact ⟨_, rfl, rfl, hb⟩)
      | (go_at_call 12; (with_reducible refine (mayD_any _ _ _ _ _ _).mono ?_); rintro e w3 ⟨rfl, hb3⟩; exact ⟨_, rfl, rfl, bthen hb3 hb hb.size⟩)
      | (go_at_call 13; (with_reducible refine (rmayD_any _ _ _ _ _ _).mono ?_); rintro e w3 ⟨rfl, hb3⟩; exact ⟨_, rfl, rfl, bthen hb3 hb hb.size⟩)
      | (go_at_call 14; (with_reducible refine (awakeD _).mono ?_); rintro e w3 ⟨rfl, hb3⟩; exact ⟨_, rfl, rfl, bthen hb3 hb hb.size⟩)
    simp only [Act.put, List.setIfInBounds_toArray, List.set_cons_zero, List.set_cons_succ, Nat.reduceAdd, Nat.zero_add]
  first
  | refine WalkO.opU rfl rfl rfl ?_; simp only [Act.put, List.setIfInBounds_toArray, List.set_cons_zero, List.set_cons_succ, Nat.reduceAdd, Nat.zero_add]
  | refine' WalkO.opT rfl rfl rfl ?hs17 ?hr17
    case hs17 =>
      intro w' hb
      have hc := (bcell hb).1
      have hz' := hb.size
      go_simp
      exact Gives.value ⟨rfl, hb⟩
    simp only [Act.put, List.setIfInBounds_toArray, List.set_cons_zero, List.set_cons_succ, Nat.reduceAdd, Nat.zero_add]
  first
  | refine WalkO.opU rfl rfl rfl ?_; simp only [Act.put, List.setIfInBounds_toArray, List.set_cons_zero, List.set_cons_succ, Nat.reduceAdd, Nat.zero_add]
  | refine' WalkO.opT rfl rfl rfl ?hs18 ?hr18
    case hs18 =>
      intro w' hb
      have hc := (bcell hb).1
      have hz' := hb.size
      go_simp
      exact Gives.value ⟨rfl, hb⟩
    simp only [Act.put, List.setIfInBounds_toArray, List.set_cons_zero, List.set_cons_succ, Nat.reduceAdd, Nat.zero_add]
  refine' WalkO.op rfl ?hs19 ?hr19
  case hs19 =>
    intro w' hb
    have hc := (bcell hb).1
    have hz' := hb.size
    go_simp
    exact Gives.value ⟨rfl, hb⟩
  simp only [Act.put, List.setIfInBounds_toArray, List.set_cons_zero, List.set_cons_succ, Nat.reduceAdd, Nat.zero_add]
  refine' WalkO.op rfl ?hs20 ?hr20
  case hs20 =>
    intro w' hb
    have hc := (bcell hb).1
    have hz' := hb.size
    go_simp
    exact Gives.value ⟨rfl, hb⟩
  simp only [Act.put, List.setIfInBounds_toArray, List.set_cons_zero, List.set_cons_succ, Nat.reduceAdd, Nat.zero_add]
  first
  | refine WalkO.opU rfl rfl rfl ?_; simp only [Act.put, List.setIfInBounds_toArray, List.set_cons_zero, List.set_cons_succ, Nat.reduceAdd, Nat.zero_add]
  | refine' WalkO.opT rfl rfl rfl ?hs21 ?hr21
    case hs21 =>
      intro w' hb
      have hc := (bcell hb).1
      have hz' := hb.size
      go_simp
      exact Gives.value ⟨rfl, hb⟩
    simp only [Act.put, List.setIfInBounds_toArray, List.set_cons_zero, List.set_cons_succ, Nat.reduceAdd, Nat.zero_add]
  first
  | refine WalkO.opU rfl rfl rfl ?_; simp only [Act.put, List.setIfInBounds_toArray, List.set_cons_zero, List.set_cons_succ, Nat.reduceAdd, Nat.zero_add]
  | refine' WalkO.opT rfl rfl rfl ?hs22 ?hr22
    case hs22 =>
      intro w' hb
      have hc := (bcell hb).1
      have hz' := hb.size
      go_simp
      refine Gives.enter ?_
      first
      | (go_at_call 11; (with_reducible refine (num_any _ _).mono ?_); rintro e w3 ⟨rfl, rfl⟩; exact ⟨_, rfl, rfl, hb⟩)
      | (go_at_call 12; (with_reducible refine (mayD_any _ _ _ _ _ _).mono ?_); rintro e w3 ⟨rfl, hb3⟩; exact ⟨_, rfl, rfl, bthen hb3 hb hb.size⟩)
      | (go_at_call 13; (with_reducible refine (rmayD_any _ _ _ _ _ _).mono ?_); rintro e w3 ⟨rfl, hb3⟩; exact ⟨_, rfl, rfl, bthen hb3 hb hb.size⟩)
      | (go_at_call 14; (with_reducible refine (awakeD _).mono ?_); rintro e w3 ⟨rfl, hb3⟩; exact ⟨_, rfl, rfl, bthen hb3 hb hb.size⟩)
    simp only [Act.put, List.setIfInBounds_toArray, List.set_cons_zero, List.set_cons_succ, Nat.reduceAdd, Nat.zero_add]
  first
  | refine WalkO.opU rfl rfl rfl ?_; simp only [Act.put, List.setIfInBounds_toArray, List.set_cons_zero, List.set_cons_succ, Nat.reduceAdd, Nat.zero_add]
  | refine' WalkO.opT rfl rfl rfl ?hs23 ?hr23
    case hs23 =>
      intro w' hb
      have hc := (bcell hb).1
      have hz' := hb.size
      go_simp
      exact Gives.value ⟨rfl, hb⟩
    simp only [Act.put, List.setIfInBounds_toArray, List.set_cons_zero, List.set_cons_succ, Nat.reduceAdd, Nat.zero_add]
  first
  | refine WalkO.opU rfl rfl rfl ?_; simp only [Act.put, List.setIfInBounds_toArray, List.set_cons_zero, List.set_cons_succ, Nat.reduceAdd, Nat.zero_add]
  | refine' WalkO.opT rfl rfl rfl ?hs24 ?hr24
    case hs24 =>
      intro w' hb
      have hc := (bcell hb).1
      have hz' := hb.size
      go_simp
      refine Gives.enter ?_
      first
      | (go_at_call 11; (with_reducible refine (num_any _ _).mono ?_); rintro e w3 ⟨rfl, rfl⟩; exact ⟨_, rfl, rfl, hb⟩)
      | (go_at_call 12; (with_reducible refine (mayD_any _ _ _ _ _ _).mono ?_); rintro e w3 ⟨rfl, hb3⟩; exact ⟨_, rfl, rfl, bthen hb3 hb hb.size⟩)
      | (go_at_call 13; (with_reducible refine (rmayD_any _ _ _ _ _ _).mono ?_); rintro e w3 ⟨rfl, hb3⟩; exact ⟨_, rfl, rfl, bthen hb3 hb hb.size⟩)
      | (go_at_call 14; (with_reducible refine (awakeD _).mono ?_); rintro e w3 ⟨rfl, hb3⟩; exact ⟨_, rfl, rfl, bthen hb3 hb hb.size⟩)
    simp only [Act.put, List.setIfInBounds_toArray, List.set_cons_zero, List.set_cons_succ, Nat.reduceAdd, Nat.zero_add]
  first
  | refine WalkO.opU rfl rfl rfl ?_; simp only [Act.put, List.setIfInBounds_toArray, List.set_cons_zero, List.set_cons_succ, Nat.reduceAdd, Nat.zero_add]
  | refine' WalkO.opT rfl rfl rfl ?hs25 ?hr25
    case hs25 =>
      intro w' hb
      have hc := (bcell hb).1
      have hz' := hb.size
      go_simp
      exact Gives.value ⟨rfl, hb⟩
    simp only [Act.put, List.setIfInBounds_toArray, List.set_cons_zero, List.set_cons_succ, Nat.reduceAdd, Nat.zero_add]
  refine' WalkO.op rfl ?hs26 ?hr26
  case hs26 =>
    intro w' hb
    have hc := (bcell hb).1
    have hz' := hb.size
    go_simp
    exact Gives.value ⟨rfl, hb⟩
  simp only [Act.put, List.setIfInBounds_toArray, List.set_cons_zero, List.set_cons_succ, Nat.reduceAdd, Nat.zero_add]
  refine' WalkO.op rfl ?hs27 ?hr27
  case hs27 =>
    intro w' hb
    have hc := (bcell hb).1
    have hz' := hb.size
    go_simp
    exact Gives.value ⟨rfl, hb⟩
  simp only [Act.put, List.setIfInBounds_toArray, List.set_cons_zero, List.set_cons_succ, Nat.reduceAdd, Nat.zero_add]
  first
  | refine WalkO.opU rfl rfl rfl ?_; simp only [Act.put, List.setIfInBounds_toArray, List.set_cons_zero, List.set_cons_succ, Nat.reduceAdd, Nat.zero_add]
  | refine' WalkO.opT rfl rfl rfl ?hs28 ?hr28
    case hs28 =>
      intro w' hb
      have hc := (bcell hb).1
      have hz' := hb.size
      go_simp
      refine Gives.enter ?_
      first
      | (go_at_call 11; (with_reducible refine (num_any _ _).mono ?_); rintro e w3 ⟨rfl, rfl⟩; exact ⟨_, rfl, rfl, hb⟩)
      | (go_at_call 12; (with_reducible refine (mayD_any _ _ _ _ _ _).mono ?_); rintro e w3 ⟨rfl, hb3⟩; exact ⟨_, rfl, rfl, bthen hb3 hb hb.size⟩)
      | (go_at_call 13; (with_reducible refine (rmayD_any _ _ _ _ _ _).mono ?_); rintro e w3 ⟨rfl, hb3⟩; exact ⟨_, rfl, rfl, bthen hb3 hb hb.size⟩)
      | (go_at_call 14; (with_reducible refine (awakeD _).mono ?_); rintro e w3 ⟨rfl, hb3⟩; exact ⟨_, rfl, rfl, bthen hb3 hb hb.size⟩)
    simp only [Act.put, List.setIfInBounds_toArray, List.set_cons_zero, List.set_cons_succ, Nat.reduceAdd, Nat.zero_add]
  refine' WalkO.op rfl ?hs29 ?hr29
  case hs29 =>
    intro w' hb
    have hc := (bcell hb).1
    have hz' := hb.size
    go_simp
    exact Gives.value ⟨rfl, hb⟩
  simp only [Act.put, List.setIfInBounds_toArray, List.set_cons_zero, List.set_cons_succ, Nat.reduceAdd, Nat.zero_add]
  refine' WalkO.op rfl ?hs30 ?hr30
  case hs30 =>
    intro w' hb
    have hc := (bcell hb).1
    have hz' := hb.size
    go_simp
    exact Gives.value ⟨rfl, hb⟩
  simp only [Act.put, List.setIfInBounds_toArray, List.set_cons_zero, List.set_cons_succ, Nat.reduceAdd, Nat.zero_add]
  refine WalkO.stop (fun W2 hb => ?_)
  have zW2_0 : w.heap.size < W2.heap.size := Nat.lt_of_lt_of_le zW_0 hb.size
  have kW2_0_0 := (hb.cell (p := ⟨w.heap.size, 0, none⟩) zW_0).trans kW_0_0
  have kW2_0_1 := (hb.cell (p := ⟨w.heap.size, 1, none⟩) zW_0).trans kW_0_1
  have kW2_0_2 := (hb.cell (p := ⟨w.heap.size, 2, none⟩) zW_0).trans kW_0_2
  have kW2_0_3 := (hb.cell (p := ⟨w.heap.size, 3, none⟩) zW_0).trans kW_0_3
  have kW2_0_4 := (hb.cell (p := ⟨w.heap.size, 4, none⟩) zW_0).trans kW_0_4
  have zW2_1 : w3.heap.size < W2.heap.size := Nat.lt_of_lt_of_le zW_1 hb.size
  have kW2_1_0 := (hb.cell (p := ⟨w3.heap.size, 0, none⟩) zW_1).trans kW_1_0
  have kW2_1_1 := (hb.cell (p := ⟨w3.heap.size, 1, none⟩) zW_1).trans kW_1_1
  have kW2_1_2 := (hb.cell (p := ⟨w3.heap.size, 2, none⟩) zW_1).trans kW_1_2
  have kW2_1_3 := (hb.cell (p := ⟨w3.heap.size, 3, none⟩) zW_1).trans kW_1_3
  have kW2_1_4 := (hb.cell (p := ⟨w3.heap.size, 4, none⟩) zW_1).trans kW_1_4
  have zW2_2 : w4.heap.size < W2.heap.size := Nat.lt_of_lt_of_le zW_2 hb.size
  have kW2_2_0 := (hb.cell (p := ⟨w4.heap.size, 0, none⟩) zW_2).trans kW_2_0
  have kW2_2_1 := (hb.cell (p := ⟨w4.heap.size, 1, none⟩) zW_2).trans kW_2_1
  have kW2_2_2 := (hb.cell (p := ⟨w4.heap.size, 2, none⟩) zW_2).trans kW_2_2
  have kW2_2_3 := (hb.cell (p := ⟨w4.heap.size, 3, none⟩) zW_2).trans kW_2_3
  have kW2_2_4 := (hb.cell (p := ⟨w4.heap.size, 4, none⟩) zW_2).trans kW_2_4
  have hBW2 : Below w.heap.size w W2 := bthen hb hBW hBW.size
  have hvW2 := hBW2.size; have hvvW2 := hb.size
  clear hb hBW kW_0_0 kW_0_1 kW_0_2 kW_0_3 kW_0_4 kW_1_0 kW_1_1 kW_1_2 kW_1_3 kW_1_4 kW_2_0 kW_2_1 kW_2_2 kW_2_3 kW_2_4 zW_0 zW_1 zW_2
  have HS := SW.start W2; have hB3 := Below.refl W2.heap.size W2; have hc := True.intro
  go_wp2_with fail
  try go_wp2
  go_returns
  exact ⟨rfl, bthen hB3 hBW2 hBW2.size⟩
end Go.Proofs.Ytefcppldkepmhaa.descs

