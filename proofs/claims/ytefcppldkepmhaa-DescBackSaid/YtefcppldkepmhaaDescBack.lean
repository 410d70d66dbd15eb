/- caissonlaw16.DescBack answers true, whatever it is given. No condition. -/
import Derived.Test.YtefcppldkepmhaaDescE
import Derived.Test.YtefcppldkepmhaaDescP
namespace Go.Proofs.Ytefcppldkepmhaa.descBack
open Go.RowKit
set_option linter.unusedVariables false
set_option linter.unusedSimpArgs false
set_option maxHeartbeats 8000000 in
theorem walk_yy (a b c d e : Int) (s : ByteArray) (g1 g2 g3 g4 g5 : Int) (p : ByteArray) (pe : Int) (w : World) (hm : mayD a b c d e = true) (hp : putB a b c d e = p) (hpe : putE a b c d e = pe)
    (hpk : pe = if true = true then 0 else 1600) (hp8 : true = true → (p.size : Int) = 8 ∧ getN p = (a, b, c, d, e, 0))
    (hg : getN s = (g1, g2, g3, g4, g5, 0)) (hq : 0 = (0 : Int) → putB g1 g2 g3 g4 g5 = s ∧ putE g1 g2 g3 g4 g5 = 0) (hz : 0 = (1600 : Int) → g1 = 0 ∧ g2 = 0 ∧ g3 = 0 ∧ g4 = 0 ∧ g5 = 0) :
    Calls Try.prog 4 #[.agg #[.int .i64 a, .int .i64 b, .int .i64 c, .int .i64 d, .int .i64 e], .string s] w fun e w' => e = .returned (.bool true) ∧ Below w.heap.size w w' := by
  simp at hpk hp8 hq hz
  subst hpk
  obtain ⟨hp8, hp9⟩ := hp8
  obtain ⟨hq, hq9⟩ := hq
  go_enter Try.func4, Try.ntmps4
  go_wp2_with fail
  refine (awakeD _).mono ?_; rintro e w0 ⟨rfl, hbw0⟩
  have hzw0 := hbw0.size; (try simp at hzw0)
  have kw0_0_0 : w0.cell? ⟨w.heap.size, 0, none⟩ = some (.int .i64 a) := (hbw0.cell (p := ⟨w.heap.size, 0, none⟩) (by first | omega | (simp; omega) | simp)).trans (by first | (go_simp; done) | ((repeat rw [cell_al (by first | omega | (simp; omega) | simp)]); first | assumption | (go_simp; done)))
  have kw0_0_1 : w0.cell? ⟨w.heap.size, 1, none⟩ = some (.int .i64 b) := (hbw0.cell (p := ⟨w.heap.size, 1, none⟩) (by first | omega | (simp; omega) | simp)).trans (by first | (go_simp; done) | ((repeat rw [cell_al (by first | omega | (simp; omega) | simp)]); first | assumption | (go_simp; done)))
  have kw0_0_2 : w0.cell? ⟨w.heap.size, 2, none⟩ = some (.int .i64 c) := (hbw0.cell (p := ⟨w.heap.size, 2, none⟩) (by first | omega | (simp; omega) | simp)).trans (by first | (go_simp; done) | ((repeat rw [cell_al (by first | omega | (simp; omega) | simp)]); first | assumption | (go_simp; done)))
  have kw0_0_3 : w0.cell? ⟨w.heap.size, 3, none⟩ = some (.int .i64 d) := (hbw0.cell (p := ⟨w.heap.size, 3, none⟩) (by first | omega | (simp; omega) | simp)).trans (by first | (go_simp; done) | ((repeat rw [cell_al (by first | omega | (simp; omega) | simp)]); first | assumption | (go_simp; done)))
  have kw0_0_4 : w0.cell? ⟨w.heap.size, 4, none⟩ = some (.int .i64 e) := (hbw0.cell (p := ⟨w.heap.size, 4, none⟩) (by first | omega | (simp; omega) | simp)).trans (by first | (go_simp; done) | ((repeat rw [cell_al (by first | omega | (simp; omega) | simp)]); first | assumption | (go_simp; done)))
  have hsw0_0 : w.heap.size < w0.heap.size := (by omega)
  have hBw0 : Below w.heap.size w w0 := by
    refine bthen hbw0 ?_ (by first | omega | (simp; omega) | simp)
    repeat (first | exact Below.refl _ _ | (with_reducible assumption) | (refine Below.drew ?_) | (refine Below.setCell ?_ (by first | omega | (simp; omega) | simp) _) | (refine Below.alloc ?_ (by first | omega | (simp; omega) | simp) _) | (refine bthen (by assumption) ?_ (by first | omega | (simp; omega) | simp)))
  have hvw0 := hBw0.size
  clear hbw0
  go_wp2_with fail
  refine (put_is _ _ _ _ _ _ _ _ hp hpe).mono ?_; rintro e w1 ⟨rfl, hbw1⟩
  have hzw1 := hbw1.size; (try simp at hzw1)
  have kw1_0_0 : w1.cell? ⟨w.heap.size, 0, none⟩ = some (.int .i64 a) := (hbw1.cell (p := ⟨w.heap.size, 0, none⟩) (by first | omega | (simp; omega) | simp)).trans (by first | (go_simp; done) | ((repeat rw [cell_al (by first | omega | (simp; omega) | simp)]); first | assumption | (go_simp; done)))
  have kw1_0_1 : w1.cell? ⟨w.heap.size, 1, none⟩ = some (.int .i64 b) := (hbw1.cell (p := ⟨w.heap.size, 1, none⟩) (by first | omega | (simp; omega) | simp)).trans (by first | (go_simp; done) | ((repeat rw [cell_al (by first | omega | (simp; omega) | simp)]); first | assumption | (go_simp; done)))
  have kw1_0_2 : w1.cell? ⟨w.heap.size, 2, none⟩ = some (.int .i64 c) := (hbw1.cell (p := ⟨w.heap.size, 2, none⟩) (by first | omega | (simp; omega) | simp)).trans (by first | (go_simp; done) | ((repeat rw [cell_al (by first | omega | (simp; omega) | simp)]); first | assumption | (go_simp; done)))
  have kw1_0_3 : w1.cell? ⟨w.heap.size, 3, none⟩ = some (.int .i64 d) := (hbw1.cell (p := ⟨w.heap.size, 3, none⟩) (by first | omega | (simp; omega) | simp)).trans (by first | (go_simp; done) | ((repeat rw [cell_al (by first | omega | (simp; omega) | simp)]); first | assumption | (go_simp; done)))
  have kw1_0_4 : w1.cell? ⟨w.heap.size, 4, none⟩ = some (.int .i64 e) := (hbw1.cell (p := ⟨w.heap.size, 4, none⟩) (by first | omega | (simp; omega) | simp)).trans (by first | (go_simp; done) | ((repeat rw [cell_al (by first | omega | (simp; omega) | simp)]); first | assumption | (go_simp; done)))
  have hsw1_0 : w.heap.size < w1.heap.size := (by omega)
  have hBw1 : Below w.heap.size w w1 := by
    refine bthen hbw1 ?_ (by first | omega | (simp; omega) | simp)
    repeat (first | exact Below.refl _ _ | (with_reducible assumption) | (refine Below.drew ?_) | (refine Below.setCell ?_ (by first | omega | (simp; omega) | simp) _) | (refine Below.alloc ?_ (by first | omega | (simp; omega) | simp) _) | (refine bthen (by assumption) ?_ (by first | omega | (simp; omega) | simp)))
  have hvw1 := hBw1.size
  clear kw0_0_0 kw0_0_1 kw0_0_2 kw0_0_3 kw0_0_4 hsw0_0 hBw0 hvw0 hzw0
  clear hbw1
  go_wp2_with fail
  refine name_world fun W hW => ?_
  have kW_0_0 : W.cell? ⟨w.heap.size, 0, none⟩ = some (.int .i64 a) := by rw [hW]; exact (by first | (go_simp; done) | ((repeat rw [cell_al (by first | omega | (simp; omega) | simp)]); first | assumption | (go_simp; done)))
  have kW_0_1 : W.cell? ⟨w.heap.size, 1, none⟩ = some (.int .i64 b) := by rw [hW]; exact (by first | (go_simp; done) | ((repeat rw [cell_al (by first | omega | (simp; omega) | simp)]); first | assumption | (go_simp; done)))
  have kW_0_2 : W.cell? ⟨w.heap.size, 2, none⟩ = some (.int .i64 c) := by rw [hW]; exact (by first | (go_simp; done) | ((repeat rw [cell_al (by first | omega | (simp; omega) | simp)]); first | assumption | (go_simp; done)))
  have kW_0_3 : W.cell? ⟨w.heap.size, 3, none⟩ = some (.int .i64 d) := by rw [hW]; exact (by first | (go_simp; done) | ((repeat rw [cell_al (by first | omega | (simp; omega) | simp)]); first | assumption | (go_simp; done)))
  have kW_0_4 : W.cell? ⟨w.heap.size, 4, none⟩ = some (.int .i64 e) := by rw [hW]; exact (by first | (go_simp; done) | ((repeat rw [cell_al (by first | omega | (simp; omega) | simp)]); first | assumption | (go_simp; done)))
  have zW_0 : w.heap.size < W.heap.size := by rw [hW]; first | omega | (simp; omega) | simp
  have hBW : Below w.heap.size w W := by
    rw [hW]
    repeat (first | exact Below.refl _ _ | assumption | (refine Below.drew ?_) | (refine Below.setCell ?_ (by first | omega | (simp; omega) | simp) _) | (refine Below.alloc ?_ (by first | omega | (simp; omega) | simp) _) | (refine bthen (by assumption) ?_ (by first | omega | (simp; omega) | simp)))
  clear hW kw1_0_0 kw1_0_1 kw1_0_2 kw1_0_3 kw1_0_4 hsw1_0 hBw1 hvw1
  have hvW := hBW.size
  have HS := SW.start W; have hB3 := Below.refl W.heap.size W; have hc := True.intro
  clear HS hc hB3
  refine wp_region_once (S := fun w' => Below W.heap.size W w') (by kernel_rfl) (by kernel_rfl) (Below.refl _ _).drew ?_
  refine' WalkO.op rfl ?hs0 ?hr0
  case hs0 =>
    intro w' hb
    have hc := (bcell hb).1
    have hz' := hb.size
    go_simp
    exact Gives.value ⟨rfl, hb⟩
  simp only [Act.put, List.setIfInBounds_toArray, List.set_cons_zero, List.set_cons_succ, Nat.reduceAdd, Nat.zero_add]
  refine' WalkO.op rfl ?hs1 ?hr1
  case hs1 =>
    intro w' hb
    have hc := (bcell hb).1
    have hz' := hb.size
    go_simp
    refine Gives.enter ?_
    first
    | (go_at_call 11; (with_reducible refine (num_any _ _).mono ?_); rintro e w3 ⟨rfl, rfl⟩; exact ⟨_, rfl, rfl, hb⟩)
    | (go_at_call 12; (with_reducible refine (mayD_is _ _ _ _ _ _ _ hm).mono ?_); rintro e w3 ⟨rfl, hb3⟩; exact ⟨_, rfl, rfl, bthen hb3 hb hb.size⟩)
  simp only [Act.put, List.setIfInBounds_toArray, List.set_cons_zero, List.set_cons_succ, Nat.reduceAdd, Nat.zero_add]
  refine' WalkO.op rfl ?hs2 ?hr2
  case hs2 =>
    intro w' hb
    have hc := (bcell hb).1
    have hz' := hb.size
    go_simp
    exact Gives.value ⟨rfl, hb⟩
  simp only [Act.put, List.setIfInBounds_toArray, List.set_cons_zero, List.set_cons_succ, Nat.reduceAdd, Nat.zero_add]
  refine' WalkO.op rfl ?hs3 ?hr3
  case hs3 =>
    intro w' hb
    have hc := (bcell hb).1
    have hz' := hb.size
    go_simp
    exact Gives.value ⟨rfl, hb⟩
  simp only [Act.put, List.setIfInBounds_toArray, List.set_cons_zero, List.set_cons_succ, Nat.reduceAdd, Nat.zero_add]
  refine' WalkO.op rfl ?hs4 ?hr4
  case hs4 =>
    intro w' hb
    have hc := (bcell hb).1
    have hz' := hb.size
    go_simp
    refine Gives.enter ?_
    first
    | (go_at_call 11; (with_reducible refine (num_any _ _).mono ?_); rintro e w3 ⟨rfl, rfl⟩; exact ⟨_, rfl, rfl, hb⟩)
    | (go_at_call 12; (with_reducible refine (mayD_is _ _ _ _ _ _ _ hm).mono ?_); rintro e w3 ⟨rfl, hb3⟩; exact ⟨_, rfl, rfl, bthen hb3 hb hb.size⟩)
  simp only [Act.put, List.setIfInBounds_toArray, List.set_cons_zero, List.set_cons_succ, Nat.reduceAdd, Nat.zero_add]
  refine' WalkO.op rfl ?hs5 ?hr5
  case hs5 =>
    intro w' hb
    have hc := (bcell hb).1
    have hz' := hb.size
    go_simp
    exact Gives.value ⟨rfl, hb⟩
  simp only [Act.put, List.setIfInBounds_toArray, List.set_cons_zero, List.set_cons_succ, Nat.reduceAdd, Nat.zero_add]
  refine' WalkO.op rfl ?hs6 ?hr6
  case hs6 =>
    intro w' hb
    have hc := (bcell hb).1
    have hz' := hb.size
    go_simp
    exact Gives.value ⟨rfl, hb⟩
  simp only [Act.put, List.setIfInBounds_toArray, List.set_cons_zero, List.set_cons_succ, Nat.reduceAdd, Nat.zero_add]
  first
  | refine WalkO.opU rfl rfl rfl ?_; simp only [Act.put, List.setIfInBounds_toArray, List.set_cons_zero, List.set_cons_succ, Nat.reduceAdd, Nat.zero_add]
  | refine' WalkO.opT rfl rfl rfl ?hs7 ?hr7
    case hs7 =>
      intro w' hb
      have hc := (bcell hb).1
      have hz' := hb.size
      go_simp
      exact Gives.value ⟨rfl, hb⟩
    simp only [Act.put, List.setIfInBounds_toArray, List.set_cons_zero, List.set_cons_succ, Nat.reduceAdd, Nat.zero_add]
  first
  | refine WalkO.opU rfl rfl rfl ?_; simp only [Act.put, List.setIfInBounds_toArray, List.set_cons_zero, List.set_cons_succ, Nat.reduceAdd, Nat.zero_add]
  | refine' WalkO.opT rfl rfl rfl ?hs8 ?hr8
    case hs8 =>
      intro w' hb
      have hc := (bcell hb).1
      have hz' := hb.size
      go_simp
      refine Gives.enter ?_
      first
      | (go_at_call 11; (with_reducible refine (num_any _ _).mono ?_); rintro e w3 ⟨rfl, rfl⟩; exact ⟨_, rfl, rfl, hb⟩)
      | (go_at_call 12; (with_reducible refine (mayD_is _ _ _ _ _ _ _ hm).mono ?_); rintro e w3 ⟨rfl, hb3⟩; exact ⟨_, rfl, rfl, bthen hb3 hb hb.size⟩)
    simp only [Act.put, List.setIfInBounds_toArray, List.set_cons_zero, List.set_cons_succ, Nat.reduceAdd, Nat.zero_add]
  first
  | refine WalkO.opU rfl rfl rfl ?_; simp only [Act.put, List.setIfInBounds_toArray, List.set_cons_zero, List.set_cons_succ, Nat.reduceAdd, Nat.zero_add]
  | refine' WalkO.opT rfl rfl rfl ?hs9 ?hr9
    case hs9 =>
      intro w' hb
      have hc := (bcell hb).1
      have hz' := hb.size
      go_simp
      exact Gives.value ⟨rfl, hb⟩
    simp only [Act.put, List.setIfInBounds_toArray, List.set_cons_zero, List.set_cons_succ, Nat.reduceAdd, Nat.zero_add]
  first
  | refine WalkO.opU rfl rfl rfl ?_; simp only [Act.put, List.setIfInBounds_toArray, List.set_cons_zero, List.set_cons_succ, Nat.reduceAdd, Nat.zero_add]
  | refine' WalkO.opT rfl rfl rfl ?hs10 ?hr10
    case hs10 =>
      intro w' hb
      have hc := (bcell hb).1
      have hz' := hb.size
      go_simp
      exact Gives.value ⟨rfl, hb⟩
    simp only [Act.put, List.setIfInBounds_toArray, List.set_cons_zero, List.set_cons_succ, Nat.reduceAdd, Nat.zero_add]
  first
  | refine WalkO.opU rfl rfl rfl ?_; simp only [Act.put, List.setIfInBounds_toArray, List.set_cons_zero, List.set_cons_succ, Nat.reduceAdd, Nat.zero_add]
  | refine' WalkO.opT rfl rfl rfl ?hs11 ?hr11
    case hs11 =>
      intro w' hb
      have hc := (bcell hb).1
      have hz' := hb.size
      go_simp
      exact Gives.value ⟨rfl, hb⟩
    simp only [Act.put, List.setIfInBounds_toArray, List.set_cons_zero, List.set_cons_succ, Nat.reduceAdd, Nat.zero_add]
  first
  | refine WalkO.opU rfl rfl rfl ?_; simp only [Act.put, List.setIfInBounds_toArray, List.set_cons_zero, List.set_cons_succ, Nat.reduceAdd, Nat.zero_add]
  | refine' WalkO.opT rfl rfl rfl ?hs12 ?hr12
    case hs12 =>
      intro w' hb
      have hc := (bcell hb).1
      have hz' := hb.size
      go_simp
      exact Gives.value ⟨rfl, hb⟩
    simp only [Act.put, List.setIfInBounds_toArray, List.set_cons_zero, List.set_cons_succ, Nat.reduceAdd, Nat.zero_add]
  first
  | refine WalkO.opU rfl rfl rfl ?_; simp only [Act.put, List.setIfInBounds_toArray, List.set_cons_zero, List.set_cons_succ, Nat.reduceAdd, Nat.zero_add]
  | refine' WalkO.opT rfl rfl rfl ?hs13 ?hr13
    case hs13 =>
      intro w' hb
      have hc := (bcell hb).1
      have hz' := hb.size
      go_simp
      exact Gives.value ⟨rfl, hb⟩
    simp only [Act.put, List.setIfInBounds_toArray, List.set_cons_zero, List.set_cons_succ, Nat.reduceAdd, Nat.zero_add]
  first
  | refine WalkO.opU rfl rfl rfl ?_; simp only [Act.put, List.setIfInBounds_toArray, List.set_cons_zero, List.set_cons_succ, Nat.reduceAdd, Nat.zero_add]
  | refine' WalkO.opT rfl rfl rfl ?hs14 ?hr14
    case hs14 =>
      intro w' hb
      have hc := (bcell hb).1
      have hz' := hb.size
      go_simp
      exact Gives.value ⟨rfl, hb⟩
    simp only [Act.put, List.setIfInBounds_toArray, List.set_cons_zero, List.set_cons_succ, Nat.reduceAdd, Nat.zero_add]
  refine' WalkO.op rfl ?hs15 ?hr15
  case hs15 =>
    intro w' hb
    have hc := (bcell hb).1
    have hz' := hb.size
    go_simp
    exact Gives.value ⟨rfl, hb⟩
  simp only [Act.put, List.setIfInBounds_toArray, List.set_cons_zero, List.set_cons_succ, Nat.reduceAdd, Nat.zero_add]
  refine WalkO.stop (fun W2 hb => ?_)
  have zW2_0 : w.heap.size < W2.heap.size := Nat.lt_of_lt_of_le zW_0 hb.size
  have kW2_0_0 := (hb.cell (p := ⟨w.heap.size, 0, none⟩) zW_0).trans kW_0_0
  have kW2_0_1 := (hb.cell (p := ⟨w.heap.size, 1, none⟩) zW_0).trans kW_0_1
  have kW2_0_2 := (hb.cell (p := ⟨w.heap.size, 2, none⟩) zW_0).trans kW_0_2
  have kW2_0_3 := (hb.cell (p := ⟨w.heap.size, 3, none⟩) zW_0).trans kW_0_3
  have kW2_0_4 := (hb.cell (p := ⟨w.heap.size, 4, none⟩) zW_0).trans kW_0_4
  have hBW2 : Below w.heap.size w W2 := bthen hb hBW hBW.size
  have hvW2 := hBW2.size; have hvvW2 := hb.size
  clear hb hBW kW_0_0 kW_0_1 kW_0_2 kW_0_3 kW_0_4 zW_0
  have HS := SW.start W2; have hB3 := Below.refl W2.heap.size W2; have hc := True.intro
  go_wp2_with fail
  refine (num_any _ _).mono ?_; rintro e w5 ⟨rfl, rfl⟩
  go_wp2_with fail
  refine (get_is _ (.tuple #[.agg #[.int .i64 a, .int .i64 b, .int .i64 c, .int .i64 d, .int .i64 e], .int .i64 0]) _ (by unfold getV; rw [hp9])).mono ?_; rintro e w6 ⟨rfl, hbw6⟩
  have hzw6 := hbw6.size; (try simp at hzw6)
  have kw6_0_0 : w6.cell? ⟨w.heap.size, 0, none⟩ = some (.int .i64 a) := (hbw6.cell (p := ⟨w.heap.size, 0, none⟩) (by first | omega | (simp; omega) | simp)).trans (by first | (go_simp; done) | ((repeat rw [cell_al (by first | omega | (simp; omega) | simp)]); first | assumption | (go_simp; done)))
  have kw6_0_1 : w6.cell? ⟨w.heap.size, 1, none⟩ = some (.int .i64 b) := (hbw6.cell (p := ⟨w.heap.size, 1, none⟩) (by first | omega | (simp; omega) | simp)).trans (by first | (go_simp; done) | ((repeat rw [cell_al (by first | omega | (simp; omega) | simp)]); first | assumption | (go_simp; done)))
  have kw6_0_2 : w6.cell? ⟨w.heap.size, 2, none⟩ = some (.int .i64 c) := (hbw6.cell (p := ⟨w.heap.size, 2, none⟩) (by first | omega | (simp; omega) | simp)).trans (by first | (go_simp; done) | ((repeat rw [cell_al (by first | omega | (simp; omega) | simp)]); first | assumption | (go_simp; done)))
  have kw6_0_3 : w6.cell? ⟨w.heap.size, 3, none⟩ = some (.int .i64 d) := (hbw6.cell (p := ⟨w.heap.size, 3, none⟩) (by first | omega | (simp; omega) | simp)).trans (by first | (go_simp; done) | ((repeat rw [cell_al (by first | omega | (simp; omega) | simp)]); first | assumption | (go_simp; done)))
  have kw6_0_4 : w6.cell? ⟨w.heap.size, 4, none⟩ = some (.int .i64 e) := (hbw6.cell (p := ⟨w.heap.size, 4, none⟩) (by first | omega | (simp; omega) | simp)).trans (by first | (go_simp; done) | ((repeat rw [cell_al (by first | omega | (simp; omega) | simp)]); first | assumption | (go_simp; done)))
  have hsw6_0 : w.heap.size < w6.heap.size := (by omega)
  have hBw6 : Below w.heap.size w w6 := by
    refine bthen hbw6 ?_ (by first | omega | (simp; omega) | simp)
    repeat (first | exact Below.refl _ _ | (with_reducible assumption) | (refine Below.drew ?_) | (refine Below.setCell ?_ (by first | omega | (simp; omega) | simp) _) | (refine Below.alloc ?_ (by first | omega | (simp; omega) | simp) _) | (refine bthen (by assumption) ?_ (by first | omega | (simp; omega) | simp)))
  have hvw6 := hBw6.size
  clear kW2_0_0 kW2_0_1 kW2_0_2 kW2_0_3 kW2_0_4 zW2_0
  clear hbw6
  go_wp2_with fail
  refine (num_any _ _).mono ?_; rintro e w7 ⟨rfl, rfl⟩
  go_wp2_with fail
  refine (get_is _ (.tuple #[.agg #[.int .i64 g1, .int .i64 g2, .int .i64 g3, .int .i64 g4, .int .i64 g5], .int .i64 0]) _ (by unfold getV; rw [hg])).mono ?_; rintro e w8 ⟨rfl, hbw8⟩
  have hzw8 := hbw8.size; (try simp at hzw8)
  have kw8_0_0 : w8.cell? ⟨w.heap.size, 0, none⟩ = some (.int .i64 a) := (hbw8.cell (p := ⟨w.heap.size, 0, none⟩) (by first | omega | (simp; omega) | simp)).trans (by first | (go_simp; done) | ((repeat rw [cell_al (by first | omega | (simp; omega) | simp)]); first | assumption | (go_simp; done)))
  have kw8_0_1 : w8.cell? ⟨w.heap.size, 1, none⟩ = some (.int .i64 b) := (hbw8.cell (p := ⟨w.heap.size, 1, none⟩) (by first | omega | (simp; omega) | simp)).trans (by first | (go_simp; done) | ((repeat rw [cell_al (by first | omega | (simp; omega) | simp)]); first | assumption | (go_simp; done)))
  have kw8_0_2 : w8.cell? ⟨w.heap.size, 2, none⟩ = some (.int .i64 c) := (hbw8.cell (p := ⟨w.heap.size, 2, none⟩) (by first | omega | (simp; omega) | simp)).trans (by first | (go_simp; done) | ((repeat rw [cell_al (by first | omega | (simp; omega) | simp)]); first | assumption | (go_simp; done)))
  have kw8_0_3 : w8.cell? ⟨w.heap.size, 3, none⟩ = some (.int .i64 d) := (hbw8.cell (p := ⟨w.heap.size, 3, none⟩) (by first | omega | (simp; omega) | simp)).trans (by first | (go_simp; done) | ((repeat rw [cell_al (by first | omega | (simp; omega) | simp)]); first | assumption | (go_simp; done)))
  have kw8_0_4 : w8.cell? ⟨w.heap.size, 4, none⟩ = some (.int .i64 e) := (hbw8.cell (p := ⟨w.heap.size, 4, none⟩) (by first | omega | (simp; omega) | simp)).trans (by first | (go_simp; done) | ((repeat rw [cell_al (by first | omega | (simp; omega) | simp)]); first | assumption | (go_simp; done)))
  have hsw8_0 : w.heap.size < w8.heap.size := (by omega)
  have kw8_1_0 : w8.cell? ⟨w6.heap.size, 0, none⟩ = some (.int .i64 a) := (hbw8.cell (p := ⟨w6.heap.size, 0, none⟩) (by first | omega | (simp; omega) | simp)).trans (by first | (go_simp; done) | ((repeat rw [cell_al (by first | omega | (simp; omega) | simp)]); first | assumption | (go_simp; done)))
  have kw8_1_1 : w8.cell? ⟨w6.heap.size, 1, none⟩ = some (.int .i64 b) := (hbw8.cell (p := ⟨w6.heap.size, 1, none⟩) (by first | omega | (simp; omega) | simp)).trans (by first | (go_simp; done) | ((repeat rw [cell_al (by first | omega | (simp; omega) | simp)]); first | assumption | (go_simp; done)))
  have kw8_1_2 : w8.cell? ⟨w6.heap.size, 2, none⟩ = some (.int .i64 c) := (hbw8.cell (p := ⟨w6.heap.size, 2, none⟩) (by first | omega | (simp; omega) | simp)).trans (by first | (go_simp; done) | ((repeat rw [cell_al (by first | omega | (simp; omega) | simp)]); first | assumption | (go_simp; done)))
  have kw8_1_3 : w8.cell? ⟨w6.heap.size, 3, none⟩ = some (.int .i64 d) := (hbw8.cell (p := ⟨w6.heap.size, 3, none⟩) (by first | omega | (simp; omega) | simp)).trans (by first | (go_simp; done) | ((repeat rw [cell_al (by first | omega | (simp; omega) | simp)]); first | assumption | (go_simp; done)))
  have kw8_1_4 : w8.cell? ⟨w6.heap.size, 4, none⟩ = some (.int .i64 e) := (hbw8.cell (p := ⟨w6.heap.size, 4, none⟩) (by first | omega | (simp; omega) | simp)).trans (by first | (go_simp; done) | ((repeat rw [cell_al (by first | omega | (simp; omega) | simp)]); first | assumption | (go_simp; done)))
  have hsw8_1 : w6.heap.size < w8.heap.size := (by omega)
  have hBw8 : Below w.heap.size w w8 := by
    refine bthen hbw8 ?_ (by first | omega | (simp; omega) | simp)
    repeat (first | exact Below.refl _ _ | (with_reducible assumption) | (refine Below.drew ?_) | (refine Below.setCell ?_ (by first | omega | (simp; omega) | simp) _) | (refine Below.alloc ?_ (by first | omega | (simp; omega) | simp) _) | (refine bthen (by assumption) ?_ (by first | omega | (simp; omega) | simp)))
  have hvw8 := hBw8.size
  clear kw6_0_0 kw6_0_1 kw6_0_2 kw6_0_3 kw6_0_4 hsw6_0 hBw6 hvw6 hzw6
  clear hbw8
  go_wp2_with fail
  refine (num_any _ _).mono ?_; rintro e w9 ⟨rfl, rfl⟩
  go_wp2_with fail
  refine (put_is _ _ _ _ _ _ _ _ hq hq9).mono ?_; rintro e w10 ⟨rfl, hbw10⟩
  have hzw10 := hbw10.size; (try simp at hzw10)
  have kw10_0_0 : w10.cell? ⟨w.heap.size, 0, none⟩ = some (.int .i64 a) := (hbw10.cell (p := ⟨w.heap.size, 0, none⟩) (by first | omega | (simp; omega) | simp)).trans (by first | (go_simp; done) | ((repeat rw [cell_al (by first | omega | (simp; omega) | simp)]); first | assumption | (go_simp; done)))
  have kw10_0_1 : w10.cell? ⟨w.heap.size, 1, none⟩ = some (.int .i64 b) := (hbw10.cell (p := ⟨w.heap.size, 1, none⟩) (by first | omega | (simp; omega) | simp)).trans (by first | (go_simp; done) | ((repeat rw [cell_al (by first | omega | (simp; omega) | simp)]); first | assumption | (go_simp; done)))
  have kw10_0_2 : w10.cell? ⟨w.heap.size, 2, none⟩ = some (.int .i64 c) := (hbw10.cell (p := ⟨w.heap.size, 2, none⟩) (by first | omega | (simp; omega) | simp)).trans (by first | (go_simp; done) | ((repeat rw [cell_al (by first | omega | (simp; omega) | simp)]); first | assumption | (go_simp; done)))
  have kw10_0_3 : w10.cell? ⟨w.heap.size, 3, none⟩ = some (.int .i64 d) := (hbw10.cell (p := ⟨w.heap.size, 3, none⟩) (by first | omega | (simp; omega) | simp)).trans (by first | (go_simp; done) | ((repeat rw [cell_al (by first | omega | (simp; omega) | simp)]); first | assumption | (go_simp; done)))
  have kw10_0_4 : w10.cell? ⟨w.heap.size, 4, none⟩ = some (.int .i64 e) := (hbw10.cell (p := ⟨w.heap.size, 4, none⟩) (by first | omega | (simp; omega) | simp)).trans (by first | (go_simp; done) | ((repeat rw [cell_al (by first | omega | (simp; omega) | simp)]); first | assumption | (go_simp; done)))
  have hsw10_0 : w.heap.size < w10.heap.size := (by omega)
  have kw10_1_0 : w10.cell? ⟨w6.heap.size, 0, none⟩ = some (.int .i64 a) := (hbw10.cell (p := ⟨w6.heap.size, 0, none⟩) (by first | omega | (simp; omega) | simp)).trans (by first | (go_simp; done) | ((repeat rw [cell_al (by first | omega | (simp; omega) | simp)]); first | assumption | (go_simp; done)))
  have kw10_1_1 : w10.cell? ⟨w6.heap.size, 1, none⟩ = some (.int .i64 b) := (hbw10.cell (p := ⟨w6.heap.size, 1, none⟩) (by first | omega | (simp; omega) | simp)).trans (by first | (go_simp; done) | ((repeat rw [cell_al (by first | omega | (simp; omega) | simp)]); first | assumption | (go_simp; done)))
  have kw10_1_2 : w10.cell? ⟨w6.heap.size, 2, none⟩ = some (.int .i64 c) := (hbw10.cell (p := ⟨w6.heap.size, 2, none⟩) (by first | omega | (simp; omega) | simp)).trans (by first | (go_simp; done) | ((repeat rw [cell_al (by first | omega | (simp; omega) | simp)]); first | assumption | (go_simp; done)))
  have kw10_1_3 : w10.cell? ⟨w6.heap.size, 3, none⟩ = some (.int .i64 d) := (hbw10.cell (p := ⟨w6.heap.size, 3, none⟩) (by first | omega | (simp; omega) | simp)).trans (by first | (go_simp; done) | ((repeat rw [cell_al (by first | omega | (simp; omega) | simp)]); first | assumption | (go_simp; done)))
  have kw10_1_4 : w10.cell? ⟨w6.heap.size, 4, none⟩ = some (.int .i64 e) := (hbw10.cell (p := ⟨w6.heap.size, 4, none⟩) (by first | omega | (simp; omega) | simp)).trans (by first | (go_simp; done) | ((repeat rw [cell_al (by first | omega | (simp; omega) | simp)]); first | assumption | (go_simp; done)))
  have hsw10_1 : w6.heap.size < w10.heap.size := (by omega)
  have kw10_2_0 : w10.cell? ⟨w8.heap.size, 0, none⟩ = some (.int .i64 g1) := (hbw10.cell (p := ⟨w8.heap.size, 0, none⟩) (by first | omega | (simp; omega) | simp)).trans (by first | (go_simp; done) | ((repeat rw [cell_al (by first | omega | (simp; omega) | simp)]); first | assumption | (go_simp; done)))
  have kw10_2_1 : w10.cell? ⟨w8.heap.size, 1, none⟩ = some (.int .i64 g2) := (hbw10.cell (p := ⟨w8.heap.size, 1, none⟩) (by first | omega | (simp; omega) | simp)).trans (by first | (go_simp; done) | ((repeat rw [cell_al (by first | omega | (simp; omega) | simp)]); first | assumption | (go_simp; done)))
  have kw10_2_2 : w10.cell? ⟨w8.heap.size, 2, none⟩ = some (.int .i64 g3) := (hbw10.cell (p := ⟨w8.heap.size, 2, none⟩) (by first | omega | (simp; omega) | simp)).trans (by first | (go_simp; done) | ((repeat rw [cell_al (by first | omega | (simp; omega) | simp)]); first | assumption | (go_simp; done)))
  have kw10_2_3 : w10.cell? ⟨w8.heap.size, 3, none⟩ = some (.int .i64 g4) := (hbw10.cell (p := ⟨w8.heap.size, 3, none⟩) (by first | omega | (simp; omega) | simp)).trans (by first | (go_simp; done) | ((repeat rw [cell_al (by first | omega | (simp; omega) | simp)]); first | assumption | (go_simp; done)))
  have kw10_2_4 : w10.cell? ⟨w8.heap.size, 4, none⟩ = some (.int .i64 g5) := (hbw10.cell (p := ⟨w8.heap.size, 4, none⟩) (by first | omega | (simp; omega) | simp)).trans (by first | (go_simp; done) | ((repeat rw [cell_al (by first | omega | (simp; omega) | simp)]); first | assumption | (go_simp; done)))
  have hsw10_2 : w8.heap.size < w10.heap.size := (by omega)
  have hBw10 : Below w.heap.size w w10 := by
    refine bthen hbw10 ?_ (by first | omega | (simp; omega) | simp)
    repeat (first | exact Below.refl _ _ | (with_reducible assumption) | (refine Below.drew ?_) | (refine Below.setCell ?_ (by first | omega | (simp; omega) | simp) _) | (refine Below.alloc ?_ (by first | omega | (simp; omega) | simp) _) | (refine bthen (by assumption) ?_ (by first | omega | (simp; omega) | simp)))
  have hvw10 := hBw10.size
  clear kw8_0_0 kw8_0_1 kw8_0_2 kw8_0_3 kw8_0_4 hsw8_0 kw8_1_0 kw8_1_1 kw8_1_2 kw8_1_3 kw8_1_4 hsw8_1 hBw8 hvw8 hzw8
  clear hbw10
  go_wp2_with fail
  refine (num_any _ _).mono ?_; rintro e w11 ⟨rfl, rfl⟩
  go_wp2
  go_returns
  refine ⟨rfl, ?_⟩
  repeat (first | exact Below.refl _ _ | assumption | (refine Below.drew ?_) | (refine Below.setCell ?_ (by first | omega | (simp; omega) | simp) _) | (refine Below.alloc ?_ (by first | omega | (simp; omega) | simp) _) | (refine bthen (by assumption) ?_ (by first | omega | (simp; omega) | simp)))
set_option maxHeartbeats 8000000 in
theorem walk_yn (a b c d e : Int) (s : ByteArray) (g1 g2 g3 g4 g5 : Int) (p : ByteArray) (pe : Int) (w : World) (hm : mayD a b c d e = true) (hp : putB a b c d e = p) (hpe : putE a b c d e = pe)
    (hpk : pe = if true = true then 0 else 1600) (hp8 : true = true → (p.size : Int) = 8 ∧ getN p = (a, b, c, d, e, 0))
    (hg : getN s = (g1, g2, g3, g4, g5, 1600)) (hq : 1600 = (0 : Int) → putB g1 g2 g3 g4 g5 = s ∧ putE g1 g2 g3 g4 g5 = 0) (hz : 1600 = (1600 : Int) → g1 = 0 ∧ g2 = 0 ∧ g3 = 0 ∧ g4 = 0 ∧ g5 = 0) :
    Calls Try.prog 4 #[.agg #[.int .i64 a, .int .i64 b, .int .i64 c, .int .i64 d, .int .i64 e], .string s] w fun e w' => e = .returned (.bool true) ∧ Below w.heap.size w w' := by
  simp at hpk hp8 hq hz
  subst hpk
  obtain ⟨rfl, rfl, rfl, rfl, rfl⟩ := hz
  obtain ⟨hp8, hp9⟩ := hp8
  go_enter Try.func4, Try.ntmps4
  go_wp2_with fail
  refine (awakeD _).mono ?_; rintro e w0 ⟨rfl, hbw0⟩
  have hzw0 := hbw0.size; (try simp at hzw0)
  have kw0_0_0 : w0.cell? ⟨w.heap.size, 0, none⟩ = some (.int .i64 a) := (hbw0.cell (p := ⟨w.heap.size, 0, none⟩) (by first | omega | (simp; omega) | simp)).trans (by first | (go_simp; done) | ((repeat rw [cell_al (by first | omega | (simp; omega) | simp)]); first | assumption | (go_simp; done)))
  have kw0_0_1 : w0.cell? ⟨w.heap.size, 1, none⟩ = some (.int .i64 b) := (hbw0.cell (p := ⟨w.heap.size, 1, none⟩) (by first | omega | (simp; omega) | simp)).trans (by first | (go_simp; done) | ((repeat rw [cell_al (by first | omega | (simp; omega) | simp)]); first | assumption | (go_simp; done)))
  have kw0_0_2 : w0.cell? ⟨w.heap.size, 2, none⟩ = some (.int .i64 c) := (hbw0.cell (p := ⟨w.heap.size, 2, none⟩) (by first | omega | (simp; omega) | simp)).trans (by first | (go_simp; done) | ((repeat rw [cell_al (by first | omega | (simp; omega) | simp)]); first | assumption | (go_simp; done)))
  have kw0_0_3 : w0.cell? ⟨w.heap.size, 3, none⟩ = some (.int .i64 d) := (hbw0.cell (p := ⟨w.heap.size, 3, none⟩) (by first | omega | (simp; omega) | simp)).trans (by first | (go_simp; done) | ((repeat rw [cell_al (by first | omega | (simp; omega) | simp)]); first | assumption | (go_simp; done)))
  have kw0_0_4 : w0.cell? ⟨w.heap.size, 4, none⟩ = some (.int .i64 e) := (hbw0.cell (p := ⟨w.heap.size, 4, none⟩) (by first | omega | (simp; omega) | simp)).trans (by first | (go_simp; done) | ((repeat rw [cell_al (by first | omega | (simp; omega) | simp)]); first | assumption | (go_simp; done)))
  have hsw0_0 : w.heap.size < w0.heap.size := (by omega)
  have hBw0 : Below w.heap.size w w0 := by
    refine bthen hbw0 ?_ (by first | omega | (simp; omega) | simp)
    repeat (first | exact Below.refl _ _ | (with_reducible assumption) | (refine Below.drew ?_) | (refine Below.setCell ?_ (by first | omega | (simp; omega) | simp) _) | (refine Below.alloc ?_ (by first | omega | (simp; omega) | simp) _) | (refine bthen (by assumption) ?_ (by first | omega | (simp; omega) | simp)))
  have hvw0 := hBw0.size
  clear hbw0
  go_wp2_with fail
  refine (put_is _ _ _ _ _ _ _ _ hp hpe).mono ?_; rintro e w1 ⟨rfl, hbw1⟩
  have hzw1 := hbw1.size; (try simp at hzw1)
  have kw1_0_0 : w1.cell? ⟨w.heap.size, 0, none⟩ = some (.int .i64 a) := (hbw1.cell (p := ⟨w.heap.size, 0, none⟩) (by first | omega | (simp; omega) | simp)).trans (by first | (go_simp; done) | ((repeat rw [cell_al (by first | omega | (simp; omega) | simp)]); first | assumption | (go_simp; done)))
  have kw1_0_1 : w1.cell? ⟨w.heap.size, 1, none⟩ = some (.int .i64 b) := (hbw1.cell (p := ⟨w.heap.size, 1, none⟩) (by first | omega | (simp; omega) | simp)).trans (by first | (go_simp; done) | ((repeat rw [cell_al (by first | omega | (simp; omega) | simp)]); first | assumption | (go_simp; done)))
  have kw1_0_2 : w1.cell? ⟨w.heap.size, 2, none⟩ = some (.int .i64 c) := (hbw1.cell (p := ⟨w.heap.size, 2, none⟩) (by first | omega | (simp; omega) | simp)).trans (by first | (go_simp; done) | ((repeat rw [cell_al (by first | omega | (simp; omega) | simp)]); first | assumption | (go_simp; done)))
  have kw1_0_3 : w1.cell? ⟨w.heap.size, 3, none⟩ = some (.int .i64 d) := (hbw1.cell (p := ⟨w.heap.size, 3, none⟩) (by first | omega | (simp; omega) | simp)).trans (by first | (go_simp; done) | ((repeat rw [cell_al (by first | omega | (simp; omega) | simp)]); first | assumption | (go_simp; done)))
  have kw1_0_4 : w1.cell? ⟨w.heap.size, 4, none⟩ = some (.int .i64 e) := (hbw1.cell (p := ⟨w.heap.size, 4, none⟩) (by first | omega | (simp; omega) | simp)).trans (by first | (go_simp; done) | ((repeat rw [cell_al (by first | omega | (simp; omega) | simp)]); first | assumption | (go_simp; done)))
  have hsw1_0 : w.heap.size < w1.heap.size := (by omega)
  have hBw1 : Below w.heap.size w w1 := by
    refine bthen hbw1 ?_ (by first | omega | (simp; omega) | simp)
    repeat (first | exact Below.refl _ _ | (with_reducible assumption) | (refine Below.drew ?_) | (refine Below.setCell ?_ (by first | omega | (simp; omega) | simp) _) | (refine Below.alloc ?_ (by first | omega | (simp; omega) | simp) _) | (refine bthen (by assumption) ?_ (by first | omega | (simp; omega) | simp)))
  have hvw1 := hBw1.size
  clear kw0_0_0 kw0_0_1 kw0_0_2 kw0_0_3 kw0_0_4 hsw0_0 hBw0 hvw0 hzw0
  clear hbw1
  go_wp2_with fail
  refine name_world fun W hW => ?_
  have kW_0_0 : W.cell? ⟨w.heap.size, 0, none⟩ = some (.int .i64 a) := by rw [hW]; exact (by first | (go_simp; done) | ((repeat rw [cell_al (by first | omega | (simp; omega) | simp)]); first | assumption | (go_simp; done)))
  have kW_0_1 : W.cell? ⟨w.heap.size, 1, none⟩ = some (.int .i64 b) := by rw [hW]; exact (by first | (go_simp; done) | ((repeat rw [cell_al (by first | omega | (simp; omega) | simp)]); first | assumption | (go_simp; done)))
  have kW_0_2 : W.cell? ⟨w.heap.size, 2, none⟩ = some (.int .i64 c) := by rw [hW]; exact (by first | (go_simp; done) | ((repeat rw [cell_al (by first | omega | (simp; omega) | simp)]); first | assumption | (go_simp; done)))
  have kW_0_3 : W.cell? ⟨w.heap.size, 3, none⟩ = some (.int .i64 d) := by rw [hW]; exact (by first | (go_simp; done) | ((repeat rw [cell_al (by first | omega | (simp; omega) | simp)]); first | assumption | (go_simp; done)))
  have kW_0_4 : W.cell? ⟨w.heap.size, 4, none⟩ = some (.int .i64 e) := by rw [hW]; exact (by first | (go_simp; done) | ((repeat rw [cell_al (by first | omega | (simp; omega) | simp)]); first | assumption | (go_simp; done)))
  have zW_0 : w.heap.size < W.heap.size := by rw [hW]; first | omega | (simp; omega) | simp
  have hBW : Below w.heap.size w W := by
    rw [hW]
    repeat (first | exact Below.refl _ _ | assumption | (refine Below.drew ?_) | (refine Below.setCell ?_ (by first | omega | (simp; omega) | simp) _) | (refine Below.alloc ?_ (by first | omega | (simp; omega) | simp) _) | (refine bthen (by assumption) ?_ (by first | omega | (simp; omega) | simp)))
  clear hW kw1_0_0 kw1_0_1 kw1_0_2 kw1_0_3 kw1_0_4 hsw1_0 hBw1 hvw1
  have hvW := hBW.size
  have HS := SW.start W; have hB3 := Below.refl W.heap.size W; have hc := True.intro
  clear HS hc hB3
  refine wp_region_once (S := fun w' => Below W.heap.size W w') (by kernel_rfl) (by kernel_rfl) (Below.refl _ _).drew ?_
  refine' WalkO.op rfl ?hs0 ?hr0
  case hs0 =>
    intro w' hb
    have hc := (bcell hb).1
    have hz' := hb.size
    go_simp
    exact Gives.value ⟨rfl, hb⟩
  simp only [Act.put, List.setIfInBounds_toArray, List.set_cons_zero, List.set_cons_succ, Nat.reduceAdd, Nat.zero_add]
  refine' WalkO.op rfl ?hs1 ?hr1
  case hs1 =>
    intro w' hb
    have hc := (bcell hb).1
    have hz' := hb.size
    go_simp
    refine Gives.enter ?_
    first
    | (go_at_call 11; (with_reducible refine (num_any _ _).mono ?_); rintro e w3 ⟨rfl, rfl⟩; exact ⟨_, rfl, rfl, hb⟩)
    | (go_at_call 12; (with_reducible refine (mayD_is _ _ _ _ _ _ _ hm).mono ?_); rintro e w3 ⟨rfl, hb3⟩; exact ⟨_, rfl, rfl, bthen hb3 hb hb.size⟩)
  simp only [Act.put, List.setIfInBounds_toArray, List.set_cons_zero, List.set_cons_succ, Nat.reduceAdd, Nat.zero_add]
  refine' WalkO.op rfl ?hs2 ?hr2
  case hs2 =>
    intro w' hb
    have hc := (bcell hb).1
    have hz' := hb.size
    go_simp
    exact Gives.value ⟨rfl, hb⟩
  simp only [Act.put, List.setIfInBounds_toArray, List.set_cons_zero, List.set_cons_succ, Nat.reduceAdd, Nat.zero_add]
  refine' WalkO.op rfl ?hs3 ?hr3
  case hs3 =>
    intro w' hb
    have hc := (bcell hb).1
    have hz' := hb.size
    go_simp
    exact Gives.value ⟨rfl, hb⟩
  simp only [Act.put, List.setIfInBounds_toArray, List.set_cons_zero, List.set_cons_succ, Nat.reduceAdd, Nat.zero_add]
  refine' WalkO.op rfl ?hs4 ?hr4
  case hs4 =>
    intro w' hb
    have hc := (bcell hb).1
    have hz' := hb.size
    go_simp
    refine Gives.enter ?_
    first
    | (go_at_call 11; (with_reducible refine (num_any _ _).mono ?_); rintro e w3 ⟨rfl, rfl⟩; exact ⟨_, rfl, rfl, hb⟩)
    | (go_at_call 12; (with_reducible refine (mayD_is _ _ _ _ _ _ _ hm).mono ?_); rintro e w3 ⟨rfl, hb3⟩; exact ⟨_, rfl, rfl, bthen hb3 hb hb.size⟩)
  simp only [Act.put, List.setIfInBounds_toArray, List.set_cons_zero, List.set_cons_succ, Nat.reduceAdd, Nat.zero_add]
  refine' WalkO.op rfl ?hs5 ?hr5
  case hs5 =>
    intro w' hb
    have hc := (bcell hb).1
    have hz' := hb.size
    go_simp
    exact Gives.value ⟨rfl, hb⟩
  simp only [Act.put, List.setIfInBounds_toArray, List.set_cons_zero, List.set_cons_succ, Nat.reduceAdd, Nat.zero_add]
  refine' WalkO.op rfl ?hs6 ?hr6
  case hs6 =>
    intro w' hb
    have hc := (bcell hb).1
    have hz' := hb.size
    go_simp
    exact Gives.value ⟨rfl, hb⟩
  simp only [Act.put, List.setIfInBounds_toArray, List.set_cons_zero, List.set_cons_succ, Nat.reduceAdd, Nat.zero_add]
  first
  | refine WalkO.opU rfl rfl rfl ?_; simp only [Act.put, List.setIfInBounds_toArray, List.set_cons_zero, List.set_cons_succ, Nat.reduceAdd, Nat.zero_add]
  | refine' WalkO.opT rfl rfl rfl ?hs7 ?hr7
    case hs7 =>
      intro w' hb
      have hc := (bcell hb).1
      have hz' := hb.size
      go_simp
      exact Gives.value ⟨rfl, hb⟩
    simp only [Act.put, List.setIfInBounds_toArray, List.set_cons_zero, List.set_cons_succ, Nat.reduceAdd, Nat.zero_add]
  first
  | refine WalkO.opU rfl rfl rfl ?_; simp only [Act.put, List.setIfInBounds_toArray, List.set_cons_zero, List.set_cons_succ, Nat.reduceAdd, Nat.zero_add]
  | refine' WalkO.opT rfl rfl rfl ?hs8 ?hr8
    case hs8 =>
      intro w' hb
      have hc := (bcell hb).1
      have hz' := hb.size
      go_simp
      refine Gives.enter ?_
      first
      | (go_at_call 11; (with_reducible refine (num_any _ _).mono ?_); rintro e w3 ⟨rfl, rfl⟩; exact ⟨_, rfl, rfl, hb⟩)
      | (go_at_call 12; (with_reducible refine (mayD_is _ _ _ _ _ _ _ hm).mono ?_); rintro e w3 ⟨rfl, hb3⟩; exact ⟨_, rfl, rfl, bthen hb3 hb hb.size⟩)
    simp only [Act.put, List.setIfInBounds_toArray, List.set_cons_zero, List.set_cons_succ, Nat.reduceAdd, Nat.zero_add]
  first
  | refine WalkO.opU rfl rfl rfl ?_; simp only [Act.put, List.setIfInBounds_toArray, List.set_cons_zero, List.set_cons_succ, Nat.reduceAdd, Nat.zero_add]
  | refine' WalkO.opT rfl rfl rfl ?hs9 ?hr9
    case hs9 =>
      intro w' hb
      have hc := (bcell hb).1
      have hz' := hb.size
      go_simp
      exact Gives.value ⟨rfl, hb⟩
    simp only [Act.put, List.setIfInBounds_toArray, List.set_cons_zero, List.set_cons_succ, Nat.reduceAdd, Nat.zero_add]
  first
  | refine WalkO.opU rfl rfl rfl ?_; simp only [Act.put, List.setIfInBounds_toArray, List.set_cons_zero, List.set_cons_succ, Nat.reduceAdd, Nat.zero_add]
  | refine' WalkO.opT rfl rfl rfl ?hs10 ?hr10
    case hs10 =>
      intro w' hb
      have hc := (bcell hb).1
      have hz' := hb.size
      go_simp
      exact Gives.value ⟨rfl, hb⟩
    simp only [Act.put, List.setIfInBounds_toArray, List.set_cons_zero, List.set_cons_succ, Nat.reduceAdd, Nat.zero_add]
  first
  | refine WalkO.opU rfl rfl rfl ?_; simp only [Act.put, List.setIfInBounds_toArray, List.set_cons_zero, List.set_cons_succ, Nat.reduceAdd, Nat.zero_add]
  | refine' WalkO.opT rfl rfl rfl ?hs11 ?hr11
    case hs11 =>
      intro w' hb
      have hc := (bcell hb).1
      have hz' := hb.size
      go_simp
      exact Gives.value ⟨rfl, hb⟩
    simp only [Act.put, List.setIfInBounds_toArray, List.set_cons_zero, List.set_cons_succ, Nat.reduceAdd, Nat.zero_add]
  first
  | refine WalkO.opU rfl rfl rfl ?_; simp only [Act.put, List.setIfInBounds_toArray, List.set_cons_zero, List.set_cons_succ, Nat.reduceAdd, Nat.zero_add]
  | refine' WalkO.opT rfl rfl rfl ?hs12 ?hr12
    case hs12 =>
      intro w' hb
      have hc := (bcell hb).1
      have hz' := hb.size
      go_simp
      exact Gives.value ⟨rfl, hb⟩
    simp only [Act.put, List.setIfInBounds_toArray, List.set_cons_zero, List.set_cons_succ, Nat.reduceAdd, Nat.zero_add]
  first
  | refine WalkO.opU rfl rfl rfl ?_; simp only [Act.put, List.setIfInBounds_toArray, List.set_cons_zero, List.set_cons_succ, Nat.reduceAdd, Nat.zero_add]
  | refine' WalkO.opT rfl rfl rfl ?hs13 ?hr13
    case hs13 =>
      intro w' hb
      have hc := (bcell hb).1
      have hz' := hb.size
      go_simp
      exact Gives.value ⟨rfl, hb⟩
    simp only [Act.put, List.setIfInBounds_toArray, List.set_cons_zero, List.set_cons_succ, Nat.reduceAdd, Nat.zero_add]
  first
  | refine WalkO.opU rfl rfl rfl ?_; simp only [Act.put, List.setIfInBounds_toArray, List.set_cons_zero, List.set_cons_succ, Nat.reduceAdd, Nat.zero_add]
  | refine' WalkO.opT rfl rfl rfl ?hs14 ?hr14
    case hs14 =>
      intro w' hb
      have hc := (bcell hb).1
      have hz' := hb.size
      go_simp
      exact Gives.value ⟨rfl, hb⟩
    simp only [Act.put, List.setIfInBounds_toArray, List.set_cons_zero, List.set_cons_succ, Nat.reduceAdd, Nat.zero_add]
  refine' WalkO.op rfl ?hs15 ?hr15
  case hs15 =>
    intro w' hb
    have hc := (bcell hb).1
    have hz' := hb.size
    go_simp
    exact Gives.value ⟨rfl, hb⟩
  simp only [Act.put, List.setIfInBounds_toArray, List.set_cons_zero, List.set_cons_succ, Nat.reduceAdd, Nat.zero_add]
  refine WalkO.stop (fun W2 hb => ?_)
  have zW2_0 : w.heap.size < W2.heap.size := Nat.lt_of_lt_of_le zW_0 hb.size
  have kW2_0_0 := (hb.cell (p := ⟨w.heap.size, 0, none⟩) zW_0).trans kW_0_0
  have kW2_0_1 := (hb.cell (p := ⟨w.heap.size, 1, none⟩) zW_0).trans kW_0_1
  have kW2_0_2 := (hb.cell (p := ⟨w.heap.size, 2, none⟩) zW_0).trans kW_0_2
  have kW2_0_3 := (hb.cell (p := ⟨w.heap.size, 3, none⟩) zW_0).trans kW_0_3
  have kW2_0_4 := (hb.cell (p := ⟨w.heap.size, 4, none⟩) zW_0).trans kW_0_4
  have hBW2 : Below w.heap.size w W2 := bthen hb hBW hBW.size
  have hvW2 := hBW2.size; have hvvW2 := hb.size
  clear hb hBW kW_0_0 kW_0_1 kW_0_2 kW_0_3 kW_0_4 zW_0
  have HS := SW.start W2; have hB3 := Below.refl W2.heap.size W2; have hc := True.intro
  go_wp2_with fail
  refine (num_any _ _).mono ?_; rintro e w5 ⟨rfl, rfl⟩
  go_wp2_with fail
  refine (get_is _ (.tuple #[.agg #[.int .i64 a, .int .i64 b, .int .i64 c, .int .i64 d, .int .i64 e], .int .i64 0]) _ (by unfold getV; rw [hp9])).mono ?_; rintro e w6 ⟨rfl, hbw6⟩
  have hzw6 := hbw6.size; (try simp at hzw6)
  have kw6_0_0 : w6.cell? ⟨w.heap.size, 0, none⟩ = some (.int .i64 a) := (hbw6.cell (p := ⟨w.heap.size, 0, none⟩) (by first | omega | (simp; omega) | simp)).trans (by first | (go_simp; done) | ((repeat rw [cell_al (by first | omega | (simp; omega) | simp)]); first | assumption | (go_simp; done)))
  have kw6_0_1 : w6.cell? ⟨w.heap.size, 1, none⟩ = some (.int .i64 b) := (hbw6.cell (p := ⟨w.heap.size, 1, none⟩) (by first | omega | (simp; omega) | simp)).trans (by first | (go_simp; done) | ((repeat rw [cell_al (by first | omega | (simp; omega) | simp)]); first | assumption | (go_simp; done)))
  have kw6_0_2 : w6.cell? ⟨w.heap.size, 2, none⟩ = some (.int .i64 c) := (hbw6.cell (p := ⟨w.heap.size, 2, none⟩) (by first | omega | (simp; omega) | simp)).trans (by first | (go_simp; done) | ((repeat rw [cell_al (by first | omega | (simp; omega) | simp)]); first | assumption | (go_simp; done)))
  have kw6_0_3 : w6.cell? ⟨w.heap.size, 3, none⟩ = some (.int .i64 d) := (hbw6.cell (p := ⟨w.heap.size, 3, none⟩) (by first | omega | (simp; omega) | simp)).trans (by first | (go_simp; done) | ((repeat rw [cell_al (by first | omega | (simp; omega) | simp)]); first | assumption | (go_simp; done)))
  have kw6_0_4 : w6.cell? ⟨w.heap.size, 4, none⟩ = some (.int .i64 e) := (hbw6.cell (p := ⟨w.heap.size, 4, none⟩) (by first | omega | (simp; omega) | simp)).trans (by first | (go_simp; done) | ((repeat rw [cell_al (by first | omega | (simp; omega) | simp)]); first | assumption | (go_simp; done)))
  have hsw6_0 : w.heap.size < w6.heap.size := (by omega)
  have hBw6 : Below w.heap.size w w6 := by
    refine bthen hbw6 ?_ (by first | omega | (simp; omega) | simp)
    repeat (first | exact Below.refl _ _ | (with_reducible assumption) | (refine Below.drew ?_) | (refine Below.setCell ?_ (by first | omega | (simp; omega) | simp) _) | (refine Below.alloc ?_ (by first | omega | (simp; omega) | simp) _) | (refine bthen (by assumption) ?_ (by first | omega | (simp; omega) | simp)))
  have hvw6 := hBw6.size
  clear kW2_0_0 kW2_0_1 kW2_0_2 kW2_0_3 kW2_0_4 zW2_0
  clear hbw6
  go_wp2_with fail
  refine (num_any _ _).mono ?_; rintro e w7 ⟨rfl, rfl⟩
  go_wp2_with fail
  refine (get_is _ (.tuple #[.agg #[.int .i64 0, .int .i64 0, .int .i64 0, .int .i64 0, .int .i64 0], .int .i64 1600]) _ (by unfold getV; rw [hg])).mono ?_; rintro e w8 ⟨rfl, hbw8⟩
  have hzw8 := hbw8.size; (try simp at hzw8)
  have kw8_0_0 : w8.cell? ⟨w.heap.size, 0, none⟩ = some (.int .i64 a) := (hbw8.cell (p := ⟨w.heap.size, 0, none⟩) (by first | omega | (simp; omega) | simp)).trans (by first | (go_simp; done) | ((repeat rw [cell_al (by first | omega | (simp; omega) | simp)]); first | assumption | (go_simp; done)))
  have kw8_0_1 : w8.cell? ⟨w.heap.size, 1, none⟩ = some (.int .i64 b) := (hbw8.cell (p := ⟨w.heap.size, 1, none⟩) (by first | omega | (simp; omega) | simp)).trans (by first | (go_simp; done) | ((repeat rw [cell_al (by first | omega | (simp; omega) | simp)]); first | assumption | (go_simp; done)))
  have kw8_0_2 : w8.cell? ⟨w.heap.size, 2, none⟩ = some (.int .i64 c) := (hbw8.cell (p := ⟨w.heap.size, 2, none⟩) (by first | omega | (simp; omega) | simp)).trans (by first | (go_simp; done) | ((repeat rw [cell_al (by first | omega | (simp; omega) | simp)]); first | assumption | (go_simp; done)))
  have kw8_0_3 : w8.cell? ⟨w.heap.size, 3, none⟩ = some (.int .i64 d) := (hbw8.cell (p := ⟨w.heap.size, 3, none⟩) (by first | omega | (simp; omega) | simp)).trans (by first | (go_simp; done) | ((repeat rw [cell_al (by first | omega | (simp; omega) | simp)]); first | assumption | (go_simp; done)))
  have kw8_0_4 : w8.cell? ⟨w.heap.size, 4, none⟩ = some (.int .i64 e) := (hbw8.cell (p := ⟨w.heap.size, 4, none⟩) (by first | omega | (simp; omega) | simp)).trans (by first | (go_simp; done) | ((repeat rw [cell_al (by first | omega | (simp; omega) | simp)]); first | assumption | (go_simp; done)))
  have hsw8_0 : w.heap.size < w8.heap.size := (by omega)
  have kw8_1_0 : w8.cell? ⟨w6.heap.size, 0, none⟩ = some (.int .i64 a) := (hbw8.cell (p := ⟨w6.heap.size, 0, none⟩) (by first | omega | (simp; omega) | simp)).trans (by first | (go_simp; done) | ((repeat rw [cell_al (by first | omega | (simp; omega) | simp)]); first | assumption | (go_simp; done)))
  have kw8_1_1 : w8.cell? ⟨w6.heap.size, 1, none⟩ = some (.int .i64 b) := (hbw8.cell (p := ⟨w6.heap.size, 1, none⟩) (by first | omega | (simp; omega) | simp)).trans (by first | (go_simp; done) | ((repeat rw [cell_al (by first | omega | (simp; omega) | simp)]); first | assumption | (go_simp; done)))
  have kw8_1_2 : w8.cell? ⟨w6.heap.size, 2, none⟩ = some (.int .i64 c) := (hbw8.cell (p := ⟨w6.heap.size, 2, none⟩) (by first | omega | (simp; omega) | simp)).trans (by first | (go_simp; done) | ((repeat rw [cell_al (by first | omega | (simp; omega) | simp)]); first | assumption | (go_simp; done)))
  have kw8_1_3 : w8.cell? ⟨w6.heap.size, 3, none⟩ = some (.int .i64 d) := (hbw8.cell (p := ⟨w6.heap.size, 3, none⟩) (by first | omega | (simp; omega) | simp)).trans (by first | (go_simp; done) | ((repeat rw [cell_al (by first | omega | (simp; omega) | simp)]); first | assumption | (go_simp; done)))
  have kw8_1_4 : w8.cell? ⟨w6.heap.size, 4, none⟩ = some (.int .i64 e) := (hbw8.cell (p := ⟨w6.heap.size, 4, none⟩) (by first | omega | (simp; omega) | simp)).trans (by first | (go_simp; done) | ((repeat rw [cell_al (by first | omega | (simp; omega) | simp)]); first | assumption | (go_simp; done)))
  have hsw8_1 : w6.heap.size < w8.heap.size := (by omega)
  have hBw8 : Below w.heap.size w w8 := by
    refine bthen hbw8 ?_ (by first | omega | (simp; omega) | simp)
    repeat (first | exact Below.refl _ _ | (with_reducible assumption) | (refine Below.drew ?_) | (refine Below.setCell ?_ (by first | omega | (simp; omega) | simp) _) | (refine Below.alloc ?_ (by first | omega | (simp; omega) | simp) _) | (refine bthen (by assumption) ?_ (by first | omega | (simp; omega) | simp)))
  have hvw8 := hBw8.size
  clear kw6_0_0 kw6_0_1 kw6_0_2 kw6_0_3 kw6_0_4 hsw6_0 hBw6 hvw6 hzw6
  clear hbw8
  go_wp2_with fail
  refine (num_any _ _).mono ?_; rintro e w9 ⟨rfl, rfl⟩
  go_wp2
  go_returns
  refine ⟨rfl, ?_⟩
  repeat (first | exact Below.refl _ _ | assumption | (refine Below.drew ?_) | (refine Below.setCell ?_ (by first | omega | (simp; omega) | simp) _) | (refine Below.alloc ?_ (by first | omega | (simp; omega) | simp) _) | (refine bthen (by assumption) ?_ (by first | omega | (simp; omega) | simp)))
set_option maxHeartbeats 8000000 in
theorem walk_ny (a b c d e : Int) (s : ByteArray) (g1 g2 g3 g4 g5 : Int) (p : ByteArray) (pe : Int) (w : World) (hm : mayD a b c d e = false) (hp : putB a b c d e = p) (hpe : putE a b c d e = pe)
    (hpk : pe = if false = true then 0 else 1600) (hp8 : false = true → (p.size : Int) = 8 ∧ getN p = (a, b, c, d, e, 0))
    (hg : getN s = (g1, g2, g3, g4, g5, 0)) (hq : 0 = (0 : Int) → putB g1 g2 g3 g4 g5 = s ∧ putE g1 g2 g3 g4 g5 = 0) (hz : 0 = (1600 : Int) → g1 = 0 ∧ g2 = 0 ∧ g3 = 0 ∧ g4 = 0 ∧ g5 = 0) :
    Calls Try.prog 4 #[.agg #[.int .i64 a, .int .i64 b, .int .i64 c, .int .i64 d, .int .i64 e], .string s] w fun e w' => e = .returned (.bool true) ∧ Below w.heap.size w w' := by
  simp at hpk hp8 hq hz
  subst hpk
  obtain ⟨hq, hq9⟩ := hq
  go_enter Try.func4, Try.ntmps4
  go_wp2_with fail
  refine (awakeD _).mono ?_; rintro e w0 ⟨rfl, hbw0⟩
  have hzw0 := hbw0.size; (try simp at hzw0)
  have kw0_0_0 : w0.cell? ⟨w.heap.size, 0, none⟩ = some (.int .i64 a) := (hbw0.cell (p := ⟨w.heap.size, 0, none⟩) (by first | omega | (simp; omega) | simp)).trans (by first | (go_simp; done) | ((repeat rw [cell_al (by first | omega | (simp; omega) | simp)]); first | assumption | (go_simp; done)))
  have kw0_0_1 : w0.cell? ⟨w.heap.size, 1, none⟩ = some (.int .i64 b) := (hbw0.cell (p := ⟨w.heap.size, 1, none⟩) (by first | omega | (simp; omega) | simp)).trans (by first | (go_simp; done) | ((repeat rw [cell_al (by first | omega | (simp; omega) | simp)]); first | assumption | (go_simp; done)))
  have kw0_0_2 : w0.cell? ⟨w.heap.size, 2, none⟩ = some (.int .i64 c) := (hbw0.cell (p := ⟨w.heap.size, 2, none⟩) (by first | omega | (simp; omega) | simp)).trans (by first | (go_simp; done) | ((repeat rw [cell_al (by first | omega | (simp; omega) | simp)]); first | assumption | (go_simp; done)))
  have kw0_0_3 : w0.cell? ⟨w.heap.size, 3, none⟩ = some (.int .i64 d) := (hbw0.cell (p := ⟨w.heap.size, 3, none⟩) (by first | omega | (simp; omega) | simp)).trans (by first | (go_simp; done) | ((repeat rw [cell_al (by first | omega | (simp; omega) | simp)]); first | assumption | (go_simp; done)))
  have kw0_0_4 : w0.cell? ⟨w.heap.size, 4, none⟩ = some (.int .i64 e) := (hbw0.cell (p := ⟨w.heap.size, 4, none⟩) (by first | omega | (simp; omega) | simp)).trans (by first | (go_simp; done) | ((repeat rw [cell_al (by first | omega | (simp; omega) | simp)]); first | assumption | (go_simp; done)))
  have hsw0_0 : w.heap.size < w0.heap.size := (by omega)
  have hBw0 : Below w.heap.size w w0 := by
    refine bthen hbw0 ?_ (by first | omega | (simp; omega) | simp)
    repeat (first | exact Below.refl _ _ | (with_reducible assumption) | (refine Below.drew ?_) | (refine Below.setCell ?_ (by first | omega | (simp; omega) | simp) _) | (refine Below.alloc ?_ (by first | omega | (simp; omega) | simp) _) | (refine bthen (by assumption) ?_ (by first | omega | (simp; omega) | simp)))
  have hvw0 := hBw0.size
  clear hbw0
  go_wp2_with fail
  refine (put_is _ _ _ _ _ _ _ _ hp hpe).mono ?_; rintro e w1 ⟨rfl, hbw1⟩
  have hzw1 := hbw1.size; (try simp at hzw1)
  have kw1_0_0 : w1.cell? ⟨w.heap.size, 0, none⟩ = some (.int .i64 a) := (hbw1.cell (p := ⟨w.heap.size, 0, none⟩) (by first | omega | (simp; omega) | simp)).trans (by first | (go_simp; done) | ((repeat rw [cell_al (by first | omega | (simp; omega) | simp)]); first | assumption | (go_simp; done)))
  have kw1_0_1 : w1.cell? ⟨w.heap.size, 1, none⟩ = some (.int .i64 b) := (hbw1.cell (p := ⟨w.heap.size, 1, none⟩) (by first | omega | (simp; omega) | simp)).trans (by first | (go_simp; done) | ((repeat rw [cell_al (by first | omega | (simp; omega) | simp)]); first | assumption | (go_simp; done)))
  have kw1_0_2 : w1.cell? ⟨w.heap.size, 2, none⟩ = some (.int .i64 c) := (hbw1.cell (p := ⟨w.heap.size, 2, none⟩) (by first | omega | (simp; omega) | simp)).trans (by first | (go_simp; done) | ((repeat rw [cell_al (by first | omega | (simp; omega) | simp)]); first | assumption | (go_simp; done)))
  have kw1_0_3 : w1.cell? ⟨w.heap.size, 3, none⟩ = some (.int .i64 d) := (hbw1.cell (p := ⟨w.heap.size, 3, none⟩) (by first | omega | (simp; omega) | simp)).trans (by first | (go_simp; done) | ((repeat rw [cell_al (by first | omega | (simp; omega) | simp)]); first | assumption | (go_simp; done)))
  have kw1_0_4 : w1.cell? ⟨w.heap.size, 4, none⟩ = some (.int .i64 e) := (hbw1.cell (p := ⟨w.heap.size, 4, none⟩) (by first | omega | (simp; omega) | simp)).trans (by first | (go_simp; done) | ((repeat rw [cell_al (by first | omega | (simp; omega) | simp)]); first | assumption | (go_simp; done)))
  have hsw1_0 : w.heap.size < w1.heap.size := (by omega)
  have hBw1 : Below w.heap.size w w1 := by
    refine bthen hbw1 ?_ (by first | omega | (simp; omega) | simp)
    repeat (first | exact Below.refl _ _ | (with_reducible assumption) | (refine Below.drew ?_) | (refine Below.setCell ?_ (by first | omega | (simp; omega) | simp) _) | (refine Below.alloc ?_ (by first | omega | (simp; omega) | simp) _) | (refine bthen (by assumption) ?_ (by first | omega | (simp; omega) | simp)))
  have hvw1 := hBw1.size
  clear kw0_0_0 kw0_0_1 kw0_0_2 kw0_0_3 kw0_0_4 hsw0_0 hBw0 hvw0 hzw0
  clear hbw1
  go_wp2_with fail
  refine name_world fun W hW => ?_
  have kW_0_0 : W.cell? ⟨w.heap.size, 0, none⟩ = some (.int .i64 a) := by rw [hW]; exact (by first | (go_simp; done) | ((repeat rw [cell_al (by first | omega | (simp; omega) | simp)]); first | assumption | (go_simp; done)))
  have kW_0_1 : W.cell? ⟨w.heap.size, 1, none⟩ = some (.int .i64 b) := by rw [hW]; exact (by first | (go_simp; done) | ((repeat rw [cell_al (by first | omega | (simp; omega) | simp)]); first | assumption | (go_simp; done)))
  have kW_0_2 : W.cell? ⟨w.heap.size, 2, none⟩ = some (.int .i64 c) := by rw [hW]; exact (by first | (go_simp; done) | ((repeat rw [cell_al (by first | omega | (simp; omega) | simp)]); first | assumption | (go_simp; done)))
  have kW_0_3 : W.cell? ⟨w.heap.size, 3, none⟩ = some (.int .i64 d) := by rw [hW]; exact (by first | (go_simp; done) | ((repeat rw [cell_al (by first | omega | (simp; omega) | simp)]); first | assumption | (go_simp; done)))
  have kW_0_4 : W.cell? ⟨w.heap.size, 4, none⟩ = some (.int .i64 e) := by rw [hW]; exact (by first | (go_simp; done) | ((repeat rw [cell_al (by first | omega | (simp; omega) | simp)]); first | assumption | (go_simp; done)))
  have zW_0 : w.heap.size < W.heap.size := by rw [hW]; first | omega | (simp; omega) | simp
  have hBW : Below w.heap.size w W := by
    rw [hW]
    repeat (first | exact Below.refl _ _ | assumption | (refine Below.drew ?_) | (refine Below.setCell ?_ (by first | omega | (simp; omega) | simp) _) | (refine Below.alloc ?_ (by first | omega | (simp; omega) | simp) _) | (refine bthen (by assumption) ?_ (by first | omega | (simp; omega) | simp)))
  clear hW kw1_0_0 kw1_0_1 kw1_0_2 kw1_0_3 kw1_0_4 hsw1_0 hBw1 hvw1
  have hvW := hBW.size
  have HS := SW.start W; have hB3 := Below.refl W.heap.size W; have hc := True.intro
  clear HS hc hB3
  refine wp_region_once (S := fun w' => Below W.heap.size W w') (by kernel_rfl) (by kernel_rfl) (Below.refl _ _).drew ?_
  refine' WalkO.op rfl ?hs0 ?hr0
  case hs0 =>
    intro w' hb
    have hc := (bcell hb).1
    have hz' := hb.size
    go_simp
    exact Gives.value ⟨rfl, hb⟩
  simp only [Act.put, List.setIfInBounds_toArray, List.set_cons_zero, List.set_cons_succ, Nat.reduceAdd, Nat.zero_add]
  refine' WalkO.op rfl ?hs1 ?hr1
  case hs1 =>
    intro w' hb
    have hc := (bcell hb).1
    have hz' := hb.size
    go_simp
    refine Gives.enter ?_
    first
    | (go_at_call 11; (with_reducible refine (num_any _ _).mono ?_); rintro e w3 ⟨rfl, rfl⟩; exact ⟨_, rfl, rfl, hb⟩)
    | (go_at_call 12; (with_reducible refine (mayD_is _ _ _ _ _ _ _ hm).mono ?_); rintro e w3 ⟨rfl, hb3⟩; exact ⟨_, rfl, rfl, bthen hb3 hb hb.size⟩)
  simp only [Act.put, List.setIfInBounds_toArray, List.set_cons_zero, List.set_cons_succ, Nat.reduceAdd, Nat.zero_add]
  refine' WalkO.op rfl ?hs2 ?hr2
  case hs2 =>
    intro w' hb
    have hc := (bcell hb).1
    have hz' := hb.size
    go_simp
    exact Gives.value ⟨rfl, hb⟩
  simp only [Act.put, List.setIfInBounds_toArray, List.set_cons_zero, List.set_cons_succ, Nat.reduceAdd, Nat.zero_add]
  refine' WalkO.op rfl ?hs3 ?hr3
  case hs3 =>
    intro w' hb
    have hc := (bcell hb).1
    have hz' := hb.size
    go_simp
    exact Gives.value ⟨rfl, hb⟩
  simp only [Act.put, List.setIfInBounds_toArray, List.set_cons_zero, List.set_cons_succ, Nat.reduceAdd, Nat.zero_add]
  refine' WalkO.op rfl ?hs4 ?hr4
  case hs4 =>
    intro w' hb
    have hc := (bcell hb).1
    have hz' := hb.size
    go_simp
    refine Gives.enter ?_
    first
    | (go_at_call 11; (with_reducible refine (num_any _ _).mono ?_); rintro e w3 ⟨rfl, rfl⟩; exact ⟨_, rfl, rfl, hb⟩)
    | (go_at_call 12; (with_reducible refine (mayD_is _ _ _ _ _ _ _ hm).mono ?_); rintro e w3 ⟨rfl, hb3⟩; exact ⟨_, rfl, rfl, bthen hb3 hb hb.size⟩)
  simp only [Act.put, List.setIfInBounds_toArray, List.set_cons_zero, List.set_cons_succ, Nat.reduceAdd, Nat.zero_add]
  refine' WalkO.op rfl ?hs5 ?hr5
  case hs5 =>
    intro w' hb
    have hc := (bcell hb).1
    have hz' := hb.size
    go_simp
    exact Gives.value ⟨rfl, hb⟩
  simp only [Act.put, List.setIfInBounds_toArray, List.set_cons_zero, List.set_cons_succ, Nat.reduceAdd, Nat.zero_add]
  refine' WalkO.op rfl ?hs6 ?hr6
  case hs6 =>
    intro w' hb
    have hc := (bcell hb).1
    have hz' := hb.size
    go_simp
    exact Gives.value ⟨rfl, hb⟩
  simp only [Act.put, List.setIfInBounds_toArray, List.set_cons_zero, List.set_cons_succ, Nat.reduceAdd, Nat.zero_add]
  first
  | refine WalkO.opU rfl rfl rfl ?_; simp only [Act.put, List.setIfInBounds_toArray, List.set_cons_zero, List.set_cons_succ, Nat.reduceAdd, Nat.zero_add]
  | refine' WalkO.opT rfl rfl rfl ?hs7 ?hr7
    case hs7 =>
      intro w' hb
      have hc := (bcell hb).1
      have hz' := hb.size
      go_simp
      exact Gives.value ⟨rfl, hb⟩
    simp only [Act.put, List.setIfInBounds_toArray, List.set_cons_zero, List.set_cons_succ, Nat.reduceAdd, Nat.zero_add]
  first
  | refine WalkO.opU rfl rfl rfl ?_; simp only [Act.put, List.setIfInBounds_toArray, List.set_cons_zero, List.set_cons_succ, Nat.reduceAdd, Nat.zero_add]
  | refine' WalkO.opT rfl rfl rfl ?hs8 ?hr8
    case hs8 =>
      intro w' hb
      have hc := (bcell hb).1
      have hz' := hb.size
      go_simp
      refine Gives.enter ?_
      first
      | (go_at_call 11; (with_reducible refine (num_any _ _).mono ?_); rintro e w3 ⟨rfl, rfl⟩; exact ⟨_, rfl, rfl, hb⟩)
      | (go_at_call 12; (with_reducible refine (mayD_is _ _ _ _ _ _ _ hm).mono ?_); rintro e w3 ⟨rfl, hb3⟩; exact ⟨_, rfl, rfl, bthen hb3 hb hb.size⟩)
    simp only [Act.put, List.setIfInBounds_toArray, List.set_cons_zero, List.set_cons_succ, Nat.reduceAdd, Nat.zero_add]
  first
  | refine WalkO.opU rfl rfl rfl ?_; simp only [Act.put, List.setIfInBounds_toArray, List.set_cons_zero, List.set_cons_succ, Nat.reduceAdd, Nat.zero_add]
  | refine' WalkO.opT rfl rfl rfl ?hs9 ?hr9
    case hs9 =>
      intro w' hb
      have hc := (bcell hb).1
      have hz' := hb.size
      go_simp
      exact Gives.value ⟨rfl, hb⟩
    simp only [Act.put, List.setIfInBounds_toArray, List.set_cons_zero, List.set_cons_succ, Nat.reduceAdd, Nat.zero_add]
  first
  | refine WalkO.opU rfl rfl rfl ?_; simp only [Act.put, List.setIfInBounds_toArray, List.set_cons_zero, List.set_cons_succ, Nat.reduceAdd, Nat.zero_add]
  | refine' WalkO.opT rfl rfl rfl ?hs10 ?hr10
    case hs10 =>
      intro w' hb
      have hc := (bcell hb).1
      have hz' := hb.size
      go_simp
      exact Gives.value ⟨rfl, hb⟩
    simp only [Act.put, List.setIfInBounds_toArray, List.set_cons_zero, List.set_cons_succ, Nat.reduceAdd, Nat.zero_add]
  first
  | refine WalkO.opU rfl rfl rfl ?_; simp only [Act.put, List.setIfInBounds_toArray, List.set_cons_zero, List.set_cons_succ, Nat.reduceAdd, Nat.zero_add]
  | refine' WalkO.opT rfl rfl rfl ?hs11 ?hr11
    case hs11 =>
      intro w' hb
      have hc := (bcell hb).1
      have hz' := hb.size
      go_simp
      exact Gives.value ⟨rfl, hb⟩
    simp only [Act.put, List.setIfInBounds_toArray, List.set_cons_zero, List.set_cons_succ, Nat.reduceAdd, Nat.zero_add]
  first
  | refine WalkO.opU rfl rfl rfl ?_; simp only [Act.put, List.setIfInBounds_toArray, List.set_cons_zero, List.set_cons_succ, Nat.reduceAdd, Nat.zero_add]
  | refine' WalkO.opT rfl rfl rfl ?hs12 ?hr12
    case hs12 =>
      intro w' hb
      have hc := (bcell hb).1
      have hz' := hb.size
      go_simp
      exact Gives.value ⟨rfl, hb⟩
    simp only [Act.put, List.setIfInBounds_toArray, List.set_cons_zero, List.set_cons_succ, Nat.reduceAdd, Nat.zero_add]
  first
  | refine WalkO.opU rfl rfl rfl ?_; simp only [Act.put, List.setIfInBounds_toArray, List.set_cons_zero, List.set_cons_succ, Nat.reduceAdd, Nat.zero_add]
  | refine' WalkO.opT rfl rfl rfl ?hs13 ?hr13
    case hs13 =>
      intro w' hb
      have hc := (bcell hb).1
      have hz' := hb.size
      go_simp
      exact Gives.value ⟨rfl, hb⟩
    simp only [Act.put, List.setIfInBounds_toArray, List.set_cons_zero, List.set_cons_succ, Nat.reduceAdd, Nat.zero_add]
  first
  | refine WalkO.opU rfl rfl rfl ?_; simp only [Act.put, List.setIfInBounds_toArray, List.set_cons_zero, List.set_cons_succ, Nat.reduceAdd, Nat.zero_add]
  | refine' WalkO.opT rfl rfl rfl ?hs14 ?hr14
    case hs14 =>
      intro w' hb
      have hc := (bcell hb).1
      have hz' := hb.size
      go_simp
      exact Gives.value ⟨rfl, hb⟩
    simp only [Act.put, List.setIfInBounds_toArray, List.set_cons_zero, List.set_cons_succ, Nat.reduceAdd, Nat.zero_add]
  refine' WalkO.op rfl ?hs15 ?hr15
  case hs15 =>
    intro w' hb
    have hc := (bcell hb).1
    have hz' := hb.size
    go_simp
    exact Gives.value ⟨rfl, hb⟩
  simp only [Act.put, List.setIfInBounds_toArray, List.set_cons_zero, List.set_cons_succ, Nat.reduceAdd, Nat.zero_add]
  refine WalkO.stop (fun W2 hb => ?_)
  have zW2_0 : w.heap.size < W2.heap.size := Nat.lt_of_lt_of_le zW_0 hb.size
  have kW2_0_0 := (hb.cell (p := ⟨w.heap.size, 0, none⟩) zW_0).trans kW_0_0
  have kW2_0_1 := (hb.cell (p := ⟨w.heap.size, 1, none⟩) zW_0).trans kW_0_1
  have kW2_0_2 := (hb.cell (p := ⟨w.heap.size, 2, none⟩) zW_0).trans kW_0_2
  have kW2_0_3 := (hb.cell (p := ⟨w.heap.size, 3, none⟩) zW_0).trans kW_0_3
  have kW2_0_4 := (hb.cell (p := ⟨w.heap.size, 4, none⟩) zW_0).trans kW_0_4
  have hBW2 : Below w.heap.size w W2 := bthen hb hBW hBW.size
  have hvW2 := hBW2.size; have hvvW2 := hb.size
  clear hb hBW kW_0_0 kW_0_1 kW_0_2 kW_0_3 kW_0_4 zW_0
  have HS := SW.start W2; have hB3 := Below.refl W2.heap.size W2; have hc := True.intro
  go_wp2_with fail
  refine (num_any _ _).mono ?_; rintro e w5 ⟨rfl, rfl⟩
  go_wp2_with fail
  refine (get_is _ (.tuple #[.agg #[.int .i64 g1, .int .i64 g2, .int .i64 g3, .int .i64 g4, .int .i64 g5], .int .i64 0]) _ (by unfold getV; rw [hg])).mono ?_; rintro e w8 ⟨rfl, hbw8⟩
  have hzw8 := hbw8.size; (try simp at hzw8)
  have kw8_0_0 : w8.cell? ⟨w.heap.size, 0, none⟩ = some (.int .i64 a) := (hbw8.cell (p := ⟨w.heap.size, 0, none⟩) (by first | omega | (simp; omega) | simp)).trans (by first | (go_simp; done) | ((repeat rw [cell_al (by first | omega | (simp; omega) | simp)]); first | assumption | (go_simp; done)))
  have kw8_0_1 : w8.cell? ⟨w.heap.size, 1, none⟩ = some (.int .i64 b) := (hbw8.cell (p := ⟨w.heap.size, 1, none⟩) (by first | omega | (simp; omega) | simp)).trans (by first | (go_simp; done) | ((repeat rw [cell_al (by first | omega | (simp; omega) | simp)]); first | assumption | (go_simp; done)))
  have kw8_0_2 : w8.cell? ⟨w.heap.size, 2, none⟩ = some (.int .i64 c) := (hbw8.cell (p := ⟨w.heap.size, 2, none⟩) (by first | omega | (simp; omega) | simp)).trans (by first | (go_simp; done) | ((repeat rw [cell_al (by first | omega | (simp; omega) | simp)]); first | assumption | (go_simp; done)))
  have kw8_0_3 : w8.cell? ⟨w.heap.size, 3, none⟩ = some (.int .i64 d) := (hbw8.cell (p := ⟨w.heap.size, 3, none⟩) (by first | omega | (simp; omega) | simp)).trans (by first | (go_simp; done) | ((repeat rw [cell_al (by first | omega | (simp; omega) | simp)]); first | assumption | (go_simp; done)))
  have kw8_0_4 : w8.cell? ⟨w.heap.size, 4, none⟩ = some (.int .i64 e) := (hbw8.cell (p := ⟨w.heap.size, 4, none⟩) (by first | omega | (simp; omega) | simp)).trans (by first | (go_simp; done) | ((repeat rw [cell_al (by first | omega | (simp; omega) | simp)]); first | assumption | (go_simp; done)))
  have hsw8_0 : w.heap.size < w8.heap.size := (by omega)
  have hBw8 : Below w.heap.size w w8 := by
    refine bthen hbw8 ?_ (by first | omega | (simp; omega) | simp)
    repeat (first | exact Below.refl _ _ | (with_reducible assumption) | (refine Below.drew ?_) | (refine Below.setCell ?_ (by first | omega | (simp; omega) | simp) _) | (refine Below.alloc ?_ (by first | omega | (simp; omega) | simp) _) | (refine bthen (by assumption) ?_ (by first | omega | (simp; omega) | simp)))
  have hvw8 := hBw8.size
  clear kW2_0_0 kW2_0_1 kW2_0_2 kW2_0_3 kW2_0_4 zW2_0
  clear hbw8
  go_wp2_with fail
  refine (num_any _ _).mono ?_; rintro e w9 ⟨rfl, rfl⟩
  go_wp2_with fail
  refine (put_is _ _ _ _ _ _ _ _ hq hq9).mono ?_; rintro e w10 ⟨rfl, hbw10⟩
  have hzw10 := hbw10.size; (try simp at hzw10)
  have kw10_0_0 : w10.cell? ⟨w.heap.size, 0, none⟩ = some (.int .i64 a) := (hbw10.cell (p := ⟨w.heap.size, 0, none⟩) (by first | omega | (simp; omega) | simp)).trans (by first | (go_simp; done) | ((repeat rw [cell_al (by first | omega | (simp; omega) | simp)]); first | assumption | (go_simp; done)))
  have kw10_0_1 : w10.cell? ⟨w.heap.size, 1, none⟩ = some (.int .i64 b) := (hbw10.cell (p := ⟨w.heap.size, 1, none⟩) (by first | omega | (simp; omega) | simp)).trans (by first | (go_simp; done) | ((repeat rw [cell_al (by first | omega | (simp; omega) | simp)]); first | assumption | (go_simp; done)))
  have kw10_0_2 : w10.cell? ⟨w.heap.size, 2, none⟩ = some (.int .i64 c) := (hbw10.cell (p := ⟨w.heap.size, 2, none⟩) (by first | omega | (simp; omega) | simp)).trans (by first | (go_simp; done) | ((repeat rw [cell_al (by first | omega | (simp; omega) | simp)]); first | assumption | (go_simp; done)))
  have kw10_0_3 : w10.cell? ⟨w.heap.size, 3, none⟩ = some (.int .i64 d) := (hbw10.cell (p := ⟨w.heap.size, 3, none⟩) (by first | omega | (simp; omega) | simp)).trans (by first | (go_simp; done) | ((repeat rw [cell_al (by first | omega | (simp; omega) | simp)]); first | assumption | (go_simp; done)))
  have kw10_0_4 : w10.cell? ⟨w.heap.size, 4, none⟩ = some (.int .i64 e) := (hbw10.cell (p := ⟨w.heap.size, 4, none⟩) (by first | omega | (simp; omega) | simp)).trans (by first | (go_simp; done) | ((repeat rw [cell_al (by first | omega | (simp; omega) | simp)]); first | assumption | (go_simp; done)))
  have hsw10_0 : w.heap.size < w10.heap.size := (by omega)
  have kw10_1_0 : w10.cell? ⟨w8.heap.size, 0, none⟩ = some (.int .i64 g1) := (hbw10.cell (p := ⟨w8.heap.size, 0, none⟩) (by first | omega | (simp; omega) | simp)).trans (by first | (go_simp; done) | ((repeat rw [cell_al (by first | omega | (simp; omega) | simp)]); first | assumption | (go_simp; done)))
  have kw10_1_1 : w10.cell? ⟨w8.heap.size, 1, none⟩ = some (.int .i64 g2) := (hbw10.cell (p := ⟨w8.heap.size, 1, none⟩) (by first | omega | (simp; omega) | simp)).trans (by first | (go_simp; done) | ((repeat rw [cell_al (by first | omega | (simp; omega) | simp)]); first | assumption | (go_simp; done)))
  have kw10_1_2 : w10.cell? ⟨w8.heap.size, 2, none⟩ = some (.int .i64 g3) := (hbw10.cell (p := ⟨w8.heap.size, 2, none⟩) (by first | omega | (simp; omega) | simp)).trans (by first | (go_simp; done) | ((repeat rw [cell_al (by first | omega | (simp; omega) | simp)]); first | assumption | (go_simp; done)))
  have kw10_1_3 : w10.cell? ⟨w8.heap.size, 3, none⟩ = some (.int .i64 g4) := (hbw10.cell (p := ⟨w8.heap.size, 3, none⟩) (by first | omega | (simp; omega) | simp)).trans (by first | (go_simp; done) | ((repeat rw [cell_al (by first | omega | (simp; omega) | simp)]); first | assumption | (go_simp; done)))
  have kw10_1_4 : w10.cell? ⟨w8.heap.size, 4, none⟩ = some (.int .i64 g5) := (hbw10.cell (p := ⟨w8.heap.size, 4, none⟩) (by first | omega | (simp; omega) | simp)).trans (by first | (go_simp; done) | ((repeat rw [cell_al (by first | omega | (simp; omega) | simp)]); first | assumption | (go_simp; done)))
  have hsw10_1 : w8.heap.size < w10.heap.size := (by omega)
  have hBw10 : Below w.heap.size w w10 := by
    refine bthen hbw10 ?_ (by first | omega | (simp; omega) | simp)
    repeat (first | exact Below.refl _ _ | (with_reducible assumption) | (refine Below.drew ?_) | (refine Below.setCell ?_ (by first | omega | (simp; omega) | simp) _) | (refine Below.alloc ?_ (by first | omega | (simp; omega) | simp) _) | (refine bthen (by assumption) ?_ (by first | omega | (simp; omega) | simp)))
  have hvw10 := hBw10.size
  clear kw8_0_0 kw8_0_1 kw8_0_2 kw8_0_3 kw8_0_4 hsw8_0 hBw8 hvw8 hzw8
  clear hbw10
  go_wp2_with fail
  refine (num_any _ _).mono ?_; rintro e w11 ⟨rfl, rfl⟩
  go_wp2
  go_returns
  refine ⟨rfl, ?_⟩
  repeat (first | exact Below.refl _ _ | assumption | (refine Below.drew ?_) | (refine Below.setCell ?_ (by first | omega | (simp; omega) | simp) _) | (refine Below.alloc ?_ (by first | omega | (simp; omega) | simp) _) | (refine bthen (by assumption) ?_ (by first | omega | (simp; omega) | simp)))
set_option maxHeartbeats 8000000 in
theorem walk_nn (a b c d e : Int) (s : ByteArray) (g1 g2 g3 g4 g5 : Int) (p : ByteArray) (pe : Int) (w : World) (hm : mayD a b c d e = false) (hp : putB a b c d e = p) (hpe : putE a b c d e = pe)
    (hpk : pe = if false = true then 0 else 1600) (hp8 : false = true → (p.size : Int) = 8 ∧ getN p = (a, b, c, d, e, 0))
    (hg : getN s = (g1, g2, g3, g4, g5, 1600)) (hq : 1600 = (0 : Int) → putB g1 g2 g3 g4 g5 = s ∧ putE g1 g2 g3 g4 g5 = 0) (hz : 1600 = (1600 : Int) → g1 = 0 ∧ g2 = 0 ∧ g3 = 0 ∧ g4 = 0 ∧ g5 = 0) :
    Calls Try.prog 4 #[.agg #[.int .i64 a, .int .i64 b, .int .i64 c, .int .i64 d, .int .i64 e], .string s] w fun e w' => e = .returned (.bool true) ∧ Below w.heap.size w w' := by
  simp at hpk hp8 hq hz
  subst hpk
  obtain ⟨rfl, rfl, rfl, rfl, rfl⟩ := hz
  go_enter Try.func4, Try.ntmps4
  go_wp2_with fail
  refine (awakeD _).mono ?_; rintro e w0 ⟨rfl, hbw0⟩
  have hzw0 := hbw0.size; (try simp at hzw0)
  have kw0_0_0 : w0.cell? ⟨w.heap.size, 0, none⟩ = some (.int .i64 a) := (hbw0.cell (p := ⟨w.heap.size, 0, none⟩) (by first | omega | (simp; omega) | simp)).trans (by first | (go_simp; done) | ((repeat rw [cell_al (by first | omega | (simp; omega) | simp)]); first | assumption | (go_simp; done)))
  have kw0_0_1 : w0.cell? ⟨w.heap.size, 1, none⟩ = some (.int .i64 b) := (hbw0.cell (p := ⟨w.heap.size, 1, none⟩) (by first | omega | (simp; omega) | simp)).trans (by first | (go_simp; done) | ((repeat rw [cell_al (by first | omega | (simp; omega) | simp)]); first | assumption | (go_simp; done)))
  have kw0_0_2 : w0.cell? ⟨w.heap.size, 2, none⟩ = some (.int .i64 c) := (hbw0.cell (p := ⟨w.heap.size, 2, none⟩) (by first | omega | (simp; omega) | simp)).trans (by first | (go_simp; done) | ((repeat rw [cell_al (by first | omega | (simp; omega) | simp)]); first | assumption | (go_simp; done)))
  have kw0_0_3 : w0.cell? ⟨w.heap.size, 3, none⟩ = some (.int .i64 d) := (hbw0.cell (p := ⟨w.heap.size, 3, none⟩) (by first | omega | (simp; omega) | simp)).trans (by first | (go_simp; done) | ((repeat rw [cell_al (by first | omega | (simp; omega) | simp)]); first | assumption | (go_simp; done)))
  have kw0_0_4 : w0.cell? ⟨w.heap.size, 4, none⟩ = some (.int .i64 e) := (hbw0.cell (p := ⟨w.heap.size, 4, none⟩) (by first | omega | (simp; omega) | simp)).trans (by first | (go_simp; done) | ((repeat rw [cell_al (by first | omega | (simp; omega) | simp)]); first | assumption | (go_simp; done)))
  have hsw0_0 : w.heap.size < w0.heap.size := (by omega)
  have hBw0 : Below w.heap.size w w0 := by
    refine bthen hbw0 ?_ (by first | omega | (simp; omega) | simp)
    repeat (first | exact Below.refl _ _ | (with_reducible assumption) | (refine Below.drew ?_) | (refine Below.setCell ?_ (by first | omega | (simp; omega) | simp) _) | (refine Below.alloc ?_ (by first | omega | (simp; omega) | simp) _) | (refine bthen (by assumption) ?_ (by first | omega | (simp; omega) | simp)))
  have hvw0 := hBw0.size
  clear hbw0
  go_wp2_with fail
  refine (put_is _ _ _ _ _ _ _ _ hp hpe).mono ?_; rintro e w1 ⟨rfl, hbw1⟩
  have hzw1 := hbw1.size; (try simp at hzw1)
  have kw1_0_0 : w1.cell? ⟨w.heap.size, 0, none⟩ = some (.int .i64 a) := (hbw1.cell (p := ⟨w.heap.size, 0, none⟩) (by first | omega | (simp; omega) | simp)).trans (by first | (go_simp; done) | ((repeat rw [cell_al (by first | omega | (simp; omega) | simp)]); first | assumption | (go_simp; done)))
  have kw1_0_1 : w1.cell? ⟨w.heap.size, 1, none⟩ = some (.int .i64 b) := (hbw1.cell (p := ⟨w.heap.size, 1, none⟩) (by first | omega | (simp; omega) | simp)).trans (by first | (go_simp; done) | ((repeat rw [cell_al (by first | omega | (simp; omega) | simp)]); first | assumption | (go_simp; done)))
  have kw1_0_2 : w1.cell? ⟨w.heap.size, 2, none⟩ = some (.int .i64 c) := (hbw1.cell (p := ⟨w.heap.size, 2, none⟩) (by first | omega | (simp; omega) | simp)).trans (by first | (go_simp; done) | ((repeat rw [cell_al (by first | omega | (simp; omega) | simp)]); first | assumption | (go_simp; done)))
  have kw1_0_3 : w1.cell? ⟨w.heap.size, 3, none⟩ = some (.int .i64 d) := (hbw1.cell (p := ⟨w.heap.size, 3, none⟩) (by first | omega | (simp; omega) | simp)).trans (by first | (go_simp; done) | ((repeat rw [cell_al (by first | omega | (simp; omega) | simp)]); first | assumption | (go_simp; done)))
  have kw1_0_4 : w1.cell? ⟨w.heap.size, 4, none⟩ = some (.int .i64 e) := (hbw1.cell (p := ⟨w.heap.size, 4, none⟩) (by first | omega | (simp; omega) | simp)).trans (by first | (go_simp; done) | ((repeat rw [cell_al (by first | omega | (simp; omega) | simp)]); first | assumption | (go_simp; done)))
  have hsw1_0 : w.heap.size < w1.heap.size := (by omega)
  have hBw1 : Below w.heap.size w w1 := by
    refine bthen hbw1 ?_ (by first | omega | (simp; omega) | simp)
    repeat (first | exact Below.refl _ _ | (with_reducible assumption) | (refine Below.drew ?_) | (refine Below.setCell ?_ (by first | omega | (simp; omega) | simp) _) | (refine Below.alloc ?_ (by first | omega | (simp; omega) | simp) _) | (refine bthen (by assumption) ?_ (by first | omega | (simp; omega) | simp)))
  have hvw1 := hBw1.size
  clear kw0_0_0 kw0_0_1 kw0_0_2 kw0_0_3 kw0_0_4 hsw0_0 hBw0 hvw0 hzw0
  clear hbw1
  go_wp2_with fail
  refine name_world fun W hW => ?_
  have kW_0_0 : W.cell? ⟨w.heap.size, 0, none⟩ = some (.int .i64 a) := by rw [hW]; exact (by first | (go_simp; done) | ((repeat rw [cell_al (by first | omega | (simp; omega) | simp)]); first | assumption | (go_simp; done)))
  have kW_0_1 : W.cell? ⟨w.heap.size, 1, none⟩ = some (.int .i64 b) := by rw [hW]; exact (by first | (go_simp; done) | ((repeat rw [cell_al (by first | omega | (simp; omega) | simp)]); first | assumption | (go_simp; done)))
  have kW_0_2 : W.cell? ⟨w.heap.size, 2, none⟩ = some (.int .i64 c) := by rw [hW]; exact (by first | (go_simp; done) | ((repeat rw [cell_al (by first | omega | (simp; omega) | simp)]); first | assumption | (go_simp; done)))
  have kW_0_3 : W.cell? ⟨w.heap.size, 3, none⟩ = some (.int .i64 d) := by rw [hW]; exact (by first | (go_simp; done) | ((repeat rw [cell_al (by first | omega | (simp; omega) | simp)]); first | assumption | (go_simp; done)))
  have kW_0_4 : W.cell? ⟨w.heap.size, 4, none⟩ = some (.int .i64 e) := by rw [hW]; exact (by first | (go_simp; done) | ((repeat rw [cell_al (by first | omega | (simp; omega) | simp)]); first | assumption | (go_simp; done)))
  have zW_0 : w.heap.size < W.heap.size := by rw [hW]; first | omega | (simp; omega) | simp
  have hBW : Below w.heap.size w W := by
    rw [hW]
    repeat (first | exact Below.refl _ _ | assumption | (refine Below.drew ?_) | (refine Below.setCell ?_ (by first | omega | (simp; omega) | simp) _) | (refine Below.alloc ?_ (by first | omega | (simp; omega) | simp) _) | (refine bthen (by assumption) ?_ (by first | omega | (simp; omega) | simp)))
  clear hW kw1_0_0 kw1_0_1 kw1_0_2 kw1_0_3 kw1_0_4 hsw1_0 hBw1 hvw1
  have hvW := hBW.size
  have HS := SW.start W; have hB3 := Below.refl W.heap.size W; have hc := True.intro
  clear HS hc hB3
  refine wp_region_once (S := fun w' => Below W.heap.size W w') (by kernel_rfl) (by kernel_rfl) (Below.refl _ _).drew ?_
  refine' WalkO.op rfl ?hs0 ?hr0
  case hs0 =>
    intro w' hb
    have hc := (bcell hb).1
    have hz' := hb.size
    go_simp
    exact Gives.value ⟨rfl, hb⟩
  simp only [Act.put, List.setIfInBounds_toArray, List.set_cons_zero, List.set_cons_succ, Nat.reduceAdd, Nat.zero_add]
  refine' WalkO.op rfl ?hs1 ?hr1
  case hs1 =>
    intro w' hb
    have hc := (bcell hb).1
    have hz' := hb.size
    go_simp
    refine Gives.enter ?_
    first
    | (go_at_call 11; (with_reducible refine (num_any _ _).mono ?_); rintro e w3 ⟨rfl, rfl⟩; exact ⟨_, rfl, rfl, hb⟩)
    | (go_at_call 12; (with_reducible refine (mayD_is _ _ _ _ _ _ _ hm).mono ?_); rintro e w3 ⟨rfl, hb3⟩; exact ⟨_, rfl, rfl, bthen hb3 hb hb.size⟩)
  simp only [Act.put, List.setIfInBounds_toArray, List.set_cons_zero, List.set_cons_succ, Nat.reduceAdd, Nat.zero_add]
  refine' WalkO.op rfl ?hs2 ?hr2
  case hs2 =>
    intro w' hb
    have hc := (bcell hb).1
    have hz' := hb.size
    go_simp
    exact Gives.value ⟨rfl, hb⟩
  simp only [Act.put, List.setIfInBounds_toArray, List.set_cons_zero, List.set_cons_succ, Nat.reduceAdd, Nat.zero_add]
  refine' WalkO.op rfl ?hs3 ?hr3
  case hs3 =>
    intro w' hb
    have hc := (bcell hb).1
    have hz' := hb.size
    go_simp
    exact Gives.value ⟨rfl, hb⟩
  simp only [Act.put, List.setIfInBounds_toArray, List.set_cons_zero, List.set_cons_succ, Nat.reduceAdd, Nat.zero_add]
  refine' WalkO.op rfl ?hs4 ?hr4
  case hs4 =>
    intro w' hb
    have hc := (bcell hb).1
    have hz' := hb.size
    go_simp
    refine Gives.enter ?_
    first
    | (go_at_call 11; (with_reducible refine (num_any _ _).mono ?_); rintro e w3 ⟨rfl, rfl⟩; exact ⟨_, rfl, rfl, hb⟩)
    | (go_at_call 12; (with_reducible refine (mayD_is _ _ _ _ _ _ _ hm).mono ?_); rintro e w3 ⟨rfl, hb3⟩; exact ⟨_, rfl, rfl, bthen hb3 hb hb.size⟩)
  simp only [Act.put, List.setIfInBounds_toArray, List.set_cons_zero, List.set_cons_succ, Nat.reduceAdd, Nat.zero_add]
  refine' WalkO.op rfl ?hs5 ?hr5
  case hs5 =>
    intro w' hb
    have hc := (bcell hb).1
    have hz' := hb.size
    go_simp
    exact Gives.value ⟨rfl, hb⟩
  simp only [Act.put, List.setIfInBounds_toArray, List.set_cons_zero, List.set_cons_succ, Nat.reduceAdd, Nat.zero_add]
  refine' WalkO.op rfl ?hs6 ?hr6
  case hs6 =>
    intro w' hb
    have hc := (bcell hb).1
    have hz' := hb.size
    go_simp
    exact Gives.value ⟨rfl, hb⟩
  simp only [Act.put, List.setIfInBounds_toArray, List.set_cons_zero, List.set_cons_succ, Nat.reduceAdd, Nat.zero_add]
  first
  | refine WalkO.opU rfl rfl rfl ?_; simp only [Act.put, List.setIfInBounds_toArray, List.set_cons_zero, List.set_cons_succ, Nat.reduceAdd, Nat.zero_add]
  | refine' WalkO.opT rfl rfl rfl ?hs7 ?hr7
    case hs7 =>
      intro w' hb
      have hc := (bcell hb).1
      have hz' := hb.size
      go_simp
      exact Gives.value ⟨rfl, hb⟩
    simp only [Act.put, List.setIfInBounds_toArray, List.set_cons_zero, List.set_cons_succ, Nat.reduceAdd, Nat.zero_add]
  first
  | refine WalkO.opU rfl rfl rfl ?_; simp only [Act.put, List.setIfInBounds_toArray, List.set_cons_zero, List.set_cons_succ, Nat.reduceAdd, Nat.zero_add]
  | refine' WalkO.opT rfl rfl rfl ?hs8 ?hr8
    case hs8 =>
      intro w' hb
      have hc := (bcell hb).1
      have hz' := hb.size
      go_simp
      refine Gives.enter ?_
      first
      | (go_at_call 11; (with_reducible refine (num_any _ _).mono ?_); rintro e w3 ⟨rfl, rfl⟩; exact ⟨_, rfl, rfl, hb⟩)
      | (go_at_call 12; (with_reducible refine (mayD_is _ _ _ _ _ _ _ hm).mono ?_); rintro e w3 ⟨rfl, hb3⟩; exact ⟨_, rfl, rfl, bthen hb3 hb hb.size⟩)
    simp only [Act.put, List.setIfInBounds_toArray, List.set_cons_zero, List.set_cons_succ, Nat.reduceAdd, Nat.zero_add]
  first
  | refine WalkO.opU rfl rfl rfl ?_; simp only [Act.put, List.setIfInBounds_toArray, List.set_cons_zero, List.set_cons_succ, Nat.reduceAdd, Nat.zero_add]
  | refine' WalkO.opT rfl rfl rfl ?hs9 ?hr9
    case hs9 =>
      intro w' hb
      have hc := (bcell hb).1
      have hz' := hb.size
      go_simp
      exact Gives.value ⟨rfl, hb⟩
    simp only [Act.put, List.setIfInBounds_toArray, List.set_cons_zero, List.set_cons_succ, Nat.reduceAdd, Nat.zero_add]
  first
  | refine WalkO.opU rfl rfl rfl ?_; simp only [Act.put, List.setIfInBounds_toArray, List.set_cons_zero, List.set_cons_succ, Nat.reduceAdd, Nat.zero_add]
  | refine' WalkO.opT rfl rfl rfl ?hs10 ?hr10
    case hs10 =>
      intro w' hb
      have hc := (bcell hb).1
      have hz' := hb.size
      go_simp
      exact Gives.value ⟨rfl, hb⟩
    simp only [Act.put, List.setIfInBounds_toArray, List.set_cons_zero, List.set_cons_succ, Nat.reduceAdd, Nat.zero_add]
  first
  | refine WalkO.opU rfl rfl rfl ?_; simp only [Act.put, List.setIfInBounds_toArray, List.set_cons_zero, List.set_cons_succ, Nat.reduceAdd, Nat.zero_add]
  | refine' WalkO.opT rfl rfl rfl ?hs11 ?hr11
    case hs11 =>
      intro w' hb
      have hc := (bcell hb).1
      have hz' := hb.size
      go_simp
      exact Gives.value ⟨rfl, hb⟩
    simp only [Act.put, List.setIfInBounds_toArray, List.set_cons_zero, List.set_cons_succ, Nat.reduceAdd, Nat.zero_add]
  first
  | refine WalkO.opU rfl rfl rfl ?_; simp only [Act.put, List.setIfInBounds_toArray, List.set_cons_zero, List.set_cons_succ, Nat.reduceAdd, Nat.zero_add]
  | refine' WalkO.opT rfl rfl rfl ?hs12 ?hr12
    case hs12 =>
      intro w' hb
      have hc := (bcell hb).1
      have hz' := hb.size
      go_simp
      exact Gives.value ⟨rfl, hb⟩
    simp only [Act.put, List.setIfInBounds_toArray, List.set_cons_zero, List.set_cons_succ, Nat.reduceAdd, Nat.zero_add]
  first
  | refine WalkO.opU rfl rfl rfl ?_; simp only [Act.put, List.setIfInBounds_toArray, List.set_cons_zero, List.set_cons_succ, Nat.reduceAdd, Nat.zero_add]
  | refine' WalkO.opT rfl rfl rfl ?hs13 ?hr13
    case hs13 =>
      intro w' hb
      have hc := (bcell hb).1
      have hz' := hb.size
      go_simp
      exact Gives.value ⟨rfl, hb⟩
    simp only [Act.put, List.setIfInBounds_toArray, List.set_cons_zero, List.set_cons_succ, Nat.reduceAdd, Nat.zero_add]
  first
  | refine WalkO.opU rfl rfl rfl ?_; simp only [Act.put, List.setIfInBounds_toArray, List.set_cons_zero, List.set_cons_succ, Nat.reduceAdd, Nat.zero_add]
  | refine' WalkO.opT rfl rfl rfl ?hs14 ?hr14
    case hs14 =>
      intro w' hb
      have hc := (bcell hb).1
      have hz' := hb.size
      go_simp
      exact Gives.value ⟨rfl, hb⟩
    simp only [Act.put, List.setIfInBounds_toArray, List.set_cons_zero, List.set_cons_succ, Nat.reduceAdd, Nat.zero_add]
  refine' WalkO.op rfl ?hs15 ?hr15
  case hs15 =>
    intro w' hb
    have hc := (bcell hb).1
    have hz' := hb.size
    go_simp
    exact Gives.value ⟨rfl, hb⟩
  simp only [Act.put, List.setIfInBounds_toArray, List.set_cons_zero, List.set_cons_succ, Nat.reduceAdd, Nat.zero_add]
  refine WalkO.stop (fun W2 hb => ?_)
  have zW2_0 : w.heap.size < W2.heap.size := Nat.lt_of_lt_of_le zW_0 hb.size
  have kW2_0_0 := (hb.cell (p := ⟨w.heap.size, 0, none⟩) zW_0).trans kW_0_0
  have kW2_0_1 := (hb.cell (p := ⟨w.heap.size, 1, none⟩) zW_0).trans kW_0_1
  have kW2_0_2 := (hb.cell (p := ⟨w.heap.size, 2, none⟩) zW_0).trans kW_0_2
  have kW2_0_3 := (hb.cell (p := ⟨w.heap.size, 3, none⟩) zW_0).trans kW_0_3
  have kW2_0_4 := (hb.cell (p := ⟨w.heap.size, 4, none⟩) zW_0).trans kW_0_4
  have hBW2 : Below w.heap.size w W2 := bthen hb hBW hBW.size
  have hvW2 := hBW2.size; have hvvW2 := hb.size
  clear hb hBW kW_0_0 kW_0_1 kW_0_2 kW_0_3 kW_0_4 zW_0
  have HS := SW.start W2; have hB3 := Below.refl W2.heap.size W2; have hc := True.intro
  go_wp2_with fail
  refine (num_any _ _).mono ?_; rintro e w5 ⟨rfl, rfl⟩
  go_wp2_with fail
  refine (get_is _ (.tuple #[.agg #[.int .i64 0, .int .i64 0, .int .i64 0, .int .i64 0, .int .i64 0], .int .i64 1600]) _ (by unfold getV; rw [hg])).mono ?_; rintro e w8 ⟨rfl, hbw8⟩
  have hzw8 := hbw8.size; (try simp at hzw8)
  have kw8_0_0 : w8.cell? ⟨w.heap.size, 0, none⟩ = some (.int .i64 a) := (hbw8.cell (p := ⟨w.heap.size, 0, none⟩) (by first | omega | (simp; omega) | simp)).trans (by first | (go_simp; done) | ((repeat rw [cell_al (by first | omega | (simp; omega) | simp)]); first | assumption | (go_simp; done)))
  have kw8_0_1 : w8.cell? ⟨w.heap.size, 1, none⟩ = some (.int .i64 b) := (hbw8.cell (p := ⟨w.heap.size, 1, none⟩) (by first | omega | (simp; omega) | simp)).trans (by first | (go_simp; done) | ((repeat rw [cell_al (by first | omega | (simp; omega) | simp)]); first | assumption | (go_simp; done)))
  have kw8_0_2 : w8.cell? ⟨w.heap.size, 2, none⟩ = some (.int .i64 c) := (hbw8.cell (p := ⟨w.heap.size, 2, none⟩) (by first | omega | (simp; omega) | simp)).trans (by first | (go_simp; done) | ((repeat rw [cell_al (by first | omega | (simp; omega) | simp)]); first | assumption | (go_simp; done)))
  have kw8_0_3 : w8.cell? ⟨w.heap.size, 3, none⟩ = some (.int .i64 d) := (hbw8.cell (p := ⟨w.heap.size, 3, none⟩) (by first | omega | (simp; omega) | simp)).trans (by first | (go_simp; done) | ((repeat rw [cell_al (by first | omega | (simp; omega) | simp)]); first | assumption | (go_simp; done)))
  have kw8_0_4 : w8.cell? ⟨w.heap.size, 4, none⟩ = some (.int .i64 e) := (hbw8.cell (p := ⟨w.heap.size, 4, none⟩) (by first | omega | (simp; omega) | simp)).trans (by first | (go_simp; done) | ((repeat rw [cell_al (by first | omega | (simp; omega) | simp)]); first | assumption | (go_simp; done)))
  have hsw8_0 : w.heap.size < w8.heap.size := (by omega)
  have hBw8 : Below w.heap.size w w8 := by
    refine bthen hbw8 ?_ (by first | omega | (simp; omega) | simp)
    repeat (first | exact Below.refl _ _ | (with_reducible assumption) | (refine Below.drew ?_) | (refine Below.setCell ?_ (by first | omega | (simp; omega) | simp) _) | (refine Below.alloc ?_ (by first | omega | (simp; omega) | simp) _) | (refine bthen (by assumption) ?_ (by first | omega | (simp; omega) | simp)))
  have hvw8 := hBw8.size
  clear kW2_0_0 kW2_0_1 kW2_0_2 kW2_0_3 kW2_0_4 zW2_0
  clear hbw8
  go_wp2_with fail
  refine (num_any _ _).mono ?_; rintro e w9 ⟨rfl, rfl⟩
  go_wp2
  go_returns
  refine ⟨rfl, ?_⟩
  repeat (first | exact Below.refl _ _ | assumption | (refine Below.drew ?_) | (refine Below.setCell ?_ (by first | omega | (simp; omega) | simp) _) | (refine Below.alloc ?_ (by first | omega | (simp; omega) | simp) _) | (refine bthen (by assumption) ?_ (by first | omega | (simp; omega) | simp)))
theorem walk (a b c d e : Int) (s : ByteArray) (w : World) (ha : (Lit.int .i64 a).wf = true) (hb : (Lit.int .i64 b).wf = true) (hc : (Lit.int .i64 c).wf = true) (hd : (Lit.int .i64 d).wf = true) (he : (Lit.int .i64 e).wf = true) (hs : s.size ≤ maxLen) :
    Calls Try.prog 4 #[.agg #[.int .i64 a, .int .i64 b, .int .i64 c, .int .i64 d, .int .i64 e], .string s] w fun e w' => e = .returned (.bool true) ∧ Below w.heap.size w w' := by
  have yes : mayD a b c d e = true → ((putB a b c d e).size : Int) = 8 ∧ getN (putB a b c d e) = (a, b, c, d, e, 0) := fun h => by
    rw [(putB_yes h).1]; exact ⟨by rw [putS_size]; rfl, getN_put h⟩
  obtain ⟨g1, g2, g3, g4, g5, g6, hg⟩ : ∃ g1 g2 g3 g4 g5 g6, getN s = (g1, g2, g3, g4, g5, g6) := ⟨_, _, _, _, _, _, rfl⟩
  rcases getN_bad s with h | h
  · rw [hg] at h
    simp only at h
    subst h
    have hq := put_getN hg
    have hq' := putB_yes hq.1
    cases hm : mayD a b c d e with
    | true => exact walk_yy a b c d e s g1 g2 g3 g4 g5 _ _ w hm rfl (putB_yes hm).2 (by simp) (fun _ => yes hm) hg (fun _ => ⟨hq'.1.trans hq.2, hq'.2⟩) (fun h => by omega)
    | false => exact walk_ny a b c d e s g1 g2 g3 g4 g5 _ _ w hm rfl (putB_no hm).2 (by simp) (fun h => by cases h) hg (fun _ => ⟨hq'.1.trans hq.2, hq'.2⟩) (fun h => by omega)
  · cases hm : mayD a b c d e with
    | true => exact walk_yn a b c d e s _ _ _ _ _ _ _ w hm rfl (putB_yes hm).2 (by simp) (fun _ => yes hm) h (fun h => by omega) (fun _ => ⟨rfl, rfl, rfl, rfl, rfl⟩)
    | false => exact walk_nn a b c d e s _ _ _ _ _ _ _ w hm rfl (putB_no hm).2 (by simp) (fun h => by cases h) h (fun h => by omega) (fun _ => ⟨rfl, rfl, rfl, rfl, rfl⟩)
end Go.Proofs.Ytefcppldkepmhaa.descBack

