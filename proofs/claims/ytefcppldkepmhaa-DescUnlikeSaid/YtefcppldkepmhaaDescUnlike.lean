/- caissonlaw16.DescUnlike answers true, whatever it is given. No condition. -/
import Derived.Test.YtefcppldkepmhaaDescE
import Derived.Test.YtefcppldkepmhaaDescP
namespace Go.Proofs.Ytefcppldkepmhaa.descUnlike
open Go.RowKit
set_option linter.unusedVariables false
set_option linter.unusedSimpArgs false
theorem toList_data (a : ByteArray) : a.toList = a.data.toList := by
  rw [ByteArray.toList_eq]
theorem unlike_toList {a b : ByteArray} (h : a ≠ b) : (a.toList == b.toList) = false := by
  simp only [beq_eq_false_iff_ne, ne_eq, toList_data]
  intro he
  exact h (by cases a; cases b; simpa using he)
set_option maxHeartbeats 8000000 in
theorem walk0 (a1 a2 a3 a4 a5 b1 b2 b3 b4 b5 which : Int) (s t : ByteArray) (pe qe : Int) (w : World) (hi : (IntKind.u64.wrap which).tmod 6 = 0)
    (hs : putB a1 a2 a3 a4 a5 = s) (hpe : putE a1 a2 a3 a4 a5 = pe) (ht : putB b1 a2 a3 a4 a5 = t) (hqe : putE b1 a2 a3 a4 a5 = qe)
    (hp : pe = 0 ∨ (pe = 1600 ∧ s = ⟨#[]⟩)) (hq : qe = 0 ∨ (qe = 1600 ∧ t = ⟨#[]⟩)) (hst : pe = 0 → qe = 0 → (s = t ↔ (a1 = b1 ∧ a2 = a2 ∧ a3 = a3 ∧ a4 = a4 ∧ a5 = a5))) :
    Calls Try.prog 6 #[.agg #[.int .i64 a1, .int .i64 a2, .int .i64 a3, .int .i64 a4, .int .i64 a5], .agg #[.int .i64 b1, .int .i64 b2, .int .i64 b3, .int .i64 b4, .int .i64 b5], .int .i64 which] w fun e w' => e = .returned (.bool true) ∧ Below w.heap.size w w' := by
  go_enter Try.func6, Try.ntmps6
  go_wp2_with fail
  refine (awakeD _).mono ?_; rintro e w0 ⟨rfl, hbw0⟩
  have hzw0 := hbw0.size; (try simp at hzw0)
  have kw0_0_0 : w0.cell? ⟨w.heap.size, 0, none⟩ = some (.int .i64 a1) := (hbw0.cell (p := ⟨w.heap.size, 0, none⟩) (by first | omega | (simp; omega) | simp)).trans (by first | (go_simp; done) | ((repeat rw [cell_al (by first | omega | (simp; omega) | simp)]); first | assumption | (go_simp; done)))
  have kw0_0_1 : w0.cell? ⟨w.heap.size, 1, none⟩ = some (.int .i64 a2) := (hbw0.cell (p := ⟨w.heap.size, 1, none⟩) (by first | omega | (simp; omega) | simp)).trans (by first | (go_simp; done) | ((repeat rw [cell_al (by first | omega | (simp; omega) | simp)]); first | assumption | (go_simp; done)))
  have kw0_0_2 : w0.cell? ⟨w.heap.size, 2, none⟩ = some (.int .i64 a3) := (hbw0.cell (p := ⟨w.heap.size, 2, none⟩) (by first | omega | (simp; omega) | simp)).trans (by first | (go_simp; done) | ((repeat rw [cell_al (by first | omega | (simp; omega) | simp)]); first | assumption | (go_simp; done)))
  have kw0_0_3 : w0.cell? ⟨w.heap.size, 3, none⟩ = some (.int .i64 a4) := (hbw0.cell (p := ⟨w.heap.size, 3, none⟩) (by first | omega | (simp; omega) | simp)).trans (by first | (go_simp; done) | ((repeat rw [cell_al (by first | omega | (simp; omega) | simp)]); first | assumption | (go_simp; done)))
  have kw0_0_4 : w0.cell? ⟨w.heap.size, 4, none⟩ = some (.int .i64 a5) := (hbw0.cell (p := ⟨w.heap.size, 4, none⟩) (by first | omega | (simp; omega) | simp)).trans (by first | (go_simp; done) | ((repeat rw [cell_al (by first | omega | (simp; omega) | simp)]); first | assumption | (go_simp; done)))
  have hsw0_0 : w.heap.size < w0.heap.size := (by omega)
  have kw0_1_0 : w0.cell? ⟨w.heap.size + 1, 0, none⟩ = some (.int .i64 b1) := (hbw0.cell (p := ⟨w.heap.size + 1, 0, none⟩) (by first | omega | (simp; omega) | simp)).trans (by first | (go_simp; done) | ((repeat rw [cell_al (by first | omega | (simp; omega) | simp)]); first | assumption | (go_simp; done)))
  have kw0_1_1 : w0.cell? ⟨w.heap.size + 1, 1, none⟩ = some (.int .i64 b2) := (hbw0.cell (p := ⟨w.heap.size + 1, 1, none⟩) (by first | omega | (simp; omega) | simp)).trans (by first | (go_simp; done) | ((repeat rw [cell_al (by first | omega | (simp; omega) | simp)]); first | assumption | (go_simp; done)))
  have kw0_1_2 : w0.cell? ⟨w.heap.size + 1, 2, none⟩ = some (.int .i64 b3) := (hbw0.cell (p := ⟨w.heap.size + 1, 2, none⟩) (by first | omega | (simp; omega) | simp)).trans (by first | (go_simp; done) | ((repeat rw [cell_al (by first | omega | (simp; omega) | simp)]); first | assumption | (go_simp; done)))
  have kw0_1_3 : w0.cell? ⟨w.heap.size + 1, 3, none⟩ = some (.int .i64 b4) := (hbw0.cell (p := ⟨w.heap.size + 1, 3, none⟩) (by first | omega | (simp; omega) | simp)).trans (by first | (go_simp; done) | ((repeat rw [cell_al (by first | omega | (simp; omega) | simp)]); first | assumption | (go_simp; done)))
  have kw0_1_4 : w0.cell? ⟨w.heap.size + 1, 4, none⟩ = some (.int .i64 b5) := (hbw0.cell (p := ⟨w.heap.size + 1, 4, none⟩) (by first | omega | (simp; omega) | simp)).trans (by first | (go_simp; done) | ((repeat rw [cell_al (by first | omega | (simp; omega) | simp)]); first | assumption | (go_simp; done)))
  have hsw0_1 : w.heap.size + 1 < w0.heap.size := (by omega)
  have hBw0 : Below w.heap.size w w0 := by
    refine bthen hbw0 ?_ (by first | omega | (simp; omega) | simp)
    repeat (first | exact Below.refl _ _ | (with_reducible assumption) | (refine Below.drew ?_) | (refine Below.setCell ?_ (by first | omega | (simp; omega) | simp) _) | (refine Below.alloc ?_ (by first | omega | (simp; omega) | simp) _) | (refine bthen (by assumption) ?_ (by first | omega | (simp; omega) | simp)))
  have hvw0 := hBw0.size
  clear hbw0
  go_wp2_with fail
  refine (put_is _ _ _ _ _ _ _ _ hs hpe).mono ?_; rintro e w1 ⟨rfl, hbw1⟩
  have hzw1 := hbw1.size; (try simp at hzw1)
  have kw1_0_0 : w1.cell? ⟨w.heap.size, 0, none⟩ = some (.int .i64 a1) := (hbw1.cell (p := ⟨w.heap.size, 0, none⟩) (by first | omega | (simp; omega) | simp)).trans (by first | (go_simp; done) | ((repeat rw [cell_al (by first | omega | (simp; omega) | simp)]); first | assumption | (go_simp; done)))
  have kw1_0_1 : w1.cell? ⟨w.heap.size, 1, none⟩ = some (.int .i64 a2) := (hbw1.cell (p := ⟨w.heap.size, 1, none⟩) (by first | omega | (simp; omega) | simp)).trans (by first | (go_simp; done) | ((repeat rw [cell_al (by first | omega | (simp; omega) | simp)]); first | assumption | (go_simp; done)))
  have kw1_0_2 : w1.cell? ⟨w.heap.size, 2, none⟩ = some (.int .i64 a3) := (hbw1.cell (p := ⟨w.heap.size, 2, none⟩) (by first | omega | (simp; omega) | simp)).trans (by first | (go_simp; done) | ((repeat rw [cell_al (by first | omega | (simp; omega) | simp)]); first | assumption | (go_simp; done)))
  have kw1_0_3 : w1.cell? ⟨w.heap.size, 3, none⟩ = some (.int .i64 a4) := (hbw1.cell (p := ⟨w.heap.size, 3, none⟩) (by first | omega | (simp; omega) | simp)).trans (by first | (go_simp; done) | ((repeat rw [cell_al (by first | omega | (simp; omega) | simp)]); first | assumption | (go_simp; done)))
  have kw1_0_4 : w1.cell? ⟨w.heap.size, 4, none⟩ = some (.int .i64 a5) := (hbw1.cell (p := ⟨w.heap.size, 4, none⟩) (by first | omega | (simp; omega) | simp)).trans (by first | (go_simp; done) | ((repeat rw [cell_al (by first | omega | (simp; omega) | simp)]); first | assumption | (go_simp; done)))
  have hsw1_0 : w.heap.size < w1.heap.size := (by omega)
  have kw1_1_0 : w1.cell? ⟨w.heap.size + 1, 0, none⟩ = some (.int .i64 b1) := (hbw1.cell (p := ⟨w.heap.size + 1, 0, none⟩) (by first | omega | (simp; omega) | simp)).trans (by first | (go_simp; done) | ((repeat rw [cell_al (by first | omega | (simp; omega) | simp)]); first | assumption | (go_simp; done)))
  have kw1_1_1 : w1.cell? ⟨w.heap.size + 1, 1, none⟩ = some (.int .i64 b2) := (hbw1.cell (p := ⟨w.heap.size + 1, 1, none⟩) (by first | omega | (simp; omega) | simp)).trans (by first | (go_simp; done) | ((repeat rw [cell_al (by first | omega | (simp; omega) | simp)]); first | assumption | (go_simp; done)))
  have kw1_1_2 : w1.cell? ⟨w.heap.size + 1, 2, none⟩ = some (.int .i64 b3) := (hbw1.cell (p := ⟨w.heap.size + 1, 2, none⟩) (by first | omega | (simp; omega) | simp)).trans (by first | (go_simp; done) | ((repeat rw [cell_al (by first | omega | (simp; omega) | simp)]); first | assumption | (go_simp; done)))
  have kw1_1_3 : w1.cell? ⟨w.heap.size + 1, 3, none⟩ = some (.int .i64 b4) := (hbw1.cell (p := ⟨w.heap.size + 1, 3, none⟩) (by first | omega | (simp; omega) | simp)).trans (by first | (go_simp; done) | ((repeat rw [cell_al (by first | omega | (simp; omega) | simp)]); first | assumption | (go_simp; done)))
  have kw1_1_4 : w1.cell? ⟨w.heap.size + 1, 4, none⟩ = some (.int .i64 b5) := (hbw1.cell (p := ⟨w.heap.size + 1, 4, none⟩) (by first | omega | (simp; omega) | simp)).trans (by first | (go_simp; done) | ((repeat rw [cell_al (by first | omega | (simp; omega) | simp)]); first | assumption | (go_simp; done)))
  have hsw1_1 : w.heap.size + 1 < w1.heap.size := (by omega)
  have kw1_2_0 : w1.cell? ⟨w0.heap.size, 0, none⟩ = some (.int .i64 b1) := (hbw1.cell (p := ⟨w0.heap.size, 0, none⟩) (by first | omega | (simp; omega) | simp)).trans (by first | (go_simp; done) | ((repeat rw [cell_al (by first | omega | (simp; omega) | simp)]); first | assumption | (go_simp; done)))
  have kw1_2_1 : w1.cell? ⟨w0.heap.size, 1, none⟩ = some (.int .i64 a2) := (hbw1.cell (p := ⟨w0.heap.size, 1, none⟩) (by first | omega | (simp; omega) | simp)).trans (by first | (go_simp; done) | ((repeat rw [cell_al (by first | omega | (simp; omega) | simp)]); first | assumption | (go_simp; done)))
  have kw1_2_2 : w1.cell? ⟨w0.heap.size, 2, none⟩ = some (.int .i64 a3) := (hbw1.cell (p := ⟨w0.heap.size, 2, none⟩) (by first | omega | (simp; omega) | simp)).trans (by first | (go_simp; done) | ((repeat rw [cell_al (by first | omega | (simp; omega) | simp)]); first | assumption | (go_simp; done)))
  have kw1_2_3 : w1.cell? ⟨w0.heap.size, 3, none⟩ = some (.int .i64 a4) := (hbw1.cell (p := ⟨w0.heap.size, 3, none⟩) (by first | omega | (simp; omega) | simp)).trans (by first | (go_simp; done) | ((repeat rw [cell_al (by first | omega | (simp; omega) | simp)]); first | assumption | (go_simp; done)))
  have kw1_2_4 : w1.cell? ⟨w0.heap.size, 4, none⟩ = some (.int .i64 a5) := (hbw1.cell (p := ⟨w0.heap.size, 4, none⟩) (by first | omega | (simp; omega) | simp)).trans (by first | (go_simp; done) | ((repeat rw [cell_al (by first | omega | (simp; omega) | simp)]); first | assumption | (go_simp; done)))
  have hsw1_2 : w0.heap.size < w1.heap.size := (by omega)
  have hBw1 : Below w.heap.size w w1 := by
    refine bthen hbw1 ?_ (by first | omega | (simp; omega) | simp)
    repeat (first | exact Below.refl _ _ | (with_reducible assumption) | (refine Below.drew ?_) | (refine Below.setCell ?_ (by first | omega | (simp; omega) | simp) _) | (refine Below.alloc ?_ (by first | omega | (simp; omega) | simp) _) | (refine bthen (by assumption) ?_ (by first | omega | (simp; omega) | simp)))
  have hvw1 := hBw1.size
  clear kw0_0_0 kw0_0_1 kw0_0_2 kw0_0_3 kw0_0_4 hsw0_0 kw0_1_0 kw0_1_1 kw0_1_2 kw0_1_3 kw0_1_4 hsw0_1 hBw0 hvw0 hzw0
  clear hbw1
  go_wp2_with fail
  refine (put_is _ _ _ _ _ _ _ _ ht hqe).mono ?_; rintro e w2 ⟨rfl, hbw2⟩
  have hzw2 := hbw2.size; (try simp at hzw2)
  have kw2_0_0 : w2.cell? ⟨w.heap.size, 0, none⟩ = some (.int .i64 a1) := (hbw2.cell (p := ⟨w.heap.size, 0, none⟩) (by first | omega | (simp; omega) | simp)).trans (by first | (go_simp; done) | ((repeat rw [cell_al (by first | omega | (simp; omega) | simp)]); first | assumption | (go_simp; done)))
  have kw2_0_1 : w2.cell? ⟨w.heap.size, 1, none⟩ = some (.int .i64 a2) := (hbw2.cell (p := ⟨w.heap.size, 1, none⟩) (by first | omega | (simp; omega) | simp)).trans (by first | (go_simp; done) | ((repeat rw [cell_al (by first | omega | (simp; omega) | simp)]); first | assumption | (go_simp; done)))
  have kw2_0_2 : w2.cell? ⟨w.heap.size, 2, none⟩ = some (.int .i64 a3) := (hbw2.cell (p := ⟨w.heap.size, 2, none⟩) (by first | omega | (simp; omega) | simp)).trans (by first | (go_simp; done) | ((repeat rw [cell_al (by first | omega | (simp; omega) | simp)]); first | assumption | (go_simp; done)))
  have kw2_0_3 : w2.cell? ⟨w.heap.size, 3, none⟩ = some (.int .i64 a4) := (hbw2.cell (p := ⟨w.heap.size, 3, none⟩) (by first | omega | (simp; omega) | simp)).trans (by first | (go_simp; done) | ((repeat rw [cell_al (by first | omega | (simp; omega) | simp)]); first | assumption | (go_simp; done)))
  have kw2_0_4 : w2.cell? ⟨w.heap.size, 4, none⟩ = some (.int .i64 a5) := (hbw2.cell (p := ⟨w.heap.size, 4, none⟩) (by first | omega | (simp; omega) | simp)).trans (by first | (go_simp; done) | ((repeat rw [cell_al (by first | omega | (simp; omega) | simp)]); first | assumption | (go_simp; done)))
  have hsw2_0 : w.heap.size < w2.heap.size := (by omega)
  have kw2_1_0 : w2.cell? ⟨w.heap.size + 1, 0, none⟩ = some (.int .i64 b1) := (hbw2.cell (p := ⟨w.heap.size + 1, 0, none⟩) (by first | omega | (simp; omega) | simp)).trans (by first | (go_simp; done) | ((repeat rw [cell_al (by first | omega | (simp; omega) | simp)]); first | assumption | (go_simp; done)))
  have kw2_1_1 : w2.cell? ⟨w.heap.size + 1, 1, none⟩ = some (.int .i64 b2) := (hbw2.cell (p := ⟨w.heap.size + 1, 1, none⟩) (by first | omega | (simp; omega) | simp)).trans (by first | (go_simp; done) | ((repeat rw [cell_al (by first | omega | (simp; omega) | simp)]); first | assumption | (go_simp; done)))
  have kw2_1_2 : w2.cell? ⟨w.heap.size + 1, 2, none⟩ = some (.int .i64 b3) := (hbw2.cell (p := ⟨w.heap.size + 1, 2, none⟩) (by first | omega | (simp; omega) | simp)).trans (by first | (go_simp; done) | ((repeat rw [cell_al (by first | omega | (simp; omega) | simp)]); first | assumption | (go_simp; done)))
  have kw2_1_3 : w2.cell? ⟨w.heap.size + 1, 3, none⟩ = some (.int .i64 b4) := (hbw2.cell (p := ⟨w.heap.size + 1, 3, none⟩) (by first | omega | (simp; omega) | simp)).trans (by first | (go_simp; done) | ((repeat rw [cell_al (by first | omega | (simp; omega) | simp)]); first | assumption | (go_simp; done)))
  have kw2_1_4 : w2.cell? ⟨w.heap.size + 1, 4, none⟩ = some (.int .i64 b5) := (hbw2.cell (p := ⟨w.heap.size + 1, 4, none⟩) (by first | omega | (simp; omega) | simp)).trans (by first | (go_simp; done) | ((repeat rw [cell_al (by first | omega | (simp; omega) | simp)]); first | assumption | (go_simp; done)))
  have hsw2_1 : w.heap.size + 1 < w2.heap.size := (by omega)
  have kw2_2_0 : w2.cell? ⟨w0.heap.size, 0, none⟩ = some (.int .i64 b1) := (hbw2.cell (p := ⟨w0.heap.size, 0, none⟩) (by first | omega | (simp; omega) | simp)).trans (by first | (go_simp; done) | ((repeat rw [cell_al (by first | omega | (simp; omega) | simp)]); first | assumption | (go_simp; done)))
  have kw2_2_1 : w2.cell? ⟨w0.heap.size, 1, none⟩ = some (.int .i64 a2) := (hbw2.cell (p := ⟨w0.heap.size, 1, none⟩) (by first | omega | (simp; omega) | simp)).trans (by first | (go_simp; done) | ((repeat rw [cell_al (by first | omega | (simp; omega) | simp)]); first | assumption | (go_simp; done)))
  have kw2_2_2 : w2.cell? ⟨w0.heap.size, 2, none⟩ = some (.int .i64 a3) := (hbw2.cell (p := ⟨w0.heap.size, 2, none⟩) (by first | omega | (simp; omega) | simp)).trans (by first | (go_simp; done) | ((repeat rw [cell_al (by first | omega | (simp; omega) | simp)]); first | assumption | (go_simp; done)))
  have kw2_2_3 : w2.cell? ⟨w0.heap.size, 3, none⟩ = some (.int .i64 a4) := (hbw2.cell (p := ⟨w0.heap.size, 3, none⟩) (by first | omega | (simp; omega) | simp)).trans (by first | (go_simp; done) | ((repeat rw [cell_al (by first | omega | (simp; omega) | simp)]); first | assumption | (go_simp; done)))
  have kw2_2_4 : w2.cell? ⟨w0.heap.size, 4, none⟩ = some (.int .i64 a5) := (hbw2.cell (p := ⟨w0.heap.size, 4, none⟩) (by first | omega | (simp; omega) | simp)).trans (by first | (go_simp; done) | ((repeat rw [cell_al (by first | omega | (simp; omega) | simp)]); first | assumption | (go_simp; done)))
  have hsw2_2 : w0.heap.size < w2.heap.size := (by omega)
  have hBw2 : Below w.heap.size w w2 := by
    refine bthen hbw2 ?_ (by first | omega | (simp; omega) | simp)
    repeat (first | exact Below.refl _ _ | (with_reducible assumption) | (refine Below.drew ?_) | (refine Below.setCell ?_ (by first | omega | (simp; omega) | simp) _) | (refine Below.alloc ?_ (by first | omega | (simp; omega) | simp) _) | (refine bthen (by assumption) ?_ (by first | omega | (simp; omega) | simp)))
  have hvw2 := hBw2.size
  clear kw1_0_0 kw1_0_1 kw1_0_2 kw1_0_3 kw1_0_4 hsw1_0 kw1_1_0 kw1_1_1 kw1_1_2 kw1_1_3 kw1_1_4 hsw1_1 kw1_2_0 kw1_2_1 kw1_2_2 kw1_2_3 kw1_2_4 hsw1_2 hBw1 hvw1 hzw1
  clear hbw2
  clear hs hpe ht hqe
  rcases hp with rfl | ⟨rfl, rfl⟩ <;> rcases hq with rfl | ⟨rfl, rfl⟩
  · have hst' := hst rfl rfl
    clear hst
    by_cases hE : a1 = b1 ∧ a2 = a2 ∧ a3 = a3 ∧ a4 = a4 ∧ a5 = a5
    · have hl : s = t := hst'.2 (by simpa using hE)
      clear hst'
      obtain ⟨q1, q2, q3, q4, q5⟩ := hE
      subst hl
      (try subst q1); (try subst q2); (try subst q3); (try subst q4); (try subst q5)
      go_wp2_with (first | (go_at_call 11; refine (num_any _ _).mono ?_; rintro e w3 ⟨rfl, rfl⟩))
      go_returns
      refine ⟨by simp, ?_⟩
      repeat (first | exact Below.refl _ _ | assumption | (refine Below.drew ?_) | (refine Below.setCell ?_ (by first | omega | (simp; omega) | simp) _) | (refine Below.alloc ?_ (by first | omega | (simp; omega) | simp) _) | (refine bthen (by assumption) ?_ (by first | omega | (simp; omega) | simp)))
    · have hl : (s.toList == t.toList) = false := unlike_toList (fun h => hE (by simpa using hst'.1 h))
      clear hst'
      go_wp2_with (first | (go_at_call 11; refine (num_any _ _).mono ?_; rintro e w3 ⟨rfl, rfl⟩))
      all_goals first
        | (exfalso; (try simp only [and_true, true_and] at hE); omega)
        | (go_returns; refine ⟨by simp, ?_⟩; repeat (first | exact Below.refl _ _ | assumption | (refine Below.drew ?_) | (refine Below.setCell ?_ (by first | omega | (simp; omega) | simp) _) | (refine Below.alloc ?_ (by first | omega | (simp; omega) | simp) _) | (refine bthen (by assumption) ?_ (by first | omega | (simp; omega) | simp))))
  all_goals (clear hst; go_wp2_with (first | (go_at_call 11; refine (num_any _ _).mono ?_; rintro e w3 ⟨rfl, rfl⟩)))
  all_goals go_returns
  all_goals refine ⟨rfl, ?_⟩
  all_goals repeat (first | exact Below.refl _ _ | assumption | (refine Below.drew ?_) | (refine Below.setCell ?_ (by first | omega | (simp; omega) | simp) _) | (refine Below.alloc ?_ (by first | omega | (simp; omega) | simp) _) | (refine bthen (by assumption) ?_ (by first | omega | (simp; omega) | simp)))
set_option maxHeartbeats 8000000 in
theorem walk1 (a1 a2 a3 a4 a5 b1 b2 b3 b4 b5 which : Int) (s t : ByteArray) (pe qe : Int) (w : World) (hi : (IntKind.u64.wrap which).tmod 6 = 1)
    (hs : putB a1 a2 a3 a4 a5 = s) (hpe : putE a1 a2 a3 a4 a5 = pe) (ht : putB a1 b2 a3 a4 a5 = t) (hqe : putE a1 b2 a3 a4 a5 = qe)
    (hp : pe = 0 ∨ (pe = 1600 ∧ s = ⟨#[]⟩)) (hq : qe = 0 ∨ (qe = 1600 ∧ t = ⟨#[]⟩)) (hst : pe = 0 → qe = 0 → (s = t ↔ (a1 = a1 ∧ a2 = b2 ∧ a3 = a3 ∧ a4 = a4 ∧ a5 = a5))) :
    Calls Try.prog 6 #[.agg #[.int .i64 a1, .int .i64 a2, .int .i64 a3, .int .i64 a4, .int .i64 a5], .agg #[.int .i64 b1, .int .i64 b2, .int .i64 b3, .int .i64 b4, .int .i64 b5], .int .i64 which] w fun e w' => e = .returned (.bool true) ∧ Below w.heap.size w w' := by
  go_enter Try.func6, Try.ntmps6
  go_wp2_with fail
  refine (awakeD _).mono ?_; rintro e w0 ⟨rfl, hbw0⟩
  have hzw0 := hbw0.size; (try simp at hzw0)
  have kw0_0_0 : w0.cell? ⟨w.heap.size, 0, none⟩ = some (.int .i64 a1) := (hbw0.cell (p := ⟨w.heap.size, 0, none⟩) (by first | omega | (simp; omega) | simp)).trans (by first | (go_simp; done) | ((repeat rw [cell_al (by first | omega | (simp; omega) | simp)]); first | assumption | (go_simp; done)))
  have kw0_0_1 : w0.cell? ⟨w.heap.size, 1, none⟩ = some (.int .i64 a2) := (hbw0.cell (p := ⟨w.heap.size, 1, none⟩) (by first | omega | (simp; omega) | simp)).trans (by first | (go_simp; done) | ((repeat rw [cell_al (by first | omega | (simp; omega) | simp)]); first | assumption | (go_simp; done)))
  have kw0_0_2 : w0.cell? ⟨w.heap.size, 2, none⟩ = some (.int .i64 a3) := (hbw0.cell (p := ⟨w.heap.size, 2, none⟩) (by first | omega | (simp; omega) | simp)).trans (by first | (go_simp; done) | ((repeat rw [cell_al (by first | omega | (simp; omega) | simp)]); first | assumption | (go_simp; done)))
  have kw0_0_3 : w0.cell? ⟨w.heap.size, 3, none⟩ = some (.int .i64 a4) := (hbw0.cell (p := ⟨w.heap.size, 3, none⟩) (by first | omega | (simp; omega) | simp)).trans (by first | (go_simp; done) | ((repeat rw [cell_al (by first | omega | (simp; omega) | simp)]); first | assumption | (go_simp; done)))
  have kw0_0_4 : w0.cell? ⟨w.heap.size, 4, none⟩ = some (.int .i64 a5) := (hbw0.cell (p := ⟨w.heap.size, 4, none⟩) (by first | omega | (simp; omega) | simp)).trans (by first | (go_simp; done) | ((repeat rw [cell_al (by first | omega | (simp; omega) | simp)]); first | assumption | (go_simp; done)))
  have hsw0_0 : w.heap.size < w0.heap.size := (by omega)
  have kw0_1_0 : w0.cell? ⟨w.heap.size + 1, 0, none⟩ = some (.int .i64 b1) := (hbw0.cell (p := ⟨w.heap.size + 1, 0, none⟩) (by first | omega | (simp; omega) | simp)).trans (by first | (go_simp; done) | ((repeat rw [cell_al (by first | omega | (simp; omega) | simp)]); first | assumption | (go_simp; done)))
  have kw0_1_1 : w0.cell? ⟨w.heap.size + 1, 1, none⟩ = some (.int .i64 b2) := (hbw0.cell (p := ⟨w.heap.size + 1, 1, none⟩) (by first | omega | (simp; omega) | simp)).trans (by first | (go_simp; done) | ((repeat rw [cell_al (by first | omega | (simp; omega) | simp)]); first | assumption | (go_simp; done)))
  have kw0_1_2 : w0.cell? ⟨w.heap.size + 1, 2, none⟩ = some (.int .i64 b3) := (hbw0.cell (p := ⟨w.heap.size + 1, 2, none⟩) (by first | omega | (simp; omega) | simp)).trans (by first | (go_simp; done) | ((repeat rw [cell_al (by first | omega | (simp; omega) | simp)]); first | assumption | (go_simp; done)))
  have kw0_1_3 : w0.cell? ⟨w.heap.size + 1, 3, none⟩ = some (.int .i64 b4) := (hbw0.cell (p := ⟨w.heap.size + 1, 3, none⟩) (by first | omega | (simp; omega) | simp)).trans (by first | (go_simp; done) | ((repeat rw [cell_al (by first | omega | (simp; omega) | simp)]); first | assumption | (go_simp; done)))
  have kw0_1_4 : w0.cell? ⟨w.heap.size + 1, 4, none⟩ = some (.int .i64 b5) := (hbw0.cell (p := ⟨w.heap.size + 1, 4, none⟩) (by first | omega | (simp; omega) | simp)).trans (by first | (go_simp; done) | ((repeat rw [cell_al (by first | omega | (simp; omega) | simp)]); first | assumption | (go_simp; done)))
  have hsw0_1 : w.heap.size + 1 < w0.heap.size := (by omega)
  have hBw0 : Below w.heap.size w w0 := by
    refine bthen hbw0 ?_ (by first | omega | (simp; omega) | simp)
    repeat (first | exact Below.refl _ _ | (with_reducible assumption) | (refine Below.drew ?_) | (refine Below.setCell ?_ (by first | omega | (simp; omega) | simp) _) | (refine Below.alloc ?_ (by first | omega | (simp; omega) | simp) _) | (refine bthen (by assumption) ?_ (by first | omega | (simp; omega) | simp)))
  have hvw0 := hBw0.size
  clear hbw0
  go_wp2_with fail
  refine (put_is _ _ _ _ _ _ _ _ hs hpe).mono ?_; rintro e w1 ⟨rfl, hbw1⟩
  have hzw1 := hbw1.size; (try simp at hzw1)
  have kw1_0_0 : w1.cell? ⟨w.heap.size, 0, none⟩ = some (.int .i64 a1) := (hbw1.cell (p := ⟨w.heap.size, 0, none⟩) (by first | omega | (simp; omega) | simp)).trans (by first | (go_simp; done) | ((repeat rw [cell_al (by first | omega | (simp; omega) | simp)]); first | assumption | (go_simp; done)))
  have kw1_0_1 : w1.cell? ⟨w.heap.size, 1, none⟩ = some (.int .i64 a2) := (hbw1.cell (p := ⟨w.heap.size, 1, none⟩) (by first | omega | (simp; omega) | simp)).trans (by first | (go_simp; done) | ((repeat rw [cell_al (by first | omega | (simp; omega) | simp)]); first | assumption | (go_simp; done)))
  have kw1_0_2 : w1.cell? ⟨w.heap.size, 2, none⟩ = some (.int .i64 a3) := (hbw1.cell (p := ⟨w.heap.size, 2, none⟩) (by first | omega | (simp; omega) | simp)).trans (by first | (go_simp; done) | ((repeat rw [cell_al (by first | omega | (simp; omega) | simp)]); first | assumption | (go_simp; done)))
  have kw1_0_3 : w1.cell? ⟨w.heap.size, 3, none⟩ = some (.int .i64 a4) := (hbw1.cell (p := ⟨w.heap.size, 3, none⟩) (by first | omega | (simp; omega) | simp)).trans (by first | (go_simp; done) | ((repeat rw [cell_al (by first | omega | (simp; omega) | simp)]); first | assumption | (go_simp; done)))
  have kw1_0_4 : w1.cell? ⟨w.heap.size, 4, none⟩ = some (.int .i64 a5) := (hbw1.cell (p := ⟨w.heap.size, 4, none⟩) (by first | omega | (simp; omega) | simp)).trans (by first | (go_simp; done) | ((repeat rw [cell_al (by first | omega | (simp; omega) | simp)]); first | assumption | (go_simp; done)))
  have hsw1_0 : w.heap.size < w1.heap.size := (by omega)
  have kw1_1_0 : w1.cell? ⟨w.heap.size + 1, 0, none⟩ = some (.int .i64 b1) := (hbw1.cell (p := ⟨w.heap.size + 1, 0, none⟩) (by first | omega | (simp; omega) | simp)).trans (by first | (go_simp; done) | ((repeat rw [cell_al (by first | omega | (simp; omega) | simp)]); first | assumption | (go_simp; done)))
  have kw1_1_1 : w1.cell? ⟨w.heap.size + 1, 1, none⟩ = some (.int .i64 b2) := (hbw1.cell (p := ⟨w.heap.size + 1, 1, none⟩) (by first | omega | (simp; omega) | simp)).trans (by first | (go_simp; done) | ((repeat rw [cell_al (by first | omega | (simp; omega) | simp)]); first | assumption | (go_simp; done)))
  have kw1_1_2 : w1.cell? ⟨w.heap.size + 1, 2, none⟩ = some (.int .i64 b3) := (hbw1.cell (p := ⟨w.heap.size + 1, 2, none⟩) (by first | omega | (simp; omega) | simp)).trans (by first | (go_simp; done) | ((repeat rw [cell_al (by first | omega | (simp; omega) | simp)]); first | assumption | (go_simp; done)))
  have kw1_1_3 : w1.cell? ⟨w.heap.size + 1, 3, none⟩ = some (.int .i64 b4) := (hbw1.cell (p := ⟨w.heap.size + 1, 3, none⟩) (by first | omega | (simp; omega) | simp)).trans (by first | (go_simp; done) | ((repeat rw [cell_al (by first | omega | (simp; omega) | simp)]); first | assumption | (go_simp; done)))
  have kw1_1_4 : w1.cell? ⟨w.heap.size + 1, 4, none⟩ = some (.int .i64 b5) := (hbw1.cell (p := ⟨w.heap.size + 1, 4, none⟩) (by first | omega | (simp; omega) | simp)).trans (by first | (go_simp; done) | ((repeat rw [cell_al (by first | omega | (simp; omega) | simp)]); first | assumption | (go_simp; done)))
  have hsw1_1 : w.heap.size + 1 < w1.heap.size := (by omega)
  have kw1_2_0 : w1.cell? ⟨w0.heap.size, 0, none⟩ = some (.int .i64 a1) := (hbw1.cell (p := ⟨w0.heap.size, 0, none⟩) (by first | omega | (simp; omega) | simp)).trans (by first | (go_simp; done) | ((repeat rw [cell_al (by first | omega | (simp; omega) | simp)]); first | assumption | (go_simp; done)))
  have kw1_2_1 : w1.cell? ⟨w0.heap.size, 1, none⟩ = some (.int .i64 b2) := (hbw1.cell (p := ⟨w0.heap.size, 1, none⟩) (by first | omega | (simp; omega) | simp)).trans (by first | (go_simp; done) | ((repeat rw [cell_al (by first | omega | (simp; omega) | simp)]); first | assumption | (go_simp; done)))
  have kw1_2_2 : w1.cell? ⟨w0.heap.size, 2, none⟩ = some (.int .i64 a3) := (hbw1.cell (p := ⟨w0.heap.size, 2, none⟩) (by first | omega | (simp; omega) | simp)).trans (by first | (go_simp; done) | ((repeat rw [cell_al (by first | omega | (simp; omega) | simp)]); first | assumption | (go_simp; done)))
  have kw1_2_3 : w1.cell? ⟨w0.heap.size, 3, none⟩ = some (.int .i64 a4) := (hbw1.cell (p := ⟨w0.heap.size, 3, none⟩) (by first | omega | (simp; omega) | simp)).trans (by first | (go_simp; done) | ((repeat rw [cell_al (by first | omega | (simp; omega) | simp)]); first | assumption | (go_simp; done)))
  have kw1_2_4 : w1.cell? ⟨w0.heap.size, 4, none⟩ = some (.int .i64 a5) := (hbw1.cell (p := ⟨w0.heap.size, 4, none⟩) (by first | omega | (simp; omega) | simp)).trans (by first | (go_simp; done) | ((repeat rw [cell_al (by first | omega | (simp; omega) | simp)]); first | assumption | (go_simp; done)))
  have hsw1_2 : w0.heap.size < w1.heap.size := (by omega)
  have hBw1 : Below w.heap.size w w1 := by
    refine bthen hbw1 ?_ (by first | omega | (simp; omega) | simp)
    repeat (first | exact Below.refl _ _ | (with_reducible assumption) | (refine Below.drew ?_) | (refine Below.setCell ?_ (by first | omega | (simp; omega) | simp) _) | (refine Below.alloc ?_ (by first | omega | (simp; omega) | simp) _) | (refine bthen (by assumption) ?_ (by first | omega | (simp; omega) | simp)))
  have hvw1 := hBw1.size
  clear kw0_0_0 kw0_0_1 kw0_0_2 kw0_0_3 kw0_0_4 hsw0_0 kw0_1_0 kw0_1_1 kw0_1_2 kw0_1_3 kw0_1_4 hsw0_1 hBw0 hvw0 hzw0
  clear hbw1
  go_wp2_with fail
  refine (put_is _ _ _ _ _ _ _ _ ht hqe).mono ?_; rintro e w2 ⟨rfl, hbw2⟩
  have hzw2 := hbw2.size; (try simp at hzw2)
  have kw2_0_0 : w2.cell? ⟨w.heap.size, 0, none⟩ = some (.int .i64 a1) := (hbw2.cell (p := ⟨w.heap.size, 0, none⟩) (by first | omega | (simp; omega) | simp)).trans (by first | (go_simp; done) | ((repeat rw [cell_al (by first | omega | (simp; omega) | simp)]); first | assumption | (go_simp; done)))
  have kw2_0_1 : w2.cell? ⟨w.heap.size, 1, none⟩ = some (.int .i64 a2) := (hbw2.cell (p := ⟨w.heap.size, 1, none⟩) (by first | omega | (simp; omega) | simp)).trans (by first | (go_simp; done) | ((repeat rw [cell_al (by first | omega | (simp; omega) | simp)]); first | assumption | (go_simp; done)))
  have kw2_0_2 : w2.cell? ⟨w.heap.size, 2, none⟩ = some (.int .i64 a3) := (hbw2.cell (p := ⟨w.heap.size, 2, none⟩) (by first | omega | (simp; omega) | simp)).trans (by first | (go_simp; done) | ((repeat rw [cell_al (by first | omega | (simp; omega) | simp)]); first | assumption | (go_simp; done)))
  have kw2_0_3 : w2.cell? ⟨w.heap.size, 3, none⟩ = some (.int .i64 a4) := (hbw2.cell (p := ⟨w.heap.size, 3, none⟩) (by first | omega | (simp; omega) | simp)).trans (by first | (go_simp; done) | ((repeat rw [cell_al (by first | omega | (simp; omega) | simp)]); first | assumption | (go_simp; done)))
  have kw2_0_4 : w2.cell? ⟨w.heap.size, 4, none⟩ = some (.int .i64 a5) := (hbw2.cell (p := ⟨w.heap.size, 4, none⟩) (by first | omega | (simp; omega) | simp)).trans (by first | (go_simp; done) | ((repeat rw [cell_al (by first | omega | (simp; omega) | simp)]); first | assumption | (go_simp; done)))
  have hsw2_0 : w.heap.size < w2.heap.size := (by omega)
  have kw2_1_0 : w2.cell? ⟨w.heap.size + 1, 0, none⟩ = some (.int .i64 b1) := (hbw2.cell (p := ⟨w.heap.size + 1, 0, none⟩) (by first | omega | (simp; omega) | simp)).trans (by first | (go_simp; done) | ((repeat rw [cell_al (by first | omega | (simp; omega) | simp)]); first | assumption | (go_simp; done)))
  have kw2_1_1 : w2.cell? ⟨w.heap.size + 1, 1, none⟩ = some (.int .i64 b2) := (hbw2.cell (p := ⟨w.heap.size + 1, 1, none⟩) (by first | omega | (simp; omega) | simp)).trans (by first | (go_simp; done) | ((repeat rw [cell_al (by first | omega | (simp; omega) | simp)]); first | assumption | (go_simp; done)))
  have kw2_1_2 : w2.cell? ⟨w.heap.size + 1, 2, none⟩ = some (.int .i64 b3) := (hbw2.cell (p := ⟨w.heap.size + 1, 2, none⟩) (by first | omega | (simp; omega) | simp)).trans (by first | (go_simp; done) | ((repeat rw [cell_al (by first | omega | (simp; omega) | simp)]); first | assumption | (go_simp; done)))
  have kw2_1_3 : w2.cell? ⟨w.heap.size + 1, 3, none⟩ = some (.int .i64 b4) := (hbw2.cell (p := ⟨w.heap.size + 1, 3, none⟩) (by first | omega | (simp; omega) | simp)).trans (by first | (go_simp; done) | ((repeat rw [cell_al (by first | omega | (simp; omega) | simp)]); first | assumption | (go_simp; done)))
  have kw2_1_4 : w2.cell? ⟨w.heap.size + 1, 4, none⟩ = some (.int .i64 b5) := (hbw2.cell (p := ⟨w.heap.size + 1, 4, none⟩) (by first | omega | (simp; omega) | simp)).trans (by first | (go_simp; done) | ((repeat rw [cell_al (by first | omega | (simp; omega) | simp)]); first | assumption | (go_simp; done)))
  have hsw2_1 : w.heap.size + 1 < w2.heap.size := (by omega)
  have kw2_2_0 : w2.cell? ⟨w0.heap.size, 0, none⟩ = some (.int .i64 a1) := (hbw2.cell (p := ⟨w0.heap.size, 0, none⟩) (by first | omega | (simp; omega) | simp)).trans (by first | (go_simp; done) | ((repeat rw [cell_al (by first | omega | (simp; omega) | simp)]); first | assumption | (go_simp; done)))
  have kw2_2_1 : w2.cell? ⟨w0.heap.size, 1, none⟩ = some (.int .i64 b2) := (hbw2.cell (p := ⟨w0.heap.size, 1, none⟩) (by first | omega | (simp; omega) | simp)).trans (by first | (go_simp; done) | ((repeat rw [cell_al (by first | omega | (simp; omega) | simp)]); first | assumption | (go_simp; done)))
  have kw2_2_2 : w2.cell? ⟨w0.heap.size, 2, none⟩ = some (.int .i64 a3) := (hbw2.cell (p := ⟨w0.heap.size, 2, none⟩) (by first | omega | (simp; omega) | simp)).trans (by first | (go_simp; done) | ((repeat rw [cell_al (by first | omega | (simp; omega) | simp)]); first | assumption | (go_simp; done)))
  have kw2_2_3 : w2.cell? ⟨w0.heap.size, 3, none⟩ = some (.int .i64 a4) := (hbw2.cell (p := ⟨w0.heap.size, 3, none⟩) (by first | omega | (simp; omega) | simp)).trans (by first | (go_simp; done) | ((repeat rw [cell_al (by first | omega | (simp; omega) | simp)]); first | assumption | (go_simp; done)))
  have kw2_2_4 : w2.cell? ⟨w0.heap.size, 4, none⟩ = some (.int .i64 a5) := (hbw2.cell (p := ⟨w0.heap.size, 4, none⟩) (by first | omega | (simp; omega) | simp)).trans (by first | (go_simp; done) | ((repeat rw [cell_al (by first | omega | (simp; omega) | simp)]); first | assumption | (go_simp; done)))
  have hsw2_2 : w0.heap.size < w2.heap.size := (by omega)
  have hBw2 : Below w.heap.size w w2 := by
    refine bthen hbw2 ?_ (by first | omega | (simp; omega) | simp)
    repeat (first | exact Below.refl _ _ | (with_reducible assumption) | (refine Below.drew ?_) | (refine Below.setCell ?_ (by first | omega | (simp; omega) | simp) _) | (refine Below.alloc ?_ (by first | omega | (simp; omega) | simp) _) | (refine bthen (by assumption) ?_ (by first | omega | (simp; omega) | simp)))
  have hvw2 := hBw2.size
  clear kw1_0_0 kw1_0_1 kw1_0_2 kw1_0_3 kw1_0_4 hsw1_0 kw1_1_0 kw1_1_1 kw1_1_2 kw1_1_3 kw1_1_4 hsw1_1 kw1_2_0 kw1_2_1 kw1_2_2 kw1_2_3 kw1_2_4 hsw1_2 hBw1 hvw1 hzw1
  clear hbw2
  clear hs hpe ht hqe
  rcases hp with rfl | ⟨rfl, rfl⟩ <;> rcases hq with rfl | ⟨rfl, rfl⟩
  · have hst' := hst rfl rfl
    clear hst
    by_cases hE : a1 = a1 ∧ a2 = b2 ∧ a3 = a3 ∧ a4 = a4 ∧ a5 = a5
    · have hl : s = t := hst'.2 (by simpa using hE)
      clear hst'
      obtain ⟨q1, q2, q3, q4, q5⟩ := hE
      subst hl
      (try subst q1); (try subst q2); (try subst q3); (try subst q4); (try subst q5)
      go_wp2_with (first | (go_at_call 11; refine (num_any _ _).mono ?_; rintro e w3 ⟨rfl, rfl⟩))
      go_returns
      refine ⟨by simp, ?_⟩
      repeat (first | exact Below.refl _ _ | assumption | (refine Below.drew ?_) | (refine Below.setCell ?_ (by first | omega | (simp; omega) | simp) _) | (refine Below.alloc ?_ (by first | omega | (simp; omega) | simp) _) | (refine bthen (by assumption) ?_ (by first | omega | (simp; omega) | simp)))
    · have hl : (s.toList == t.toList) = false := unlike_toList (fun h => hE (by simpa using hst'.1 h))
      clear hst'
      go_wp2_with (first | (go_at_call 11; refine (num_any _ _).mono ?_; rintro e w3 ⟨rfl, rfl⟩))
      all_goals first
        | (exfalso; (try simp only [and_true, true_and] at hE); omega)
        | (go_returns; refine ⟨by simp, ?_⟩; repeat (first | exact Below.refl _ _ | assumption | (refine Below.drew ?_) | (refine Below.setCell ?_ (by first | omega | (simp; omega) | simp) _) | (refine Below.alloc ?_ (by first | omega | (simp; omega) | simp) _) | (refine bthen (by assumption) ?_ (by first | omega | (simp; omega) | simp))))
  all_goals (clear hst; go_wp2_with (first | (go_at_call 11; refine (num_any _ _).mono ?_; rintro e w3 ⟨rfl, rfl⟩)))
  all_goals go_returns
  all_goals refine ⟨rfl, ?_⟩
  all_goals repeat (first | exact Below.refl _ _ | assumption | (refine Below.drew ?_) | (refine Below.setCell ?_ (by first | omega | (simp; omega) | simp) _) | (refine Below.alloc ?_ (by first | omega | (simp; omega) | simp) _) | (refine bthen (by assumption) ?_ (by first | omega | (simp; omega) | simp)))
set_option maxHeartbeats 8000000 in
theorem walk2 (a1 a2 a3 a4 a5 b1 b2 b3 b4 b5 which : Int) (s t : ByteArray) (pe qe : Int) (w : World) (hi : (IntKind.u64.wrap which).tmod 6 = 2)
    (hs : putB a1 a2 a3 a4 a5 = s) (hpe : putE a1 a2 a3 a4 a5 = pe) (ht : putB a1 a2 b3 a4 a5 = t) (hqe : putE a1 a2 b3 a4 a5 = qe)
    (hp : pe = 0 ∨ (pe = 1600 ∧ s = ⟨#[]⟩)) (hq : qe = 0 ∨ (qe = 1600 ∧ t = ⟨#[]⟩)) (hst : pe = 0 → qe = 0 → (s = t ↔ (a1 = a1 ∧ a2 = a2 ∧ a3 = b3 ∧ a4 = a4 ∧ a5 = a5))) :
    Calls Try.prog 6 #[.agg #[.int .i64 a1, .int .i64 a2, .int .i64 a3, .int .i64 a4, .int .i64 a5], .agg #[.int .i64 b1, .int .i64 b2, .int .i64 b3, .int .i64 b4, .int .i64 b5], .int .i64 which] w fun e w' => e = .returned (.bool true) ∧ Below w.heap.size w w' := by
  go_enter Try.func6, Try.ntmps6
  go_wp2_with fail
  refine (awakeD _).mono ?_; rintro e w0 ⟨rfl, hbw0⟩
  have hzw0 := hbw0.size; (try simp at hzw0)
  have kw0_0_0 : w0.cell? ⟨w.heap.size, 0, none⟩ = some (.int .i64 a1) := (hbw0.cell (p := ⟨w.heap.size, 0, none⟩) (by first | omega | (simp; omega) | simp)).trans (by first | (go_simp; done) | ((repeat rw [cell_al (by first | omega | (simp; omega) | simp)]); first | assumption | (go_simp; done)))
  have kw0_0_1 : w0.cell? ⟨w.heap.size, 1, none⟩ = some (.int .i64 a2) := (hbw0.cell (p := ⟨w.heap.size, 1, none⟩) (by first | omega | (simp; omega) | simp)).trans (by first | (go_simp; done) | ((repeat rw [cell_al (by first | omega | (simp; omega) | simp)]); first | assumption | (go_simp; done)))
  have kw0_0_2 : w0.cell? ⟨w.heap.size, 2, none⟩ = some (.int .i64 a3) := (hbw0.cell (p := ⟨w.heap.size, 2, none⟩) (by first | omega | (simp; omega) | simp)).trans (by first | (go_simp; done) | ((repeat rw [cell_al (by first | omega | (simp; omega) | simp)]); first | assumption | (go_simp; done)))
  have kw0_0_3 : w0.cell? ⟨w.heap.size, 3, none⟩ = some (.int .i64 a4) := (hbw0.cell (p := ⟨w.heap.size, 3, none⟩) (by first | omega | (simp; omega) | simp)).trans (by first | (go_simp; done) | ((repeat rw [cell_al (by first | omega | (simp; omega) | simp)]); first | assumption | (go_simp; done)))
  have kw0_0_4 : w0.cell? ⟨w.heap.size, 4, none⟩ = some (.int .i64 a5) := (hbw0.cell (p := ⟨w.heap.size, 4, none⟩) (by first | omega | (simp; omega) | simp)).trans (by first | (go_simp; done) | ((repeat rw [cell_al (by first | omega | (simp; omega) | simp)]); first | assumption | (go_simp; done)))
  have hsw0_0 : w.heap.size < w0.heap.size := (by omega)
  have kw0_1_0 : w0.cell? ⟨w.heap.size + 1, 0, none⟩ = some (.int .i64 b1) := (hbw0.cell (p := ⟨w.heap.size + 1, 0, none⟩) (by first | omega | (simp; omega) | simp)).trans (by first | (go_simp; done) | ((repeat rw [cell_al (by first | omega | (simp; omega) | simp)]); first | assumption | (go_simp; done)))
  have kw0_1_1 : w0.cell? ⟨w.heap.size + 1, 1, none⟩ = some (.int .i64 b2) := (hbw0.cell (p := ⟨w.heap.size + 1, 1, none⟩) (by first | omega | (simp; omega) | simp)).trans (by first | (go_simp; done) | ((repeat rw [cell_al (by first | omega | (simp; omega) | simp)]); first | assumption | (go_simp; done)))
  have kw0_1_2 : w0.cell? ⟨w.heap.size + 1, 2, none⟩ = some (.int .i64 b3) := (hbw0.cell (p := ⟨w.heap.size + 1, 2, none⟩) (by first | omega | (simp; omega) | simp)).trans (by first | (go_simp; done) | ((repeat rw [cell_al (by first | omega | (simp; omega) | simp)]); first | assumption | (go_simp; done)))
  have kw0_1_3 : w0.cell? ⟨w.heap.size + 1, 3, none⟩ = some (.int .i64 b4) := (hbw0.cell (p := ⟨w.heap.size + 1, 3, none⟩) (by first | omega | (simp; omega) | simp)).trans (by first | (go_simp; done) | ((repeat rw [cell_al (by first | omega | (simp; omega) | simp)]); first | assumption | (go_simp; done)))
  have kw0_1_4 : w0.cell? ⟨w.heap.size + 1, 4, none⟩ = some (.int .i64 b5) := (hbw0.cell (p := ⟨w.heap.size + 1, 4, none⟩) (by first | omega | (simp; omega) | simp)).trans (by first | (go_simp; done) | ((repeat rw [cell_al (by first | omega | (simp; omega) | simp)]); first | assumption | (go_simp; done)))
  have hsw0_1 : w.heap.size + 1 < w0.heap.size := (by omega)
  have hBw0 : Below w.heap.size w w0 := by
    refine bthen hbw0 ?_ (by first | omega | (simp; omega) | simp)
    repeat (first | exact Below.refl _ _ | (with_reducible assumption) | (refine Below.drew ?_) | (refine Below.setCell ?_ (by first | omega | (simp; omega) | simp) _) | (refine Below.alloc ?_ (by first | omega | (simp; omega) | simp) _) | (refine bthen (by assumption) ?_ (by first | omega | (simp; omega) | simp)))
  have hvw0 := hBw0.size
  clear hbw0
  go_wp2_with fail
  refine (put_is _ _ _ _ _ _ _ _ hs hpe).mono ?_; rintro e w1 ⟨rfl, hbw1⟩
  have hzw1 := hbw1.size; (try simp at hzw1)
  have kw1_0_0 : w1.cell? ⟨w.heap.size, 0, none⟩ = some (.int .i64 a1) := (hbw1.cell (p := ⟨w.heap.size, 0, none⟩) (by first | omega | (simp; omega) | simp)).trans (by first | (go_simp; done) | ((repeat rw [cell_al (by first | omega | (simp; omega) | simp)]); first | assumption | (go_simp; done)))
  have kw1_0_1 : w1.cell? ⟨w.heap.size, 1, none⟩ = some (.int .i64 a2) := (hbw1.cell (p := ⟨w.heap.size, 1, none⟩) (by first | omega | (simp; omega) | simp)).trans (by first | (go_simp; done) | ((repeat rw [cell_al (by first | omega | (simp; omega) | simp)]); first | assumption | (go_simp; done)))
  have kw1_0_2 : w1.cell? ⟨w.heap.size, 2, none⟩ = some (.int .i64 a3) := (hbw1.cell (p := ⟨w.heap.size, 2, none⟩) (by first | omega | (simp; omega) | simp)).trans (by first | (go_simp; done) | ((repeat rw [cell_al (by first | omega | (simp; omega) | simp)]); first | assumption | (go_simp; done)))
  have kw1_0_3 : w1.cell? ⟨w.heap.size, 3, none⟩ = some (.int .i64 a4) := (hbw1.cell (p := ⟨w.heap.size, 3, none⟩) (by first | omega | (simp; omega) | simp)).trans (by first | (go_simp; done) | ((repeat rw [cell_al (by first | omega | (simp; omega) | simp)]); first | assumption | (go_simp; done)))
  have kw1_0_4 : w1.cell? ⟨w.heap.size, 4, none⟩ = some (.int .i64 a5) := (hbw1.cell (p := ⟨w.heap.size, 4, none⟩) (by first | omega | (simp; omega) | simp)).trans (by first | (go_simp; done) | ((repeat rw [cell_al (by first | omega | (simp; omega) | simp)]); first | assumption | (go_simp; done)))
  have hsw1_0 : w.heap.size < w1.heap.size := (by omega)
  have kw1_1_0 : w1.cell? ⟨w.heap.size + 1, 0, none⟩ = some (.int .i64 b1) := (hbw1.cell (p := ⟨w.heap.size + 1, 0, none⟩) (by first | omega | (simp; omega) | simp)).trans (by first | (go_simp; done) | ((repeat rw [cell_al (by first | omega | (simp; omega) | simp)]); first | assumption | (go_simp; done)))
  have kw1_1_1 : w1.cell? ⟨w.heap.size + 1, 1, none⟩ = some (.int .i64 b2) := (hbw1.cell (p := ⟨w.heap.size + 1, 1, none⟩) (by first | omega | (simp; omega) | simp)).trans (by first | (go_simp; done) | ((repeat rw [cell_al (by first | omega | (simp; omega) | simp)]); first | assumption | (go_simp; done)))
  have kw1_1_2 : w1.cell? ⟨w.heap.size + 1, 2, none⟩ = some (.int .i64 b3) := (hbw1.cell (p := ⟨w.heap.size + 1, 2, none⟩) (by first | omega | (simp; omega) | simp)).trans (by first | (go_simp; done) | ((repeat rw [cell_al (by first | omega | (simp; omega) | simp)]); first | assumption | (go_simp; done)))
  have kw1_1_3 : w1.cell? ⟨w.heap.size + 1, 3, none⟩ = some (.int .i64 b4) := (hbw1.cell (p := ⟨w.heap.size + 1, 3, none⟩) (by first | omega | (simp; omega) | simp)).trans (by first | (go_simp; done) | ((repeat rw [cell_al (by first | omega | (simp; omega) | simp)]); first | assumption | (go_simp; done)))
  have kw1_1_4 : w1.cell? ⟨w.heap.size + 1, 4, none⟩ = some (.int .i64 b5) := (hbw1.cell (p := ⟨w.heap.size + 1, 4, none⟩) (by first | omega | (simp; omega) | simp)).trans (by first | (go_simp; done) | ((repeat rw [cell_al (by first | omega | (simp; omega) | simp)]); first | assumption | (go_simp; done)))
  have hsw1_1 : w.heap.size + 1 < w1.heap.size := (by omega)
  have kw1_2_0 : w1.cell? ⟨w0.heap.size, 0, none⟩ = some (.int .i64 a1) := (hbw1.cell (p := ⟨w0.heap.size, 0, none⟩) (by first | omega | (simp; omega) | simp)).trans (by first | (go_simp; done) | ((repeat rw [cell_al (by first | omega | (simp; omega) | simp)]); first | assumption | (go_simp; done)))
  have kw1_2_1 : w1.cell? ⟨w0.heap.size, 1, none⟩ = some (.int .i64 a2) := (hbw1.cell (p := ⟨w0.heap.size, 1, none⟩) (by first | omega | (simp; omega) | simp)).trans (by first | (go_simp; done) | ((repeat rw [cell_al (by first | omega | (simp; omega) | simp)]); first | assumption | (go_simp; done)))
  have kw1_2_2 : w1.cell? ⟨w0.heap.size, 2, none⟩ = some (.int .i64 b3) := (hbw1.cell (p := ⟨w0.heap.size, 2, none⟩) (by first | omega | (simp; omega) | simp)).trans (by first | (go_simp; done) | ((repeat rw [cell_al (by first | omega | (simp; omega) | simp)]); first | assumption | (go_simp; done)))
  have kw1_2_3 : w1.cell? ⟨w0.heap.size, 3, none⟩ = some (.int .i64 a4) := (hbw1.cell (p := ⟨w0.heap.size, 3, none⟩) (by first | omega | (simp; omega) | simp)).trans (by first | (go_simp; done) | ((repeat rw [cell_al (by first | omega | (simp; omega) | simp)]); first | assumption | (go_simp; done)))
  have kw1_2_4 : w1.cell? ⟨w0.heap.size, 4, none⟩ = some (.int .i64 a5) := (hbw1.cell (p := ⟨w0.heap.size, 4, none⟩) (by first | omega | (simp; omega) | simp)).trans (by first | (go_simp; done) | ((repeat rw [cell_al (by first | omega | (simp; omega) | simp)]); first | assumption | (go_simp; done)))
  have hsw1_2 : w0.heap.size < w1.heap.size := (by omega)
  have hBw1 : Below w.heap.size w w1 := by
    refine bthen hbw1 ?_ (by first | omega | (simp; omega) | simp)
    repeat (first | exact Below.refl _ _ | (with_reducible assumption) | (refine Below.drew ?_) | (refine Below.setCell ?_ (by first | omega | (simp; omega) | simp) _) | (refine Below.alloc ?_ (by first | omega | (simp; omega) | simp) _) | (refine bthen (by assumption) ?_ (by first | omega | (simp; omega) | simp)))
  have hvw1 := hBw1.size
  clear kw0_0_0 kw0_0_1 kw0_0_2 kw0_0_3 kw0_0_4 hsw0_0 kw0_1_0 kw0_1_1 kw0_1_2 kw0_1_3 kw0_1_4 hsw0_1 hBw0 hvw0 hzw0
  clear hbw1
  go_wp2_with fail
  refine (put_is _ _ _ _ _ _ _ _ ht hqe).mono ?_; rintro e w2 ⟨rfl, hbw2⟩
  have hzw2 := hbw2.size; (try simp at hzw2)
  have kw2_0_0 : w2.cell? ⟨w.heap.size, 0, none⟩ = some (.int .i64 a1) := (hbw2.cell (p := ⟨w.heap.size, 0, none⟩) (by first | omega | (simp; omega) | simp)).trans (by first | (go_simp; done) | ((repeat rw [cell_al (by first | omega | (simp; omega) | simp)]); first | assumption | (go_simp; done)))
  have kw2_0_1 : w2.cell? ⟨w.heap.size, 1, none⟩ = some (.int .i64 a2) := (hbw2.cell (p := ⟨w.heap.size, 1, none⟩) (by first | omega | (simp; omega) | simp)).trans (by first | (go_simp; done) | ((repeat rw [cell_al (by first | omega | (simp; omega) | simp)]); first | assumption | (go_simp; done)))
  have kw2_0_2 : w2.cell? ⟨w.heap.size, 2, none⟩ = some (.int .i64 a3) := (hbw2.cell (p := ⟨w.heap.size, 2, none⟩) (by first | omega | (simp; omega) | simp)).trans (by first | (go_simp; done) | ((repeat rw [cell_al (by first | omega | (simp; omega) | simp)]); first | assumption | (go_simp; done)))
  have kw2_0_3 : w2.cell? ⟨w.heap.size, 3, none⟩ = some (.int .i64 a4) := (hbw2.cell (p := ⟨w.heap.size, 3, none⟩) (by first | omega | (simp; omega) | simp)).trans (by first | (go_simp; done) | ((repeat rw [cell_al (by first | omega | (simp; omega) | simp)]); first | assumption | (go_simp; done)))
  have kw2_0_4 : w2.cell? ⟨w.heap.size, 4, none⟩ = some (.int .i64 a5) := (hbw2.cell (p := ⟨w.heap.size, 4, none⟩) (by first | omega | (simp; omega) | simp)).trans (by first | (go_simp; done) | ((repeat rw [cell_al (by first | omega | (simp; omega) | simp)]); first | assumption | (go_simp; done)))
  have hsw2_0 : w.heap.size < w2.heap.size := (by omega)
  have kw2_1_0 : w2.cell? ⟨w.heap.size + 1, 0, none⟩ = some (.int .i64 b1) := (hbw2.cell (p := ⟨w.heap.size + 1, 0, none⟩) (by first | omega | (simp; omega) | simp)).trans (by first | (go_simp; done) | ((repeat rw [cell_al (by first | omega | (simp; omega) | simp)]); first | assumption | (go_simp; done)))
  have kw2_1_1 : w2.cell? ⟨w.heap.size + 1, 1, none⟩ = some (.int .i64 b2) := (hbw2.cell (p := ⟨w.heap.size + 1, 1, none⟩) (by first | omega | (simp; omega) | simp)).trans (by first | (go_simp; done) | ((repeat rw [cell_al (by first | omega | (simp; omega) | simp)]); first | assumption | (go_simp; done)))
  have kw2_1_2 : w2.cell? ⟨w.heap.size + 1, 2, none⟩ = some (.int .i64 b3) := (hbw2.cell (p := ⟨w.heap.size + 1, 2, none⟩) (by first | omega | (simp; omega) | simp)).trans (by first | (go_simp; done) | ((repeat rw [cell_al (by first | omega | (simp; omega) | simp)]); first | assumption | (go_simp; done)))
  have kw2_1_3 : w2.cell? ⟨w.heap.size + 1, 3, none⟩ = some (.int .i64 b4) := (hbw2.cell (p := ⟨w.heap.size + 1, 3, none⟩) (by first | omega | (simp; omega) | simp)).trans (by first | (go_simp; done) | ((repeat rw [cell_al (by first | omega | (simp; omega) | simp)]); first | assumption | (go_simp; done)))
  have kw2_1_4 : w2.cell? ⟨w.heap.size + 1, 4, none⟩ = some (.int .i64 b5) := (hbw2.cell (p := ⟨w.heap.size + 1, 4, none⟩) (by first | omega | (simp; omega) | simp)).trans (by first | (go_simp; done) | ((repeat rw [cell_al (by first | omega | (simp; omega) | simp)]); first | assumption | (go_simp; done)))
  have hsw2_1 : w.heap.size + 1 < w2.heap.size := (by omega)
  have kw2_2_0 : w2.cell? ⟨w0.heap.size, 0, none⟩ = some (.int .i64 a1) := (hbw2.cell (p := ⟨w0.heap.size, 0, none⟩) (by first | omega | (simp; omega) | simp)).trans (by first | (go_simp; done) | ((repeat rw [cell_al (by first | omega | (simp; omega) | simp)]); first | assumption | (go_simp; done)))
  have kw2_2_1 : w2.cell? ⟨w0.heap.size, 1, none⟩ = some (.int .i64 a2) := (hbw2.cell (p := ⟨w0.heap.size, 1, none⟩) (by first | omega | (simp; omega) | simp)).trans (by first | (go_simp; done) | ((repeat rw [cell_al (by first | omega | (simp; omega) | simp)]); first | assumption | (go_simp; done)))
  have kw2_2_2 : w2.cell? ⟨w0.heap.size, 2, none⟩ = some (.int .i64 b3) := (hbw2.cell (p := ⟨w0.heap.size, 2, none⟩) (by first | omega | (simp; omega) | simp)).trans (by first | (go_simp; done) | ((repeat rw [cell_al (by first | omega | (simp; omega) | simp)]); first | assumption | (go_simp; done)))
  have kw2_2_3 : w2.cell? ⟨w0.heap.size, 3, none⟩ = some (.int .i64 a4) := (hbw2.cell (p := ⟨w0.heap.size, 3, none⟩) (by first | omega | (simp; omega) | simp)).trans (by first | (go_simp; done) | ((repeat rw [cell_al (by first | omega | (simp; omega) | simp)]); first | assumption | (go_simp; done)))
  have kw2_2_4 : w2.cell? ⟨w0.heap.size, 4, none⟩ = some (.int .i64 a5) := (hbw2.cell (p := ⟨w0.heap.size, 4, none⟩) (by first | omega | (simp; omega) | simp)).trans (by first | (go_simp; done) | ((repeat rw [cell_al (by first | omega | (simp; omega) | simp)]); first | assumption | (go_simp; done)))
  have hsw2_2 : w0.heap.size < w2.heap.size := (by omega)
  have hBw2 : Below w.heap.size w w2 := by
    refine bthen hbw2 ?_ (by first | omega | (simp; omega) | simp)
    repeat (first | exact Below.refl _ _ | (with_reducible assumption) | (refine Below.drew ?_) | (refine Below.setCell ?_ (by first | omega | (simp; omega) | simp) _) | (refine Below.alloc ?_ (by first | omega | (simp; omega) | simp) _) | (refine bthen (by assumption) ?_ (by first | omega | (simp; omega) | simp)))
  have hvw2 := hBw2.size
  clear kw1_0_0 kw1_0_1 kw1_0_2 kw1_0_3 kw1_0_4 hsw1_0 kw1_1_0 kw1_1_1 kw1_1_2 kw1_1_3 kw1_1_4 hsw1_1 kw1_2_0 kw1_2_1 kw1_2_2 kw1_2_3 kw1_2_4 hsw1_2 hBw1 hvw1 hzw1
  clear hbw2
  clear hs hpe ht hqe
  rcases hp with rfl | ⟨rfl, rfl⟩ <;> rcases hq with rfl | ⟨rfl, rfl⟩
  · have hst' := hst rfl rfl
    clear hst
    by_cases hE : a1 = a1 ∧ a2 = a2 ∧ a3 = b3 ∧ a4 = a4 ∧ a5 = a5
    · have hl : s = t := hst'.2 (by simpa using hE)
      clear hst'
      obtain ⟨q1, q2, q3, q4, q5⟩ := hE
      subst hl
      (try subst q1); (try subst q2); (try subst q3); (try subst q4); (try subst q5)
      go_wp2_with (first | (go_at_call 11; refine (num_any _ _).mono ?_; rintro e w3 ⟨rfl, rfl⟩))
      go_returns
      refine ⟨by simp, ?_⟩
      repeat (first | exact Below.refl _ _ | assumption | (refine Below.drew ?_) | (refine Below.setCell ?_ (by first | omega | (simp; omega) | simp) _) | (refine Below.alloc ?_ (by first | omega | (simp; omega) | simp) _) | (refine bthen (by assumption) ?_ (by first | omega | (simp; omega) | simp)))
    · have hl : (s.toList == t.toList) = false := unlike_toList (fun h => hE (by simpa using hst'.1 h))
      clear hst'
      go_wp2_with (first | (go_at_call 11; refine (num_any _ _).mono ?_; rintro e w3 ⟨rfl, rfl⟩))
      all_goals first
        | (exfalso; (try simp only [and_true, true_and] at hE); omega)
        | (go_returns; refine ⟨by simp, ?_⟩; repeat (first | exact Below.refl _ _ | assumption | (refine Below.drew ?_) | (refine Below.setCell ?_ (by first | omega | (simp; omega) | simp) _) | (refine Below.alloc ?_ (by first | omega | (simp; omega) | simp) _) | (refine bthen (by assumption) ?_ (by first | omega | (simp; omega) | simp))))
  all_goals (clear hst; go_wp2_with (first | (go_at_call 11; refine (num_any _ _).mono ?_; rintro e w3 ⟨rfl, rfl⟩)))
  all_goals go_returns
  all_goals refine ⟨rfl, ?_⟩
  all_goals repeat (first | exact Below.refl _ _ | assumption | (refine Below.drew ?_) | (refine Below.setCell ?_ (by first | omega | (simp; omega) | simp) _) | (refine Below.alloc ?_ (by first | omega | (simp; omega) | simp) _) | (refine bthen (by assumption) ?_ (by first | omega | (simp; omega) | simp)))
set_option maxHeartbeats 8000000 in
theorem walk3 (a1 a2 a3 a4 a5 b1 b2 b3 b4 b5 which : Int) (s t : ByteArray) (pe qe : Int) (w : World) (hi : (IntKind.u64.wrap which).tmod 6 = 3)
    (hs : putB a1 a2 a3 a4 a5 = s) (hpe : putE a1 a2 a3 a4 a5 = pe) (ht : putB a1 a2 a3 b4 a5 = t) (hqe : putE a1 a2 a3 b4 a5 = qe)
    (hp : pe = 0 ∨ (pe = 1600 ∧ s = ⟨#[]⟩)) (hq : qe = 0 ∨ (qe = 1600 ∧ t = ⟨#[]⟩)) (hst : pe = 0 → qe = 0 → (s = t ↔ (a1 = a1 ∧ a2 = a2 ∧ a3 = a3 ∧ a4 = b4 ∧ a5 = a5))) :
    Calls Try.prog 6 #[.agg #[.int .i64 a1, .int .i64 a2, .int .i64 a3, .int .i64 a4, .int .i64 a5], .agg #[.int .i64 b1, .int .i64 b2, .int .i64 b3, .int .i64 b4, .int .i64 b5], .int .i64 which] w fun e w' => e = .returned (.bool true) ∧ Below w.heap.size w w' := by
  go_enter Try.func6, Try.ntmps6
  go_wp2_with fail
  refine (awakeD _).mono ?_; rintro e w0 ⟨rfl, hbw0⟩
  have hzw0 := hbw0.size; (try simp at hzw0)
  have kw0_0_0 : w0.cell? ⟨w.heap.size, 0, none⟩ = some (.int .i64 a1) := (hbw0.cell (p := ⟨w.heap.size, 0, none⟩) (by first | omega | (simp; omega) | simp)).trans (by first | (go_simp; done) | ((repeat rw [cell_al (by first | omega | (simp; omega) | simp)]); first | assumption | (go_simp; done)))
  have kw0_0_1 : w0.cell? ⟨w.heap.size, 1, none⟩ = some (.int .i64 a2) := (hbw0.cell (p := ⟨w.heap.size, 1, none⟩) (by first | omega | (simp; omega) | simp)).trans (by first | (go_simp; done) | ((repeat rw [cell_al (by first | omega | (simp; omega) | simp)]); first | assumption | (go_simp; done)))
  have kw0_0_2 : w0.cell? ⟨w.heap.size, 2, none⟩ = some (.int .i64 a3) := (hbw0.cell (p := ⟨w.heap.size, 2, none⟩) (by first | omega | (simp; omega) | simp)).trans (by first | (go_simp; done) | ((repeat rw [cell_al (by first | omega | (simp; omega) | simp)]); first | assumption | (go_simp; done)))
  have kw0_0_3 : w0.cell? ⟨w.heap.size, 3, none⟩ = some (.int .i64 a4) := (hbw0.cell (p := ⟨w.heap.size, 3, none⟩) (by first | omega | (simp; omega) | simp)).trans (by first | (go_simp; done) | ((repeat rw [cell_al (by first | omega | (simp; omega) | simp)]); first | assumption | (go_simp; done)))
  have kw0_0_4 : w0.cell? ⟨w.heap.size, 4, none⟩ = some (.int .i64 a5) := (hbw0.cell (p := ⟨w.heap.size, 4, none⟩) (by first | omega | (simp; omega) | simp)).trans (by first | (go_simp; done) | ((repeat rw [cell_al (by first | omega | (simp; omega) | simp)]); first | assumption | (go_simp; done)))
  have hsw0_0 : w.heap.size < w0.heap.size := (by omega)
  have kw0_1_0 : w0.cell? ⟨w.heap.size + 1, 0, none⟩ = some (.int .i64 b1) := (hbw0.cell (p := ⟨w.heap.size + 1, 0, none⟩) (by first | omega | (simp; omega) | simp)).trans (by first | (go_simp; done) | ((repeat rw [cell_al (by first | omega | (simp; omega) | simp)]); first | assumption | (go_simp; done)))
  have kw0_1_1 : w0.cell? ⟨w.heap.size + 1, 1, none⟩ = some (.int .i64 b2) := (hbw0.cell (p := ⟨w.heap.size + 1, 1, none⟩) (by first | omega | (simp; omega) | simp)).trans (by first | (go_simp; done) | ((repeat rw [cell_al (by first | omega | (simp; omega) | simp)]); first | assumption | (go_simp; done)))
  have kw0_1_2 : w0.cell? ⟨w.heap.size + 1, 2, none⟩ = some (.int .i64 b3) := (hbw0.cell (p := ⟨w.heap.size + 1, 2, none⟩) (by first | omega | (simp; omega) | simp)).trans (by first | (go_simp; done) | ((repeat rw [cell_al (by first | omega | (simp; omega) | simp)]); first | assumption | (go_simp; done)))
  have kw0_1_3 : w0.cell? ⟨w.heap.size + 1, 3, none⟩ = some (.int .i64 b4) := (hbw0.cell (p := ⟨w.heap.size + 1, 3, none⟩) (by first | omega | (simp; omega) | simp)).trans (by first | (go_simp; done) | ((repeat rw [cell_al (by first | omega | (simp; omega) | simp)]); first | assumption | (go_simp; done)))
  have kw0_1_4 : w0.cell? ⟨w.heap.size + 1, 4, none⟩ = some (.int .i64 b5) := (hbw0.cell (p := ⟨w.heap.size + 1, 4, none⟩) (by first | omega | (simp; omega) | simp)).trans (by first | (go_simp; done) | ((repeat rw [cell_al (by first | omega | (simp; omega) | simp)]); first | assumption | (go_simp; done)))
  have hsw0_1 : w.heap.size + 1 < w0.heap.size := (by omega)
  have hBw0 : Below w.heap.size w w0 := by
    refine bthen hbw0 ?_ (by first | omega | (simp; omega) | simp)
    repeat (first | exact Below.refl _ _ | (with_reducible assumption) | (refine Below.drew ?_) | (refine Below.setCell ?_ (by first | omega | (simp; omega) | simp) _) | (refine Below.alloc ?_ (by first | omega | (simp; omega) | simp) _) | (refine bthen (by assumption) ?_ (by first | omega | (simp; omega) | simp)))
  have hvw0 := hBw0.size
  clear hbw0
  go_wp2_with fail
  refine (put_is _ _ _ _ _ _ _ _ hs hpe).mono ?_; rintro e w1 ⟨rfl, hbw1⟩
  have hzw1 := hbw1.size; (try simp at hzw1)
  have kw1_0_0 : w1.cell? ⟨w.heap.size, 0, none⟩ = some (.int .i64 a1) := (hbw1.cell (p := ⟨w.heap.size, 0, none⟩) (by first | omega | (simp; omega) | simp)).trans (by first | (go_simp; done) | ((repeat rw [cell_al (by first | omega | (simp; omega) | simp)]); first | assumption | (go_simp; done)))
  have kw1_0_1 : w1.cell? ⟨w.heap.size, 1, none⟩ = some (.int .i64 a2) := (hbw1.cell (p := ⟨w.heap.size, 1, none⟩) (by first | omega | (simp; omega) | simp)).trans (by first | (go_simp; done) | ((repeat rw [cell_al (by first | omega | (simp; omega) | simp)]); first | assumption | (go_simp; done)))
  have kw1_0_2 : w1.cell? ⟨w.heap.size, 2, none⟩ = some (.int .i64 a3) := (hbw1.cell (p := ⟨w.heap.size, 2, none⟩) (by first | omega | (simp; omega) | simp)).trans (by first | (go_simp; done) | ((repeat rw [cell_al (by first | omega | (simp; omega) | simp)]); first | assumption | (go_simp; done)))
  have kw1_0_3 : w1.cell? ⟨w.heap.size, 3, none⟩ = some (.int .i64 a4) := (hbw1.cell (p := ⟨w.heap.size, 3, none⟩) (by first | omega | (simp; omega) | simp)).trans (by first | (go_simp; done) | ((repeat rw [cell_al (by first | omega | (simp; omega) | simp)]); first | assumption | (go_simp; done)))
  have kw1_0_4 : w1.cell? ⟨w.heap.size, 4, none⟩ = some (.int .i64 a5) := (hbw1.cell (p := ⟨w.heap.size, 4, none⟩) (by first | omega | (simp; omega) | simp)).trans (by first | (go_simp; done) | ((repeat rw [cell_al (by first | omega | (simp; omega) | simp)]); first | assumption | (go_simp; done)))
  have hsw1_0 : w.heap.size < w1.heap.size := (by omega)
  have kw1_1_0 : w1.cell? ⟨w.heap.size + 1, 0, none⟩ = some (.int .i64 b1) := (hbw1.cell (p := ⟨w.heap.size + 1, 0, none⟩) (by first | omega | (simp; omega) | simp)).trans (by first | (go_simp; done) | ((repeat rw [cell_al (by first | omega | (simp; omega) | simp)]); first | assumption | (go_simp; done)))
  have kw1_1_1 : w1.cell? ⟨w.heap.size + 1, 1, none⟩ = some (.int .i64 b2) := (hbw1.cell (p := ⟨w.heap.size + 1, 1, none⟩) (by first | omega | (simp; omega) | simp)).trans (by first | (go_simp; done) | ((repeat rw [cell_al (by first | omega | (simp; omega) | simp)]); first | assumption | (go_simp; done)))
  have kw1_1_2 : w1.cell? ⟨w.heap.size + 1, 2, none⟩ = some (.int .i64 b3) := (hbw1.cell (p := ⟨w.heap.size + 1, 2, none⟩) (by first | omega | (simp; omega) | simp)).trans (by first | (go_simp; done) | ((repeat rw [cell_al (by first | omega | (simp; omega) | simp)]); first | assumption | (go_simp; done)))
  have kw1_1_3 : w1.cell? ⟨w.heap.size + 1, 3, none⟩ = some (.int .i64 b4) := (hbw1.cell (p := ⟨w.heap.size + 1, 3, none⟩) (by first | omega | (simp; omega) | simp)).trans (by first | (go_simp; done) | ((repeat rw [cell_al (by first | omega | (simp; omega) | simp)]); first | assumption | (go_simp; done)))
  have kw1_1_4 : w1.cell? ⟨w.heap.size + 1, 4, none⟩ = some (.int .i64 b5) := (hbw1.cell (p := ⟨w.heap.size + 1, 4, none⟩) (by first | omega | (simp; omega) | simp)).trans (by first | (go_simp; done) | ((repeat rw [cell_al (by first | omega | (simp; omega) | simp)]); first | assumption | (go_simp; done)))
  have hsw1_1 : w.heap.size + 1 < w1.heap.size := (by omega)
  have kw1_2_0 : w1.cell? ⟨w0.heap.size, 0, none⟩ = some (.int .i64 a1) := (hbw1.cell (p := ⟨w0.heap.size, 0, none⟩) (by first | omega | (simp; omega) | simp)).trans (by first | (go_simp; done) | ((repeat rw [cell_al (by first | omega | (simp; omega) | simp)]); first | assumption | (go_simp; done)))
  have kw1_2_1 : w1.cell? ⟨w0.heap.size, 1, none⟩ = some (.int .i64 a2) := (hbw1.cell (p := ⟨w0.heap.size, 1, none⟩) (by first | omega | (simp; omega) | simp)).trans (by first | (go_simp; done) | ((repeat rw [cell_al (by first | omega | (simp; omega) | simp)]); first | assumption | (go_simp; done)))
  have kw1_2_2 : w1.cell? ⟨w0.heap.size, 2, none⟩ = some (.int .i64 a3) := (hbw1.cell (p := ⟨w0.heap.size, 2, none⟩) (by first | omega | (simp; omega) | simp)).trans (by first | (go_simp; done) | ((repeat rw [cell_al (by first | omega | (simp; omega) | simp)]); first | assumption | (go_simp; done)))
  have kw1_2_3 : w1.cell? ⟨w0.heap.size, 3, none⟩ = some (.int .i64 b4) := (hbw1.cell (p := ⟨w0.heap.size, 3, none⟩) (by first | omega | (simp; omega) | simp)).trans (by first | (go_simp; done) | ((repeat rw [cell_al (by first | omega | (simp; omega) | simp)]); first | assumption | (go_simp; done)))
  have kw1_2_4 : w1.cell? ⟨w0.heap.size, 4, none⟩ = some (.int .i64 a5) := (hbw1.cell (p := ⟨w0.heap.size, 4, none⟩) (by first | omega | (simp; omega) | simp)).trans (by first | (go_simp; done) | ((repeat rw [cell_al (by first | omega | (simp; omega) | simp)]); first | assumption | (go_simp; done)))
  have hsw1_2 : w0.heap.size < w1.heap.size := (by omega)
  have hBw1 : Below w.heap.size w w1 := by
    refine bthen hbw1 ?_ (by first | omega | (simp; omega) | simp)
    repeat (first | exact Below.refl _ _ | (with_reducible assumption) | (refine Below.drew ?_) | (refine Below.setCell ?_ (by first | omega | (simp; omega) | simp) _) | (refine Below.alloc ?_ (by first | omega | (simp; omega) | simp) _) | (refine bthen (by assumption) ?_ (by first | omega | (simp; omega) | simp)))
  have hvw1 := hBw1.size
  clear kw0_0_0 kw0_0_1 kw0_0_2 kw0_0_3 kw0_0_4 hsw0_0 kw0_1_0 kw0_1_1 kw0_1_2 kw0_1_3 kw0_1_4 hsw0_1 hBw0 hvw0 hzw0
  clear hbw1
  go_wp2_with fail
  refine (put_is _ _ _ _ _ _ _ _ ht hqe).mono ?_; rintro e w2 ⟨rfl, hbw2⟩
  have hzw2 := hbw2.size; (try simp at hzw2)
  have kw2_0_0 : w2.cell? ⟨w.heap.size, 0, none⟩ = some (.int .i64 a1) := (hbw2.cell (p := ⟨w.heap.size, 0, none⟩) (by first | omega | (simp; omega) | simp)).trans (by first | (go_simp; done) | ((repeat rw [cell_al (by first | omega | (simp; omega) | simp)]); first | assumption | (go_simp; done)))
  have kw2_0_1 : w2.cell? ⟨w.heap.size, 1, none⟩ = some (.int .i64 a2) := (hbw2.cell (p := ⟨w.heap.size, 1, none⟩) (by first | omega | (simp; omega) | simp)).trans (by first | (go_simp; done) | ((repeat rw [cell_al (by first | omega | (simp; omega) | simp)]); first | assumption | (go_simp; done)))
  have kw2_0_2 : w2.cell? ⟨w.heap.size, 2, none⟩ = some (.int .i64 a3) := (hbw2.cell (p := ⟨w.heap.size, 2, none⟩) (by first | omega | (simp; omega) | simp)).trans (by first | (go_simp; done) | ((repeat rw [cell_al (by first | omega | (simp; omega) | simp)]); first | assumption | (go_simp; done)))
  have kw2_0_3 : w2.cell? ⟨w.heap.size, 3, none⟩ = some (.int .i64 a4) := (hbw2.cell (p := ⟨w.heap.size, 3, none⟩) (by first | omega | (simp; omega) | simp)).trans (by first | (go_simp; done) | ((repeat rw [cell_al (by first | omega | (simp; omega) | simp)]); first | assumption | (go_simp; done)))
  have kw2_0_4 : w2.cell? ⟨w.heap.size, 4, none⟩ = some (.int .i64 a5) := (hbw2.cell (p := ⟨w.heap.size, 4, none⟩) (by first | omega | (simp; omega) | simp)).trans (by first | (go_simp; done) | ((repeat rw [cell_al (by first | omega | (simp; omega) | simp)]); first | assumption | (go_simp; done)))
  have hsw2_0 : w.heap.size < w2.heap.size := (by omega)
  have kw2_1_0 : w2.cell? ⟨w.heap.size + 1, 0, none⟩ = some (.int .i64 b1) := (hbw2.cell (p := ⟨w.heap.size + 1, 0, none⟩) (by first | omega | (simp; omega) | simp)).trans (by first | (go_simp; done) | ((repeat rw [cell_al (by first | omega | (simp; omega) | simp)]); first | assumption | (go_simp; done)))
  have kw2_1_1 : w2.cell? ⟨w.heap.size + 1, 1, none⟩ = some (.int .i64 b2) := (hbw2.cell (p := ⟨w.heap.size + 1, 1, none⟩) (by first | omega | (simp; omega) | simp)).trans (by first | (go_simp; done) | ((repeat rw [cell_al (by first | omega | (simp; omega) | simp)]); first | assumption | (go_simp; done)))
  have kw2_1_2 : w2.cell? ⟨w.heap.size + 1, 2, none⟩ = some (.int .i64 b3) := (hbw2.cell (p := ⟨w.heap.size + 1, 2, none⟩) (by first | omega | (simp; omega) | simp)).trans (by first | (go_simp; done) | ((repeat rw [cell_al (by first | omega | (simp; omega) | simp)]); first | assumption | (go_simp; done)))
  have kw2_1_3 : w2.cell? ⟨w.heap.size + 1, 3, none⟩ = some (.int .i64 b4) := (hbw2.cell (p := ⟨w.heap.size + 1, 3, none⟩) (by first | omega | (simp; omega) | simp)).trans (by first | (go_simp; done) | ((repeat rw [cell_al (by first | omega | (simp; omega) | simp)]); first | assumption | (go_simp; done)))
  have kw2_1_4 : w2.cell? ⟨w.heap.size + 1, 4, none⟩ = some (.int .i64 b5) := (hbw2.cell (p := ⟨w.heap.size + 1, 4, none⟩) (by first | omega | (simp; omega) | simp)).trans (by first | (go_simp; done) | ((repeat rw [cell_al (by first | omega | (simp; omega) | simp)]); first | assumption | (go_simp; done)))
  have hsw2_1 : w.heap.size + 1 < w2.heap.size := (by omega)
  have kw2_2_0 : w2.cell? ⟨w0.heap.size, 0, none⟩ = some (.int .i64 a1) := (hbw2.cell (p := ⟨w0.heap.size, 0, none⟩) (by first | omega | (simp; omega) | simp)).trans (by first | (go_simp; done) | ((repeat rw [cell_al (by first | omega | (simp; omega) | simp)]); first | assumption | (go_simp; done)))
  have kw2_2_1 : w2.cell? ⟨w0.heap.size, 1, none⟩ = some (.int .i64 a2) := (hbw2.cell (p := ⟨w0.heap.size, 1, none⟩) (by first | omega | (simp; omega) | simp)).trans (by first | (go_simp; done) | ((repeat rw [cell_al (by first | omega | (simp; omega) | simp)]); first | assumption | (go_simp; done)))
  have kw2_2_2 : w2.cell? ⟨w0.heap.size, 2, none⟩ = some (.int .i64 a3) := (hbw2.cell (p := ⟨w0.heap.size, 2, none⟩) (by first | omega | (simp; omega) | simp)).trans (by first | (go_simp; done) | ((repeat rw [cell_al (by first | omega | (simp; omega) | simp)]); first | assumption | (go_simp; done)))
  have kw2_2_3 : w2.cell? ⟨w0.heap.size, 3, none⟩ = some (.int .i64 b4) := (hbw2.cell (p := ⟨w0.heap.size, 3, none⟩) (by first | omega | (simp; omega) | simp)).trans (by first | (go_simp; done) | ((repeat rw [cell_al (by first | omega | (simp; omega) | simp)]); first | assumption | (go_simp; done)))
  have kw2_2_4 : w2.cell? ⟨w0.heap.size, 4, none⟩ = some (.int .i64 a5) := (hbw2.cell (p := ⟨w0.heap.size, 4, none⟩) (by first | omega | (simp; omega) | simp)).trans (by first | (go_simp; done) | ((repeat rw [cell_al (by first | omega | (simp; omega) | simp)]); first | assumption | (go_simp; done)))
  have hsw2_2 : w0.heap.size < w2.heap.size := (by omega)
  have hBw2 : Below w.heap.size w w2 := by
    refine bthen hbw2 ?_ (by first | omega | (simp; omega) | simp)
    repeat (first | exact Below.refl _ _ | (with_reducible assumption) | (refine Below.drew ?_) | (refine Below.setCell ?_ (by first | omega | (simp; omega) | simp) _) | (refine Below.alloc ?_ (by first | omega | (simp; omega) | simp) _) | (refine bthen (by assumption) ?_ (by first | omega | (simp; omega) | simp)))
  have hvw2 := hBw2.size
  clear kw1_0_0 kw1_0_1 kw1_0_2 kw1_0_3 kw1_0_4 hsw1_0 kw1_1_0 kw1_1_1 kw1_1_2 kw1_1_3 kw1_1_4 hsw1_1 kw1_2_0 kw1_2_1 kw1_2_2 kw1_2_3 kw1_2_4 hsw1_2 hBw1 hvw1 hzw1
  clear hbw2
  clear hs hpe ht hqe
  rcases hp with rfl | ⟨rfl, rfl⟩ <;> rcases hq with rfl | ⟨rfl, rfl⟩
  · have hst' := hst rfl rfl
    clear hst
    by_cases hE : a1 = a1 ∧ a2 = a2 ∧ a3 = a3 ∧ a4 = b4 ∧ a5 = a5
    · have hl : s = t := hst'.2 (by simpa using hE)
      clear hst'
      obtain ⟨q1, q2, q3, q4, q5⟩ := hE
      subst hl
      (try subst q1); (try subst q2); (try subst q3); (try subst q4); (try subst q5)
      go_wp2_with (first | (go_at_call 11; refine (num_any _ _).mono ?_; rintro e w3 ⟨rfl, rfl⟩))
      go_returns
      refine ⟨by simp, ?_⟩
      repeat (first | exact Below.refl _ _ | assumption | (refine Below.drew ?_) | (refine Below.setCell ?_ (by first | omega | (simp; omega) | simp) _) | (refine Below.alloc ?_ (by first | omega | (simp; omega) | simp) _) | (refine bthen (by assumption) ?_ (by first | omega | (simp; omega) | simp)))
    · have hl : (s.toList == t.toList) = false := unlike_toList (fun h => hE (by simpa using hst'.1 h))
      clear hst'
      go_wp2_with (first | (go_at_call 11; refine (num_any _ _).mono ?_; rintro e w3 ⟨rfl, rfl⟩))
      all_goals first
        | (exfalso; (try simp only [and_true, true_and] at hE); omega)
        | (go_returns; refine ⟨by simp, ?_⟩; repeat (first | exact Below.refl _ _ | assumption | (refine Below.drew ?_) | (refine Below.setCell ?_ (by first | omega | (simp; omega) | simp) _) | (refine Below.alloc ?_ (by first | omega | (simp; omega) | simp) _) | (refine bthen (by assumption) ?_ (by first | omega | (simp; omega) | simp))))
  all_goals (clear hst; go_wp2_with (first | (go_at_call 11; refine (num_any _ _).mono ?_; rintro e w3 ⟨rfl, rfl⟩)))
  all_goals go_returns
  all_goals refine ⟨rfl, ?_⟩
  all_goals repeat (first | exact Below.refl _ _ | assumption | (refine Below.drew ?_) | (refine Below.setCell ?_ (by first | omega | (simp; omega) | simp) _) | (refine Below.alloc ?_ (by first | omega | (simp; omega) | simp) _) | (refine bthen (by assumption) ?_ (by first | omega | (simp; omega) | simp)))
set_option maxHeartbeats 8000000 in
theorem walk4 (a1 a2 a3 a4 a5 b1 b2 b3 b4 b5 which : Int) (s t : ByteArray) (pe qe : Int) (w : World) (hi : (IntKind.u64.wrap which).tmod 6 = 4)
    (hs : putB a1 a2 a3 a4 a5 = s) (hpe : putE a1 a2 a3 a4 a5 = pe) (ht : putB a1 a2 a3 a4 b5 = t) (hqe : putE a1 a2 a3 a4 b5 = qe)
    (hp : pe = 0 ∨ (pe = 1600 ∧ s = ⟨#[]⟩)) (hq : qe = 0 ∨ (qe = 1600 ∧ t = ⟨#[]⟩)) (hst : pe = 0 → qe = 0 → (s = t ↔ (a1 = a1 ∧ a2 = a2 ∧ a3 = a3 ∧ a4 = a4 ∧ a5 = b5))) :
    Calls Try.prog 6 #[.agg #[.int .i64 a1, .int .i64 a2, .int .i64 a3, .int .i64 a4, .int .i64 a5], .agg #[.int .i64 b1, .int .i64 b2, .int .i64 b3, .int .i64 b4, .int .i64 b5], .int .i64 which] w fun e w' => e = .returned (.bool true) ∧ Below w.heap.size w w' := by
  go_enter Try.func6, Try.ntmps6
  go_wp2_with fail
  refine (awakeD _).mono ?_; rintro e w0 ⟨rfl, hbw0⟩
  have hzw0 := hbw0.size; (try simp at hzw0)
  have kw0_0_0 : w0.cell? ⟨w.heap.size, 0, none⟩ = some (.int .i64 a1) := (hbw0.cell (p := ⟨w.heap.size, 0, none⟩) (by first | omega | (simp; omega) | simp)).trans (by first | (go_simp; done) | ((repeat rw [cell_al (by first | omega | (simp; omega) | simp)]); first | assumption | (go_simp; done)))
  have kw0_0_1 : w0.cell? ⟨w.heap.size, 1, none⟩ = some (.int .i64 a2) := (hbw0.cell (p := ⟨w.heap.size, 1, none⟩) (by first | omega | (simp; omega) | simp)).trans (by first | (go_simp; done) | ((repeat rw [cell_al (by first | omega | (simp; omega) | simp)]); first | assumption | (go_simp; done)))
  have kw0_0_2 : w0.cell? ⟨w.heap.size, 2, none⟩ = some (.int .i64 a3) := (hbw0.cell (p := ⟨w.heap.size, 2, none⟩) (by first | omega | (simp; omega) | simp)).trans (by first | (go_simp; done) | ((repeat rw [cell_al (by first | omega | (simp; omega) | simp)]); first | assumption | (go_simp; done)))
  have kw0_0_3 : w0.cell? ⟨w.heap.size, 3, none⟩ = some (.int .i64 a4) := (hbw0.cell (p := ⟨w.heap.size, 3, none⟩) (by first | omega | (simp; omega) | simp)).trans (by first | (go_simp; done) | ((repeat rw [cell_al (by first | omega | (simp; omega) | simp)]); first | assumption | (go_simp; done)))
  have kw0_0_4 : w0.cell? ⟨w.heap.size, 4, none⟩ = some (.int .i64 a5) := (hbw0.cell (p := ⟨w.heap.size, 4, none⟩) (by first | omega | (simp; omega) | simp)).trans (by first | (go_simp; done) | ((repeat rw [cell_al (by first | omega | (simp; omega) | simp)]); first | assumption | (go_simp; done)))
  have hsw0_0 : w.heap.size < w0.heap.size := (by omega)
  have kw0_1_0 : w0.cell? ⟨w.heap.size + 1, 0, none⟩ = some (.int .i64 b1) := (hbw0.cell (p := ⟨w.heap.size + 1, 0, none⟩) (by first | omega | (simp; omega) | simp)).trans (by first | (go_simp; done) | ((repeat rw [cell_al (by first | omega | (simp; omega) | simp)]); first | assumption | (go_simp; done)))
  have kw0_1_1 : w0.cell? ⟨w.heap.size + 1, 1, none⟩ = some (.int .i64 b2) := (hbw0.cell (p := ⟨w.heap.size + 1, 1, none⟩) (by first | omega | (simp; omega) | simp)).trans (by first | (go_simp; done) | ((repeat rw [cell_al (by first | omega | (simp; omega) | simp)]); first | assumption | (go_simp; done)))
  have kw0_1_2 : w0.cell? ⟨w.heap.size + 1, 2, none⟩ = some (.int .i64 b3) := (hbw0.cell (p := ⟨w.heap.size + 1, 2, none⟩) (by first | omega | (simp; omega) | simp)).trans (by first | (go_simp; done) | ((repeat rw [cell_al (by first | omega | (simp; omega) | simp)]); first | assumption | (go_simp; done)))
  have kw0_1_3 : w0.cell? ⟨w.heap.size + 1, 3, none⟩ = some (.int .i64 b4) := (hbw0.cell (p := ⟨w.heap.size + 1, 3, none⟩) (by first | omega | (simp; omega) | simp)).trans (by first | (go_simp; done) | ((repeat rw [cell_al (by first | omega | (simp; omega) | simp)]); first | assumption | (go_simp; done)))
  have kw0_1_4 : w0.cell? ⟨w.heap.size + 1, 4, none⟩ = some (.int .i64 b5) := (hbw0.cell (p := ⟨w.heap.size + 1, 4, none⟩) (by first | omega | (simp; omega) | simp)).trans (by first | (go_simp; done) | ((repeat rw [cell_al (by first | omega | (simp; omega) | simp)]); first | assumption | (go_simp; done)))
  have hsw0_1 : w.heap.size + 1 < w0.heap.size := (by omega)
  have hBw0 : Below w.heap.size w w0 := by
    refine bthen hbw0 ?_ (by first | omega | (simp; omega) | simp)
    repeat (first | exact Below.refl _ _ | (with_reducible assumption) | (refine Below.drew ?_) | (refine Below.setCell ?_ (by first | omega | (simp; omega) | simp) _) | (refine Below.alloc ?_ (by first | omega | (simp; omega) | simp) _) | (refine bthen (by assumption) ?_ (by first | omega | (simp; omega) | simp)))
  have hvw0 := hBw0.size
  clear hbw0
  go_wp2_with fail
  refine (put_is _ _ _ _ _ _ _ _ hs hpe).mono ?_; rintro e w1 ⟨rfl, hbw1⟩
  have hzw1 := hbw1.size; (try simp at hzw1)
  have kw1_0_0 : w1.cell? ⟨w.heap.size, 0, none⟩ = some (.int .i64 a1) := (hbw1.cell (p := ⟨w.heap.size, 0, none⟩) (by first | omega | (simp; omega) | simp)).trans (by first | (go_simp; done) | ((repeat rw [cell_al (by first | omega | (simp; omega) | simp)]); first | assumption | (go_simp; done)))
  have kw1_0_1 : w1.cell? ⟨w.heap.size, 1, none⟩ = some (.int .i64 a2) := (hbw1.cell (p := ⟨w.heap.size, 1, none⟩) (by first | omega | (simp; omega) | simp)).trans (by first | (go_simp; done) | ((repeat rw [cell_al (by first | omega | (simp; omega) | simp)]); first | assumption | (go_simp; done)))
  have kw1_0_2 : w1.cell? ⟨w.heap.size, 2, none⟩ = some (.int .i64 a3) := (hbw1.cell (p := ⟨w.heap.size, 2, none⟩) (by first | omega | (simp; omega) | simp)).trans (by first | (go_simp; done) | ((repeat rw [cell_al (by first | omega | (simp; omega) | simp)]); first | assumption | (go_simp; done)))
  have kw1_0_3 : w1.cell? ⟨w.heap.size, 3, none⟩ = some (.int .i64 a4) := (hbw1.cell (p := ⟨w.heap.size, 3, none⟩) (by first | omega | (simp; omega) | simp)).trans (by first | (go_simp; done) | ((repeat rw [cell_al (by first | omega | (simp; omega) | simp)]); first | assumption | (go_simp; done)))
  have kw1_0_4 : w1.cell? ⟨w.heap.size, 4, none⟩ = some (.int .i64 a5) := (hbw1.cell (p := ⟨w.heap.size, 4, none⟩) (by first | omega | (simp; omega) | simp)).trans (by first | (go_simp; done) | ((repeat rw [cell_al (by first | omega | (simp; omega) | simp)]); first | assumption | (go_simp; done)))
  have hsw1_0 : w.heap.size < w1.heap.size := (by omega)
  have kw1_1_0 : w1.cell? ⟨w.heap.size + 1, 0, none⟩ = some (.int .i64 b1) := (hbw1.cell (p := ⟨w.heap.size + 1, 0, none⟩) (by first | omega | (simp; omega) | simp)).trans (by first | (go_simp; done) | ((repeat rw [cell_al (by first | omega | (simp; omega) | simp)]); first | assumption | (go_simp; done)))
  have kw1_1_1 : w1.cell? ⟨w.heap.size + 1, 1, none⟩ = some (.int .i64 b2) := (hbw1.cell (p := ⟨w.heap.size + 1, 1, none⟩) (by first | omega | (simp; omega) | simp)).trans (by first | (go_simp; done) | ((repeat rw [cell_al (by first | omega | (simp; omega) | simp)]); first | assumption | (go_simp; done)))
  have kw1_1_2 : w1.cell? ⟨w.heap.size + 1, 2, none⟩ = some (.int .i64 b3) := (hbw1.cell (p := ⟨w.heap.size + 1, 2, none⟩) (by first | omega | (simp; omega) | simp)).trans (by first | (go_simp; done) | ((repeat rw [cell_al (by first | omega | (simp; omega) | simp)]); first | assumption | (go_simp; done)))
  have kw1_1_3 : w1.cell? ⟨w.heap.size + 1, 3, none⟩ = some (.int .i64 b4) := (hbw1.cell (p := ⟨w.heap.size + 1, 3, none⟩) (by first | omega | (simp; omega) | simp)).trans (by first | (go_simp; done) | ((repeat rw [cell_al (by first | omega | (simp; omega) | simp)]); first | assumption | (go_simp; done)))
  have kw1_1_4 : w1.cell? ⟨w.heap.size + 1, 4, none⟩ = some (.int .i64 b5) := (hbw1.cell (p := ⟨w.heap.size + 1, 4, none⟩) (by first | omega | (simp; omega) | simp)).trans (by first | (go_simp; done) | ((repeat rw [cell_al (by first | omega | (simp; omega) | simp)]); first | assumption | (go_simp; done)))
  have hsw1_1 : w.heap.size + 1 < w1.heap.size := (by omega)
  have kw1_2_0 : w1.cell? ⟨w0.heap.size, 0, none⟩ = some (.int .i64 a1) := (hbw1.cell (p := ⟨w0.heap.size, 0, none⟩) (by first | omega | (simp; omega) | simp)).trans (by first | (go_simp; done) | ((repeat rw [cell_al (by first | omega | (simp; omega) | simp)]); first | assumption | (go_simp; done)))
  have kw1_2_1 : w1.cell? ⟨w0.heap.size, 1, none⟩ = some (.int .i64 a2) := (hbw1.cell (p := ⟨w0.heap.size, 1, none⟩) (by first | omega | (simp; omega) | simp)).trans (by first | (go_simp; done) | ((repeat rw [cell_al (by first | omega | (simp; omega) | simp)]); first | assumption | (go_simp; done)))
  have kw1_2_2 : w1.cell? ⟨w0.heap.size, 2, none⟩ = some (.int .i64 a3) := (hbw1.cell (p := ⟨w0.heap.size, 2, none⟩) (by first | omega | (simp; omega) | simp)).trans (by first | (go_simp; done) | ((repeat rw [cell_al (by first | omega | (simp; omega) | simp)]); first | assumption | (go_simp; done)))
  have kw1_2_3 : w1.cell? ⟨w0.heap.size, 3, none⟩ = some (.int .i64 a4) := (hbw1.cell (p := ⟨w0.heap.size, 3, none⟩) (by first | omega | (simp; omega) | simp)).trans (by first | (go_simp; done) | ((repeat rw [cell_al (by first | omega | (simp; omega) | simp)]); first | assumption | (go_simp; done)))
  have kw1_2_4 : w1.cell? ⟨w0.heap.size, 4, none⟩ = some (.int .i64 b5) := (hbw1.cell (p := ⟨w0.heap.size, 4, none⟩) (by first | omega | (simp; omega) | simp)).trans (by first | (go_simp; done) | ((repeat rw [cell_al (by first | omega | (simp; omega) | simp)]); first | assumption | (go_simp; done)))
  have hsw1_2 : w0.heap.size < w1.heap.size := (by omega)
  have hBw1 : Below w.heap.size w w1 := by
    refine bthen hbw1 ?_ (by first | omega | (simp; omega) | simp)
    repeat (first | exact Below.refl _ _ | (with_reducible assumption) | (refine Below.drew ?_) | (refine Below.setCell ?_ (by first | omega | (simp; omega) | simp) _) | (refine Below.alloc ?_ (by first | omega | (simp; omega) | simp) _) | (refine bthen (by assumption) ?_ (by first | omega | (simp; omega) | simp)))
  have hvw1 := hBw1.size
  clear kw0_0_0 kw0_0_1 kw0_0_2 kw0_0_3 kw0_0_4 hsw0_0 kw0_1_0 kw0_1_1 kw0_1_2 kw0_1_3 kw0_1_4 hsw0_1 hBw0 hvw0 hzw0
  clear hbw1
  go_wp2_with fail
  refine (put_is _ _ _ _ _ _ _ _ ht hqe).mono ?_; rintro e w2 ⟨rfl, hbw2⟩
  have hzw2 := hbw2.size; (try simp at hzw2)
  have kw2_0_0 : w2.cell? ⟨w.heap.size, 0, none⟩ = some (.int .i64 a1) := (hbw2.cell (p := ⟨w.heap.size, 0, none⟩) (by first | omega | (simp; omega) | simp)).trans (by first | (go_simp; done) | ((repeat rw [cell_al (by first | omega | (simp; omega) | simp)]); first | assumption | (go_simp; done)))
  have kw2_0_1 : w2.cell? ⟨w.heap.size, 1, none⟩ = some (.int .i64 a2) := (hbw2.cell (p := ⟨w.heap.size, 1, none⟩) (by first | omega | (simp; omega) | simp)).trans (by first | (go_simp; done) | ((repeat rw [cell_al (by first | omega | (simp; omega) | simp)]); first | assumption | (go_simp; done)))
  have kw2_0_2 : w2.cell? ⟨w.heap.size, 2, none⟩ = some (.int .i64 a3) := (hbw2.cell (p := ⟨w.heap.size, 2, none⟩) (by first | omega | (simp; omega) | simp)).trans (by first | (go_simp; done) | ((repeat rw [cell_al (by first | omega | (simp; omega) | simp)]); first | assumption | (go_simp; done)))
  have kw2_0_3 : w2.cell? ⟨w.heap.size, 3, none⟩ = some (.int .i64 a4) := (hbw2.cell (p := ⟨w.heap.size, 3, none⟩) (by first | omega | (simp; omega) | simp)).trans (by first | (go_simp; done) | ((repeat rw [cell_al (by first | omega | (simp; omega) | simp)]); first | assumption | (go_simp; done)))
  have kw2_0_4 : w2.cell? ⟨w.heap.size, 4, none⟩ = some (.int .i64 a5) := (hbw2.cell (p := ⟨w.heap.size, 4, none⟩) (by first | omega | (simp; omega) | simp)).trans (by first | (go_simp; done) | ((repeat rw [cell_al (by first | omega | (simp; omega) | simp)]); first | assumption | (go_simp; done)))
  have hsw2_0 : w.heap.size < w2.heap.size := (by omega)
  have kw2_1_0 : w2.cell? ⟨w.heap.size + 1, 0, none⟩ = some (.int .i64 b1) := (hbw2.cell (p := ⟨w.heap.size + 1, 0, none⟩) (by first | omega | (simp; omega) | simp)).trans (by first | (go_simp; done) | ((repeat rw [cell_al (by first | omega | (simp; omega) | simp)]); first | assumption | (go_simp; done)))
  have kw2_1_1 : w2.cell? ⟨w.heap.size + 1, 1, none⟩ = some (.int .i64 b2) := (hbw2.cell (p := ⟨w.heap.size + 1, 1, none⟩) (by first | omega | (simp; omega) | simp)).trans (by first | (go_simp; done) | ((repeat rw [cell_al (by first | omega | (simp; omega) | simp)]); first | assumption | (go_simp; done)))
  have kw2_1_2 : w2.cell? ⟨w.heap.size + 1, 2, none⟩ = some (.int .i64 b3) := (hbw2.cell (p := ⟨w.heap.size + 1, 2, none⟩) (by first | omega | (simp; omega) | simp)).trans (by first | (go_simp; done) | ((repeat rw [cell_al (by first | omega | (simp; omega) | simp)]); first | assumption | (go_simp; done)))
  have kw2_1_3 : w2.cell? ⟨w.heap.size + 1, 3, none⟩ = some (.int .i64 b4) := (hbw2.cell (p := ⟨w.heap.size + 1, 3, none⟩) (by first | omega | (simp; omega) | simp)).trans (by first | (go_simp; done) | ((repeat rw [cell_al (by first | omega | (simp; omega) | simp)]); first | assumption | (go_simp; done)))
  have kw2_1_4 : w2.cell? ⟨w.heap.size + 1, 4, none⟩ = some (.int .i64 b5) := (hbw2.cell (p := ⟨w.heap.size + 1, 4, none⟩) (by first | omega | (simp; omega) | simp)).trans (by first | (go_simp; done) | ((repeat rw [cell_al (by first | omega | (simp; omega) | simp)]); first | assumption | (go_simp; done)))
  have hsw2_1 : w.heap.size + 1 < w2.heap.size := (by omega)
  have kw2_2_0 : w2.cell? ⟨w0.heap.size, 0, none⟩ = some (.int .i64 a1) := (hbw2.cell (p := ⟨w0.heap.size, 0, none⟩) (by first | omega | (simp; omega) | simp)).trans (by first | (go_simp; done) | ((repeat rw [cell_al (by first | omega | (simp; omega) | simp)]); first | assumption | (go_simp; done)))
  have kw2_2_1 : w2.cell? ⟨w0.heap.size, 1, none⟩ = some (.int .i64 a2) := (hbw2.cell (p := ⟨w0.heap.size, 1, none⟩) (by first | omega | (simp; omega) | simp)).trans (by first | (go_simp; done) | ((repeat rw [cell_al (by first | omega | (simp; omega) | simp)]); first | assumption | (go_simp; done)))
  have kw2_2_2 : w2.cell? ⟨w0.heap.size, 2, none⟩ = some (.int .i64 a3) := (hbw2.cell (p := ⟨w0.heap.size, 2, none⟩) (by first | omega | (simp; omega) | simp)).trans (by first | (go_simp; done) | ((repeat rw [cell_al (by first | omega | (simp; omega) | simp)]); first | assumption | (go_simp; done)))
  have kw2_2_3 : w2.cell? ⟨w0.heap.size, 3, none⟩ = some (.int .i64 a4) := (hbw2.cell (p := ⟨w0.heap.size, 3, none⟩) (by first | omega | (simp; omega) | simp)).trans (by first | (go_simp; done) | ((repeat rw [cell_al (by first | omega | (simp; omega) | simp)]); first | assumption | (go_simp; done)))
  have kw2_2_4 : w2.cell? ⟨w0.heap.size, 4, none⟩ = some (.int .i64 b5) := (hbw2.cell (p := ⟨w0.heap.size, 4, none⟩) (by first | omega | (simp; omega) | simp)).trans (by first | (go_simp; done) | ((repeat rw [cell_al (by first | omega | (simp; omega) | simp)]); first | assumption | (go_simp; done)))
  have hsw2_2 : w0.heap.size < w2.heap.size := (by omega)
  have hBw2 : Below w.heap.size w w2 := by
    refine bthen hbw2 ?_ (by first | omega | (simp; omega) | simp)
    repeat (first | exact Below.refl _ _ | (with_reducible assumption) | (refine Below.drew ?_) | (refine Below.setCell ?_ (by first | omega | (simp; omega) | simp) _) | (refine Below.alloc ?_ (by first | omega | (simp; omega) | simp) _) | (refine bthen (by assumption) ?_ (by first | omega | (simp; omega) | simp)))
  have hvw2 := hBw2.size
  clear kw1_0_0 kw1_0_1 kw1_0_2 kw1_0_3 kw1_0_4 hsw1_0 kw1_1_0 kw1_1_1 kw1_1_2 kw1_1_3 kw1_1_4 hsw1_1 kw1_2_0 kw1_2_1 kw1_2_2 kw1_2_3 kw1_2_4 hsw1_2 hBw1 hvw1 hzw1
  clear hbw2
  clear hs hpe ht hqe
  rcases hp with rfl | ⟨rfl, rfl⟩ <;> rcases hq with rfl | ⟨rfl, rfl⟩
  · have hst' := hst rfl rfl
    clear hst
    by_cases hE : a1 = a1 ∧ a2 = a2 ∧ a3 = a3 ∧ a4 = a4 ∧ a5 = b5
    · have hl : s = t := hst'.2 (by simpa using hE)
      clear hst'
      obtain ⟨q1, q2, q3, q4, q5⟩ := hE
      subst hl
      (try subst q1); (try subst q2); (try subst q3); (try subst q4); (try subst q5)
      go_wp2_with (first | (go_at_call 11; refine (num_any _ _).mono ?_; rintro e w3 ⟨rfl, rfl⟩))
      go_returns
      refine ⟨by simp, ?_⟩
      repeat (first | exact Below.refl _ _ | assumption | (refine Below.drew ?_) | (refine Below.setCell ?_ (by first | omega | (simp; omega) | simp) _) | (refine Below.alloc ?_ (by first | omega | (simp; omega) | simp) _) | (refine bthen (by assumption) ?_ (by first | omega | (simp; omega) | simp)))
    · have hl : (s.toList == t.toList) = false := unlike_toList (fun h => hE (by simpa using hst'.1 h))
      clear hst'
      go_wp2_with (first | (go_at_call 11; refine (num_any _ _).mono ?_; rintro e w3 ⟨rfl, rfl⟩))
      all_goals first
        | (exfalso; (try simp only [and_true, true_and] at hE); omega)
        | (go_returns; refine ⟨by simp, ?_⟩; repeat (first | exact Below.refl _ _ | assumption | (refine Below.drew ?_) | (refine Below.setCell ?_ (by first | omega | (simp; omega) | simp) _) | (refine Below.alloc ?_ (by first | omega | (simp; omega) | simp) _) | (refine bthen (by assumption) ?_ (by first | omega | (simp; omega) | simp))))
  all_goals (clear hst; go_wp2_with (first | (go_at_call 11; refine (num_any _ _).mono ?_; rintro e w3 ⟨rfl, rfl⟩)))
  all_goals go_returns
  all_goals refine ⟨rfl, ?_⟩
  all_goals repeat (first | exact Below.refl _ _ | assumption | (refine Below.drew ?_) | (refine Below.setCell ?_ (by first | omega | (simp; omega) | simp) _) | (refine Below.alloc ?_ (by first | omega | (simp; omega) | simp) _) | (refine bthen (by assumption) ?_ (by first | omega | (simp; omega) | simp)))
set_option maxHeartbeats 8000000 in
theorem walk5 (a1 a2 a3 a4 a5 b1 b2 b3 b4 b5 which : Int) (s t : ByteArray) (pe qe : Int) (w : World) (hi : (IntKind.u64.wrap which).tmod 6 = 5)
    (hs : putB a1 a2 a3 a4 a5 = s) (hpe : putE a1 a2 a3 a4 a5 = pe) (ht : putB b1 b2 b3 b4 b5 = t) (hqe : putE b1 b2 b3 b4 b5 = qe)
    (hp : pe = 0 ∨ (pe = 1600 ∧ s = ⟨#[]⟩)) (hq : qe = 0 ∨ (qe = 1600 ∧ t = ⟨#[]⟩)) (hst : pe = 0 → qe = 0 → (s = t ↔ (a1 = b1 ∧ a2 = b2 ∧ a3 = b3 ∧ a4 = b4 ∧ a5 = b5))) :
    Calls Try.prog 6 #[.agg #[.int .i64 a1, .int .i64 a2, .int .i64 a3, .int .i64 a4, .int .i64 a5], .agg #[.int .i64 b1, .int .i64 b2, .int .i64 b3, .int .i64 b4, .int .i64 b5], .int .i64 which] w fun e w' => e = .returned (.bool true) ∧ Below w.heap.size w w' := by
  go_enter Try.func6, Try.ntmps6
  go_wp2_with fail
  refine (awakeD _).mono ?_; rintro e w0 ⟨rfl, hbw0⟩
  have hzw0 := hbw0.size; (try simp at hzw0)
  have kw0_0_0 : w0.cell? ⟨w.heap.size, 0, none⟩ = some (.int .i64 a1) := (hbw0.cell (p := ⟨w.heap.size, 0, none⟩) (by first | omega | (simp; omega) | simp)).trans (by first | (go_simp; done) | ((repeat rw [cell_al (by first | omega | (simp; omega) | simp)]); first | assumption | (go_simp; done)))
  have kw0_0_1 : w0.cell? ⟨w.heap.size, 1, none⟩ = some (.int .i64 a2) := (hbw0.cell (p := ⟨w.heap.size, 1, none⟩) (by first | omega | (simp; omega) | simp)).trans (by first | (go_simp; done) | ((repeat rw [cell_al (by first | omega | (simp; omega) | simp)]); first | assumption | (go_simp; done)))
  have kw0_0_2 : w0.cell? ⟨w.heap.size, 2, none⟩ = some (.int .i64 a3) := (hbw0.cell (p := ⟨w.heap.size, 2, none⟩) (by first | omega | (simp; omega) | simp)).trans (by first | (go_simp; done) | ((repeat rw [cell_al (by first | omega | (simp; omega) | simp)]); first | assumption | (go_simp; done)))
  have kw0_0_3 : w0.cell? ⟨w.heap.size, 3, none⟩ = some (.int .i64 a4) := (hbw0.cell (p := ⟨w.heap.size, 3, none⟩) (by first | omega | (simp; omega) | simp)).trans (by first | (go_simp; done) | ((repeat rw [cell_al (by first | omega | (simp; omega) | simp)]); first | assumption | (go_simp; done)))
  have kw0_0_4 : w0.cell? ⟨w.heap.size, 4, none⟩ = some (.int .i64 a5) := (hbw0.cell (p := ⟨w.heap.size, 4, none⟩) (by first | omega | (simp; omega) | simp)).trans (by first | (go_simp; done) | ((repeat rw [cell_al (by first | omega | (simp; omega) | simp)]); first | assumption | (go_simp; done)))
  have hsw0_0 : w.heap.size < w0.heap.size := (by omega)
  have kw0_1_0 : w0.cell? ⟨w.heap.size + 1, 0, none⟩ = some (.int .i64 b1) := (hbw0.cell (p := ⟨w.heap.size + 1, 0, none⟩) (by first | omega | (simp; omega) | simp)).trans (by first | (go_simp; done) | ((repeat rw [cell_al (by first | omega | (simp; omega) | simp)]); first | assumption | (go_simp; done)))
  have kw0_1_1 : w0.cell? ⟨w.heap.size + 1, 1, none⟩ = some (.int .i64 b2) := (hbw0.cell (p := ⟨w.heap.size + 1, 1, none⟩) (by first | omega | (simp; omega) | simp)).trans (by first | (go_simp; done) | ((repeat rw [cell_al (by first | omega | (simp; omega) | simp)]); first | assumption | (go_simp; done)))
  have kw0_1_2 : w0.cell? ⟨w.heap.size + 1, 2, none⟩ = some (.int .i64 b3) := (hbw0.cell (p := ⟨w.heap.size + 1, 2, none⟩) (by first | omega | (simp; omega) | simp)).trans (by first | (go_simp; done) | ((repeat rw [cell_al (by first | omega | (simp; omega) | simp)]); first | assumption | (go_simp; done)))
  have kw0_1_3 : w0.cell? ⟨w.heap.size + 1, 3, none⟩ = some (.int .i64 b4) := (hbw0.cell (p := ⟨w.heap.size + 1, 3, none⟩) (by first | omega | (simp; omega) | simp)).trans (by first | (go_simp; done) | ((repeat rw [cell_al (by first | omega | (simp; omega) | simp)]); first | assumption | (go_simp; done)))
  have kw0_1_4 : w0.cell? ⟨w.heap.size + 1, 4, none⟩ = some (.int .i64 b5) := (hbw0.cell (p := ⟨w.heap.size + 1, 4, none⟩) (by first | omega | (simp; omega) | simp)).trans (by first | (go_simp; done) | ((repeat rw [cell_al (by first | omega | (simp; omega) | simp)]); first | assumption | (go_simp; done)))
  have hsw0_1 : w.heap.size + 1 < w0.heap.size := (by omega)
  have hBw0 : Below w.heap.size w w0 := by
    refine bthen hbw0 ?_ (by first | omega | (simp; omega) | simp)
    repeat (first | exact Below.refl _ _ | (with_reducible assumption) | (refine Below.drew ?_) | (refine Below.setCell ?_ (by first | omega | (simp; omega) | simp) _) | (refine Below.alloc ?_ (by first | omega | (simp; omega) | simp) _) | (refine bthen (by assumption) ?_ (by first | omega | (simp; omega) | simp)))
  have hvw0 := hBw0.size
  clear hbw0
  go_wp2_with fail
  refine (put_is _ _ _ _ _ _ _ _ hs hpe).mono ?_; rintro e w1 ⟨rfl, hbw1⟩
  have hzw1 := hbw1.size; (try simp at hzw1)
  have kw1_0_0 : w1.cell? ⟨w.heap.size, 0, none⟩ = some (.int .i64 a1) := (hbw1.cell (p := ⟨w.heap.size, 0, none⟩) (by first | omega | (simp; omega) | simp)).trans (by first | (go_simp; done) | ((repeat rw [cell_al (by first | omega | (simp; omega) | simp)]); first | assumption | (go_simp; done)))
  have kw1_0_1 : w1.cell? ⟨w.heap.size, 1, none⟩ = some (.int .i64 a2) := (hbw1.cell (p := ⟨w.heap.size, 1, none⟩) (by first | omega | (simp; omega) | simp)).trans (by first | (go_simp; done) | ((repeat rw [cell_al (by first | omega | (simp; omega) | simp)]); first | assumption | (go_simp; done)))
  have kw1_0_2 : w1.cell? ⟨w.heap.size, 2, none⟩ = some (.int .i64 a3) := (hbw1.cell (p := ⟨w.heap.size, 2, none⟩) (by first | omega | (simp; omega) | simp)).trans (by first | (go_simp; done) | ((repeat rw [cell_al (by first | omega | (simp; omega) | simp)]); first | assumption | (go_simp; done)))
  have kw1_0_3 : w1.cell? ⟨w.heap.size, 3, none⟩ = some (.int .i64 a4) := (hbw1.cell (p := ⟨w.heap.size, 3, none⟩) (by first | omega | (simp; omega) | simp)).trans (by first | (go_simp; done) | ((repeat rw [cell_al (by first | omega | (simp; omega) | simp)]); first | assumption | (go_simp; done)))
  have kw1_0_4 : w1.cell? ⟨w.heap.size, 4, none⟩ = some (.int .i64 a5) := (hbw1.cell (p := ⟨w.heap.size, 4, none⟩) (by first | omega | (simp; omega) | simp)).trans (by first | (go_simp; done) | ((repeat rw [cell_al (by first | omega | (simp; omega) | simp)]); first | assumption | (go_simp; done)))
  have hsw1_0 : w.heap.size < w1.heap.size := (by omega)
  have kw1_1_0 : w1.cell? ⟨w.heap.size + 1, 0, none⟩ = some (.int .i64 b1) := (hbw1.cell (p := ⟨w.heap.size + 1, 0, none⟩) (by first | omega | (simp; omega) | simp)).trans (by first | (go_simp; done) | ((repeat rw [cell_al (by first | omega | (simp; omega) | simp)]); first | assumption | (go_simp; done)))
  have kw1_1_1 : w1.cell? ⟨w.heap.size + 1, 1, none⟩ = some (.int .i64 b2) := (hbw1.cell (p := ⟨w.heap.size + 1, 1, none⟩) (by first | omega | (simp; omega) | simp)).trans (by first | (go_simp; done) | ((repeat rw [cell_al (by first | omega | (simp; omega) | simp)]); first | assumption | (go_simp; done)))
  have kw1_1_2 : w1.cell? ⟨w.heap.size + 1, 2, none⟩ = some (.int .i64 b3) := (hbw1.cell (p := ⟨w.heap.size + 1, 2, none⟩) (by first | omega | (simp; omega) | simp)).trans (by first | (go_simp; done) | ((repeat rw [cell_al (by first | omega | (simp; omega) | simp)]); first | assumption | (go_simp; done)))
  have kw1_1_3 : w1.cell? ⟨w.heap.size + 1, 3, none⟩ = some (.int .i64 b4) := (hbw1.cell (p := ⟨w.heap.size + 1, 3, none⟩) (by first | omega | (simp; omega) | simp)).trans (by first | (go_simp; done) | ((repeat rw [cell_al (by first | omega | (simp; omega) | simp)]); first | assumption | (go_simp; done)))
  have kw1_1_4 : w1.cell? ⟨w.heap.size + 1, 4, none⟩ = some (.int .i64 b5) := (hbw1.cell (p := ⟨w.heap.size + 1, 4, none⟩) (by first | omega | (simp; omega) | simp)).trans (by first | (go_simp; done) | ((repeat rw [cell_al (by first | omega | (simp; omega) | simp)]); first | assumption | (go_simp; done)))
  have hsw1_1 : w.heap.size + 1 < w1.heap.size := (by omega)
  have kw1_2_0 : w1.cell? ⟨w0.heap.size, 0, none⟩ = some (.int .i64 b1) := (hbw1.cell (p := ⟨w0.heap.size, 0, none⟩) (by first | omega | (simp; omega) | simp)).trans (by first | (go_simp; done) | ((repeat rw [cell_al (by first | omega | (simp; omega) | simp)]); first | assumption | (go_simp; done)))
  have kw1_2_1 : w1.cell? ⟨w0.heap.size, 1, none⟩ = some (.int .i64 b2) := (hbw1.cell (p := ⟨w0.heap.size, 1, none⟩) (by first | omega | (simp; omega) | simp)).trans (by first | (go_simp; done) | ((repeat rw [cell_al (by first | omega | (simp; omega) | simp)]); first | assumption | (go_simp; done)))
  have kw1_2_2 : w1.cell? ⟨w0.heap.size, 2, none⟩ = some (.int .i64 b3) := (hbw1.cell (p := ⟨w0.heap.size, 2, none⟩) (by first | omega | (simp; omega) | simp)).trans (by first | (go_simp; done) | ((repeat rw [cell_al (by first | omega | (simp; omega) | simp)]); first | assumption | (go_simp; done)))
  have kw1_2_3 : w1.cell? ⟨w0.heap.size, 3, none⟩ = some (.int .i64 b4) := (hbw1.cell (p := ⟨w0.heap.size, 3, none⟩) (by first | omega | (simp; omega) | simp)).trans (by first | (go_simp; done) | ((repeat rw [cell_al (by first | omega | (simp; omega) | simp)]); first | assumption | (go_simp; done)))
  have kw1_2_4 : w1.cell? ⟨w0.heap.size, 4, none⟩ = some (.int .i64 b5) := (hbw1.cell (p := ⟨w0.heap.size, 4, none⟩) (by first | omega | (simp; omega) | simp)).trans (by first | (go_simp; done) | ((repeat rw [cell_al (by first | omega | (simp; omega) | simp)]); first | assumption | (go_simp; done)))
  have hsw1_2 : w0.heap.size < w1.heap.size := (by omega)
  have hBw1 : Below w.heap.size w w1 := by
    refine bthen hbw1 ?_ (by first | omega | (simp; omega) | simp)
    repeat (first | exact Below.refl _ _ | (with_reducible assumption) | (refine Below.drew ?_) | (refine Below.setCell ?_ (by first | omega | (simp; omega) | simp) _) | (refine Below.alloc ?_ (by first | omega | (simp; omega) | simp) _) | (refine bthen (by assumption) ?_ (by first | omega | (simp; omega) | simp)))
  have hvw1 := hBw1.size
  clear kw0_0_0 kw0_0_1 kw0_0_2 kw0_0_3 kw0_0_4 hsw0_0 kw0_1_0 kw0_1_1 kw0_1_2 kw0_1_3 kw0_1_4 hsw0_1 hBw0 hvw0 hzw0
  clear hbw1
  go_wp2_with fail
  refine (put_is _ _ _ _ _ _ _ _ ht hqe).mono ?_; rintro e w2 ⟨rfl, hbw2⟩
  have hzw2 := hbw2.size; (try simp at hzw2)
  have kw2_0_0 : w2.cell? ⟨w.heap.size, 0, none⟩ = some (.int .i64 a1) := (hbw2.cell (p := ⟨w.heap.size, 0, none⟩) (by first | omega | (simp; omega) | simp)).trans (by first | (go_simp; done) | ((repeat rw [cell_al (by first | omega | (simp; omega) | simp)]); first | assumption | (go_simp; done)))
  have kw2_0_1 : w2.cell? ⟨w.heap.size, 1, none⟩ = some (.int .i64 a2) := (hbw2.cell (p := ⟨w.heap.size, 1, none⟩) (by first | omega | (simp; omega) | simp)).trans (by first | (go_simp; done) | ((repeat rw [cell_al (by first | omega | (simp; omega) | simp)]); first | assumption | (go_simp; done)))
  have kw2_0_2 : w2.cell? ⟨w.heap.size, 2, none⟩ = some (.int .i64 a3) := (hbw2.cell (p := ⟨w.heap.size, 2, none⟩) (by first | omega | (simp; omega) | simp)).trans (by first | (go_simp; done) | ((repeat rw [cell_al (by first | omega | (simp; omega) | simp)]); first | assumption | (go_simp; done)))
  have kw2_0_3 : w2.cell? ⟨w.heap.size, 3, none⟩ = some (.int .i64 a4) := (hbw2.cell (p := ⟨w.heap.size, 3, none⟩) (by first | omega | (simp; omega) | simp)).trans (by first | (go_simp; done) | ((repeat rw [cell_al (by first | omega | (simp; omega) | simp)]); first | assumption | (go_simp; done)))
  have kw2_0_4 : w2.cell? ⟨w.heap.size, 4, none⟩ = some (.int .i64 a5) := (hbw2.cell (p := ⟨w.heap.size, 4, none⟩) (by first | omega | (simp; omega) | simp)).trans (by first | (go_simp; done) | ((repeat rw [cell_al (by first | omega | (simp; omega) | simp)]); first | assumption | (go_simp; done)))
  have hsw2_0 : w.heap.size < w2.heap.size := (by omega)
  have kw2_1_0 : w2.cell? ⟨w.heap.size + 1, 0, none⟩ = some (.int .i64 b1) := (hbw2.cell (p := ⟨w.heap.size + 1, 0, none⟩) (by first | omega | (simp; omega) | simp)).trans (by first | (go_simp; done) | ((repeat rw [cell_al (by first | omega | (simp; omega) | simp)]); first | assumption | (go_simp; done)))
  have kw2_1_1 : w2.cell? ⟨w.heap.size + 1, 1, none⟩ = some (.int .i64 b2) := (hbw2.cell (p := ⟨w.heap.size + 1, 1, none⟩) (by first | omega | (simp; omega) | simp)).trans (by first | (go_simp; done) | ((repeat rw [cell_al (by first | omega | (simp; omega) | simp)]); first | assumption | (go_simp; done)))
  have kw2_1_2 : w2.cell? ⟨w.heap.size + 1, 2, none⟩ = some (.int .i64 b3) := (hbw2.cell (p := ⟨w.heap.size + 1, 2, none⟩) (by first | omega | (simp; omega) | simp)).trans (by first | (go_simp; done) | ((repeat rw [cell_al (by first | omega | (simp; omega) | simp)]); first | assumption | (go_simp; done)))
  have kw2_1_3 : w2.cell? ⟨w.heap.size + 1, 3, none⟩ = some (.int .i64 b4) := (hbw2.cell (p := ⟨w.heap.size + 1, 3, none⟩) (by first | omega | (simp; omega) | simp)).trans (by first | (go_simp; done) | ((repeat rw [cell_al (by first | omega | (simp; omega) | simp)]); first | assumption | (go_simp; done)))
  have kw2_1_4 : w2.cell? ⟨w.heap.size + 1, 4, none⟩ = some (.int .i64 b5) := (hbw2.cell (p := ⟨w.heap.size + 1, 4, none⟩) (by first | omega | (simp; omega) | simp)).trans (by first | (go_simp; done) | ((repeat rw [cell_al (by first | omega | (simp; omega) | simp)]); first | assumption | (go_simp; done)))
  have hsw2_1 : w.heap.size + 1 < w2.heap.size := (by omega)
  have kw2_2_0 : w2.cell? ⟨w0.heap.size, 0, none⟩ = some (.int .i64 b1) := (hbw2.cell (p := ⟨w0.heap.size, 0, none⟩) (by first | omega | (simp; omega) | simp)).trans (by first | (go_simp; done) | ((repeat rw [cell_al (by first | omega | (simp; omega) | simp)]); first | assumption | (go_simp; done)))
  have kw2_2_1 : w2.cell? ⟨w0.heap.size, 1, none⟩ = some (.int .i64 b2) := (hbw2.cell (p := ⟨w0.heap.size, 1, none⟩) (by first | omega | (simp; omega) | simp)).trans (by first | (go_simp; done) | ((repeat rw [cell_al (by first | omega | (simp; omega) | simp)]); first | assumption | (go_simp; done)))
  have kw2_2_2 : w2.cell? ⟨w0.heap.size, 2, none⟩ = some (.int .i64 b3) := (hbw2.cell (p := ⟨w0.heap.size, 2, none⟩) (by first | omega | (simp; omega) | simp)).trans (by first | (go_simp; done) | ((repeat rw [cell_al (by first | omega | (simp; omega) | simp)]); first | assumption | (go_simp; done)))
  have kw2_2_3 : w2.cell? ⟨w0.heap.size, 3, none⟩ = some (.int .i64 b4) := (hbw2.cell (p := ⟨w0.heap.size, 3, none⟩) (by first | omega | (simp; omega) | simp)).trans (by first | (go_simp; done) | ((repeat rw [cell_al (by first | omega | (simp; omega) | simp)]); first | assumption | (go_simp; done)))
  have kw2_2_4 : w2.cell? ⟨w0.heap.size, 4, none⟩ = some (.int .i64 b5) := (hbw2.cell (p := ⟨w0.heap.size, 4, none⟩) (by first | omega | (simp; omega) | simp)).trans (by first | (go_simp; done) | ((repeat rw [cell_al (by first | omega | (simp; omega) | simp)]); first | assumption | (go_simp; done)))
  have hsw2_2 : w0.heap.size < w2.heap.size := (by omega)
  have hBw2 : Below w.heap.size w w2 := by
    refine bthen hbw2 ?_ (by first | omega | (simp; omega) | simp)
    repeat (first | exact Below.refl _ _ | (with_reducible assumption) | (refine Below.drew ?_) | (refine Below.setCell ?_ (by first | omega | (simp; omega) | simp) _) | (refine Below.alloc ?_ (by first | omega | (simp; omega) | simp) _) | (refine bthen (by assumption) ?_ (by first | omega | (simp; omega) | simp)))
  have hvw2 := hBw2.size
  clear kw1_0_0 kw1_0_1 kw1_0_2 kw1_0_3 kw1_0_4 hsw1_0 kw1_1_0 kw1_1_1 kw1_1_2 kw1_1_3 kw1_1_4 hsw1_1 kw1_2_0 kw1_2_1 kw1_2_2 kw1_2_3 kw1_2_4 hsw1_2 hBw1 hvw1 hzw1
  clear hbw2
  clear hs hpe ht hqe
  rcases hp with rfl | ⟨rfl, rfl⟩ <;> rcases hq with rfl | ⟨rfl, rfl⟩
  · have hst' := hst rfl rfl
    clear hst
    by_cases hE : a1 = b1 ∧ a2 = b2 ∧ a3 = b3 ∧ a4 = b4 ∧ a5 = b5
    · have hl : s = t := hst'.2 (by simpa using hE)
      clear hst'
      obtain ⟨q1, q2, q3, q4, q5⟩ := hE
      subst hl
      (try subst q1); (try subst q2); (try subst q3); (try subst q4); (try subst q5)
      go_wp2_with (first | (go_at_call 11; refine (num_any _ _).mono ?_; rintro e w3 ⟨rfl, rfl⟩))
      go_returns
      refine ⟨by simp, ?_⟩
      repeat (first | exact Below.refl _ _ | assumption | (refine Below.drew ?_) | (refine Below.setCell ?_ (by first | omega | (simp; omega) | simp) _) | (refine Below.alloc ?_ (by first | omega | (simp; omega) | simp) _) | (refine bthen (by assumption) ?_ (by first | omega | (simp; omega) | simp)))
    · have hl : (s.toList == t.toList) = false := unlike_toList (fun h => hE (by simpa using hst'.1 h))
      clear hst'
      go_wp2_with (first | (go_at_call 11; refine (num_any _ _).mono ?_; rintro e w3 ⟨rfl, rfl⟩))
      all_goals first
        | (exfalso; (try simp only [and_true, true_and] at hE); omega)
        | (go_returns; refine ⟨by simp, ?_⟩; repeat (first | exact Below.refl _ _ | assumption | (refine Below.drew ?_) | (refine Below.setCell ?_ (by first | omega | (simp; omega) | simp) _) | (refine Below.alloc ?_ (by first | omega | (simp; omega) | simp) _) | (refine bthen (by assumption) ?_ (by first | omega | (simp; omega) | simp))))
  all_goals (clear hst; go_wp2_with (first | (go_at_call 11; refine (num_any _ _).mono ?_; rintro e w3 ⟨rfl, rfl⟩)))
  all_goals go_returns
  all_goals refine ⟨rfl, ?_⟩
  all_goals repeat (first | exact Below.refl _ _ | assumption | (refine Below.drew ?_) | (refine Below.setCell ?_ (by first | omega | (simp; omega) | simp) _) | (refine Below.alloc ?_ (by first | omega | (simp; omega) | simp) _) | (refine bthen (by assumption) ?_ (by first | omega | (simp; omega) | simp)))
theorem put_two (a b c d e : Int) : putE a b c d e = 0 ∨ (putE a b c d e = 1600 ∧ putB a b c d e = ⟨#[]⟩) := by
  cases h : mayD a b c d e with
  | true => exact .inl (putB_yes h).2
  | false => exact .inr ⟨(putB_no h).2, (putB_no h).1⟩
theorem put_inj (a b c d e a' b' c' d' e' : Int) (h : putE a b c d e = 0) (h' : putE a' b' c' d' e' = 0) : putB a b c d e = putB a' b' c' d' e' ↔ (a = a' ∧ b = b' ∧ c = c' ∧ d = d' ∧ e = e') := by
  have m : ∀ {a b c d e : Int}, putE a b c d e = 0 → mayD a b c d e = true := fun {a b c d e} h => by
    cases hm : mayD a b c d e with
    | true => rfl
    | false => rw [(putB_no hm).2] at h; omega
  rw [(putB_yes (m h)).1, (putB_yes (m h')).1]
  constructor
  · intro he
    have := getN_put (m h)
    rw [he, getN_put (m h')] at this
    simp only [Prod.mk.injEq, and_true] at this
    obtain ⟨rfl, rfl, rfl, rfl, rfl⟩ := this
    exact ⟨rfl, rfl, rfl, rfl, rfl⟩
  · rintro ⟨rfl, rfl, rfl, rfl, rfl⟩; rfl
theorem walk (a1 a2 a3 a4 a5 b1 b2 b3 b4 b5 which : Int) (w : World) (h1 : (Lit.int .i64 a1).wf = true) (h2 : (Lit.int .i64 a2).wf = true) (h3 : (Lit.int .i64 a3).wf = true) (h4 : (Lit.int .i64 a4).wf = true) (h5 : (Lit.int .i64 a5).wf = true) (k1 : (Lit.int .i64 b1).wf = true) (k2 : (Lit.int .i64 b2).wf = true) (k3 : (Lit.int .i64 b3).wf = true) (k4 : (Lit.int .i64 b4).wf = true) (k5 : (Lit.int .i64 b5).wf = true) (hw : (Lit.int .i64 which).wf = true) :
    Calls Try.prog 6 #[.agg #[.int .i64 a1, .int .i64 a2, .int .i64 a3, .int .i64 a4, .int .i64 a5], .agg #[.int .i64 b1, .int .i64 b2, .int .i64 b3, .int .i64 b4, .int .i64 b5], .int .i64 which] w fun e w' => e = .returned (.bool true) ∧ Below w.heap.size w w' := by
  have hu : 0 ≤ IntKind.u64.wrap which := by rw [IntKind.wrap_u64]; omega
  have ht : (IntKind.u64.wrap which).tmod 6 = IntKind.u64.wrap which % 6 := Int.tmod_eq_emod_of_nonneg hu
  have c : (IntKind.u64.wrap which).tmod 6 = 0 ∨ (IntKind.u64.wrap which).tmod 6 = 1 ∨ (IntKind.u64.wrap which).tmod 6 = 2 ∨ (IntKind.u64.wrap which).tmod 6 = 3 ∨ (IntKind.u64.wrap which).tmod 6 = 4 ∨ (IntKind.u64.wrap which).tmod 6 = 5 := by omega
  rcases c with c | c | c | c | c | c
  · exact walk0 _ _ _ _ _ b1 b2 b3 b4 b5 which _ _ _ _ w c rfl rfl rfl rfl (put_two _ _ _ _ _) (put_two _ _ _ _ _) (put_inj _ _ _ _ _ _ _ _ _ _)
  · exact walk1 _ _ _ _ _ b1 b2 b3 b4 b5 which _ _ _ _ w c rfl rfl rfl rfl (put_two _ _ _ _ _) (put_two _ _ _ _ _) (put_inj _ _ _ _ _ _ _ _ _ _)
  · exact walk2 _ _ _ _ _ b1 b2 b3 b4 b5 which _ _ _ _ w c rfl rfl rfl rfl (put_two _ _ _ _ _) (put_two _ _ _ _ _) (put_inj _ _ _ _ _ _ _ _ _ _)
  · exact walk3 _ _ _ _ _ b1 b2 b3 b4 b5 which _ _ _ _ w c rfl rfl rfl rfl (put_two _ _ _ _ _) (put_two _ _ _ _ _) (put_inj _ _ _ _ _ _ _ _ _ _)
  · exact walk4 _ _ _ _ _ b1 b2 b3 b4 b5 which _ _ _ _ w c rfl rfl rfl rfl (put_two _ _ _ _ _) (put_two _ _ _ _ _) (put_inj _ _ _ _ _ _ _ _ _ _)
  · exact walk5 _ _ _ _ _ b1 b2 b3 b4 b5 which _ _ _ _ w c rfl rfl rfl rfl (put_two _ _ _ _ _) (put_two _ _ _ _ _) (put_inj _ _ _ _ _ _ _ _ _ _)
end Go.Proofs.Ytefcppldkepmhaa.descUnlike

