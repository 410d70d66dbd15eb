/- Contracts of package desc and of the reference's descriptors: what each call answers. No condition. -/
import Derived.Test.YtefcppldkepmhaaKit
import Derived.Lib.ConvBytes
namespace Go.Proofs.Ytefcppldkepmhaa
open Go.RowKit
set_option linter.unusedVariables false

def mayD (a b c d e : Int) : Bool := decide (0 ≤ a ∧ a ≤ 3 ∧ (0 ≤ b ∧ b < 8 ∨ b = 255) ∧ 0 ≤ c ∧ c ≤ 65535 ∧ 0 ≤ d ∧ d ≤ 65535 ∧ 0 ≤ e ∧ e ≤ 255)
theorem mayD_false {a b c d e : Int} (h : mayD a b c d e = false) : ¬ (0 ≤ a ∧ a ≤ 3 ∧ (0 ≤ b ∧ b < 8 ∨ b = 255) ∧ 0 ≤ c ∧ c ≤ 65535 ∧ 0 ≤ d ∧ d ≤ 65535 ∧ 0 ≤ e ∧ e ≤ 255) := by
  simpa only [mayD, decide_eq_false_iff_not] using h
theorem mayD_true {a b c d e : Int} (h : mayD a b c d e = true) : 0 ≤ a ∧ a ≤ 3 ∧ (0 ≤ b ∧ b < 8 ∨ b = 255) ∧ 0 ≤ c ∧ c ≤ 65535 ∧ 0 ≤ d ∧ d ≤ 65535 ∧ 0 ≤ e ∧ e ≤ 255 := by
  simpa only [mayD, decide_eq_true_eq] using h
set_option maxHeartbeats 1000000 in
theorem mayD_any (a b c d e : Int) (w : World) :
    Calls Try.prog 12 #[.agg #[.int .i64 a, .int .i64 b, .int .i64 c, .int .i64 d, .int .i64 e]] w fun e' w' => e' = .returned (.bool (mayD a b c d e)) ∧ Below w.heap.size w w' := by
  by_cases h : mayD a b c d e = true
  · rw [h]
    simp only [mayD, decide_eq_true_eq] at h
    obtain ⟨h1, h2, h3, h4, h5, h6, h7, h8, h9⟩ := h
    rcases h3 with ⟨h31, h32⟩ | rfl
    all_goals skip
    all_goals (go_enter Try.func12, Try.ntmps12)
    all_goals go_wp2
    all_goals go_returns
    all_goals exact ⟨rfl, by go_grown⟩
  · have hf : mayD a b c d e = false := by simpa using h
    rw [hf]
    clear h
    by_cases hb : b = 255
    · subst hb
      go_enter Try.func12, Try.ntmps12
      go_wp2
      all_goals go_returns
      all_goals refine ⟨?_, by go_grown⟩
      all_goals first | rfl | exact congrArg (fun q => Ending.returned (Value.bool q)) (decide_eq_false fun hz => mayD_false hf (by omega)) | (exfalso; exact mayD_false hf (by omega))
    have hb' : (b == 255) = false := by simpa using hb
    go_enter Try.func12, Try.ntmps12
    go_wp2
    all_goals go_returns
    all_goals refine ⟨?_, by go_grown⟩
    all_goals first | rfl | exact congrArg (fun q => Ending.returned (Value.bool q)) (decide_eq_false fun hz => mayD_false hf (by omega)) | (exfalso; exact mayD_false hf (by omega))
set_option maxHeartbeats 1000000 in
theorem rmayD_any (a b c d e : Int) (w : World) :
    Calls Try.prog 13 #[.agg #[.int .i64 a, .int .i64 b, .int .i64 c, .int .i64 d, .int .i64 e]] w fun e' w' => e' = .returned (.bool (mayD a b c d e)) ∧ Below w.heap.size w w' := by
  by_cases h : mayD a b c d e = true
  · rw [h]
    simp only [mayD, decide_eq_true_eq] at h
    obtain ⟨h1, h2, h3, h4, h5, h6, h7, h8, h9⟩ := h
    rcases h3 with ⟨h31, h32⟩ | rfl
    all_goals skip
    all_goals (go_enter Try.func13, Try.ntmps13)
    all_goals go_wp2
    all_goals go_returns
    all_goals exact ⟨rfl, by go_grown⟩
  · have hf : mayD a b c d e = false := by simpa using h
    rw [hf]
    clear h
    by_cases hb : b = 255
    · subst hb
      go_enter Try.func13, Try.ntmps13
      go_wp2
      all_goals go_returns
      all_goals refine ⟨?_, by go_grown⟩
      all_goals first | rfl | exact congrArg (fun q => Ending.returned (Value.bool q)) (decide_eq_false fun hz => mayD_false hf (by omega)) | (exfalso; exact mayD_false hf (by omega))
    have hb' : (b == 255) = false := by simpa using hb
    go_enter Try.func13, Try.ntmps13
    go_wp2
    all_goals go_returns
    all_goals refine ⟨?_, by go_grown⟩
    all_goals first | rfl | exact congrArg (fun q => Ending.returned (Value.bool q)) (decide_eq_false fun hz => mayD_false hf (by omega)) | (exfalso; exact mayD_false hf (by omega))

theorem conv8 (x0 x1 x2 x3 x4 x5 x6 x7 : Int) (w : World) :
    (_root_.Go.convert 41 9 (.slice (some ⟨w.heap.size, 0, none⟩) 8 8)).run Try.prog (w.alloc (.cells #[.int .u8 x0, .int .u8 x1, .int .u8 x2, .int .u8 x3, .int .u8 x4, .int .u8 x5, .int .u8 x6, .int .u8 x7] 5)) =
      .ok (.string (strOfNums [x0, x1, x2, x3, x4, x5, x6, x7])) (w.alloc (.cells #[.int .u8 x0, .int .u8 x1, .int .u8 x2, .int .u8 x3, .int .u8 x4, .int .u8 x5, .int .u8 x6, .int .u8 x7] 5)) := by
  refine run_convert_bytes_arg _ 41 5 Try.underlying41 Try.underlying5 _ 0 8 8 [x0, x1, x2, x3, x4, x5, x6, x7] rfl ?_ _ Try.underlying9
  intro i hi
  have hc : i = 0 ∨ i = 1 ∨ i = 2 ∨ i = 3 ∨ i = 4 ∨ i = 5 ∨ i = 6 ∨ i = 7 := by omega
  rcases hc with rfl | rfl | rfl | rfl | rfl | rfl | rfl | rfl <;> go_simp
/-- A descriptor's bytes. -/
def putS (a b c d e : Int) : ByteArray := strOfNums [a, b, c % 256, c / 256, d % 256, d / 256, e, 0]
set_option maxHeartbeats 1000000 in
theorem put_yes (a b c d e : Int) (w : World) (h : mayD a b c d e = true) :
    Calls Try.prog 7 #[.agg #[.int .i64 a, .int .i64 b, .int .i64 c, .int .i64 d, .int .i64 e]] w fun e' w' => e' = .returned (.tuple #[.string (putS a b c d e), .int .i64 0]) ∧ Below w.heap.size w w' := by
  have h' := h
  simp only [mayD, decide_eq_true_eq] at h'
  obtain ⟨h1, h2, h3, h4, h5, h6, h7, h8, h9⟩ := h'
  have hcv := conv8
  go_enter Try.func7, Try.ntmps7
  go_wp2_with fail
  refine (mayD_any _ _ _ _ _ _).mono ?_; rintro e w1 ⟨rfl, hbw1⟩
  have hzw1 := hbw1.size; (try simp at hzw1)
  have kw1_0_0 : w1.cell? ⟨w.heap.size, 0, none⟩ = some (.int .i64 a) := (hbw1.cell (p := ⟨w.heap.size, 0, none⟩) (by first | omega | (simp; omega) | simp)).trans (by first | (go_simp; done) | ((repeat rw [cell_al (by first | omega | (simp; omega) | simp)]); first | assumption | (go_simp; done)))
  have kw1_0_1 : w1.cell? ⟨w.heap.size, 1, none⟩ = some (.int .i64 b) := (hbw1.cell (p := ⟨w.heap.size, 1, none⟩) (by first | omega | (simp; omega) | simp)).trans (by first | (go_simp; done) | ((repeat rw [cell_al (by first | omega | (simp; omega) | simp)]); first | assumption | (go_simp; done)))
  have kw1_0_2 : w1.cell? ⟨w.heap.size, 2, none⟩ = some (.int .i64 c) := (hbw1.cell (p := ⟨w.heap.size, 2, none⟩) (by first | omega | (simp; omega) | simp)).trans (by first | (go_simp; done) | ((repeat rw [cell_al (by first | omega | (simp; omega) | simp)]); first | assumption | (go_simp; done)))
  have kw1_0_3 : w1.cell? ⟨w.heap.size, 3, none⟩ = some (.int .i64 d) := (hbw1.cell (p := ⟨w.heap.size, 3, none⟩) (by first | omega | (simp; omega) | simp)).trans (by first | (go_simp; done) | ((repeat rw [cell_al (by first | omega | (simp; omega) | simp)]); first | assumption | (go_simp; done)))
  have kw1_0_4 : w1.cell? ⟨w.heap.size, 4, none⟩ = some (.int .i64 e) := (hbw1.cell (p := ⟨w.heap.size, 4, none⟩) (by first | omega | (simp; omega) | simp)).trans (by first | (go_simp; done) | ((repeat rw [cell_al (by first | omega | (simp; omega) | simp)]); first | assumption | (go_simp; done)))
  have hsw1_0 : w.heap.size < w1.heap.size := (by omega)
  have hBw1 : Below w.heap.size w w1 := by
    refine bthen hbw1 ?_ (by first | omega | (simp; omega) | simp)
    repeat (first | exact Below.refl _ _ | (with_reducible assumption) | (refine Below.drew ?_) | (refine Below.setCell ?_ (by first | omega | (simp; omega) | simp) _) | (refine Below.alloc ?_ (by first | omega | (simp; omega) | simp) _) | (refine bthen (by assumption) ?_ (by first | omega | (simp; omega) | simp)))
  have hvw1 := hBw1.size
  clear hbw1
  rw [h]
  go_wp2
  go_returns
  exact ⟨rfl, by repeat (first | exact Below.refl _ _ | assumption | (refine Below.drew ?_) | (refine Below.setCell ?_ (by first | omega | (simp; omega) | simp) _) | (refine Below.alloc ?_ (by first | omega | (simp; omega) | simp) _) | (refine bthen (by assumption) ?_ (by first | omega | (simp; omega) | simp)))⟩
set_option maxHeartbeats 1000000 in
theorem put_no (a b c d e : Int) (w : World) (h : mayD a b c d e = false) :
    Calls Try.prog 7 #[.agg #[.int .i64 a, .int .i64 b, .int .i64 c, .int .i64 d, .int .i64 e]] w fun e' w' => e' = .returned (.tuple #[.string ⟨#[]⟩, .int .i64 1600]) ∧ Below w.heap.size w w' := by
  go_enter Try.func7, Try.ntmps7
  go_wp2_with fail
  refine (mayD_any _ _ _ _ _ _).mono ?_; rintro e w1 ⟨rfl, hbw1⟩
  have hzw1 := hbw1.size; (try simp at hzw1)
  have kw1_0_0 : w1.cell? ⟨w.heap.size, 0, none⟩ = some (.int .i64 a) := (hbw1.cell (p := ⟨w.heap.size, 0, none⟩) (by first | omega | (simp; omega) | simp)).trans (by first | (go_simp; done) | ((repeat rw [cell_al (by first | omega | (simp; omega) | simp)]); first | assumption | (go_simp; done)))
  have kw1_0_1 : w1.cell? ⟨w.heap.size, 1, none⟩ = some (.int .i64 b) := (hbw1.cell (p := ⟨w.heap.size, 1, none⟩) (by first | omega | (simp; omega) | simp)).trans (by first | (go_simp; done) | ((repeat rw [cell_al (by first | omega | (simp; omega) | simp)]); first | assumption | (go_simp; done)))
  have kw1_0_2 : w1.cell? ⟨w.heap.size, 2, none⟩ = some (.int .i64 c) := (hbw1.cell (p := ⟨w.heap.size, 2, none⟩) (by first | omega | (simp; omega) | simp)).trans (by first | (go_simp; done) | ((repeat rw [cell_al (by first | omega | (simp; omega) | simp)]); first | assumption | (go_simp; done)))
  have kw1_0_3 : w1.cell? ⟨w.heap.size, 3, none⟩ = some (.int .i64 d) := (hbw1.cell (p := ⟨w.heap.size, 3, none⟩) (by first | omega | (simp; omega) | simp)).trans (by first | (go_simp; done) | ((repeat rw [cell_al (by first | omega | (simp; omega) | simp)]); first | assumption | (go_simp; done)))
  have kw1_0_4 : w1.cell? ⟨w.heap.size, 4, none⟩ = some (.int .i64 e) := (hbw1.cell (p := ⟨w.heap.size, 4, none⟩) (by first | omega | (simp; omega) | simp)).trans (by first | (go_simp; done) | ((repeat rw [cell_al (by first | omega | (simp; omega) | simp)]); first | assumption | (go_simp; done)))
  have hsw1_0 : w.heap.size < w1.heap.size := (by omega)
  have hBw1 : Below w.heap.size w w1 := by
    refine bthen hbw1 ?_ (by first | omega | (simp; omega) | simp)
    repeat (first | exact Below.refl _ _ | (with_reducible assumption) | (refine Below.drew ?_) | (refine Below.setCell ?_ (by first | omega | (simp; omega) | simp) _) | (refine Below.alloc ?_ (by first | omega | (simp; omega) | simp) _) | (refine bthen (by assumption) ?_ (by first | omega | (simp; omega) | simp)))
  have hvw1 := hBw1.size
  clear hbw1
  rw [h]
  go_wp2
  go_returns
  exact ⟨rfl, by repeat (first | exact Below.refl _ _ | assumption | (refine Below.drew ?_) | (refine Below.setCell ?_ (by first | omega | (simp; omega) | simp) _) | (refine Below.alloc ?_ (by first | omega | (simp; omega) | simp) _) | (refine bthen (by assumption) ?_ (by first | omega | (simp; omega) | simp)))⟩
set_option maxHeartbeats 1000000 in
theorem rput_yes (a b c d e : Int) (w : World) (h : mayD a b c d e = true) :
    Calls Try.prog 8 #[.agg #[.int .i64 a, .int .i64 b, .int .i64 c, .int .i64 d, .int .i64 e]] w fun e' w' => e' = .returned (.tuple #[.string (putS a b c d e), .int .i64 0]) ∧ Below w.heap.size w w' := by
  have h' := h
  simp only [mayD, decide_eq_true_eq] at h'
  obtain ⟨h1, h2, h3, h4, h5, h6, h7, h8, h9⟩ := h'
  have hcv := conv8
  go_enter Try.func8, Try.ntmps8
  go_wp2_with fail
  refine (rmayD_any _ _ _ _ _ _).mono ?_; rintro e w1 ⟨rfl, hbw1⟩
  have hzw1 := hbw1.size; (try simp at hzw1)
  have kw1_0_0 : w1.cell? ⟨w.heap.size, 0, none⟩ = some (.int .i64 a) := (hbw1.cell (p := ⟨w.heap.size, 0, none⟩) (by first | omega | (simp; omega) | simp)).trans (by first | (go_simp; done) | ((repeat rw [cell_al (by first | omega | (simp; omega) | simp)]); first | assumption | (go_simp; done)))
  have kw1_0_1 : w1.cell? ⟨w.heap.size, 1, none⟩ = some (.int .i64 b) := (hbw1.cell (p := ⟨w.heap.size, 1, none⟩) (by first | omega | (simp; omega) | simp)).trans (by first | (go_simp; done) | ((repeat rw [cell_al (by first | omega | (simp; omega) | simp)]); first | assumption | (go_simp; done)))
  have kw1_0_2 : w1.cell? ⟨w.heap.size, 2, none⟩ = some (.int .i64 c) := (hbw1.cell (p := ⟨w.heap.size, 2, none⟩) (by first | omega | (simp; omega) | simp)).trans (by first | (go_simp; done) | ((repeat rw [cell_al (by first | omega | (simp; omega) | simp)]); first | assumption | (go_simp; done)))
  have kw1_0_3 : w1.cell? ⟨w.heap.size, 3, none⟩ = some (.int .i64 d) := (hbw1.cell (p := ⟨w.heap.size, 3, none⟩) (by first | omega | (simp; omega) | simp)).trans (by first | (go_simp; done) | ((repeat rw [cell_al (by first | omega | (simp; omega) | simp)]); first | assumption | (go_simp; done)))
  have kw1_0_4 : w1.cell? ⟨w.heap.size, 4, none⟩ = some (.int .i64 e) := (hbw1.cell (p := ⟨w.heap.size, 4, none⟩) (by first | omega | (simp; omega) | simp)).trans (by first | (go_simp; done) | ((repeat rw [cell_al (by first | omega | (simp; omega) | simp)]); first | assumption | (go_simp; done)))
  have hsw1_0 : w.heap.size < w1.heap.size := (by omega)
  have hBw1 : Below w.heap.size w w1 := by
    refine bthen hbw1 ?_ (by first | omega | (simp; omega) | simp)
    repeat (first | exact Below.refl _ _ | (with_reducible assumption) | (refine Below.drew ?_) | (refine Below.setCell ?_ (by first | omega | (simp; omega) | simp) _) | (refine Below.alloc ?_ (by first | omega | (simp; omega) | simp) _) | (refine bthen (by assumption) ?_ (by first | omega | (simp; omega) | simp)))
  have hvw1 := hBw1.size
  clear hbw1
  rw [h]
  go_wp2
  go_returns
  exact ⟨rfl, by repeat (first | exact Below.refl _ _ | assumption | (refine Below.drew ?_) | (refine Below.setCell ?_ (by first | omega | (simp; omega) | simp) _) | (refine Below.alloc ?_ (by first | omega | (simp; omega) | simp) _) | (refine bthen (by assumption) ?_ (by first | omega | (simp; omega) | simp)))⟩
set_option maxHeartbeats 1000000 in
theorem rput_no (a b c d e : Int) (w : World) (h : mayD a b c d e = false) :
    Calls Try.prog 8 #[.agg #[.int .i64 a, .int .i64 b, .int .i64 c, .int .i64 d, .int .i64 e]] w fun e' w' => e' = .returned (.tuple #[.string ⟨#[]⟩, .int .i64 1600]) ∧ Below w.heap.size w w' := by
  go_enter Try.func8, Try.ntmps8
  go_wp2_with fail
  refine (rmayD_any _ _ _ _ _ _).mono ?_; rintro e w1 ⟨rfl, hbw1⟩
  have hzw1 := hbw1.size; (try simp at hzw1)
  have kw1_0_0 : w1.cell? ⟨w.heap.size, 0, none⟩ = some (.int .i64 a) := (hbw1.cell (p := ⟨w.heap.size, 0, none⟩) (by first | omega | (simp; omega) | simp)).trans (by first | (go_simp; done) | ((repeat rw [cell_al (by first | omega | (simp; omega) | simp)]); first | assumption | (go_simp; done)))
  have kw1_0_1 : w1.cell? ⟨w.heap.size, 1, none⟩ = some (.int .i64 b) := (hbw1.cell (p := ⟨w.heap.size, 1, none⟩) (by first | omega | (simp; omega) | simp)).trans (by first | (go_simp; done) | ((repeat rw [cell_al (by first | omega | (simp; omega) | simp)]); first | assumption | (go_simp; done)))
  have kw1_0_2 : w1.cell? ⟨w.heap.size, 2, none⟩ = some (.int .i64 c) := (hbw1.cell (p := ⟨w.heap.size, 2, none⟩) (by first | omega | (simp; omega) | simp)).trans (by first | (go_simp; done) | ((repeat rw [cell_al (by first | omega | (simp; omega) | simp)]); first | assumption | (go_simp; done)))
  have kw1_0_3 : w1.cell? ⟨w.heap.size, 3, none⟩ = some (.int .i64 d) := (hbw1.cell (p := ⟨w.heap.size, 3, none⟩) (by first | omega | (simp; omega) | simp)).trans (by first | (go_simp; done) | ((repeat rw [cell_al (by first | omega | (simp; omega) | simp)]); first | assumption | (go_simp; done)))
  have kw1_0_4 : w1.cell? ⟨w.heap.size, 4, none⟩ = some (.int .i64 e) := (hbw1.cell (p := ⟨w.heap.size, 4, none⟩) (by first | omega | (simp; omega) | simp)).trans (by first | (go_simp; done) | ((repeat rw [cell_al (by first | omega | (simp; omega) | simp)]); first | assumption | (go_simp; done)))
  have hsw1_0 : w.heap.size < w1.heap.size := (by omega)
  have hBw1 : Below w.heap.size w w1 := by
    refine bthen hbw1 ?_ (by first | omega | (simp; omega) | simp)
    repeat (first | exact Below.refl _ _ | (with_reducible assumption) | (refine Below.drew ?_) | (refine Below.setCell ?_ (by first | omega | (simp; omega) | simp) _) | (refine Below.alloc ?_ (by first | omega | (simp; omega) | simp) _) | (refine bthen (by assumption) ?_ (by first | omega | (simp; omega) | simp)))
  have hvw1 := hBw1.size
  clear hbw1
  rw [h]
  go_wp2
  go_returns
  exact ⟨rfl, by repeat (first | exact Below.refl _ _ | assumption | (refine Below.drew ?_) | (refine Below.setCell ?_ (by first | omega | (simp; omega) | simp) _) | (refine Below.alloc ?_ (by first | omega | (simp; omega) | simp) _) | (refine bthen (by assumption) ?_ (by first | omega | (simp; omega) | simp)))⟩
end Go.Proofs.Ytefcppldkepmhaa

