/- caissonlaw16.awake answers true. No condition. -/
import Derived.Test.YtefcppldkepmhaaDescD
import Derived.Test.YtefcppldkepmhaaNum
namespace Go.Proofs.Ytefcppldkepmhaa
open Go.RowKit
set_option linter.unusedVariables false
set_option linter.unusedSimpArgs false
theorem get_is (s : ByteArray) (T : Value) (w : World) (h : getV s = T) : Calls Try.prog 9 #[.string s] w fun e' w' => e' = .returned T ∧ Below w.heap.size w w' := h ▸ get_any s w
theorem get_lit (s : ByteArray) (w : World) : Calls Try.prog 9 #[.string s] w fun e' w' => e' = .returned (.tuple #[.agg #[.int .i64 (getN s).1, .int .i64 (getN s).2.1, .int .i64 (getN s).2.2.1, .int .i64 (getN s).2.2.2.1, .int .i64 (getN s).2.2.2.2.1], .int .i64 (getN s).2.2.2.2.2]) ∧ Below w.heap.size w w' := get_any s w
theorem put_is (a b c d e : Int) (s : ByteArray) (k : Int) (w : World) (h : putB a b c d e = s) (hk : putE a b c d e = k) : Calls Try.prog 7 #[.agg #[.int .i64 a, .int .i64 b, .int .i64 c, .int .i64 d, .int .i64 e]] w fun e' w' => e' = .returned (.tuple #[.string s, .int .i64 k]) ∧ Below w.heap.size w w' := by
  subst h; subst hk; exact put_any a b c d e w
theorem mayD_is (a b c d e : Int) (r : Bool) (w : World) (h : mayD a b c d e = r) : Calls Try.prog 12 #[.agg #[.int .i64 a, .int .i64 b, .int .i64 c, .int .i64 d, .int .i64 e]] w fun e' w' => e' = .returned (.bool r) ∧ Below w.heap.size w w' := by
  subst h; exact mayD_any a b c d e w
theorem rget_is (s : ByteArray) (T : Value) (w : World) (h : getV s = T) : Calls Try.prog 10 #[.string s] w fun e' w' => e' = .returned T ∧ Below w.heap.size w w' := h ▸ rget_any s w
theorem rget_lit (s : ByteArray) (w : World) : Calls Try.prog 10 #[.string s] w fun e' w' => e' = .returned (.tuple #[.agg #[.int .i64 (getN s).1, .int .i64 (getN s).2.1, .int .i64 (getN s).2.2.1, .int .i64 (getN s).2.2.2.1, .int .i64 (getN s).2.2.2.2.1], .int .i64 (getN s).2.2.2.2.2]) ∧ Below w.heap.size w w' := rget_any s w
theorem rput_is (a b c d e : Int) (s : ByteArray) (k : Int) (w : World) (h : putB a b c d e = s) (hk : putE a b c d e = k) : Calls Try.prog 8 #[.agg #[.int .i64 a, .int .i64 b, .int .i64 c, .int .i64 d, .int .i64 e]] w fun e' w' => e' = .returned (.tuple #[.string s, .int .i64 k]) ∧ Below w.heap.size w w' := by
  subst h; subst hk; exact rput_any a b c d e w
theorem rmayD_is (a b c d e : Int) (r : Bool) (w : World) (h : mayD a b c d e = r) : Calls Try.prog 13 #[.agg #[.int .i64 a, .int .i64 b, .int .i64 c, .int .i64 d, .int .i64 e]] w fun e' w' => e' = .returned (.bool r) ∧ Below w.heap.size w w' := by
  subst h; exact rmayD_any a b c d e w
set_option maxHeartbeats 4000000 in
theorem awakeD (w : World) : Calls Try.prog 14 #[] w fun e w' => e = .returned (.bool true) ∧ Below w.heap.size w w' := by
  go_enter Try.func14, Try.ntmps14
  go_wp2_with fail
  refine (put_is _ _ _ _ _ ⟨#[1, 255, 2, 1, 4, 3, 2, 0]⟩ 0 _ (by kernel_rfl) (by kernel_rfl)).mono ?_; rintro e w1 ⟨rfl, hbw1⟩
  have hzw1 := hbw1.size; (try simp at hzw1)
  have kw1_0_0 : w1.cell? ⟨w.heap.size, 0, none⟩ = some (.int .i64 1) := (hbw1.cell (p := ⟨w.heap.size, 0, none⟩) (by first | omega | (simp; omega) | simp)).trans (by first | (go_simp; done) | ((repeat rw [cell_al (by first | omega | (simp; omega) | simp)]); first | assumption | (go_simp; done)))
  have kw1_0_1 : w1.cell? ⟨w.heap.size, 1, none⟩ = some (.int .i64 255) := (hbw1.cell (p := ⟨w.heap.size, 1, none⟩) (by first | omega | (simp; omega) | simp)).trans (by first | (go_simp; done) | ((repeat rw [cell_al (by first | omega | (simp; omega) | simp)]); first | assumption | (go_simp; done)))
  have kw1_0_2 : w1.cell? ⟨w.heap.size, 2, none⟩ = some (.int .i64 258) := (hbw1.cell (p := ⟨w.heap.size, 2, none⟩) (by first | omega | (simp; omega) | simp)).trans (by first | (go_simp; done) | ((repeat rw [cell_al (by first | omega | (simp; omega) | simp)]); first | assumption | (go_simp; done)))
  have kw1_0_3 : w1.cell? ⟨w.heap.size, 3, none⟩ = some (.int .i64 772) := (hbw1.cell (p := ⟨w.heap.size, 3, none⟩) (by first | omega | (simp; omega) | simp)).trans (by first | (go_simp; done) | ((repeat rw [cell_al (by first | omega | (simp; omega) | simp)]); first | assumption | (go_simp; done)))
  have kw1_0_4 : w1.cell? ⟨w.heap.size, 4, none⟩ = some (.int .i64 2) := (hbw1.cell (p := ⟨w.heap.size, 4, none⟩) (by first | omega | (simp; omega) | simp)).trans (by first | (go_simp; done) | ((repeat rw [cell_al (by first | omega | (simp; omega) | simp)]); first | assumption | (go_simp; done)))
  have hsw1_0 : w.heap.size < w1.heap.size := (by omega)
  have hBw1 : Below w.heap.size w w1 := by
    refine bthen hbw1 ?_ (by first | omega | (simp; omega) | simp)
    repeat (first | exact Below.refl _ _ | (with_reducible assumption) | (refine Below.drew ?_) | (refine Below.setCell ?_ (by first | omega | (simp; omega) | simp) _) | (refine Below.alloc ?_ (by first | omega | (simp; omega) | simp) _) | (refine bthen (by assumption) ?_ (by first | omega | (simp; omega) | simp)))
  have hvw1 := hBw1.size
  clear hbw1
  go_wp2_with fail
  refine (get_is _ (.tuple #[.agg #[.int .i64 1, .int .i64 255, .int .i64 258, .int .i64 772, .int .i64 2], .int .i64 0]) _ (by kernel_rfl)).mono ?_; rintro e w2 ⟨rfl, hbw2⟩
  have hzw2 := hbw2.size; (try simp at hzw2)
  have kw2_0_0 : w2.cell? ⟨w.heap.size, 0, none⟩ = some (.int .i64 1) := (hbw2.cell (p := ⟨w.heap.size, 0, none⟩) (by first | omega | (simp; omega) | simp)).trans (by first | (go_simp; done) | ((repeat rw [cell_al (by first | omega | (simp; omega) | simp)]); first | assumption | (go_simp; done)))
  have kw2_0_1 : w2.cell? ⟨w.heap.size, 1, none⟩ = some (.int .i64 255) := (hbw2.cell (p := ⟨w.heap.size, 1, none⟩) (by first | omega | (simp; omega) | simp)).trans (by first | (go_simp; done) | ((repeat rw [cell_al (by first | omega | (simp; omega) | simp)]); first | assumption | (go_simp; done)))
  have kw2_0_2 : w2.cell? ⟨w.heap.size, 2, none⟩ = some (.int .i64 258) := (hbw2.cell (p := ⟨w.heap.size, 2, none⟩) (by first | omega | (simp; omega) | simp)).trans (by first | (go_simp; done) | ((repeat rw [cell_al (by first | omega | (simp; omega) | simp)]); first | assumption | (go_simp; done)))
  have kw2_0_3 : w2.cell? ⟨w.heap.size, 3, none⟩ = some (.int .i64 772) := (hbw2.cell (p := ⟨w.heap.size, 3, none⟩) (by first | omega | (simp; omega) | simp)).trans (by first | (go_simp; done) | ((repeat rw [cell_al (by first | omega | (simp; omega) | simp)]); first | assumption | (go_simp; done)))
  have kw2_0_4 : w2.cell? ⟨w.heap.size, 4, none⟩ = some (.int .i64 2) := (hbw2.cell (p := ⟨w.heap.size, 4, none⟩) (by first | omega | (simp; omega) | simp)).trans (by first | (go_simp; done) | ((repeat rw [cell_al (by first | omega | (simp; omega) | simp)]); first | assumption | (go_simp; done)))
  have hsw2_0 : w.heap.size < w2.heap.size := (by omega)
  have hBw2 : Below w.heap.size w w2 := by
    refine bthen hbw2 ?_ (by first | omega | (simp; omega) | simp)
    repeat (first | exact Below.refl _ _ | (with_reducible assumption) | (refine Below.drew ?_) | (refine Below.setCell ?_ (by first | omega | (simp; omega) | simp) _) | (refine Below.alloc ?_ (by first | omega | (simp; omega) | simp) _) | (refine bthen (by assumption) ?_ (by first | omega | (simp; omega) | simp)))
  have hvw2 := hBw2.size
  clear kw1_0_0 kw1_0_1 kw1_0_2 kw1_0_3 kw1_0_4 hsw1_0 hBw1 hvw1 hzw1
  clear hbw2
  go_wp2_with fail
  refine (get_is _ (.tuple #[.agg #[.int .i64 0, .int .i64 0, .int .i64 0, .int .i64 0, .int .i64 0], .int .i64 1600]) _ (by kernel_rfl)).mono ?_; rintro e w3 ⟨rfl, hbw3⟩
  have hzw3 := hbw3.size; (try simp at hzw3)
  have kw3_0_0 : w3.cell? ⟨w.heap.size, 0, none⟩ = some (.int .i64 1) := (hbw3.cell (p := ⟨w.heap.size, 0, none⟩) (by first | omega | (simp; omega) | simp)).trans (by first | (go_simp; done) | ((repeat rw [cell_al (by first | omega | (simp; omega) | simp)]); first | assumption | (go_simp; done)))
  have kw3_0_1 : w3.cell? ⟨w.heap.size, 1, none⟩ = some (.int .i64 255) := (hbw3.cell (p := ⟨w.heap.size, 1, none⟩) (by first | omega | (simp; omega) | simp)).trans (by first | (go_simp; done) | ((repeat rw [cell_al (by first | omega | (simp; omega) | simp)]); first | assumption | (go_simp; done)))
  have kw3_0_2 : w3.cell? ⟨w.heap.size, 2, none⟩ = some (.int .i64 258) := (hbw3.cell (p := ⟨w.heap.size, 2, none⟩) (by first | omega | (simp; omega) | simp)).trans (by first | (go_simp; done) | ((repeat rw [cell_al (by first | omega | (simp; omega) | simp)]); first | assumption | (go_simp; done)))
  have kw3_0_3 : w3.cell? ⟨w.heap.size, 3, none⟩ = some (.int .i64 772) := (hbw3.cell (p := ⟨w.heap.size, 3, none⟩) (by first | omega | (simp; omega) | simp)).trans (by first | (go_simp; done) | ((repeat rw [cell_al (by first | omega | (simp; omega) | simp)]); first | assumption | (go_simp; done)))
  have kw3_0_4 : w3.cell? ⟨w.heap.size, 4, none⟩ = some (.int .i64 2) := (hbw3.cell (p := ⟨w.heap.size, 4, none⟩) (by first | omega | (simp; omega) | simp)).trans (by first | (go_simp; done) | ((repeat rw [cell_al (by first | omega | (simp; omega) | simp)]); first | assumption | (go_simp; done)))
  have hsw3_0 : w.heap.size < w3.heap.size := (by omega)
  have kw3_1_0 : w3.cell? ⟨w2.heap.size, 0, none⟩ = some (.int .i64 1) := (hbw3.cell (p := ⟨w2.heap.size, 0, none⟩) (by first | omega | (simp; omega) | simp)).trans (by first | (go_simp; done) | ((repeat rw [cell_al (by first | omega | (simp; omega) | simp)]); first | assumption | (go_simp; done)))
  have kw3_1_1 : w3.cell? ⟨w2.heap.size, 1, none⟩ = some (.int .i64 255) := (hbw3.cell (p := ⟨w2.heap.size, 1, none⟩) (by first | omega | (simp; omega) | simp)).trans (by first | (go_simp; done) | ((repeat rw [cell_al (by first | omega | (simp; omega) | simp)]); first | assumption | (go_simp; done)))
  have kw3_1_2 : w3.cell? ⟨w2.heap.size, 2, none⟩ = some (.int .i64 258) := (hbw3.cell (p := ⟨w2.heap.size, 2, none⟩) (by first | omega | (simp; omega) | simp)).trans (by first | (go_simp; done) | ((repeat rw [cell_al (by first | omega | (simp; omega) | simp)]); first | assumption | (go_simp; done)))
  have kw3_1_3 : w3.cell? ⟨w2.heap.size, 3, none⟩ = some (.int .i64 772) := (hbw3.cell (p := ⟨w2.heap.size, 3, none⟩) (by first | omega | (simp; omega) | simp)).trans (by first | (go_simp; done) | ((repeat rw [cell_al (by first | omega | (simp; omega) | simp)]); first | assumption | (go_simp; done)))
  have kw3_1_4 : w3.cell? ⟨w2.heap.size, 4, none⟩ = some (.int .i64 2) := (hbw3.cell (p := ⟨w2.heap.size, 4, none⟩) (by first | omega | (simp; omega) | simp)).trans (by first | (go_simp; done) | ((repeat rw [cell_al (by first | omega | (simp; omega) | simp)]); first | assumption | (go_simp; done)))
  have hsw3_1 : w2.heap.size < w3.heap.size := (by omega)
  have hBw3 : Below w.heap.size w w3 := by
    refine bthen hbw3 ?_ (by first | omega | (simp; omega) | simp)
    repeat (first | exact Below.refl _ _ | (with_reducible assumption) | (refine Below.drew ?_) | (refine Below.setCell ?_ (by first | omega | (simp; omega) | simp) _) | (refine Below.alloc ?_ (by first | omega | (simp; omega) | simp) _) | (refine bthen (by assumption) ?_ (by first | omega | (simp; omega) | simp)))
  have hvw3 := hBw3.size
  clear kw2_0_0 kw2_0_1 kw2_0_2 kw2_0_3 kw2_0_4 hsw2_0 hBw2 hvw2 hzw2
  clear hbw3
  go_wp2_with fail
  refine (put_is _ _ _ _ _ ⟨#[]⟩ 1600 _ (by kernel_rfl) (by kernel_rfl)).mono ?_; rintro e w4 ⟨rfl, hbw4⟩
  have hzw4 := hbw4.size; (try simp at hzw4)
  have kw4_0_0 : w4.cell? ⟨w.heap.size, 0, none⟩ = some (.int .i64 1) := (hbw4.cell (p := ⟨w.heap.size, 0, none⟩) (by first | omega | (simp; omega) | simp)).trans (by first | (go_simp; done) | ((repeat rw [cell_al (by first | omega | (simp; omega) | simp)]); first | assumption | (go_simp; done)))
  have kw4_0_1 : w4.cell? ⟨w.heap.size, 1, none⟩ = some (.int .i64 255) := (hbw4.cell (p := ⟨w.heap.size, 1, none⟩) (by first | omega | (simp; omega) | simp)).trans (by first | (go_simp; done) | ((repeat rw [cell_al (by first | omega | (simp; omega) | simp)]); first | assumption | (go_simp; done)))
  have kw4_0_2 : w4.cell? ⟨w.heap.size, 2, none⟩ = some (.int .i64 258) := (hbw4.cell (p := ⟨w.heap.size, 2, none⟩) (by first | omega | (simp; omega) | simp)).trans (by first | (go_simp; done) | ((repeat rw [cell_al (by first | omega | (simp; omega) | simp)]); first | assumption | (go_simp; done)))
  have kw4_0_3 : w4.cell? ⟨w.heap.size, 3, none⟩ = some (.int .i64 772) := (hbw4.cell (p := ⟨w.heap.size, 3, none⟩) (by first | omega | (simp; omega) | simp)).trans (by first | (go_simp; done) | ((repeat rw [cell_al (by first | omega | (simp; omega) | simp)]); first | assumption | (go_simp; done)))
  have kw4_0_4 : w4.cell? ⟨w.heap.size, 4, none⟩ = some (.int .i64 2) := (hbw4.cell (p := ⟨w.heap.size, 4, none⟩) (by first | omega | (simp; omega) | simp)).trans (by first | (go_simp; done) | ((repeat rw [cell_al (by first | omega | (simp; omega) | simp)]); first | assumption | (go_simp; done)))
  have hsw4_0 : w.heap.size < w4.heap.size := (by omega)
  have kw4_1_0 : w4.cell? ⟨w2.heap.size, 0, none⟩ = some (.int .i64 1) := (hbw4.cell (p := ⟨w2.heap.size, 0, none⟩) (by first | omega | (simp; omega) | simp)).trans (by first | (go_simp; done) | ((repeat rw [cell_al (by first | omega | (simp; omega) | simp)]); first | assumption | (go_simp; done)))
  have kw4_1_1 : w4.cell? ⟨w2.heap.size, 1, none⟩ = some (.int .i64 255) := (hbw4.cell (p := ⟨w2.heap.size, 1, none⟩) (by first | omega | (simp; omega) | simp)).trans (by first | (go_simp; done) | ((repeat rw [cell_al (by first | omega | (simp; omega) | simp)]); first | assumption | (go_simp; done)))
  have kw4_1_2 : w4.cell? ⟨w2.heap.size, 2, none⟩ = some (.int .i64 258) := (hbw4.cell (p := ⟨w2.heap.size, 2, none⟩) (by first | omega | (simp; omega) | simp)).trans (by first | (go_simp; done) | ((repeat rw [cell_al (by first | omega | (simp; omega) | simp)]); first | assumption | (go_simp; done)))
  have kw4_1_3 : w4.cell? ⟨w2.heap.size, 3, none⟩ = some (.int .i64 772) := (hbw4.cell (p := ⟨w2.heap.size, 3, none⟩) (by first | omega | (simp; omega) | simp)).trans (by first | (go_simp; done) | ((repeat rw [cell_al (by first | omega | (simp; omega) | simp)]); first | assumption | (go_simp; done)))
  have kw4_1_4 : w4.cell? ⟨w2.heap.size, 4, none⟩ = some (.int .i64 2) := (hbw4.cell (p := ⟨w2.heap.size, 4, none⟩) (by first | omega | (simp; omega) | simp)).trans (by first | (go_simp; done) | ((repeat rw [cell_al (by first | omega | (simp; omega) | simp)]); first | assumption | (go_simp; done)))
  have hsw4_1 : w2.heap.size < w4.heap.size := (by omega)
  have hBw4 : Below w.heap.size w w4 := by
    refine bthen hbw4 ?_ (by first | omega | (simp; omega) | simp)
    repeat (first | exact Below.refl _ _ | (with_reducible assumption) | (refine Below.drew ?_) | (refine Below.setCell ?_ (by first | omega | (simp; omega) | simp) _) | (refine Below.alloc ?_ (by first | omega | (simp; omega) | simp) _) | (refine bthen (by assumption) ?_ (by first | omega | (simp; omega) | simp)))
  have hvw4 := hBw4.size
  clear kw3_0_0 kw3_0_1 kw3_0_2 kw3_0_3 kw3_0_4 hsw3_0 kw3_1_0 kw3_1_1 kw3_1_2 kw3_1_3 kw3_1_4 hsw3_1 hBw3 hvw3 hzw3
  clear hbw4
  go_wp2_with fail
  refine name_calls fun W hW => ?_
  have kW_0_0 : W.cell? ⟨w.heap.size, 0, none⟩ = some (.int .i64 1) := by rw [hW]; exact (by first | (go_simp; done) | ((repeat rw [cell_al (by first | omega | (simp; omega) | simp)]); first | assumption | (go_simp; done)))
  have kW_0_1 : W.cell? ⟨w.heap.size, 1, none⟩ = some (.int .i64 255) := by rw [hW]; exact (by first | (go_simp; done) | ((repeat rw [cell_al (by first | omega | (simp; omega) | simp)]); first | assumption | (go_simp; done)))
  have kW_0_2 : W.cell? ⟨w.heap.size, 2, none⟩ = some (.int .i64 258) := by rw [hW]; exact (by first | (go_simp; done) | ((repeat rw [cell_al (by first | omega | (simp; omega) | simp)]); first | assumption | (go_simp; done)))
  have kW_0_3 : W.cell? ⟨w.heap.size, 3, none⟩ = some (.int .i64 772) := by rw [hW]; exact (by first | (go_simp; done) | ((repeat rw [cell_al (by first | omega | (simp; omega) | simp)]); first | assumption | (go_simp; done)))
  have kW_0_4 : W.cell? ⟨w.heap.size, 4, none⟩ = some (.int .i64 2) := by rw [hW]; exact (by first | (go_simp; done) | ((repeat rw [cell_al (by first | omega | (simp; omega) | simp)]); first | assumption | (go_simp; done)))
  have zW_0 : w.heap.size < W.heap.size := by rw [hW]; first | omega | (simp; omega) | simp
  have kW_1_0 : W.cell? ⟨w2.heap.size, 0, none⟩ = some (.int .i64 1) := by rw [hW]; exact (by first | (go_simp; done) | ((repeat rw [cell_al (by first | omega | (simp; omega) | simp)]); first | assumption | (go_simp; done)))
  have kW_1_1 : W.cell? ⟨w2.heap.size, 1, none⟩ = some (.int .i64 255) := by rw [hW]; exact (by first | (go_simp; done) | ((repeat rw [cell_al (by first | omega | (simp; omega) | simp)]); first | assumption | (go_simp; done)))
  have kW_1_2 : W.cell? ⟨w2.heap.size, 2, none⟩ = some (.int .i64 258) := by rw [hW]; exact (by first | (go_simp; done) | ((repeat rw [cell_al (by first | omega | (simp; omega) | simp)]); first | assumption | (go_simp; done)))
  have kW_1_3 : W.cell? ⟨w2.heap.size, 3, none⟩ = some (.int .i64 772) := by rw [hW]; exact (by first | (go_simp; done) | ((repeat rw [cell_al (by first | omega | (simp; omega) | simp)]); first | assumption | (go_simp; done)))
  have kW_1_4 : W.cell? ⟨w2.heap.size, 4, none⟩ = some (.int .i64 2) := by rw [hW]; exact (by first | (go_simp; done) | ((repeat rw [cell_al (by first | omega | (simp; omega) | simp)]); first | assumption | (go_simp; done)))
  have zW_1 : w2.heap.size < W.heap.size := by rw [hW]; first | omega | (simp; omega) | simp
  have hBW : Below w.heap.size w W := by
    rw [hW]
    repeat (first | exact Below.refl _ _ | assumption | (refine Below.drew ?_) | (refine Below.setCell ?_ (by first | omega | (simp; omega) | simp) _) | (refine Below.alloc ?_ (by first | omega | (simp; omega) | simp) _) | (refine bthen (by assumption) ?_ (by first | omega | (simp; omega) | simp)))
  clear hW kw4_0_0 kw4_0_1 kw4_0_2 kw4_0_3 kw4_0_4 hsw4_0 kw4_1_0 kw4_1_1 kw4_1_2 kw4_1_3 kw4_1_4 hsw4_1 hBw4 hvw4
  have hvW := hBW.size
  have HS := SW.start W; have hB3 := Below.refl W.heap.size W; have hc := True.intro
  go_wp2_with (first
    | (go_at_call 11; (with_reducible refine (num_any _ _).mono ?_); rintro e w3 ⟨rfl, rfl⟩)
    | (go_at_call 12; (with_reducible refine (mayD_is 1 _ _ _ _ true _ (by kernel_rfl)).mono ?_); rintro e w3 ⟨rfl, hb⟩; have hS' := HS.keep hb; clear hb HS hc hB3; have HS := hS'; clear hS'; have hc := HS.cells; have hB3 := HS.below)
    | (go_at_call 12; (with_reducible refine (mayD_is 4 _ _ _ _ false _ (by kernel_rfl)).mono ?_); rintro e w3 ⟨rfl, hb⟩; have hS' := HS.keep hb; clear hb HS hc hB3; have HS := hS'; clear hS'; have hc := HS.cells; have hB3 := HS.below))
  try go_wp2
  go_returns
  exact ⟨rfl, bthen hB3 hBW hBW.size⟩
end Go.Proofs.Ytefcppldkepmhaa

