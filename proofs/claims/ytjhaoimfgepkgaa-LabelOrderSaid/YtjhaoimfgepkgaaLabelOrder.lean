/- The walk of caissonlaw9.LabelOrder: for every three labels it answers true. No condition. -/
import Derived.Test.YtjhaoimfgepkgaaLattice
import Derived.Test.YtjhaoimfgepkgaaNum
import Derived.Test.YtjhaoimfgepkgaaBits
import Derived.Test.YtjhaoimfgepkgaaAwakeNine
import Derived.Test.YtjhaoimfgepkgaaSets
namespace Go.Proofs.Ytjhaoimfgepkgaa.labelOrder
open Go.RowKit
set_option linter.unusedVariables false
set_option linter.unusedSimpArgs false

theorem f1 : ∀ a b c : Fin 16, (bits .andNot .i64 (b.val : Int) (a.val : Int) == 0) = true → (bits .andNot .i64 (c.val : Int) (b.val : Int) == 0) = true → (bits .andNot .i64 (c.val : Int) (a.val : Int) == 0) = true := by decide +kernel
theorem f2 : ∀ a b : Fin 16, (bits .andNot .i64 (b.val : Int) (a.val : Int) == 0) = true → (bits .andNot .i64 (a.val : Int) (b.val : Int) == 0) = true → a = b := by decide +kernel
theorem f3 : ∀ a b : Fin 16, 0 ≤ bits .or .i64 (a.val : Int) (b.val : Int) ∧ bits .or .i64 (a.val : Int) (b.val : Int) ≤ 15 ∧ bits .or .i64 (a.val : Int) (b.val : Int) = bits .or .i64 (b.val : Int) (a.val : Int) ∧ bits .andNot .i64 (a.val : Int) (bits .or .i64 (a.val : Int) (b.val : Int)) = 0 ∧ bits .andNot .i64 (b.val : Int) (bits .or .i64 (a.val : Int) (b.val : Int)) = 0 ∧ bits .andNot .i64 (a.val : Int) (a.val : Int) = 0 ∧ ((bits .andNot .i64 (b.val : Int) (a.val : Int) == 0) = (bits .or .i64 (a.val : Int) (b.val : Int) == a.val)) := by decide +kernel
theorem f4 : ∀ z a b : Fin 16, ((bits .andNot .i64 (a.val : Int) (z.val : Int) == 0) && (bits .andNot .i64 (b.val : Int) (z.val : Int) == 0)) = (bits .andNot .i64 (bits .or .i64 (a.val : Int) (b.val : Int)) (z.val : Int) == 0) := by decide +kernel

theorem may_of {l c : Int} (h : 0 ≤ l ∧ l ≤ 3 ∧ 0 ≤ c ∧ c ≤ 15) : mayB l c = true := by simp [mayB, h]

/-- What is asked of the numbers: dominance is an order, the join the least above both. -/
theorem plain (p1 p2 p3 : Int) (q1 q2 q3 : Fin 16) (a1 : 0 ≤ p1 ∧ p1 ≤ 3) (a2 : 0 ≤ p2 ∧ p2 ≤ 3) (a3 : 0 ≤ p3 ∧ p3 ≤ 3) :
    ∃ P Q : Int, joinV p1 q1.val p2 q2.val = .tuple #[.agg #[.int .i64 P, .int .i64 Q], .int .i64 0] ∧ joinV p2 q2.val p1 q1.val = .tuple #[.agg #[.int .i64 P, .int .i64 Q], .int .i64 0] ∧
      domB P Q p1 q1.val = true ∧ domB P Q p2 q2.val = true ∧ domB p1 q1.val p1 q1.val = true ∧
      (domB p1 q1.val p2 q2.val = true → domB p2 q2.val p3 q3.val = true → domB p1 q1.val p3 q3.val = true) ∧
      (domB p1 q1.val p2 q2.val = true → domB p2 q2.val p1 q1.val = true → p2 = p1 ∧ q2 = q1) ∧
      (domB p3 q3.val p1 q1.val && domB p3 q3.val p2 q2.val) = domB p3 q3.val P Q ∧
      domB p1 q1.val p2 q2.val = (P == p1 && (Q == (q1.val : Int))) := by
  have b1 := q1.isLt; have b2 := q2.isLt; have b3 := q3.isLt
  obtain ⟨g1, g2, g3, g4, g5, g6, g7⟩ := f3 q1 q2
  have m1 : mayB p1 q1.val = true := may_of ⟨a1.1, a1.2, by omega, by omega⟩
  have m2 : mayB p2 q2.val = true := may_of ⟨a2.1, a2.2, by omega, by omega⟩
  have m3 : mayB p3 q3.val = true := may_of ⟨a3.1, a3.2, by omega, by omega⟩
  have mx : max p1 p2 = max p2 p1 := Int.max_comm _ _
  have m4 : mayB (max p1 p2) (bits .or .i64 q1.val q2.val) = true := may_of ⟨by omega, by omega, g1, g2⟩
  have h1 := f1 q1 q2 q3
  have h2 := f2 q1 q2
  have h4 := f4 q3 q1 q2
  refine ⟨max p1 p2, bits .or .i64 q1.val q2.val, by simp [joinV, m1, m2], by simp [joinV, m1, m2, mx, g3], ?_, ?_, ?_, ?_, ?_, ?_, ?_⟩
  · simp [domB, m1, m4, g4]; omega
  · simp [domB, m2, m4, g5]; omega
  · simp [domB, m1, g6]
  · simp only [domB, m1, m2, m3, Bool.true_and, Bool.and_eq_true, decide_eq_true_eq]
    exact fun ⟨x, y⟩ ⟨z, t⟩ => ⟨by omega, h1 y t⟩
  · simp only [domB, m1, m2, Bool.true_and, Bool.and_eq_true, decide_eq_true_eq]
    exact fun ⟨x, y⟩ ⟨z, t⟩ => ⟨by omega, (h2 y t).symm⟩
  · simp only [domB, m1, m2, m3, m4, Bool.true_and, ← h4]
    by_cases e1 : p1 ≤ p3 <;> by_cases e2 : p2 ≤ p3 <;> simp [e1, e2] <;> omega
  · simp only [domB, m1, m2, Bool.true_and, g7]
    by_cases e1 : p2 ≤ p1
    · have : max p1 p2 = p1 := by omega
      simp [e1, this]
    · have : ¬ max p1 p2 = p1 := by omega
      simp [e1, this]

theorem and_mask3 (l : Int) : ∃ x, bits .and .i64 l 3 = x ∧ 0 ≤ x ∧ x ≤ 3 := ⟨l % 4, mask3 l, by omega, by omega⟩
theorem and_mask15 (l : Int) : ∃ x : Fin 16, bits .and .i64 l 15 = (x.val : Int) := ⟨⟨(l % 16).toNat, by omega⟩, by rw [mask15]; simp only; omega⟩

theorem dom_is (l c m d : Int) (r : Bool) (w : World) (h : domB l c m d = r) :
    Calls Try.prog 10 #[.agg #[.int .i64 l, .int .i64 c], .agg #[.int .i64 m, .int .i64 d]] w fun e w' => e = .returned (.bool r) ∧ Below w.heap.size w w' := h ▸ dom_any l c m d w
set_option maxHeartbeats 4000000 in
theorem walk1 (l1 c1 l2 c2 l3 c3 p1 q1 p2 q2 p3 q3 P Q : Int) (w : World) (b1 : bits .and .i64 l1 3 = p1) (b2 : bits .and .i64 c1 15 = q1) (b3 : bits .and .i64 l2 3 = p2) (b4 : bits .and .i64 c2 15 = q2) (b5 : bits .and .i64 l3 3 = p3) (b6 : bits .and .i64 c3 15 = q3)
    (hj : joinV p1 q1 p2 q2 = .tuple #[.agg #[.int .i64 P, .int .i64 Q], .int .i64 0]) (hk : joinV p2 q2 p1 q1 = .tuple #[.agg #[.int .i64 P, .int .i64 Q], .int .i64 0])
    (d1 : domB P Q p1 q1 = true) (d2 : domB P Q p2 q2 = true) (d3 : domB p1 q1 p1 q1 = true) (A B D E G : Bool)
    (hA : domB p1 q1 p2 q2 = A) (hB : domB p2 q2 p3 q3 = B) (hC : (domB p1 q1 p2 q2 && (domB p2 q2 p3 q3 && !domB p1 q1 p3 q3)) = false) (hD : domB p2 q2 p1 q1 = D) (hE : domB p3 q3 p1 q1 = E) (hG : (E && domB p3 q3 p2 q2) = domB p3 q3 P Q)
    (hx : (A && (D && !(p1 == p2 && (q1 == q2)))) = false) (hy : A = (P == p1 && (Q == q1))) :
    Calls Try.prog 4 #[.agg #[.int .i64 l1, .int .i64 c1], .agg #[.int .i64 l2, .int .i64 c2], .agg #[.int .i64 l3, .int .i64 c3]] w fun e w' => e = .returned (.bool true) ∧ Below w.heap.size w w' := by
  have hhC := Lib.hid hC; have hhx := Lib.hid hx; have hhG := Lib.hid hG; have hhy := Lib.hid hy
  clear hC hx hG hy
  go_enter Try.func4, Try.ntmps4
  go_wp2_with fail
  refine (awake_any _).mono ?_; rintro e w1 ⟨rfl, hbw1⟩
  have hzw1 := hbw1.size; (try simp at hzw1)
  have kw1_0_0 : w1.cell? ⟨w.heap.size, 0, none⟩ = some (.int .i64 l1) := (hbw1.cell (p := ⟨w.heap.size, 0, none⟩) (by first | omega | (simp; omega) | simp)).trans (by first | (go_simp; done) | ((repeat rw [cell_al (by first | omega | (simp; omega) | simp)]); first | assumption | (go_simp; done)))
  have kw1_0_1 : w1.cell? ⟨w.heap.size, 1, none⟩ = some (.int .i64 c1) := (hbw1.cell (p := ⟨w.heap.size, 1, none⟩) (by first | omega | (simp; omega) | simp)).trans (by first | (go_simp; done) | ((repeat rw [cell_al (by first | omega | (simp; omega) | simp)]); first | assumption | (go_simp; done)))
  have hsw1_0 : w.heap.size < w1.heap.size := (by omega)
  have kw1_1_0 : w1.cell? ⟨w.heap.size + 1, 0, none⟩ = some (.int .i64 l2) := (hbw1.cell (p := ⟨w.heap.size + 1, 0, none⟩) (by first | omega | (simp; omega) | simp)).trans (by first | (go_simp; done) | ((repeat rw [cell_al (by first | omega | (simp; omega) | simp)]); first | assumption | (go_simp; done)))
  have kw1_1_1 : w1.cell? ⟨w.heap.size + 1, 1, none⟩ = some (.int .i64 c2) := (hbw1.cell (p := ⟨w.heap.size + 1, 1, none⟩) (by first | omega | (simp; omega) | simp)).trans (by first | (go_simp; done) | ((repeat rw [cell_al (by first | omega | (simp; omega) | simp)]); first | assumption | (go_simp; done)))
  have hsw1_1 : w.heap.size + 1 < w1.heap.size := (by omega)
  have kw1_2_0 : w1.cell? ⟨w.heap.size + 1 + 1, 0, none⟩ = some (.int .i64 l3) := (hbw1.cell (p := ⟨w.heap.size + 1 + 1, 0, none⟩) (by first | omega | (simp; omega) | simp)).trans (by first | (go_simp; done) | ((repeat rw [cell_al (by first | omega | (simp; omega) | simp)]); first | assumption | (go_simp; done)))
  have kw1_2_1 : w1.cell? ⟨w.heap.size + 1 + 1, 1, none⟩ = some (.int .i64 c3) := (hbw1.cell (p := ⟨w.heap.size + 1 + 1, 1, none⟩) (by first | omega | (simp; omega) | simp)).trans (by first | (go_simp; done) | ((repeat rw [cell_al (by first | omega | (simp; omega) | simp)]); first | assumption | (go_simp; done)))
  have hsw1_2 : w.heap.size + 1 + 1 < w1.heap.size := (by omega)
  have hBw1 : Below w.heap.size w w1 := by
    refine bthen hbw1 ?_ (by first | omega | (simp; omega) | simp)
    repeat (first | exact Below.refl _ _ | (with_reducible assumption) | (refine Below.drew ?_) | (refine Below.setCell ?_ (by first | omega | (simp; omega) | simp) _) | (refine Below.alloc ?_ (by first | omega | (simp; omega) | simp) _) | (refine bthen (by assumption) ?_ (by first | omega | (simp; omega) | simp)))
  have hvw1 := hBw1.size
  clear hbw1
  go_wp2_with fail
  refine (join_any _ _ _ _ _).mono ?_; rintro e w2 ⟨rfl, hbw2⟩
  have hzw2 := hbw2.size; (try simp at hzw2)
  have kw2_0_0 : w2.cell? ⟨w.heap.size, 0, none⟩ = some (.int .i64 l1) := (hbw2.cell (p := ⟨w.heap.size, 0, none⟩) (by first | omega | (simp; omega) | simp)).trans (by first | (go_simp; done) | ((repeat rw [cell_al (by first | omega | (simp; omega) | simp)]); first | assumption | (go_simp; done)))
  have kw2_0_1 : w2.cell? ⟨w.heap.size, 1, none⟩ = some (.int .i64 c1) := (hbw2.cell (p := ⟨w.heap.size, 1, none⟩) (by first | omega | (simp; omega) | simp)).trans (by first | (go_simp; done) | ((repeat rw [cell_al (by first | omega | (simp; omega) | simp)]); first | assumption | (go_simp; done)))
  have hsw2_0 : w.heap.size < w2.heap.size := (by omega)
  have kw2_1_0 : w2.cell? ⟨w.heap.size + 1, 0, none⟩ = some (.int .i64 l2) := (hbw2.cell (p := ⟨w.heap.size + 1, 0, none⟩) (by first | omega | (simp; omega) | simp)).trans (by first | (go_simp; done) | ((repeat rw [cell_al (by first | omega | (simp; omega) | simp)]); first | assumption | (go_simp; done)))
  have kw2_1_1 : w2.cell? ⟨w.heap.size + 1, 1, none⟩ = some (.int .i64 c2) := (hbw2.cell (p := ⟨w.heap.size + 1, 1, none⟩) (by first | omega | (simp; omega) | simp)).trans (by first | (go_simp; done) | ((repeat rw [cell_al (by first | omega | (simp; omega) | simp)]); first | assumption | (go_simp; done)))
  have hsw2_1 : w.heap.size + 1 < w2.heap.size := (by omega)
  have kw2_2_0 : w2.cell? ⟨w.heap.size + 1 + 1, 0, none⟩ = some (.int .i64 l3) := (hbw2.cell (p := ⟨w.heap.size + 1 + 1, 0, none⟩) (by first | omega | (simp; omega) | simp)).trans (by first | (go_simp; done) | ((repeat rw [cell_al (by first | omega | (simp; omega) | simp)]); first | assumption | (go_simp; done)))
  have kw2_2_1 : w2.cell? ⟨w.heap.size + 1 + 1, 1, none⟩ = some (.int .i64 c3) := (hbw2.cell (p := ⟨w.heap.size + 1 + 1, 1, none⟩) (by first | omega | (simp; omega) | simp)).trans (by first | (go_simp; done) | ((repeat rw [cell_al (by first | omega | (simp; omega) | simp)]); first | assumption | (go_simp; done)))
  have hsw2_2 : w.heap.size + 1 + 1 < w2.heap.size := (by omega)
  have kw2_3_0 : w2.cell? ⟨w1.heap.size, 0, none⟩ = some (.int .i64 p1) := (hbw2.cell (p := ⟨w1.heap.size, 0, none⟩) (by first | omega | (simp; omega) | simp)).trans (by first | (go_simp; done) | ((repeat rw [cell_al (by first | omega | (simp; omega) | simp)]); first | assumption | (go_simp; done)))
  have kw2_3_1 : w2.cell? ⟨w1.heap.size, 1, none⟩ = some (.int .i64 q1) := (hbw2.cell (p := ⟨w1.heap.size, 1, none⟩) (by first | omega | (simp; omega) | simp)).trans (by first | (go_simp; done) | ((repeat rw [cell_al (by first | omega | (simp; omega) | simp)]); first | assumption | (go_simp; done)))
  have hsw2_3 : w1.heap.size < w2.heap.size := (by omega)
  have kw2_4_0 : w2.cell? ⟨w1.heap.size + 1, 0, none⟩ = some (.int .i64 p2) := (hbw2.cell (p := ⟨w1.heap.size + 1, 0, none⟩) (by first | omega | (simp; omega) | simp)).trans (by first | (go_simp; done) | ((repeat rw [cell_al (by first | omega | (simp; omega) | simp)]); first | assumption | (go_simp; done)))
  have kw2_4_1 : w2.cell? ⟨w1.heap.size + 1, 1, none⟩ = some (.int .i64 q2) := (hbw2.cell (p := ⟨w1.heap.size + 1, 1, none⟩) (by first | omega | (simp; omega) | simp)).trans (by first | (go_simp; done) | ((repeat rw [cell_al (by first | omega | (simp; omega) | simp)]); first | assumption | (go_simp; done)))
  have hsw2_4 : w1.heap.size + 1 < w2.heap.size := (by omega)
  have kw2_5_0 : w2.cell? ⟨w1.heap.size + 1 + 1, 0, none⟩ = some (.int .i64 p3) := (hbw2.cell (p := ⟨w1.heap.size + 1 + 1, 0, none⟩) (by first | omega | (simp; omega) | simp)).trans (by first | (go_simp; done) | ((repeat rw [cell_al (by first | omega | (simp; omega) | simp)]); first | assumption | (go_simp; done)))
  have kw2_5_1 : w2.cell? ⟨w1.heap.size + 1 + 1, 1, none⟩ = some (.int .i64 q3) := (hbw2.cell (p := ⟨w1.heap.size + 1 + 1, 1, none⟩) (by first | omega | (simp; omega) | simp)).trans (by first | (go_simp; done) | ((repeat rw [cell_al (by first | omega | (simp; omega) | simp)]); first | assumption | (go_simp; done)))
  have hsw2_5 : w1.heap.size + 1 + 1 < w2.heap.size := (by omega)
  have hBw2 : Below w.heap.size w w2 := by
    refine bthen hbw2 ?_ (by first | omega | (simp; omega) | simp)
    repeat (first | exact Below.refl _ _ | (with_reducible assumption) | (refine Below.drew ?_) | (refine Below.setCell ?_ (by first | omega | (simp; omega) | simp) _) | (refine Below.alloc ?_ (by first | omega | (simp; omega) | simp) _) | (refine bthen (by assumption) ?_ (by first | omega | (simp; omega) | simp)))
  have hvw2 := hBw2.size
  clear kw1_0_0 kw1_0_1 hsw1_0 kw1_1_0 kw1_1_1 hsw1_1 kw1_2_0 kw1_2_1 hsw1_2 hBw1 hzw1
  clear hbw2
  rw [hj]
  go_wp2_with fail
  refine (join_any _ _ _ _ _).mono ?_; rintro e w3 ⟨rfl, hbw3⟩
  have hzw3 := hbw3.size; (try simp at hzw3)
  have kw3_0_0 : w3.cell? ⟨w.heap.size, 0, none⟩ = some (.int .i64 l1) := (hbw3.cell (p := ⟨w.heap.size, 0, none⟩) (by first | omega | (simp; omega) | simp)).trans (by first | (go_simp; done) | ((repeat rw [cell_al (by first | omega | (simp; omega) | simp)]); first | assumption | (go_simp; done)))
  have kw3_0_1 : w3.cell? ⟨w.heap.size, 1, none⟩ = some (.int .i64 c1) := (hbw3.cell (p := ⟨w.heap.size, 1, none⟩) (by first | omega | (simp; omega) | simp)).trans (by first | (go_simp; done) | ((repeat rw [cell_al (by first | omega | (simp; omega) | simp)]); first | assumption | (go_simp; done)))
  have hsw3_0 : w.heap.size < w3.heap.size := (by omega)
  have kw3_1_0 : w3.cell? ⟨w.heap.size + 1, 0, none⟩ = some (.int .i64 l2) := (hbw3.cell (p := ⟨w.heap.size + 1, 0, none⟩) (by first | omega | (simp; omega) | simp)).trans (by first | (go_simp; done) | ((repeat rw [cell_al (by first | omega | (simp; omega) | simp)]); first | assumption | (go_simp; done)))
  have kw3_1_1 : w3.cell? ⟨w.heap.size + 1, 1, none⟩ = some (.int .i64 c2) := (hbw3.cell (p := ⟨w.heap.size + 1, 1, none⟩) (by first | omega | (simp; omega) | simp)).trans (by first | (go_simp; done) | ((repeat rw [cell_al (by first | omega | (simp; omega) | simp)]); first | assumption | (go_simp; done)))
  have hsw3_1 : w.heap.size + 1 < w3.heap.size := (by omega)
  have kw3_2_0 : w3.cell? ⟨w.heap.size + 1 + 1, 0, none⟩ = some (.int .i64 l3) := (hbw3.cell (p := ⟨w.heap.size + 1 + 1, 0, none⟩) (by first | omega | (simp; omega) | simp)).trans (by first | (go_simp; done) | ((repeat rw [cell_al (by first | omega | (simp; omega) | simp)]); first | assumption | (go_simp; done)))
  have kw3_2_1 : w3.cell? ⟨w.heap.size + 1 + 1, 1, none⟩ = some (.int .i64 c3) := (hbw3.cell (p := ⟨w.heap.size + 1 + 1, 1, none⟩) (by first | omega | (simp; omega) | simp)).trans (by first | (go_simp; done) | ((repeat rw [cell_al (by first | omega | (simp; omega) | simp)]); first | assumption | (go_simp; done)))
  have hsw3_2 : w.heap.size + 1 + 1 < w3.heap.size := (by omega)
  have kw3_3_0 : w3.cell? ⟨w1.heap.size, 0, none⟩ = some (.int .i64 p1) := (hbw3.cell (p := ⟨w1.heap.size, 0, none⟩) (by first | omega | (simp; omega) | simp)).trans (by first | (go_simp; done) | ((repeat rw [cell_al (by first | omega | (simp; omega) | simp)]); first | assumption | (go_simp; done)))
  have kw3_3_1 : w3.cell? ⟨w1.heap.size, 1, none⟩ = some (.int .i64 q1) := (hbw3.cell (p := ⟨w1.heap.size, 1, none⟩) (by first | omega | (simp; omega) | simp)).trans (by first | (go_simp; done) | ((repeat rw [cell_al (by first | omega | (simp; omega) | simp)]); first | assumption | (go_simp; done)))
  have hsw3_3 : w1.heap.size < w3.heap.size := (by omega)
  have kw3_4_0 : w3.cell? ⟨w1.heap.size + 1, 0, none⟩ = some (.int .i64 p2) := (hbw3.cell (p := ⟨w1.heap.size + 1, 0, none⟩) (by first | omega | (simp; omega) | simp)).trans (by first | (go_simp; done) | ((repeat rw [cell_al (by first | omega | (simp; omega) | simp)]); first | assumption | (go_simp; done)))
  have kw3_4_1 : w3.cell? ⟨w1.heap.size + 1, 1, none⟩ = some (.int .i64 q2) := (hbw3.cell (p := ⟨w1.heap.size + 1, 1, none⟩) (by first | omega | (simp; omega) | simp)).trans (by first | (go_simp; done) | ((repeat rw [cell_al (by first | omega | (simp; omega) | simp)]); first | assumption | (go_simp; done)))
  have hsw3_4 : w1.heap.size + 1 < w3.heap.size := (by omega)
  have kw3_5_0 : w3.cell? ⟨w1.heap.size + 1 + 1, 0, none⟩ = some (.int .i64 p3) := (hbw3.cell (p := ⟨w1.heap.size + 1 + 1, 0, none⟩) (by first | omega | (simp; omega) | simp)).trans (by first | (go_simp; done) | ((repeat rw [cell_al (by first | omega | (simp; omega) | simp)]); first | assumption | (go_simp; done)))
  have kw3_5_1 : w3.cell? ⟨w1.heap.size + 1 + 1, 1, none⟩ = some (.int .i64 q3) := (hbw3.cell (p := ⟨w1.heap.size + 1 + 1, 1, none⟩) (by first | omega | (simp; omega) | simp)).trans (by first | (go_simp; done) | ((repeat rw [cell_al (by first | omega | (simp; omega) | simp)]); first | assumption | (go_simp; done)))
  have hsw3_5 : w1.heap.size + 1 + 1 < w3.heap.size := (by omega)
  have kw3_6_0 : w3.cell? ⟨w2.heap.size, 0, none⟩ = some (.int .i64 P) := (hbw3.cell (p := ⟨w2.heap.size, 0, none⟩) (by first | omega | (simp; omega) | simp)).trans (by first | (go_simp; done) | ((repeat rw [cell_al (by first | omega | (simp; omega) | simp)]); first | assumption | (go_simp; done)))
  have kw3_6_1 : w3.cell? ⟨w2.heap.size, 1, none⟩ = some (.int .i64 Q) := (hbw3.cell (p := ⟨w2.heap.size, 1, none⟩) (by first | omega | (simp; omega) | simp)).trans (by first | (go_simp; done) | ((repeat rw [cell_al (by first | omega | (simp; omega) | simp)]); first | assumption | (go_simp; done)))
  have hsw3_6 : w2.heap.size < w3.heap.size := (by omega)
  have hBw3 : Below w.heap.size w w3 := by
    refine bthen hbw3 ?_ (by first | omega | (simp; omega) | simp)
    repeat (first | exact Below.refl _ _ | (with_reducible assumption) | (refine Below.drew ?_) | (refine Below.setCell ?_ (by first | omega | (simp; omega) | simp) _) | (refine Below.alloc ?_ (by first | omega | (simp; omega) | simp) _) | (refine bthen (by assumption) ?_ (by first | omega | (simp; omega) | simp)))
  have hvw3 := hBw3.size
  clear kw2_0_0 kw2_0_1 hsw2_0 kw2_1_0 kw2_1_1 hsw2_1 kw2_2_0 kw2_2_1 hsw2_2 kw2_3_0 kw2_3_1 hsw2_3 kw2_4_0 kw2_4_1 hsw2_4 kw2_5_0 kw2_5_1 hsw2_5 hBw2 hzw2
  clear hbw3
  rw [hk]
  go_wp2_with fail
  refine name_calls fun W hW => ?_
  have kW_0_0 : W.cell? ⟨w.heap.size, 0, none⟩ = some (.int .i64 l1) := by rw [hW]; exact (by first | (go_simp; done) | ((repeat rw [cell_al (by first | omega | (simp; omega) | simp)]); first | assumption | (go_simp; done)))
  have kW_0_1 : W.cell? ⟨w.heap.size, 1, none⟩ = some (.int .i64 c1) := by rw [hW]; exact (by first | (go_simp; done) | ((repeat rw [cell_al (by first | omega | (simp; omega) | simp)]); first | assumption | (go_simp; done)))
  have zW_0 : w.heap.size < W.heap.size := by rw [hW]; first | omega | (simp; omega) | simp
  have kW_1_0 : W.cell? ⟨w.heap.size + 1, 0, none⟩ = some (.int .i64 l2) := by rw [hW]; exact (by first | (go_simp; done) | ((repeat rw [cell_al (by first | omega | (simp; omega) | simp)]); first | assumption | (go_simp; done)))
  have kW_1_1 : W.cell? ⟨w.heap.size + 1, 1, none⟩ = some (.int .i64 c2) := by rw [hW]; exact (by first | (go_simp; done) | ((repeat rw [cell_al (by first | omega | (simp; omega) | simp)]); first | assumption | (go_simp; done)))
  have zW_1 : w.heap.size + 1 < W.heap.size := by rw [hW]; first | omega | (simp; omega) | simp
  have kW_2_0 : W.cell? ⟨w.heap.size + 1 + 1, 0, none⟩ = some (.int .i64 l3) := by rw [hW]; exact (by first | (go_simp; done) | ((repeat rw [cell_al (by first | omega | (simp; omega) | simp)]); first | assumption | (go_simp; done)))
  have kW_2_1 : W.cell? ⟨w.heap.size + 1 + 1, 1, none⟩ = some (.int .i64 c3) := by rw [hW]; exact (by first | (go_simp; done) | ((repeat rw [cell_al (by first | omega | (simp; omega) | simp)]); first | assumption | (go_simp; done)))
  have zW_2 : w.heap.size + 1 + 1 < W.heap.size := by rw [hW]; first | omega | (simp; omega) | simp
  have kW_3_0 : W.cell? ⟨w1.heap.size, 0, none⟩ = some (.int .i64 p1) := by rw [hW]; exact (by first | (go_simp; done) | ((repeat rw [cell_al (by first | omega | (simp; omega) | simp)]); first | assumption | (go_simp; done)))
  have kW_3_1 : W.cell? ⟨w1.heap.size, 1, none⟩ = some (.int .i64 q1) := by rw [hW]; exact (by first | (go_simp; done) | ((repeat rw [cell_al (by first | omega | (simp; omega) | simp)]); first | assumption | (go_simp; done)))
  have zW_3 : w1.heap.size < W.heap.size := by rw [hW]; first | omega | (simp; omega) | simp
  have kW_4_0 : W.cell? ⟨w1.heap.size + 1, 0, none⟩ = some (.int .i64 p2) := by rw [hW]; exact (by first | (go_simp; done) | ((repeat rw [cell_al (by first | omega | (simp; omega) | simp)]); first | assumption | (go_simp; done)))
  have kW_4_1 : W.cell? ⟨w1.heap.size + 1, 1, none⟩ = some (.int .i64 q2) := by rw [hW]; exact (by first | (go_simp; done) | ((repeat rw [cell_al (by first | omega | (simp; omega) | simp)]); first | assumption | (go_simp; done)))
  have zW_4 : w1.heap.size + 1 < W.heap.size := by rw [hW]; first | omega | (simp; omega) | simp
  have kW_5_0 : W.cell? ⟨w1.heap.size + 1 + 1, 0, none⟩ = some (.int .i64 p3) := by rw [hW]; exact (by first | (go_simp; done) | ((repeat rw [cell_al (by first | omega | (simp; omega) | simp)]); first | assumption | (go_simp; done)))
  have kW_5_1 : W.cell? ⟨w1.heap.size + 1 + 1, 1, none⟩ = some (.int .i64 q3) := by rw [hW]; exact (by first | (go_simp; done) | ((repeat rw [cell_al (by first | omega | (simp; omega) | simp)]); first | assumption | (go_simp; done)))
  have zW_5 : w1.heap.size + 1 + 1 < W.heap.size := by rw [hW]; first | omega | (simp; omega) | simp
  have kW_6_0 : W.cell? ⟨w2.heap.size, 0, none⟩ = some (.int .i64 P) := by rw [hW]; exact (by first | (go_simp; done) | ((repeat rw [cell_al (by first | omega | (simp; omega) | simp)]); first | assumption | (go_simp; done)))
  have kW_6_1 : W.cell? ⟨w2.heap.size, 1, none⟩ = some (.int .i64 Q) := by rw [hW]; exact (by first | (go_simp; done) | ((repeat rw [cell_al (by first | omega | (simp; omega) | simp)]); first | assumption | (go_simp; done)))
  have zW_6 : w2.heap.size < W.heap.size := by rw [hW]; first | omega | (simp; omega) | simp
  have kW_7_0 : W.cell? ⟨w3.heap.size, 0, none⟩ = some (.int .i64 P) := by rw [hW]; exact (by first | (go_simp; done) | ((repeat rw [cell_al (by first | omega | (simp; omega) | simp)]); first | assumption | (go_simp; done)))
  have kW_7_1 : W.cell? ⟨w3.heap.size, 1, none⟩ = some (.int .i64 Q) := by rw [hW]; exact (by first | (go_simp; done) | ((repeat rw [cell_al (by first | omega | (simp; omega) | simp)]); first | assumption | (go_simp; done)))
  have zW_7 : w3.heap.size < W.heap.size := by rw [hW]; first | omega | (simp; omega) | simp
  have hBW : Below w.heap.size w W := by
    rw [hW]
    repeat (first | exact Below.refl _ _ | assumption | (refine Below.drew ?_) | (refine Below.setCell ?_ (by first | omega | (simp; omega) | simp) _) | (refine Below.alloc ?_ (by first | omega | (simp; omega) | simp) _) | (refine bthen (by assumption) ?_ (by first | omega | (simp; omega) | simp)))
  clear hW kw3_0_0 kw3_0_1 hsw3_0 kw3_1_0 kw3_1_1 hsw3_1 kw3_2_0 kw3_2_1 hsw3_2 kw3_3_0 kw3_3_1 hsw3_3 kw3_4_0 kw3_4_1 hsw3_4 kw3_5_0 kw3_5_1 hsw3_5 kw3_6_0 kw3_6_1 hsw3_6 hBw3
  have hvW := hBW.size
  have HS := SW.start W; have hB3 := Below.refl W.heap.size W; have hc := True.intro
  clear b1 b2 b3 b4 b5 b6 hj hk
  cases A with
  | true =>
    cases D with
    | true =>
      have hx := hhx.out
      simp at hx
      obtain ⟨rfl, rfl⟩ := hx
      have hy := hhy.out
      simp at hy
      obtain ⟨rfl, rfl⟩ := hy
      have hG := hhG.out
      clear hhx hhy hhG
      cases B with
      | true =>
        have hC := hhC.out
        simp [hA, hB] at hC
        clear hhC
        cases E with
        | true =>
          clear hG
          go_wp2_with (first
            | (go_at_call 9; (with_reducible refine (num_any _ _).mono ?_); rintro e wx ⟨rfl, rfl⟩)
            | (go_at_call 10; (with_reducible refine (dom_is _ _ _ _ _ _ (by assumption)).mono ?_); rintro e wx ⟨rfl, hb⟩; have hS' := HS.keep hb; clear hb HS hc hB3; have HS := hS'; clear hS'; have hc := HS.cells; have hB3 := HS.below)
            | (go_at_call 10; (with_reducible refine (dom_any _ _ _ _ _).mono ?_); rintro e wx ⟨rfl, hb⟩; have hS' := HS.keep hb; clear hb HS hc hB3; have HS := hS'; clear hS'; have hc := HS.cells; have hB3 := HS.below))
          have hB3d := hB3.drew
          clear HS hc hB3
          refine wp_region_once (S := fun w' => Below W.heap.size W w') (by kernel_rfl) (by kernel_rfl) hB3d ?_
          clear hB3d
          refine' WalkO.op rfl ?hs1_0 ?hr1_0
          case hs1_0 =>
            intro w' hb
            have hc := (bcell hb).1
            have hz' := hb.size
            go_simp
            first | exact Gives.value ⟨rfl, hb⟩ | exact Gives.if2 ⟨rfl, hb⟩ (by assumption)
          simp only [Act.put, List.setIfInBounds_toArray, List.set_cons_zero, List.set_cons_succ, Nat.reduceAdd, Nat.zero_add]
          refine' WalkO.op rfl ?hs1_1 ?hr1_1
          case hs1_1 =>
            intro w' hb
            have hc := (bcell hb).1
            have hz' := hb.size
            go_simp
            first | exact Gives.value ⟨rfl, hb⟩ | exact Gives.if2 ⟨rfl, hb⟩ (by assumption)
          simp only [Act.put, List.setIfInBounds_toArray, List.set_cons_zero, List.set_cons_succ, Nat.reduceAdd, Nat.zero_add]
          refine' WalkO.op rfl ?hs1_2 ?hr1_2
          case hs1_2 =>
            intro w' hb
            have hc := (bcell hb).1
            have hz' := hb.size
            go_simp
            refine Gives.enter ?_
            first
            | (go_at_call 9; (with_reducible refine (num_any _ _).mono ?_); rintro e wx ⟨rfl, rfl⟩; exact ⟨_, rfl, rfl, hb⟩)
            | (go_at_call 10; (with_reducible refine (dom_is _ _ _ _ _ _ (by assumption)).mono ?_); rintro e wx ⟨rfl, hb3⟩; exact ⟨_, rfl, rfl, bthen hb3 hb hb.size⟩)
            | (go_at_call 10; (with_reducible refine (dom_any _ _ _ _ _).mono ?_); rintro e wx ⟨rfl, hb3⟩; exact ⟨_, rfl, rfl, bthen hb3 hb hb.size⟩)
          simp only [Act.put, List.setIfInBounds_toArray, List.set_cons_zero, List.set_cons_succ, Nat.reduceAdd, Nat.zero_add]
          refine' WalkO.op rfl ?hs1_3 ?hr1_3
          case hs1_3 =>
            intro w' hb
            have hc := (bcell hb).1
            have hz' := hb.size
            go_simp
            first | exact Gives.value ⟨rfl, hb⟩ | exact Gives.if2 ⟨rfl, hb⟩ (by assumption)
          simp only [Act.put, List.setIfInBounds_toArray, List.set_cons_zero, List.set_cons_succ, Nat.reduceAdd, Nat.zero_add]
          first
          | refine WalkO.opU rfl rfl rfl ?_; simp only [Act.put, List.setIfInBounds_toArray, List.set_cons_zero, List.set_cons_succ, Nat.reduceAdd, Nat.zero_add]
          | refine' WalkO.opT rfl rfl rfl ?hs1_4 ?hr1_4
            case hs1_4 =>
              intro w' hb
              have hc := (bcell hb).1
              have hz' := hb.size
              go_simp
              first | exact Gives.value ⟨rfl, hb⟩ | exact Gives.if2 ⟨rfl, hb⟩ (by assumption)
            simp only [Act.put, List.setIfInBounds_toArray, List.set_cons_zero, List.set_cons_succ, Nat.reduceAdd, Nat.zero_add]
          first
          | refine WalkO.opU rfl rfl rfl ?_; simp only [Act.put, List.setIfInBounds_toArray, List.set_cons_zero, List.set_cons_succ, Nat.reduceAdd, Nat.zero_add]
          | refine' WalkO.opT rfl rfl rfl ?hs1_5 ?hr1_5
            case hs1_5 =>
              intro w' hb
              have hc := (bcell hb).1
              have hz' := hb.size
              go_simp
              first | exact Gives.value ⟨rfl, hb⟩ | exact Gives.if2 ⟨rfl, hb⟩ (by assumption)
            simp only [Act.put, List.setIfInBounds_toArray, List.set_cons_zero, List.set_cons_succ, Nat.reduceAdd, Nat.zero_add]
          first
          | refine WalkO.opU rfl rfl rfl ?_; simp only [Act.put, List.setIfInBounds_toArray, List.set_cons_zero, List.set_cons_succ, Nat.reduceAdd, Nat.zero_add]
          | refine' WalkO.opT rfl rfl rfl ?hs1_6 ?hr1_6
            case hs1_6 =>
              intro w' hb
              have hc := (bcell hb).1
              have hz' := hb.size
              go_simp
              refine Gives.enter ?_
              first
              | (go_at_call 9; (with_reducible refine (num_any _ _).mono ?_); rintro e wx ⟨rfl, rfl⟩; exact ⟨_, rfl, rfl, hb⟩)
              | (go_at_call 10; (with_reducible refine (dom_is _ _ _ _ _ _ (by assumption)).mono ?_); rintro e wx ⟨rfl, hb3⟩; exact ⟨_, rfl, rfl, bthen hb3 hb hb.size⟩)
              | (go_at_call 10; (with_reducible refine (dom_any _ _ _ _ _).mono ?_); rintro e wx ⟨rfl, hb3⟩; exact ⟨_, rfl, rfl, bthen hb3 hb hb.size⟩)
            simp only [Act.put, List.setIfInBounds_toArray, List.set_cons_zero, List.set_cons_succ, Nat.reduceAdd, Nat.zero_add]
          refine' WalkO.op rfl ?hs1_7 ?hr1_7
          case hs1_7 =>
            intro w' hb
            have hc := (bcell hb).1
            have hz' := hb.size
            go_simp
            first | exact Gives.value ⟨rfl, hb⟩ | exact Gives.if2 ⟨rfl, hb⟩ (by assumption)
          simp only [Act.put, List.setIfInBounds_toArray, List.set_cons_zero, List.set_cons_succ, Nat.reduceAdd, Nat.zero_add]
          refine' WalkO.op rfl ?hs1_8 ?hr1_8
          case hs1_8 =>
            intro w' hb
            have hc := (bcell hb).1
            have hz' := hb.size
            go_simp
            first | exact Gives.value ⟨rfl, hb⟩ | exact Gives.if2 ⟨rfl, hb⟩ (by assumption)
          simp only [Act.put, List.setIfInBounds_toArray, List.set_cons_zero, List.set_cons_succ, Nat.reduceAdd, Nat.zero_add]
          refine' WalkO.op rfl ?hs1_9 ?hr1_9
          case hs1_9 =>
            intro w' hb
            have hc := (bcell hb).1
            have hz' := hb.size
            go_simp
            first | exact Gives.value ⟨rfl, hb⟩ | exact Gives.if2 ⟨rfl, hb⟩ (by assumption)
          simp only [Act.put, List.setIfInBounds_toArray, List.set_cons_zero, List.set_cons_succ, Nat.reduceAdd, Nat.zero_add]
          refine' WalkO.op rfl ?hs1_10 ?hr1_10
          case hs1_10 =>
            intro w' hb
            have hc := (bcell hb).1
            have hz' := hb.size
            go_simp
            refine Gives.enter ?_
            first
            | (go_at_call 9; (with_reducible refine (num_any _ _).mono ?_); rintro e wx ⟨rfl, rfl⟩; exact ⟨_, rfl, rfl, hb⟩)
            | (go_at_call 10; (with_reducible refine (dom_is _ _ _ _ _ _ (by assumption)).mono ?_); rintro e wx ⟨rfl, hb3⟩; exact ⟨_, rfl, rfl, bthen hb3 hb hb.size⟩)
            | (go_at_call 10; (with_reducible refine (dom_any _ _ _ _ _).mono ?_); rintro e wx ⟨rfl, hb3⟩; exact ⟨_, rfl, rfl, bthen hb3 hb hb.size⟩)
          simp only [Act.put, List.setIfInBounds_toArray, List.set_cons_zero, List.set_cons_succ, Nat.reduceAdd, Nat.zero_add]
          refine' WalkO.op rfl ?hs1_11 ?hr1_11
          case hs1_11 =>
            intro w' hb
            have hc := (bcell hb).1
            have hz' := hb.size
            go_simp
            first | exact Gives.value ⟨rfl, hb⟩ | exact Gives.if2 ⟨rfl, hb⟩ (by assumption)
          simp only [Act.put, List.setIfInBounds_toArray, List.set_cons_zero, List.set_cons_succ, Nat.reduceAdd, Nat.zero_add]
          refine' WalkO.op rfl ?hs1_12 ?hr1_12
          case hs1_12 =>
            intro w' hb
            have hc := (bcell hb).1
            have hz' := hb.size
            go_simp
            first | exact Gives.value ⟨rfl, hb⟩ | exact Gives.if2 ⟨rfl, hb⟩ (by assumption)
          simp only [Act.put, List.setIfInBounds_toArray, List.set_cons_zero, List.set_cons_succ, Nat.reduceAdd, Nat.zero_add]
          first
          | refine WalkO.opU rfl rfl rfl ?_; simp only [Act.put, List.setIfInBounds_toArray, List.set_cons_zero, List.set_cons_succ, Nat.reduceAdd, Nat.zero_add]
          | refine' WalkO.opT rfl rfl rfl ?hs1_13 ?hr1_13
            case hs1_13 =>
              intro w' hb
              have hc := (bcell hb).1
              have hz' := hb.size
              go_simp
              first | exact Gives.value ⟨rfl, hb⟩ | exact Gives.if2 ⟨rfl, hb⟩ (by assumption)
            simp only [Act.put, List.setIfInBounds_toArray, List.set_cons_zero, List.set_cons_succ, Nat.reduceAdd, Nat.zero_add]
          first
          | refine WalkO.opU rfl rfl rfl ?_; simp only [Act.put, List.setIfInBounds_toArray, List.set_cons_zero, List.set_cons_succ, Nat.reduceAdd, Nat.zero_add]
          | refine' WalkO.opT rfl rfl rfl ?hs1_14 ?hr1_14
            case hs1_14 =>
              intro w' hb
              have hc := (bcell hb).1
              have hz' := hb.size
              go_simp
              first | exact Gives.value ⟨rfl, hb⟩ | exact Gives.if2 ⟨rfl, hb⟩ (by assumption)
            simp only [Act.put, List.setIfInBounds_toArray, List.set_cons_zero, List.set_cons_succ, Nat.reduceAdd, Nat.zero_add]
          first
          | refine WalkO.opU rfl rfl rfl ?_; simp only [Act.put, List.setIfInBounds_toArray, List.set_cons_zero, List.set_cons_succ, Nat.reduceAdd, Nat.zero_add]
          | refine' WalkO.opT rfl rfl rfl ?hs1_15 ?hr1_15
            case hs1_15 =>
              intro w' hb
              have hc := (bcell hb).1
              have hz' := hb.size
              go_simp
              refine Gives.enter ?_
              first
              | (go_at_call 9; (with_reducible refine (num_any _ _).mono ?_); rintro e wx ⟨rfl, rfl⟩; exact ⟨_, rfl, rfl, hb⟩)
              | (go_at_call 10; (with_reducible refine (dom_is _ _ _ _ _ _ (by assumption)).mono ?_); rintro e wx ⟨rfl, hb3⟩; exact ⟨_, rfl, rfl, bthen hb3 hb hb.size⟩)
              | (go_at_call 10; (with_reducible refine (dom_any _ _ _ _ _).mono ?_); rintro e wx ⟨rfl, hb3⟩; exact ⟨_, rfl, rfl, bthen hb3 hb hb.size⟩)
            simp only [Act.put, List.setIfInBounds_toArray, List.set_cons_zero, List.set_cons_succ, Nat.reduceAdd, Nat.zero_add]
          first
          | refine WalkO.opU rfl rfl rfl ?_; simp only [Act.put, List.setIfInBounds_toArray, List.set_cons_zero, List.set_cons_succ, Nat.reduceAdd, Nat.zero_add]
          | refine' WalkO.opT rfl rfl rfl ?hs1_16 ?hr1_16
            case hs1_16 =>
              intro w' hb
              have hc := (bcell hb).1
              have hz' := hb.size
              go_simp
              first | exact Gives.value ⟨rfl, hb⟩ | exact Gives.if2 ⟨rfl, hb⟩ (by assumption)
            simp only [Act.put, List.setIfInBounds_toArray, List.set_cons_zero, List.set_cons_succ, Nat.reduceAdd, Nat.zero_add]
          first
          | refine WalkO.opU rfl rfl rfl ?_; simp only [Act.put, List.setIfInBounds_toArray, List.set_cons_zero, List.set_cons_succ, Nat.reduceAdd, Nat.zero_add]
          | refine' WalkO.opT rfl rfl rfl ?hs1_17 ?hr1_17
            case hs1_17 =>
              intro w' hb
              have hc := (bcell hb).1
              have hz' := hb.size
              go_simp
              first | exact Gives.value ⟨rfl, hb⟩ | exact Gives.if2 ⟨rfl, hb⟩ (by assumption)
            simp only [Act.put, List.setIfInBounds_toArray, List.set_cons_zero, List.set_cons_succ, Nat.reduceAdd, Nat.zero_add]
          first
          | refine WalkO.opU rfl rfl rfl ?_; simp only [Act.put, List.setIfInBounds_toArray, List.set_cons_zero, List.set_cons_succ, Nat.reduceAdd, Nat.zero_add]
          | refine' WalkO.opT rfl rfl rfl ?hs1_18 ?hr1_18
            case hs1_18 =>
              intro w' hb
              have hc := (bcell hb).1
              have hz' := hb.size
              go_simp
              first | exact Gives.value ⟨rfl, hb⟩ | exact Gives.if2 ⟨rfl, hb⟩ (by assumption)
            simp only [Act.put, List.setIfInBounds_toArray, List.set_cons_zero, List.set_cons_succ, Nat.reduceAdd, Nat.zero_add]
          first
          | refine WalkO.opU rfl rfl rfl ?_; simp only [Act.put, List.setIfInBounds_toArray, List.set_cons_zero, List.set_cons_succ, Nat.reduceAdd, Nat.zero_add]
          | refine' WalkO.opT rfl rfl rfl ?hs1_19 ?hr1_19
            case hs1_19 =>
              intro w' hb
              have hc := (bcell hb).1
              have hz' := hb.size
              go_simp
              first | exact Gives.value ⟨rfl, hb⟩ | exact Gives.if2 ⟨rfl, hb⟩ (by assumption)
            simp only [Act.put, List.setIfInBounds_toArray, List.set_cons_zero, List.set_cons_succ, Nat.reduceAdd, Nat.zero_add]
          refine' WalkO.op rfl ?hs1_20 ?hr1_20
          case hs1_20 =>
            intro w' hb
            have hc := (bcell hb).1
            have hz' := hb.size
            go_simp
            first | exact Gives.value ⟨rfl, hb⟩ | exact Gives.if2 ⟨rfl, hb⟩ (by assumption)
          simp only [Act.put, List.setIfInBounds_toArray, List.set_cons_zero, List.set_cons_succ, Nat.reduceAdd, Nat.zero_add]
          refine' WalkO.op rfl ?hs1_21 ?hr1_21
          case hs1_21 =>
            intro w' hb
            have hc := (bcell hb).1
            have hz' := hb.size
            go_simp
            first | exact Gives.value ⟨rfl, hb⟩ | exact Gives.if2 ⟨rfl, hb⟩ (by assumption)
          simp only [Act.put, List.setIfInBounds_toArray, List.set_cons_zero, List.set_cons_succ, Nat.reduceAdd, Nat.zero_add]
          refine WalkO.stop (fun W2 hb => ?_)
          have zW2_0 : w.heap.size < W2.heap.size := Nat.lt_of_lt_of_le zW_0 hb.size
          have kW2_0_0 := (hb.cell (p := ⟨w.heap.size, 0, none⟩) zW_0).trans kW_0_0
          have kW2_0_1 := (hb.cell (p := ⟨w.heap.size, 1, none⟩) zW_0).trans kW_0_1
          have zW2_1 : w.heap.size + 1 < W2.heap.size := Nat.lt_of_lt_of_le zW_1 hb.size
          have kW2_1_0 := (hb.cell (p := ⟨w.heap.size + 1, 0, none⟩) zW_1).trans kW_1_0
          have kW2_1_1 := (hb.cell (p := ⟨w.heap.size + 1, 1, none⟩) zW_1).trans kW_1_1
          have zW2_2 : w.heap.size + 1 + 1 < W2.heap.size := Nat.lt_of_lt_of_le zW_2 hb.size
          have kW2_2_0 := (hb.cell (p := ⟨w.heap.size + 1 + 1, 0, none⟩) zW_2).trans kW_2_0
          have kW2_2_1 := (hb.cell (p := ⟨w.heap.size + 1 + 1, 1, none⟩) zW_2).trans kW_2_1
          have zW2_3 : w1.heap.size < W2.heap.size := Nat.lt_of_lt_of_le zW_3 hb.size
          have kW2_3_0 := (hb.cell (p := ⟨w1.heap.size, 0, none⟩) zW_3).trans kW_3_0
          have kW2_3_1 := (hb.cell (p := ⟨w1.heap.size, 1, none⟩) zW_3).trans kW_3_1
          have zW2_4 : w1.heap.size + 1 < W2.heap.size := Nat.lt_of_lt_of_le zW_4 hb.size
          have kW2_4_0 := (hb.cell (p := ⟨w1.heap.size + 1, 0, none⟩) zW_4).trans kW_4_0
          have kW2_4_1 := (hb.cell (p := ⟨w1.heap.size + 1, 1, none⟩) zW_4).trans kW_4_1
          have zW2_5 : w1.heap.size + 1 + 1 < W2.heap.size := Nat.lt_of_lt_of_le zW_5 hb.size
          have kW2_5_0 := (hb.cell (p := ⟨w1.heap.size + 1 + 1, 0, none⟩) zW_5).trans kW_5_0
          have kW2_5_1 := (hb.cell (p := ⟨w1.heap.size + 1 + 1, 1, none⟩) zW_5).trans kW_5_1
          have zW2_6 : w2.heap.size < W2.heap.size := Nat.lt_of_lt_of_le zW_6 hb.size
          have kW2_6_0 := (hb.cell (p := ⟨w2.heap.size, 0, none⟩) zW_6).trans kW_6_0
          have kW2_6_1 := (hb.cell (p := ⟨w2.heap.size, 1, none⟩) zW_6).trans kW_6_1
          have zW2_7 : w3.heap.size < W2.heap.size := Nat.lt_of_lt_of_le zW_7 hb.size
          have kW2_7_0 := (hb.cell (p := ⟨w3.heap.size, 0, none⟩) zW_7).trans kW_7_0
          have kW2_7_1 := (hb.cell (p := ⟨w3.heap.size, 1, none⟩) zW_7).trans kW_7_1
          have hBW2 : Below w.heap.size w W2 := bthen hb hBW hBW.size
          have hvW2 := hBW2.size; have hvvW2 := hb.size
          clear hb hBW kW_0_0 kW_0_1 kW_1_0 kW_1_1 kW_2_0 kW_2_1 kW_3_0 kW_3_1 kW_4_0 kW_4_1 kW_5_0 kW_5_1 kW_6_0 kW_6_1 kW_7_0 kW_7_1 zW_0 zW_1 zW_2 zW_3 zW_4 zW_5 zW_6 zW_7
          have HS := SW.start W2; have hB3 := Below.refl W2.heap.size W2; have hc := True.intro
          try go_wp2
          go_returns
          exact ⟨rfl, bthen hB3 hBW2 hBW2.size⟩
        | false =>
          clear hG
          go_wp2_with (first
            | (go_at_call 9; (with_reducible refine (num_any _ _).mono ?_); rintro e wx ⟨rfl, rfl⟩)
            | (go_at_call 10; (with_reducible refine (dom_is _ _ _ _ _ _ (by assumption)).mono ?_); rintro e wx ⟨rfl, hb⟩; have hS' := HS.keep hb; clear hb HS hc hB3; have HS := hS'; clear hS'; have hc := HS.cells; have hB3 := HS.below)
            | (go_at_call 10; (with_reducible refine (dom_any _ _ _ _ _).mono ?_); rintro e wx ⟨rfl, hb⟩; have hS' := HS.keep hb; clear hb HS hc hB3; have HS := hS'; clear hS'; have hc := HS.cells; have hB3 := HS.below))
          have hB3d := hB3.drew
          clear HS hc hB3
          refine wp_region_once (S := fun w' => Below W.heap.size W w') (by kernel_rfl) (by kernel_rfl) hB3d ?_
          clear hB3d
          refine' WalkO.op rfl ?hs2_0 ?hr2_0
          case hs2_0 =>
            intro w' hb
            have hc := (bcell hb).1
            have hz' := hb.size
            go_simp
            first | exact Gives.value ⟨rfl, hb⟩ | exact Gives.if2 ⟨rfl, hb⟩ (by assumption)
          simp only [Act.put, List.setIfInBounds_toArray, List.set_cons_zero, List.set_cons_succ, Nat.reduceAdd, Nat.zero_add]
          refine' WalkO.op rfl ?hs2_1 ?hr2_1
          case hs2_1 =>
            intro w' hb
            have hc := (bcell hb).1
            have hz' := hb.size
            go_simp
            first | exact Gives.value ⟨rfl, hb⟩ | exact Gives.if2 ⟨rfl, hb⟩ (by assumption)
          simp only [Act.put, List.setIfInBounds_toArray, List.set_cons_zero, List.set_cons_succ, Nat.reduceAdd, Nat.zero_add]
          refine' WalkO.op rfl ?hs2_2 ?hr2_2
          case hs2_2 =>
            intro w' hb
            have hc := (bcell hb).1
            have hz' := hb.size
            go_simp
            refine Gives.enter ?_
            first
            | (go_at_call 9; (with_reducible refine (num_any _ _).mono ?_); rintro e wx ⟨rfl, rfl⟩; exact ⟨_, rfl, rfl, hb⟩)
            | (go_at_call 10; (with_reducible refine (dom_is _ _ _ _ _ _ (by assumption)).mono ?_); rintro e wx ⟨rfl, hb3⟩; exact ⟨_, rfl, rfl, bthen hb3 hb hb.size⟩)
            | (go_at_call 10; (with_reducible refine (dom_any _ _ _ _ _).mono ?_); rintro e wx ⟨rfl, hb3⟩; exact ⟨_, rfl, rfl, bthen hb3 hb hb.size⟩)
          simp only [Act.put, List.setIfInBounds_toArray, List.set_cons_zero, List.set_cons_succ, Nat.reduceAdd, Nat.zero_add]
          refine' WalkO.op rfl ?hs2_3 ?hr2_3
          case hs2_3 =>
            intro w' hb
            have hc := (bcell hb).1
            have hz' := hb.size
            go_simp
            first | exact Gives.value ⟨rfl, hb⟩ | exact Gives.if2 ⟨rfl, hb⟩ (by assumption)
          simp only [Act.put, List.setIfInBounds_toArray, List.set_cons_zero, List.set_cons_succ, Nat.reduceAdd, Nat.zero_add]
          first
          | refine WalkO.opU rfl rfl rfl ?_; simp only [Act.put, List.setIfInBounds_toArray, List.set_cons_zero, List.set_cons_succ, Nat.reduceAdd, Nat.zero_add]
          | refine' WalkO.opT rfl rfl rfl ?hs2_4 ?hr2_4
            case hs2_4 =>
              intro w' hb
              have hc := (bcell hb).1
              have hz' := hb.size
              go_simp
              first | exact Gives.value ⟨rfl, hb⟩ | exact Gives.if2 ⟨rfl, hb⟩ (by assumption)
            simp only [Act.put, List.setIfInBounds_toArray, List.set_cons_zero, List.set_cons_succ, Nat.reduceAdd, Nat.zero_add]
          first
          | refine WalkO.opU rfl rfl rfl ?_; simp only [Act.put, List.setIfInBounds_toArray, List.set_cons_zero, List.set_cons_succ, Nat.reduceAdd, Nat.zero_add]
          | refine' WalkO.opT rfl rfl rfl ?hs2_5 ?hr2_5
            case hs2_5 =>
              intro w' hb
              have hc := (bcell hb).1
              have hz' := hb.size
              go_simp
              first | exact Gives.value ⟨rfl, hb⟩ | exact Gives.if2 ⟨rfl, hb⟩ (by assumption)
            simp only [Act.put, List.setIfInBounds_toArray, List.set_cons_zero, List.set_cons_succ, Nat.reduceAdd, Nat.zero_add]
          first
          | refine WalkO.opU rfl rfl rfl ?_; simp only [Act.put, List.setIfInBounds_toArray, List.set_cons_zero, List.set_cons_succ, Nat.reduceAdd, Nat.zero_add]
          | refine' WalkO.opT rfl rfl rfl ?hs2_6 ?hr2_6
            case hs2_6 =>
              intro w' hb
              have hc := (bcell hb).1
              have hz' := hb.size
              go_simp
              refine Gives.enter ?_
              first
              | (go_at_call 9; (with_reducible refine (num_any _ _).mono ?_); rintro e wx ⟨rfl, rfl⟩; exact ⟨_, rfl, rfl, hb⟩)
              | (go_at_call 10; (with_reducible refine (dom_is _ _ _ _ _ _ (by assumption)).mono ?_); rintro e wx ⟨rfl, hb3⟩; exact ⟨_, rfl, rfl, bthen hb3 hb hb.size⟩)
              | (go_at_call 10; (with_reducible refine (dom_any _ _ _ _ _).mono ?_); rintro e wx ⟨rfl, hb3⟩; exact ⟨_, rfl, rfl, bthen hb3 hb hb.size⟩)
            simp only [Act.put, List.setIfInBounds_toArray, List.set_cons_zero, List.set_cons_succ, Nat.reduceAdd, Nat.zero_add]
          refine' WalkO.op rfl ?hs2_7 ?hr2_7
          case hs2_7 =>
            intro w' hb
            have hc := (bcell hb).1
            have hz' := hb.size
            go_simp
            first | exact Gives.value ⟨rfl, hb⟩ | exact Gives.if2 ⟨rfl, hb⟩ (by assumption)
          simp only [Act.put, List.setIfInBounds_toArray, List.set_cons_zero, List.set_cons_succ, Nat.reduceAdd, Nat.zero_add]
          refine' WalkO.op rfl ?hs2_8 ?hr2_8
          case hs2_8 =>
            intro w' hb
            have hc := (bcell hb).1
            have hz' := hb.size
            go_simp
            first | exact Gives.value ⟨rfl, hb⟩ | exact Gives.if2 ⟨rfl, hb⟩ (by assumption)
          simp only [Act.put, List.setIfInBounds_toArray, List.set_cons_zero, List.set_cons_succ, Nat.reduceAdd, Nat.zero_add]
          refine' WalkO.op rfl ?hs2_9 ?hr2_9
          case hs2_9 =>
            intro w' hb
            have hc := (bcell hb).1
            have hz' := hb.size
            go_simp
            first | exact Gives.value ⟨rfl, hb⟩ | exact Gives.if2 ⟨rfl, hb⟩ (by assumption)
          simp only [Act.put, List.setIfInBounds_toArray, List.set_cons_zero, List.set_cons_succ, Nat.reduceAdd, Nat.zero_add]
          refine' WalkO.op rfl ?hs2_10 ?hr2_10
          case hs2_10 =>
            intro w' hb
            have hc := (bcell hb).1
            have hz' := hb.size
            go_simp
            refine Gives.enter ?_
            first
            | (go_at_call 9; (with_reducible refine (num_any _ _).mono ?_); rintro e wx ⟨rfl, rfl⟩; exact ⟨_, rfl, rfl, hb⟩)
            | (go_at_call 10; (with_reducible refine (dom_is _ _ _ _ _ _ (by assumption)).mono ?_); rintro e wx ⟨rfl, hb3⟩; exact ⟨_, rfl, rfl, bthen hb3 hb hb.size⟩)
            | (go_at_call 10; (with_reducible refine (dom_any _ _ _ _ _).mono ?_); rintro e wx ⟨rfl, hb3⟩; exact ⟨_, rfl, rfl, bthen hb3 hb hb.size⟩)
          simp only [Act.put, List.setIfInBounds_toArray, List.set_cons_zero, List.set_cons_succ, Nat.reduceAdd, Nat.zero_add]
          refine' WalkO.op rfl ?hs2_11 ?hr2_11
          case hs2_11 =>
            intro w' hb
            have hc := (bcell hb).1
            have hz' := hb.size
            go_simp
            first | exact Gives.value ⟨rfl, hb⟩ | exact Gives.if2 ⟨rfl, hb⟩ (by assumption)
          simp only [Act.put, List.setIfInBounds_toArray, List.set_cons_zero, List.set_cons_succ, Nat.reduceAdd, Nat.zero_add]
          refine' WalkO.op rfl ?hs2_12 ?hr2_12
          case hs2_12 =>
            intro w' hb
            have hc := (bcell hb).1
            have hz' := hb.size
            go_simp
            first | exact Gives.value ⟨rfl, hb⟩ | exact Gives.if2 ⟨rfl, hb⟩ (by assumption)
          simp only [Act.put, List.setIfInBounds_toArray, List.set_cons_zero, List.set_cons_succ, Nat.reduceAdd, Nat.zero_add]
          first
          | refine WalkO.opU rfl rfl rfl ?_; simp only [Act.put, List.setIfInBounds_toArray, List.set_cons_zero, List.set_cons_succ, Nat.reduceAdd, Nat.zero_add]
          | refine' WalkO.opT rfl rfl rfl ?hs2_13 ?hr2_13
            case hs2_13 =>
              intro w' hb
              have hc := (bcell hb).1
              have hz' := hb.size
              go_simp
              first | exact Gives.value ⟨rfl, hb⟩ | exact Gives.if2 ⟨rfl, hb⟩ (by assumption)
            simp only [Act.put, List.setIfInBounds_toArray, List.set_cons_zero, List.set_cons_succ, Nat.reduceAdd, Nat.zero_add]
          first
          | refine WalkO.opU rfl rfl rfl ?_; simp only [Act.put, List.setIfInBounds_toArray, List.set_cons_zero, List.set_cons_succ, Nat.reduceAdd, Nat.zero_add]
          | refine' WalkO.opT rfl rfl rfl ?hs2_14 ?hr2_14
            case hs2_14 =>
              intro w' hb
              have hc := (bcell hb).1
              have hz' := hb.size
              go_simp
              first | exact Gives.value ⟨rfl, hb⟩ | exact Gives.if2 ⟨rfl, hb⟩ (by assumption)
            simp only [Act.put, List.setIfInBounds_toArray, List.set_cons_zero, List.set_cons_succ, Nat.reduceAdd, Nat.zero_add]
          first
          | refine WalkO.opU rfl rfl rfl ?_; simp only [Act.put, List.setIfInBounds_toArray, List.set_cons_zero, List.set_cons_succ, Nat.reduceAdd, Nat.zero_add]
          | refine' WalkO.opT rfl rfl rfl ?hs2_15 ?hr2_15
            case hs2_15 =>
              intro w' hb
              have hc := (bcell hb).1
              have hz' := hb.size
              go_simp
              refine Gives.enter ?_
              first
              | (go_at_call 9; (with_reducible refine (num_any _ _).mono ?_); rintro e wx ⟨rfl, rfl⟩; exact ⟨_, rfl, rfl, hb⟩)
              | (go_at_call 10; (with_reducible refine (dom_is _ _ _ _ _ _ (by assumption)).mono ?_); rintro e wx ⟨rfl, hb3⟩; exact ⟨_, rfl, rfl, bthen hb3 hb hb.size⟩)
              | (go_at_call 10; (with_reducible refine (dom_any _ _ _ _ _).mono ?_); rintro e wx ⟨rfl, hb3⟩; exact ⟨_, rfl, rfl, bthen hb3 hb hb.size⟩)
            simp only [Act.put, List.setIfInBounds_toArray, List.set_cons_zero, List.set_cons_succ, Nat.reduceAdd, Nat.zero_add]
          first
          | refine WalkO.opU rfl rfl rfl ?_; simp only [Act.put, List.setIfInBounds_toArray, List.set_cons_zero, List.set_cons_succ, Nat.reduceAdd, Nat.zero_add]
          | refine' WalkO.opT rfl rfl rfl ?hs2_16 ?hr2_16
            case hs2_16 =>
              intro w' hb
              have hc := (bcell hb).1
              have hz' := hb.size
              go_simp
              first | exact Gives.value ⟨rfl, hb⟩ | exact Gives.if2 ⟨rfl, hb⟩ (by assumption)
            simp only [Act.put, List.setIfInBounds_toArray, List.set_cons_zero, List.set_cons_succ, Nat.reduceAdd, Nat.zero_add]
          first
          | refine WalkO.opU rfl rfl rfl ?_; simp only [Act.put, List.setIfInBounds_toArray, List.set_cons_zero, List.set_cons_succ, Nat.reduceAdd, Nat.zero_add]
          | refine' WalkO.opT rfl rfl rfl ?hs2_17 ?hr2_17
            case hs2_17 =>
              intro w' hb
              have hc := (bcell hb).1
              have hz' := hb.size
              go_simp
              first | exact Gives.value ⟨rfl, hb⟩ | exact Gives.if2 ⟨rfl, hb⟩ (by assumption)
            simp only [Act.put, List.setIfInBounds_toArray, List.set_cons_zero, List.set_cons_succ, Nat.reduceAdd, Nat.zero_add]
          first
          | refine WalkO.opU rfl rfl rfl ?_; simp only [Act.put, List.setIfInBounds_toArray, List.set_cons_zero, List.set_cons_succ, Nat.reduceAdd, Nat.zero_add]
          | refine' WalkO.opT rfl rfl rfl ?hs2_18 ?hr2_18
            case hs2_18 =>
              intro w' hb
              have hc := (bcell hb).1
              have hz' := hb.size
              go_simp
              first | exact Gives.value ⟨rfl, hb⟩ | exact Gives.if2 ⟨rfl, hb⟩ (by assumption)
            simp only [Act.put, List.setIfInBounds_toArray, List.set_cons_zero, List.set_cons_succ, Nat.reduceAdd, Nat.zero_add]
          first
          | refine WalkO.opU rfl rfl rfl ?_; simp only [Act.put, List.setIfInBounds_toArray, List.set_cons_zero, List.set_cons_succ, Nat.reduceAdd, Nat.zero_add]
          | refine' WalkO.opT rfl rfl rfl ?hs2_19 ?hr2_19
            case hs2_19 =>
              intro w' hb
              have hc := (bcell hb).1
              have hz' := hb.size
              go_simp
              first | exact Gives.value ⟨rfl, hb⟩ | exact Gives.if2 ⟨rfl, hb⟩ (by assumption)
            simp only [Act.put, List.setIfInBounds_toArray, List.set_cons_zero, List.set_cons_succ, Nat.reduceAdd, Nat.zero_add]
          refine' WalkO.op rfl ?hs2_20 ?hr2_20
          case hs2_20 =>
            intro w' hb
            have hc := (bcell hb).1
            have hz' := hb.size
            go_simp
            first | exact Gives.value ⟨rfl, hb⟩ | exact Gives.if2 ⟨rfl, hb⟩ (by assumption)
          simp only [Act.put, List.setIfInBounds_toArray, List.set_cons_zero, List.set_cons_succ, Nat.reduceAdd, Nat.zero_add]
          refine' WalkO.op rfl ?hs2_21 ?hr2_21
          case hs2_21 =>
            intro w' hb
            have hc := (bcell hb).1
            have hz' := hb.size
            go_simp
            first | exact Gives.value ⟨rfl, hb⟩ | exact Gives.if2 ⟨rfl, hb⟩ (by assumption)
          simp only [Act.put, List.setIfInBounds_toArray, List.set_cons_zero, List.set_cons_succ, Nat.reduceAdd, Nat.zero_add]
          refine WalkO.stop (fun W2 hb => ?_)
          have zW2_0 : w.heap.size < W2.heap.size := Nat.lt_of_lt_of_le zW_0 hb.size
          have kW2_0_0 := (hb.cell (p := ⟨w.heap.size, 0, none⟩) zW_0).trans kW_0_0
          have kW2_0_1 := (hb.cell (p := ⟨w.heap.size, 1, none⟩) zW_0).trans kW_0_1
          have zW2_1 : w.heap.size + 1 < W2.heap.size := Nat.lt_of_lt_of_le zW_1 hb.size
          have kW2_1_0 := (hb.cell (p := ⟨w.heap.size + 1, 0, none⟩) zW_1).trans kW_1_0
          have kW2_1_1 := (hb.cell (p := ⟨w.heap.size + 1, 1, none⟩) zW_1).trans kW_1_1
          have zW2_2 : w.heap.size + 1 + 1 < W2.heap.size := Nat.lt_of_lt_of_le zW_2 hb.size
          have kW2_2_0 := (hb.cell (p := ⟨w.heap.size + 1 + 1, 0, none⟩) zW_2).trans kW_2_0
          have kW2_2_1 := (hb.cell (p := ⟨w.heap.size + 1 + 1, 1, none⟩) zW_2).trans kW_2_1
          have zW2_3 : w1.heap.size < W2.heap.size := Nat.lt_of_lt_of_le zW_3 hb.size
          have kW2_3_0 := (hb.cell (p := ⟨w1.heap.size, 0, none⟩) zW_3).trans kW_3_0
          have kW2_3_1 := (hb.cell (p := ⟨w1.heap.size, 1, none⟩) zW_3).trans kW_3_1
          have zW2_4 : w1.heap.size + 1 < W2.heap.size := Nat.lt_of_lt_of_le zW_4 hb.size
          have kW2_4_0 := (hb.cell (p := ⟨w1.heap.size + 1, 0, none⟩) zW_4).trans kW_4_0
          have kW2_4_1 := (hb.cell (p := ⟨w1.heap.size + 1, 1, none⟩) zW_4).trans kW_4_1
          have zW2_5 : w1.heap.size + 1 + 1 < W2.heap.size := Nat.lt_of_lt_of_le zW_5 hb.size
          have kW2_5_0 := (hb.cell (p := ⟨w1.heap.size + 1 + 1, 0, none⟩) zW_5).trans kW_5_0
          have kW2_5_1 := (hb.cell (p := ⟨w1.heap.size + 1 + 1, 1, none⟩) zW_5).trans kW_5_1
          have zW2_6 : w2.heap.size < W2.heap.size := Nat.lt_of_lt_of_le zW_6 hb.size
          have kW2_6_0 := (hb.cell (p := ⟨w2.heap.size, 0, none⟩) zW_6).trans kW_6_0
          have kW2_6_1 := (hb.cell (p := ⟨w2.heap.size, 1, none⟩) zW_6).trans kW_6_1
          have zW2_7 : w3.heap.size < W2.heap.size := Nat.lt_of_lt_of_le zW_7 hb.size
          have kW2_7_0 := (hb.cell (p := ⟨w3.heap.size, 0, none⟩) zW_7).trans kW_7_0
          have kW2_7_1 := (hb.cell (p := ⟨w3.heap.size, 1, none⟩) zW_7).trans kW_7_1
          have hBW2 : Below w.heap.size w W2 := bthen hb hBW hBW.size
          have hvW2 := hBW2.size; have hvvW2 := hb.size
          clear hb hBW kW_0_0 kW_0_1 kW_1_0 kW_1_1 kW_2_0 kW_2_1 kW_3_0 kW_3_1 kW_4_0 kW_4_1 kW_5_0 kW_5_1 kW_6_0 kW_6_1 kW_7_0 kW_7_1 zW_0 zW_1 zW_2 zW_3 zW_4 zW_5 zW_6 zW_7
          have HS := SW.start W2; have hB3 := Below.refl W2.heap.size W2; have hc := True.intro
          try go_wp2
          go_returns
          exact ⟨rfl, bthen hB3 hBW2 hBW2.size⟩
      | false =>
        clear hhC
        cases E with
        | true =>
          clear hG
          go_wp2_with (first
            | (go_at_call 9; (with_reducible refine (num_any _ _).mono ?_); rintro e wx ⟨rfl, rfl⟩)
            | (go_at_call 10; (with_reducible refine (dom_is _ _ _ _ _ _ (by assumption)).mono ?_); rintro e wx ⟨rfl, hb⟩; have hS' := HS.keep hb; clear hb HS hc hB3; have HS := hS'; clear hS'; have hc := HS.cells; have hB3 := HS.below)
            | (go_at_call 10; (with_reducible refine (dom_any _ _ _ _ _).mono ?_); rintro e wx ⟨rfl, hb⟩; have hS' := HS.keep hb; clear hb HS hc hB3; have HS := hS'; clear hS'; have hc := HS.cells; have hB3 := HS.below))
          have hB3d := hB3.drew
          clear HS hc hB3
          refine wp_region_once (S := fun w' => Below W.heap.size W w') (by kernel_rfl) (by kernel_rfl) hB3d ?_
          clear hB3d
          refine' WalkO.op rfl ?hs3_0 ?hr3_0
          case hs3_0 =>
            intro w' hb
            have hc := (bcell hb).1
            have hz' := hb.size
            go_simp
            first | exact Gives.value ⟨rfl, hb⟩ | exact Gives.if2 ⟨rfl, hb⟩ (by assumption)
          simp only [Act.put, List.setIfInBounds_toArray, List.set_cons_zero, List.set_cons_succ, Nat.reduceAdd, Nat.zero_add]
          refine' WalkO.op rfl ?hs3_1 ?hr3_1
          case hs3_1 =>
            intro w' hb
            have hc := (bcell hb).1
            have hz' := hb.size
            go_simp
            first | exact Gives.value ⟨rfl, hb⟩ | exact Gives.if2 ⟨rfl, hb⟩ (by assumption)
          simp only [Act.put, List.setIfInBounds_toArray, List.set_cons_zero, List.set_cons_succ, Nat.reduceAdd, Nat.zero_add]
          refine' WalkO.op rfl ?hs3_2 ?hr3_2
          case hs3_2 =>
            intro w' hb
            have hc := (bcell hb).1
            have hz' := hb.size
            go_simp
            refine Gives.enter ?_
            first
            | (go_at_call 9; (with_reducible refine (num_any _ _).mono ?_); rintro e wx ⟨rfl, rfl⟩; exact ⟨_, rfl, rfl, hb⟩)
            | (go_at_call 10; (with_reducible refine (dom_is _ _ _ _ _ _ (by assumption)).mono ?_); rintro e wx ⟨rfl, hb3⟩; exact ⟨_, rfl, rfl, bthen hb3 hb hb.size⟩)
            | (go_at_call 10; (with_reducible refine (dom_any _ _ _ _ _).mono ?_); rintro e wx ⟨rfl, hb3⟩; exact ⟨_, rfl, rfl, bthen hb3 hb hb.size⟩)
          simp only [Act.put, List.setIfInBounds_toArray, List.set_cons_zero, List.set_cons_succ, Nat.reduceAdd, Nat.zero_add]
          refine' WalkO.op rfl ?hs3_3 ?hr3_3
          case hs3_3 =>
            intro w' hb
            have hc := (bcell hb).1
            have hz' := hb.size
            go_simp
            first | exact Gives.value ⟨rfl, hb⟩ | exact Gives.if2 ⟨rfl, hb⟩ (by assumption)
          simp only [Act.put, List.setIfInBounds_toArray, List.set_cons_zero, List.set_cons_succ, Nat.reduceAdd, Nat.zero_add]
          first
          | refine WalkO.opU rfl rfl rfl ?_; simp only [Act.put, List.setIfInBounds_toArray, List.set_cons_zero, List.set_cons_succ, Nat.reduceAdd, Nat.zero_add]
          | refine' WalkO.opT rfl rfl rfl ?hs3_4 ?hr3_4
            case hs3_4 =>
              intro w' hb
              have hc := (bcell hb).1
              have hz' := hb.size
              go_simp
              first | exact Gives.value ⟨rfl, hb⟩ | exact Gives.if2 ⟨rfl, hb⟩ (by assumption)
            simp only [Act.put, List.setIfInBounds_toArray, List.set_cons_zero, List.set_cons_succ, Nat.reduceAdd, Nat.zero_add]
          first
          | refine WalkO.opU rfl rfl rfl ?_; simp only [Act.put, List.setIfInBounds_toArray, List.set_cons_zero, List.set_cons_succ, Nat.reduceAdd, Nat.zero_add]
          | refine' WalkO.opT rfl rfl rfl ?hs3_5 ?hr3_5
            case hs3_5 =>
              intro w' hb
              have hc := (bcell hb).1
              have hz' := hb.size
              go_simp
              first | exact Gives.value ⟨rfl, hb⟩ | exact Gives.if2 ⟨rfl, hb⟩ (by assumption)
            simp only [Act.put, List.setIfInBounds_toArray, List.set_cons_zero, List.set_cons_succ, Nat.reduceAdd, Nat.zero_add]
          first
          | refine WalkO.opU rfl rfl rfl ?_; simp only [Act.put, List.setIfInBounds_toArray, List.set_cons_zero, List.set_cons_succ, Nat.reduceAdd, Nat.zero_add]
          | refine' WalkO.opT rfl rfl rfl ?hs3_6 ?hr3_6
            case hs3_6 =>
              intro w' hb
              have hc := (bcell hb).1
              have hz' := hb.size
              go_simp
              refine Gives.enter ?_
              first
              | (go_at_call 9; (with_reducible refine (num_any _ _).mono ?_); rintro e wx ⟨rfl, rfl⟩; exact ⟨_, rfl, rfl, hb⟩)
              | (go_at_call 10; (with_reducible refine (dom_is _ _ _ _ _ _ (by assumption)).mono ?_); rintro e wx ⟨rfl, hb3⟩; exact ⟨_, rfl, rfl, bthen hb3 hb hb.size⟩)
              | (go_at_call 10; (with_reducible refine (dom_any _ _ _ _ _).mono ?_); rintro e wx ⟨rfl, hb3⟩; exact ⟨_, rfl, rfl, bthen hb3 hb hb.size⟩)
            simp only [Act.put, List.setIfInBounds_toArray, List.set_cons_zero, List.set_cons_succ, Nat.reduceAdd, Nat.zero_add]
          refine' WalkO.op rfl ?hs3_7 ?hr3_7
          case hs3_7 =>
            intro w' hb
            have hc := (bcell hb).1
            have hz' := hb.size
            go_simp
            first | exact Gives.value ⟨rfl, hb⟩ | exact Gives.if2 ⟨rfl, hb⟩ (by assumption)
          simp only [Act.put, List.setIfInBounds_toArray, List.set_cons_zero, List.set_cons_succ, Nat.reduceAdd, Nat.zero_add]
          refine' WalkO.op rfl ?hs3_8 ?hr3_8
          case hs3_8 =>
            intro w' hb
            have hc := (bcell hb).1
            have hz' := hb.size
            go_simp
            first | exact Gives.value ⟨rfl, hb⟩ | exact Gives.if2 ⟨rfl, hb⟩ (by assumption)
          simp only [Act.put, List.setIfInBounds_toArray, List.set_cons_zero, List.set_cons_succ, Nat.reduceAdd, Nat.zero_add]
          refine' WalkO.op rfl ?hs3_9 ?hr3_9
          case hs3_9 =>
            intro w' hb
            have hc := (bcell hb).1
            have hz' := hb.size
            go_simp
            first | exact Gives.value ⟨rfl, hb⟩ | exact Gives.if2 ⟨rfl, hb⟩ (by assumption)
          simp only [Act.put, List.setIfInBounds_toArray, List.set_cons_zero, List.set_cons_succ, Nat.reduceAdd, Nat.zero_add]
          refine' WalkO.op rfl ?hs3_10 ?hr3_10
          case hs3_10 =>
            intro w' hb
            have hc := (bcell hb).1
            have hz' := hb.size
            go_simp
            refine Gives.enter ?_
            first
            | (go_at_call 9; (with_reducible refine (num_any _ _).mono ?_); rintro e wx ⟨rfl, rfl⟩; exact ⟨_, rfl, rfl, hb⟩)
            | (go_at_call 10; (with_reducible refine (dom_is _ _ _ _ _ _ (by assumption)).mono ?_); rintro e wx ⟨rfl, hb3⟩; exact ⟨_, rfl, rfl, bthen hb3 hb hb.size⟩)
            | (go_at_call 10; (with_reducible refine (dom_any _ _ _ _ _).mono ?_); rintro e wx ⟨rfl, hb3⟩; exact ⟨_, rfl, rfl, bthen hb3 hb hb.size⟩)
          simp only [Act.put, List.setIfInBounds_toArray, List.set_cons_zero, List.set_cons_succ, Nat.reduceAdd, Nat.zero_add]
          refine' WalkO.op rfl ?hs3_11 ?hr3_11
          case hs3_11 =>
            intro w' hb
            have hc := (bcell hb).1
            have hz' := hb.size
            go_simp
            first | exact Gives.value ⟨rfl, hb⟩ | exact Gives.if2 ⟨rfl, hb⟩ (by assumption)
          simp only [Act.put, List.setIfInBounds_toArray, List.set_cons_zero, List.set_cons_succ, Nat.reduceAdd, Nat.zero_add]
          refine' WalkO.op rfl ?hs3_12 ?hr3_12
          case hs3_12 =>
            intro w' hb
            have hc := (bcell hb).1
            have hz' := hb.size
            go_simp
            first | exact Gives.value ⟨rfl, hb⟩ | exact Gives.if2 ⟨rfl, hb⟩ (by assumption)
          simp only [Act.put, List.setIfInBounds_toArray, List.set_cons_zero, List.set_cons_succ, Nat.reduceAdd, Nat.zero_add]
          first
          | refine WalkO.opU rfl rfl rfl ?_; simp only [Act.put, List.setIfInBounds_toArray, List.set_cons_zero, List.set_cons_succ, Nat.reduceAdd, Nat.zero_add]
          | refine' WalkO.opT rfl rfl rfl ?hs3_13 ?hr3_13
            case hs3_13 =>
              intro w' hb
              have hc := (bcell hb).1
              have hz' := hb.size
              go_simp
              first | exact Gives.value ⟨rfl, hb⟩ | exact Gives.if2 ⟨rfl, hb⟩ (by assumption)
            simp only [Act.put, List.setIfInBounds_toArray, List.set_cons_zero, List.set_cons_succ, Nat.reduceAdd, Nat.zero_add]
          first
          | refine WalkO.opU rfl rfl rfl ?_; simp only [Act.put, List.setIfInBounds_toArray, List.set_cons_zero, List.set_cons_succ, Nat.reduceAdd, Nat.zero_add]
          | refine' WalkO.opT rfl rfl rfl ?hs3_14 ?hr3_14
            case hs3_14 =>
              intro w' hb
              have hc := (bcell hb).1
              have hz' := hb.size
              go_simp
              first | exact Gives.value ⟨rfl, hb⟩ | exact Gives.if2 ⟨rfl, hb⟩ (by assumption)
            simp only [Act.put, List.setIfInBounds_toArray, List.set_cons_zero, List.set_cons_succ, Nat.reduceAdd, Nat.zero_add]
          first
          | refine WalkO.opU rfl rfl rfl ?_; simp only [Act.put, List.setIfInBounds_toArray, List.set_cons_zero, List.set_cons_succ, Nat.reduceAdd, Nat.zero_add]
          | refine' WalkO.opT rfl rfl rfl ?hs3_15 ?hr3_15
            case hs3_15 =>
              intro w' hb
              have hc := (bcell hb).1
              have hz' := hb.size
              go_simp
              refine Gives.enter ?_
              first
              | (go_at_call 9; (with_reducible refine (num_any _ _).mono ?_); rintro e wx ⟨rfl, rfl⟩; exact ⟨_, rfl, rfl, hb⟩)
              | (go_at_call 10; (with_reducible refine (dom_is _ _ _ _ _ _ (by assumption)).mono ?_); rintro e wx ⟨rfl, hb3⟩; exact ⟨_, rfl, rfl, bthen hb3 hb hb.size⟩)
              | (go_at_call 10; (with_reducible refine (dom_any _ _ _ _ _).mono ?_); rintro e wx ⟨rfl, hb3⟩; exact ⟨_, rfl, rfl, bthen hb3 hb hb.size⟩)
            simp only [Act.put, List.setIfInBounds_toArray, List.set_cons_zero, List.set_cons_succ, Nat.reduceAdd, Nat.zero_add]
          first
          | refine WalkO.opU rfl rfl rfl ?_; simp only [Act.put, List.setIfInBounds_toArray, List.set_cons_zero, List.set_cons_succ, Nat.reduceAdd, Nat.zero_add]
          | refine' WalkO.opT rfl rfl rfl ?hs3_16 ?hr3_16
            case hs3_16 =>
              intro w' hb
              have hc := (bcell hb).1
              have hz' := hb.size
              go_simp
              first | exact Gives.value ⟨rfl, hb⟩ | exact Gives.if2 ⟨rfl, hb⟩ (by assumption)
            simp only [Act.put, List.setIfInBounds_toArray, List.set_cons_zero, List.set_cons_succ, Nat.reduceAdd, Nat.zero_add]
          first
          | refine WalkO.opU rfl rfl rfl ?_; simp only [Act.put, List.setIfInBounds_toArray, List.set_cons_zero, List.set_cons_succ, Nat.reduceAdd, Nat.zero_add]
          | refine' WalkO.opT rfl rfl rfl ?hs3_17 ?hr3_17
            case hs3_17 =>
              intro w' hb
              have hc := (bcell hb).1
              have hz' := hb.size
              go_simp
              first | exact Gives.value ⟨rfl, hb⟩ | exact Gives.if2 ⟨rfl, hb⟩ (by assumption)
            simp only [Act.put, List.setIfInBounds_toArray, List.set_cons_zero, List.set_cons_succ, Nat.reduceAdd, Nat.zero_add]
          first
          | refine WalkO.opU rfl rfl rfl ?_; simp only [Act.put, List.setIfInBounds_toArray, List.set_cons_zero, List.set_cons_succ, Nat.reduceAdd, Nat.zero_add]
          | refine' WalkO.opT rfl rfl rfl ?hs3_18 ?hr3_18
            case hs3_18 =>
              intro w' hb
              have hc := (bcell hb).1
              have hz' := hb.size
              go_simp
              first | exact Gives.value ⟨rfl, hb⟩ | exact Gives.if2 ⟨rfl, hb⟩ (by assumption)
            simp only [Act.put, List.setIfInBounds_toArray, List.set_cons_zero, List.set_cons_succ, Nat.reduceAdd, Nat.zero_add]
          first
          | refine WalkO.opU rfl rfl rfl ?_; simp only [Act.put, List.setIfInBounds_toArray, List.set_cons_zero, List.set_cons_succ, Nat.reduceAdd, Nat.zero_add]
          | refine' WalkO.opT rfl rfl rfl ?hs3_19 ?hr3_19
            case hs3_19 =>
              intro w' hb
              have hc := (bcell hb).1
              have hz' := hb.size
              go_simp
              first | exact Gives.value ⟨rfl, hb⟩ | exact Gives.if2 ⟨rfl, hb⟩ (by assumption)
            simp only [Act.put, List.setIfInBounds_toArray, List.set_cons_zero, List.set_cons_succ, Nat.reduceAdd, Nat.zero_add]
          refine' WalkO.op rfl ?hs3_20 ?hr3_20
          case hs3_20 =>
            intro w' hb
            have hc := (bcell hb).1
            have hz' := hb.size
            go_simp
            first | exact Gives.value ⟨rfl, hb⟩ | exact Gives.if2 ⟨rfl, hb⟩ (by assumption)
          simp only [Act.put, List.setIfInBounds_toArray, List.set_cons_zero, List.set_cons_succ, Nat.reduceAdd, Nat.zero_add]
          refine' WalkO.op rfl ?hs3_21 ?hr3_21
          case hs3_21 =>
            intro w' hb
            have hc := (bcell hb).1
            have hz' := hb.size
            go_simp
            first | exact Gives.value ⟨rfl, hb⟩ | exact Gives.if2 ⟨rfl, hb⟩ (by assumption)
          simp only [Act.put, List.setIfInBounds_toArray, List.set_cons_zero, List.set_cons_succ, Nat.reduceAdd, Nat.zero_add]
          refine WalkO.stop (fun W2 hb => ?_)
          have zW2_0 : w.heap.size < W2.heap.size := Nat.lt_of_lt_of_le zW_0 hb.size
          have kW2_0_0 := (hb.cell (p := ⟨w.heap.size, 0, none⟩) zW_0).trans kW_0_0
          have kW2_0_1 := (hb.cell (p := ⟨w.heap.size, 1, none⟩) zW_0).trans kW_0_1
          have zW2_1 : w.heap.size + 1 < W2.heap.size := Nat.lt_of_lt_of_le zW_1 hb.size
          have kW2_1_0 := (hb.cell (p := ⟨w.heap.size + 1, 0, none⟩) zW_1).trans kW_1_0
          have kW2_1_1 := (hb.cell (p := ⟨w.heap.size + 1, 1, none⟩) zW_1).trans kW_1_1
          have zW2_2 : w.heap.size + 1 + 1 < W2.heap.size := Nat.lt_of_lt_of_le zW_2 hb.size
          have kW2_2_0 := (hb.cell (p := ⟨w.heap.size + 1 + 1, 0, none⟩) zW_2).trans kW_2_0
          have kW2_2_1 := (hb.cell (p := ⟨w.heap.size + 1 + 1, 1, none⟩) zW_2).trans kW_2_1
          have zW2_3 : w1.heap.size < W2.heap.size := Nat.lt_of_lt_of_le zW_3 hb.size
          have kW2_3_0 := (hb.cell (p := ⟨w1.heap.size, 0, none⟩) zW_3).trans kW_3_0
          have kW2_3_1 := (hb.cell (p := ⟨w1.heap.size, 1, none⟩) zW_3).trans kW_3_1
          have zW2_4 : w1.heap.size + 1 < W2.heap.size := Nat.lt_of_lt_of_le zW_4 hb.size
          have kW2_4_0 := (hb.cell (p := ⟨w1.heap.size + 1, 0, none⟩) zW_4).trans kW_4_0
          have kW2_4_1 := (hb.cell (p := ⟨w1.heap.size + 1, 1, none⟩) zW_4).trans kW_4_1
          have zW2_5 : w1.heap.size + 1 + 1 < W2.heap.size := Nat.lt_of_lt_of_le zW_5 hb.size
          have kW2_5_0 := (hb.cell (p := ⟨w1.heap.size + 1 + 1, 0, none⟩) zW_5).trans kW_5_0
          have kW2_5_1 := (hb.cell (p := ⟨w1.heap.size + 1 + 1, 1, none⟩) zW_5).trans kW_5_1
          have zW2_6 : w2.heap.size < W2.heap.size := Nat.lt_of_lt_of_le zW_6 hb.size
          have kW2_6_0 := (hb.cell (p := ⟨w2.heap.size, 0, none⟩) zW_6).trans kW_6_0
          have kW2_6_1 := (hb.cell (p := ⟨w2.heap.size, 1, none⟩) zW_6).trans kW_6_1
          have zW2_7 : w3.heap.size < W2.heap.size := Nat.lt_of_lt_of_le zW_7 hb.size
          have kW2_7_0 := (hb.cell (p := ⟨w3.heap.size, 0, none⟩) zW_7).trans kW_7_0
          have kW2_7_1 := (hb.cell (p := ⟨w3.heap.size, 1, none⟩) zW_7).trans kW_7_1
          have hBW2 : Below w.heap.size w W2 := bthen hb hBW hBW.size
          have hvW2 := hBW2.size; have hvvW2 := hb.size
          clear hb hBW kW_0_0 kW_0_1 kW_1_0 kW_1_1 kW_2_0 kW_2_1 kW_3_0 kW_3_1 kW_4_0 kW_4_1 kW_5_0 kW_5_1 kW_6_0 kW_6_1 kW_7_0 kW_7_1 zW_0 zW_1 zW_2 zW_3 zW_4 zW_5 zW_6 zW_7
          have HS := SW.start W2; have hB3 := Below.refl W2.heap.size W2; have hc := True.intro
          try go_wp2
          go_returns
          exact ⟨rfl, bthen hB3 hBW2 hBW2.size⟩
        | false =>
          clear hG
          go_wp2_with (first
            | (go_at_call 9; (with_reducible refine (num_any _ _).mono ?_); rintro e wx ⟨rfl, rfl⟩)
            | (go_at_call 10; (with_reducible refine (dom_is _ _ _ _ _ _ (by assumption)).mono ?_); rintro e wx ⟨rfl, hb⟩; have hS' := HS.keep hb; clear hb HS hc hB3; have HS := hS'; clear hS'; have hc := HS.cells; have hB3 := HS.below)
            | (go_at_call 10; (with_reducible refine (dom_any _ _ _ _ _).mono ?_); rintro e wx ⟨rfl, hb⟩; have hS' := HS.keep hb; clear hb HS hc hB3; have HS := hS'; clear hS'; have hc := HS.cells; have hB3 := HS.below))
          have hB3d := hB3.drew
          clear HS hc hB3
          refine wp_region_once (S := fun w' => Below W.heap.size W w') (by kernel_rfl) (by kernel_rfl) hB3d ?_
          clear hB3d
          refine' WalkO.op rfl ?hs4_0 ?hr4_0
          case hs4_0 =>
            intro w' hb
            have hc := (bcell hb).1
            have hz' := hb.size
            go_simp
            first | exact Gives.value ⟨rfl, hb⟩ | exact Gives.if2 ⟨rfl, hb⟩ (by assumption)
          simp only [Act.put, List.setIfInBounds_toArray, List.set_cons_zero, List.set_cons_succ, Nat.reduceAdd, Nat.zero_add]
          refine' WalkO.op rfl ?hs4_1 ?hr4_1
          case hs4_1 =>
            intro w' hb
            have hc := (bcell hb).1
            have hz' := hb.size
            go_simp
            first | exact Gives.value ⟨rfl, hb⟩ | exact Gives.if2 ⟨rfl, hb⟩ (by assumption)
          simp only [Act.put, List.setIfInBounds_toArray, List.set_cons_zero, List.set_cons_succ, Nat.reduceAdd, Nat.zero_add]
          refine' WalkO.op rfl ?hs4_2 ?hr4_2
          case hs4_2 =>
            intro w' hb
            have hc := (bcell hb).1
            have hz' := hb.size
            go_simp
            refine Gives.enter ?_
            first
            | (go_at_call 9; (with_reducible refine (num_any _ _).mono ?_); rintro e wx ⟨rfl, rfl⟩; exact ⟨_, rfl, rfl, hb⟩)
            | (go_at_call 10; (with_reducible refine (dom_is _ _ _ _ _ _ (by assumption)).mono ?_); rintro e wx ⟨rfl, hb3⟩; exact ⟨_, rfl, rfl, bthen hb3 hb hb.size⟩)
            | (go_at_call 10; (with_reducible refine (dom_any _ _ _ _ _).mono ?_); rintro e wx ⟨rfl, hb3⟩; exact ⟨_, rfl, rfl, bthen hb3 hb hb.size⟩)
          simp only [Act.put, List.setIfInBounds_toArray, List.set_cons_zero, List.set_cons_succ, Nat.reduceAdd, Nat.zero_add]
          refine' WalkO.op rfl ?hs4_3 ?hr4_3
          case hs4_3 =>
            intro w' hb
            have hc := (bcell hb).1
            have hz' := hb.size
            go_simp
            first | exact Gives.value ⟨rfl, hb⟩ | exact Gives.if2 ⟨rfl, hb⟩ (by assumption)
          simp only [Act.put, List.setIfInBounds_toArray, List.set_cons_zero, List.set_cons_succ, Nat.reduceAdd, Nat.zero_add]
          first
          | refine WalkO.opU rfl rfl rfl ?_; simp only [Act.put, List.setIfInBounds_toArray, List.set_cons_zero, List.set_cons_succ, Nat.reduceAdd, Nat.zero_add]
          | refine' WalkO.opT rfl rfl rfl ?hs4_4 ?hr4_4
            case hs4_4 =>
              intro w' hb
              have hc := (bcell hb).1
              have hz' := hb.size
              go_simp
              first | exact Gives.value ⟨rfl, hb⟩ | exact Gives.if2 ⟨rfl, hb⟩ (by assumption)
            simp only [Act.put, List.setIfInBounds_toArray, List.set_cons_zero, List.set_cons_succ, Nat.reduceAdd, Nat.zero_add]
          first
          | refine WalkO.opU rfl rfl rfl ?_; simp only [Act.put, List.setIfInBounds_toArray, List.set_cons_zero, List.set_cons_succ, Nat.reduceAdd, Nat.zero_add]
          | refine' WalkO.opT rfl rfl rfl ?hs4_5 ?hr4_5
            case hs4_5 =>
              intro w' hb
              have hc := (bcell hb).1
              have hz' := hb.size
              go_simp
              first | exact Gives.value ⟨rfl, hb⟩ | exact Gives.if2 ⟨rfl, hb⟩ (by assumption)
            simp only [Act.put, List.setIfInBounds_toArray, List.set_cons_zero, List.set_cons_succ, Nat.reduceAdd, Nat.zero_add]
          first
          | refine WalkO.opU rfl rfl rfl ?_; simp only [Act.put, List.setIfInBounds_toArray, List.set_cons_zero, List.set_cons_succ, Nat.reduceAdd, Nat.zero_add]
          | refine' WalkO.opT rfl rfl rfl ?hs4_6 ?hr4_6
            case hs4_6 =>
              intro w' hb
              have hc := (bcell hb).1
              have hz' := hb.size
              go_simp
              refine Gives.enter ?_
              first
              | (go_at_call 9; (with_reducible refine (num_any _ _).mono ?_); rintro e wx ⟨rfl, rfl⟩; exact ⟨_, rfl, rfl, hb⟩)
              | (go_at_call 10; (with_reducible refine (dom_is _ _ _ _ _ _ (by assumption)).mono ?_); rintro e wx ⟨rfl, hb3⟩; exact ⟨_, rfl, rfl, bthen hb3 hb hb.size⟩)
              | (go_at_call 10; (with_reducible refine (dom_any _ _ _ _ _).mono ?_); rintro e wx ⟨rfl, hb3⟩; exact ⟨_, rfl, rfl, bthen hb3 hb hb.size⟩)
            simp only [Act.put, List.setIfInBounds_toArray, List.set_cons_zero, List.set_cons_succ, Nat.reduceAdd, Nat.zero_add]
          refine' WalkO.op rfl ?hs4_7 ?hr4_7
          case hs4_7 =>
            intro w' hb
            have hc := (bcell hb).1
            have hz' := hb.size
            go_simp
            first | exact Gives.value ⟨rfl, hb⟩ | exact Gives.if2 ⟨rfl, hb⟩ (by assumption)
          simp only [Act.put, List.setIfInBounds_toArray, List.set_cons_zero, List.set_cons_succ, Nat.reduceAdd, Nat.zero_add]
          refine' WalkO.op rfl ?hs4_8 ?hr4_8
          case hs4_8 =>
            intro w' hb
            have hc := (bcell hb).1
            have hz' := hb.size
            go_simp
            first | exact Gives.value ⟨rfl, hb⟩ | exact Gives.if2 ⟨rfl, hb⟩ (by assumption)
          simp only [Act.put, List.setIfInBounds_toArray, List.set_cons_zero, List.set_cons_succ, Nat.reduceAdd, Nat.zero_add]
          refine' WalkO.op rfl ?hs4_9 ?hr4_9
          case hs4_9 =>
            intro w' hb
            have hc := (bcell hb).1
            have hz' := hb.size
            go_simp
            first | exact Gives.value ⟨rfl, hb⟩ | exact Gives.if2 ⟨rfl, hb⟩ (by assumption)
          simp only [Act.put, List.setIfInBounds_toArray, List.set_cons_zero, List.set_cons_succ, Nat.reduceAdd, Nat.zero_add]
          refine' WalkO.op rfl ?hs4_10 ?hr4_10
          case hs4_10 =>
            intro w' hb
            have hc := (bcell hb).1
            have hz' := hb.size
            go_simp
            refine Gives.enter ?_
            first
            | (go_at_call 9; (with_reducible refine (num_any _ _).mono ?_); rintro e wx ⟨rfl, rfl⟩; exact ⟨_, rfl, rfl, hb⟩)
            | (go_at_call 10; (with_reducible refine (dom_is _ _ _ _ _ _ (by assumption)).mono ?_); rintro e wx ⟨rfl, hb3⟩; exact ⟨_, rfl, rfl, bthen hb3 hb hb.size⟩)
            | (go_at_call 10; (with_reducible refine (dom_any _ _ _ _ _).mono ?_); rintro e wx ⟨rfl, hb3⟩; exact ⟨_, rfl, rfl, bthen hb3 hb hb.size⟩)
          simp only [Act.put, List.setIfInBounds_toArray, List.set_cons_zero, List.set_cons_succ, Nat.reduceAdd, Nat.zero_add]
          refine' WalkO.op rfl ?hs4_11 ?hr4_11
          case hs4_11 =>
            intro w' hb
            have hc := (bcell hb).1
            have hz' := hb.size
            go_simp
            first | exact Gives.value ⟨rfl, hb⟩ | exact Gives.if2 ⟨rfl, hb⟩ (by assumption)
          simp only [Act.put, List.setIfInBounds_toArray, List.set_cons_zero, List.set_cons_succ, Nat.reduceAdd, Nat.zero_add]
          refine' WalkO.op rfl ?hs4_12 ?hr4_12
          case hs4_12 =>
            intro w' hb
            have hc := (bcell hb).1
            have hz' := hb.size
            go_simp
            first | exact Gives.value ⟨rfl, hb⟩ | exact Gives.if2 ⟨rfl, hb⟩ (by assumption)
          simp only [Act.put, List.setIfInBounds_toArray, List.set_cons_zero, List.set_cons_succ, Nat.reduceAdd, Nat.zero_add]
          first
          | refine WalkO.opU rfl rfl rfl ?_; simp only [Act.put, List.setIfInBounds_toArray, List.set_cons_zero, List.set_cons_succ, Nat.reduceAdd, Nat.zero_add]
          | refine' WalkO.opT rfl rfl rfl ?hs4_13 ?hr4_13
            case hs4_13 =>
              intro w' hb
              have hc := (bcell hb).1
              have hz' := hb.size
              go_simp
              first | exact Gives.value ⟨rfl, hb⟩ | exact Gives.if2 ⟨rfl, hb⟩ (by assumption)
            simp only [Act.put, List.setIfInBounds_toArray, List.set_cons_zero, List.set_cons_succ, Nat.reduceAdd, Nat.zero_add]
          first
          | refine WalkO.opU rfl rfl rfl ?_; simp only [Act.put, List.setIfInBounds_toArray, List.set_cons_zero, List.set_cons_succ, Nat.reduceAdd, Nat.zero_add]
          | refine' WalkO.opT rfl rfl rfl ?hs4_14 ?hr4_14
            case hs4_14 =>
              intro w' hb
              have hc := (bcell hb).1
              have hz' := hb.size
              go_simp
              first | exact Gives.value ⟨rfl, hb⟩ | exact Gives.if2 ⟨rfl, hb⟩ (by assumption)
            simp only [Act.put, List.setIfInBounds_toArray, List.set_cons_zero, List.set_cons_succ, Nat.reduceAdd, Nat.zero_add]
          first
          | refine WalkO.opU rfl rfl rfl ?_; simp only [Act.put, List.setIfInBounds_toArray, List.set_cons_zero, List.set_cons_succ, Nat.reduceAdd, Nat.zero_add]
          | refine' WalkO.opT rfl rfl rfl ?hs4_15 ?hr4_15
            case hs4_15 =>
              intro w' hb
              have hc := (bcell hb).1
              have hz' := hb.size
              go_simp
              refine Gives.enter ?_
              first
              | (go_at_call 9; (with_reducible refine (num_any _ _).mono ?_); rintro e wx ⟨rfl, rfl⟩; exact ⟨_, rfl, rfl, hb⟩)
              | (go_at_call 10; (with_reducible refine (dom_is _ _ _ _ _ _ (by assumption)).mono ?_); rintro e wx ⟨rfl, hb3⟩; exact ⟨_, rfl, rfl, bthen hb3 hb hb.size⟩)
              | (go_at_call 10; (with_reducible refine (dom_any _ _ _ _ _).mono ?_); rintro e wx ⟨rfl, hb3⟩; exact ⟨_, rfl, rfl, bthen hb3 hb hb.size⟩)
            simp only [Act.put, List.setIfInBounds_toArray, List.set_cons_zero, List.set_cons_succ, Nat.reduceAdd, Nat.zero_add]
          first
          | refine WalkO.opU rfl rfl rfl ?_; simp only [Act.put, List.setIfInBounds_toArray, List.set_cons_zero, List.set_cons_succ, Nat.reduceAdd, Nat.zero_add]
          | refine' WalkO.opT rfl rfl rfl ?hs4_16 ?hr4_16
            case hs4_16 =>
              intro w' hb
              have hc := (bcell hb).1
              have hz' := hb.size
              go_simp
              first | exact Gives.value ⟨rfl, hb⟩ | exact Gives.if2 ⟨rfl, hb⟩ (by assumption)
            simp only [Act.put, List.setIfInBounds_toArray, List.set_cons_zero, List.set_cons_succ, Nat.reduceAdd, Nat.zero_add]
          first
          | refine WalkO.opU rfl rfl rfl ?_; simp only [Act.put, List.setIfInBounds_toArray, List.set_cons_zero, List.set_cons_succ, Nat.reduceAdd, Nat.zero_add]
          | refine' WalkO.opT rfl rfl rfl ?hs4_17 ?hr4_17
            case hs4_17 =>
              intro w' hb
              have hc := (bcell hb).1
              have hz' := hb.size
              go_simp
              first | exact Gives.value ⟨rfl, hb⟩ | exact Gives.if2 ⟨rfl, hb⟩ (by assumption)
            simp only [Act.put, List.setIfInBounds_toArray, List.set_cons_zero, List.set_cons_succ, Nat.reduceAdd, Nat.zero_add]
          first
          | refine WalkO.opU rfl rfl rfl ?_; simp only [Act.put, List.setIfInBounds_toArray, List.set_cons_zero, List.set_cons_succ, Nat.reduceAdd, Nat.zero_add]
          | refine' WalkO.opT rfl rfl rfl ?hs4_18 ?hr4_18
            case hs4_18 =>
              intro w' hb
              have hc := (bcell hb).1
              have hz' := hb.size
              go_simp
              first | exact Gives.value ⟨rfl, hb⟩ | exact Gives.if2 ⟨rfl, hb⟩ (by assumption)
            simp only [Act.put, List.setIfInBounds_toArray, List.set_cons_zero, List.set_cons_succ, Nat.reduceAdd, Nat.zero_add]
          first
          | refine WalkO.opU rfl rfl rfl ?_; simp only [Act.put, List.setIfInBounds_toArray, List.set_cons_zero, List.set_cons_succ, Nat.reduceAdd, Nat.zero_add]
          | refine' WalkO.opT rfl rfl rfl ?hs4_19 ?hr4_19
            case hs4_19 =>
              intro w' hb
              have hc := (bcell hb).1
              have hz' := hb.size
              go_simp
              first | exact Gives.value ⟨rfl, hb⟩ | exact Gives.if2 ⟨rfl, hb⟩ (by assumption)
            simp only [Act.put, List.setIfInBounds_toArray, List.set_cons_zero, List.set_cons_succ, Nat.reduceAdd, Nat.zero_add]
          refine' WalkO.op rfl ?hs4_20 ?hr4_20
          case hs4_20 =>
            intro w' hb
            have hc := (bcell hb).1
            have hz' := hb.size
            go_simp
            first | exact Gives.value ⟨rfl, hb⟩ | exact Gives.if2 ⟨rfl, hb⟩ (by assumption)
          simp only [Act.put, List.setIfInBounds_toArray, List.set_cons_zero, List.set_cons_succ, Nat.reduceAdd, Nat.zero_add]
          refine' WalkO.op rfl ?hs4_21 ?hr4_21
          case hs4_21 =>
            intro w' hb
            have hc := (bcell hb).1
            have hz' := hb.size
            go_simp
            first | exact Gives.value ⟨rfl, hb⟩ | exact Gives.if2 ⟨rfl, hb⟩ (by assumption)
          simp only [Act.put, List.setIfInBounds_toArray, List.set_cons_zero, List.set_cons_succ, Nat.reduceAdd, Nat.zero_add]
          refine WalkO.stop (fun W2 hb => ?_)
          have zW2_0 : w.heap.size < W2.heap.size := Nat.lt_of_lt_of_le zW_0 hb.size
          have kW2_0_0 := (hb.cell (p := ⟨w.heap.size, 0, none⟩) zW_0).trans kW_0_0
          have kW2_0_1 := (hb.cell (p := ⟨w.heap.size, 1, none⟩) zW_0).trans kW_0_1
          have zW2_1 : w.heap.size + 1 < W2.heap.size := Nat.lt_of_lt_of_le zW_1 hb.size
          have kW2_1_0 := (hb.cell (p := ⟨w.heap.size + 1, 0, none⟩) zW_1).trans kW_1_0
          have kW2_1_1 := (hb.cell (p := ⟨w.heap.size + 1, 1, none⟩) zW_1).trans kW_1_1
          have zW2_2 : w.heap.size + 1 + 1 < W2.heap.size := Nat.lt_of_lt_of_le zW_2 hb.size
          have kW2_2_0 := (hb.cell (p := ⟨w.heap.size + 1 + 1, 0, none⟩) zW_2).trans kW_2_0
          have kW2_2_1 := (hb.cell (p := ⟨w.heap.size + 1 + 1, 1, none⟩) zW_2).trans kW_2_1
          have zW2_3 : w1.heap.size < W2.heap.size := Nat.lt_of_lt_of_le zW_3 hb.size
          have kW2_3_0 := (hb.cell (p := ⟨w1.heap.size, 0, none⟩) zW_3).trans kW_3_0
          have kW2_3_1 := (hb.cell (p := ⟨w1.heap.size, 1, none⟩) zW_3).trans kW_3_1
          have zW2_4 : w1.heap.size + 1 < W2.heap.size := Nat.lt_of_lt_of_le zW_4 hb.size
          have kW2_4_0 := (hb.cell (p := ⟨w1.heap.size + 1, 0, none⟩) zW_4).trans kW_4_0
          have kW2_4_1 := (hb.cell (p := ⟨w1.heap.size + 1, 1, none⟩) zW_4).trans kW_4_1
          have zW2_5 : w1.heap.size + 1 + 1 < W2.heap.size := Nat.lt_of_lt_of_le zW_5 hb.size
          have kW2_5_0 := (hb.cell (p := ⟨w1.heap.size + 1 + 1, 0, none⟩) zW_5).trans kW_5_0
          have kW2_5_1 := (hb.cell (p := ⟨w1.heap.size + 1 + 1, 1, none⟩) zW_5).trans kW_5_1
          have zW2_6 : w2.heap.size < W2.heap.size := Nat.lt_of_lt_of_le zW_6 hb.size
          have kW2_6_0 := (hb.cell (p := ⟨w2.heap.size, 0, none⟩) zW_6).trans kW_6_0
          have kW2_6_1 := (hb.cell (p := ⟨w2.heap.size, 1, none⟩) zW_6).trans kW_6_1
          have zW2_7 : w3.heap.size < W2.heap.size := Nat.lt_of_lt_of_le zW_7 hb.size
          have kW2_7_0 := (hb.cell (p := ⟨w3.heap.size, 0, none⟩) zW_7).trans kW_7_0
          have kW2_7_1 := (hb.cell (p := ⟨w3.heap.size, 1, none⟩) zW_7).trans kW_7_1
          have hBW2 : Below w.heap.size w W2 := bthen hb hBW hBW.size
          have hvW2 := hBW2.size; have hvvW2 := hb.size
          clear hb hBW kW_0_0 kW_0_1 kW_1_0 kW_1_1 kW_2_0 kW_2_1 kW_3_0 kW_3_1 kW_4_0 kW_4_1 kW_5_0 kW_5_1 kW_6_0 kW_6_1 kW_7_0 kW_7_1 zW_0 zW_1 zW_2 zW_3 zW_4 zW_5 zW_6 zW_7
          have HS := SW.start W2; have hB3 := Below.refl W2.heap.size W2; have hc := True.intro
          try go_wp2
          go_returns
          exact ⟨rfl, bthen hB3 hBW2 hBW2.size⟩
    | false =>
      have hy := hhy.out
      simp at hy
      obtain ⟨rfl, rfl⟩ := hy
      have hG := hhG.out
      clear hhx hhy hhG
      cases B with
      | true =>
        have hC := hhC.out
        simp [hA, hB] at hC
        clear hhC
        cases E with
        | true =>
          simp only [Bool.true_and] at hG
          go_wp2_with (first
            | (go_at_call 9; (with_reducible refine (num_any _ _).mono ?_); rintro e wx ⟨rfl, rfl⟩)
            | (go_at_call 10; (with_reducible refine (dom_is _ _ _ _ _ _ (by assumption)).mono ?_); rintro e wx ⟨rfl, hb⟩; have hS' := HS.keep hb; clear hb HS hc hB3; have HS := hS'; clear hS'; have hc := HS.cells; have hB3 := HS.below)
            | (go_at_call 10; (with_reducible refine (dom_any _ _ _ _ _).mono ?_); rintro e wx ⟨rfl, hb⟩; have hS' := HS.keep hb; clear hb HS hc hB3; have HS := hS'; clear hS'; have hc := HS.cells; have hB3 := HS.below))
          have hB3d := hB3.drew
          clear HS hc hB3
          refine wp_region_once (S := fun w' => Below W.heap.size W w') (by kernel_rfl) (by kernel_rfl) hB3d ?_
          clear hB3d
          refine' WalkO.op rfl ?hs5_0 ?hr5_0
          case hs5_0 =>
            intro w' hb
            have hc := (bcell hb).1
            have hz' := hb.size
            go_simp
            first | exact Gives.value ⟨rfl, hb⟩ | exact Gives.if2 ⟨rfl, hb⟩ (by assumption)
          simp only [Act.put, List.setIfInBounds_toArray, List.set_cons_zero, List.set_cons_succ, Nat.reduceAdd, Nat.zero_add]
          refine' WalkO.op rfl ?hs5_1 ?hr5_1
          case hs5_1 =>
            intro w' hb
            have hc := (bcell hb).1
            have hz' := hb.size
            go_simp
            first | exact Gives.value ⟨rfl, hb⟩ | exact Gives.if2 ⟨rfl, hb⟩ (by assumption)
          simp only [Act.put, List.setIfInBounds_toArray, List.set_cons_zero, List.set_cons_succ, Nat.reduceAdd, Nat.zero_add]
          refine' WalkO.op rfl ?hs5_2 ?hr5_2
          case hs5_2 =>
            intro w' hb
            have hc := (bcell hb).1
            have hz' := hb.size
            go_simp
            refine Gives.enter ?_
            first
            | (go_at_call 9; (with_reducible refine (num_any _ _).mono ?_); rintro e wx ⟨rfl, rfl⟩; exact ⟨_, rfl, rfl, hb⟩)
            | (go_at_call 10; (with_reducible refine (dom_is _ _ _ _ _ _ (by assumption)).mono ?_); rintro e wx ⟨rfl, hb3⟩; exact ⟨_, rfl, rfl, bthen hb3 hb hb.size⟩)
            | (go_at_call 10; (with_reducible refine (dom_any _ _ _ _ _).mono ?_); rintro e wx ⟨rfl, hb3⟩; exact ⟨_, rfl, rfl, bthen hb3 hb hb.size⟩)
          simp only [Act.put, List.setIfInBounds_toArray, List.set_cons_zero, List.set_cons_succ, Nat.reduceAdd, Nat.zero_add]
          refine' WalkO.op rfl ?hs5_3 ?hr5_3
          case hs5_3 =>
            intro w' hb
            have hc := (bcell hb).1
            have hz' := hb.size
            go_simp
            first | exact Gives.value ⟨rfl, hb⟩ | exact Gives.if2 ⟨rfl, hb⟩ (by assumption)
          simp only [Act.put, List.setIfInBounds_toArray, List.set_cons_zero, List.set_cons_succ, Nat.reduceAdd, Nat.zero_add]
          first
          | refine WalkO.opU rfl rfl rfl ?_; simp only [Act.put, List.setIfInBounds_toArray, List.set_cons_zero, List.set_cons_succ, Nat.reduceAdd, Nat.zero_add]
          | refine' WalkO.opT rfl rfl rfl ?hs5_4 ?hr5_4
            case hs5_4 =>
              intro w' hb
              have hc := (bcell hb).1
              have hz' := hb.size
              go_simp
              first | exact Gives.value ⟨rfl, hb⟩ | exact Gives.if2 ⟨rfl, hb⟩ (by assumption)
            simp only [Act.put, List.setIfInBounds_toArray, List.set_cons_zero, List.set_cons_succ, Nat.reduceAdd, Nat.zero_add]
          first
          | refine WalkO.opU rfl rfl rfl ?_; simp only [Act.put, List.setIfInBounds_toArray, List.set_cons_zero, List.set_cons_succ, Nat.reduceAdd, Nat.zero_add]
          | refine' WalkO.opT rfl rfl rfl ?hs5_5 ?hr5_5
            case hs5_5 =>
              intro w' hb
              have hc := (bcell hb).1
              have hz' := hb.size
              go_simp
              first | exact Gives.value ⟨rfl, hb⟩ | exact Gives.if2 ⟨rfl, hb⟩ (by assumption)
            simp only [Act.put, List.setIfInBounds_toArray, List.set_cons_zero, List.set_cons_succ, Nat.reduceAdd, Nat.zero_add]
          first
          | refine WalkO.opU rfl rfl rfl ?_; simp only [Act.put, List.setIfInBounds_toArray, List.set_cons_zero, List.set_cons_succ, Nat.reduceAdd, Nat.zero_add]
          | refine' WalkO.opT rfl rfl rfl ?hs5_6 ?hr5_6
            case hs5_6 =>
              intro w' hb
              have hc := (bcell hb).1
              have hz' := hb.size
              go_simp
              refine Gives.enter ?_
              first
              | (go_at_call 9; (with_reducible refine (num_any _ _).mono ?_); rintro e wx ⟨rfl, rfl⟩; exact ⟨_, rfl, rfl, hb⟩)
              | (go_at_call 10; (with_reducible refine (dom_is _ _ _ _ _ _ (by assumption)).mono ?_); rintro e wx ⟨rfl, hb3⟩; exact ⟨_, rfl, rfl, bthen hb3 hb hb.size⟩)
              | (go_at_call 10; (with_reducible refine (dom_any _ _ _ _ _).mono ?_); rintro e wx ⟨rfl, hb3⟩; exact ⟨_, rfl, rfl, bthen hb3 hb hb.size⟩)
            simp only [Act.put, List.setIfInBounds_toArray, List.set_cons_zero, List.set_cons_succ, Nat.reduceAdd, Nat.zero_add]
          refine' WalkO.op rfl ?hs5_7 ?hr5_7
          case hs5_7 =>
            intro w' hb
            have hc := (bcell hb).1
            have hz' := hb.size
            go_simp
            first | exact Gives.value ⟨rfl, hb⟩ | exact Gives.if2 ⟨rfl, hb⟩ (by assumption)
          simp only [Act.put, List.setIfInBounds_toArray, List.set_cons_zero, List.set_cons_succ, Nat.reduceAdd, Nat.zero_add]
          refine' WalkO.op rfl ?hs5_8 ?hr5_8
          case hs5_8 =>
            intro w' hb
            have hc := (bcell hb).1
            have hz' := hb.size
            go_simp
            first | exact Gives.value ⟨rfl, hb⟩ | exact Gives.if2 ⟨rfl, hb⟩ (by assumption)
          simp only [Act.put, List.setIfInBounds_toArray, List.set_cons_zero, List.set_cons_succ, Nat.reduceAdd, Nat.zero_add]
          refine' WalkO.op rfl ?hs5_9 ?hr5_9
          case hs5_9 =>
            intro w' hb
            have hc := (bcell hb).1
            have hz' := hb.size
            go_simp
            first | exact Gives.value ⟨rfl, hb⟩ | exact Gives.if2 ⟨rfl, hb⟩ (by assumption)
          simp only [Act.put, List.setIfInBounds_toArray, List.set_cons_zero, List.set_cons_succ, Nat.reduceAdd, Nat.zero_add]
          refine' WalkO.op rfl ?hs5_10 ?hr5_10
          case hs5_10 =>
            intro w' hb
            have hc := (bcell hb).1
            have hz' := hb.size
            go_simp
            refine Gives.enter ?_
            first
            | (go_at_call 9; (with_reducible refine (num_any _ _).mono ?_); rintro e wx ⟨rfl, rfl⟩; exact ⟨_, rfl, rfl, hb⟩)
            | (go_at_call 10; (with_reducible refine (dom_is _ _ _ _ _ _ (by assumption)).mono ?_); rintro e wx ⟨rfl, hb3⟩; exact ⟨_, rfl, rfl, bthen hb3 hb hb.size⟩)
            | (go_at_call 10; (with_reducible refine (dom_any _ _ _ _ _).mono ?_); rintro e wx ⟨rfl, hb3⟩; exact ⟨_, rfl, rfl, bthen hb3 hb hb.size⟩)
          simp only [Act.put, List.setIfInBounds_toArray, List.set_cons_zero, List.set_cons_succ, Nat.reduceAdd, Nat.zero_add]
          refine' WalkO.op rfl ?hs5_11 ?hr5_11
          case hs5_11 =>
            intro w' hb
            have hc := (bcell hb).1
            have hz' := hb.size
            go_simp
            first | exact Gives.value ⟨rfl, hb⟩ | exact Gives.if2 ⟨rfl, hb⟩ (by assumption)
          simp only [Act.put, List.setIfInBounds_toArray, List.set_cons_zero, List.set_cons_succ, Nat.reduceAdd, Nat.zero_add]
          refine' WalkO.op rfl ?hs5_12 ?hr5_12
          case hs5_12 =>
            intro w' hb
            have hc := (bcell hb).1
            have hz' := hb.size
            go_simp
            first | exact Gives.value ⟨rfl, hb⟩ | exact Gives.if2 ⟨rfl, hb⟩ (by assumption)
          simp only [Act.put, List.setIfInBounds_toArray, List.set_cons_zero, List.set_cons_succ, Nat.reduceAdd, Nat.zero_add]
          first
          | refine WalkO.opU rfl rfl rfl ?_; simp only [Act.put, List.setIfInBounds_toArray, List.set_cons_zero, List.set_cons_succ, Nat.reduceAdd, Nat.zero_add]
          | refine' WalkO.opT rfl rfl rfl ?hs5_13 ?hr5_13
            case hs5_13 =>
              intro w' hb
              have hc := (bcell hb).1
              have hz' := hb.size
              go_simp
              first | exact Gives.value ⟨rfl, hb⟩ | exact Gives.if2 ⟨rfl, hb⟩ (by assumption)
            simp only [Act.put, List.setIfInBounds_toArray, List.set_cons_zero, List.set_cons_succ, Nat.reduceAdd, Nat.zero_add]
          first
          | refine WalkO.opU rfl rfl rfl ?_; simp only [Act.put, List.setIfInBounds_toArray, List.set_cons_zero, List.set_cons_succ, Nat.reduceAdd, Nat.zero_add]
          | refine' WalkO.opT rfl rfl rfl ?hs5_14 ?hr5_14
            case hs5_14 =>
              intro w' hb
              have hc := (bcell hb).1
              have hz' := hb.size
              go_simp
              first | exact Gives.value ⟨rfl, hb⟩ | exact Gives.if2 ⟨rfl, hb⟩ (by assumption)
            simp only [Act.put, List.setIfInBounds_toArray, List.set_cons_zero, List.set_cons_succ, Nat.reduceAdd, Nat.zero_add]
          first
          | refine WalkO.opU rfl rfl rfl ?_; simp only [Act.put, List.setIfInBounds_toArray, List.set_cons_zero, List.set_cons_succ, Nat.reduceAdd, Nat.zero_add]
          | refine' WalkO.opT rfl rfl rfl ?hs5_15 ?hr5_15
            case hs5_15 =>
              intro w' hb
              have hc := (bcell hb).1
              have hz' := hb.size
              go_simp
              refine Gives.enter ?_
              first
              | (go_at_call 9; (with_reducible refine (num_any _ _).mono ?_); rintro e wx ⟨rfl, rfl⟩; exact ⟨_, rfl, rfl, hb⟩)
              | (go_at_call 10; (with_reducible refine (dom_is _ _ _ _ _ _ (by assumption)).mono ?_); rintro e wx ⟨rfl, hb3⟩; exact ⟨_, rfl, rfl, bthen hb3 hb hb.size⟩)
              | (go_at_call 10; (with_reducible refine (dom_any _ _ _ _ _).mono ?_); rintro e wx ⟨rfl, hb3⟩; exact ⟨_, rfl, rfl, bthen hb3 hb hb.size⟩)
            simp only [Act.put, List.setIfInBounds_toArray, List.set_cons_zero, List.set_cons_succ, Nat.reduceAdd, Nat.zero_add]
          first
          | refine WalkO.opU rfl rfl rfl ?_; simp only [Act.put, List.setIfInBounds_toArray, List.set_cons_zero, List.set_cons_succ, Nat.reduceAdd, Nat.zero_add]
          | refine' WalkO.opT rfl rfl rfl ?hs5_16 ?hr5_16
            case hs5_16 =>
              intro w' hb
              have hc := (bcell hb).1
              have hz' := hb.size
              go_simp
              first | exact Gives.value ⟨rfl, hb⟩ | exact Gives.if2 ⟨rfl, hb⟩ (by assumption)
            simp only [Act.put, List.setIfInBounds_toArray, List.set_cons_zero, List.set_cons_succ, Nat.reduceAdd, Nat.zero_add]
          first
          | refine WalkO.opU rfl rfl rfl ?_; simp only [Act.put, List.setIfInBounds_toArray, List.set_cons_zero, List.set_cons_succ, Nat.reduceAdd, Nat.zero_add]
          | refine' WalkO.opT rfl rfl rfl ?hs5_17 ?hr5_17
            case hs5_17 =>
              intro w' hb
              have hc := (bcell hb).1
              have hz' := hb.size
              go_simp
              first | exact Gives.value ⟨rfl, hb⟩ | exact Gives.if2 ⟨rfl, hb⟩ (by assumption)
            simp only [Act.put, List.setIfInBounds_toArray, List.set_cons_zero, List.set_cons_succ, Nat.reduceAdd, Nat.zero_add]
          first
          | refine WalkO.opU rfl rfl rfl ?_; simp only [Act.put, List.setIfInBounds_toArray, List.set_cons_zero, List.set_cons_succ, Nat.reduceAdd, Nat.zero_add]
          | refine' WalkO.opT rfl rfl rfl ?hs5_18 ?hr5_18
            case hs5_18 =>
              intro w' hb
              have hc := (bcell hb).1
              have hz' := hb.size
              go_simp
              first | exact Gives.value ⟨rfl, hb⟩ | exact Gives.if2 ⟨rfl, hb⟩ (by assumption)
            simp only [Act.put, List.setIfInBounds_toArray, List.set_cons_zero, List.set_cons_succ, Nat.reduceAdd, Nat.zero_add]
          first
          | refine WalkO.opU rfl rfl rfl ?_; simp only [Act.put, List.setIfInBounds_toArray, List.set_cons_zero, List.set_cons_succ, Nat.reduceAdd, Nat.zero_add]
          | refine' WalkO.opT rfl rfl rfl ?hs5_19 ?hr5_19
            case hs5_19 =>
              intro w' hb
              have hc := (bcell hb).1
              have hz' := hb.size
              go_simp
              first | exact Gives.value ⟨rfl, hb⟩ | exact Gives.if2 ⟨rfl, hb⟩ (by assumption)
            simp only [Act.put, List.setIfInBounds_toArray, List.set_cons_zero, List.set_cons_succ, Nat.reduceAdd, Nat.zero_add]
          refine' WalkO.op rfl ?hs5_20 ?hr5_20
          case hs5_20 =>
            intro w' hb
            have hc := (bcell hb).1
            have hz' := hb.size
            go_simp
            first | exact Gives.value ⟨rfl, hb⟩ | exact Gives.if2 ⟨rfl, hb⟩ (by assumption)
          simp only [Act.put, List.setIfInBounds_toArray, List.set_cons_zero, List.set_cons_succ, Nat.reduceAdd, Nat.zero_add]
          refine' WalkO.op rfl ?hs5_21 ?hr5_21
          case hs5_21 =>
            intro w' hb
            have hc := (bcell hb).1
            have hz' := hb.size
            go_simp
            first | exact Gives.value ⟨rfl, hb⟩ | exact Gives.if2 ⟨rfl, hb⟩ (by assumption)
          simp only [Act.put, List.setIfInBounds_toArray, List.set_cons_zero, List.set_cons_succ, Nat.reduceAdd, Nat.zero_add]
          refine WalkO.stop (fun W2 hb => ?_)
          have zW2_0 : w.heap.size < W2.heap.size := Nat.lt_of_lt_of_le zW_0 hb.size
          have kW2_0_0 := (hb.cell (p := ⟨w.heap.size, 0, none⟩) zW_0).trans kW_0_0
          have kW2_0_1 := (hb.cell (p := ⟨w.heap.size, 1, none⟩) zW_0).trans kW_0_1
          have zW2_1 : w.heap.size + 1 < W2.heap.size := Nat.lt_of_lt_of_le zW_1 hb.size
          have kW2_1_0 := (hb.cell (p := ⟨w.heap.size + 1, 0, none⟩) zW_1).trans kW_1_0
          have kW2_1_1 := (hb.cell (p := ⟨w.heap.size + 1, 1, none⟩) zW_1).trans kW_1_1
          have zW2_2 : w.heap.size + 1 + 1 < W2.heap.size := Nat.lt_of_lt_of_le zW_2 hb.size
          have kW2_2_0 := (hb.cell (p := ⟨w.heap.size + 1 + 1, 0, none⟩) zW_2).trans kW_2_0
          have kW2_2_1 := (hb.cell (p := ⟨w.heap.size + 1 + 1, 1, none⟩) zW_2).trans kW_2_1
          have zW2_3 : w1.heap.size < W2.heap.size := Nat.lt_of_lt_of_le zW_3 hb.size
          have kW2_3_0 := (hb.cell (p := ⟨w1.heap.size, 0, none⟩) zW_3).trans kW_3_0
          have kW2_3_1 := (hb.cell (p := ⟨w1.heap.size, 1, none⟩) zW_3).trans kW_3_1
          have zW2_4 : w1.heap.size + 1 < W2.heap.size := Nat.lt_of_lt_of_le zW_4 hb.size
          have kW2_4_0 := (hb.cell (p := ⟨w1.heap.size + 1, 0, none⟩) zW_4).trans kW_4_0
          have kW2_4_1 := (hb.cell (p := ⟨w1.heap.size + 1, 1, none⟩) zW_4).trans kW_4_1
          have zW2_5 : w1.heap.size + 1 + 1 < W2.heap.size := Nat.lt_of_lt_of_le zW_5 hb.size
          have kW2_5_0 := (hb.cell (p := ⟨w1.heap.size + 1 + 1, 0, none⟩) zW_5).trans kW_5_0
          have kW2_5_1 := (hb.cell (p := ⟨w1.heap.size + 1 + 1, 1, none⟩) zW_5).trans kW_5_1
          have zW2_6 : w2.heap.size < W2.heap.size := Nat.lt_of_lt_of_le zW_6 hb.size
          have kW2_6_0 := (hb.cell (p := ⟨w2.heap.size, 0, none⟩) zW_6).trans kW_6_0
          have kW2_6_1 := (hb.cell (p := ⟨w2.heap.size, 1, none⟩) zW_6).trans kW_6_1
          have zW2_7 : w3.heap.size < W2.heap.size := Nat.lt_of_lt_of_le zW_7 hb.size
          have kW2_7_0 := (hb.cell (p := ⟨w3.heap.size, 0, none⟩) zW_7).trans kW_7_0
          have kW2_7_1 := (hb.cell (p := ⟨w3.heap.size, 1, none⟩) zW_7).trans kW_7_1
          have hBW2 : Below w.heap.size w W2 := bthen hb hBW hBW.size
          have hvW2 := hBW2.size; have hvvW2 := hb.size
          clear hb hBW kW_0_0 kW_0_1 kW_1_0 kW_1_1 kW_2_0 kW_2_1 kW_3_0 kW_3_1 kW_4_0 kW_4_1 kW_5_0 kW_5_1 kW_6_0 kW_6_1 kW_7_0 kW_7_1 zW_0 zW_1 zW_2 zW_3 zW_4 zW_5 zW_6 zW_7
          have HS := SW.start W2; have hB3 := Below.refl W2.heap.size W2; have hc := True.intro
          try go_wp2
          go_returns
          exact ⟨rfl, bthen hB3 hBW2 hBW2.size⟩
        | false =>
          simp only [Bool.false_and] at hG
          have hG' := hG.symm
          clear hG
          go_wp2_with (first
            | (go_at_call 9; (with_reducible refine (num_any _ _).mono ?_); rintro e wx ⟨rfl, rfl⟩)
            | (go_at_call 10; (with_reducible refine (dom_is _ _ _ _ _ _ (by assumption)).mono ?_); rintro e wx ⟨rfl, hb⟩; have hS' := HS.keep hb; clear hb HS hc hB3; have HS := hS'; clear hS'; have hc := HS.cells; have hB3 := HS.below)
            | (go_at_call 10; (with_reducible refine (dom_any _ _ _ _ _).mono ?_); rintro e wx ⟨rfl, hb⟩; have hS' := HS.keep hb; clear hb HS hc hB3; have HS := hS'; clear hS'; have hc := HS.cells; have hB3 := HS.below))
          have hB3d := hB3.drew
          clear HS hc hB3
          refine wp_region_once (S := fun w' => Below W.heap.size W w') (by kernel_rfl) (by kernel_rfl) hB3d ?_
          clear hB3d
          refine' WalkO.op rfl ?hs6_0 ?hr6_0
          case hs6_0 =>
            intro w' hb
            have hc := (bcell hb).1
            have hz' := hb.size
            go_simp
            first | exact Gives.value ⟨rfl, hb⟩ | exact Gives.if2 ⟨rfl, hb⟩ (by assumption)
          simp only [Act.put, List.setIfInBounds_toArray, List.set_cons_zero, List.set_cons_succ, Nat.reduceAdd, Nat.zero_add]
          refine' WalkO.op rfl ?hs6_1 ?hr6_1
          case hs6_1 =>
            intro w' hb
            have hc := (bcell hb).1
            have hz' := hb.size
            go_simp
            first | exact Gives.value ⟨rfl, hb⟩ | exact Gives.if2 ⟨rfl, hb⟩ (by assumption)
          simp only [Act.put, List.setIfInBounds_toArray, List.set_cons_zero, List.set_cons_succ, Nat.reduceAdd, Nat.zero_add]
          refine' WalkO.op rfl ?hs6_2 ?hr6_2
          case hs6_2 =>
            intro w' hb
            have hc := (bcell hb).1
            have hz' := hb.size
            go_simp
            refine Gives.enter ?_
            first
            | (go_at_call 9; (with_reducible refine (num_any _ _).mono ?_); rintro e wx ⟨rfl, rfl⟩; exact ⟨_, rfl, rfl, hb⟩)
            | (go_at_call 10; (with_reducible refine (dom_is _ _ _ _ _ _ (by assumption)).mono ?_); rintro e wx ⟨rfl, hb3⟩; exact ⟨_, rfl, rfl, bthen hb3 hb hb.size⟩)
            | (go_at_call 10; (with_reducible refine (dom_any _ _ _ _ _).mono ?_); rintro e wx ⟨rfl, hb3⟩; exact ⟨_, rfl, rfl, bthen hb3 hb hb.size⟩)
          simp only [Act.put, List.setIfInBounds_toArray, List.set_cons_zero, List.set_cons_succ, Nat.reduceAdd, Nat.zero_add]
          refine' WalkO.op rfl ?hs6_3 ?hr6_3
          case hs6_3 =>
            intro w' hb
            have hc := (bcell hb).1
            have hz' := hb.size
            go_simp
            first | exact Gives.value ⟨rfl, hb⟩ | exact Gives.if2 ⟨rfl, hb⟩ (by assumption)
          simp only [Act.put, List.setIfInBounds_toArray, List.set_cons_zero, List.set_cons_succ, Nat.reduceAdd, Nat.zero_add]
          first
          | refine WalkO.opU rfl rfl rfl ?_; simp only [Act.put, List.setIfInBounds_toArray, List.set_cons_zero, List.set_cons_succ, Nat.reduceAdd, Nat.zero_add]
          | refine' WalkO.opT rfl rfl rfl ?hs6_4 ?hr6_4
            case hs6_4 =>
              intro w' hb
              have hc := (bcell hb).1
              have hz' := hb.size
              go_simp
              first | exact Gives.value ⟨rfl, hb⟩ | exact Gives.if2 ⟨rfl, hb⟩ (by assumption)
            simp only [Act.put, List.setIfInBounds_toArray, List.set_cons_zero, List.set_cons_succ, Nat.reduceAdd, Nat.zero_add]
          first
          | refine WalkO.opU rfl rfl rfl ?_; simp only [Act.put, List.setIfInBounds_toArray, List.set_cons_zero, List.set_cons_succ, Nat.reduceAdd, Nat.zero_add]
          | refine' WalkO.opT rfl rfl rfl ?hs6_5 ?hr6_5
            case hs6_5 =>
              intro w' hb
              have hc := (bcell hb).1
              have hz' := hb.size
              go_simp
              first | exact Gives.value ⟨rfl, hb⟩ | exact Gives.if2 ⟨rfl, hb⟩ (by assumption)
            simp only [Act.put, List.setIfInBounds_toArray, List.set_cons_zero, List.set_cons_succ, Nat.reduceAdd, Nat.zero_add]
          first
          | refine WalkO.opU rfl rfl rfl ?_; simp only [Act.put, List.setIfInBounds_toArray, List.set_cons_zero, List.set_cons_succ, Nat.reduceAdd, Nat.zero_add]
          | refine' WalkO.opT rfl rfl rfl ?hs6_6 ?hr6_6
            case hs6_6 =>
              intro w' hb
              have hc := (bcell hb).1
              have hz' := hb.size
              go_simp
              refine Gives.enter ?_
              first
              | (go_at_call 9; (with_reducible refine (num_any _ _).mono ?_); rintro e wx ⟨rfl, rfl⟩; exact ⟨_, rfl, rfl, hb⟩)
              | (go_at_call 10; (with_reducible refine (dom_is _ _ _ _ _ _ (by assumption)).mono ?_); rintro e wx ⟨rfl, hb3⟩; exact ⟨_, rfl, rfl, bthen hb3 hb hb.size⟩)
              | (go_at_call 10; (with_reducible refine (dom_any _ _ _ _ _).mono ?_); rintro e wx ⟨rfl, hb3⟩; exact ⟨_, rfl, rfl, bthen hb3 hb hb.size⟩)
            simp only [Act.put, List.setIfInBounds_toArray, List.set_cons_zero, List.set_cons_succ, Nat.reduceAdd, Nat.zero_add]
          refine' WalkO.op rfl ?hs6_7 ?hr6_7
          case hs6_7 =>
            intro w' hb
            have hc := (bcell hb).1
            have hz' := hb.size
            go_simp
            first | exact Gives.value ⟨rfl, hb⟩ | exact Gives.if2 ⟨rfl, hb⟩ (by assumption)
          simp only [Act.put, List.setIfInBounds_toArray, List.set_cons_zero, List.set_cons_succ, Nat.reduceAdd, Nat.zero_add]
          refine' WalkO.op rfl ?hs6_8 ?hr6_8
          case hs6_8 =>
            intro w' hb
            have hc := (bcell hb).1
            have hz' := hb.size
            go_simp
            first | exact Gives.value ⟨rfl, hb⟩ | exact Gives.if2 ⟨rfl, hb⟩ (by assumption)
          simp only [Act.put, List.setIfInBounds_toArray, List.set_cons_zero, List.set_cons_succ, Nat.reduceAdd, Nat.zero_add]
          refine' WalkO.op rfl ?hs6_9 ?hr6_9
          case hs6_9 =>
            intro w' hb
            have hc := (bcell hb).1
            have hz' := hb.size
            go_simp
            first | exact Gives.value ⟨rfl, hb⟩ | exact Gives.if2 ⟨rfl, hb⟩ (by assumption)
          simp only [Act.put, List.setIfInBounds_toArray, List.set_cons_zero, List.set_cons_succ, Nat.reduceAdd, Nat.zero_add]
          refine' WalkO.op rfl ?hs6_10 ?hr6_10
          case hs6_10 =>
            intro w' hb
            have hc := (bcell hb).1
            have hz' := hb.size
            go_simp
            refine Gives.enter ?_
            first
            | (go_at_call 9; (with_reducible refine (num_any _ _).mono ?_); rintro e wx ⟨rfl, rfl⟩; exact ⟨_, rfl, rfl, hb⟩)
            | (go_at_call 10; (with_reducible refine (dom_is _ _ _ _ _ _ (by assumption)).mono ?_); rintro e wx ⟨rfl, hb3⟩; exact ⟨_, rfl, rfl, bthen hb3 hb hb.size⟩)
            | (go_at_call 10; (with_reducible refine (dom_any _ _ _ _ _).mono ?_); rintro e wx ⟨rfl, hb3⟩; exact ⟨_, rfl, rfl, bthen hb3 hb hb.size⟩)
          simp only [Act.put, List.setIfInBounds_toArray, List.set_cons_zero, List.set_cons_succ, Nat.reduceAdd, Nat.zero_add]
          refine' WalkO.op rfl ?hs6_11 ?hr6_11
          case hs6_11 =>
            intro w' hb
            have hc := (bcell hb).1
            have hz' := hb.size
            go_simp
            first | exact Gives.value ⟨rfl, hb⟩ | exact Gives.if2 ⟨rfl, hb⟩ (by assumption)
          simp only [Act.put, List.setIfInBounds_toArray, List.set_cons_zero, List.set_cons_succ, Nat.reduceAdd, Nat.zero_add]
          refine' WalkO.op rfl ?hs6_12 ?hr6_12
          case hs6_12 =>
            intro w' hb
            have hc := (bcell hb).1
            have hz' := hb.size
            go_simp
            first | exact Gives.value ⟨rfl, hb⟩ | exact Gives.if2 ⟨rfl, hb⟩ (by assumption)
          simp only [Act.put, List.setIfInBounds_toArray, List.set_cons_zero, List.set_cons_succ, Nat.reduceAdd, Nat.zero_add]
          first
          | refine WalkO.opU rfl rfl rfl ?_; simp only [Act.put, List.setIfInBounds_toArray, List.set_cons_zero, List.set_cons_succ, Nat.reduceAdd, Nat.zero_add]
          | refine' WalkO.opT rfl rfl rfl ?hs6_13 ?hr6_13
            case hs6_13 =>
              intro w' hb
              have hc := (bcell hb).1
              have hz' := hb.size
              go_simp
              first | exact Gives.value ⟨rfl, hb⟩ | exact Gives.if2 ⟨rfl, hb⟩ (by assumption)
            simp only [Act.put, List.setIfInBounds_toArray, List.set_cons_zero, List.set_cons_succ, Nat.reduceAdd, Nat.zero_add]
          first
          | refine WalkO.opU rfl rfl rfl ?_; simp only [Act.put, List.setIfInBounds_toArray, List.set_cons_zero, List.set_cons_succ, Nat.reduceAdd, Nat.zero_add]
          | refine' WalkO.opT rfl rfl rfl ?hs6_14 ?hr6_14
            case hs6_14 =>
              intro w' hb
              have hc := (bcell hb).1
              have hz' := hb.size
              go_simp
              first | exact Gives.value ⟨rfl, hb⟩ | exact Gives.if2 ⟨rfl, hb⟩ (by assumption)
            simp only [Act.put, List.setIfInBounds_toArray, List.set_cons_zero, List.set_cons_succ, Nat.reduceAdd, Nat.zero_add]
          first
          | refine WalkO.opU rfl rfl rfl ?_; simp only [Act.put, List.setIfInBounds_toArray, List.set_cons_zero, List.set_cons_succ, Nat.reduceAdd, Nat.zero_add]
          | refine' WalkO.opT rfl rfl rfl ?hs6_15 ?hr6_15
            case hs6_15 =>
              intro w' hb
              have hc := (bcell hb).1
              have hz' := hb.size
              go_simp
              refine Gives.enter ?_
              first
              | (go_at_call 9; (with_reducible refine (num_any _ _).mono ?_); rintro e wx ⟨rfl, rfl⟩; exact ⟨_, rfl, rfl, hb⟩)
              | (go_at_call 10; (with_reducible refine (dom_is _ _ _ _ _ _ (by assumption)).mono ?_); rintro e wx ⟨rfl, hb3⟩; exact ⟨_, rfl, rfl, bthen hb3 hb hb.size⟩)
              | (go_at_call 10; (with_reducible refine (dom_any _ _ _ _ _).mono ?_); rintro e wx ⟨rfl, hb3⟩; exact ⟨_, rfl, rfl, bthen hb3 hb hb.size⟩)
            simp only [Act.put, List.setIfInBounds_toArray, List.set_cons_zero, List.set_cons_succ, Nat.reduceAdd, Nat.zero_add]
          first
          | refine WalkO.opU rfl rfl rfl ?_; simp only [Act.put, List.setIfInBounds_toArray, List.set_cons_zero, List.set_cons_succ, Nat.reduceAdd, Nat.zero_add]
          | refine' WalkO.opT rfl rfl rfl ?hs6_16 ?hr6_16
            case hs6_16 =>
              intro w' hb
              have hc := (bcell hb).1
              have hz' := hb.size
              go_simp
              first | exact Gives.value ⟨rfl, hb⟩ | exact Gives.if2 ⟨rfl, hb⟩ (by assumption)
            simp only [Act.put, List.setIfInBounds_toArray, List.set_cons_zero, List.set_cons_succ, Nat.reduceAdd, Nat.zero_add]
          first
          | refine WalkO.opU rfl rfl rfl ?_; simp only [Act.put, List.setIfInBounds_toArray, List.set_cons_zero, List.set_cons_succ, Nat.reduceAdd, Nat.zero_add]
          | refine' WalkO.opT rfl rfl rfl ?hs6_17 ?hr6_17
            case hs6_17 =>
              intro w' hb
              have hc := (bcell hb).1
              have hz' := hb.size
              go_simp
              first | exact Gives.value ⟨rfl, hb⟩ | exact Gives.if2 ⟨rfl, hb⟩ (by assumption)
            simp only [Act.put, List.setIfInBounds_toArray, List.set_cons_zero, List.set_cons_succ, Nat.reduceAdd, Nat.zero_add]
          first
          | refine WalkO.opU rfl rfl rfl ?_; simp only [Act.put, List.setIfInBounds_toArray, List.set_cons_zero, List.set_cons_succ, Nat.reduceAdd, Nat.zero_add]
          | refine' WalkO.opT rfl rfl rfl ?hs6_18 ?hr6_18
            case hs6_18 =>
              intro w' hb
              have hc := (bcell hb).1
              have hz' := hb.size
              go_simp
              first | exact Gives.value ⟨rfl, hb⟩ | exact Gives.if2 ⟨rfl, hb⟩ (by assumption)
            simp only [Act.put, List.setIfInBounds_toArray, List.set_cons_zero, List.set_cons_succ, Nat.reduceAdd, Nat.zero_add]
          first
          | refine WalkO.opU rfl rfl rfl ?_; simp only [Act.put, List.setIfInBounds_toArray, List.set_cons_zero, List.set_cons_succ, Nat.reduceAdd, Nat.zero_add]
          | refine' WalkO.opT rfl rfl rfl ?hs6_19 ?hr6_19
            case hs6_19 =>
              intro w' hb
              have hc := (bcell hb).1
              have hz' := hb.size
              go_simp
              first | exact Gives.value ⟨rfl, hb⟩ | exact Gives.if2 ⟨rfl, hb⟩ (by assumption)
            simp only [Act.put, List.setIfInBounds_toArray, List.set_cons_zero, List.set_cons_succ, Nat.reduceAdd, Nat.zero_add]
          refine' WalkO.op rfl ?hs6_20 ?hr6_20
          case hs6_20 =>
            intro w' hb
            have hc := (bcell hb).1
            have hz' := hb.size
            go_simp
            first | exact Gives.value ⟨rfl, hb⟩ | exact Gives.if2 ⟨rfl, hb⟩ (by assumption)
          simp only [Act.put, List.setIfInBounds_toArray, List.set_cons_zero, List.set_cons_succ, Nat.reduceAdd, Nat.zero_add]
          refine' WalkO.op rfl ?hs6_21 ?hr6_21
          case hs6_21 =>
            intro w' hb
            have hc := (bcell hb).1
            have hz' := hb.size
            go_simp
            first | exact Gives.value ⟨rfl, hb⟩ | exact Gives.if2 ⟨rfl, hb⟩ (by assumption)
          simp only [Act.put, List.setIfInBounds_toArray, List.set_cons_zero, List.set_cons_succ, Nat.reduceAdd, Nat.zero_add]
          refine WalkO.stop (fun W2 hb => ?_)
          have zW2_0 : w.heap.size < W2.heap.size := Nat.lt_of_lt_of_le zW_0 hb.size
          have kW2_0_0 := (hb.cell (p := ⟨w.heap.size, 0, none⟩) zW_0).trans kW_0_0
          have kW2_0_1 := (hb.cell (p := ⟨w.heap.size, 1, none⟩) zW_0).trans kW_0_1
          have zW2_1 : w.heap.size + 1 < W2.heap.size := Nat.lt_of_lt_of_le zW_1 hb.size
          have kW2_1_0 := (hb.cell (p := ⟨w.heap.size + 1, 0, none⟩) zW_1).trans kW_1_0
          have kW2_1_1 := (hb.cell (p := ⟨w.heap.size + 1, 1, none⟩) zW_1).trans kW_1_1
          have zW2_2 : w.heap.size + 1 + 1 < W2.heap.size := Nat.lt_of_lt_of_le zW_2 hb.size
          have kW2_2_0 := (hb.cell (p := ⟨w.heap.size + 1 + 1, 0, none⟩) zW_2).trans kW_2_0
          have kW2_2_1 := (hb.cell (p := ⟨w.heap.size + 1 + 1, 1, none⟩) zW_2).trans kW_2_1
          have zW2_3 : w1.heap.size < W2.heap.size := Nat.lt_of_lt_of_le zW_3 hb.size
          have kW2_3_0 := (hb.cell (p := ⟨w1.heap.size, 0, none⟩) zW_3).trans kW_3_0
          have kW2_3_1 := (hb.cell (p := ⟨w1.heap.size, 1, none⟩) zW_3).trans kW_3_1
          have zW2_4 : w1.heap.size + 1 < W2.heap.size := Nat.lt_of_lt_of_le zW_4 hb.size
          have kW2_4_0 := (hb.cell (p := ⟨w1.heap.size + 1, 0, none⟩) zW_4).trans kW_4_0
          have kW2_4_1 := (hb.cell (p := ⟨w1.heap.size + 1, 1, none⟩) zW_4).trans kW_4_1
          have zW2_5 : w1.heap.size + 1 + 1 < W2.heap.size := Nat.lt_of_lt_of_le zW_5 hb.size
          have kW2_5_0 := (hb.cell (p := ⟨w1.heap.size + 1 + 1, 0, none⟩) zW_5).trans kW_5_0
          have kW2_5_1 := (hb.cell (p := ⟨w1.heap.size + 1 + 1, 1, none⟩) zW_5).trans kW_5_1
          have zW2_6 : w2.heap.size < W2.heap.size := Nat.lt_of_lt_of_le zW_6 hb.size
          have kW2_6_0 := (hb.cell (p := ⟨w2.heap.size, 0, none⟩) zW_6).trans kW_6_0
          have kW2_6_1 := (hb.cell (p := ⟨w2.heap.size, 1, none⟩) zW_6).trans kW_6_1
          have zW2_7 : w3.heap.size < W2.heap.size := Nat.lt_of_lt_of_le zW_7 hb.size
          have kW2_7_0 := (hb.cell (p := ⟨w3.heap.size, 0, none⟩) zW_7).trans kW_7_0
          have kW2_7_1 := (hb.cell (p := ⟨w3.heap.size, 1, none⟩) zW_7).trans kW_7_1
          have hBW2 : Below w.heap.size w W2 := bthen hb hBW hBW.size
          have hvW2 := hBW2.size; have hvvW2 := hb.size
          clear hb hBW kW_0_0 kW_0_1 kW_1_0 kW_1_1 kW_2_0 kW_2_1 kW_3_0 kW_3_1 kW_4_0 kW_4_1 kW_5_0 kW_5_1 kW_6_0 kW_6_1 kW_7_0 kW_7_1 zW_0 zW_1 zW_2 zW_3 zW_4 zW_5 zW_6 zW_7
          have HS := SW.start W2; have hB3 := Below.refl W2.heap.size W2; have hc := True.intro
          try go_wp2
          go_returns
          exact ⟨rfl, bthen hB3 hBW2 hBW2.size⟩
      | false =>
        clear hhC
        cases E with
        | true =>
          simp only [Bool.true_and] at hG
          go_wp2_with (first
            | (go_at_call 9; (with_reducible refine (num_any _ _).mono ?_); rintro e wx ⟨rfl, rfl⟩)
            | (go_at_call 10; (with_reducible refine (dom_is _ _ _ _ _ _ (by assumption)).mono ?_); rintro e wx ⟨rfl, hb⟩; have hS' := HS.keep hb; clear hb HS hc hB3; have HS := hS'; clear hS'; have hc := HS.cells; have hB3 := HS.below)
            | (go_at_call 10; (with_reducible refine (dom_any _ _ _ _ _).mono ?_); rintro e wx ⟨rfl, hb⟩; have hS' := HS.keep hb; clear hb HS hc hB3; have HS := hS'; clear hS'; have hc := HS.cells; have hB3 := HS.below))
          have hB3d := hB3.drew
          clear HS hc hB3
          refine wp_region_once (S := fun w' => Below W.heap.size W w') (by kernel_rfl) (by kernel_rfl) hB3d ?_
          clear hB3d
          refine' WalkO.op rfl ?hs7_0 ?hr7_0
          case hs7_0 =>
            intro w' hb
            have hc := (bcell hb).1
            have hz' := hb.size
            go_simp
            first | exact Gives.value ⟨rfl, hb⟩ | exact Gives.if2 ⟨rfl, hb⟩ (by assumption)
          simp only [Act.put, List.setIfInBounds_toArray, List.set_cons_zero, List.set_cons_succ, Nat.reduceAdd, Nat.zero_add]
          refine' WalkO.op rfl ?hs7_1 ?hr7_1
          case hs7_1 =>
            intro w' hb
            have hc := (bcell hb).1
            have hz' := hb.size
            go_simp
            first | exact Gives.value ⟨rfl, hb⟩ | exact Gives.if2 ⟨rfl, hb⟩ (by assumption)
          simp only [Act.put, List.setIfInBounds_toArray, List.set_cons_zero, List.set_cons_succ, Nat.reduceAdd, Nat.zero_add]
          refine' WalkO.op rfl ?hs7_2 ?hr7_2
          case hs7_2 =>
            intro w' hb
            have hc := (bcell hb).1
            have hz' := hb.size
            go_simp
            refine Gives.enter ?_
            first
            | (go_at_call 9; (with_reducible refine (num_any _ _).mono ?_); rintro e wx ⟨rfl, rfl⟩; exact ⟨_, rfl, rfl, hb⟩)
            | (go_at_call 10; (with_reducible refine (dom_is _ _ _ _ _ _ (by assumption)).mono ?_); rintro e wx ⟨rfl, hb3⟩; exact ⟨_, rfl, rfl, bthen hb3 hb hb.size⟩)
            | (go_at_call 10; (with_reducible refine (dom_any _ _ _ _ _).mono ?_); rintro e wx ⟨rfl, hb3⟩; exact ⟨_, rfl, rfl, bthen hb3 hb hb.size⟩)
          simp only [Act.put, List.setIfInBounds_toArray, List.set_cons_zero, List.set_cons_succ, Nat.reduceAdd, Nat.zero_add]
          refine' WalkO.op rfl ?hs7_3 ?hr7_3
          case hs7_3 =>
            intro w' hb
            have hc := (bcell hb).1
            have hz' := hb.size
            go_simp
            first | exact Gives.value ⟨rfl, hb⟩ | exact Gives.if2 ⟨rfl, hb⟩ (by assumption)
          simp only [Act.put, List.setIfInBounds_toArray, List.set_cons_zero, List.set_cons_succ, Nat.reduceAdd, Nat.zero_add]
          first
          | refine WalkO.opU rfl rfl rfl ?_; simp only [Act.put, List.setIfInBounds_toArray, List.set_cons_zero, List.set_cons_succ, Nat.reduceAdd, Nat.zero_add]
          | refine' WalkO.opT rfl rfl rfl ?hs7_4 ?hr7_4
            case hs7_4 =>
              intro w' hb
              have hc := (bcell hb).1
              have hz' := hb.size
              go_simp
              first | exact Gives.value ⟨rfl, hb⟩ | exact Gives.if2 ⟨rfl, hb⟩ (by assumption)
            simp only [Act.put, List.setIfInBounds_toArray, List.set_cons_zero, List.set_cons_succ, Nat.reduceAdd, Nat.zero_add]
          first
          | refine WalkO.opU rfl rfl rfl ?_; simp only [Act.put, List.setIfInBounds_toArray, List.set_cons_zero, List.set_cons_succ, Nat.reduceAdd, Nat.zero_add]
          | refine' WalkO.opT rfl rfl rfl ?hs7_5 ?hr7_5
            case hs7_5 =>
              intro w' hb
              have hc := (bcell hb).1
              have hz' := hb.size
              go_simp
              first | exact Gives.value ⟨rfl, hb⟩ | exact Gives.if2 ⟨rfl, hb⟩ (by assumption)
            simp only [Act.put, List.setIfInBounds_toArray, List.set_cons_zero, List.set_cons_succ, Nat.reduceAdd, Nat.zero_add]
          first
          | refine WalkO.opU rfl rfl rfl ?_; simp only [Act.put, List.setIfInBounds_toArray, List.set_cons_zero, List.set_cons_succ, Nat.reduceAdd, Nat.zero_add]
          | refine' WalkO.opT rfl rfl rfl ?hs7_6 ?hr7_6
            case hs7_6 =>
              intro w' hb
              have hc := (bcell hb).1
              have hz' := hb.size
              go_simp
              refine Gives.enter ?_
              first
              | (go_at_call 9; (with_reducible refine (num_any _ _).mono ?_); rintro e wx ⟨rfl, rfl⟩; exact ⟨_, rfl, rfl, hb⟩)
              | (go_at_call 10; (with_reducible refine (dom_is _ _ _ _ _ _ (by assumption)).mono ?_); rintro e wx ⟨rfl, hb3⟩; exact ⟨_, rfl, rfl, bthen hb3 hb hb.size⟩)
              | (go_at_call 10; (with_reducible refine (dom_any _ _ _ _ _).mono ?_); rintro e wx ⟨rfl, hb3⟩; exact ⟨_, rfl, rfl, bthen hb3 hb hb.size⟩)
            simp only [Act.put, List.setIfInBounds_toArray, List.set_cons_zero, List.set_cons_succ, Nat.reduceAdd, Nat.zero_add]
          refine' WalkO.op rfl ?hs7_7 ?hr7_7
          case hs7_7 =>
            intro w' hb
            have hc := (bcell hb).1
            have hz' := hb.size
            go_simp
            first | exact Gives.value ⟨rfl, hb⟩ | exact Gives.if2 ⟨rfl, hb⟩ (by assumption)
          simp only [Act.put, List.setIfInBounds_toArray, List.set_cons_zero, List.set_cons_succ, Nat.reduceAdd, Nat.zero_add]
          refine' WalkO.op rfl ?hs7_8 ?hr7_8
          case hs7_8 =>
            intro w' hb
            have hc := (bcell hb).1
            have hz' := hb.size
            go_simp
            first | exact Gives.value ⟨rfl, hb⟩ | exact Gives.if2 ⟨rfl, hb⟩ (by assumption)
          simp only [Act.put, List.setIfInBounds_toArray, List.set_cons_zero, List.set_cons_succ, Nat.reduceAdd, Nat.zero_add]
          refine' WalkO.op rfl ?hs7_9 ?hr7_9
          case hs7_9 =>
            intro w' hb
            have hc := (bcell hb).1
            have hz' := hb.size
            go_simp
            first | exact Gives.value ⟨rfl, hb⟩ | exact Gives.if2 ⟨rfl, hb⟩ (by assumption)
          simp only [Act.put, List.setIfInBounds_toArray, List.set_cons_zero, List.set_cons_succ, Nat.reduceAdd, Nat.zero_add]
          refine' WalkO.op rfl ?hs7_10 ?hr7_10
          case hs7_10 =>
            intro w' hb
            have hc := (bcell hb).1
            have hz' := hb.size
            go_simp
            refine Gives.enter ?_
            first
            | (go_at_call 9; (with_reducible refine (num_any _ _).mono ?_); rintro e wx ⟨rfl, rfl⟩; exact ⟨_, rfl, rfl, hb⟩)
            | (go_at_call 10; (with_reducible refine (dom_is _ _ _ _ _ _ (by assumption)).mono ?_); rintro e wx ⟨rfl, hb3⟩; exact ⟨_, rfl, rfl, bthen hb3 hb hb.size⟩)
            | (go_at_call 10; (with_reducible refine (dom_any _ _ _ _ _).mono ?_); rintro e wx ⟨rfl, hb3⟩; exact ⟨_, rfl, rfl, bthen hb3 hb hb.size⟩)
          simp only [Act.put, List.setIfInBounds_toArray, List.set_cons_zero, List.set_cons_succ, Nat.reduceAdd, Nat.zero_add]
          refine' WalkO.op rfl ?hs7_11 ?hr7_11
          case hs7_11 =>
            intro w' hb
            have hc := (bcell hb).1
            have hz' := hb.size
            go_simp
            first | exact Gives.value ⟨rfl, hb⟩ | exact Gives.if2 ⟨rfl, hb⟩ (by assumption)
          simp only [Act.put, List.setIfInBounds_toArray, List.set_cons_zero, List.set_cons_succ, Nat.reduceAdd, Nat.zero_add]
          refine' WalkO.op rfl ?hs7_12 ?hr7_12
          case hs7_12 =>
            intro w' hb
            have hc := (bcell hb).1
            have hz' := hb.size
            go_simp
            first | exact Gives.value ⟨rfl, hb⟩ | exact Gives.if2 ⟨rfl, hb⟩ (by assumption)
          simp only [Act.put, List.setIfInBounds_toArray, List.set_cons_zero, List.set_cons_succ, Nat.reduceAdd, Nat.zero_add]
          first
          | refine WalkO.opU rfl rfl rfl ?_; simp only [Act.put, List.setIfInBounds_toArray, List.set_cons_zero, List.set_cons_succ, Nat.reduceAdd, Nat.zero_add]
          | refine' WalkO.opT rfl rfl rfl ?hs7_13 ?hr7_13
            case hs7_13 =>
              intro w' hb
              have hc := (bcell hb).1
              have hz' := hb.size
              go_simp
              first | exact Gives.value ⟨rfl, hb⟩ | exact Gives.if2 ⟨rfl, hb⟩ (by assumption)
            simp only [Act.put, List.setIfInBounds_toArray, List.set_cons_zero, List.set_cons_succ, Nat.reduceAdd, Nat.zero_add]
          first
          | refine WalkO.opU rfl rfl rfl ?_; simp only [Act.put, List.setIfInBounds_toArray, List.set_cons_zero, List.set_cons_succ, Nat.reduceAdd, Nat.zero_add]
          | refine' WalkO.opT rfl rfl rfl ?hs7_14 ?hr7_14
            case hs7_14 =>
              intro w' hb
              have hc := (bcell hb).1
              have hz' := hb.size
              go_simp
              first | exact Gives.value ⟨rfl, hb⟩ | exact Gives.if2 ⟨rfl, hb⟩ (by assumption)
            simp only [Act.put, List.setIfInBounds_toArray, List.set_cons_zero, List.set_cons_succ, Nat.reduceAdd, Nat.zero_add]
          first
          | refine WalkO.opU rfl rfl rfl ?_; simp only [Act.put, List.setIfInBounds_toArray, List.set_cons_zero, List.set_cons_succ, Nat.reduceAdd, Nat.zero_add]
          | refine' WalkO.opT rfl rfl rfl ?hs7_15 ?hr7_15
            case hs7_15 =>
              intro w' hb
              have hc := (bcell hb).1
              have hz' := hb.size
              go_simp
              refine Gives.enter ?_
              first
              | (go_at_call 9; (with_reducible refine (num_any _ _).mono ?_); rintro e wx ⟨rfl, rfl⟩; exact ⟨_, rfl, rfl, hb⟩)
              | (go_at_call 10; (with_reducible refine (dom_is _ _ _ _ _ _ (by assumption)).mono ?_); rintro e wx ⟨rfl, hb3⟩; exact ⟨_, rfl, rfl, bthen hb3 hb hb.size⟩)
              | (go_at_call 10; (with_reducible refine (dom_any _ _ _ _ _).mono ?_); rintro e wx ⟨rfl, hb3⟩; exact ⟨_, rfl, rfl, bthen hb3 hb hb.size⟩)
            simp only [Act.put, List.setIfInBounds_toArray, List.set_cons_zero, List.set_cons_succ, Nat.reduceAdd, Nat.zero_add]
          first
          | refine WalkO.opU rfl rfl rfl ?_; simp only [Act.put, List.setIfInBounds_toArray, List.set_cons_zero, List.set_cons_succ, Nat.reduceAdd, Nat.zero_add]
          | refine' WalkO.opT rfl rfl rfl ?hs7_16 ?hr7_16
            case hs7_16 =>
              intro w' hb
              have hc := (bcell hb).1
              have hz' := hb.size
              go_simp
              first | exact Gives.value ⟨rfl, hb⟩ | exact Gives.if2 ⟨rfl, hb⟩ (by assumption)
            simp only [Act.put, List.setIfInBounds_toArray, List.set_cons_zero, List.set_cons_succ, Nat.reduceAdd, Nat.zero_add]
          first
          | refine WalkO.opU rfl rfl rfl ?_; simp only [Act.put, List.setIfInBounds_toArray, List.set_cons_zero, List.set_cons_succ, Nat.reduceAdd, Nat.zero_add]
          | refine' WalkO.opT rfl rfl rfl ?hs7_17 ?hr7_17
            case hs7_17 =>
              intro w' hb
              have hc := (bcell hb).1
              have hz' := hb.size
              go_simp
              first | exact Gives.value ⟨rfl, hb⟩ | exact Gives.if2 ⟨rfl, hb⟩ (by assumption)
            simp only [Act.put, List.setIfInBounds_toArray, List.set_cons_zero, List.set_cons_succ, Nat.reduceAdd, Nat.zero_add]
          first
          | refine WalkO.opU rfl rfl rfl ?_; simp only [Act.put, List.setIfInBounds_toArray, List.set_cons_zero, List.set_cons_succ, Nat.reduceAdd, Nat.zero_add]
          | refine' WalkO.opT rfl rfl rfl ?hs7_18 ?hr7_18
            case hs7_18 =>
              intro w' hb
              have hc := (bcell hb).1
              have hz' := hb.size
              go_simp
              first | exact Gives.value ⟨rfl, hb⟩ | exact Gives.if2 ⟨rfl, hb⟩ (by assumption)
            simp only [Act.put, List.setIfInBounds_toArray, List.set_cons_zero, List.set_cons_succ, Nat.reduceAdd, Nat.zero_add]
          first
          | refine WalkO.opU rfl rfl rfl ?_; simp only [Act.put, List.setIfInBounds_toArray, List.set_cons_zero, List.set_cons_succ, Nat.reduceAdd, Nat.zero_add]
          | refine' WalkO.opT rfl rfl rfl ?hs7_19 ?hr7_19
            case hs7_19 =>
              intro w' hb
              have hc := (bcell hb).1
              have hz' := hb.size
              go_simp
              first | exact Gives.value ⟨rfl, hb⟩ | exact Gives.if2 ⟨rfl, hb⟩ (by assumption)
            simp only [Act.put, List.setIfInBounds_toArray, List.set_cons_zero, List.set_cons_succ, Nat.reduceAdd, Nat.zero_add]
          refine' WalkO.op rfl ?hs7_20 ?hr7_20
          case hs7_20 =>
            intro w' hb
            have hc := (bcell hb).1
            have hz' := hb.size
            go_simp
            first | exact Gives.value ⟨rfl, hb⟩ | exact Gives.if2 ⟨rfl, hb⟩ (by assumption)
          simp only [Act.put, List.setIfInBounds_toArray, List.set_cons_zero, List.set_cons_succ, Nat.reduceAdd, Nat.zero_add]
          refine' WalkO.op rfl ?hs7_21 ?hr7_21
          case hs7_21 =>
            intro w' hb
            have hc := (bcell hb).1
            have hz' := hb.size
            go_simp
            first | exact Gives.value ⟨rfl, hb⟩ | exact Gives.if2 ⟨rfl, hb⟩ (by assumption)
          simp only [Act.put, List.setIfInBounds_toArray, List.set_cons_zero, List.set_cons_succ, Nat.reduceAdd, Nat.zero_add]
          refine WalkO.stop (fun W2 hb => ?_)
          have zW2_0 : w.heap.size < W2.heap.size := Nat.lt_of_lt_of_le zW_0 hb.size
          have kW2_0_0 := (hb.cell (p := ⟨w.heap.size, 0, none⟩) zW_0).trans kW_0_0
          have kW2_0_1 := (hb.cell (p := ⟨w.heap.size, 1, none⟩) zW_0).trans kW_0_1
          have zW2_1 : w.heap.size + 1 < W2.heap.size := Nat.lt_of_lt_of_le zW_1 hb.size
          have kW2_1_0 := (hb.cell (p := ⟨w.heap.size + 1, 0, none⟩) zW_1).trans kW_1_0
          have kW2_1_1 := (hb.cell (p := ⟨w.heap.size + 1, 1, none⟩) zW_1).trans kW_1_1
          have zW2_2 : w.heap.size + 1 + 1 < W2.heap.size := Nat.lt_of_lt_of_le zW_2 hb.size
          have kW2_2_0 := (hb.cell (p := ⟨w.heap.size + 1 + 1, 0, none⟩) zW_2).trans kW_2_0
          have kW2_2_1 := (hb.cell (p := ⟨w.heap.size + 1 + 1, 1, none⟩) zW_2).trans kW_2_1
          have zW2_3 : w1.heap.size < W2.heap.size := Nat.lt_of_lt_of_le zW_3 hb.size
          have kW2_3_0 := (hb.cell (p := ⟨w1.heap.size, 0, none⟩) zW_3).trans kW_3_0
          have kW2_3_1 := (hb.cell (p := ⟨w1.heap.size, 1, none⟩) zW_3).trans kW_3_1
          have zW2_4 : w1.heap.size + 1 < W2.heap.size := Nat.lt_of_lt_of_le zW_4 hb.size
          have kW2_4_0 := (hb.cell (p := ⟨w1.heap.size + 1, 0, none⟩) zW_4).trans kW_4_0
          have kW2_4_1 := (hb.cell (p := ⟨w1.heap.size + 1, 1, none⟩) zW_4).trans kW_4_1
          have zW2_5 : w1.heap.size + 1 + 1 < W2.heap.size := Nat.lt_of_lt_of_le zW_5 hb.size
          have kW2_5_0 := (hb.cell (p := ⟨w1.heap.size + 1 + 1, 0, none⟩) zW_5).trans kW_5_0
          have kW2_5_1 := (hb.cell (p := ⟨w1.heap.size + 1 + 1, 1, none⟩) zW_5).trans kW_5_1
          have zW2_6 : w2.heap.size < W2.heap.size := Nat.lt_of_lt_of_le zW_6 hb.size
          have kW2_6_0 := (hb.cell (p := ⟨w2.heap.size, 0, none⟩) zW_6).trans kW_6_0
          have kW2_6_1 := (hb.cell (p := ⟨w2.heap.size, 1, none⟩) zW_6).trans kW_6_1
          have zW2_7 : w3.heap.size < W2.heap.size := Nat.lt_of_lt_of_le zW_7 hb.size
          have kW2_7_0 := (hb.cell (p := ⟨w3.heap.size, 0, none⟩) zW_7).trans kW_7_0
          have kW2_7_1 := (hb.cell (p := ⟨w3.heap.size, 1, none⟩) zW_7).trans kW_7_1
          have hBW2 : Below w.heap.size w W2 := bthen hb hBW hBW.size
          have hvW2 := hBW2.size; have hvvW2 := hb.size
          clear hb hBW kW_0_0 kW_0_1 kW_1_0 kW_1_1 kW_2_0 kW_2_1 kW_3_0 kW_3_1 kW_4_0 kW_4_1 kW_5_0 kW_5_1 kW_6_0 kW_6_1 kW_7_0 kW_7_1 zW_0 zW_1 zW_2 zW_3 zW_4 zW_5 zW_6 zW_7
          have HS := SW.start W2; have hB3 := Below.refl W2.heap.size W2; have hc := True.intro
          try go_wp2
          go_returns
          exact ⟨rfl, bthen hB3 hBW2 hBW2.size⟩
        | false =>
          simp only [Bool.false_and] at hG
          have hG' := hG.symm
          clear hG
          go_wp2_with (first
            | (go_at_call 9; (with_reducible refine (num_any _ _).mono ?_); rintro e wx ⟨rfl, rfl⟩)
            | (go_at_call 10; (with_reducible refine (dom_is _ _ _ _ _ _ (by assumption)).mono ?_); rintro e wx ⟨rfl, hb⟩; have hS' := HS.keep hb; clear hb HS hc hB3; have HS := hS'; clear hS'; have hc := HS.cells; have hB3 := HS.below)
            | (go_at_call 10; (with_reducible refine (dom_any _ _ _ _ _).mono ?_); rintro e wx ⟨rfl, hb⟩; have hS' := HS.keep hb; clear hb HS hc hB3; have HS := hS'; clear hS'; have hc := HS.cells; have hB3 := HS.below))
          have hB3d := hB3.drew
          clear HS hc hB3
          refine wp_region_once (S := fun w' => Below W.heap.size W w') (by kernel_rfl) (by kernel_rfl) hB3d ?_
          clear hB3d
          refine' WalkO.op rfl ?hs8_0 ?hr8_0
          case hs8_0 =>
            intro w' hb
            have hc := (bcell hb).1
            have hz' := hb.size
            go_simp
            first | exact Gives.value ⟨rfl, hb⟩ | exact Gives.if2 ⟨rfl, hb⟩ (by assumption)
          simp only [Act.put, List.setIfInBounds_toArray, List.set_cons_zero, List.set_cons_succ, Nat.reduceAdd, Nat.zero_add]
          refine' WalkO.op rfl ?hs8_1 ?hr8_1
          case hs8_1 =>
            intro w' hb
            have hc := (bcell hb).1
            have hz' := hb.size
            go_simp
            first | exact Gives.value ⟨rfl, hb⟩ | exact Gives.if2 ⟨rfl, hb⟩ (by assumption)
          simp only [Act.put, List.setIfInBounds_toArray, List.set_cons_zero, List.set_cons_succ, Nat.reduceAdd, Nat.zero_add]
          refine' WalkO.op rfl ?hs8_2 ?hr8_2
          case hs8_2 =>
            intro w' hb
            have hc := (bcell hb).1
            have hz' := hb.size
            go_simp
            refine Gives.enter ?_
            first
            | (go_at_call 9; (with_reducible refine (num_any _ _).mono ?_); rintro e wx ⟨rfl, rfl⟩; exact ⟨_, rfl, rfl, hb⟩)
            | (go_at_call 10; (with_reducible refine (dom_is _ _ _ _ _ _ (by assumption)).mono ?_); rintro e wx ⟨rfl, hb3⟩; exact ⟨_, rfl, rfl, bthen hb3 hb hb.size⟩)
            | (go_at_call 10; (with_reducible refine (dom_any _ _ _ _ _).mono ?_); rintro e wx ⟨rfl, hb3⟩; exact ⟨_, rfl, rfl, bthen hb3 hb hb.size⟩)
          simp only [Act.put, List.setIfInBounds_toArray, List.set_cons_zero, List.set_cons_succ, Nat.reduceAdd, Nat.zero_add]
          refine' WalkO.op rfl ?hs8_3 ?hr8_3
          case hs8_3 =>
            intro w' hb
            have hc := (bcell hb).1
            have hz' := hb.size
            go_simp
            first | exact Gives.value ⟨rfl, hb⟩ | exact Gives.if2 ⟨rfl, hb⟩ (by assumption)
          simp only [Act.put, List.setIfInBounds_toArray, List.set_cons_zero, List.set_cons_succ, Nat.reduceAdd, Nat.zero_add]
          first
          | refine WalkO.opU rfl rfl rfl ?_; simp only [Act.put, List.setIfInBounds_toArray, List.set_cons_zero, List.set_cons_succ, Nat.reduceAdd, Nat.zero_add]
          | refine' WalkO.opT rfl rfl rfl ?hs8_4 ?hr8_4
            case hs8_4 =>
              intro w' hb
              have hc := (bcell hb).1
              have hz' := hb.size
              go_simp
              first | exact Gives.value ⟨rfl, hb⟩ | exact Gives.if2 ⟨rfl, hb⟩ (by assumption)
            simp only [Act.put, List.setIfInBounds_toArray, List.set_cons_zero, List.set_cons_succ, Nat.reduceAdd, Nat.zero_add]
          first
          | refine WalkO.opU rfl rfl rfl ?_; simp only [Act.put, List.setIfInBounds_toArray, List.set_cons_zero, List.set_cons_succ, Nat.reduceAdd, Nat.zero_add]
          | refine' WalkO.opT rfl rfl rfl ?hs8_5 ?hr8_5
            case hs8_5 =>
              intro w' hb
              have hc := (bcell hb).1
              have hz' := hb.size
              go_simp
              first | exact Gives.value ⟨rfl, hb⟩ | exact Gives.if2 ⟨rfl, hb⟩ (by assumption)
            simp only [Act.put, List.setIfInBounds_toArray, List.set_cons_zero, List.set_cons_succ, Nat.reduceAdd, Nat.zero_add]
          first
          | refine WalkO.opU rfl rfl rfl ?_; simp only [Act.put, List.setIfInBounds_toArray, List.set_cons_zero, List.set_cons_succ, Nat.reduceAdd, Nat.zero_add]
          | refine' WalkO.opT rfl rfl rfl ?hs8_6 ?hr8_6
            case hs8_6 =>
              intro w' hb
              have hc := (bcell hb).1
              have hz' := hb.size
              go_simp
              refine Gives.enter ?_
              first
              | (go_at_call 9; (with_reducible refine (num_any _ _).mono ?_); rintro e wx ⟨rfl, rfl⟩; exact ⟨_, rfl, rfl, hb⟩)
              | (go_at_call 10; (with_reducible refine (dom_is _ _ _ _ _ _ (by assumption)).mono ?_); rintro e wx ⟨rfl, hb3⟩; exact ⟨_, rfl, rfl, bthen hb3 hb hb.size⟩)
              | (go_at_call 10; (with_reducible refine (dom_any _ _ _ _ _).mono ?_); rintro e wx ⟨rfl, hb3⟩; exact ⟨_, rfl, rfl, bthen hb3 hb hb.size⟩)
            simp only [Act.put, List.setIfInBounds_toArray, List.set_cons_zero, List.set_cons_succ, Nat.reduceAdd, Nat.zero_add]
          refine' WalkO.op rfl ?hs8_7 ?hr8_7
          case hs8_7 =>
            intro w' hb
            have hc := (bcell hb).1
            have hz' := hb.size
            go_simp
            first | exact Gives.value ⟨rfl, hb⟩ | exact Gives.if2 ⟨rfl, hb⟩ (by assumption)
          simp only [Act.put, List.setIfInBounds_toArray, List.set_cons_zero, List.set_cons_succ, Nat.reduceAdd, Nat.zero_add]
          refine' WalkO.op rfl ?hs8_8 ?hr8_8
          case hs8_8 =>
            intro w' hb
            have hc := (bcell hb).1
            have hz' := hb.size
            go_simp
            first | exact Gives.value ⟨rfl, hb⟩ | exact Gives.if2 ⟨rfl, hb⟩ (by assumption)
          simp only [Act.put, List.setIfInBounds_toArray, List.set_cons_zero, List.set_cons_succ, Nat.reduceAdd, Nat.zero_add]
          refine' WalkO.op rfl ?hs8_9 ?hr8_9
          case hs8_9 =>
            intro w' hb
            have hc := (bcell hb).1
            have hz' := hb.size
            go_simp
            first | exact Gives.value ⟨rfl, hb⟩ | exact Gives.if2 ⟨rfl, hb⟩ (by assumption)
          simp only [Act.put, List.setIfInBounds_toArray, List.set_cons_zero, List.set_cons_succ, Nat.reduceAdd, Nat.zero_add]
          refine' WalkO.op rfl ?hs8_10 ?hr8_10
          case hs8_10 =>
            intro w' hb
            have hc := (bcell hb).1
            have hz' := hb.size
            go_simp
            refine Gives.enter ?_
            first
            | (go_at_call 9; (with_reducible refine (num_any _ _).mono ?_); rintro e wx ⟨rfl, rfl⟩; exact ⟨_, rfl, rfl, hb⟩)
            | (go_at_call 10; (with_reducible refine (dom_is _ _ _ _ _ _ (by assumption)).mono ?_); rintro e wx ⟨rfl, hb3⟩; exact ⟨_, rfl, rfl, bthen hb3 hb hb.size⟩)
            | (go_at_call 10; (with_reducible refine (dom_any _ _ _ _ _).mono ?_); rintro e wx ⟨rfl, hb3⟩; exact ⟨_, rfl, rfl, bthen hb3 hb hb.size⟩)
          simp only [Act.put, List.setIfInBounds_toArray, List.set_cons_zero, List.set_cons_succ, Nat.reduceAdd, Nat.zero_add]
          refine' WalkO.op rfl ?hs8_11 ?hr8_11
          case hs8_11 =>
            intro w' hb
            have hc := (bcell hb).1
            have hz' := hb.size
            go_simp
            first | exact Gives.value ⟨rfl, hb⟩ | exact Gives.if2 ⟨rfl, hb⟩ (by assumption)
          simp only [Act.put, List.setIfInBounds_toArray, List.set_cons_zero, List.set_cons_succ, Nat.reduceAdd, Nat.zero_add]
          refine' WalkO.op rfl ?hs8_12 ?hr8_12
          case hs8_12 =>
            intro w' hb
            have hc := (bcell hb).1
            have hz' := hb.size
            go_simp
            first | exact Gives.value ⟨rfl, hb⟩ | exact Gives.if2 ⟨rfl, hb⟩ (by assumption)
          simp only [Act.put, List.setIfInBounds_toArray, List.set_cons_zero, List.set_cons_succ, Nat.reduceAdd, Nat.zero_add]
          first
          | refine WalkO.opU rfl rfl rfl ?_; simp only [Act.put, List.setIfInBounds_toArray, List.set_cons_zero, List.set_cons_succ, Nat.reduceAdd, Nat.zero_add]
          | refine' WalkO.opT rfl rfl rfl ?hs8_13 ?hr8_13
            case hs8_13 =>
              intro w' hb
              have hc := (bcell hb).1
              have hz' := hb.size
              go_simp
              first | exact Gives.value ⟨rfl, hb⟩ | exact Gives.if2 ⟨rfl, hb⟩ (by assumption)
            simp only [Act.put, List.setIfInBounds_toArray, List.set_cons_zero, List.set_cons_succ, Nat.reduceAdd, Nat.zero_add]
          first
          | refine WalkO.opU rfl rfl rfl ?_; simp only [Act.put, List.setIfInBounds_toArray, List.set_cons_zero, List.set_cons_succ, Nat.reduceAdd, Nat.zero_add]
          | refine' WalkO.opT rfl rfl rfl ?hs8_14 ?hr8_14
            case hs8_14 =>
              intro w' hb
              have hc := (bcell hb).1
              have hz' := hb.size
              go_simp
              first | exact Gives.value ⟨rfl, hb⟩ | exact Gives.if2 ⟨rfl, hb⟩ (by assumption)
            simp only [Act.put, List.setIfInBounds_toArray, List.set_cons_zero, List.set_cons_succ, Nat.reduceAdd, Nat.zero_add]
          first
          | refine WalkO.opU rfl rfl rfl ?_; simp only [Act.put, List.setIfInBounds_toArray, List.set_cons_zero, List.set_cons_succ, Nat.reduceAdd, Nat.zero_add]
          | refine' WalkO.opT rfl rfl rfl ?hs8_15 ?hr8_15
            case hs8_15 =>
              intro w' hb
              have hc := (bcell hb).1
              have hz' := hb.size
              go_simp
              refine Gives.enter ?_
              first
              | (go_at_call 9; (with_reducible refine (num_any _ _).mono ?_); rintro e wx ⟨rfl, rfl⟩; exact ⟨_, rfl, rfl, hb⟩)
              | (go_at_call 10; (with_reducible refine (dom_is _ _ _ _ _ _ (by assumption)).mono ?_); rintro e wx ⟨rfl, hb3⟩; exact ⟨_, rfl, rfl, bthen hb3 hb hb.size⟩)
              | (go_at_call 10; (with_reducible refine (dom_any _ _ _ _ _).mono ?_); rintro e wx ⟨rfl, hb3⟩; exact ⟨_, rfl, rfl, bthen hb3 hb hb.size⟩)
            simp only [Act.put, List.setIfInBounds_toArray, List.set_cons_zero, List.set_cons_succ, Nat.reduceAdd, Nat.zero_add]
          first
          | refine WalkO.opU rfl rfl rfl ?_; simp only [Act.put, List.setIfInBounds_toArray, List.set_cons_zero, List.set_cons_succ, Nat.reduceAdd, Nat.zero_add]
          | refine' WalkO.opT rfl rfl rfl ?hs8_16 ?hr8_16
            case hs8_16 =>
              intro w' hb
              have hc := (bcell hb).1
              have hz' := hb.size
              go_simp
              first | exact Gives.value ⟨rfl, hb⟩ | exact Gives.if2 ⟨rfl, hb⟩ (by assumption)
            simp only [Act.put, List.setIfInBounds_toArray, List.set_cons_zero, List.set_cons_succ, Nat.reduceAdd, Nat.zero_add]
          first
          | refine WalkO.opU rfl rfl rfl ?_; simp only [Act.put, List.setIfInBounds_toArray, List.set_cons_zero, List.set_cons_succ, Nat.reduceAdd, Nat.zero_add]
          | refine' WalkO.opT rfl rfl rfl ?hs8_17 ?hr8_17
            case hs8_17 =>
              intro w' hb
              have hc := (bcell hb).1
              have hz' := hb.size
              go_simp
              first | exact Gives.value ⟨rfl, hb⟩ | exact Gives.if2 ⟨rfl, hb⟩ (by assumption)
            simp only [Act.put, List.setIfInBounds_toArray, List.set_cons_zero, List.set_cons_succ, Nat.reduceAdd, Nat.zero_add]
          first
          | refine WalkO.opU rfl rfl rfl ?_; simp only [Act.put, List.setIfInBounds_toArray, List.set_cons_zero, List.set_cons_succ, Nat.reduceAdd, Nat.zero_add]
          | refine' WalkO.opT rfl rfl rfl ?hs8_18 ?hr8_18
            case hs8_18 =>
              intro w' hb
              have hc := (bcell hb).1
              have hz' := hb.size
              go_simp
              first | exact Gives.value ⟨rfl, hb⟩ | exact Gives.if2 ⟨rfl, hb⟩ (by assumption)
            simp only [Act.put, List.setIfInBounds_toArray, List.set_cons_zero, List.set_cons_succ, Nat.reduceAdd, Nat.zero_add]
          first
          | refine WalkO.opU rfl rfl rfl ?_; simp only [Act.put, List.setIfInBounds_toArray, List.set_cons_zero, List.set_cons_succ, Nat.reduceAdd, Nat.zero_add]
          | refine' WalkO.opT rfl rfl rfl ?hs8_19 ?hr8_19
            case hs8_19 =>
              intro w' hb
              have hc := (bcell hb).1
              have hz' := hb.size
              go_simp
              first | exact Gives.value ⟨rfl, hb⟩ | exact Gives.if2 ⟨rfl, hb⟩ (by assumption)
            simp only [Act.put, List.setIfInBounds_toArray, List.set_cons_zero, List.set_cons_succ, Nat.reduceAdd, Nat.zero_add]
          refine' WalkO.op rfl ?hs8_20 ?hr8_20
          case hs8_20 =>
            intro w' hb
            have hc := (bcell hb).1
            have hz' := hb.size
            go_simp
            first | exact Gives.value ⟨rfl, hb⟩ | exact Gives.if2 ⟨rfl, hb⟩ (by assumption)
          simp only [Act.put, List.setIfInBounds_toArray, List.set_cons_zero, List.set_cons_succ, Nat.reduceAdd, Nat.zero_add]
          refine' WalkO.op rfl ?hs8_21 ?hr8_21
          case hs8_21 =>
            intro w' hb
            have hc := (bcell hb).1
            have hz' := hb.size
            go_simp
            first | exact Gives.value ⟨rfl, hb⟩ | exact Gives.if2 ⟨rfl, hb⟩ (by assumption)
          simp only [Act.put, List.setIfInBounds_toArray, List.set_cons_zero, List.set_cons_succ, Nat.reduceAdd, Nat.zero_add]
          refine WalkO.stop (fun W2 hb => ?_)
          have zW2_0 : w.heap.size < W2.heap.size := Nat.lt_of_lt_of_le zW_0 hb.size
          have kW2_0_0 := (hb.cell (p := ⟨w.heap.size, 0, none⟩) zW_0).trans kW_0_0
          have kW2_0_1 := (hb.cell (p := ⟨w.heap.size, 1, none⟩) zW_0).trans kW_0_1
          have zW2_1 : w.heap.size + 1 < W2.heap.size := Nat.lt_of_lt_of_le zW_1 hb.size
          have kW2_1_0 := (hb.cell (p := ⟨w.heap.size + 1, 0, none⟩) zW_1).trans kW_1_0
          have kW2_1_1 := (hb.cell (p := ⟨w.heap.size + 1, 1, none⟩) zW_1).trans kW_1_1
          have zW2_2 : w.heap.size + 1 + 1 < W2.heap.size := Nat.lt_of_lt_of_le zW_2 hb.size
          have kW2_2_0 := (hb.cell (p := ⟨w.heap.size + 1 + 1, 0, none⟩) zW_2).trans kW_2_0
          have kW2_2_1 := (hb.cell (p := ⟨w.heap.size + 1 + 1, 1, none⟩) zW_2).trans kW_2_1
          have zW2_3 : w1.heap.size < W2.heap.size := Nat.lt_of_lt_of_le zW_3 hb.size
          have kW2_3_0 := (hb.cell (p := ⟨w1.heap.size, 0, none⟩) zW_3).trans kW_3_0
          have kW2_3_1 := (hb.cell (p := ⟨w1.heap.size, 1, none⟩) zW_3).trans kW_3_1
          have zW2_4 : w1.heap.size + 1 < W2.heap.size := Nat.lt_of_lt_of_le zW_4 hb.size
          have kW2_4_0 := (hb.cell (p := ⟨w1.heap.size + 1, 0, none⟩) zW_4).trans kW_4_0
          have kW2_4_1 := (hb.cell (p := ⟨w1.heap.size + 1, 1, none⟩) zW_4).trans kW_4_1
          have zW2_5 : w1.heap.size + 1 + 1 < W2.heap.size := Nat.lt_of_lt_of_le zW_5 hb.size
          have kW2_5_0 := (hb.cell (p := ⟨w1.heap.size + 1 + 1, 0, none⟩) zW_5).trans kW_5_0
          have kW2_5_1 := (hb.cell (p := ⟨w1.heap.size + 1 + 1, 1, none⟩) zW_5).trans kW_5_1
          have zW2_6 : w2.heap.size < W2.heap.size := Nat.lt_of_lt_of_le zW_6 hb.size
          have kW2_6_0 := (hb.cell (p := ⟨w2.heap.size, 0, none⟩) zW_6).trans kW_6_0
          have kW2_6_1 := (hb.cell (p := ⟨w2.heap.size, 1, none⟩) zW_6).trans kW_6_1
          have zW2_7 : w3.heap.size < W2.heap.size := Nat.lt_of_lt_of_le zW_7 hb.size
          have kW2_7_0 := (hb.cell (p := ⟨w3.heap.size, 0, none⟩) zW_7).trans kW_7_0
          have kW2_7_1 := (hb.cell (p := ⟨w3.heap.size, 1, none⟩) zW_7).trans kW_7_1
          have hBW2 : Below w.heap.size w W2 := bthen hb hBW hBW.size
          have hvW2 := hBW2.size; have hvvW2 := hb.size
          clear hb hBW kW_0_0 kW_0_1 kW_1_0 kW_1_1 kW_2_0 kW_2_1 kW_3_0 kW_3_1 kW_4_0 kW_4_1 kW_5_0 kW_5_1 kW_6_0 kW_6_1 kW_7_0 kW_7_1 zW_0 zW_1 zW_2 zW_3 zW_4 zW_5 zW_6 zW_7
          have HS := SW.start W2; have hB3 := Below.refl W2.heap.size W2; have hc := True.intro
          try go_wp2
          go_returns
          exact ⟨rfl, bthen hB3 hBW2 hBW2.size⟩
  | false =>
    have hy := hhy.out.symm
    have hG := hhG.out
    clear hhx hhy hhG hhC
    cases E with
    | true =>
      simp only [Bool.true_and] at hG
      go_wp2_with (first
        | (go_at_call 9; (with_reducible refine (num_any _ _).mono ?_); rintro e wx ⟨rfl, rfl⟩)
        | (go_at_call 10; (with_reducible refine (dom_is _ _ _ _ _ _ (by assumption)).mono ?_); rintro e wx ⟨rfl, hb⟩; have hS' := HS.keep hb; clear hb HS hc hB3; have HS := hS'; clear hS'; have hc := HS.cells; have hB3 := HS.below)
        | (go_at_call 10; (with_reducible refine (dom_any _ _ _ _ _).mono ?_); rintro e wx ⟨rfl, hb⟩; have hS' := HS.keep hb; clear hb HS hc hB3; have HS := hS'; clear hS'; have hc := HS.cells; have hB3 := HS.below))
      have hB3d := hB3.drew
      clear HS hc hB3
      refine wp_region_once (S := fun w' => Below W.heap.size W w') (by kernel_rfl) (by kernel_rfl) hB3d ?_
      clear hB3d
      refine' WalkO.op rfl ?hs9_0 ?hr9_0
      case hs9_0 =>
        intro w' hb
        have hc := (bcell hb).1
        have hz' := hb.size
        go_simp
        first | exact Gives.value ⟨rfl, hb⟩ | exact Gives.if2 ⟨rfl, hb⟩ (by assumption)
      simp only [Act.put, List.setIfInBounds_toArray, List.set_cons_zero, List.set_cons_succ, Nat.reduceAdd, Nat.zero_add]
      refine' WalkO.op rfl ?hs9_1 ?hr9_1
      case hs9_1 =>
        intro w' hb
        have hc := (bcell hb).1
        have hz' := hb.size
        go_simp
        first | exact Gives.value ⟨rfl, hb⟩ | exact Gives.if2 ⟨rfl, hb⟩ (by assumption)
      simp only [Act.put, List.setIfInBounds_toArray, List.set_cons_zero, List.set_cons_succ, Nat.reduceAdd, Nat.zero_add]
      refine' WalkO.op rfl ?hs9_2 ?hr9_2
      case hs9_2 =>
        intro w' hb
        have hc := (bcell hb).1
        have hz' := hb.size
        go_simp
        refine Gives.enter ?_
        first
        | (go_at_call 9; (with_reducible refine (num_any _ _).mono ?_); rintro e wx ⟨rfl, rfl⟩; exact ⟨_, rfl, rfl, hb⟩)
        | (go_at_call 10; (with_reducible refine (dom_is _ _ _ _ _ _ (by assumption)).mono ?_); rintro e wx ⟨rfl, hb3⟩; exact ⟨_, rfl, rfl, bthen hb3 hb hb.size⟩)
        | (go_at_call 10; (with_reducible refine (dom_any _ _ _ _ _).mono ?_); rintro e wx ⟨rfl, hb3⟩; exact ⟨_, rfl, rfl, bthen hb3 hb hb.size⟩)
      simp only [Act.put, List.setIfInBounds_toArray, List.set_cons_zero, List.set_cons_succ, Nat.reduceAdd, Nat.zero_add]
      refine' WalkO.op rfl ?hs9_3 ?hr9_3
      case hs9_3 =>
        intro w' hb
        have hc := (bcell hb).1
        have hz' := hb.size
        go_simp
        first | exact Gives.value ⟨rfl, hb⟩ | exact Gives.if2 ⟨rfl, hb⟩ (by assumption)
      simp only [Act.put, List.setIfInBounds_toArray, List.set_cons_zero, List.set_cons_succ, Nat.reduceAdd, Nat.zero_add]
      first
      | refine WalkO.opU rfl rfl rfl ?_; simp only [Act.put, List.setIfInBounds_toArray, List.set_cons_zero, List.set_cons_succ, Nat.reduceAdd, Nat.zero_add]
      | refine' WalkO.opT rfl rfl rfl ?hs9_4 ?hr9_4
        case hs9_4 =>
          intro w' hb
          have hc := (bcell hb).1
          have hz' := hb.size
          go_simp
          first | exact Gives.value ⟨rfl, hb⟩ | exact Gives.if2 ⟨rfl, hb⟩ (by assumption)
        simp only [Act.put, List.setIfInBounds_toArray, List.set_cons_zero, List.set_cons_succ, Nat.reduceAdd, Nat.zero_add]
      first
      | refine WalkO.opU rfl rfl rfl ?_; simp only [Act.put, List.setIfInBounds_toArray, List.set_cons_zero, List.set_cons_succ, Nat.reduceAdd, Nat.zero_add]
      | refine' WalkO.opT rfl rfl rfl ?hs9_5 ?hr9_5
        case hs9_5 =>
          intro w' hb
          have hc := (bcell hb).1
          have hz' := hb.size
          go_simp
          first | exact Gives.value ⟨rfl, hb⟩ | exact Gives.if2 ⟨rfl, hb⟩ (by assumption)
        simp only [Act.put, List.setIfInBounds_toArray, List.set_cons_zero, List.set_cons_succ, Nat.reduceAdd, Nat.zero_add]
      first
      | refine WalkO.opU rfl rfl rfl ?_; simp only [Act.put, List.setIfInBounds_toArray, List.set_cons_zero, List.set_cons_succ, Nat.reduceAdd, Nat.zero_add]
      | refine' WalkO.opT rfl rfl rfl ?hs9_6 ?hr9_6
        case hs9_6 =>
          intro w' hb
          have hc := (bcell hb).1
          have hz' := hb.size
          go_simp
          refine Gives.enter ?_
          first
          | (go_at_call 9; (with_reducible refine (num_any _ _).mono ?_); rintro e wx ⟨rfl, rfl⟩; exact ⟨_, rfl, rfl, hb⟩)
          | (go_at_call 10; (with_reducible refine (dom_is _ _ _ _ _ _ (by assumption)).mono ?_); rintro e wx ⟨rfl, hb3⟩; exact ⟨_, rfl, rfl, bthen hb3 hb hb.size⟩)
          | (go_at_call 10; (with_reducible refine (dom_any _ _ _ _ _).mono ?_); rintro e wx ⟨rfl, hb3⟩; exact ⟨_, rfl, rfl, bthen hb3 hb hb.size⟩)
        simp only [Act.put, List.setIfInBounds_toArray, List.set_cons_zero, List.set_cons_succ, Nat.reduceAdd, Nat.zero_add]
      refine' WalkO.op rfl ?hs9_7 ?hr9_7
      case hs9_7 =>
        intro w' hb
        have hc := (bcell hb).1
        have hz' := hb.size
        go_simp
        first | exact Gives.value ⟨rfl, hb⟩ | exact Gives.if2 ⟨rfl, hb⟩ (by assumption)
      simp only [Act.put, List.setIfInBounds_toArray, List.set_cons_zero, List.set_cons_succ, Nat.reduceAdd, Nat.zero_add]
      refine' WalkO.op rfl ?hs9_8 ?hr9_8
      case hs9_8 =>
        intro w' hb
        have hc := (bcell hb).1
        have hz' := hb.size
        go_simp
        first | exact Gives.value ⟨rfl, hb⟩ | exact Gives.if2 ⟨rfl, hb⟩ (by assumption)
      simp only [Act.put, List.setIfInBounds_toArray, List.set_cons_zero, List.set_cons_succ, Nat.reduceAdd, Nat.zero_add]
      refine' WalkO.op rfl ?hs9_9 ?hr9_9
      case hs9_9 =>
        intro w' hb
        have hc := (bcell hb).1
        have hz' := hb.size
        go_simp
        first | exact Gives.value ⟨rfl, hb⟩ | exact Gives.if2 ⟨rfl, hb⟩ (by assumption)
      simp only [Act.put, List.setIfInBounds_toArray, List.set_cons_zero, List.set_cons_succ, Nat.reduceAdd, Nat.zero_add]
      refine' WalkO.op rfl ?hs9_10 ?hr9_10
      case hs9_10 =>
        intro w' hb
        have hc := (bcell hb).1
        have hz' := hb.size
        go_simp
        refine Gives.enter ?_
        first
        | (go_at_call 9; (with_reducible refine (num_any _ _).mono ?_); rintro e wx ⟨rfl, rfl⟩; exact ⟨_, rfl, rfl, hb⟩)
        | (go_at_call 10; (with_reducible refine (dom_is _ _ _ _ _ _ (by assumption)).mono ?_); rintro e wx ⟨rfl, hb3⟩; exact ⟨_, rfl, rfl, bthen hb3 hb hb.size⟩)
        | (go_at_call 10; (with_reducible refine (dom_any _ _ _ _ _).mono ?_); rintro e wx ⟨rfl, hb3⟩; exact ⟨_, rfl, rfl, bthen hb3 hb hb.size⟩)
      simp only [Act.put, List.setIfInBounds_toArray, List.set_cons_zero, List.set_cons_succ, Nat.reduceAdd, Nat.zero_add]
      refine' WalkO.op rfl ?hs9_11 ?hr9_11
      case hs9_11 =>
        intro w' hb
        have hc := (bcell hb).1
        have hz' := hb.size
        go_simp
        first | exact Gives.value ⟨rfl, hb⟩ | exact Gives.if2 ⟨rfl, hb⟩ (by assumption)
      simp only [Act.put, List.setIfInBounds_toArray, List.set_cons_zero, List.set_cons_succ, Nat.reduceAdd, Nat.zero_add]
      refine' WalkO.op rfl ?hs9_12 ?hr9_12
      case hs9_12 =>
        intro w' hb
        have hc := (bcell hb).1
        have hz' := hb.size
        go_simp
        first | exact Gives.value ⟨rfl, hb⟩ | exact Gives.if2 ⟨rfl, hb⟩ (by assumption)
      simp only [Act.put, List.setIfInBounds_toArray, List.set_cons_zero, List.set_cons_succ, Nat.reduceAdd, Nat.zero_add]
      first
      | refine WalkO.opU rfl rfl rfl ?_; simp only [Act.put, List.setIfInBounds_toArray, List.set_cons_zero, List.set_cons_succ, Nat.reduceAdd, Nat.zero_add]
      | refine' WalkO.opT rfl rfl rfl ?hs9_13 ?hr9_13
        case hs9_13 =>
          intro w' hb
          have hc := (bcell hb).1
          have hz' := hb.size
          go_simp
          first | exact Gives.value ⟨rfl, hb⟩ | exact Gives.if2 ⟨rfl, hb⟩ (by assumption)
        simp only [Act.put, List.setIfInBounds_toArray, List.set_cons_zero, List.set_cons_succ, Nat.reduceAdd, Nat.zero_add]
      first
      | refine WalkO.opU rfl rfl rfl ?_; simp only [Act.put, List.setIfInBounds_toArray, List.set_cons_zero, List.set_cons_succ, Nat.reduceAdd, Nat.zero_add]
      | refine' WalkO.opT rfl rfl rfl ?hs9_14 ?hr9_14
        case hs9_14 =>
          intro w' hb
          have hc := (bcell hb).1
          have hz' := hb.size
          go_simp
          first | exact Gives.value ⟨rfl, hb⟩ | exact Gives.if2 ⟨rfl, hb⟩ (by assumption)
        simp only [Act.put, List.setIfInBounds_toArray, List.set_cons_zero, List.set_cons_succ, Nat.reduceAdd, Nat.zero_add]
      first
      | refine WalkO.opU rfl rfl rfl ?_; simp only [Act.put, List.setIfInBounds_toArray, List.set_cons_zero, List.set_cons_succ, Nat.reduceAdd, Nat.zero_add]
      | refine' WalkO.opT rfl rfl rfl ?hs9_15 ?hr9_15
        case hs9_15 =>
          intro w' hb
          have hc := (bcell hb).1
          have hz' := hb.size
          go_simp
          refine Gives.enter ?_
          first
          | (go_at_call 9; (with_reducible refine (num_any _ _).mono ?_); rintro e wx ⟨rfl, rfl⟩; exact ⟨_, rfl, rfl, hb⟩)
          | (go_at_call 10; (with_reducible refine (dom_is _ _ _ _ _ _ (by assumption)).mono ?_); rintro e wx ⟨rfl, hb3⟩; exact ⟨_, rfl, rfl, bthen hb3 hb hb.size⟩)
          | (go_at_call 10; (with_reducible refine (dom_any _ _ _ _ _).mono ?_); rintro e wx ⟨rfl, hb3⟩; exact ⟨_, rfl, rfl, bthen hb3 hb hb.size⟩)
        simp only [Act.put, List.setIfInBounds_toArray, List.set_cons_zero, List.set_cons_succ, Nat.reduceAdd, Nat.zero_add]
      first
      | refine WalkO.opU rfl rfl rfl ?_; simp only [Act.put, List.setIfInBounds_toArray, List.set_cons_zero, List.set_cons_succ, Nat.reduceAdd, Nat.zero_add]
      | refine' WalkO.opT rfl rfl rfl ?hs9_16 ?hr9_16
        case hs9_16 =>
          intro w' hb
          have hc := (bcell hb).1
          have hz' := hb.size
          go_simp
          first | exact Gives.value ⟨rfl, hb⟩ | exact Gives.if2 ⟨rfl, hb⟩ (by assumption)
        simp only [Act.put, List.setIfInBounds_toArray, List.set_cons_zero, List.set_cons_succ, Nat.reduceAdd, Nat.zero_add]
      first
      | refine WalkO.opU rfl rfl rfl ?_; simp only [Act.put, List.setIfInBounds_toArray, List.set_cons_zero, List.set_cons_succ, Nat.reduceAdd, Nat.zero_add]
      | refine' WalkO.opT rfl rfl rfl ?hs9_17 ?hr9_17
        case hs9_17 =>
          intro w' hb
          have hc := (bcell hb).1
          have hz' := hb.size
          go_simp
          first | exact Gives.value ⟨rfl, hb⟩ | exact Gives.if2 ⟨rfl, hb⟩ (by assumption)
        simp only [Act.put, List.setIfInBounds_toArray, List.set_cons_zero, List.set_cons_succ, Nat.reduceAdd, Nat.zero_add]
      first
      | refine WalkO.opU rfl rfl rfl ?_; simp only [Act.put, List.setIfInBounds_toArray, List.set_cons_zero, List.set_cons_succ, Nat.reduceAdd, Nat.zero_add]
      | refine' WalkO.opT rfl rfl rfl ?hs9_18 ?hr9_18
        case hs9_18 =>
          intro w' hb
          have hc := (bcell hb).1
          have hz' := hb.size
          go_simp
          first | exact Gives.value ⟨rfl, hb⟩ | exact Gives.if2 ⟨rfl, hb⟩ (by assumption)
        simp only [Act.put, List.setIfInBounds_toArray, List.set_cons_zero, List.set_cons_succ, Nat.reduceAdd, Nat.zero_add]
      first
      | refine WalkO.opU rfl rfl rfl ?_; simp only [Act.put, List.setIfInBounds_toArray, List.set_cons_zero, List.set_cons_succ, Nat.reduceAdd, Nat.zero_add]
      | refine' WalkO.opT rfl rfl rfl ?hs9_19 ?hr9_19
        case hs9_19 =>
          intro w' hb
          have hc := (bcell hb).1
          have hz' := hb.size
          go_simp
          first | exact Gives.value ⟨rfl, hb⟩ | exact Gives.if2 ⟨rfl, hb⟩ (by assumption)
        simp only [Act.put, List.setIfInBounds_toArray, List.set_cons_zero, List.set_cons_succ, Nat.reduceAdd, Nat.zero_add]
      refine' WalkO.op rfl ?hs9_20 ?hr9_20
      case hs9_20 =>
        intro w' hb
        have hc := (bcell hb).1
        have hz' := hb.size
        go_simp
        first | exact Gives.value ⟨rfl, hb⟩ | exact Gives.if2 ⟨rfl, hb⟩ (by assumption)
      simp only [Act.put, List.setIfInBounds_toArray, List.set_cons_zero, List.set_cons_succ, Nat.reduceAdd, Nat.zero_add]
      refine' WalkO.op rfl ?hs9_21 ?hr9_21
      case hs9_21 =>
        intro w' hb
        have hc := (bcell hb).1
        have hz' := hb.size
        go_simp
        first | exact Gives.value ⟨rfl, hb⟩ | exact Gives.if2 ⟨rfl, hb⟩ (by assumption)
      simp only [Act.put, List.setIfInBounds_toArray, List.set_cons_zero, List.set_cons_succ, Nat.reduceAdd, Nat.zero_add]
      refine WalkO.stop (fun W2 hb => ?_)
      have zW2_0 : w.heap.size < W2.heap.size := Nat.lt_of_lt_of_le zW_0 hb.size
      have kW2_0_0 := (hb.cell (p := ⟨w.heap.size, 0, none⟩) zW_0).trans kW_0_0
      have kW2_0_1 := (hb.cell (p := ⟨w.heap.size, 1, none⟩) zW_0).trans kW_0_1
      have zW2_1 : w.heap.size + 1 < W2.heap.size := Nat.lt_of_lt_of_le zW_1 hb.size
      have kW2_1_0 := (hb.cell (p := ⟨w.heap.size + 1, 0, none⟩) zW_1).trans kW_1_0
      have kW2_1_1 := (hb.cell (p := ⟨w.heap.size + 1, 1, none⟩) zW_1).trans kW_1_1
      have zW2_2 : w.heap.size + 1 + 1 < W2.heap.size := Nat.lt_of_lt_of_le zW_2 hb.size
      have kW2_2_0 := (hb.cell (p := ⟨w.heap.size + 1 + 1, 0, none⟩) zW_2).trans kW_2_0
      have kW2_2_1 := (hb.cell (p := ⟨w.heap.size + 1 + 1, 1, none⟩) zW_2).trans kW_2_1
      have zW2_3 : w1.heap.size < W2.heap.size := Nat.lt_of_lt_of_le zW_3 hb.size
      have kW2_3_0 := (hb.cell (p := ⟨w1.heap.size, 0, none⟩) zW_3).trans kW_3_0
      have kW2_3_1 := (hb.cell (p := ⟨w1.heap.size, 1, none⟩) zW_3).trans kW_3_1
      have zW2_4 : w1.heap.size + 1 < W2.heap.size := Nat.lt_of_lt_of_le zW_4 hb.size
      have kW2_4_0 := (hb.cell (p := ⟨w1.heap.size + 1, 0, none⟩) zW_4).trans kW_4_0
      have kW2_4_1 := (hb.cell (p := ⟨w1.heap.size + 1, 1, none⟩) zW_4).trans kW_4_1
      have zW2_5 : w1.heap.size + 1 + 1 < W2.heap.size := Nat.lt_of_lt_of_le zW_5 hb.size
      have kW2_5_0 := (hb.cell (p := ⟨w1.heap.size + 1 + 1, 0, none⟩) zW_5).trans kW_5_0
      have kW2_5_1 := (hb.cell (p := ⟨w1.heap.size + 1 + 1, 1, none⟩) zW_5).trans kW_5_1
      have zW2_6 : w2.heap.size < W2.heap.size := Nat.lt_of_lt_of_le zW_6 hb.size
      have kW2_6_0 := (hb.cell (p := ⟨w2.heap.size, 0, none⟩) zW_6).trans kW_6_0
      have kW2_6_1 := (hb.cell (p := ⟨w2.heap.size, 1, none⟩) zW_6).trans kW_6_1
      have zW2_7 : w3.heap.size < W2.heap.size := Nat.lt_of_lt_of_le zW_7 hb.size
      have kW2_7_0 := (hb.cell (p := ⟨w3.heap.size, 0, none⟩) zW_7).trans kW_7_0
      have kW2_7_1 := (hb.cell (p := ⟨w3.heap.size, 1, none⟩) zW_7).trans kW_7_1
      have hBW2 : Below w.heap.size w W2 := bthen hb hBW hBW.size
      have hvW2 := hBW2.size; have hvvW2 := hb.size
      clear hb hBW kW_0_0 kW_0_1 kW_1_0 kW_1_1 kW_2_0 kW_2_1 kW_3_0 kW_3_1 kW_4_0 kW_4_1 kW_5_0 kW_5_1 kW_6_0 kW_6_1 kW_7_0 kW_7_1 zW_0 zW_1 zW_2 zW_3 zW_4 zW_5 zW_6 zW_7
      have HS := SW.start W2; have hB3 := Below.refl W2.heap.size W2; have hc := True.intro
      try go_wp2
      go_returns
      exact ⟨rfl, bthen hB3 hBW2 hBW2.size⟩
    | false =>
      simp only [Bool.false_and] at hG
      have hG' := hG.symm
      clear hG
      go_wp2_with (first
        | (go_at_call 9; (with_reducible refine (num_any _ _).mono ?_); rintro e wx ⟨rfl, rfl⟩)
        | (go_at_call 10; (with_reducible refine (dom_is _ _ _ _ _ _ (by assumption)).mono ?_); rintro e wx ⟨rfl, hb⟩; have hS' := HS.keep hb; clear hb HS hc hB3; have HS := hS'; clear hS'; have hc := HS.cells; have hB3 := HS.below)
        | (go_at_call 10; (with_reducible refine (dom_any _ _ _ _ _).mono ?_); rintro e wx ⟨rfl, hb⟩; have hS' := HS.keep hb; clear hb HS hc hB3; have HS := hS'; clear hS'; have hc := HS.cells; have hB3 := HS.below))
      have hB3d := hB3.drew
      clear HS hc hB3
      refine wp_region_once (S := fun w' => Below W.heap.size W w') (by kernel_rfl) (by kernel_rfl) hB3d ?_
      clear hB3d
      refine' WalkO.op rfl ?hs10_0 ?hr10_0
      case hs10_0 =>
        intro w' hb
        have hc := (bcell hb).1
        have hz' := hb.size
        go_simp
        first | exact Gives.value ⟨rfl, hb⟩ | exact Gives.if2 ⟨rfl, hb⟩ (by assumption)
      simp only [Act.put, List.setIfInBounds_toArray, List.set_cons_zero, List.set_cons_succ, Nat.reduceAdd, Nat.zero_add]
      refine' WalkO.op rfl ?hs10_1 ?hr10_1
      case hs10_1 =>
        intro w' hb
        have hc := (bcell hb).1
        have hz' := hb.size
        go_simp
        first | exact Gives.value ⟨rfl, hb⟩ | exact Gives.if2 ⟨rfl, hb⟩ (by assumption)
      simp only [Act.put, List.setIfInBounds_toArray, List.set_cons_zero, List.set_cons_succ, Nat.reduceAdd, Nat.zero_add]
      refine' WalkO.op rfl ?hs10_2 ?hr10_2
      case hs10_2 =>
        intro w' hb
        have hc := (bcell hb).1
        have hz' := hb.size
        go_simp
        refine Gives.enter ?_
        first
        | (go_at_call 9; (with_reducible refine (num_any _ _).mono ?_); rintro e wx ⟨rfl, rfl⟩; exact ⟨_, rfl, rfl, hb⟩)
        | (go_at_call 10; (with_reducible refine (dom_is _ _ _ _ _ _ (by assumption)).mono ?_); rintro e wx ⟨rfl, hb3⟩; exact ⟨_, rfl, rfl, bthen hb3 hb hb.size⟩)
        | (go_at_call 10; (with_reducible refine (dom_any _ _ _ _ _).mono ?_); rintro e wx ⟨rfl, hb3⟩; exact ⟨_, rfl, rfl, bthen hb3 hb hb.size⟩)
      simp only [Act.put, List.setIfInBounds_toArray, List.set_cons_zero, List.set_cons_succ, Nat.reduceAdd, Nat.zero_add]
      refine' WalkO.op rfl ?hs10_3 ?hr10_3
      case hs10_3 =>
        intro w' hb
        have hc := (bcell hb).1
        have hz' := hb.size
        go_simp
        first | exact Gives.value ⟨rfl, hb⟩ | exact Gives.if2 ⟨rfl, hb⟩ (by assumption)
      simp only [Act.put, List.setIfInBounds_toArray, List.set_cons_zero, List.set_cons_succ, Nat.reduceAdd, Nat.zero_add]
      first
      | refine WalkO.opU rfl rfl rfl ?_; simp only [Act.put, List.setIfInBounds_toArray, List.set_cons_zero, List.set_cons_succ, Nat.reduceAdd, Nat.zero_add]
      | refine' WalkO.opT rfl rfl rfl ?hs10_4 ?hr10_4
        case hs10_4 =>
          intro w' hb
          have hc := (bcell hb).1
          have hz' := hb.size
          go_simp
          first | exact Gives.value ⟨rfl, hb⟩ | exact Gives.if2 ⟨rfl, hb⟩ (by assumption)
        simp only [Act.put, List.setIfInBounds_toArray, List.set_cons_zero, List.set_cons_succ, Nat.reduceAdd, Nat.zero_add]
      first
      | refine WalkO.opU rfl rfl rfl ?_; simp only [Act.put, List.setIfInBounds_toArray, List.set_cons_zero, List.set_cons_succ, Nat.reduceAdd, Nat.zero_add]
      | refine' WalkO.opT rfl rfl rfl ?hs10_5 ?hr10_5
        case hs10_5 =>
          intro w' hb
          have hc := (bcell hb).1
          have hz' := hb.size
          go_simp
          first | exact Gives.value ⟨rfl, hb⟩ | exact Gives.if2 ⟨rfl, hb⟩ (by assumption)
        simp only [Act.put, List.setIfInBounds_toArray, List.set_cons_zero, List.set_cons_succ, Nat.reduceAdd, Nat.zero_add]
      first
      | refine WalkO.opU rfl rfl rfl ?_; simp only [Act.put, List.setIfInBounds_toArray, List.set_cons_zero, List.set_cons_succ, Nat.reduceAdd, Nat.zero_add]
      | refine' WalkO.opT rfl rfl rfl ?hs10_6 ?hr10_6
        case hs10_6 =>
          intro w' hb
          have hc := (bcell hb).1
          have hz' := hb.size
          go_simp
          refine Gives.enter ?_
          first
          | (go_at_call 9; (with_reducible refine (num_any _ _).mono ?_); rintro e wx ⟨rfl, rfl⟩; exact ⟨_, rfl, rfl, hb⟩)
          | (go_at_call 10; (with_reducible refine (dom_is _ _ _ _ _ _ (by assumption)).mono ?_); rintro e wx ⟨rfl, hb3⟩; exact ⟨_, rfl, rfl, bthen hb3 hb hb.size⟩)
          | (go_at_call 10; (with_reducible refine (dom_any _ _ _ _ _).mono ?_); rintro e wx ⟨rfl, hb3⟩; exact ⟨_, rfl, rfl, bthen hb3 hb hb.size⟩)
        simp only [Act.put, List.setIfInBounds_toArray, List.set_cons_zero, List.set_cons_succ, Nat.reduceAdd, Nat.zero_add]
      refine' WalkO.op rfl ?hs10_7 ?hr10_7
      case hs10_7 =>
        intro w' hb
        have hc := (bcell hb).1
        have hz' := hb.size
        go_simp
        first | exact Gives.value ⟨rfl, hb⟩ | exact Gives.if2 ⟨rfl, hb⟩ (by assumption)
      simp only [Act.put, List.setIfInBounds_toArray, List.set_cons_zero, List.set_cons_succ, Nat.reduceAdd, Nat.zero_add]
      refine' WalkO.op rfl ?hs10_8 ?hr10_8
      case hs10_8 =>
        intro w' hb
        have hc := (bcell hb).1
        have hz' := hb.size
        go_simp
        first | exact Gives.value ⟨rfl, hb⟩ | exact Gives.if2 ⟨rfl, hb⟩ (by assumption)
      simp only [Act.put, List.setIfInBounds_toArray, List.set_cons_zero, List.set_cons_succ, Nat.reduceAdd, Nat.zero_add]
      refine' WalkO.op rfl ?hs10_9 ?hr10_9
      case hs10_9 =>
        intro w' hb
        have hc := (bcell hb).1
        have hz' := hb.size
        go_simp
        first | exact Gives.value ⟨rfl, hb⟩ | exact Gives.if2 ⟨rfl, hb⟩ (by assumption)
      simp only [Act.put, List.setIfInBounds_toArray, List.set_cons_zero, List.set_cons_succ, Nat.reduceAdd, Nat.zero_add]
      refine' WalkO.op rfl ?hs10_10 ?hr10_10
      case hs10_10 =>
        intro w' hb
        have hc := (bcell hb).1
        have hz' := hb.size
        go_simp
        refine Gives.enter ?_
        first
        | (go_at_call 9; (with_reducible refine (num_any _ _).mono ?_); rintro e wx ⟨rfl, rfl⟩; exact ⟨_, rfl, rfl, hb⟩)
        | (go_at_call 10; (with_reducible refine (dom_is _ _ _ _ _ _ (by assumption)).mono ?_); rintro e wx ⟨rfl, hb3⟩; exact ⟨_, rfl, rfl, bthen hb3 hb hb.size⟩)
        | (go_at_call 10; (with_reducible refine (dom_any _ _ _ _ _).mono ?_); rintro e wx ⟨rfl, hb3⟩; exact ⟨_, rfl, rfl, bthen hb3 hb hb.size⟩)
      simp only [Act.put, List.setIfInBounds_toArray, List.set_cons_zero, List.set_cons_succ, Nat.reduceAdd, Nat.zero_add]
      refine' WalkO.op rfl ?hs10_11 ?hr10_11
      case hs10_11 =>
        intro w' hb
        have hc := (bcell hb).1
        have hz' := hb.size
        go_simp
        first | exact Gives.value ⟨rfl, hb⟩ | exact Gives.if2 ⟨rfl, hb⟩ (by assumption)
      simp only [Act.put, List.setIfInBounds_toArray, List.set_cons_zero, List.set_cons_succ, Nat.reduceAdd, Nat.zero_add]
      refine' WalkO.op rfl ?hs10_12 ?hr10_12
      case hs10_12 =>
        intro w' hb
        have hc := (bcell hb).1
        have hz' := hb.size
        go_simp
        first | exact Gives.value ⟨rfl, hb⟩ | exact Gives.if2 ⟨rfl, hb⟩ (by assumption)
      simp only [Act.put, List.setIfInBounds_toArray, List.set_cons_zero, List.set_cons_succ, Nat.reduceAdd, Nat.zero_add]
      first
      | refine WalkO.opU rfl rfl rfl ?_; simp only [Act.put, List.setIfInBounds_toArray, List.set_cons_zero, List.set_cons_succ, Nat.reduceAdd, Nat.zero_add]
      | refine' WalkO.opT rfl rfl rfl ?hs10_13 ?hr10_13
        case hs10_13 =>
          intro w' hb
          have hc := (bcell hb).1
          have hz' := hb.size
          go_simp
          first | exact Gives.value ⟨rfl, hb⟩ | exact Gives.if2 ⟨rfl, hb⟩ (by assumption)
        simp only [Act.put, List.setIfInBounds_toArray, List.set_cons_zero, List.set_cons_succ, Nat.reduceAdd, Nat.zero_add]
      first
      | refine WalkO.opU rfl rfl rfl ?_; simp only [Act.put, List.setIfInBounds_toArray, List.set_cons_zero, List.set_cons_succ, Nat.reduceAdd, Nat.zero_add]
      | refine' WalkO.opT rfl rfl rfl ?hs10_14 ?hr10_14
        case hs10_14 =>
          intro w' hb
          have hc := (bcell hb).1
          have hz' := hb.size
          go_simp
          first | exact Gives.value ⟨rfl, hb⟩ | exact Gives.if2 ⟨rfl, hb⟩ (by assumption)
        simp only [Act.put, List.setIfInBounds_toArray, List.set_cons_zero, List.set_cons_succ, Nat.reduceAdd, Nat.zero_add]
      first
      | refine WalkO.opU rfl rfl rfl ?_; simp only [Act.put, List.setIfInBounds_toArray, List.set_cons_zero, List.set_cons_succ, Nat.reduceAdd, Nat.zero_add]
      | refine' WalkO.opT rfl rfl rfl ?hs10_15 ?hr10_15
        case hs10_15 =>
          intro w' hb
          have hc := (bcell hb).1
          have hz' := hb.size
          go_simp
          refine Gives.enter ?_
          first
          | (go_at_call 9; (with_reducible refine (num_any _ _).mono ?_); rintro e wx ⟨rfl, rfl⟩; exact ⟨_, rfl, rfl, hb⟩)
          | (go_at_call 10; (with_reducible refine (dom_is _ _ _ _ _ _ (by assumption)).mono ?_); rintro e wx ⟨rfl, hb3⟩; exact ⟨_, rfl, rfl, bthen hb3 hb hb.size⟩)
          | (go_at_call 10; (with_reducible refine (dom_any _ _ _ _ _).mono ?_); rintro e wx ⟨rfl, hb3⟩; exact ⟨_, rfl, rfl, bthen hb3 hb hb.size⟩)
        simp only [Act.put, List.setIfInBounds_toArray, List.set_cons_zero, List.set_cons_succ, Nat.reduceAdd, Nat.zero_add]
      first
      | refine WalkO.opU rfl rfl rfl ?_; simp only [Act.put, List.setIfInBounds_toArray, List.set_cons_zero, List.set_cons_succ, Nat.reduceAdd, Nat.zero_add]
      | refine' WalkO.opT rfl rfl rfl ?hs10_16 ?hr10_16
        case hs10_16 =>
          intro w' hb
          have hc := (bcell hb).1
          have hz' := hb.size
          go_simp
          first | exact Gives.value ⟨rfl, hb⟩ | exact Gives.if2 ⟨rfl, hb⟩ (by assumption)
        simp only [Act.put, List.setIfInBounds_toArray, List.set_cons_zero, List.set_cons_succ, Nat.reduceAdd, Nat.zero_add]
      first
      | refine WalkO.opU rfl rfl rfl ?_; simp only [Act.put, List.setIfInBounds_toArray, List.set_cons_zero, List.set_cons_succ, Nat.reduceAdd, Nat.zero_add]
      | refine' WalkO.opT rfl rfl rfl ?hs10_17 ?hr10_17
        case hs10_17 =>
          intro w' hb
          have hc := (bcell hb).1
          have hz' := hb.size
          go_simp
          first | exact Gives.value ⟨rfl, hb⟩ | exact Gives.if2 ⟨rfl, hb⟩ (by assumption)
        simp only [Act.put, List.setIfInBounds_toArray, List.set_cons_zero, List.set_cons_succ, Nat.reduceAdd, Nat.zero_add]
      first
      | refine WalkO.opU rfl rfl rfl ?_; simp only [Act.put, List.setIfInBounds_toArray, List.set_cons_zero, List.set_cons_succ, Nat.reduceAdd, Nat.zero_add]
      | refine' WalkO.opT rfl rfl rfl ?hs10_18 ?hr10_18
        case hs10_18 =>
          intro w' hb
          have hc := (bcell hb).1
          have hz' := hb.size
          go_simp
          first | exact Gives.value ⟨rfl, hb⟩ | exact Gives.if2 ⟨rfl, hb⟩ (by assumption)
        simp only [Act.put, List.setIfInBounds_toArray, List.set_cons_zero, List.set_cons_succ, Nat.reduceAdd, Nat.zero_add]
      first
      | refine WalkO.opU rfl rfl rfl ?_; simp only [Act.put, List.setIfInBounds_toArray, List.set_cons_zero, List.set_cons_succ, Nat.reduceAdd, Nat.zero_add]
      | refine' WalkO.opT rfl rfl rfl ?hs10_19 ?hr10_19
        case hs10_19 =>
          intro w' hb
          have hc := (bcell hb).1
          have hz' := hb.size
          go_simp
          first | exact Gives.value ⟨rfl, hb⟩ | exact Gives.if2 ⟨rfl, hb⟩ (by assumption)
        simp only [Act.put, List.setIfInBounds_toArray, List.set_cons_zero, List.set_cons_succ, Nat.reduceAdd, Nat.zero_add]
      refine' WalkO.op rfl ?hs10_20 ?hr10_20
      case hs10_20 =>
        intro w' hb
        have hc := (bcell hb).1
        have hz' := hb.size
        go_simp
        first | exact Gives.value ⟨rfl, hb⟩ | exact Gives.if2 ⟨rfl, hb⟩ (by assumption)
      simp only [Act.put, List.setIfInBounds_toArray, List.set_cons_zero, List.set_cons_succ, Nat.reduceAdd, Nat.zero_add]
      refine' WalkO.op rfl ?hs10_21 ?hr10_21
      case hs10_21 =>
        intro w' hb
        have hc := (bcell hb).1
        have hz' := hb.size
        go_simp
        first | exact Gives.value ⟨rfl, hb⟩ | exact Gives.if2 ⟨rfl, hb⟩ (by assumption)
      simp only [Act.put, List.setIfInBounds_toArray, List.set_cons_zero, List.set_cons_succ, Nat.reduceAdd, Nat.zero_add]
      refine WalkO.stop (fun W2 hb => ?_)
      have zW2_0 : w.heap.size < W2.heap.size := Nat.lt_of_lt_of_le zW_0 hb.size
      have kW2_0_0 := (hb.cell (p := ⟨w.heap.size, 0, none⟩) zW_0).trans kW_0_0
      have kW2_0_1 := (hb.cell (p := ⟨w.heap.size, 1, none⟩) zW_0).trans kW_0_1
      have zW2_1 : w.heap.size + 1 < W2.heap.size := Nat.lt_of_lt_of_le zW_1 hb.size
      have kW2_1_0 := (hb.cell (p := ⟨w.heap.size + 1, 0, none⟩) zW_1).trans kW_1_0
      have kW2_1_1 := (hb.cell (p := ⟨w.heap.size + 1, 1, none⟩) zW_1).trans kW_1_1
      have zW2_2 : w.heap.size + 1 + 1 < W2.heap.size := Nat.lt_of_lt_of_le zW_2 hb.size
      have kW2_2_0 := (hb.cell (p := ⟨w.heap.size + 1 + 1, 0, none⟩) zW_2).trans kW_2_0
      have kW2_2_1 := (hb.cell (p := ⟨w.heap.size + 1 + 1, 1, none⟩) zW_2).trans kW_2_1
      have zW2_3 : w1.heap.size < W2.heap.size := Nat.lt_of_lt_of_le zW_3 hb.size
      have kW2_3_0 := (hb.cell (p := ⟨w1.heap.size, 0, none⟩) zW_3).trans kW_3_0
      have kW2_3_1 := (hb.cell (p := ⟨w1.heap.size, 1, none⟩) zW_3).trans kW_3_1
      have zW2_4 : w1.heap.size + 1 < W2.heap.size := Nat.lt_of_lt_of_le zW_4 hb.size
      have kW2_4_0 := (hb.cell (p := ⟨w1.heap.size + 1, 0, none⟩) zW_4).trans kW_4_0
      have kW2_4_1 := (hb.cell (p := ⟨w1.heap.size + 1, 1, none⟩) zW_4).trans kW_4_1
      have zW2_5 : w1.heap.size + 1 + 1 < W2.heap.size := Nat.lt_of_lt_of_le zW_5 hb.size
      have kW2_5_0 := (hb.cell (p := ⟨w1.heap.size + 1 + 1, 0, none⟩) zW_5).trans kW_5_0
      have kW2_5_1 := (hb.cell (p := ⟨w1.heap.size + 1 + 1, 1, none⟩) zW_5).trans kW_5_1
      have zW2_6 : w2.heap.size < W2.heap.size := Nat.lt_of_lt_of_le zW_6 hb.size
      have kW2_6_0 := (hb.cell (p := ⟨w2.heap.size, 0, none⟩) zW_6).trans kW_6_0
      have kW2_6_1 := (hb.cell (p := ⟨w2.heap.size, 1, none⟩) zW_6).trans kW_6_1
      have zW2_7 : w3.heap.size < W2.heap.size := Nat.lt_of_lt_of_le zW_7 hb.size
      have kW2_7_0 := (hb.cell (p := ⟨w3.heap.size, 0, none⟩) zW_7).trans kW_7_0
      have kW2_7_1 := (hb.cell (p := ⟨w3.heap.size, 1, none⟩) zW_7).trans kW_7_1
      have hBW2 : Below w.heap.size w W2 := bthen hb hBW hBW.size
      have hvW2 := hBW2.size; have hvvW2 := hb.size
      clear hb hBW kW_0_0 kW_0_1 kW_1_0 kW_1_1 kW_2_0 kW_2_1 kW_3_0 kW_3_1 kW_4_0 kW_4_1 kW_5_0 kW_5_1 kW_6_0 kW_6_1 kW_7_0 kW_7_1 zW_0 zW_1 zW_2 zW_3 zW_4 zW_5 zW_6 zW_7
      have HS := SW.start W2; have hB3 := Below.refl W2.heap.size W2; have hc := True.intro
      try go_wp2
      go_returns
      exact ⟨rfl, bthen hB3 hBW2 hBW2.size⟩

theorem walk (l1 c1 l2 c2 l3 c3 : Int) (w : World) (_ : (Lit.int .i64 l1).wf = true) (_ : (Lit.int .i64 c1).wf = true) (_ : (Lit.int .i64 l2).wf = true) (_ : (Lit.int .i64 c2).wf = true) (_ : (Lit.int .i64 l3).wf = true) (_ : (Lit.int .i64 c3).wf = true) :
    Calls Try.prog 4 #[.agg #[.int .i64 l1, .int .i64 c1], .agg #[.int .i64 l2, .int .i64 c2], .agg #[.int .i64 l3, .int .i64 c3]] w fun e w' => e = .returned (.bool true) ∧ Below w.heap.size w w' := by
  obtain ⟨x1, e1, g1⟩ := and_mask3 l1
  obtain ⟨x2, e2, g2⟩ := and_mask3 l2
  obtain ⟨x3, e3, g3⟩ := and_mask3 l3
  obtain ⟨y1, h1⟩ := and_mask15 c1
  obtain ⟨y2, h2⟩ := and_mask15 c2
  obtain ⟨y3, h3⟩ := and_mask15 c3
  obtain ⟨P, Q, r1, r2, r3, r4, r5, r6, r7, r8, r9⟩ := plain x1 x2 x3 y1 y2 y3 g1 g2 g3
  refine walk1 l1 c1 l2 c2 l3 c3 x1 y1.val x2 y2.val x3 y3.val P Q w e1 h1 e2 h2 e3 h3 r1 r2 r3 r4 r5 _ _ _ _ true rfl rfl ?_ rfl rfl r8 ?_ r9
  · cases ha : domB x1 y1.val x2 y2.val <;> cases hb : domB x2 y2.val x3 y3.val <;> simp
    exact r6 ha hb
  · cases ha : domB x1 y1.val x2 y2.val <;> cases hb : domB x2 y2.val x1 y1.val <;> simp
    obtain ⟨i, j⟩ := r7 ha hb
    exact ⟨i.symm, by rw [j]⟩
end Go.Proofs.Ytjhaoimfgepkgaa.labelOrder

