/- Contracts of package lattice and of the reference's labels: what each call answers, for every label. No condition. -/
import Derived.Test.YtjhaoimfgepkgaaKit
namespace Go.Proofs.Ytjhaoimfgepkgaa
open Go.RowKit

set_option linter.unusedVariables false
def mayB (l c : Int) : Bool := decide (0 ≤ l ∧ l ≤ 3 ∧ 0 ≤ c ∧ c ≤ 15)
set_option maxHeartbeats 400000 in
theorem may_any (l c : Int) (w : World) :
    Calls Try.prog 12 #[.agg #[.int .i64 l, .int .i64 c]] w fun e w' => e = .returned (.bool (mayB l c)) ∧ Below w.heap.size w w' := by
  go_enter Try.func12, Try.ntmps12
  go_wp2
  all_goals go_returns
  all_goals exact ⟨by simp [mayB, *] <;> omega, by go_grown⟩
theorem rmay_any (l c : Int) (w : World) :
    Calls Try.prog 13 #[.agg #[.int .i64 l, .int .i64 c]] w fun e w' => e = .returned (.bool (mayB l c)) ∧ Below w.heap.size w w' := by
  go_enter Try.func13, Try.ntmps13
  go_wp2
  all_goals go_returns
  all_goals exact ⟨by simp [mayB, *] <;> omega, by go_grown⟩
def domB (l c m d : Int) : Bool := mayB l c && (mayB m d && (decide (m ≤ l) && (bits .andNot .i64 d c == 0)))
set_option maxHeartbeats 400000 in
theorem dom_any (l c m d : Int) (w : World) :
    Calls Try.prog 10 #[.agg #[.int .i64 l, .int .i64 c], .agg #[.int .i64 m, .int .i64 d]] w fun e w' => e = .returned (.bool (domB l c m d)) ∧ Below w.heap.size w w' := by
  go_enter Try.func10, Try.ntmps10
  go_wp2_with (go_at_call 12; refine (may_any _ _ _).mono ?_; rintro e w1 ⟨rfl, hb1⟩; obtain ⟨hc1, hf1⟩ := bcell hb1; have hz1 := hb1.size; (try simp at hz1); have hs1 : w.heap.size < w1.heap.size := (by omega); have hs2 : w.heap.size + 1 < w1.heap.size := (by omega))
  all_goals go_returns
  all_goals refine ⟨by simp [domB, *] <;> omega, ?_⟩
  all_goals repeat (first | exact Below.refl _ _ | (refine Below.alloc ?_ (by first | omega | (simp; omega) | simp) _) | (refine bthen (by assumption) ?_ (by first | omega | (simp; omega) | simp)))
def rdomB (l c m d : Int) : Bool := mayB l c && (mayB m d && (decide (m ≤ l) && (bits .and .i64 c d == d)))
theorem rdom_any (l c m d : Int) (w : World) :
    Calls Try.prog 11 #[.agg #[.int .i64 l, .int .i64 c], .agg #[.int .i64 m, .int .i64 d]] w fun e w' => e = .returned (.bool (rdomB l c m d)) ∧ Below w.heap.size w w' := by
  go_enter Try.func11, Try.ntmps11
  go_wp2_with (go_at_call 13; refine (rmay_any _ _ _).mono ?_; rintro e w1 ⟨rfl, hb1⟩; obtain ⟨hc1, hf1⟩ := bcell hb1; have hz1 := hb1.size; (try simp at hz1); have hs1 : w.heap.size < w1.heap.size := (by omega); have hs2 : w.heap.size + 1 < w1.heap.size := (by omega))
  all_goals go_returns
  all_goals refine ⟨by simp [rdomB, *] <;> omega, ?_⟩
  all_goals repeat (first | exact Below.refl _ _ | (refine Below.alloc ?_ (by first | omega | (simp; omega) | simp) _) | (refine bthen (by assumption) ?_ (by first | omega | (simp; omega) | simp)))

def joinV (l c m d : Int) : Value := if mayB l c && mayB m d then .tuple #[.agg #[.int .i64 (max l m), .int .i64 (bits .or .i64 c d)], .int .i64 0] else .tuple #[.agg #[.int .i64 0, .int .i64 0], .int .i64 900]
set_option maxHeartbeats 400000 in
theorem join_any (l c m d : Int) (w : World) :
    Calls Try.prog 7 #[.agg #[.int .i64 l, .int .i64 c], .agg #[.int .i64 m, .int .i64 d]] w fun e w' => e = .returned (joinV l c m d) ∧ Below w.heap.size w w' := by
  go_enter Try.func7, Try.ntmps7
  go_wp2_with (go_at_call 12; refine (may_any _ _ _).mono ?_; rintro e w1 ⟨rfl, hb1⟩; obtain ⟨hc1, hf1⟩ := bcell hb1; have hz1 := hb1.size; (try simp at hz1); have hs1 : w.heap.size < w1.heap.size := (by omega); have hs2 : w.heap.size + 1 < w1.heap.size := (by omega); (try have hs3 : w.heap.size + 1 + 1 < w1.heap.size := (by omega)))
  all_goals refine bodyPost_ret (by simp [results, Try.results7, go_sem, *]; try rfl) rfl ?_
  all_goals refine ⟨by simp_all [joinV] <;> omega, ?_⟩
  all_goals repeat (first | exact Below.refl _ _ | (refine Below.setCell ?_ (by first | omega | (simp; omega) | simp) _) | (refine Below.alloc ?_ (by first | omega | (simp; omega) | simp) _) | (refine bthen (by assumption) ?_ (by first | omega | (simp; omega) | simp)))
theorem rjoin_any (l c m d : Int) (w : World) :
    Calls Try.prog 8 #[.agg #[.int .i64 l, .int .i64 c], .agg #[.int .i64 m, .int .i64 d]] w fun e w' => e = .returned (joinV l c m d) ∧ Below w.heap.size w w' := by
  go_enter Try.func8, Try.ntmps8
  go_wp2_with (go_at_call 13; refine (rmay_any _ _ _).mono ?_; rintro e w1 ⟨rfl, hb1⟩; obtain ⟨hc1, hf1⟩ := bcell hb1; have hz1 := hb1.size; (try simp at hz1); have hs1 : w.heap.size < w1.heap.size := (by omega); have hs2 : w.heap.size + 1 < w1.heap.size := (by omega); (try have hs3 : w.heap.size + 1 + 1 < w1.heap.size := (by omega)))
  all_goals refine bodyPost_ret (by simp [results, Try.results8, go_sem, *]; try rfl) rfl ?_
  all_goals refine ⟨by simp_all [joinV] <;> omega, ?_⟩
  all_goals repeat (first | exact Below.refl _ _ | (refine Below.setCell ?_ (by first | omega | (simp; omega) | simp) _) | (refine Below.alloc ?_ (by first | omega | (simp; omega) | simp) _) | (refine bthen (by assumption) ?_ (by first | omega | (simp; omega) | simp)))

end Go.Proofs.Ytjhaoimfgepkgaa
