/- Contracts of addr.May, and of addr.Split where a run is none. No condition. -/
import Derived.Test.YtnplemkacpljaaaKit
namespace Go.Proofs.Ytnplemkacpljaaa
open Go.RowKit
set_option linter.unusedVariables false

def mayA (x n s : Int) : Bool := decide (0 ≤ x ∧ 0 ≤ n ∧ 0 ≤ s ∧ x ≤ s ∧ n ≤ s - x)
theorem mayA_true {x n s : Int} : mayA x n s = true ↔ (0 ≤ x ∧ 0 ≤ n ∧ 0 ≤ s ∧ x ≤ s ∧ n ≤ s - x) := by simp [mayA]
theorem mayA_false {x n s : Int} : mayA x n s = false ↔ ¬ (0 ≤ x ∧ 0 ≤ n ∧ 0 ≤ s ∧ x ≤ s ∧ n ≤ s - x) := by simp [mayA]
set_option maxHeartbeats 400000 in
theorem addrMay_any (x n s : Int) (w : World) (hx : -9223372036854775808 ≤ x ∧ x ≤ 9223372036854775807) (hs : -9223372036854775808 ≤ s ∧ s ≤ 9223372036854775807) :
    Calls Try.prog 12 #[.int .i64 x, .int .i64 n, .int .i64 s] w fun e w' => e = .returned (.bool (mayA x n s)) ∧ w = w' := by
  obtain ⟨h1, h2⟩ := hx
  obtain ⟨h3, h4⟩ := hs
  by_cases c1 : 0 ≤ x
  · by_cases c2 : 0 ≤ n
    · by_cases c3 : 0 ≤ s
      · by_cases c4 : x ≤ s
        · skip
          go_enter Try.func12, Try.ntmps12
          go_wp2
          go_returns
          exact ⟨by simp [mayA, *] <;> omega, rfl⟩
        · skip
          go_enter Try.func12, Try.ntmps12
          go_wp2
          go_returns
          exact ⟨by simp [mayA, *] <;> omega, rfl⟩
      · skip
        go_enter Try.func12, Try.ntmps12
        go_wp2
        go_returns
        exact ⟨by simp [mayA, *] <;> omega, rfl⟩
    · skip
      go_enter Try.func12, Try.ntmps12
      go_wp2
      go_returns
      exact ⟨by simp [mayA, *] <;> omega, rfl⟩
  · skip
    go_enter Try.func12, Try.ntmps12
    go_wp2
    go_returns
    exact ⟨by simp [mayA, *] <;> omega, rfl⟩
set_option maxHeartbeats 400000 in
theorem split_bad (x n : Int) (w : World) (hx : -9223372036854775808 ≤ x ∧ x ≤ 9223372036854775807) (h : mayA x n 4096 = false) :
    Calls Try.prog 8 #[.int .i64 x, .int .i64 n] w fun e w' => e = .returned (.tuple #[.slice none 0 0, .int .i64 100]) ∧ w = w' := by
  go_enter Try.func8, Try.ntmps8
  go_wp2_with (go_at_call 12; refine (addrMay_any _ _ _ _ hx (by omega)).mono ?_; rintro e w1 ⟨rfl, rfl⟩)
  all_goals go_returns
  all_goals exact ⟨rfl, rfl⟩
end Go.Proofs.Ytnplemkacpljaaa

