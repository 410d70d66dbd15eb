/- Package desc and the reference's descriptors: each call answers in one form. No condition. -/
import Derived.Test.YtefcppldkepmhaaDescC
namespace Go.Proofs.Ytefcppldkepmhaa
open Go.RowKit
set_option linter.unusedVariables false
set_option linter.unusedSimpArgs false
/-- what a reading answers: the five numbers, and the error -/
def getN (s : ByteArray) : Int × Int × Int × Int × Int × Int :=
  if h : s.size = 8 then
    if ((s[7]'(by omega)).toNat : Int) = 0 ∧ mayD ((s[0]'(by omega)).toNat : Int) ((s[1]'(by omega)).toNat : Int) (two (s[2]'(by omega)) (s[3]'(by omega))) (two (s[4]'(by omega)) (s[5]'(by omega))) ((s[6]'(by omega)).toNat : Int) = true then
      (((s[0]'(by omega)).toNat : Int), ((s[1]'(by omega)).toNat : Int), two (s[2]'(by omega)) (s[3]'(by omega)), two (s[4]'(by omega)) (s[5]'(by omega)), ((s[6]'(by omega)).toNat : Int), 0)
    else (0, 0, 0, 0, 0, 1600)
  else (0, 0, 0, 0, 0, 1600)
def getV (s : ByteArray) : Value :=
  .tuple #[.agg #[.int .i64 (getN s).1, .int .i64 (getN s).2.1, .int .i64 (getN s).2.2.1, .int .i64 (getN s).2.2.2.1, .int .i64 (getN s).2.2.2.2.1], .int .i64 (getN s).2.2.2.2.2]
def putB (a b c d e : Int) : ByteArray := if mayD a b c d e then putS a b c d e else ⟨#[]⟩
def putE (a b c d e : Int) : Int := if mayD a b c d e then 0 else 1600
theorem get_any (s : ByteArray) (w : World) : Calls Try.prog 9 #[.string s] w fun e' w' => e' = .returned (getV s) ∧ Below w.heap.size w w' := by
  by_cases h8 : s.size = 8
  · by_cases h7 : ((s[7]'(by omega)).toNat : Int) = 0
    · cases hm : mayD ((s[0]'(by omega)).toNat : Int) ((s[1]'(by omega)).toNat : Int) (two (s[2]'(by omega)) (s[3]'(by omega))) (two (s[4]'(by omega)) (s[5]'(by omega))) ((s[6]'(by omega)).toNat : Int) with
      | true =>
        have e : getN s = (((s[0]'(by omega)).toNat : Int), ((s[1]'(by omega)).toNat : Int), two (s[2]'(by omega)) (s[3]'(by omega)), two (s[4]'(by omega)) (s[5]'(by omega)), ((s[6]'(by omega)).toNat : Int), 0) := by
          unfold getN; rw [dif_pos h8, if_pos ⟨h7, hm⟩]
        unfold getV; rw [e]
        exact get_mid s w h8 h7 true hm
      | false =>
        have e : getN s = (0, 0, 0, 0, 0, 1600) := by
          unfold getN; rw [dif_pos h8, if_neg (fun h => by rw [hm] at h; exact absurd h.2 (by simp))]
        unfold getV; rw [e]
        exact get_mid s w h8 h7 false hm
    · have e : getN s = (0, 0, 0, 0, 0, 1600) := by
        unfold getN; rw [dif_pos h8, if_neg (fun h => h7 h.1)]
      unfold getV; rw [e]
      exact get_end s w h8 h7
  · have e : getN s = (0, 0, 0, 0, 0, 1600) := by
      unfold getN; rw [dif_neg h8]
    unfold getV; rw [e]
    exact get_len s w (by omega)
theorem put_any (a b c d e : Int) (w : World) : Calls Try.prog 7 #[.agg #[.int .i64 a, .int .i64 b, .int .i64 c, .int .i64 d, .int .i64 e]] w fun e' w' => e' = .returned (.tuple #[.string (putB a b c d e), .int .i64 (putE a b c d e)]) ∧ Below w.heap.size w w' := by
  unfold putB putE
  cases h : mayD a b c d e with
  | true => exact put_yes a b c d e w h
  | false => exact put_no a b c d e w h
theorem rget_any (s : ByteArray) (w : World) : Calls Try.prog 10 #[.string s] w fun e' w' => e' = .returned (getV s) ∧ Below w.heap.size w w' := by
  by_cases h8 : s.size = 8
  · by_cases h7 : ((s[7]'(by omega)).toNat : Int) = 0
    · cases hm : mayD ((s[0]'(by omega)).toNat : Int) ((s[1]'(by omega)).toNat : Int) (two (s[2]'(by omega)) (s[3]'(by omega))) (two (s[4]'(by omega)) (s[5]'(by omega))) ((s[6]'(by omega)).toNat : Int) with
      | true =>
        have e : getN s = (((s[0]'(by omega)).toNat : Int), ((s[1]'(by omega)).toNat : Int), two (s[2]'(by omega)) (s[3]'(by omega)), two (s[4]'(by omega)) (s[5]'(by omega)), ((s[6]'(by omega)).toNat : Int), 0) := by
          unfold getN; rw [dif_pos h8, if_pos ⟨h7, hm⟩]
        unfold getV; rw [e]
        exact rget_mid s w h8 h7 true hm
      | false =>
        have e : getN s = (0, 0, 0, 0, 0, 1600) := by
          unfold getN; rw [dif_pos h8, if_neg (fun h => by rw [hm] at h; exact absurd h.2 (by simp))]
        unfold getV; rw [e]
        exact rget_mid s w h8 h7 false hm
    · have e : getN s = (0, 0, 0, 0, 0, 1600) := by
        unfold getN; rw [dif_pos h8, if_neg (fun h => h7 h.1)]
      unfold getV; rw [e]
      exact rget_end s w h8 h7
  · have e : getN s = (0, 0, 0, 0, 0, 1600) := by
      unfold getN; rw [dif_neg h8]
    unfold getV; rw [e]
    exact rget_len s w (by omega)
theorem rput_any (a b c d e : Int) (w : World) : Calls Try.prog 8 #[.agg #[.int .i64 a, .int .i64 b, .int .i64 c, .int .i64 d, .int .i64 e]] w fun e' w' => e' = .returned (.tuple #[.string (putB a b c d e), .int .i64 (putE a b c d e)]) ∧ Below w.heap.size w w' := by
  unfold putB putE
  cases h : mayD a b c d e with
  | true => exact rput_yes a b c d e w h
  | false => exact rput_no a b c d e w h
end Go.Proofs.Ytefcppldkepmhaa

