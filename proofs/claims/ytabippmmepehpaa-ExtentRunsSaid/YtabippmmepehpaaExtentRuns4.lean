/- The walk of caissonlaw18.ExtentRuns: for every list of numbers and every three numbers it answers true. No condition. -/
import Derived.Test.YtabippmmepehpaaExtentRuns1
import Derived.Test.YtabippmmepehpaaProg
namespace Go.Proofs.Ytabippmmepehpaa.extentRuns
open Go Go.Proofs Go.AE Go.RowKit
set_option maxRecDepth 100000
set_option linter.unusedVariables false
set_option linter.unusedSimpArgs false
set_option maxHeartbeats 8000000 in
theorem main_4_false (z : Nat → Nat → Int) (q a k : Int) (len cap : Nat) (p : Pl) (hL : min len 4 = 4) (hlo : LO Try.prog (lp Try.prog 6 0) (TA false z q a k len cap 0) (SA false z len 0) (.x 0 (TA false z q a k len cap 4) (SA false z len 4))) (hps : PS z 0 = 0 ∧ PS z 1 = PS z 0 + z 0 0 % 16 ∧ PS z 2 = PS z 1 + z 1 0 % 16 ∧ PS z 3 = PS z 2 + z 2 0 % 16 ∧ PS z 4 = PS z 3 + z 3 0 % 16) (bpp : 0 ≤ PS z (Int.toNat (q % 18446744073709551616 % 4)) ∧ PS z (Int.toNat (q % 18446744073709551616 % 4)) ≤ 60) (hb161 : a % 16 + k % 16 ≤ z (Int.toNat (q % 18446744073709551616 % 4)) 0 % 16 → LO Try.prog (lp Try.prog 6 1) (TB z q a k len cap 4 0) (SB z len 4 161) (.x 2 (TB z q a k len cap 4 (Int.toNat (k % 16))) (SB z len 4 161))) (hc : z (Int.toNat (4 - 1)) 0 % 16 = z (3) 0 % 16) :
    ∃ r, callK (HS Try.prog [1000000] ctr) Try.prog 6 [xv false len cap, .int .i64 q, .int .i64 a, .int .i64 k] (sOf (cond false [] [(p, .fam 1 true len fun i => [.int .i64 (z i 0)])])) kTrue r := by
  refine ⟨.Z <| .L (TA Bool.false z q a k len cap 0) (SA Bool.false z len 0) (Go.AE.Out.x 0 (TA Bool.false z q a k len cap 4) (SA Bool.false z len 4)) <| .zn 10 <| .N <| .Z <| .Z <| .N <| .U <| .zn 8 <| .T <| .Z <| .Z <| .T <| .zn 3 <| .T <| .zn 5 <| .N <| .U <| .zn 6 <| .T <| .Z <| .Z <| .T <| .Z <| .Z <| .T <| .zn 3 <| .T <| .zn 5 <| .N <| .U <| .zn 4 <| .B (.zn 42 <| .T <| .Z <| .Z <| .T <| .Z <| .Z <| .T <| .zn 3 <| .T <| .zn 5 <| .N <| .U <| .zn 4 <| .B (.zn 40 <| .T <| .zn 42 <| .T <| .Z <| .Z <| .T <| .Z <| .Z <| .T <| .zn 3 <| .T <| .zn 5 <| .N <| .U <| .zn 4 <| .B (.zn 40 <| .T <| .zn 40 <| .T <| .zn 53 <| .U <| .zn 8 <| .T <| .zn 12 <| .N <| .U <| .zn 6 <| .T <| .Z <| .Z <| .T <| .zn 6 <| .T <| .zn 5 <| .N <| .U <| .zn 4 <| .T <| .zn 42 <| .T <| .Z <| .Z <| .T <| .zn 6 <| .T <| .zn 5 <| .N <| .U <| .zn 4 <| .T <| .zn 40 <| .T <| .zn 42 <| .T <| .Z <| .Z <| .T <| .zn 6 <| .T <| .zn 5 <| .N <| .U <| .zn 4 <| .T <| .zn 40 <| .T <| .zn 40 <| .T <| .zn 41 <| .N <| .zn 4 <| .N <| .tn 3 <| .Z <| .Z <| .T <| .Z <| .Z <| .T <| .zn 3 <| .B (.zn 5 <| .B (.tn 3 <| .zn 3 <| .E (0) []) (.tn 4 <| .N <| .zn 4 <| .T <| .Z <| .Z <| .T <| .zn 4 <| .N <| .L (TB z q a k len cap 4 0) (SB z len 4 161) (Go.AE.Out.x 2 (TB z q a k len cap 4 (Int.toNat (k % (16 : Int)))) (SB z len 4 161)) <| .B (.zn 14 <| .E (0) []) (.zn 10 <| .N <| .Z <| .Z <| .N <| .U <| .zn 8 <| .T <| .Z <| .Z <| .T <| .zn 3 <| .T <| .zn 5 <| .T <| .zn 11 <| .E (0) []))) (.zn 6 <| .tn 3 <| .zn 3 <| .E (0) [])) (.zn 6 <| .B (.zn 34 <| .N <| .zn 6 <| .T <| .zn 34 <| .N <| .zn 6 <| .T <| .zn 47 <| .U <| .zn 8 <| .T <| .zn 12 <| .N <| .U <| .zn 6 <| .T <| .Z <| .Z <| .T <| .zn 6 <| .T <| .zn 5 <| .N <| .U <| .zn 4 <| .T <| .zn 42 <| .T <| .Z <| .Z <| .T <| .zn 6 <| .T <| .zn 5 <| .N <| .U <| .zn 4 <| .T <| .zn 40 <| .T <| .zn 42 <| .T <| .Z <| .Z <| .T <| .zn 6 <| .T <| .zn 5 <| .N <| .U <| .zn 4 <| .N <| .zn 6 <| .T <| .zn 34 <| .N <| .zn 6 <| .T <| .zn 34 <| .N <| .zn 6 <| .T <| .zn 35 <| .N <| .zn 4 <| .N <| .tn 3 <| .Z <| .Z <| .T <| .Z <| .Z <| .T <| .zn 3 <| .B (.zn 5 <| .B (.tn 3 <| .zn 3 <| .E (0) []) (.tn 4 <| .N <| .zn 4 <| .T <| .Z <| .Z <| .T <| .zn 4 <| .N <| .L (TB z q a k len cap 4 0) (SB z len 4 161) (Go.AE.Out.x 2 (TB z q a k len cap 4 (Int.toNat (k % (16 : Int)))) (SB z len 4 161)) <| .N <| .zn 10 <| .N <| .Z <| .Z <| .N <| .U <| .zn 8 <| .T <| .Z <| .Z <| .T <| .zn 3 <| .T <| .zn 5 <| .N <| .U <| .zn 6 <| .T <| .Z <| .Z <| .T <| .Z <| .Z <| .T <| .zn 3 <| .T <| .zn 5 <| .N <| .U <| .zn 4 <| .T <| .zn 42 <| .T <| .Z <| .Z <| .T <| .Z <| .Z <| .T <| .zn 3 <| .T <| .zn 5 <| .N <| .U <| .zn 4 <| .T <| .zn 40 <| .T <| .zn 42 <| .T <| .Z <| .Z <| .T <| .Z <| .Z <| .T <| .zn 3 <| .T <| .zn 5 <| .T <| .zn 11 <| .E (0) [])) (.zn 6 <| .tn 3 <| .zn 3 <| .E (0) [])) (.zn 17 <| .N <| .zn 17 <| .N <| .zn 4 <| .N <| .zn 6 <| .T <| .zn 34 <| .N <| .zn 6 <| .T <| .zn 47 <| .U <| .zn 8 <| .T <| .zn 12 <| .N <| .U <| .zn 6 <| .T <| .Z <| .Z <| .T <| .zn 6 <| .T <| .zn 5 <| .N <| .U <| .zn 4 <| .T <| .zn 42 <| .T <| .Z <| .Z <| .T <| .zn 6 <| .T <| .zn 5 <| .N <| .U <| .zn 4 <| .T <| .zn 40 <| .T <| .zn 42 <| .T <| .Z <| .Z <| .T <| .zn 6 <| .T <| .zn 5 <| .N <| .U <| .zn 4 <| .N <| .zn 6 <| .N <| .zn 17 <| .N <| .zn 17 <| .N <| .zn 4 <| .N <| .zn 6 <| .T <| .zn 34 <| .N <| .zn 6 <| .T <| .zn 35 <| .N <| .zn 4 <| .N <| .tn 3 <| .Z <| .Z <| .T <| .Z <| .Z <| .T <| .zn 3 <| .B (.zn 5 <| .B (.tn 3 <| .zn 3 <| .E (0) []) (.tn 4 <| .N <| .zn 4 <| .T <| .Z <| .Z <| .T <| .zn 4 <| .N <| .L (TB z q a k len cap 4 0) (SB z len 4 161) (Go.AE.Out.x 2 (TB z q a k len cap 4 (Int.toNat (k % (16 : Int)))) (SB z len 4 161)) <| .N <| .zn 10 <| .N <| .Z <| .Z <| .N <| .U <| .zn 8 <| .T <| .Z <| .Z <| .T <| .zn 3 <| .T <| .zn 5 <| .N <| .U <| .zn 6 <| .T <| .Z <| .Z <| .T <| .Z <| .Z <| .T <| .zn 3 <| .T <| .zn 5 <| .N <| .U <| .zn 4 <| .T <| .zn 42 <| .T <| .Z <| .Z <| .T <| .Z <| .Z <| .T <| .zn 3 <| .T <| .zn 5 <| .N <| .U <| .zn 4 <| .T <| .zn 40 <| .T <| .zn 42 <| .T <| .Z <| .Z <| .T <| .Z <| .Z <| .T <| .zn 3 <| .T <| .zn 5 <| .T <| .zn 11 <| .E (0) [])) (.zn 6 <| .tn 3 <| .zn 3 <| .E (0) [])))) (.zn 6 <| .B (.zn 34 <| .N <| .zn 6 <| .T <| .zn 36 <| .T <| .Z <| .Z <| .T <| .Z <| .Z <| .T <| .zn 3 <| .T <| .zn 5 <| .N <| .U <| .zn 4 <| .B (.zn 40 <| .T <| .zn 40 <| .T <| .zn 53 <| .U <| .zn 8 <| .T <| .zn 12 <| .N <| .U <| .zn 6 <| .T <| .Z <| .Z <| .T <| .zn 6 <| .T <| .zn 5 <| .N <| .U <| .zn 4 <| .T <| .zn 42 <| .T <| .Z <| .Z <| .T <| .zn 6 <| .T <| .zn 5 <| .N <| .U <| .zn 4 <| .N <| .zn 6 <| .T <| .zn 34 <| .N <| .zn 6 <| .T <| .zn 36 <| .T <| .Z <| .Z <| .T <| .zn 6 <| .T <| .zn 5 <| .N <| .U <| .zn 4 <| .T <| .zn 40 <| .T <| .zn 40 <| .T <| .zn 41 <| .N <| .zn 4 <| .N <| .tn 3 <| .Z <| .Z <| .T <| .Z <| .Z <| .T <| .zn 3 <| .B (.zn 5 <| .B (.tn 3 <| .zn 3 <| .E (0) []) (.tn 4 <| .N <| .zn 4 <| .T <| .Z <| .Z <| .T <| .zn 4 <| .N <| .L (TB z q a k len cap 4 0) (SB z len 4 161) (Go.AE.Out.x 2 (TB z q a k len cap 4 (Int.toNat (k % (16 : Int)))) (SB z len 4 161)) <| .N <| .zn 10 <| .N <| .Z <| .Z <| .N <| .U <| .zn 8 <| .T <| .Z <| .Z <| .T <| .zn 3 <| .T <| .zn 5 <| .N <| .U <| .zn 6 <| .T <| .Z <| .Z <| .T <| .Z <| .Z <| .T <| .zn 3 <| .T <| .zn 5 <| .N <| .U <| .zn 4 <| .T <| .zn 42 <| .T <| .Z <| .Z <| .T <| .Z <| .Z <| .T <| .zn 3 <| .T <| .zn 5 <| .T <| .zn 11 <| .E (0) [])) (.zn 6 <| .tn 3 <| .zn 3 <| .E (0) [])) (.zn 6 <| .T <| .zn 34 <| .N <| .zn 6 <| .T <| .zn 34 <| .N <| .zn 6 <| .N <| .zn 17 <| .N <| .zn 17 <| .N <| .zn 17 <| .U <| .zn 8 <| .T <| .zn 12 <| .N <| .U <| .zn 6 <| .T <| .Z <| .Z <| .T <| .zn 6 <| .T <| .zn 5 <| .N <| .U <| .zn 4 <| .T <| .zn 42 <| .T <| .Z <| .Z <| .T <| .zn 6 <| .T <| .zn 5 <| .N <| .U <| .zn 4 <| .N <| .zn 6 <| .T <| .zn 34 <| .N <| .zn 6 <| .T <| .zn 36 <| .T <| .Z <| .Z <| .T <| .zn 6 <| .T <| .zn 5 <| .N <| .U <| .zn 4 <| .N <| .zn 6 <| .T <| .zn 34 <| .N <| .zn 6 <| .T <| .zn 34 <| .N <| .zn 6 <| .N <| .zn 17 <| .N <| .zn 17 <| .N <| .zn 5 <| .N <| .zn 4 <| .N <| .tn 3 <| .Z <| .Z <| .T <| .Z <| .Z <| .T <| .zn 3 <| .B (.zn 5 <| .B (.tn 3 <| .zn 3 <| .E (0) []) (.tn 4 <| .N <| .zn 4 <| .T <| .Z <| .Z <| .T <| .zn 4 <| .N <| .L (TB z q a k len cap 4 0) (SB z len 4 161) (Go.AE.Out.x 2 (TB z q a k len cap 4 (Int.toNat (k % (16 : Int)))) (SB z len 4 161)) <| .N <| .zn 10 <| .N <| .Z <| .Z <| .N <| .U <| .zn 8 <| .T <| .Z <| .Z <| .T <| .zn 3 <| .T <| .zn 5 <| .N <| .U <| .zn 6 <| .T <| .Z <| .Z <| .T <| .Z <| .Z <| .T <| .zn 3 <| .T <| .zn 5 <| .N <| .U <| .zn 4 <| .T <| .zn 42 <| .T <| .Z <| .Z <| .T <| .Z <| .Z <| .T <| .zn 3 <| .T <| .zn 5 <| .N <| .U <| .zn 4 <| .N <| .zn 6 <| .T <| .zn 34 <| .N <| .zn 6 <| .T <| .zn 36 <| .T <| .Z <| .Z <| .T <| .Z <| .Z <| .T <| .zn 3 <| .T <| .zn 5 <| .T <| .zn 11 <| .E (0) [])) (.zn 6 <| .tn 3 <| .zn 3 <| .E (0) []))) (.zn 17 <| .N <| .zn 17 <| .N <| .zn 4 <| .N <| .zn 6 <| .T <| .zn 36 <| .T <| .Z <| .Z <| .T <| .Z <| .Z <| .T <| .zn 3 <| .T <| .zn 5 <| .N <| .U <| .zn 4 <| .B (.zn 40 <| .T <| .zn 40 <| .T <| .zn 53 <| .U <| .zn 8 <| .T <| .zn 12 <| .N <| .U <| .zn 6 <| .T <| .Z <| .Z <| .T <| .zn 6 <| .T <| .zn 5 <| .N <| .U <| .zn 4 <| .T <| .zn 42 <| .T <| .Z <| .Z <| .T <| .zn 6 <| .T <| .zn 5 <| .N <| .U <| .zn 4 <| .N <| .zn 6 <| .N <| .zn 17 <| .N <| .zn 17 <| .N <| .zn 4 <| .N <| .zn 6 <| .T <| .zn 36 <| .T <| .Z <| .Z <| .T <| .zn 6 <| .T <| .zn 5 <| .N <| .U <| .zn 4 <| .T <| .zn 40 <| .T <| .zn 40 <| .T <| .zn 41 <| .N <| .zn 4 <| .N <| .tn 3 <| .Z <| .Z <| .T <| .Z <| .Z <| .T <| .zn 3 <| .B (.zn 5 <| .B (.tn 3 <| .zn 3 <| .E (0) []) (.tn 4 <| .N <| .zn 4 <| .T <| .Z <| .Z <| .T <| .zn 4 <| .N <| .L (TB z q a k len cap 4 0) (SB z len 4 161) (Go.AE.Out.x 2 (TB z q a k len cap 4 (Int.toNat (k % (16 : Int)))) (SB z len 4 161)) <| .N <| .zn 10 <| .N <| .Z <| .Z <| .N <| .U <| .zn 8 <| .T <| .Z <| .Z <| .T <| .zn 3 <| .T <| .zn 5 <| .N <| .U <| .zn 6 <| .T <| .Z <| .Z <| .T <| .Z <| .Z <| .T <| .zn 3 <| .T <| .zn 5 <| .N <| .U <| .zn 4 <| .T <| .zn 42 <| .T <| .Z <| .Z <| .T <| .Z <| .Z <| .T <| .zn 3 <| .T <| .zn 5 <| .T <| .zn 11 <| .E (0) [])) (.zn 6 <| .tn 3 <| .zn 3 <| .E (0) [])) (.zn 6 <| .N <| .zn 17 <| .N <| .zn 17 <| .N <| .zn 4 <| .N <| .zn 6 <| .T <| .zn 34 <| .N <| .zn 6 <| .N <| .zn 17 <| .N <| .zn 17 <| .N <| .zn 17 <| .U <| .zn 8 <| .T <| .zn 12 <| .N <| .U <| .zn 6 <| .T <| .Z <| .Z <| .T <| .zn 6 <| .T <| .zn 5 <| .N <| .U <| .zn 4 <| .T <| .zn 42 <| .T <| .Z <| .Z <| .T <| .zn 6 <| .T <| .zn 5 <| .N <| .U <| .zn 4 <| .N <| .zn 6 <| .N <| .zn 17 <| .N <| .zn 17 <| .N <| .zn 4 <| .N <| .zn 6 <| .T <| .zn 36 <| .T <| .Z <| .Z <| .T <| .zn 6 <| .T <| .zn 5 <| .N <| .U <| .zn 4 <| .N <| .zn 6 <| .N <| .zn 17 <| .N <| .zn 17 <| .N <| .zn 4 <| .N <| .zn 6 <| .T <| .zn 34 <| .N <| .zn 6 <| .N <| .zn 17 <| .N <| .zn 17 <| .N <| .zn 5 <| .N <| .zn 4 <| .N <| .tn 3 <| .Z <| .Z <| .T <| .Z <| .Z <| .T <| .zn 3 <| .B (.zn 5 <| .B (.tn 3 <| .zn 3 <| .E (0) []) (.tn 4 <| .N <| .zn 4 <| .T <| .Z <| .Z <| .T <| .zn 4 <| .N <| .L (TB z q a k len cap 4 0) (SB z len 4 161) (Go.AE.Out.x 2 (TB z q a k len cap 4 (Int.toNat (k % (16 : Int)))) (SB z len 4 161)) <| .N <| .zn 10 <| .N <| .Z <| .Z <| .N <| .U <| .zn 8 <| .T <| .Z <| .Z <| .T <| .zn 3 <| .T <| .zn 5 <| .N <| .U <| .zn 6 <| .T <| .Z <| .Z <| .T <| .Z <| .Z <| .T <| .zn 3 <| .T <| .zn 5 <| .N <| .U <| .zn 4 <| .T <| .zn 42 <| .T <| .Z <| .Z <| .T <| .Z <| .Z <| .T <| .zn 3 <| .T <| .zn 5 <| .N <| .U <| .zn 4 <| .N <| .zn 6 <| .N <| .zn 17 <| .N <| .zn 17 <| .N <| .zn 4 <| .N <| .zn 6 <| .T <| .zn 36 <| .T <| .Z <| .Z <| .T <| .Z <| .Z <| .T <| .zn 3 <| .T <| .zn 5 <| .T <| .zn 11 <| .E (0) [])) (.zn 6 <| .tn 3 <| .zn 3 <| .E (0) []))))) (.zn 6 <| .B (.zn 36 <| .T <| .Z <| .Z <| .T <| .Z <| .Z <| .T <| .zn 3 <| .T <| .zn 5 <| .N <| .U <| .zn 4 <| .B (.zn 40 <| .T <| .zn 42 <| .T <| .Z <| .Z <| .T <| .Z <| .Z <| .T <| .zn 3 <| .T <| .zn 5 <| .N <| .U <| .zn 4 <| .B (.zn 40 <| .T <| .zn 40 <| .T <| .zn 53 <| .U <| .zn 8 <| .T <| .zn 12 <| .N <| .U <| .zn 6 <| .T <| .Z <| .Z <| .T <| .zn 6 <| .T <| .zn 5 <| .N <| .U <| .zn 4 <| .N <| .zn 6 <| .T <| .zn 36 <| .T <| .Z <| .Z <| .T <| .zn 6 <| .T <| .zn 5 <| .N <| .U <| .zn 4 <| .T <| .zn 40 <| .T <| .zn 42 <| .T <| .Z <| .Z <| .T <| .zn 6 <| .T <| .zn 5 <| .N <| .U <| .zn 4 <| .T <| .zn 40 <| .T <| .zn 40 <| .T <| .zn 41 <| .N <| .zn 4 <| .N <| .tn 3 <| .Z <| .Z <| .T <| .Z <| .Z <| .T <| .zn 3 <| .B (.zn 5 <| .B (.tn 3 <| .zn 3 <| .E (0) []) (.tn 4 <| .N <| .zn 4 <| .T <| .Z <| .Z <| .T <| .zn 4 <| .N <| .L (TB z q a k len cap 4 0) (SB z len 4 161) (Go.AE.Out.x 2 (TB z q a k len cap 4 (Int.toNat (k % (16 : Int)))) (SB z len 4 161)) <| .N <| .zn 10 <| .N <| .Z <| .Z <| .N <| .U <| .zn 8 <| .T <| .Z <| .Z <| .T <| .zn 3 <| .T <| .zn 5 <| .N <| .U <| .zn 6 <| .T <| .Z <| .Z <| .T <| .Z <| .Z <| .T <| .zn 3 <| .T <| .zn 5 <| .T <| .zn 11 <| .E (0) [])) (.zn 6 <| .tn 3 <| .zn 3 <| .E (0) [])) (.zn 6 <| .T <| .zn 34 <| .N <| .zn 6 <| .N <| .zn 17 <| .N <| .zn 17 <| .N <| .zn 4 <| .N <| .zn 6 <| .T <| .zn 47 <| .U <| .zn 8 <| .T <| .zn 12 <| .N <| .U <| .zn 6 <| .T <| .Z <| .Z <| .T <| .zn 6 <| .T <| .zn 5 <| .N <| .U <| .zn 4 <| .N <| .zn 6 <| .T <| .zn 36 <| .T <| .Z <| .Z <| .T <| .zn 6 <| .T <| .zn 5 <| .N <| .U <| .zn 4 <| .T <| .zn 40 <| .T <| .zn 42 <| .T <| .Z <| .Z <| .T <| .zn 6 <| .T <| .zn 5 <| .N <| .U <| .zn 4 <| .N <| .zn 6 <| .T <| .zn 34 <| .N <| .zn 6 <| .N <| .zn 17 <| .N <| .zn 17 <| .N <| .zn 4 <| .N <| .zn 6 <| .T <| .zn 35 <| .N <| .zn 4 <| .N <| .tn 3 <| .Z <| .Z <| .T <| .Z <| .Z <| .T <| .zn 3 <| .B (.zn 5 <| .B (.tn 3 <| .zn 3 <| .E (0) []) (.tn 4 <| .N <| .zn 4 <| .T <| .Z <| .Z <| .T <| .zn 4 <| .N <| .L (TB z q a k len cap 4 0) (SB z len 4 161) (Go.AE.Out.x 2 (TB z q a k len cap 4 (Int.toNat (k % (16 : Int)))) (SB z len 4 161)) <| .N <| .zn 10 <| .N <| .Z <| .Z <| .N <| .U <| .zn 8 <| .T <| .Z <| .Z <| .T <| .zn 3 <| .T <| .zn 5 <| .N <| .U <| .zn 6 <| .T <| .Z <| .Z <| .T <| .Z <| .Z <| .T <| .zn 3 <| .T <| .zn 5 <| .N <| .U <| .zn 4 <| .N <| .zn 6 <| .T <| .zn 36 <| .T <| .Z <| .Z <| .T <| .Z <| .Z <| .T <| .zn 3 <| .T <| .zn 5 <| .N <| .U <| .zn 4 <| .T <| .zn 40 <| .T <| .zn 42 <| .T <| .Z <| .Z <| .T <| .Z <| .Z <| .T <| .zn 3 <| .T <| .zn 5 <| .T <| .zn 11 <| .E (0) [])) (.zn 6 <| .tn 3 <| .zn 3 <| .E (0) []))) (.zn 6 <| .T <| .zn 34 <| .N <| .zn 6 <| .N <| .zn 17 <| .N <| .zn 17 <| .N <| .zn 6 <| .T <| .Z <| .Z <| .T <| .Z <| .Z <| .T <| .zn 3 <| .T <| .zn 5 <| .N <| .U <| .zn 4 <| .B (.zn 40 <| .T <| .zn 40 <| .T <| .zn 53 <| .U <| .zn 8 <| .T <| .zn 12 <| .N <| .U <| .zn 6 <| .T <| .Z <| .Z <| .T <| .zn 6 <| .T <| .zn 5 <| .N <| .U <| .zn 4 <| .N <| .zn 6 <| .T <| .zn 36 <| .T <| .Z <| .Z <| .T <| .zn 6 <| .T <| .zn 5 <| .N <| .U <| .zn 4 <| .N <| .zn 6 <| .T <| .zn 34 <| .N <| .zn 6 <| .N <| .zn 17 <| .N <| .zn 17 <| .N <| .zn 6 <| .T <| .Z <| .Z <| .T <| .zn 6 <| .T <| .zn 5 <| .N <| .U <| .zn 4 <| .T <| .zn 40 <| .T <| .zn 40 <| .T <| .zn 41 <| .N <| .zn 4 <| .N <| .tn 3 <| .Z <| .Z <| .T <| .Z <| .Z <| .T <| .zn 3 <| .B (.zn 5 <| .B (.tn 3 <| .zn 3 <| .E (0) []) (.tn 4 <| .N <| .zn 4 <| .T <| .Z <| .Z <| .T <| .zn 4 <| .N <| .L (TB z q a k len cap 4 0) (SB z len 4 161) (Go.AE.Out.x 2 (TB z q a k len cap 4 (Int.toNat (k % (16 : Int)))) (SB z len 4 161)) <| .N <| .zn 10 <| .N <| .Z <| .Z <| .N <| .U <| .zn 8 <| .T <| .Z <| .Z <| .T <| .zn 3 <| .T <| .zn 5 <| .N <| .U <| .zn 6 <| .T <| .Z <| .Z <| .T <| .Z <| .Z <| .T <| .zn 3 <| .T <| .zn 5 <| .N <| .U <| .zn 4 <| .N <| .zn 6 <| .T <| .zn 36 <| .T <| .Z <| .Z <| .T <| .Z <| .Z <| .T <| .zn 3 <| .T <| .zn 5 <| .T <| .zn 11 <| .E (0) [])) (.zn 6 <| .tn 3 <| .zn 3 <| .E (0) [])) (.zn 6 <| .T <| .zn 34 <| .N <| .zn 6 <| .N <| .zn 17 <| .N <| .zn 17 <| .N <| .zn 4 <| .N <| .zn 6 <| .N <| .zn 17 <| .N <| .zn 17 <| .N <| .zn 17 <| .U <| .zn 8 <| .T <| .zn 12 <| .N <| .U <| .zn 6 <| .T <| .Z <| .Z <| .T <| .zn 6 <| .T <| .zn 5 <| .N <| .U <| .zn 4 <| .N <| .zn 6 <| .T <| .zn 36 <| .T <| .Z <| .Z <| .T <| .zn 6 <| .T <| .zn 5 <| .N <| .U <| .zn 4 <| .N <| .zn 6 <| .T <| .zn 34 <| .N <| .zn 6 <| .N <| .zn 17 <| .N <| .zn 17 <| .N <| .zn 6 <| .T <| .Z <| .Z <| .T <| .zn 6 <| .T <| .zn 5 <| .N <| .U <| .zn 4 <| .N <| .zn 6 <| .T <| .zn 34 <| .N <| .zn 6 <| .N <| .zn 17 <| .N <| .zn 17 <| .N <| .zn 4 <| .N <| .zn 6 <| .N <| .zn 17 <| .N <| .zn 17 <| .N <| .zn 5 <| .N <| .zn 4 <| .N <| .tn 3 <| .Z <| .Z <| .T <| .Z <| .Z <| .T <| .zn 3 <| .B (.zn 5 <| .B (.tn 3 <| .zn 3 <| .E (0) []) (.tn 4 <| .N <| .zn 4 <| .T <| .Z <| .Z <| .T <| .zn 4 <| .N <| .L (TB z q a k len cap 4 0) (SB z len 4 161) (Go.AE.Out.x 2 (TB z q a k len cap 4 (Int.toNat (k % (16 : Int)))) (SB z len 4 161)) <| .N <| .zn 10 <| .N <| .Z <| .Z <| .N <| .U <| .zn 8 <| .T <| .Z <| .Z <| .T <| .zn 3 <| .T <| .zn 5 <| .N <| .U <| .zn 6 <| .T <| .Z <| .Z <| .T <| .Z <| .Z <| .T <| .zn 3 <| .T <| .zn 5 <| .N <| .U <| .zn 4 <| .N <| .zn 6 <| .T <| .zn 36 <| .T <| .Z <| .Z <| .T <| .Z <| .Z <| .T <| .zn 3 <| .T <| .zn 5 <| .N <| .U <| .zn 4 <| .N <| .zn 6 <| .T <| .zn 34 <| .N <| .zn 6 <| .N <| .zn 17 <| .N <| .zn 17 <| .N <| .zn 6 <| .T <| .Z <| .Z <| .T <| .Z <| .Z <| .T <| .zn 3 <| .T <| .zn 5 <| .T <| .zn 11 <| .E (0) [])) (.zn 6 <| .tn 3 <| .zn 3 <| .E (0) [])))) (.zn 17 <| .N <| .zn 17 <| .N <| .zn 6 <| .T <| .Z <| .Z <| .T <| .Z <| .Z <| .T <| .zn 3 <| .T <| .zn 5 <| .N <| .U <| .zn 4 <| .B (.zn 40 <| .T <| .zn 42 <| .T <| .Z <| .Z <| .T <| .Z <| .Z <| .T <| .zn 3 <| .T <| .zn 5 <| .N <| .U <| .zn 4 <| .B (.zn 40 <| .T <| .zn 40 <| .T <| .zn 53 <| .U <| .zn 8 <| .T <| .zn 12 <| .N <| .U <| .zn 6 <| .T <| .Z <| .Z <| .T <| .zn 6 <| .T <| .zn 5 <| .N <| .U <| .zn 4 <| .N <| .zn 6 <| .N <| .zn 17 <| .N <| .zn 17 <| .N <| .zn 6 <| .T <| .Z <| .Z <| .T <| .zn 6 <| .T <| .zn 5 <| .N <| .U <| .zn 4 <| .T <| .zn 40 <| .T <| .zn 42 <| .T <| .Z <| .Z <| .T <| .zn 6 <| .T <| .zn 5 <| .N <| .U <| .zn 4 <| .T <| .zn 40 <| .T <| .zn 40 <| .T <| .zn 41 <| .N <| .zn 4 <| .N <| .tn 3 <| .Z <| .Z <| .T <| .Z <| .Z <| .T <| .zn 3 <| .B (.zn 5 <| .B (.tn 3 <| .zn 3 <| .E (0) []) (.tn 4 <| .N <| .zn 4 <| .T <| .Z <| .Z <| .T <| .zn 4 <| .N <| .L (TB z q a k len cap 4 0) (SB z len 4 161) (Go.AE.Out.x 2 (TB z q a k len cap 4 (Int.toNat (k % (16 : Int)))) (SB z len 4 161)) <| .N <| .zn 10 <| .N <| .Z <| .Z <| .N <| .U <| .zn 8 <| .T <| .Z <| .Z <| .T <| .zn 3 <| .T <| .zn 5 <| .N <| .U <| .zn 6 <| .T <| .Z <| .Z <| .T <| .Z <| .Z <| .T <| .zn 3 <| .T <| .zn 5 <| .T <| .zn 11 <| .E (0) [])) (.zn 6 <| .tn 3 <| .zn 3 <| .E (0) [])) (.zn 6 <| .N <| .zn 17 <| .N <| .zn 17 <| .N <| .zn 4 <| .N <| .zn 6 <| .N <| .zn 17 <| .N <| .zn 17 <| .N <| .zn 4 <| .N <| .zn 6 <| .T <| .zn 47 <| .U <| .zn 8 <| .T <| .zn 12 <| .N <| .U <| .zn 6 <| .T <| .Z <| .Z <| .T <| .zn 6 <| .T <| .zn 5 <| .N <| .U <| .zn 4 <| .N <| .zn 6 <| .N <| .zn 17 <| .N <| .zn 17 <| .N <| .zn 6 <| .T <| .Z <| .Z <| .T <| .zn 6 <| .T <| .zn 5 <| .N <| .U <| .zn 4 <| .T <| .zn 40 <| .T <| .zn 42 <| .T <| .Z <| .Z <| .T <| .zn 6 <| .T <| .zn 5 <| .N <| .U <| .zn 4 <| .N <| .zn 6 <| .N <| .zn 17 <| .N <| .zn 17 <| .N <| .zn 4 <| .N <| .zn 6 <| .N <| .zn 17 <| .N <| .zn 17 <| .N <| .zn 4 <| .N <| .zn 6 <| .T <| .zn 35 <| .N <| .zn 4 <| .N <| .tn 3 <| .Z <| .Z <| .T <| .Z <| .Z <| .T <| .zn 3 <| .B (.zn 5 <| .B (.tn 3 <| .zn 3 <| .E (0) []) (.tn 4 <| .N <| .zn 4 <| .T <| .Z <| .Z <| .T <| .zn 4 <| .N <| .L (TB z q a k len cap 4 0) (SB z len 4 161) (Go.AE.Out.x 2 (TB z q a k len cap 4 (Int.toNat (k % (16 : Int)))) (SB z len 4 161)) <| .N <| .zn 10 <| .N <| .Z <| .Z <| .N <| .U <| .zn 8 <| .T <| .Z <| .Z <| .T <| .zn 3 <| .T <| .zn 5 <| .N <| .U <| .zn 6 <| .T <| .Z <| .Z <| .T <| .Z <| .Z <| .T <| .zn 3 <| .T <| .zn 5 <| .N <| .U <| .zn 4 <| .N <| .zn 6 <| .N <| .zn 17 <| .N <| .zn 17 <| .N <| .zn 6 <| .T <| .Z <| .Z <| .T <| .Z <| .Z <| .T <| .zn 3 <| .T <| .zn 5 <| .N <| .U <| .zn 4 <| .T <| .zn 40 <| .T <| .zn 42 <| .T <| .Z <| .Z <| .T <| .Z <| .Z <| .T <| .zn 3 <| .T <| .zn 5 <| .T <| .zn 11 <| .E (0) [])) (.zn 6 <| .tn 3 <| .zn 3 <| .E (0) []))) (.zn 6 <| .N <| .zn 17 <| .N <| .zn 17 <| .N <| .zn 4 <| .N <| .zn 6 <| .N <| .zn 17 <| .N <| .zn 17 <| .N <| .zn 6 <| .T <| .Z <| .Z <| .T <| .Z <| .Z <| .T <| .zn 3 <| .T <| .zn 5 <| .N <| .U <| .zn 4 <| .B (.zn 40 <| .T <| .zn 40 <| .T <| .zn 53 <| .U <| .zn 8 <| .T <| .zn 12 <| .N <| .U <| .zn 6 <| .T <| .Z <| .Z <| .T <| .zn 6 <| .T <| .zn 5 <| .N <| .U <| .zn 4 <| .N <| .zn 6 <| .N <| .zn 17 <| .N <| .zn 17 <| .N <| .zn 6 <| .T <| .Z <| .Z <| .T <| .zn 6 <| .T <| .zn 5 <| .N <| .U <| .zn 4 <| .N <| .zn 6 <| .N <| .zn 17 <| .N <| .zn 17 <| .N <| .zn 4 <| .N <| .zn 6 <| .N <| .zn 17 <| .N <| .zn 17 <| .N <| .zn 6 <| .T <| .Z <| .Z <| .T <| .zn 6 <| .T <| .zn 5 <| .N <| .U <| .zn 4 <| .T <| .zn 40 <| .T <| .zn 40 <| .T <| .zn 41 <| .N <| .zn 4 <| .N <| .tn 3 <| .Z <| .Z <| .T <| .Z <| .Z <| .T <| .zn 3 <| .B (.zn 5 <| .B (.tn 3 <| .zn 3 <| .E (0) []) (.tn 4 <| .N <| .zn 4 <| .T <| .Z <| .Z <| .T <| .zn 4 <| .N <| .L (TB z q a k len cap 4 0) (SB z len 4 161) (Go.AE.Out.x 2 (TB z q a k len cap 4 (Int.toNat (k % (16 : Int)))) (SB z len 4 161)) <| .N <| .zn 10 <| .N <| .Z <| .Z <| .N <| .U <| .zn 8 <| .T <| .Z <| .Z <| .T <| .zn 3 <| .T <| .zn 5 <| .N <| .U <| .zn 6 <| .T <| .Z <| .Z <| .T <| .Z <| .Z <| .T <| .zn 3 <| .T <| .zn 5 <| .N <| .U <| .zn 4 <| .N <| .zn 6 <| .N <| .zn 17 <| .N <| .zn 17 <| .N <| .zn 6 <| .T <| .Z <| .Z <| .T <| .Z <| .Z <| .T <| .zn 3 <| .T <| .zn 5 <| .T <| .zn 11 <| .E (0) [])) (.zn 6 <| .tn 3 <| .zn 3 <| .E (0) [])) (.zn 6 <| .N <| .zn 17 <| .N <| .zn 17 <| .N <| .zn 4 <| .N <| .zn 6 <| .N <| .zn 17 <| .N <| .zn 17 <| .N <| .zn 4 <| .N <| .zn 6 <| .N <| .zn 17 <| .N <| .zn 17 <| .N <| .zn 17 <| .U <| .zn 8 <| .T <| .zn 12 <| .N <| .U <| .zn 6 <| .T <| .Z <| .Z <| .T <| .zn 6 <| .T <| .zn 5 <| .N <| .U <| .zn 4 <| .N <| .zn 6 <| .N <| .zn 17 <| .N <| .zn 17 <| .N <| .zn 6 <| .T <| .Z <| .Z <| .T <| .zn 6 <| .T <| .zn 5 <| .N <| .U <| .zn 4 <| .N <| .zn 6 <| .N <| .zn 17 <| .N <| .zn 17 <| .N <| .zn 4 <| .N <| .zn 6 <| .N <| .zn 17 <| .N <| .zn 17 <| .N <| .zn 6 <| .T <| .Z <| .Z <| .T <| .zn 6 <| .T <| .zn 5 <| .N <| .U <| .zn 4 <| .N <| .zn 6 <| .N <| .zn 17 <| .N <| .zn 17 <| .N <| .zn 4 <| .N <| .zn 6 <| .N <| .zn 17 <| .N <| .zn 17 <| .N <| .zn 4 <| .N <| .zn 6 <| .N <| .zn 17 <| .N <| .zn 17 <| .N <| .zn 5 <| .N <| .zn 4 <| .N <| .tn 3 <| .Z <| .Z <| .T <| .Z <| .Z <| .T <| .zn 3 <| .B (.zn 5 <| .B (.tn 3 <| .zn 3 <| .E (0) []) (.tn 4 <| .N <| .zn 4 <| .T <| .Z <| .Z <| .T <| .zn 4 <| .N <| .L (TB z q a k len cap 4 0) (SB z len 4 161) (Go.AE.Out.x 2 (TB z q a k len cap 4 (Int.toNat (k % (16 : Int)))) (SB z len 4 161)) <| .N <| .zn 10 <| .N <| .Z <| .Z <| .N <| .U <| .zn 8 <| .T <| .Z <| .Z <| .T <| .zn 3 <| .T <| .zn 5 <| .N <| .U <| .zn 6 <| .T <| .Z <| .Z <| .T <| .Z <| .Z <| .T <| .zn 3 <| .T <| .zn 5 <| .N <| .U <| .zn 4 <| .N <| .zn 6 <| .N <| .zn 17 <| .N <| .zn 17 <| .N <| .zn 6 <| .T <| .Z <| .Z <| .T <| .Z <| .Z <| .T <| .zn 3 <| .T <| .zn 5 <| .N <| .U <| .zn 4 <| .N <| .zn 6 <| .N <| .zn 17 <| .N <| .zn 17 <| .N <| .zn 4 <| .N <| .zn 6 <| .N <| .zn 17 <| .N <| .zn 17 <| .N <| .zn 6 <| .T <| .Z <| .Z <| .T <| .Z <| .Z <| .T <| .zn 3 <| .T <| .zn 5 <| .T <| .zn 11 <| .E (0) [])) (.zn 6 <| .tn 3 <| .zn 3 <| .E (0) []))))), Go.AE.kchange (b := (True) ∧
 (((0 = 0 ∧ len = len ∧ cap = cap) ∧ q = q ∧ a = a ∧ k = k ∧ Bool.false = Bool.false ∧ True ∧ (0 : Int) = (0 : Int) ∧ (0 : Int) = (0 : Int) ∧ True) ∧ (len = len ∧ (∀ (jj0 : Nat), (jj0 < len → True ∧ z jj0 0 = z jj0 0 ∧ True))) ∧ True) ∧
 LO (Go.Proofs.Try.prog) (Go.AE.lp Go.Proofs.Try.prog 6 0) (TA Bool.false z q a k len cap 0) (SA Bool.false z len 0) (Go.AE.Out.x 0 (TA Bool.false z q a k len cap 4) (SA Bool.false z len 4)) ∧
 (decide (PS z 4 < (0 : Int))) = false ∧
 (decide ((64 : Int) < PS z 4)) = false ∧
 (decide ((0 : Int) ≤ z 0 0 % (16 : Int))) = true ∧
 (decide ((0 : Int) ≤ PS z 4)) = true ∧
 (decide (PS z 0 ≤ PS z 4)) = true ∧
 (!decide (z 0 0 % (16 : Int) ≤ IntKind.wrap IntKind.i64 (PS z 4 - PS z 0))) = false ∧
 (decide ((0 : Int) ≤ PS z 1)) = true ∧
 (decide ((0 : Int) ≤ z 1 0 % (16 : Int))) = true ∧
 (decide ((0 : Int) ≤ PS z 4)) = true ∧
 (decide (PS z 1 ≤ PS z 4)) = true ∧
 (!decide (z 1 0 % (16 : Int) ≤ IntKind.wrap IntKind.i64 (PS z 4 - PS z 1))) = false ∧
 (((decide (z 1 0 % (16 : Int) = (0 : Int))) = true → (decide ((0 : Int) ≤ PS z 2)) = true ∧
 (decide ((0 : Int) ≤ z 2 0 % (16 : Int))) = true ∧
 (decide ((0 : Int) ≤ PS z 4)) = true ∧
 (decide (PS z 2 ≤ PS z 4)) = true ∧
 (!decide (z 2 0 % (16 : Int) ≤ IntKind.wrap IntKind.i64 (PS z 4 - PS z 2))) = false ∧
 (((decide (z 2 0 % (16 : Int) = (0 : Int))) = true → (decide (z 2 0 % (16 : Int) = (0 : Int))) = true ∧
 (decide ((0 : Int) ≤ PS z 3)) = true ∧
 (decide ((0 : Int) ≤ z 3 0 % (16 : Int))) = true ∧
 (decide ((0 : Int) ≤ PS z 4)) = true ∧
 (decide (PS z 3 ≤ PS z 4)) = true ∧
 (!decide (z 3 0 % (16 : Int) ≤ IntKind.wrap IntKind.i64 (PS z 4 - PS z 3))) = false ∧
 (((decide (z 3 0 % (16 : Int) = (0 : Int))) = true → (decide (z 3 0 % (16 : Int) = (0 : Int))) = true ∧
 (decide (z 3 0 % (16 : Int) = (0 : Int))) = true ∧
 (decide ((0 : Int) ≤ z 0 0 % (16 : Int))) = true ∧
 (!decide (z 0 0 % (16 : Int) ≤ IntKind.wrap IntKind.i64 ((64 : Int) - PS z 0))) = false ∧
 (decide ((0 : Int) ≤ PS z 1)) = true ∧
 (decide ((0 : Int) ≤ z 1 0 % (16 : Int))) = true ∧
 (decide (PS z 1 ≤ (64 : Int))) = true ∧
 (!decide (z 1 0 % (16 : Int) ≤ IntKind.wrap IntKind.i64 ((64 : Int) - PS z 1))) = false ∧
 (decide (z 1 0 % (16 : Int) = (0 : Int))) = true ∧
 (decide ((0 : Int) ≤ PS z 2)) = true ∧
 (decide ((0 : Int) ≤ z 2 0 % (16 : Int))) = true ∧
 (decide (PS z 2 ≤ (64 : Int))) = true ∧
 (!decide (z 2 0 % (16 : Int) ≤ IntKind.wrap IntKind.i64 ((64 : Int) - PS z 2))) = false ∧
 (decide (z 2 0 % (16 : Int) = (0 : Int))) = true ∧
 (decide (z 2 0 % (16 : Int) = (0 : Int))) = true ∧
 (decide ((0 : Int) ≤ PS z 3)) = true ∧
 (decide ((0 : Int) ≤ z 3 0 % (16 : Int))) = true ∧
 (decide (PS z 3 ≤ (64 : Int))) = true ∧
 (!decide (z 3 0 % (16 : Int) ≤ IntKind.wrap IntKind.i64 ((64 : Int) - PS z 3))) = false ∧
 (decide (z 3 0 % (16 : Int) = (0 : Int))) = true ∧
 (decide (z 3 0 % (16 : Int) = (0 : Int))) = true ∧
 (decide (z 3 0 % (16 : Int) = (0 : Int))) = true ∧
 (decide (IntKind.wrap IntKind.i64 (Int.tmod (IntKind.wrap IntKind.u64 q) (4 : Int)) < (0 : Int))) = false ∧
 (decide ((4 : Int) ≤ IntKind.wrap IntKind.i64 (Int.tmod (IntKind.wrap IntKind.u64 q) (4 : Int)))) = false ∧
 (decide ((0 : Int) ≤ IntKind.wrap IntKind.i64 (Int.tmod (IntKind.wrap IntKind.u64 q) (4 : Int))) && decide (IntKind.wrap IntKind.i64 (Int.tmod (IntKind.wrap IntKind.u64 q) (4 : Int)) < (4 : Int))) = true ∧
 (decide (0 + Int.toNat (IntKind.wrap IntKind.i64 (Int.tmod (IntKind.wrap IntKind.u64 q) (4 : Int))) * 1 < 4)) = true ∧
 (decide ((0 : Int) ≤ Go.bits BinOp.and IntKind.i64 a (15 : Int))) = true ∧
 (decide ((0 : Int) ≤ Go.bits BinOp.and IntKind.i64 k (15 : Int))) = true ∧
 (decide ((0 : Int) ≤ z (0 + Int.toNat (IntKind.wrap IntKind.i64 (Int.tmod (IntKind.wrap IntKind.u64 q) (4 : Int))) * 1) 0 % (16 : Int))) = true ∧
 (((decide (Go.bits BinOp.and IntKind.i64 a (15 : Int) ≤ z (0 + Int.toNat (IntKind.wrap IntKind.i64 (Int.tmod (IntKind.wrap IntKind.u64 q) (4 : Int))) * 1) 0 % (16 : Int))) = true → (((!decide (Go.bits BinOp.and IntKind.i64 k (15 : Int) ≤ IntKind.wrap IntKind.i64 (z (0 + Int.toNat (IntKind.wrap IntKind.i64 (Int.tmod (IntKind.wrap IntKind.u64 q) (4 : Int))) * 1) 0 % (16 : Int) - Go.bits BinOp.and IntKind.i64 a (15 : Int)))) = true → (decide ((0 : Int) ≤ IntKind.wrap IntKind.i64 (Int.tmod (IntKind.wrap IntKind.u64 q) (4 : Int))) && decide (IntKind.wrap IntKind.i64 (Int.tmod (IntKind.wrap IntKind.u64 q) (4 : Int)) < (4 : Int))) = true ∧
 (decide (0 + Int.toNat (IntKind.wrap IntKind.i64 (Int.tmod (IntKind.wrap IntKind.u64 q) (4 : Int))) * 1 < 4)) = true ∧
 (decide (z (0 + Int.toNat (IntKind.wrap IntKind.i64 (Int.tmod (IntKind.wrap IntKind.u64 q) (4 : Int))) * 1) 0 % (16 : Int) < IntKind.wrap IntKind.i64 (Go.bits BinOp.and IntKind.i64 a (15 : Int) + Go.bits BinOp.and IntKind.i64 k (15 : Int)))) = true ∧
 Bool.true = Bool.true) ∧ ((!decide (Go.bits BinOp.and IntKind.i64 k (15 : Int) ≤ IntKind.wrap IntKind.i64 (z (0 + Int.toNat (IntKind.wrap IntKind.i64 (Int.tmod (IntKind.wrap IntKind.u64 q) (4 : Int))) * 1) 0 % (16 : Int) - Go.bits BinOp.and IntKind.i64 a (15 : Int)))) = false → (decide ((0 : Int) ≤ IntKind.wrap IntKind.i64 (Int.tmod (IntKind.wrap IntKind.u64 q) (4 : Int))) && decide (IntKind.wrap IntKind.i64 (Int.tmod (IntKind.wrap IntKind.u64 q) (4 : Int)) < (4 : Int))) = true ∧
 (decide (0 + Int.toNat (IntKind.wrap IntKind.i64 (Int.tmod (IntKind.wrap IntKind.u64 q) (4 : Int))) * 1 < 4)) = true ∧
 (decide ((0 : Int) ≤ IntKind.wrap IntKind.i64 (Int.tmod (IntKind.wrap IntKind.u64 q) (4 : Int))) && decide (IntKind.wrap IntKind.i64 (Int.tmod (IntKind.wrap IntKind.u64 q) (4 : Int)) < (4 : Int))) = true ∧
 (decide (0 + Int.toNat (IntKind.wrap IntKind.i64 (Int.tmod (IntKind.wrap IntKind.u64 q) (4 : Int))) * 1 < 4)) = true ∧
 (decide (z (0 + Int.toNat (IntKind.wrap IntKind.i64 (Int.tmod (IntKind.wrap IntKind.u64 q) (4 : Int))) * 1) 0 % (16 : Int) < IntKind.wrap IntKind.i64 (Go.bits BinOp.and IntKind.i64 a (15 : Int) + Go.bits BinOp.and IntKind.i64 k (15 : Int)))) = false ∧
 (decide ((0 : Int) ≤ IntKind.wrap IntKind.i64 (Int.tmod (IntKind.wrap IntKind.u64 q) (4 : Int))) && decide (IntKind.wrap IntKind.i64 (Int.tmod (IntKind.wrap IntKind.u64 q) (4 : Int)) < (4 : Int))) = true ∧
 (decide (0 + Int.toNat (IntKind.wrap IntKind.i64 (Int.tmod (IntKind.wrap IntKind.u64 q) (4 : Int))) * 1 < 4)) = true ∧
 (!decide (IntKind.wrap IntKind.i64 (PS z (0 + Int.toNat (IntKind.wrap IntKind.i64 (Int.tmod (IntKind.wrap IntKind.u64 q) (4 : Int))) * 1) + Go.bits BinOp.and IntKind.i64 a (15 : Int)) = IntKind.wrap IntKind.i64 (PS z (0 + Int.toNat (IntKind.wrap IntKind.i64 (Int.tmod (IntKind.wrap IntKind.u64 q) (4 : Int))) * 1) + Go.bits BinOp.and IntKind.i64 a (15 : Int)))) = false ∧
 (((0 = 0 ∧ len = len ∧ cap = cap) ∧ q = q ∧ a = a ∧ k = k ∧ Bool.false = Bool.false ∧ (0 = 0 ∧ 4 = 4 ∧ 4 = 4) ∧ PS z 4 = PS z 4 ∧ IntKind.wrap IntKind.i64 (Int.tmod (IntKind.wrap IntKind.u64 q) (4 : Int)) = q % (18446744073709551616 : Int) % (4 : Int) ∧ Go.bits BinOp.and IntKind.i64 a (15 : Int) = a % (16 : Int) ∧ Go.bits BinOp.and IntKind.i64 k (15 : Int) = k % (16 : Int) ∧ IntKind.wrap IntKind.i64 (PS z (0 + Int.toNat (IntKind.wrap IntKind.i64 (Int.tmod (IntKind.wrap IntKind.u64 q) (4 : Int))) * 1) + Go.bits BinOp.and IntKind.i64 a (15 : Int)) = PS z (Int.toNat (q % (18446744073709551616 : Int) % (4 : Int))) + a % (16 : Int) ∧ (0 : Int) = (0 : Int) ∧ True) ∧ (4 = 4 ∧ (∀ (jj0 : Nat), (jj0 < 4 → True ∧ (0 : Int) = (0 : Int) ∧ (0 : Int) = (0 : Int) ∧ True ∧ PS z jj0 = PS z jj0 ∧ z jj0 0 % (16 : Int) = z jj0 0 % (16 : Int) ∧ True))) ∧ (len = len ∧ (∀ (jj0 : Nat), (jj0 < len → True ∧ z jj0 0 = z jj0 0 ∧ True))) ∧ True) ∧
 LO (Go.Proofs.Try.prog) (Go.AE.lp Go.Proofs.Try.prog 6 1) (TB z q a k len cap 4 0) (SB z len 4 161) (Go.AE.Out.x 2 (TB z q a k len cap 4 (Int.toNat (k % (16 : Int)))) (SB z len 4 161)) ∧
 (((decide (PS z 4 = (0 : Int))) = true → Bool.true = Bool.true) ∧ ((decide (PS z 4 = (0 : Int))) = false → (decide (IntKind.wrap IntKind.i64 (PS z 4 - (1 : Int)) < (0 : Int))) = false ∧
 (decide ((64 : Int) < IntKind.wrap IntKind.i64 (PS z 4 - (1 : Int)))) = false ∧
 (decide ((0 : Int) ≤ z 0 0 % (16 : Int))) = true ∧
 (decide ((0 : Int) ≤ IntKind.wrap IntKind.i64 (PS z 4 - (1 : Int)))) = true ∧
 (decide (PS z 0 ≤ IntKind.wrap IntKind.i64 (PS z 4 - (1 : Int)))) = true ∧
 (!decide (z 0 0 % (16 : Int) ≤ IntKind.wrap IntKind.i64 (IntKind.wrap IntKind.i64 (PS z 4 - (1 : Int)) - PS z 0))) = true ∧
 Bool.true = Bool.true))))) ∧ ((decide (Go.bits BinOp.and IntKind.i64 a (15 : Int) ≤ z (0 + Int.toNat (IntKind.wrap IntKind.i64 (Int.tmod (IntKind.wrap IntKind.u64 q) (4 : Int))) * 1) 0 % (16 : Int))) = false → (decide ((0 : Int) ≤ IntKind.wrap IntKind.i64 (Int.tmod (IntKind.wrap IntKind.u64 q) (4 : Int))) && decide (IntKind.wrap IntKind.i64 (Int.tmod (IntKind.wrap IntKind.u64 q) (4 : Int)) < (4 : Int))) = true ∧
 (decide (0 + Int.toNat (IntKind.wrap IntKind.i64 (Int.tmod (IntKind.wrap IntKind.u64 q) (4 : Int))) * 1 < 4)) = true ∧
 (decide (z (0 + Int.toNat (IntKind.wrap IntKind.i64 (Int.tmod (IntKind.wrap IntKind.u64 q) (4 : Int))) * 1) 0 % (16 : Int) < IntKind.wrap IntKind.i64 (Go.bits BinOp.and IntKind.i64 a (15 : Int) + Go.bits BinOp.and IntKind.i64 k (15 : Int)))) = true ∧
 Bool.true = Bool.true))) ∧ ((decide (z 3 0 % (16 : Int) = (0 : Int))) = false → (((decide (z 0 0 % (16 : Int) = (0 : Int))) = true → (decide (z 3 0 % (16 : Int) = (0 : Int))) = false ∧
 (decide (z 1 0 % (16 : Int) = (0 : Int))) = true ∧
 (decide (z 3 0 % (16 : Int) = (0 : Int))) = false ∧
 (decide (z 2 0 % (16 : Int) = (0 : Int))) = true ∧
 (decide ((0 : Int) ≤ z 0 0 % (16 : Int))) = true ∧
 (!decide (z 0 0 % (16 : Int) ≤ IntKind.wrap IntKind.i64 ((64 : Int) - PS z 0))) = false ∧
 (decide ((0 : Int) ≤ PS z 1)) = true ∧
 (decide ((0 : Int) ≤ z 1 0 % (16 : Int))) = true ∧
 (decide (PS z 1 ≤ (64 : Int))) = true ∧
 (!decide (z 1 0 % (16 : Int) ≤ IntKind.wrap IntKind.i64 ((64 : Int) - PS z 1))) = false ∧
 (decide (z 1 0 % (16 : Int) = (0 : Int))) = true ∧
 (decide ((0 : Int) ≤ PS z 2)) = true ∧
 (decide ((0 : Int) ≤ z 2 0 % (16 : Int))) = true ∧
 (decide (PS z 2 ≤ (64 : Int))) = true ∧
 (!decide (z 2 0 % (16 : Int) ≤ IntKind.wrap IntKind.i64 ((64 : Int) - PS z 2))) = false ∧
 (decide (z 2 0 % (16 : Int) = (0 : Int))) = true ∧
 (decide (z 2 0 % (16 : Int) = (0 : Int))) = true ∧
 (decide ((0 : Int) ≤ PS z 3)) = true ∧
 (decide ((0 : Int) ≤ z 3 0 % (16 : Int))) = true ∧
 (decide (PS z 3 ≤ (64 : Int))) = true ∧
 (!decide (z 3 0 % (16 : Int) ≤ IntKind.wrap IntKind.i64 ((64 : Int) - PS z 3))) = false ∧
 (decide (z 3 0 % (16 : Int) = (0 : Int))) = false ∧
 (decide (z 0 0 % (16 : Int) = (0 : Int))) = true ∧
 (decide (z 3 0 % (16 : Int) = (0 : Int))) = false ∧
 (decide (z 1 0 % (16 : Int) = (0 : Int))) = true ∧
 (decide (z 3 0 % (16 : Int) = (0 : Int))) = false ∧
 (decide (z 2 0 % (16 : Int) = (0 : Int))) = true ∧
 (decide (IntKind.wrap IntKind.i64 (Int.tmod (IntKind.wrap IntKind.u64 q) (4 : Int)) < (0 : Int))) = false ∧
 (decide ((4 : Int) ≤ IntKind.wrap IntKind.i64 (Int.tmod (IntKind.wrap IntKind.u64 q) (4 : Int)))) = false ∧
 (decide ((0 : Int) ≤ IntKind.wrap IntKind.i64 (Int.tmod (IntKind.wrap IntKind.u64 q) (4 : Int))) && decide (IntKind.wrap IntKind.i64 (Int.tmod (IntKind.wrap IntKind.u64 q) (4 : Int)) < (4 : Int))) = true ∧
 (decide (0 + Int.toNat (IntKind.wrap IntKind.i64 (Int.tmod (IntKind.wrap IntKind.u64 q) (4 : Int))) * 1 < 4)) = true ∧
 (decide ((0 : Int) ≤ Go.bits BinOp.and IntKind.i64 a (15 : Int))) = true ∧
 (decide ((0 : Int) ≤ Go.bits BinOp.and IntKind.i64 k (15 : Int))) = true ∧
 (decide ((0 : Int) ≤ z (0 + Int.toNat (IntKind.wrap IntKind.i64 (Int.tmod (IntKind.wrap IntKind.u64 q) (4 : Int))) * 1) 0 % (16 : Int))) = true ∧
 (((decide (Go.bits BinOp.and IntKind.i64 a (15 : Int) ≤ z (0 + Int.toNat (IntKind.wrap IntKind.i64 (Int.tmod (IntKind.wrap IntKind.u64 q) (4 : Int))) * 1) 0 % (16 : Int))) = true → (((!decide (Go.bits BinOp.and IntKind.i64 k (15 : Int) ≤ IntKind.wrap IntKind.i64 (z (0 + Int.toNat (IntKind.wrap IntKind.i64 (Int.tmod (IntKind.wrap IntKind.u64 q) (4 : Int))) * 1) 0 % (16 : Int) - Go.bits BinOp.and IntKind.i64 a (15 : Int)))) = true → (decide ((0 : Int) ≤ IntKind.wrap IntKind.i64 (Int.tmod (IntKind.wrap IntKind.u64 q) (4 : Int))) && decide (IntKind.wrap IntKind.i64 (Int.tmod (IntKind.wrap IntKind.u64 q) (4 : Int)) < (4 : Int))) = true ∧
 (decide (0 + Int.toNat (IntKind.wrap IntKind.i64 (Int.tmod (IntKind.wrap IntKind.u64 q) (4 : Int))) * 1 < 4)) = true ∧
 (decide (z (0 + Int.toNat (IntKind.wrap IntKind.i64 (Int.tmod (IntKind.wrap IntKind.u64 q) (4 : Int))) * 1) 0 % (16 : Int) < IntKind.wrap IntKind.i64 (Go.bits BinOp.and IntKind.i64 a (15 : Int) + Go.bits BinOp.and IntKind.i64 k (15 : Int)))) = true ∧
 Bool.true = Bool.true) ∧ ((!decide (Go.bits BinOp.and IntKind.i64 k (15 : Int) ≤ IntKind.wrap IntKind.i64 (z (0 + Int.toNat (IntKind.wrap IntKind.i64 (Int.tmod (IntKind.wrap IntKind.u64 q) (4 : Int))) * 1) 0 % (16 : Int) - Go.bits BinOp.and IntKind.i64 a (15 : Int)))) = false → (decide ((0 : Int) ≤ IntKind.wrap IntKind.i64 (Int.tmod (IntKind.wrap IntKind.u64 q) (4 : Int))) && decide (IntKind.wrap IntKind.i64 (Int.tmod (IntKind.wrap IntKind.u64 q) (4 : Int)) < (4 : Int))) = true ∧
 (decide (0 + Int.toNat (IntKind.wrap IntKind.i64 (Int.tmod (IntKind.wrap IntKind.u64 q) (4 : Int))) * 1 < 4)) = true ∧
 (decide ((0 : Int) ≤ IntKind.wrap IntKind.i64 (Int.tmod (IntKind.wrap IntKind.u64 q) (4 : Int))) && decide (IntKind.wrap IntKind.i64 (Int.tmod (IntKind.wrap IntKind.u64 q) (4 : Int)) < (4 : Int))) = true ∧
 (decide (0 + Int.toNat (IntKind.wrap IntKind.i64 (Int.tmod (IntKind.wrap IntKind.u64 q) (4 : Int))) * 1 < 4)) = true ∧
 (decide (z (0 + Int.toNat (IntKind.wrap IntKind.i64 (Int.tmod (IntKind.wrap IntKind.u64 q) (4 : Int))) * 1) 0 % (16 : Int) < IntKind.wrap IntKind.i64 (Go.bits BinOp.and IntKind.i64 a (15 : Int) + Go.bits BinOp.and IntKind.i64 k (15 : Int)))) = false ∧
 (decide ((0 : Int) ≤ IntKind.wrap IntKind.i64 (Int.tmod (IntKind.wrap IntKind.u64 q) (4 : Int))) && decide (IntKind.wrap IntKind.i64 (Int.tmod (IntKind.wrap IntKind.u64 q) (4 : Int)) < (4 : Int))) = true ∧
 (decide (0 + Int.toNat (IntKind.wrap IntKind.i64 (Int.tmod (IntKind.wrap IntKind.u64 q) (4 : Int))) * 1 < 4)) = true ∧
 (!decide (IntKind.wrap IntKind.i64 (PS z (0 + Int.toNat (IntKind.wrap IntKind.i64 (Int.tmod (IntKind.wrap IntKind.u64 q) (4 : Int))) * 1) + Go.bits BinOp.and IntKind.i64 a (15 : Int)) = IntKind.wrap IntKind.i64 (PS z (0 + Int.toNat (IntKind.wrap IntKind.i64 (Int.tmod (IntKind.wrap IntKind.u64 q) (4 : Int))) * 1) + Go.bits BinOp.and IntKind.i64 a (15 : Int)))) = false ∧
 (((0 = 0 ∧ len = len ∧ cap = cap) ∧ q = q ∧ a = a ∧ k = k ∧ Bool.false = Bool.false ∧ (0 = 0 ∧ 4 = 4 ∧ 4 = 4) ∧ PS z 4 = PS z 4 ∧ IntKind.wrap IntKind.i64 (Int.tmod (IntKind.wrap IntKind.u64 q) (4 : Int)) = q % (18446744073709551616 : Int) % (4 : Int) ∧ Go.bits BinOp.and IntKind.i64 a (15 : Int) = a % (16 : Int) ∧ Go.bits BinOp.and IntKind.i64 k (15 : Int) = k % (16 : Int) ∧ IntKind.wrap IntKind.i64 (PS z (0 + Int.toNat (IntKind.wrap IntKind.i64 (Int.tmod (IntKind.wrap IntKind.u64 q) (4 : Int))) * 1) + Go.bits BinOp.and IntKind.i64 a (15 : Int)) = PS z (Int.toNat (q % (18446744073709551616 : Int) % (4 : Int))) + a % (16 : Int) ∧ (0 : Int) = (0 : Int) ∧ True) ∧ (4 = 4 ∧ (∀ (jj0 : Nat), (jj0 < 4 → True ∧ (0 : Int) = (0 : Int) ∧ (0 : Int) = (0 : Int) ∧ True ∧ PS z jj0 = PS z jj0 ∧ z jj0 0 % (16 : Int) = z jj0 0 % (16 : Int) ∧ True))) ∧ (len = len ∧ (∀ (jj0 : Nat), (jj0 < len → True ∧ z jj0 0 = z jj0 0 ∧ True))) ∧ True) ∧
 LO (Go.Proofs.Try.prog) (Go.AE.lp Go.Proofs.Try.prog 6 1) (TB z q a k len cap 4 0) (SB z len 4 161) (Go.AE.Out.x 2 (TB z q a k len cap 4 (Int.toNat (k % (16 : Int)))) (SB z len 4 161)) ∧
 (decide (PS z 4 = (0 : Int))) = false ∧
 (decide (IntKind.wrap IntKind.i64 (PS z 4 - (1 : Int)) < (0 : Int))) = false ∧
 (decide ((64 : Int) < IntKind.wrap IntKind.i64 (PS z 4 - (1 : Int)))) = false ∧
 (decide ((0 : Int) ≤ z 0 0 % (16 : Int))) = true ∧
 (decide ((0 : Int) ≤ IntKind.wrap IntKind.i64 (PS z 4 - (1 : Int)))) = true ∧
 (decide (PS z 0 ≤ IntKind.wrap IntKind.i64 (PS z 4 - (1 : Int)))) = true ∧
 (!decide (z 0 0 % (16 : Int) ≤ IntKind.wrap IntKind.i64 (IntKind.wrap IntKind.i64 (PS z 4 - (1 : Int)) - PS z 0))) = false ∧
 (decide ((0 : Int) ≤ PS z 1)) = true ∧
 (decide ((0 : Int) ≤ z 1 0 % (16 : Int))) = true ∧
 (decide ((0 : Int) ≤ IntKind.wrap IntKind.i64 (PS z 4 - (1 : Int)))) = true ∧
 (decide (PS z 1 ≤ IntKind.wrap IntKind.i64 (PS z 4 - (1 : Int)))) = true ∧
 (!decide (z 1 0 % (16 : Int) ≤ IntKind.wrap IntKind.i64 (IntKind.wrap IntKind.i64 (PS z 4 - (1 : Int)) - PS z 1))) = false ∧
 (decide (z 1 0 % (16 : Int) = (0 : Int))) = true ∧
 (decide ((0 : Int) ≤ PS z 2)) = true ∧
 (decide ((0 : Int) ≤ z 2 0 % (16 : Int))) = true ∧
 (decide ((0 : Int) ≤ IntKind.wrap IntKind.i64 (PS z 4 - (1 : Int)))) = true ∧
 (decide (PS z 2 ≤ IntKind.wrap IntKind.i64 (PS z 4 - (1 : Int)))) = true ∧
 (!decide (z 2 0 % (16 : Int) ≤ IntKind.wrap IntKind.i64 (IntKind.wrap IntKind.i64 (PS z 4 - (1 : Int)) - PS z 2))) = false ∧
 (decide (z 2 0 % (16 : Int) = (0 : Int))) = true ∧
 (decide (z 2 0 % (16 : Int) = (0 : Int))) = true ∧
 (decide ((0 : Int) ≤ PS z 3)) = true ∧
 (decide ((0 : Int) ≤ z 3 0 % (16 : Int))) = true ∧
 (decide ((0 : Int) ≤ IntKind.wrap IntKind.i64 (PS z 4 - (1 : Int)))) = true ∧
 (decide (PS z 3 ≤ IntKind.wrap IntKind.i64 (PS z 4 - (1 : Int)))) = true ∧
 (!decide (z 3 0 % (16 : Int) ≤ IntKind.wrap IntKind.i64 (IntKind.wrap IntKind.i64 (PS z 4 - (1 : Int)) - PS z 3))) = true ∧
 Bool.true = Bool.true))) ∧ ((decide (Go.bits BinOp.and IntKind.i64 a (15 : Int) ≤ z (0 + Int.toNat (IntKind.wrap IntKind.i64 (Int.tmod (IntKind.wrap IntKind.u64 q) (4 : Int))) * 1) 0 % (16 : Int))) = false → (decide ((0 : Int) ≤ IntKind.wrap IntKind.i64 (Int.tmod (IntKind.wrap IntKind.u64 q) (4 : Int))) && decide (IntKind.wrap IntKind.i64 (Int.tmod (IntKind.wrap IntKind.u64 q) (4 : Int)) < (4 : Int))) = true ∧
 (decide (0 + Int.toNat (IntKind.wrap IntKind.i64 (Int.tmod (IntKind.wrap IntKind.u64 q) (4 : Int))) * 1 < 4)) = true ∧
 (decide (z (0 + Int.toNat (IntKind.wrap IntKind.i64 (Int.tmod (IntKind.wrap IntKind.u64 q) (4 : Int))) * 1) 0 % (16 : Int) < IntKind.wrap IntKind.i64 (Go.bits BinOp.and IntKind.i64 a (15 : Int) + Go.bits BinOp.and IntKind.i64 k (15 : Int)))) = true ∧
 Bool.true = Bool.true))) ∧ ((decide (z 0 0 % (16 : Int) = (0 : Int))) = false → (decide (IntKind.wrap IntKind.i64 (PS z 3 + z 3 0 % (16 : Int)) ≤ PS z 0)) = false ∧
 (!decide (IntKind.wrap IntKind.i64 (PS z 0 + z 0 0 % (16 : Int)) ≤ PS z 3)) = false ∧
 (decide (z 3 0 % (16 : Int) = (0 : Int))) = false ∧
 (decide (z 1 0 % (16 : Int) = (0 : Int))) = true ∧
 (decide (z 3 0 % (16 : Int) = (0 : Int))) = false ∧
 (decide (z 2 0 % (16 : Int) = (0 : Int))) = true ∧
 (decide ((0 : Int) ≤ z 0 0 % (16 : Int))) = true ∧
 (!decide (z 0 0 % (16 : Int) ≤ IntKind.wrap IntKind.i64 ((64 : Int) - PS z 0))) = false ∧
 (decide ((0 : Int) ≤ PS z 1)) = true ∧
 (decide ((0 : Int) ≤ z 1 0 % (16 : Int))) = true ∧
 (decide (PS z 1 ≤ (64 : Int))) = true ∧
 (!decide (z 1 0 % (16 : Int) ≤ IntKind.wrap IntKind.i64 ((64 : Int) - PS z 1))) = false ∧
 (decide (z 1 0 % (16 : Int) = (0 : Int))) = true ∧
 (decide ((0 : Int) ≤ PS z 2)) = true ∧
 (decide ((0 : Int) ≤ z 2 0 % (16 : Int))) = true ∧
 (decide (PS z 2 ≤ (64 : Int))) = true ∧
 (!decide (z 2 0 % (16 : Int) ≤ IntKind.wrap IntKind.i64 ((64 : Int) - PS z 2))) = false ∧
 (decide (z 2 0 % (16 : Int) = (0 : Int))) = true ∧
 (decide (z 2 0 % (16 : Int) = (0 : Int))) = true ∧
 (decide ((0 : Int) ≤ PS z 3)) = true ∧
 (decide ((0 : Int) ≤ z 3 0 % (16 : Int))) = true ∧
 (decide (PS z 3 ≤ (64 : Int))) = true ∧
 (!decide (z 3 0 % (16 : Int) ≤ IntKind.wrap IntKind.i64 ((64 : Int) - PS z 3))) = false ∧
 (decide (z 3 0 % (16 : Int) = (0 : Int))) = false ∧
 (decide (z 0 0 % (16 : Int) = (0 : Int))) = false ∧
 (decide (IntKind.wrap IntKind.i64 (PS z 3 + z 3 0 % (16 : Int)) ≤ PS z 0)) = false ∧
 (!decide (IntKind.wrap IntKind.i64 (PS z 0 + z 0 0 % (16 : Int)) ≤ PS z 3)) = false ∧
 (decide (z 3 0 % (16 : Int) = (0 : Int))) = false ∧
 (decide (z 1 0 % (16 : Int) = (0 : Int))) = true ∧
 (decide (z 3 0 % (16 : Int) = (0 : Int))) = false ∧
 (decide (z 2 0 % (16 : Int) = (0 : Int))) = true ∧
 (decide (IntKind.wrap IntKind.i64 (Int.tmod (IntKind.wrap IntKind.u64 q) (4 : Int)) < (0 : Int))) = false ∧
 (decide ((4 : Int) ≤ IntKind.wrap IntKind.i64 (Int.tmod (IntKind.wrap IntKind.u64 q) (4 : Int)))) = false ∧
 (decide ((0 : Int) ≤ IntKind.wrap IntKind.i64 (Int.tmod (IntKind.wrap IntKind.u64 q) (4 : Int))) && decide (IntKind.wrap IntKind.i64 (Int.tmod (IntKind.wrap IntKind.u64 q) (4 : Int)) < (4 : Int))) = true ∧
 (decide (0 + Int.toNat (IntKind.wrap IntKind.i64 (Int.tmod (IntKind.wrap IntKind.u64 q) (4 : Int))) * 1 < 4)) = true ∧
 (decide ((0 : Int) ≤ Go.bits BinOp.and IntKind.i64 a (15 : Int))) = true ∧
 (decide ((0 : Int) ≤ Go.bits BinOp.and IntKind.i64 k (15 : Int))) = true ∧
 (decide ((0 : Int) ≤ z (0 + Int.toNat (IntKind.wrap IntKind.i64 (Int.tmod (IntKind.wrap IntKind.u64 q) (4 : Int))) * 1) 0 % (16 : Int))) = true ∧
 (((decide (Go.bits BinOp.and IntKind.i64 a (15 : Int) ≤ z (0 + Int.toNat (IntKind.wrap IntKind.i64 (Int.tmod (IntKind.wrap IntKind.u64 q) (4 : Int))) * 1) 0 % (16 : Int))) = true → (((!decide (Go.bits BinOp.and IntKind.i64 k (15 : Int) ≤ IntKind.wrap IntKind.i64 (z (0 + Int.toNat (IntKind.wrap IntKind.i64 (Int.tmod (IntKind.wrap IntKind.u64 q) (4 : Int))) * 1) 0 % (16 : Int) - Go.bits BinOp.and IntKind.i64 a (15 : Int)))) = true → (decide ((0 : Int) ≤ IntKind.wrap IntKind.i64 (Int.tmod (IntKind.wrap IntKind.u64 q) (4 : Int))) && decide (IntKind.wrap IntKind.i64 (Int.tmod (IntKind.wrap IntKind.u64 q) (4 : Int)) < (4 : Int))) = true ∧
 (decide (0 + Int.toNat (IntKind.wrap IntKind.i64 (Int.tmod (IntKind.wrap IntKind.u64 q) (4 : Int))) * 1 < 4)) = true ∧
 (decide (z (0 + Int.toNat (IntKind.wrap IntKind.i64 (Int.tmod (IntKind.wrap IntKind.u64 q) (4 : Int))) * 1) 0 % (16 : Int) < IntKind.wrap IntKind.i64 (Go.bits BinOp.and IntKind.i64 a (15 : Int) + Go.bits BinOp.and IntKind.i64 k (15 : Int)))) = true ∧
 Bool.true = Bool.true) ∧ ((!decide (Go.bits BinOp.and IntKind.i64 k (15 : Int) ≤ IntKind.wrap IntKind.i64 (z (0 + Int.toNat (IntKind.wrap IntKind.i64 (Int.tmod (IntKind.wrap IntKind.u64 q) (4 : Int))) * 1) 0 % (16 : Int) - Go.bits BinOp.and IntKind.i64 a (15 : Int)))) = false → (decide ((0 : Int) ≤ IntKind.wrap IntKind.i64 (Int.tmod (IntKind.wrap IntKind.u64 q) (4 : Int))) && decide (IntKind.wrap IntKind.i64 (Int.tmod (IntKind.wrap IntKind.u64 q) (4 : Int)) < (4 : Int))) = true ∧
 (decide (0 + Int.toNat (IntKind.wrap IntKind.i64 (Int.tmod (IntKind.wrap IntKind.u64 q) (4 : Int))) * 1 < 4)) = true ∧
 (decide ((0 : Int) ≤ IntKind.wrap IntKind.i64 (Int.tmod (IntKind.wrap IntKind.u64 q) (4 : Int))) && decide (IntKind.wrap IntKind.i64 (Int.tmod (IntKind.wrap IntKind.u64 q) (4 : Int)) < (4 : Int))) = true ∧
 (decide (0 + Int.toNat (IntKind.wrap IntKind.i64 (Int.tmod (IntKind.wrap IntKind.u64 q) (4 : Int))) * 1 < 4)) = true ∧
 (decide (z (0 + Int.toNat (IntKind.wrap IntKind.i64 (Int.tmod (IntKind.wrap IntKind.u64 q) (4 : Int))) * 1) 0 % (16 : Int) < IntKind.wrap IntKind.i64 (Go.bits BinOp.and IntKind.i64 a (15 : Int) + Go.bits BinOp.and IntKind.i64 k (15 : Int)))) = false ∧
 (decide ((0 : Int) ≤ IntKind.wrap IntKind.i64 (Int.tmod (IntKind.wrap IntKind.u64 q) (4 : Int))) && decide (IntKind.wrap IntKind.i64 (Int.tmod (IntKind.wrap IntKind.u64 q) (4 : Int)) < (4 : Int))) = true ∧
 (decide (0 + Int.toNat (IntKind.wrap IntKind.i64 (Int.tmod (IntKind.wrap IntKind.u64 q) (4 : Int))) * 1 < 4)) = true ∧
 (!decide (IntKind.wrap IntKind.i64 (PS z (0 + Int.toNat (IntKind.wrap IntKind.i64 (Int.tmod (IntKind.wrap IntKind.u64 q) (4 : Int))) * 1) + Go.bits BinOp.and IntKind.i64 a (15 : Int)) = IntKind.wrap IntKind.i64 (PS z (0 + Int.toNat (IntKind.wrap IntKind.i64 (Int.tmod (IntKind.wrap IntKind.u64 q) (4 : Int))) * 1) + Go.bits BinOp.and IntKind.i64 a (15 : Int)))) = false ∧
 (((0 = 0 ∧ len = len ∧ cap = cap) ∧ q = q ∧ a = a ∧ k = k ∧ Bool.false = Bool.false ∧ (0 = 0 ∧ 4 = 4 ∧ 4 = 4) ∧ PS z 4 = PS z 4 ∧ IntKind.wrap IntKind.i64 (Int.tmod (IntKind.wrap IntKind.u64 q) (4 : Int)) = q % (18446744073709551616 : Int) % (4 : Int) ∧ Go.bits BinOp.and IntKind.i64 a (15 : Int) = a % (16 : Int) ∧ Go.bits BinOp.and IntKind.i64 k (15 : Int) = k % (16 : Int) ∧ IntKind.wrap IntKind.i64 (PS z (0 + Int.toNat (IntKind.wrap IntKind.i64 (Int.tmod (IntKind.wrap IntKind.u64 q) (4 : Int))) * 1) + Go.bits BinOp.and IntKind.i64 a (15 : Int)) = PS z (Int.toNat (q % (18446744073709551616 : Int) % (4 : Int))) + a % (16 : Int) ∧ (0 : Int) = (0 : Int) ∧ True) ∧ (4 = 4 ∧ (∀ (jj0 : Nat), (jj0 < 4 → True ∧ (0 : Int) = (0 : Int) ∧ (0 : Int) = (0 : Int) ∧ True ∧ PS z jj0 = PS z jj0 ∧ z jj0 0 % (16 : Int) = z jj0 0 % (16 : Int) ∧ True))) ∧ (len = len ∧ (∀ (jj0 : Nat), (jj0 < len → True ∧ z jj0 0 = z jj0 0 ∧ True))) ∧ True) ∧
 LO (Go.Proofs.Try.prog) (Go.AE.lp Go.Proofs.Try.prog 6 1) (TB z q a k len cap 4 0) (SB z len 4 161) (Go.AE.Out.x 2 (TB z q a k len cap 4 (Int.toNat (k % (16 : Int)))) (SB z len 4 161)) ∧
 (decide (PS z 4 = (0 : Int))) = false ∧
 (decide (IntKind.wrap IntKind.i64 (PS z 4 - (1 : Int)) < (0 : Int))) = false ∧
 (decide ((64 : Int) < IntKind.wrap IntKind.i64 (PS z 4 - (1 : Int)))) = false ∧
 (decide ((0 : Int) ≤ z 0 0 % (16 : Int))) = true ∧
 (decide ((0 : Int) ≤ IntKind.wrap IntKind.i64 (PS z 4 - (1 : Int)))) = true ∧
 (decide (PS z 0 ≤ IntKind.wrap IntKind.i64 (PS z 4 - (1 : Int)))) = true ∧
 (!decide (z 0 0 % (16 : Int) ≤ IntKind.wrap IntKind.i64 (IntKind.wrap IntKind.i64 (PS z 4 - (1 : Int)) - PS z 0))) = false ∧
 (decide ((0 : Int) ≤ PS z 1)) = true ∧
 (decide ((0 : Int) ≤ z 1 0 % (16 : Int))) = true ∧
 (decide ((0 : Int) ≤ IntKind.wrap IntKind.i64 (PS z 4 - (1 : Int)))) = true ∧
 (decide (PS z 1 ≤ IntKind.wrap IntKind.i64 (PS z 4 - (1 : Int)))) = true ∧
 (!decide (z 1 0 % (16 : Int) ≤ IntKind.wrap IntKind.i64 (IntKind.wrap IntKind.i64 (PS z 4 - (1 : Int)) - PS z 1))) = false ∧
 (decide (z 1 0 % (16 : Int) = (0 : Int))) = true ∧
 (decide ((0 : Int) ≤ PS z 2)) = true ∧
 (decide ((0 : Int) ≤ z 2 0 % (16 : Int))) = true ∧
 (decide ((0 : Int) ≤ IntKind.wrap IntKind.i64 (PS z 4 - (1 : Int)))) = true ∧
 (decide (PS z 2 ≤ IntKind.wrap IntKind.i64 (PS z 4 - (1 : Int)))) = true ∧
 (!decide (z 2 0 % (16 : Int) ≤ IntKind.wrap IntKind.i64 (IntKind.wrap IntKind.i64 (PS z 4 - (1 : Int)) - PS z 2))) = false ∧
 (decide (z 2 0 % (16 : Int) = (0 : Int))) = true ∧
 (decide (z 2 0 % (16 : Int) = (0 : Int))) = true ∧
 (decide ((0 : Int) ≤ PS z 3)) = true ∧
 (decide ((0 : Int) ≤ z 3 0 % (16 : Int))) = true ∧
 (decide ((0 : Int) ≤ IntKind.wrap IntKind.i64 (PS z 4 - (1 : Int)))) = true ∧
 (decide (PS z 3 ≤ IntKind.wrap IntKind.i64 (PS z 4 - (1 : Int)))) = true ∧
 (!decide (z 3 0 % (16 : Int) ≤ IntKind.wrap IntKind.i64 (IntKind.wrap IntKind.i64 (PS z 4 - (1 : Int)) - PS z 3))) = true ∧
 Bool.true = Bool.true))) ∧ ((decide (Go.bits BinOp.and IntKind.i64 a (15 : Int) ≤ z (0 + Int.toNat (IntKind.wrap IntKind.i64 (Int.tmod (IntKind.wrap IntKind.u64 q) (4 : Int))) * 1) 0 % (16 : Int))) = false → (decide ((0 : Int) ≤ IntKind.wrap IntKind.i64 (Int.tmod (IntKind.wrap IntKind.u64 q) (4 : Int))) && decide (IntKind.wrap IntKind.i64 (Int.tmod (IntKind.wrap IntKind.u64 q) (4 : Int)) < (4 : Int))) = true ∧
 (decide (0 + Int.toNat (IntKind.wrap IntKind.i64 (Int.tmod (IntKind.wrap IntKind.u64 q) (4 : Int))) * 1 < 4)) = true ∧
 (decide (z (0 + Int.toNat (IntKind.wrap IntKind.i64 (Int.tmod (IntKind.wrap IntKind.u64 q) (4 : Int))) * 1) 0 % (16 : Int) < IntKind.wrap IntKind.i64 (Go.bits BinOp.and IntKind.i64 a (15 : Int) + Go.bits BinOp.and IntKind.i64 k (15 : Int)))) = true ∧
 Bool.true = Bool.true))))))) ∧ ((decide (z 2 0 % (16 : Int) = (0 : Int))) = false → (((decide (z 0 0 % (16 : Int) = (0 : Int))) = true → (decide (z 2 0 % (16 : Int) = (0 : Int))) = false ∧
 (decide (z 1 0 % (16 : Int) = (0 : Int))) = true ∧
 (decide ((0 : Int) ≤ PS z 3)) = true ∧
 (decide ((0 : Int) ≤ z 3 0 % (16 : Int))) = true ∧
 (decide ((0 : Int) ≤ PS z 4)) = true ∧
 (decide (PS z 3 ≤ PS z 4)) = true ∧
 (!decide (z 3 0 % (16 : Int) ≤ IntKind.wrap IntKind.i64 (PS z 4 - PS z 3))) = false ∧
 (((decide (z 3 0 % (16 : Int) = (0 : Int))) = true → (decide (z 3 0 % (16 : Int) = (0 : Int))) = true ∧
 (decide (z 3 0 % (16 : Int) = (0 : Int))) = true ∧
 (decide ((0 : Int) ≤ z 0 0 % (16 : Int))) = true ∧
 (!decide (z 0 0 % (16 : Int) ≤ IntKind.wrap IntKind.i64 ((64 : Int) - PS z 0))) = false ∧
 (decide ((0 : Int) ≤ PS z 1)) = true ∧
 (decide ((0 : Int) ≤ z 1 0 % (16 : Int))) = true ∧
 (decide (PS z 1 ≤ (64 : Int))) = true ∧
 (!decide (z 1 0 % (16 : Int) ≤ IntKind.wrap IntKind.i64 ((64 : Int) - PS z 1))) = false ∧
 (decide (z 1 0 % (16 : Int) = (0 : Int))) = true ∧
 (decide ((0 : Int) ≤ PS z 2)) = true ∧
 (decide ((0 : Int) ≤ z 2 0 % (16 : Int))) = true ∧
 (decide (PS z 2 ≤ (64 : Int))) = true ∧
 (!decide (z 2 0 % (16 : Int) ≤ IntKind.wrap IntKind.i64 ((64 : Int) - PS z 2))) = false ∧
 (decide (z 2 0 % (16 : Int) = (0 : Int))) = false ∧
 (decide (z 0 0 % (16 : Int) = (0 : Int))) = true ∧
 (decide (z 2 0 % (16 : Int) = (0 : Int))) = false ∧
 (decide (z 1 0 % (16 : Int) = (0 : Int))) = true ∧
 (decide ((0 : Int) ≤ PS z 3)) = true ∧
 (decide ((0 : Int) ≤ z 3 0 % (16 : Int))) = true ∧
 (decide (PS z 3 ≤ (64 : Int))) = true ∧
 (!decide (z 3 0 % (16 : Int) ≤ IntKind.wrap IntKind.i64 ((64 : Int) - PS z 3))) = false ∧
 (decide (z 3 0 % (16 : Int) = (0 : Int))) = true ∧
 (decide (z 3 0 % (16 : Int) = (0 : Int))) = true ∧
 (decide (z 3 0 % (16 : Int) = (0 : Int))) = true ∧
 (decide (IntKind.wrap IntKind.i64 (Int.tmod (IntKind.wrap IntKind.u64 q) (4 : Int)) < (0 : Int))) = false ∧
 (decide ((4 : Int) ≤ IntKind.wrap IntKind.i64 (Int.tmod (IntKind.wrap IntKind.u64 q) (4 : Int)))) = false ∧
 (decide ((0 : Int) ≤ IntKind.wrap IntKind.i64 (Int.tmod (IntKind.wrap IntKind.u64 q) (4 : Int))) && decide (IntKind.wrap IntKind.i64 (Int.tmod (IntKind.wrap IntKind.u64 q) (4 : Int)) < (4 : Int))) = true ∧
 (decide (0 + Int.toNat (IntKind.wrap IntKind.i64 (Int.tmod (IntKind.wrap IntKind.u64 q) (4 : Int))) * 1 < 4)) = true ∧
 (decide ((0 : Int) ≤ Go.bits BinOp.and IntKind.i64 a (15 : Int))) = true ∧
 (decide ((0 : Int) ≤ Go.bits BinOp.and IntKind.i64 k (15 : Int))) = true ∧
 (decide ((0 : Int) ≤ z (0 + Int.toNat (IntKind.wrap IntKind.i64 (Int.tmod (IntKind.wrap IntKind.u64 q) (4 : Int))) * 1) 0 % (16 : Int))) = true ∧
 (((decide (Go.bits BinOp.and IntKind.i64 a (15 : Int) ≤ z (0 + Int.toNat (IntKind.wrap IntKind.i64 (Int.tmod (IntKind.wrap IntKind.u64 q) (4 : Int))) * 1) 0 % (16 : Int))) = true → (((!decide (Go.bits BinOp.and IntKind.i64 k (15 : Int) ≤ IntKind.wrap IntKind.i64 (z (0 + Int.toNat (IntKind.wrap IntKind.i64 (Int.tmod (IntKind.wrap IntKind.u64 q) (4 : Int))) * 1) 0 % (16 : Int) - Go.bits BinOp.and IntKind.i64 a (15 : Int)))) = true → (decide ((0 : Int) ≤ IntKind.wrap IntKind.i64 (Int.tmod (IntKind.wrap IntKind.u64 q) (4 : Int))) && decide (IntKind.wrap IntKind.i64 (Int.tmod (IntKind.wrap IntKind.u64 q) (4 : Int)) < (4 : Int))) = true ∧
 (decide (0 + Int.toNat (IntKind.wrap IntKind.i64 (Int.tmod (IntKind.wrap IntKind.u64 q) (4 : Int))) * 1 < 4)) = true ∧
 (decide (z (0 + Int.toNat (IntKind.wrap IntKind.i64 (Int.tmod (IntKind.wrap IntKind.u64 q) (4 : Int))) * 1) 0 % (16 : Int) < IntKind.wrap IntKind.i64 (Go.bits BinOp.and IntKind.i64 a (15 : Int) + Go.bits BinOp.and IntKind.i64 k (15 : Int)))) = true ∧
 Bool.true = Bool.true) ∧ ((!decide (Go.bits BinOp.and IntKind.i64 k (15 : Int) ≤ IntKind.wrap IntKind.i64 (z (0 + Int.toNat (IntKind.wrap IntKind.i64 (Int.tmod (IntKind.wrap IntKind.u64 q) (4 : Int))) * 1) 0 % (16 : Int) - Go.bits BinOp.and IntKind.i64 a (15 : Int)))) = false → (decide ((0 : Int) ≤ IntKind.wrap IntKind.i64 (Int.tmod (IntKind.wrap IntKind.u64 q) (4 : Int))) && decide (IntKind.wrap IntKind.i64 (Int.tmod (IntKind.wrap IntKind.u64 q) (4 : Int)) < (4 : Int))) = true ∧
 (decide (0 + Int.toNat (IntKind.wrap IntKind.i64 (Int.tmod (IntKind.wrap IntKind.u64 q) (4 : Int))) * 1 < 4)) = true ∧
 (decide ((0 : Int) ≤ IntKind.wrap IntKind.i64 (Int.tmod (IntKind.wrap IntKind.u64 q) (4 : Int))) && decide (IntKind.wrap IntKind.i64 (Int.tmod (IntKind.wrap IntKind.u64 q) (4 : Int)) < (4 : Int))) = true ∧
 (decide (0 + Int.toNat (IntKind.wrap IntKind.i64 (Int.tmod (IntKind.wrap IntKind.u64 q) (4 : Int))) * 1 < 4)) = true ∧
 (decide (z (0 + Int.toNat (IntKind.wrap IntKind.i64 (Int.tmod (IntKind.wrap IntKind.u64 q) (4 : Int))) * 1) 0 % (16 : Int) < IntKind.wrap IntKind.i64 (Go.bits BinOp.and IntKind.i64 a (15 : Int) + Go.bits BinOp.and IntKind.i64 k (15 : Int)))) = false ∧
 (decide ((0 : Int) ≤ IntKind.wrap IntKind.i64 (Int.tmod (IntKind.wrap IntKind.u64 q) (4 : Int))) && decide (IntKind.wrap IntKind.i64 (Int.tmod (IntKind.wrap IntKind.u64 q) (4 : Int)) < (4 : Int))) = true ∧
 (decide (0 + Int.toNat (IntKind.wrap IntKind.i64 (Int.tmod (IntKind.wrap IntKind.u64 q) (4 : Int))) * 1 < 4)) = true ∧
 (!decide (IntKind.wrap IntKind.i64 (PS z (0 + Int.toNat (IntKind.wrap IntKind.i64 (Int.tmod (IntKind.wrap IntKind.u64 q) (4 : Int))) * 1) + Go.bits BinOp.and IntKind.i64 a (15 : Int)) = IntKind.wrap IntKind.i64 (PS z (0 + Int.toNat (IntKind.wrap IntKind.i64 (Int.tmod (IntKind.wrap IntKind.u64 q) (4 : Int))) * 1) + Go.bits BinOp.and IntKind.i64 a (15 : Int)))) = false ∧
 (((0 = 0 ∧ len = len ∧ cap = cap) ∧ q = q ∧ a = a ∧ k = k ∧ Bool.false = Bool.false ∧ (0 = 0 ∧ 4 = 4 ∧ 4 = 4) ∧ PS z 4 = PS z 4 ∧ IntKind.wrap IntKind.i64 (Int.tmod (IntKind.wrap IntKind.u64 q) (4 : Int)) = q % (18446744073709551616 : Int) % (4 : Int) ∧ Go.bits BinOp.and IntKind.i64 a (15 : Int) = a % (16 : Int) ∧ Go.bits BinOp.and IntKind.i64 k (15 : Int) = k % (16 : Int) ∧ IntKind.wrap IntKind.i64 (PS z (0 + Int.toNat (IntKind.wrap IntKind.i64 (Int.tmod (IntKind.wrap IntKind.u64 q) (4 : Int))) * 1) + Go.bits BinOp.and IntKind.i64 a (15 : Int)) = PS z (Int.toNat (q % (18446744073709551616 : Int) % (4 : Int))) + a % (16 : Int) ∧ (0 : Int) = (0 : Int) ∧ True) ∧ (4 = 4 ∧ (∀ (jj0 : Nat), (jj0 < 4 → True ∧ (0 : Int) = (0 : Int) ∧ (0 : Int) = (0 : Int) ∧ True ∧ PS z jj0 = PS z jj0 ∧ z jj0 0 % (16 : Int) = z jj0 0 % (16 : Int) ∧ True))) ∧ (len = len ∧ (∀ (jj0 : Nat), (jj0 < len → True ∧ z jj0 0 = z jj0 0 ∧ True))) ∧ True) ∧
 LO (Go.Proofs.Try.prog) (Go.AE.lp Go.Proofs.Try.prog 6 1) (TB z q a k len cap 4 0) (SB z len 4 161) (Go.AE.Out.x 2 (TB z q a k len cap 4 (Int.toNat (k % (16 : Int)))) (SB z len 4 161)) ∧
 (decide (PS z 4 = (0 : Int))) = false ∧
 (decide (IntKind.wrap IntKind.i64 (PS z 4 - (1 : Int)) < (0 : Int))) = false ∧
 (decide ((64 : Int) < IntKind.wrap IntKind.i64 (PS z 4 - (1 : Int)))) = false ∧
 (decide ((0 : Int) ≤ z 0 0 % (16 : Int))) = true ∧
 (decide ((0 : Int) ≤ IntKind.wrap IntKind.i64 (PS z 4 - (1 : Int)))) = true ∧
 (decide (PS z 0 ≤ IntKind.wrap IntKind.i64 (PS z 4 - (1 : Int)))) = true ∧
 (!decide (z 0 0 % (16 : Int) ≤ IntKind.wrap IntKind.i64 (IntKind.wrap IntKind.i64 (PS z 4 - (1 : Int)) - PS z 0))) = false ∧
 (decide ((0 : Int) ≤ PS z 1)) = true ∧
 (decide ((0 : Int) ≤ z 1 0 % (16 : Int))) = true ∧
 (decide ((0 : Int) ≤ IntKind.wrap IntKind.i64 (PS z 4 - (1 : Int)))) = true ∧
 (decide (PS z 1 ≤ IntKind.wrap IntKind.i64 (PS z 4 - (1 : Int)))) = true ∧
 (!decide (z 1 0 % (16 : Int) ≤ IntKind.wrap IntKind.i64 (IntKind.wrap IntKind.i64 (PS z 4 - (1 : Int)) - PS z 1))) = false ∧
 (decide (z 1 0 % (16 : Int) = (0 : Int))) = true ∧
 (decide ((0 : Int) ≤ PS z 2)) = true ∧
 (decide ((0 : Int) ≤ z 2 0 % (16 : Int))) = true ∧
 (decide ((0 : Int) ≤ IntKind.wrap IntKind.i64 (PS z 4 - (1 : Int)))) = true ∧
 (decide (PS z 2 ≤ IntKind.wrap IntKind.i64 (PS z 4 - (1 : Int)))) = true ∧
 (!decide (z 2 0 % (16 : Int) ≤ IntKind.wrap IntKind.i64 (IntKind.wrap IntKind.i64 (PS z 4 - (1 : Int)) - PS z 2))) = true ∧
 Bool.true = Bool.true))) ∧ ((decide (Go.bits BinOp.and IntKind.i64 a (15 : Int) ≤ z (0 + Int.toNat (IntKind.wrap IntKind.i64 (Int.tmod (IntKind.wrap IntKind.u64 q) (4 : Int))) * 1) 0 % (16 : Int))) = false → (decide ((0 : Int) ≤ IntKind.wrap IntKind.i64 (Int.tmod (IntKind.wrap IntKind.u64 q) (4 : Int))) && decide (IntKind.wrap IntKind.i64 (Int.tmod (IntKind.wrap IntKind.u64 q) (4 : Int)) < (4 : Int))) = true ∧
 (decide (0 + Int.toNat (IntKind.wrap IntKind.i64 (Int.tmod (IntKind.wrap IntKind.u64 q) (4 : Int))) * 1 < 4)) = true ∧
 (decide (z (0 + Int.toNat (IntKind.wrap IntKind.i64 (Int.tmod (IntKind.wrap IntKind.u64 q) (4 : Int))) * 1) 0 % (16 : Int) < IntKind.wrap IntKind.i64 (Go.bits BinOp.and IntKind.i64 a (15 : Int) + Go.bits BinOp.and IntKind.i64 k (15 : Int)))) = true ∧
 Bool.true = Bool.true))) ∧ ((decide (z 3 0 % (16 : Int) = (0 : Int))) = false → (decide (z 0 0 % (16 : Int) = (0 : Int))) = true ∧
 (decide (z 3 0 % (16 : Int) = (0 : Int))) = false ∧
 (decide (z 1 0 % (16 : Int) = (0 : Int))) = true ∧
 (decide (z 3 0 % (16 : Int) = (0 : Int))) = false ∧
 (decide (z 2 0 % (16 : Int) = (0 : Int))) = false ∧
 (decide (IntKind.wrap IntKind.i64 (PS z 3 + z 3 0 % (16 : Int)) ≤ PS z 2)) = false ∧
 (!decide (IntKind.wrap IntKind.i64 (PS z 2 + z 2 0 % (16 : Int)) ≤ PS z 3)) = false ∧
 (decide ((0 : Int) ≤ z 0 0 % (16 : Int))) = true ∧
 (!decide (z 0 0 % (16 : Int) ≤ IntKind.wrap IntKind.i64 ((64 : Int) - PS z 0))) = false ∧
 (decide ((0 : Int) ≤ PS z 1)) = true ∧
 (decide ((0 : Int) ≤ z 1 0 % (16 : Int))) = true ∧
 (decide (PS z 1 ≤ (64 : Int))) = true ∧
 (!decide (z 1 0 % (16 : Int) ≤ IntKind.wrap IntKind.i64 ((64 : Int) - PS z 1))) = false ∧
 (decide (z 1 0 % (16 : Int) = (0 : Int))) = true ∧
 (decide ((0 : Int) ≤ PS z 2)) = true ∧
 (decide ((0 : Int) ≤ z 2 0 % (16 : Int))) = true ∧
 (decide (PS z 2 ≤ (64 : Int))) = true ∧
 (!decide (z 2 0 % (16 : Int) ≤ IntKind.wrap IntKind.i64 ((64 : Int) - PS z 2))) = false ∧
 (decide (z 2 0 % (16 : Int) = (0 : Int))) = false ∧
 (decide (z 0 0 % (16 : Int) = (0 : Int))) = true ∧
 (decide (z 2 0 % (16 : Int) = (0 : Int))) = false ∧
 (decide (z 1 0 % (16 : Int) = (0 : Int))) = true ∧
 (decide ((0 : Int) ≤ PS z 3)) = true ∧
 (decide ((0 : Int) ≤ z 3 0 % (16 : Int))) = true ∧
 (decide (PS z 3 ≤ (64 : Int))) = true ∧
 (!decide (z 3 0 % (16 : Int) ≤ IntKind.wrap IntKind.i64 ((64 : Int) - PS z 3))) = false ∧
 (decide (z 3 0 % (16 : Int) = (0 : Int))) = false ∧
 (decide (z 0 0 % (16 : Int) = (0 : Int))) = true ∧
 (decide (z 3 0 % (16 : Int) = (0 : Int))) = false ∧
 (decide (z 1 0 % (16 : Int) = (0 : Int))) = true ∧
 (decide (z 3 0 % (16 : Int) = (0 : Int))) = false ∧
 (decide (z 2 0 % (16 : Int) = (0 : Int))) = false ∧
 (decide (IntKind.wrap IntKind.i64 (PS z 3 + z 3 0 % (16 : Int)) ≤ PS z 2)) = false ∧
 (!decide (IntKind.wrap IntKind.i64 (PS z 2 + z 2 0 % (16 : Int)) ≤ PS z 3)) = false ∧
 (decide (IntKind.wrap IntKind.i64 (Int.tmod (IntKind.wrap IntKind.u64 q) (4 : Int)) < (0 : Int))) = false ∧
 (decide ((4 : Int) ≤ IntKind.wrap IntKind.i64 (Int.tmod (IntKind.wrap IntKind.u64 q) (4 : Int)))) = false ∧
 (decide ((0 : Int) ≤ IntKind.wrap IntKind.i64 (Int.tmod (IntKind.wrap IntKind.u64 q) (4 : Int))) && decide (IntKind.wrap IntKind.i64 (Int.tmod (IntKind.wrap IntKind.u64 q) (4 : Int)) < (4 : Int))) = true ∧
 (decide (0 + Int.toNat (IntKind.wrap IntKind.i64 (Int.tmod (IntKind.wrap IntKind.u64 q) (4 : Int))) * 1 < 4)) = true ∧
 (decide ((0 : Int) ≤ Go.bits BinOp.and IntKind.i64 a (15 : Int))) = true ∧
 (decide ((0 : Int) ≤ Go.bits BinOp.and IntKind.i64 k (15 : Int))) = true ∧
 (decide ((0 : Int) ≤ z (0 + Int.toNat (IntKind.wrap IntKind.i64 (Int.tmod (IntKind.wrap IntKind.u64 q) (4 : Int))) * 1) 0 % (16 : Int))) = true ∧
 (((decide (Go.bits BinOp.and IntKind.i64 a (15 : Int) ≤ z (0 + Int.toNat (IntKind.wrap IntKind.i64 (Int.tmod (IntKind.wrap IntKind.u64 q) (4 : Int))) * 1) 0 % (16 : Int))) = true → (((!decide (Go.bits BinOp.and IntKind.i64 k (15 : Int) ≤ IntKind.wrap IntKind.i64 (z (0 + Int.toNat (IntKind.wrap IntKind.i64 (Int.tmod (IntKind.wrap IntKind.u64 q) (4 : Int))) * 1) 0 % (16 : Int) - Go.bits BinOp.and IntKind.i64 a (15 : Int)))) = true → (decide ((0 : Int) ≤ IntKind.wrap IntKind.i64 (Int.tmod (IntKind.wrap IntKind.u64 q) (4 : Int))) && decide (IntKind.wrap IntKind.i64 (Int.tmod (IntKind.wrap IntKind.u64 q) (4 : Int)) < (4 : Int))) = true ∧
 (decide (0 + Int.toNat (IntKind.wrap IntKind.i64 (Int.tmod (IntKind.wrap IntKind.u64 q) (4 : Int))) * 1 < 4)) = true ∧
 (decide (z (0 + Int.toNat (IntKind.wrap IntKind.i64 (Int.tmod (IntKind.wrap IntKind.u64 q) (4 : Int))) * 1) 0 % (16 : Int) < IntKind.wrap IntKind.i64 (Go.bits BinOp.and IntKind.i64 a (15 : Int) + Go.bits BinOp.and IntKind.i64 k (15 : Int)))) = true ∧
 Bool.true = Bool.true) ∧ ((!decide (Go.bits BinOp.and IntKind.i64 k (15 : Int) ≤ IntKind.wrap IntKind.i64 (z (0 + Int.toNat (IntKind.wrap IntKind.i64 (Int.tmod (IntKind.wrap IntKind.u64 q) (4 : Int))) * 1) 0 % (16 : Int) - Go.bits BinOp.and IntKind.i64 a (15 : Int)))) = false → (decide ((0 : Int) ≤ IntKind.wrap IntKind.i64 (Int.tmod (IntKind.wrap IntKind.u64 q) (4 : Int))) && decide (IntKind.wrap IntKind.i64 (Int.tmod (IntKind.wrap IntKind.u64 q) (4 : Int)) < (4 : Int))) = true ∧
 (decide (0 + Int.toNat (IntKind.wrap IntKind.i64 (Int.tmod (IntKind.wrap IntKind.u64 q) (4 : Int))) * 1 < 4)) = true ∧
 (decide ((0 : Int) ≤ IntKind.wrap IntKind.i64 (Int.tmod (IntKind.wrap IntKind.u64 q) (4 : Int))) && decide (IntKind.wrap IntKind.i64 (Int.tmod (IntKind.wrap IntKind.u64 q) (4 : Int)) < (4 : Int))) = true ∧
 (decide (0 + Int.toNat (IntKind.wrap IntKind.i64 (Int.tmod (IntKind.wrap IntKind.u64 q) (4 : Int))) * 1 < 4)) = true ∧
 (decide (z (0 + Int.toNat (IntKind.wrap IntKind.i64 (Int.tmod (IntKind.wrap IntKind.u64 q) (4 : Int))) * 1) 0 % (16 : Int) < IntKind.wrap IntKind.i64 (Go.bits BinOp.and IntKind.i64 a (15 : Int) + Go.bits BinOp.and IntKind.i64 k (15 : Int)))) = false ∧
 (decide ((0 : Int) ≤ IntKind.wrap IntKind.i64 (Int.tmod (IntKind.wrap IntKind.u64 q) (4 : Int))) && decide (IntKind.wrap IntKind.i64 (Int.tmod (IntKind.wrap IntKind.u64 q) (4 : Int)) < (4 : Int))) = true ∧
 (decide (0 + Int.toNat (IntKind.wrap IntKind.i64 (Int.tmod (IntKind.wrap IntKind.u64 q) (4 : Int))) * 1 < 4)) = true ∧
 (!decide (IntKind.wrap IntKind.i64 (PS z (0 + Int.toNat (IntKind.wrap IntKind.i64 (Int.tmod (IntKind.wrap IntKind.u64 q) (4 : Int))) * 1) + Go.bits BinOp.and IntKind.i64 a (15 : Int)) = IntKind.wrap IntKind.i64 (PS z (0 + Int.toNat (IntKind.wrap IntKind.i64 (Int.tmod (IntKind.wrap IntKind.u64 q) (4 : Int))) * 1) + Go.bits BinOp.and IntKind.i64 a (15 : Int)))) = false ∧
 (((0 = 0 ∧ len = len ∧ cap = cap) ∧ q = q ∧ a = a ∧ k = k ∧ Bool.false = Bool.false ∧ (0 = 0 ∧ 4 = 4 ∧ 4 = 4) ∧ PS z 4 = PS z 4 ∧ IntKind.wrap IntKind.i64 (Int.tmod (IntKind.wrap IntKind.u64 q) (4 : Int)) = q % (18446744073709551616 : Int) % (4 : Int) ∧ Go.bits BinOp.and IntKind.i64 a (15 : Int) = a % (16 : Int) ∧ Go.bits BinOp.and IntKind.i64 k (15 : Int) = k % (16 : Int) ∧ IntKind.wrap IntKind.i64 (PS z (0 + Int.toNat (IntKind.wrap IntKind.i64 (Int.tmod (IntKind.wrap IntKind.u64 q) (4 : Int))) * 1) + Go.bits BinOp.and IntKind.i64 a (15 : Int)) = PS z (Int.toNat (q % (18446744073709551616 : Int) % (4 : Int))) + a % (16 : Int) ∧ (0 : Int) = (0 : Int) ∧ True) ∧ (4 = 4 ∧ (∀ (jj0 : Nat), (jj0 < 4 → True ∧ (0 : Int) = (0 : Int) ∧ (0 : Int) = (0 : Int) ∧ True ∧ PS z jj0 = PS z jj0 ∧ z jj0 0 % (16 : Int) = z jj0 0 % (16 : Int) ∧ True))) ∧ (len = len ∧ (∀ (jj0 : Nat), (jj0 < len → True ∧ z jj0 0 = z jj0 0 ∧ True))) ∧ True) ∧
 LO (Go.Proofs.Try.prog) (Go.AE.lp Go.Proofs.Try.prog 6 1) (TB z q a k len cap 4 0) (SB z len 4 161) (Go.AE.Out.x 2 (TB z q a k len cap 4 (Int.toNat (k % (16 : Int)))) (SB z len 4 161)) ∧
 (decide (PS z 4 = (0 : Int))) = false ∧
 (decide (IntKind.wrap IntKind.i64 (PS z 4 - (1 : Int)) < (0 : Int))) = false ∧
 (decide ((64 : Int) < IntKind.wrap IntKind.i64 (PS z 4 - (1 : Int)))) = false ∧
 (decide ((0 : Int) ≤ z 0 0 % (16 : Int))) = true ∧
 (decide ((0 : Int) ≤ IntKind.wrap IntKind.i64 (PS z 4 - (1 : Int)))) = true ∧
 (decide (PS z 0 ≤ IntKind.wrap IntKind.i64 (PS z 4 - (1 : Int)))) = true ∧
 (!decide (z 0 0 % (16 : Int) ≤ IntKind.wrap IntKind.i64 (IntKind.wrap IntKind.i64 (PS z 4 - (1 : Int)) - PS z 0))) = false ∧
 (decide ((0 : Int) ≤ PS z 1)) = true ∧
 (decide ((0 : Int) ≤ z 1 0 % (16 : Int))) = true ∧
 (decide ((0 : Int) ≤ IntKind.wrap IntKind.i64 (PS z 4 - (1 : Int)))) = true ∧
 (decide (PS z 1 ≤ IntKind.wrap IntKind.i64 (PS z 4 - (1 : Int)))) = true ∧
 (!decide (z 1 0 % (16 : Int) ≤ IntKind.wrap IntKind.i64 (IntKind.wrap IntKind.i64 (PS z 4 - (1 : Int)) - PS z 1))) = false ∧
 (decide (z 1 0 % (16 : Int) = (0 : Int))) = true ∧
 (decide ((0 : Int) ≤ PS z 2)) = true ∧
 (decide ((0 : Int) ≤ z 2 0 % (16 : Int))) = true ∧
 (decide ((0 : Int) ≤ IntKind.wrap IntKind.i64 (PS z 4 - (1 : Int)))) = true ∧
 (decide (PS z 2 ≤ IntKind.wrap IntKind.i64 (PS z 4 - (1 : Int)))) = true ∧
 (!decide (z 2 0 % (16 : Int) ≤ IntKind.wrap IntKind.i64 (IntKind.wrap IntKind.i64 (PS z 4 - (1 : Int)) - PS z 2))) = false ∧
 (decide (z 2 0 % (16 : Int) = (0 : Int))) = false ∧
 (decide (z 0 0 % (16 : Int) = (0 : Int))) = true ∧
 (decide (z 2 0 % (16 : Int) = (0 : Int))) = false ∧
 (decide (z 1 0 % (16 : Int) = (0 : Int))) = true ∧
 (decide ((0 : Int) ≤ PS z 3)) = true ∧
 (decide ((0 : Int) ≤ z 3 0 % (16 : Int))) = true ∧
 (decide ((0 : Int) ≤ IntKind.wrap IntKind.i64 (PS z 4 - (1 : Int)))) = true ∧
 (decide (PS z 3 ≤ IntKind.wrap IntKind.i64 (PS z 4 - (1 : Int)))) = true ∧
 (!decide (z 3 0 % (16 : Int) ≤ IntKind.wrap IntKind.i64 (IntKind.wrap IntKind.i64 (PS z 4 - (1 : Int)) - PS z 3))) = true ∧
 Bool.true = Bool.true))) ∧ ((decide (Go.bits BinOp.and IntKind.i64 a (15 : Int) ≤ z (0 + Int.toNat (IntKind.wrap IntKind.i64 (Int.tmod (IntKind.wrap IntKind.u64 q) (4 : Int))) * 1) 0 % (16 : Int))) = false → (decide ((0 : Int) ≤ IntKind.wrap IntKind.i64 (Int.tmod (IntKind.wrap IntKind.u64 q) (4 : Int))) && decide (IntKind.wrap IntKind.i64 (Int.tmod (IntKind.wrap IntKind.u64 q) (4 : Int)) < (4 : Int))) = true ∧
 (decide (0 + Int.toNat (IntKind.wrap IntKind.i64 (Int.tmod (IntKind.wrap IntKind.u64 q) (4 : Int))) * 1 < 4)) = true ∧
 (decide (z (0 + Int.toNat (IntKind.wrap IntKind.i64 (Int.tmod (IntKind.wrap IntKind.u64 q) (4 : Int))) * 1) 0 % (16 : Int) < IntKind.wrap IntKind.i64 (Go.bits BinOp.and IntKind.i64 a (15 : Int) + Go.bits BinOp.and IntKind.i64 k (15 : Int)))) = true ∧
 Bool.true = Bool.true))))) ∧ ((decide (z 0 0 % (16 : Int) = (0 : Int))) = false → (decide (IntKind.wrap IntKind.i64 (PS z 2 + z 2 0 % (16 : Int)) ≤ PS z 0)) = false ∧
 (!decide (IntKind.wrap IntKind.i64 (PS z 0 + z 0 0 % (16 : Int)) ≤ PS z 2)) = false ∧
 (decide (z 2 0 % (16 : Int) = (0 : Int))) = false ∧
 (decide (z 1 0 % (16 : Int) = (0 : Int))) = true ∧
 (decide ((0 : Int) ≤ PS z 3)) = true ∧
 (decide ((0 : Int) ≤ z 3 0 % (16 : Int))) = true ∧
 (decide ((0 : Int) ≤ PS z 4)) = true ∧
 (decide (PS z 3 ≤ PS z 4)) = true ∧
 (!decide (z 3 0 % (16 : Int) ≤ IntKind.wrap IntKind.i64 (PS z 4 - PS z 3))) = false ∧
 (((decide (z 3 0 % (16 : Int) = (0 : Int))) = true → (decide (z 3 0 % (16 : Int) = (0 : Int))) = true ∧
 (decide (z 3 0 % (16 : Int) = (0 : Int))) = true ∧
 (decide ((0 : Int) ≤ z 0 0 % (16 : Int))) = true ∧
 (!decide (z 0 0 % (16 : Int) ≤ IntKind.wrap IntKind.i64 ((64 : Int) - PS z 0))) = false ∧
 (decide ((0 : Int) ≤ PS z 1)) = true ∧
 (decide ((0 : Int) ≤ z 1 0 % (16 : Int))) = true ∧
 (decide (PS z 1 ≤ (64 : Int))) = true ∧
 (!decide (z 1 0 % (16 : Int) ≤ IntKind.wrap IntKind.i64 ((64 : Int) - PS z 1))) = false ∧
 (decide (z 1 0 % (16 : Int) = (0 : Int))) = true ∧
 (decide ((0 : Int) ≤ PS z 2)) = true ∧
 (decide ((0 : Int) ≤ z 2 0 % (16 : Int))) = true ∧
 (decide (PS z 2 ≤ (64 : Int))) = true ∧
 (!decide (z 2 0 % (16 : Int) ≤ IntKind.wrap IntKind.i64 ((64 : Int) - PS z 2))) = false ∧
 (decide (z 2 0 % (16 : Int) = (0 : Int))) = false ∧
 (decide (z 0 0 % (16 : Int) = (0 : Int))) = false ∧
 (decide (IntKind.wrap IntKind.i64 (PS z 2 + z 2 0 % (16 : Int)) ≤ PS z 0)) = false ∧
 (!decide (IntKind.wrap IntKind.i64 (PS z 0 + z 0 0 % (16 : Int)) ≤ PS z 2)) = false ∧
 (decide (z 2 0 % (16 : Int) = (0 : Int))) = false ∧
 (decide (z 1 0 % (16 : Int) = (0 : Int))) = true ∧
 (decide ((0 : Int) ≤ PS z 3)) = true ∧
 (decide ((0 : Int) ≤ z 3 0 % (16 : Int))) = true ∧
 (decide (PS z 3 ≤ (64 : Int))) = true ∧
 (!decide (z 3 0 % (16 : Int) ≤ IntKind.wrap IntKind.i64 ((64 : Int) - PS z 3))) = false ∧
 (decide (z 3 0 % (16 : Int) = (0 : Int))) = true ∧
 (decide (z 3 0 % (16 : Int) = (0 : Int))) = true ∧
 (decide (z 3 0 % (16 : Int) = (0 : Int))) = true ∧
 (decide (IntKind.wrap IntKind.i64 (Int.tmod (IntKind.wrap IntKind.u64 q) (4 : Int)) < (0 : Int))) = false ∧
 (decide ((4 : Int) ≤ IntKind.wrap IntKind.i64 (Int.tmod (IntKind.wrap IntKind.u64 q) (4 : Int)))) = false ∧
 (decide ((0 : Int) ≤ IntKind.wrap IntKind.i64 (Int.tmod (IntKind.wrap IntKind.u64 q) (4 : Int))) && decide (IntKind.wrap IntKind.i64 (Int.tmod (IntKind.wrap IntKind.u64 q) (4 : Int)) < (4 : Int))) = true ∧
 (decide (0 + Int.toNat (IntKind.wrap IntKind.i64 (Int.tmod (IntKind.wrap IntKind.u64 q) (4 : Int))) * 1 < 4)) = true ∧
 (decide ((0 : Int) ≤ Go.bits BinOp.and IntKind.i64 a (15 : Int))) = true ∧
 (decide ((0 : Int) ≤ Go.bits BinOp.and IntKind.i64 k (15 : Int))) = true ∧
 (decide ((0 : Int) ≤ z (0 + Int.toNat (IntKind.wrap IntKind.i64 (Int.tmod (IntKind.wrap IntKind.u64 q) (4 : Int))) * 1) 0 % (16 : Int))) = true ∧
 (((decide (Go.bits BinOp.and IntKind.i64 a (15 : Int) ≤ z (0 + Int.toNat (IntKind.wrap IntKind.i64 (Int.tmod (IntKind.wrap IntKind.u64 q) (4 : Int))) * 1) 0 % (16 : Int))) = true → (((!decide (Go.bits BinOp.and IntKind.i64 k (15 : Int) ≤ IntKind.wrap IntKind.i64 (z (0 + Int.toNat (IntKind.wrap IntKind.i64 (Int.tmod (IntKind.wrap IntKind.u64 q) (4 : Int))) * 1) 0 % (16 : Int) - Go.bits BinOp.and IntKind.i64 a (15 : Int)))) = true → (decide ((0 : Int) ≤ IntKind.wrap IntKind.i64 (Int.tmod (IntKind.wrap IntKind.u64 q) (4 : Int))) && decide (IntKind.wrap IntKind.i64 (Int.tmod (IntKind.wrap IntKind.u64 q) (4 : Int)) < (4 : Int))) = true ∧
 (decide (0 + Int.toNat (IntKind.wrap IntKind.i64 (Int.tmod (IntKind.wrap IntKind.u64 q) (4 : Int))) * 1 < 4)) = true ∧
 (decide (z (0 + Int.toNat (IntKind.wrap IntKind.i64 (Int.tmod (IntKind.wrap IntKind.u64 q) (4 : Int))) * 1) 0 % (16 : Int) < IntKind.wrap IntKind.i64 (Go.bits BinOp.and IntKind.i64 a (15 : Int) + Go.bits BinOp.and IntKind.i64 k (15 : Int)))) = true ∧
 Bool.true = Bool.true) ∧ ((!decide (Go.bits BinOp.and IntKind.i64 k (15 : Int) ≤ IntKind.wrap IntKind.i64 (z (0 + Int.toNat (IntKind.wrap IntKind.i64 (Int.tmod (IntKind.wrap IntKind.u64 q) (4 : Int))) * 1) 0 % (16 : Int) - Go.bits BinOp.and IntKind.i64 a (15 : Int)))) = false → (decide ((0 : Int) ≤ IntKind.wrap IntKind.i64 (Int.tmod (IntKind.wrap IntKind.u64 q) (4 : Int))) && decide (IntKind.wrap IntKind.i64 (Int.tmod (IntKind.wrap IntKind.u64 q) (4 : Int)) < (4 : Int))) = true ∧
 (decide (0 + Int.toNat (IntKind.wrap IntKind.i64 (Int.tmod (IntKind.wrap IntKind.u64 q) (4 : Int))) * 1 < 4)) = true ∧
 (decide ((0 : Int) ≤ IntKind.wrap IntKind.i64 (Int.tmod (IntKind.wrap IntKind.u64 q) (4 : Int))) && decide (IntKind.wrap IntKind.i64 (Int.tmod (IntKind.wrap IntKind.u64 q) (4 : Int)) < (4 : Int))) = true ∧
 (decide (0 + Int.toNat (IntKind.wrap IntKind.i64 (Int.tmod (IntKind.wrap IntKind.u64 q) (4 : Int))) * 1 < 4)) = true ∧
 (decide (z (0 + Int.toNat (IntKind.wrap IntKind.i64 (Int.tmod (IntKind.wrap IntKind.u64 q) (4 : Int))) * 1) 0 % (16 : Int) < IntKind.wrap IntKind.i64 (Go.bits BinOp.and IntKind.i64 a (15 : Int) + Go.bits BinOp.and IntKind.i64 k (15 : Int)))) = false ∧
 (decide ((0 : Int) ≤ IntKind.wrap IntKind.i64 (Int.tmod (IntKind.wrap IntKind.u64 q) (4 : Int))) && decide (IntKind.wrap IntKind.i64 (Int.tmod (IntKind.wrap IntKind.u64 q) (4 : Int)) < (4 : Int))) = true ∧
 (decide (0 + Int.toNat (IntKind.wrap IntKind.i64 (Int.tmod (IntKind.wrap IntKind.u64 q) (4 : Int))) * 1 < 4)) = true ∧
 (!decide (IntKind.wrap IntKind.i64 (PS z (0 + Int.toNat (IntKind.wrap IntKind.i64 (Int.tmod (IntKind.wrap IntKind.u64 q) (4 : Int))) * 1) + Go.bits BinOp.and IntKind.i64 a (15 : Int)) = IntKind.wrap IntKind.i64 (PS z (0 + Int.toNat (IntKind.wrap IntKind.i64 (Int.tmod (IntKind.wrap IntKind.u64 q) (4 : Int))) * 1) + Go.bits BinOp.and IntKind.i64 a (15 : Int)))) = false ∧
 (((0 = 0 ∧ len = len ∧ cap = cap) ∧ q = q ∧ a = a ∧ k = k ∧ Bool.false = Bool.false ∧ (0 = 0 ∧ 4 = 4 ∧ 4 = 4) ∧ PS z 4 = PS z 4 ∧ IntKind.wrap IntKind.i64 (Int.tmod (IntKind.wrap IntKind.u64 q) (4 : Int)) = q % (18446744073709551616 : Int) % (4 : Int) ∧ Go.bits BinOp.and IntKind.i64 a (15 : Int) = a % (16 : Int) ∧ Go.bits BinOp.and IntKind.i64 k (15 : Int) = k % (16 : Int) ∧ IntKind.wrap IntKind.i64 (PS z (0 + Int.toNat (IntKind.wrap IntKind.i64 (Int.tmod (IntKind.wrap IntKind.u64 q) (4 : Int))) * 1) + Go.bits BinOp.and IntKind.i64 a (15 : Int)) = PS z (Int.toNat (q % (18446744073709551616 : Int) % (4 : Int))) + a % (16 : Int) ∧ (0 : Int) = (0 : Int) ∧ True) ∧ (4 = 4 ∧ (∀ (jj0 : Nat), (jj0 < 4 → True ∧ (0 : Int) = (0 : Int) ∧ (0 : Int) = (0 : Int) ∧ True ∧ PS z jj0 = PS z jj0 ∧ z jj0 0 % (16 : Int) = z jj0 0 % (16 : Int) ∧ True))) ∧ (len = len ∧ (∀ (jj0 : Nat), (jj0 < len → True ∧ z jj0 0 = z jj0 0 ∧ True))) ∧ True) ∧
 LO (Go.Proofs.Try.prog) (Go.AE.lp Go.Proofs.Try.prog 6 1) (TB z q a k len cap 4 0) (SB z len 4 161) (Go.AE.Out.x 2 (TB z q a k len cap 4 (Int.toNat (k % (16 : Int)))) (SB z len 4 161)) ∧
 (decide (PS z 4 = (0 : Int))) = false ∧
 (decide (IntKind.wrap IntKind.i64 (PS z 4 - (1 : Int)) < (0 : Int))) = false ∧
 (decide ((64 : Int) < IntKind.wrap IntKind.i64 (PS z 4 - (1 : Int)))) = false ∧
 (decide ((0 : Int) ≤ z 0 0 % (16 : Int))) = true ∧
 (decide ((0 : Int) ≤ IntKind.wrap IntKind.i64 (PS z 4 - (1 : Int)))) = true ∧
 (decide (PS z 0 ≤ IntKind.wrap IntKind.i64 (PS z 4 - (1 : Int)))) = true ∧
 (!decide (z 0 0 % (16 : Int) ≤ IntKind.wrap IntKind.i64 (IntKind.wrap IntKind.i64 (PS z 4 - (1 : Int)) - PS z 0))) = false ∧
 (decide ((0 : Int) ≤ PS z 1)) = true ∧
 (decide ((0 : Int) ≤ z 1 0 % (16 : Int))) = true ∧
 (decide ((0 : Int) ≤ IntKind.wrap IntKind.i64 (PS z 4 - (1 : Int)))) = true ∧
 (decide (PS z 1 ≤ IntKind.wrap IntKind.i64 (PS z 4 - (1 : Int)))) = true ∧
 (!decide (z 1 0 % (16 : Int) ≤ IntKind.wrap IntKind.i64 (IntKind.wrap IntKind.i64 (PS z 4 - (1 : Int)) - PS z 1))) = false ∧
 (decide (z 1 0 % (16 : Int) = (0 : Int))) = true ∧
 (decide ((0 : Int) ≤ PS z 2)) = true ∧
 (decide ((0 : Int) ≤ z 2 0 % (16 : Int))) = true ∧
 (decide ((0 : Int) ≤ IntKind.wrap IntKind.i64 (PS z 4 - (1 : Int)))) = true ∧
 (decide (PS z 2 ≤ IntKind.wrap IntKind.i64 (PS z 4 - (1 : Int)))) = true ∧
 (!decide (z 2 0 % (16 : Int) ≤ IntKind.wrap IntKind.i64 (IntKind.wrap IntKind.i64 (PS z 4 - (1 : Int)) - PS z 2))) = true ∧
 Bool.true = Bool.true))) ∧ ((decide (Go.bits BinOp.and IntKind.i64 a (15 : Int) ≤ z (0 + Int.toNat (IntKind.wrap IntKind.i64 (Int.tmod (IntKind.wrap IntKind.u64 q) (4 : Int))) * 1) 0 % (16 : Int))) = false → (decide ((0 : Int) ≤ IntKind.wrap IntKind.i64 (Int.tmod (IntKind.wrap IntKind.u64 q) (4 : Int))) && decide (IntKind.wrap IntKind.i64 (Int.tmod (IntKind.wrap IntKind.u64 q) (4 : Int)) < (4 : Int))) = true ∧
 (decide (0 + Int.toNat (IntKind.wrap IntKind.i64 (Int.tmod (IntKind.wrap IntKind.u64 q) (4 : Int))) * 1 < 4)) = true ∧
 (decide (z (0 + Int.toNat (IntKind.wrap IntKind.i64 (Int.tmod (IntKind.wrap IntKind.u64 q) (4 : Int))) * 1) 0 % (16 : Int) < IntKind.wrap IntKind.i64 (Go.bits BinOp.and IntKind.i64 a (15 : Int) + Go.bits BinOp.and IntKind.i64 k (15 : Int)))) = true ∧
 Bool.true = Bool.true))) ∧ ((decide (z 3 0 % (16 : Int) = (0 : Int))) = false → (decide (z 0 0 % (16 : Int) = (0 : Int))) = false ∧
 (decide (IntKind.wrap IntKind.i64 (PS z 3 + z 3 0 % (16 : Int)) ≤ PS z 0)) = false ∧
 (!decide (IntKind.wrap IntKind.i64 (PS z 0 + z 0 0 % (16 : Int)) ≤ PS z 3)) = false ∧
 (decide (z 3 0 % (16 : Int) = (0 : Int))) = false ∧
 (decide (z 1 0 % (16 : Int) = (0 : Int))) = true ∧
 (decide (z 3 0 % (16 : Int) = (0 : Int))) = false ∧
 (decide (z 2 0 % (16 : Int) = (0 : Int))) = false ∧
 (decide (IntKind.wrap IntKind.i64 (PS z 3 + z 3 0 % (16 : Int)) ≤ PS z 2)) = false ∧
 (!decide (IntKind.wrap IntKind.i64 (PS z 2 + z 2 0 % (16 : Int)) ≤ PS z 3)) = false ∧
 (decide ((0 : Int) ≤ z 0 0 % (16 : Int))) = true ∧
 (!decide (z 0 0 % (16 : Int) ≤ IntKind.wrap IntKind.i64 ((64 : Int) - PS z 0))) = false ∧
 (decide ((0 : Int) ≤ PS z 1)) = true ∧
 (decide ((0 : Int) ≤ z 1 0 % (16 : Int))) = true ∧
 (decide (PS z 1 ≤ (64 : Int))) = true ∧
 (!decide (z 1 0 % (16 : Int) ≤ IntKind.wrap IntKind.i64 ((64 : Int) - PS z 1))) = false ∧
 (decide (z 1 0 % (16 : Int) = (0 : Int))) = true ∧
 (decide ((0 : Int) ≤ PS z 2)) = true ∧
 (decide ((0 : Int) ≤ z 2 0 % (16 : Int))) = true ∧
 (decide (PS z 2 ≤ (64 : Int))) = true ∧
 (!decide (z 2 0 % (16 : Int) ≤ IntKind.wrap IntKind.i64 ((64 : Int) - PS z 2))) = false ∧
 (decide (z 2 0 % (16 : Int) = (0 : Int))) = false ∧
 (decide (z 0 0 % (16 : Int) = (0 : Int))) = false ∧
 (decide (IntKind.wrap IntKind.i64 (PS z 2 + z 2 0 % (16 : Int)) ≤ PS z 0)) = false ∧
 (!decide (IntKind.wrap IntKind.i64 (PS z 0 + z 0 0 % (16 : Int)) ≤ PS z 2)) = false ∧
 (decide (z 2 0 % (16 : Int) = (0 : Int))) = false ∧
 (decide (z 1 0 % (16 : Int) = (0 : Int))) = true ∧
 (decide ((0 : Int) ≤ PS z 3)) = true ∧
 (decide ((0 : Int) ≤ z 3 0 % (16 : Int))) = true ∧
 (decide (PS z 3 ≤ (64 : Int))) = true ∧
 (!decide (z 3 0 % (16 : Int) ≤ IntKind.wrap IntKind.i64 ((64 : Int) - PS z 3))) = false ∧
 (decide (z 3 0 % (16 : Int) = (0 : Int))) = false ∧
 (decide (z 0 0 % (16 : Int) = (0 : Int))) = false ∧
 (decide (IntKind.wrap IntKind.i64 (PS z 3 + z 3 0 % (16 : Int)) ≤ PS z 0)) = false ∧
 (!decide (IntKind.wrap IntKind.i64 (PS z 0 + z 0 0 % (16 : Int)) ≤ PS z 3)) = false ∧
 (decide (z 3 0 % (16 : Int) = (0 : Int))) = false ∧
 (decide (z 1 0 % (16 : Int) = (0 : Int))) = true ∧
 (decide (z 3 0 % (16 : Int) = (0 : Int))) = false ∧
 (decide (z 2 0 % (16 : Int) = (0 : Int))) = false ∧
 (decide (IntKind.wrap IntKind.i64 (PS z 3 + z 3 0 % (16 : Int)) ≤ PS z 2)) = false ∧
 (!decide (IntKind.wrap IntKind.i64 (PS z 2 + z 2 0 % (16 : Int)) ≤ PS z 3)) = false ∧
 (decide (IntKind.wrap IntKind.i64 (Int.tmod (IntKind.wrap IntKind.u64 q) (4 : Int)) < (0 : Int))) = false ∧
 (decide ((4 : Int) ≤ IntKind.wrap IntKind.i64 (Int.tmod (IntKind.wrap IntKind.u64 q) (4 : Int)))) = false ∧
 (decide ((0 : Int) ≤ IntKind.wrap IntKind.i64 (Int.tmod (IntKind.wrap IntKind.u64 q) (4 : Int))) && decide (IntKind.wrap IntKind.i64 (Int.tmod (IntKind.wrap IntKind.u64 q) (4 : Int)) < (4 : Int))) = true ∧
 (decide (0 + Int.toNat (IntKind.wrap IntKind.i64 (Int.tmod (IntKind.wrap IntKind.u64 q) (4 : Int))) * 1 < 4)) = true ∧
 (decide ((0 : Int) ≤ Go.bits BinOp.and IntKind.i64 a (15 : Int))) = true ∧
 (decide ((0 : Int) ≤ Go.bits BinOp.and IntKind.i64 k (15 : Int))) = true ∧
 (decide ((0 : Int) ≤ z (0 + Int.toNat (IntKind.wrap IntKind.i64 (Int.tmod (IntKind.wrap IntKind.u64 q) (4 : Int))) * 1) 0 % (16 : Int))) = true ∧
 (((decide (Go.bits BinOp.and IntKind.i64 a (15 : Int) ≤ z (0 + Int.toNat (IntKind.wrap IntKind.i64 (Int.tmod (IntKind.wrap IntKind.u64 q) (4 : Int))) * 1) 0 % (16 : Int))) = true → (((!decide (Go.bits BinOp.and IntKind.i64 k (15 : Int) ≤ IntKind.wrap IntKind.i64 (z (0 + Int.toNat (IntKind.wrap IntKind.i64 (Int.tmod (IntKind.wrap IntKind.u64 q) (4 : Int))) * 1) 0 % (16 : Int) - Go.bits BinOp.and IntKind.i64 a (15 : Int)))) = true → (decide ((0 : Int) ≤ IntKind.wrap IntKind.i64 (Int.tmod (IntKind.wrap IntKind.u64 q) (4 : Int))) && decide (IntKind.wrap IntKind.i64 (Int.tmod (IntKind.wrap IntKind.u64 q) (4 : Int)) < (4 : Int))) = true ∧
 (decide (0 + Int.toNat (IntKind.wrap IntKind.i64 (Int.tmod (IntKind.wrap IntKind.u64 q) (4 : Int))) * 1 < 4)) = true ∧
 (decide (z (0 + Int.toNat (IntKind.wrap IntKind.i64 (Int.tmod (IntKind.wrap IntKind.u64 q) (4 : Int))) * 1) 0 % (16 : Int) < IntKind.wrap IntKind.i64 (Go.bits BinOp.and IntKind.i64 a (15 : Int) + Go.bits BinOp.and IntKind.i64 k (15 : Int)))) = true ∧
 Bool.true = Bool.true) ∧ ((!decide (Go.bits BinOp.and IntKind.i64 k (15 : Int) ≤ IntKind.wrap IntKind.i64 (z (0 + Int.toNat (IntKind.wrap IntKind.i64 (Int.tmod (IntKind.wrap IntKind.u64 q) (4 : Int))) * 1) 0 % (16 : Int) - Go.bits BinOp.and IntKind.i64 a (15 : Int)))) = false → (decide ((0 : Int) ≤ IntKind.wrap IntKind.i64 (Int.tmod (IntKind.wrap IntKind.u64 q) (4 : Int))) && decide (IntKind.wrap IntKind.i64 (Int.tmod (IntKind.wrap IntKind.u64 q) (4 : Int)) < (4 : Int))) = true ∧
 (decide (0 + Int.toNat (IntKind.wrap IntKind.i64 (Int.tmod (IntKind.wrap IntKind.u64 q) (4 : Int))) * 1 < 4)) = true ∧
 (decide ((0 : Int) ≤ IntKind.wrap IntKind.i64 (Int.tmod (IntKind.wrap IntKind.u64 q) (4 : Int))) && decide (IntKind.wrap IntKind.i64 (Int.tmod (IntKind.wrap IntKind.u64 q) (4 : Int)) < (4 : Int))) = true ∧
 (decide (0 + Int.toNat (IntKind.wrap IntKind.i64 (Int.tmod (IntKind.wrap IntKind.u64 q) (4 : Int))) * 1 < 4)) = true ∧
 (decide (z (0 + Int.toNat (IntKind.wrap IntKind.i64 (Int.tmod (IntKind.wrap IntKind.u64 q) (4 : Int))) * 1) 0 % (16 : Int) < IntKind.wrap IntKind.i64 (Go.bits BinOp.and IntKind.i64 a (15 : Int) + Go.bits BinOp.and IntKind.i64 k (15 : Int)))) = false ∧
 (decide ((0 : Int) ≤ IntKind.wrap IntKind.i64 (Int.tmod (IntKind.wrap IntKind.u64 q) (4 : Int))) && decide (IntKind.wrap IntKind.i64 (Int.tmod (IntKind.wrap IntKind.u64 q) (4 : Int)) < (4 : Int))) = true ∧
 (decide (0 + Int.toNat (IntKind.wrap IntKind.i64 (Int.tmod (IntKind.wrap IntKind.u64 q) (4 : Int))) * 1 < 4)) = true ∧
 (!decide (IntKind.wrap IntKind.i64 (PS z (0 + Int.toNat (IntKind.wrap IntKind.i64 (Int.tmod (IntKind.wrap IntKind.u64 q) (4 : Int))) * 1) + Go.bits BinOp.and IntKind.i64 a (15 : Int)) = IntKind.wrap IntKind.i64 (PS z (0 + Int.toNat (IntKind.wrap IntKind.i64 (Int.tmod (IntKind.wrap IntKind.u64 q) (4 : Int))) * 1) + Go.bits BinOp.and IntKind.i64 a (15 : Int)))) = false ∧
 (((0 = 0 ∧ len = len ∧ cap = cap) ∧ q = q ∧ a = a ∧ k = k ∧ Bool.false = Bool.false ∧ (0 = 0 ∧ 4 = 4 ∧ 4 = 4) ∧ PS z 4 = PS z 4 ∧ IntKind.wrap IntKind.i64 (Int.tmod (IntKind.wrap IntKind.u64 q) (4 : Int)) = q % (18446744073709551616 : Int) % (4 : Int) ∧ Go.bits BinOp.and IntKind.i64 a (15 : Int) = a % (16 : Int) ∧ Go.bits BinOp.and IntKind.i64 k (15 : Int) = k % (16 : Int) ∧ IntKind.wrap IntKind.i64 (PS z (0 + Int.toNat (IntKind.wrap IntKind.i64 (Int.tmod (IntKind.wrap IntKind.u64 q) (4 : Int))) * 1) + Go.bits BinOp.and IntKind.i64 a (15 : Int)) = PS z (Int.toNat (q % (18446744073709551616 : Int) % (4 : Int))) + a % (16 : Int) ∧ (0 : Int) = (0 : Int) ∧ True) ∧ (4 = 4 ∧ (∀ (jj0 : Nat), (jj0 < 4 → True ∧ (0 : Int) = (0 : Int) ∧ (0 : Int) = (0 : Int) ∧ True ∧ PS z jj0 = PS z jj0 ∧ z jj0 0 % (16 : Int) = z jj0 0 % (16 : Int) ∧ True))) ∧ (len = len ∧ (∀ (jj0 : Nat), (jj0 < len → True ∧ z jj0 0 = z jj0 0 ∧ True))) ∧ True) ∧
 LO (Go.Proofs.Try.prog) (Go.AE.lp Go.Proofs.Try.prog 6 1) (TB z q a k len cap 4 0) (SB z len 4 161) (Go.AE.Out.x 2 (TB z q a k len cap 4 (Int.toNat (k % (16 : Int)))) (SB z len 4 161)) ∧
 (decide (PS z 4 = (0 : Int))) = false ∧
 (decide (IntKind.wrap IntKind.i64 (PS z 4 - (1 : Int)) < (0 : Int))) = false ∧
 (decide ((64 : Int) < IntKind.wrap IntKind.i64 (PS z 4 - (1 : Int)))) = false ∧
 (decide ((0 : Int) ≤ z 0 0 % (16 : Int))) = true ∧
 (decide ((0 : Int) ≤ IntKind.wrap IntKind.i64 (PS z 4 - (1 : Int)))) = true ∧
 (decide (PS z 0 ≤ IntKind.wrap IntKind.i64 (PS z 4 - (1 : Int)))) = true ∧
 (!decide (z 0 0 % (16 : Int) ≤ IntKind.wrap IntKind.i64 (IntKind.wrap IntKind.i64 (PS z 4 - (1 : Int)) - PS z 0))) = false ∧
 (decide ((0 : Int) ≤ PS z 1)) = true ∧
 (decide ((0 : Int) ≤ z 1 0 % (16 : Int))) = true ∧
 (decide ((0 : Int) ≤ IntKind.wrap IntKind.i64 (PS z 4 - (1 : Int)))) = true ∧
 (decide (PS z 1 ≤ IntKind.wrap IntKind.i64 (PS z 4 - (1 : Int)))) = true ∧
 (!decide (z 1 0 % (16 : Int) ≤ IntKind.wrap IntKind.i64 (IntKind.wrap IntKind.i64 (PS z 4 - (1 : Int)) - PS z 1))) = false ∧
 (decide (z 1 0 % (16 : Int) = (0 : Int))) = true ∧
 (decide ((0 : Int) ≤ PS z 2)) = true ∧
 (decide ((0 : Int) ≤ z 2 0 % (16 : Int))) = true ∧
 (decide ((0 : Int) ≤ IntKind.wrap IntKind.i64 (PS z 4 - (1 : Int)))) = true ∧
 (decide (PS z 2 ≤ IntKind.wrap IntKind.i64 (PS z 4 - (1 : Int)))) = true ∧
 (!decide (z 2 0 % (16 : Int) ≤ IntKind.wrap IntKind.i64 (IntKind.wrap IntKind.i64 (PS z 4 - (1 : Int)) - PS z 2))) = false ∧
 (decide (z 2 0 % (16 : Int) = (0 : Int))) = false ∧
 (decide (z 0 0 % (16 : Int) = (0 : Int))) = false ∧
 (decide (IntKind.wrap IntKind.i64 (PS z 2 + z 2 0 % (16 : Int)) ≤ PS z 0)) = false ∧
 (!decide (IntKind.wrap IntKind.i64 (PS z 0 + z 0 0 % (16 : Int)) ≤ PS z 2)) = false ∧
 (decide (z 2 0 % (16 : Int) = (0 : Int))) = false ∧
 (decide (z 1 0 % (16 : Int) = (0 : Int))) = true ∧
 (decide ((0 : Int) ≤ PS z 3)) = true ∧
 (decide ((0 : Int) ≤ z 3 0 % (16 : Int))) = true ∧
 (decide ((0 : Int) ≤ IntKind.wrap IntKind.i64 (PS z 4 - (1 : Int)))) = true ∧
 (decide (PS z 3 ≤ IntKind.wrap IntKind.i64 (PS z 4 - (1 : Int)))) = true ∧
 (!decide (z 3 0 % (16 : Int) ≤ IntKind.wrap IntKind.i64 (IntKind.wrap IntKind.i64 (PS z 4 - (1 : Int)) - PS z 3))) = true ∧
 Bool.true = Bool.true))) ∧ ((decide (Go.bits BinOp.and IntKind.i64 a (15 : Int) ≤ z (0 + Int.toNat (IntKind.wrap IntKind.i64 (Int.tmod (IntKind.wrap IntKind.u64 q) (4 : Int))) * 1) 0 % (16 : Int))) = false → (decide ((0 : Int) ≤ IntKind.wrap IntKind.i64 (Int.tmod (IntKind.wrap IntKind.u64 q) (4 : Int))) && decide (IntKind.wrap IntKind.i64 (Int.tmod (IntKind.wrap IntKind.u64 q) (4 : Int)) < (4 : Int))) = true ∧
 (decide (0 + Int.toNat (IntKind.wrap IntKind.i64 (Int.tmod (IntKind.wrap IntKind.u64 q) (4 : Int))) * 1 < 4)) = true ∧
 (decide (z (0 + Int.toNat (IntKind.wrap IntKind.i64 (Int.tmod (IntKind.wrap IntKind.u64 q) (4 : Int))) * 1) 0 % (16 : Int) < IntKind.wrap IntKind.i64 (Go.bits BinOp.and IntKind.i64 a (15 : Int) + Go.bits BinOp.and IntKind.i64 k (15 : Int)))) = true ∧
 Bool.true = Bool.true))))))))) ∧ ((decide (z 1 0 % (16 : Int) = (0 : Int))) = false → (((decide (z 0 0 % (16 : Int) = (0 : Int))) = true → (decide ((0 : Int) ≤ PS z 2)) = true ∧
 (decide ((0 : Int) ≤ z 2 0 % (16 : Int))) = true ∧
 (decide ((0 : Int) ≤ PS z 4)) = true ∧
 (decide (PS z 2 ≤ PS z 4)) = true ∧
 (!decide (z 2 0 % (16 : Int) ≤ IntKind.wrap IntKind.i64 (PS z 4 - PS z 2))) = false ∧
 (((decide (z 2 0 % (16 : Int) = (0 : Int))) = true → (decide (z 2 0 % (16 : Int) = (0 : Int))) = true ∧
 (decide ((0 : Int) ≤ PS z 3)) = true ∧
 (decide ((0 : Int) ≤ z 3 0 % (16 : Int))) = true ∧
 (decide ((0 : Int) ≤ PS z 4)) = true ∧
 (decide (PS z 3 ≤ PS z 4)) = true ∧
 (!decide (z 3 0 % (16 : Int) ≤ IntKind.wrap IntKind.i64 (PS z 4 - PS z 3))) = false ∧
 (((decide (z 3 0 % (16 : Int) = (0 : Int))) = true → (decide (z 3 0 % (16 : Int) = (0 : Int))) = true ∧
 (decide (z 3 0 % (16 : Int) = (0 : Int))) = true ∧
 (decide ((0 : Int) ≤ z 0 0 % (16 : Int))) = true ∧
 (!decide (z 0 0 % (16 : Int) ≤ IntKind.wrap IntKind.i64 ((64 : Int) - PS z 0))) = false ∧
 (decide ((0 : Int) ≤ PS z 1)) = true ∧
 (decide ((0 : Int) ≤ z 1 0 % (16 : Int))) = true ∧
 (decide (PS z 1 ≤ (64 : Int))) = true ∧
 (!decide (z 1 0 % (16 : Int) ≤ IntKind.wrap IntKind.i64 ((64 : Int) - PS z 1))) = false ∧
 (decide (z 1 0 % (16 : Int) = (0 : Int))) = false ∧
 (decide (z 0 0 % (16 : Int) = (0 : Int))) = true ∧
 (decide ((0 : Int) ≤ PS z 2)) = true ∧
 (decide ((0 : Int) ≤ z 2 0 % (16 : Int))) = true ∧
 (decide (PS z 2 ≤ (64 : Int))) = true ∧
 (!decide (z 2 0 % (16 : Int) ≤ IntKind.wrap IntKind.i64 ((64 : Int) - PS z 2))) = false ∧
 (decide (z 2 0 % (16 : Int) = (0 : Int))) = true ∧
 (decide (z 2 0 % (16 : Int) = (0 : Int))) = true ∧
 (decide ((0 : Int) ≤ PS z 3)) = true ∧
 (decide ((0 : Int) ≤ z 3 0 % (16 : Int))) = true ∧
 (decide (PS z 3 ≤ (64 : Int))) = true ∧
 (!decide (z 3 0 % (16 : Int) ≤ IntKind.wrap IntKind.i64 ((64 : Int) - PS z 3))) = false ∧
 (decide (z 3 0 % (16 : Int) = (0 : Int))) = true ∧
 (decide (z 3 0 % (16 : Int) = (0 : Int))) = true ∧
 (decide (z 3 0 % (16 : Int) = (0 : Int))) = true ∧
 (decide (IntKind.wrap IntKind.i64 (Int.tmod (IntKind.wrap IntKind.u64 q) (4 : Int)) < (0 : Int))) = false ∧
 (decide ((4 : Int) ≤ IntKind.wrap IntKind.i64 (Int.tmod (IntKind.wrap IntKind.u64 q) (4 : Int)))) = false ∧
 (decide ((0 : Int) ≤ IntKind.wrap IntKind.i64 (Int.tmod (IntKind.wrap IntKind.u64 q) (4 : Int))) && decide (IntKind.wrap IntKind.i64 (Int.tmod (IntKind.wrap IntKind.u64 q) (4 : Int)) < (4 : Int))) = true ∧
 (decide (0 + Int.toNat (IntKind.wrap IntKind.i64 (Int.tmod (IntKind.wrap IntKind.u64 q) (4 : Int))) * 1 < 4)) = true ∧
 (decide ((0 : Int) ≤ Go.bits BinOp.and IntKind.i64 a (15 : Int))) = true ∧
 (decide ((0 : Int) ≤ Go.bits BinOp.and IntKind.i64 k (15 : Int))) = true ∧
 (decide ((0 : Int) ≤ z (0 + Int.toNat (IntKind.wrap IntKind.i64 (Int.tmod (IntKind.wrap IntKind.u64 q) (4 : Int))) * 1) 0 % (16 : Int))) = true ∧
 (((decide (Go.bits BinOp.and IntKind.i64 a (15 : Int) ≤ z (0 + Int.toNat (IntKind.wrap IntKind.i64 (Int.tmod (IntKind.wrap IntKind.u64 q) (4 : Int))) * 1) 0 % (16 : Int))) = true → (((!decide (Go.bits BinOp.and IntKind.i64 k (15 : Int) ≤ IntKind.wrap IntKind.i64 (z (0 + Int.toNat (IntKind.wrap IntKind.i64 (Int.tmod (IntKind.wrap IntKind.u64 q) (4 : Int))) * 1) 0 % (16 : Int) - Go.bits BinOp.and IntKind.i64 a (15 : Int)))) = true → (decide ((0 : Int) ≤ IntKind.wrap IntKind.i64 (Int.tmod (IntKind.wrap IntKind.u64 q) (4 : Int))) && decide (IntKind.wrap IntKind.i64 (Int.tmod (IntKind.wrap IntKind.u64 q) (4 : Int)) < (4 : Int))) = true ∧
 (decide (0 + Int.toNat (IntKind.wrap IntKind.i64 (Int.tmod (IntKind.wrap IntKind.u64 q) (4 : Int))) * 1 < 4)) = true ∧
 (decide (z (0 + Int.toNat (IntKind.wrap IntKind.i64 (Int.tmod (IntKind.wrap IntKind.u64 q) (4 : Int))) * 1) 0 % (16 : Int) < IntKind.wrap IntKind.i64 (Go.bits BinOp.and IntKind.i64 a (15 : Int) + Go.bits BinOp.and IntKind.i64 k (15 : Int)))) = true ∧
 Bool.true = Bool.true) ∧ ((!decide (Go.bits BinOp.and IntKind.i64 k (15 : Int) ≤ IntKind.wrap IntKind.i64 (z (0 + Int.toNat (IntKind.wrap IntKind.i64 (Int.tmod (IntKind.wrap IntKind.u64 q) (4 : Int))) * 1) 0 % (16 : Int) - Go.bits BinOp.and IntKind.i64 a (15 : Int)))) = false → (decide ((0 : Int) ≤ IntKind.wrap IntKind.i64 (Int.tmod (IntKind.wrap IntKind.u64 q) (4 : Int))) && decide (IntKind.wrap IntKind.i64 (Int.tmod (IntKind.wrap IntKind.u64 q) (4 : Int)) < (4 : Int))) = true ∧
 (decide (0 + Int.toNat (IntKind.wrap IntKind.i64 (Int.tmod (IntKind.wrap IntKind.u64 q) (4 : Int))) * 1 < 4)) = true ∧
 (decide ((0 : Int) ≤ IntKind.wrap IntKind.i64 (Int.tmod (IntKind.wrap IntKind.u64 q) (4 : Int))) && decide (IntKind.wrap IntKind.i64 (Int.tmod (IntKind.wrap IntKind.u64 q) (4 : Int)) < (4 : Int))) = true ∧
 (decide (0 + Int.toNat (IntKind.wrap IntKind.i64 (Int.tmod (IntKind.wrap IntKind.u64 q) (4 : Int))) * 1 < 4)) = true ∧
 (decide (z (0 + Int.toNat (IntKind.wrap IntKind.i64 (Int.tmod (IntKind.wrap IntKind.u64 q) (4 : Int))) * 1) 0 % (16 : Int) < IntKind.wrap IntKind.i64 (Go.bits BinOp.and IntKind.i64 a (15 : Int) + Go.bits BinOp.and IntKind.i64 k (15 : Int)))) = false ∧
 (decide ((0 : Int) ≤ IntKind.wrap IntKind.i64 (Int.tmod (IntKind.wrap IntKind.u64 q) (4 : Int))) && decide (IntKind.wrap IntKind.i64 (Int.tmod (IntKind.wrap IntKind.u64 q) (4 : Int)) < (4 : Int))) = true ∧
 (decide (0 + Int.toNat (IntKind.wrap IntKind.i64 (Int.tmod (IntKind.wrap IntKind.u64 q) (4 : Int))) * 1 < 4)) = true ∧
 (!decide (IntKind.wrap IntKind.i64 (PS z (0 + Int.toNat (IntKind.wrap IntKind.i64 (Int.tmod (IntKind.wrap IntKind.u64 q) (4 : Int))) * 1) + Go.bits BinOp.and IntKind.i64 a (15 : Int)) = IntKind.wrap IntKind.i64 (PS z (0 + Int.toNat (IntKind.wrap IntKind.i64 (Int.tmod (IntKind.wrap IntKind.u64 q) (4 : Int))) * 1) + Go.bits BinOp.and IntKind.i64 a (15 : Int)))) = false ∧
 (((0 = 0 ∧ len = len ∧ cap = cap) ∧ q = q ∧ a = a ∧ k = k ∧ Bool.false = Bool.false ∧ (0 = 0 ∧ 4 = 4 ∧ 4 = 4) ∧ PS z 4 = PS z 4 ∧ IntKind.wrap IntKind.i64 (Int.tmod (IntKind.wrap IntKind.u64 q) (4 : Int)) = q % (18446744073709551616 : Int) % (4 : Int) ∧ Go.bits BinOp.and IntKind.i64 a (15 : Int) = a % (16 : Int) ∧ Go.bits BinOp.and IntKind.i64 k (15 : Int) = k % (16 : Int) ∧ IntKind.wrap IntKind.i64 (PS z (0 + Int.toNat (IntKind.wrap IntKind.i64 (Int.tmod (IntKind.wrap IntKind.u64 q) (4 : Int))) * 1) + Go.bits BinOp.and IntKind.i64 a (15 : Int)) = PS z (Int.toNat (q % (18446744073709551616 : Int) % (4 : Int))) + a % (16 : Int) ∧ (0 : Int) = (0 : Int) ∧ True) ∧ (4 = 4 ∧ (∀ (jj0 : Nat), (jj0 < 4 → True ∧ (0 : Int) = (0 : Int) ∧ (0 : Int) = (0 : Int) ∧ True ∧ PS z jj0 = PS z jj0 ∧ z jj0 0 % (16 : Int) = z jj0 0 % (16 : Int) ∧ True))) ∧ (len = len ∧ (∀ (jj0 : Nat), (jj0 < len → True ∧ z jj0 0 = z jj0 0 ∧ True))) ∧ True) ∧
 LO (Go.Proofs.Try.prog) (Go.AE.lp Go.Proofs.Try.prog 6 1) (TB z q a k len cap 4 0) (SB z len 4 161) (Go.AE.Out.x 2 (TB z q a k len cap 4 (Int.toNat (k % (16 : Int)))) (SB z len 4 161)) ∧
 (decide (PS z 4 = (0 : Int))) = false ∧
 (decide (IntKind.wrap IntKind.i64 (PS z 4 - (1 : Int)) < (0 : Int))) = false ∧
 (decide ((64 : Int) < IntKind.wrap IntKind.i64 (PS z 4 - (1 : Int)))) = false ∧
 (decide ((0 : Int) ≤ z 0 0 % (16 : Int))) = true ∧
 (decide ((0 : Int) ≤ IntKind.wrap IntKind.i64 (PS z 4 - (1 : Int)))) = true ∧
 (decide (PS z 0 ≤ IntKind.wrap IntKind.i64 (PS z 4 - (1 : Int)))) = true ∧
 (!decide (z 0 0 % (16 : Int) ≤ IntKind.wrap IntKind.i64 (IntKind.wrap IntKind.i64 (PS z 4 - (1 : Int)) - PS z 0))) = false ∧
 (decide ((0 : Int) ≤ PS z 1)) = true ∧
 (decide ((0 : Int) ≤ z 1 0 % (16 : Int))) = true ∧
 (decide ((0 : Int) ≤ IntKind.wrap IntKind.i64 (PS z 4 - (1 : Int)))) = true ∧
 (decide (PS z 1 ≤ IntKind.wrap IntKind.i64 (PS z 4 - (1 : Int)))) = true ∧
 (!decide (z 1 0 % (16 : Int) ≤ IntKind.wrap IntKind.i64 (IntKind.wrap IntKind.i64 (PS z 4 - (1 : Int)) - PS z 1))) = true ∧
 Bool.true = Bool.true))) ∧ ((decide (Go.bits BinOp.and IntKind.i64 a (15 : Int) ≤ z (0 + Int.toNat (IntKind.wrap IntKind.i64 (Int.tmod (IntKind.wrap IntKind.u64 q) (4 : Int))) * 1) 0 % (16 : Int))) = false → (decide ((0 : Int) ≤ IntKind.wrap IntKind.i64 (Int.tmod (IntKind.wrap IntKind.u64 q) (4 : Int))) && decide (IntKind.wrap IntKind.i64 (Int.tmod (IntKind.wrap IntKind.u64 q) (4 : Int)) < (4 : Int))) = true ∧
 (decide (0 + Int.toNat (IntKind.wrap IntKind.i64 (Int.tmod (IntKind.wrap IntKind.u64 q) (4 : Int))) * 1 < 4)) = true ∧
 (decide (z (0 + Int.toNat (IntKind.wrap IntKind.i64 (Int.tmod (IntKind.wrap IntKind.u64 q) (4 : Int))) * 1) 0 % (16 : Int) < IntKind.wrap IntKind.i64 (Go.bits BinOp.and IntKind.i64 a (15 : Int) + Go.bits BinOp.and IntKind.i64 k (15 : Int)))) = true ∧
 Bool.true = Bool.true))) ∧ ((decide (z 3 0 % (16 : Int) = (0 : Int))) = false → (decide (z 0 0 % (16 : Int) = (0 : Int))) = true ∧
 (decide (z 3 0 % (16 : Int) = (0 : Int))) = false ∧
 (decide (z 1 0 % (16 : Int) = (0 : Int))) = false ∧
 (decide (IntKind.wrap IntKind.i64 (PS z 3 + z 3 0 % (16 : Int)) ≤ PS z 1)) = false ∧
 (!decide (IntKind.wrap IntKind.i64 (PS z 1 + z 1 0 % (16 : Int)) ≤ PS z 3)) = false ∧
 (decide (z 3 0 % (16 : Int) = (0 : Int))) = false ∧
 (decide (z 2 0 % (16 : Int) = (0 : Int))) = true ∧
 (decide ((0 : Int) ≤ z 0 0 % (16 : Int))) = true ∧
 (!decide (z 0 0 % (16 : Int) ≤ IntKind.wrap IntKind.i64 ((64 : Int) - PS z 0))) = false ∧
 (decide ((0 : Int) ≤ PS z 1)) = true ∧
 (decide ((0 : Int) ≤ z 1 0 % (16 : Int))) = true ∧
 (decide (PS z 1 ≤ (64 : Int))) = true ∧
 (!decide (z 1 0 % (16 : Int) ≤ IntKind.wrap IntKind.i64 ((64 : Int) - PS z 1))) = false ∧
 (decide (z 1 0 % (16 : Int) = (0 : Int))) = false ∧
 (decide (z 0 0 % (16 : Int) = (0 : Int))) = true ∧
 (decide ((0 : Int) ≤ PS z 2)) = true ∧
 (decide ((0 : Int) ≤ z 2 0 % (16 : Int))) = true ∧
 (decide (PS z 2 ≤ (64 : Int))) = true ∧
 (!decide (z 2 0 % (16 : Int) ≤ IntKind.wrap IntKind.i64 ((64 : Int) - PS z 2))) = false ∧
 (decide (z 2 0 % (16 : Int) = (0 : Int))) = true ∧
 (decide (z 2 0 % (16 : Int) = (0 : Int))) = true ∧
 (decide ((0 : Int) ≤ PS z 3)) = true ∧
 (decide ((0 : Int) ≤ z 3 0 % (16 : Int))) = true ∧
 (decide (PS z 3 ≤ (64 : Int))) = true ∧
 (!decide (z 3 0 % (16 : Int) ≤ IntKind.wrap IntKind.i64 ((64 : Int) - PS z 3))) = false ∧
 (decide (z 3 0 % (16 : Int) = (0 : Int))) = false ∧
 (decide (z 0 0 % (16 : Int) = (0 : Int))) = true ∧
 (decide (z 3 0 % (16 : Int) = (0 : Int))) = false ∧
 (decide (z 1 0 % (16 : Int) = (0 : Int))) = false ∧
 (decide (IntKind.wrap IntKind.i64 (PS z 3 + z 3 0 % (16 : Int)) ≤ PS z 1)) = false ∧
 (!decide (IntKind.wrap IntKind.i64 (PS z 1 + z 1 0 % (16 : Int)) ≤ PS z 3)) = false ∧
 (decide (z 3 0 % (16 : Int) = (0 : Int))) = false ∧
 (decide (z 2 0 % (16 : Int) = (0 : Int))) = true ∧
 (decide (IntKind.wrap IntKind.i64 (Int.tmod (IntKind.wrap IntKind.u64 q) (4 : Int)) < (0 : Int))) = false ∧
 (decide ((4 : Int) ≤ IntKind.wrap IntKind.i64 (Int.tmod (IntKind.wrap IntKind.u64 q) (4 : Int)))) = false ∧
 (decide ((0 : Int) ≤ IntKind.wrap IntKind.i64 (Int.tmod (IntKind.wrap IntKind.u64 q) (4 : Int))) && decide (IntKind.wrap IntKind.i64 (Int.tmod (IntKind.wrap IntKind.u64 q) (4 : Int)) < (4 : Int))) = true ∧
 (decide (0 + Int.toNat (IntKind.wrap IntKind.i64 (Int.tmod (IntKind.wrap IntKind.u64 q) (4 : Int))) * 1 < 4)) = true ∧
 (decide ((0 : Int) ≤ Go.bits BinOp.and IntKind.i64 a (15 : Int))) = true ∧
 (decide ((0 : Int) ≤ Go.bits BinOp.and IntKind.i64 k (15 : Int))) = true ∧
 (decide ((0 : Int) ≤ z (0 + Int.toNat (IntKind.wrap IntKind.i64 (Int.tmod (IntKind.wrap IntKind.u64 q) (4 : Int))) * 1) 0 % (16 : Int))) = true ∧
 (((decide (Go.bits BinOp.and IntKind.i64 a (15 : Int) ≤ z (0 + Int.toNat (IntKind.wrap IntKind.i64 (Int.tmod (IntKind.wrap IntKind.u64 q) (4 : Int))) * 1) 0 % (16 : Int))) = true → (((!decide (Go.bits BinOp.and IntKind.i64 k (15 : Int) ≤ IntKind.wrap IntKind.i64 (z (0 + Int.toNat (IntKind.wrap IntKind.i64 (Int.tmod (IntKind.wrap IntKind.u64 q) (4 : Int))) * 1) 0 % (16 : Int) - Go.bits BinOp.and IntKind.i64 a (15 : Int)))) = true → (decide ((0 : Int) ≤ IntKind.wrap IntKind.i64 (Int.tmod (IntKind.wrap IntKind.u64 q) (4 : Int))) && decide (IntKind.wrap IntKind.i64 (Int.tmod (IntKind.wrap IntKind.u64 q) (4 : Int)) < (4 : Int))) = true ∧
 (decide (0 + Int.toNat (IntKind.wrap IntKind.i64 (Int.tmod (IntKind.wrap IntKind.u64 q) (4 : Int))) * 1 < 4)) = true ∧
 (decide (z (0 + Int.toNat (IntKind.wrap IntKind.i64 (Int.tmod (IntKind.wrap IntKind.u64 q) (4 : Int))) * 1) 0 % (16 : Int) < IntKind.wrap IntKind.i64 (Go.bits BinOp.and IntKind.i64 a (15 : Int) + Go.bits BinOp.and IntKind.i64 k (15 : Int)))) = true ∧
 Bool.true = Bool.true) ∧ ((!decide (Go.bits BinOp.and IntKind.i64 k (15 : Int) ≤ IntKind.wrap IntKind.i64 (z (0 + Int.toNat (IntKind.wrap IntKind.i64 (Int.tmod (IntKind.wrap IntKind.u64 q) (4 : Int))) * 1) 0 % (16 : Int) - Go.bits BinOp.and IntKind.i64 a (15 : Int)))) = false → (decide ((0 : Int) ≤ IntKind.wrap IntKind.i64 (Int.tmod (IntKind.wrap IntKind.u64 q) (4 : Int))) && decide (IntKind.wrap IntKind.i64 (Int.tmod (IntKind.wrap IntKind.u64 q) (4 : Int)) < (4 : Int))) = true ∧
 (decide (0 + Int.toNat (IntKind.wrap IntKind.i64 (Int.tmod (IntKind.wrap IntKind.u64 q) (4 : Int))) * 1 < 4)) = true ∧
 (decide ((0 : Int) ≤ IntKind.wrap IntKind.i64 (Int.tmod (IntKind.wrap IntKind.u64 q) (4 : Int))) && decide (IntKind.wrap IntKind.i64 (Int.tmod (IntKind.wrap IntKind.u64 q) (4 : Int)) < (4 : Int))) = true ∧
 (decide (0 + Int.toNat (IntKind.wrap IntKind.i64 (Int.tmod (IntKind.wrap IntKind.u64 q) (4 : Int))) * 1 < 4)) = true ∧
 (decide (z (0 + Int.toNat (IntKind.wrap IntKind.i64 (Int.tmod (IntKind.wrap IntKind.u64 q) (4 : Int))) * 1) 0 % (16 : Int) < IntKind.wrap IntKind.i64 (Go.bits BinOp.and IntKind.i64 a (15 : Int) + Go.bits BinOp.and IntKind.i64 k (15 : Int)))) = false ∧
 (decide ((0 : Int) ≤ IntKind.wrap IntKind.i64 (Int.tmod (IntKind.wrap IntKind.u64 q) (4 : Int))) && decide (IntKind.wrap IntKind.i64 (Int.tmod (IntKind.wrap IntKind.u64 q) (4 : Int)) < (4 : Int))) = true ∧
 (decide (0 + Int.toNat (IntKind.wrap IntKind.i64 (Int.tmod (IntKind.wrap IntKind.u64 q) (4 : Int))) * 1 < 4)) = true ∧
 (!decide (IntKind.wrap IntKind.i64 (PS z (0 + Int.toNat (IntKind.wrap IntKind.i64 (Int.tmod (IntKind.wrap IntKind.u64 q) (4 : Int))) * 1) + Go.bits BinOp.and IntKind.i64 a (15 : Int)) = IntKind.wrap IntKind.i64 (PS z (0 + Int.toNat (IntKind.wrap IntKind.i64 (Int.tmod (IntKind.wrap IntKind.u64 q) (4 : Int))) * 1) + Go.bits BinOp.and IntKind.i64 a (15 : Int)))) = false ∧
 (((0 = 0 ∧ len = len ∧ cap = cap) ∧ q = q ∧ a = a ∧ k = k ∧ Bool.false = Bool.false ∧ (0 = 0 ∧ 4 = 4 ∧ 4 = 4) ∧ PS z 4 = PS z 4 ∧ IntKind.wrap IntKind.i64 (Int.tmod (IntKind.wrap IntKind.u64 q) (4 : Int)) = q % (18446744073709551616 : Int) % (4 : Int) ∧ Go.bits BinOp.and IntKind.i64 a (15 : Int) = a % (16 : Int) ∧ Go.bits BinOp.and IntKind.i64 k (15 : Int) = k % (16 : Int) ∧ IntKind.wrap IntKind.i64 (PS z (0 + Int.toNat (IntKind.wrap IntKind.i64 (Int.tmod (IntKind.wrap IntKind.u64 q) (4 : Int))) * 1) + Go.bits BinOp.and IntKind.i64 a (15 : Int)) = PS z (Int.toNat (q % (18446744073709551616 : Int) % (4 : Int))) + a % (16 : Int) ∧ (0 : Int) = (0 : Int) ∧ True) ∧ (4 = 4 ∧ (∀ (jj0 : Nat), (jj0 < 4 → True ∧ (0 : Int) = (0 : Int) ∧ (0 : Int) = (0 : Int) ∧ True ∧ PS z jj0 = PS z jj0 ∧ z jj0 0 % (16 : Int) = z jj0 0 % (16 : Int) ∧ True))) ∧ (len = len ∧ (∀ (jj0 : Nat), (jj0 < len → True ∧ z jj0 0 = z jj0 0 ∧ True))) ∧ True) ∧
 LO (Go.Proofs.Try.prog) (Go.AE.lp Go.Proofs.Try.prog 6 1) (TB z q a k len cap 4 0) (SB z len 4 161) (Go.AE.Out.x 2 (TB z q a k len cap 4 (Int.toNat (k % (16 : Int)))) (SB z len 4 161)) ∧
 (decide (PS z 4 = (0 : Int))) = false ∧
 (decide (IntKind.wrap IntKind.i64 (PS z 4 - (1 : Int)) < (0 : Int))) = false ∧
 (decide ((64 : Int) < IntKind.wrap IntKind.i64 (PS z 4 - (1 : Int)))) = false ∧
 (decide ((0 : Int) ≤ z 0 0 % (16 : Int))) = true ∧
 (decide ((0 : Int) ≤ IntKind.wrap IntKind.i64 (PS z 4 - (1 : Int)))) = true ∧
 (decide (PS z 0 ≤ IntKind.wrap IntKind.i64 (PS z 4 - (1 : Int)))) = true ∧
 (!decide (z 0 0 % (16 : Int) ≤ IntKind.wrap IntKind.i64 (IntKind.wrap IntKind.i64 (PS z 4 - (1 : Int)) - PS z 0))) = false ∧
 (decide ((0 : Int) ≤ PS z 1)) = true ∧
 (decide ((0 : Int) ≤ z 1 0 % (16 : Int))) = true ∧
 (decide ((0 : Int) ≤ IntKind.wrap IntKind.i64 (PS z 4 - (1 : Int)))) = true ∧
 (decide (PS z 1 ≤ IntKind.wrap IntKind.i64 (PS z 4 - (1 : Int)))) = true ∧
 (!decide (z 1 0 % (16 : Int) ≤ IntKind.wrap IntKind.i64 (IntKind.wrap IntKind.i64 (PS z 4 - (1 : Int)) - PS z 1))) = false ∧
 (decide (z 1 0 % (16 : Int) = (0 : Int))) = false ∧
 (decide (z 0 0 % (16 : Int) = (0 : Int))) = true ∧
 (decide ((0 : Int) ≤ PS z 2)) = true ∧
 (decide ((0 : Int) ≤ z 2 0 % (16 : Int))) = true ∧
 (decide ((0 : Int) ≤ IntKind.wrap IntKind.i64 (PS z 4 - (1 : Int)))) = true ∧
 (decide (PS z 2 ≤ IntKind.wrap IntKind.i64 (PS z 4 - (1 : Int)))) = true ∧
 (!decide (z 2 0 % (16 : Int) ≤ IntKind.wrap IntKind.i64 (IntKind.wrap IntKind.i64 (PS z 4 - (1 : Int)) - PS z 2))) = false ∧
 (decide (z 2 0 % (16 : Int) = (0 : Int))) = true ∧
 (decide (z 2 0 % (16 : Int) = (0 : Int))) = true ∧
 (decide ((0 : Int) ≤ PS z 3)) = true ∧
 (decide ((0 : Int) ≤ z 3 0 % (16 : Int))) = true ∧
 (decide ((0 : Int) ≤ IntKind.wrap IntKind.i64 (PS z 4 - (1 : Int)))) = true ∧
 (decide (PS z 3 ≤ IntKind.wrap IntKind.i64 (PS z 4 - (1 : Int)))) = true ∧
 (!decide (z 3 0 % (16 : Int) ≤ IntKind.wrap IntKind.i64 (IntKind.wrap IntKind.i64 (PS z 4 - (1 : Int)) - PS z 3))) = true ∧
 Bool.true = Bool.true))) ∧ ((decide (Go.bits BinOp.and IntKind.i64 a (15 : Int) ≤ z (0 + Int.toNat (IntKind.wrap IntKind.i64 (Int.tmod (IntKind.wrap IntKind.u64 q) (4 : Int))) * 1) 0 % (16 : Int))) = false → (decide ((0 : Int) ≤ IntKind.wrap IntKind.i64 (Int.tmod (IntKind.wrap IntKind.u64 q) (4 : Int))) && decide (IntKind.wrap IntKind.i64 (Int.tmod (IntKind.wrap IntKind.u64 q) (4 : Int)) < (4 : Int))) = true ∧
 (decide (0 + Int.toNat (IntKind.wrap IntKind.i64 (Int.tmod (IntKind.wrap IntKind.u64 q) (4 : Int))) * 1 < 4)) = true ∧
 (decide (z (0 + Int.toNat (IntKind.wrap IntKind.i64 (Int.tmod (IntKind.wrap IntKind.u64 q) (4 : Int))) * 1) 0 % (16 : Int) < IntKind.wrap IntKind.i64 (Go.bits BinOp.and IntKind.i64 a (15 : Int) + Go.bits BinOp.and IntKind.i64 k (15 : Int)))) = true ∧
 Bool.true = Bool.true))))) ∧ ((decide (z 2 0 % (16 : Int) = (0 : Int))) = false → (decide (z 0 0 % (16 : Int) = (0 : Int))) = true ∧
 (decide (z 2 0 % (16 : Int) = (0 : Int))) = false ∧
 (decide (z 1 0 % (16 : Int) = (0 : Int))) = false ∧
 (decide (IntKind.wrap IntKind.i64 (PS z 2 + z 2 0 % (16 : Int)) ≤ PS z 1)) = false ∧
 (!decide (IntKind.wrap IntKind.i64 (PS z 1 + z 1 0 % (16 : Int)) ≤ PS z 2)) = false ∧
 (decide ((0 : Int) ≤ PS z 3)) = true ∧
 (decide ((0 : Int) ≤ z 3 0 % (16 : Int))) = true ∧
 (decide ((0 : Int) ≤ PS z 4)) = true ∧
 (decide (PS z 3 ≤ PS z 4)) = true ∧
 (!decide (z 3 0 % (16 : Int) ≤ IntKind.wrap IntKind.i64 (PS z 4 - PS z 3))) = false ∧
 (((decide (z 3 0 % (16 : Int) = (0 : Int))) = true → (decide (z 3 0 % (16 : Int) = (0 : Int))) = true ∧
 (decide (z 3 0 % (16 : Int) = (0 : Int))) = true ∧
 (decide ((0 : Int) ≤ z 0 0 % (16 : Int))) = true ∧
 (!decide (z 0 0 % (16 : Int) ≤ IntKind.wrap IntKind.i64 ((64 : Int) - PS z 0))) = false ∧
 (decide ((0 : Int) ≤ PS z 1)) = true ∧
 (decide ((0 : Int) ≤ z 1 0 % (16 : Int))) = true ∧
 (decide (PS z 1 ≤ (64 : Int))) = true ∧
 (!decide (z 1 0 % (16 : Int) ≤ IntKind.wrap IntKind.i64 ((64 : Int) - PS z 1))) = false ∧
 (decide (z 1 0 % (16 : Int) = (0 : Int))) = false ∧
 (decide (z 0 0 % (16 : Int) = (0 : Int))) = true ∧
 (decide ((0 : Int) ≤ PS z 2)) = true ∧
 (decide ((0 : Int) ≤ z 2 0 % (16 : Int))) = true ∧
 (decide (PS z 2 ≤ (64 : Int))) = true ∧
 (!decide (z 2 0 % (16 : Int) ≤ IntKind.wrap IntKind.i64 ((64 : Int) - PS z 2))) = false ∧
 (decide (z 2 0 % (16 : Int) = (0 : Int))) = false ∧
 (decide (z 0 0 % (16 : Int) = (0 : Int))) = true ∧
 (decide (z 2 0 % (16 : Int) = (0 : Int))) = false ∧
 (decide (z 1 0 % (16 : Int) = (0 : Int))) = false ∧
 (decide (IntKind.wrap IntKind.i64 (PS z 2 + z 2 0 % (16 : Int)) ≤ PS z 1)) = false ∧
 (!decide (IntKind.wrap IntKind.i64 (PS z 1 + z 1 0 % (16 : Int)) ≤ PS z 2)) = false ∧
 (decide ((0 : Int) ≤ PS z 3)) = true ∧
 (decide ((0 : Int) ≤ z 3 0 % (16 : Int))) = true ∧
 (decide (PS z 3 ≤ (64 : Int))) = true ∧
 (!decide (z 3 0 % (16 : Int) ≤ IntKind.wrap IntKind.i64 ((64 : Int) - PS z 3))) = false ∧
 (decide (z 3 0 % (16 : Int) = (0 : Int))) = true ∧
 (decide (z 3 0 % (16 : Int) = (0 : Int))) = true ∧
 (decide (z 3 0 % (16 : Int) = (0 : Int))) = true ∧
 (decide (IntKind.wrap IntKind.i64 (Int.tmod (IntKind.wrap IntKind.u64 q) (4 : Int)) < (0 : Int))) = false ∧
 (decide ((4 : Int) ≤ IntKind.wrap IntKind.i64 (Int.tmod (IntKind.wrap IntKind.u64 q) (4 : Int)))) = false ∧
 (decide ((0 : Int) ≤ IntKind.wrap IntKind.i64 (Int.tmod (IntKind.wrap IntKind.u64 q) (4 : Int))) && decide (IntKind.wrap IntKind.i64 (Int.tmod (IntKind.wrap IntKind.u64 q) (4 : Int)) < (4 : Int))) = true ∧
 (decide (0 + Int.toNat (IntKind.wrap IntKind.i64 (Int.tmod (IntKind.wrap IntKind.u64 q) (4 : Int))) * 1 < 4)) = true ∧
 (decide ((0 : Int) ≤ Go.bits BinOp.and IntKind.i64 a (15 : Int))) = true ∧
 (decide ((0 : Int) ≤ Go.bits BinOp.and IntKind.i64 k (15 : Int))) = true ∧
 (decide ((0 : Int) ≤ z (0 + Int.toNat (IntKind.wrap IntKind.i64 (Int.tmod (IntKind.wrap IntKind.u64 q) (4 : Int))) * 1) 0 % (16 : Int))) = true ∧
 (((decide (Go.bits BinOp.and IntKind.i64 a (15 : Int) ≤ z (0 + Int.toNat (IntKind.wrap IntKind.i64 (Int.tmod (IntKind.wrap IntKind.u64 q) (4 : Int))) * 1) 0 % (16 : Int))) = true → (((!decide (Go.bits BinOp.and IntKind.i64 k (15 : Int) ≤ IntKind.wrap IntKind.i64 (z (0 + Int.toNat (IntKind.wrap IntKind.i64 (Int.tmod (IntKind.wrap IntKind.u64 q) (4 : Int))) * 1) 0 % (16 : Int) - Go.bits BinOp.and IntKind.i64 a (15 : Int)))) = true → (decide ((0 : Int) ≤ IntKind.wrap IntKind.i64 (Int.tmod (IntKind.wrap IntKind.u64 q) (4 : Int))) && decide (IntKind.wrap IntKind.i64 (Int.tmod (IntKind.wrap IntKind.u64 q) (4 : Int)) < (4 : Int))) = true ∧
 (decide (0 + Int.toNat (IntKind.wrap IntKind.i64 (Int.tmod (IntKind.wrap IntKind.u64 q) (4 : Int))) * 1 < 4)) = true ∧
 (decide (z (0 + Int.toNat (IntKind.wrap IntKind.i64 (Int.tmod (IntKind.wrap IntKind.u64 q) (4 : Int))) * 1) 0 % (16 : Int) < IntKind.wrap IntKind.i64 (Go.bits BinOp.and IntKind.i64 a (15 : Int) + Go.bits BinOp.and IntKind.i64 k (15 : Int)))) = true ∧
 Bool.true = Bool.true) ∧ ((!decide (Go.bits BinOp.and IntKind.i64 k (15 : Int) ≤ IntKind.wrap IntKind.i64 (z (0 + Int.toNat (IntKind.wrap IntKind.i64 (Int.tmod (IntKind.wrap IntKind.u64 q) (4 : Int))) * 1) 0 % (16 : Int) - Go.bits BinOp.and IntKind.i64 a (15 : Int)))) = false → (decide ((0 : Int) ≤ IntKind.wrap IntKind.i64 (Int.tmod (IntKind.wrap IntKind.u64 q) (4 : Int))) && decide (IntKind.wrap IntKind.i64 (Int.tmod (IntKind.wrap IntKind.u64 q) (4 : Int)) < (4 : Int))) = true ∧
 (decide (0 + Int.toNat (IntKind.wrap IntKind.i64 (Int.tmod (IntKind.wrap IntKind.u64 q) (4 : Int))) * 1 < 4)) = true ∧
 (decide ((0 : Int) ≤ IntKind.wrap IntKind.i64 (Int.tmod (IntKind.wrap IntKind.u64 q) (4 : Int))) && decide (IntKind.wrap IntKind.i64 (Int.tmod (IntKind.wrap IntKind.u64 q) (4 : Int)) < (4 : Int))) = true ∧
 (decide (0 + Int.toNat (IntKind.wrap IntKind.i64 (Int.tmod (IntKind.wrap IntKind.u64 q) (4 : Int))) * 1 < 4)) = true ∧
 (decide (z (0 + Int.toNat (IntKind.wrap IntKind.i64 (Int.tmod (IntKind.wrap IntKind.u64 q) (4 : Int))) * 1) 0 % (16 : Int) < IntKind.wrap IntKind.i64 (Go.bits BinOp.and IntKind.i64 a (15 : Int) + Go.bits BinOp.and IntKind.i64 k (15 : Int)))) = false ∧
 (decide ((0 : Int) ≤ IntKind.wrap IntKind.i64 (Int.tmod (IntKind.wrap IntKind.u64 q) (4 : Int))) && decide (IntKind.wrap IntKind.i64 (Int.tmod (IntKind.wrap IntKind.u64 q) (4 : Int)) < (4 : Int))) = true ∧
 (decide (0 + Int.toNat (IntKind.wrap IntKind.i64 (Int.tmod (IntKind.wrap IntKind.u64 q) (4 : Int))) * 1 < 4)) = true ∧
 (!decide (IntKind.wrap IntKind.i64 (PS z (0 + Int.toNat (IntKind.wrap IntKind.i64 (Int.tmod (IntKind.wrap IntKind.u64 q) (4 : Int))) * 1) + Go.bits BinOp.and IntKind.i64 a (15 : Int)) = IntKind.wrap IntKind.i64 (PS z (0 + Int.toNat (IntKind.wrap IntKind.i64 (Int.tmod (IntKind.wrap IntKind.u64 q) (4 : Int))) * 1) + Go.bits BinOp.and IntKind.i64 a (15 : Int)))) = false ∧
 (((0 = 0 ∧ len = len ∧ cap = cap) ∧ q = q ∧ a = a ∧ k = k ∧ Bool.false = Bool.false ∧ (0 = 0 ∧ 4 = 4 ∧ 4 = 4) ∧ PS z 4 = PS z 4 ∧ IntKind.wrap IntKind.i64 (Int.tmod (IntKind.wrap IntKind.u64 q) (4 : Int)) = q % (18446744073709551616 : Int) % (4 : Int) ∧ Go.bits BinOp.and IntKind.i64 a (15 : Int) = a % (16 : Int) ∧ Go.bits BinOp.and IntKind.i64 k (15 : Int) = k % (16 : Int) ∧ IntKind.wrap IntKind.i64 (PS z (0 + Int.toNat (IntKind.wrap IntKind.i64 (Int.tmod (IntKind.wrap IntKind.u64 q) (4 : Int))) * 1) + Go.bits BinOp.and IntKind.i64 a (15 : Int)) = PS z (Int.toNat (q % (18446744073709551616 : Int) % (4 : Int))) + a % (16 : Int) ∧ (0 : Int) = (0 : Int) ∧ True) ∧ (4 = 4 ∧ (∀ (jj0 : Nat), (jj0 < 4 → True ∧ (0 : Int) = (0 : Int) ∧ (0 : Int) = (0 : Int) ∧ True ∧ PS z jj0 = PS z jj0 ∧ z jj0 0 % (16 : Int) = z jj0 0 % (16 : Int) ∧ True))) ∧ (len = len ∧ (∀ (jj0 : Nat), (jj0 < len → True ∧ z jj0 0 = z jj0 0 ∧ True))) ∧ True) ∧
 LO (Go.Proofs.Try.prog) (Go.AE.lp Go.Proofs.Try.prog 6 1) (TB z q a k len cap 4 0) (SB z len 4 161) (Go.AE.Out.x 2 (TB z q a k len cap 4 (Int.toNat (k % (16 : Int)))) (SB z len 4 161)) ∧
 (decide (PS z 4 = (0 : Int))) = false ∧
 (decide (IntKind.wrap IntKind.i64 (PS z 4 - (1 : Int)) < (0 : Int))) = false ∧
 (decide ((64 : Int) < IntKind.wrap IntKind.i64 (PS z 4 - (1 : Int)))) = false ∧
 (decide ((0 : Int) ≤ z 0 0 % (16 : Int))) = true ∧
 (decide ((0 : Int) ≤ IntKind.wrap IntKind.i64 (PS z 4 - (1 : Int)))) = true ∧
 (decide (PS z 0 ≤ IntKind.wrap IntKind.i64 (PS z 4 - (1 : Int)))) = true ∧
 (!decide (z 0 0 % (16 : Int) ≤ IntKind.wrap IntKind.i64 (IntKind.wrap IntKind.i64 (PS z 4 - (1 : Int)) - PS z 0))) = false ∧
 (decide ((0 : Int) ≤ PS z 1)) = true ∧
 (decide ((0 : Int) ≤ z 1 0 % (16 : Int))) = true ∧
 (decide ((0 : Int) ≤ IntKind.wrap IntKind.i64 (PS z 4 - (1 : Int)))) = true ∧
 (decide (PS z 1 ≤ IntKind.wrap IntKind.i64 (PS z 4 - (1 : Int)))) = true ∧
 (!decide (z 1 0 % (16 : Int) ≤ IntKind.wrap IntKind.i64 (IntKind.wrap IntKind.i64 (PS z 4 - (1 : Int)) - PS z 1))) = false ∧
 (decide (z 1 0 % (16 : Int) = (0 : Int))) = false ∧
 (decide (z 0 0 % (16 : Int) = (0 : Int))) = true ∧
 (decide ((0 : Int) ≤ PS z 2)) = true ∧
 (decide ((0 : Int) ≤ z 2 0 % (16 : Int))) = true ∧
 (decide ((0 : Int) ≤ IntKind.wrap IntKind.i64 (PS z 4 - (1 : Int)))) = true ∧
 (decide (PS z 2 ≤ IntKind.wrap IntKind.i64 (PS z 4 - (1 : Int)))) = true ∧
 (!decide (z 2 0 % (16 : Int) ≤ IntKind.wrap IntKind.i64 (IntKind.wrap IntKind.i64 (PS z 4 - (1 : Int)) - PS z 2))) = true ∧
 Bool.true = Bool.true))) ∧ ((decide (Go.bits BinOp.and IntKind.i64 a (15 : Int) ≤ z (0 + Int.toNat (IntKind.wrap IntKind.i64 (Int.tmod (IntKind.wrap IntKind.u64 q) (4 : Int))) * 1) 0 % (16 : Int))) = false → (decide ((0 : Int) ≤ IntKind.wrap IntKind.i64 (Int.tmod (IntKind.wrap IntKind.u64 q) (4 : Int))) && decide (IntKind.wrap IntKind.i64 (Int.tmod (IntKind.wrap IntKind.u64 q) (4 : Int)) < (4 : Int))) = true ∧
 (decide (0 + Int.toNat (IntKind.wrap IntKind.i64 (Int.tmod (IntKind.wrap IntKind.u64 q) (4 : Int))) * 1 < 4)) = true ∧
 (decide (z (0 + Int.toNat (IntKind.wrap IntKind.i64 (Int.tmod (IntKind.wrap IntKind.u64 q) (4 : Int))) * 1) 0 % (16 : Int) < IntKind.wrap IntKind.i64 (Go.bits BinOp.and IntKind.i64 a (15 : Int) + Go.bits BinOp.and IntKind.i64 k (15 : Int)))) = true ∧
 Bool.true = Bool.true))) ∧ ((decide (z 3 0 % (16 : Int) = (0 : Int))) = false → (decide (z 0 0 % (16 : Int) = (0 : Int))) = true ∧
 (decide (z 3 0 % (16 : Int) = (0 : Int))) = false ∧
 (decide (z 1 0 % (16 : Int) = (0 : Int))) = false ∧
 (decide (IntKind.wrap IntKind.i64 (PS z 3 + z 3 0 % (16 : Int)) ≤ PS z 1)) = false ∧
 (!decide (IntKind.wrap IntKind.i64 (PS z 1 + z 1 0 % (16 : Int)) ≤ PS z 3)) = false ∧
 (decide (z 3 0 % (16 : Int) = (0 : Int))) = false ∧
 (decide (z 2 0 % (16 : Int) = (0 : Int))) = false ∧
 (decide (IntKind.wrap IntKind.i64 (PS z 3 + z 3 0 % (16 : Int)) ≤ PS z 2)) = false ∧
 (!decide (IntKind.wrap IntKind.i64 (PS z 2 + z 2 0 % (16 : Int)) ≤ PS z 3)) = false ∧
 (decide ((0 : Int) ≤ z 0 0 % (16 : Int))) = true ∧
 (!decide (z 0 0 % (16 : Int) ≤ IntKind.wrap IntKind.i64 ((64 : Int) - PS z 0))) = false ∧
 (decide ((0 : Int) ≤ PS z 1)) = true ∧
 (decide ((0 : Int) ≤ z 1 0 % (16 : Int))) = true ∧
 (decide (PS z 1 ≤ (64 : Int))) = true ∧
 (!decide (z 1 0 % (16 : Int) ≤ IntKind.wrap IntKind.i64 ((64 : Int) - PS z 1))) = false ∧
 (decide (z 1 0 % (16 : Int) = (0 : Int))) = false ∧
 (decide (z 0 0 % (16 : Int) = (0 : Int))) = true ∧
 (decide ((0 : Int) ≤ PS z 2)) = true ∧
 (decide ((0 : Int) ≤ z 2 0 % (16 : Int))) = true ∧
 (decide (PS z 2 ≤ (64 : Int))) = true ∧
 (!decide (z 2 0 % (16 : Int) ≤ IntKind.wrap IntKind.i64 ((64 : Int) - PS z 2))) = false ∧
 (decide (z 2 0 % (16 : Int) = (0 : Int))) = false ∧
 (decide (z 0 0 % (16 : Int) = (0 : Int))) = true ∧
 (decide (z 2 0 % (16 : Int) = (0 : Int))) = false ∧
 (decide (z 1 0 % (16 : Int) = (0 : Int))) = false ∧
 (decide (IntKind.wrap IntKind.i64 (PS z 2 + z 2 0 % (16 : Int)) ≤ PS z 1)) = false ∧
 (!decide (IntKind.wrap IntKind.i64 (PS z 1 + z 1 0 % (16 : Int)) ≤ PS z 2)) = false ∧
 (decide ((0 : Int) ≤ PS z 3)) = true ∧
 (decide ((0 : Int) ≤ z 3 0 % (16 : Int))) = true ∧
 (decide (PS z 3 ≤ (64 : Int))) = true ∧
 (!decide (z 3 0 % (16 : Int) ≤ IntKind.wrap IntKind.i64 ((64 : Int) - PS z 3))) = false ∧
 (decide (z 3 0 % (16 : Int) = (0 : Int))) = false ∧
 (decide (z 0 0 % (16 : Int) = (0 : Int))) = true ∧
 (decide (z 3 0 % (16 : Int) = (0 : Int))) = false ∧
 (decide (z 1 0 % (16 : Int) = (0 : Int))) = false ∧
 (decide (IntKind.wrap IntKind.i64 (PS z 3 + z 3 0 % (16 : Int)) ≤ PS z 1)) = false ∧
 (!decide (IntKind.wrap IntKind.i64 (PS z 1 + z 1 0 % (16 : Int)) ≤ PS z 3)) = false ∧
 (decide (z 3 0 % (16 : Int) = (0 : Int))) = false ∧
 (decide (z 2 0 % (16 : Int) = (0 : Int))) = false ∧
 (decide (IntKind.wrap IntKind.i64 (PS z 3 + z 3 0 % (16 : Int)) ≤ PS z 2)) = false ∧
 (!decide (IntKind.wrap IntKind.i64 (PS z 2 + z 2 0 % (16 : Int)) ≤ PS z 3)) = false ∧
 (decide (IntKind.wrap IntKind.i64 (Int.tmod (IntKind.wrap IntKind.u64 q) (4 : Int)) < (0 : Int))) = false ∧
 (decide ((4 : Int) ≤ IntKind.wrap IntKind.i64 (Int.tmod (IntKind.wrap IntKind.u64 q) (4 : Int)))) = false ∧
 (decide ((0 : Int) ≤ IntKind.wrap IntKind.i64 (Int.tmod (IntKind.wrap IntKind.u64 q) (4 : Int))) && decide (IntKind.wrap IntKind.i64 (Int.tmod (IntKind.wrap IntKind.u64 q) (4 : Int)) < (4 : Int))) = true ∧
 (decide (0 + Int.toNat (IntKind.wrap IntKind.i64 (Int.tmod (IntKind.wrap IntKind.u64 q) (4 : Int))) * 1 < 4)) = true ∧
 (decide ((0 : Int) ≤ Go.bits BinOp.and IntKind.i64 a (15 : Int))) = true ∧
 (decide ((0 : Int) ≤ Go.bits BinOp.and IntKind.i64 k (15 : Int))) = true ∧
 (decide ((0 : Int) ≤ z (0 + Int.toNat (IntKind.wrap IntKind.i64 (Int.tmod (IntKind.wrap IntKind.u64 q) (4 : Int))) * 1) 0 % (16 : Int))) = true ∧
 (((decide (Go.bits BinOp.and IntKind.i64 a (15 : Int) ≤ z (0 + Int.toNat (IntKind.wrap IntKind.i64 (Int.tmod (IntKind.wrap IntKind.u64 q) (4 : Int))) * 1) 0 % (16 : Int))) = true → (((!decide (Go.bits BinOp.and IntKind.i64 k (15 : Int) ≤ IntKind.wrap IntKind.i64 (z (0 + Int.toNat (IntKind.wrap IntKind.i64 (Int.tmod (IntKind.wrap IntKind.u64 q) (4 : Int))) * 1) 0 % (16 : Int) - Go.bits BinOp.and IntKind.i64 a (15 : Int)))) = true → (decide ((0 : Int) ≤ IntKind.wrap IntKind.i64 (Int.tmod (IntKind.wrap IntKind.u64 q) (4 : Int))) && decide (IntKind.wrap IntKind.i64 (Int.tmod (IntKind.wrap IntKind.u64 q) (4 : Int)) < (4 : Int))) = true ∧
 (decide (0 + Int.toNat (IntKind.wrap IntKind.i64 (Int.tmod (IntKind.wrap IntKind.u64 q) (4 : Int))) * 1 < 4)) = true ∧
 (decide (z (0 + Int.toNat (IntKind.wrap IntKind.i64 (Int.tmod (IntKind.wrap IntKind.u64 q) (4 : Int))) * 1) 0 % (16 : Int) < IntKind.wrap IntKind.i64 (Go.bits BinOp.and IntKind.i64 a (15 : Int) + Go.bits BinOp.and IntKind.i64 k (15 : Int)))) = true ∧
 Bool.true = Bool.true) ∧ ((!decide (Go.bits BinOp.and IntKind.i64 k (15 : Int) ≤ IntKind.wrap IntKind.i64 (z (0 + Int.toNat (IntKind.wrap IntKind.i64 (Int.tmod (IntKind.wrap IntKind.u64 q) (4 : Int))) * 1) 0 % (16 : Int) - Go.bits BinOp.and IntKind.i64 a (15 : Int)))) = false → (decide ((0 : Int) ≤ IntKind.wrap IntKind.i64 (Int.tmod (IntKind.wrap IntKind.u64 q) (4 : Int))) && decide (IntKind.wrap IntKind.i64 (Int.tmod (IntKind.wrap IntKind.u64 q) (4 : Int)) < (4 : Int))) = true ∧
 (decide (0 + Int.toNat (IntKind.wrap IntKind.i64 (Int.tmod (IntKind.wrap IntKind.u64 q) (4 : Int))) * 1 < 4)) = true ∧
 (decide ((0 : Int) ≤ IntKind.wrap IntKind.i64 (Int.tmod (IntKind.wrap IntKind.u64 q) (4 : Int))) && decide (IntKind.wrap IntKind.i64 (Int.tmod (IntKind.wrap IntKind.u64 q) (4 : Int)) < (4 : Int))) = true ∧
 (decide (0 + Int.toNat (IntKind.wrap IntKind.i64 (Int.tmod (IntKind.wrap IntKind.u64 q) (4 : Int))) * 1 < 4)) = true ∧
 (decide (z (0 + Int.toNat (IntKind.wrap IntKind.i64 (Int.tmod (IntKind.wrap IntKind.u64 q) (4 : Int))) * 1) 0 % (16 : Int) < IntKind.wrap IntKind.i64 (Go.bits BinOp.and IntKind.i64 a (15 : Int) + Go.bits BinOp.and IntKind.i64 k (15 : Int)))) = false ∧
 (decide ((0 : Int) ≤ IntKind.wrap IntKind.i64 (Int.tmod (IntKind.wrap IntKind.u64 q) (4 : Int))) && decide (IntKind.wrap IntKind.i64 (Int.tmod (IntKind.wrap IntKind.u64 q) (4 : Int)) < (4 : Int))) = true ∧
 (decide (0 + Int.toNat (IntKind.wrap IntKind.i64 (Int.tmod (IntKind.wrap IntKind.u64 q) (4 : Int))) * 1 < 4)) = true ∧
 (!decide (IntKind.wrap IntKind.i64 (PS z (0 + Int.toNat (IntKind.wrap IntKind.i64 (Int.tmod (IntKind.wrap IntKind.u64 q) (4 : Int))) * 1) + Go.bits BinOp.and IntKind.i64 a (15 : Int)) = IntKind.wrap IntKind.i64 (PS z (0 + Int.toNat (IntKind.wrap IntKind.i64 (Int.tmod (IntKind.wrap IntKind.u64 q) (4 : Int))) * 1) + Go.bits BinOp.and IntKind.i64 a (15 : Int)))) = false ∧
 (((0 = 0 ∧ len = len ∧ cap = cap) ∧ q = q ∧ a = a ∧ k = k ∧ Bool.false = Bool.false ∧ (0 = 0 ∧ 4 = 4 ∧ 4 = 4) ∧ PS z 4 = PS z 4 ∧ IntKind.wrap IntKind.i64 (Int.tmod (IntKind.wrap IntKind.u64 q) (4 : Int)) = q % (18446744073709551616 : Int) % (4 : Int) ∧ Go.bits BinOp.and IntKind.i64 a (15 : Int) = a % (16 : Int) ∧ Go.bits BinOp.and IntKind.i64 k (15 : Int) = k % (16 : Int) ∧ IntKind.wrap IntKind.i64 (PS z (0 + Int.toNat (IntKind.wrap IntKind.i64 (Int.tmod (IntKind.wrap IntKind.u64 q) (4 : Int))) * 1) + Go.bits BinOp.and IntKind.i64 a (15 : Int)) = PS z (Int.toNat (q % (18446744073709551616 : Int) % (4 : Int))) + a % (16 : Int) ∧ (0 : Int) = (0 : Int) ∧ True) ∧ (4 = 4 ∧ (∀ (jj0 : Nat), (jj0 < 4 → True ∧ (0 : Int) = (0 : Int) ∧ (0 : Int) = (0 : Int) ∧ True ∧ PS z jj0 = PS z jj0 ∧ z jj0 0 % (16 : Int) = z jj0 0 % (16 : Int) ∧ True))) ∧ (len = len ∧ (∀ (jj0 : Nat), (jj0 < len → True ∧ z jj0 0 = z jj0 0 ∧ True))) ∧ True) ∧
 LO (Go.Proofs.Try.prog) (Go.AE.lp Go.Proofs.Try.prog 6 1) (TB z q a k len cap 4 0) (SB z len 4 161) (Go.AE.Out.x 2 (TB z q a k len cap 4 (Int.toNat (k % (16 : Int)))) (SB z len 4 161)) ∧
 (decide (PS z 4 = (0 : Int))) = false ∧
 (decide (IntKind.wrap IntKind.i64 (PS z 4 - (1 : Int)) < (0 : Int))) = false ∧
 (decide ((64 : Int) < IntKind.wrap IntKind.i64 (PS z 4 - (1 : Int)))) = false ∧
 (decide ((0 : Int) ≤ z 0 0 % (16 : Int))) = true ∧
 (decide ((0 : Int) ≤ IntKind.wrap IntKind.i64 (PS z 4 - (1 : Int)))) = true ∧
 (decide (PS z 0 ≤ IntKind.wrap IntKind.i64 (PS z 4 - (1 : Int)))) = true ∧
 (!decide (z 0 0 % (16 : Int) ≤ IntKind.wrap IntKind.i64 (IntKind.wrap IntKind.i64 (PS z 4 - (1 : Int)) - PS z 0))) = false ∧
 (decide ((0 : Int) ≤ PS z 1)) = true ∧
 (decide ((0 : Int) ≤ z 1 0 % (16 : Int))) = true ∧
 (decide ((0 : Int) ≤ IntKind.wrap IntKind.i64 (PS z 4 - (1 : Int)))) = true ∧
 (decide (PS z 1 ≤ IntKind.wrap IntKind.i64 (PS z 4 - (1 : Int)))) = true ∧
 (!decide (z 1 0 % (16 : Int) ≤ IntKind.wrap IntKind.i64 (IntKind.wrap IntKind.i64 (PS z 4 - (1 : Int)) - PS z 1))) = false ∧
 (decide (z 1 0 % (16 : Int) = (0 : Int))) = false ∧
 (decide (z 0 0 % (16 : Int) = (0 : Int))) = true ∧
 (decide ((0 : Int) ≤ PS z 2)) = true ∧
 (decide ((0 : Int) ≤ z 2 0 % (16 : Int))) = true ∧
 (decide ((0 : Int) ≤ IntKind.wrap IntKind.i64 (PS z 4 - (1 : Int)))) = true ∧
 (decide (PS z 2 ≤ IntKind.wrap IntKind.i64 (PS z 4 - (1 : Int)))) = true ∧
 (!decide (z 2 0 % (16 : Int) ≤ IntKind.wrap IntKind.i64 (IntKind.wrap IntKind.i64 (PS z 4 - (1 : Int)) - PS z 2))) = false ∧
 (decide (z 2 0 % (16 : Int) = (0 : Int))) = false ∧
 (decide (z 0 0 % (16 : Int) = (0 : Int))) = true ∧
 (decide (z 2 0 % (16 : Int) = (0 : Int))) = false ∧
 (decide (z 1 0 % (16 : Int) = (0 : Int))) = false ∧
 (decide (IntKind.wrap IntKind.i64 (PS z 2 + z 2 0 % (16 : Int)) ≤ PS z 1)) = false ∧
 (!decide (IntKind.wrap IntKind.i64 (PS z 1 + z 1 0 % (16 : Int)) ≤ PS z 2)) = false ∧
 (decide ((0 : Int) ≤ PS z 3)) = true ∧
 (decide ((0 : Int) ≤ z 3 0 % (16 : Int))) = true ∧
 (decide ((0 : Int) ≤ IntKind.wrap IntKind.i64 (PS z 4 - (1 : Int)))) = true ∧
 (decide (PS z 3 ≤ IntKind.wrap IntKind.i64 (PS z 4 - (1 : Int)))) = true ∧
 (!decide (z 3 0 % (16 : Int) ≤ IntKind.wrap IntKind.i64 (IntKind.wrap IntKind.i64 (PS z 4 - (1 : Int)) - PS z 3))) = true ∧
 Bool.true = Bool.true))) ∧ ((decide (Go.bits BinOp.and IntKind.i64 a (15 : Int) ≤ z (0 + Int.toNat (IntKind.wrap IntKind.i64 (Int.tmod (IntKind.wrap IntKind.u64 q) (4 : Int))) * 1) 0 % (16 : Int))) = false → (decide ((0 : Int) ≤ IntKind.wrap IntKind.i64 (Int.tmod (IntKind.wrap IntKind.u64 q) (4 : Int))) && decide (IntKind.wrap IntKind.i64 (Int.tmod (IntKind.wrap IntKind.u64 q) (4 : Int)) < (4 : Int))) = true ∧
 (decide (0 + Int.toNat (IntKind.wrap IntKind.i64 (Int.tmod (IntKind.wrap IntKind.u64 q) (4 : Int))) * 1 < 4)) = true ∧
 (decide (z (0 + Int.toNat (IntKind.wrap IntKind.i64 (Int.tmod (IntKind.wrap IntKind.u64 q) (4 : Int))) * 1) 0 % (16 : Int) < IntKind.wrap IntKind.i64 (Go.bits BinOp.and IntKind.i64 a (15 : Int) + Go.bits BinOp.and IntKind.i64 k (15 : Int)))) = true ∧
 Bool.true = Bool.true))))))) ∧ ((decide (z 0 0 % (16 : Int) = (0 : Int))) = false → (decide (IntKind.wrap IntKind.i64 (PS z 1 + z 1 0 % (16 : Int)) ≤ PS z 0)) = false ∧
 (!decide (IntKind.wrap IntKind.i64 (PS z 0 + z 0 0 % (16 : Int)) ≤ PS z 1)) = false ∧
 (decide ((0 : Int) ≤ PS z 2)) = true ∧
 (decide ((0 : Int) ≤ z 2 0 % (16 : Int))) = true ∧
 (decide ((0 : Int) ≤ PS z 4)) = true ∧
 (decide (PS z 2 ≤ PS z 4)) = true ∧
 (!decide (z 2 0 % (16 : Int) ≤ IntKind.wrap IntKind.i64 (PS z 4 - PS z 2))) = false ∧
 (((decide (z 2 0 % (16 : Int) = (0 : Int))) = true → (decide (z 2 0 % (16 : Int) = (0 : Int))) = true ∧
 (decide ((0 : Int) ≤ PS z 3)) = true ∧
 (decide ((0 : Int) ≤ z 3 0 % (16 : Int))) = true ∧
 (decide ((0 : Int) ≤ PS z 4)) = true ∧
 (decide (PS z 3 ≤ PS z 4)) = true ∧
 (!decide (z 3 0 % (16 : Int) ≤ IntKind.wrap IntKind.i64 (PS z 4 - PS z 3))) = false ∧
 (((decide (z 3 0 % (16 : Int) = (0 : Int))) = true → (decide (z 3 0 % (16 : Int) = (0 : Int))) = true ∧
 (decide (z 3 0 % (16 : Int) = (0 : Int))) = true ∧
 (decide ((0 : Int) ≤ z 0 0 % (16 : Int))) = true ∧
 (!decide (z 0 0 % (16 : Int) ≤ IntKind.wrap IntKind.i64 ((64 : Int) - PS z 0))) = false ∧
 (decide ((0 : Int) ≤ PS z 1)) = true ∧
 (decide ((0 : Int) ≤ z 1 0 % (16 : Int))) = true ∧
 (decide (PS z 1 ≤ (64 : Int))) = true ∧
 (!decide (z 1 0 % (16 : Int) ≤ IntKind.wrap IntKind.i64 ((64 : Int) - PS z 1))) = false ∧
 (decide (z 1 0 % (16 : Int) = (0 : Int))) = false ∧
 (decide (z 0 0 % (16 : Int) = (0 : Int))) = false ∧
 (decide (IntKind.wrap IntKind.i64 (PS z 1 + z 1 0 % (16 : Int)) ≤ PS z 0)) = false ∧
 (!decide (IntKind.wrap IntKind.i64 (PS z 0 + z 0 0 % (16 : Int)) ≤ PS z 1)) = false ∧
 (decide ((0 : Int) ≤ PS z 2)) = true ∧
 (decide ((0 : Int) ≤ z 2 0 % (16 : Int))) = true ∧
 (decide (PS z 2 ≤ (64 : Int))) = true ∧
 (!decide (z 2 0 % (16 : Int) ≤ IntKind.wrap IntKind.i64 ((64 : Int) - PS z 2))) = false ∧
 (decide (z 2 0 % (16 : Int) = (0 : Int))) = true ∧
 (decide (z 2 0 % (16 : Int) = (0 : Int))) = true ∧
 (decide ((0 : Int) ≤ PS z 3)) = true ∧
 (decide ((0 : Int) ≤ z 3 0 % (16 : Int))) = true ∧
 (decide (PS z 3 ≤ (64 : Int))) = true ∧
 (!decide (z 3 0 % (16 : Int) ≤ IntKind.wrap IntKind.i64 ((64 : Int) - PS z 3))) = false ∧
 (decide (z 3 0 % (16 : Int) = (0 : Int))) = true ∧
 (decide (z 3 0 % (16 : Int) = (0 : Int))) = true ∧
 (decide (z 3 0 % (16 : Int) = (0 : Int))) = true ∧
 (decide (IntKind.wrap IntKind.i64 (Int.tmod (IntKind.wrap IntKind.u64 q) (4 : Int)) < (0 : Int))) = false ∧
 (decide ((4 : Int) ≤ IntKind.wrap IntKind.i64 (Int.tmod (IntKind.wrap IntKind.u64 q) (4 : Int)))) = false ∧
 (decide ((0 : Int) ≤ IntKind.wrap IntKind.i64 (Int.tmod (IntKind.wrap IntKind.u64 q) (4 : Int))) && decide (IntKind.wrap IntKind.i64 (Int.tmod (IntKind.wrap IntKind.u64 q) (4 : Int)) < (4 : Int))) = true ∧
 (decide (0 + Int.toNat (IntKind.wrap IntKind.i64 (Int.tmod (IntKind.wrap IntKind.u64 q) (4 : Int))) * 1 < 4)) = true ∧
 (decide ((0 : Int) ≤ Go.bits BinOp.and IntKind.i64 a (15 : Int))) = true ∧
 (decide ((0 : Int) ≤ Go.bits BinOp.and IntKind.i64 k (15 : Int))) = true ∧
 (decide ((0 : Int) ≤ z (0 + Int.toNat (IntKind.wrap IntKind.i64 (Int.tmod (IntKind.wrap IntKind.u64 q) (4 : Int))) * 1) 0 % (16 : Int))) = true ∧
 (((decide (Go.bits BinOp.and IntKind.i64 a (15 : Int) ≤ z (0 + Int.toNat (IntKind.wrap IntKind.i64 (Int.tmod (IntKind.wrap IntKind.u64 q) (4 : Int))) * 1) 0 % (16 : Int))) = true → (((!decide (Go.bits BinOp.and IntKind.i64 k (15 : Int) ≤ IntKind.wrap IntKind.i64 (z (0 + Int.toNat (IntKind.wrap IntKind.i64 (Int.tmod (IntKind.wrap IntKind.u64 q) (4 : Int))) * 1) 0 % (16 : Int) - Go.bits BinOp.and IntKind.i64 a (15 : Int)))) = true → (decide ((0 : Int) ≤ IntKind.wrap IntKind.i64 (Int.tmod (IntKind.wrap IntKind.u64 q) (4 : Int))) && decide (IntKind.wrap IntKind.i64 (Int.tmod (IntKind.wrap IntKind.u64 q) (4 : Int)) < (4 : Int))) = true ∧
 (decide (0 + Int.toNat (IntKind.wrap IntKind.i64 (Int.tmod (IntKind.wrap IntKind.u64 q) (4 : Int))) * 1 < 4)) = true ∧
 (decide (z (0 + Int.toNat (IntKind.wrap IntKind.i64 (Int.tmod (IntKind.wrap IntKind.u64 q) (4 : Int))) * 1) 0 % (16 : Int) < IntKind.wrap IntKind.i64 (Go.bits BinOp.and IntKind.i64 a (15 : Int) + Go.bits BinOp.and IntKind.i64 k (15 : Int)))) = true ∧
 Bool.true = Bool.true) ∧ ((!decide (Go.bits BinOp.and IntKind.i64 k (15 : Int) ≤ IntKind.wrap IntKind.i64 (z (0 + Int.toNat (IntKind.wrap IntKind.i64 (Int.tmod (IntKind.wrap IntKind.u64 q) (4 : Int))) * 1) 0 % (16 : Int) - Go.bits BinOp.and IntKind.i64 a (15 : Int)))) = false → (decide ((0 : Int) ≤ IntKind.wrap IntKind.i64 (Int.tmod (IntKind.wrap IntKind.u64 q) (4 : Int))) && decide (IntKind.wrap IntKind.i64 (Int.tmod (IntKind.wrap IntKind.u64 q) (4 : Int)) < (4 : Int))) = true ∧
 (decide (0 + Int.toNat (IntKind.wrap IntKind.i64 (Int.tmod (IntKind.wrap IntKind.u64 q) (4 : Int))) * 1 < 4)) = true ∧
 (decide ((0 : Int) ≤ IntKind.wrap IntKind.i64 (Int.tmod (IntKind.wrap IntKind.u64 q) (4 : Int))) && decide (IntKind.wrap IntKind.i64 (Int.tmod (IntKind.wrap IntKind.u64 q) (4 : Int)) < (4 : Int))) = true ∧
 (decide (0 + Int.toNat (IntKind.wrap IntKind.i64 (Int.tmod (IntKind.wrap IntKind.u64 q) (4 : Int))) * 1 < 4)) = true ∧
 (decide (z (0 + Int.toNat (IntKind.wrap IntKind.i64 (Int.tmod (IntKind.wrap IntKind.u64 q) (4 : Int))) * 1) 0 % (16 : Int) < IntKind.wrap IntKind.i64 (Go.bits BinOp.and IntKind.i64 a (15 : Int) + Go.bits BinOp.and IntKind.i64 k (15 : Int)))) = false ∧
 (decide ((0 : Int) ≤ IntKind.wrap IntKind.i64 (Int.tmod (IntKind.wrap IntKind.u64 q) (4 : Int))) && decide (IntKind.wrap IntKind.i64 (Int.tmod (IntKind.wrap IntKind.u64 q) (4 : Int)) < (4 : Int))) = true ∧
 (decide (0 + Int.toNat (IntKind.wrap IntKind.i64 (Int.tmod (IntKind.wrap IntKind.u64 q) (4 : Int))) * 1 < 4)) = true ∧
 (!decide (IntKind.wrap IntKind.i64 (PS z (0 + Int.toNat (IntKind.wrap IntKind.i64 (Int.tmod (IntKind.wrap IntKind.u64 q) (4 : Int))) * 1) + Go.bits BinOp.and IntKind.i64 a (15 : Int)) = IntKind.wrap IntKind.i64 (PS z (0 + Int.toNat (IntKind.wrap IntKind.i64 (Int.tmod (IntKind.wrap IntKind.u64 q) (4 : Int))) * 1) + Go.bits BinOp.and IntKind.i64 a (15 : Int)))) = false ∧
 (((0 = 0 ∧ len = len ∧ cap = cap) ∧ q = q ∧ a = a ∧ k = k ∧ Bool.false = Bool.false ∧ (0 = 0 ∧ 4 = 4 ∧ 4 = 4) ∧ PS z 4 = PS z 4 ∧ IntKind.wrap IntKind.i64 (Int.tmod (IntKind.wrap IntKind.u64 q) (4 : Int)) = q % (18446744073709551616 : Int) % (4 : Int) ∧ Go.bits BinOp.and IntKind.i64 a (15 : Int) = a % (16 : Int) ∧ Go.bits BinOp.and IntKind.i64 k (15 : Int) = k % (16 : Int) ∧ IntKind.wrap IntKind.i64 (PS z (0 + Int.toNat (IntKind.wrap IntKind.i64 (Int.tmod (IntKind.wrap IntKind.u64 q) (4 : Int))) * 1) + Go.bits BinOp.and IntKind.i64 a (15 : Int)) = PS z (Int.toNat (q % (18446744073709551616 : Int) % (4 : Int))) + a % (16 : Int) ∧ (0 : Int) = (0 : Int) ∧ True) ∧ (4 = 4 ∧ (∀ (jj0 : Nat), (jj0 < 4 → True ∧ (0 : Int) = (0 : Int) ∧ (0 : Int) = (0 : Int) ∧ True ∧ PS z jj0 = PS z jj0 ∧ z jj0 0 % (16 : Int) = z jj0 0 % (16 : Int) ∧ True))) ∧ (len = len ∧ (∀ (jj0 : Nat), (jj0 < len → True ∧ z jj0 0 = z jj0 0 ∧ True))) ∧ True) ∧
 LO (Go.Proofs.Try.prog) (Go.AE.lp Go.Proofs.Try.prog 6 1) (TB z q a k len cap 4 0) (SB z len 4 161) (Go.AE.Out.x 2 (TB z q a k len cap 4 (Int.toNat (k % (16 : Int)))) (SB z len 4 161)) ∧
 (decide (PS z 4 = (0 : Int))) = false ∧
 (decide (IntKind.wrap IntKind.i64 (PS z 4 - (1 : Int)) < (0 : Int))) = false ∧
 (decide ((64 : Int) < IntKind.wrap IntKind.i64 (PS z 4 - (1 : Int)))) = false ∧
 (decide ((0 : Int) ≤ z 0 0 % (16 : Int))) = true ∧
 (decide ((0 : Int) ≤ IntKind.wrap IntKind.i64 (PS z 4 - (1 : Int)))) = true ∧
 (decide (PS z 0 ≤ IntKind.wrap IntKind.i64 (PS z 4 - (1 : Int)))) = true ∧
 (!decide (z 0 0 % (16 : Int) ≤ IntKind.wrap IntKind.i64 (IntKind.wrap IntKind.i64 (PS z 4 - (1 : Int)) - PS z 0))) = false ∧
 (decide ((0 : Int) ≤ PS z 1)) = true ∧
 (decide ((0 : Int) ≤ z 1 0 % (16 : Int))) = true ∧
 (decide ((0 : Int) ≤ IntKind.wrap IntKind.i64 (PS z 4 - (1 : Int)))) = true ∧
 (decide (PS z 1 ≤ IntKind.wrap IntKind.i64 (PS z 4 - (1 : Int)))) = true ∧
 (!decide (z 1 0 % (16 : Int) ≤ IntKind.wrap IntKind.i64 (IntKind.wrap IntKind.i64 (PS z 4 - (1 : Int)) - PS z 1))) = true ∧
 Bool.true = Bool.true))) ∧ ((decide (Go.bits BinOp.and IntKind.i64 a (15 : Int) ≤ z (0 + Int.toNat (IntKind.wrap IntKind.i64 (Int.tmod (IntKind.wrap IntKind.u64 q) (4 : Int))) * 1) 0 % (16 : Int))) = false → (decide ((0 : Int) ≤ IntKind.wrap IntKind.i64 (Int.tmod (IntKind.wrap IntKind.u64 q) (4 : Int))) && decide (IntKind.wrap IntKind.i64 (Int.tmod (IntKind.wrap IntKind.u64 q) (4 : Int)) < (4 : Int))) = true ∧
 (decide (0 + Int.toNat (IntKind.wrap IntKind.i64 (Int.tmod (IntKind.wrap IntKind.u64 q) (4 : Int))) * 1 < 4)) = true ∧
 (decide (z (0 + Int.toNat (IntKind.wrap IntKind.i64 (Int.tmod (IntKind.wrap IntKind.u64 q) (4 : Int))) * 1) 0 % (16 : Int) < IntKind.wrap IntKind.i64 (Go.bits BinOp.and IntKind.i64 a (15 : Int) + Go.bits BinOp.and IntKind.i64 k (15 : Int)))) = true ∧
 Bool.true = Bool.true))) ∧ ((decide (z 3 0 % (16 : Int) = (0 : Int))) = false → (decide (z 0 0 % (16 : Int) = (0 : Int))) = false ∧
 (decide (IntKind.wrap IntKind.i64 (PS z 3 + z 3 0 % (16 : Int)) ≤ PS z 0)) = false ∧
 (!decide (IntKind.wrap IntKind.i64 (PS z 0 + z 0 0 % (16 : Int)) ≤ PS z 3)) = false ∧
 (decide (z 3 0 % (16 : Int) = (0 : Int))) = false ∧
 (decide (z 1 0 % (16 : Int) = (0 : Int))) = false ∧
 (decide (IntKind.wrap IntKind.i64 (PS z 3 + z 3 0 % (16 : Int)) ≤ PS z 1)) = false ∧
 (!decide (IntKind.wrap IntKind.i64 (PS z 1 + z 1 0 % (16 : Int)) ≤ PS z 3)) = false ∧
 (decide (z 3 0 % (16 : Int) = (0 : Int))) = false ∧
 (decide (z 2 0 % (16 : Int) = (0 : Int))) = true ∧
 (decide ((0 : Int) ≤ z 0 0 % (16 : Int))) = true ∧
 (!decide (z 0 0 % (16 : Int) ≤ IntKind.wrap IntKind.i64 ((64 : Int) - PS z 0))) = false ∧
 (decide ((0 : Int) ≤ PS z 1)) = true ∧
 (decide ((0 : Int) ≤ z 1 0 % (16 : Int))) = true ∧
 (decide (PS z 1 ≤ (64 : Int))) = true ∧
 (!decide (z 1 0 % (16 : Int) ≤ IntKind.wrap IntKind.i64 ((64 : Int) - PS z 1))) = false ∧
 (decide (z 1 0 % (16 : Int) = (0 : Int))) = false ∧
 (decide (z 0 0 % (16 : Int) = (0 : Int))) = false ∧
 (decide (IntKind.wrap IntKind.i64 (PS z 1 + z 1 0 % (16 : Int)) ≤ PS z 0)) = false ∧
 (!decide (IntKind.wrap IntKind.i64 (PS z 0 + z 0 0 % (16 : Int)) ≤ PS z 1)) = false ∧
 (decide ((0 : Int) ≤ PS z 2)) = true ∧
 (decide ((0 : Int) ≤ z 2 0 % (16 : Int))) = true ∧
 (decide (PS z 2 ≤ (64 : Int))) = true ∧
 (!decide (z 2 0 % (16 : Int) ≤ IntKind.wrap IntKind.i64 ((64 : Int) - PS z 2))) = false ∧
 (decide (z 2 0 % (16 : Int) = (0 : Int))) = true ∧
 (decide (z 2 0 % (16 : Int) = (0 : Int))) = true ∧
 (decide ((0 : Int) ≤ PS z 3)) = true ∧
 (decide ((0 : Int) ≤ z 3 0 % (16 : Int))) = true ∧
 (decide (PS z 3 ≤ (64 : Int))) = true ∧
 (!decide (z 3 0 % (16 : Int) ≤ IntKind.wrap IntKind.i64 ((64 : Int) - PS z 3))) = false ∧
 (decide (z 3 0 % (16 : Int) = (0 : Int))) = false ∧
 (decide (z 0 0 % (16 : Int) = (0 : Int))) = false ∧
 (decide (IntKind.wrap IntKind.i64 (PS z 3 + z 3 0 % (16 : Int)) ≤ PS z 0)) = false ∧
 (!decide (IntKind.wrap IntKind.i64 (PS z 0 + z 0 0 % (16 : Int)) ≤ PS z 3)) = false ∧
 (decide (z 3 0 % (16 : Int) = (0 : Int))) = false ∧
 (decide (z 1 0 % (16 : Int) = (0 : Int))) = false ∧
 (decide (IntKind.wrap IntKind.i64 (PS z 3 + z 3 0 % (16 : Int)) ≤ PS z 1)) = false ∧
 (!decide (IntKind.wrap IntKind.i64 (PS z 1 + z 1 0 % (16 : Int)) ≤ PS z 3)) = false ∧
 (decide (z 3 0 % (16 : Int) = (0 : Int))) = false ∧
 (decide (z 2 0 % (16 : Int) = (0 : Int))) = true ∧
 (decide (IntKind.wrap IntKind.i64 (Int.tmod (IntKind.wrap IntKind.u64 q) (4 : Int)) < (0 : Int))) = false ∧
 (decide ((4 : Int) ≤ IntKind.wrap IntKind.i64 (Int.tmod (IntKind.wrap IntKind.u64 q) (4 : Int)))) = false ∧
 (decide ((0 : Int) ≤ IntKind.wrap IntKind.i64 (Int.tmod (IntKind.wrap IntKind.u64 q) (4 : Int))) && decide (IntKind.wrap IntKind.i64 (Int.tmod (IntKind.wrap IntKind.u64 q) (4 : Int)) < (4 : Int))) = true ∧
 (decide (0 + Int.toNat (IntKind.wrap IntKind.i64 (Int.tmod (IntKind.wrap IntKind.u64 q) (4 : Int))) * 1 < 4)) = true ∧
 (decide ((0 : Int) ≤ Go.bits BinOp.and IntKind.i64 a (15 : Int))) = true ∧
 (decide ((0 : Int) ≤ Go.bits BinOp.and IntKind.i64 k (15 : Int))) = true ∧
 (decide ((0 : Int) ≤ z (0 + Int.toNat (IntKind.wrap IntKind.i64 (Int.tmod (IntKind.wrap IntKind.u64 q) (4 : Int))) * 1) 0 % (16 : Int))) = true ∧
 (((decide (Go.bits BinOp.and IntKind.i64 a (15 : Int) ≤ z (0 + Int.toNat (IntKind.wrap IntKind.i64 (Int.tmod (IntKind.wrap IntKind.u64 q) (4 : Int))) * 1) 0 % (16 : Int))) = true → (((!decide (Go.bits BinOp.and IntKind.i64 k (15 : Int) ≤ IntKind.wrap IntKind.i64 (z (0 + Int.toNat (IntKind.wrap IntKind.i64 (Int.tmod (IntKind.wrap IntKind.u64 q) (4 : Int))) * 1) 0 % (16 : Int) - Go.bits BinOp.and IntKind.i64 a (15 : Int)))) = true → (decide ((0 : Int) ≤ IntKind.wrap IntKind.i64 (Int.tmod (IntKind.wrap IntKind.u64 q) (4 : Int))) && decide (IntKind.wrap IntKind.i64 (Int.tmod (IntKind.wrap IntKind.u64 q) (4 : Int)) < (4 : Int))) = true ∧
 (decide (0 + Int.toNat (IntKind.wrap IntKind.i64 (Int.tmod (IntKind.wrap IntKind.u64 q) (4 : Int))) * 1 < 4)) = true ∧
 (decide (z (0 + Int.toNat (IntKind.wrap IntKind.i64 (Int.tmod (IntKind.wrap IntKind.u64 q) (4 : Int))) * 1) 0 % (16 : Int) < IntKind.wrap IntKind.i64 (Go.bits BinOp.and IntKind.i64 a (15 : Int) + Go.bits BinOp.and IntKind.i64 k (15 : Int)))) = true ∧
 Bool.true = Bool.true) ∧ ((!decide (Go.bits BinOp.and IntKind.i64 k (15 : Int) ≤ IntKind.wrap IntKind.i64 (z (0 + Int.toNat (IntKind.wrap IntKind.i64 (Int.tmod (IntKind.wrap IntKind.u64 q) (4 : Int))) * 1) 0 % (16 : Int) - Go.bits BinOp.and IntKind.i64 a (15 : Int)))) = false → (decide ((0 : Int) ≤ IntKind.wrap IntKind.i64 (Int.tmod (IntKind.wrap IntKind.u64 q) (4 : Int))) && decide (IntKind.wrap IntKind.i64 (Int.tmod (IntKind.wrap IntKind.u64 q) (4 : Int)) < (4 : Int))) = true ∧
 (decide (0 + Int.toNat (IntKind.wrap IntKind.i64 (Int.tmod (IntKind.wrap IntKind.u64 q) (4 : Int))) * 1 < 4)) = true ∧
 (decide ((0 : Int) ≤ IntKind.wrap IntKind.i64 (Int.tmod (IntKind.wrap IntKind.u64 q) (4 : Int))) && decide (IntKind.wrap IntKind.i64 (Int.tmod (IntKind.wrap IntKind.u64 q) (4 : Int)) < (4 : Int))) = true ∧
 (decide (0 + Int.toNat (IntKind.wrap IntKind.i64 (Int.tmod (IntKind.wrap IntKind.u64 q) (4 : Int))) * 1 < 4)) = true ∧
 (decide (z (0 + Int.toNat (IntKind.wrap IntKind.i64 (Int.tmod (IntKind.wrap IntKind.u64 q) (4 : Int))) * 1) 0 % (16 : Int) < IntKind.wrap IntKind.i64 (Go.bits BinOp.and IntKind.i64 a (15 : Int) + Go.bits BinOp.and IntKind.i64 k (15 : Int)))) = false ∧
 (decide ((0 : Int) ≤ IntKind.wrap IntKind.i64 (Int.tmod (IntKind.wrap IntKind.u64 q) (4 : Int))) && decide (IntKind.wrap IntKind.i64 (Int.tmod (IntKind.wrap IntKind.u64 q) (4 : Int)) < (4 : Int))) = true ∧
 (decide (0 + Int.toNat (IntKind.wrap IntKind.i64 (Int.tmod (IntKind.wrap IntKind.u64 q) (4 : Int))) * 1 < 4)) = true ∧
 (!decide (IntKind.wrap IntKind.i64 (PS z (0 + Int.toNat (IntKind.wrap IntKind.i64 (Int.tmod (IntKind.wrap IntKind.u64 q) (4 : Int))) * 1) + Go.bits BinOp.and IntKind.i64 a (15 : Int)) = IntKind.wrap IntKind.i64 (PS z (0 + Int.toNat (IntKind.wrap IntKind.i64 (Int.tmod (IntKind.wrap IntKind.u64 q) (4 : Int))) * 1) + Go.bits BinOp.and IntKind.i64 a (15 : Int)))) = false ∧
 (((0 = 0 ∧ len = len ∧ cap = cap) ∧ q = q ∧ a = a ∧ k = k ∧ Bool.false = Bool.false ∧ (0 = 0 ∧ 4 = 4 ∧ 4 = 4) ∧ PS z 4 = PS z 4 ∧ IntKind.wrap IntKind.i64 (Int.tmod (IntKind.wrap IntKind.u64 q) (4 : Int)) = q % (18446744073709551616 : Int) % (4 : Int) ∧ Go.bits BinOp.and IntKind.i64 a (15 : Int) = a % (16 : Int) ∧ Go.bits BinOp.and IntKind.i64 k (15 : Int) = k % (16 : Int) ∧ IntKind.wrap IntKind.i64 (PS z (0 + Int.toNat (IntKind.wrap IntKind.i64 (Int.tmod (IntKind.wrap IntKind.u64 q) (4 : Int))) * 1) + Go.bits BinOp.and IntKind.i64 a (15 : Int)) = PS z (Int.toNat (q % (18446744073709551616 : Int) % (4 : Int))) + a % (16 : Int) ∧ (0 : Int) = (0 : Int) ∧ True) ∧ (4 = 4 ∧ (∀ (jj0 : Nat), (jj0 < 4 → True ∧ (0 : Int) = (0 : Int) ∧ (0 : Int) = (0 : Int) ∧ True ∧ PS z jj0 = PS z jj0 ∧ z jj0 0 % (16 : Int) = z jj0 0 % (16 : Int) ∧ True))) ∧ (len = len ∧ (∀ (jj0 : Nat), (jj0 < len → True ∧ z jj0 0 = z jj0 0 ∧ True))) ∧ True) ∧
 LO (Go.Proofs.Try.prog) (Go.AE.lp Go.Proofs.Try.prog 6 1) (TB z q a k len cap 4 0) (SB z len 4 161) (Go.AE.Out.x 2 (TB z q a k len cap 4 (Int.toNat (k % (16 : Int)))) (SB z len 4 161)) ∧
 (decide (PS z 4 = (0 : Int))) = false ∧
 (decide (IntKind.wrap IntKind.i64 (PS z 4 - (1 : Int)) < (0 : Int))) = false ∧
 (decide ((64 : Int) < IntKind.wrap IntKind.i64 (PS z 4 - (1 : Int)))) = false ∧
 (decide ((0 : Int) ≤ z 0 0 % (16 : Int))) = true ∧
 (decide ((0 : Int) ≤ IntKind.wrap IntKind.i64 (PS z 4 - (1 : Int)))) = true ∧
 (decide (PS z 0 ≤ IntKind.wrap IntKind.i64 (PS z 4 - (1 : Int)))) = true ∧
 (!decide (z 0 0 % (16 : Int) ≤ IntKind.wrap IntKind.i64 (IntKind.wrap IntKind.i64 (PS z 4 - (1 : Int)) - PS z 0))) = false ∧
 (decide ((0 : Int) ≤ PS z 1)) = true ∧
 (decide ((0 : Int) ≤ z 1 0 % (16 : Int))) = true ∧
 (decide ((0 : Int) ≤ IntKind.wrap IntKind.i64 (PS z 4 - (1 : Int)))) = true ∧
 (decide (PS z 1 ≤ IntKind.wrap IntKind.i64 (PS z 4 - (1 : Int)))) = true ∧
 (!decide (z 1 0 % (16 : Int) ≤ IntKind.wrap IntKind.i64 (IntKind.wrap IntKind.i64 (PS z 4 - (1 : Int)) - PS z 1))) = false ∧
 (decide (z 1 0 % (16 : Int) = (0 : Int))) = false ∧
 (decide (z 0 0 % (16 : Int) = (0 : Int))) = false ∧
 (decide (IntKind.wrap IntKind.i64 (PS z 1 + z 1 0 % (16 : Int)) ≤ PS z 0)) = false ∧
 (!decide (IntKind.wrap IntKind.i64 (PS z 0 + z 0 0 % (16 : Int)) ≤ PS z 1)) = false ∧
 (decide ((0 : Int) ≤ PS z 2)) = true ∧
 (decide ((0 : Int) ≤ z 2 0 % (16 : Int))) = true ∧
 (decide ((0 : Int) ≤ IntKind.wrap IntKind.i64 (PS z 4 - (1 : Int)))) = true ∧
 (decide (PS z 2 ≤ IntKind.wrap IntKind.i64 (PS z 4 - (1 : Int)))) = true ∧
 (!decide (z 2 0 % (16 : Int) ≤ IntKind.wrap IntKind.i64 (IntKind.wrap IntKind.i64 (PS z 4 - (1 : Int)) - PS z 2))) = false ∧
 (decide (z 2 0 % (16 : Int) = (0 : Int))) = true ∧
 (decide (z 2 0 % (16 : Int) = (0 : Int))) = true ∧
 (decide ((0 : Int) ≤ PS z 3)) = true ∧
 (decide ((0 : Int) ≤ z 3 0 % (16 : Int))) = true ∧
 (decide ((0 : Int) ≤ IntKind.wrap IntKind.i64 (PS z 4 - (1 : Int)))) = true ∧
 (decide (PS z 3 ≤ IntKind.wrap IntKind.i64 (PS z 4 - (1 : Int)))) = true ∧
 (!decide (z 3 0 % (16 : Int) ≤ IntKind.wrap IntKind.i64 (IntKind.wrap IntKind.i64 (PS z 4 - (1 : Int)) - PS z 3))) = true ∧
 Bool.true = Bool.true))) ∧ ((decide (Go.bits BinOp.and IntKind.i64 a (15 : Int) ≤ z (0 + Int.toNat (IntKind.wrap IntKind.i64 (Int.tmod (IntKind.wrap IntKind.u64 q) (4 : Int))) * 1) 0 % (16 : Int))) = false → (decide ((0 : Int) ≤ IntKind.wrap IntKind.i64 (Int.tmod (IntKind.wrap IntKind.u64 q) (4 : Int))) && decide (IntKind.wrap IntKind.i64 (Int.tmod (IntKind.wrap IntKind.u64 q) (4 : Int)) < (4 : Int))) = true ∧
 (decide (0 + Int.toNat (IntKind.wrap IntKind.i64 (Int.tmod (IntKind.wrap IntKind.u64 q) (4 : Int))) * 1 < 4)) = true ∧
 (decide (z (0 + Int.toNat (IntKind.wrap IntKind.i64 (Int.tmod (IntKind.wrap IntKind.u64 q) (4 : Int))) * 1) 0 % (16 : Int) < IntKind.wrap IntKind.i64 (Go.bits BinOp.and IntKind.i64 a (15 : Int) + Go.bits BinOp.and IntKind.i64 k (15 : Int)))) = true ∧
 Bool.true = Bool.true))))) ∧ ((decide (z 2 0 % (16 : Int) = (0 : Int))) = false → (decide (z 0 0 % (16 : Int) = (0 : Int))) = false ∧
 (decide (IntKind.wrap IntKind.i64 (PS z 2 + z 2 0 % (16 : Int)) ≤ PS z 0)) = false ∧
 (!decide (IntKind.wrap IntKind.i64 (PS z 0 + z 0 0 % (16 : Int)) ≤ PS z 2)) = false ∧
 (decide (z 2 0 % (16 : Int) = (0 : Int))) = false ∧
 (decide (z 1 0 % (16 : Int) = (0 : Int))) = false ∧
 (decide (IntKind.wrap IntKind.i64 (PS z 2 + z 2 0 % (16 : Int)) ≤ PS z 1)) = false ∧
 (!decide (IntKind.wrap IntKind.i64 (PS z 1 + z 1 0 % (16 : Int)) ≤ PS z 2)) = false ∧
 (decide ((0 : Int) ≤ PS z 3)) = true ∧
 (decide ((0 : Int) ≤ z 3 0 % (16 : Int))) = true ∧
 (decide ((0 : Int) ≤ PS z 4)) = true ∧
 (decide (PS z 3 ≤ PS z 4)) = true ∧
 (!decide (z 3 0 % (16 : Int) ≤ IntKind.wrap IntKind.i64 (PS z 4 - PS z 3))) = false ∧
 (((decide (z 3 0 % (16 : Int) = (0 : Int))) = true → (decide (z 3 0 % (16 : Int) = (0 : Int))) = true ∧
 (decide (z 3 0 % (16 : Int) = (0 : Int))) = true ∧
 (decide ((0 : Int) ≤ z 0 0 % (16 : Int))) = true ∧
 (!decide (z 0 0 % (16 : Int) ≤ IntKind.wrap IntKind.i64 ((64 : Int) - PS z 0))) = false ∧
 (decide ((0 : Int) ≤ PS z 1)) = true ∧
 (decide ((0 : Int) ≤ z 1 0 % (16 : Int))) = true ∧
 (decide (PS z 1 ≤ (64 : Int))) = true ∧
 (!decide (z 1 0 % (16 : Int) ≤ IntKind.wrap IntKind.i64 ((64 : Int) - PS z 1))) = false ∧
 (decide (z 1 0 % (16 : Int) = (0 : Int))) = false ∧
 (decide (z 0 0 % (16 : Int) = (0 : Int))) = false ∧
 (decide (IntKind.wrap IntKind.i64 (PS z 1 + z 1 0 % (16 : Int)) ≤ PS z 0)) = false ∧
 (!decide (IntKind.wrap IntKind.i64 (PS z 0 + z 0 0 % (16 : Int)) ≤ PS z 1)) = false ∧
 (decide ((0 : Int) ≤ PS z 2)) = true ∧
 (decide ((0 : Int) ≤ z 2 0 % (16 : Int))) = true ∧
 (decide (PS z 2 ≤ (64 : Int))) = true ∧
 (!decide (z 2 0 % (16 : Int) ≤ IntKind.wrap IntKind.i64 ((64 : Int) - PS z 2))) = false ∧
 (decide (z 2 0 % (16 : Int) = (0 : Int))) = false ∧
 (decide (z 0 0 % (16 : Int) = (0 : Int))) = false ∧
 (decide (IntKind.wrap IntKind.i64 (PS z 2 + z 2 0 % (16 : Int)) ≤ PS z 0)) = false ∧
 (!decide (IntKind.wrap IntKind.i64 (PS z 0 + z 0 0 % (16 : Int)) ≤ PS z 2)) = false ∧
 (decide (z 2 0 % (16 : Int) = (0 : Int))) = false ∧
 (decide (z 1 0 % (16 : Int) = (0 : Int))) = false ∧
 (decide (IntKind.wrap IntKind.i64 (PS z 2 + z 2 0 % (16 : Int)) ≤ PS z 1)) = false ∧
 (!decide (IntKind.wrap IntKind.i64 (PS z 1 + z 1 0 % (16 : Int)) ≤ PS z 2)) = false ∧
 (decide ((0 : Int) ≤ PS z 3)) = true ∧
 (decide ((0 : Int) ≤ z 3 0 % (16 : Int))) = true ∧
 (decide (PS z 3 ≤ (64 : Int))) = true ∧
 (!decide (z 3 0 % (16 : Int) ≤ IntKind.wrap IntKind.i64 ((64 : Int) - PS z 3))) = false ∧
 (decide (z 3 0 % (16 : Int) = (0 : Int))) = true ∧
 (decide (z 3 0 % (16 : Int) = (0 : Int))) = true ∧
 (decide (z 3 0 % (16 : Int) = (0 : Int))) = true ∧
 (decide (IntKind.wrap IntKind.i64 (Int.tmod (IntKind.wrap IntKind.u64 q) (4 : Int)) < (0 : Int))) = false ∧
 (decide ((4 : Int) ≤ IntKind.wrap IntKind.i64 (Int.tmod (IntKind.wrap IntKind.u64 q) (4 : Int)))) = false ∧
 (decide ((0 : Int) ≤ IntKind.wrap IntKind.i64 (Int.tmod (IntKind.wrap IntKind.u64 q) (4 : Int))) && decide (IntKind.wrap IntKind.i64 (Int.tmod (IntKind.wrap IntKind.u64 q) (4 : Int)) < (4 : Int))) = true ∧
 (decide (0 + Int.toNat (IntKind.wrap IntKind.i64 (Int.tmod (IntKind.wrap IntKind.u64 q) (4 : Int))) * 1 < 4)) = true ∧
 (decide ((0 : Int) ≤ Go.bits BinOp.and IntKind.i64 a (15 : Int))) = true ∧
 (decide ((0 : Int) ≤ Go.bits BinOp.and IntKind.i64 k (15 : Int))) = true ∧
 (decide ((0 : Int) ≤ z (0 + Int.toNat (IntKind.wrap IntKind.i64 (Int.tmod (IntKind.wrap IntKind.u64 q) (4 : Int))) * 1) 0 % (16 : Int))) = true ∧
 (((decide (Go.bits BinOp.and IntKind.i64 a (15 : Int) ≤ z (0 + Int.toNat (IntKind.wrap IntKind.i64 (Int.tmod (IntKind.wrap IntKind.u64 q) (4 : Int))) * 1) 0 % (16 : Int))) = true → (((!decide (Go.bits BinOp.and IntKind.i64 k (15 : Int) ≤ IntKind.wrap IntKind.i64 (z (0 + Int.toNat (IntKind.wrap IntKind.i64 (Int.tmod (IntKind.wrap IntKind.u64 q) (4 : Int))) * 1) 0 % (16 : Int) - Go.bits BinOp.and IntKind.i64 a (15 : Int)))) = true → (decide ((0 : Int) ≤ IntKind.wrap IntKind.i64 (Int.tmod (IntKind.wrap IntKind.u64 q) (4 : Int))) && decide (IntKind.wrap IntKind.i64 (Int.tmod (IntKind.wrap IntKind.u64 q) (4 : Int)) < (4 : Int))) = true ∧
 (decide (0 + Int.toNat (IntKind.wrap IntKind.i64 (Int.tmod (IntKind.wrap IntKind.u64 q) (4 : Int))) * 1 < 4)) = true ∧
 (decide (z (0 + Int.toNat (IntKind.wrap IntKind.i64 (Int.tmod (IntKind.wrap IntKind.u64 q) (4 : Int))) * 1) 0 % (16 : Int) < IntKind.wrap IntKind.i64 (Go.bits BinOp.and IntKind.i64 a (15 : Int) + Go.bits BinOp.and IntKind.i64 k (15 : Int)))) = true ∧
 Bool.true = Bool.true) ∧ ((!decide (Go.bits BinOp.and IntKind.i64 k (15 : Int) ≤ IntKind.wrap IntKind.i64 (z (0 + Int.toNat (IntKind.wrap IntKind.i64 (Int.tmod (IntKind.wrap IntKind.u64 q) (4 : Int))) * 1) 0 % (16 : Int) - Go.bits BinOp.and IntKind.i64 a (15 : Int)))) = false → (decide ((0 : Int) ≤ IntKind.wrap IntKind.i64 (Int.tmod (IntKind.wrap IntKind.u64 q) (4 : Int))) && decide (IntKind.wrap IntKind.i64 (Int.tmod (IntKind.wrap IntKind.u64 q) (4 : Int)) < (4 : Int))) = true ∧
 (decide (0 + Int.toNat (IntKind.wrap IntKind.i64 (Int.tmod (IntKind.wrap IntKind.u64 q) (4 : Int))) * 1 < 4)) = true ∧
 (decide ((0 : Int) ≤ IntKind.wrap IntKind.i64 (Int.tmod (IntKind.wrap IntKind.u64 q) (4 : Int))) && decide (IntKind.wrap IntKind.i64 (Int.tmod (IntKind.wrap IntKind.u64 q) (4 : Int)) < (4 : Int))) = true ∧
 (decide (0 + Int.toNat (IntKind.wrap IntKind.i64 (Int.tmod (IntKind.wrap IntKind.u64 q) (4 : Int))) * 1 < 4)) = true ∧
 (decide (z (0 + Int.toNat (IntKind.wrap IntKind.i64 (Int.tmod (IntKind.wrap IntKind.u64 q) (4 : Int))) * 1) 0 % (16 : Int) < IntKind.wrap IntKind.i64 (Go.bits BinOp.and IntKind.i64 a (15 : Int) + Go.bits BinOp.and IntKind.i64 k (15 : Int)))) = false ∧
 (decide ((0 : Int) ≤ IntKind.wrap IntKind.i64 (Int.tmod (IntKind.wrap IntKind.u64 q) (4 : Int))) && decide (IntKind.wrap IntKind.i64 (Int.tmod (IntKind.wrap IntKind.u64 q) (4 : Int)) < (4 : Int))) = true ∧
 (decide (0 + Int.toNat (IntKind.wrap IntKind.i64 (Int.tmod (IntKind.wrap IntKind.u64 q) (4 : Int))) * 1 < 4)) = true ∧
 (!decide (IntKind.wrap IntKind.i64 (PS z (0 + Int.toNat (IntKind.wrap IntKind.i64 (Int.tmod (IntKind.wrap IntKind.u64 q) (4 : Int))) * 1) + Go.bits BinOp.and IntKind.i64 a (15 : Int)) = IntKind.wrap IntKind.i64 (PS z (0 + Int.toNat (IntKind.wrap IntKind.i64 (Int.tmod (IntKind.wrap IntKind.u64 q) (4 : Int))) * 1) + Go.bits BinOp.and IntKind.i64 a (15 : Int)))) = false ∧
 (((0 = 0 ∧ len = len ∧ cap = cap) ∧ q = q ∧ a = a ∧ k = k ∧ Bool.false = Bool.false ∧ (0 = 0 ∧ 4 = 4 ∧ 4 = 4) ∧ PS z 4 = PS z 4 ∧ IntKind.wrap IntKind.i64 (Int.tmod (IntKind.wrap IntKind.u64 q) (4 : Int)) = q % (18446744073709551616 : Int) % (4 : Int) ∧ Go.bits BinOp.and IntKind.i64 a (15 : Int) = a % (16 : Int) ∧ Go.bits BinOp.and IntKind.i64 k (15 : Int) = k % (16 : Int) ∧ IntKind.wrap IntKind.i64 (PS z (0 + Int.toNat (IntKind.wrap IntKind.i64 (Int.tmod (IntKind.wrap IntKind.u64 q) (4 : Int))) * 1) + Go.bits BinOp.and IntKind.i64 a (15 : Int)) = PS z (Int.toNat (q % (18446744073709551616 : Int) % (4 : Int))) + a % (16 : Int) ∧ (0 : Int) = (0 : Int) ∧ True) ∧ (4 = 4 ∧ (∀ (jj0 : Nat), (jj0 < 4 → True ∧ (0 : Int) = (0 : Int) ∧ (0 : Int) = (0 : Int) ∧ True ∧ PS z jj0 = PS z jj0 ∧ z jj0 0 % (16 : Int) = z jj0 0 % (16 : Int) ∧ True))) ∧ (len = len ∧ (∀ (jj0 : Nat), (jj0 < len → True ∧ z jj0 0 = z jj0 0 ∧ True))) ∧ True) ∧
 LO (Go.Proofs.Try.prog) (Go.AE.lp Go.Proofs.Try.prog 6 1) (TB z q a k len cap 4 0) (SB z len 4 161) (Go.AE.Out.x 2 (TB z q a k len cap 4 (Int.toNat (k % (16 : Int)))) (SB z len 4 161)) ∧
 (decide (PS z 4 = (0 : Int))) = false ∧
 (decide (IntKind.wrap IntKind.i64 (PS z 4 - (1 : Int)) < (0 : Int))) = false ∧
 (decide ((64 : Int) < IntKind.wrap IntKind.i64 (PS z 4 - (1 : Int)))) = false ∧
 (decide ((0 : Int) ≤ z 0 0 % (16 : Int))) = true ∧
 (decide ((0 : Int) ≤ IntKind.wrap IntKind.i64 (PS z 4 - (1 : Int)))) = true ∧
 (decide (PS z 0 ≤ IntKind.wrap IntKind.i64 (PS z 4 - (1 : Int)))) = true ∧
 (!decide (z 0 0 % (16 : Int) ≤ IntKind.wrap IntKind.i64 (IntKind.wrap IntKind.i64 (PS z 4 - (1 : Int)) - PS z 0))) = false ∧
 (decide ((0 : Int) ≤ PS z 1)) = true ∧
 (decide ((0 : Int) ≤ z 1 0 % (16 : Int))) = true ∧
 (decide ((0 : Int) ≤ IntKind.wrap IntKind.i64 (PS z 4 - (1 : Int)))) = true ∧
 (decide (PS z 1 ≤ IntKind.wrap IntKind.i64 (PS z 4 - (1 : Int)))) = true ∧
 (!decide (z 1 0 % (16 : Int) ≤ IntKind.wrap IntKind.i64 (IntKind.wrap IntKind.i64 (PS z 4 - (1 : Int)) - PS z 1))) = false ∧
 (decide (z 1 0 % (16 : Int) = (0 : Int))) = false ∧
 (decide (z 0 0 % (16 : Int) = (0 : Int))) = false ∧
 (decide (IntKind.wrap IntKind.i64 (PS z 1 + z 1 0 % (16 : Int)) ≤ PS z 0)) = false ∧
 (!decide (IntKind.wrap IntKind.i64 (PS z 0 + z 0 0 % (16 : Int)) ≤ PS z 1)) = false ∧
 (decide ((0 : Int) ≤ PS z 2)) = true ∧
 (decide ((0 : Int) ≤ z 2 0 % (16 : Int))) = true ∧
 (decide ((0 : Int) ≤ IntKind.wrap IntKind.i64 (PS z 4 - (1 : Int)))) = true ∧
 (decide (PS z 2 ≤ IntKind.wrap IntKind.i64 (PS z 4 - (1 : Int)))) = true ∧
 (!decide (z 2 0 % (16 : Int) ≤ IntKind.wrap IntKind.i64 (IntKind.wrap IntKind.i64 (PS z 4 - (1 : Int)) - PS z 2))) = true ∧
 Bool.true = Bool.true))) ∧ ((decide (Go.bits BinOp.and IntKind.i64 a (15 : Int) ≤ z (0 + Int.toNat (IntKind.wrap IntKind.i64 (Int.tmod (IntKind.wrap IntKind.u64 q) (4 : Int))) * 1) 0 % (16 : Int))) = false → (decide ((0 : Int) ≤ IntKind.wrap IntKind.i64 (Int.tmod (IntKind.wrap IntKind.u64 q) (4 : Int))) && decide (IntKind.wrap IntKind.i64 (Int.tmod (IntKind.wrap IntKind.u64 q) (4 : Int)) < (4 : Int))) = true ∧
 (decide (0 + Int.toNat (IntKind.wrap IntKind.i64 (Int.tmod (IntKind.wrap IntKind.u64 q) (4 : Int))) * 1 < 4)) = true ∧
 (decide (z (0 + Int.toNat (IntKind.wrap IntKind.i64 (Int.tmod (IntKind.wrap IntKind.u64 q) (4 : Int))) * 1) 0 % (16 : Int) < IntKind.wrap IntKind.i64 (Go.bits BinOp.and IntKind.i64 a (15 : Int) + Go.bits BinOp.and IntKind.i64 k (15 : Int)))) = true ∧
 Bool.true = Bool.true))) ∧ ((decide (z 3 0 % (16 : Int) = (0 : Int))) = false → (decide (z 0 0 % (16 : Int) = (0 : Int))) = false ∧
 (decide (IntKind.wrap IntKind.i64 (PS z 3 + z 3 0 % (16 : Int)) ≤ PS z 0)) = false ∧
 (!decide (IntKind.wrap IntKind.i64 (PS z 0 + z 0 0 % (16 : Int)) ≤ PS z 3)) = false ∧
 (decide (z 3 0 % (16 : Int) = (0 : Int))) = false ∧
 (decide (z 1 0 % (16 : Int) = (0 : Int))) = false ∧
 (decide (IntKind.wrap IntKind.i64 (PS z 3 + z 3 0 % (16 : Int)) ≤ PS z 1)) = false ∧
 (!decide (IntKind.wrap IntKind.i64 (PS z 1 + z 1 0 % (16 : Int)) ≤ PS z 3)) = false ∧
 (decide (z 3 0 % (16 : Int) = (0 : Int))) = false ∧
 (decide (z 2 0 % (16 : Int) = (0 : Int))) = false ∧
 (decide (IntKind.wrap IntKind.i64 (PS z 3 + z 3 0 % (16 : Int)) ≤ PS z 2)) = false ∧
 (!decide (IntKind.wrap IntKind.i64 (PS z 2 + z 2 0 % (16 : Int)) ≤ PS z 3)) = false ∧
 (decide ((0 : Int) ≤ z 0 0 % (16 : Int))) = true ∧
 (!decide (z 0 0 % (16 : Int) ≤ IntKind.wrap IntKind.i64 ((64 : Int) - PS z 0))) = false ∧
 (decide ((0 : Int) ≤ PS z 1)) = true ∧
 (decide ((0 : Int) ≤ z 1 0 % (16 : Int))) = true ∧
 (decide (PS z 1 ≤ (64 : Int))) = true ∧
 (!decide (z 1 0 % (16 : Int) ≤ IntKind.wrap IntKind.i64 ((64 : Int) - PS z 1))) = false ∧
 (decide (z 1 0 % (16 : Int) = (0 : Int))) = false ∧
 (decide (z 0 0 % (16 : Int) = (0 : Int))) = false ∧
 (decide (IntKind.wrap IntKind.i64 (PS z 1 + z 1 0 % (16 : Int)) ≤ PS z 0)) = false ∧
 (!decide (IntKind.wrap IntKind.i64 (PS z 0 + z 0 0 % (16 : Int)) ≤ PS z 1)) = false ∧
 (decide ((0 : Int) ≤ PS z 2)) = true ∧
 (decide ((0 : Int) ≤ z 2 0 % (16 : Int))) = true ∧
 (decide (PS z 2 ≤ (64 : Int))) = true ∧
 (!decide (z 2 0 % (16 : Int) ≤ IntKind.wrap IntKind.i64 ((64 : Int) - PS z 2))) = false ∧
 (decide (z 2 0 % (16 : Int) = (0 : Int))) = false ∧
 (decide (z 0 0 % (16 : Int) = (0 : Int))) = false ∧
 (decide (IntKind.wrap IntKind.i64 (PS z 2 + z 2 0 % (16 : Int)) ≤ PS z 0)) = false ∧
 (!decide (IntKind.wrap IntKind.i64 (PS z 0 + z 0 0 % (16 : Int)) ≤ PS z 2)) = false ∧
 (decide (z 2 0 % (16 : Int) = (0 : Int))) = false ∧
 (decide (z 1 0 % (16 : Int) = (0 : Int))) = false ∧
 (decide (IntKind.wrap IntKind.i64 (PS z 2 + z 2 0 % (16 : Int)) ≤ PS z 1)) = false ∧
 (!decide (IntKind.wrap IntKind.i64 (PS z 1 + z 1 0 % (16 : Int)) ≤ PS z 2)) = false ∧
 (decide ((0 : Int) ≤ PS z 3)) = true ∧
 (decide ((0 : Int) ≤ z 3 0 % (16 : Int))) = true ∧
 (decide (PS z 3 ≤ (64 : Int))) = true ∧
 (!decide (z 3 0 % (16 : Int) ≤ IntKind.wrap IntKind.i64 ((64 : Int) - PS z 3))) = false ∧
 (decide (z 3 0 % (16 : Int) = (0 : Int))) = false ∧
 (decide (z 0 0 % (16 : Int) = (0 : Int))) = false ∧
 (decide (IntKind.wrap IntKind.i64 (PS z 3 + z 3 0 % (16 : Int)) ≤ PS z 0)) = false ∧
 (!decide (IntKind.wrap IntKind.i64 (PS z 0 + z 0 0 % (16 : Int)) ≤ PS z 3)) = false ∧
 (decide (z 3 0 % (16 : Int) = (0 : Int))) = false ∧
 (decide (z 1 0 % (16 : Int) = (0 : Int))) = false ∧
 (decide (IntKind.wrap IntKind.i64 (PS z 3 + z 3 0 % (16 : Int)) ≤ PS z 1)) = false ∧
 (!decide (IntKind.wrap IntKind.i64 (PS z 1 + z 1 0 % (16 : Int)) ≤ PS z 3)) = false ∧
 (decide (z 3 0 % (16 : Int) = (0 : Int))) = false ∧
 (decide (z 2 0 % (16 : Int) = (0 : Int))) = false ∧
 (decide (IntKind.wrap IntKind.i64 (PS z 3 + z 3 0 % (16 : Int)) ≤ PS z 2)) = false ∧
 (!decide (IntKind.wrap IntKind.i64 (PS z 2 + z 2 0 % (16 : Int)) ≤ PS z 3)) = false ∧
 (decide (IntKind.wrap IntKind.i64 (Int.tmod (IntKind.wrap IntKind.u64 q) (4 : Int)) < (0 : Int))) = false ∧
 (decide ((4 : Int) ≤ IntKind.wrap IntKind.i64 (Int.tmod (IntKind.wrap IntKind.u64 q) (4 : Int)))) = false ∧
 (decide ((0 : Int) ≤ IntKind.wrap IntKind.i64 (Int.tmod (IntKind.wrap IntKind.u64 q) (4 : Int))) && decide (IntKind.wrap IntKind.i64 (Int.tmod (IntKind.wrap IntKind.u64 q) (4 : Int)) < (4 : Int))) = true ∧
 (decide (0 + Int.toNat (IntKind.wrap IntKind.i64 (Int.tmod (IntKind.wrap IntKind.u64 q) (4 : Int))) * 1 < 4)) = true ∧
 (decide ((0 : Int) ≤ Go.bits BinOp.and IntKind.i64 a (15 : Int))) = true ∧
 (decide ((0 : Int) ≤ Go.bits BinOp.and IntKind.i64 k (15 : Int))) = true ∧
 (decide ((0 : Int) ≤ z (0 + Int.toNat (IntKind.wrap IntKind.i64 (Int.tmod (IntKind.wrap IntKind.u64 q) (4 : Int))) * 1) 0 % (16 : Int))) = true ∧
 (((decide (Go.bits BinOp.and IntKind.i64 a (15 : Int) ≤ z (0 + Int.toNat (IntKind.wrap IntKind.i64 (Int.tmod (IntKind.wrap IntKind.u64 q) (4 : Int))) * 1) 0 % (16 : Int))) = true → (((!decide (Go.bits BinOp.and IntKind.i64 k (15 : Int) ≤ IntKind.wrap IntKind.i64 (z (0 + Int.toNat (IntKind.wrap IntKind.i64 (Int.tmod (IntKind.wrap IntKind.u64 q) (4 : Int))) * 1) 0 % (16 : Int) - Go.bits BinOp.and IntKind.i64 a (15 : Int)))) = true → (decide ((0 : Int) ≤ IntKind.wrap IntKind.i64 (Int.tmod (IntKind.wrap IntKind.u64 q) (4 : Int))) && decide (IntKind.wrap IntKind.i64 (Int.tmod (IntKind.wrap IntKind.u64 q) (4 : Int)) < (4 : Int))) = true ∧
 (decide (0 + Int.toNat (IntKind.wrap IntKind.i64 (Int.tmod (IntKind.wrap IntKind.u64 q) (4 : Int))) * 1 < 4)) = true ∧
 (decide (z (0 + Int.toNat (IntKind.wrap IntKind.i64 (Int.tmod (IntKind.wrap IntKind.u64 q) (4 : Int))) * 1) 0 % (16 : Int) < IntKind.wrap IntKind.i64 (Go.bits BinOp.and IntKind.i64 a (15 : Int) + Go.bits BinOp.and IntKind.i64 k (15 : Int)))) = true ∧
 Bool.true = Bool.true) ∧ ((!decide (Go.bits BinOp.and IntKind.i64 k (15 : Int) ≤ IntKind.wrap IntKind.i64 (z (0 + Int.toNat (IntKind.wrap IntKind.i64 (Int.tmod (IntKind.wrap IntKind.u64 q) (4 : Int))) * 1) 0 % (16 : Int) - Go.bits BinOp.and IntKind.i64 a (15 : Int)))) = false → (decide ((0 : Int) ≤ IntKind.wrap IntKind.i64 (Int.tmod (IntKind.wrap IntKind.u64 q) (4 : Int))) && decide (IntKind.wrap IntKind.i64 (Int.tmod (IntKind.wrap IntKind.u64 q) (4 : Int)) < (4 : Int))) = true ∧
 (decide (0 + Int.toNat (IntKind.wrap IntKind.i64 (Int.tmod (IntKind.wrap IntKind.u64 q) (4 : Int))) * 1 < 4)) = true ∧
 (decide ((0 : Int) ≤ IntKind.wrap IntKind.i64 (Int.tmod (IntKind.wrap IntKind.u64 q) (4 : Int))) && decide (IntKind.wrap IntKind.i64 (Int.tmod (IntKind.wrap IntKind.u64 q) (4 : Int)) < (4 : Int))) = true ∧
 (decide (0 + Int.toNat (IntKind.wrap IntKind.i64 (Int.tmod (IntKind.wrap IntKind.u64 q) (4 : Int))) * 1 < 4)) = true ∧
 (decide (z (0 + Int.toNat (IntKind.wrap IntKind.i64 (Int.tmod (IntKind.wrap IntKind.u64 q) (4 : Int))) * 1) 0 % (16 : Int) < IntKind.wrap IntKind.i64 (Go.bits BinOp.and IntKind.i64 a (15 : Int) + Go.bits BinOp.and IntKind.i64 k (15 : Int)))) = false ∧
 (decide ((0 : Int) ≤ IntKind.wrap IntKind.i64 (Int.tmod (IntKind.wrap IntKind.u64 q) (4 : Int))) && decide (IntKind.wrap IntKind.i64 (Int.tmod (IntKind.wrap IntKind.u64 q) (4 : Int)) < (4 : Int))) = true ∧
 (decide (0 + Int.toNat (IntKind.wrap IntKind.i64 (Int.tmod (IntKind.wrap IntKind.u64 q) (4 : Int))) * 1 < 4)) = true ∧
 (!decide (IntKind.wrap IntKind.i64 (PS z (0 + Int.toNat (IntKind.wrap IntKind.i64 (Int.tmod (IntKind.wrap IntKind.u64 q) (4 : Int))) * 1) + Go.bits BinOp.and IntKind.i64 a (15 : Int)) = IntKind.wrap IntKind.i64 (PS z (0 + Int.toNat (IntKind.wrap IntKind.i64 (Int.tmod (IntKind.wrap IntKind.u64 q) (4 : Int))) * 1) + Go.bits BinOp.and IntKind.i64 a (15 : Int)))) = false ∧
 (((0 = 0 ∧ len = len ∧ cap = cap) ∧ q = q ∧ a = a ∧ k = k ∧ Bool.false = Bool.false ∧ (0 = 0 ∧ 4 = 4 ∧ 4 = 4) ∧ PS z 4 = PS z 4 ∧ IntKind.wrap IntKind.i64 (Int.tmod (IntKind.wrap IntKind.u64 q) (4 : Int)) = q % (18446744073709551616 : Int) % (4 : Int) ∧ Go.bits BinOp.and IntKind.i64 a (15 : Int) = a % (16 : Int) ∧ Go.bits BinOp.and IntKind.i64 k (15 : Int) = k % (16 : Int) ∧ IntKind.wrap IntKind.i64 (PS z (0 + Int.toNat (IntKind.wrap IntKind.i64 (Int.tmod (IntKind.wrap IntKind.u64 q) (4 : Int))) * 1) + Go.bits BinOp.and IntKind.i64 a (15 : Int)) = PS z (Int.toNat (q % (18446744073709551616 : Int) % (4 : Int))) + a % (16 : Int) ∧ (0 : Int) = (0 : Int) ∧ True) ∧ (4 = 4 ∧ (∀ (jj0 : Nat), (jj0 < 4 → True ∧ (0 : Int) = (0 : Int) ∧ (0 : Int) = (0 : Int) ∧ True ∧ PS z jj0 = PS z jj0 ∧ z jj0 0 % (16 : Int) = z jj0 0 % (16 : Int) ∧ True))) ∧ (len = len ∧ (∀ (jj0 : Nat), (jj0 < len → True ∧ z jj0 0 = z jj0 0 ∧ True))) ∧ True) ∧
 LO (Go.Proofs.Try.prog) (Go.AE.lp Go.Proofs.Try.prog 6 1) (TB z q a k len cap 4 0) (SB z len 4 161) (Go.AE.Out.x 2 (TB z q a k len cap 4 (Int.toNat (k % (16 : Int)))) (SB z len 4 161)) ∧
 (decide (PS z 4 = (0 : Int))) = false ∧
 (decide (IntKind.wrap IntKind.i64 (PS z 4 - (1 : Int)) < (0 : Int))) = false ∧
 (decide ((64 : Int) < IntKind.wrap IntKind.i64 (PS z 4 - (1 : Int)))) = false ∧
 (decide ((0 : Int) ≤ z 0 0 % (16 : Int))) = true ∧
 (decide ((0 : Int) ≤ IntKind.wrap IntKind.i64 (PS z 4 - (1 : Int)))) = true ∧
 (decide (PS z 0 ≤ IntKind.wrap IntKind.i64 (PS z 4 - (1 : Int)))) = true ∧
 (!decide (z 0 0 % (16 : Int) ≤ IntKind.wrap IntKind.i64 (IntKind.wrap IntKind.i64 (PS z 4 - (1 : Int)) - PS z 0))) = false ∧
 (decide ((0 : Int) ≤ PS z 1)) = true ∧
 (decide ((0 : Int) ≤ z 1 0 % (16 : Int))) = true ∧
 (decide ((0 : Int) ≤ IntKind.wrap IntKind.i64 (PS z 4 - (1 : Int)))) = true ∧
 (decide (PS z 1 ≤ IntKind.wrap IntKind.i64 (PS z 4 - (1 : Int)))) = true ∧
 (!decide (z 1 0 % (16 : Int) ≤ IntKind.wrap IntKind.i64 (IntKind.wrap IntKind.i64 (PS z 4 - (1 : Int)) - PS z 1))) = false ∧
 (decide (z 1 0 % (16 : Int) = (0 : Int))) = false ∧
 (decide (z 0 0 % (16 : Int) = (0 : Int))) = false ∧
 (decide (IntKind.wrap IntKind.i64 (PS z 1 + z 1 0 % (16 : Int)) ≤ PS z 0)) = false ∧
 (!decide (IntKind.wrap IntKind.i64 (PS z 0 + z 0 0 % (16 : Int)) ≤ PS z 1)) = false ∧
 (decide ((0 : Int) ≤ PS z 2)) = true ∧
 (decide ((0 : Int) ≤ z 2 0 % (16 : Int))) = true ∧
 (decide ((0 : Int) ≤ IntKind.wrap IntKind.i64 (PS z 4 - (1 : Int)))) = true ∧
 (decide (PS z 2 ≤ IntKind.wrap IntKind.i64 (PS z 4 - (1 : Int)))) = true ∧
 (!decide (z 2 0 % (16 : Int) ≤ IntKind.wrap IntKind.i64 (IntKind.wrap IntKind.i64 (PS z 4 - (1 : Int)) - PS z 2))) = false ∧
 (decide (z 2 0 % (16 : Int) = (0 : Int))) = false ∧
 (decide (z 0 0 % (16 : Int) = (0 : Int))) = false ∧
 (decide (IntKind.wrap IntKind.i64 (PS z 2 + z 2 0 % (16 : Int)) ≤ PS z 0)) = false ∧
 (!decide (IntKind.wrap IntKind.i64 (PS z 0 + z 0 0 % (16 : Int)) ≤ PS z 2)) = false ∧
 (decide (z 2 0 % (16 : Int) = (0 : Int))) = false ∧
 (decide (z 1 0 % (16 : Int) = (0 : Int))) = false ∧
 (decide (IntKind.wrap IntKind.i64 (PS z 2 + z 2 0 % (16 : Int)) ≤ PS z 1)) = false ∧
 (!decide (IntKind.wrap IntKind.i64 (PS z 1 + z 1 0 % (16 : Int)) ≤ PS z 2)) = false ∧
 (decide ((0 : Int) ≤ PS z 3)) = true ∧
 (decide ((0 : Int) ≤ z 3 0 % (16 : Int))) = true ∧
 (decide ((0 : Int) ≤ IntKind.wrap IntKind.i64 (PS z 4 - (1 : Int)))) = true ∧
 (decide (PS z 3 ≤ IntKind.wrap IntKind.i64 (PS z 4 - (1 : Int)))) = true ∧
 (!decide (z 3 0 % (16 : Int) ≤ IntKind.wrap IntKind.i64 (IntKind.wrap IntKind.i64 (PS z 4 - (1 : Int)) - PS z 3))) = true ∧
 Bool.true = Bool.true))) ∧ ((decide (Go.bits BinOp.and IntKind.i64 a (15 : Int) ≤ z (0 + Int.toNat (IntKind.wrap IntKind.i64 (Int.tmod (IntKind.wrap IntKind.u64 q) (4 : Int))) * 1) 0 % (16 : Int))) = false → (decide ((0 : Int) ≤ IntKind.wrap IntKind.i64 (Int.tmod (IntKind.wrap IntKind.u64 q) (4 : Int))) && decide (IntKind.wrap IntKind.i64 (Int.tmod (IntKind.wrap IntKind.u64 q) (4 : Int)) < (4 : Int))) = true ∧
 (decide (0 + Int.toNat (IntKind.wrap IntKind.i64 (Int.tmod (IntKind.wrap IntKind.u64 q) (4 : Int))) * 1 < 4)) = true ∧
 (decide (z (0 + Int.toNat (IntKind.wrap IntKind.i64 (Int.tmod (IntKind.wrap IntKind.u64 q) (4 : Int))) * 1) 0 % (16 : Int) < IntKind.wrap IntKind.i64 (Go.bits BinOp.and IntKind.i64 a (15 : Int) + Go.bits BinOp.and IntKind.i64 k (15 : Int)))) = true ∧
 Bool.true = Bool.true))))))))))) (by kernel_rfl) ?_⟩
  repeat' (first | exact hlo | exact hb161 (by omega) | (refine And.intro ?_ ?_) | (with_reducible intro hh; (try simp (disch := omega) only [decide_eq_true_eq, decide_eq_false_iff_not, Bool.and_eq_true, Bool.and_eq_false_imp, Bool.not_eq_true', Bool.not_eq_false', reduceCtorEq, or_false, or_true, Bool.or_eq_true, Bool.or_eq_false_iff, Int.not_lt, Int.not_le, beq_iff_eq, beq_eq_false_iff_ne, Bool.cond_self, Bool.true_and, Bool.and_true, true_and, and_true, mask15, fdiv_nn, i64_bits, wrap_id, wrap_u64, tmod_nn, tdiv_nn, decide_true, decide_false, cond_true, cond_false, Nat.zero_add, Nat.mul_one, Int.toNat_natCast, Int.toNat_zero, Int.toNat_one, tn2, tn3] at hh)))
  all_goals (first | with_reducible rfl | trivial | (first | exact Go.AE.sveq_self _ rfl | (simp only [decide_eq_true_eq, decide_eq_false_iff_not, Bool.and_eq_true, Bool.and_eq_false_imp, Bool.not_eq_true', Bool.not_eq_false', reduceCtorEq, or_false, or_true, Bool.or_eq_true, Bool.or_eq_false_iff, Int.not_lt, Int.not_le, beq_iff_eq, beq_eq_false_iff_ne, Bool.cond_self, Bool.true_and, Bool.and_true, true_and, and_true]; omega) | (simp (disch := omega) only [decide_eq_true_eq, decide_eq_false_iff_not, Bool.and_eq_true, Bool.and_eq_false_imp, Bool.not_eq_true', Bool.not_eq_false', reduceCtorEq, or_false, or_true, Bool.or_eq_true, Bool.or_eq_false_iff, Int.not_lt, Int.not_le, beq_iff_eq, beq_eq_false_iff_ne, Bool.cond_self, Bool.true_and, Bool.and_true, true_and, and_true, mask15, fdiv_nn, i64_bits, wrap_id, wrap_u64, tmod_nn, tdiv_nn, decide_true, decide_false, cond_true, cond_false, Nat.zero_add, Nat.mul_one, Int.toNat_natCast, Int.toNat_zero, Int.toNat_one, tn2, tn3]; first | done | omega) | (simp (disch := omega) only [decide_eq_true_eq, decide_eq_false_iff_not, Bool.and_eq_true, Bool.and_eq_false_imp, Bool.not_eq_true', Bool.not_eq_false', reduceCtorEq, or_false, or_true, Bool.or_eq_true, Bool.or_eq_false_iff, Int.not_lt, Int.not_le, beq_iff_eq, beq_eq_false_iff_ne, Bool.cond_self, Bool.true_and, Bool.and_true, true_and, and_true, mask15, fdiv_nn, i64_bits, wrap_id, wrap_u64, tmod_nn, tdiv_nn, decide_true, decide_false, cond_true, cond_false, Nat.zero_add, Nat.mul_one, Int.toNat_natCast, Int.toNat_zero, Int.toNat_one, tn2, tn3] at *; first | done | omega)) | (simp only [Bool.cond_self, Go.AE.eqV, Go.AE.okL, Go.AE.eqL]; done) | (rw [show i + 1 = 4 by omega]; done) | ((try simp (disch := omega) only [decide_eq_true_eq, decide_eq_false_iff_not, Bool.and_eq_true, Bool.and_eq_false_imp, Bool.not_eq_true', Bool.not_eq_false', reduceCtorEq, or_false, or_true, Bool.or_eq_true, Bool.or_eq_false_iff, Int.not_lt, Int.not_le, beq_iff_eq, beq_eq_false_iff_ne, Bool.cond_self, Bool.true_and, Bool.and_true, true_and, and_true, mask15, fdiv_nn, i64_bits, wrap_id, wrap_u64, tmod_nn, tdiv_nn, decide_true, decide_false, cond_true, cond_false, Nat.zero_add, Nat.mul_one, Int.toNat_natCast, Int.toNat_zero, Int.toNat_one, tn2, tn3] at *) <;> (try simp only [cond_eq_ite, decide_eq_true_eq, decide_eq_false_iff_not, Bool.and_eq_true, Bool.and_eq_false_imp, Bool.not_eq_true', Bool.not_eq_false', reduceCtorEq, or_false, or_true, Bool.or_eq_true, Bool.or_eq_false_iff, Int.not_lt, Int.not_le, beq_iff_eq, beq_eq_false_iff_ne, Bool.cond_self, Bool.true_and, Bool.and_true, true_and, and_true]) <;> (repeat' split) <;> first | rfl | contradiction | omega | (congr 1 <;> omega) | (congr 2 <;> omega) | (simp only [PS]; omega) | (rw [show i + 1 = 4 by omega]; done) | trace_state))
end Go.Proofs.Ytabippmmepehpaa.extentRuns