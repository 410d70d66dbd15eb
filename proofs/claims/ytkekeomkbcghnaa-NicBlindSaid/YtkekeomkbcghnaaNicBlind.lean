/- The walk of caissonlaw20.NicBlind: for every two numbers and every string it answers true. No condition. -/
import Derived.Test.YtkekeomkbcghnaaE4
import Derived.Test.YtkekeomkbcghnaaProg
namespace Go.Proofs.Ytkekeomkbcghnaa.nicBlind
open Go Go.Proofs Go.AE Go.RowKit
set_option maxRecDepth 100000
set_option linter.unusedVariables false
set_option linter.unusedSimpArgs false
theorem pk : PK Try.prog [41, 54] := ⟨by kernel_rfl, by kernel_rfl, good_of (by kernel_rfl), nonum_of (by kernel_rfl)⟩
def ctr : Ctr := ctrL [(12, cTrue)]
theorem aw : (callK (Hn Try.prog False cond [41, 54] 100) Try.prog 12 [] s0 (fun v _ => v = .bool true)) = (SV.bool true = SV.bool true) := by kernel_rfl
theorem okc : okC Try.prog ctr := okC_cons (ok_trueE pk 100 aw) (okC_nil _)
theorem andNot_self (a : Int) : bits .andNot .i64 a a = 0 := by
  show IntKind.i64.wrap ((BitVec.ofInt 64 a &&& ~~~BitVec.ofInt 64 a).toNat : Nat) = 0
  rw [BitVec.and_not_self]; rfl
theorem zero_andNot (a : Int) : bits .andNot .i64 0 a = 0 := by
  show IntKind.i64.wrap ((BitVec.ofInt 64 0 &&& ~~~BitVec.ofInt 64 a).toNat : Nat) = 0
  rw [show BitVec.ofInt 64 0 = 0#64 from rfl, BitVec.zero_and]; rfl
set_option maxHeartbeats 400000000 in
theorem main (fill labels : Int) (data : ByteArray) : ∃ r, callK (HS Try.prog [41, 54] ctr) Try.prog 6 [.int .i64 fill, .str data, .int .i64 labels] (sOf []) kTrue r := by
  refine ⟨.zn 9 <| .U <| .zn 17 <| .T <| .zn 3 <| .T <| .zn 3 <| .T <| .zn 3 <| .N <| .zn 3 <| .U <| .zn 16 <| .U <| .zn 17 <| .T <| .zn 3 <| .T <| .zn 3 <| .T <| .zn 3 <| .N <| .zn 3 <| .U <| .zn 20 <| .U <| .B (.zn 38 <| .T <| .zn 3 <| .T <| .zn 3 <| .T <| .zn 3 <| .T <| .Z <| .T <| .zn 3 <| .T <| .zn 3 <| .T <| .zn 4 <| .T <| .zn 5 <| .T <| .zn 6 <| .N <| .zn 4 <| .B (.zn 38 <| .T <| .zn 3 <| .T <| .zn 3 <| .T <| .zn 3 <| .T <| .Z <| .T <| .zn 3 <| .T <| .zn 3 <| .T <| .zn 4 <| .T <| .zn 5 <| .T <| .zn 6 <| .N <| .zn 4 <| .B (.zn 38 <| .T <| .zn 3 <| .T <| .zn 3 <| .T <| .zn 3 <| .T <| .Z <| .T <| .zn 3 <| .T <| .zn 3 <| .T <| .zn 4 <| .T <| .zn 5 <| .T <| .zn 6 <| .N <| .zn 4 <| .B (.zn 38 <| .T <| .zn 3 <| .T <| .zn 3 <| .T <| .zn 3 <| .T <| .Z <| .T <| .zn 3 <| .T <| .zn 3 <| .T <| .zn 4 <| .T <| .zn 5 <| .T <| .zn 6 <| .N <| .zn 4 <| .B (.zn 38 <| .T <| .zn 3 <| .T <| .zn 3 <| .T <| .zn 3 <| .T <| .Z <| .T <| .zn 3 <| .T <| .zn 3 <| .T <| .zn 4 <| .T <| .zn 5 <| .T <| .zn 6 <| .N <| .zn 4 <| .B (.zn 38 <| .T <| .zn 3 <| .T <| .zn 3 <| .T <| .zn 3 <| .T <| .Z <| .T <| .zn 3 <| .T <| .zn 3 <| .T <| .zn 4 <| .T <| .zn 5 <| .T <| .zn 6 <| .N <| .zn 4 <| .B (.zn 38 <| .T <| .zn 3 <| .T <| .zn 3 <| .T <| .zn 3 <| .T <| .Z <| .T <| .zn 3 <| .T <| .zn 3 <| .T <| .zn 4 <| .T <| .zn 5 <| .T <| .zn 6 <| .N <| .zn 4 <| .B (.zn 38 <| .T <| .zn 3 <| .T <| .zn 3 <| .T <| .zn 3 <| .T <| .Z <| .T <| .zn 3 <| .T <| .zn 3 <| .T <| .zn 4 <| .T <| .zn 5 <| .T <| .zn 6 <| .N <| .zn 4 <| .B (.zn 38 <| .T <| .zn 3 <| .T <| .zn 3 <| .T <| .zn 3 <| .T <| .Z <| .T <| .zn 3 <| .T <| .zn 3 <| .T <| .zn 4 <| .T <| .zn 5 <| .T <| .zn 6 <| .N <| .Z <| .Z <| .B (.zn 38 <| .T <| .zn 3 <| .T <| .zn 3 <| .T <| .zn 3 <| .T <| .Z <| .T <| .zn 3 <| .T <| .zn 3 <| .T <| .zn 4 <| .T <| .zn 5 <| .T <| .zn 6 <| .N <| .Z <| .Z <| .B (.zn 38 <| .T <| .zn 3 <| .T <| .zn 3 <| .T <| .zn 3 <| .T <| .Z <| .T <| .zn 3 <| .T <| .zn 3 <| .T <| .zn 4 <| .T <| .zn 5 <| .T <| .zn 6 <| .N <| .Z <| .Z <| .B (.zn 38 <| .T <| .zn 3 <| .T <| .zn 3 <| .T <| .zn 3 <| .T <| .Z <| .T <| .zn 3 <| .T <| .zn 3 <| .T <| .zn 4 <| .T <| .zn 5 <| .T <| .zn 6 <| .N <| .Z <| .Z <| .B (.zn 38 <| .T <| .zn 3 <| .T <| .zn 3 <| .T <| .zn 3 <| .T <| .Z <| .T <| .zn 3 <| .T <| .zn 3 <| .T <| .zn 4 <| .T <| .zn 5 <| .T <| .zn 6 <| .N <| .Z <| .Z <| .B (.zn 38 <| .T <| .zn 3 <| .T <| .zn 3 <| .T <| .zn 3 <| .T <| .Z <| .T <| .zn 3 <| .T <| .zn 3 <| .T <| .zn 4 <| .T <| .zn 5 <| .T <| .zn 6 <| .N <| .Z <| .Z <| .B (.zn 38 <| .T <| .zn 3 <| .T <| .zn 3 <| .T <| .zn 3 <| .T <| .Z <| .T <| .zn 3 <| .T <| .zn 3 <| .T <| .zn 4 <| .T <| .zn 5 <| .T <| .zn 6 <| .N <| .Z <| .Z <| .B (.zn 38 <| .T <| .zn 3 <| .T <| .zn 3 <| .T <| .zn 3 <| .T <| .Z <| .T <| .zn 3 <| .T <| .zn 3 <| .T <| .zn 4 <| .T <| .zn 5 <| .T <| .zn 6 <| .N <| .Z <| .Z <| .B (.zn 38 <| .T <| .zn 3 <| .T <| .zn 3 <| .T <| .zn 3 <| .T <| .Z <| .T <| .zn 3 <| .T <| .zn 3 <| .T <| .zn 4 <| .T <| .zn 5 <| .T <| .zn 6 <| .N <| .Z <| .Z <| .B (.zn 38 <| .T <| .zn 3 <| .T <| .zn 3 <| .T <| .zn 3 <| .T <| .Z <| .T <| .zn 3 <| .T <| .zn 3 <| .T <| .zn 4 <| .T <| .zn 5 <| .T <| .zn 6 <| .N <| .Z <| .Z <| .B (.zn 38 <| .T <| .zn 3 <| .T <| .zn 3 <| .T <| .zn 3 <| .T <| .Z <| .T <| .zn 3 <| .T <| .zn 3 <| .T <| .zn 4 <| .T <| .zn 5 <| .T <| .zn 6 <| .N <| .Z <| .Z <| .B (.zn 38 <| .T <| .zn 3 <| .T <| .zn 3 <| .T <| .zn 3 <| .T <| .Z <| .T <| .zn 3 <| .T <| .zn 3 <| .T <| .zn 4 <| .T <| .zn 5 <| .T <| .zn 6 <| .N <| .Z <| .Z <| .B (.zn 38 <| .T <| .zn 3 <| .T <| .zn 3 <| .T <| .zn 3 <| .T <| .Z <| .T <| .zn 3 <| .T <| .zn 3 <| .T <| .zn 4 <| .T <| .zn 5 <| .T <| .zn 6 <| .N <| .Z <| .Z <| .B (.zn 38 <| .T <| .zn 3 <| .T <| .zn 3 <| .T <| .zn 3 <| .T <| .Z <| .T <| .zn 3 <| .T <| .zn 3 <| .T <| .zn 4 <| .T <| .zn 5 <| .T <| .zn 6 <| .N <| .Z <| .Z <| .B (.zn 38 <| .T <| .zn 3 <| .T <| .zn 3 <| .T <| .zn 3 <| .T <| .Z <| .T <| .zn 3 <| .T <| .zn 3 <| .T <| .zn 4 <| .T <| .zn 5 <| .T <| .zn 6 <| .N <| .Z <| .Z <| .B (.zn 38 <| .T <| .zn 3 <| .T <| .zn 3 <| .T <| .zn 3 <| .T <| .Z <| .T <| .zn 3 <| .T <| .zn 3 <| .T <| .zn 4 <| .T <| .zn 5 <| .T <| .zn 6 <| .N <| .Z <| .Z <| .B (.zn 38 <| .T <| .zn 3 <| .T <| .zn 3 <| .T <| .zn 3 <| .T <| .Z <| .T <| .zn 3 <| .T <| .zn 3 <| .T <| .zn 4 <| .T <| .zn 5 <| .T <| .zn 6 <| .N <| .Z <| .Z <| .B (.zn 38 <| .T <| .zn 3 <| .T <| .zn 3 <| .T <| .zn 3 <| .T <| .Z <| .T <| .zn 3 <| .T <| .zn 3 <| .T <| .zn 4 <| .T <| .zn 5 <| .T <| .zn 6 <| .N <| .Z <| .Z <| .B (.zn 38 <| .T <| .zn 3 <| .T <| .zn 3 <| .T <| .zn 3 <| .T <| .Z <| .T <| .zn 3 <| .T <| .zn 3 <| .T <| .zn 4 <| .T <| .zn 5 <| .T <| .zn 6 <| .N <| .Z <| .Z <| .B (.zn 38 <| .T <| .zn 3 <| .T <| .zn 3 <| .T <| .zn 3 <| .T <| .Z <| .T <| .zn 3 <| .T <| .zn 3 <| .T <| .zn 4 <| .T <| .zn 5 <| .T <| .zn 6 <| .N <| .Z <| .Z <| .B (.zn 38 <| .T <| .zn 3 <| .T <| .zn 3 <| .T <| .zn 3 <| .T <| .Z <| .T <| .zn 3 <| .T <| .zn 3 <| .T <| .zn 4 <| .T <| .zn 5 <| .T <| .zn 6 <| .N <| .Z <| .Z <| .B (.zn 38 <| .T <| .zn 3 <| .T <| .zn 3 <| .T <| .zn 3 <| .T <| .Z <| .T <| .zn 3 <| .T <| .zn 3 <| .T <| .zn 4 <| .T <| .zn 5 <| .T <| .zn 6 <| .N <| .Z <| .Z <| .B (.zn 38 <| .T <| .zn 3 <| .T <| .zn 3 <| .T <| .zn 3 <| .T <| .Z <| .T <| .zn 3 <| .T <| .zn 3 <| .T <| .zn 4 <| .T <| .zn 5 <| .T <| .zn 6 <| .N <| .Z <| .Z <| .N <| .B (.zn 62 <| .B (.zn 35 <| .T <| .zn 112 <| .E (0) []) (.zn 3 <| .B (.zn 31 <| .N <| .zn 3 <| .T <| .zn 108 <| .E (0) []) (.Z <| .Z <| .T <| .zn 3 <| .T <| .zn 3 <| .T <| .zn 3 <| .T <| .zn 20 <| .B (.zn 42 <| .N <| .zn 3 <| .N <| .Z <| .Z <| .T <| .zn 3 <| .T <| .zn 3 <| .T <| .zn 3 <| .T <| .zn 20 <| .T <| .zn 119 <| .E (0) []) (.zn 38 <| .N <| .zn 3 <| .N <| .Z <| .Z <| .T <| .zn 3 <| .T <| .zn 3 <| .T <| .zn 3 <| .T <| .zn 20 <| .N <| .zn 115 <| .E (0) [])))) (.zn 31 <| .B (.zn 35 <| .T <| .zn 112 <| .E (0) []) (.zn 3 <| .B (.zn 31 <| .N <| .zn 3 <| .T <| .zn 108 <| .E (0) []) (.Z <| .Z <| .T <| .zn 3 <| .T <| .zn 3 <| .T <| .zn 3 <| .T <| .zn 20 <| .B (.zn 40 <| .N <| .zn 3 <| .N <| .Z <| .Z <| .T <| .zn 3 <| .T <| .zn 3 <| .T <| .zn 3 <| .T <| .zn 20 <| .T <| .zn 119 <| .E (0) []) (.zn 38 <| .N <| .zn 3 <| .N <| .Z <| .Z <| .T <| .zn 3 <| .T <| .zn 3 <| .T <| .zn 3 <| .T <| .zn 20 <| .N <| .zn 115 <| .E (0) []))))) (.B (.zn 62 <| .B (.zn 35 <| .T <| .zn 112 <| .E (0) []) (.zn 3 <| .B (.zn 31 <| .N <| .zn 3 <| .T <| .zn 108 <| .E (0) []) (.Z <| .Z <| .T <| .zn 3 <| .T <| .zn 3 <| .T <| .zn 3 <| .T <| .zn 20 <| .B (.zn 42 <| .N <| .zn 3 <| .N <| .Z <| .Z <| .T <| .zn 3 <| .T <| .zn 3 <| .T <| .zn 3 <| .T <| .zn 20 <| .T <| .zn 119 <| .E (0) []) (.zn 38 <| .N <| .zn 3 <| .N <| .Z <| .Z <| .T <| .zn 3 <| .T <| .zn 3 <| .T <| .zn 3 <| .T <| .zn 20 <| .N <| .zn 115 <| .E (0) [])))) (.zn 31 <| .B (.zn 35 <| .T <| .zn 112 <| .E (0) []) (.zn 3 <| .B (.zn 31 <| .N <| .zn 3 <| .T <| .zn 108 <| .E (0) []) (.Z <| .Z <| .T <| .zn 3 <| .T <| .zn 3 <| .T <| .zn 3 <| .T <| .zn 20 <| .B (.zn 40 <| .N <| .zn 3 <| .N <| .Z <| .Z <| .T <| .zn 3 <| .T <| .zn 3 <| .T <| .zn 3 <| .T <| .zn 20 <| .T <| .zn 119 <| .E (0) []) (.zn 38 <| .N <| .zn 3 <| .N <| .Z <| .Z <| .T <| .zn 3 <| .T <| .zn 3 <| .T <| .zn 3 <| .T <| .zn 20 <| .N <| .zn 115 <| .E (0) [])))))) (.B (.zn 62 <| .B (.zn 35 <| .T <| .zn 112 <| .E (0) []) (.zn 3 <| .B (.zn 31 <| .N <| .zn 3 <| .T <| .zn 108 <| .E (0) []) (.Z <| .Z <| .T <| .zn 3 <| .T <| .zn 3 <| .T <| .zn 3 <| .T <| .zn 20 <| .B (.zn 42 <| .N <| .zn 3 <| .N <| .Z <| .Z <| .T <| .zn 3 <| .T <| .zn 3 <| .T <| .zn 3 <| .T <| .zn 20 <| .T <| .zn 119 <| .E (0) []) (.zn 38 <| .N <| .zn 3 <| .N <| .Z <| .Z <| .T <| .zn 3 <| .T <| .zn 3 <| .T <| .zn 3 <| .T <| .zn 20 <| .N <| .zn 115 <| .E (0) [])))) (.zn 31 <| .B (.zn 35 <| .T <| .zn 112 <| .E (0) []) (.zn 3 <| .B (.zn 31 <| .N <| .zn 3 <| .T <| .zn 108 <| .E (0) []) (.Z <| .Z <| .T <| .zn 3 <| .T <| .zn 3 <| .T <| .zn 3 <| .T <| .zn 20 <| .B (.zn 40 <| .N <| .zn 3 <| .N <| .Z <| .Z <| .T <| .zn 3 <| .T <| .zn 3 <| .T <| .zn 3 <| .T <| .zn 20 <| .T <| .zn 119 <| .E (0) []) (.zn 38 <| .N <| .zn 3 <| .N <| .Z <| .Z <| .T <| .zn 3 <| .T <| .zn 3 <| .T <| .zn 3 <| .T <| .zn 20 <| .N <| .zn 115 <| .E (0) [])))))) (.B (.zn 62 <| .B (.zn 35 <| .T <| .zn 112 <| .E (0) []) (.zn 3 <| .B (.zn 31 <| .N <| .zn 3 <| .T <| .zn 108 <| .E (0) []) (.Z <| .Z <| .T <| .zn 3 <| .T <| .zn 3 <| .T <| .zn 3 <| .T <| .zn 20 <| .B (.zn 42 <| .N <| .zn 3 <| .N <| .Z <| .Z <| .T <| .zn 3 <| .T <| .zn 3 <| .T <| .zn 3 <| .T <| .zn 20 <| .T <| .zn 119 <| .E (0) []) (.zn 38 <| .N <| .zn 3 <| .N <| .Z <| .Z <| .T <| .zn 3 <| .T <| .zn 3 <| .T <| .zn 3 <| .T <| .zn 20 <| .N <| .zn 115 <| .E (0) [])))) (.zn 31 <| .B (.zn 35 <| .T <| .zn 112 <| .E (0) []) (.zn 3 <| .B (.zn 31 <| .N <| .zn 3 <| .T <| .zn 108 <| .E (0) []) (.Z <| .Z <| .T <| .zn 3 <| .T <| .zn 3 <| .T <| .zn 3 <| .T <| .zn 20 <| .B (.zn 40 <| .N <| .zn 3 <| .N <| .Z <| .Z <| .T <| .zn 3 <| .T <| .zn 3 <| .T <| .zn 3 <| .T <| .zn 20 <| .T <| .zn 119 <| .E (0) []) (.zn 38 <| .N <| .zn 3 <| .N <| .Z <| .Z <| .T <| .zn 3 <| .T <| .zn 3 <| .T <| .zn 3 <| .T <| .zn 20 <| .N <| .zn 115 <| .E (0) [])))))) (.B (.zn 62 <| .B (.zn 35 <| .T <| .zn 112 <| .E (0) []) (.zn 3 <| .B (.zn 31 <| .N <| .zn 3 <| .T <| .zn 108 <| .E (0) []) (.Z <| .Z <| .T <| .zn 3 <| .T <| .zn 3 <| .T <| .zn 3 <| .T <| .zn 20 <| .B (.zn 42 <| .N <| .zn 3 <| .N <| .Z <| .Z <| .T <| .zn 3 <| .T <| .zn 3 <| .T <| .zn 3 <| .T <| .zn 20 <| .T <| .zn 119 <| .E (0) []) (.zn 38 <| .N <| .zn 3 <| .N <| .Z <| .Z <| .T <| .zn 3 <| .T <| .zn 3 <| .T <| .zn 3 <| .T <| .zn 20 <| .N <| .zn 115 <| .E (0) [])))) (.zn 31 <| .B (.zn 35 <| .T <| .zn 112 <| .E (0) []) (.zn 3 <| .B (.zn 31 <| .N <| .zn 3 <| .T <| .zn 108 <| .E (0) []) (.Z <| .Z <| .T <| .zn 3 <| .T <| .zn 3 <| .T <| .zn 3 <| .T <| .zn 20 <| .B (.zn 40 <| .N <| .zn 3 <| .N <| .Z <| .Z <| .T <| .zn 3 <| .T <| .zn 3 <| .T <| .zn 3 <| .T <| .zn 20 <| .T <| .zn 119 <| .E (0) []) (.zn 38 <| .N <| .zn 3 <| .N <| .Z <| .Z <| .T <| .zn 3 <| .T <| .zn 3 <| .T <| .zn 3 <| .T <| .zn 20 <| .N <| .zn 115 <| .E (0) [])))))) (.B (.zn 62 <| .B (.zn 35 <| .T <| .zn 112 <| .E (0) []) (.zn 3 <| .B (.zn 31 <| .N <| .zn 3 <| .T <| .zn 108 <| .E (0) []) (.Z <| .Z <| .T <| .zn 3 <| .T <| .zn 3 <| .T <| .zn 3 <| .T <| .zn 20 <| .B (.zn 42 <| .N <| .zn 3 <| .N <| .Z <| .Z <| .T <| .zn 3 <| .T <| .zn 3 <| .T <| .zn 3 <| .T <| .zn 20 <| .T <| .zn 119 <| .E (0) []) (.zn 38 <| .N <| .zn 3 <| .N <| .Z <| .Z <| .T <| .zn 3 <| .T <| .zn 3 <| .T <| .zn 3 <| .T <| .zn 20 <| .N <| .zn 115 <| .E (0) [])))) (.zn 31 <| .B (.zn 35 <| .T <| .zn 112 <| .E (0) []) (.zn 3 <| .B (.zn 31 <| .N <| .zn 3 <| .T <| .zn 108 <| .E (0) []) (.Z <| .Z <| .T <| .zn 3 <| .T <| .zn 3 <| .T <| .zn 3 <| .T <| .zn 20 <| .B (.zn 40 <| .N <| .zn 3 <| .N <| .Z <| .Z <| .T <| .zn 3 <| .T <| .zn 3 <| .T <| .zn 3 <| .T <| .zn 20 <| .T <| .zn 119 <| .E (0) []) (.zn 38 <| .N <| .zn 3 <| .N <| .Z <| .Z <| .T <| .zn 3 <| .T <| .zn 3 <| .T <| .zn 3 <| .T <| .zn 20 <| .N <| .zn 115 <| .E (0) [])))))) (.B (.zn 62 <| .B (.zn 35 <| .T <| .zn 112 <| .E (0) []) (.zn 3 <| .B (.zn 31 <| .N <| .zn 3 <| .T <| .zn 108 <| .E (0) []) (.Z <| .Z <| .T <| .zn 3 <| .T <| .zn 3 <| .T <| .zn 3 <| .T <| .zn 20 <| .B (.zn 42 <| .N <| .zn 3 <| .N <| .Z <| .Z <| .T <| .zn 3 <| .T <| .zn 3 <| .T <| .zn 3 <| .T <| .zn 20 <| .T <| .zn 119 <| .E (0) []) (.zn 38 <| .N <| .zn 3 <| .N <| .Z <| .Z <| .T <| .zn 3 <| .T <| .zn 3 <| .T <| .zn 3 <| .T <| .zn 20 <| .N <| .zn 115 <| .E (0) [])))) (.zn 31 <| .B (.zn 35 <| .T <| .zn 112 <| .E (0) []) (.zn 3 <| .B (.zn 31 <| .N <| .zn 3 <| .T <| .zn 108 <| .E (0) []) (.Z <| .Z <| .T <| .zn 3 <| .T <| .zn 3 <| .T <| .zn 3 <| .T <| .zn 20 <| .B (.zn 40 <| .N <| .zn 3 <| .N <| .Z <| .Z <| .T <| .zn 3 <| .T <| .zn 3 <| .T <| .zn 3 <| .T <| .zn 20 <| .T <| .zn 119 <| .E (0) []) (.zn 38 <| .N <| .zn 3 <| .N <| .Z <| .Z <| .T <| .zn 3 <| .T <| .zn 3 <| .T <| .zn 3 <| .T <| .zn 20 <| .N <| .zn 115 <| .E (0) [])))))) (.B (.zn 62 <| .B (.zn 35 <| .T <| .zn 112 <| .E (0) []) (.zn 3 <| .B (.zn 31 <| .N <| .zn 3 <| .T <| .zn 108 <| .E (0) []) (.Z <| .Z <| .T <| .zn 3 <| .T <| .zn 3 <| .T <| .zn 3 <| .T <| .zn 20 <| .B (.zn 42 <| .N <| .zn 3 <| .N <| .Z <| .Z <| .T <| .zn 3 <| .T <| .zn 3 <| .T <| .zn 3 <| .T <| .zn 20 <| .T <| .zn 119 <| .E (0) []) (.zn 38 <| .N <| .zn 3 <| .N <| .Z <| .Z <| .T <| .zn 3 <| .T <| .zn 3 <| .T <| .zn 3 <| .T <| .zn 20 <| .N <| .zn 115 <| .E (0) [])))) (.zn 31 <| .B (.zn 35 <| .T <| .zn 112 <| .E (0) []) (.zn 3 <| .B (.zn 31 <| .N <| .zn 3 <| .T <| .zn 108 <| .E (0) []) (.Z <| .Z <| .T <| .zn 3 <| .T <| .zn 3 <| .T <| .zn 3 <| .T <| .zn 20 <| .B (.zn 40 <| .N <| .zn 3 <| .N <| .Z <| .Z <| .T <| .zn 3 <| .T <| .zn 3 <| .T <| .zn 3 <| .T <| .zn 20 <| .T <| .zn 119 <| .E (0) []) (.zn 38 <| .N <| .zn 3 <| .N <| .Z <| .Z <| .T <| .zn 3 <| .T <| .zn 3 <| .T <| .zn 3 <| .T <| .zn 20 <| .N <| .zn 115 <| .E (0) [])))))) (.B (.zn 62 <| .B (.zn 35 <| .T <| .zn 112 <| .E (0) []) (.zn 3 <| .B (.zn 31 <| .N <| .zn 3 <| .T <| .zn 108 <| .E (0) []) (.Z <| .Z <| .T <| .zn 3 <| .T <| .zn 3 <| .T <| .zn 3 <| .T <| .zn 20 <| .B (.zn 42 <| .N <| .zn 3 <| .N <| .Z <| .Z <| .T <| .zn 3 <| .T <| .zn 3 <| .T <| .zn 3 <| .T <| .zn 20 <| .T <| .zn 119 <| .E (0) []) (.zn 38 <| .N <| .zn 3 <| .N <| .Z <| .Z <| .T <| .zn 3 <| .T <| .zn 3 <| .T <| .zn 3 <| .T <| .zn 20 <| .N <| .zn 115 <| .E (0) [])))) (.zn 31 <| .B (.zn 35 <| .T <| .zn 112 <| .E (0) []) (.zn 3 <| .B (.zn 31 <| .N <| .zn 3 <| .T <| .zn 108 <| .E (0) []) (.Z <| .Z <| .T <| .zn 3 <| .T <| .zn 3 <| .T <| .zn 3 <| .T <| .zn 20 <| .B (.zn 40 <| .N <| .zn 3 <| .N <| .Z <| .Z <| .T <| .zn 3 <| .T <| .zn 3 <| .T <| .zn 3 <| .T <| .zn 20 <| .T <| .zn 119 <| .E (0) []) (.zn 38 <| .N <| .zn 3 <| .N <| .Z <| .Z <| .T <| .zn 3 <| .T <| .zn 3 <| .T <| .zn 3 <| .T <| .zn 20 <| .N <| .zn 115 <| .E (0) [])))))) (.B (.zn 62 <| .B (.zn 35 <| .T <| .zn 112 <| .E (0) []) (.zn 3 <| .B (.zn 31 <| .N <| .zn 3 <| .T <| .zn 108 <| .E (0) []) (.Z <| .Z <| .T <| .zn 3 <| .T <| .zn 3 <| .T <| .zn 3 <| .T <| .zn 20 <| .B (.zn 42 <| .N <| .zn 3 <| .N <| .Z <| .Z <| .T <| .zn 3 <| .T <| .zn 3 <| .T <| .zn 3 <| .T <| .zn 20 <| .T <| .zn 119 <| .E (0) []) (.zn 38 <| .N <| .zn 3 <| .N <| .Z <| .Z <| .T <| .zn 3 <| .T <| .zn 3 <| .T <| .zn 3 <| .T <| .zn 20 <| .N <| .zn 115 <| .E (0) [])))) (.zn 31 <| .B (.zn 35 <| .T <| .zn 112 <| .E (0) []) (.zn 3 <| .B (.zn 31 <| .N <| .zn 3 <| .T <| .zn 108 <| .E (0) []) (.Z <| .Z <| .T <| .zn 3 <| .T <| .zn 3 <| .T <| .zn 3 <| .T <| .zn 20 <| .B (.zn 40 <| .N <| .zn 3 <| .N <| .Z <| .Z <| .T <| .zn 3 <| .T <| .zn 3 <| .T <| .zn 3 <| .T <| .zn 20 <| .T <| .zn 119 <| .E (0) []) (.zn 38 <| .N <| .zn 3 <| .N <| .Z <| .Z <| .T <| .zn 3 <| .T <| .zn 3 <| .T <| .zn 3 <| .T <| .zn 20 <| .N <| .zn 115 <| .E (0) [])))))) (.B (.zn 62 <| .B (.zn 35 <| .T <| .zn 112 <| .E (0) []) (.zn 3 <| .B (.zn 31 <| .N <| .zn 3 <| .T <| .zn 108 <| .E (0) []) (.Z <| .Z <| .T <| .zn 3 <| .T <| .zn 3 <| .T <| .zn 3 <| .T <| .zn 20 <| .B (.zn 42 <| .N <| .zn 3 <| .N <| .Z <| .Z <| .T <| .zn 3 <| .T <| .zn 3 <| .T <| .zn 3 <| .T <| .zn 20 <| .T <| .zn 119 <| .E (0) []) (.zn 38 <| .N <| .zn 3 <| .N <| .Z <| .Z <| .T <| .zn 3 <| .T <| .zn 3 <| .T <| .zn 3 <| .T <| .zn 20 <| .N <| .zn 115 <| .E (0) [])))) (.zn 31 <| .B (.zn 35 <| .T <| .zn 112 <| .E (0) []) (.zn 3 <| .B (.zn 31 <| .N <| .zn 3 <| .T <| .zn 108 <| .E (0) []) (.Z <| .Z <| .T <| .zn 3 <| .T <| .zn 3 <| .T <| .zn 3 <| .T <| .zn 20 <| .B (.zn 40 <| .N <| .zn 3 <| .N <| .Z <| .Z <| .T <| .zn 3 <| .T <| .zn 3 <| .T <| .zn 3 <| .T <| .zn 20 <| .T <| .zn 119 <| .E (0) []) (.zn 38 <| .N <| .zn 3 <| .N <| .Z <| .Z <| .T <| .zn 3 <| .T <| .zn 3 <| .T <| .zn 3 <| .T <| .zn 20 <| .N <| .zn 115 <| .E (0) [])))))) (.B (.zn 62 <| .B (.zn 35 <| .T <| .zn 112 <| .E (0) []) (.zn 3 <| .B (.zn 31 <| .N <| .zn 3 <| .T <| .zn 108 <| .E (0) []) (.Z <| .Z <| .T <| .zn 3 <| .T <| .zn 3 <| .T <| .zn 3 <| .T <| .zn 20 <| .B (.zn 42 <| .N <| .zn 3 <| .N <| .Z <| .Z <| .T <| .zn 3 <| .T <| .zn 3 <| .T <| .zn 3 <| .T <| .zn 20 <| .T <| .zn 119 <| .E (0) []) (.zn 38 <| .N <| .zn 3 <| .N <| .Z <| .Z <| .T <| .zn 3 <| .T <| .zn 3 <| .T <| .zn 3 <| .T <| .zn 20 <| .N <| .zn 115 <| .E (0) [])))) (.zn 31 <| .B (.zn 35 <| .T <| .zn 112 <| .E (0) []) (.zn 3 <| .B (.zn 31 <| .N <| .zn 3 <| .T <| .zn 108 <| .E (0) []) (.Z <| .Z <| .T <| .zn 3 <| .T <| .zn 3 <| .T <| .zn 3 <| .T <| .zn 20 <| .B (.zn 40 <| .N <| .zn 3 <| .N <| .Z <| .Z <| .T <| .zn 3 <| .T <| .zn 3 <| .T <| .zn 3 <| .T <| .zn 20 <| .T <| .zn 119 <| .E (0) []) (.zn 38 <| .N <| .zn 3 <| .N <| .Z <| .Z <| .T <| .zn 3 <| .T <| .zn 3 <| .T <| .zn 3 <| .T <| .zn 20 <| .N <| .zn 115 <| .E (0) [])))))) (.B (.zn 62 <| .B (.zn 35 <| .T <| .zn 112 <| .E (0) []) (.zn 3 <| .B (.zn 31 <| .N <| .zn 3 <| .T <| .zn 108 <| .E (0) []) (.Z <| .Z <| .T <| .zn 3 <| .T <| .zn 3 <| .T <| .zn 3 <| .T <| .zn 20 <| .B (.zn 42 <| .N <| .zn 3 <| .N <| .Z <| .Z <| .T <| .zn 3 <| .T <| .zn 3 <| .T <| .zn 3 <| .T <| .zn 20 <| .T <| .zn 119 <| .E (0) []) (.zn 38 <| .N <| .zn 3 <| .N <| .Z <| .Z <| .T <| .zn 3 <| .T <| .zn 3 <| .T <| .zn 3 <| .T <| .zn 20 <| .N <| .zn 115 <| .E (0) [])))) (.zn 31 <| .B (.zn 35 <| .T <| .zn 112 <| .E (0) []) (.zn 3 <| .B (.zn 31 <| .N <| .zn 3 <| .T <| .zn 108 <| .E (0) []) (.Z <| .Z <| .T <| .zn 3 <| .T <| .zn 3 <| .T <| .zn 3 <| .T <| .zn 20 <| .B (.zn 40 <| .N <| .zn 3 <| .N <| .Z <| .Z <| .T <| .zn 3 <| .T <| .zn 3 <| .T <| .zn 3 <| .T <| .zn 20 <| .T <| .zn 119 <| .E (0) []) (.zn 38 <| .N <| .zn 3 <| .N <| .Z <| .Z <| .T <| .zn 3 <| .T <| .zn 3 <| .T <| .zn 3 <| .T <| .zn 20 <| .N <| .zn 115 <| .E (0) [])))))) (.B (.zn 62 <| .B (.zn 35 <| .T <| .zn 112 <| .E (0) []) (.zn 3 <| .B (.zn 31 <| .N <| .zn 3 <| .T <| .zn 108 <| .E (0) []) (.Z <| .Z <| .T <| .zn 3 <| .T <| .zn 3 <| .T <| .zn 3 <| .T <| .zn 20 <| .B (.zn 42 <| .N <| .zn 3 <| .N <| .Z <| .Z <| .T <| .zn 3 <| .T <| .zn 3 <| .T <| .zn 3 <| .T <| .zn 20 <| .T <| .zn 119 <| .E (0) []) (.zn 38 <| .N <| .zn 3 <| .N <| .Z <| .Z <| .T <| .zn 3 <| .T <| .zn 3 <| .T <| .zn 3 <| .T <| .zn 20 <| .N <| .zn 115 <| .E (0) [])))) (.zn 31 <| .B (.zn 35 <| .T <| .zn 112 <| .E (0) []) (.zn 3 <| .B (.zn 31 <| .N <| .zn 3 <| .T <| .zn 108 <| .E (0) []) (.Z <| .Z <| .T <| .zn 3 <| .T <| .zn 3 <| .T <| .zn 3 <| .T <| .zn 20 <| .B (.zn 40 <| .N <| .zn 3 <| .N <| .Z <| .Z <| .T <| .zn 3 <| .T <| .zn 3 <| .T <| .zn 3 <| .T <| .zn 20 <| .T <| .zn 119 <| .E (0) []) (.zn 38 <| .N <| .zn 3 <| .N <| .Z <| .Z <| .T <| .zn 3 <| .T <| .zn 3 <| .T <| .zn 3 <| .T <| .zn 20 <| .N <| .zn 115 <| .E (0) [])))))) (.B (.zn 62 <| .B (.zn 35 <| .T <| .zn 112 <| .E (0) []) (.zn 3 <| .B (.zn 31 <| .N <| .zn 3 <| .T <| .zn 108 <| .E (0) []) (.Z <| .Z <| .T <| .zn 3 <| .T <| .zn 3 <| .T <| .zn 3 <| .T <| .zn 20 <| .B (.zn 42 <| .N <| .zn 3 <| .N <| .Z <| .Z <| .T <| .zn 3 <| .T <| .zn 3 <| .T <| .zn 3 <| .T <| .zn 20 <| .T <| .zn 119 <| .E (0) []) (.zn 38 <| .N <| .zn 3 <| .N <| .Z <| .Z <| .T <| .zn 3 <| .T <| .zn 3 <| .T <| .zn 3 <| .T <| .zn 20 <| .N <| .zn 115 <| .E (0) [])))) (.zn 31 <| .B (.zn 35 <| .T <| .zn 112 <| .E (0) []) (.zn 3 <| .B (.zn 31 <| .N <| .zn 3 <| .T <| .zn 108 <| .E (0) []) (.Z <| .Z <| .T <| .zn 3 <| .T <| .zn 3 <| .T <| .zn 3 <| .T <| .zn 20 <| .B (.zn 40 <| .N <| .zn 3 <| .N <| .Z <| .Z <| .T <| .zn 3 <| .T <| .zn 3 <| .T <| .zn 3 <| .T <| .zn 20 <| .T <| .zn 119 <| .E (0) []) (.zn 38 <| .N <| .zn 3 <| .N <| .Z <| .Z <| .T <| .zn 3 <| .T <| .zn 3 <| .T <| .zn 3 <| .T <| .zn 20 <| .N <| .zn 115 <| .E (0) [])))))) (.B (.zn 62 <| .B (.zn 35 <| .T <| .zn 112 <| .E (0) []) (.zn 3 <| .B (.zn 31 <| .N <| .zn 3 <| .T <| .zn 108 <| .E (0) []) (.Z <| .Z <| .T <| .zn 3 <| .T <| .zn 3 <| .T <| .zn 3 <| .T <| .zn 20 <| .B (.zn 42 <| .N <| .zn 3 <| .N <| .Z <| .Z <| .T <| .zn 3 <| .T <| .zn 3 <| .T <| .zn 3 <| .T <| .zn 20 <| .T <| .zn 119 <| .E (0) []) (.zn 38 <| .N <| .zn 3 <| .N <| .Z <| .Z <| .T <| .zn 3 <| .T <| .zn 3 <| .T <| .zn 3 <| .T <| .zn 20 <| .N <| .zn 115 <| .E (0) [])))) (.zn 31 <| .B (.zn 35 <| .T <| .zn 112 <| .E (0) []) (.zn 3 <| .B (.zn 31 <| .N <| .zn 3 <| .T <| .zn 108 <| .E (0) []) (.Z <| .Z <| .T <| .zn 3 <| .T <| .zn 3 <| .T <| .zn 3 <| .T <| .zn 20 <| .B (.zn 40 <| .N <| .zn 3 <| .N <| .Z <| .Z <| .T <| .zn 3 <| .T <| .zn 3 <| .T <| .zn 3 <| .T <| .zn 20 <| .T <| .zn 119 <| .E (0) []) (.zn 38 <| .N <| .zn 3 <| .N <| .Z <| .Z <| .T <| .zn 3 <| .T <| .zn 3 <| .T <| .zn 3 <| .T <| .zn 20 <| .N <| .zn 115 <| .E (0) [])))))) (.B (.zn 62 <| .B (.zn 35 <| .T <| .zn 112 <| .E (0) []) (.zn 3 <| .B (.zn 31 <| .N <| .zn 3 <| .T <| .zn 108 <| .E (0) []) (.Z <| .Z <| .T <| .zn 3 <| .T <| .zn 3 <| .T <| .zn 3 <| .T <| .zn 20 <| .B (.zn 42 <| .N <| .zn 3 <| .N <| .Z <| .Z <| .T <| .zn 3 <| .T <| .zn 3 <| .T <| .zn 3 <| .T <| .zn 20 <| .T <| .zn 119 <| .E (0) []) (.zn 38 <| .N <| .zn 3 <| .N <| .Z <| .Z <| .T <| .zn 3 <| .T <| .zn 3 <| .T <| .zn 3 <| .T <| .zn 20 <| .N <| .zn 115 <| .E (0) [])))) (.zn 31 <| .B (.zn 35 <| .T <| .zn 112 <| .E (0) []) (.zn 3 <| .B (.zn 31 <| .N <| .zn 3 <| .T <| .zn 108 <| .E (0) []) (.Z <| .Z <| .T <| .zn 3 <| .T <| .zn 3 <| .T <| .zn 3 <| .T <| .zn 20 <| .B (.zn 40 <| .N <| .zn 3 <| .N <| .Z <| .Z <| .T <| .zn 3 <| .T <| .zn 3 <| .T <| .zn 3 <| .T <| .zn 20 <| .T <| .zn 119 <| .E (0) []) (.zn 38 <| .N <| .zn 3 <| .N <| .Z <| .Z <| .T <| .zn 3 <| .T <| .zn 3 <| .T <| .zn 3 <| .T <| .zn 20 <| .N <| .zn 115 <| .E (0) [])))))) (.B (.zn 62 <| .B (.zn 35 <| .T <| .zn 112 <| .E (0) []) (.zn 3 <| .B (.zn 31 <| .N <| .zn 3 <| .T <| .zn 108 <| .E (0) []) (.Z <| .Z <| .T <| .zn 3 <| .T <| .zn 3 <| .T <| .zn 3 <| .T <| .zn 20 <| .B (.zn 42 <| .N <| .zn 3 <| .N <| .Z <| .Z <| .T <| .zn 3 <| .T <| .zn 3 <| .T <| .zn 3 <| .T <| .zn 20 <| .T <| .zn 119 <| .E (0) []) (.zn 38 <| .N <| .zn 3 <| .N <| .Z <| .Z <| .T <| .zn 3 <| .T <| .zn 3 <| .T <| .zn 3 <| .T <| .zn 20 <| .N <| .zn 115 <| .E (0) [])))) (.zn 31 <| .B (.zn 35 <| .T <| .zn 112 <| .E (0) []) (.zn 3 <| .B (.zn 31 <| .N <| .zn 3 <| .T <| .zn 108 <| .E (0) []) (.Z <| .Z <| .T <| .zn 3 <| .T <| .zn 3 <| .T <| .zn 3 <| .T <| .zn 20 <| .B (.zn 40 <| .N <| .zn 3 <| .N <| .Z <| .Z <| .T <| .zn 3 <| .T <| .zn 3 <| .T <| .zn 3 <| .T <| .zn 20 <| .T <| .zn 119 <| .E (0) []) (.zn 38 <| .N <| .zn 3 <| .N <| .Z <| .Z <| .T <| .zn 3 <| .T <| .zn 3 <| .T <| .zn 3 <| .T <| .zn 20 <| .N <| .zn 115 <| .E (0) [])))))) (.B (.zn 62 <| .B (.zn 35 <| .T <| .zn 112 <| .E (0) []) (.zn 3 <| .B (.zn 31 <| .N <| .zn 3 <| .T <| .zn 108 <| .E (0) []) (.Z <| .Z <| .T <| .zn 3 <| .T <| .zn 3 <| .T <| .zn 3 <| .T <| .zn 20 <| .B (.zn 42 <| .N <| .zn 3 <| .N <| .Z <| .Z <| .T <| .zn 3 <| .T <| .zn 3 <| .T <| .zn 3 <| .T <| .zn 20 <| .T <| .zn 119 <| .E (0) []) (.zn 38 <| .N <| .zn 3 <| .N <| .Z <| .Z <| .T <| .zn 3 <| .T <| .zn 3 <| .T <| .zn 3 <| .T <| .zn 20 <| .N <| .zn 115 <| .E (0) [])))) (.zn 31 <| .B (.zn 35 <| .T <| .zn 112 <| .E (0) []) (.zn 3 <| .B (.zn 31 <| .N <| .zn 3 <| .T <| .zn 108 <| .E (0) []) (.Z <| .Z <| .T <| .zn 3 <| .T <| .zn 3 <| .T <| .zn 3 <| .T <| .zn 20 <| .B (.zn 40 <| .N <| .zn 3 <| .N <| .Z <| .Z <| .T <| .zn 3 <| .T <| .zn 3 <| .T <| .zn 3 <| .T <| .zn 20 <| .T <| .zn 119 <| .E (0) []) (.zn 38 <| .N <| .zn 3 <| .N <| .Z <| .Z <| .T <| .zn 3 <| .T <| .zn 3 <| .T <| .zn 3 <| .T <| .zn 20 <| .N <| .zn 115 <| .E (0) [])))))) (.B (.zn 62 <| .B (.zn 35 <| .T <| .zn 112 <| .E (0) []) (.zn 3 <| .B (.zn 31 <| .N <| .zn 3 <| .T <| .zn 108 <| .E (0) []) (.Z <| .Z <| .T <| .zn 3 <| .T <| .zn 3 <| .T <| .zn 3 <| .T <| .zn 20 <| .B (.zn 42 <| .N <| .zn 3 <| .N <| .Z <| .Z <| .T <| .zn 3 <| .T <| .zn 3 <| .T <| .zn 3 <| .T <| .zn 20 <| .T <| .zn 119 <| .E (0) []) (.zn 38 <| .N <| .zn 3 <| .N <| .Z <| .Z <| .T <| .zn 3 <| .T <| .zn 3 <| .T <| .zn 3 <| .T <| .zn 20 <| .N <| .zn 115 <| .E (0) [])))) (.zn 31 <| .B (.zn 35 <| .T <| .zn 112 <| .E (0) []) (.zn 3 <| .B (.zn 31 <| .N <| .zn 3 <| .T <| .zn 108 <| .E (0) []) (.Z <| .Z <| .T <| .zn 3 <| .T <| .zn 3 <| .T <| .zn 3 <| .T <| .zn 20 <| .B (.zn 40 <| .N <| .zn 3 <| .N <| .Z <| .Z <| .T <| .zn 3 <| .T <| .zn 3 <| .T <| .zn 3 <| .T <| .zn 20 <| .T <| .zn 119 <| .E (0) []) (.zn 38 <| .N <| .zn 3 <| .N <| .Z <| .Z <| .T <| .zn 3 <| .T <| .zn 3 <| .T <| .zn 3 <| .T <| .zn 20 <| .N <| .zn 115 <| .E (0) [])))))) (.B (.zn 62 <| .B (.zn 35 <| .T <| .zn 112 <| .E (0) []) (.zn 3 <| .B (.zn 31 <| .N <| .zn 3 <| .T <| .zn 108 <| .E (0) []) (.Z <| .Z <| .T <| .zn 3 <| .T <| .zn 3 <| .T <| .zn 3 <| .T <| .zn 20 <| .B (.zn 42 <| .N <| .zn 3 <| .N <| .Z <| .Z <| .T <| .zn 3 <| .T <| .zn 3 <| .T <| .zn 3 <| .T <| .zn 20 <| .T <| .zn 119 <| .E (0) []) (.zn 38 <| .N <| .zn 3 <| .N <| .Z <| .Z <| .T <| .zn 3 <| .T <| .zn 3 <| .T <| .zn 3 <| .T <| .zn 20 <| .N <| .zn 115 <| .E (0) [])))) (.zn 31 <| .B (.zn 35 <| .T <| .zn 112 <| .E (0) []) (.zn 3 <| .B (.zn 31 <| .N <| .zn 3 <| .T <| .zn 108 <| .E (0) []) (.Z <| .Z <| .T <| .zn 3 <| .T <| .zn 3 <| .T <| .zn 3 <| .T <| .zn 20 <| .B (.zn 40 <| .N <| .zn 3 <| .N <| .Z <| .Z <| .T <| .zn 3 <| .T <| .zn 3 <| .T <| .zn 3 <| .T <| .zn 20 <| .T <| .zn 119 <| .E (0) []) (.zn 38 <| .N <| .zn 3 <| .N <| .Z <| .Z <| .T <| .zn 3 <| .T <| .zn 3 <| .T <| .zn 3 <| .T <| .zn 20 <| .N <| .zn 115 <| .E (0) [])))))) (.B (.zn 62 <| .B (.zn 35 <| .T <| .zn 112 <| .E (0) []) (.zn 3 <| .B (.zn 31 <| .N <| .zn 3 <| .T <| .zn 108 <| .E (0) []) (.Z <| .Z <| .T <| .zn 3 <| .T <| .zn 3 <| .T <| .zn 3 <| .T <| .zn 20 <| .B (.zn 42 <| .N <| .zn 3 <| .N <| .Z <| .Z <| .T <| .zn 3 <| .T <| .zn 3 <| .T <| .zn 3 <| .T <| .zn 20 <| .T <| .zn 119 <| .E (0) []) (.zn 38 <| .N <| .zn 3 <| .N <| .Z <| .Z <| .T <| .zn 3 <| .T <| .zn 3 <| .T <| .zn 3 <| .T <| .zn 20 <| .N <| .zn 115 <| .E (0) [])))) (.zn 31 <| .B (.zn 35 <| .T <| .zn 112 <| .E (0) []) (.zn 3 <| .B (.zn 31 <| .N <| .zn 3 <| .T <| .zn 108 <| .E (0) []) (.Z <| .Z <| .T <| .zn 3 <| .T <| .zn 3 <| .T <| .zn 3 <| .T <| .zn 20 <| .B (.zn 40 <| .N <| .zn 3 <| .N <| .Z <| .Z <| .T <| .zn 3 <| .T <| .zn 3 <| .T <| .zn 3 <| .T <| .zn 20 <| .T <| .zn 119 <| .E (0) []) (.zn 38 <| .N <| .zn 3 <| .N <| .Z <| .Z <| .T <| .zn 3 <| .T <| .zn 3 <| .T <| .zn 3 <| .T <| .zn 20 <| .N <| .zn 115 <| .E (0) [])))))) (.B (.zn 62 <| .B (.zn 35 <| .T <| .zn 112 <| .E (0) []) (.zn 3 <| .B (.zn 31 <| .N <| .zn 3 <| .T <| .zn 108 <| .E (0) []) (.Z <| .Z <| .T <| .zn 3 <| .T <| .zn 3 <| .T <| .zn 3 <| .T <| .zn 20 <| .B (.zn 42 <| .N <| .zn 3 <| .N <| .Z <| .Z <| .T <| .zn 3 <| .T <| .zn 3 <| .T <| .zn 3 <| .T <| .zn 20 <| .T <| .zn 119 <| .E (0) []) (.zn 38 <| .N <| .zn 3 <| .N <| .Z <| .Z <| .T <| .zn 3 <| .T <| .zn 3 <| .T <| .zn 3 <| .T <| .zn 20 <| .N <| .zn 115 <| .E (0) [])))) (.zn 31 <| .B (.zn 35 <| .T <| .zn 112 <| .E (0) []) (.zn 3 <| .B (.zn 31 <| .N <| .zn 3 <| .T <| .zn 108 <| .E (0) []) (.Z <| .Z <| .T <| .zn 3 <| .T <| .zn 3 <| .T <| .zn 3 <| .T <| .zn 20 <| .B (.zn 40 <| .N <| .zn 3 <| .N <| .Z <| .Z <| .T <| .zn 3 <| .T <| .zn 3 <| .T <| .zn 3 <| .T <| .zn 20 <| .T <| .zn 119 <| .E (0) []) (.zn 38 <| .N <| .zn 3 <| .N <| .Z <| .Z <| .T <| .zn 3 <| .T <| .zn 3 <| .T <| .zn 3 <| .T <| .zn 20 <| .N <| .zn 115 <| .E (0) [])))))) (.B (.zn 62 <| .B (.zn 35 <| .T <| .zn 112 <| .E (0) []) (.zn 3 <| .B (.zn 31 <| .N <| .zn 3 <| .T <| .zn 108 <| .E (0) []) (.Z <| .Z <| .T <| .zn 3 <| .T <| .zn 3 <| .T <| .zn 3 <| .T <| .zn 20 <| .B (.zn 42 <| .N <| .zn 3 <| .N <| .Z <| .Z <| .T <| .zn 3 <| .T <| .zn 3 <| .T <| .zn 3 <| .T <| .zn 20 <| .T <| .zn 119 <| .E (0) []) (.zn 38 <| .N <| .zn 3 <| .N <| .Z <| .Z <| .T <| .zn 3 <| .T <| .zn 3 <| .T <| .zn 3 <| .T <| .zn 20 <| .N <| .zn 115 <| .E (0) [])))) (.zn 31 <| .B (.zn 35 <| .T <| .zn 112 <| .E (0) []) (.zn 3 <| .B (.zn 31 <| .N <| .zn 3 <| .T <| .zn 108 <| .E (0) []) (.Z <| .Z <| .T <| .zn 3 <| .T <| .zn 3 <| .T <| .zn 3 <| .T <| .zn 20 <| .B (.zn 40 <| .N <| .zn 3 <| .N <| .Z <| .Z <| .T <| .zn 3 <| .T <| .zn 3 <| .T <| .zn 3 <| .T <| .zn 20 <| .T <| .zn 119 <| .E (0) []) (.zn 38 <| .N <| .zn 3 <| .N <| .Z <| .Z <| .T <| .zn 3 <| .T <| .zn 3 <| .T <| .zn 3 <| .T <| .zn 20 <| .N <| .zn 115 <| .E (0) [])))))) (.B (.zn 62 <| .B (.zn 35 <| .T <| .zn 112 <| .E (0) []) (.zn 3 <| .B (.zn 31 <| .N <| .zn 3 <| .T <| .zn 108 <| .E (0) []) (.Z <| .Z <| .T <| .zn 3 <| .T <| .zn 3 <| .T <| .zn 3 <| .T <| .zn 20 <| .B (.zn 42 <| .N <| .zn 3 <| .N <| .Z <| .Z <| .T <| .zn 3 <| .T <| .zn 3 <| .T <| .zn 3 <| .T <| .zn 20 <| .T <| .zn 119 <| .E (0) []) (.zn 38 <| .N <| .zn 3 <| .N <| .Z <| .Z <| .T <| .zn 3 <| .T <| .zn 3 <| .T <| .zn 3 <| .T <| .zn 20 <| .N <| .zn 115 <| .E (0) [])))) (.zn 31 <| .B (.zn 35 <| .T <| .zn 112 <| .E (0) []) (.zn 3 <| .B (.zn 31 <| .N <| .zn 3 <| .T <| .zn 108 <| .E (0) []) (.Z <| .Z <| .T <| .zn 3 <| .T <| .zn 3 <| .T <| .zn 3 <| .T <| .zn 20 <| .B (.zn 42 <| .N <| .zn 3 <| .N <| .Z <| .Z <| .T <| .zn 3 <| .T <| .zn 3 <| .T <| .zn 3 <| .T <| .zn 20 <| .T <| .zn 119 <| .E (0) []) (.zn 38 <| .N <| .zn 3 <| .N <| .Z <| .Z <| .T <| .zn 3 <| .T <| .zn 3 <| .T <| .zn 3 <| .T <| .zn 20 <| .N <| .zn 115 <| .E (0) [])))))) (.B (.zn 62 <| .B (.zn 35 <| .T <| .zn 112 <| .E (0) []) (.zn 3 <| .B (.zn 31 <| .N <| .zn 3 <| .T <| .zn 108 <| .E (0) []) (.Z <| .Z <| .T <| .zn 3 <| .T <| .zn 3 <| .T <| .zn 3 <| .T <| .zn 20 <| .B (.zn 42 <| .N <| .zn 3 <| .N <| .Z <| .Z <| .T <| .zn 3 <| .T <| .zn 3 <| .T <| .zn 3 <| .T <| .zn 20 <| .T <| .zn 119 <| .E (0) []) (.zn 38 <| .N <| .zn 3 <| .N <| .Z <| .Z <| .T <| .zn 3 <| .T <| .zn 3 <| .T <| .zn 3 <| .T <| .zn 20 <| .N <| .zn 115 <| .E (0) [])))) (.zn 31 <| .B (.zn 35 <| .T <| .zn 112 <| .E (0) []) (.zn 3 <| .B (.zn 31 <| .N <| .zn 3 <| .T <| .zn 108 <| .E (0) []) (.Z <| .Z <| .T <| .zn 3 <| .T <| .zn 3 <| .T <| .zn 3 <| .T <| .zn 20 <| .B (.zn 42 <| .N <| .zn 3 <| .N <| .Z <| .Z <| .T <| .zn 3 <| .T <| .zn 3 <| .T <| .zn 3 <| .T <| .zn 20 <| .T <| .zn 119 <| .E (0) []) (.zn 38 <| .N <| .zn 3 <| .N <| .Z <| .Z <| .T <| .zn 3 <| .T <| .zn 3 <| .T <| .zn 3 <| .T <| .zn 20 <| .N <| .zn 115 <| .E (0) [])))))) (.B (.zn 62 <| .B (.zn 35 <| .T <| .zn 112 <| .E (0) []) (.zn 3 <| .B (.zn 31 <| .N <| .zn 3 <| .T <| .zn 108 <| .E (0) []) (.Z <| .Z <| .T <| .zn 3 <| .T <| .zn 3 <| .T <| .zn 3 <| .T <| .zn 20 <| .B (.zn 42 <| .N <| .zn 3 <| .N <| .Z <| .Z <| .T <| .zn 3 <| .T <| .zn 3 <| .T <| .zn 3 <| .T <| .zn 20 <| .T <| .zn 119 <| .E (0) []) (.zn 38 <| .N <| .zn 3 <| .N <| .Z <| .Z <| .T <| .zn 3 <| .T <| .zn 3 <| .T <| .zn 3 <| .T <| .zn 20 <| .N <| .zn 115 <| .E (0) [])))) (.zn 31 <| .B (.zn 35 <| .T <| .zn 112 <| .E (0) []) (.zn 3 <| .B (.zn 31 <| .N <| .zn 3 <| .T <| .zn 108 <| .E (0) []) (.Z <| .Z <| .T <| .zn 3 <| .T <| .zn 3 <| .T <| .zn 3 <| .T <| .zn 20 <| .B (.zn 42 <| .N <| .zn 3 <| .N <| .Z <| .Z <| .T <| .zn 3 <| .T <| .zn 3 <| .T <| .zn 3 <| .T <| .zn 20 <| .T <| .zn 119 <| .E (0) []) (.zn 38 <| .N <| .zn 3 <| .N <| .Z <| .Z <| .T <| .zn 3 <| .T <| .zn 3 <| .T <| .zn 3 <| .T <| .zn 20 <| .N <| .zn 115 <| .E (0) [])))))) (.B (.zn 62 <| .B (.zn 35 <| .T <| .zn 112 <| .E (0) []) (.zn 3 <| .B (.zn 31 <| .N <| .zn 3 <| .T <| .zn 108 <| .E (0) []) (.Z <| .Z <| .T <| .zn 3 <| .T <| .zn 3 <| .T <| .zn 3 <| .T <| .zn 20 <| .B (.zn 42 <| .N <| .zn 3 <| .N <| .Z <| .Z <| .T <| .zn 3 <| .T <| .zn 3 <| .T <| .zn 3 <| .T <| .zn 20 <| .T <| .zn 119 <| .E (0) []) (.zn 38 <| .N <| .zn 3 <| .N <| .Z <| .Z <| .T <| .zn 3 <| .T <| .zn 3 <| .T <| .zn 3 <| .T <| .zn 20 <| .N <| .zn 115 <| .E (0) [])))) (.zn 31 <| .B (.zn 35 <| .T <| .zn 112 <| .E (0) []) (.zn 3 <| .B (.zn 31 <| .N <| .zn 3 <| .T <| .zn 108 <| .E (0) []) (.Z <| .Z <| .T <| .zn 3 <| .T <| .zn 3 <| .T <| .zn 3 <| .T <| .zn 20 <| .B (.zn 42 <| .N <| .zn 3 <| .N <| .Z <| .Z <| .T <| .zn 3 <| .T <| .zn 3 <| .T <| .zn 3 <| .T <| .zn 20 <| .T <| .zn 119 <| .E (0) []) (.zn 38 <| .N <| .zn 3 <| .N <| .Z <| .Z <| .T <| .zn 3 <| .T <| .zn 3 <| .T <| .zn 3 <| .T <| .zn 20 <| .N <| .zn 115 <| .E (0) [])))))) (.B (.zn 62 <| .B (.zn 35 <| .T <| .zn 112 <| .E (0) []) (.zn 3 <| .B (.zn 31 <| .N <| .zn 3 <| .T <| .zn 108 <| .E (0) []) (.Z <| .Z <| .T <| .zn 3 <| .T <| .zn 3 <| .T <| .zn 3 <| .T <| .zn 20 <| .B (.zn 42 <| .N <| .zn 3 <| .N <| .Z <| .Z <| .T <| .zn 3 <| .T <| .zn 3 <| .T <| .zn 3 <| .T <| .zn 20 <| .T <| .zn 119 <| .E (0) []) (.zn 38 <| .N <| .zn 3 <| .N <| .Z <| .Z <| .T <| .zn 3 <| .T <| .zn 3 <| .T <| .zn 3 <| .T <| .zn 20 <| .N <| .zn 115 <| .E (0) [])))) (.zn 31 <| .B (.zn 35 <| .T <| .zn 112 <| .E (0) []) (.zn 3 <| .B (.zn 31 <| .N <| .zn 3 <| .T <| .zn 108 <| .E (0) []) (.Z <| .Z <| .T <| .zn 3 <| .T <| .zn 3 <| .T <| .zn 3 <| .T <| .zn 20 <| .B (.zn 42 <| .N <| .zn 3 <| .N <| .Z <| .Z <| .T <| .zn 3 <| .T <| .zn 3 <| .T <| .zn 3 <| .T <| .zn 20 <| .T <| .zn 119 <| .E (0) []) (.zn 38 <| .N <| .zn 3 <| .N <| .Z <| .Z <| .T <| .zn 3 <| .T <| .zn 3 <| .T <| .zn 3 <| .T <| .zn 20 <| .N <| .zn 115 <| .E (0) [])))))) (.B (.zn 62 <| .B (.zn 35 <| .T <| .zn 112 <| .E (0) []) (.zn 3 <| .B (.zn 31 <| .N <| .zn 3 <| .T <| .zn 108 <| .E (0) []) (.Z <| .Z <| .T <| .zn 3 <| .T <| .zn 3 <| .T <| .zn 3 <| .T <| .zn 20 <| .B (.zn 42 <| .N <| .zn 3 <| .N <| .Z <| .Z <| .T <| .zn 3 <| .T <| .zn 3 <| .T <| .zn 3 <| .T <| .zn 20 <| .T <| .zn 119 <| .E (0) []) (.zn 38 <| .N <| .zn 3 <| .N <| .Z <| .Z <| .T <| .zn 3 <| .T <| .zn 3 <| .T <| .zn 3 <| .T <| .zn 20 <| .N <| .zn 115 <| .E (0) [])))) (.zn 31 <| .B (.zn 35 <| .T <| .zn 112 <| .E (0) []) (.zn 3 <| .B (.zn 31 <| .N <| .zn 3 <| .T <| .zn 108 <| .E (0) []) (.Z <| .Z <| .T <| .zn 3 <| .T <| .zn 3 <| .T <| .zn 3 <| .T <| .zn 20 <| .B (.zn 42 <| .N <| .zn 3 <| .N <| .Z <| .Z <| .T <| .zn 3 <| .T <| .zn 3 <| .T <| .zn 3 <| .T <| .zn 20 <| .T <| .zn 119 <| .E (0) []) (.zn 38 <| .N <| .zn 3 <| .N <| .Z <| .Z <| .T <| .zn 3 <| .T <| .zn 3 <| .T <| .zn 3 <| .T <| .zn 20 <| .N <| .zn 115 <| .E (0) [])))))) (.B (.zn 62 <| .B (.zn 35 <| .T <| .zn 112 <| .E (0) []) (.zn 3 <| .B (.zn 31 <| .N <| .zn 3 <| .T <| .zn 108 <| .E (0) []) (.Z <| .Z <| .T <| .zn 3 <| .T <| .zn 3 <| .T <| .zn 3 <| .T <| .zn 20 <| .B (.zn 42 <| .N <| .zn 3 <| .N <| .Z <| .Z <| .T <| .zn 3 <| .T <| .zn 3 <| .T <| .zn 3 <| .T <| .zn 20 <| .T <| .zn 119 <| .E (0) []) (.zn 38 <| .N <| .zn 3 <| .N <| .Z <| .Z <| .T <| .zn 3 <| .T <| .zn 3 <| .T <| .zn 3 <| .T <| .zn 20 <| .N <| .zn 115 <| .E (0) [])))) (.zn 31 <| .B (.zn 35 <| .T <| .zn 112 <| .E (0) []) (.zn 3 <| .B (.zn 31 <| .N <| .zn 3 <| .T <| .zn 108 <| .E (0) []) (.Z <| .Z <| .T <| .zn 3 <| .T <| .zn 3 <| .T <| .zn 3 <| .T <| .zn 20 <| .B (.zn 42 <| .N <| .zn 3 <| .N <| .Z <| .Z <| .T <| .zn 3 <| .T <| .zn 3 <| .T <| .zn 3 <| .T <| .zn 20 <| .T <| .zn 119 <| .E (0) []) (.zn 38 <| .N <| .zn 3 <| .N <| .Z <| .Z <| .T <| .zn 3 <| .T <| .zn 3 <| .T <| .zn 3 <| .T <| .zn 20 <| .N <| .zn 115 <| .E (0) [])))))) (.B (.zn 46 <| .B (.zn 35 <| .T <| .zn 112 <| .E (0) []) (.zn 3 <| .B (.zn 31 <| .N <| .zn 3 <| .T <| .zn 108 <| .E (0) []) (.Z <| .Z <| .T <| .zn 3 <| .T <| .zn 3 <| .T <| .zn 3 <| .T <| .zn 20 <| .B (.zn 42 <| .N <| .zn 3 <| .N <| .Z <| .Z <| .T <| .zn 3 <| .T <| .zn 3 <| .T <| .zn 3 <| .T <| .zn 20 <| .T <| .zn 119 <| .E (0) []) (.zn 38 <| .N <| .zn 3 <| .N <| .Z <| .Z <| .T <| .zn 3 <| .T <| .zn 3 <| .T <| .zn 3 <| .T <| .zn 20 <| .N <| .zn 115 <| .E (0) [])))) (.zn 31 <| .B (.zn 35 <| .T <| .zn 112 <| .E (0) []) (.zn 3 <| .B (.zn 31 <| .N <| .zn 3 <| .T <| .zn 108 <| .E (0) []) (.Z <| .Z <| .T <| .zn 3 <| .T <| .zn 3 <| .T <| .zn 3 <| .T <| .zn 20 <| .B (.zn 42 <| .N <| .zn 3 <| .N <| .Z <| .Z <| .T <| .zn 3 <| .T <| .zn 3 <| .T <| .zn 3 <| .T <| .zn 20 <| .T <| .zn 119 <| .E (0) []) (.zn 38 <| .N <| .zn 3 <| .N <| .Z <| .Z <| .T <| .zn 3 <| .T <| .zn 3 <| .T <| .zn 3 <| .T <| .zn 20 <| .N <| .zn 115 <| .E (0) []))))), Go.AE.kchange (b := (True) ∧
 (decide ((0 : Int) ≤ Go.bits BinOp.and IntKind.i64 labels (3 : Int))) = true ∧
 (decide (Go.bits BinOp.and IntKind.i64 labels (3 : Int) ≤ (3 : Int))) = true ∧
 (decide ((0 : Int) ≤ Go.bits BinOp.and IntKind.i64 (Int.fdiv labels (4 : Int)) (15 : Int))) = true ∧
 (!decide (Go.bits BinOp.and IntKind.i64 (Int.fdiv labels (4 : Int)) (15 : Int) ≤ (15 : Int))) = false ∧
 (decide ((0 : Int) ≤ Go.bits BinOp.and IntKind.i64 labels (3 : Int))) = true ∧
 (decide (Go.bits BinOp.and IntKind.i64 labels (3 : Int) ≤ (3 : Int))) = true ∧
 (decide ((0 : Int) ≤ Go.bits BinOp.and IntKind.i64 (Int.fdiv labels (4 : Int)) (15 : Int))) = true ∧
 (!decide (Go.bits BinOp.and IntKind.i64 (Int.fdiv labels (4 : Int)) (15 : Int) ≤ (15 : Int))) = false ∧
 (((decide ((0 : Int) < Go.bits BinOp.and IntKind.i64 fill (31 : Int))) = true → (decide ((0 : Int) ≤ Go.bits BinOp.and IntKind.i64 labels (3 : Int))) = true ∧
 (decide (Go.bits BinOp.and IntKind.i64 labels (3 : Int) ≤ (3 : Int))) = true ∧
 (decide ((0 : Int) ≤ Go.bits BinOp.and IntKind.i64 (Int.fdiv labels (4 : Int)) (15 : Int))) = true ∧
 (decide (Go.bits BinOp.and IntKind.i64 (Int.fdiv labels (4 : Int)) (15 : Int) ≤ (15 : Int))) = true ∧
 (decide ((0 : Int) ≤ Go.bits BinOp.and IntKind.i64 labels (3 : Int))) = true ∧
 (decide (Go.bits BinOp.and IntKind.i64 labels (3 : Int) ≤ (3 : Int))) = true ∧
 (decide ((0 : Int) ≤ Go.bits BinOp.and IntKind.i64 (Int.fdiv labels (4 : Int)) (15 : Int))) = true ∧
 (decide (Go.bits BinOp.and IntKind.i64 (Int.fdiv labels (4 : Int)) (15 : Int) ≤ (15 : Int))) = true ∧
 (decide (Go.bits BinOp.and IntKind.i64 labels (3 : Int) ≤ Go.bits BinOp.and IntKind.i64 labels (3 : Int))) = true ∧
 (!decide (Go.bits BinOp.andNot IntKind.i64 (Go.bits BinOp.and IntKind.i64 (Int.fdiv labels (4 : Int)) (15 : Int)) (Go.bits BinOp.and IntKind.i64 (Int.fdiv labels (4 : Int)) (15 : Int)) = (0 : Int))) = false ∧
 (((decide ((1 : Int) < Go.bits BinOp.and IntKind.i64 fill (31 : Int))) = true → (decide ((0 : Int) ≤ Go.bits BinOp.and IntKind.i64 labels (3 : Int))) = true ∧
 (decide (Go.bits BinOp.and IntKind.i64 labels (3 : Int) ≤ (3 : Int))) = true ∧
 (decide ((0 : Int) ≤ Go.bits BinOp.and IntKind.i64 (Int.fdiv labels (4 : Int)) (15 : Int))) = true ∧
 (decide (Go.bits BinOp.and IntKind.i64 (Int.fdiv labels (4 : Int)) (15 : Int) ≤ (15 : Int))) = true ∧
 (decide ((0 : Int) ≤ Go.bits BinOp.and IntKind.i64 labels (3 : Int))) = true ∧
 (decide (Go.bits BinOp.and IntKind.i64 labels (3 : Int) ≤ (3 : Int))) = true ∧
 (decide ((0 : Int) ≤ Go.bits BinOp.and IntKind.i64 (Int.fdiv labels (4 : Int)) (15 : Int))) = true ∧
 (decide (Go.bits BinOp.and IntKind.i64 (Int.fdiv labels (4 : Int)) (15 : Int) ≤ (15 : Int))) = true ∧
 (decide (Go.bits BinOp.and IntKind.i64 labels (3 : Int) ≤ Go.bits BinOp.and IntKind.i64 labels (3 : Int))) = true ∧
 (!decide (Go.bits BinOp.andNot IntKind.i64 (Go.bits BinOp.and IntKind.i64 (Int.fdiv labels (4 : Int)) (15 : Int)) (Go.bits BinOp.and IntKind.i64 (Int.fdiv labels (4 : Int)) (15 : Int)) = (0 : Int))) = false ∧
 (((decide ((2 : Int) < Go.bits BinOp.and IntKind.i64 fill (31 : Int))) = true → (decide ((0 : Int) ≤ Go.bits BinOp.and IntKind.i64 labels (3 : Int))) = true ∧
 (decide (Go.bits BinOp.and IntKind.i64 labels (3 : Int) ≤ (3 : Int))) = true ∧
 (decide ((0 : Int) ≤ Go.bits BinOp.and IntKind.i64 (Int.fdiv labels (4 : Int)) (15 : Int))) = true ∧
 (decide (Go.bits BinOp.and IntKind.i64 (Int.fdiv labels (4 : Int)) (15 : Int) ≤ (15 : Int))) = true ∧
 (decide ((0 : Int) ≤ Go.bits BinOp.and IntKind.i64 labels (3 : Int))) = true ∧
 (decide (Go.bits BinOp.and IntKind.i64 labels (3 : Int) ≤ (3 : Int))) = true ∧
 (decide ((0 : Int) ≤ Go.bits BinOp.and IntKind.i64 (Int.fdiv labels (4 : Int)) (15 : Int))) = true ∧
 (decide (Go.bits BinOp.and IntKind.i64 (Int.fdiv labels (4 : Int)) (15 : Int) ≤ (15 : Int))) = true ∧
 (decide (Go.bits BinOp.and IntKind.i64 labels (3 : Int) ≤ Go.bits BinOp.and IntKind.i64 labels (3 : Int))) = true ∧
 (!decide (Go.bits BinOp.andNot IntKind.i64 (Go.bits BinOp.and IntKind.i64 (Int.fdiv labels (4 : Int)) (15 : Int)) (Go.bits BinOp.and IntKind.i64 (Int.fdiv labels (4 : Int)) (15 : Int)) = (0 : Int))) = false ∧
 (((decide ((3 : Int) < Go.bits BinOp.and IntKind.i64 fill (31 : Int))) = true → (decide ((0 : Int) ≤ Go.bits BinOp.and IntKind.i64 labels (3 : Int))) = true ∧
 (decide (Go.bits BinOp.and IntKind.i64 labels (3 : Int) ≤ (3 : Int))) = true ∧
 (decide ((0 : Int) ≤ Go.bits BinOp.and IntKind.i64 (Int.fdiv labels (4 : Int)) (15 : Int))) = true ∧
 (decide (Go.bits BinOp.and IntKind.i64 (Int.fdiv labels (4 : Int)) (15 : Int) ≤ (15 : Int))) = true ∧
 (decide ((0 : Int) ≤ Go.bits BinOp.and IntKind.i64 labels (3 : Int))) = true ∧
 (decide (Go.bits BinOp.and IntKind.i64 labels (3 : Int) ≤ (3 : Int))) = true ∧
 (decide ((0 : Int) ≤ Go.bits BinOp.and IntKind.i64 (Int.fdiv labels (4 : Int)) (15 : Int))) = true ∧
 (decide (Go.bits BinOp.and IntKind.i64 (Int.fdiv labels (4 : Int)) (15 : Int) ≤ (15 : Int))) = true ∧
 (decide (Go.bits BinOp.and IntKind.i64 labels (3 : Int) ≤ Go.bits BinOp.and IntKind.i64 labels (3 : Int))) = true ∧
 (!decide (Go.bits BinOp.andNot IntKind.i64 (Go.bits BinOp.and IntKind.i64 (Int.fdiv labels (4 : Int)) (15 : Int)) (Go.bits BinOp.and IntKind.i64 (Int.fdiv labels (4 : Int)) (15 : Int)) = (0 : Int))) = false ∧
 (((decide ((4 : Int) < Go.bits BinOp.and IntKind.i64 fill (31 : Int))) = true → (decide ((0 : Int) ≤ Go.bits BinOp.and IntKind.i64 labels (3 : Int))) = true ∧
 (decide (Go.bits BinOp.and IntKind.i64 labels (3 : Int) ≤ (3 : Int))) = true ∧
 (decide ((0 : Int) ≤ Go.bits BinOp.and IntKind.i64 (Int.fdiv labels (4 : Int)) (15 : Int))) = true ∧
 (decide (Go.bits BinOp.and IntKind.i64 (Int.fdiv labels (4 : Int)) (15 : Int) ≤ (15 : Int))) = true ∧
 (decide ((0 : Int) ≤ Go.bits BinOp.and IntKind.i64 labels (3 : Int))) = true ∧
 (decide (Go.bits BinOp.and IntKind.i64 labels (3 : Int) ≤ (3 : Int))) = true ∧
 (decide ((0 : Int) ≤ Go.bits BinOp.and IntKind.i64 (Int.fdiv labels (4 : Int)) (15 : Int))) = true ∧
 (decide (Go.bits BinOp.and IntKind.i64 (Int.fdiv labels (4 : Int)) (15 : Int) ≤ (15 : Int))) = true ∧
 (decide (Go.bits BinOp.and IntKind.i64 labels (3 : Int) ≤ Go.bits BinOp.and IntKind.i64 labels (3 : Int))) = true ∧
 (!decide (Go.bits BinOp.andNot IntKind.i64 (Go.bits BinOp.and IntKind.i64 (Int.fdiv labels (4 : Int)) (15 : Int)) (Go.bits BinOp.and IntKind.i64 (Int.fdiv labels (4 : Int)) (15 : Int)) = (0 : Int))) = false ∧
 (((decide ((5 : Int) < Go.bits BinOp.and IntKind.i64 fill (31 : Int))) = true → (decide ((0 : Int) ≤ Go.bits BinOp.and IntKind.i64 labels (3 : Int))) = true ∧
 (decide (Go.bits BinOp.and IntKind.i64 labels (3 : Int) ≤ (3 : Int))) = true ∧
 (decide ((0 : Int) ≤ Go.bits BinOp.and IntKind.i64 (Int.fdiv labels (4 : Int)) (15 : Int))) = true ∧
 (decide (Go.bits BinOp.and IntKind.i64 (Int.fdiv labels (4 : Int)) (15 : Int) ≤ (15 : Int))) = true ∧
 (decide ((0 : Int) ≤ Go.bits BinOp.and IntKind.i64 labels (3 : Int))) = true ∧
 (decide (Go.bits BinOp.and IntKind.i64 labels (3 : Int) ≤ (3 : Int))) = true ∧
 (decide ((0 : Int) ≤ Go.bits BinOp.and IntKind.i64 (Int.fdiv labels (4 : Int)) (15 : Int))) = true ∧
 (decide (Go.bits BinOp.and IntKind.i64 (Int.fdiv labels (4 : Int)) (15 : Int) ≤ (15 : Int))) = true ∧
 (decide (Go.bits BinOp.and IntKind.i64 labels (3 : Int) ≤ Go.bits BinOp.and IntKind.i64 labels (3 : Int))) = true ∧
 (!decide (Go.bits BinOp.andNot IntKind.i64 (Go.bits BinOp.and IntKind.i64 (Int.fdiv labels (4 : Int)) (15 : Int)) (Go.bits BinOp.and IntKind.i64 (Int.fdiv labels (4 : Int)) (15 : Int)) = (0 : Int))) = false ∧
 (((decide ((6 : Int) < Go.bits BinOp.and IntKind.i64 fill (31 : Int))) = true → (decide ((0 : Int) ≤ Go.bits BinOp.and IntKind.i64 labels (3 : Int))) = true ∧
 (decide (Go.bits BinOp.and IntKind.i64 labels (3 : Int) ≤ (3 : Int))) = true ∧
 (decide ((0 : Int) ≤ Go.bits BinOp.and IntKind.i64 (Int.fdiv labels (4 : Int)) (15 : Int))) = true ∧
 (decide (Go.bits BinOp.and IntKind.i64 (Int.fdiv labels (4 : Int)) (15 : Int) ≤ (15 : Int))) = true ∧
 (decide ((0 : Int) ≤ Go.bits BinOp.and IntKind.i64 labels (3 : Int))) = true ∧
 (decide (Go.bits BinOp.and IntKind.i64 labels (3 : Int) ≤ (3 : Int))) = true ∧
 (decide ((0 : Int) ≤ Go.bits BinOp.and IntKind.i64 (Int.fdiv labels (4 : Int)) (15 : Int))) = true ∧
 (decide (Go.bits BinOp.and IntKind.i64 (Int.fdiv labels (4 : Int)) (15 : Int) ≤ (15 : Int))) = true ∧
 (decide (Go.bits BinOp.and IntKind.i64 labels (3 : Int) ≤ Go.bits BinOp.and IntKind.i64 labels (3 : Int))) = true ∧
 (!decide (Go.bits BinOp.andNot IntKind.i64 (Go.bits BinOp.and IntKind.i64 (Int.fdiv labels (4 : Int)) (15 : Int)) (Go.bits BinOp.and IntKind.i64 (Int.fdiv labels (4 : Int)) (15 : Int)) = (0 : Int))) = false ∧
 (((decide ((7 : Int) < Go.bits BinOp.and IntKind.i64 fill (31 : Int))) = true → (decide ((0 : Int) ≤ Go.bits BinOp.and IntKind.i64 labels (3 : Int))) = true ∧
 (decide (Go.bits BinOp.and IntKind.i64 labels (3 : Int) ≤ (3 : Int))) = true ∧
 (decide ((0 : Int) ≤ Go.bits BinOp.and IntKind.i64 (Int.fdiv labels (4 : Int)) (15 : Int))) = true ∧
 (decide (Go.bits BinOp.and IntKind.i64 (Int.fdiv labels (4 : Int)) (15 : Int) ≤ (15 : Int))) = true ∧
 (decide ((0 : Int) ≤ Go.bits BinOp.and IntKind.i64 labels (3 : Int))) = true ∧
 (decide (Go.bits BinOp.and IntKind.i64 labels (3 : Int) ≤ (3 : Int))) = true ∧
 (decide ((0 : Int) ≤ Go.bits BinOp.and IntKind.i64 (Int.fdiv labels (4 : Int)) (15 : Int))) = true ∧
 (decide (Go.bits BinOp.and IntKind.i64 (Int.fdiv labels (4 : Int)) (15 : Int) ≤ (15 : Int))) = true ∧
 (decide (Go.bits BinOp.and IntKind.i64 labels (3 : Int) ≤ Go.bits BinOp.and IntKind.i64 labels (3 : Int))) = true ∧
 (!decide (Go.bits BinOp.andNot IntKind.i64 (Go.bits BinOp.and IntKind.i64 (Int.fdiv labels (4 : Int)) (15 : Int)) (Go.bits BinOp.and IntKind.i64 (Int.fdiv labels (4 : Int)) (15 : Int)) = (0 : Int))) = false ∧
 (((decide ((8 : Int) < Go.bits BinOp.and IntKind.i64 fill (31 : Int))) = true → (decide ((0 : Int) ≤ Go.bits BinOp.and IntKind.i64 labels (3 : Int))) = true ∧
 (decide (Go.bits BinOp.and IntKind.i64 labels (3 : Int) ≤ (3 : Int))) = true ∧
 (decide ((0 : Int) ≤ Go.bits BinOp.and IntKind.i64 (Int.fdiv labels (4 : Int)) (15 : Int))) = true ∧
 (decide (Go.bits BinOp.and IntKind.i64 (Int.fdiv labels (4 : Int)) (15 : Int) ≤ (15 : Int))) = true ∧
 (decide ((0 : Int) ≤ Go.bits BinOp.and IntKind.i64 labels (3 : Int))) = true ∧
 (decide (Go.bits BinOp.and IntKind.i64 labels (3 : Int) ≤ (3 : Int))) = true ∧
 (decide ((0 : Int) ≤ Go.bits BinOp.and IntKind.i64 (Int.fdiv labels (4 : Int)) (15 : Int))) = true ∧
 (decide (Go.bits BinOp.and IntKind.i64 (Int.fdiv labels (4 : Int)) (15 : Int) ≤ (15 : Int))) = true ∧
 (decide (Go.bits BinOp.and IntKind.i64 labels (3 : Int) ≤ Go.bits BinOp.and IntKind.i64 labels (3 : Int))) = true ∧
 (!decide (Go.bits BinOp.andNot IntKind.i64 (Go.bits BinOp.and IntKind.i64 (Int.fdiv labels (4 : Int)) (15 : Int)) (Go.bits BinOp.and IntKind.i64 (Int.fdiv labels (4 : Int)) (15 : Int)) = (0 : Int))) = false ∧
 (((decide ((9 : Int) < Go.bits BinOp.and IntKind.i64 fill (31 : Int))) = true → (decide ((0 : Int) ≤ Go.bits BinOp.and IntKind.i64 labels (3 : Int))) = true ∧
 (decide (Go.bits BinOp.and IntKind.i64 labels (3 : Int) ≤ (3 : Int))) = true ∧
 (decide ((0 : Int) ≤ Go.bits BinOp.and IntKind.i64 (Int.fdiv labels (4 : Int)) (15 : Int))) = true ∧
 (decide (Go.bits BinOp.and IntKind.i64 (Int.fdiv labels (4 : Int)) (15 : Int) ≤ (15 : Int))) = true ∧
 (decide ((0 : Int) ≤ Go.bits BinOp.and IntKind.i64 labels (3 : Int))) = true ∧
 (decide (Go.bits BinOp.and IntKind.i64 labels (3 : Int) ≤ (3 : Int))) = true ∧
 (decide ((0 : Int) ≤ Go.bits BinOp.and IntKind.i64 (Int.fdiv labels (4 : Int)) (15 : Int))) = true ∧
 (decide (Go.bits BinOp.and IntKind.i64 (Int.fdiv labels (4 : Int)) (15 : Int) ≤ (15 : Int))) = true ∧
 (decide (Go.bits BinOp.and IntKind.i64 labels (3 : Int) ≤ Go.bits BinOp.and IntKind.i64 labels (3 : Int))) = true ∧
 (!decide (Go.bits BinOp.andNot IntKind.i64 (Go.bits BinOp.and IntKind.i64 (Int.fdiv labels (4 : Int)) (15 : Int)) (Go.bits BinOp.and IntKind.i64 (Int.fdiv labels (4 : Int)) (15 : Int)) = (0 : Int))) = false ∧
 (((decide ((10 : Int) < Go.bits BinOp.and IntKind.i64 fill (31 : Int))) = true → (decide ((0 : Int) ≤ Go.bits BinOp.and IntKind.i64 labels (3 : Int))) = true ∧
 (decide (Go.bits BinOp.and IntKind.i64 labels (3 : Int) ≤ (3 : Int))) = true ∧
 (decide ((0 : Int) ≤ Go.bits BinOp.and IntKind.i64 (Int.fdiv labels (4 : Int)) (15 : Int))) = true ∧
 (decide (Go.bits BinOp.and IntKind.i64 (Int.fdiv labels (4 : Int)) (15 : Int) ≤ (15 : Int))) = true ∧
 (decide ((0 : Int) ≤ Go.bits BinOp.and IntKind.i64 labels (3 : Int))) = true ∧
 (decide (Go.bits BinOp.and IntKind.i64 labels (3 : Int) ≤ (3 : Int))) = true ∧
 (decide ((0 : Int) ≤ Go.bits BinOp.and IntKind.i64 (Int.fdiv labels (4 : Int)) (15 : Int))) = true ∧
 (decide (Go.bits BinOp.and IntKind.i64 (Int.fdiv labels (4 : Int)) (15 : Int) ≤ (15 : Int))) = true ∧
 (decide (Go.bits BinOp.and IntKind.i64 labels (3 : Int) ≤ Go.bits BinOp.and IntKind.i64 labels (3 : Int))) = true ∧
 (!decide (Go.bits BinOp.andNot IntKind.i64 (Go.bits BinOp.and IntKind.i64 (Int.fdiv labels (4 : Int)) (15 : Int)) (Go.bits BinOp.and IntKind.i64 (Int.fdiv labels (4 : Int)) (15 : Int)) = (0 : Int))) = false ∧
 (((decide ((11 : Int) < Go.bits BinOp.and IntKind.i64 fill (31 : Int))) = true → (decide ((0 : Int) ≤ Go.bits BinOp.and IntKind.i64 labels (3 : Int))) = true ∧
 (decide (Go.bits BinOp.and IntKind.i64 labels (3 : Int) ≤ (3 : Int))) = true ∧
 (decide ((0 : Int) ≤ Go.bits BinOp.and IntKind.i64 (Int.fdiv labels (4 : Int)) (15 : Int))) = true ∧
 (decide (Go.bits BinOp.and IntKind.i64 (Int.fdiv labels (4 : Int)) (15 : Int) ≤ (15 : Int))) = true ∧
 (decide ((0 : Int) ≤ Go.bits BinOp.and IntKind.i64 labels (3 : Int))) = true ∧
 (decide (Go.bits BinOp.and IntKind.i64 labels (3 : Int) ≤ (3 : Int))) = true ∧
 (decide ((0 : Int) ≤ Go.bits BinOp.and IntKind.i64 (Int.fdiv labels (4 : Int)) (15 : Int))) = true ∧
 (decide (Go.bits BinOp.and IntKind.i64 (Int.fdiv labels (4 : Int)) (15 : Int) ≤ (15 : Int))) = true ∧
 (decide (Go.bits BinOp.and IntKind.i64 labels (3 : Int) ≤ Go.bits BinOp.and IntKind.i64 labels (3 : Int))) = true ∧
 (!decide (Go.bits BinOp.andNot IntKind.i64 (Go.bits BinOp.and IntKind.i64 (Int.fdiv labels (4 : Int)) (15 : Int)) (Go.bits BinOp.and IntKind.i64 (Int.fdiv labels (4 : Int)) (15 : Int)) = (0 : Int))) = false ∧
 (((decide ((12 : Int) < Go.bits BinOp.and IntKind.i64 fill (31 : Int))) = true → (decide ((0 : Int) ≤ Go.bits BinOp.and IntKind.i64 labels (3 : Int))) = true ∧
 (decide (Go.bits BinOp.and IntKind.i64 labels (3 : Int) ≤ (3 : Int))) = true ∧
 (decide ((0 : Int) ≤ Go.bits BinOp.and IntKind.i64 (Int.fdiv labels (4 : Int)) (15 : Int))) = true ∧
 (decide (Go.bits BinOp.and IntKind.i64 (Int.fdiv labels (4 : Int)) (15 : Int) ≤ (15 : Int))) = true ∧
 (decide ((0 : Int) ≤ Go.bits BinOp.and IntKind.i64 labels (3 : Int))) = true ∧
 (decide (Go.bits BinOp.and IntKind.i64 labels (3 : Int) ≤ (3 : Int))) = true ∧
 (decide ((0 : Int) ≤ Go.bits BinOp.and IntKind.i64 (Int.fdiv labels (4 : Int)) (15 : Int))) = true ∧
 (decide (Go.bits BinOp.and IntKind.i64 (Int.fdiv labels (4 : Int)) (15 : Int) ≤ (15 : Int))) = true ∧
 (decide (Go.bits BinOp.and IntKind.i64 labels (3 : Int) ≤ Go.bits BinOp.and IntKind.i64 labels (3 : Int))) = true ∧
 (!decide (Go.bits BinOp.andNot IntKind.i64 (Go.bits BinOp.and IntKind.i64 (Int.fdiv labels (4 : Int)) (15 : Int)) (Go.bits BinOp.and IntKind.i64 (Int.fdiv labels (4 : Int)) (15 : Int)) = (0 : Int))) = false ∧
 (((decide ((13 : Int) < Go.bits BinOp.and IntKind.i64 fill (31 : Int))) = true → (decide ((0 : Int) ≤ Go.bits BinOp.and IntKind.i64 labels (3 : Int))) = true ∧
 (decide (Go.bits BinOp.and IntKind.i64 labels (3 : Int) ≤ (3 : Int))) = true ∧
 (decide ((0 : Int) ≤ Go.bits BinOp.and IntKind.i64 (Int.fdiv labels (4 : Int)) (15 : Int))) = true ∧
 (decide (Go.bits BinOp.and IntKind.i64 (Int.fdiv labels (4 : Int)) (15 : Int) ≤ (15 : Int))) = true ∧
 (decide ((0 : Int) ≤ Go.bits BinOp.and IntKind.i64 labels (3 : Int))) = true ∧
 (decide (Go.bits BinOp.and IntKind.i64 labels (3 : Int) ≤ (3 : Int))) = true ∧
 (decide ((0 : Int) ≤ Go.bits BinOp.and IntKind.i64 (Int.fdiv labels (4 : Int)) (15 : Int))) = true ∧
 (decide (Go.bits BinOp.and IntKind.i64 (Int.fdiv labels (4 : Int)) (15 : Int) ≤ (15 : Int))) = true ∧
 (decide (Go.bits BinOp.and IntKind.i64 labels (3 : Int) ≤ Go.bits BinOp.and IntKind.i64 labels (3 : Int))) = true ∧
 (!decide (Go.bits BinOp.andNot IntKind.i64 (Go.bits BinOp.and IntKind.i64 (Int.fdiv labels (4 : Int)) (15 : Int)) (Go.bits BinOp.and IntKind.i64 (Int.fdiv labels (4 : Int)) (15 : Int)) = (0 : Int))) = false ∧
 (((decide ((14 : Int) < Go.bits BinOp.and IntKind.i64 fill (31 : Int))) = true → (decide ((0 : Int) ≤ Go.bits BinOp.and IntKind.i64 labels (3 : Int))) = true ∧
 (decide (Go.bits BinOp.and IntKind.i64 labels (3 : Int) ≤ (3 : Int))) = true ∧
 (decide ((0 : Int) ≤ Go.bits BinOp.and IntKind.i64 (Int.fdiv labels (4 : Int)) (15 : Int))) = true ∧
 (decide (Go.bits BinOp.and IntKind.i64 (Int.fdiv labels (4 : Int)) (15 : Int) ≤ (15 : Int))) = true ∧
 (decide ((0 : Int) ≤ Go.bits BinOp.and IntKind.i64 labels (3 : Int))) = true ∧
 (decide (Go.bits BinOp.and IntKind.i64 labels (3 : Int) ≤ (3 : Int))) = true ∧
 (decide ((0 : Int) ≤ Go.bits BinOp.and IntKind.i64 (Int.fdiv labels (4 : Int)) (15 : Int))) = true ∧
 (decide (Go.bits BinOp.and IntKind.i64 (Int.fdiv labels (4 : Int)) (15 : Int) ≤ (15 : Int))) = true ∧
 (decide (Go.bits BinOp.and IntKind.i64 labels (3 : Int) ≤ Go.bits BinOp.and IntKind.i64 labels (3 : Int))) = true ∧
 (!decide (Go.bits BinOp.andNot IntKind.i64 (Go.bits BinOp.and IntKind.i64 (Int.fdiv labels (4 : Int)) (15 : Int)) (Go.bits BinOp.and IntKind.i64 (Int.fdiv labels (4 : Int)) (15 : Int)) = (0 : Int))) = false ∧
 (((decide ((15 : Int) < Go.bits BinOp.and IntKind.i64 fill (31 : Int))) = true → (decide ((0 : Int) ≤ Go.bits BinOp.and IntKind.i64 labels (3 : Int))) = true ∧
 (decide (Go.bits BinOp.and IntKind.i64 labels (3 : Int) ≤ (3 : Int))) = true ∧
 (decide ((0 : Int) ≤ Go.bits BinOp.and IntKind.i64 (Int.fdiv labels (4 : Int)) (15 : Int))) = true ∧
 (decide (Go.bits BinOp.and IntKind.i64 (Int.fdiv labels (4 : Int)) (15 : Int) ≤ (15 : Int))) = true ∧
 (decide ((0 : Int) ≤ Go.bits BinOp.and IntKind.i64 labels (3 : Int))) = true ∧
 (decide (Go.bits BinOp.and IntKind.i64 labels (3 : Int) ≤ (3 : Int))) = true ∧
 (decide ((0 : Int) ≤ Go.bits BinOp.and IntKind.i64 (Int.fdiv labels (4 : Int)) (15 : Int))) = true ∧
 (decide (Go.bits BinOp.and IntKind.i64 (Int.fdiv labels (4 : Int)) (15 : Int) ≤ (15 : Int))) = true ∧
 (decide (Go.bits BinOp.and IntKind.i64 labels (3 : Int) ≤ Go.bits BinOp.and IntKind.i64 labels (3 : Int))) = true ∧
 (!decide (Go.bits BinOp.andNot IntKind.i64 (Go.bits BinOp.and IntKind.i64 (Int.fdiv labels (4 : Int)) (15 : Int)) (Go.bits BinOp.and IntKind.i64 (Int.fdiv labels (4 : Int)) (15 : Int)) = (0 : Int))) = false ∧
 (((decide ((16 : Int) < Go.bits BinOp.and IntKind.i64 fill (31 : Int))) = true → (decide ((0 : Int) ≤ Go.bits BinOp.and IntKind.i64 labels (3 : Int))) = true ∧
 (decide (Go.bits BinOp.and IntKind.i64 labels (3 : Int) ≤ (3 : Int))) = true ∧
 (decide ((0 : Int) ≤ Go.bits BinOp.and IntKind.i64 (Int.fdiv labels (4 : Int)) (15 : Int))) = true ∧
 (decide (Go.bits BinOp.and IntKind.i64 (Int.fdiv labels (4 : Int)) (15 : Int) ≤ (15 : Int))) = true ∧
 (decide ((0 : Int) ≤ Go.bits BinOp.and IntKind.i64 labels (3 : Int))) = true ∧
 (decide (Go.bits BinOp.and IntKind.i64 labels (3 : Int) ≤ (3 : Int))) = true ∧
 (decide ((0 : Int) ≤ Go.bits BinOp.and IntKind.i64 (Int.fdiv labels (4 : Int)) (15 : Int))) = true ∧
 (decide (Go.bits BinOp.and IntKind.i64 (Int.fdiv labels (4 : Int)) (15 : Int) ≤ (15 : Int))) = true ∧
 (decide (Go.bits BinOp.and IntKind.i64 labels (3 : Int) ≤ Go.bits BinOp.and IntKind.i64 labels (3 : Int))) = true ∧
 (!decide (Go.bits BinOp.andNot IntKind.i64 (Go.bits BinOp.and IntKind.i64 (Int.fdiv labels (4 : Int)) (15 : Int)) (Go.bits BinOp.and IntKind.i64 (Int.fdiv labels (4 : Int)) (15 : Int)) = (0 : Int))) = false ∧
 (((decide ((17 : Int) < Go.bits BinOp.and IntKind.i64 fill (31 : Int))) = true → (decide ((0 : Int) ≤ Go.bits BinOp.and IntKind.i64 labels (3 : Int))) = true ∧
 (decide (Go.bits BinOp.and IntKind.i64 labels (3 : Int) ≤ (3 : Int))) = true ∧
 (decide ((0 : Int) ≤ Go.bits BinOp.and IntKind.i64 (Int.fdiv labels (4 : Int)) (15 : Int))) = true ∧
 (decide (Go.bits BinOp.and IntKind.i64 (Int.fdiv labels (4 : Int)) (15 : Int) ≤ (15 : Int))) = true ∧
 (decide ((0 : Int) ≤ Go.bits BinOp.and IntKind.i64 labels (3 : Int))) = true ∧
 (decide (Go.bits BinOp.and IntKind.i64 labels (3 : Int) ≤ (3 : Int))) = true ∧
 (decide ((0 : Int) ≤ Go.bits BinOp.and IntKind.i64 (Int.fdiv labels (4 : Int)) (15 : Int))) = true ∧
 (decide (Go.bits BinOp.and IntKind.i64 (Int.fdiv labels (4 : Int)) (15 : Int) ≤ (15 : Int))) = true ∧
 (decide (Go.bits BinOp.and IntKind.i64 labels (3 : Int) ≤ Go.bits BinOp.and IntKind.i64 labels (3 : Int))) = true ∧
 (!decide (Go.bits BinOp.andNot IntKind.i64 (Go.bits BinOp.and IntKind.i64 (Int.fdiv labels (4 : Int)) (15 : Int)) (Go.bits BinOp.and IntKind.i64 (Int.fdiv labels (4 : Int)) (15 : Int)) = (0 : Int))) = false ∧
 (((decide ((18 : Int) < Go.bits BinOp.and IntKind.i64 fill (31 : Int))) = true → (decide ((0 : Int) ≤ Go.bits BinOp.and IntKind.i64 labels (3 : Int))) = true ∧
 (decide (Go.bits BinOp.and IntKind.i64 labels (3 : Int) ≤ (3 : Int))) = true ∧
 (decide ((0 : Int) ≤ Go.bits BinOp.and IntKind.i64 (Int.fdiv labels (4 : Int)) (15 : Int))) = true ∧
 (decide (Go.bits BinOp.and IntKind.i64 (Int.fdiv labels (4 : Int)) (15 : Int) ≤ (15 : Int))) = true ∧
 (decide ((0 : Int) ≤ Go.bits BinOp.and IntKind.i64 labels (3 : Int))) = true ∧
 (decide (Go.bits BinOp.and IntKind.i64 labels (3 : Int) ≤ (3 : Int))) = true ∧
 (decide ((0 : Int) ≤ Go.bits BinOp.and IntKind.i64 (Int.fdiv labels (4 : Int)) (15 : Int))) = true ∧
 (decide (Go.bits BinOp.and IntKind.i64 (Int.fdiv labels (4 : Int)) (15 : Int) ≤ (15 : Int))) = true ∧
 (decide (Go.bits BinOp.and IntKind.i64 labels (3 : Int) ≤ Go.bits BinOp.and IntKind.i64 labels (3 : Int))) = true ∧
 (!decide (Go.bits BinOp.andNot IntKind.i64 (Go.bits BinOp.and IntKind.i64 (Int.fdiv labels (4 : Int)) (15 : Int)) (Go.bits BinOp.and IntKind.i64 (Int.fdiv labels (4 : Int)) (15 : Int)) = (0 : Int))) = false ∧
 (((decide ((19 : Int) < Go.bits BinOp.and IntKind.i64 fill (31 : Int))) = true → (decide ((0 : Int) ≤ Go.bits BinOp.and IntKind.i64 labels (3 : Int))) = true ∧
 (decide (Go.bits BinOp.and IntKind.i64 labels (3 : Int) ≤ (3 : Int))) = true ∧
 (decide ((0 : Int) ≤ Go.bits BinOp.and IntKind.i64 (Int.fdiv labels (4 : Int)) (15 : Int))) = true ∧
 (decide (Go.bits BinOp.and IntKind.i64 (Int.fdiv labels (4 : Int)) (15 : Int) ≤ (15 : Int))) = true ∧
 (decide ((0 : Int) ≤ Go.bits BinOp.and IntKind.i64 labels (3 : Int))) = true ∧
 (decide (Go.bits BinOp.and IntKind.i64 labels (3 : Int) ≤ (3 : Int))) = true ∧
 (decide ((0 : Int) ≤ Go.bits BinOp.and IntKind.i64 (Int.fdiv labels (4 : Int)) (15 : Int))) = true ∧
 (decide (Go.bits BinOp.and IntKind.i64 (Int.fdiv labels (4 : Int)) (15 : Int) ≤ (15 : Int))) = true ∧
 (decide (Go.bits BinOp.and IntKind.i64 labels (3 : Int) ≤ Go.bits BinOp.and IntKind.i64 labels (3 : Int))) = true ∧
 (!decide (Go.bits BinOp.andNot IntKind.i64 (Go.bits BinOp.and IntKind.i64 (Int.fdiv labels (4 : Int)) (15 : Int)) (Go.bits BinOp.and IntKind.i64 (Int.fdiv labels (4 : Int)) (15 : Int)) = (0 : Int))) = false ∧
 (((decide ((20 : Int) < Go.bits BinOp.and IntKind.i64 fill (31 : Int))) = true → (decide ((0 : Int) ≤ Go.bits BinOp.and IntKind.i64 labels (3 : Int))) = true ∧
 (decide (Go.bits BinOp.and IntKind.i64 labels (3 : Int) ≤ (3 : Int))) = true ∧
 (decide ((0 : Int) ≤ Go.bits BinOp.and IntKind.i64 (Int.fdiv labels (4 : Int)) (15 : Int))) = true ∧
 (decide (Go.bits BinOp.and IntKind.i64 (Int.fdiv labels (4 : Int)) (15 : Int) ≤ (15 : Int))) = true ∧
 (decide ((0 : Int) ≤ Go.bits BinOp.and IntKind.i64 labels (3 : Int))) = true ∧
 (decide (Go.bits BinOp.and IntKind.i64 labels (3 : Int) ≤ (3 : Int))) = true ∧
 (decide ((0 : Int) ≤ Go.bits BinOp.and IntKind.i64 (Int.fdiv labels (4 : Int)) (15 : Int))) = true ∧
 (decide (Go.bits BinOp.and IntKind.i64 (Int.fdiv labels (4 : Int)) (15 : Int) ≤ (15 : Int))) = true ∧
 (decide (Go.bits BinOp.and IntKind.i64 labels (3 : Int) ≤ Go.bits BinOp.and IntKind.i64 labels (3 : Int))) = true ∧
 (!decide (Go.bits BinOp.andNot IntKind.i64 (Go.bits BinOp.and IntKind.i64 (Int.fdiv labels (4 : Int)) (15 : Int)) (Go.bits BinOp.and IntKind.i64 (Int.fdiv labels (4 : Int)) (15 : Int)) = (0 : Int))) = false ∧
 (((decide ((21 : Int) < Go.bits BinOp.and IntKind.i64 fill (31 : Int))) = true → (decide ((0 : Int) ≤ Go.bits BinOp.and IntKind.i64 labels (3 : Int))) = true ∧
 (decide (Go.bits BinOp.and IntKind.i64 labels (3 : Int) ≤ (3 : Int))) = true ∧
 (decide ((0 : Int) ≤ Go.bits BinOp.and IntKind.i64 (Int.fdiv labels (4 : Int)) (15 : Int))) = true ∧
 (decide (Go.bits BinOp.and IntKind.i64 (Int.fdiv labels (4 : Int)) (15 : Int) ≤ (15 : Int))) = true ∧
 (decide ((0 : Int) ≤ Go.bits BinOp.and IntKind.i64 labels (3 : Int))) = true ∧
 (decide (Go.bits BinOp.and IntKind.i64 labels (3 : Int) ≤ (3 : Int))) = true ∧
 (decide ((0 : Int) ≤ Go.bits BinOp.and IntKind.i64 (Int.fdiv labels (4 : Int)) (15 : Int))) = true ∧
 (decide (Go.bits BinOp.and IntKind.i64 (Int.fdiv labels (4 : Int)) (15 : Int) ≤ (15 : Int))) = true ∧
 (decide (Go.bits BinOp.and IntKind.i64 labels (3 : Int) ≤ Go.bits BinOp.and IntKind.i64 labels (3 : Int))) = true ∧
 (!decide (Go.bits BinOp.andNot IntKind.i64 (Go.bits BinOp.and IntKind.i64 (Int.fdiv labels (4 : Int)) (15 : Int)) (Go.bits BinOp.and IntKind.i64 (Int.fdiv labels (4 : Int)) (15 : Int)) = (0 : Int))) = false ∧
 (((decide ((22 : Int) < Go.bits BinOp.and IntKind.i64 fill (31 : Int))) = true → (decide ((0 : Int) ≤ Go.bits BinOp.and IntKind.i64 labels (3 : Int))) = true ∧
 (decide (Go.bits BinOp.and IntKind.i64 labels (3 : Int) ≤ (3 : Int))) = true ∧
 (decide ((0 : Int) ≤ Go.bits BinOp.and IntKind.i64 (Int.fdiv labels (4 : Int)) (15 : Int))) = true ∧
 (decide (Go.bits BinOp.and IntKind.i64 (Int.fdiv labels (4 : Int)) (15 : Int) ≤ (15 : Int))) = true ∧
 (decide ((0 : Int) ≤ Go.bits BinOp.and IntKind.i64 labels (3 : Int))) = true ∧
 (decide (Go.bits BinOp.and IntKind.i64 labels (3 : Int) ≤ (3 : Int))) = true ∧
 (decide ((0 : Int) ≤ Go.bits BinOp.and IntKind.i64 (Int.fdiv labels (4 : Int)) (15 : Int))) = true ∧
 (decide (Go.bits BinOp.and IntKind.i64 (Int.fdiv labels (4 : Int)) (15 : Int) ≤ (15 : Int))) = true ∧
 (decide (Go.bits BinOp.and IntKind.i64 labels (3 : Int) ≤ Go.bits BinOp.and IntKind.i64 labels (3 : Int))) = true ∧
 (!decide (Go.bits BinOp.andNot IntKind.i64 (Go.bits BinOp.and IntKind.i64 (Int.fdiv labels (4 : Int)) (15 : Int)) (Go.bits BinOp.and IntKind.i64 (Int.fdiv labels (4 : Int)) (15 : Int)) = (0 : Int))) = false ∧
 (((decide ((23 : Int) < Go.bits BinOp.and IntKind.i64 fill (31 : Int))) = true → (decide ((0 : Int) ≤ Go.bits BinOp.and IntKind.i64 labels (3 : Int))) = true ∧
 (decide (Go.bits BinOp.and IntKind.i64 labels (3 : Int) ≤ (3 : Int))) = true ∧
 (decide ((0 : Int) ≤ Go.bits BinOp.and IntKind.i64 (Int.fdiv labels (4 : Int)) (15 : Int))) = true ∧
 (decide (Go.bits BinOp.and IntKind.i64 (Int.fdiv labels (4 : Int)) (15 : Int) ≤ (15 : Int))) = true ∧
 (decide ((0 : Int) ≤ Go.bits BinOp.and IntKind.i64 labels (3 : Int))) = true ∧
 (decide (Go.bits BinOp.and IntKind.i64 labels (3 : Int) ≤ (3 : Int))) = true ∧
 (decide ((0 : Int) ≤ Go.bits BinOp.and IntKind.i64 (Int.fdiv labels (4 : Int)) (15 : Int))) = true ∧
 (decide (Go.bits BinOp.and IntKind.i64 (Int.fdiv labels (4 : Int)) (15 : Int) ≤ (15 : Int))) = true ∧
 (decide (Go.bits BinOp.and IntKind.i64 labels (3 : Int) ≤ Go.bits BinOp.and IntKind.i64 labels (3 : Int))) = true ∧
 (!decide (Go.bits BinOp.andNot IntKind.i64 (Go.bits BinOp.and IntKind.i64 (Int.fdiv labels (4 : Int)) (15 : Int)) (Go.bits BinOp.and IntKind.i64 (Int.fdiv labels (4 : Int)) (15 : Int)) = (0 : Int))) = false ∧
 (((decide ((24 : Int) < Go.bits BinOp.and IntKind.i64 fill (31 : Int))) = true → (decide ((0 : Int) ≤ Go.bits BinOp.and IntKind.i64 labels (3 : Int))) = true ∧
 (decide (Go.bits BinOp.and IntKind.i64 labels (3 : Int) ≤ (3 : Int))) = true ∧
 (decide ((0 : Int) ≤ Go.bits BinOp.and IntKind.i64 (Int.fdiv labels (4 : Int)) (15 : Int))) = true ∧
 (decide (Go.bits BinOp.and IntKind.i64 (Int.fdiv labels (4 : Int)) (15 : Int) ≤ (15 : Int))) = true ∧
 (decide ((0 : Int) ≤ Go.bits BinOp.and IntKind.i64 labels (3 : Int))) = true ∧
 (decide (Go.bits BinOp.and IntKind.i64 labels (3 : Int) ≤ (3 : Int))) = true ∧
 (decide ((0 : Int) ≤ Go.bits BinOp.and IntKind.i64 (Int.fdiv labels (4 : Int)) (15 : Int))) = true ∧
 (decide (Go.bits BinOp.and IntKind.i64 (Int.fdiv labels (4 : Int)) (15 : Int) ≤ (15 : Int))) = true ∧
 (decide (Go.bits BinOp.and IntKind.i64 labels (3 : Int) ≤ Go.bits BinOp.and IntKind.i64 labels (3 : Int))) = true ∧
 (!decide (Go.bits BinOp.andNot IntKind.i64 (Go.bits BinOp.and IntKind.i64 (Int.fdiv labels (4 : Int)) (15 : Int)) (Go.bits BinOp.and IntKind.i64 (Int.fdiv labels (4 : Int)) (15 : Int)) = (0 : Int))) = false ∧
 (((decide ((25 : Int) < Go.bits BinOp.and IntKind.i64 fill (31 : Int))) = true → (decide ((0 : Int) ≤ Go.bits BinOp.and IntKind.i64 labels (3 : Int))) = true ∧
 (decide (Go.bits BinOp.and IntKind.i64 labels (3 : Int) ≤ (3 : Int))) = true ∧
 (decide ((0 : Int) ≤ Go.bits BinOp.and IntKind.i64 (Int.fdiv labels (4 : Int)) (15 : Int))) = true ∧
 (decide (Go.bits BinOp.and IntKind.i64 (Int.fdiv labels (4 : Int)) (15 : Int) ≤ (15 : Int))) = true ∧
 (decide ((0 : Int) ≤ Go.bits BinOp.and IntKind.i64 labels (3 : Int))) = true ∧
 (decide (Go.bits BinOp.and IntKind.i64 labels (3 : Int) ≤ (3 : Int))) = true ∧
 (decide ((0 : Int) ≤ Go.bits BinOp.and IntKind.i64 (Int.fdiv labels (4 : Int)) (15 : Int))) = true ∧
 (decide (Go.bits BinOp.and IntKind.i64 (Int.fdiv labels (4 : Int)) (15 : Int) ≤ (15 : Int))) = true ∧
 (decide (Go.bits BinOp.and IntKind.i64 labels (3 : Int) ≤ Go.bits BinOp.and IntKind.i64 labels (3 : Int))) = true ∧
 (!decide (Go.bits BinOp.andNot IntKind.i64 (Go.bits BinOp.and IntKind.i64 (Int.fdiv labels (4 : Int)) (15 : Int)) (Go.bits BinOp.and IntKind.i64 (Int.fdiv labels (4 : Int)) (15 : Int)) = (0 : Int))) = false ∧
 (((decide ((26 : Int) < Go.bits BinOp.and IntKind.i64 fill (31 : Int))) = true → (decide ((0 : Int) ≤ Go.bits BinOp.and IntKind.i64 labels (3 : Int))) = true ∧
 (decide (Go.bits BinOp.and IntKind.i64 labels (3 : Int) ≤ (3 : Int))) = true ∧
 (decide ((0 : Int) ≤ Go.bits BinOp.and IntKind.i64 (Int.fdiv labels (4 : Int)) (15 : Int))) = true ∧
 (decide (Go.bits BinOp.and IntKind.i64 (Int.fdiv labels (4 : Int)) (15 : Int) ≤ (15 : Int))) = true ∧
 (decide ((0 : Int) ≤ Go.bits BinOp.and IntKind.i64 labels (3 : Int))) = true ∧
 (decide (Go.bits BinOp.and IntKind.i64 labels (3 : Int) ≤ (3 : Int))) = true ∧
 (decide ((0 : Int) ≤ Go.bits BinOp.and IntKind.i64 (Int.fdiv labels (4 : Int)) (15 : Int))) = true ∧
 (decide (Go.bits BinOp.and IntKind.i64 (Int.fdiv labels (4 : Int)) (15 : Int) ≤ (15 : Int))) = true ∧
 (decide (Go.bits BinOp.and IntKind.i64 labels (3 : Int) ≤ Go.bits BinOp.and IntKind.i64 labels (3 : Int))) = true ∧
 (!decide (Go.bits BinOp.andNot IntKind.i64 (Go.bits BinOp.and IntKind.i64 (Int.fdiv labels (4 : Int)) (15 : Int)) (Go.bits BinOp.and IntKind.i64 (Int.fdiv labels (4 : Int)) (15 : Int)) = (0 : Int))) = false ∧
 (((decide ((27 : Int) < Go.bits BinOp.and IntKind.i64 fill (31 : Int))) = true → (decide ((0 : Int) ≤ Go.bits BinOp.and IntKind.i64 labels (3 : Int))) = true ∧
 (decide (Go.bits BinOp.and IntKind.i64 labels (3 : Int) ≤ (3 : Int))) = true ∧
 (decide ((0 : Int) ≤ Go.bits BinOp.and IntKind.i64 (Int.fdiv labels (4 : Int)) (15 : Int))) = true ∧
 (decide (Go.bits BinOp.and IntKind.i64 (Int.fdiv labels (4 : Int)) (15 : Int) ≤ (15 : Int))) = true ∧
 (decide ((0 : Int) ≤ Go.bits BinOp.and IntKind.i64 labels (3 : Int))) = true ∧
 (decide (Go.bits BinOp.and IntKind.i64 labels (3 : Int) ≤ (3 : Int))) = true ∧
 (decide ((0 : Int) ≤ Go.bits BinOp.and IntKind.i64 (Int.fdiv labels (4 : Int)) (15 : Int))) = true ∧
 (decide (Go.bits BinOp.and IntKind.i64 (Int.fdiv labels (4 : Int)) (15 : Int) ≤ (15 : Int))) = true ∧
 (decide (Go.bits BinOp.and IntKind.i64 labels (3 : Int) ≤ Go.bits BinOp.and IntKind.i64 labels (3 : Int))) = true ∧
 (!decide (Go.bits BinOp.andNot IntKind.i64 (Go.bits BinOp.and IntKind.i64 (Int.fdiv labels (4 : Int)) (15 : Int)) (Go.bits BinOp.and IntKind.i64 (Int.fdiv labels (4 : Int)) (15 : Int)) = (0 : Int))) = false ∧
 (((decide ((28 : Int) < Go.bits BinOp.and IntKind.i64 fill (31 : Int))) = true → (decide ((0 : Int) ≤ Go.bits BinOp.and IntKind.i64 labels (3 : Int))) = true ∧
 (decide (Go.bits BinOp.and IntKind.i64 labels (3 : Int) ≤ (3 : Int))) = true ∧
 (decide ((0 : Int) ≤ Go.bits BinOp.and IntKind.i64 (Int.fdiv labels (4 : Int)) (15 : Int))) = true ∧
 (decide (Go.bits BinOp.and IntKind.i64 (Int.fdiv labels (4 : Int)) (15 : Int) ≤ (15 : Int))) = true ∧
 (decide ((0 : Int) ≤ Go.bits BinOp.and IntKind.i64 labels (3 : Int))) = true ∧
 (decide (Go.bits BinOp.and IntKind.i64 labels (3 : Int) ≤ (3 : Int))) = true ∧
 (decide ((0 : Int) ≤ Go.bits BinOp.and IntKind.i64 (Int.fdiv labels (4 : Int)) (15 : Int))) = true ∧
 (decide (Go.bits BinOp.and IntKind.i64 (Int.fdiv labels (4 : Int)) (15 : Int) ≤ (15 : Int))) = true ∧
 (decide (Go.bits BinOp.and IntKind.i64 labels (3 : Int) ≤ Go.bits BinOp.and IntKind.i64 labels (3 : Int))) = true ∧
 (!decide (Go.bits BinOp.andNot IntKind.i64 (Go.bits BinOp.and IntKind.i64 (Int.fdiv labels (4 : Int)) (15 : Int)) (Go.bits BinOp.and IntKind.i64 (Int.fdiv labels (4 : Int)) (15 : Int)) = (0 : Int))) = false ∧
 (((decide ((29 : Int) < Go.bits BinOp.and IntKind.i64 fill (31 : Int))) = true → (decide ((0 : Int) ≤ Go.bits BinOp.and IntKind.i64 labels (3 : Int))) = true ∧
 (decide (Go.bits BinOp.and IntKind.i64 labels (3 : Int) ≤ (3 : Int))) = true ∧
 (decide ((0 : Int) ≤ Go.bits BinOp.and IntKind.i64 (Int.fdiv labels (4 : Int)) (15 : Int))) = true ∧
 (decide (Go.bits BinOp.and IntKind.i64 (Int.fdiv labels (4 : Int)) (15 : Int) ≤ (15 : Int))) = true ∧
 (decide ((0 : Int) ≤ Go.bits BinOp.and IntKind.i64 labels (3 : Int))) = true ∧
 (decide (Go.bits BinOp.and IntKind.i64 labels (3 : Int) ≤ (3 : Int))) = true ∧
 (decide ((0 : Int) ≤ Go.bits BinOp.and IntKind.i64 (Int.fdiv labels (4 : Int)) (15 : Int))) = true ∧
 (decide (Go.bits BinOp.and IntKind.i64 (Int.fdiv labels (4 : Int)) (15 : Int) ≤ (15 : Int))) = true ∧
 (decide (Go.bits BinOp.and IntKind.i64 labels (3 : Int) ≤ Go.bits BinOp.and IntKind.i64 labels (3 : Int))) = true ∧
 (!decide (Go.bits BinOp.andNot IntKind.i64 (Go.bits BinOp.and IntKind.i64 (Int.fdiv labels (4 : Int)) (15 : Int)) (Go.bits BinOp.and IntKind.i64 (Int.fdiv labels (4 : Int)) (15 : Int)) = (0 : Int))) = false ∧
 (((decide ((30 : Int) < Go.bits BinOp.and IntKind.i64 fill (31 : Int))) = true → (decide ((0 : Int) ≤ Go.bits BinOp.and IntKind.i64 labels (3 : Int))) = true ∧
 (decide (Go.bits BinOp.and IntKind.i64 labels (3 : Int) ≤ (3 : Int))) = true ∧
 (decide ((0 : Int) ≤ Go.bits BinOp.and IntKind.i64 (Int.fdiv labels (4 : Int)) (15 : Int))) = true ∧
 (decide (Go.bits BinOp.and IntKind.i64 (Int.fdiv labels (4 : Int)) (15 : Int) ≤ (15 : Int))) = true ∧
 (decide ((0 : Int) ≤ Go.bits BinOp.and IntKind.i64 labels (3 : Int))) = true ∧
 (decide (Go.bits BinOp.and IntKind.i64 labels (3 : Int) ≤ (3 : Int))) = true ∧
 (decide ((0 : Int) ≤ Go.bits BinOp.and IntKind.i64 (Int.fdiv labels (4 : Int)) (15 : Int))) = true ∧
 (decide (Go.bits BinOp.and IntKind.i64 (Int.fdiv labels (4 : Int)) (15 : Int) ≤ (15 : Int))) = true ∧
 (decide (Go.bits BinOp.and IntKind.i64 labels (3 : Int) ≤ Go.bits BinOp.and IntKind.i64 labels (3 : Int))) = true ∧
 (!decide (Go.bits BinOp.andNot IntKind.i64 (Go.bits BinOp.and IntKind.i64 (Int.fdiv labels (4 : Int)) (15 : Int)) (Go.bits BinOp.and IntKind.i64 (Int.fdiv labels (4 : Int)) (15 : Int)) = (0 : Int))) = false ∧
 (decide ((31 : Int) < Go.bits BinOp.and IntKind.i64 fill (31 : Int))) = false ∧
 (((decide (Go.bits BinOp.and IntKind.i64 fill (32 : Int) = (32 : Int))) = true → (((Go.AE.seqB data { data := #[] }) = true → (Go.AE.seqB data { data := #[] }) = true ∧
 Bool.true = Bool.true) ∧ ((Go.AE.seqB data { data := #[] }) = false → (((decide ((32 : Int) < (↑(ByteArray.size data) : Int))) = true → (Go.AE.seqB data { data := #[] }) = false ∧
 (decide ((32 : Int) < (↑(ByteArray.size data) : Int))) = true ∧
 Bool.true = Bool.true) ∧ ((decide ((32 : Int) < (↑(ByteArray.size data) : Int))) = false → (decide ((0 : Int) ≤ Go.bits BinOp.and IntKind.i64 labels (3 : Int))) = true ∧
 (decide (Go.bits BinOp.and IntKind.i64 labels (3 : Int) ≤ (3 : Int))) = true ∧
 (decide ((0 : Int) ≤ Go.bits BinOp.and IntKind.i64 (Int.fdiv labels (4 : Int)) (15 : Int))) = true ∧
 (decide (Go.bits BinOp.and IntKind.i64 (Int.fdiv labels (4 : Int)) (15 : Int) ≤ (15 : Int))) = true ∧
 (((decide ((1 : Int) ≤ Go.bits BinOp.and IntKind.i64 labels (3 : Int))) = true → (Go.AE.seqB data { data := #[] }) = false ∧
 (decide ((32 : Int) < (↑(ByteArray.size data) : Int))) = false ∧
 (decide ((0 : Int) ≤ Go.bits BinOp.and IntKind.i64 labels (3 : Int))) = true ∧
 (decide (Go.bits BinOp.and IntKind.i64 labels (3 : Int) ≤ (3 : Int))) = true ∧
 (decide ((0 : Int) ≤ Go.bits BinOp.and IntKind.i64 (Int.fdiv labels (4 : Int)) (15 : Int))) = true ∧
 (decide (Go.bits BinOp.and IntKind.i64 (Int.fdiv labels (4 : Int)) (15 : Int) ≤ (15 : Int))) = true ∧
 (decide ((1 : Int) ≤ Go.bits BinOp.and IntKind.i64 labels (3 : Int))) = true ∧
 Bool.true = Bool.true) ∧ ((decide ((1 : Int) ≤ Go.bits BinOp.and IntKind.i64 labels (3 : Int))) = false → (Go.AE.seqB data { data := #[] }) = false ∧
 (decide ((32 : Int) < (↑(ByteArray.size data) : Int))) = false ∧
 (decide ((0 : Int) ≤ Go.bits BinOp.and IntKind.i64 labels (3 : Int))) = true ∧
 (decide (Go.bits BinOp.and IntKind.i64 labels (3 : Int) ≤ (3 : Int))) = true ∧
 (decide ((0 : Int) ≤ Go.bits BinOp.and IntKind.i64 (Int.fdiv labels (4 : Int)) (15 : Int))) = true ∧
 (decide (Go.bits BinOp.and IntKind.i64 (Int.fdiv labels (4 : Int)) (15 : Int) ≤ (15 : Int))) = true ∧
 (decide ((1 : Int) ≤ Go.bits BinOp.and IntKind.i64 labels (3 : Int))) = false ∧
 Bool.true = Bool.true))))))) ∧ ((decide (Go.bits BinOp.and IntKind.i64 fill (32 : Int) = (32 : Int))) = false → (((Go.AE.seqB data { data := #[] }) = true → (Go.AE.seqB data { data := #[] }) = true ∧
 Bool.true = Bool.true) ∧ ((Go.AE.seqB data { data := #[] }) = false → (((decide ((32 : Int) < (↑(ByteArray.size data) : Int))) = true → (Go.AE.seqB data { data := #[] }) = false ∧
 (decide ((32 : Int) < (↑(ByteArray.size data) : Int))) = true ∧
 Bool.true = Bool.true) ∧ ((decide ((32 : Int) < (↑(ByteArray.size data) : Int))) = false → (decide ((0 : Int) ≤ Go.bits BinOp.and IntKind.i64 labels (3 : Int))) = true ∧
 (decide (Go.bits BinOp.and IntKind.i64 labels (3 : Int) ≤ (3 : Int))) = true ∧
 (decide ((0 : Int) ≤ Go.bits BinOp.and IntKind.i64 (Int.fdiv labels (4 : Int)) (15 : Int))) = true ∧
 (decide (Go.bits BinOp.and IntKind.i64 (Int.fdiv labels (4 : Int)) (15 : Int) ≤ (15 : Int))) = true ∧
 (((decide ((1 : Int) ≤ Go.bits BinOp.and IntKind.i64 labels (3 : Int))) = true → (Go.AE.seqB data { data := #[] }) = false ∧
 (decide ((32 : Int) < (↑(ByteArray.size data) : Int))) = false ∧
 (decide ((0 : Int) ≤ Go.bits BinOp.and IntKind.i64 labels (3 : Int))) = true ∧
 (decide (Go.bits BinOp.and IntKind.i64 labels (3 : Int) ≤ (3 : Int))) = true ∧
 (decide ((0 : Int) ≤ Go.bits BinOp.and IntKind.i64 (Int.fdiv labels (4 : Int)) (15 : Int))) = true ∧
 (decide (Go.bits BinOp.and IntKind.i64 (Int.fdiv labels (4 : Int)) (15 : Int) ≤ (15 : Int))) = true ∧
 (decide ((1 : Int) ≤ Go.bits BinOp.and IntKind.i64 labels (3 : Int))) = true ∧
 Bool.true = Bool.true) ∧ ((decide ((1 : Int) ≤ Go.bits BinOp.and IntKind.i64 labels (3 : Int))) = false → (Go.AE.seqB data { data := #[] }) = false ∧
 (decide ((32 : Int) < (↑(ByteArray.size data) : Int))) = false ∧
 (decide ((0 : Int) ≤ Go.bits BinOp.and IntKind.i64 labels (3 : Int))) = true ∧
 (decide (Go.bits BinOp.and IntKind.i64 labels (3 : Int) ≤ (3 : Int))) = true ∧
 (decide ((0 : Int) ≤ Go.bits BinOp.and IntKind.i64 (Int.fdiv labels (4 : Int)) (15 : Int))) = true ∧
 (decide (Go.bits BinOp.and IntKind.i64 (Int.fdiv labels (4 : Int)) (15 : Int) ≤ (15 : Int))) = true ∧
 (decide ((1 : Int) ≤ Go.bits BinOp.and IntKind.i64 labels (3 : Int))) = false ∧
 Bool.true = Bool.true))))))))) ∧ ((decide ((30 : Int) < Go.bits BinOp.and IntKind.i64 fill (31 : Int))) = false → (((decide (Go.bits BinOp.and IntKind.i64 fill (32 : Int) = (32 : Int))) = true → (((Go.AE.seqB data { data := #[] }) = true → (Go.AE.seqB data { data := #[] }) = true ∧
 Bool.true = Bool.true) ∧ ((Go.AE.seqB data { data := #[] }) = false → (((decide ((32 : Int) < (↑(ByteArray.size data) : Int))) = true → (Go.AE.seqB data { data := #[] }) = false ∧
 (decide ((32 : Int) < (↑(ByteArray.size data) : Int))) = true ∧
 Bool.true = Bool.true) ∧ ((decide ((32 : Int) < (↑(ByteArray.size data) : Int))) = false → (decide ((0 : Int) ≤ Go.bits BinOp.and IntKind.i64 labels (3 : Int))) = true ∧
 (decide (Go.bits BinOp.and IntKind.i64 labels (3 : Int) ≤ (3 : Int))) = true ∧
 (decide ((0 : Int) ≤ Go.bits BinOp.and IntKind.i64 (Int.fdiv labels (4 : Int)) (15 : Int))) = true ∧
 (decide (Go.bits BinOp.and IntKind.i64 (Int.fdiv labels (4 : Int)) (15 : Int) ≤ (15 : Int))) = true ∧
 (((decide ((1 : Int) ≤ Go.bits BinOp.and IntKind.i64 labels (3 : Int))) = true → (Go.AE.seqB data { data := #[] }) = false ∧
 (decide ((32 : Int) < (↑(ByteArray.size data) : Int))) = false ∧
 (decide ((0 : Int) ≤ Go.bits BinOp.and IntKind.i64 labels (3 : Int))) = true ∧
 (decide (Go.bits BinOp.and IntKind.i64 labels (3 : Int) ≤ (3 : Int))) = true ∧
 (decide ((0 : Int) ≤ Go.bits BinOp.and IntKind.i64 (Int.fdiv labels (4 : Int)) (15 : Int))) = true ∧
 (decide (Go.bits BinOp.and IntKind.i64 (Int.fdiv labels (4 : Int)) (15 : Int) ≤ (15 : Int))) = true ∧
 (decide ((1 : Int) ≤ Go.bits BinOp.and IntKind.i64 labels (3 : Int))) = true ∧
 Bool.true = Bool.true) ∧ ((decide ((1 : Int) ≤ Go.bits BinOp.and IntKind.i64 labels (3 : Int))) = false → (Go.AE.seqB data { data := #[] }) = false ∧
 (decide ((32 : Int) < (↑(ByteArray.size data) : Int))) = false ∧
 (decide ((0 : Int) ≤ Go.bits BinOp.and IntKind.i64 labels (3 : Int))) = true ∧
 (decide (Go.bits BinOp.and IntKind.i64 labels (3 : Int) ≤ (3 : Int))) = true ∧
 (decide ((0 : Int) ≤ Go.bits BinOp.and IntKind.i64 (Int.fdiv labels (4 : Int)) (15 : Int))) = true ∧
 (decide (Go.bits BinOp.and IntKind.i64 (Int.fdiv labels (4 : Int)) (15 : Int) ≤ (15 : Int))) = true ∧
 (decide ((1 : Int) ≤ Go.bits BinOp.and IntKind.i64 labels (3 : Int))) = false ∧
 Bool.true = Bool.true))))))) ∧ ((decide (Go.bits BinOp.and IntKind.i64 fill (32 : Int) = (32 : Int))) = false → (((Go.AE.seqB data { data := #[] }) = true → (Go.AE.seqB data { data := #[] }) = true ∧
 Bool.true = Bool.true) ∧ ((Go.AE.seqB data { data := #[] }) = false → (((decide ((32 : Int) < (↑(ByteArray.size data) : Int))) = true → (Go.AE.seqB data { data := #[] }) = false ∧
 (decide ((32 : Int) < (↑(ByteArray.size data) : Int))) = true ∧
 Bool.true = Bool.true) ∧ ((decide ((32 : Int) < (↑(ByteArray.size data) : Int))) = false → (decide ((0 : Int) ≤ Go.bits BinOp.and IntKind.i64 labels (3 : Int))) = true ∧
 (decide (Go.bits BinOp.and IntKind.i64 labels (3 : Int) ≤ (3 : Int))) = true ∧
 (decide ((0 : Int) ≤ Go.bits BinOp.and IntKind.i64 (Int.fdiv labels (4 : Int)) (15 : Int))) = true ∧
 (decide (Go.bits BinOp.and IntKind.i64 (Int.fdiv labels (4 : Int)) (15 : Int) ≤ (15 : Int))) = true ∧
 (((decide ((1 : Int) ≤ Go.bits BinOp.and IntKind.i64 labels (3 : Int))) = true → (Go.AE.seqB data { data := #[] }) = false ∧
 (decide ((32 : Int) < (↑(ByteArray.size data) : Int))) = false ∧
 (decide ((0 : Int) ≤ Go.bits BinOp.and IntKind.i64 labels (3 : Int))) = true ∧
 (decide (Go.bits BinOp.and IntKind.i64 labels (3 : Int) ≤ (3 : Int))) = true ∧
 (decide ((0 : Int) ≤ Go.bits BinOp.and IntKind.i64 (Int.fdiv labels (4 : Int)) (15 : Int))) = true ∧
 (decide (Go.bits BinOp.and IntKind.i64 (Int.fdiv labels (4 : Int)) (15 : Int) ≤ (15 : Int))) = true ∧
 (decide ((1 : Int) ≤ Go.bits BinOp.and IntKind.i64 labels (3 : Int))) = true ∧
 Bool.true = Bool.true) ∧ ((decide ((1 : Int) ≤ Go.bits BinOp.and IntKind.i64 labels (3 : Int))) = false → (Go.AE.seqB data { data := #[] }) = false ∧
 (decide ((32 : Int) < (↑(ByteArray.size data) : Int))) = false ∧
 (decide ((0 : Int) ≤ Go.bits BinOp.and IntKind.i64 labels (3 : Int))) = true ∧
 (decide (Go.bits BinOp.and IntKind.i64 labels (3 : Int) ≤ (3 : Int))) = true ∧
 (decide ((0 : Int) ≤ Go.bits BinOp.and IntKind.i64 (Int.fdiv labels (4 : Int)) (15 : Int))) = true ∧
 (decide (Go.bits BinOp.and IntKind.i64 (Int.fdiv labels (4 : Int)) (15 : Int) ≤ (15 : Int))) = true ∧
 (decide ((1 : Int) ≤ Go.bits BinOp.and IntKind.i64 labels (3 : Int))) = false ∧
 Bool.true = Bool.true))))))))))) ∧ ((decide ((29 : Int) < Go.bits BinOp.and IntKind.i64 fill (31 : Int))) = false → (((decide (Go.bits BinOp.and IntKind.i64 fill (32 : Int) = (32 : Int))) = true → (((Go.AE.seqB data { data := #[] }) = true → (Go.AE.seqB data { data := #[] }) = true ∧
 Bool.true = Bool.true) ∧ ((Go.AE.seqB data { data := #[] }) = false → (((decide ((32 : Int) < (↑(ByteArray.size data) : Int))) = true → (Go.AE.seqB data { data := #[] }) = false ∧
 (decide ((32 : Int) < (↑(ByteArray.size data) : Int))) = true ∧
 Bool.true = Bool.true) ∧ ((decide ((32 : Int) < (↑(ByteArray.size data) : Int))) = false → (decide ((0 : Int) ≤ Go.bits BinOp.and IntKind.i64 labels (3 : Int))) = true ∧
 (decide (Go.bits BinOp.and IntKind.i64 labels (3 : Int) ≤ (3 : Int))) = true ∧
 (decide ((0 : Int) ≤ Go.bits BinOp.and IntKind.i64 (Int.fdiv labels (4 : Int)) (15 : Int))) = true ∧
 (decide (Go.bits BinOp.and IntKind.i64 (Int.fdiv labels (4 : Int)) (15 : Int) ≤ (15 : Int))) = true ∧
 (((decide ((1 : Int) ≤ Go.bits BinOp.and IntKind.i64 labels (3 : Int))) = true → (Go.AE.seqB data { data := #[] }) = false ∧
 (decide ((32 : Int) < (↑(ByteArray.size data) : Int))) = false ∧
 (decide ((0 : Int) ≤ Go.bits BinOp.and IntKind.i64 labels (3 : Int))) = true ∧
 (decide (Go.bits BinOp.and IntKind.i64 labels (3 : Int) ≤ (3 : Int))) = true ∧
 (decide ((0 : Int) ≤ Go.bits BinOp.and IntKind.i64 (Int.fdiv labels (4 : Int)) (15 : Int))) = true ∧
 (decide (Go.bits BinOp.and IntKind.i64 (Int.fdiv labels (4 : Int)) (15 : Int) ≤ (15 : Int))) = true ∧
 (decide ((1 : Int) ≤ Go.bits BinOp.and IntKind.i64 labels (3 : Int))) = true ∧
 Bool.true = Bool.true) ∧ ((decide ((1 : Int) ≤ Go.bits BinOp.and IntKind.i64 labels (3 : Int))) = false → (Go.AE.seqB data { data := #[] }) = false ∧
 (decide ((32 : Int) < (↑(ByteArray.size data) : Int))) = false ∧
 (decide ((0 : Int) ≤ Go.bits BinOp.and IntKind.i64 labels (3 : Int))) = true ∧
 (decide (Go.bits BinOp.and IntKind.i64 labels (3 : Int) ≤ (3 : Int))) = true ∧
 (decide ((0 : Int) ≤ Go.bits BinOp.and IntKind.i64 (Int.fdiv labels (4 : Int)) (15 : Int))) = true ∧
 (decide (Go.bits BinOp.and IntKind.i64 (Int.fdiv labels (4 : Int)) (15 : Int) ≤ (15 : Int))) = true ∧
 (decide ((1 : Int) ≤ Go.bits BinOp.and IntKind.i64 labels (3 : Int))) = false ∧
 Bool.true = Bool.true))))))) ∧ ((decide (Go.bits BinOp.and IntKind.i64 fill (32 : Int) = (32 : Int))) = false → (((Go.AE.seqB data { data := #[] }) = true → (Go.AE.seqB data { data := #[] }) = true ∧
 Bool.true = Bool.true) ∧ ((Go.AE.seqB data { data := #[] }) = false → (((decide ((32 : Int) < (↑(ByteArray.size data) : Int))) = true → (Go.AE.seqB data { data := #[] }) = false ∧
 (decide ((32 : Int) < (↑(ByteArray.size data) : Int))) = true ∧
 Bool.true = Bool.true) ∧ ((decide ((32 : Int) < (↑(ByteArray.size data) : Int))) = false → (decide ((0 : Int) ≤ Go.bits BinOp.and IntKind.i64 labels (3 : Int))) = true ∧
 (decide (Go.bits BinOp.and IntKind.i64 labels (3 : Int) ≤ (3 : Int))) = true ∧
 (decide ((0 : Int) ≤ Go.bits BinOp.and IntKind.i64 (Int.fdiv labels (4 : Int)) (15 : Int))) = true ∧
 (decide (Go.bits BinOp.and IntKind.i64 (Int.fdiv labels (4 : Int)) (15 : Int) ≤ (15 : Int))) = true ∧
 (((decide ((1 : Int) ≤ Go.bits BinOp.and IntKind.i64 labels (3 : Int))) = true → (Go.AE.seqB data { data := #[] }) = false ∧
 (decide ((32 : Int) < (↑(ByteArray.size data) : Int))) = false ∧
 (decide ((0 : Int) ≤ Go.bits BinOp.and IntKind.i64 labels (3 : Int))) = true ∧
 (decide (Go.bits BinOp.and IntKind.i64 labels (3 : Int) ≤ (3 : Int))) = true ∧
 (decide ((0 : Int) ≤ Go.bits BinOp.and IntKind.i64 (Int.fdiv labels (4 : Int)) (15 : Int))) = true ∧
 (decide (Go.bits BinOp.and IntKind.i64 (Int.fdiv labels (4 : Int)) (15 : Int) ≤ (15 : Int))) = true ∧
 (decide ((1 : Int) ≤ Go.bits BinOp.and IntKind.i64 labels (3 : Int))) = true ∧
 Bool.true = Bool.true) ∧ ((decide ((1 : Int) ≤ Go.bits BinOp.and IntKind.i64 labels (3 : Int))) = false → (Go.AE.seqB data { data := #[] }) = false ∧
 (decide ((32 : Int) < (↑(ByteArray.size data) : Int))) = false ∧
 (decide ((0 : Int) ≤ Go.bits BinOp.and IntKind.i64 labels (3 : Int))) = true ∧
 (decide (Go.bits BinOp.and IntKind.i64 labels (3 : Int) ≤ (3 : Int))) = true ∧
 (decide ((0 : Int) ≤ Go.bits BinOp.and IntKind.i64 (Int.fdiv labels (4 : Int)) (15 : Int))) = true ∧
 (decide (Go.bits BinOp.and IntKind.i64 (Int.fdiv labels (4 : Int)) (15 : Int) ≤ (15 : Int))) = true ∧
 (decide ((1 : Int) ≤ Go.bits BinOp.and IntKind.i64 labels (3 : Int))) = false ∧
 Bool.true = Bool.true))))))))))) ∧ ((decide ((28 : Int) < Go.bits BinOp.and IntKind.i64 fill (31 : Int))) = false → (((decide (Go.bits BinOp.and IntKind.i64 fill (32 : Int) = (32 : Int))) = true → (((Go.AE.seqB data { data := #[] }) = true → (Go.AE.seqB data { data := #[] }) = true ∧
 Bool.true = Bool.true) ∧ ((Go.AE.seqB data { data := #[] }) = false → (((decide ((32 : Int) < (↑(ByteArray.size data) : Int))) = true → (Go.AE.seqB data { data := #[] }) = false ∧
 (decide ((32 : Int) < (↑(ByteArray.size data) : Int))) = true ∧
 Bool.true = Bool.true) ∧ ((decide ((32 : Int) < (↑(ByteArray.size data) : Int))) = false → (decide ((0 : Int) ≤ Go.bits BinOp.and IntKind.i64 labels (3 : Int))) = true ∧
 (decide (Go.bits BinOp.and IntKind.i64 labels (3 : Int) ≤ (3 : Int))) = true ∧
 (decide ((0 : Int) ≤ Go.bits BinOp.and IntKind.i64 (Int.fdiv labels (4 : Int)) (15 : Int))) = true ∧
 (decide (Go.bits BinOp.and IntKind.i64 (Int.fdiv labels (4 : Int)) (15 : Int) ≤ (15 : Int))) = true ∧
 (((decide ((1 : Int) ≤ Go.bits BinOp.and IntKind.i64 labels (3 : Int))) = true → (Go.AE.seqB data { data := #[] }) = false ∧
 (decide ((32 : Int) < (↑(ByteArray.size data) : Int))) = false ∧
 (decide ((0 : Int) ≤ Go.bits BinOp.and IntKind.i64 labels (3 : Int))) = true ∧
 (decide (Go.bits BinOp.and IntKind.i64 labels (3 : Int) ≤ (3 : Int))) = true ∧
 (decide ((0 : Int) ≤ Go.bits BinOp.and IntKind.i64 (Int.fdiv labels (4 : Int)) (15 : Int))) = true ∧
 (decide (Go.bits BinOp.and IntKind.i64 (Int.fdiv labels (4 : Int)) (15 : Int) ≤ (15 : Int))) = true ∧
 (decide ((1 : Int) ≤ Go.bits BinOp.and IntKind.i64 labels (3 : Int))) = true ∧
 Bool.true = Bool.true) ∧ ((decide ((1 : Int) ≤ Go.bits BinOp.and IntKind.i64 labels (3 : Int))) = false → (Go.AE.seqB data { data := #[] }) = false ∧
 (decide ((32 : Int) < (↑(ByteArray.size data) : Int))) = false ∧
 (decide ((0 : Int) ≤ Go.bits BinOp.and IntKind.i64 labels (3 : Int))) = true ∧
 (decide (Go.bits BinOp.and IntKind.i64 labels (3 : Int) ≤ (3 : Int))) = true ∧
 (decide ((0 : Int) ≤ Go.bits BinOp.and IntKind.i64 (Int.fdiv labels (4 : Int)) (15 : Int))) = true ∧
 (decide (Go.bits BinOp.and IntKind.i64 (Int.fdiv labels (4 : Int)) (15 : Int) ≤ (15 : Int))) = true ∧
 (decide ((1 : Int) ≤ Go.bits BinOp.and IntKind.i64 labels (3 : Int))) = false ∧
 Bool.true = Bool.true))))))) ∧ ((decide (Go.bits BinOp.and IntKind.i64 fill (32 : Int) = (32 : Int))) = false → (((Go.AE.seqB data { data := #[] }) = true → (Go.AE.seqB data { data := #[] }) = true ∧
 Bool.true = Bool.true) ∧ ((Go.AE.seqB data { data := #[] }) = false → (((decide ((32 : Int) < (↑(ByteArray.size data) : Int))) = true → (Go.AE.seqB data { data := #[] }) = false ∧
 (decide ((32 : Int) < (↑(ByteArray.size data) : Int))) = true ∧
 Bool.true = Bool.true) ∧ ((decide ((32 : Int) < (↑(ByteArray.size data) : Int))) = false → (decide ((0 : Int) ≤ Go.bits BinOp.and IntKind.i64 labels (3 : Int))) = true ∧
 (decide (Go.bits BinOp.and IntKind.i64 labels (3 : Int) ≤ (3 : Int))) = true ∧
 (decide ((0 : Int) ≤ Go.bits BinOp.and IntKind.i64 (Int.fdiv labels (4 : Int)) (15 : Int))) = true ∧
 (decide (Go.bits BinOp.and IntKind.i64 (Int.fdiv labels (4 : Int)) (15 : Int) ≤ (15 : Int))) = true ∧
 (((decide ((1 : Int) ≤ Go.bits BinOp.and IntKind.i64 labels (3 : Int))) = true → (Go.AE.seqB data { data := #[] }) = false ∧
 (decide ((32 : Int) < (↑(ByteArray.size data) : Int))) = false ∧
 (decide ((0 : Int) ≤ Go.bits BinOp.and IntKind.i64 labels (3 : Int))) = true ∧
 (decide (Go.bits BinOp.and IntKind.i64 labels (3 : Int) ≤ (3 : Int))) = true ∧
 (decide ((0 : Int) ≤ Go.bits BinOp.and IntKind.i64 (Int.fdiv labels (4 : Int)) (15 : Int))) = true ∧
 (decide (Go.bits BinOp.and IntKind.i64 (Int.fdiv labels (4 : Int)) (15 : Int) ≤ (15 : Int))) = true ∧
 (decide ((1 : Int) ≤ Go.bits BinOp.and IntKind.i64 labels (3 : Int))) = true ∧
 Bool.true = Bool.true) ∧ ((decide ((1 : Int) ≤ Go.bits BinOp.and IntKind.i64 labels (3 : Int))) = false → (Go.AE.seqB data { data := #[] }) = false ∧
 (decide ((32 : Int) < (↑(ByteArray.size data) : Int))) = false ∧
 (decide ((0 : Int) ≤ Go.bits BinOp.and IntKind.i64 labels (3 : Int))) = true ∧
 (decide (Go.bits BinOp.and IntKind.i64 labels (3 : Int) ≤ (3 : Int))) = true ∧
 (decide ((0 : Int) ≤ Go.bits BinOp.and IntKind.i64 (Int.fdiv labels (4 : Int)) (15 : Int))) = true ∧
 (decide (Go.bits BinOp.and IntKind.i64 (Int.fdiv labels (4 : Int)) (15 : Int) ≤ (15 : Int))) = true ∧
 (decide ((1 : Int) ≤ Go.bits BinOp.and IntKind.i64 labels (3 : Int))) = false ∧
 Bool.true = Bool.true))))))))))) ∧ ((decide ((27 : Int) < Go.bits BinOp.and IntKind.i64 fill (31 : Int))) = false → (((decide (Go.bits BinOp.and IntKind.i64 fill (32 : Int) = (32 : Int))) = true → (((Go.AE.seqB data { data := #[] }) = true → (Go.AE.seqB data { data := #[] }) = true ∧
 Bool.true = Bool.true) ∧ ((Go.AE.seqB data { data := #[] }) = false → (((decide ((32 : Int) < (↑(ByteArray.size data) : Int))) = true → (Go.AE.seqB data { data := #[] }) = false ∧
 (decide ((32 : Int) < (↑(ByteArray.size data) : Int))) = true ∧
 Bool.true = Bool.true) ∧ ((decide ((32 : Int) < (↑(ByteArray.size data) : Int))) = false → (decide ((0 : Int) ≤ Go.bits BinOp.and IntKind.i64 labels (3 : Int))) = true ∧
 (decide (Go.bits BinOp.and IntKind.i64 labels (3 : Int) ≤ (3 : Int))) = true ∧
 (decide ((0 : Int) ≤ Go.bits BinOp.and IntKind.i64 (Int.fdiv labels (4 : Int)) (15 : Int))) = true ∧
 (decide (Go.bits BinOp.and IntKind.i64 (Int.fdiv labels (4 : Int)) (15 : Int) ≤ (15 : Int))) = true ∧
 (((decide ((1 : Int) ≤ Go.bits BinOp.and IntKind.i64 labels (3 : Int))) = true → (Go.AE.seqB data { data := #[] }) = false ∧
 (decide ((32 : Int) < (↑(ByteArray.size data) : Int))) = false ∧
 (decide ((0 : Int) ≤ Go.bits BinOp.and IntKind.i64 labels (3 : Int))) = true ∧
 (decide (Go.bits BinOp.and IntKind.i64 labels (3 : Int) ≤ (3 : Int))) = true ∧
 (decide ((0 : Int) ≤ Go.bits BinOp.and IntKind.i64 (Int.fdiv labels (4 : Int)) (15 : Int))) = true ∧
 (decide (Go.bits BinOp.and IntKind.i64 (Int.fdiv labels (4 : Int)) (15 : Int) ≤ (15 : Int))) = true ∧
 (decide ((1 : Int) ≤ Go.bits BinOp.and IntKind.i64 labels (3 : Int))) = true ∧
 Bool.true = Bool.true) ∧ ((decide ((1 : Int) ≤ Go.bits BinOp.and IntKind.i64 labels (3 : Int))) = false → (Go.AE.seqB data { data := #[] }) = false ∧
 (decide ((32 : Int) < (↑(ByteArray.size data) : Int))) = false ∧
 (decide ((0 : Int) ≤ Go.bits BinOp.and IntKind.i64 labels (3 : Int))) = true ∧
 (decide (Go.bits BinOp.and IntKind.i64 labels (3 : Int) ≤ (3 : Int))) = true ∧
 (decide ((0 : Int) ≤ Go.bits BinOp.and IntKind.i64 (Int.fdiv labels (4 : Int)) (15 : Int))) = true ∧
 (decide (Go.bits BinOp.and IntKind.i64 (Int.fdiv labels (4 : Int)) (15 : Int) ≤ (15 : Int))) = true ∧
 (decide ((1 : Int) ≤ Go.bits BinOp.and IntKind.i64 labels (3 : Int))) = false ∧
 Bool.true = Bool.true))))))) ∧ ((decide (Go.bits BinOp.and IntKind.i64 fill (32 : Int) = (32 : Int))) = false → (((Go.AE.seqB data { data := #[] }) = true → (Go.AE.seqB data { data := #[] }) = true ∧
 Bool.true = Bool.true) ∧ ((Go.AE.seqB data { data := #[] }) = false → (((decide ((32 : Int) < (↑(ByteArray.size data) : Int))) = true → (Go.AE.seqB data { data := #[] }) = false ∧
 (decide ((32 : Int) < (↑(ByteArray.size data) : Int))) = true ∧
 Bool.true = Bool.true) ∧ ((decide ((32 : Int) < (↑(ByteArray.size data) : Int))) = false → (decide ((0 : Int) ≤ Go.bits BinOp.and IntKind.i64 labels (3 : Int))) = true ∧
 (decide (Go.bits BinOp.and IntKind.i64 labels (3 : Int) ≤ (3 : Int))) = true ∧
 (decide ((0 : Int) ≤ Go.bits BinOp.and IntKind.i64 (Int.fdiv labels (4 : Int)) (15 : Int))) = true ∧
 (decide (Go.bits BinOp.and IntKind.i64 (Int.fdiv labels (4 : Int)) (15 : Int) ≤ (15 : Int))) = true ∧
 (((decide ((1 : Int) ≤ Go.bits BinOp.and IntKind.i64 labels (3 : Int))) = true → (Go.AE.seqB data { data := #[] }) = false ∧
 (decide ((32 : Int) < (↑(ByteArray.size data) : Int))) = false ∧
 (decide ((0 : Int) ≤ Go.bits BinOp.and IntKind.i64 labels (3 : Int))) = true ∧
 (decide (Go.bits BinOp.and IntKind.i64 labels (3 : Int) ≤ (3 : Int))) = true ∧
 (decide ((0 : Int) ≤ Go.bits BinOp.and IntKind.i64 (Int.fdiv labels (4 : Int)) (15 : Int))) = true ∧
 (decide (Go.bits BinOp.and IntKind.i64 (Int.fdiv labels (4 : Int)) (15 : Int) ≤ (15 : Int))) = true ∧
 (decide ((1 : Int) ≤ Go.bits BinOp.and IntKind.i64 labels (3 : Int))) = true ∧
 Bool.true = Bool.true) ∧ ((decide ((1 : Int) ≤ Go.bits BinOp.and IntKind.i64 labels (3 : Int))) = false → (Go.AE.seqB data { data := #[] }) = false ∧
 (decide ((32 : Int) < (↑(ByteArray.size data) : Int))) = false ∧
 (decide ((0 : Int) ≤ Go.bits BinOp.and IntKind.i64 labels (3 : Int))) = true ∧
 (decide (Go.bits BinOp.and IntKind.i64 labels (3 : Int) ≤ (3 : Int))) = true ∧
 (decide ((0 : Int) ≤ Go.bits BinOp.and IntKind.i64 (Int.fdiv labels (4 : Int)) (15 : Int))) = true ∧
 (decide (Go.bits BinOp.and IntKind.i64 (Int.fdiv labels (4 : Int)) (15 : Int) ≤ (15 : Int))) = true ∧
 (decide ((1 : Int) ≤ Go.bits BinOp.and IntKind.i64 labels (3 : Int))) = false ∧
 Bool.true = Bool.true))))))))))) ∧ ((decide ((26 : Int) < Go.bits BinOp.and IntKind.i64 fill (31 : Int))) = false → (((decide (Go.bits BinOp.and IntKind.i64 fill (32 : Int) = (32 : Int))) = true → (((Go.AE.seqB data { data := #[] }) = true → (Go.AE.seqB data { data := #[] }) = true ∧
 Bool.true = Bool.true) ∧ ((Go.AE.seqB data { data := #[] }) = false → (((decide ((32 : Int) < (↑(ByteArray.size data) : Int))) = true → (Go.AE.seqB data { data := #[] }) = false ∧
 (decide ((32 : Int) < (↑(ByteArray.size data) : Int))) = true ∧
 Bool.true = Bool.true) ∧ ((decide ((32 : Int) < (↑(ByteArray.size data) : Int))) = false → (decide ((0 : Int) ≤ Go.bits BinOp.and IntKind.i64 labels (3 : Int))) = true ∧
 (decide (Go.bits BinOp.and IntKind.i64 labels (3 : Int) ≤ (3 : Int))) = true ∧
 (decide ((0 : Int) ≤ Go.bits BinOp.and IntKind.i64 (Int.fdiv labels (4 : Int)) (15 : Int))) = true ∧
 (decide (Go.bits BinOp.and IntKind.i64 (Int.fdiv labels (4 : Int)) (15 : Int) ≤ (15 : Int))) = true ∧
 (((decide ((1 : Int) ≤ Go.bits BinOp.and IntKind.i64 labels (3 : Int))) = true → (Go.AE.seqB data { data := #[] }) = false ∧
 (decide ((32 : Int) < (↑(ByteArray.size data) : Int))) = false ∧
 (decide ((0 : Int) ≤ Go.bits BinOp.and IntKind.i64 labels (3 : Int))) = true ∧
 (decide (Go.bits BinOp.and IntKind.i64 labels (3 : Int) ≤ (3 : Int))) = true ∧
 (decide ((0 : Int) ≤ Go.bits BinOp.and IntKind.i64 (Int.fdiv labels (4 : Int)) (15 : Int))) = true ∧
 (decide (Go.bits BinOp.and IntKind.i64 (Int.fdiv labels (4 : Int)) (15 : Int) ≤ (15 : Int))) = true ∧
 (decide ((1 : Int) ≤ Go.bits BinOp.and IntKind.i64 labels (3 : Int))) = true ∧
 Bool.true = Bool.true) ∧ ((decide ((1 : Int) ≤ Go.bits BinOp.and IntKind.i64 labels (3 : Int))) = false → (Go.AE.seqB data { data := #[] }) = false ∧
 (decide ((32 : Int) < (↑(ByteArray.size data) : Int))) = false ∧
 (decide ((0 : Int) ≤ Go.bits BinOp.and IntKind.i64 labels (3 : Int))) = true ∧
 (decide (Go.bits BinOp.and IntKind.i64 labels (3 : Int) ≤ (3 : Int))) = true ∧
 (decide ((0 : Int) ≤ Go.bits BinOp.and IntKind.i64 (Int.fdiv labels (4 : Int)) (15 : Int))) = true ∧
 (decide (Go.bits BinOp.and IntKind.i64 (Int.fdiv labels (4 : Int)) (15 : Int) ≤ (15 : Int))) = true ∧
 (decide ((1 : Int) ≤ Go.bits BinOp.and IntKind.i64 labels (3 : Int))) = false ∧
 Bool.true = Bool.true))))))) ∧ ((decide (Go.bits BinOp.and IntKind.i64 fill (32 : Int) = (32 : Int))) = false → (((Go.AE.seqB data { data := #[] }) = true → (Go.AE.seqB data { data := #[] }) = true ∧
 Bool.true = Bool.true) ∧ ((Go.AE.seqB data { data := #[] }) = false → (((decide ((32 : Int) < (↑(ByteArray.size data) : Int))) = true → (Go.AE.seqB data { data := #[] }) = false ∧
 (decide ((32 : Int) < (↑(ByteArray.size data) : Int))) = true ∧
 Bool.true = Bool.true) ∧ ((decide ((32 : Int) < (↑(ByteArray.size data) : Int))) = false → (decide ((0 : Int) ≤ Go.bits BinOp.and IntKind.i64 labels (3 : Int))) = true ∧
 (decide (Go.bits BinOp.and IntKind.i64 labels (3 : Int) ≤ (3 : Int))) = true ∧
 (decide ((0 : Int) ≤ Go.bits BinOp.and IntKind.i64 (Int.fdiv labels (4 : Int)) (15 : Int))) = true ∧
 (decide (Go.bits BinOp.and IntKind.i64 (Int.fdiv labels (4 : Int)) (15 : Int) ≤ (15 : Int))) = true ∧
 (((decide ((1 : Int) ≤ Go.bits BinOp.and IntKind.i64 labels (3 : Int))) = true → (Go.AE.seqB data { data := #[] }) = false ∧
 (decide ((32 : Int) < (↑(ByteArray.size data) : Int))) = false ∧
 (decide ((0 : Int) ≤ Go.bits BinOp.and IntKind.i64 labels (3 : Int))) = true ∧
 (decide (Go.bits BinOp.and IntKind.i64 labels (3 : Int) ≤ (3 : Int))) = true ∧
 (decide ((0 : Int) ≤ Go.bits BinOp.and IntKind.i64 (Int.fdiv labels (4 : Int)) (15 : Int))) = true ∧
 (decide (Go.bits BinOp.and IntKind.i64 (Int.fdiv labels (4 : Int)) (15 : Int) ≤ (15 : Int))) = true ∧
 (decide ((1 : Int) ≤ Go.bits BinOp.and IntKind.i64 labels (3 : Int))) = true ∧
 Bool.true = Bool.true) ∧ ((decide ((1 : Int) ≤ Go.bits BinOp.and IntKind.i64 labels (3 : Int))) = false → (Go.AE.seqB data { data := #[] }) = false ∧
 (decide ((32 : Int) < (↑(ByteArray.size data) : Int))) = false ∧
 (decide ((0 : Int) ≤ Go.bits BinOp.and IntKind.i64 labels (3 : Int))) = true ∧
 (decide (Go.bits BinOp.and IntKind.i64 labels (3 : Int) ≤ (3 : Int))) = true ∧
 (decide ((0 : Int) ≤ Go.bits BinOp.and IntKind.i64 (Int.fdiv labels (4 : Int)) (15 : Int))) = true ∧
 (decide (Go.bits BinOp.and IntKind.i64 (Int.fdiv labels (4 : Int)) (15 : Int) ≤ (15 : Int))) = true ∧
 (decide ((1 : Int) ≤ Go.bits BinOp.and IntKind.i64 labels (3 : Int))) = false ∧
 Bool.true = Bool.true))))))))))) ∧ ((decide ((25 : Int) < Go.bits BinOp.and IntKind.i64 fill (31 : Int))) = false → (((decide (Go.bits BinOp.and IntKind.i64 fill (32 : Int) = (32 : Int))) = true → (((Go.AE.seqB data { data := #[] }) = true → (Go.AE.seqB data { data := #[] }) = true ∧
 Bool.true = Bool.true) ∧ ((Go.AE.seqB data { data := #[] }) = false → (((decide ((32 : Int) < (↑(ByteArray.size data) : Int))) = true → (Go.AE.seqB data { data := #[] }) = false ∧
 (decide ((32 : Int) < (↑(ByteArray.size data) : Int))) = true ∧
 Bool.true = Bool.true) ∧ ((decide ((32 : Int) < (↑(ByteArray.size data) : Int))) = false → (decide ((0 : Int) ≤ Go.bits BinOp.and IntKind.i64 labels (3 : Int))) = true ∧
 (decide (Go.bits BinOp.and IntKind.i64 labels (3 : Int) ≤ (3 : Int))) = true ∧
 (decide ((0 : Int) ≤ Go.bits BinOp.and IntKind.i64 (Int.fdiv labels (4 : Int)) (15 : Int))) = true ∧
 (decide (Go.bits BinOp.and IntKind.i64 (Int.fdiv labels (4 : Int)) (15 : Int) ≤ (15 : Int))) = true ∧
 (((decide ((1 : Int) ≤ Go.bits BinOp.and IntKind.i64 labels (3 : Int))) = true → (Go.AE.seqB data { data := #[] }) = false ∧
 (decide ((32 : Int) < (↑(ByteArray.size data) : Int))) = false ∧
 (decide ((0 : Int) ≤ Go.bits BinOp.and IntKind.i64 labels (3 : Int))) = true ∧
 (decide (Go.bits BinOp.and IntKind.i64 labels (3 : Int) ≤ (3 : Int))) = true ∧
 (decide ((0 : Int) ≤ Go.bits BinOp.and IntKind.i64 (Int.fdiv labels (4 : Int)) (15 : Int))) = true ∧
 (decide (Go.bits BinOp.and IntKind.i64 (Int.fdiv labels (4 : Int)) (15 : Int) ≤ (15 : Int))) = true ∧
 (decide ((1 : Int) ≤ Go.bits BinOp.and IntKind.i64 labels (3 : Int))) = true ∧
 Bool.true = Bool.true) ∧ ((decide ((1 : Int) ≤ Go.bits BinOp.and IntKind.i64 labels (3 : Int))) = false → (Go.AE.seqB data { data := #[] }) = false ∧
 (decide ((32 : Int) < (↑(ByteArray.size data) : Int))) = false ∧
 (decide ((0 : Int) ≤ Go.bits BinOp.and IntKind.i64 labels (3 : Int))) = true ∧
 (decide (Go.bits BinOp.and IntKind.i64 labels (3 : Int) ≤ (3 : Int))) = true ∧
 (decide ((0 : Int) ≤ Go.bits BinOp.and IntKind.i64 (Int.fdiv labels (4 : Int)) (15 : Int))) = true ∧
 (decide (Go.bits BinOp.and IntKind.i64 (Int.fdiv labels (4 : Int)) (15 : Int) ≤ (15 : Int))) = true ∧
 (decide ((1 : Int) ≤ Go.bits BinOp.and IntKind.i64 labels (3 : Int))) = false ∧
 Bool.true = Bool.true))))))) ∧ ((decide (Go.bits BinOp.and IntKind.i64 fill (32 : Int) = (32 : Int))) = false → (((Go.AE.seqB data { data := #[] }) = true → (Go.AE.seqB data { data := #[] }) = true ∧
 Bool.true = Bool.true) ∧ ((Go.AE.seqB data { data := #[] }) = false → (((decide ((32 : Int) < (↑(ByteArray.size data) : Int))) = true → (Go.AE.seqB data { data := #[] }) = false ∧
 (decide ((32 : Int) < (↑(ByteArray.size data) : Int))) = true ∧
 Bool.true = Bool.true) ∧ ((decide ((32 : Int) < (↑(ByteArray.size data) : Int))) = false → (decide ((0 : Int) ≤ Go.bits BinOp.and IntKind.i64 labels (3 : Int))) = true ∧
 (decide (Go.bits BinOp.and IntKind.i64 labels (3 : Int) ≤ (3 : Int))) = true ∧
 (decide ((0 : Int) ≤ Go.bits BinOp.and IntKind.i64 (Int.fdiv labels (4 : Int)) (15 : Int))) = true ∧
 (decide (Go.bits BinOp.and IntKind.i64 (Int.fdiv labels (4 : Int)) (15 : Int) ≤ (15 : Int))) = true ∧
 (((decide ((1 : Int) ≤ Go.bits BinOp.and IntKind.i64 labels (3 : Int))) = true → (Go.AE.seqB data { data := #[] }) = false ∧
 (decide ((32 : Int) < (↑(ByteArray.size data) : Int))) = false ∧
 (decide ((0 : Int) ≤ Go.bits BinOp.and IntKind.i64 labels (3 : Int))) = true ∧
 (decide (Go.bits BinOp.and IntKind.i64 labels (3 : Int) ≤ (3 : Int))) = true ∧
 (decide ((0 : Int) ≤ Go.bits BinOp.and IntKind.i64 (Int.fdiv labels (4 : Int)) (15 : Int))) = true ∧
 (decide (Go.bits BinOp.and IntKind.i64 (Int.fdiv labels (4 : Int)) (15 : Int) ≤ (15 : Int))) = true ∧
 (decide ((1 : Int) ≤ Go.bits BinOp.and IntKind.i64 labels (3 : Int))) = true ∧
 Bool.true = Bool.true) ∧ ((decide ((1 : Int) ≤ Go.bits BinOp.and IntKind.i64 labels (3 : Int))) = false → (Go.AE.seqB data { data := #[] }) = false ∧
 (decide ((32 : Int) < (↑(ByteArray.size data) : Int))) = false ∧
 (decide ((0 : Int) ≤ Go.bits BinOp.and IntKind.i64 labels (3 : Int))) = true ∧
 (decide (Go.bits BinOp.and IntKind.i64 labels (3 : Int) ≤ (3 : Int))) = true ∧
 (decide ((0 : Int) ≤ Go.bits BinOp.and IntKind.i64 (Int.fdiv labels (4 : Int)) (15 : Int))) = true ∧
 (decide (Go.bits BinOp.and IntKind.i64 (Int.fdiv labels (4 : Int)) (15 : Int) ≤ (15 : Int))) = true ∧
 (decide ((1 : Int) ≤ Go.bits BinOp.and IntKind.i64 labels (3 : Int))) = false ∧
 Bool.true = Bool.true))))))))))) ∧ ((decide ((24 : Int) < Go.bits BinOp.and IntKind.i64 fill (31 : Int))) = false → (((decide (Go.bits BinOp.and IntKind.i64 fill (32 : Int) = (32 : Int))) = true → (((Go.AE.seqB data { data := #[] }) = true → (Go.AE.seqB data { data := #[] }) = true ∧
 Bool.true = Bool.true) ∧ ((Go.AE.seqB data { data := #[] }) = false → (((decide ((32 : Int) < (↑(ByteArray.size data) : Int))) = true → (Go.AE.seqB data { data := #[] }) = false ∧
 (decide ((32 : Int) < (↑(ByteArray.size data) : Int))) = true ∧
 Bool.true = Bool.true) ∧ ((decide ((32 : Int) < (↑(ByteArray.size data) : Int))) = false → (decide ((0 : Int) ≤ Go.bits BinOp.and IntKind.i64 labels (3 : Int))) = true ∧
 (decide (Go.bits BinOp.and IntKind.i64 labels (3 : Int) ≤ (3 : Int))) = true ∧
 (decide ((0 : Int) ≤ Go.bits BinOp.and IntKind.i64 (Int.fdiv labels (4 : Int)) (15 : Int))) = true ∧
 (decide (Go.bits BinOp.and IntKind.i64 (Int.fdiv labels (4 : Int)) (15 : Int) ≤ (15 : Int))) = true ∧
 (((decide ((1 : Int) ≤ Go.bits BinOp.and IntKind.i64 labels (3 : Int))) = true → (Go.AE.seqB data { data := #[] }) = false ∧
 (decide ((32 : Int) < (↑(ByteArray.size data) : Int))) = false ∧
 (decide ((0 : Int) ≤ Go.bits BinOp.and IntKind.i64 labels (3 : Int))) = true ∧
 (decide (Go.bits BinOp.and IntKind.i64 labels (3 : Int) ≤ (3 : Int))) = true ∧
 (decide ((0 : Int) ≤ Go.bits BinOp.and IntKind.i64 (Int.fdiv labels (4 : Int)) (15 : Int))) = true ∧
 (decide (Go.bits BinOp.and IntKind.i64 (Int.fdiv labels (4 : Int)) (15 : Int) ≤ (15 : Int))) = true ∧
 (decide ((1 : Int) ≤ Go.bits BinOp.and IntKind.i64 labels (3 : Int))) = true ∧
 Bool.true = Bool.true) ∧ ((decide ((1 : Int) ≤ Go.bits BinOp.and IntKind.i64 labels (3 : Int))) = false → (Go.AE.seqB data { data := #[] }) = false ∧
 (decide ((32 : Int) < (↑(ByteArray.size data) : Int))) = false ∧
 (decide ((0 : Int) ≤ Go.bits BinOp.and IntKind.i64 labels (3 : Int))) = true ∧
 (decide (Go.bits BinOp.and IntKind.i64 labels (3 : Int) ≤ (3 : Int))) = true ∧
 (decide ((0 : Int) ≤ Go.bits BinOp.and IntKind.i64 (Int.fdiv labels (4 : Int)) (15 : Int))) = true ∧
 (decide (Go.bits BinOp.and IntKind.i64 (Int.fdiv labels (4 : Int)) (15 : Int) ≤ (15 : Int))) = true ∧
 (decide ((1 : Int) ≤ Go.bits BinOp.and IntKind.i64 labels (3 : Int))) = false ∧
 Bool.true = Bool.true))))))) ∧ ((decide (Go.bits BinOp.and IntKind.i64 fill (32 : Int) = (32 : Int))) = false → (((Go.AE.seqB data { data := #[] }) = true → (Go.AE.seqB data { data := #[] }) = true ∧
 Bool.true = Bool.true) ∧ ((Go.AE.seqB data { data := #[] }) = false → (((decide ((32 : Int) < (↑(ByteArray.size data) : Int))) = true → (Go.AE.seqB data { data := #[] }) = false ∧
 (decide ((32 : Int) < (↑(ByteArray.size data) : Int))) = true ∧
 Bool.true = Bool.true) ∧ ((decide ((32 : Int) < (↑(ByteArray.size data) : Int))) = false → (decide ((0 : Int) ≤ Go.bits BinOp.and IntKind.i64 labels (3 : Int))) = true ∧
 (decide (Go.bits BinOp.and IntKind.i64 labels (3 : Int) ≤ (3 : Int))) = true ∧
 (decide ((0 : Int) ≤ Go.bits BinOp.and IntKind.i64 (Int.fdiv labels (4 : Int)) (15 : Int))) = true ∧
 (decide (Go.bits BinOp.and IntKind.i64 (Int.fdiv labels (4 : Int)) (15 : Int) ≤ (15 : Int))) = true ∧
 (((decide ((1 : Int) ≤ Go.bits BinOp.and IntKind.i64 labels (3 : Int))) = true → (Go.AE.seqB data { data := #[] }) = false ∧
 (decide ((32 : Int) < (↑(ByteArray.size data) : Int))) = false ∧
 (decide ((0 : Int) ≤ Go.bits BinOp.and IntKind.i64 labels (3 : Int))) = true ∧
 (decide (Go.bits BinOp.and IntKind.i64 labels (3 : Int) ≤ (3 : Int))) = true ∧
 (decide ((0 : Int) ≤ Go.bits BinOp.and IntKind.i64 (Int.fdiv labels (4 : Int)) (15 : Int))) = true ∧
 (decide (Go.bits BinOp.and IntKind.i64 (Int.fdiv labels (4 : Int)) (15 : Int) ≤ (15 : Int))) = true ∧
 (decide ((1 : Int) ≤ Go.bits BinOp.and IntKind.i64 labels (3 : Int))) = true ∧
 Bool.true = Bool.true) ∧ ((decide ((1 : Int) ≤ Go.bits BinOp.and IntKind.i64 labels (3 : Int))) = false → (Go.AE.seqB data { data := #[] }) = false ∧
 (decide ((32 : Int) < (↑(ByteArray.size data) : Int))) = false ∧
 (decide ((0 : Int) ≤ Go.bits BinOp.and IntKind.i64 labels (3 : Int))) = true ∧
 (decide (Go.bits BinOp.and IntKind.i64 labels (3 : Int) ≤ (3 : Int))) = true ∧
 (decide ((0 : Int) ≤ Go.bits BinOp.and IntKind.i64 (Int.fdiv labels (4 : Int)) (15 : Int))) = true ∧
 (decide (Go.bits BinOp.and IntKind.i64 (Int.fdiv labels (4 : Int)) (15 : Int) ≤ (15 : Int))) = true ∧
 (decide ((1 : Int) ≤ Go.bits BinOp.and IntKind.i64 labels (3 : Int))) = false ∧
 Bool.true = Bool.true))))))))))) ∧ ((decide ((23 : Int) < Go.bits BinOp.and IntKind.i64 fill (31 : Int))) = false → (((decide (Go.bits BinOp.and IntKind.i64 fill (32 : Int) = (32 : Int))) = true → (((Go.AE.seqB data { data := #[] }) = true → (Go.AE.seqB data { data := #[] }) = true ∧
 Bool.true = Bool.true) ∧ ((Go.AE.seqB data { data := #[] }) = false → (((decide ((32 : Int) < (↑(ByteArray.size data) : Int))) = true → (Go.AE.seqB data { data := #[] }) = false ∧
 (decide ((32 : Int) < (↑(ByteArray.size data) : Int))) = true ∧
 Bool.true = Bool.true) ∧ ((decide ((32 : Int) < (↑(ByteArray.size data) : Int))) = false → (decide ((0 : Int) ≤ Go.bits BinOp.and IntKind.i64 labels (3 : Int))) = true ∧
 (decide (Go.bits BinOp.and IntKind.i64 labels (3 : Int) ≤ (3 : Int))) = true ∧
 (decide ((0 : Int) ≤ Go.bits BinOp.and IntKind.i64 (Int.fdiv labels (4 : Int)) (15 : Int))) = true ∧
 (decide (Go.bits BinOp.and IntKind.i64 (Int.fdiv labels (4 : Int)) (15 : Int) ≤ (15 : Int))) = true ∧
 (((decide ((1 : Int) ≤ Go.bits BinOp.and IntKind.i64 labels (3 : Int))) = true → (Go.AE.seqB data { data := #[] }) = false ∧
 (decide ((32 : Int) < (↑(ByteArray.size data) : Int))) = false ∧
 (decide ((0 : Int) ≤ Go.bits BinOp.and IntKind.i64 labels (3 : Int))) = true ∧
 (decide (Go.bits BinOp.and IntKind.i64 labels (3 : Int) ≤ (3 : Int))) = true ∧
 (decide ((0 : Int) ≤ Go.bits BinOp.and IntKind.i64 (Int.fdiv labels (4 : Int)) (15 : Int))) = true ∧
 (decide (Go.bits BinOp.and IntKind.i64 (Int.fdiv labels (4 : Int)) (15 : Int) ≤ (15 : Int))) = true ∧
 (decide ((1 : Int) ≤ Go.bits BinOp.and IntKind.i64 labels (3 : Int))) = true ∧
 Bool.true = Bool.true) ∧ ((decide ((1 : Int) ≤ Go.bits BinOp.and IntKind.i64 labels (3 : Int))) = false → (Go.AE.seqB data { data := #[] }) = false ∧
 (decide ((32 : Int) < (↑(ByteArray.size data) : Int))) = false ∧
 (decide ((0 : Int) ≤ Go.bits BinOp.and IntKind.i64 labels (3 : Int))) = true ∧
 (decide (Go.bits BinOp.and IntKind.i64 labels (3 : Int) ≤ (3 : Int))) = true ∧
 (decide ((0 : Int) ≤ Go.bits BinOp.and IntKind.i64 (Int.fdiv labels (4 : Int)) (15 : Int))) = true ∧
 (decide (Go.bits BinOp.and IntKind.i64 (Int.fdiv labels (4 : Int)) (15 : Int) ≤ (15 : Int))) = true ∧
 (decide ((1 : Int) ≤ Go.bits BinOp.and IntKind.i64 labels (3 : Int))) = false ∧
 Bool.true = Bool.true))))))) ∧ ((decide (Go.bits BinOp.and IntKind.i64 fill (32 : Int) = (32 : Int))) = false → (((Go.AE.seqB data { data := #[] }) = true → (Go.AE.seqB data { data := #[] }) = true ∧
 Bool.true = Bool.true) ∧ ((Go.AE.seqB data { data := #[] }) = false → (((decide ((32 : Int) < (↑(ByteArray.size data) : Int))) = true → (Go.AE.seqB data { data := #[] }) = false ∧
 (decide ((32 : Int) < (↑(ByteArray.size data) : Int))) = true ∧
 Bool.true = Bool.true) ∧ ((decide ((32 : Int) < (↑(ByteArray.size data) : Int))) = false → (decide ((0 : Int) ≤ Go.bits BinOp.and IntKind.i64 labels (3 : Int))) = true ∧
 (decide (Go.bits BinOp.and IntKind.i64 labels (3 : Int) ≤ (3 : Int))) = true ∧
 (decide ((0 : Int) ≤ Go.bits BinOp.and IntKind.i64 (Int.fdiv labels (4 : Int)) (15 : Int))) = true ∧
 (decide (Go.bits BinOp.and IntKind.i64 (Int.fdiv labels (4 : Int)) (15 : Int) ≤ (15 : Int))) = true ∧
 (((decide ((1 : Int) ≤ Go.bits BinOp.and IntKind.i64 labels (3 : Int))) = true → (Go.AE.seqB data { data := #[] }) = false ∧
 (decide ((32 : Int) < (↑(ByteArray.size data) : Int))) = false ∧
 (decide ((0 : Int) ≤ Go.bits BinOp.and IntKind.i64 labels (3 : Int))) = true ∧
 (decide (Go.bits BinOp.and IntKind.i64 labels (3 : Int) ≤ (3 : Int))) = true ∧
 (decide ((0 : Int) ≤ Go.bits BinOp.and IntKind.i64 (Int.fdiv labels (4 : Int)) (15 : Int))) = true ∧
 (decide (Go.bits BinOp.and IntKind.i64 (Int.fdiv labels (4 : Int)) (15 : Int) ≤ (15 : Int))) = true ∧
 (decide ((1 : Int) ≤ Go.bits BinOp.and IntKind.i64 labels (3 : Int))) = true ∧
 Bool.true = Bool.true) ∧ ((decide ((1 : Int) ≤ Go.bits BinOp.and IntKind.i64 labels (3 : Int))) = false → (Go.AE.seqB data { data := #[] }) = false ∧
 (decide ((32 : Int) < (↑(ByteArray.size data) : Int))) = false ∧
 (decide ((0 : Int) ≤ Go.bits BinOp.and IntKind.i64 labels (3 : Int))) = true ∧
 (decide (Go.bits BinOp.and IntKind.i64 labels (3 : Int) ≤ (3 : Int))) = true ∧
 (decide ((0 : Int) ≤ Go.bits BinOp.and IntKind.i64 (Int.fdiv labels (4 : Int)) (15 : Int))) = true ∧
 (decide (Go.bits BinOp.and IntKind.i64 (Int.fdiv labels (4 : Int)) (15 : Int) ≤ (15 : Int))) = true ∧
 (decide ((1 : Int) ≤ Go.bits BinOp.and IntKind.i64 labels (3 : Int))) = false ∧
 Bool.true = Bool.true))))))))))) ∧ ((decide ((22 : Int) < Go.bits BinOp.and IntKind.i64 fill (31 : Int))) = false → (((decide (Go.bits BinOp.and IntKind.i64 fill (32 : Int) = (32 : Int))) = true → (((Go.AE.seqB data { data := #[] }) = true → (Go.AE.seqB data { data := #[] }) = true ∧
 Bool.true = Bool.true) ∧ ((Go.AE.seqB data { data := #[] }) = false → (((decide ((32 : Int) < (↑(ByteArray.size data) : Int))) = true → (Go.AE.seqB data { data := #[] }) = false ∧
 (decide ((32 : Int) < (↑(ByteArray.size data) : Int))) = true ∧
 Bool.true = Bool.true) ∧ ((decide ((32 : Int) < (↑(ByteArray.size data) : Int))) = false → (decide ((0 : Int) ≤ Go.bits BinOp.and IntKind.i64 labels (3 : Int))) = true ∧
 (decide (Go.bits BinOp.and IntKind.i64 labels (3 : Int) ≤ (3 : Int))) = true ∧
 (decide ((0 : Int) ≤ Go.bits BinOp.and IntKind.i64 (Int.fdiv labels (4 : Int)) (15 : Int))) = true ∧
 (decide (Go.bits BinOp.and IntKind.i64 (Int.fdiv labels (4 : Int)) (15 : Int) ≤ (15 : Int))) = true ∧
 (((decide ((1 : Int) ≤ Go.bits BinOp.and IntKind.i64 labels (3 : Int))) = true → (Go.AE.seqB data { data := #[] }) = false ∧
 (decide ((32 : Int) < (↑(ByteArray.size data) : Int))) = false ∧
 (decide ((0 : Int) ≤ Go.bits BinOp.and IntKind.i64 labels (3 : Int))) = true ∧
 (decide (Go.bits BinOp.and IntKind.i64 labels (3 : Int) ≤ (3 : Int))) = true ∧
 (decide ((0 : Int) ≤ Go.bits BinOp.and IntKind.i64 (Int.fdiv labels (4 : Int)) (15 : Int))) = true ∧
 (decide (Go.bits BinOp.and IntKind.i64 (Int.fdiv labels (4 : Int)) (15 : Int) ≤ (15 : Int))) = true ∧
 (decide ((1 : Int) ≤ Go.bits BinOp.and IntKind.i64 labels (3 : Int))) = true ∧
 Bool.true = Bool.true) ∧ ((decide ((1 : Int) ≤ Go.bits BinOp.and IntKind.i64 labels (3 : Int))) = false → (Go.AE.seqB data { data := #[] }) = false ∧
 (decide ((32 : Int) < (↑(ByteArray.size data) : Int))) = false ∧
 (decide ((0 : Int) ≤ Go.bits BinOp.and IntKind.i64 labels (3 : Int))) = true ∧
 (decide (Go.bits BinOp.and IntKind.i64 labels (3 : Int) ≤ (3 : Int))) = true ∧
 (decide ((0 : Int) ≤ Go.bits BinOp.and IntKind.i64 (Int.fdiv labels (4 : Int)) (15 : Int))) = true ∧
 (decide (Go.bits BinOp.and IntKind.i64 (Int.fdiv labels (4 : Int)) (15 : Int) ≤ (15 : Int))) = true ∧
 (decide ((1 : Int) ≤ Go.bits BinOp.and IntKind.i64 labels (3 : Int))) = false ∧
 Bool.true = Bool.true))))))) ∧ ((decide (Go.bits BinOp.and IntKind.i64 fill (32 : Int) = (32 : Int))) = false → (((Go.AE.seqB data { data := #[] }) = true → (Go.AE.seqB data { data := #[] }) = true ∧
 Bool.true = Bool.true) ∧ ((Go.AE.seqB data { data := #[] }) = false → (((decide ((32 : Int) < (↑(ByteArray.size data) : Int))) = true → (Go.AE.seqB data { data := #[] }) = false ∧
 (decide ((32 : Int) < (↑(ByteArray.size data) : Int))) = true ∧
 Bool.true = Bool.true) ∧ ((decide ((32 : Int) < (↑(ByteArray.size data) : Int))) = false → (decide ((0 : Int) ≤ Go.bits BinOp.and IntKind.i64 labels (3 : Int))) = true ∧
 (decide (Go.bits BinOp.and IntKind.i64 labels (3 : Int) ≤ (3 : Int))) = true ∧
 (decide ((0 : Int) ≤ Go.bits BinOp.and IntKind.i64 (Int.fdiv labels (4 : Int)) (15 : Int))) = true ∧
 (decide (Go.bits BinOp.and IntKind.i64 (Int.fdiv labels (4 : Int)) (15 : Int) ≤ (15 : Int))) = true ∧
 (((decide ((1 : Int) ≤ Go.bits BinOp.and IntKind.i64 labels (3 : Int))) = true → (Go.AE.seqB data { data := #[] }) = false ∧
 (decide ((32 : Int) < (↑(ByteArray.size data) : Int))) = false ∧
 (decide ((0 : Int) ≤ Go.bits BinOp.and IntKind.i64 labels (3 : Int))) = true ∧
 (decide (Go.bits BinOp.and IntKind.i64 labels (3 : Int) ≤ (3 : Int))) = true ∧
 (decide ((0 : Int) ≤ Go.bits BinOp.and IntKind.i64 (Int.fdiv labels (4 : Int)) (15 : Int))) = true ∧
 (decide (Go.bits BinOp.and IntKind.i64 (Int.fdiv labels (4 : Int)) (15 : Int) ≤ (15 : Int))) = true ∧
 (decide ((1 : Int) ≤ Go.bits BinOp.and IntKind.i64 labels (3 : Int))) = true ∧
 Bool.true = Bool.true) ∧ ((decide ((1 : Int) ≤ Go.bits BinOp.and IntKind.i64 labels (3 : Int))) = false → (Go.AE.seqB data { data := #[] }) = false ∧
 (decide ((32 : Int) < (↑(ByteArray.size data) : Int))) = false ∧
 (decide ((0 : Int) ≤ Go.bits BinOp.and IntKind.i64 labels (3 : Int))) = true ∧
 (decide (Go.bits BinOp.and IntKind.i64 labels (3 : Int) ≤ (3 : Int))) = true ∧
 (decide ((0 : Int) ≤ Go.bits BinOp.and IntKind.i64 (Int.fdiv labels (4 : Int)) (15 : Int))) = true ∧
 (decide (Go.bits BinOp.and IntKind.i64 (Int.fdiv labels (4 : Int)) (15 : Int) ≤ (15 : Int))) = true ∧
 (decide ((1 : Int) ≤ Go.bits BinOp.and IntKind.i64 labels (3 : Int))) = false ∧
 Bool.true = Bool.true))))))))))) ∧ ((decide ((21 : Int) < Go.bits BinOp.and IntKind.i64 fill (31 : Int))) = false → (((decide (Go.bits BinOp.and IntKind.i64 fill (32 : Int) = (32 : Int))) = true → (((Go.AE.seqB data { data := #[] }) = true → (Go.AE.seqB data { data := #[] }) = true ∧
 Bool.true = Bool.true) ∧ ((Go.AE.seqB data { data := #[] }) = false → (((decide ((32 : Int) < (↑(ByteArray.size data) : Int))) = true → (Go.AE.seqB data { data := #[] }) = false ∧
 (decide ((32 : Int) < (↑(ByteArray.size data) : Int))) = true ∧
 Bool.true = Bool.true) ∧ ((decide ((32 : Int) < (↑(ByteArray.size data) : Int))) = false → (decide ((0 : Int) ≤ Go.bits BinOp.and IntKind.i64 labels (3 : Int))) = true ∧
 (decide (Go.bits BinOp.and IntKind.i64 labels (3 : Int) ≤ (3 : Int))) = true ∧
 (decide ((0 : Int) ≤ Go.bits BinOp.and IntKind.i64 (Int.fdiv labels (4 : Int)) (15 : Int))) = true ∧
 (decide (Go.bits BinOp.and IntKind.i64 (Int.fdiv labels (4 : Int)) (15 : Int) ≤ (15 : Int))) = true ∧
 (((decide ((1 : Int) ≤ Go.bits BinOp.and IntKind.i64 labels (3 : Int))) = true → (Go.AE.seqB data { data := #[] }) = false ∧
 (decide ((32 : Int) < (↑(ByteArray.size data) : Int))) = false ∧
 (decide ((0 : Int) ≤ Go.bits BinOp.and IntKind.i64 labels (3 : Int))) = true ∧
 (decide (Go.bits BinOp.and IntKind.i64 labels (3 : Int) ≤ (3 : Int))) = true ∧
 (decide ((0 : Int) ≤ Go.bits BinOp.and IntKind.i64 (Int.fdiv labels (4 : Int)) (15 : Int))) = true ∧
 (decide (Go.bits BinOp.and IntKind.i64 (Int.fdiv labels (4 : Int)) (15 : Int) ≤ (15 : Int))) = true ∧
 (decide ((1 : Int) ≤ Go.bits BinOp.and IntKind.i64 labels (3 : Int))) = true ∧
 Bool.true = Bool.true) ∧ ((decide ((1 : Int) ≤ Go.bits BinOp.and IntKind.i64 labels (3 : Int))) = false → (Go.AE.seqB data { data := #[] }) = false ∧
 (decide ((32 : Int) < (↑(ByteArray.size data) : Int))) = false ∧
 (decide ((0 : Int) ≤ Go.bits BinOp.and IntKind.i64 labels (3 : Int))) = true ∧
 (decide (Go.bits BinOp.and IntKind.i64 labels (3 : Int) ≤ (3 : Int))) = true ∧
 (decide ((0 : Int) ≤ Go.bits BinOp.and IntKind.i64 (Int.fdiv labels (4 : Int)) (15 : Int))) = true ∧
 (decide (Go.bits BinOp.and IntKind.i64 (Int.fdiv labels (4 : Int)) (15 : Int) ≤ (15 : Int))) = true ∧
 (decide ((1 : Int) ≤ Go.bits BinOp.and IntKind.i64 labels (3 : Int))) = false ∧
 Bool.true = Bool.true))))))) ∧ ((decide (Go.bits BinOp.and IntKind.i64 fill (32 : Int) = (32 : Int))) = false → (((Go.AE.seqB data { data := #[] }) = true → (Go.AE.seqB data { data := #[] }) = true ∧
 Bool.true = Bool.true) ∧ ((Go.AE.seqB data { data := #[] }) = false → (((decide ((32 : Int) < (↑(ByteArray.size data) : Int))) = true → (Go.AE.seqB data { data := #[] }) = false ∧
 (decide ((32 : Int) < (↑(ByteArray.size data) : Int))) = true ∧
 Bool.true = Bool.true) ∧ ((decide ((32 : Int) < (↑(ByteArray.size data) : Int))) = false → (decide ((0 : Int) ≤ Go.bits BinOp.and IntKind.i64 labels (3 : Int))) = true ∧
 (decide (Go.bits BinOp.and IntKind.i64 labels (3 : Int) ≤ (3 : Int))) = true ∧
 (decide ((0 : Int) ≤ Go.bits BinOp.and IntKind.i64 (Int.fdiv labels (4 : Int)) (15 : Int))) = true ∧
 (decide (Go.bits BinOp.and IntKind.i64 (Int.fdiv labels (4 : Int)) (15 : Int) ≤ (15 : Int))) = true ∧
 (((decide ((1 : Int) ≤ Go.bits BinOp.and IntKind.i64 labels (3 : Int))) = true → (Go.AE.seqB data { data := #[] }) = false ∧
 (decide ((32 : Int) < (↑(ByteArray.size data) : Int))) = false ∧
 (decide ((0 : Int) ≤ Go.bits BinOp.and IntKind.i64 labels (3 : Int))) = true ∧
 (decide (Go.bits BinOp.and IntKind.i64 labels (3 : Int) ≤ (3 : Int))) = true ∧
 (decide ((0 : Int) ≤ Go.bits BinOp.and IntKind.i64 (Int.fdiv labels (4 : Int)) (15 : Int))) = true ∧
 (decide (Go.bits BinOp.and IntKind.i64 (Int.fdiv labels (4 : Int)) (15 : Int) ≤ (15 : Int))) = true ∧
 (decide ((1 : Int) ≤ Go.bits BinOp.and IntKind.i64 labels (3 : Int))) = true ∧
 Bool.true = Bool.true) ∧ ((decide ((1 : Int) ≤ Go.bits BinOp.and IntKind.i64 labels (3 : Int))) = false → (Go.AE.seqB data { data := #[] }) = false ∧
 (decide ((32 : Int) < (↑(ByteArray.size data) : Int))) = false ∧
 (decide ((0 : Int) ≤ Go.bits BinOp.and IntKind.i64 labels (3 : Int))) = true ∧
 (decide (Go.bits BinOp.and IntKind.i64 labels (3 : Int) ≤ (3 : Int))) = true ∧
 (decide ((0 : Int) ≤ Go.bits BinOp.and IntKind.i64 (Int.fdiv labels (4 : Int)) (15 : Int))) = true ∧
 (decide (Go.bits BinOp.and IntKind.i64 (Int.fdiv labels (4 : Int)) (15 : Int) ≤ (15 : Int))) = true ∧
 (decide ((1 : Int) ≤ Go.bits BinOp.and IntKind.i64 labels (3 : Int))) = false ∧
 Bool.true = Bool.true))))))))))) ∧ ((decide ((20 : Int) < Go.bits BinOp.and IntKind.i64 fill (31 : Int))) = false → (((decide (Go.bits BinOp.and IntKind.i64 fill (32 : Int) = (32 : Int))) = true → (((Go.AE.seqB data { data := #[] }) = true → (Go.AE.seqB data { data := #[] }) = true ∧
 Bool.true = Bool.true) ∧ ((Go.AE.seqB data { data := #[] }) = false → (((decide ((32 : Int) < (↑(ByteArray.size data) : Int))) = true → (Go.AE.seqB data { data := #[] }) = false ∧
 (decide ((32 : Int) < (↑(ByteArray.size data) : Int))) = true ∧
 Bool.true = Bool.true) ∧ ((decide ((32 : Int) < (↑(ByteArray.size data) : Int))) = false → (decide ((0 : Int) ≤ Go.bits BinOp.and IntKind.i64 labels (3 : Int))) = true ∧
 (decide (Go.bits BinOp.and IntKind.i64 labels (3 : Int) ≤ (3 : Int))) = true ∧
 (decide ((0 : Int) ≤ Go.bits BinOp.and IntKind.i64 (Int.fdiv labels (4 : Int)) (15 : Int))) = true ∧
 (decide (Go.bits BinOp.and IntKind.i64 (Int.fdiv labels (4 : Int)) (15 : Int) ≤ (15 : Int))) = true ∧
 (((decide ((1 : Int) ≤ Go.bits BinOp.and IntKind.i64 labels (3 : Int))) = true → (Go.AE.seqB data { data := #[] }) = false ∧
 (decide ((32 : Int) < (↑(ByteArray.size data) : Int))) = false ∧
 (decide ((0 : Int) ≤ Go.bits BinOp.and IntKind.i64 labels (3 : Int))) = true ∧
 (decide (Go.bits BinOp.and IntKind.i64 labels (3 : Int) ≤ (3 : Int))) = true ∧
 (decide ((0 : Int) ≤ Go.bits BinOp.and IntKind.i64 (Int.fdiv labels (4 : Int)) (15 : Int))) = true ∧
 (decide (Go.bits BinOp.and IntKind.i64 (Int.fdiv labels (4 : Int)) (15 : Int) ≤ (15 : Int))) = true ∧
 (decide ((1 : Int) ≤ Go.bits BinOp.and IntKind.i64 labels (3 : Int))) = true ∧
 Bool.true = Bool.true) ∧ ((decide ((1 : Int) ≤ Go.bits BinOp.and IntKind.i64 labels (3 : Int))) = false → (Go.AE.seqB data { data := #[] }) = false ∧
 (decide ((32 : Int) < (↑(ByteArray.size data) : Int))) = false ∧
 (decide ((0 : Int) ≤ Go.bits BinOp.and IntKind.i64 labels (3 : Int))) = true ∧
 (decide (Go.bits BinOp.and IntKind.i64 labels (3 : Int) ≤ (3 : Int))) = true ∧
 (decide ((0 : Int) ≤ Go.bits BinOp.and IntKind.i64 (Int.fdiv labels (4 : Int)) (15 : Int))) = true ∧
 (decide (Go.bits BinOp.and IntKind.i64 (Int.fdiv labels (4 : Int)) (15 : Int) ≤ (15 : Int))) = true ∧
 (decide ((1 : Int) ≤ Go.bits BinOp.and IntKind.i64 labels (3 : Int))) = false ∧
 Bool.true = Bool.true))))))) ∧ ((decide (Go.bits BinOp.and IntKind.i64 fill (32 : Int) = (32 : Int))) = false → (((Go.AE.seqB data { data := #[] }) = true → (Go.AE.seqB data { data := #[] }) = true ∧
 Bool.true = Bool.true) ∧ ((Go.AE.seqB data { data := #[] }) = false → (((decide ((32 : Int) < (↑(ByteArray.size data) : Int))) = true → (Go.AE.seqB data { data := #[] }) = false ∧
 (decide ((32 : Int) < (↑(ByteArray.size data) : Int))) = true ∧
 Bool.true = Bool.true) ∧ ((decide ((32 : Int) < (↑(ByteArray.size data) : Int))) = false → (decide ((0 : Int) ≤ Go.bits BinOp.and IntKind.i64 labels (3 : Int))) = true ∧
 (decide (Go.bits BinOp.and IntKind.i64 labels (3 : Int) ≤ (3 : Int))) = true ∧
 (decide ((0 : Int) ≤ Go.bits BinOp.and IntKind.i64 (Int.fdiv labels (4 : Int)) (15 : Int))) = true ∧
 (decide (Go.bits BinOp.and IntKind.i64 (Int.fdiv labels (4 : Int)) (15 : Int) ≤ (15 : Int))) = true ∧
 (((decide ((1 : Int) ≤ Go.bits BinOp.and IntKind.i64 labels (3 : Int))) = true → (Go.AE.seqB data { data := #[] }) = false ∧
 (decide ((32 : Int) < (↑(ByteArray.size data) : Int))) = false ∧
 (decide ((0 : Int) ≤ Go.bits BinOp.and IntKind.i64 labels (3 : Int))) = true ∧
 (decide (Go.bits BinOp.and IntKind.i64 labels (3 : Int) ≤ (3 : Int))) = true ∧
 (decide ((0 : Int) ≤ Go.bits BinOp.and IntKind.i64 (Int.fdiv labels (4 : Int)) (15 : Int))) = true ∧
 (decide (Go.bits BinOp.and IntKind.i64 (Int.fdiv labels (4 : Int)) (15 : Int) ≤ (15 : Int))) = true ∧
 (decide ((1 : Int) ≤ Go.bits BinOp.and IntKind.i64 labels (3 : Int))) = true ∧
 Bool.true = Bool.true) ∧ ((decide ((1 : Int) ≤ Go.bits BinOp.and IntKind.i64 labels (3 : Int))) = false → (Go.AE.seqB data { data := #[] }) = false ∧
 (decide ((32 : Int) < (↑(ByteArray.size data) : Int))) = false ∧
 (decide ((0 : Int) ≤ Go.bits BinOp.and IntKind.i64 labels (3 : Int))) = true ∧
 (decide (Go.bits BinOp.and IntKind.i64 labels (3 : Int) ≤ (3 : Int))) = true ∧
 (decide ((0 : Int) ≤ Go.bits BinOp.and IntKind.i64 (Int.fdiv labels (4 : Int)) (15 : Int))) = true ∧
 (decide (Go.bits BinOp.and IntKind.i64 (Int.fdiv labels (4 : Int)) (15 : Int) ≤ (15 : Int))) = true ∧
 (decide ((1 : Int) ≤ Go.bits BinOp.and IntKind.i64 labels (3 : Int))) = false ∧
 Bool.true = Bool.true))))))))))) ∧ ((decide ((19 : Int) < Go.bits BinOp.and IntKind.i64 fill (31 : Int))) = false → (((decide (Go.bits BinOp.and IntKind.i64 fill (32 : Int) = (32 : Int))) = true → (((Go.AE.seqB data { data := #[] }) = true → (Go.AE.seqB data { data := #[] }) = true ∧
 Bool.true = Bool.true) ∧ ((Go.AE.seqB data { data := #[] }) = false → (((decide ((32 : Int) < (↑(ByteArray.size data) : Int))) = true → (Go.AE.seqB data { data := #[] }) = false ∧
 (decide ((32 : Int) < (↑(ByteArray.size data) : Int))) = true ∧
 Bool.true = Bool.true) ∧ ((decide ((32 : Int) < (↑(ByteArray.size data) : Int))) = false → (decide ((0 : Int) ≤ Go.bits BinOp.and IntKind.i64 labels (3 : Int))) = true ∧
 (decide (Go.bits BinOp.and IntKind.i64 labels (3 : Int) ≤ (3 : Int))) = true ∧
 (decide ((0 : Int) ≤ Go.bits BinOp.and IntKind.i64 (Int.fdiv labels (4 : Int)) (15 : Int))) = true ∧
 (decide (Go.bits BinOp.and IntKind.i64 (Int.fdiv labels (4 : Int)) (15 : Int) ≤ (15 : Int))) = true ∧
 (((decide ((1 : Int) ≤ Go.bits BinOp.and IntKind.i64 labels (3 : Int))) = true → (Go.AE.seqB data { data := #[] }) = false ∧
 (decide ((32 : Int) < (↑(ByteArray.size data) : Int))) = false ∧
 (decide ((0 : Int) ≤ Go.bits BinOp.and IntKind.i64 labels (3 : Int))) = true ∧
 (decide (Go.bits BinOp.and IntKind.i64 labels (3 : Int) ≤ (3 : Int))) = true ∧
 (decide ((0 : Int) ≤ Go.bits BinOp.and IntKind.i64 (Int.fdiv labels (4 : Int)) (15 : Int))) = true ∧
 (decide (Go.bits BinOp.and IntKind.i64 (Int.fdiv labels (4 : Int)) (15 : Int) ≤ (15 : Int))) = true ∧
 (decide ((1 : Int) ≤ Go.bits BinOp.and IntKind.i64 labels (3 : Int))) = true ∧
 Bool.true = Bool.true) ∧ ((decide ((1 : Int) ≤ Go.bits BinOp.and IntKind.i64 labels (3 : Int))) = false → (Go.AE.seqB data { data := #[] }) = false ∧
 (decide ((32 : Int) < (↑(ByteArray.size data) : Int))) = false ∧
 (decide ((0 : Int) ≤ Go.bits BinOp.and IntKind.i64 labels (3 : Int))) = true ∧
 (decide (Go.bits BinOp.and IntKind.i64 labels (3 : Int) ≤ (3 : Int))) = true ∧
 (decide ((0 : Int) ≤ Go.bits BinOp.and IntKind.i64 (Int.fdiv labels (4 : Int)) (15 : Int))) = true ∧
 (decide (Go.bits BinOp.and IntKind.i64 (Int.fdiv labels (4 : Int)) (15 : Int) ≤ (15 : Int))) = true ∧
 (decide ((1 : Int) ≤ Go.bits BinOp.and IntKind.i64 labels (3 : Int))) = false ∧
 Bool.true = Bool.true))))))) ∧ ((decide (Go.bits BinOp.and IntKind.i64 fill (32 : Int) = (32 : Int))) = false → (((Go.AE.seqB data { data := #[] }) = true → (Go.AE.seqB data { data := #[] }) = true ∧
 Bool.true = Bool.true) ∧ ((Go.AE.seqB data { data := #[] }) = false → (((decide ((32 : Int) < (↑(ByteArray.size data) : Int))) = true → (Go.AE.seqB data { data := #[] }) = false ∧
 (decide ((32 : Int) < (↑(ByteArray.size data) : Int))) = true ∧
 Bool.true = Bool.true) ∧ ((decide ((32 : Int) < (↑(ByteArray.size data) : Int))) = false → (decide ((0 : Int) ≤ Go.bits BinOp.and IntKind.i64 labels (3 : Int))) = true ∧
 (decide (Go.bits BinOp.and IntKind.i64 labels (3 : Int) ≤ (3 : Int))) = true ∧
 (decide ((0 : Int) ≤ Go.bits BinOp.and IntKind.i64 (Int.fdiv labels (4 : Int)) (15 : Int))) = true ∧
 (decide (Go.bits BinOp.and IntKind.i64 (Int.fdiv labels (4 : Int)) (15 : Int) ≤ (15 : Int))) = true ∧
 (((decide ((1 : Int) ≤ Go.bits BinOp.and IntKind.i64 labels (3 : Int))) = true → (Go.AE.seqB data { data := #[] }) = false ∧
 (decide ((32 : Int) < (↑(ByteArray.size data) : Int))) = false ∧
 (decide ((0 : Int) ≤ Go.bits BinOp.and IntKind.i64 labels (3 : Int))) = true ∧
 (decide (Go.bits BinOp.and IntKind.i64 labels (3 : Int) ≤ (3 : Int))) = true ∧
 (decide ((0 : Int) ≤ Go.bits BinOp.and IntKind.i64 (Int.fdiv labels (4 : Int)) (15 : Int))) = true ∧
 (decide (Go.bits BinOp.and IntKind.i64 (Int.fdiv labels (4 : Int)) (15 : Int) ≤ (15 : Int))) = true ∧
 (decide ((1 : Int) ≤ Go.bits BinOp.and IntKind.i64 labels (3 : Int))) = true ∧
 Bool.true = Bool.true) ∧ ((decide ((1 : Int) ≤ Go.bits BinOp.and IntKind.i64 labels (3 : Int))) = false → (Go.AE.seqB data { data := #[] }) = false ∧
 (decide ((32 : Int) < (↑(ByteArray.size data) : Int))) = false ∧
 (decide ((0 : Int) ≤ Go.bits BinOp.and IntKind.i64 labels (3 : Int))) = true ∧
 (decide (Go.bits BinOp.and IntKind.i64 labels (3 : Int) ≤ (3 : Int))) = true ∧
 (decide ((0 : Int) ≤ Go.bits BinOp.and IntKind.i64 (Int.fdiv labels (4 : Int)) (15 : Int))) = true ∧
 (decide (Go.bits BinOp.and IntKind.i64 (Int.fdiv labels (4 : Int)) (15 : Int) ≤ (15 : Int))) = true ∧
 (decide ((1 : Int) ≤ Go.bits BinOp.and IntKind.i64 labels (3 : Int))) = false ∧
 Bool.true = Bool.true))))))))))) ∧ ((decide ((18 : Int) < Go.bits BinOp.and IntKind.i64 fill (31 : Int))) = false → (((decide (Go.bits BinOp.and IntKind.i64 fill (32 : Int) = (32 : Int))) = true → (((Go.AE.seqB data { data := #[] }) = true → (Go.AE.seqB data { data := #[] }) = true ∧
 Bool.true = Bool.true) ∧ ((Go.AE.seqB data { data := #[] }) = false → (((decide ((32 : Int) < (↑(ByteArray.size data) : Int))) = true → (Go.AE.seqB data { data := #[] }) = false ∧
 (decide ((32 : Int) < (↑(ByteArray.size data) : Int))) = true ∧
 Bool.true = Bool.true) ∧ ((decide ((32 : Int) < (↑(ByteArray.size data) : Int))) = false → (decide ((0 : Int) ≤ Go.bits BinOp.and IntKind.i64 labels (3 : Int))) = true ∧
 (decide (Go.bits BinOp.and IntKind.i64 labels (3 : Int) ≤ (3 : Int))) = true ∧
 (decide ((0 : Int) ≤ Go.bits BinOp.and IntKind.i64 (Int.fdiv labels (4 : Int)) (15 : Int))) = true ∧
 (decide (Go.bits BinOp.and IntKind.i64 (Int.fdiv labels (4 : Int)) (15 : Int) ≤ (15 : Int))) = true ∧
 (((decide ((1 : Int) ≤ Go.bits BinOp.and IntKind.i64 labels (3 : Int))) = true → (Go.AE.seqB data { data := #[] }) = false ∧
 (decide ((32 : Int) < (↑(ByteArray.size data) : Int))) = false ∧
 (decide ((0 : Int) ≤ Go.bits BinOp.and IntKind.i64 labels (3 : Int))) = true ∧
 (decide (Go.bits BinOp.and IntKind.i64 labels (3 : Int) ≤ (3 : Int))) = true ∧
 (decide ((0 : Int) ≤ Go.bits BinOp.and IntKind.i64 (Int.fdiv labels (4 : Int)) (15 : Int))) = true ∧
 (decide (Go.bits BinOp.and IntKind.i64 (Int.fdiv labels (4 : Int)) (15 : Int) ≤ (15 : Int))) = true ∧
 (decide ((1 : Int) ≤ Go.bits BinOp.and IntKind.i64 labels (3 : Int))) = true ∧
 Bool.true = Bool.true) ∧ ((decide ((1 : Int) ≤ Go.bits BinOp.and IntKind.i64 labels (3 : Int))) = false → (Go.AE.seqB data { data := #[] }) = false ∧
 (decide ((32 : Int) < (↑(ByteArray.size data) : Int))) = false ∧
 (decide ((0 : Int) ≤ Go.bits BinOp.and IntKind.i64 labels (3 : Int))) = true ∧
 (decide (Go.bits BinOp.and IntKind.i64 labels (3 : Int) ≤ (3 : Int))) = true ∧
 (decide ((0 : Int) ≤ Go.bits BinOp.and IntKind.i64 (Int.fdiv labels (4 : Int)) (15 : Int))) = true ∧
 (decide (Go.bits BinOp.and IntKind.i64 (Int.fdiv labels (4 : Int)) (15 : Int) ≤ (15 : Int))) = true ∧
 (decide ((1 : Int) ≤ Go.bits BinOp.and IntKind.i64 labels (3 : Int))) = false ∧
 Bool.true = Bool.true))))))) ∧ ((decide (Go.bits BinOp.and IntKind.i64 fill (32 : Int) = (32 : Int))) = false → (((Go.AE.seqB data { data := #[] }) = true → (Go.AE.seqB data { data := #[] }) = true ∧
 Bool.true = Bool.true) ∧ ((Go.AE.seqB data { data := #[] }) = false → (((decide ((32 : Int) < (↑(ByteArray.size data) : Int))) = true → (Go.AE.seqB data { data := #[] }) = false ∧
 (decide ((32 : Int) < (↑(ByteArray.size data) : Int))) = true ∧
 Bool.true = Bool.true) ∧ ((decide ((32 : Int) < (↑(ByteArray.size data) : Int))) = false → (decide ((0 : Int) ≤ Go.bits BinOp.and IntKind.i64 labels (3 : Int))) = true ∧
 (decide (Go.bits BinOp.and IntKind.i64 labels (3 : Int) ≤ (3 : Int))) = true ∧
 (decide ((0 : Int) ≤ Go.bits BinOp.and IntKind.i64 (Int.fdiv labels (4 : Int)) (15 : Int))) = true ∧
 (decide (Go.bits BinOp.and IntKind.i64 (Int.fdiv labels (4 : Int)) (15 : Int) ≤ (15 : Int))) = true ∧
 (((decide ((1 : Int) ≤ Go.bits BinOp.and IntKind.i64 labels (3 : Int))) = true → (Go.AE.seqB data { data := #[] }) = false ∧
 (decide ((32 : Int) < (↑(ByteArray.size data) : Int))) = false ∧
 (decide ((0 : Int) ≤ Go.bits BinOp.and IntKind.i64 labels (3 : Int))) = true ∧
 (decide (Go.bits BinOp.and IntKind.i64 labels (3 : Int) ≤ (3 : Int))) = true ∧
 (decide ((0 : Int) ≤ Go.bits BinOp.and IntKind.i64 (Int.fdiv labels (4 : Int)) (15 : Int))) = true ∧
 (decide (Go.bits BinOp.and IntKind.i64 (Int.fdiv labels (4 : Int)) (15 : Int) ≤ (15 : Int))) = true ∧
 (decide ((1 : Int) ≤ Go.bits BinOp.and IntKind.i64 labels (3 : Int))) = true ∧
 Bool.true = Bool.true) ∧ ((decide ((1 : Int) ≤ Go.bits BinOp.and IntKind.i64 labels (3 : Int))) = false → (Go.AE.seqB data { data := #[] }) = false ∧
 (decide ((32 : Int) < (↑(ByteArray.size data) : Int))) = false ∧
 (decide ((0 : Int) ≤ Go.bits BinOp.and IntKind.i64 labels (3 : Int))) = true ∧
 (decide (Go.bits BinOp.and IntKind.i64 labels (3 : Int) ≤ (3 : Int))) = true ∧
 (decide ((0 : Int) ≤ Go.bits BinOp.and IntKind.i64 (Int.fdiv labels (4 : Int)) (15 : Int))) = true ∧
 (decide (Go.bits BinOp.and IntKind.i64 (Int.fdiv labels (4 : Int)) (15 : Int) ≤ (15 : Int))) = true ∧
 (decide ((1 : Int) ≤ Go.bits BinOp.and IntKind.i64 labels (3 : Int))) = false ∧
 Bool.true = Bool.true))))))))))) ∧ ((decide ((17 : Int) < Go.bits BinOp.and IntKind.i64 fill (31 : Int))) = false → (((decide (Go.bits BinOp.and IntKind.i64 fill (32 : Int) = (32 : Int))) = true → (((Go.AE.seqB data { data := #[] }) = true → (Go.AE.seqB data { data := #[] }) = true ∧
 Bool.true = Bool.true) ∧ ((Go.AE.seqB data { data := #[] }) = false → (((decide ((32 : Int) < (↑(ByteArray.size data) : Int))) = true → (Go.AE.seqB data { data := #[] }) = false ∧
 (decide ((32 : Int) < (↑(ByteArray.size data) : Int))) = true ∧
 Bool.true = Bool.true) ∧ ((decide ((32 : Int) < (↑(ByteArray.size data) : Int))) = false → (decide ((0 : Int) ≤ Go.bits BinOp.and IntKind.i64 labels (3 : Int))) = true ∧
 (decide (Go.bits BinOp.and IntKind.i64 labels (3 : Int) ≤ (3 : Int))) = true ∧
 (decide ((0 : Int) ≤ Go.bits BinOp.and IntKind.i64 (Int.fdiv labels (4 : Int)) (15 : Int))) = true ∧
 (decide (Go.bits BinOp.and IntKind.i64 (Int.fdiv labels (4 : Int)) (15 : Int) ≤ (15 : Int))) = true ∧
 (((decide ((1 : Int) ≤ Go.bits BinOp.and IntKind.i64 labels (3 : Int))) = true → (Go.AE.seqB data { data := #[] }) = false ∧
 (decide ((32 : Int) < (↑(ByteArray.size data) : Int))) = false ∧
 (decide ((0 : Int) ≤ Go.bits BinOp.and IntKind.i64 labels (3 : Int))) = true ∧
 (decide (Go.bits BinOp.and IntKind.i64 labels (3 : Int) ≤ (3 : Int))) = true ∧
 (decide ((0 : Int) ≤ Go.bits BinOp.and IntKind.i64 (Int.fdiv labels (4 : Int)) (15 : Int))) = true ∧
 (decide (Go.bits BinOp.and IntKind.i64 (Int.fdiv labels (4 : Int)) (15 : Int) ≤ (15 : Int))) = true ∧
 (decide ((1 : Int) ≤ Go.bits BinOp.and IntKind.i64 labels (3 : Int))) = true ∧
 Bool.true = Bool.true) ∧ ((decide ((1 : Int) ≤ Go.bits BinOp.and IntKind.i64 labels (3 : Int))) = false → (Go.AE.seqB data { data := #[] }) = false ∧
 (decide ((32 : Int) < (↑(ByteArray.size data) : Int))) = false ∧
 (decide ((0 : Int) ≤ Go.bits BinOp.and IntKind.i64 labels (3 : Int))) = true ∧
 (decide (Go.bits BinOp.and IntKind.i64 labels (3 : Int) ≤ (3 : Int))) = true ∧
 (decide ((0 : Int) ≤ Go.bits BinOp.and IntKind.i64 (Int.fdiv labels (4 : Int)) (15 : Int))) = true ∧
 (decide (Go.bits BinOp.and IntKind.i64 (Int.fdiv labels (4 : Int)) (15 : Int) ≤ (15 : Int))) = true ∧
 (decide ((1 : Int) ≤ Go.bits BinOp.and IntKind.i64 labels (3 : Int))) = false ∧
 Bool.true = Bool.true))))))) ∧ ((decide (Go.bits BinOp.and IntKind.i64 fill (32 : Int) = (32 : Int))) = false → (((Go.AE.seqB data { data := #[] }) = true → (Go.AE.seqB data { data := #[] }) = true ∧
 Bool.true = Bool.true) ∧ ((Go.AE.seqB data { data := #[] }) = false → (((decide ((32 : Int) < (↑(ByteArray.size data) : Int))) = true → (Go.AE.seqB data { data := #[] }) = false ∧
 (decide ((32 : Int) < (↑(ByteArray.size data) : Int))) = true ∧
 Bool.true = Bool.true) ∧ ((decide ((32 : Int) < (↑(ByteArray.size data) : Int))) = false → (decide ((0 : Int) ≤ Go.bits BinOp.and IntKind.i64 labels (3 : Int))) = true ∧
 (decide (Go.bits BinOp.and IntKind.i64 labels (3 : Int) ≤ (3 : Int))) = true ∧
 (decide ((0 : Int) ≤ Go.bits BinOp.and IntKind.i64 (Int.fdiv labels (4 : Int)) (15 : Int))) = true ∧
 (decide (Go.bits BinOp.and IntKind.i64 (Int.fdiv labels (4 : Int)) (15 : Int) ≤ (15 : Int))) = true ∧
 (((decide ((1 : Int) ≤ Go.bits BinOp.and IntKind.i64 labels (3 : Int))) = true → (Go.AE.seqB data { data := #[] }) = false ∧
 (decide ((32 : Int) < (↑(ByteArray.size data) : Int))) = false ∧
 (decide ((0 : Int) ≤ Go.bits BinOp.and IntKind.i64 labels (3 : Int))) = true ∧
 (decide (Go.bits BinOp.and IntKind.i64 labels (3 : Int) ≤ (3 : Int))) = true ∧
 (decide ((0 : Int) ≤ Go.bits BinOp.and IntKind.i64 (Int.fdiv labels (4 : Int)) (15 : Int))) = true ∧
 (decide (Go.bits BinOp.and IntKind.i64 (Int.fdiv labels (4 : Int)) (15 : Int) ≤ (15 : Int))) = true ∧
 (decide ((1 : Int) ≤ Go.bits BinOp.and IntKind.i64 labels (3 : Int))) = true ∧
 Bool.true = Bool.true) ∧ ((decide ((1 : Int) ≤ Go.bits BinOp.and IntKind.i64 labels (3 : Int))) = false → (Go.AE.seqB data { data := #[] }) = false ∧
 (decide ((32 : Int) < (↑(ByteArray.size data) : Int))) = false ∧
 (decide ((0 : Int) ≤ Go.bits BinOp.and IntKind.i64 labels (3 : Int))) = true ∧
 (decide (Go.bits BinOp.and IntKind.i64 labels (3 : Int) ≤ (3 : Int))) = true ∧
 (decide ((0 : Int) ≤ Go.bits BinOp.and IntKind.i64 (Int.fdiv labels (4 : Int)) (15 : Int))) = true ∧
 (decide (Go.bits BinOp.and IntKind.i64 (Int.fdiv labels (4 : Int)) (15 : Int) ≤ (15 : Int))) = true ∧
 (decide ((1 : Int) ≤ Go.bits BinOp.and IntKind.i64 labels (3 : Int))) = false ∧
 Bool.true = Bool.true))))))))))) ∧ ((decide ((16 : Int) < Go.bits BinOp.and IntKind.i64 fill (31 : Int))) = false → (((decide (Go.bits BinOp.and IntKind.i64 fill (32 : Int) = (32 : Int))) = true → (((Go.AE.seqB data { data := #[] }) = true → (Go.AE.seqB data { data := #[] }) = true ∧
 Bool.true = Bool.true) ∧ ((Go.AE.seqB data { data := #[] }) = false → (((decide ((32 : Int) < (↑(ByteArray.size data) : Int))) = true → (Go.AE.seqB data { data := #[] }) = false ∧
 (decide ((32 : Int) < (↑(ByteArray.size data) : Int))) = true ∧
 Bool.true = Bool.true) ∧ ((decide ((32 : Int) < (↑(ByteArray.size data) : Int))) = false → (decide ((0 : Int) ≤ Go.bits BinOp.and IntKind.i64 labels (3 : Int))) = true ∧
 (decide (Go.bits BinOp.and IntKind.i64 labels (3 : Int) ≤ (3 : Int))) = true ∧
 (decide ((0 : Int) ≤ Go.bits BinOp.and IntKind.i64 (Int.fdiv labels (4 : Int)) (15 : Int))) = true ∧
 (decide (Go.bits BinOp.and IntKind.i64 (Int.fdiv labels (4 : Int)) (15 : Int) ≤ (15 : Int))) = true ∧
 (((decide ((1 : Int) ≤ Go.bits BinOp.and IntKind.i64 labels (3 : Int))) = true → (Go.AE.seqB data { data := #[] }) = false ∧
 (decide ((32 : Int) < (↑(ByteArray.size data) : Int))) = false ∧
 (decide ((0 : Int) ≤ Go.bits BinOp.and IntKind.i64 labels (3 : Int))) = true ∧
 (decide (Go.bits BinOp.and IntKind.i64 labels (3 : Int) ≤ (3 : Int))) = true ∧
 (decide ((0 : Int) ≤ Go.bits BinOp.and IntKind.i64 (Int.fdiv labels (4 : Int)) (15 : Int))) = true ∧
 (decide (Go.bits BinOp.and IntKind.i64 (Int.fdiv labels (4 : Int)) (15 : Int) ≤ (15 : Int))) = true ∧
 (decide ((1 : Int) ≤ Go.bits BinOp.and IntKind.i64 labels (3 : Int))) = true ∧
 Bool.true = Bool.true) ∧ ((decide ((1 : Int) ≤ Go.bits BinOp.and IntKind.i64 labels (3 : Int))) = false → (Go.AE.seqB data { data := #[] }) = false ∧
 (decide ((32 : Int) < (↑(ByteArray.size data) : Int))) = false ∧
 (decide ((0 : Int) ≤ Go.bits BinOp.and IntKind.i64 labels (3 : Int))) = true ∧
 (decide (Go.bits BinOp.and IntKind.i64 labels (3 : Int) ≤ (3 : Int))) = true ∧
 (decide ((0 : Int) ≤ Go.bits BinOp.and IntKind.i64 (Int.fdiv labels (4 : Int)) (15 : Int))) = true ∧
 (decide (Go.bits BinOp.and IntKind.i64 (Int.fdiv labels (4 : Int)) (15 : Int) ≤ (15 : Int))) = true ∧
 (decide ((1 : Int) ≤ Go.bits BinOp.and IntKind.i64 labels (3 : Int))) = false ∧
 Bool.true = Bool.true))))))) ∧ ((decide (Go.bits BinOp.and IntKind.i64 fill (32 : Int) = (32 : Int))) = false → (((Go.AE.seqB data { data := #[] }) = true → (Go.AE.seqB data { data := #[] }) = true ∧
 Bool.true = Bool.true) ∧ ((Go.AE.seqB data { data := #[] }) = false → (((decide ((32 : Int) < (↑(ByteArray.size data) : Int))) = true → (Go.AE.seqB data { data := #[] }) = false ∧
 (decide ((32 : Int) < (↑(ByteArray.size data) : Int))) = true ∧
 Bool.true = Bool.true) ∧ ((decide ((32 : Int) < (↑(ByteArray.size data) : Int))) = false → (decide ((0 : Int) ≤ Go.bits BinOp.and IntKind.i64 labels (3 : Int))) = true ∧
 (decide (Go.bits BinOp.and IntKind.i64 labels (3 : Int) ≤ (3 : Int))) = true ∧
 (decide ((0 : Int) ≤ Go.bits BinOp.and IntKind.i64 (Int.fdiv labels (4 : Int)) (15 : Int))) = true ∧
 (decide (Go.bits BinOp.and IntKind.i64 (Int.fdiv labels (4 : Int)) (15 : Int) ≤ (15 : Int))) = true ∧
 (((decide ((1 : Int) ≤ Go.bits BinOp.and IntKind.i64 labels (3 : Int))) = true → (Go.AE.seqB data { data := #[] }) = false ∧
 (decide ((32 : Int) < (↑(ByteArray.size data) : Int))) = false ∧
 (decide ((0 : Int) ≤ Go.bits BinOp.and IntKind.i64 labels (3 : Int))) = true ∧
 (decide (Go.bits BinOp.and IntKind.i64 labels (3 : Int) ≤ (3 : Int))) = true ∧
 (decide ((0 : Int) ≤ Go.bits BinOp.and IntKind.i64 (Int.fdiv labels (4 : Int)) (15 : Int))) = true ∧
 (decide (Go.bits BinOp.and IntKind.i64 (Int.fdiv labels (4 : Int)) (15 : Int) ≤ (15 : Int))) = true ∧
 (decide ((1 : Int) ≤ Go.bits BinOp.and IntKind.i64 labels (3 : Int))) = true ∧
 Bool.true = Bool.true) ∧ ((decide ((1 : Int) ≤ Go.bits BinOp.and IntKind.i64 labels (3 : Int))) = false → (Go.AE.seqB data { data := #[] }) = false ∧
 (decide ((32 : Int) < (↑(ByteArray.size data) : Int))) = false ∧
 (decide ((0 : Int) ≤ Go.bits BinOp.and IntKind.i64 labels (3 : Int))) = true ∧
 (decide (Go.bits BinOp.and IntKind.i64 labels (3 : Int) ≤ (3 : Int))) = true ∧
 (decide ((0 : Int) ≤ Go.bits BinOp.and IntKind.i64 (Int.fdiv labels (4 : Int)) (15 : Int))) = true ∧
 (decide (Go.bits BinOp.and IntKind.i64 (Int.fdiv labels (4 : Int)) (15 : Int) ≤ (15 : Int))) = true ∧
 (decide ((1 : Int) ≤ Go.bits BinOp.and IntKind.i64 labels (3 : Int))) = false ∧
 Bool.true = Bool.true))))))))))) ∧ ((decide ((15 : Int) < Go.bits BinOp.and IntKind.i64 fill (31 : Int))) = false → (((decide (Go.bits BinOp.and IntKind.i64 fill (32 : Int) = (32 : Int))) = true → (((Go.AE.seqB data { data := #[] }) = true → (Go.AE.seqB data { data := #[] }) = true ∧
 Bool.true = Bool.true) ∧ ((Go.AE.seqB data { data := #[] }) = false → (((decide ((32 : Int) < (↑(ByteArray.size data) : Int))) = true → (Go.AE.seqB data { data := #[] }) = false ∧
 (decide ((32 : Int) < (↑(ByteArray.size data) : Int))) = true ∧
 Bool.true = Bool.true) ∧ ((decide ((32 : Int) < (↑(ByteArray.size data) : Int))) = false → (decide ((0 : Int) ≤ Go.bits BinOp.and IntKind.i64 labels (3 : Int))) = true ∧
 (decide (Go.bits BinOp.and IntKind.i64 labels (3 : Int) ≤ (3 : Int))) = true ∧
 (decide ((0 : Int) ≤ Go.bits BinOp.and IntKind.i64 (Int.fdiv labels (4 : Int)) (15 : Int))) = true ∧
 (decide (Go.bits BinOp.and IntKind.i64 (Int.fdiv labels (4 : Int)) (15 : Int) ≤ (15 : Int))) = true ∧
 (((decide ((1 : Int) ≤ Go.bits BinOp.and IntKind.i64 labels (3 : Int))) = true → (Go.AE.seqB data { data := #[] }) = false ∧
 (decide ((32 : Int) < (↑(ByteArray.size data) : Int))) = false ∧
 (decide ((0 : Int) ≤ Go.bits BinOp.and IntKind.i64 labels (3 : Int))) = true ∧
 (decide (Go.bits BinOp.and IntKind.i64 labels (3 : Int) ≤ (3 : Int))) = true ∧
 (decide ((0 : Int) ≤ Go.bits BinOp.and IntKind.i64 (Int.fdiv labels (4 : Int)) (15 : Int))) = true ∧
 (decide (Go.bits BinOp.and IntKind.i64 (Int.fdiv labels (4 : Int)) (15 : Int) ≤ (15 : Int))) = true ∧
 (decide ((1 : Int) ≤ Go.bits BinOp.and IntKind.i64 labels (3 : Int))) = true ∧
 Bool.true = Bool.true) ∧ ((decide ((1 : Int) ≤ Go.bits BinOp.and IntKind.i64 labels (3 : Int))) = false → (Go.AE.seqB data { data := #[] }) = false ∧
 (decide ((32 : Int) < (↑(ByteArray.size data) : Int))) = false ∧
 (decide ((0 : Int) ≤ Go.bits BinOp.and IntKind.i64 labels (3 : Int))) = true ∧
 (decide (Go.bits BinOp.and IntKind.i64 labels (3 : Int) ≤ (3 : Int))) = true ∧
 (decide ((0 : Int) ≤ Go.bits BinOp.and IntKind.i64 (Int.fdiv labels (4 : Int)) (15 : Int))) = true ∧
 (decide (Go.bits BinOp.and IntKind.i64 (Int.fdiv labels (4 : Int)) (15 : Int) ≤ (15 : Int))) = true ∧
 (decide ((1 : Int) ≤ Go.bits BinOp.and IntKind.i64 labels (3 : Int))) = false ∧
 Bool.true = Bool.true))))))) ∧ ((decide (Go.bits BinOp.and IntKind.i64 fill (32 : Int) = (32 : Int))) = false → (((Go.AE.seqB data { data := #[] }) = true → (Go.AE.seqB data { data := #[] }) = true ∧
 Bool.true = Bool.true) ∧ ((Go.AE.seqB data { data := #[] }) = false → (((decide ((32 : Int) < (↑(ByteArray.size data) : Int))) = true → (Go.AE.seqB data { data := #[] }) = false ∧
 (decide ((32 : Int) < (↑(ByteArray.size data) : Int))) = true ∧
 Bool.true = Bool.true) ∧ ((decide ((32 : Int) < (↑(ByteArray.size data) : Int))) = false → (decide ((0 : Int) ≤ Go.bits BinOp.and IntKind.i64 labels (3 : Int))) = true ∧
 (decide (Go.bits BinOp.and IntKind.i64 labels (3 : Int) ≤ (3 : Int))) = true ∧
 (decide ((0 : Int) ≤ Go.bits BinOp.and IntKind.i64 (Int.fdiv labels (4 : Int)) (15 : Int))) = true ∧
 (decide (Go.bits BinOp.and IntKind.i64 (Int.fdiv labels (4 : Int)) (15 : Int) ≤ (15 : Int))) = true ∧
 (((decide ((1 : Int) ≤ Go.bits BinOp.and IntKind.i64 labels (3 : Int))) = true → (Go.AE.seqB data { data := #[] }) = false ∧
 (decide ((32 : Int) < (↑(ByteArray.size data) : Int))) = false ∧
 (decide ((0 : Int) ≤ Go.bits BinOp.and IntKind.i64 labels (3 : Int))) = true ∧
 (decide (Go.bits BinOp.and IntKind.i64 labels (3 : Int) ≤ (3 : Int))) = true ∧
 (decide ((0 : Int) ≤ Go.bits BinOp.and IntKind.i64 (Int.fdiv labels (4 : Int)) (15 : Int))) = true ∧
 (decide (Go.bits BinOp.and IntKind.i64 (Int.fdiv labels (4 : Int)) (15 : Int) ≤ (15 : Int))) = true ∧
 (decide ((1 : Int) ≤ Go.bits BinOp.and IntKind.i64 labels (3 : Int))) = true ∧
 Bool.true = Bool.true) ∧ ((decide ((1 : Int) ≤ Go.bits BinOp.and IntKind.i64 labels (3 : Int))) = false → (Go.AE.seqB data { data := #[] }) = false ∧
 (decide ((32 : Int) < (↑(ByteArray.size data) : Int))) = false ∧
 (decide ((0 : Int) ≤ Go.bits BinOp.and IntKind.i64 labels (3 : Int))) = true ∧
 (decide (Go.bits BinOp.and IntKind.i64 labels (3 : Int) ≤ (3 : Int))) = true ∧
 (decide ((0 : Int) ≤ Go.bits BinOp.and IntKind.i64 (Int.fdiv labels (4 : Int)) (15 : Int))) = true ∧
 (decide (Go.bits BinOp.and IntKind.i64 (Int.fdiv labels (4 : Int)) (15 : Int) ≤ (15 : Int))) = true ∧
 (decide ((1 : Int) ≤ Go.bits BinOp.and IntKind.i64 labels (3 : Int))) = false ∧
 Bool.true = Bool.true))))))))))) ∧ ((decide ((14 : Int) < Go.bits BinOp.and IntKind.i64 fill (31 : Int))) = false → (((decide (Go.bits BinOp.and IntKind.i64 fill (32 : Int) = (32 : Int))) = true → (((Go.AE.seqB data { data := #[] }) = true → (Go.AE.seqB data { data := #[] }) = true ∧
 Bool.true = Bool.true) ∧ ((Go.AE.seqB data { data := #[] }) = false → (((decide ((32 : Int) < (↑(ByteArray.size data) : Int))) = true → (Go.AE.seqB data { data := #[] }) = false ∧
 (decide ((32 : Int) < (↑(ByteArray.size data) : Int))) = true ∧
 Bool.true = Bool.true) ∧ ((decide ((32 : Int) < (↑(ByteArray.size data) : Int))) = false → (decide ((0 : Int) ≤ Go.bits BinOp.and IntKind.i64 labels (3 : Int))) = true ∧
 (decide (Go.bits BinOp.and IntKind.i64 labels (3 : Int) ≤ (3 : Int))) = true ∧
 (decide ((0 : Int) ≤ Go.bits BinOp.and IntKind.i64 (Int.fdiv labels (4 : Int)) (15 : Int))) = true ∧
 (decide (Go.bits BinOp.and IntKind.i64 (Int.fdiv labels (4 : Int)) (15 : Int) ≤ (15 : Int))) = true ∧
 (((decide ((1 : Int) ≤ Go.bits BinOp.and IntKind.i64 labels (3 : Int))) = true → (Go.AE.seqB data { data := #[] }) = false ∧
 (decide ((32 : Int) < (↑(ByteArray.size data) : Int))) = false ∧
 (decide ((0 : Int) ≤ Go.bits BinOp.and IntKind.i64 labels (3 : Int))) = true ∧
 (decide (Go.bits BinOp.and IntKind.i64 labels (3 : Int) ≤ (3 : Int))) = true ∧
 (decide ((0 : Int) ≤ Go.bits BinOp.and IntKind.i64 (Int.fdiv labels (4 : Int)) (15 : Int))) = true ∧
 (decide (Go.bits BinOp.and IntKind.i64 (Int.fdiv labels (4 : Int)) (15 : Int) ≤ (15 : Int))) = true ∧
 (decide ((1 : Int) ≤ Go.bits BinOp.and IntKind.i64 labels (3 : Int))) = true ∧
 Bool.true = Bool.true) ∧ ((decide ((1 : Int) ≤ Go.bits BinOp.and IntKind.i64 labels (3 : Int))) = false → (Go.AE.seqB data { data := #[] }) = false ∧
 (decide ((32 : Int) < (↑(ByteArray.size data) : Int))) = false ∧
 (decide ((0 : Int) ≤ Go.bits BinOp.and IntKind.i64 labels (3 : Int))) = true ∧
 (decide (Go.bits BinOp.and IntKind.i64 labels (3 : Int) ≤ (3 : Int))) = true ∧
 (decide ((0 : Int) ≤ Go.bits BinOp.and IntKind.i64 (Int.fdiv labels (4 : Int)) (15 : Int))) = true ∧
 (decide (Go.bits BinOp.and IntKind.i64 (Int.fdiv labels (4 : Int)) (15 : Int) ≤ (15 : Int))) = true ∧
 (decide ((1 : Int) ≤ Go.bits BinOp.and IntKind.i64 labels (3 : Int))) = false ∧
 Bool.true = Bool.true))))))) ∧ ((decide (Go.bits BinOp.and IntKind.i64 fill (32 : Int) = (32 : Int))) = false → (((Go.AE.seqB data { data := #[] }) = true → (Go.AE.seqB data { data := #[] }) = true ∧
 Bool.true = Bool.true) ∧ ((Go.AE.seqB data { data := #[] }) = false → (((decide ((32 : Int) < (↑(ByteArray.size data) : Int))) = true → (Go.AE.seqB data { data := #[] }) = false ∧
 (decide ((32 : Int) < (↑(ByteArray.size data) : Int))) = true ∧
 Bool.true = Bool.true) ∧ ((decide ((32 : Int) < (↑(ByteArray.size data) : Int))) = false → (decide ((0 : Int) ≤ Go.bits BinOp.and IntKind.i64 labels (3 : Int))) = true ∧
 (decide (Go.bits BinOp.and IntKind.i64 labels (3 : Int) ≤ (3 : Int))) = true ∧
 (decide ((0 : Int) ≤ Go.bits BinOp.and IntKind.i64 (Int.fdiv labels (4 : Int)) (15 : Int))) = true ∧
 (decide (Go.bits BinOp.and IntKind.i64 (Int.fdiv labels (4 : Int)) (15 : Int) ≤ (15 : Int))) = true ∧
 (((decide ((1 : Int) ≤ Go.bits BinOp.and IntKind.i64 labels (3 : Int))) = true → (Go.AE.seqB data { data := #[] }) = false ∧
 (decide ((32 : Int) < (↑(ByteArray.size data) : Int))) = false ∧
 (decide ((0 : Int) ≤ Go.bits BinOp.and IntKind.i64 labels (3 : Int))) = true ∧
 (decide (Go.bits BinOp.and IntKind.i64 labels (3 : Int) ≤ (3 : Int))) = true ∧
 (decide ((0 : Int) ≤ Go.bits BinOp.and IntKind.i64 (Int.fdiv labels (4 : Int)) (15 : Int))) = true ∧
 (decide (Go.bits BinOp.and IntKind.i64 (Int.fdiv labels (4 : Int)) (15 : Int) ≤ (15 : Int))) = true ∧
 (decide ((1 : Int) ≤ Go.bits BinOp.and IntKind.i64 labels (3 : Int))) = true ∧
 Bool.true = Bool.true) ∧ ((decide ((1 : Int) ≤ Go.bits BinOp.and IntKind.i64 labels (3 : Int))) = false → (Go.AE.seqB data { data := #[] }) = false ∧
 (decide ((32 : Int) < (↑(ByteArray.size data) : Int))) = false ∧
 (decide ((0 : Int) ≤ Go.bits BinOp.and IntKind.i64 labels (3 : Int))) = true ∧
 (decide (Go.bits BinOp.and IntKind.i64 labels (3 : Int) ≤ (3 : Int))) = true ∧
 (decide ((0 : Int) ≤ Go.bits BinOp.and IntKind.i64 (Int.fdiv labels (4 : Int)) (15 : Int))) = true ∧
 (decide (Go.bits BinOp.and IntKind.i64 (Int.fdiv labels (4 : Int)) (15 : Int) ≤ (15 : Int))) = true ∧
 (decide ((1 : Int) ≤ Go.bits BinOp.and IntKind.i64 labels (3 : Int))) = false ∧
 Bool.true = Bool.true))))))))))) ∧ ((decide ((13 : Int) < Go.bits BinOp.and IntKind.i64 fill (31 : Int))) = false → (((decide (Go.bits BinOp.and IntKind.i64 fill (32 : Int) = (32 : Int))) = true → (((Go.AE.seqB data { data := #[] }) = true → (Go.AE.seqB data { data := #[] }) = true ∧
 Bool.true = Bool.true) ∧ ((Go.AE.seqB data { data := #[] }) = false → (((decide ((32 : Int) < (↑(ByteArray.size data) : Int))) = true → (Go.AE.seqB data { data := #[] }) = false ∧
 (decide ((32 : Int) < (↑(ByteArray.size data) : Int))) = true ∧
 Bool.true = Bool.true) ∧ ((decide ((32 : Int) < (↑(ByteArray.size data) : Int))) = false → (decide ((0 : Int) ≤ Go.bits BinOp.and IntKind.i64 labels (3 : Int))) = true ∧
 (decide (Go.bits BinOp.and IntKind.i64 labels (3 : Int) ≤ (3 : Int))) = true ∧
 (decide ((0 : Int) ≤ Go.bits BinOp.and IntKind.i64 (Int.fdiv labels (4 : Int)) (15 : Int))) = true ∧
 (decide (Go.bits BinOp.and IntKind.i64 (Int.fdiv labels (4 : Int)) (15 : Int) ≤ (15 : Int))) = true ∧
 (((decide ((1 : Int) ≤ Go.bits BinOp.and IntKind.i64 labels (3 : Int))) = true → (Go.AE.seqB data { data := #[] }) = false ∧
 (decide ((32 : Int) < (↑(ByteArray.size data) : Int))) = false ∧
 (decide ((0 : Int) ≤ Go.bits BinOp.and IntKind.i64 labels (3 : Int))) = true ∧
 (decide (Go.bits BinOp.and IntKind.i64 labels (3 : Int) ≤ (3 : Int))) = true ∧
 (decide ((0 : Int) ≤ Go.bits BinOp.and IntKind.i64 (Int.fdiv labels (4 : Int)) (15 : Int))) = true ∧
 (decide (Go.bits BinOp.and IntKind.i64 (Int.fdiv labels (4 : Int)) (15 : Int) ≤ (15 : Int))) = true ∧
 (decide ((1 : Int) ≤ Go.bits BinOp.and IntKind.i64 labels (3 : Int))) = true ∧
 Bool.true = Bool.true) ∧ ((decide ((1 : Int) ≤ Go.bits BinOp.and IntKind.i64 labels (3 : Int))) = false → (Go.AE.seqB data { data := #[] }) = false ∧
 (decide ((32 : Int) < (↑(ByteArray.size data) : Int))) = false ∧
 (decide ((0 : Int) ≤ Go.bits BinOp.and IntKind.i64 labels (3 : Int))) = true ∧
 (decide (Go.bits BinOp.and IntKind.i64 labels (3 : Int) ≤ (3 : Int))) = true ∧
 (decide ((0 : Int) ≤ Go.bits BinOp.and IntKind.i64 (Int.fdiv labels (4 : Int)) (15 : Int))) = true ∧
 (decide (Go.bits BinOp.and IntKind.i64 (Int.fdiv labels (4 : Int)) (15 : Int) ≤ (15 : Int))) = true ∧
 (decide ((1 : Int) ≤ Go.bits BinOp.and IntKind.i64 labels (3 : Int))) = false ∧
 Bool.true = Bool.true))))))) ∧ ((decide (Go.bits BinOp.and IntKind.i64 fill (32 : Int) = (32 : Int))) = false → (((Go.AE.seqB data { data := #[] }) = true → (Go.AE.seqB data { data := #[] }) = true ∧
 Bool.true = Bool.true) ∧ ((Go.AE.seqB data { data := #[] }) = false → (((decide ((32 : Int) < (↑(ByteArray.size data) : Int))) = true → (Go.AE.seqB data { data := #[] }) = false ∧
 (decide ((32 : Int) < (↑(ByteArray.size data) : Int))) = true ∧
 Bool.true = Bool.true) ∧ ((decide ((32 : Int) < (↑(ByteArray.size data) : Int))) = false → (decide ((0 : Int) ≤ Go.bits BinOp.and IntKind.i64 labels (3 : Int))) = true ∧
 (decide (Go.bits BinOp.and IntKind.i64 labels (3 : Int) ≤ (3 : Int))) = true ∧
 (decide ((0 : Int) ≤ Go.bits BinOp.and IntKind.i64 (Int.fdiv labels (4 : Int)) (15 : Int))) = true ∧
 (decide (Go.bits BinOp.and IntKind.i64 (Int.fdiv labels (4 : Int)) (15 : Int) ≤ (15 : Int))) = true ∧
 (((decide ((1 : Int) ≤ Go.bits BinOp.and IntKind.i64 labels (3 : Int))) = true → (Go.AE.seqB data { data := #[] }) = false ∧
 (decide ((32 : Int) < (↑(ByteArray.size data) : Int))) = false ∧
 (decide ((0 : Int) ≤ Go.bits BinOp.and IntKind.i64 labels (3 : Int))) = true ∧
 (decide (Go.bits BinOp.and IntKind.i64 labels (3 : Int) ≤ (3 : Int))) = true ∧
 (decide ((0 : Int) ≤ Go.bits BinOp.and IntKind.i64 (Int.fdiv labels (4 : Int)) (15 : Int))) = true ∧
 (decide (Go.bits BinOp.and IntKind.i64 (Int.fdiv labels (4 : Int)) (15 : Int) ≤ (15 : Int))) = true ∧
 (decide ((1 : Int) ≤ Go.bits BinOp.and IntKind.i64 labels (3 : Int))) = true ∧
 Bool.true = Bool.true) ∧ ((decide ((1 : Int) ≤ Go.bits BinOp.and IntKind.i64 labels (3 : Int))) = false → (Go.AE.seqB data { data := #[] }) = false ∧
 (decide ((32 : Int) < (↑(ByteArray.size data) : Int))) = false ∧
 (decide ((0 : Int) ≤ Go.bits BinOp.and IntKind.i64 labels (3 : Int))) = true ∧
 (decide (Go.bits BinOp.and IntKind.i64 labels (3 : Int) ≤ (3 : Int))) = true ∧
 (decide ((0 : Int) ≤ Go.bits BinOp.and IntKind.i64 (Int.fdiv labels (4 : Int)) (15 : Int))) = true ∧
 (decide (Go.bits BinOp.and IntKind.i64 (Int.fdiv labels (4 : Int)) (15 : Int) ≤ (15 : Int))) = true ∧
 (decide ((1 : Int) ≤ Go.bits BinOp.and IntKind.i64 labels (3 : Int))) = false ∧
 Bool.true = Bool.true))))))))))) ∧ ((decide ((12 : Int) < Go.bits BinOp.and IntKind.i64 fill (31 : Int))) = false → (((decide (Go.bits BinOp.and IntKind.i64 fill (32 : Int) = (32 : Int))) = true → (((Go.AE.seqB data { data := #[] }) = true → (Go.AE.seqB data { data := #[] }) = true ∧
 Bool.true = Bool.true) ∧ ((Go.AE.seqB data { data := #[] }) = false → (((decide ((32 : Int) < (↑(ByteArray.size data) : Int))) = true → (Go.AE.seqB data { data := #[] }) = false ∧
 (decide ((32 : Int) < (↑(ByteArray.size data) : Int))) = true ∧
 Bool.true = Bool.true) ∧ ((decide ((32 : Int) < (↑(ByteArray.size data) : Int))) = false → (decide ((0 : Int) ≤ Go.bits BinOp.and IntKind.i64 labels (3 : Int))) = true ∧
 (decide (Go.bits BinOp.and IntKind.i64 labels (3 : Int) ≤ (3 : Int))) = true ∧
 (decide ((0 : Int) ≤ Go.bits BinOp.and IntKind.i64 (Int.fdiv labels (4 : Int)) (15 : Int))) = true ∧
 (decide (Go.bits BinOp.and IntKind.i64 (Int.fdiv labels (4 : Int)) (15 : Int) ≤ (15 : Int))) = true ∧
 (((decide ((1 : Int) ≤ Go.bits BinOp.and IntKind.i64 labels (3 : Int))) = true → (Go.AE.seqB data { data := #[] }) = false ∧
 (decide ((32 : Int) < (↑(ByteArray.size data) : Int))) = false ∧
 (decide ((0 : Int) ≤ Go.bits BinOp.and IntKind.i64 labels (3 : Int))) = true ∧
 (decide (Go.bits BinOp.and IntKind.i64 labels (3 : Int) ≤ (3 : Int))) = true ∧
 (decide ((0 : Int) ≤ Go.bits BinOp.and IntKind.i64 (Int.fdiv labels (4 : Int)) (15 : Int))) = true ∧
 (decide (Go.bits BinOp.and IntKind.i64 (Int.fdiv labels (4 : Int)) (15 : Int) ≤ (15 : Int))) = true ∧
 (decide ((1 : Int) ≤ Go.bits BinOp.and IntKind.i64 labels (3 : Int))) = true ∧
 Bool.true = Bool.true) ∧ ((decide ((1 : Int) ≤ Go.bits BinOp.and IntKind.i64 labels (3 : Int))) = false → (Go.AE.seqB data { data := #[] }) = false ∧
 (decide ((32 : Int) < (↑(ByteArray.size data) : Int))) = false ∧
 (decide ((0 : Int) ≤ Go.bits BinOp.and IntKind.i64 labels (3 : Int))) = true ∧
 (decide (Go.bits BinOp.and IntKind.i64 labels (3 : Int) ≤ (3 : Int))) = true ∧
 (decide ((0 : Int) ≤ Go.bits BinOp.and IntKind.i64 (Int.fdiv labels (4 : Int)) (15 : Int))) = true ∧
 (decide (Go.bits BinOp.and IntKind.i64 (Int.fdiv labels (4 : Int)) (15 : Int) ≤ (15 : Int))) = true ∧
 (decide ((1 : Int) ≤ Go.bits BinOp.and IntKind.i64 labels (3 : Int))) = false ∧
 Bool.true = Bool.true))))))) ∧ ((decide (Go.bits BinOp.and IntKind.i64 fill (32 : Int) = (32 : Int))) = false → (((Go.AE.seqB data { data := #[] }) = true → (Go.AE.seqB data { data := #[] }) = true ∧
 Bool.true = Bool.true) ∧ ((Go.AE.seqB data { data := #[] }) = false → (((decide ((32 : Int) < (↑(ByteArray.size data) : Int))) = true → (Go.AE.seqB data { data := #[] }) = false ∧
 (decide ((32 : Int) < (↑(ByteArray.size data) : Int))) = true ∧
 Bool.true = Bool.true) ∧ ((decide ((32 : Int) < (↑(ByteArray.size data) : Int))) = false → (decide ((0 : Int) ≤ Go.bits BinOp.and IntKind.i64 labels (3 : Int))) = true ∧
 (decide (Go.bits BinOp.and IntKind.i64 labels (3 : Int) ≤ (3 : Int))) = true ∧
 (decide ((0 : Int) ≤ Go.bits BinOp.and IntKind.i64 (Int.fdiv labels (4 : Int)) (15 : Int))) = true ∧
 (decide (Go.bits BinOp.and IntKind.i64 (Int.fdiv labels (4 : Int)) (15 : Int) ≤ (15 : Int))) = true ∧
 (((decide ((1 : Int) ≤ Go.bits BinOp.and IntKind.i64 labels (3 : Int))) = true → (Go.AE.seqB data { data := #[] }) = false ∧
 (decide ((32 : Int) < (↑(ByteArray.size data) : Int))) = false ∧
 (decide ((0 : Int) ≤ Go.bits BinOp.and IntKind.i64 labels (3 : Int))) = true ∧
 (decide (Go.bits BinOp.and IntKind.i64 labels (3 : Int) ≤ (3 : Int))) = true ∧
 (decide ((0 : Int) ≤ Go.bits BinOp.and IntKind.i64 (Int.fdiv labels (4 : Int)) (15 : Int))) = true ∧
 (decide (Go.bits BinOp.and IntKind.i64 (Int.fdiv labels (4 : Int)) (15 : Int) ≤ (15 : Int))) = true ∧
 (decide ((1 : Int) ≤ Go.bits BinOp.and IntKind.i64 labels (3 : Int))) = true ∧
 Bool.true = Bool.true) ∧ ((decide ((1 : Int) ≤ Go.bits BinOp.and IntKind.i64 labels (3 : Int))) = false → (Go.AE.seqB data { data := #[] }) = false ∧
 (decide ((32 : Int) < (↑(ByteArray.size data) : Int))) = false ∧
 (decide ((0 : Int) ≤ Go.bits BinOp.and IntKind.i64 labels (3 : Int))) = true ∧
 (decide (Go.bits BinOp.and IntKind.i64 labels (3 : Int) ≤ (3 : Int))) = true ∧
 (decide ((0 : Int) ≤ Go.bits BinOp.and IntKind.i64 (Int.fdiv labels (4 : Int)) (15 : Int))) = true ∧
 (decide (Go.bits BinOp.and IntKind.i64 (Int.fdiv labels (4 : Int)) (15 : Int) ≤ (15 : Int))) = true ∧
 (decide ((1 : Int) ≤ Go.bits BinOp.and IntKind.i64 labels (3 : Int))) = false ∧
 Bool.true = Bool.true))))))))))) ∧ ((decide ((11 : Int) < Go.bits BinOp.and IntKind.i64 fill (31 : Int))) = false → (((decide (Go.bits BinOp.and IntKind.i64 fill (32 : Int) = (32 : Int))) = true → (((Go.AE.seqB data { data := #[] }) = true → (Go.AE.seqB data { data := #[] }) = true ∧
 Bool.true = Bool.true) ∧ ((Go.AE.seqB data { data := #[] }) = false → (((decide ((32 : Int) < (↑(ByteArray.size data) : Int))) = true → (Go.AE.seqB data { data := #[] }) = false ∧
 (decide ((32 : Int) < (↑(ByteArray.size data) : Int))) = true ∧
 Bool.true = Bool.true) ∧ ((decide ((32 : Int) < (↑(ByteArray.size data) : Int))) = false → (decide ((0 : Int) ≤ Go.bits BinOp.and IntKind.i64 labels (3 : Int))) = true ∧
 (decide (Go.bits BinOp.and IntKind.i64 labels (3 : Int) ≤ (3 : Int))) = true ∧
 (decide ((0 : Int) ≤ Go.bits BinOp.and IntKind.i64 (Int.fdiv labels (4 : Int)) (15 : Int))) = true ∧
 (decide (Go.bits BinOp.and IntKind.i64 (Int.fdiv labels (4 : Int)) (15 : Int) ≤ (15 : Int))) = true ∧
 (((decide ((1 : Int) ≤ Go.bits BinOp.and IntKind.i64 labels (3 : Int))) = true → (Go.AE.seqB data { data := #[] }) = false ∧
 (decide ((32 : Int) < (↑(ByteArray.size data) : Int))) = false ∧
 (decide ((0 : Int) ≤ Go.bits BinOp.and IntKind.i64 labels (3 : Int))) = true ∧
 (decide (Go.bits BinOp.and IntKind.i64 labels (3 : Int) ≤ (3 : Int))) = true ∧
 (decide ((0 : Int) ≤ Go.bits BinOp.and IntKind.i64 (Int.fdiv labels (4 : Int)) (15 : Int))) = true ∧
 (decide (Go.bits BinOp.and IntKind.i64 (Int.fdiv labels (4 : Int)) (15 : Int) ≤ (15 : Int))) = true ∧
 (decide ((1 : Int) ≤ Go.bits BinOp.and IntKind.i64 labels (3 : Int))) = true ∧
 Bool.true = Bool.true) ∧ ((decide ((1 : Int) ≤ Go.bits BinOp.and IntKind.i64 labels (3 : Int))) = false → (Go.AE.seqB data { data := #[] }) = false ∧
 (decide ((32 : Int) < (↑(ByteArray.size data) : Int))) = false ∧
 (decide ((0 : Int) ≤ Go.bits BinOp.and IntKind.i64 labels (3 : Int))) = true ∧
 (decide (Go.bits BinOp.and IntKind.i64 labels (3 : Int) ≤ (3 : Int))) = true ∧
 (decide ((0 : Int) ≤ Go.bits BinOp.and IntKind.i64 (Int.fdiv labels (4 : Int)) (15 : Int))) = true ∧
 (decide (Go.bits BinOp.and IntKind.i64 (Int.fdiv labels (4 : Int)) (15 : Int) ≤ (15 : Int))) = true ∧
 (decide ((1 : Int) ≤ Go.bits BinOp.and IntKind.i64 labels (3 : Int))) = false ∧
 Bool.true = Bool.true))))))) ∧ ((decide (Go.bits BinOp.and IntKind.i64 fill (32 : Int) = (32 : Int))) = false → (((Go.AE.seqB data { data := #[] }) = true → (Go.AE.seqB data { data := #[] }) = true ∧
 Bool.true = Bool.true) ∧ ((Go.AE.seqB data { data := #[] }) = false → (((decide ((32 : Int) < (↑(ByteArray.size data) : Int))) = true → (Go.AE.seqB data { data := #[] }) = false ∧
 (decide ((32 : Int) < (↑(ByteArray.size data) : Int))) = true ∧
 Bool.true = Bool.true) ∧ ((decide ((32 : Int) < (↑(ByteArray.size data) : Int))) = false → (decide ((0 : Int) ≤ Go.bits BinOp.and IntKind.i64 labels (3 : Int))) = true ∧
 (decide (Go.bits BinOp.and IntKind.i64 labels (3 : Int) ≤ (3 : Int))) = true ∧
 (decide ((0 : Int) ≤ Go.bits BinOp.and IntKind.i64 (Int.fdiv labels (4 : Int)) (15 : Int))) = true ∧
 (decide (Go.bits BinOp.and IntKind.i64 (Int.fdiv labels (4 : Int)) (15 : Int) ≤ (15 : Int))) = true ∧
 (((decide ((1 : Int) ≤ Go.bits BinOp.and IntKind.i64 labels (3 : Int))) = true → (Go.AE.seqB data { data := #[] }) = false ∧
 (decide ((32 : Int) < (↑(ByteArray.size data) : Int))) = false ∧
 (decide ((0 : Int) ≤ Go.bits BinOp.and IntKind.i64 labels (3 : Int))) = true ∧
 (decide (Go.bits BinOp.and IntKind.i64 labels (3 : Int) ≤ (3 : Int))) = true ∧
 (decide ((0 : Int) ≤ Go.bits BinOp.and IntKind.i64 (Int.fdiv labels (4 : Int)) (15 : Int))) = true ∧
 (decide (Go.bits BinOp.and IntKind.i64 (Int.fdiv labels (4 : Int)) (15 : Int) ≤ (15 : Int))) = true ∧
 (decide ((1 : Int) ≤ Go.bits BinOp.and IntKind.i64 labels (3 : Int))) = true ∧
 Bool.true = Bool.true) ∧ ((decide ((1 : Int) ≤ Go.bits BinOp.and IntKind.i64 labels (3 : Int))) = false → (Go.AE.seqB data { data := #[] }) = false ∧
 (decide ((32 : Int) < (↑(ByteArray.size data) : Int))) = false ∧
 (decide ((0 : Int) ≤ Go.bits BinOp.and IntKind.i64 labels (3 : Int))) = true ∧
 (decide (Go.bits BinOp.and IntKind.i64 labels (3 : Int) ≤ (3 : Int))) = true ∧
 (decide ((0 : Int) ≤ Go.bits BinOp.and IntKind.i64 (Int.fdiv labels (4 : Int)) (15 : Int))) = true ∧
 (decide (Go.bits BinOp.and IntKind.i64 (Int.fdiv labels (4 : Int)) (15 : Int) ≤ (15 : Int))) = true ∧
 (decide ((1 : Int) ≤ Go.bits BinOp.and IntKind.i64 labels (3 : Int))) = false ∧
 Bool.true = Bool.true))))))))))) ∧ ((decide ((10 : Int) < Go.bits BinOp.and IntKind.i64 fill (31 : Int))) = false → (((decide (Go.bits BinOp.and IntKind.i64 fill (32 : Int) = (32 : Int))) = true → (((Go.AE.seqB data { data := #[] }) = true → (Go.AE.seqB data { data := #[] }) = true ∧
 Bool.true = Bool.true) ∧ ((Go.AE.seqB data { data := #[] }) = false → (((decide ((32 : Int) < (↑(ByteArray.size data) : Int))) = true → (Go.AE.seqB data { data := #[] }) = false ∧
 (decide ((32 : Int) < (↑(ByteArray.size data) : Int))) = true ∧
 Bool.true = Bool.true) ∧ ((decide ((32 : Int) < (↑(ByteArray.size data) : Int))) = false → (decide ((0 : Int) ≤ Go.bits BinOp.and IntKind.i64 labels (3 : Int))) = true ∧
 (decide (Go.bits BinOp.and IntKind.i64 labels (3 : Int) ≤ (3 : Int))) = true ∧
 (decide ((0 : Int) ≤ Go.bits BinOp.and IntKind.i64 (Int.fdiv labels (4 : Int)) (15 : Int))) = true ∧
 (decide (Go.bits BinOp.and IntKind.i64 (Int.fdiv labels (4 : Int)) (15 : Int) ≤ (15 : Int))) = true ∧
 (((decide ((1 : Int) ≤ Go.bits BinOp.and IntKind.i64 labels (3 : Int))) = true → (Go.AE.seqB data { data := #[] }) = false ∧
 (decide ((32 : Int) < (↑(ByteArray.size data) : Int))) = false ∧
 (decide ((0 : Int) ≤ Go.bits BinOp.and IntKind.i64 labels (3 : Int))) = true ∧
 (decide (Go.bits BinOp.and IntKind.i64 labels (3 : Int) ≤ (3 : Int))) = true ∧
 (decide ((0 : Int) ≤ Go.bits BinOp.and IntKind.i64 (Int.fdiv labels (4 : Int)) (15 : Int))) = true ∧
 (decide (Go.bits BinOp.and IntKind.i64 (Int.fdiv labels (4 : Int)) (15 : Int) ≤ (15 : Int))) = true ∧
 (decide ((1 : Int) ≤ Go.bits BinOp.and IntKind.i64 labels (3 : Int))) = true ∧
 Bool.true = Bool.true) ∧ ((decide ((1 : Int) ≤ Go.bits BinOp.and IntKind.i64 labels (3 : Int))) = false → (Go.AE.seqB data { data := #[] }) = false ∧
 (decide ((32 : Int) < (↑(ByteArray.size data) : Int))) = false ∧
 (decide ((0 : Int) ≤ Go.bits BinOp.and IntKind.i64 labels (3 : Int))) = true ∧
 (decide (Go.bits BinOp.and IntKind.i64 labels (3 : Int) ≤ (3 : Int))) = true ∧
 (decide ((0 : Int) ≤ Go.bits BinOp.and IntKind.i64 (Int.fdiv labels (4 : Int)) (15 : Int))) = true ∧
 (decide (Go.bits BinOp.and IntKind.i64 (Int.fdiv labels (4 : Int)) (15 : Int) ≤ (15 : Int))) = true ∧
 (decide ((1 : Int) ≤ Go.bits BinOp.and IntKind.i64 labels (3 : Int))) = false ∧
 Bool.true = Bool.true))))))) ∧ ((decide (Go.bits BinOp.and IntKind.i64 fill (32 : Int) = (32 : Int))) = false → (((Go.AE.seqB data { data := #[] }) = true → (Go.AE.seqB data { data := #[] }) = true ∧
 Bool.true = Bool.true) ∧ ((Go.AE.seqB data { data := #[] }) = false → (((decide ((32 : Int) < (↑(ByteArray.size data) : Int))) = true → (Go.AE.seqB data { data := #[] }) = false ∧
 (decide ((32 : Int) < (↑(ByteArray.size data) : Int))) = true ∧
 Bool.true = Bool.true) ∧ ((decide ((32 : Int) < (↑(ByteArray.size data) : Int))) = false → (decide ((0 : Int) ≤ Go.bits BinOp.and IntKind.i64 labels (3 : Int))) = true ∧
 (decide (Go.bits BinOp.and IntKind.i64 labels (3 : Int) ≤ (3 : Int))) = true ∧
 (decide ((0 : Int) ≤ Go.bits BinOp.and IntKind.i64 (Int.fdiv labels (4 : Int)) (15 : Int))) = true ∧
 (decide (Go.bits BinOp.and IntKind.i64 (Int.fdiv labels (4 : Int)) (15 : Int) ≤ (15 : Int))) = true ∧
 (((decide ((1 : Int) ≤ Go.bits BinOp.and IntKind.i64 labels (3 : Int))) = true → (Go.AE.seqB data { data := #[] }) = false ∧
 (decide ((32 : Int) < (↑(ByteArray.size data) : Int))) = false ∧
 (decide ((0 : Int) ≤ Go.bits BinOp.and IntKind.i64 labels (3 : Int))) = true ∧
 (decide (Go.bits BinOp.and IntKind.i64 labels (3 : Int) ≤ (3 : Int))) = true ∧
 (decide ((0 : Int) ≤ Go.bits BinOp.and IntKind.i64 (Int.fdiv labels (4 : Int)) (15 : Int))) = true ∧
 (decide (Go.bits BinOp.and IntKind.i64 (Int.fdiv labels (4 : Int)) (15 : Int) ≤ (15 : Int))) = true ∧
 (decide ((1 : Int) ≤ Go.bits BinOp.and IntKind.i64 labels (3 : Int))) = true ∧
 Bool.true = Bool.true) ∧ ((decide ((1 : Int) ≤ Go.bits BinOp.and IntKind.i64 labels (3 : Int))) = false → (Go.AE.seqB data { data := #[] }) = false ∧
 (decide ((32 : Int) < (↑(ByteArray.size data) : Int))) = false ∧
 (decide ((0 : Int) ≤ Go.bits BinOp.and IntKind.i64 labels (3 : Int))) = true ∧
 (decide (Go.bits BinOp.and IntKind.i64 labels (3 : Int) ≤ (3 : Int))) = true ∧
 (decide ((0 : Int) ≤ Go.bits BinOp.and IntKind.i64 (Int.fdiv labels (4 : Int)) (15 : Int))) = true ∧
 (decide (Go.bits BinOp.and IntKind.i64 (Int.fdiv labels (4 : Int)) (15 : Int) ≤ (15 : Int))) = true ∧
 (decide ((1 : Int) ≤ Go.bits BinOp.and IntKind.i64 labels (3 : Int))) = false ∧
 Bool.true = Bool.true))))))))))) ∧ ((decide ((9 : Int) < Go.bits BinOp.and IntKind.i64 fill (31 : Int))) = false → (((decide (Go.bits BinOp.and IntKind.i64 fill (32 : Int) = (32 : Int))) = true → (((Go.AE.seqB data { data := #[] }) = true → (Go.AE.seqB data { data := #[] }) = true ∧
 Bool.true = Bool.true) ∧ ((Go.AE.seqB data { data := #[] }) = false → (((decide ((32 : Int) < (↑(ByteArray.size data) : Int))) = true → (Go.AE.seqB data { data := #[] }) = false ∧
 (decide ((32 : Int) < (↑(ByteArray.size data) : Int))) = true ∧
 Bool.true = Bool.true) ∧ ((decide ((32 : Int) < (↑(ByteArray.size data) : Int))) = false → (decide ((0 : Int) ≤ Go.bits BinOp.and IntKind.i64 labels (3 : Int))) = true ∧
 (decide (Go.bits BinOp.and IntKind.i64 labels (3 : Int) ≤ (3 : Int))) = true ∧
 (decide ((0 : Int) ≤ Go.bits BinOp.and IntKind.i64 (Int.fdiv labels (4 : Int)) (15 : Int))) = true ∧
 (decide (Go.bits BinOp.and IntKind.i64 (Int.fdiv labels (4 : Int)) (15 : Int) ≤ (15 : Int))) = true ∧
 (((decide ((1 : Int) ≤ Go.bits BinOp.and IntKind.i64 labels (3 : Int))) = true → (Go.AE.seqB data { data := #[] }) = false ∧
 (decide ((32 : Int) < (↑(ByteArray.size data) : Int))) = false ∧
 (decide ((0 : Int) ≤ Go.bits BinOp.and IntKind.i64 labels (3 : Int))) = true ∧
 (decide (Go.bits BinOp.and IntKind.i64 labels (3 : Int) ≤ (3 : Int))) = true ∧
 (decide ((0 : Int) ≤ Go.bits BinOp.and IntKind.i64 (Int.fdiv labels (4 : Int)) (15 : Int))) = true ∧
 (decide (Go.bits BinOp.and IntKind.i64 (Int.fdiv labels (4 : Int)) (15 : Int) ≤ (15 : Int))) = true ∧
 (decide ((1 : Int) ≤ Go.bits BinOp.and IntKind.i64 labels (3 : Int))) = true ∧
 Bool.true = Bool.true) ∧ ((decide ((1 : Int) ≤ Go.bits BinOp.and IntKind.i64 labels (3 : Int))) = false → (Go.AE.seqB data { data := #[] }) = false ∧
 (decide ((32 : Int) < (↑(ByteArray.size data) : Int))) = false ∧
 (decide ((0 : Int) ≤ Go.bits BinOp.and IntKind.i64 labels (3 : Int))) = true ∧
 (decide (Go.bits BinOp.and IntKind.i64 labels (3 : Int) ≤ (3 : Int))) = true ∧
 (decide ((0 : Int) ≤ Go.bits BinOp.and IntKind.i64 (Int.fdiv labels (4 : Int)) (15 : Int))) = true ∧
 (decide (Go.bits BinOp.and IntKind.i64 (Int.fdiv labels (4 : Int)) (15 : Int) ≤ (15 : Int))) = true ∧
 (decide ((1 : Int) ≤ Go.bits BinOp.and IntKind.i64 labels (3 : Int))) = false ∧
 Bool.true = Bool.true))))))) ∧ ((decide (Go.bits BinOp.and IntKind.i64 fill (32 : Int) = (32 : Int))) = false → (((Go.AE.seqB data { data := #[] }) = true → (Go.AE.seqB data { data := #[] }) = true ∧
 Bool.true = Bool.true) ∧ ((Go.AE.seqB data { data := #[] }) = false → (((decide ((32 : Int) < (↑(ByteArray.size data) : Int))) = true → (Go.AE.seqB data { data := #[] }) = false ∧
 (decide ((32 : Int) < (↑(ByteArray.size data) : Int))) = true ∧
 Bool.true = Bool.true) ∧ ((decide ((32 : Int) < (↑(ByteArray.size data) : Int))) = false → (decide ((0 : Int) ≤ Go.bits BinOp.and IntKind.i64 labels (3 : Int))) = true ∧
 (decide (Go.bits BinOp.and IntKind.i64 labels (3 : Int) ≤ (3 : Int))) = true ∧
 (decide ((0 : Int) ≤ Go.bits BinOp.and IntKind.i64 (Int.fdiv labels (4 : Int)) (15 : Int))) = true ∧
 (decide (Go.bits BinOp.and IntKind.i64 (Int.fdiv labels (4 : Int)) (15 : Int) ≤ (15 : Int))) = true ∧
 (((decide ((1 : Int) ≤ Go.bits BinOp.and IntKind.i64 labels (3 : Int))) = true → (Go.AE.seqB data { data := #[] }) = false ∧
 (decide ((32 : Int) < (↑(ByteArray.size data) : Int))) = false ∧
 (decide ((0 : Int) ≤ Go.bits BinOp.and IntKind.i64 labels (3 : Int))) = true ∧
 (decide (Go.bits BinOp.and IntKind.i64 labels (3 : Int) ≤ (3 : Int))) = true ∧
 (decide ((0 : Int) ≤ Go.bits BinOp.and IntKind.i64 (Int.fdiv labels (4 : Int)) (15 : Int))) = true ∧
 (decide (Go.bits BinOp.and IntKind.i64 (Int.fdiv labels (4 : Int)) (15 : Int) ≤ (15 : Int))) = true ∧
 (decide ((1 : Int) ≤ Go.bits BinOp.and IntKind.i64 labels (3 : Int))) = true ∧
 Bool.true = Bool.true) ∧ ((decide ((1 : Int) ≤ Go.bits BinOp.and IntKind.i64 labels (3 : Int))) = false → (Go.AE.seqB data { data := #[] }) = false ∧
 (decide ((32 : Int) < (↑(ByteArray.size data) : Int))) = false ∧
 (decide ((0 : Int) ≤ Go.bits BinOp.and IntKind.i64 labels (3 : Int))) = true ∧
 (decide (Go.bits BinOp.and IntKind.i64 labels (3 : Int) ≤ (3 : Int))) = true ∧
 (decide ((0 : Int) ≤ Go.bits BinOp.and IntKind.i64 (Int.fdiv labels (4 : Int)) (15 : Int))) = true ∧
 (decide (Go.bits BinOp.and IntKind.i64 (Int.fdiv labels (4 : Int)) (15 : Int) ≤ (15 : Int))) = true ∧
 (decide ((1 : Int) ≤ Go.bits BinOp.and IntKind.i64 labels (3 : Int))) = false ∧
 Bool.true = Bool.true))))))))))) ∧ ((decide ((8 : Int) < Go.bits BinOp.and IntKind.i64 fill (31 : Int))) = false → (((decide (Go.bits BinOp.and IntKind.i64 fill (32 : Int) = (32 : Int))) = true → (((Go.AE.seqB data { data := #[] }) = true → (Go.AE.seqB data { data := #[] }) = true ∧
 Bool.true = Bool.true) ∧ ((Go.AE.seqB data { data := #[] }) = false → (((decide ((32 : Int) < (↑(ByteArray.size data) : Int))) = true → (Go.AE.seqB data { data := #[] }) = false ∧
 (decide ((32 : Int) < (↑(ByteArray.size data) : Int))) = true ∧
 Bool.true = Bool.true) ∧ ((decide ((32 : Int) < (↑(ByteArray.size data) : Int))) = false → (decide ((0 : Int) ≤ Go.bits BinOp.and IntKind.i64 labels (3 : Int))) = true ∧
 (decide (Go.bits BinOp.and IntKind.i64 labels (3 : Int) ≤ (3 : Int))) = true ∧
 (decide ((0 : Int) ≤ Go.bits BinOp.and IntKind.i64 (Int.fdiv labels (4 : Int)) (15 : Int))) = true ∧
 (decide (Go.bits BinOp.and IntKind.i64 (Int.fdiv labels (4 : Int)) (15 : Int) ≤ (15 : Int))) = true ∧
 (((decide ((1 : Int) ≤ Go.bits BinOp.and IntKind.i64 labels (3 : Int))) = true → (Go.AE.seqB data { data := #[] }) = false ∧
 (decide ((32 : Int) < (↑(ByteArray.size data) : Int))) = false ∧
 (decide ((0 : Int) ≤ Go.bits BinOp.and IntKind.i64 labels (3 : Int))) = true ∧
 (decide (Go.bits BinOp.and IntKind.i64 labels (3 : Int) ≤ (3 : Int))) = true ∧
 (decide ((0 : Int) ≤ Go.bits BinOp.and IntKind.i64 (Int.fdiv labels (4 : Int)) (15 : Int))) = true ∧
 (decide (Go.bits BinOp.and IntKind.i64 (Int.fdiv labels (4 : Int)) (15 : Int) ≤ (15 : Int))) = true ∧
 (decide ((1 : Int) ≤ Go.bits BinOp.and IntKind.i64 labels (3 : Int))) = true ∧
 Bool.true = Bool.true) ∧ ((decide ((1 : Int) ≤ Go.bits BinOp.and IntKind.i64 labels (3 : Int))) = false → (Go.AE.seqB data { data := #[] }) = false ∧
 (decide ((32 : Int) < (↑(ByteArray.size data) : Int))) = false ∧
 (decide ((0 : Int) ≤ Go.bits BinOp.and IntKind.i64 labels (3 : Int))) = true ∧
 (decide (Go.bits BinOp.and IntKind.i64 labels (3 : Int) ≤ (3 : Int))) = true ∧
 (decide ((0 : Int) ≤ Go.bits BinOp.and IntKind.i64 (Int.fdiv labels (4 : Int)) (15 : Int))) = true ∧
 (decide (Go.bits BinOp.and IntKind.i64 (Int.fdiv labels (4 : Int)) (15 : Int) ≤ (15 : Int))) = true ∧
 (decide ((1 : Int) ≤ Go.bits BinOp.and IntKind.i64 labels (3 : Int))) = false ∧
 Bool.true = Bool.true))))))) ∧ ((decide (Go.bits BinOp.and IntKind.i64 fill (32 : Int) = (32 : Int))) = false → (((Go.AE.seqB data { data := #[] }) = true → (Go.AE.seqB data { data := #[] }) = true ∧
 Bool.true = Bool.true) ∧ ((Go.AE.seqB data { data := #[] }) = false → (((decide ((32 : Int) < (↑(ByteArray.size data) : Int))) = true → (Go.AE.seqB data { data := #[] }) = false ∧
 (decide ((32 : Int) < (↑(ByteArray.size data) : Int))) = true ∧
 Bool.true = Bool.true) ∧ ((decide ((32 : Int) < (↑(ByteArray.size data) : Int))) = false → (decide ((0 : Int) ≤ Go.bits BinOp.and IntKind.i64 labels (3 : Int))) = true ∧
 (decide (Go.bits BinOp.and IntKind.i64 labels (3 : Int) ≤ (3 : Int))) = true ∧
 (decide ((0 : Int) ≤ Go.bits BinOp.and IntKind.i64 (Int.fdiv labels (4 : Int)) (15 : Int))) = true ∧
 (decide (Go.bits BinOp.and IntKind.i64 (Int.fdiv labels (4 : Int)) (15 : Int) ≤ (15 : Int))) = true ∧
 (((decide ((1 : Int) ≤ Go.bits BinOp.and IntKind.i64 labels (3 : Int))) = true → (Go.AE.seqB data { data := #[] }) = false ∧
 (decide ((32 : Int) < (↑(ByteArray.size data) : Int))) = false ∧
 (decide ((0 : Int) ≤ Go.bits BinOp.and IntKind.i64 labels (3 : Int))) = true ∧
 (decide (Go.bits BinOp.and IntKind.i64 labels (3 : Int) ≤ (3 : Int))) = true ∧
 (decide ((0 : Int) ≤ Go.bits BinOp.and IntKind.i64 (Int.fdiv labels (4 : Int)) (15 : Int))) = true ∧
 (decide (Go.bits BinOp.and IntKind.i64 (Int.fdiv labels (4 : Int)) (15 : Int) ≤ (15 : Int))) = true ∧
 (decide ((1 : Int) ≤ Go.bits BinOp.and IntKind.i64 labels (3 : Int))) = true ∧
 Bool.true = Bool.true) ∧ ((decide ((1 : Int) ≤ Go.bits BinOp.and IntKind.i64 labels (3 : Int))) = false → (Go.AE.seqB data { data := #[] }) = false ∧
 (decide ((32 : Int) < (↑(ByteArray.size data) : Int))) = false ∧
 (decide ((0 : Int) ≤ Go.bits BinOp.and IntKind.i64 labels (3 : Int))) = true ∧
 (decide (Go.bits BinOp.and IntKind.i64 labels (3 : Int) ≤ (3 : Int))) = true ∧
 (decide ((0 : Int) ≤ Go.bits BinOp.and IntKind.i64 (Int.fdiv labels (4 : Int)) (15 : Int))) = true ∧
 (decide (Go.bits BinOp.and IntKind.i64 (Int.fdiv labels (4 : Int)) (15 : Int) ≤ (15 : Int))) = true ∧
 (decide ((1 : Int) ≤ Go.bits BinOp.and IntKind.i64 labels (3 : Int))) = false ∧
 Bool.true = Bool.true))))))))))) ∧ ((decide ((7 : Int) < Go.bits BinOp.and IntKind.i64 fill (31 : Int))) = false → (((decide (Go.bits BinOp.and IntKind.i64 fill (32 : Int) = (32 : Int))) = true → (((Go.AE.seqB data { data := #[] }) = true → (Go.AE.seqB data { data := #[] }) = true ∧
 Bool.true = Bool.true) ∧ ((Go.AE.seqB data { data := #[] }) = false → (((decide ((32 : Int) < (↑(ByteArray.size data) : Int))) = true → (Go.AE.seqB data { data := #[] }) = false ∧
 (decide ((32 : Int) < (↑(ByteArray.size data) : Int))) = true ∧
 Bool.true = Bool.true) ∧ ((decide ((32 : Int) < (↑(ByteArray.size data) : Int))) = false → (decide ((0 : Int) ≤ Go.bits BinOp.and IntKind.i64 labels (3 : Int))) = true ∧
 (decide (Go.bits BinOp.and IntKind.i64 labels (3 : Int) ≤ (3 : Int))) = true ∧
 (decide ((0 : Int) ≤ Go.bits BinOp.and IntKind.i64 (Int.fdiv labels (4 : Int)) (15 : Int))) = true ∧
 (decide (Go.bits BinOp.and IntKind.i64 (Int.fdiv labels (4 : Int)) (15 : Int) ≤ (15 : Int))) = true ∧
 (((decide ((1 : Int) ≤ Go.bits BinOp.and IntKind.i64 labels (3 : Int))) = true → (Go.AE.seqB data { data := #[] }) = false ∧
 (decide ((32 : Int) < (↑(ByteArray.size data) : Int))) = false ∧
 (decide ((0 : Int) ≤ Go.bits BinOp.and IntKind.i64 labels (3 : Int))) = true ∧
 (decide (Go.bits BinOp.and IntKind.i64 labels (3 : Int) ≤ (3 : Int))) = true ∧
 (decide ((0 : Int) ≤ Go.bits BinOp.and IntKind.i64 (Int.fdiv labels (4 : Int)) (15 : Int))) = true ∧
 (decide (Go.bits BinOp.and IntKind.i64 (Int.fdiv labels (4 : Int)) (15 : Int) ≤ (15 : Int))) = true ∧
 (decide ((1 : Int) ≤ Go.bits BinOp.and IntKind.i64 labels (3 : Int))) = true ∧
 Bool.true = Bool.true) ∧ ((decide ((1 : Int) ≤ Go.bits BinOp.and IntKind.i64 labels (3 : Int))) = false → (Go.AE.seqB data { data := #[] }) = false ∧
 (decide ((32 : Int) < (↑(ByteArray.size data) : Int))) = false ∧
 (decide ((0 : Int) ≤ Go.bits BinOp.and IntKind.i64 labels (3 : Int))) = true ∧
 (decide (Go.bits BinOp.and IntKind.i64 labels (3 : Int) ≤ (3 : Int))) = true ∧
 (decide ((0 : Int) ≤ Go.bits BinOp.and IntKind.i64 (Int.fdiv labels (4 : Int)) (15 : Int))) = true ∧
 (decide (Go.bits BinOp.and IntKind.i64 (Int.fdiv labels (4 : Int)) (15 : Int) ≤ (15 : Int))) = true ∧
 (decide ((1 : Int) ≤ Go.bits BinOp.and IntKind.i64 labels (3 : Int))) = false ∧
 Bool.true = Bool.true))))))) ∧ ((decide (Go.bits BinOp.and IntKind.i64 fill (32 : Int) = (32 : Int))) = false → (((Go.AE.seqB data { data := #[] }) = true → (Go.AE.seqB data { data := #[] }) = true ∧
 Bool.true = Bool.true) ∧ ((Go.AE.seqB data { data := #[] }) = false → (((decide ((32 : Int) < (↑(ByteArray.size data) : Int))) = true → (Go.AE.seqB data { data := #[] }) = false ∧
 (decide ((32 : Int) < (↑(ByteArray.size data) : Int))) = true ∧
 Bool.true = Bool.true) ∧ ((decide ((32 : Int) < (↑(ByteArray.size data) : Int))) = false → (decide ((0 : Int) ≤ Go.bits BinOp.and IntKind.i64 labels (3 : Int))) = true ∧
 (decide (Go.bits BinOp.and IntKind.i64 labels (3 : Int) ≤ (3 : Int))) = true ∧
 (decide ((0 : Int) ≤ Go.bits BinOp.and IntKind.i64 (Int.fdiv labels (4 : Int)) (15 : Int))) = true ∧
 (decide (Go.bits BinOp.and IntKind.i64 (Int.fdiv labels (4 : Int)) (15 : Int) ≤ (15 : Int))) = true ∧
 (((decide ((1 : Int) ≤ Go.bits BinOp.and IntKind.i64 labels (3 : Int))) = true → (Go.AE.seqB data { data := #[] }) = false ∧
 (decide ((32 : Int) < (↑(ByteArray.size data) : Int))) = false ∧
 (decide ((0 : Int) ≤ Go.bits BinOp.and IntKind.i64 labels (3 : Int))) = true ∧
 (decide (Go.bits BinOp.and IntKind.i64 labels (3 : Int) ≤ (3 : Int))) = true ∧
 (decide ((0 : Int) ≤ Go.bits BinOp.and IntKind.i64 (Int.fdiv labels (4 : Int)) (15 : Int))) = true ∧
 (decide (Go.bits BinOp.and IntKind.i64 (Int.fdiv labels (4 : Int)) (15 : Int) ≤ (15 : Int))) = true ∧
 (decide ((1 : Int) ≤ Go.bits BinOp.and IntKind.i64 labels (3 : Int))) = true ∧
 Bool.true = Bool.true) ∧ ((decide ((1 : Int) ≤ Go.bits BinOp.and IntKind.i64 labels (3 : Int))) = false → (Go.AE.seqB data { data := #[] }) = false ∧
 (decide ((32 : Int) < (↑(ByteArray.size data) : Int))) = false ∧
 (decide ((0 : Int) ≤ Go.bits BinOp.and IntKind.i64 labels (3 : Int))) = true ∧
 (decide (Go.bits BinOp.and IntKind.i64 labels (3 : Int) ≤ (3 : Int))) = true ∧
 (decide ((0 : Int) ≤ Go.bits BinOp.and IntKind.i64 (Int.fdiv labels (4 : Int)) (15 : Int))) = true ∧
 (decide (Go.bits BinOp.and IntKind.i64 (Int.fdiv labels (4 : Int)) (15 : Int) ≤ (15 : Int))) = true ∧
 (decide ((1 : Int) ≤ Go.bits BinOp.and IntKind.i64 labels (3 : Int))) = false ∧
 Bool.true = Bool.true))))))))))) ∧ ((decide ((6 : Int) < Go.bits BinOp.and IntKind.i64 fill (31 : Int))) = false → (((decide (Go.bits BinOp.and IntKind.i64 fill (32 : Int) = (32 : Int))) = true → (((Go.AE.seqB data { data := #[] }) = true → (Go.AE.seqB data { data := #[] }) = true ∧
 Bool.true = Bool.true) ∧ ((Go.AE.seqB data { data := #[] }) = false → (((decide ((32 : Int) < (↑(ByteArray.size data) : Int))) = true → (Go.AE.seqB data { data := #[] }) = false ∧
 (decide ((32 : Int) < (↑(ByteArray.size data) : Int))) = true ∧
 Bool.true = Bool.true) ∧ ((decide ((32 : Int) < (↑(ByteArray.size data) : Int))) = false → (decide ((0 : Int) ≤ Go.bits BinOp.and IntKind.i64 labels (3 : Int))) = true ∧
 (decide (Go.bits BinOp.and IntKind.i64 labels (3 : Int) ≤ (3 : Int))) = true ∧
 (decide ((0 : Int) ≤ Go.bits BinOp.and IntKind.i64 (Int.fdiv labels (4 : Int)) (15 : Int))) = true ∧
 (decide (Go.bits BinOp.and IntKind.i64 (Int.fdiv labels (4 : Int)) (15 : Int) ≤ (15 : Int))) = true ∧
 (((decide ((1 : Int) ≤ Go.bits BinOp.and IntKind.i64 labels (3 : Int))) = true → (Go.AE.seqB data { data := #[] }) = false ∧
 (decide ((32 : Int) < (↑(ByteArray.size data) : Int))) = false ∧
 (decide ((0 : Int) ≤ Go.bits BinOp.and IntKind.i64 labels (3 : Int))) = true ∧
 (decide (Go.bits BinOp.and IntKind.i64 labels (3 : Int) ≤ (3 : Int))) = true ∧
 (decide ((0 : Int) ≤ Go.bits BinOp.and IntKind.i64 (Int.fdiv labels (4 : Int)) (15 : Int))) = true ∧
 (decide (Go.bits BinOp.and IntKind.i64 (Int.fdiv labels (4 : Int)) (15 : Int) ≤ (15 : Int))) = true ∧
 (decide ((1 : Int) ≤ Go.bits BinOp.and IntKind.i64 labels (3 : Int))) = true ∧
 Bool.true = Bool.true) ∧ ((decide ((1 : Int) ≤ Go.bits BinOp.and IntKind.i64 labels (3 : Int))) = false → (Go.AE.seqB data { data := #[] }) = false ∧
 (decide ((32 : Int) < (↑(ByteArray.size data) : Int))) = false ∧
 (decide ((0 : Int) ≤ Go.bits BinOp.and IntKind.i64 labels (3 : Int))) = true ∧
 (decide (Go.bits BinOp.and IntKind.i64 labels (3 : Int) ≤ (3 : Int))) = true ∧
 (decide ((0 : Int) ≤ Go.bits BinOp.and IntKind.i64 (Int.fdiv labels (4 : Int)) (15 : Int))) = true ∧
 (decide (Go.bits BinOp.and IntKind.i64 (Int.fdiv labels (4 : Int)) (15 : Int) ≤ (15 : Int))) = true ∧
 (decide ((1 : Int) ≤ Go.bits BinOp.and IntKind.i64 labels (3 : Int))) = false ∧
 Bool.true = Bool.true))))))) ∧ ((decide (Go.bits BinOp.and IntKind.i64 fill (32 : Int) = (32 : Int))) = false → (((Go.AE.seqB data { data := #[] }) = true → (Go.AE.seqB data { data := #[] }) = true ∧
 Bool.true = Bool.true) ∧ ((Go.AE.seqB data { data := #[] }) = false → (((decide ((32 : Int) < (↑(ByteArray.size data) : Int))) = true → (Go.AE.seqB data { data := #[] }) = false ∧
 (decide ((32 : Int) < (↑(ByteArray.size data) : Int))) = true ∧
 Bool.true = Bool.true) ∧ ((decide ((32 : Int) < (↑(ByteArray.size data) : Int))) = false → (decide ((0 : Int) ≤ Go.bits BinOp.and IntKind.i64 labels (3 : Int))) = true ∧
 (decide (Go.bits BinOp.and IntKind.i64 labels (3 : Int) ≤ (3 : Int))) = true ∧
 (decide ((0 : Int) ≤ Go.bits BinOp.and IntKind.i64 (Int.fdiv labels (4 : Int)) (15 : Int))) = true ∧
 (decide (Go.bits BinOp.and IntKind.i64 (Int.fdiv labels (4 : Int)) (15 : Int) ≤ (15 : Int))) = true ∧
 (((decide ((1 : Int) ≤ Go.bits BinOp.and IntKind.i64 labels (3 : Int))) = true → (Go.AE.seqB data { data := #[] }) = false ∧
 (decide ((32 : Int) < (↑(ByteArray.size data) : Int))) = false ∧
 (decide ((0 : Int) ≤ Go.bits BinOp.and IntKind.i64 labels (3 : Int))) = true ∧
 (decide (Go.bits BinOp.and IntKind.i64 labels (3 : Int) ≤ (3 : Int))) = true ∧
 (decide ((0 : Int) ≤ Go.bits BinOp.and IntKind.i64 (Int.fdiv labels (4 : Int)) (15 : Int))) = true ∧
 (decide (Go.bits BinOp.and IntKind.i64 (Int.fdiv labels (4 : Int)) (15 : Int) ≤ (15 : Int))) = true ∧
 (decide ((1 : Int) ≤ Go.bits BinOp.and IntKind.i64 labels (3 : Int))) = true ∧
 Bool.true = Bool.true) ∧ ((decide ((1 : Int) ≤ Go.bits BinOp.and IntKind.i64 labels (3 : Int))) = false → (Go.AE.seqB data { data := #[] }) = false ∧
 (decide ((32 : Int) < (↑(ByteArray.size data) : Int))) = false ∧
 (decide ((0 : Int) ≤ Go.bits BinOp.and IntKind.i64 labels (3 : Int))) = true ∧
 (decide (Go.bits BinOp.and IntKind.i64 labels (3 : Int) ≤ (3 : Int))) = true ∧
 (decide ((0 : Int) ≤ Go.bits BinOp.and IntKind.i64 (Int.fdiv labels (4 : Int)) (15 : Int))) = true ∧
 (decide (Go.bits BinOp.and IntKind.i64 (Int.fdiv labels (4 : Int)) (15 : Int) ≤ (15 : Int))) = true ∧
 (decide ((1 : Int) ≤ Go.bits BinOp.and IntKind.i64 labels (3 : Int))) = false ∧
 Bool.true = Bool.true))))))))))) ∧ ((decide ((5 : Int) < Go.bits BinOp.and IntKind.i64 fill (31 : Int))) = false → (((decide (Go.bits BinOp.and IntKind.i64 fill (32 : Int) = (32 : Int))) = true → (((Go.AE.seqB data { data := #[] }) = true → (Go.AE.seqB data { data := #[] }) = true ∧
 Bool.true = Bool.true) ∧ ((Go.AE.seqB data { data := #[] }) = false → (((decide ((32 : Int) < (↑(ByteArray.size data) : Int))) = true → (Go.AE.seqB data { data := #[] }) = false ∧
 (decide ((32 : Int) < (↑(ByteArray.size data) : Int))) = true ∧
 Bool.true = Bool.true) ∧ ((decide ((32 : Int) < (↑(ByteArray.size data) : Int))) = false → (decide ((0 : Int) ≤ Go.bits BinOp.and IntKind.i64 labels (3 : Int))) = true ∧
 (decide (Go.bits BinOp.and IntKind.i64 labels (3 : Int) ≤ (3 : Int))) = true ∧
 (decide ((0 : Int) ≤ Go.bits BinOp.and IntKind.i64 (Int.fdiv labels (4 : Int)) (15 : Int))) = true ∧
 (decide (Go.bits BinOp.and IntKind.i64 (Int.fdiv labels (4 : Int)) (15 : Int) ≤ (15 : Int))) = true ∧
 (((decide ((1 : Int) ≤ Go.bits BinOp.and IntKind.i64 labels (3 : Int))) = true → (Go.AE.seqB data { data := #[] }) = false ∧
 (decide ((32 : Int) < (↑(ByteArray.size data) : Int))) = false ∧
 (decide ((0 : Int) ≤ Go.bits BinOp.and IntKind.i64 labels (3 : Int))) = true ∧
 (decide (Go.bits BinOp.and IntKind.i64 labels (3 : Int) ≤ (3 : Int))) = true ∧
 (decide ((0 : Int) ≤ Go.bits BinOp.and IntKind.i64 (Int.fdiv labels (4 : Int)) (15 : Int))) = true ∧
 (decide (Go.bits BinOp.and IntKind.i64 (Int.fdiv labels (4 : Int)) (15 : Int) ≤ (15 : Int))) = true ∧
 (decide ((1 : Int) ≤ Go.bits BinOp.and IntKind.i64 labels (3 : Int))) = true ∧
 Bool.true = Bool.true) ∧ ((decide ((1 : Int) ≤ Go.bits BinOp.and IntKind.i64 labels (3 : Int))) = false → (Go.AE.seqB data { data := #[] }) = false ∧
 (decide ((32 : Int) < (↑(ByteArray.size data) : Int))) = false ∧
 (decide ((0 : Int) ≤ Go.bits BinOp.and IntKind.i64 labels (3 : Int))) = true ∧
 (decide (Go.bits BinOp.and IntKind.i64 labels (3 : Int) ≤ (3 : Int))) = true ∧
 (decide ((0 : Int) ≤ Go.bits BinOp.and IntKind.i64 (Int.fdiv labels (4 : Int)) (15 : Int))) = true ∧
 (decide (Go.bits BinOp.and IntKind.i64 (Int.fdiv labels (4 : Int)) (15 : Int) ≤ (15 : Int))) = true ∧
 (decide ((1 : Int) ≤ Go.bits BinOp.and IntKind.i64 labels (3 : Int))) = false ∧
 Bool.true = Bool.true))))))) ∧ ((decide (Go.bits BinOp.and IntKind.i64 fill (32 : Int) = (32 : Int))) = false → (((Go.AE.seqB data { data := #[] }) = true → (Go.AE.seqB data { data := #[] }) = true ∧
 Bool.true = Bool.true) ∧ ((Go.AE.seqB data { data := #[] }) = false → (((decide ((32 : Int) < (↑(ByteArray.size data) : Int))) = true → (Go.AE.seqB data { data := #[] }) = false ∧
 (decide ((32 : Int) < (↑(ByteArray.size data) : Int))) = true ∧
 Bool.true = Bool.true) ∧ ((decide ((32 : Int) < (↑(ByteArray.size data) : Int))) = false → (decide ((0 : Int) ≤ Go.bits BinOp.and IntKind.i64 labels (3 : Int))) = true ∧
 (decide (Go.bits BinOp.and IntKind.i64 labels (3 : Int) ≤ (3 : Int))) = true ∧
 (decide ((0 : Int) ≤ Go.bits BinOp.and IntKind.i64 (Int.fdiv labels (4 : Int)) (15 : Int))) = true ∧
 (decide (Go.bits BinOp.and IntKind.i64 (Int.fdiv labels (4 : Int)) (15 : Int) ≤ (15 : Int))) = true ∧
 (((decide ((1 : Int) ≤ Go.bits BinOp.and IntKind.i64 labels (3 : Int))) = true → (Go.AE.seqB data { data := #[] }) = false ∧
 (decide ((32 : Int) < (↑(ByteArray.size data) : Int))) = false ∧
 (decide ((0 : Int) ≤ Go.bits BinOp.and IntKind.i64 labels (3 : Int))) = true ∧
 (decide (Go.bits BinOp.and IntKind.i64 labels (3 : Int) ≤ (3 : Int))) = true ∧
 (decide ((0 : Int) ≤ Go.bits BinOp.and IntKind.i64 (Int.fdiv labels (4 : Int)) (15 : Int))) = true ∧
 (decide (Go.bits BinOp.and IntKind.i64 (Int.fdiv labels (4 : Int)) (15 : Int) ≤ (15 : Int))) = true ∧
 (decide ((1 : Int) ≤ Go.bits BinOp.and IntKind.i64 labels (3 : Int))) = true ∧
 Bool.true = Bool.true) ∧ ((decide ((1 : Int) ≤ Go.bits BinOp.and IntKind.i64 labels (3 : Int))) = false → (Go.AE.seqB data { data := #[] }) = false ∧
 (decide ((32 : Int) < (↑(ByteArray.size data) : Int))) = false ∧
 (decide ((0 : Int) ≤ Go.bits BinOp.and IntKind.i64 labels (3 : Int))) = true ∧
 (decide (Go.bits BinOp.and IntKind.i64 labels (3 : Int) ≤ (3 : Int))) = true ∧
 (decide ((0 : Int) ≤ Go.bits BinOp.and IntKind.i64 (Int.fdiv labels (4 : Int)) (15 : Int))) = true ∧
 (decide (Go.bits BinOp.and IntKind.i64 (Int.fdiv labels (4 : Int)) (15 : Int) ≤ (15 : Int))) = true ∧
 (decide ((1 : Int) ≤ Go.bits BinOp.and IntKind.i64 labels (3 : Int))) = false ∧
 Bool.true = Bool.true))))))))))) ∧ ((decide ((4 : Int) < Go.bits BinOp.and IntKind.i64 fill (31 : Int))) = false → (((decide (Go.bits BinOp.and IntKind.i64 fill (32 : Int) = (32 : Int))) = true → (((Go.AE.seqB data { data := #[] }) = true → (Go.AE.seqB data { data := #[] }) = true ∧
 Bool.true = Bool.true) ∧ ((Go.AE.seqB data { data := #[] }) = false → (((decide ((32 : Int) < (↑(ByteArray.size data) : Int))) = true → (Go.AE.seqB data { data := #[] }) = false ∧
 (decide ((32 : Int) < (↑(ByteArray.size data) : Int))) = true ∧
 Bool.true = Bool.true) ∧ ((decide ((32 : Int) < (↑(ByteArray.size data) : Int))) = false → (decide ((0 : Int) ≤ Go.bits BinOp.and IntKind.i64 labels (3 : Int))) = true ∧
 (decide (Go.bits BinOp.and IntKind.i64 labels (3 : Int) ≤ (3 : Int))) = true ∧
 (decide ((0 : Int) ≤ Go.bits BinOp.and IntKind.i64 (Int.fdiv labels (4 : Int)) (15 : Int))) = true ∧
 (decide (Go.bits BinOp.and IntKind.i64 (Int.fdiv labels (4 : Int)) (15 : Int) ≤ (15 : Int))) = true ∧
 (((decide ((1 : Int) ≤ Go.bits BinOp.and IntKind.i64 labels (3 : Int))) = true → (Go.AE.seqB data { data := #[] }) = false ∧
 (decide ((32 : Int) < (↑(ByteArray.size data) : Int))) = false ∧
 (decide ((0 : Int) ≤ Go.bits BinOp.and IntKind.i64 labels (3 : Int))) = true ∧
 (decide (Go.bits BinOp.and IntKind.i64 labels (3 : Int) ≤ (3 : Int))) = true ∧
 (decide ((0 : Int) ≤ Go.bits BinOp.and IntKind.i64 (Int.fdiv labels (4 : Int)) (15 : Int))) = true ∧
 (decide (Go.bits BinOp.and IntKind.i64 (Int.fdiv labels (4 : Int)) (15 : Int) ≤ (15 : Int))) = true ∧
 (decide ((1 : Int) ≤ Go.bits BinOp.and IntKind.i64 labels (3 : Int))) = true ∧
 Bool.true = Bool.true) ∧ ((decide ((1 : Int) ≤ Go.bits BinOp.and IntKind.i64 labels (3 : Int))) = false → (Go.AE.seqB data { data := #[] }) = false ∧
 (decide ((32 : Int) < (↑(ByteArray.size data) : Int))) = false ∧
 (decide ((0 : Int) ≤ Go.bits BinOp.and IntKind.i64 labels (3 : Int))) = true ∧
 (decide (Go.bits BinOp.and IntKind.i64 labels (3 : Int) ≤ (3 : Int))) = true ∧
 (decide ((0 : Int) ≤ Go.bits BinOp.and IntKind.i64 (Int.fdiv labels (4 : Int)) (15 : Int))) = true ∧
 (decide (Go.bits BinOp.and IntKind.i64 (Int.fdiv labels (4 : Int)) (15 : Int) ≤ (15 : Int))) = true ∧
 (decide ((1 : Int) ≤ Go.bits BinOp.and IntKind.i64 labels (3 : Int))) = false ∧
 Bool.true = Bool.true))))))) ∧ ((decide (Go.bits BinOp.and IntKind.i64 fill (32 : Int) = (32 : Int))) = false → (((Go.AE.seqB data { data := #[] }) = true → (Go.AE.seqB data { data := #[] }) = true ∧
 Bool.true = Bool.true) ∧ ((Go.AE.seqB data { data := #[] }) = false → (((decide ((32 : Int) < (↑(ByteArray.size data) : Int))) = true → (Go.AE.seqB data { data := #[] }) = false ∧
 (decide ((32 : Int) < (↑(ByteArray.size data) : Int))) = true ∧
 Bool.true = Bool.true) ∧ ((decide ((32 : Int) < (↑(ByteArray.size data) : Int))) = false → (decide ((0 : Int) ≤ Go.bits BinOp.and IntKind.i64 labels (3 : Int))) = true ∧
 (decide (Go.bits BinOp.and IntKind.i64 labels (3 : Int) ≤ (3 : Int))) = true ∧
 (decide ((0 : Int) ≤ Go.bits BinOp.and IntKind.i64 (Int.fdiv labels (4 : Int)) (15 : Int))) = true ∧
 (decide (Go.bits BinOp.and IntKind.i64 (Int.fdiv labels (4 : Int)) (15 : Int) ≤ (15 : Int))) = true ∧
 (((decide ((1 : Int) ≤ Go.bits BinOp.and IntKind.i64 labels (3 : Int))) = true → (Go.AE.seqB data { data := #[] }) = false ∧
 (decide ((32 : Int) < (↑(ByteArray.size data) : Int))) = false ∧
 (decide ((0 : Int) ≤ Go.bits BinOp.and IntKind.i64 labels (3 : Int))) = true ∧
 (decide (Go.bits BinOp.and IntKind.i64 labels (3 : Int) ≤ (3 : Int))) = true ∧
 (decide ((0 : Int) ≤ Go.bits BinOp.and IntKind.i64 (Int.fdiv labels (4 : Int)) (15 : Int))) = true ∧
 (decide (Go.bits BinOp.and IntKind.i64 (Int.fdiv labels (4 : Int)) (15 : Int) ≤ (15 : Int))) = true ∧
 (decide ((1 : Int) ≤ Go.bits BinOp.and IntKind.i64 labels (3 : Int))) = true ∧
 Bool.true = Bool.true) ∧ ((decide ((1 : Int) ≤ Go.bits BinOp.and IntKind.i64 labels (3 : Int))) = false → (Go.AE.seqB data { data := #[] }) = false ∧
 (decide ((32 : Int) < (↑(ByteArray.size data) : Int))) = false ∧
 (decide ((0 : Int) ≤ Go.bits BinOp.and IntKind.i64 labels (3 : Int))) = true ∧
 (decide (Go.bits BinOp.and IntKind.i64 labels (3 : Int) ≤ (3 : Int))) = true ∧
 (decide ((0 : Int) ≤ Go.bits BinOp.and IntKind.i64 (Int.fdiv labels (4 : Int)) (15 : Int))) = true ∧
 (decide (Go.bits BinOp.and IntKind.i64 (Int.fdiv labels (4 : Int)) (15 : Int) ≤ (15 : Int))) = true ∧
 (decide ((1 : Int) ≤ Go.bits BinOp.and IntKind.i64 labels (3 : Int))) = false ∧
 Bool.true = Bool.true))))))))))) ∧ ((decide ((3 : Int) < Go.bits BinOp.and IntKind.i64 fill (31 : Int))) = false → (((decide (Go.bits BinOp.and IntKind.i64 fill (32 : Int) = (32 : Int))) = true → (((Go.AE.seqB data { data := #[] }) = true → (Go.AE.seqB data { data := #[] }) = true ∧
 Bool.true = Bool.true) ∧ ((Go.AE.seqB data { data := #[] }) = false → (((decide ((32 : Int) < (↑(ByteArray.size data) : Int))) = true → (Go.AE.seqB data { data := #[] }) = false ∧
 (decide ((32 : Int) < (↑(ByteArray.size data) : Int))) = true ∧
 Bool.true = Bool.true) ∧ ((decide ((32 : Int) < (↑(ByteArray.size data) : Int))) = false → (decide ((0 : Int) ≤ Go.bits BinOp.and IntKind.i64 labels (3 : Int))) = true ∧
 (decide (Go.bits BinOp.and IntKind.i64 labels (3 : Int) ≤ (3 : Int))) = true ∧
 (decide ((0 : Int) ≤ Go.bits BinOp.and IntKind.i64 (Int.fdiv labels (4 : Int)) (15 : Int))) = true ∧
 (decide (Go.bits BinOp.and IntKind.i64 (Int.fdiv labels (4 : Int)) (15 : Int) ≤ (15 : Int))) = true ∧
 (((decide ((1 : Int) ≤ Go.bits BinOp.and IntKind.i64 labels (3 : Int))) = true → (Go.AE.seqB data { data := #[] }) = false ∧
 (decide ((32 : Int) < (↑(ByteArray.size data) : Int))) = false ∧
 (decide ((0 : Int) ≤ Go.bits BinOp.and IntKind.i64 labels (3 : Int))) = true ∧
 (decide (Go.bits BinOp.and IntKind.i64 labels (3 : Int) ≤ (3 : Int))) = true ∧
 (decide ((0 : Int) ≤ Go.bits BinOp.and IntKind.i64 (Int.fdiv labels (4 : Int)) (15 : Int))) = true ∧
 (decide (Go.bits BinOp.and IntKind.i64 (Int.fdiv labels (4 : Int)) (15 : Int) ≤ (15 : Int))) = true ∧
 (decide ((1 : Int) ≤ Go.bits BinOp.and IntKind.i64 labels (3 : Int))) = true ∧
 Bool.true = Bool.true) ∧ ((decide ((1 : Int) ≤ Go.bits BinOp.and IntKind.i64 labels (3 : Int))) = false → (Go.AE.seqB data { data := #[] }) = false ∧
 (decide ((32 : Int) < (↑(ByteArray.size data) : Int))) = false ∧
 (decide ((0 : Int) ≤ Go.bits BinOp.and IntKind.i64 labels (3 : Int))) = true ∧
 (decide (Go.bits BinOp.and IntKind.i64 labels (3 : Int) ≤ (3 : Int))) = true ∧
 (decide ((0 : Int) ≤ Go.bits BinOp.and IntKind.i64 (Int.fdiv labels (4 : Int)) (15 : Int))) = true ∧
 (decide (Go.bits BinOp.and IntKind.i64 (Int.fdiv labels (4 : Int)) (15 : Int) ≤ (15 : Int))) = true ∧
 (decide ((1 : Int) ≤ Go.bits BinOp.and IntKind.i64 labels (3 : Int))) = false ∧
 Bool.true = Bool.true))))))) ∧ ((decide (Go.bits BinOp.and IntKind.i64 fill (32 : Int) = (32 : Int))) = false → (((Go.AE.seqB data { data := #[] }) = true → (Go.AE.seqB data { data := #[] }) = true ∧
 Bool.true = Bool.true) ∧ ((Go.AE.seqB data { data := #[] }) = false → (((decide ((32 : Int) < (↑(ByteArray.size data) : Int))) = true → (Go.AE.seqB data { data := #[] }) = false ∧
 (decide ((32 : Int) < (↑(ByteArray.size data) : Int))) = true ∧
 Bool.true = Bool.true) ∧ ((decide ((32 : Int) < (↑(ByteArray.size data) : Int))) = false → (decide ((0 : Int) ≤ Go.bits BinOp.and IntKind.i64 labels (3 : Int))) = true ∧
 (decide (Go.bits BinOp.and IntKind.i64 labels (3 : Int) ≤ (3 : Int))) = true ∧
 (decide ((0 : Int) ≤ Go.bits BinOp.and IntKind.i64 (Int.fdiv labels (4 : Int)) (15 : Int))) = true ∧
 (decide (Go.bits BinOp.and IntKind.i64 (Int.fdiv labels (4 : Int)) (15 : Int) ≤ (15 : Int))) = true ∧
 (((decide ((1 : Int) ≤ Go.bits BinOp.and IntKind.i64 labels (3 : Int))) = true → (Go.AE.seqB data { data := #[] }) = false ∧
 (decide ((32 : Int) < (↑(ByteArray.size data) : Int))) = false ∧
 (decide ((0 : Int) ≤ Go.bits BinOp.and IntKind.i64 labels (3 : Int))) = true ∧
 (decide (Go.bits BinOp.and IntKind.i64 labels (3 : Int) ≤ (3 : Int))) = true ∧
 (decide ((0 : Int) ≤ Go.bits BinOp.and IntKind.i64 (Int.fdiv labels (4 : Int)) (15 : Int))) = true ∧
 (decide (Go.bits BinOp.and IntKind.i64 (Int.fdiv labels (4 : Int)) (15 : Int) ≤ (15 : Int))) = true ∧
 (decide ((1 : Int) ≤ Go.bits BinOp.and IntKind.i64 labels (3 : Int))) = true ∧
 Bool.true = Bool.true) ∧ ((decide ((1 : Int) ≤ Go.bits BinOp.and IntKind.i64 labels (3 : Int))) = false → (Go.AE.seqB data { data := #[] }) = false ∧
 (decide ((32 : Int) < (↑(ByteArray.size data) : Int))) = false ∧
 (decide ((0 : Int) ≤ Go.bits BinOp.and IntKind.i64 labels (3 : Int))) = true ∧
 (decide (Go.bits BinOp.and IntKind.i64 labels (3 : Int) ≤ (3 : Int))) = true ∧
 (decide ((0 : Int) ≤ Go.bits BinOp.and IntKind.i64 (Int.fdiv labels (4 : Int)) (15 : Int))) = true ∧
 (decide (Go.bits BinOp.and IntKind.i64 (Int.fdiv labels (4 : Int)) (15 : Int) ≤ (15 : Int))) = true ∧
 (decide ((1 : Int) ≤ Go.bits BinOp.and IntKind.i64 labels (3 : Int))) = false ∧
 Bool.true = Bool.true))))))))))) ∧ ((decide ((2 : Int) < Go.bits BinOp.and IntKind.i64 fill (31 : Int))) = false → (((decide (Go.bits BinOp.and IntKind.i64 fill (32 : Int) = (32 : Int))) = true → (((Go.AE.seqB data { data := #[] }) = true → (Go.AE.seqB data { data := #[] }) = true ∧
 Bool.true = Bool.true) ∧ ((Go.AE.seqB data { data := #[] }) = false → (((decide ((32 : Int) < (↑(ByteArray.size data) : Int))) = true → (Go.AE.seqB data { data := #[] }) = false ∧
 (decide ((32 : Int) < (↑(ByteArray.size data) : Int))) = true ∧
 Bool.true = Bool.true) ∧ ((decide ((32 : Int) < (↑(ByteArray.size data) : Int))) = false → (decide ((0 : Int) ≤ Go.bits BinOp.and IntKind.i64 labels (3 : Int))) = true ∧
 (decide (Go.bits BinOp.and IntKind.i64 labels (3 : Int) ≤ (3 : Int))) = true ∧
 (decide ((0 : Int) ≤ Go.bits BinOp.and IntKind.i64 (Int.fdiv labels (4 : Int)) (15 : Int))) = true ∧
 (decide (Go.bits BinOp.and IntKind.i64 (Int.fdiv labels (4 : Int)) (15 : Int) ≤ (15 : Int))) = true ∧
 (((decide ((1 : Int) ≤ Go.bits BinOp.and IntKind.i64 labels (3 : Int))) = true → (Go.AE.seqB data { data := #[] }) = false ∧
 (decide ((32 : Int) < (↑(ByteArray.size data) : Int))) = false ∧
 (decide ((0 : Int) ≤ Go.bits BinOp.and IntKind.i64 labels (3 : Int))) = true ∧
 (decide (Go.bits BinOp.and IntKind.i64 labels (3 : Int) ≤ (3 : Int))) = true ∧
 (decide ((0 : Int) ≤ Go.bits BinOp.and IntKind.i64 (Int.fdiv labels (4 : Int)) (15 : Int))) = true ∧
 (decide (Go.bits BinOp.and IntKind.i64 (Int.fdiv labels (4 : Int)) (15 : Int) ≤ (15 : Int))) = true ∧
 (decide ((1 : Int) ≤ Go.bits BinOp.and IntKind.i64 labels (3 : Int))) = true ∧
 Bool.true = Bool.true) ∧ ((decide ((1 : Int) ≤ Go.bits BinOp.and IntKind.i64 labels (3 : Int))) = false → (Go.AE.seqB data { data := #[] }) = false ∧
 (decide ((32 : Int) < (↑(ByteArray.size data) : Int))) = false ∧
 (decide ((0 : Int) ≤ Go.bits BinOp.and IntKind.i64 labels (3 : Int))) = true ∧
 (decide (Go.bits BinOp.and IntKind.i64 labels (3 : Int) ≤ (3 : Int))) = true ∧
 (decide ((0 : Int) ≤ Go.bits BinOp.and IntKind.i64 (Int.fdiv labels (4 : Int)) (15 : Int))) = true ∧
 (decide (Go.bits BinOp.and IntKind.i64 (Int.fdiv labels (4 : Int)) (15 : Int) ≤ (15 : Int))) = true ∧
 (decide ((1 : Int) ≤ Go.bits BinOp.and IntKind.i64 labels (3 : Int))) = false ∧
 Bool.true = Bool.true))))))) ∧ ((decide (Go.bits BinOp.and IntKind.i64 fill (32 : Int) = (32 : Int))) = false → (((Go.AE.seqB data { data := #[] }) = true → (Go.AE.seqB data { data := #[] }) = true ∧
 Bool.true = Bool.true) ∧ ((Go.AE.seqB data { data := #[] }) = false → (((decide ((32 : Int) < (↑(ByteArray.size data) : Int))) = true → (Go.AE.seqB data { data := #[] }) = false ∧
 (decide ((32 : Int) < (↑(ByteArray.size data) : Int))) = true ∧
 Bool.true = Bool.true) ∧ ((decide ((32 : Int) < (↑(ByteArray.size data) : Int))) = false → (decide ((0 : Int) ≤ Go.bits BinOp.and IntKind.i64 labels (3 : Int))) = true ∧
 (decide (Go.bits BinOp.and IntKind.i64 labels (3 : Int) ≤ (3 : Int))) = true ∧
 (decide ((0 : Int) ≤ Go.bits BinOp.and IntKind.i64 (Int.fdiv labels (4 : Int)) (15 : Int))) = true ∧
 (decide (Go.bits BinOp.and IntKind.i64 (Int.fdiv labels (4 : Int)) (15 : Int) ≤ (15 : Int))) = true ∧
 (((decide ((1 : Int) ≤ Go.bits BinOp.and IntKind.i64 labels (3 : Int))) = true → (Go.AE.seqB data { data := #[] }) = false ∧
 (decide ((32 : Int) < (↑(ByteArray.size data) : Int))) = false ∧
 (decide ((0 : Int) ≤ Go.bits BinOp.and IntKind.i64 labels (3 : Int))) = true ∧
 (decide (Go.bits BinOp.and IntKind.i64 labels (3 : Int) ≤ (3 : Int))) = true ∧
 (decide ((0 : Int) ≤ Go.bits BinOp.and IntKind.i64 (Int.fdiv labels (4 : Int)) (15 : Int))) = true ∧
 (decide (Go.bits BinOp.and IntKind.i64 (Int.fdiv labels (4 : Int)) (15 : Int) ≤ (15 : Int))) = true ∧
 (decide ((1 : Int) ≤ Go.bits BinOp.and IntKind.i64 labels (3 : Int))) = true ∧
 Bool.true = Bool.true) ∧ ((decide ((1 : Int) ≤ Go.bits BinOp.and IntKind.i64 labels (3 : Int))) = false → (Go.AE.seqB data { data := #[] }) = false ∧
 (decide ((32 : Int) < (↑(ByteArray.size data) : Int))) = false ∧
 (decide ((0 : Int) ≤ Go.bits BinOp.and IntKind.i64 labels (3 : Int))) = true ∧
 (decide (Go.bits BinOp.and IntKind.i64 labels (3 : Int) ≤ (3 : Int))) = true ∧
 (decide ((0 : Int) ≤ Go.bits BinOp.and IntKind.i64 (Int.fdiv labels (4 : Int)) (15 : Int))) = true ∧
 (decide (Go.bits BinOp.and IntKind.i64 (Int.fdiv labels (4 : Int)) (15 : Int) ≤ (15 : Int))) = true ∧
 (decide ((1 : Int) ≤ Go.bits BinOp.and IntKind.i64 labels (3 : Int))) = false ∧
 Bool.true = Bool.true))))))))))) ∧ ((decide ((1 : Int) < Go.bits BinOp.and IntKind.i64 fill (31 : Int))) = false → (((decide (Go.bits BinOp.and IntKind.i64 fill (32 : Int) = (32 : Int))) = true → (((Go.AE.seqB data { data := #[] }) = true → (Go.AE.seqB data { data := #[] }) = true ∧
 Bool.true = Bool.true) ∧ ((Go.AE.seqB data { data := #[] }) = false → (((decide ((32 : Int) < (↑(ByteArray.size data) : Int))) = true → (Go.AE.seqB data { data := #[] }) = false ∧
 (decide ((32 : Int) < (↑(ByteArray.size data) : Int))) = true ∧
 Bool.true = Bool.true) ∧ ((decide ((32 : Int) < (↑(ByteArray.size data) : Int))) = false → (decide ((0 : Int) ≤ Go.bits BinOp.and IntKind.i64 labels (3 : Int))) = true ∧
 (decide (Go.bits BinOp.and IntKind.i64 labels (3 : Int) ≤ (3 : Int))) = true ∧
 (decide ((0 : Int) ≤ Go.bits BinOp.and IntKind.i64 (Int.fdiv labels (4 : Int)) (15 : Int))) = true ∧
 (decide (Go.bits BinOp.and IntKind.i64 (Int.fdiv labels (4 : Int)) (15 : Int) ≤ (15 : Int))) = true ∧
 (((decide ((1 : Int) ≤ Go.bits BinOp.and IntKind.i64 labels (3 : Int))) = true → (Go.AE.seqB data { data := #[] }) = false ∧
 (decide ((32 : Int) < (↑(ByteArray.size data) : Int))) = false ∧
 (decide ((0 : Int) ≤ Go.bits BinOp.and IntKind.i64 labels (3 : Int))) = true ∧
 (decide (Go.bits BinOp.and IntKind.i64 labels (3 : Int) ≤ (3 : Int))) = true ∧
 (decide ((0 : Int) ≤ Go.bits BinOp.and IntKind.i64 (Int.fdiv labels (4 : Int)) (15 : Int))) = true ∧
 (decide (Go.bits BinOp.and IntKind.i64 (Int.fdiv labels (4 : Int)) (15 : Int) ≤ (15 : Int))) = true ∧
 (decide ((1 : Int) ≤ Go.bits BinOp.and IntKind.i64 labels (3 : Int))) = true ∧
 Bool.true = Bool.true) ∧ ((decide ((1 : Int) ≤ Go.bits BinOp.and IntKind.i64 labels (3 : Int))) = false → (Go.AE.seqB data { data := #[] }) = false ∧
 (decide ((32 : Int) < (↑(ByteArray.size data) : Int))) = false ∧
 (decide ((0 : Int) ≤ Go.bits BinOp.and IntKind.i64 labels (3 : Int))) = true ∧
 (decide (Go.bits BinOp.and IntKind.i64 labels (3 : Int) ≤ (3 : Int))) = true ∧
 (decide ((0 : Int) ≤ Go.bits BinOp.and IntKind.i64 (Int.fdiv labels (4 : Int)) (15 : Int))) = true ∧
 (decide (Go.bits BinOp.and IntKind.i64 (Int.fdiv labels (4 : Int)) (15 : Int) ≤ (15 : Int))) = true ∧
 (decide ((1 : Int) ≤ Go.bits BinOp.and IntKind.i64 labels (3 : Int))) = false ∧
 Bool.true = Bool.true))))))) ∧ ((decide (Go.bits BinOp.and IntKind.i64 fill (32 : Int) = (32 : Int))) = false → (((Go.AE.seqB data { data := #[] }) = true → (Go.AE.seqB data { data := #[] }) = true ∧
 Bool.true = Bool.true) ∧ ((Go.AE.seqB data { data := #[] }) = false → (((decide ((32 : Int) < (↑(ByteArray.size data) : Int))) = true → (Go.AE.seqB data { data := #[] }) = false ∧
 (decide ((32 : Int) < (↑(ByteArray.size data) : Int))) = true ∧
 Bool.true = Bool.true) ∧ ((decide ((32 : Int) < (↑(ByteArray.size data) : Int))) = false → (decide ((0 : Int) ≤ Go.bits BinOp.and IntKind.i64 labels (3 : Int))) = true ∧
 (decide (Go.bits BinOp.and IntKind.i64 labels (3 : Int) ≤ (3 : Int))) = true ∧
 (decide ((0 : Int) ≤ Go.bits BinOp.and IntKind.i64 (Int.fdiv labels (4 : Int)) (15 : Int))) = true ∧
 (decide (Go.bits BinOp.and IntKind.i64 (Int.fdiv labels (4 : Int)) (15 : Int) ≤ (15 : Int))) = true ∧
 (((decide ((1 : Int) ≤ Go.bits BinOp.and IntKind.i64 labels (3 : Int))) = true → (Go.AE.seqB data { data := #[] }) = false ∧
 (decide ((32 : Int) < (↑(ByteArray.size data) : Int))) = false ∧
 (decide ((0 : Int) ≤ Go.bits BinOp.and IntKind.i64 labels (3 : Int))) = true ∧
 (decide (Go.bits BinOp.and IntKind.i64 labels (3 : Int) ≤ (3 : Int))) = true ∧
 (decide ((0 : Int) ≤ Go.bits BinOp.and IntKind.i64 (Int.fdiv labels (4 : Int)) (15 : Int))) = true ∧
 (decide (Go.bits BinOp.and IntKind.i64 (Int.fdiv labels (4 : Int)) (15 : Int) ≤ (15 : Int))) = true ∧
 (decide ((1 : Int) ≤ Go.bits BinOp.and IntKind.i64 labels (3 : Int))) = true ∧
 Bool.true = Bool.true) ∧ ((decide ((1 : Int) ≤ Go.bits BinOp.and IntKind.i64 labels (3 : Int))) = false → (Go.AE.seqB data { data := #[] }) = false ∧
 (decide ((32 : Int) < (↑(ByteArray.size data) : Int))) = false ∧
 (decide ((0 : Int) ≤ Go.bits BinOp.and IntKind.i64 labels (3 : Int))) = true ∧
 (decide (Go.bits BinOp.and IntKind.i64 labels (3 : Int) ≤ (3 : Int))) = true ∧
 (decide ((0 : Int) ≤ Go.bits BinOp.and IntKind.i64 (Int.fdiv labels (4 : Int)) (15 : Int))) = true ∧
 (decide (Go.bits BinOp.and IntKind.i64 (Int.fdiv labels (4 : Int)) (15 : Int) ≤ (15 : Int))) = true ∧
 (decide ((1 : Int) ≤ Go.bits BinOp.and IntKind.i64 labels (3 : Int))) = false ∧
 Bool.true = Bool.true))))))))))) ∧ ((decide ((0 : Int) < Go.bits BinOp.and IntKind.i64 fill (31 : Int))) = false → (((decide (Go.bits BinOp.and IntKind.i64 fill (32 : Int) = (32 : Int))) = true → (((Go.AE.seqB data { data := #[] }) = true → (Go.AE.seqB data { data := #[] }) = true ∧
 Bool.true = Bool.true) ∧ ((Go.AE.seqB data { data := #[] }) = false → (((decide ((32 : Int) < (↑(ByteArray.size data) : Int))) = true → (Go.AE.seqB data { data := #[] }) = false ∧
 (decide ((32 : Int) < (↑(ByteArray.size data) : Int))) = true ∧
 Bool.true = Bool.true) ∧ ((decide ((32 : Int) < (↑(ByteArray.size data) : Int))) = false → (decide ((0 : Int) ≤ Go.bits BinOp.and IntKind.i64 labels (3 : Int))) = true ∧
 (decide (Go.bits BinOp.and IntKind.i64 labels (3 : Int) ≤ (3 : Int))) = true ∧
 (decide ((0 : Int) ≤ Go.bits BinOp.and IntKind.i64 (Int.fdiv labels (4 : Int)) (15 : Int))) = true ∧
 (decide (Go.bits BinOp.and IntKind.i64 (Int.fdiv labels (4 : Int)) (15 : Int) ≤ (15 : Int))) = true ∧
 (((decide ((1 : Int) ≤ Go.bits BinOp.and IntKind.i64 labels (3 : Int))) = true → (Go.AE.seqB data { data := #[] }) = false ∧
 (decide ((32 : Int) < (↑(ByteArray.size data) : Int))) = false ∧
 (decide ((0 : Int) ≤ Go.bits BinOp.and IntKind.i64 labels (3 : Int))) = true ∧
 (decide (Go.bits BinOp.and IntKind.i64 labels (3 : Int) ≤ (3 : Int))) = true ∧
 (decide ((0 : Int) ≤ Go.bits BinOp.and IntKind.i64 (Int.fdiv labels (4 : Int)) (15 : Int))) = true ∧
 (decide (Go.bits BinOp.and IntKind.i64 (Int.fdiv labels (4 : Int)) (15 : Int) ≤ (15 : Int))) = true ∧
 (decide ((1 : Int) ≤ Go.bits BinOp.and IntKind.i64 labels (3 : Int))) = true ∧
 Bool.true = Bool.true) ∧ ((decide ((1 : Int) ≤ Go.bits BinOp.and IntKind.i64 labels (3 : Int))) = false → (Go.AE.seqB data { data := #[] }) = false ∧
 (decide ((32 : Int) < (↑(ByteArray.size data) : Int))) = false ∧
 (decide ((0 : Int) ≤ Go.bits BinOp.and IntKind.i64 labels (3 : Int))) = true ∧
 (decide (Go.bits BinOp.and IntKind.i64 labels (3 : Int) ≤ (3 : Int))) = true ∧
 (decide ((0 : Int) ≤ Go.bits BinOp.and IntKind.i64 (Int.fdiv labels (4 : Int)) (15 : Int))) = true ∧
 (decide (Go.bits BinOp.and IntKind.i64 (Int.fdiv labels (4 : Int)) (15 : Int) ≤ (15 : Int))) = true ∧
 (decide ((1 : Int) ≤ Go.bits BinOp.and IntKind.i64 labels (3 : Int))) = false ∧
 Bool.true = Bool.true))))))) ∧ ((decide (Go.bits BinOp.and IntKind.i64 fill (32 : Int) = (32 : Int))) = false → (((Go.AE.seqB data { data := #[] }) = true → (Go.AE.seqB data { data := #[] }) = true ∧
 Bool.true = Bool.true) ∧ ((Go.AE.seqB data { data := #[] }) = false → (((decide ((32 : Int) < (↑(ByteArray.size data) : Int))) = true → (Go.AE.seqB data { data := #[] }) = false ∧
 (decide ((32 : Int) < (↑(ByteArray.size data) : Int))) = true ∧
 Bool.true = Bool.true) ∧ ((decide ((32 : Int) < (↑(ByteArray.size data) : Int))) = false → (decide ((0 : Int) ≤ Go.bits BinOp.and IntKind.i64 labels (3 : Int))) = true ∧
 (decide (Go.bits BinOp.and IntKind.i64 labels (3 : Int) ≤ (3 : Int))) = true ∧
 (decide ((0 : Int) ≤ Go.bits BinOp.and IntKind.i64 (Int.fdiv labels (4 : Int)) (15 : Int))) = true ∧
 (decide (Go.bits BinOp.and IntKind.i64 (Int.fdiv labels (4 : Int)) (15 : Int) ≤ (15 : Int))) = true ∧
 (((decide ((1 : Int) ≤ Go.bits BinOp.and IntKind.i64 labels (3 : Int))) = true → (Go.AE.seqB data { data := #[] }) = false ∧
 (decide ((32 : Int) < (↑(ByteArray.size data) : Int))) = false ∧
 (decide ((0 : Int) ≤ Go.bits BinOp.and IntKind.i64 labels (3 : Int))) = true ∧
 (decide (Go.bits BinOp.and IntKind.i64 labels (3 : Int) ≤ (3 : Int))) = true ∧
 (decide ((0 : Int) ≤ Go.bits BinOp.and IntKind.i64 (Int.fdiv labels (4 : Int)) (15 : Int))) = true ∧
 (decide (Go.bits BinOp.and IntKind.i64 (Int.fdiv labels (4 : Int)) (15 : Int) ≤ (15 : Int))) = true ∧
 (decide ((1 : Int) ≤ Go.bits BinOp.and IntKind.i64 labels (3 : Int))) = true ∧
 Bool.true = Bool.true) ∧ ((decide ((1 : Int) ≤ Go.bits BinOp.and IntKind.i64 labels (3 : Int))) = false → (Go.AE.seqB data { data := #[] }) = false ∧
 (decide ((32 : Int) < (↑(ByteArray.size data) : Int))) = false ∧
 (decide ((0 : Int) ≤ Go.bits BinOp.and IntKind.i64 labels (3 : Int))) = true ∧
 (decide (Go.bits BinOp.and IntKind.i64 labels (3 : Int) ≤ (3 : Int))) = true ∧
 (decide ((0 : Int) ≤ Go.bits BinOp.and IntKind.i64 (Int.fdiv labels (4 : Int)) (15 : Int))) = true ∧
 (decide (Go.bits BinOp.and IntKind.i64 (Int.fdiv labels (4 : Int)) (15 : Int) ≤ (15 : Int))) = true ∧
 (decide ((1 : Int) ≤ Go.bits BinOp.and IntKind.i64 labels (3 : Int))) = false ∧
 Bool.true = Bool.true))))))))))) (by kernel_rfl) ?_⟩
  repeat' (first | (refine And.intro ?_ ?_) | (with_reducible intro hh; (try simp (disch := omega) only [decide_eq_true_eq, decide_eq_false_iff_not, Bool.and_eq_true, Bool.and_eq_false_imp, Bool.not_eq_true', Bool.not_eq_false', reduceCtorEq, or_false, or_true, Bool.or_eq_true, Bool.or_eq_false_iff, Int.not_lt, Int.not_le, beq_iff_eq, beq_eq_false_iff_ne, andNot_self, zero_andNot, mask1, mask3, mask7, mask15, mask31, mask63, mask127, mask255, mask511, mask1023, mask65535, fdiv_nn, i64_bits, wrap_id, Nat.zero_add, Nat.mul_one, Int.toNat_natCast] at hh)))
  all_goals (first | with_reducible rfl | trivial | (first | with_reducible assumption | (simp only [decide_eq_true_eq, decide_eq_false_iff_not, Bool.and_eq_true, Bool.and_eq_false_imp, Bool.not_eq_true', Bool.not_eq_false', reduceCtorEq, or_false, or_true, Bool.or_eq_true, Bool.or_eq_false_iff, Int.not_lt, Int.not_le, beq_iff_eq, beq_eq_false_iff_ne]; omega) | (simp (disch := omega) only [decide_eq_true_eq, decide_eq_false_iff_not, Bool.and_eq_true, Bool.and_eq_false_imp, Bool.not_eq_true', Bool.not_eq_false', reduceCtorEq, or_false, or_true, Bool.or_eq_true, Bool.or_eq_false_iff, Int.not_lt, Int.not_le, beq_iff_eq, beq_eq_false_iff_ne, andNot_self, zero_andNot, mask1, mask3, mask7, mask15, mask31, mask63, mask127, mask255, mask511, mask1023, mask65535, fdiv_nn, i64_bits, wrap_id, Nat.zero_add, Nat.mul_one, Int.toNat_natCast]; first | done | omega) | (simp (disch := omega) only [decide_eq_true_eq, decide_eq_false_iff_not, Bool.and_eq_true, Bool.and_eq_false_imp, Bool.not_eq_true', Bool.not_eq_false', reduceCtorEq, or_false, or_true, Bool.or_eq_true, Bool.or_eq_false_iff, Int.not_lt, Int.not_le, beq_iff_eq, beq_eq_false_iff_ne, andNot_self, zero_andNot, mask1, mask3, mask7, mask15, mask31, mask63, mask127, mask255, mask511, mask1023, mask65535, fdiv_nn, i64_bits, wrap_id, Nat.zero_add, Nat.mul_one, Int.toNat_natCast] at *; first | done | omega)) | trace_state)
theorem walk (fill : Int) (data : ByteArray) (labels : Int) (w : World) (w0 : (Lit.int .i64 fill).wf = true) (w1 : data.size ≤ maxLen) (w2 : (Lit.int .i64 labels).wf = true) : Calls Try.prog 6 #[.int .i64 fill, .string data, .int .i64 labels] w fun e w' => e = .returned (.bool true) ∧ Below w.heap.size w w' :=
  law_of [] (fun e h => by cases h) (VRs.cons (.int _ _) (VRs.cons (.str _) (VRs.cons (.int _ _) VRs.nil))) (scr_true pk okc (main fill labels data))
end Go.Proofs.Ytkekeomkbcghnaa.nicBlind