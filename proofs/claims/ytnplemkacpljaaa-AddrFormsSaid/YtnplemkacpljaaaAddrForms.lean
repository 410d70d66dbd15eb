/- The walk of caissonlaw1.AddrForms: for every two numbers it answers true. No condition. -/
import Derived.Test.YtnplemkacpljaaaAddrMay
import Derived.Test.YtnplemkacpljaaaNum
import Derived.Test.YtnplemkacpljaaaBits
import Derived.Test.YtnplemkacpljaaaAddrFormsA
import Derived.Test.YtnplemkacpljaaaAddrFormsB
import Derived.Test.YtnplemkacpljaaaAddrFormsC
namespace Go.Proofs.Ytnplemkacpljaaa.addrForms
open Go.RowKit
set_option linter.unusedVariables false
theorem walk (which x : Int) (w : World) (_ : (Lit.int .i64 which).wf = true) (_ : (Lit.int .i64 x).wf = true) :
    Calls Try.prog 5 #[.int .i64 which, .int .i64 x] w fun e w' => e = .returned (.bool true) ∧ Below w.heap.size w w' := by
  have hu : 0 ≤ IntKind.u64.wrap which := by rw [IntKind.wrap_u64]; omega
  have ht : (IntKind.u64.wrap which).tmod 9 = IntKind.u64.wrap which % 9 := Int.tmod_eq_emod_of_nonneg hu
  have hd := mask1048575 x
  have h0 : 0 ≤ x % 1048576 := by omega
  have h1 : x % 1048576 ≤ 1048575 := by omega
  have c : (IntKind.u64.wrap which).tmod 9 = 0 ∨ (IntKind.u64.wrap which).tmod 9 = 1 ∨ (IntKind.u64.wrap which).tmod 9 = 2 ∨ (IntKind.u64.wrap which).tmod 9 = 3 ∨ (IntKind.u64.wrap which).tmod 9 = 4 ∨ (IntKind.u64.wrap which).tmod 9 = 5 ∨ (IntKind.u64.wrap which).tmod 9 = 6 ∨ (IntKind.u64.wrap which).tmod 9 = 7 ∨ (IntKind.u64.wrap which).tmod 9 = 8 := by omega
  rcases c with c | c | c | c | c | c | c | c | c
  · exact walk0 which x _ w hd h0 h1 c
  · exact walk1 which x _ w hd h0 h1 c
  · exact walk2 which x _ w hd h0 h1 c
  · exact walk3 which x _ w hd h0 h1 c
  · exact walk4 which x _ w hd h0 h1 c
  · exact walk5 which x _ w hd h0 h1 c
  · exact walk6 which x _ w hd h0 h1 c
  · exact walk7 which x _ w hd h0 h1 c
  · exact walk8 which x _ w hd h0 h1 c
end Go.Proofs.Ytnplemkacpljaaa.addrForms

