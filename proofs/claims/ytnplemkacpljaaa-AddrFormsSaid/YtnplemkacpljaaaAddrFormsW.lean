/- The walk of caissonlaw1.AddrForms: for every two numbers it answers true. No condition. -/
import Derived.Test.YtnplemkacpljaaaAddrMay
import Derived.Test.YtnplemkacpljaaaNum
import Derived.Test.YtnplemkacpljaaaBits
import Derived.Test.YtnplemkacpljaaaPAddrFormsx2
namespace Go.Proofs.Ytnplemkacpljaaa.addrForms
open Go.RowKit
set_option linter.unusedVariables false
theorem awake_any (w : World) : Calls Try.prog 15 #[] w fun e w' => e = .returned (.bool true) ∧ Below w.heap.size w w' :=
  PAddrForms.caissonlaw1_awake.calls 200 true w (by decide +kernel)

end Go.Proofs.Ytnplemkacpljaaa.addrForms

