/- caissonlaw0.Num answers the error's number. No condition. -/
import Derived.Test.YtjhaoimfgepkgaaKit
namespace Go.Proofs.Ytjhaoimfgepkgaa
open Go.RowKit
theorem num_any (x : Int) (w : World) :
    Calls Try.prog 9 #[.int .i64 x] w fun e w' => e = .returned (.int .i64 x) ∧ w = w' := by
  go_enter Try.func9, Try.ntmps9
  go_wp2
  all_goals go_returns
  all_goals exact ⟨rfl, rfl⟩

end Go.Proofs.Ytjhaoimfgepkgaa
