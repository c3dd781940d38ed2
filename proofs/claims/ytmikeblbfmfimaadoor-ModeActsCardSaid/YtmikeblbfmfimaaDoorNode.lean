/- crew.Node. -/
import Derived.Test.YtmikeblbfmfimaaDoorProg
import Derived.Test.YtmikeblbfmfimaaDoorLib
import Derived.Test.YtmikeblbfmfimaaDoorBits
import Derived.BigQuiet
import Derived.Deep.QuietTactic
namespace Go.Proofs.YtmikeblbfmfimaaDoor
open Go.RowKit

theorem node_any (n : Int) (w : World) : Calls Tryd.prog 76 #[.int .i64 n] w fun e w' => e = .returned (.bool (nodeB n)) ∧ w = w' := by
  go_enter Tryd.func76, Tryd.ntmps76
  go_wp2
  all_goals (go_ret; exact ⟨ret_bool (by simp [nodeB]; try omega), rfl⟩)

end Go.Proofs.YtmikeblbfmfimaaDoor
