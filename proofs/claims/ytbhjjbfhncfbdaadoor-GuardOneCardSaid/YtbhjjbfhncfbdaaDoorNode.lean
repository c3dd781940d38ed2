/- crew.Node. -/
import Derived.Test.YtbhjjbfhncfbdaaDoorProg
import Derived.Test.YtbhjjbfhncfbdaaDoorLib
import Derived.Test.YtbhjjbfhncfbdaaDoorBits
import Derived.BigQuiet
import Derived.Deep.QuietTactic
namespace Go.Proofs.YtbhjjbfhncfbdaaDoor
open Go.RowKit

theorem node_any (n : Int) (w : World) : Calls Tryd.prog 44 #[.int .i64 n] w fun e w' => e = .returned (.bool (nodeB n)) ∧ w = w' := by
  go_enter Tryd.func44, Tryd.ntmps44
  go_wp2
  all_goals (go_ret; exact ⟨ret_bool (by simp [nodeB]; try omega), rfl⟩)

end Go.Proofs.YtbhjjbfhncfbdaaDoor
