/- crew.Node. -/
import Derived.Test.YtbfocagicagehaaDoorProg
import Derived.Test.YtbfocagicagehaaDoorLib
import Derived.Test.YtbfocagicagehaaDoorBits
import Derived.BigQuiet
import Derived.Deep.QuietTactic
namespace Go.Proofs.YtbfocagicagehaaDoor
open Go.RowKit

theorem node_any (n : Int) (w : World) : Calls Tryd.prog 29 #[.int .i64 n] w fun e w' => e = .returned (.bool (nodeB n)) ∧ w = w' := by
  go_enter Tryd.func29, Tryd.ntmps29
  go_wp2
  all_goals (go_ret; exact ⟨ret_bool (by simp [nodeB]; try omega), rfl⟩)

end Go.Proofs.YtbfocagicagehaaDoor
