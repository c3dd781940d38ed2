/- crew.Node. -/
import Derived.Test.YtlpgafpmhihneaaDoorProg
import Derived.Test.YtlpgafpmhihneaaDoorLib
import Derived.Test.YtlpgafpmhihneaaDoorBits
import Derived.BigQuiet
import Derived.Deep.QuietTactic
namespace Go.Proofs.YtlpgafpmhihneaaDoor
open Go.RowKit

theorem node_any (n : Int) (w : World) : Calls Tryd.prog 50 #[.int .i64 n] w fun e w' => e = .returned (.bool (nodeB n)) ∧ w = w' := by
  go_enter Tryd.func50, Tryd.ntmps50
  go_wp2
  all_goals (go_ret; exact ⟨ret_bool (by simp [nodeB]; try omega), rfl⟩)

end Go.Proofs.YtlpgafpmhihneaaDoor
