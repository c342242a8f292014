/- An end that is none does nothing. -/
import Derived.Test.YtfkmfdjdppjijaaPd2
import Derived.Test.YtfkmfdjdppjijaaWk9
namespace Go.Vm
open Go
theorem none_true (p0 : List Int) : FcNone p0 = true := by
  unfold FcNone
  rw [cfit_true]
  exact Eq.trans (sel_false _ _) rfl
end Go.Vm
