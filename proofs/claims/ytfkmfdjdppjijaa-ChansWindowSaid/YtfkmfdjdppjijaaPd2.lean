/- The first look holds. -/
import Derived.Test.YtfkmfdjdppjijaaWk8
namespace Go.Vm
open Go
theorem cfit_true : Fcfit = true := by kernel_rfl
end Go.Vm
