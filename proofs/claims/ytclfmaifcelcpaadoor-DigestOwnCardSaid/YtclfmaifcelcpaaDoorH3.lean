/- The few letters of the hashes' first look. -/
import Derived.Test.YtclfmaifcelcpaaDoorDgD
set_option maxRecDepth 100000
namespace Go.Vm
open Go
theorem fit33 : F33 = true := by kernel_rfl
end Go.Vm
