/- A channel that is open at both ends. -/
import Derived.Test.YtfkmfdjdppjijaaPd5
set_option linter.unusedVariables false
namespace Go.Vm
open Go
def chA : Ch := ({server := false, state := 2, peer := 0, window := 4096, most := 512, room := 4096, wait := [], got := [], ready := true, e0 := false, e1 := false, c0 := false, c1 := false, out := []} : Ch)
def chB : Ch := ({server := true, state := 2, peer := 0, window := 4096, most := 512, room := 4096, wait := [], got := [], ready := true, e0 := false, e1 := false, c0 := false, c1 := false, out := []} : Ch)
theorem fit_end : itr Fcfitl0 4 ((FcBegin_1 (FcNew false)), (FcNew true)) = (chA, chB) := by kernel_rfl
theorem chA_ok : chOk 0 chA := chOk_of (by kernel_rfl)
theorem chB_ok : chOk 0 chB := chOk_of (by kernel_rfl)
end Go.Vm
