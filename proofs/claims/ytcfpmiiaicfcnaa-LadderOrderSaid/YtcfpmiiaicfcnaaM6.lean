import Derived.Test.YtcfpmiiaicfcnaaWkB
import Derived.Test.YtcfpmiiaicfcnaaM4
set_option linter.unusedVariables false
namespace Go.Vm
open Go
def nx (h l r : Int) : Int := iOr .u64 (iShl .u64 (iAdd .u64 h (add64c l r 0)) 13) (iShr .u64 (add64 l r 0) 51)
def lo (l r : Int) : Int := iAnd .u64 (add64 l r 0) 2251799813685247
theorem F20_eq {x y : List Int} {h0 l0 h1 l1 h2 l2 h3 l3 h4 l4 : Int} (h : itr (F20l0 x y) 5 [0, 0, 0, 0, 0, 0, 0, 0, 0, 0] = [h0, l0, h1, l1, h2, l2, h3, l3, h4, l4]) :
    F20 x y =
      let r1 := nx h0 l0 0
      let r2 := nx h1 l1 r1
      let r3 := nx h2 l2 r2
      let r4 := nx h3 l3 r3
      let r5 := nx h4 l4 r4
      F45 [iAdd .u64 (lo l0 0) (iMul .u64 19 r5), lo l1 r1, lo l2 r2, lo l3 r3, lo l4 r4] := by
  unfold F20 F20l2
  rw [h]
  show F45 _ = F45 _
  congr 1
  kernel_rfl
end Go.Vm
