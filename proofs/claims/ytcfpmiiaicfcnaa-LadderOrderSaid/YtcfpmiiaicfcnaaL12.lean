import Derived.Test.YtcfpmiiaicfcnaaC7
import Derived.Test.YtcfpmiiaicfcnaaWk12
set_option linter.unusedVariables false
set_option linter.unusedSimpArgs false
namespace Go.Vm
open Go

theorem F12_true {p0 p1 p2 : List Int} (h0 : Dig 256 p0) (h1 : Dig 256 p1) (h2 : Dig 256 p2) : F12 p0 p1 p2 = true := by
  unfold F12
  rw [F37_true, Bool.not_true, sel_false]
  by_cases l0 : p0.length = 32
  rotate_left
  · rw [len_ne32 l0, sel_true]
  by_cases l1 : p1.length = 32
  rotate_left
  · rw [len_eq32 l0, len_ne32 l1, sel_false, sel_true]
  by_cases l2 : p2.length = 32
  rotate_left
  · rw [len_eq32 l0, len_eq32 l1, len_ne32 l2, sel_false, sel_false, sel_true]
  rw [len_eq32 l0, len_eq32 l1, len_eq32 l2, sel_false, sel_false, sel_false]
  rw [(F38_ok l0 l2).2, (F38_ok l1 l2).2, F38_val h0 l0 h2 l2, F38_val h1 l1 h2 l2, part_eq _ (mult_len _ _), part_eq _ (mult_len _ _)]
  rw [(F38_ok l1 (mult_len p0 p2)).2, (F38_ok l0 (mult_len p1 p2)).2, F38_val h1 l1 (mult_dig _ _) (mult_len _ _), F38_val h0 l0 (mult_dig _ _) (mult_len _ _), mult_swap h0 l0 h1 l1, strEq_refl]
  exact sel_true _ _
end Go.Vm
