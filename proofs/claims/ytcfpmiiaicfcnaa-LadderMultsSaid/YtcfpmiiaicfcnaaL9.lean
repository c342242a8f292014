import Derived.Test.YtcfpmiiaicfcnaaC7
import Derived.Test.YtcfpmiiaicfcnaaWk9
set_option linter.unusedVariables false
set_option linter.unusedSimpArgs false
namespace Go.Vm
open Go

theorem F9_true {p0 p1 : List Int} (h0 : Dig 256 p0) (h1 : Dig 256 p1) : F9 p0 p1 = true := by
  unfold F9
  rw [F37_true, Bool.not_true, sel_false]
  have bad : ¬ (p0.length = 32 ∧ p1.length = 32) → sel (((F38 p0 p1) : Int) == 2) (((((F38n0 p0 p1) : Nat) : Int) : Int) == 0) false = true := by
    intro h
    obtain ⟨h1, h2, h3⟩ := F38_bad h
    rw [h1, h2]
    exact sel_true _ _
  by_cases l0 : p0.length = 32
  rotate_left
  · rw [len_ne32 l0, sel_true]; exact bad fun h => l0 h.1
  by_cases l1 : p1.length = 32
  rotate_left
  · rw [len_eq32 l0, len_ne32 l1, sel_false, sel_true]; exact bad fun h => l1 h.2
  rw [len_eq32 l0, len_eq32 l1, sel_false, sel_false, (F38_ok l0 l1).1, (F38_ok l0 l1).2, F38_val h0 l0 h1 l1, F39_val h0 l0 h1 l1, F39_n h0 l0 h1 l1, strEq_refl]
  exact sel_true _ _
end Go.Vm
