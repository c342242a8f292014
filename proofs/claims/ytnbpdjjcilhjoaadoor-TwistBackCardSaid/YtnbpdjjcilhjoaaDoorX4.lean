/- What is signed is taken, whenever it is signed. -/
import Derived.Test.YtnbpdjjcilhjoaaDoorPf
import Derived.Test.YtnbpdjjcilhjoaaDoorL4
set_option linter.unusedVariables false
set_option linter.unusedSimpArgs false
namespace Go.Vm
open Go Tabn

theorem len_is {p : List Int} (h : ((((p.length : Nat) : Int) : Int) != 32) = false) : p.length = 32 := by
  have := ne_false_i h
  omega
theorem back_true {p0 p1 : List Int} (h0 : Dig 256 p0) (h1 : Dig 256 p1) : FT4 p0 p1 = true := by
  unfold FT4
  rw [fit8]
  cases h : ((((p0.length : Nat) : Int) : Int) != 32)
  · cases h2 : decide ((((p1.length : Nat) : Int) : Int) > 300)
    · have l0 := len_is h
      have l1 := of_decide_eq_false h2
      rw [part1_all rfl, part1_all rfl, pub9 h0 l0, sig10 h0 l0 h1 (by omega), part1_all (encL_len _), part1_all (sigL_len _ _), sig_taken h1 (by omega), strEq_refl]
      rfl
    · rfl
  · rfl
end Go.Vm
