/- Any keys and signatures are taken, or refused, as the reference has it. -/
import Derived.Test.YtnbpdjjcilhjoaaDoorPf
import Derived.Test.YtnbpdjjcilhjoaaDoorL5
set_option linter.unusedVariables false
set_option linter.unusedSimpArgs false
namespace Go.Vm
open Go Tabn

theorem verifies_true {p0 p1 p2 : List Int} (h0 : Dig 256 p0) (h1 : Dig 256 p1) (h2 : Dig 256 p2) : FT5 p0 p1 p2 = true := by
  unfold FT5
  rw [fit8]
  cases h : decide ((((p1.length : Nat) : Int) : Int) > 300)
  · have l1 := of_decide_eq_false h
    rw [same1314 h0 h1 h2 (by omega)]
    cases FT14 p0 p1 p2 <;> rfl
  · rfl
end Go.Vm
