/- Keys and signatures are the reference's. -/
import Derived.Test.YtnbpdjjcilhjoaaDoorPf
import Derived.Test.YtnbpdjjcilhjoaaDoorL3
set_option linter.unusedVariables false
set_option linter.unusedSimpArgs false
namespace Go.Vm
open Go Tabn

theorem signs_true {p0 p1 : List Int} (h0 : Dig 256 p0) (h1 : Dig 256 p1) : FT3 p0 p1 = true := by
  unfold FT3
  rw [fit8]
  cases h2 : decide ((((p1.length : Nat) : Int) : Int) > 300)
  · have l1 := of_decide_eq_false h2
    cases h : ((((p0.length : Nat) : Int) : Int) != 32)
    · have l0 : p0.length = 32 := by
        have := ne_false_i h
        omega
      rw [(FT10_ok (p1 := p1) l0).2, (FT10_ok (p1 := p1) l0).1, (FT9_ok l0).1, (FT9_ok l0).2, pub9 h0 l0, sig10 h0 l0 h1 (by omega), pub11, sig12 h1, strEq_refl]
      have e1 : strEq (bytesOf (((sigL p0 p1).drop 0).take 64)) (bytesOf (((sigL p0 p1).drop 0).take 64)) = true := strEq_refl _
      rw [e1]
      rfl
    · have e9 : FT9 p0 = 2 := by unfold FT9; rw [h, sel_true]
      have en : FT9n0 p0 = 0 := by unfold FT9n0; rw [h, sel_true]
      have e10 : FT10 p0 p1 = 2 := by unfold FT10; rw [e9]; rfl
      rw [e10, e9, en]
      rfl
  · rfl
end Go.Vm
