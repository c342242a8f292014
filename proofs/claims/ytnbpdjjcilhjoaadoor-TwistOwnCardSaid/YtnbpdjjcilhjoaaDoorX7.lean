/- What becomes of a seed, a message or a signature plays no part. -/
import Derived.Test.YtnbpdjjcilhjoaaDoorPf
import Derived.Test.YtnbpdjjcilhjoaaDoorL7
set_option linter.unusedVariables false
set_option linter.unusedSimpArgs false
namespace Go.Vm
open Go Tabn

theorem part_some {xs : List Int} {m n : Nat} (h : xs.length = m) : part1 xs m 0 n = xs.take n := by rw [part1_eq h, List.drop_zero]
theorem own5_true {p0 p1 : List Int} {p2 : Int} (h0 : Dig 256 p0) (h1 : Dig 256 p1) : FT7 p0 p1 p2 = true := by
  unfold FT7
  rw [fit8]
  cases h : ((((p0.length : Nat) : Int) : Int) != 32)
  · cases h2 : decide ((((p1.length : Nat) : Int) : Int) > 300)
    · have l0 : p0.length = 32 := by
        have := ne_false_i h
        omega
      have l1 := of_decide_eq_false h2
      obtain ⟨⟨n1, n2⟩, m1, m2⟩ := own7 p2
      revert n1 n2 m1 m2
      generalize iQuo .i64 (iRem (iAdd .i64 (iRem p2 64) 64) 64) 2 = m
      generalize iRem (iAdd .i64 (iRem p2 64) 64) 64 = n
      intro n1 n2 m1 m2
      have e3 : (p0.drop 0).take p0.length = p0 := by rw [List.drop_zero, List.take_of_length_le (by omega)]
      have e4 : (p1.drop 0).take p1.length = p1 := by rw [List.drop_zero, List.take_of_length_le (by omega)]
      rw [part1_all rfl, part1_all rfl, e3, e4, strEq_refl, strEq_refl, pub9 h0 l0, sig10 h0 l0 h1 (by omega), part1_all (encL_len _), part1_all (sigL_len _ _), part_some (sigL_len _ _), part_some (encL_len _),
        sig_taken h1 (by omega), no13 (encL_dig _) (.inl (by rw [List.length_take, sigL_len]; omega)), no13 (dig_take (encL_dig _) _) (.inr (fun A e => by
          have := congrArg List.length e
          rw [List.length_take, encL_len, encL_len] at this
          omega)), pub11, strEq_refl]
      rfl
    · rfl
  · rfl
end Go.Vm
