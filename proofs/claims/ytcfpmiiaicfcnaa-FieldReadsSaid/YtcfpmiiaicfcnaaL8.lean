import Derived.Test.YtcfpmiiaicfcnaaL1
import Derived.Test.YtcfpmiiaicfcnaaWk8
set_option linter.unusedVariables false
namespace Go.Vm
open Go

theorem F8_true {p0 p1 : List Int} (h0 : Dig 256 p0) (h1 : Dig 256 p1) : F8 p0 p1 = true := by
  unfold F8
  rw [F14_true, Bool.not_true, sel_false]
  cases hf : F15_4 p0 p1
  · rw [Bool.not_false, sel_true, read_ok, read_ok]
    have e : ∀ n : Nat, (decide (n = 32) == (((n : Nat) : Int) == 32)) = true := by
      intro n
      by_cases h : n = 32
      · subst h; rfl
      · rw [decide_eq_false h]
        have : (((n : Nat) : Int) == 32) = false := beq_eq_false_iff_ne.2 (by omega)
        rw [this]; rfl
    rw [e, e, sel_true]
  rw [Bool.not_true, sel_false]
  obtain ⟨a, b, c, d⟩ := two_vals h0 h1 hf
  rw [like_val a c rfl, sel_true, like_val b d rfl, sel_true, a.same b, c.beq d, beq_self_eq_true, sel_true, a.odd]
  have hc := c.num
  have h2 := getD_num (B := 65536) (by decide) (i := 0) c.dig
  rw [hc, Int.pow_zero, Int.ediv_one] at h2
  have hb := c.at 0
  have : iRem ((F15_2 p0 p1).getD 0 0) 2 = num 256 p0 % 57896044618658097711785492504343953926634992332820282019728792003956564819968 % PP % 2 := by
    unfold iRem
    rw [Int.tmod_eq_emod_of_nonneg hb.1, h2]
    generalize num 256 p0 % 57896044618658097711785492504343953926634992332820282019728792003956564819968 % PP = y
    omega
  rw [this]
  have hq : ∀ x : Int, (decide (x = 1) == (x == 1)) = true := fun x => by
    by_cases h : x = 1
    · subst h; rfl
    · rw [decide_eq_false h, beq_eq_false_iff_ne.2 h]; rfl
  rw [hq, sel_true, pick_val a.1 b.1, pick_val a.1 b.1]
  show sel (F22 (F15 p0 p1) (F15_2 p0 p1)) (F22 (F15_1 p0 p1) (F15_3 p0 p1)) false = true
  rw [like_val a c rfl, sel_true, like_val b d rfl]

end Go.Vm
