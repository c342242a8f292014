import Derived.Test.YtcfpmiiaicfcnaaL1
import Derived.Test.YtcfpmiiaicfcnaaWk4
set_option linter.unusedVariables false
namespace Go.Vm
open Go

theorem F4_true {p0 p1 : List Int} (h0 : Dig 256 p0) (h1 : Dig 256 p1) : F4 p0 p1 = true := by
  unfold F4
  rw [F14_true, Bool.not_true, sel_false, read_ok]
  by_cases hl : p0.length = 32
  rotate_left
  · rw [decide_eq_false hl, Bool.not_false, sel_true]
  rw [decide_eq_true hl, Bool.not_true, sel_false]
  generalize decide ((((p1.length : Nat) : Int) : Int) > 100) = t
  cases t
  rotate_left
  · rw [sel_true]
  rw [sel_false]
  have hx := read_val h0 hl
  have hr := R_read h0 hl
  obtain ⟨N, hN, _⟩ := num_nat h1
  generalize num 256 p0 % 57896044618658097711785492504343953926634992332820282019728792003956564819968 = v at *
  rw [like_val (pow_val hx h1 hN) (R_pow hr h1 hN) rfl, sel_true, like_val (E_inv hx) (R_inv hr) rfl, sel_true]
  by_cases hv : v % PP = 0
  · have e : v * v ^ eInv % PP = 0 % PP := by rw [Int.mul_emod, hv, Int.zero_mul]
    rw [hx.same (E_small (n := 0) (by decide)), decide_eq_true (show v % PP = 0 % PP from hv), sel_true, (E_mul hx (E_inv hx)).same (E_small (n := 0) (by decide)), decide_eq_true e]
    generalize F29 (F20 (F23 p0) (F25 (F23 p0))) (F30 1) = t
    cases t
    · rw [sel_false]
    · rw [sel_true]
  · have := inv_one hv
    rw [(E_mul hx (E_inv hx)).same (E_small (n := 1) (by decide)), decide_eq_true (show v * v ^ eInv % PP = 1 % PP from by rw [Int.mul_comm, this]; rfl), sel_true]
end Go.Vm
