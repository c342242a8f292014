import Derived.Test.YtcfpmiiaicfcnaaP1
import Derived.Test.YtcfpmiiaicfcnaaWk7
set_option linter.unusedVariables false
namespace Go.Vm
open Go

theorem F7_true {p0 : List Int} (h0 : Dig 256 p0) : F7 p0 = true := by
  unfold F7
  rw [F14_true, Bool.not_true, sel_false, read_ok]
  by_cases hl : p0.length = 32
  rotate_left
  · rw [decide_eq_false hl, Bool.not_false, sel_true]
  rw [decide_eq_true hl, Bool.not_true, sel_false]
  have hx := read_val h0 hl
  have hr := R_read h0 hl
  generalize F23 p0 = x at *
  generalize F24 p0 = d at *
  generalize num 256 p0 % 57896044618658097711785492504343953926634992332820282019728792003956564819968 = v at *
  obtain ⟨g1, g2⟩ := E_root hx
  have hw := E_mul hx hx
  obtain ⟨k1, k2⟩ := E_root hw
  rw [decide_eq_true (root_sq v)] at k2
  rw [R_root hr, ← g2, beq_self_eq_true, sel_true]
  have tail : (sel (F34_1 (F20 x x)) (sel (F29 (F34 (F20 x x)) x) true (F29 (F34 (F20 x x)) (F18 (F30 0) x))) false) = true := by
    rw [k2, sel_true, k1.same hx, k1.same (E_sub (E_small (n := 0) (by decide)) hx)]
    rcases sq_same (root_sq v) with h | h
    · rw [decide_eq_true h, sel_true]
    · rw [decide_eq_true h]
      generalize decide (rootV (v * v) % PP = v % PP) = t
      cases t
      · rw [sel_false]
      · rw [sel_true]
  rw [tail]
  by_cases h : rootV v * rootV v % PP = v % PP
  · rw [g2, decide_eq_true h, Bool.not_true, sel_false, (E_mul g1 g1).same hx, decide_eq_true h, sel_true]
  · rw [g2, decide_eq_false h, Bool.not_false, sel_true]
end Go.Vm
