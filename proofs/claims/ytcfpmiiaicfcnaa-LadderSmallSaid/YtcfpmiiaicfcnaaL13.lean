import Derived.Test.YtcfpmiiaicfcnaaC7
import Derived.Test.YtcfpmiiaicfcnaaWk13
set_option linter.unusedVariables false
set_option linter.unusedSimpArgs false
namespace Go.Vm
open Go

theorem iRem_nn {x : Int} (m : Int) (h : 0 ≤ x) : iRem x m = x % m := Int.tmod_eq_emod_of_nonneg h

theorem F13_true {p0 : List Int} {p1 : Int} (h0 : Dig 256 p0) (h1 : -9223372036854775808 ≤ p1 ∧ p1 ≤ 9223372036854775807) : F13 p0 p1 = true := by
  unfold F13
  rw [F37_true, Bool.not_true, sel_false]
  have hr : -2 < iRem p1 2 ∧ iRem p1 2 < 2 := by
    unfold iRem
    have := Int.tmod_lt_of_pos p1 (show (0 : Int) < 2 by decide)
    have h2 := Int.lt_tmod_of_pos p1 (show (0 : Int) < 2 by decide)
    omega
  rw [iAdd_i64 (x := iRem p1 2) (y := 2) (by omega) (by omega), iRem_nn 2 (show 0 ≤ iRem p1 2 + 2 by omega)]
  have hn : (iRem p1 2 + 2) % 2 = 0 ∨ (iRem p1 2 + 2) % 2 = 1 := by omega
  generalize (iRem p1 2 + 2) % 2 = n at *
  have w1 : IntKind.wrap .u8 n = n := by rw [wrap_u8]; omega
  rw [w1]
  have pe : part1 ((List.replicate 32 0).set 0 n) 32 0 32 = (List.replicate 32 0).set 0 n := part_eq _ rfl
  rw [pe]
  have hu : Dig 256 ((List.replicate 32 0).set 0 n) := dig_set (Dig.zeros (by decide) 32) (by omega)
  have lu : ((List.replicate 32 (0 : Int)).set 0 n).length = 32 := by simp
  by_cases l0 : p0.length = 32
  rotate_left
  · rw [len_ne32 l0, sel_true, (F41_bad fun h => l0 h.1).1]; rfl
  rw [len_eq32 l0, sel_false]
  have hz : Tabn.Um (trimN p0) (uOf ((List.replicate 32 0).set 0 n)) = 0 := by
    obtain ⟨k1, k2, k3⟩ := trimN_bd h0 l0
    rcases hn with rfl | rfl
    · have e : uOf ((List.replicate 32 0).set 0 0) = 0 := by
        unfold uOf
        have e : num 256 ((List.replicate 32 (0 : Int)).set 0 0) % 57896044618658097711785492504343953926634992332820282019728792003956564819968 = 0 := by kernel_rfl
        rw [e]; decide
      rw [e, Tabn.Um_zero]
    · have e : uOf ((List.replicate 32 0).set 0 1) = 1 := by
        unfold uOf
        have e : num 256 ((List.replicate 32 (0 : Int)).set 0 1) % 57896044618658097711785492504343953926634992332820282019728792003956564819968 = 1 := by kernel_rfl
        rw [e]; decide
      rw [e, Tabn.Um_one _ k1 k3]
  generalize (List.replicate 32 0).set 0 n = u at *
  obtain ⟨f1, f2⟩ := F38_ok l0 lu
  obtain ⟨g1, g2, g3⟩ := F41_zero h0 l0 hu lu hz
  rw [f1, f2, F38_val h0 l0 hu lu, g1, g2, mult_zero hz, strEq_refl]
  have e0 : (((0 : Int) : Int) == 0) = true := rfl
  have e3 : (((3 : Int) : Int) == 3) = true := rfl
  rw [e0, sel_true, sel_true, e3, sel_true]
  rfl
end Go.Vm
