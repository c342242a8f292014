import Derived.Test.YtcfpmiiaicfcnaaL1
import Derived.Test.YtcfpmiiaicfcnaaWk5
set_option linter.unusedVariables false
namespace Go.Vm
open Go

theorem dig_sub {B : Int} {xs : List Int} (h : Dig B xs) (a b : Nat) : Dig B ((xs.drop a).take b) := fun x hx => h x (List.mem_of_mem_drop (List.mem_of_mem_take hx))

theorem F5_true {p0 : List Int} {p1 : Int} (h0 : Dig 256 p0) (hl : p0.length = 96) (h1 : 0 ≤ p1 ∧ p1 < 4294967296) : F5 p0 p1 = true := by
  unfold F5
  rw [F14_true, Bool.not_true, sel_false]
  have rd : ∀ o, o ≤ 64 → ∃ v, E (F23 (part1 p0 96 o 32)) v := by
    intro o ho
    rw [part1_eq hl]
    exact ⟨_, read_val (dig_sub h0 _ _) (by rw [List.length_take, List.length_drop]; omega)⟩
  obtain ⟨u, hu⟩ := rd 0 (by decide)
  obtain ⟨v, hv⟩ := rd 32 (by decide)
  obtain ⟨w, hw⟩ := rd 64 (by decide)
  generalize F23 (part1 p0 96 0 32) = a at *
  generalize F23 (part1 p0 96 32 32) = b at *
  generalize F23 (part1 p0 96 64 32) = c at *
  have hs := E_small h1
  have hw1 : IntKind.wrap .i64 p1 = p1 := wrap_small (by omega) (by omega)
  rw [(E_add hu hv).same (E_add hv hu), decide_eq_true (by rw [Int.add_comm]), sel_true]
  rw [(E_mul hu hv).same (E_mul hv hu), decide_eq_true (by rw [Int.mul_comm]), sel_true]
  rw [(E_mul hu (E_add hv hw)).same (E_add (E_mul hu hv) (E_mul hu hw)), decide_eq_true (by rw [Int.mul_add]), sel_true]
  rw [(E_mul (E_mul hu hv) hw).same (E_mul hu (E_mul hv hw)), decide_eq_true (by rw [Int.mul_assoc]), sel_true]
  rw [(E_add (E_sub hu hv) hv).same hu, decide_eq_true (by rw [Int.sub_add_cancel]), sel_true]
  rw [hw1, like_val hs (R_small (by omega)) rfl, sel_true, hs.odd]
  have e1 : p1 % PP = p1 := Int.emod_eq_of_lt h1.1 (Int.lt_trans h1.2 (by decide))
  have e2 : iRem p1 2 = p1 % 2 := by unfold iRem; exact Int.tmod_eq_emod_of_nonneg h1.1
  rw [e1, e2]
  by_cases h : p1 % 2 = 1
  · rw [h]; rfl
  · rw [decide_eq_false h, beq_eq_false_iff_ne.2 h]; rfl
end Go.Vm
