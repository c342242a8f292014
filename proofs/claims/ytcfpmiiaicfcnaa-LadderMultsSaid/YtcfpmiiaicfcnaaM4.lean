import Derived.Test.YtcfpmiiaicfcnaaWkB
import Derived.Test.YtcfpmiiaicfcnaaM3
set_option linter.unusedVariables false
namespace Go.Vm
open Go
theorem carry_val {h l r : Int} (hh : 0 ≤ h) (hl : 0 ≤ l ∧ l < 18446744073709551616) (hr : 0 ≤ r ∧ r < 18446744073709551616) (hb : h < 2251799813685247) :
    iOr .u64 (iShl .u64 (iAdd .u64 h (add64c l r 0)) 13) (iShr .u64 (add64 l r 0) 51) = (h * 18446744073709551616 + l + r) / 2251799813685248 ∧
    iAnd .u64 (add64 l r 0) 2251799813685247 = (h * 18446744073709551616 + l + r) % 2251799813685248 := by
  have s51 : ∀ x : Int, iShr .u64 x 51 = x / 2251799813685248 := fun x => iShr_at .u64 x 51 (by decide)
  have a51 : ∀ x : Int, iAnd .u64 x 2251799813685247 = x % 2251799813685248 := fun x => iAnd_mask x 51 (by decide)
  have l13 : ∀ x : Int, iShl .u64 x 13 = (x * 8192) % 18446744073709551616 := fun x => by rw [show (13 : Int) = ((13 : Nat) : Int) from rfl, iShl_at .u64 x 13 (by decide), wrap_u64]; rfl
  rw [s51, a51, l13, iAdd_u64]
  simp only [add64, add64c]
  have e1 : (h + (l + r + 0) / 18446744073709551616) % 18446744073709551616 = h + (l + r + 0) / 18446744073709551616 := Int.emod_eq_of_lt (by omega) (by omega)
  rw [e1]
  have e2 : (h + (l + r + 0) / 18446744073709551616) * 8192 % 18446744073709551616 = (h + (l + r + 0) / 18446744073709551616) * 2 ^ 13 := by
    rw [Int.emod_eq_of_lt (by omega) (by omega)]; rfl
  rw [e2, iOr_sum _ _ 13 (by omega) (by omega) (by show _ < (8192 : Int); omega) (by show _ * (8192 : Int) + _ < _; omega)]
  refine ⟨?_, by omega⟩
  show _ * (8192 : Int) + _ = _
  omega
end Go.Vm
