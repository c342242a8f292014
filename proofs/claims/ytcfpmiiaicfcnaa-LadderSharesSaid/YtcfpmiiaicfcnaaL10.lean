import Derived.Test.YtcfpmiiaicfcnaaC7
import Derived.Test.YtcfpmiiaicfcnaaWk10
set_option linter.unusedVariables false
set_option linter.unusedSimpArgs false
namespace Go.Vm
open Go

theorem F10_true {p0 p1 p2 : List Int} (h0 : Dig 256 p0) (h1 : Dig 256 p1) (h2 : Dig 256 p2) : F10 p0 p1 p2 = true := by
  unfold F10
  rw [F37_true, Bool.not_true, sel_false]
  have hq : ((((F40 p0) : Int) == 0) == ((((p0.length : Nat) : Int) : Int) == 32)) = true := by
    by_cases l0 : p0.length = 32
    · rw [(F40_ok h0 l0).1, l0]; rfl
    · rw [F40_bad l0]
      have : ((((p0.length : Nat) : Int) : Int) == 32) = false := beq_eq_false_iff_ne.2 (by omega)
      rw [this]; rfl
  by_cases l0 : p0.length = 32
  rotate_left
  · rw [len_ne32 l0, sel_true]; exact hq
  by_cases l1 : p1.length = 32
  rotate_left
  · rw [len_eq32 l0, len_ne32 l1, sel_false, sel_true]; exact hq
  rw [len_eq32 l0, len_eq32 l1, sel_false, sel_false]
  obtain ⟨a1, a2, a3⟩ := F40_ok h0 l0
  obtain ⟨b1, b2, b3⟩ := F40_ok h1 l1
  have qa : part1 (mult p0 base9) 32 0 32 = mult p0 base9 := part_eq _ (mult_len _ _)
  have qb : part1 (mult p1 base9) 32 0 32 = mult p1 base9 := part_eq _ (mult_len _ _)
  rw [a2, a3, b2, b3, qa, qb]
  obtain ⟨c1, c2, c3⟩ := F41_ok h0 l0 (mult_dig p1 base9) (mult_len _ _) (mult_base_ne h0 l0 h1 l1)
  obtain ⟨d1, d2, d3⟩ := F41_ok h1 l1 (mult_dig p0 base9) (mult_len _ _) (mult_base_ne h1 l1 h0 l0)
  obtain ⟨e1, e2⟩ := F42_ok h0 l0
  rw [c1, c2, c3, d1, d2, d3, e1, e2, take_all (mult_len _ _), take_all (mult_len _ _), take_all (mult_len _ _), mult_swap h0 l0 h1 l1, strEq_refl, strEq_refl]
  have z0 : ((iAdd .i64 0 0 : Int) != 0) = false := by decide
  rw [z0, sel_false, Bool.not_true, sel_false, sel_false]
  by_cases l2 : p2.length = 32
  · obtain ⟨f1, f2⟩ := F38_ok l0 l2
    rw [f1, f2, F38_val h0 l0 h2 l2, take_all (mult_len _ _), take_all (show (List.replicate 32 (0 : Int)).length = 32 from rfl)]
    have e0 : (((0 : Int) : Int) == 0) = true := rfl
    rw [e0, sel_true, strEq_bytes (mult_dig _ _) (Dig.zeros (by decide) 32)]
    by_cases hz : Tabn.Um (trimN p0) (uOf p2) = 0
    · obtain ⟨g1, g2, g3⟩ := F41_zero h0 l0 h2 l2 hz
      rw [decide_eq_true (mult_zero hz), sel_true, g1, g2]
      exact sel_true _ _
    · obtain ⟨g1, g2, g3⟩ := F41_ok h0 l0 h2 l2 hz
      have hne : mult p0 p2 ≠ List.replicate 32 0 := by
        intro h
        obtain ⟨k, hk, hk2⟩ := mult_nz hz
        apply hk2
        rw [h, getD_zeros]
      rw [decide_eq_false hne, sel_false, g1, g2, g3, take_all (mult_len _ _), strEq_refl]
      exact sel_true _ _
  · have hb : ¬ (p0.length = 32 ∧ p2.length = 32) := fun h => l2 h.2
    obtain ⟨f1, f2, f3⟩ := F38_bad hb
    obtain ⟨g1, g2, g3⟩ := F41_bad hb
    rw [f1, f2, f3, g1, g2, g3]
    have e0 : (((2 : Int) : Int) == 0) = false := rfl
    have e2 : (((2 : Int) : Int) == 2) = true := rfl
    rw [e0, sel_false, e2, sel_true, strEq_refl]
end Go.Vm
