/- A reader that is none reads nothing; one that has failed has nothing any more. -/
import Derived.Test.YtclfmaifcelcpaaDoorPl1
import Derived.Test.YtclfmaifcelcpaaDoorWk4
set_option linter.unusedVariables false
set_option linter.unusedSimpArgs false
namespace Go.Vm
open Go

theorem bad_take (n : Int) : FwtakeF [] true n = [] ∧ FwtakeF_1 [] true n = [] ∧ FwtakeF_2 [] true n = true := ⟨rfl, rfl, rfl⟩
theorem bad_u32 : FwU32 [] true = 0 ∧ FwU32_1 [] true = [] ∧ FwU32_2 [] true = true := ⟨by kernel_rfl, rfl, rfl⟩
theorem bad_text : FwText [] true = (⟨#[]⟩ : ByteArray) ∧ FwText_1 [] true = [] ∧ FwText_2 [] true = true := by
  unfold FwText FwText_1 FwText_2
  rw [bad_u32.1, bad_u32.2.1, bad_u32.2.2]
  exact ⟨by kernel_rfl, by kernel_rfl, by kernel_rfl⟩

theorem none_true {p0 : List Int} {p1 : Int} (hd : Dg p0) (h1 : IntKind.min .i64 ≤ p1 ∧ p1 ≤ IntKind.max .i64) : FwWireNone p0 p1 = true := by
  unfold FwWireNone
  rw [fit_true, none_FwTextNil, none_FwIntNil]
  have e0 : ((FwU32Nil : Int) != 0) = false := by kernel_rfl
  have e1 : strEq (⟨#[]⟩ : ByteArray) (⟨#[]⟩ : ByteArray) = true := strEq_self _
  have e2 : (decide ((((0 + ([] : List Int).length : Nat) : Int) : Int) > 0)) = false := by kernel_rfl
  rw [e0, e1, e2]
  show sel false _ (sel _ true (sel false _ (sel false _ (sel false _ _)))) = true
  simp only [sel_false]
  cases h : decide (((p0.length : Nat) : Int) > 3000)
  · have hl := of_decide_eq_false h
    rw [sel_false]
    by_cases hin : p1 ≤ (p0.length : Int) ∧ 0 ≤ p1
    · have c1 : (decide ((p1 : Int) ≤ ((p0.length : Nat) : Int))) = true := decide_eq_true hin.1
      have c2 : (decide ((p1 : Int) ≥ 0)) = true := decide_eq_true hin.2
      rw [c1, c2, sel_true, sel_true]
      have c3 : (decide ((p1 : Int) < 0)) = false := decide_eq_false (by omega)
      have c4 : (decide ((p1 : Int) > ((p0.length : Nat) : Int))) = false := decide_eq_false (by omega)
      have f0 : FwBytes p0 false p1 = (p0.drop 0).take (p1.toNat - 0) := by unfold FwBytes FwtakeF; simp only [c3, sel_false, c4]
      have f1 : FwBytes_1 p0 false p1 = p0.drop p1.toNat := by
        unfold FwBytes_1 FwtakeF_1
        simp only [c3, sel_false, c4]
        rw [List.take_of_length_le (by rw [List.length_drop]; omega)]
      have f2 : FwBytes_2 p0 false p1 = false := by unfold FwBytes_2 FwtakeF_2; simp only [c3, sel_false, c4]
      rw [f0, f1, f2, strEq_self, sel_true]
      show sel true _ _ = true
      rw [sel_true]
      have f3 : FwEnd (p0.drop p1.toNat) false = ((p1 : Int) == ((p0.length : Nat) : Int)) := by
        show ((((p0.drop p1.toNat).length : Nat) : Int) == 0) = _
        rw [List.length_drop]
        by_cases he : p1 = (p0.length : Int)
        · have a1 : (p1 == ((p0.length : Nat) : Int)) = true := by simpa using he
          rw [a1, beq_iff_eq]
          omega
        · have a1 : (p1 == ((p0.length : Nat) : Int)) = false := by simpa using he
          rw [a1, beq_eq_false_iff_ne]
          omega
      rw [f3]
      cases ((p1 : Int) == ((p0.length : Nat) : Int)) <;> rfl
    · have c4 : (decide ((sel (decide ((p1 : Int) < 0)) 1073741824 p1 : Int) > ((p0.length : Nat) : Int))) = true := by
        refine decide_eq_true ?_
        by_cases h0 : p1 < 0
        · rw [sel_t (decide_eq_true h0)]; omega
        · rw [sel_f (decide_eq_false h0)]; omega
      have f0 : FwBytes p0 false p1 = [] := by unfold FwBytes FwtakeF; rw [c4]; rfl
      have f1 : FwBytes_1 p0 false p1 = [] := by unfold FwBytes_1 FwtakeF_1; rw [c4]; rfl
      have f2 : FwBytes_2 p0 false p1 = true := by unfold FwBytes_2 FwtakeF_2; rw [c4]; rfl
      rw [f0, f1, f2]
      have g1 : FwByte_1 [] true = [] := rfl
      have g2 : FwByte_2 [] true = true := rfl
      have g0 : FwByte [] true = 0 := rfl
      rw [g0, g1, g2, bad_text.1, bad_text.2.1, bad_text.2.2, e1]
      have k0 : FwBytes [] true 0 = [] := by kernel_rfl
      have k1 : FwBytes_1 [] true 0 = [] := by kernel_rfl
      have k2 : FwBytes_2 [] true 0 = true := by kernel_rfl
      rw [k0, k1, k2]
      have k3 : FwEnd [] true = false := rfl
      have k4 : FwOk [] true = false := rfl
      have k5 : ((((([] : List Int).length : Nat) : Int) : Int) == 0) = true := rfl
      have k6 : ((0 : Int) == 0) = true := rfl
      rw [k3, k4, k5, k6]
      simp only [Bool.not_false, sel_true]
      cases hb : decide ((p1 : Int) ≤ ((p0.length : Nat) : Int))
      · rw [sel_false]
      · have hb' := of_decide_eq_true hb
        have : (decide ((p1 : Int) ≥ 0)) = false := decide_eq_false (by omega)
        rw [this, sel_false, sel_true]
  · rw [sel_true]

end Go.Vm
