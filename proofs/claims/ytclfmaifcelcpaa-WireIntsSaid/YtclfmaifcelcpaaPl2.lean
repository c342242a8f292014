/- An int is as short as may be, and zeros ahead of a number change nothing. -/
import Derived.Test.YtclfmaifcelcpaaPl1
import Derived.Test.YtclfmaifcelcpaaWk4
set_option linter.unusedVariables false
set_option linter.unusedSimpArgs false
namespace Go.Vm
open Go

theorem ints_true {p0 : List Int} {p1 : Int} (hd : Dg p0) : FwWireInts p0 p1 = true := by
  obtain ⟨hz1, hz2⟩ := zeros_in p1
  unfold FwWireInts
  have hz : (iRem (iAdd .i64 (iRem p1 9) 9) 9).toNat ≤ 8 := by omega
  generalize (iRem (iAdd .i64 (iRem p1 9) 9) 9).toNat = z at hz ⊢
  rw [fit_true]
  show sel false _ _ = _
  rw [sel_false]
  cases h : decide (((p0.length : Nat) : Int) > 500)
  · have h0 := of_decide_eq_false h
    rw [sel_false]
    have e1 := int_writes_z p0 (by omega)
    have e2 : part1 (List.replicate z 0 ++ p0) (z + p0.length) 0 (z + p0.length) = List.replicate z 0 ++ p0 := part1_all (by rw [List.length_append, List.length_replicate])
    obtain ⟨e3, e4⟩ := int_writes (List.replicate z 0 ++ p0) (by rw [List.length_append, List.length_replicate]; omega)
    have e5 : enc (List.replicate z 0 ++ p0) = enc p0 := by unfold enc; rw [trim_zeros]
    rw [e2, e3, e4, e1, e5]
    have hT : Dg (trim p0) := dg_drop _ hd
    have hl := trim_le p0
    obtain ⟨r1, r2, r3⟩ := int_read (trim p0) [] hT (by omega) (trim_head p0)
    have e6 : enc p0 = be4 (pad (trim p0)).length ++ pad (trim p0) ++ [] := by unfold enc; rw [List.append_nil]
    have e7 : FwInt (enc p0) false = trim p0 := by rw [e6]; exact r1
    have e8 : FwInt_1 (enc p0) false = [] := by rw [e6]; exact r2
    have e9 : FwInt_2 (enc p0) false = false := by rw [e6]; exact r3
    rw [e7, e8, e9, end_at]
    have e10 : (((enc p0).drop 0).take (enc p0).length) = enc p0 := by rw [List.drop_zero, List.take_length]
    rw [e10, strEq_self]
    have e11 : enc (trim p0) = enc p0 := by
      unfold enc
      rw [trim_self (trim_head p0)]
    rw [int_writes_z (trim p0) (by omega), e11, strEq_self]
    have e12 : (decide ((((enc p0).length : Nat) : Int) ≤ ((5 + p0.length : Nat) : Int))) = true := by
      have := pad_le (trim p0)
      refine decide_eq_true ?_
      unfold enc
      rw [List.length_append]
      have : (be4 (pad (trim p0)).length).length = 4 := rfl
      omega
    rw [e12]
    simp only [sel_true]
    rcases trim_head p0 with h1 | h1
    · rw [h1]; rfl
    · have : ((trim p0).getD 0 0 != 0) = true := by rw [bne_iff_ne]; exact h1
      rw [this, sel_true]
      cases ((((trim p0).length : Nat) : Int) == 0) <;> rfl
  · rw [sel_true]

end Go.Vm
