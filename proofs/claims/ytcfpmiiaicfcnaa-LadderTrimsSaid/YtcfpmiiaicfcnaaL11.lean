import Derived.Test.YtcfpmiiaicfcnaaC7
import Derived.Test.YtcfpmiiaicfcnaaWk11
set_option linter.unusedVariables false
set_option linter.unusedSimpArgs false
namespace Go.Vm
open Go

theorem byte_flip : ∀ a, a < 256 → a ^^^ 128 = (a + 128) % 256 := by decide +kernel

theorem xor_128 {x : Int} (h : 0 ≤ x ∧ x < 256) : iXor .u8 x 128 = (x + 128) % 256 := by
  obtain ⟨a, rfl, ha⟩ := int_nat (N := 256) h
  have := iXor_nat uns8 ha (b := 128) (by decide)
  rw [byte_flip a ha] at this
  have e : (((a + 128) % 256 : Nat) : Int) = ((a : Int) + 128) % 256 := by omega
  rw [← e]; exact this

theorem F11_true {p0 p1 : List Int} (h0 : Dig 256 p0) (l0 : p0.length = 32) (h1 : Dig 256 p1) : F11 p0 p1 = true := by
  unfold F11
  rw [F37_true, Bool.not_true, sel_false]
  have pp : part1 p0 32 0 32 = p0 := part_eq _ l0
  have lt : (trim p0).length = 32 := by rw [trim_len, l0]
  have ht := trim_dig h0
  have pt : part1 (trim p0) 32 0 32 = trim p0 := part_eq _ lt
  rw [pp, F43_val h0, F44_val h0, F43_val ht, pt, trim_trim l0 h0, l0, take_all lt, strEq_refl, Bool.not_true, sel_false]
  have b0 := getD_dig (i := 0) (by decide) h0
  have b31 := getD_dig (i := 31) (by decide) h0
  have e1 : iRem ((trim p0).getD 0 0) 8 = 0 := by
    rw [trim_at0 l0]; unfold iRem
    rw [Int.tmod_eq_emod_of_nonneg (by omega)]; omega
  have e2 : iShr .u8 ((trim p0).getD 31 0) 6 = 1 := by
    have h := iShr_at .u8 ((trim p0).getD 31 0) 6 (by decide)
    have e : (2 : Int) ^ 6 = 64 := rfl
    rw [e, trim_at31 l0] at h
    rw [trim_at31 l0]
    refine h.trans ?_
    omega
  rw [e1, e2, beq_self_eq_true, Bool.not_true]
  have z0 : (((0 : Int) : Int) != 0) = false := rfl
  have z1 : (((1 : Int) : Int) != 1) = false := rfl
  rw [z0, z1, sel_false, sel_false, sel_false]
  by_cases l1 : p1.length = 32
  rotate_left
  · rw [len_ne32 l1, sel_true]
  rw [len_eq32 l1, sel_false, l1]
  have c31 := getD_dig (i := 31) (by decide) h1
  rw [xor_128 c31]
  have hv : Dig 256 (p1.set 31 ((p1.getD 31 0 + 128) % 256)) := dig_set h1 (by omega)
  have lv : (p1.set 31 ((p1.getD 31 0 + 128) % 256)).length = 32 := by rw [List.length_set, l1]
  have pv : part1 (p1.set 31 ((p1.getD 31 0 + 128) % 256)) 32 0 32 = p1.set 31 ((p1.getD 31 0 + 128) % 256) := part_eq _ lv
  rw [pv, (F38_ok l0 l1).2, (F38_ok lt lv).2, F38_val h0 l0 h1 l1, F38_val ht lt hv lv]
  have eu : uOf (p1.set 31 ((p1.getD 31 0 + 128) % 256)) = uOf p1 := by
    unfold uOf
    congr 1
    rw [num_set (by omega)]
    have e31 : (256 : Int) ^ 31 = 452312848583266388373324160190187140051835877600158453279131187530910662656 := rfl
    rw [e31]
    generalize num 256 p1 = v
    omega
  have eN : trimN (trim p0) = trimN p0 := by unfold trimN; rw [trim_trim l0 h0]
  have em : mult (trim p0) (p1.set 31 ((p1.getD 31 0 + 128) % 256)) = mult p0 p1 := mult_eq (by rw [eu, eN])
  rw [em, strEq_refl]
end Go.Vm
