import Derived.Test.YtcfpmiiaicfcnaaL1
import Derived.Test.YtcfpmiiaicfcnaaWk3
set_option linter.unusedVariables false
namespace Go.Vm
open Go

theorem F3_true {p0 p1 p2 : List Int} (h0 : Dig 256 p0) (h1 : Dig 256 p1) : F3 p0 p1 p2 = true := by
  unfold F3
  rw [F14_true, Bool.not_true, sel_false]
  cases hf : F15_4 p0 p1
  · rw [Bool.not_false, sel_true]
  rw [Bool.not_true, sel_false]
  generalize decide ((((p2.length : Nat) : Int) : Int) > 200) = t
  cases t
  · rw [sel_false]
    obtain ⟨a, b, c, d⟩ := two_vals h0 h1 hf
    have key : ∀ j, ∃ v w, E (itr (F3l0 p2) j ((F15_3 p0 p1), (F15_2 p0 p1), (F15_1 p0 p1), (F15 p0 p1))).2.2.2 v ∧ E (itr (F3l0 p2) j ((F15_3 p0 p1), (F15_2 p0 p1), (F15_1 p0 p1), (F15 p0 p1))).2.2.1 w ∧
        R (itr (F3l0 p2) j ((F15_3 p0 p1), (F15_2 p0 p1), (F15_1 p0 p1), (F15 p0 p1))).2.1 v ∧ R (itr (F3l0 p2) j ((F15_3 p0 p1), (F15_2 p0 p1), (F15_1 p0 p1), (F15 p0 p1))).1 w := by
      intro j
      induction j with
      | zero => rw [itr_zero]; exact ⟨_, _, a, b, c, d⟩
      | succ j ih =>
        obtain ⟨v, w, i1, i2, i3, i4⟩ := ih
        rw [itr_succ]
        generalize itr (F3l0 p2) j ((F15_3 p0 p1), (F15_2 p0 p1), (F15_1 p0 p1), (F15 p0 p1)) = z at *
        unfold F3l0
        simp only
        generalize ((iRem (iAdd .i64 (iRem (p2.getD j 0) 3) 3) 3 : Int) == 0) = t0
        generalize ((iRem (iAdd .i64 (iRem (p2.getD j 0) 3) 3) 3 : Int) == 1) = t1
        cases t0
        · cases t1
          · simp only [sel_false]
            exact ⟨v * w, v, E_mul i1 i2, i1, R_mul i3 i4, i3⟩
          · simp only [sel_false, sel_true]
            exact ⟨v - w, v, E_sub i1 i2, i1, R_sub i3 i4, i3⟩
        · simp only [sel_true]
          exact ⟨v + w, v, E_add i1 i2, i1, R_add i3 i4, i3⟩
    obtain ⟨v, w, i1, i2, i3, i4⟩ := key (p2.length - 0)
    rw [like_val i1 i3 rfl, sel_true, like_val i2 i4 rfl]
  · rw [sel_true]

end Go.Vm
