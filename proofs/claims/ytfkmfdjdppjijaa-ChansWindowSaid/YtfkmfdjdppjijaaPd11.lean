/- No more goes out than the window has room for, in messages of so many at most. -/
import Derived.Test.YtfkmfdjdppjijaaPd2
import Derived.Test.YtfkmfdjdppjijaaWk12
set_option linter.unusedVariables false
set_option linter.unusedSimpArgs false
namespace Go.Vm
open Go
theorem fst_all {S : Nat → Bool} {n : Nat} (h : ∀ k, k < n → S k = false) : fstB S n = n := by
  induction n with
  | zero => rfl
  | succ n ih =>
    have := ih fun k hk => h k (by omega)
    rw [fstB, this, blt_self, cond_false, h n (by omega), cond_false]
theorem take_self {α : Type} (xs : List α) (n : Nat) : xs.take n = xs.take (xs.take n).length := by
  rw [List.length_take]
  rcases Nat.le_total n xs.length with h | h
  · rw [Nat.min_eq_left h]
  · rw [Nat.min_eq_right h, List.take_length, List.take_of_length_le h]
theorem window_true {p0 p1 : Int} {p2 : List Int} (hC : ((0 : Int) ≤ p0 ∧ p0 < 4294967296) ∧ ((0 : Int) ≤ p1 ∧ p1 < 4294967296) ∧ (∀ x ∈ p2, (0 : Int) ≤ x ∧ x < 256)) : FcWindow p0 p1 p2 = true := by
  unfold FcWindow
  rw [cfit_true]
  show sel false _ _ = _
  rw [sel_false]
  cases h1 : ((p1 : Int) == 0)
  · rw [sel_false]
    cases h2 : (decide ((((p2.length : Nat) : Int) : Int) > 10000))
    · have h1' : p1 ≠ 0 := by simpa using h1
      have h2' := of_decide_eq_false h2
      have hq : (winC p0 p1 p2).most.toNat = min p1.toNat 512 := rfl
      rw [sel_false, Window_c hC.1 hC.2.1 h1]
      have s0 : ((FcSend (chW p0.toNat p1.toNat) p2 : Int) != 0) = false := by
        show ((sel false 8 (sel false 8 (sel false 8 (sel false 8 0))) : Int) != 0) = false
        rw [sel_false, sel_false, sel_false, sel_false]
        rfl
      rw [s0, sel_false]
      have hit : ∀ k, k ≤ (FcWindowv4 p0 p1 p2).out.length → itr (FcWindowl0 p0 p1 p2) k 0 = ((min (k * (winC p0 p1 p2).most.toNat) (flowM (winC p0 p1 p2)) : Nat) : Int) := by
        intro k
        induction k with
        | zero => intro _; rw [itr_zero, Nat.zero_mul, Nat.zero_min]; rfl
        | succ k ih =>
          intro hk
          have hz := ih (by omega)
          rw [itr_succ]
          exact (Window_s hC h1 h2 (by omega) hz).2.1
      have hS : ∀ k, k < (FcWindowv4 p0 p1 p2).out.length → FcWindows0 p0 p1 p2 k = false := by
        intro k hk
        have hz := hit k (by omega)
        obtain ⟨a1, ⟨a2, a3, a4⟩, a5, a6, a7, a8⟩ := Window_k hC h1 h2 hk hz
        obtain ⟨⟨m1, _⟩, ⟨m2, _⟩, ⟨m3, _⟩, m4⟩ := Window_cur hC h1 h2 hk hz
        obtain ⟨_, _, c3⟩ := Window_s hC h1 h2 hk hz
        have e : (winT p0 p1 p2 k).size = (partAt (winC p0 p1 p2) k).length := by
          show ByteArray.size (FwcText _ _ _) = _
          rw [m3, size_bytesOf]
        unfold winT at e c3
        have hle : (partAt (winC p0 p1 p2) k).length ≤ p1.toNat := by
          have hw : (partAt (winC p0 p1 p2) k).length ≤ (winC p0 p1 p2).most.toNat := by
            unfold partAt
            rw [List.length_take]
            omega
          omega
        have ep : bytesOf ((p2.drop (((k * (winC p0 p1 p2).most.toNat : Nat) : Int)).toNat).take ((((k * (winC p0 p1 p2).most.toNat : Nat) : Int) + ((partAt (winC p0 p1 p2) k).length : Int)).toNat - (((k * (winC p0 p1 p2).most.toNat : Nat) : Int)).toNat)) = bytesOf (partAt (winC p0 p1 p2) k) := by
          rw [show ((((k * (winC p0 p1 p2).most.toNat : Nat) : Int) + ((partAt (winC p0 p1 p2) k).length : Int)).toNat - (((k * (winC p0 p1 p2).most.toNat : Nat) : Int)).toNat) = (partAt (winC p0 p1 p2) k).length by omega, Int.toNat_natCast]
          exact congrArg bytesOf (take_self _ _).symm
        unfold FcWindows0
        rw [m1, m2, m4, c3, e, m3, a5, ep, strEq_self]
        have x1 : ((94 : Int) != 94) = false := rfl
        have x2 : ((((7 : Nat) : Int) : Int) != 7) = false := rfl
        have x4 : (((((partAt (winC p0 p1 p2) k).length : Nat) : Int) : Int) == 0) = false := by
          rw [beq_eq_false_iff_ne]
          omega
        have x5 : (decide (((((partAt (winC p0 p1 p2) k).length : Nat) : Int) : Int) > 512)) = false := decide_eq_false (by omega)
        have x6 : (decide (((IntKind.wrap .u32 (((partAt (winC p0 p1 p2) k).length : Nat) : Int)) : Int) > p1)) = false := decide_eq_false (by rw [wrap_u32]; omega)
        rw [x1, x2, x4, x5, x6, sel_false, sel_false]
        show sel false _ _ = _
        rw [sel_false, sel_false, sel_false, sel_false]
        exact sel_false _ _
      rw [fst_all hS, blt_self, sel_false, hit _ (Nat.le_refl _)]
      have hf := winC_flow (p0 := p0) (p1 := p1) (p2 := p2) (by omega) (by omega)
      have hall := flow_all hf rfl (by rw [hq]; omega)
      have hM : flowM (winC p0 p1 p2) = min p2.length (((min p0.toNat 1073741824 : Nat) : Int)).toNat := rfl
      have hN : (FcWindowv4 p0 p1 p2).out.length = flowN (winC p0 p1 p2) := (Window_rows hC h1 h2).2
      have hm : min ((FcWindowv4 p0 p1 p2).out.length * (winC p0 p1 p2).most.toNat) (flowM (winC p0 p1 p2)) = flowM (winC p0 p1 p2) := by rw [hN]; omega
      have hw : (FcWindowv4 p0 p1 p2).wait.length = p2.length - flowM (winC p0 p1 p2) := by
        rw [Window_v4 hC.1 hC.2.1 h1, (flow_is hf).1.1, List.length_drop, Nat.min_eq_right hall]
        rfl
      rw [hm]
      have z1 : ((((flowM (winC p0 p1 p2) : Nat) : Int) : Int) == (minI ((p2.length : Nat) : Int) (IntKind.wrap .i64 p0))) = true := by
        rw [wrap_small (by omega) (by omega), beq_iff_eq]
        unfold minI
        split <;> omega
      have z2 : (((FcPending (FcOut (FcWindowv4 p0 p1 p2))) : Int) == (iSub .i64 ((p2.length : Nat) : Int) ((flowM (winC p0 p1 p2) : Nat) : Int))) = true := by
        show ((((FcWindowv4 p0 p1 p2).wait.length : Nat) : Int) == _) = true
        rw [hw, iSub_i64 (by omega) (by omega), beq_iff_eq]
        omega
      rw [z1, sel_true, z2]
    · rw [sel_true]
  · rw [sel_true]
end Go.Vm
