/- What was handed in plays no part any more, in plain. -/
import Derived.Test.YtclfmaifcelcpaaDoorH5
import Derived.Test.YtclfmaifcelcpaaDoorDg10
set_option linter.unusedVariables false
set_option linter.unusedSimpArgs false
namespace Go.Vm
open Go

theorem join_one (x : List Int) : F42 [x] = x := by
  unfold F42
  show (itr (F42l0 [x]) 1 (0, [])).2 = x
  rw [itr_succ, itr_zero]
  show [] ++ x = x
  rfl
theorem join_four (a b : List Int) : F42 [a, [], b, []] = a ++ b := by
  unfold F42
  show (itr (F42l0 [a, [], b, []]) 4 (0, [])).2 = a ++ b
  rw [itr_succ, itr_succ, itr_succ, itr_succ, itr_zero]
  show ((([] ++ a) ++ []) ++ b) ++ [] = a ++ b
  rw [List.nil_append, List.append_nil, List.append_nil]

theorem mac41 {p0 t : List Int} (h0 : Dig 256 p0) (hp : Dig 256 t) (l0 : p0.length ≤ 2000) (hl : t.length ≤ 2000) : F41 p0 t = macOf (sel (decide (((p0.length : Nat) : Int) > 64)) (F36w32 p0) p0) t := by
  unfold F41
  cases h : decide (((p0.length : Nat) : Int) > 64)
  · rw [sel_false, sel_false]
    have h' := of_decide_eq_false h
    exact macR (K := p0) (t := t) (by omega)
  · rw [sel_true, sel_true]
    have hK : (F36w32 p0).length ≤ 64 := by rw [len36w32]; omega
    have b := macR (K := F36w32 p0) (t := t) hK
    rw [len36w32] at b
    exact b
theorem mac_one {p0 t : List Int} (h0 : Dig 256 p0) (ht : Dig 256 t) (l0 : p0.length ≤ 2000) (hl : t.length ≤ 2000) : F40 p0 [t] = F41 p0 t := by
  rw [mac_eq (p := [t]) h0 (fun x hx => by rw [List.mem_singleton.1 hx]; exact ht) l0 (show 0 + t.length ≤ 2000 by omega), join_one]
theorem mac_four {p0 a b : List Int} (h0 : Dig 256 p0) (ha : Dig 256 a) (hb : Dig 256 b) (l0 : p0.length ≤ 2000) (hl : a.length + b.length ≤ 2000) : F40 p0 [a, [], b, []] = F41 p0 (a ++ b) := by
  rw [mac_eq (p := [a, [], b, []]) h0 ?_ l0 (show 0 + a.length + 0 + b.length + 0 ≤ 2000 by omega), join_four]
  intro x hx
  simp only [List.mem_cons, List.not_mem_nil, or_false] at hx
  rcases hx with rfl | rfl | rfl | rfl
  · exact ha
  · exact Dig.nil
  · exact hb
  · exact Dig.nil

theorem own_true {p0 p1 : List Int} {p2 : Int} (h0 : Dig 256 p0) (h1 : Dig 256 p1) : F10 p0 p1 p2 = true := by
  unfold F10
  rw [fit33]
  cases h : decide (((p0.length : Nat) : Int) > 500)
  · cases h2 : decide (((p1.length : Nat) : Int) > 500)
    · have l0 := of_decide_eq_false h
      have l1 := of_decide_eq_false h2
      obtain ⟨n1, n2⟩ := own_at p2 (m := p1.length) (by omega)
      revert n1 n2
      generalize iRem (iAdd .i64 (iAdd .i64 (iRem p2 ((p1.length + 1 : Nat) : Int)) ((p1.length : Nat) : Int)) 1) ((p1.length + 1 : Nat) : Int) = n
      intro n1 n2
      have e1 : part1 p1 p1.length 0 (n.toNat - 0) = p1.take n.toNat := by
        rw [part1_eq rfl, List.drop_zero, Nat.sub_zero]
      have e2 : part1 p1 p1.length (0 + n.toNat * 1) (p1.length - n.toNat) = p1.drop n.toNat := by
        rw [part1_eq rfl, Nat.zero_add, Nat.mul_one, List.take_of_length_le (by rw [List.length_drop]; omega)]
      have e3 : (p0.drop 0).take p0.length = p0 := by rw [List.drop_zero, List.take_of_length_le (by omega)]
      have e4 : (p1.drop 0).take p1.length = p1 := by rw [List.drop_zero, List.take_of_length_le (by omega)]
      have l2 : (p1.take n.toNat).length + (p1.drop n.toNat).length = p1.length := by rw [List.length_take, List.length_drop]; omega
      rw [part1_all rfl, part1_all rfl, e1, e2, e3, e4, strEq_refl, strEq_refl]
      rw [mac_four h0 (fun x hx => h1 x (List.mem_of_mem_take hx)) (fun x hx => h1 x (List.mem_of_mem_drop hx)) (by omega) (by omega), List.take_append_drop, mac_one h0 h1 (by omega) (by omega)]
      have e5 : sel (decide (((p0.length : Nat) : Int) > 64)) (F40 (part1 (F34 p0) 32 0 32) [p1]) (F41 p0 p1) = F41 p0 p1 := by
        cases h3 : decide (((p0.length : Nat) : Int) > 64)
        · rfl
        · rw [sel_true, sum32 h0 (by omega), part1_all (len36w32 p0), mac_one (dig36 p0) h1 (by rw [len36w32]; omega) (by omega),
            mac41 (dig36 p0) h1 (by rw [len36w32]; omega) (by omega), mac41 h0 h1 (by omega) (by omega), h3, len36w32]
          rfl
      rw [e5]
      have e6 : (F41 p0 p1 == F41 p0 p1) = true := beq_self_eq_true _
      rw [e6]
      rfl
    · rfl
  · rfl
end Go.Vm
