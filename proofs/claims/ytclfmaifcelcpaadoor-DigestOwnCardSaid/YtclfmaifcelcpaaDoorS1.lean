import Derived.Test.YtclfmaifcelcpaaDoorN2
set_option linter.unusedVariables false
namespace Go.Vm
open Go

theorem ba_loop (bs : ByteArray) : ∀ (n i : Nat) (r : List UInt8), bs.size - i = n → i ≤ bs.size → ByteArray.toList.loop bs i r = r.reverse ++ bs.data.toList.drop i := by
  intro n
  induction n with
  | zero =>
    intro i r h hi
    rw [ByteArray.toList.loop]
    have hs : bs.size = bs.data.toList.length := by rw [Array.length_toList]; rfl
    rw [if_neg (by omega), List.drop_of_length_le (by omega), List.append_nil]
  | succ n ih =>
    intro i r h hi
    rw [ByteArray.toList.loop]
    have hs : bs.size = bs.data.toList.length := by rw [Array.length_toList]; rfl
    have hlt : i < bs.data.toList.length := by omega
    rw [if_pos (by omega), ih (i + 1) _ (by omega) (by omega), List.reverse_cons, List.append_assoc]
    congr 1
    have e : bs.get! i = bs.data.toList[i]'hlt := by
      have h2 : i < bs.data.size := by rw [← Array.length_toList]; exact hlt
      show bs.data[i]! = _
      rw [getElem!_pos bs.data i h2, Array.getElem_toList]
    rw [e, List.drop_eq_getElem_cons hlt]
    rfl

theorem ba_toList (bs : ByteArray) : bs.toList = bs.data.toList := by
  show ByteArray.toList.loop bs 0 [] = _
  rw [ba_loop bs _ 0 [] rfl (Nat.zero_le _)]
  rfl

theorem strEq_refl (x : ByteArray) : strEq x x = true := by unfold strEq; exact beq_self_eq_true _

theorem strEq_iff (x y : ByteArray) : strEq x y = true ↔ x = y := by
  unfold strEq
  rw [ba_toList, ba_toList, beq_iff_eq]
  constructor
  · intro h
    cases x; cases y
    congr 1
    exact Array.toList_inj.1 h
  · rintro rfl; rfl

theorem bytesOf_inj {x y : List Int} (hx : Dig 256 x) (hy : Dig 256 y) (h : bytesOf x = bytesOf y) : x = y := by
  unfold bytesOf at h
  have h1 : (x.map fun n => UInt8.ofNat n.toNat) = y.map fun n => UInt8.ofNat n.toNat := by
    have := congrArg (fun b : ByteArray => b.data.toList) h
    simpa using this
  have back : ∀ z : List Int, Dig 256 z → (z.map fun n => UInt8.ofNat n.toNat).map (fun u => (u.toNat : Int)) = z := by
    intro z hz
    rw [List.map_map]
    conv => rhs; rw [← List.map_id z]
    apply List.map_congr_left
    intro a ha
    have := hz a ha
    simp only [Function.comp, id]
    rw [UInt8.toNat_ofNat']
    omega
  rw [← back x hx, ← back y hy, h1]

theorem strEq_bytes {x y : List Int} (hx : Dig 256 x) (hy : Dig 256 y) : strEq (bytesOf x) (bytesOf y) = decide (x = y) := by
  by_cases h : x = y
  · subst h; rw [strEq_refl, decide_eq_true rfl]
  · rw [decide_eq_false h]
    cases hs : strEq (bytesOf x) (bytesOf y)
    · rfl
    · exact absurd (bytesOf_inj hx hy ((strEq_iff _ _).1 hs)) h
end Go.Vm
