/- What the code's writers write behind other bytes, in plain words. -/
import Derived.Test.YtclfmaifcelcpaaPl1
set_option linter.unusedVariables false
set_option linter.unusedSimpArgs false
namespace Go.Vm
open Go

/-! ### written -/
theorem into_ways (k : Nat) (xs t : List Int) (h : t.length ≤ 1000000000) : (sel (decide (((((t).length : Nat) : Int) : Int) > 0)) (sel (decide (((t).getD 0 0 : Int) ≥ 128)) (((FwwU32 k xs (IntKind.wrap .u32 ((((t).length) + 1 : Nat) : Int))) ++ [0]) ++ t) ((FwwU32 k xs (IntKind.wrap .u32 (((t).length : Nat) : Int))) ++ t)) ((FwwU32 k xs (IntKind.wrap .u32 (((t).length : Nat) : Int))) ++ t)) = xs ++ (be4 (pad t).length ++ pad t) ∧
    (sel (decide (((((t).length : Nat) : Int) : Int) > 0)) (sel (decide (((t).getD 0 0 : Int) ≥ 128)) (((k + 4) + 1) + ((t).length)) ((k + 4) + ((t).length))) ((k + 4) + ((t).length))) = k + (be4 (pad t).length ++ pad t).length := by
  unfold pad
  rw [u32o_at k xs _ (by omega), u32o_at k xs _ (by omega)]
  cases t with
  | nil => exact ⟨show (xs ++ be4 0) ++ [] = xs ++ (be4 0 ++ []) by rw [List.append_nil, List.append_nil], rfl⟩
  | cons a r =>
    rw [sel_t (b := decide ((((a :: r).length : Nat) : Int) > 0)) (decide_eq_true (by simp only [List.length_cons]; omega)), sel_t (b := decide ((((a :: r).length : Nat) : Int) > 0)) (decide_eq_true (by simp only [List.length_cons]; omega))]
    cases decide ((a :: r).getD 0 0 ≥ 128)
    · simp only [sel_false]
      exact ⟨by simp, by simp [be4]; omega⟩
    · simp only [sel_true]
      exact ⟨by simp, by simp [be4]; omega⟩
theorem into_writes (k : Nat) (xs p : List Int) (h : p.length ≤ 1000000000) : FwwInt k xs p = xs ++ enc p ∧ FwwIntn0 k xs p = k + (enc p).length := by
  have hw := into_ways k xs (trim p) (by have := trim_le p; omega)
  have hS : fstB (FwwInts0 p) p.length = lz p := int_first p
  have hL : ∀ j, itr FwwIntl0 j p = p.drop j := int_loop p
  unfold FwwInt FwwIntn0 enc
  rw [hS]
  cases hb : Nat.blt (lz p) p.length
  · have h1 := lz_le p
    have h2 : lz p = p.length := by
      rcases Nat.lt_or_ge (lz p) p.length with h3 | h3
      · rw [blt_true h3] at hb; cases hb
      · omega
    rw [sel_false, sel_false, hL, ← h2]
    exact hw
  · rw [sel_true, sel_true, hL]
    exact hw
theorem intoz_writes (xs p : List Int) (h : p.length ≤ 1000000000) : FwwIntz xs.length xs p = xs ++ enc p := by
  obtain ⟨h1, h2⟩ := into_writes xs.length xs p h
  have key : ∀ (b c d b' c' d' : Bool) (x1 x2 x3 y1 y2 y3 : List Int) (n1 n2 n3 m1 m2 m3 : Nat), x1.length = n1 → x2.length = n2 → x3.length = n3 → y1.length = m1 → y2.length = m2 → y3.length = m3 →
      sel b (sel c (sel d (part1 x1 n1 0 n1) (part1 x2 n2 0 n2)) (part1 x3 n3 0 n3)) (sel c' (sel d' (part1 y1 m1 0 m1) (part1 y2 m2 0 m2)) (part1 y3 m3 0 m3)) =
      sel b (sel c (sel d x1 x2) x3) (sel c' (sel d' y1 y2) y3) := by
    intro b c d b' c' d' x1 x2 x3 y1 y2 y3 n1 n2 n3 m1 m2 m3 e1 e2 e3 e4 e5 e6
    rw [part1_all e1, part1_all e2, part1_all e3, part1_all e4, part1_all e5, part1_all e6]
  have hlen : ∀ (n : Int) (t : List Int), (FwwU32 xs.length xs n ++ t).length = (xs.length + 4) + t.length := fun n t => by rw [List.length_append]; unfold FwwU32; rw [List.length_append]; rfl
  have hlen' : ∀ (n : Int) (t : List Int), (FwwU32 xs.length xs n ++ [0] ++ t).length = ((xs.length + 4) + 1) + t.length := fun n t => by rw [List.length_append, List.length_append]; unfold FwwU32; rw [List.length_append]; rfl
  rw [← h1]
  unfold FwwIntz FwwInt
  exact key _ _ _ true _ _ _ _ _ _ _ _ _ _ _ _ _ _ (hlen' _ _) (hlen _ _) (hlen _ _) (hlen' _ _) (hlen _ _) (hlen _ _)
theorem names_writes (k : Nat) (xs : List Int) (l : List ByteArray) (h : (joinB l (⟨#[44]⟩ : ByteArray)).size < 4294967296) : FwwNames k xs l = xs ++ be4 (joinB l (⟨#[44]⟩ : ByteArray)).size ++ bytesI (joinB l (⟨#[44]⟩ : ByteArray)) := text_writes k xs _ h

end Go.Vm
