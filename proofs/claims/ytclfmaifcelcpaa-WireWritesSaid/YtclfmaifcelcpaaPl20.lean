/- What the document's writers write, in plain words. -/
import Derived.Test.YtclfmaifcelcpaaPl1
set_option linter.unusedVariables false
set_option linter.unusedSimpArgs false
namespace Go.Vm
open Go

theorem rInt_stop (p : List Int) (k : Nat) : FwrInts0 p k = !(p.getD k 0 == 0) := by
  unfold FwrInts0
  cases (p.getD k 0 == 0) <;> rfl
theorem stop_lz {p : List Int} {S : Nat → Bool} (hS : ∀ k, S k = !(p.getD k 0 == 0)) : fstB S p.length = lz p ∧ Nat.blt (lz p) p.length = decide (lz p < p.length) := by
  have hle := lz_le p
  refine ⟨?_, ?_⟩
  · by_cases h : lz p < p.length
    · refine fst_found h (fun j hj => ?_) ?_
      · rw [hS, lz_zero hj]; rfl
      · rw [hS]
        have := lz_stop h
        simpa using this
    · have e : lz p = p.length := by omega
      rw [e]
      refine fst_none fun j hj => ?_
      rw [hS, lz_zero (by omega)]
      rfl
  · by_cases h : lz p < p.length
    · rw [blt_true h, decide_eq_true h]
    · rw [show lz p = p.length by omega, blt_self, decide_eq_false (by omega)]
theorem rU32_at (n : Nat) (h : n < 4294967296) : FwrU32 ((n : Nat) : Int) = be4 n := by
  unfold FwrU32 be4
  have q1 : iQuo .i64 ((n : Nat) : Int) 16777216 = ((n / 16777216 : Nat) : Int) := iQuo_nat (b := 16777216) (by omega)
  have q2 : iQuo .i64 ((n : Nat) : Int) 65536 = ((n / 65536 : Nat) : Int) := iQuo_nat (b := 65536) (by omega)
  have q3 : iQuo .i64 ((n : Nat) : Int) 256 = ((n / 256 : Nat) : Int) := iQuo_nat (b := 256) (by omega)
  rw [q1, q2, q3, wrap_u8, wrap_u8, wrap_u8, wrap_u8]
  refine List.ext_getElem rfl fun i h1 h2 => ?_
  match i, h1 with
  | 0, _ => show ((n / 16777216 : Nat) : Int) % 256 = ((n / 16777216 % 256 : Nat) : Int); omega
  | 1, _ => show ((n / 65536 : Nat) : Int) % 256 = ((n / 65536 % 256 : Nat) : Int); omega
  | 2, _ => show ((n / 256 : Nat) : Int) % 256 = ((n / 256 % 256 : Nat) : Int); omega
  | 3, _ => show ((n : Nat) : Int) % 256 = ((n % 256 : Nat) : Int); omega
theorem rText_at (s : ByteArray) (h : s.size < 4294967296) : FwrText s = be4 s.size ++ bytesI s := by
  unfold FwrText
  rw [rU32_at _ h]
theorem bytesOf_cons0 (t : List Int) : (⟨#[0]⟩ : ByteArray) ++ bytesOf t = bytesOf (0 :: t) := by
  apply ByteArray.ext
  rw [ByteArray.data_append]
  unfold bytesOf
  simp
theorem bytesOf_head {t : List Int} (h : Dg t) : byteAt (bytesOf t) 0 = t.getD 0 0 := by
  unfold byteAt
  rw [bytesI_bytesOf h]
  rfl
theorem rInt_ways {t : List Int} (h : Dg t) (hl : t.length ≤ 800000000) :
    (sel (!(strEq (bytesOf t) (⟨#[]⟩ : ByteArray))) (FwrText (sel (decide ((byteAt (bytesOf t) 0 : Int) ≥ 128)) ((⟨#[0]⟩ : ByteArray) ++ bytesOf t) (bytesOf t))) (FwrText (bytesOf t))) = be4 (pad t).length ++ pad t ∧
    (sel (!(strEq (bytesOf t) (⟨#[]⟩ : ByteArray))) (4 + (sel (decide ((byteAt (bytesOf t) 0 : Int) ≥ 128)) ((⟨#[0]⟩ : ByteArray) ++ bytesOf t) (bytesOf t)).size) (4 + (bytesOf t).size)) = (be4 (pad t).length ++ pad t).length := by
  have hp : Dg (pad t) := dg_pad h
  have hpl := pad_le t
  have key : FwrText (bytesOf (pad t)) = be4 (pad t).length ++ pad t := by
    rw [rText_at _ (by rw [size_bytesOf]; omega), size_bytesOf, bytesI_bytesOf hp]
  have key2 : 4 + (bytesOf (pad t)).size = (be4 (pad t).length ++ pad t).length := by
    rw [size_bytesOf, List.length_append]; rfl
  rw [bytesOf_head h, bytesOf_cons0]
  have e : (sel (decide (t.getD 0 0 ≥ 128)) (bytesOf (0 :: t)) (bytesOf t)) = bytesOf (pad t) := by
    unfold pad
    cases decide (t.getD 0 0 ≥ 128) <;> rfl
  rw [e, key, key2]
  cases ht : strEq (bytesOf t) (⟨#[]⟩ : ByteArray) with
  | false => exact ⟨rfl, rfl⟩
  | true =>
    have h1 := strEq_eq ht
    have h2 : t = [] := by
      have := congrArg ByteArray.size h1
      rw [size_bytesOf] at this
      exact List.length_eq_zero_iff.1 this
    subst h2
    exact ⟨key, key2⟩
theorem rInt_at {p : List Int} (h : Dg p) (hl : p.length ≤ 800000000) : FwrInt p = enc p ∧ FwrIntn0 p = (enc p).length := by
  obtain ⟨h1, h2⟩ := stop_lz (p := p) (rInt_stop p)
  have hle := lz_le p
  unfold FwrInt FwrIntn0 enc
  rw [h1, h2]
  have e1 : (p.drop (lz p)).take (p.length - lz p) = trim p := by
    rw [List.take_of_length_le (by rw [List.length_drop]; exact Nat.le_refl _)]; rfl
  rw [e1]
  obtain ⟨r1, r2⟩ := rInt_ways (t := trim p) (dg_drop _ h) (by have := trim_le p; omega)
  by_cases hlt : lz p < p.length
  · rw [decide_eq_true hlt, sel_true, sel_true]
    exact ⟨r1, r2⟩
  · have he : lz p = p.length := by omega
    have e2 : (p.drop p.length).take (p.length - p.length) = trim p := by
      rw [Nat.sub_self, List.take_zero]
      unfold trim
      rw [he, List.drop_length]
    rw [e2, decide_eq_false hlt, sel_false, sel_false]
    exact ⟨r1, r2⟩

end Go.Vm
