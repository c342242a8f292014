import Derived.Test.YtcfpmiiaicfcnaaM7
import Derived.Test.YtcfpmiiaicfcnaaN2
set_option linter.unusedVariables false
namespace Go.Vm
open Go

theorem val5_num (a b c d e : Int) : val5 [a, b, c, d, e] = num (2 ^ 51) [a, b, c, d, e] := by
  simp only [num, val5]
  show _ = a + 2251799813685248 * (b + 2251799813685248 * (c + 2251799813685248 * (d + 2251799813685248 * (e + 2251799813685248 * 0))))
  omega

theorem F52_eq {x : List Int} {l0 l1 l2 l3 l4 : Int} (h : F45 (F45 x) = [l0, l1, l2, l3, l4]) :
    F52 x =
      let q0 := iShr .u64 (iAdd .u64 l0 19) 51
      let q1 := iShr .u64 (iAdd .u64 l1 q0) 51
      let q2 := iShr .u64 (iAdd .u64 l2 q1) 51
      let q3 := iShr .u64 (iAdd .u64 l3 q2) 51
      let q4 := iShr .u64 (iAdd .u64 l4 q3) 51
      let m0 := iAdd .u64 l0 (iMul .u64 19 q4)
      let m1 := iAdd .u64 l1 (iShr .u64 m0 51)
      let m2 := iAdd .u64 l2 (iShr .u64 m1 51)
      let m3 := iAdd .u64 l3 (iShr .u64 m2 51)
      let m4 := iAdd .u64 l4 (iShr .u64 m3 51)
      [iAnd .u64 m0 2251799813685247, iAnd .u64 m1 2251799813685247, iAnd .u64 m2 2251799813685247, iAnd .u64 m3 2251799813685247, iAnd .u64 m4 2251799813685247] := by
  unfold F52 F52l0
  rw [h]
  kernel_rfl

theorem whole_val {x : List Int} (hx : Fe x) : Dig (2 ^ 51) (F52 x) ∧ (F52 x).length = 5 ∧ num (2 ^ 51) (F52 x) = val5 x % PP := by
  obtain ⟨a, b, c, d, e, rfl, ha, hb, hc, hd, he⟩ := hx
  obtain ⟨q, f0, f1, f2, f3, f4, hf, hf0, hf1, hf2, hf3, hf4, hfv⟩ := thin_val (a := a) (b := b) (c := c) (d := d) (e := e) (by omega) (by omega) (by omega) (by omega) (by omega)
  obtain ⟨q', l0, l1, l2, l3, l4, hl, hl0, hl1, hl2, hl3, hl4, hlv⟩ := thin_val (a := f0) (b := f1) (c := f2) (d := f3) (e := f4) (by omega) (by omega) (by omega) (by omega) (by omega)
  have key := F52_eq (x := [a, b, c, d, e]) (by rw [hf, hl])
  have s : ∀ u v : Int, (0 ≤ u ∧ u < 4503599627370496) → (0 ≤ v ∧ v < 4503599627370496) → iAdd .u64 u v = u + v := by
    intro u v hu hv
    rw [iAdd_u64]; exact Int.emod_eq_of_lt (by omega) (by omega)
  simp only at key
  have hv : val5 [a, b, c, d, e] % PP = val5 [l0, l1, l2, l3, l4] % PP := by rw [modP hfv, modP hlv]
  simp only [shr51, and51] at key
  rw [s l0 19 (by omega) (by omega)] at key
  generalize g0 : (l0 + 19) / 2251799813685248 = q0 at key
  have b0 : 0 ≤ q0 ∧ q0 ≤ 1 := by omega
  rw [s l1 q0 (by omega) (by omega)] at key
  generalize g1 : (l1 + q0) / 2251799813685248 = q1 at key
  have b1 : 0 ≤ q1 ∧ q1 ≤ 1 := by omega
  rw [s l2 q1 (by omega) (by omega)] at key
  generalize g2 : (l2 + q1) / 2251799813685248 = q2 at key
  have b2 : 0 ≤ q2 ∧ q2 ≤ 1 := by omega
  rw [s l3 q2 (by omega) (by omega)] at key
  generalize g3 : (l3 + q2) / 2251799813685248 = q3 at key
  have b3 : 0 ≤ q3 ∧ q3 ≤ 1 := by omega
  rw [s l4 q3 (by omega) (by omega)] at key
  generalize g4 : (l4 + q3) / 2251799813685248 = q4 at key
  have b4 : 0 ≤ q4 ∧ q4 ≤ 1 := by omega
  have e0 : iMul .u64 19 q4 = 19 * q4 := by rw [iMul_u64]; exact Int.emod_eq_of_lt (by omega) (by omega)
  rw [e0, s l0 (19 * q4) (by omega) (by omega)] at key
  generalize j0 : (l0 + 19 * q4) / 2251799813685248 = c0 at key
  have d0 : 0 ≤ c0 ∧ c0 ≤ 1 := by omega
  rw [s l1 c0 (by omega) (by omega)] at key
  generalize j1 : (l1 + c0) / 2251799813685248 = c1 at key
  have d1 : 0 ≤ c1 ∧ c1 ≤ 1 := by omega
  rw [s l2 c1 (by omega) (by omega)] at key
  generalize j2 : (l2 + c1) / 2251799813685248 = c2 at key
  have d2 : 0 ≤ c2 ∧ c2 ≤ 1 := by omega
  rw [s l3 c2 (by omega) (by omega)] at key
  generalize j3 : (l3 + c2) / 2251799813685248 = c3 at key
  have d3 : 0 ≤ c3 ∧ c3 ≤ 1 := by omega
  rw [s l4 c3 (by omega) (by omega)] at key
  clear hfv hlv hf hl hf0 hf1 hf2 hf3 hf4 ha hb hc hd he
  rw [key, hv]
  refine ⟨?_, rfl, ?_⟩
  · intro y hy
    simp only [List.mem_cons, List.not_mem_nil, or_false] at hy
    show 0 ≤ y ∧ y < 2251799813685248
    rcases hy with rfl | rfl | rfl | rfl | rfl <;> omega
  · rw [← val5_num]
    have hlt : 0 ≤ val5 [l0, l1, l2, l3, l4] - q4 * PP ∧ val5 [l0, l1, l2, l3, l4] - q4 * PP < PP := by
      simp only [val5, PP]; omega
    have : val5 [l0, l1, l2, l3, l4] % PP = val5 [l0, l1, l2, l3, l4] - q4 * PP := by
      have := modP (x := val5 [l0, l1, l2, l3, l4]) (y := val5 [l0, l1, l2, l3, l4] - q4 * PP) (q := q4) (by omega)
      rw [this]; exact Int.emod_eq_of_lt hlt.1 hlt.2
    rw [this]
    simp only [val5, PP] at hlt ⊢
    omega

theorem itr_bits {m n : Nat} (hm : 0 < m) {v : Int} {f : Nat → List Int → List Int} {K : Nat} (hK : K ≤ m * n)
    (hf : ∀ k t, k < K → Dig (2 ^ m) t → t.length = n → 0 ≤ t.getD (k / m) 0 → t.getD (k / m) 0 < 2 ^ (k % m) → f k t = t.set (k / m) (t.getD (k / m) 0 + v / 2 ^ k % 2 * 2 ^ (k % m))) :
    ∀ {z : List Int}, Dig (2 ^ m) z → z.length = n → num (2 ^ m) z = 0 → ∀ j, j ≤ K → Dig (2 ^ m) (itr f j z) ∧ (itr f j z).length = n ∧ num (2 ^ m) (itr f j z) = v % 2 ^ j := by
  intro z hz hl h0 j
  induction j with
  | zero =>
    intro _
    rw [itr_zero]
    exact ⟨hz, hl, by rw [h0, Int.pow_zero, Int.emod_one]⟩
  | succ j ih =>
    intro hj
    obtain ⟨h1, h2, h3⟩ := ih (by omega)
    obtain ⟨h4, h5, h6, h7⟩ := bits_step hm (show j < m * n by omega) h1 h2 h3 rfl
    rw [itr_succ, hf j _ (by omega) h1 h2 (getD_dig (two_pos m) h1).1 h4]
    exact ⟨h5, h6, h7⟩

theorem Dig.zeros {B : Int} (hB : 0 < B) (n : Nat) : Dig B (List.replicate n 0) := by
  intro x hx
  rw [List.eq_of_mem_replicate hx]
  omega

theorem bytes_val {x : List Int} (hx : Fe x) : F33 x = digs 256 32 (val5 x % PP) := by
  obtain ⟨w1, w2, w3⟩ := whole_val hx
  have h := itr_bits (m := 8) (n := 32) (by decide) (v := val5 x % PP) (f := F33l0 x) (K := 255) (by decide) (by
    intro k t hk ht hl h1 h2
    unfold F33l0
    have hd := getD_dig (two_pos 51) w1 (i := k / 51)
    have hd' : 0 ≤ (F52 x).getD (k / 51) 0 ∧ (F52 x).getD (k / 51) 0 < ((18446744073709551616 : Nat) : Int) := ⟨hd.1, Int.lt_trans hd.2 (by decide)⟩
    rw [bit_at uns64 (by decide) (show k % 51 ≤ 64 by omega) hd', digit_bit (by decide) w1, w3, bit_in uns8 (show k % 8 < 8 by omega) (bit01 _ _) h1 h2]) (z := List.replicate 32 0) (Dig.zeros (by decide) 32) rfl (num_zeros _ 32) 255 (by decide)
  obtain ⟨h1, h2, h3⟩ := h
  have e : F33 x = itr (F33l0 x) 255 (List.replicate 32 0) := rfl
  rw [e]
  refine digs_of (by decide) h1 h2 ?_
  show num (2 ^ 8) _ = _
  rw [h3]
  have p1 := Int.emod_nonneg (val5 x) (b := PP) (by decide)
  have p2 := Int.emod_lt_of_pos (val5 x) (b := PP) (by decide)
  refine Int.emod_eq_of_lt p1 (Int.lt_trans p2 (by decide))
end Go.Vm
