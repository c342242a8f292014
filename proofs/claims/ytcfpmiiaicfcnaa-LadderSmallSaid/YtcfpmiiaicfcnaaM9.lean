import Derived.Test.YtcfpmiiaicfcnaaM8
set_option linter.unusedVariables false
namespace Go.Vm
open Go

/-- Limbs that are a number modulo the prime. -/
def E (x : List Int) (v : Int) : Prop := Fe x ∧ val5 x % PP = v % PP

theorem E.to {x : List Int} {v w : Int} (h : E x v) (e : v % PP = w % PP) : E x w := ⟨h.1, h.2.trans e⟩

theorem E_add {x y : List Int} {v w : Int} (hx : E x v) (hy : E y w) : E (F16 x y) (v + w) :=
  ⟨(add_val hx.1 hy.1).1, by rw [(add_val hx.1 hy.1).2, Int.add_emod, hx.2, hy.2, ← Int.add_emod]⟩
theorem E_sub {x y : List Int} {v w : Int} (hx : E x v) (hy : E y w) : E (F18 x y) (v - w) :=
  ⟨(sub_val hx.1 hy.1).1, by rw [(sub_val hx.1 hy.1).2, Int.sub_emod, hx.2, hy.2, ← Int.sub_emod]⟩
theorem E_mul {x y : List Int} {v w : Int} (hx : E x v) (hy : E y w) : E (F20 x y) (v * w) :=
  ⟨(mul_val hx.1 hy.1).1, by rw [(mul_val hx.1 hy.1).2, Int.mul_emod, hx.2, hy.2, ← Int.mul_emod]⟩

theorem E_small {n : Int} (h : 0 ≤ n ∧ n < 4294967296) : E (F30 n) n := by
  have e : F30 n = [n, 0, 0, 0, 0] := by
    unfold F30
    rw [wrap_u64, Int.emod_eq_of_lt (by omega) (by omega)]
  rw [e]
  refine ⟨⟨n, 0, 0, 0, 0, rfl, by omega, by omega, by omega, by omega, by omega⟩, ?_⟩
  simp only [val5]
  congr 1
  omega

theorem read_val {b : List Int} (hb : Dig 256 b) (hl : b.length = 32) : E (F23 b) (num 256 b % 57896044618658097711785492504343953926634992332820282019728792003956564819968) := by
  have h := itr_bits (m := 51) (n := 5) (by decide) (v := num 256 b) (f := F23l0 b) (K := 255) (by decide) (by
    intro k t hk ht hl h1 h2
    unfold F23l0
    have hd := getD_dig (B := 256) (by decide) hb (i := k / 8)
    rw [bit_at uns8 (by decide) (show k % 8 ≤ 8 by omega) hd, show b.getD (k / 8) 0 / 2 ^ (k % 8) % 2 = num 256 b / 2 ^ k % 2 from digit_bit (m := 8) (by decide) hb k,
      bit_in uns64 (show k % 51 < 64 by omega) (bit01 _ _) h1 h2]) (z := List.replicate 5 0) (Dig.zeros (by decide) 5) rfl (num_zeros _ 5) 255 (by decide)
  obtain ⟨h1, h2, h3⟩ := h
  have e : F23 b = itr (F23l0 b) 255 (List.replicate 5 0) := by
    unfold F23
    have : ((((b.length : Nat) : Int) : Int) != 32) = false := by rw [hl]; rfl
    rw [this, sel_false]
    rfl
  rw [← e] at h1 h2 h3
  obtain ⟨a, b', c, d, e', he⟩ := five h2
  rw [he] at h1 h3 ⊢
  have hm : ∀ x, x ∈ [a, b', c, d, e'] → 0 ≤ x ∧ x < 4503599627370496 := fun x hx => ⟨(h1 x hx).1, Int.lt_trans (h1 x hx).2 (by decide)⟩
  refine ⟨⟨a, b', c, d, e', rfl, hm a (by simp), hm b' (by simp), hm c (by simp), hm d (by simp), hm e' (by simp)⟩, ?_⟩
  rw [val5_num, h3]
  rfl

theorem read_ok {b : List Int} : F23_1 b = decide (b.length = 32) := by
  unfold F23_1
  by_cases h : b.length = 32
  · have : ((((b.length : Nat) : Int) : Int) != 32) = false := by rw [h]; rfl
    rw [this, sel_false, decide_eq_true h]
  · have : ((((b.length : Nat) : Int) : Int) != 32) = true := by
      have : ((b.length : Nat) : Int) ≠ 32 := by omega
      simpa using this
    rw [this, sel_true, decide_eq_false h]

theorem E.bytes {x : List Int} {v : Int} (h : E x v) : F33 x = digs 256 32 (v % PP) := by rw [bytes_val h.1, h.2]

theorem PP_lt (v : Int) : 0 ≤ v % PP ∧ v % PP < PP := ⟨Int.emod_nonneg _ (by decide), Int.emod_lt_of_pos _ (by decide)⟩

theorem digs_inj {v w : Int} (h : digs 256 32 (v % PP) = digs 256 32 (w % PP)) : v % PP = w % PP := by
  have h1 := congrArg (num 256) h
  rw [num_digs (by decide), num_digs (by decide)] at h1
  have a := PP_lt v
  have b := PP_lt w
  rw [Int.emod_eq_of_lt a.1 (Int.lt_trans a.2 (by decide)), Int.emod_eq_of_lt b.1 (Int.lt_trans b.2 (by decide))] at h1
  exact h1

theorem E.same {x y : List Int} {v w : Int} (hx : E x v) (hy : E y w) : F29 x y = decide (v % PP = w % PP) := by
  unfold F29
  rw [hx.bytes, hy.bytes]
  by_cases h : v % PP = w % PP
  · rw [h, decide_eq_true rfl]; exact beq_self_eq_true _
  · rw [decide_eq_false h]
    exact beq_eq_false_iff_ne.2 fun e => h (digs_inj e)

theorem E.odd {x : List Int} {v : Int} (hx : E x v) : F32 x = decide (v % PP % 2 = 1) := by
  obtain ⟨w1, w2, w3⟩ := whole_val hx.1
  have hd := getD_dig (two_pos 51) w1 (i := 0)
  have hb := digit_bit (m := 51) (by decide) w1 0
  have e0 : ∀ z : Int, z / 2 ^ 0 % 2 = z % 2 := fun z => by rw [Int.pow_zero, Int.ediv_one]
  have hb' : (F52 x).getD 0 0 % 2 = v % PP % 2 := by rw [← hx.2, ← w3, ← e0 ((F52 x).getD 0 0), ← e0 (num _ _)]; exact hb
  unfold F32
  rw [iAnd_one uns64 (by decide) ⟨hd.1, Int.lt_trans hd.2 (by decide)⟩, hb']
  rfl

theorem and_ones {x : Int} (h : 0 ≤ x ∧ x < 18446744073709551616) : iAnd .u64 x 18446744073709551615 = x := by
  have := iAnd_mask x 64 (by decide)
  have e : x % 2 ^ 64 = x := Int.emod_eq_of_lt h.1 h.2
  rw [e] at this
  exact this

theorem and_zero (x : Int) (h : 0 ≤ x ∧ x < 18446744073709551616) : iAnd .u64 x 0 = 0 := by
  obtain ⟨a, rfl, ha⟩ := int_nat (N := 18446744073709551616) h
  have := iAnd_nat uns64 ha (b := 0) (by decide)
  rw [Nat.and_zero] at this
  exact this

theorem andNot_zero {x : Int} (h : 0 ≤ x ∧ x < 18446744073709551616) : iAndNot .u64 x 0 = x := by
  obtain ⟨a, rfl, ha⟩ := int_nat (N := 18446744073709551616) h
  unfold iAndNot
  rw [BitVec.toNat_and, uns_bv uns64 ha]
  have e : (~~~(BitVec.ofInt IntKind.u64.bits (0 : Int))).toNat = 2 ^ 64 - 1 := by kernel_rfl
  have : a &&& (2 ^ 64 - 1) = a := by
    rw [Nat.and_two_pow_sub_one_eq_mod]
    exact Nat.mod_eq_of_lt ha
  rw [e, this]
  exact uns_small uns64 ha

theorem andNot_ones {x : Int} : iAndNot .u64 x 18446744073709551615 = 0 := by
  unfold iAndNot
  rw [BitVec.toNat_and]
  have e : (~~~(BitVec.ofInt IntKind.u64.bits (18446744073709551615 : Int))).toNat = 0 := by kernel_rfl
  rw [e, Nat.and_zero]
  decide

theorem or_zero {x : Int} (h : 0 ≤ x ∧ x < 18446744073709551616) : iOr .u64 x 0 = x := by
  obtain ⟨a, rfl, ha⟩ := int_nat (N := 18446744073709551616) h
  have := iOr_nat uns64 ha (b := 0) (by decide)
  rw [Nat.or_zero] at this
  exact this

theorem zero_or {x : Int} (h : 0 ≤ x ∧ x < 18446744073709551616) : iOr .u64 0 x = x := by
  obtain ⟨a, rfl, ha⟩ := int_nat (N := 18446744073709551616) h
  have := iOr_nat uns64 (a := 0) (by decide) ha
  rw [Nat.zero_or] at this
  exact this

theorem F36_eq (p : Bool) (a b c d e a' b' c' d' e' : Int) : F36 p [a, b, c, d, e] [a', b', c', d', e'] =
    [iOr .u64 (iAnd .u64 a (sel p 18446744073709551615 0)) (iAndNot .u64 a' (sel p 18446744073709551615 0)), iOr .u64 (iAnd .u64 b (sel p 18446744073709551615 0)) (iAndNot .u64 b' (sel p 18446744073709551615 0)), iOr .u64 (iAnd .u64 c (sel p 18446744073709551615 0)) (iAndNot .u64 c' (sel p 18446744073709551615 0)), iOr .u64 (iAnd .u64 d (sel p 18446744073709551615 0)) (iAndNot .u64 d' (sel p 18446744073709551615 0)), iOr .u64 (iAnd .u64 e (sel p 18446744073709551615 0)) (iAndNot .u64 e' (sel p 18446744073709551615 0))] := by
  kernel_rfl

theorem pick_val {x y : List Int} (hx : Fe x) (hy : Fe y) (p : Bool) : F36 p x y = bif p then x else y := by
  obtain ⟨a, b, c, d, e, rfl, ha, hb, hc, hd, he⟩ := hx
  obtain ⟨a', b', c', d', e', rfl, ha', hb', hc', hd', he'⟩ := hy
  have t : ∀ u v : Int, (0 ≤ u ∧ u < 4503599627370496) → iOr .u64 (iAnd .u64 u 18446744073709551615) (iAndNot .u64 v 18446744073709551615) = u := by
    intro u v hu
    rw [andNot_ones, and_ones (by omega), or_zero (by omega)]
  have f : ∀ u v : Int, (0 ≤ u ∧ u < 4503599627370496) → (0 ≤ v ∧ v < 4503599627370496) → iOr .u64 (iAnd .u64 u 0) (iAndNot .u64 v 0) = v := by
    intro u v hu hv
    rw [and_zero _ (by omega), andNot_zero (by omega), zero_or (by omega)]
  rw [F36_eq]
  cases p
  · simp only [sel_false, f _ _ ha ha', f _ _ hb hb', f _ _ hc hc', f _ _ hd hd', f _ _ he he', cond_false]
  · simp only [sel_true, t _ _ ha, t _ _ hb, t _ _ hc, t _ _ hd, t _ _ he, cond_true]

theorem num_nat {b : List Int} (hb : Dig 256 b) : ∃ N : Nat, num 256 b = (N : Int) ∧ N < 2 ^ (8 * b.length) := by
  obtain ⟨h1, h2⟩ := num_bd (B := 256) (by decide) hb
  obtain ⟨N, hN⟩ := Int.eq_ofNat_of_zero_le h1
  refine ⟨N, hN, ?_⟩
  have e : (256 : Int) ^ b.length = ((2 ^ (8 * b.length) : Nat) : Int) := by
    rw [Nat.pow_mul, Int.natCast_pow]; rfl
  rw [hN, e] at h2
  exact Int.ofNat_lt.1 h2

theorem byte_bit {b : List Int} (hb : Dig 256 b) {N : Nat} (hN : num 256 b = (N : Int)) (j : Nat) : iAnd .u8 (iShr .u8 (b.getD (j / 8) 0) ((j % 8 : Nat) : Int)) 1 = ((N / 2 ^ j % 2 : Nat) : Int) := by
  have hd := getD_dig (B := 256) (by decide) hb (i := j / 8)
  rw [bit_at uns8 (by decide) (show j % 8 ≤ 8 by omega) hd, show b.getD (j / 8) 0 / 2 ^ (j % 8) % 2 = num 256 b / 2 ^ j % 2 from digit_bit (m := 8) (by decide) hb j, hN]
  rw [Int.natCast_emod, Int.natCast_ediv, Int.natCast_pow]
  rfl

theorem pow_val {x b : List Int} {v : Int} (hx : E x v) (hb : Dig 256 b) {N : Nat} (hN : num 256 b = (N : Int)) : E (F26 x b) (v ^ N) := by
  have hlt : N < 2 ^ (8 * b.length) := by
    obtain ⟨M, h1, h2⟩ := num_nat hb
    rw [hN] at h1
    have : N = M := by omega
    rw [this]; exact h2
  have key : ∀ k, k ≤ 8 * b.length → E (itr (F26l0 x b) k (F30 1)) (v ^ (N / 2 ^ (8 * b.length - k))) := by
    intro k
    induction k with
    | zero =>
      intro _
      rw [itr_zero, Nat.sub_zero, Nat.div_eq_of_lt hlt, Int.pow_zero]
      exact E_small (by decide)
    | succ k ih =>
      intro hk
      have h := ih (by omega)
      rw [itr_succ]
      generalize itr (F26l0 x b) k (F30 1) = z at *
      unfold F26l0
      have ej : 8 * b.length - 1 - k = 8 * b.length - (k + 1) := by omega
      rw [byte_bit hb hN, ej]
      have e1 : N / 2 ^ (8 * b.length - k) = N / 2 ^ (8 * b.length - (k + 1)) / 2 := by
        rw [Nat.div_div_eq_div_mul, ← Nat.pow_succ]
        congr 2
        omega
      rw [e1] at h
      generalize N / 2 ^ (8 * b.length - (k + 1)) = n at *
      have hsq := E_mul h h
      rw [← Int.pow_add] at hsq
      rcases Nat.mod_two_eq_zero_or_one n with h0 | h0
      · rw [h0]
        have : (((0 : Nat) : Int) == 1) = false := rfl
        rw [this, sel_false]
        have : n / 2 + n / 2 = n := by omega
        rw [this] at hsq
        exact hsq
      · rw [h0]
        have : (((1 : Nat) : Int) == 1) = true := rfl
        rw [this, sel_true]
        have hm := E_mul hsq hx
        rw [← Int.pow_succ] at hm
        have : (n / 2 + n / 2).succ = n := by omega
        rw [this] at hm
        exact hm
  have := key (8 * b.length) (Nat.le_refl _)
  rw [Nat.sub_self, Nat.pow_zero, Nat.div_one] at this
  exact this
end Go.Vm
