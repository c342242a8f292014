import Derived.Test.YtcfpmiiaicfcnaaWkB
import Derived.Test.YtcfpmiiaicfcnaaN1
set_option linter.unusedVariables false
namespace Go.Vm
open Go

/-- The number that five limbs are. -/
def val5 : List Int → Int
  | [a, b, c, d, e] => a + b * 2251799813685248 + c * 5070602400912917605986812821504 + d * 11417981541647679048466287755595961091061972992 + e * 25711008708143844408671393477458601640355247900524685364822016
  | _ => 0

/-- Five limbs, each below a bound. -/
def Lim (B : Int) (xs : List Int) : Prop := ∃ a b c d e, xs = [a, b, c, d, e] ∧ (0 ≤ a ∧ a < B) ∧ (0 ≤ b ∧ b < B) ∧ (0 ≤ c ∧ c < B) ∧ (0 ≤ d ∧ d < B) ∧ (0 ≤ e ∧ e < B)

theorem shr51 (x : Int) : iShr .u64 x 51 = x / 2251799813685248 := iShr_at .u64 x 51 (by decide)
theorem and51 (x : Int) : iAnd .u64 x 2251799813685247 = x % 2251799813685248 := iAnd_mask x 51 (by decide)

theorem thin_val {a b c d e : Int} (ha : 0 ≤ a ∧ a < 9223372036854775808) (hb : 0 ≤ b ∧ b < 9223372036854775808) (hc : 0 ≤ c ∧ c < 9223372036854775808) (hd : 0 ≤ d ∧ d < 9223372036854775808) (he : 0 ≤ e ∧ e < 9223372036854775808) :
    ∃ q r0 r1 r2 r3 r4 : Int, F45 [a, b, c, d, e] = [r0, r1, r2, r3, r4] ∧ (0 ≤ r0 ∧ r0 < 2251799813685248 + 19 * 4097) ∧ (0 ≤ r1 ∧ r1 < 2251799813685248) ∧ (0 ≤ r2 ∧ r2 < 2251799813685248) ∧ (0 ≤ r3 ∧ r3 < 2251799813685248) ∧ (0 ≤ r4 ∧ r4 < 2251799813685248) ∧
      val5 [a, b, c, d, e] = val5 [r0, r1, r2, r3, r4] + q * 57896044618658097711785492504343953926634992332820282019728792003956564819949 := by
  have e1 : t1 a = a := by unfold t1; rw [iAdd_u64]; omega
  have e2 : t2 a b = b + a / 2251799813685248 := by unfold t2; rw [e1, iAdd_u64, shr51]; omega
  have e3 : t3 a b c = c + (b + a / 2251799813685248) / 2251799813685248 := by unfold t3; rw [e2, iAdd_u64, shr51]; omega
  have e4 : t4 a b c d = d + (c + (b + a / 2251799813685248) / 2251799813685248) / 2251799813685248 := by unfold t4; rw [e3, iAdd_u64, shr51]; omega
  have e5 : t5 a b c d e = e + (d + (c + (b + a / 2251799813685248) / 2251799813685248) / 2251799813685248) / 2251799813685248 := by unfold t5; rw [e4, iAdd_u64, shr51]; omega
  rw [F45_eq]
  simp only [lo51, and51, shr51, e1, e2, e3, e4, e5, iAdd_u64, iMul_u64]
  generalize ha' : a / 2251799813685248 = a1
  generalize hb' : (b + a1) / 2251799813685248 = b1
  generalize hc' : (c + b1) / 2251799813685248 = c1
  generalize hd' : (d + c1) / 2251799813685248 = d1
  generalize he' : (e + d1) / 2251799813685248 = e6
  clear e1 e2 e3 e4 e5
  have h1 : 0 ≤ a1 ∧ a1 ≤ 4095 := by omega
  have h2 : 0 ≤ b1 ∧ b1 ≤ 4096 := by omega
  have h3 : 0 ≤ c1 ∧ c1 ≤ 4096 := by omega
  have h4 : 0 ≤ d1 ∧ d1 ≤ 4096 := by omega
  have h5 : 0 ≤ e6 ∧ e6 ≤ 4096 := by omega
  have h6 : 19 * e6 % 18446744073709551616 = 19 * e6 := Int.emod_eq_of_lt (by omega) (by omega)
  have h7 : (a % 2251799813685248 + 19 * e6) % 18446744073709551616 = a % 2251799813685248 + 19 * e6 := Int.emod_eq_of_lt (by omega) (by omega)
  rw [h6, h7]
  refine ⟨e6, _, _, _, _, _, rfl, ?_, ?_, ?_, ?_, ?_, ?_⟩
  · omega
  · omega
  · omega
  · omega
  · omega
  · simp only [val5]
    omega

abbrev PP : Int := 57896044618658097711785492504343953926634992332820282019728792003956564819949

/-- Limbs as the functions hand them on. -/
def Fe (xs : List Int) : Prop := ∃ a b c d e, xs = [a, b, c, d, e] ∧ (0 ≤ a ∧ a < 4503599627370496) ∧ (0 ≤ b ∧ b < 4503599627370496) ∧ (0 ≤ c ∧ c < 4503599627370496) ∧ (0 ≤ d ∧ d < 4503599627370496) ∧ (0 ≤ e ∧ e < 4503599627370496)

theorem modP {x y q : Int} (h : x = y + q * PP) : x % PP = y % PP := by
  rw [h, Int.add_mul_emod_self_right]

theorem F16_eq (a b c d e a' b' c' d' e' : Int) : F16 [a, b, c, d, e] [a', b', c', d', e'] = F45 [iAdd .u64 a a', iAdd .u64 b b', iAdd .u64 c c', iAdd .u64 d d', iAdd .u64 e e'] := by
  unfold F16
  congr 1
  kernel_rfl

theorem add_val {x y : List Int} (hx : Fe x) (hy : Fe y) : Fe (F16 x y) ∧ val5 (F16 x y) % PP = (val5 x + val5 y) % PP := by
  obtain ⟨a, b, c, d, e, rfl, ha, hb, hc, hd, he⟩ := hx
  obtain ⟨a', b', c', d', e', rfl, ha', hb', hc', hd', he'⟩ := hy
  have s : ∀ u v : Int, (0 ≤ u ∧ u < 4503599627370496) → (0 ≤ v ∧ v < 4503599627370496) → iAdd .u64 u v = u + v := by
    intro u v hu hv
    rw [iAdd_u64]; exact Int.emod_eq_of_lt (by omega) (by omega)
  rw [F16_eq, s a a' ha ha', s b b' hb hb', s c c' hc hc', s d d' hd hd', s e e' he he']
  obtain ⟨q, r0, r1, r2, r3, r4, h, h0, h1, h2, h3, h4, hv⟩ := thin_val (a := a + a') (b := b + b') (c := c + c') (d := d + d') (e := e + e') (by omega) (by omega) (by omega) (by omega) (by omega)
  rw [h]
  refine ⟨⟨r0, r1, r2, r3, r4, rfl, by omega, by omega, by omega, by omega, by omega⟩, ?_⟩
  have : val5 [a, b, c, d, e] + val5 [a', b', c', d', e'] = val5 [r0, r1, r2, r3, r4] + q * PP := by
    rw [← hv]; simp only [val5]; omega
  exact (modP this).symm

theorem F18_eq (a b c d e r0 r1 r2 r3 r4 : Int) {y : List Int} (h : F45 y = [r0, r1, r2, r3, r4]) : F18 [a, b, c, d, e] y = F45 [iAdd .u64 a (iSub .u64 9007199254740916 r0), iAdd .u64 b (iSub .u64 9007199254740988 r1), iAdd .u64 c (iSub .u64 9007199254740988 r2), iAdd .u64 d (iSub .u64 9007199254740988 r3), iAdd .u64 e (iSub .u64 9007199254740988 r4)] := by
  unfold F18 F18l0
  rw [h]
  congr 1
  kernel_rfl

theorem sub_val {x y : List Int} (hx : Fe x) (hy : Fe y) : Fe (F18 x y) ∧ val5 (F18 x y) % PP = (val5 x - val5 y) % PP := by
  obtain ⟨a, b, c, d, e, rfl, ha, hb, hc, hd, he⟩ := hx
  obtain ⟨a', b', c', d', e', rfl, ha', hb', hc', hd', he'⟩ := hy
  obtain ⟨q', r0', r1', r2', r3', r4', h', h0', h1', h2', h3', h4', hv'⟩ := thin_val (a := a') (b := b') (c := c') (d := d') (e := e') (by omega) (by omega) (by omega) (by omega) (by omega)
  have s : ∀ k u v : Int, (9007199254740916 ≤ k ∧ k ≤ 9007199254740988) → (0 ≤ u ∧ u < 4503599627370496) → (0 ≤ v ∧ v < 4503599627370496) → iAdd .u64 u (iSub .u64 k v) = u + (k - v) := by
    intro k u v hk hu hv
    rw [iAdd_u64, iSub_u64, Int.emod_eq_of_lt (a := k - v) (by omega) (by omega)]; exact Int.emod_eq_of_lt (by omega) (by omega)
  rw [F18_eq a b c d e r0' r1' r2' r3' r4' h', s _ a r0' (by decide) ha (by omega), s _ b r1' (by decide) hb (by omega), s _ c r2' (by decide) hc (by omega), s _ d r3' (by decide) hd (by omega), s _ e r4' (by decide) he (by omega)]
  obtain ⟨q, r0, r1, r2, r3, r4, h, h0, h1, h2, h3, h4, hv⟩ := thin_val (a := a + (9007199254740916 - r0')) (b := b + (9007199254740988 - r1')) (c := c + (9007199254740988 - r2')) (d := d + (9007199254740988 - r3')) (e := e + (9007199254740988 - r4')) (by omega) (by omega) (by omega) (by omega) (by omega)
  rw [h]
  refine ⟨⟨r0, r1, r2, r3, r4, rfl, by omega, by omega, by omega, by omega, by omega⟩, ?_⟩
  have : val5 [a, b, c, d, e] - val5 [a', b', c', d', e'] = val5 [r0, r1, r2, r3, r4] + (q - q' - 4) * PP := by
    simp only [val5, PP] at hv hv' ⊢
    omega
  exact (modP this).symm
end Go.Vm
