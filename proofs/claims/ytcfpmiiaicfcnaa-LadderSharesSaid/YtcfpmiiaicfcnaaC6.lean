/- The order of the base point 9. -/
import Derived.Test.YtcfpmiiaicfcnaaC3
set_option linter.unusedVariables false
set_option maxRecDepth 100000
namespace Tabn

theorem lp_0 : IsPrime 2551 := prime_of_smallPrime (by decide) (by decide +kernel)
theorem lp_1 : IsPrime 1224481 := pock1 (q := 2551) (a := 2) (t := 480) (f := 22) lp_0 (by decide +kernel) (by decide +kernel) (by decide +kernel) (by decide +kernel) (by decide +kernel) (by decide +kernel)
theorem lp_2 : IsPrime 3797 := prime_of_smallPrime (by decide) (by decide +kernel)
theorem lp_3 : IsPrime 531581 := pock1 (q := 3797) (a := 2) (t := 140) (f := 21) lp_2 (by decide +kernel) (by decide +kernel) (by decide +kernel) (by decide +kernel) (by decide +kernel) (by decide +kernel)
theorem lp_4 : IsPrime 1257559732178653 := pock2 (q := 1224481) (q' := 531581) (a := 2) (t := 1027014492) (t' := 2365697292) (f := 52) lp_1 lp_3 (by decide +kernel) (by decide +kernel) (by decide +kernel) (by decide +kernel) (by decide +kernel) (by decide +kernel) (by decide +kernel) (by decide +kernel) (by decide +kernel)
theorem lp_5 : IsPrime 4434155615661930479 := pock1 (q := 1257559732178653) (a := 2) (t := 3526) (f := 63) lp_4 (by decide +kernel) (by decide +kernel) (by decide +kernel) (by decide +kernel) (by decide +kernel) (by decide +kernel)
theorem lp_6 : IsPrime 172054593956031949258510691 := pock1 (q := 4434155615661930479) (a := 2) (t := 38802110) (f := 89) lp_5 (by decide +kernel) (by decide +kernel) (by decide +kernel) (by decide +kernel) (by decide +kernel) (by decide +kernel)
theorem lp_7 : IsPrime 19757330305831588566944191468367130476339 := pock1 (q := 172054593956031949258510691) (a := 2) (t := 114831751082918) (f := 135) lp_6 (by decide +kernel) (by decide +kernel) (by decide +kernel) (by decide +kernel) (by decide +kernel) (by decide +kernel)
theorem lp_8 : IsPrime 276602624281642239937218680557139826668747 := pock1 (q := 19757330305831588566944191468367130476339) (a := 2) (t := 14) (f := 139) lp_7 (by decide +kernel) (by decide +kernel) (by decide +kernel) (by decide +kernel) (by decide +kernel) (by decide +kernel)
theorem lp_9 : IsPrime 7237005577332262213973186563042994240857116359379907606001950938285454250989 := pock1 (q := 276602624281642239937218680557139826668747) (a := 2) (t := 26163907866482859529727157400808004) (f := 254) lp_8 (by decide +kernel) (by decide +kernel) (by decide +kernel) (by decide +kernel) (by decide +kernel) (by decide +kernel)

def L : Nat := 7237005577332262213973186563042994240857116359379907606001950938285454250989
theorem prime_L : IsPrime L := lp_9
theorem L_lt : L < 2 ^ 255 := by decide

theorem ladL : (lad L 9 255).2.1 = 0 := by decide +kernel
/-- Two secrets, one after the other. -/
theorem two_secrets : (lad 28948022309329048855892746252171976963317496166410141009864396001978282409984 9 255).1 * (lad 28948022309329048855892746252171976963317496166410141009864396001978399850496 9 255).2.1 ≠
    (lad 28948022309329048855892746252171976963317496166410141009864396001978399850496 9 255).1 * (lad 28948022309329048855892746252171976963317496166410141009864396001978282409984 9 255).2.1 := by decide +kernel
theorem secret_1 : (lad 28948022309329048855892746252171976963317496166410141009864396001978282409984 9 255).2.1 ≠ 0 := by decide +kernel
theorem secret_2 : (lad 28948022309329048855892746252171976963317496166410141009864396001978399850496 9 255).2.1 ≠ 0 := by decide +kernel
set_option maxRecDepth 512

theorem cross {X1 Z1 X2 Z2 : F} (h1 : Z1 ≠ 0) (h2 : Z2 ≠ 0) (h : X1 * finv Z1 = X2 * finv Z2) : X1 * Z2 = X2 * Z1 := by
  have i1 := finv_mul h1
  have i2 := finv_mul h2
  generalize finv Z1 = p at *
  generalize finv Z2 = q at *
  clear h1 h2
  have e1 : X1 * Z2 = (X1 * p) * (Z1 * Z2) := by
    have : (X1 * p) * (Z1 * Z2) = X1 * Z2 * (Z1 * p) := by clear h i1 i2; grind -lia -linarith
    rw [this, i1]; clear this h i1 i2; grind -lia -linarith
  have e2 : X2 * Z1 = (X2 * q) * (Z1 * Z2) := by
    have : (X2 * q) * (Z1 * Z2) = X2 * Z1 * (Z2 * q) := by clear h i1 i2 e1; grind -lia -linarith
    rw [this, i2]; clear this h i1 i2 e1; grind -lia -linarith
  rw [e1, e2, h]

theorem Um_two : Um 28948022309329048855892746252171976963317496166410141009864396001978282409984 9 ≠ Um 28948022309329048855892746252171976963317496166410141009864396001978399850496 9 := by
  intro h
  exact two_secrets (cross secret_1 secret_2 h)

theorem Pt.mul_gcd {C : Crv} {p : Pt C} : ∀ m n, Pt.mul m p = Pt.zero C → Pt.mul n p = Pt.zero C → Pt.mul (Nat.gcd m n) p = Pt.zero C := by
  intro m n
  induction m, n using Nat.gcd.induction with
  | H0 n => intro _ h; rw [Nat.gcd_zero_left]; exact h
  | H1 m n hm ih =>
    intro h1 h2
    rw [Nat.gcd_rec]
    apply ih _ h1
    have e : n = (n / m) * m + n % m := by rw [Nat.mul_comm]; exact (Nat.div_add_mod n m).symm
    rw [e, Pt.add_mul, Pt.mul_mul, h1, Pt.mul_zero, Pt.zero_add] at h2
    exact h2

theorem zero_of_y {C : Crv} {p : Pt C} (h : p.y = 1) : p = Pt.zero C := by
  have hx : p.x = 0 := y_one (by rw [h]; decide)
  exact Pt.eq hx h

theorem order_div {C : Crv} {s k : F} (hM : Mnt C s k) (b : Pt C) (hb : 9 * (1 - b.y) = s * (1 + b.y)) (b1 : 1 - b.y ≠ 0) (b2 : 1 + b.y ≠ 0) {m : Nat} (h : Pt.mul m b = Pt.zero C) : L ∣ m := by
  have hL : Pt.mul L b = Pt.zero C := by
    have h1 := (lad_curve hM b hb b1 b2 L L_lt 255 (Nat.le_refl _)).1
    rw [Nat.sub_self, Nat.pow_zero, Nat.div_one] at h1
    obtain ⟨l, hl, hX, hZ⟩ := h1
    rw [ladL] at hZ
    rcases fmul_zero hZ.symm with h2 | h2
    · exact absurd h2 hl
    · exact zero_of_y (al12 h2)
  rcases prime_L.2 (Nat.gcd m L) (Nat.gcd_dvd_right m L) with h1 | h1
  · exfalso
    have h2 := Pt.mul_gcd m L h hL
    rw [h1, Pt.mul_one] at h2
    apply b1
    rw [h2]
    exact fsub11
  · exact h1 ▸ Nat.gcd_dvd_left m L

theorem no_div {N : Nat} (h8 : N % 8 = 0) (h0 : 0 < N) (h1 : N < 2 ^ 255) : ¬ L ∣ N := by
  intro h
  have e : N = 8 * (N / 8) := by omega
  rw [e] at h
  rcases prime_L.dvd_mul h with h2 | h2
  · have := Nat.le_of_dvd (by decide) h2
    have : ¬ L ≤ 8 := by decide
    contradiction
  · have h3 := Nat.le_of_dvd (by omega) h2
    have e255 : (2 : Nat) ^ 255 = 57896044618658097711785492504343953926634992332820282019728792003956564819968 := rfl
    rw [e255] at h1
    unfold L at h3
    omega

/-- Two trimmed secrets of the base point never make nothing. -/
theorem Um_ne (N M : Nat) (hN : N % 8 = 0) (hN0 : 0 < N) (hN1 : N < 2 ^ 255) (hM : M % 8 = 0) (hM0 : 0 < M) (hM1 : M < 2 ^ 255) : Um M (Um N 9) ≠ 0 := by
  intro h
  obtain ⟨C, s, k, b, h1, h2, h3, h4⟩ := on_some 9 (by decide)
  obtain ⟨M', rfl⟩ : ∃ M', M = 2 * M' := ⟨M / 2, by omega⟩
  rw [Um_Um h1 b h2 h3 h4 N M' hN1 hM1] at h
  have h5 := two_zero h1.ss h
  rw [← Pt.mul_mul, ← Pt.add_mul] at h5
  have h6 := order_div h1 b h2 h3 h4 h5
  have e : 2 * M' * N + 2 * M' * N = 2 * (2 * M' * N) := by omega
  rw [e] at h6
  rcases prime_L.dvd_mul h6 with h7 | h7
  · have := Nat.le_of_dvd (by decide) h7
    have : ¬ L ≤ 2 := by decide
    contradiction
  · rcases prime_L.dvd_mul h7 with h8 | h8
    · exact no_div hM hM0 hM1 h8
    · exact no_div hN hN0 hN1 h8

theorem dbl_zero {C : Crv} {p : Pt C} (hy : p.y * p.y = 1) : p.add p = Pt.zero C := by
  have hx := y_one hy
  apply add_eq
  · show 0 * _ = _; rw [hx]; exact (al13 (a := C.a) hy).1
  · show 1 * _ = _; rw [hx]; exact (al13 (a := C.a) hy).2

theorem al14 {s y : F} (ss : s * s = 1) (h : 1 * (1 - y) = s * (1 + y)) : y = 0 := by
  rcases sq_one ss with h1 | h1
  · rw [h1] at h
    exact ftwo (by clear ss h1; grind -lia -linarith)
  · rw [h1] at h
    exfalso
    apply two_ne
    have e : (2 : F) = 1 * (1 - y) + (1 + y) := by clear h ss h1; grind -lia -linarith
    rw [e, h]
    clear h ss h1 e
    grind -lia -linarith
theorem al15 {a x y : F} {d : F} (on : a * x ^ 2 + 0 ^ 2 = 1 + d * x ^ 2 * 0 ^ 2) (h : y * (1 - d * x * x * 0 * 0) = 0 * 0 - a * x * x) : y * y = 1 := by
  have e1 : a * x ^ 2 = 1 := by clear h; grind -lia -linarith
  have e2 : y = -(a * x ^ 2) := by clear on e1; grind -lia -linarith
  rw [e2, e1]; decide

/-- Of the point with the coordinate 1 a fourfold is nothing. -/
theorem Um_one (N : Nat) (hN : N % 8 = 0) (h1 : N < 2 ^ 255) : Um N 1 = 0 := by
  obtain ⟨C, s, k, b, g1, g2, g3, g4⟩ := on_some 1 (by decide)
  rw [Um_curve g1 b g2 g3 g4 N h1]
  have hy := al14 g1.ss g2
  have h2 : (b.add b).y * (b.add b).y = 1 := by
    have on := b.on
    have ha := add_y b b
    unfold On at on
    rw [hy] at on ha
    exact al15 on ha
  have h4 := dbl_zero h2
  have e4 : Pt.mul 4 b = Pt.zero C := by
    have e : Pt.mul 4 b = (Pt.mul 2 b).add (Pt.mul 2 b) := Pt.add_mul 2 2 b
    have e2 : Pt.mul 2 b = b.add b := by show ((Pt.zero C).add b).add b = _; rw [Pt.zero_add]
    rw [e, e2, h4]
  have eN : N = (N / 4) * 4 := by omega
  rw [eN, Pt.mul_mul, e4, Pt.mul_zero]
  exact uco_zero s
end Tabn
