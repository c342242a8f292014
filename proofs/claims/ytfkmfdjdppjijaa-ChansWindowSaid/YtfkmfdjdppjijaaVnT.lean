/- The machine's arithmetic in plain numbers. -/
import Derived.Test.YtfkmfdjdppjijaaVnS
set_option linter.unusedVariables false
set_option linter.unusedSimpArgs false
namespace Go.Vm
open Go

theorem wrap_u64 (x : Int) : IntKind.wrap .u64 x = x % 18446744073709551616 := by
  simp [IntKind.wrap, IntKind.signed, IntKind.bits]
theorem wrap_u32 (x : Int) : IntKind.wrap .u32 x = x % 4294967296 := by
  simp [IntKind.wrap, IntKind.signed, IntKind.bits]
theorem wrap_u8 (x : Int) : IntKind.wrap .u8 x = x % 256 := by
  simp [IntKind.wrap, IntKind.signed, IntKind.bits]

theorem wrap64_nn (x : Int) : 0 ≤ IntKind.wrap .u64 x := by rw [wrap_u64]; omega
theorem iAnd_nn (x y : Int) : 0 ≤ iAnd .u64 x y := wrap64_nn _
theorem iSub_nn (x y : Int) : 0 ≤ iSub .u64 x y := wrap64_nn _
theorem iAdd_u64 (x y : Int) : iAdd .u64 x y = (x + y) % 18446744073709551616 := wrap_u64 _
theorem iSub_u64 (x y : Int) : iSub .u64 x y = (x - y) % 18446744073709551616 := wrap_u64 _
theorem iMul_u64 (x y : Int) : iMul .u64 x y = (x * y) % 18446744073709551616 := wrap_u64 _
theorem iAdd_i64 {x y : Int} (h : -9223372036854775808 ≤ x + y) (h' : x + y < 9223372036854775808) : iAdd .i64 x y = x + y := wrap_small h h'
theorem iSub_i64 {x y : Int} (h : -9223372036854775808 ≤ x - y) (h' : x - y < 9223372036854775808) : iSub .i64 x y = x - y := wrap_small h h'
theorem iMul_i64 {x y : Int} (h : -9223372036854775808 ≤ x * y) (h' : x * y < 9223372036854775808) : iMul .i64 x y = x * y := wrap_small h h'

theorem iShr_at (k : IntKind) (x : Int) (n : Nat) (h : n ≤ k.bits) : iShr k x (n : Int) = x / 2 ^ n := by
  unfold iShr
  have : min ((n : Int)).toNat k.bits = n := by simp; omega
  rw [this]
  exact Int.fdiv_eq_ediv_of_nonneg _ (by exact Int.le_of_lt (Int.pow_pos (by omega)))

theorem iShl_at (k : IntKind) (x : Int) (n : Nat) (h : n ≤ k.bits) : iShl k x (n : Int) = k.wrap (x * 2 ^ n) := by
  unfold iShl
  have : min ((n : Int)).toNat k.bits = n := by simp; omega
  rw [this]

theorem iAnd_mask (x : Int) (n : Nat) (h : n ≤ 64) : iAnd .u64 x (2 ^ n - 1 : Nat) = x % 2 ^ n := by
  unfold iAnd
  rw [wrap_u64]
  show (((BitVec.ofInt 64 x &&& BitVec.ofInt 64 ((2 ^ n - 1 : Nat) : Int)).toNat : Nat) : Int) % 18446744073709551616 = x % 2 ^ n
  rw [BitVec.toNat_and]
  have h2 : (BitVec.ofInt 64 ((2 ^ n - 1 : Nat) : Int)).toNat = 2 ^ n - 1 := by
    rw [BitVec.ofInt_natCast, BitVec.toNat_ofNat]
    exact Nat.mod_eq_of_lt (by have := Nat.pow_le_pow_right (n := 2) (by omega) h; have : 0 < 2 ^ n := Nat.pow_pos (by omega); omega)
  rw [h2, Nat.and_two_pow_sub_one_eq_mod]
  have h3 : ((BitVec.ofInt 64 x).toNat : Int) = x % 18446744073709551616 := by
    rw [BitVec.toNat_ofInt]
    have : 0 ≤ x % ((2 ^ 64 : Nat) : Int) := Int.emod_nonneg _ (by simp)
    rw [Int.toNat_of_nonneg this]
    rfl
  have h4 : (((BitVec.ofInt 64 x).toNat % 2 ^ n : Nat) : Int) = x % 2 ^ n := by
    rw [Int.natCast_emod, h3]
    have h5 : ((2 ^ n : Nat) : Int) = (2 : Int) ^ n := by simp
    rw [h5]
    apply Int.emod_emod_of_dvd
    have : (18446744073709551616 : Int) = 2 ^ 64 := by rfl
    rw [this]
    exact pow_dvd h
  rw [h4]
  apply Int.emod_eq_of_lt
  · exact Int.emod_nonneg _ (by have : (0 : Int) < 2 ^ n := Int.pow_pos (by omega); omega)
  · have h6 : (0 : Int) < 2 ^ n := Int.pow_pos (by omega)
    have h7 := Int.emod_lt_of_pos x h6
    have h8 : (2 : Int) ^ n ≤ 2 ^ 64 := by
      have := Nat.pow_le_pow_right (n := 2) (by omega) h
      have h9 : (((2 ^ n : Nat)) : Int) ≤ ((2 ^ 64 : Nat) : Int) := by exact_mod_cast this
      simpa using h9
    have : (18446744073709551616 : Int) = 2 ^ 64 := by rfl
    omega
where
  pow_dvd {n m : Nat} (h : n ≤ m) : (2 : Int) ^ n ∣ 2 ^ m := ⟨2 ^ (m - n), by rw [← Int.pow_add]; congr 1; omega⟩

/-- The whole product, in two words. -/
def mulHi (x y : Int) : Int := x * y / 18446744073709551616
def mulLo (x y : Int) : Int := x * y % 18446744073709551616

theorem getD_set_ne {xs : List Int} {i j : Nat} {v d : Int} (h : i ≠ j) : (xs.set i v).getD j d = xs.getD j d := by
  simp [List.getD_eq_getElem?_getD, List.getElem?_set, h]
theorem getD_set_eq {xs : List Int} {i : Nat} {v d : Int} (h : i < xs.length) : (xs.set i v).getD i d = v := by
  simp [List.getD_eq_getElem?_getD, List.getElem?_set, h]

theorem mulHi_nonneg {x y : Int} (hx : 0 ≤ x) (hy : 0 ≤ y) : 0 ≤ mulHi x y := Int.ediv_nonneg (Int.mul_nonneg hx hy) (by omega)

theorem mul64_hi (x y : Int) (hx : 0 ≤ x) (hx' : x < 18446744073709551616) (hy : 0 ≤ y) (hy' : y < 18446744073709551616) :
    (iAdd .u64 (iAdd .u64 (iMul .u64 (iShr .u64 x 32) (iShr .u64 y 32)) (iShr .u64 (iAdd .u64 (iMul .u64 (iShr .u64 x 32) (iAnd .u64 y 4294967295)) (iShr .u64 (iMul .u64 (iAnd .u64 x 4294967295) (iAnd .u64 y 4294967295)) 32)) 32)) (iShr .u64 (iAdd .u64 (iAnd .u64 (iAdd .u64 (iMul .u64 (iShr .u64 x 32) (iAnd .u64 y 4294967295)) (iShr .u64 (iMul .u64 (iAnd .u64 x 4294967295) (iAnd .u64 y 4294967295)) 32)) 4294967295) (iMul .u64 (iAnd .u64 x 4294967295) (iShr .u64 y 32))) 32)) = mulHi x y := by
  have s : ∀ z : Int, iShr .u64 z 32 = z / 4294967296 := fun z => iShr_at .u64 z 32 (by decide)
  have m : ∀ z : Int, iAnd .u64 z 4294967295 = z % 4294967296 := fun z => iAnd_mask z 32 (by decide)
  simp only [s, m, iAdd_u64, iMul_u64, mulHi]
  have ex : x = x / 4294967296 * 4294967296 + x % 4294967296 := by omega
  have ey : y = y / 4294967296 * 4294967296 + y % 4294967296 := by omega
  have h1 : 0 ≤ x / 4294967296 ∧ x / 4294967296 ≤ 4294967295 := by omega
  have h2 : 0 ≤ x % 4294967296 ∧ x % 4294967296 ≤ 4294967295 := by omega
  have h3 : 0 ≤ y / 4294967296 ∧ y / 4294967296 ≤ 4294967295 := by omega
  have h4 : 0 ≤ y % 4294967296 ∧ y % 4294967296 ≤ 4294967295 := by omega
  generalize x / 4294967296 = x1 at *
  generalize x % 4294967296 = x0 at *
  generalize y / 4294967296 = y1 at *
  generalize y % 4294967296 = y0 at *
  have bound : ∀ u v : Int, 0 ≤ u ∧ u ≤ 4294967295 → 0 ≤ v ∧ v ≤ 4294967295 → 0 ≤ u * v ∧ u * v ≤ 18446744065119617025 := by
    intro u v hu hv
    refine ⟨Int.mul_nonneg hu.1 hv.1, ?_⟩
    have := Int.mul_le_mul hu.2 hv.2 hv.1 (by omega)
    simpa using this
  have b1 := bound x1 y1 h1 h3
  have b2 := bound x1 y0 h1 h4
  have b3 := bound x0 y1 h2 h3
  have b4 := bound x0 y0 h2 h4
  have exy : x * y = x1 * y1 * 18446744073709551616 + (x1 * y0 + x0 * y1) * 4294967296 + x0 * y0 := by
    rw [ex, ey]; grind
  rw [exy]
  clear exy ex ey bound
  generalize x1 * y1 = a at *
  generalize x1 * y0 = b at *
  generalize x0 * y1 = c at *
  generalize x0 * y0 = d at *
  omega

end Go.Vm
