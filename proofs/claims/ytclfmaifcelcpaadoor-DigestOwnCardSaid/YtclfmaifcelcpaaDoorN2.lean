import Derived.Test.YtclfmaifcelcpaaDoorN1
set_option linter.unusedVariables false
namespace Go.Vm
open Go

/-- A kind without a sign: its numbers are those below N. -/
structure Uns (k : IntKind) (N : Nat) : Prop where
  bits : 2 ^ k.bits = N
  wrap : ∀ x, k.wrap x = x % (N : Int)

theorem uns8 : Uns .u8 256 := ⟨rfl, wrap_u8⟩
theorem uns32 : Uns .u32 4294967296 := ⟨rfl, wrap_u32⟩
theorem uns64 : Uns .u64 18446744073709551616 := ⟨rfl, wrap_u64⟩

theorem uns_bv {k : IntKind} {N : Nat} (h : Uns k N) {a : Nat} (ha : a < N) : (BitVec.ofInt k.bits (a : Int)).toNat = a := by
  rw [BitVec.ofInt_natCast, BitVec.toNat_ofNat, h.bits, Nat.mod_eq_of_lt ha]

theorem uns_small {k : IntKind} {N : Nat} (h : Uns k N) {a : Nat} (ha : a < N) : k.wrap (a : Int) = (a : Int) := by
  rw [h.wrap]; exact Int.emod_eq_of_lt (by omega) (by omega)

theorem iOr_nat {k : IntKind} {N : Nat} (h : Uns k N) {a b : Nat} (ha : a < N) (hb : b < N) : iOr k (a : Int) (b : Int) = ((a ||| b : Nat) : Int) := by
  have : a ||| b < N := by rw [← h.bits] at *; exact Nat.or_lt_two_pow ha hb
  unfold iOr
  rw [BitVec.toNat_or, uns_bv h ha, uns_bv h hb, uns_small h this]

theorem iAnd_nat {k : IntKind} {N : Nat} (h : Uns k N) {a b : Nat} (ha : a < N) (hb : b < N) : iAnd k (a : Int) (b : Int) = ((a &&& b : Nat) : Int) := by
  have : a &&& b < N := by have := Nat.and_le_left (n := a) (m := b); omega
  unfold iAnd
  rw [BitVec.toNat_and, uns_bv h ha, uns_bv h hb, uns_small h this]

theorem iXor_nat {k : IntKind} {N : Nat} (h : Uns k N) {a b : Nat} (ha : a < N) (hb : b < N) : iXor k (a : Int) (b : Int) = ((a ^^^ b : Nat) : Int) := by
  have : a ^^^ b < N := by rw [← h.bits] at *; exact Nat.xor_lt_two_pow ha hb
  unfold iXor
  rw [BitVec.toNat_xor, uns_bv h ha, uns_bv h hb, uns_small h this]

theorem int_nat {x : Int} {N : Nat} (h : 0 ≤ x ∧ x < (N : Int)) : ∃ a : Nat, x = (a : Int) ∧ a < N := by
  obtain ⟨a, rfl⟩ := Int.eq_ofNat_of_zero_le h.1
  exact ⟨a, rfl, by omega⟩

theorem iAnd_one {k : IntKind} {N : Nat} (h : Uns k N) (hN : 1 < N) {x : Int} (hx : 0 ≤ x ∧ x < (N : Int)) : iAnd k x 1 = x % 2 := by
  obtain ⟨a, rfl, ha⟩ := int_nat hx
  have := iAnd_nat h ha hN
  rw [Nat.and_one_is_mod] at this
  exact this

theorem iOr_low {k : IntKind} {N : Nat} (h : Uns k N) {u v : Int} {n : Nat} (hu : 0 ≤ u) (hv : 0 ≤ v) (hv' : v < 2 ^ n) (hb : v + u * 2 ^ n < (N : Int)) : iOr k v (u * 2 ^ n) = v + u * 2 ^ n := by
  obtain ⟨a, rfl⟩ := Int.eq_ofNat_of_zero_le hu
  obtain ⟨b, rfl⟩ := Int.eq_ofNat_of_zero_le hv
  have e : ((a : Int) * 2 ^ n) = ((a * 2 ^ n : Nat) : Int) := by rw [Int.natCast_mul, Int.natCast_pow]; rfl
  have e2 : ((2 : Int) ^ n) = ((2 ^ n : Nat) : Int) := by rw [Int.natCast_pow]; rfl
  rw [e] at hb ⊢
  rw [e2] at hv'
  rw [iOr_nat h (by omega) (by omega)]
  have : b ||| a * 2 ^ n = a * 2 ^ n + b := by
    rw [Nat.or_comm, Nat.mul_comm]; exact (Nat.two_pow_add_eq_or_of_lt (by omega) a).symm
  rw [this]; omega

theorem two_pos (n : Nat) : (0 : Int) < 2 ^ n := Int.pow_pos (by decide)

/-- A bit of a number, taken out by the machine. -/
theorem bit_at {k : IntKind} {N : Nat} (h : Uns k N) (hN : 1 < N) {x : Int} {n : Nat} (hn : n ≤ k.bits) (hx : 0 ≤ x ∧ x < (N : Int)) : iAnd k (iShr k x (n : Int)) 1 = x / 2 ^ n % 2 := by
  rw [iShr_at k x n hn, iAnd_one h hN]
  have h1 := two_pos n
  refine ⟨Int.ediv_nonneg hx.1 (by omega), ?_⟩
  have := Int.ediv_le_self (b := 2 ^ n) (a := x) hx.1
  omega

/-- A bit put into its place. -/
theorem bit_in {k : IntKind} {N : Nat} (h : Uns k N) {old b : Int} {n : Nat} (hn : n < k.bits) (hb : b = 0 ∨ b = 1) (ho : 0 ≤ old) (ho' : old < 2 ^ n) : iOr k old (iShl k (k.wrap b) (n : Int)) = old + b * 2 ^ n := by
  have hp := two_pos n
  have h1 : (2 : Int) ^ (n + 1) ≤ 2 ^ k.bits := pow2_mono (by omega)
  have h2 : (2 : Int) ^ k.bits = (N : Int) := by rw [← h.bits, Int.natCast_pow]; rfl
  rw [Int.pow_succ] at h1
  have hw : k.wrap b = b := by rw [h.wrap]; exact Int.emod_eq_of_lt (by omega) (by omega)
  have hb1 : b * 2 ^ n < (N : Int) ∧ 0 ≤ b * 2 ^ n ∧ old + b * 2 ^ n < (N : Int) := by rcases hb with rfl | rfl <;> omega
  rw [hw, iShl_at k b n (by omega), h.wrap, Int.emod_eq_of_lt hb1.2.1 hb1.1]
  exact iOr_low h (by omega) ho ho' hb1.2.2

theorem bit01 (x : Int) (n : Nat) : x / 2 ^ n % 2 = 0 ∨ x / 2 ^ n % 2 = 1 := Int.emod_two_eq _
end Go.Vm
