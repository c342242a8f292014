/- Bits of the hashes: turning, choosing, the majority. -/
import Derived.Test.YtclfmaifcelcpaaDoorN2
set_option linter.unusedVariables false
set_option linter.unusedSimpArgs false
namespace Go.Vm
open Go

theorem itr_rel {α β : Type} (R : Nat → α → β → Prop) {f : Nat → α → α} {g : Nat → β → β} : ∀ {n : Nat} {x : α} {y : β}, R 0 x y → (∀ k, k < n → ∀ a b, R k a b → R (k + 1) (f k a) (g k b)) → R n (itr f n x) (itr g n y) := by
  intro n
  induction n with
  | zero => intro x y h0 hs; rw [itr_zero, itr_zero]; exact h0
  | succ n ih =>
    intro x y h0 hs
    rw [itr_succ, itr_succ]
    exact hs n (Nat.lt_succ_self n) _ _ (ih h0 fun k hk => hs k (Nat.lt_succ_of_lt hk))

theorem rot_nat {w n s x : Nat} (hw : n + s = w) (hx : x < 2 ^ w) :
    x * 2 ^ s % 2 ^ w = 2 ^ s * (x % 2 ^ n) ∧ x / 2 ^ n < 2 ^ s ∧ 2 ^ s * (x % 2 ^ n) + x / 2 ^ n < 2 ^ w ∧ (x / 2 ^ n + x * 2 ^ s) % 2 ^ w = 2 ^ s * (x % 2 ^ n) + x / 2 ^ n := by
  subst hw
  have e1 : x * 2 ^ s % 2 ^ (n + s) = 2 ^ s * (x % 2 ^ n) := by rw [Nat.pow_add, Nat.mul_comm x, Nat.mul_comm (2 ^ n)]; exact Nat.mul_mod_mul_left _ _ _
  have e2 : x / 2 ^ n < 2 ^ s := Nat.div_lt_of_lt_mul (by rw [← Nat.pow_add]; exact hx)
  have e3 : 2 ^ s * (x % 2 ^ n) + x / 2 ^ n < 2 ^ (n + s) := by
    have h1 : x % 2 ^ n < 2 ^ n := Nat.mod_lt _ (Nat.pow_pos (by decide))
    have h2 : 2 ^ s * (x % 2 ^ n + 1) ≤ 2 ^ s * 2 ^ n := Nat.mul_le_mul_left _ h1
    rw [Nat.pow_add, Nat.mul_comm (2 ^ n)]
    rw [Nat.mul_add] at h2
    omega
  refine ⟨e1, e2, e3, ?_⟩
  rw [Nat.add_mod, e1, Nat.mod_eq_of_lt (Nat.lt_of_le_of_lt (Nat.div_le_self _ _) hx), Nat.add_comm, Nat.mod_eq_of_lt e3]

theorem shl_nat {k : IntKind} {N : Nat} (h : Uns k N) {a n : Nat} (hn : n ≤ k.bits) : iShl k (a : Int) (n : Int) = ((a * 2 ^ n % N : Nat) : Int) := by
  rw [iShl_at k _ _ hn, h.wrap]
  simp
theorem shr_nat (k : IntKind) {a n : Nat} (hn : n ≤ k.bits) : iShr k (a : Int) (n : Int) = ((a / 2 ^ n : Nat) : Int) := by
  rw [iShr_at k _ _ hn]
  simp
theorem add_nat {k : IntKind} {N : Nat} (h : Uns k N) (a b : Nat) : iAdd k (a : Int) (b : Int) = (((a + b) % N : Nat) : Int) := by
  show k.wrap _ = _
  rw [h.wrap]
  simp
theorem mul_nat {k : IntKind} {N : Nat} (h : Uns k N) (a b : Nat) : iMul k (a : Int) (b : Int) = ((a * b % N : Nat) : Int) := by
  show k.wrap _ = _
  rw [h.wrap]
  simp
theorem wrap_nat {k : IntKind} {N : Nat} (h : Uns k N) (a : Nat) : k.wrap (a : Int) = ((a % N : Nat) : Int) := by
  rw [h.wrap]
  simp

/-- To the right by n is to the left by the rest. -/
theorem rot_or {k : IntKind} {w n s x : Nat} (h : Uns k (2 ^ w)) (hk : k.bits = w) (hw : n + s = w) (hx : x < 2 ^ w) :
    iOr k (iShl k (x : Int) (s : Int)) (iShr k (x : Int) (n : Int)) = (((x / 2 ^ n + x * 2 ^ s) % 2 ^ w : Nat) : Int) := by
  obtain ⟨e1, e2, e3, e4⟩ := rot_nat hw hx
  rw [shl_nat h (by omega), shr_nat k (by omega), e1, iOr_nat h (by omega) (Nat.lt_of_le_of_lt (Nat.div_le_self _ _) hx), e4, ← Nat.two_pow_add_eq_or_of_lt e2]

theorem ch_nat {w a b c : Nat} (ha : a < 2 ^ w) : (a &&& b) ^^^ (((2 ^ w - 1) ^^^ a) &&& c) = (a &&& b) ||| (((2 ^ w - 1) ^^^ a) &&& c) := by
  apply Nat.eq_of_testBit_eq
  intro i
  simp only [Nat.testBit_xor, Nat.testBit_and, Nat.testBit_or, Nat.testBit_two_pow_sub_one]
  cases hb : a.testBit i
  · simp
  · have : i < w := by
      apply Classical.byContradiction
      intro hn
      rw [Nat.testBit_lt_two_pow (Nat.lt_of_lt_of_le ha (Nat.pow_le_pow_right (by decide) (by omega)))] at hb
      cases hb
    simp [this]
theorem maj_nat (a b c : Nat) : (a &&& b) ^^^ (a &&& c) ^^^ (b &&& c) = ((a &&& b) ||| (b &&& c)) ||| (a &&& c) := by
  apply Nat.eq_of_testBit_eq
  intro i
  simp only [Nat.testBit_xor, Nat.testBit_and, Nat.testBit_or]
  cases a.testBit i <;> cases b.testBit i <;> cases c.testBit i <;> rfl

/-- A word of w bits. -/
def Wd (w : Nat) (x : Int) : Prop := ∃ a : Nat, x = (a : Int) ∧ a < 2 ^ w
theorem Wd.up {w v : Nat} {x : Int} (h : Wd w x) (hv : w ≤ v) : Wd v x := by
  obtain ⟨a, rfl, h⟩ := h
  exact ⟨a, rfl, Nat.lt_of_lt_of_le h (Nat.pow_le_pow_right (by decide) hv)⟩
theorem Wd.and {w : Nat} {k : IntKind} (h : Uns k (2 ^ w)) {x y : Int} (hx : Wd w x) (hy : Wd w y) : Wd w (iAnd k x y) := by
  obtain ⟨a, rfl, ha⟩ := hx
  obtain ⟨b, rfl, hb⟩ := hy
  exact ⟨_, iAnd_nat h ha hb, Nat.and_lt_two_pow _ hb⟩
theorem Wd.xor {w : Nat} {k : IntKind} (h : Uns k (2 ^ w)) {x y : Int} (hx : Wd w x) (hy : Wd w y) : Wd w (iXor k x y) := by
  obtain ⟨a, rfl, ha⟩ := hx
  obtain ⟨b, rfl, hb⟩ := hy
  exact ⟨_, iXor_nat h ha hb, Nat.xor_lt_two_pow ha hb⟩
theorem Wd.mod {w : Nat} (x : Int) : Wd w (x % ((2 ^ w : Nat) : Int)) := by
  have hp : (0 : Int) < ((2 ^ w : Nat) : Int) := Int.natCast_pos.2 (Nat.pow_pos (by decide))
  obtain ⟨a, ha⟩ := Int.eq_ofNat_of_zero_le (Int.emod_nonneg x (Int.ne_of_gt hp))
  have h2 := Int.emod_lt_of_pos x hp
  rw [ha] at h2
  exact ⟨a, ha, Int.ofNat_lt.1 h2⟩

theorem Wd.of {w : Nat} {x : Int} (h : 0 ≤ x) (h' : x < ((2 ^ w : Nat) : Int)) : Wd w x := by
  obtain ⟨a, rfl⟩ := Int.eq_ofNat_of_zero_le h
  exact ⟨a, rfl, Int.ofNat_lt.1 h'⟩
theorem adrOne (o i : Nat) : adr o i 1 = o + i := by rw [adr_eq]; omega
def Byte (x : Int) : Prop := ∃ b : Nat, x = (b : Int) ∧ b < 256
theorem xor_same {v w : Nat} {k k' : IntKind} (h : Uns k (2 ^ w)) (h' : Uns k' (2 ^ v)) (hv : w ≤ v) {x y : Int} (hx : Wd w x) (hy : Wd w y) : iXor k' x y = iXor k x y := by
  have hp : 2 ^ w ≤ 2 ^ v := Nat.pow_le_pow_right (by decide) hv
  obtain ⟨a, rfl, ha⟩ := hx
  obtain ⟨b, rfl, hb⟩ := hy
  rw [iXor_nat h ha hb, iXor_nat h' (by omega) (by omega)]
theorem shr_wd {w n : Nat} (k : IntKind) (hn : n ≤ k.bits) {x : Int} (hx : Wd w x) : Wd w (iShr k x (n : Int)) := by
  obtain ⟨a, rfl, ha⟩ := hx
  exact ⟨_, shr_nat k hn, Nat.lt_of_le_of_lt (Nat.div_le_self _ _) ha⟩
theorem shr_same {w n : Nat} (k k' : IntKind) (hn : n ≤ k.bits) (hn' : n ≤ k'.bits) {x : Int} (hx : Wd w x) : iShr k' x (n : Int) = iShr k x (n : Int) := by
  obtain ⟨a, rfl, ha⟩ := hx
  rw [shr_nat k hn, shr_nat k' hn']

/-- Choosing, both ways. -/
theorem ch_same {v w : Nat} {k k' : IntKind} (h : Uns k (2 ^ w)) (h' : Uns k' (2 ^ v)) (hv : w ≤ v) {x y z : Int} (hx : Wd w x) (hy : Wd w y) (hz : Wd w z) :
    iOr k' (iAnd k' x y) (iAnd k' (iXor k' ((2 ^ w - 1 : Nat) : Int) x) z) = iXor k (iAnd k x y) (iAnd k (iXor k ((2 ^ w - 1 : Nat) : Int) x) z) := by
  have hp : 2 ^ w ≤ 2 ^ v := Nat.pow_le_pow_right (by decide) hv
  obtain ⟨a, rfl, ha⟩ := hx
  obtain ⟨b, rfl, hb⟩ := hy
  obtain ⟨c, rfl, hc⟩ := hz
  have hm : 2 ^ w - 1 < 2 ^ w := Nat.sub_lt (Nat.pow_pos (by decide)) (by decide)
  have hq := Nat.xor_lt_two_pow hm ha
  have h1 : a &&& b < 2 ^ w := Nat.and_lt_two_pow _ hb
  have h2 : ((2 ^ w - 1) ^^^ a) &&& c < 2 ^ w := Nat.and_lt_two_pow _ hc
  rw [iXor_nat h hm ha, iXor_nat h' (by omega) (by omega), iAnd_nat h ha hb, iAnd_nat h' (by omega) (by omega), iAnd_nat h hq hc, iAnd_nat h' (by omega) (by omega), iXor_nat h h1 h2, iOr_nat h' (by omega) (by omega), ch_nat ha]
/-- The majority, both ways. -/
theorem maj_same {v w : Nat} {k k' : IntKind} (h : Uns k (2 ^ w)) (h' : Uns k' (2 ^ v)) (hv : w ≤ v) {x y z : Int} (hx : Wd w x) (hy : Wd w y) (hz : Wd w z) :
    iOr k' (iOr k' (iAnd k' x y) (iAnd k' y z)) (iAnd k' x z) = iXor k (iXor k (iAnd k x y) (iAnd k x z)) (iAnd k y z) := by
  have hp : 2 ^ w ≤ 2 ^ v := Nat.pow_le_pow_right (by decide) hv
  obtain ⟨a, rfl, ha⟩ := hx
  obtain ⟨b, rfl, hb⟩ := hy
  obtain ⟨c, rfl, hc⟩ := hz
  have h1 : a &&& b < 2 ^ w := Nat.and_lt_two_pow _ hb
  have h2 : a &&& c < 2 ^ w := Nat.and_lt_two_pow _ hc
  have h3 : b &&& c < 2 ^ w := Nat.and_lt_two_pow _ hc
  have h4 := Nat.or_lt_two_pow (n := w) h1 h3
  rw [iAnd_nat h ha hb, iAnd_nat h' (by omega) (by omega), iAnd_nat h ha hc, iAnd_nat h' (by omega) (by omega), iAnd_nat h hb hc, iAnd_nat h' (by omega) (by omega), iXor_nat h h1 h2, iXor_nat h (Nat.xor_lt_two_pow h1 h2) h3,
    iOr_nat h' (by omega) (by omega), iOr_nat h' (by omega) (by omega), maj_nat]
end Go.Vm
