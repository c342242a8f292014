/- The first three laws of the hashes, in plain: sums, draws, the same bytes. -/
import Derived.Test.YtclfmaifcelcpaaDoorH2w32
import Derived.Test.YtclfmaifcelcpaaDoorH2w64
import Derived.Test.YtclfmaifcelcpaaDoorH3
import Derived.Test.YtclfmaifcelcpaaDoorS1
import Derived.Test.YtclfmaifcelcpaaDoorDg6
import Derived.Test.YtclfmaifcelcpaaDoorDg7
import Derived.Test.YtclfmaifcelcpaaDoorDg8
set_option linter.unusedVariables false
set_option linter.unusedSimpArgs false
namespace Go.Vm
open Go

/-- What a row's bytes are. -/
theorem dig_u8 {xs : List Int} (h : ∀ x ∈ xs, IntKind.min .u8 ≤ x ∧ x ≤ IntKind.max .u8) : Dig 256 xs := fun x hx => ⟨(h x hx).1, Int.lt_of_le_of_lt (h x hx).2 (by decide)⟩
theorem sums_true {p0 : List Int} (hp : Dig 256 p0) : F6 p0 = true := by
  unfold F6
  rw [fit33]
  cases h : decide (((p0.length : Nat) : Int) > 2000)
  · have h' := of_decide_eq_false h
    rw [sum32 hp (by omega), sum64 hp (by omega), strEq_refl, strEq_refl]
    rfl
  · rfl

theorem bytesI_dig (s : ByteArray) : Dig 256 (bytesI s) := by
  intro x hx
  obtain ⟨y, _, rfl⟩ := List.mem_map.1 hx
  have := y.toNat_lt
  exact ⟨by omega, by omega⟩

theorem itr_congr {α : Type} {f g : Nat → α → α} {n : Nat} (x : α) (h : ∀ k, k < n → ∀ a, f k a = g k a) : itr f n x = itr g n x := by
  refine itr_rel (fun _ a b => a = b) rfl ?_
  rintro k hk a b rfl
  exact h k hk a

theorem draw_bytes (n : Int) (s : ByteArray) (k : Nat) : Dig 256 (itr (F39l0 n) k (s.size, bytesI s)).2 ∧ (itr (F39l0 n) k (s.size, bytesI s)).2.length = s.size + k ∧ (itr (F39l0 n) k (s.size, bytesI s)).1 = s.size + k := by
  refine itr_rel (fun (k : Nat) (a b : Nat × List Int) => Dig 256 a.2 ∧ a.2.length = s.size + k ∧ a.1 = s.size + k) (g := fun _ y => y) (y := (0, [])) ⟨bytesI_dig s, bytesI_length s, rfl⟩ ?_
  rintro k hk a b ⟨h1, h2, h3⟩
  refine ⟨?_, ?_, ?_⟩
  · intro x hx
    rcases List.mem_append.1 hx with h | h
    · exact h1 x h
    · rw [List.mem_singleton.1 h, wrap_u8]; omega
  · show (a.2 ++ [_]).length = _
    rw [List.length_append, h2]; rfl
  · show a.1 + 1 = _
    omega

theorem draws_true (p0 : ByteArray) (p1 : Int) : F8 p0 p1 = true := by
  unfold F8
  rw [fit33]
  cases h : decide (((p0.size : Nat) : Int) > 2000)
  · have h' := of_decide_eq_false h
    obtain ⟨h1, h2, h3⟩ := draw_bytes p1 p0 8
    have e : F38 p0 p1 = F39 p0 p1 := by
      unfold F38 F39
      have e1 : itr (F38l0 p1) 8 (p0.size, bytesI p0) = itr (F39l0 p1) 8 (p0.size, bytesI p0) := by
        apply itr_congr
        intro k hk a
        unfold F38l0 F39l0
        rw [show 8 * (8 - 1 - k) = 56 - 8 * k by omega]
      rw [e1, h3, part1_all h2]
      exact sum32 h1 (by omega)
    rw [e, strEq_refl]
    rfl
  · rfl

/-! ### the same bytes -/
theorem i64_bv {a : Nat} (ha : a < 9223372036854775808) : (BitVec.ofInt 64 (a : Int)).toNat = a := by
  rw [BitVec.toNat_ofInt]
  omega
theorem wrap_i64 {a : Nat} (ha : a < 9223372036854775808) : IntKind.wrap .i64 (a : Int) = (a : Int) := wrap_small (by omega) (by omega)
theorem iOr_i64 {a b : Nat} (ha : a < 9223372036854775808) (hb : b < 9223372036854775808) : iOr .i64 (a : Int) (b : Int) = ((a ||| b : Nat) : Int) := by
  show IntKind.wrap .i64 (((BitVec.ofInt 64 (a : Int) ||| BitVec.ofInt 64 (b : Int)).toNat : Nat) : Int) = _
  rw [BitVec.toNat_or, i64_bv ha, i64_bv hb, wrap_i64 (Nat.or_lt_two_pow (n := 63) ha hb)]
theorem iXor_i64 {a b : Nat} (ha : a < 9223372036854775808) (hb : b < 9223372036854775808) : iXor .i64 (a : Int) (b : Int) = ((a ^^^ b : Nat) : Int) := by
  show IntKind.wrap .i64 (((BitVec.ofInt 64 (a : Int) ^^^ BitVec.ofInt 64 (b : Int)).toNat : Nat) : Int) = _
  rw [BitVec.toNat_xor, i64_bv ha, i64_bv hb, wrap_i64 (Nat.xor_lt_two_pow (n := 63) ha hb)]

theorem xor_zero_iff {a b : Nat} : a ^^^ b = 0 ↔ a = b := by
  constructor
  · intro h
    apply Nat.eq_of_testBit_eq
    intro i
    have := congrArg (fun n => n.testBit i) h
    simp only [Nat.testBit_xor, Nat.zero_testBit] at this
    cases ha : a.testBit i <;> cases hb : b.testBit i <;> simp_all
  · rintro rfl
    exact Nat.xor_self a
theorem dig_byte {xs : List Int} (h : Dig 256 xs) (j : Nat) : Byte (xs.getD j 0) := by
  obtain ⟨h1, h2⟩ := getD_dig (i := j) (by decide) h
  obtain ⟨a, ha⟩ := Int.eq_ofNat_of_zero_le h1
  exact ⟨a, ha, by rw [ha] at h2; omega⟩

theorem same_eq {x y : List Int} (hx : Dig 256 x) (hy : Dig 256 y) (lx : x.length < 9223372036854775808) (ly : y.length < 9223372036854775808) : F37 x y = decide (x = y) := by
  unfold F37
  have key : ∀ n, ∃ a : Nat, itr (F37l0 x y) n (iXor .i64 ((x.length : Nat) : Int) ((y.length : Nat) : Int)) = (a : Int) ∧ a < 9223372036854775808 ∧ (a = 0 ↔ x.length = y.length ∧ ∀ j, j < n → x.getD j 0 = y.getD j 0) := by
    intro n
    induction n with
    | zero =>
      refine ⟨_, (itr_zero _ _).trans (iXor_i64 lx ly), Nat.xor_lt_two_pow (n := 63) lx ly, ?_⟩
      rw [xor_zero_iff]
      exact ⟨fun h => ⟨h, fun j hj => absurd hj (Nat.not_lt_zero j)⟩, fun h => h.1⟩
    | succ n ih =>
      obtain ⟨a, h1, h2, h3⟩ := ih
      obtain ⟨b, b1, b2⟩ := dig_byte hx n
      obtain ⟨c, c1, c2⟩ := dig_byte hy n
      have hbc : b ^^^ c < 256 := Nat.xor_lt_two_pow (n := 8) b2 c2
      refine ⟨a ||| (b ^^^ c), ?_, Nat.or_lt_two_pow (n := 63) h2 (by omega), ?_⟩
      · rw [itr_succ, h1]
        show iOr .i64 (a : Int) (IntKind.wrap .i64 (iXor .u8 (x.getD n 0) (y.getD n 0))) = _
        rw [b1, c1, iXor_nat uns8 b2 c2, wrap_i64 (by omega), iOr_i64 h2 (by omega)]
      · rw [Nat.or_eq_zero_iff, h3, xor_zero_iff]
        constructor
        · rintro ⟨⟨q1, q2⟩, q3⟩
          refine ⟨q1, fun j hj => ?_⟩
          by_cases h : j = n
          · subst h; rw [b1, c1, q3]
          · exact q2 j (by omega)
        · rintro ⟨q1, q2⟩
          refine ⟨⟨q1, fun j hj => q2 j (by omega)⟩, ?_⟩
          have := q2 n (by omega)
          rw [b1, c1] at this
          omega
  obtain ⟨a, h1, h2, h3⟩ := key (min x.length y.length)
  rw [h1]
  by_cases hxy : x = y
  · subst hxy
    have ha : a = 0 := h3.2 ⟨rfl, fun _ _ => rfl⟩
    subst ha
    simp
  · have ha : a ≠ 0 := fun ha => hxy (by
      obtain ⟨q1, q2⟩ := h3.1 ha
      apply List.ext_getElem q1
      intro j j1 j2
      have := q2 j (by omega)
      simpa [List.getD_eq_getElem?_getD, j1, j2] using this)
    rw [decide_eq_false hxy]
    apply beq_false_of_ne
    omega

theorem same_true {p0 p1 : List Int} (h0 : Dig 256 p0) (h1 : Dig 256 p1) : F7 p0 p1 = true := by
  unfold F7
  rw [fit33]
  cases h : decide (((p0.length : Nat) : Int) > 3000)
  · cases h2 : decide (((p1.length : Nat) : Int) > 3000)
    · have h' := of_decide_eq_false h
      have h2' := of_decide_eq_false h2
      rw [part1_all rfl, same_eq h0 h1 (by omega) (by omega), same_eq h0 h0 (by omega) (by omega), strEq_bytes h0 h1]
      simp only [Bool.not_true, beq_self_eq_true, decide_true]
      rfl
    · rfl
  · rfl
end Go.Vm
