import Derived.Test.YtcfpmiiaicfcnaaL1
set_option linter.unusedVariables false
namespace Go.Vm
open Go

theorem pp_dvd {a b : Int} (h : a % PP = b % PP) : PP ∣ a - b := Int.dvd_of_emod_eq_zero (by rw [Int.sub_emod, h, Int.sub_self]; rfl)
theorem pp_of {a b : Int} (h : PP ∣ a - b) : a % PP = b % PP := by
  obtain ⟨q, hq⟩ := h
  exact modP (q := q) (by rw [Int.mul_comm q]; omega)

theorem pp_prime {a b : Int} (h : PP ∣ a * b) : PP ∣ a ∨ PP ∣ b := by
  have e : PP.natAbs = Tabn.P := by kernel_rfl
  have h1 : Tabn.P ∣ a.natAbs * b.natAbs := by
    rw [← Int.natAbs_mul, ← e]; exact Int.natAbs_dvd_natAbs.2 h
  rcases Tabn.prime_P.dvd_mul h1 with h2 | h2
  · exact .inl (Int.natAbs_dvd_natAbs.1 (by rw [e]; exact h2))
  · exact .inr (Int.natAbs_dvd_natAbs.1 (by rw [e]; exact h2))

theorem mul_mod {a b c d : Int} (h : a % PP = b % PP) (h' : c % PP = d % PP) : a * c % PP = b * d % PP := by
  rw [Int.mul_emod, h, h', ← Int.mul_emod]

/-- What has the same square is the same, or its opposite. -/
theorem sq_same {a b : Int} (h : a * a % PP = b * b % PP) : a % PP = b % PP ∨ a % PP = (0 - b) % PP := by
  have h1 := pp_dvd h
  have e : a * a - b * b = (a - b) * (a + b) := by
    rw [Int.sub_mul, Int.mul_add, Int.mul_add, Int.mul_comm b a]; omega
  rw [e] at h1
  rcases pp_prime h1 with h2 | h2
  · exact .inl (pp_of h2)
  · exact .inr (pp_of (by have e2 : a - (0 - b) = a + b := by omega
                          rw [e2]; exact h2))

def eHalf : Nat := 28948022309329048855892746252171976963317496166410141009864396001978282409974

theorem half_one {a : Int} (h : a % PP ≠ 0) : a ^ eHalf % PP = 1 ∨ a ^ eHalf % PP = (-1) % PP := by
  have h1 : a ^ eHalf * a ^ eHalf % PP = 1 * 1 % PP := by
    rw [← Int.pow_add]
    have e : eHalf + eHalf = eInv + 1 := by kernel_rfl
    rw [e, Int.pow_succ, inv_one h]
    rfl
  rcases sq_same h1 with h2 | h2
  · exact .inl h2
  · exact .inr h2

theorem two_half : (2 : Int) ^ eHalf % PP = (-1) % PP := by
  have h : (2 ^ eHalf % Tabn.P : Nat) = Tabn.P - 1 := by
    rw [← Tabn.pmod_eq Tabn.P 256 2 eHalf (of_decide_eq_true (by kernel_rfl))]
    kernel_rfl
  have e : ((Tabn.P - 1 : Nat) : Int) = (-1) % PP := by kernel_rfl
  have h2 := pow_nat 2 eHalf
  rw [h, e] at h2
  exact h2

def rootV (v : Int) : Int := if v ^ eRoot * v ^ eRoot % PP = v % PP then v ^ eRoot else v ^ eRoot * 2 ^ eTwo

theorem pow_mod {a b : Int} (h : a % PP = b % PP) (n : Nat) : a ^ n % PP = b ^ n % PP := by rw [pow_emod, h, ← pow_emod]

theorem root_sq (v : Int) : rootV (v * v) * rootV (v * v) % PP = v * v % PP := by
  have e1 : (v * v) ^ eRoot * (v * v) ^ eRoot = v * v * v ^ eHalf := by
    have e : v * v * v ^ eHalf = v ^ (eHalf + 1 + 1) := by rw [Int.pow_succ, Int.pow_succ, Int.mul_comm (v * v), Int.mul_assoc]
    have e' : eRoot + eRoot + (eRoot + eRoot) = eHalf + 1 + 1 := by kernel_rfl
    rw [e, Int.mul_pow, ← Int.pow_add, ← Int.pow_add, e']
  unfold rootV
  by_cases h : (v * v) ^ eRoot * (v * v) ^ eRoot % PP = v * v % PP
  · rw [if_pos h]; exact h
  · rw [if_neg h]
    have hv : v % PP ≠ 0 := by
      intro h0
      apply h
      rw [e1]
      have h1 : v * v % PP = 0 % PP := mul_mod (b := 0) (d := 0) (by rw [h0]; rfl) (by rw [h0]; rfl)
      rw [mul_mod h1 (rfl : v ^ eHalf % PP = v ^ eHalf % PP), h1, Int.zero_mul]
    have hh : v ^ eHalf % PP = (-1) % PP := by
      rcases half_one hv with h1 | h1
      · exfalso
        apply h
        rw [e1, mul_mod (rfl : v * v % PP = v * v % PP) (show v ^ eHalf % PP = 1 % PP from h1), Int.mul_one]
      · exact h1
    have e2 : (v * v) ^ eRoot * 2 ^ eTwo * ((v * v) ^ eRoot * 2 ^ eTwo) = (v * v * v ^ eHalf) * 2 ^ eHalf := by
      have e3 : ((2 : Int) ^ eTwo) * 2 ^ eTwo = 2 ^ eHalf := by
        have e' : eTwo + eTwo = eHalf := by kernel_rfl
        rw [← Int.pow_add, e']
      rw [← e1, ← e3]
      generalize (v * v) ^ eRoot = A
      generalize (2 : Int) ^ eTwo = B
      grind -lia -linarith
    rw [e2, mul_mod (mul_mod (rfl : v * v % PP = v * v % PP) hh) two_half]
    congr 1
    generalize v * v = w
    omega

theorem part_near (a b : Int) : part1 (F50 a b) 32 0 32 = F50 a b := part1_all (len50 a b)
theorem part_all (a b : Int) : part1 (F51 a b) 32 0 32 = F51 a b := part1_all (len51 a b)

theorem E_rootpow {x : List Int} {v : Int} (hx : E x v) : E (F26 x (part1 (F50 252 2) 32 0 32)) (v ^ eRoot) := by
  rw [near_252_2, part_eq _ rfl]
  exact pow_val hx (by unfold Dig; decide) (N := eRoot) (by kernel_rfl)
theorem E_two : E (F26 (F30 2) (part1 (F50 253 5) 32 0 32)) (2 ^ eTwo) := by
  rw [near_253_5, part_eq _ rfl]
  exact pow_val (E_small (by decide)) (by unfold Dig; decide) (N := eTwo) (by kernel_rfl)
theorem R_rootpow {x : List Int} {v : Int} (hx : R x v) : R (F27 x (part1 (F51 252 2) 32 0 32)) (v ^ eRoot) := by
  rw [all_252_2, part_eq _ rfl]
  exact R_pow hx (by unfold Dig; decide) (N := eRoot) (by kernel_rfl)
theorem R_two : R (F27 (F31 2) (part1 (F51 253 5) 32 0 32)) (2 ^ eTwo) := by
  rw [all_253_5, part_eq _ rfl]
  exact R_pow (R_small (by decide)) (by unfold Dig; decide) (N := eTwo) (by kernel_rfl)

theorem E_root {x : List Int} {v : Int} (hx : E x v) : E (F34 x) (rootV v) ∧ F34_1 x = decide (rootV v * rootV v % PP = v % PP) := by
  have h1 : E (F34 x) (rootV v) := by
    unfold F34 rootV
    have ht := E_rootpow hx
    have h2 := E_two
    generalize F26 x (part1 (F50 252 2) 32 0 32) = t at *
    generalize F26 (F30 2) (part1 (F50 253 5) 32 0 32) = u at *
    rw [(E_mul ht ht).same hx]
    by_cases h : v ^ eRoot * v ^ eRoot % PP = v % PP
    · rw [if_pos h, decide_eq_true h, Bool.not_true, sel_false]; exact ht
    · rw [if_neg h, decide_eq_false h, Bool.not_false, sel_true]; exact E_mul ht h2
  exact ⟨h1, (E_mul h1 h1).same hx⟩

theorem R_root {x : List Int} {v : Int} (hx : R x v) : F35_1 x = decide (rootV v * rootV v % PP = v % PP) := by
  have h1 : R (F35 x) (rootV v) := by
    unfold F35 rootV
    have ht := R_rootpow hx
    have h2 := R_two
    generalize F27 x (part1 (F51 252 2) 32 0 32) = t at *
    generalize F27 (F31 2) (part1 (F51 253 5) 32 0 32) = u at *
    rw [(R_mul ht ht).beq hx]
    by_cases h : v ^ eRoot * v ^ eRoot % PP = v % PP
    · rw [if_pos h, decide_eq_true h, Bool.not_true, sel_false]; exact ht
    · rw [if_neg h, decide_eq_false h, Bool.not_false, sel_true]; exact R_mul ht h2
  exact (R_mul h1 h1).beq hx
end Go.Vm
