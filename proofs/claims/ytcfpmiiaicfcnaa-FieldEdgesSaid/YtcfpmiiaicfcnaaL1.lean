import Derived.Test.YtcfpmiiaicfcnaaWkC
import Derived.Test.YtcfpmiiaicfcnaaR3
import Derived.Test.YtcfpmiiaicfcnaaNum
set_option linter.unusedVariables false
namespace Go.Vm
open Go

theorem like_val {x n : List Int} {v w : Int} (hx : E x v) (hn : R n w) (h : v % PP = w % PP) : F22 x n = true := by
  unfold F22
  rw [R_bytes hn 16 (Nat.le_refl _), F49_val hn, hx.bytes, h]
  unfold strEq
  exact beq_self_eq_true _

theorem pow_emod (a : Int) (n : Nat) : a ^ n % PP = (a % PP) ^ n % PP := by
  induction n with
  | zero => rw [Int.pow_zero, Int.pow_zero]
  | succ n ih => rw [Int.pow_succ, Int.pow_succ, Int.mul_emod, ih, ← Int.mul_emod, Int.mul_emod, Int.mul_emod ((a % PP) ^ n), Int.emod_emod_of_dvd _ ⟨1, (Int.mul_one _).symm⟩]

theorem pp_nat : PP = ((Tabn.P : Nat) : Int) := by kernel_rfl

/-- A number's remainder, as a natural number. -/
theorem rem_nat (a : Int) : ∃ n : Nat, a % PP = (n : Int) ∧ n < Tabn.P := by
  obtain ⟨n, hn⟩ := Int.eq_ofNat_of_zero_le (PP_lt a).1
  refine ⟨n, hn, ?_⟩
  have := (PP_lt a).2
  rw [hn, pp_nat] at this
  exact Int.ofNat_lt.1 this

theorem pow_nat (n k : Nat) : (n : Int) ^ k % PP = ((n ^ k % Tabn.P : Nat) : Int) := by
  rw [pp_nat, Int.natCast_emod, Int.natCast_pow]

theorem eInv_succ : eInv + 1 = Tabn.P - 1 := by kernel_rfl

theorem inv_one {a : Int} (h : a % PP ≠ 0) : (a ^ eInv * a) % PP = 1 := by
  rw [← Int.pow_succ]
  show a ^ (eInv + 1) % PP = 1
  rw [eInv_succ, pow_emod]
  obtain ⟨n, hn, hlt⟩ := rem_nat a
  rw [hn] at h ⊢
  rw [pow_nat, Tabn.fermat_one Tabn.prime_P]
  · rfl
  · intro hd
    have := Nat.le_of_dvd (by omega) hd
    omega

theorem fit_eq : ((itr F14l0 32 (List.replicate 32 0)).set 0 238).set 31 127 = [238, 255, 255, 255, 255, 255, 255, 255, 255, 255, 255, 255, 255, 255, 255, 255, 255, 255, 255, 255, 255, 255, 255, 255, 255, 255, 255, 255, 255, 255, 255, 127] := by kernel_rfl

theorem F14_true : F14 = true := by
  unfold F14
  rw [fit_eq, part_eq _ rfl, read_ok]
  have hr := read_val (b := [238, 255, 255, 255, 255, 255, 255, 255, 255, 255, 255, 255, 255, 255, 255, 255, 255, 255, 255, 255, 255, 255, 255, 255, 255, 255, 255, 255, 255, 255, 255, 127]) (by unfold Dig; decide) rfl
  have hn : num 256 [238, 255, 255, 255, 255, 255, 255, 255, 255, 255, 255, 255, 255, 255, 255, 255, 255, 255, 255, 255, 255, 255, 255, 255, 255, 255, 255, 255, 255, 255, 255, 127] % 57896044618658097711785492504343953926634992332820282019728792003956564819968 = 1 + 1 * PP := by kernel_rfl
  rw [hn] at hr
  have h1 : E (F23 [238, 255, 255, 255, 255, 255, 255, 255, 255, 255, 255, 255, 255, 255, 255, 255, 255, 255, 255, 255, 255, 255, 255, 255, 255, 255, 255, 255, 255, 255, 255, 127]) 1 := hr.to (modP rfl)
  generalize F23 _ = e at *
  rw [decide_eq_true (by rfl), sel_true, h1.same (E_small (by decide)), decide_eq_true rfl, sel_true, h1.odd, decide_eq_true (by decide), sel_true, (E_sub h1 h1).same (E_small (by decide)), decide_eq_true (by decide), sel_true]
  rw [(E_mul (E_inv (E_add h1 h1)) (E_small (n := 2) (by decide))).same h1]
  apply decide_eq_true
  exact inv_one (a := 2) (by decide)

theorem two_vals {p0 p1 : List Int} (h0 : Dig 256 p0) (h1 : Dig 256 p1) (h : F15_4 p0 p1 = true) :
    E (F15 p0 p1) (num 256 p0 % 57896044618658097711785492504343953926634992332820282019728792003956564819968) ∧ E (F15_1 p0 p1) (num 256 p1 % 57896044618658097711785492504343953926634992332820282019728792003956564819968) ∧
    R (F15_2 p0 p1) (num 256 p0 % 57896044618658097711785492504343953926634992332820282019728792003956564819968) ∧ R (F15_3 p0 p1) (num 256 p1 % 57896044618658097711785492504343953926634992332820282019728792003956564819968) := by
  have l0 : p0.length = 32 := by
    unfold F15_4 at h
    cases hb : F23_1 p0
    · rw [hb] at h; simp only [Bool.not_false, sel_true] at h; cases h
    · rw [read_ok] at hb; exact of_decide_eq_true hb
  have l1 : p1.length = 32 := by
    unfold F15_4 at h
    cases hb : F23_1 p1
    · rw [hb, read_ok, decide_eq_true l0] at h; simp only [Bool.not_false, Bool.not_true, sel_true, sel_false] at h; cases h
    · rw [read_ok] at hb; exact of_decide_eq_true hb
  unfold F15 F15_1 F15_2 F15_3
  rw [read_ok, read_ok, decide_eq_true l0, decide_eq_true l1]
  simp only [Bool.not_true, sel_false]
  exact ⟨read_val h0 l0, read_val h1 l1, R_read h0 l0, R_read h1 l1⟩

end Go.Vm
