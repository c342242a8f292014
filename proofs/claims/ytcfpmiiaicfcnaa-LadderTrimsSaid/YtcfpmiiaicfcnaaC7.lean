import Derived.Test.YtcfpmiiaicfcnaaC5
import Derived.Test.YtcfpmiiaicfcnaaC6
import Derived.Test.YtcfpmiiaicfcnaaS1
set_option linter.unusedVariables false
set_option linter.unusedSimpArgs false
namespace Go.Vm
open Go

theorem dig_take {B : Int} {xs : List Int} (h : Dig B xs) (n : Nat) : Dig B (xs.take n) := fun x hx => h x (List.mem_of_mem_take hx)
theorem take_all {xs : List Int} {n : Nat} (h : xs.length = n) : ((xs.drop 0).take n) = xs := by rw [List.drop_zero, List.take_of_length_le (by omega)]

/-- The element of bytes that are one. -/
theorem uOf_digs (f : Tabn.F) : uOf (digs 256 32 ((f.val : Nat) : Int)) = f := by
  unfold uOf
  apply toF_ext
  have h : f.val < 57896044618658097711785492504343953926634992332820282019728792003956564819949 := f.isLt
  have e32 : (256 : Int) ^ 32 = 115792089237316195423570985008687907853269984665640564039457584007913129639936 := rfl
  rw [toF_val, num_digs (by decide), e32]
  unfold PP
  omega

theorem uOf_mult (a u : List Int) : uOf (mult a u) = Tabn.Um (trimN a) (uOf u) := uOf_digs _

theorem mult_eq {a u b v : List Int} (h : Tabn.Um (trimN a) (uOf u) = Tabn.Um (trimN b) (uOf v)) : mult a u = mult b v := by unfold mult; rw [h]
theorem mult_inj {a u b v : List Int} (h : mult a u = mult b v) : Tabn.Um (trimN a) (uOf u) = Tabn.Um (trimN b) (uOf v) := by
  have := congrArg uOf h
  rw [uOf_mult, uOf_mult] at this
  exact this

theorem mult_swap {a b u : List Int} (ha : Dig 256 a) (la : a.length = 32) (hb : Dig 256 b) (lb : b.length = 32) : mult a (mult b u) = mult b (mult a u) := by
  apply mult_eq
  rw [uOf_mult, uOf_mult]
  obtain ⟨M, e1, h1⟩ := trimN_even ha la
  obtain ⟨N, e2, h2⟩ := trimN_even hb lb
  rw [e1, e2]
  exact Tabn.Um_swap _ N M h2 h1

/-! ### the base point -/
def base9 : List Int := [9] ++ List.replicate 31 0
theorem base_dig : Dig 256 base9 := by unfold Dig; decide
theorem base_len : base9.length = 32 := rfl
theorem uOf_base : uOf base9 = 9 := by
  unfold uOf
  have e : num 256 base9 % 57896044618658097711785492504343953926634992332820282019728792003956564819968 = 9 := by kernel_rfl
  rw [e]; decide

theorem mult_base_ne {a b : List Int} (ha : Dig 256 a) (la : a.length = 32) (hb : Dig 256 b) (lb : b.length = 32) : Tabn.Um (trimN a) (uOf (mult b base9)) ≠ 0 := by
  rw [uOf_mult, uOf_base]
  obtain ⟨h1, h2, h3⟩ := trimN_bd ha la
  obtain ⟨k1, k2, k3⟩ := trimN_bd hb lb
  have hp : 0 < 2 ^ 254 := by decide
  exact Tabn.Um_ne _ _ k1 (by omega) k3 h1 (by omega) h3

/-! ### Public, Shared -/
theorem F40_ok {p0 : List Int} (h0 : Dig 256 p0) (l0 : p0.length = 32) : F40 p0 = 0 ∧ F40n0 p0 = 32 ∧ F40_1 p0 = mult p0 base9 := by
  unfold F40 F40n0 F40_1
  have e : part1 ([9] ++ (List.replicate 31 0)) 32 0 32 = base9 := part_eq _ rfl
  rw [e]
  exact ⟨(F38_ok l0 base_len).1, (F38_ok l0 base_len).2, F38_val h0 l0 base_dig base_len⟩
theorem F40_bad {p0 : List Int} (l0 : p0.length ≠ 32) : F40 p0 = 2 := by
  unfold F40; exact (F38_bad fun h => l0 h.1).1

theorem fst_some {S : Nat → Bool} {k : Nat} : ∀ {n : Nat}, k < n → S k = true → fstB S n < n
  | 0, h, _ => absurd h (by omega)
  | n + 1, h, hk => by
    rw [fstB]
    by_cases hn : k < n
    · have := fst_some hn hk
      rw [blt_true this]; simp only [cond_true]; omega
    · have e : k = n := by omega
      subst e
      rw [hk]
      cases hb : Nat.blt (fstB S k) k
      · simp
      · rw [Nat.blt_eq] at hb
        simp only [cond_true]; omega

theorem num_zero_of {B : Int} : ∀ {xs : List Int}, (∀ j, j < xs.length → xs.getD j 0 = 0) → num B xs = 0
  | [], _ => rfl
  | a :: l, h => by
    have h0 := h 0 (by simp)
    rw [List.getD_cons_zero] at h0
    have h1 := num_zero_of (B := B) (xs := l) (fun j hj => by have := h (j + 1) (by simp; omega); rw [List.getD_cons_succ] at this; exact this)
    rw [num_cons, h0, h1]; simp

theorem digs_zero : digs 256 32 0 = List.replicate 32 0 := by kernel_rfl

theorem val_zero {f : Tabn.F} (h : ((f.val : Nat) : Int) = 0) : f = 0 := toF_ext (by rw [h]; rfl)

theorem mult_zero {a u : List Int} (h : Tabn.Um (trimN a) (uOf u) = 0) : mult a u = List.replicate 32 0 := by
  unfold mult; rw [h, ← digs_zero]; rfl
theorem mult_nz {a u : List Int} (h : Tabn.Um (trimN a) (uOf u) ≠ 0) : ∃ k, k < 32 ∧ (mult a u).getD k 0 ≠ 0 := by
  apply Classical.byContradiction
  intro hn
  have h1 : num 256 (mult a u) = 0 := num_zero_of fun j hj => by
    apply Classical.byContradiction
    intro hj2
    exact hn ⟨j, by rw [mult_len] at hj; exact hj, hj2⟩
  apply h
  rw [← uOf_mult]
  unfold uOf
  rw [h1]; decide

theorem F41_bad {p0 p1 : List Int} (h : ¬ (p0.length = 32 ∧ p1.length = 32)) : F41 p0 p1 = 2 ∧ F41n0 p0 p1 = 0 ∧ F41_1 p0 p1 = [] := by
  obtain ⟨h1, h2, h3⟩ := F38_bad h
  unfold F41 F41n0 F41_1
  rw [h1]
  have e : (((2 : Int) : Int) != 0) = true := rfl
  rw [e]
  simp only [sel_true, and_self]

theorem F41_zero {p0 p1 : List Int} (h0 : Dig 256 p0) (l0 : p0.length = 32) (h1 : Dig 256 p1) (l1 : p1.length = 32) (h : Tabn.Um (trimN p0) (uOf p1) = 0) : F41 p0 p1 = 3 ∧ F41n0 p0 p1 = 0 ∧ F41_1 p0 p1 = [] := by
  have e1 := F38_ok l0 l1
  have e2 := F38_val h0 l0 h1 l1
  have e : (((0 : Int) : Int) != 0) = false := rfl
  have hf : fstB (F41s0 p0 p1) 32 = 32 := fst_none fun j hj => by
    unfold F41s0
    rw [e2, mult_zero h, getD_zeros, e, sel_false]
  unfold F41 F41n0 F41_1
  rw [e1.1, e1.2, e, Nat.sub_zero, hf, blt_self]
  simp only [sel_false, and_self]

theorem F41_ok {p0 p1 : List Int} (h0 : Dig 256 p0) (l0 : p0.length = 32) (h1 : Dig 256 p1) (l1 : p1.length = 32) (h : Tabn.Um (trimN p0) (uOf p1) ≠ 0) : F41 p0 p1 = 0 ∧ F41n0 p0 p1 = 32 ∧ F41_1 p0 p1 = mult p0 p1 := by
  have e1 := F38_ok l0 l1
  have e2 := F38_val h0 l0 h1 l1
  have e : (((0 : Int) : Int) != 0) = false := rfl
  obtain ⟨k, hk, hne⟩ := mult_nz h
  have hf : fstB (F41s0 p0 p1) 32 < 32 := fst_some hk (by
    unfold F41s0
    rw [e2]
    have : ((mult p0 p1).getD k 0 != 0) = true := by simpa using hne
    rw [this, sel_true])
  unfold F41 F41n0 F41_1
  rw [e1.1, e1.2, e, Nat.sub_zero, blt_true hf, e2]
  simp only [sel_false, sel_true, and_self]

/-! ### the reference's lengths -/
theorem R_count {d : List Int} {f : Tabn.F} (h : RF d f) : (itr (F49l0 d) 16 (0, [])).1 = 32 := by
  obtain ⟨v, hv, _⟩ := h
  rw [R_bytes hv 16 (Nat.le_refl _)]

open Tabn in
theorem F39_n {p0 p1 : List Int} (h0 : Dig 256 p0) (l0 : p0.length = 32) (h1 : Dig 256 p1) (l1 : p1.length = 32) : F39n0 p0 p1 = 32 := by
  have h := (ref_inv h0 l0 h1 l1 255 (Nat.le_refl _)).1
  unfold F39n0
  generalize (itr (F39l0 p0 p1) 255 (splice (splice [0, 0, 0, 0, 0, 0, 0, 0, 0, 0, 0, 0, 0, 0, 0, 0, 0, 0, 0, 0, 0, 0, 0, 0, 0, 0, 0, 0, 0, 0, 0, 0] 0 (F24 p1)) 16 (F31 1), splice (splice [0, 0, 0, 0, 0, 0, 0, 0, 0, 0, 0, 0, 0, 0, 0, 0, 0, 0, 0, 0, 0, 0, 0, 0, 0, 0, 0, 0, 0, 0, 0, 0] 0 (F31 1)) 16 (F31 0))).2 = s at *
  obtain ⟨A, B, rfl, hA, hB⟩ := h
  rw [pr_left hA.len, pr_right hA.len hB.len]
  exact R_count (RF_mul hA (RF_inv hB))

theorem F42_ok {p0 : List Int} (h0 : Dig 256 p0) (l0 : p0.length = 32) : F42n0 p0 = 32 ∧ F42 p0 = mult p0 base9 := by
  unfold F42 F42n0
  have e : part1 ((List.replicate 32 0).set 0 9) 32 0 32 = base9 := part_eq _ rfl
  rw [e]
  exact ⟨F39_n h0 l0 base_dig base_len, F39_val h0 l0 base_dig base_len⟩

/-! ### the head of each law: two who share -/
def za : List Int := List.replicate 32 0
def zb : List Int := (List.replicate 32 0).set 3 7
theorem za_dig : Dig 256 za := by unfold Dig; decide
theorem zb_dig : Dig 256 zb := by unfold Dig; decide
theorem za_len : za.length = 32 := rfl
theorem zb_len : zb.length = 32 := rfl
theorem za_N : trimN za = 28948022309329048855892746252171976963317496166410141009864396001978282409984 := by kernel_rfl
theorem zb_N : trimN zb = 28948022309329048855892746252171976963317496166410141009864396001978399850496 := by kernel_rfl

theorem F37_true : F37 = true := by
  unfold F37
  have ea : part1 (List.replicate 32 0) 32 0 32 = za := part_eq _ rfl
  have eb : part1 ((List.replicate 32 0).set 3 7) 32 0 32 = zb := part_eq _ rfl
  rw [ea, eb]
  obtain ⟨a1, a2, a3⟩ := F40_ok za_dig za_len
  obtain ⟨b1, b2, b3⟩ := F40_ok zb_dig zb_len
  have qa : part1 (mult za base9) 32 0 32 = mult za base9 := part_eq _ (mult_len _ _)
  have qb : part1 (mult zb base9) 32 0 32 = mult zb base9 := part_eq _ (mult_len _ _)
  rw [a1, a2, a3, b1, b2, b3, qa, qb]
  obtain ⟨c1, c2, c3⟩ := F41_ok za_dig za_len (mult_dig zb base9) (mult_len _ _) (mult_base_ne za_dig za_len zb_dig zb_len)
  obtain ⟨d1, d2, d3⟩ := F41_ok zb_dig zb_len (mult_dig za base9) (mult_len _ _) (mult_base_ne zb_dig zb_len za_dig za_len)
  rw [c1, c2, c3, d1, d2, d3, take_all (mult_len _ _), take_all (mult_len _ _), take_all (mult_len _ _), take_all (mult_len _ _), mult_swap za_dig za_len zb_dig zb_len, strEq_refl]
  rw [strEq_bytes (mult_dig _ _) (mult_dig _ _)]
  have hne : mult za base9 ≠ mult zb base9 := by
    intro h
    have := mult_inj h
    rw [za_N, zb_N, uOf_base] at this
    exact Tabn.Um_two this
  rw [decide_eq_false hne]
  have e0 : ((iAdd .i64 (iAdd .i64 (iAdd .i64 0 0) 0) 0 : Int) == 0) = true := by decide
  rw [e0]
  simp only [sel_true, Bool.not_false]
  rfl
end Go.Vm
