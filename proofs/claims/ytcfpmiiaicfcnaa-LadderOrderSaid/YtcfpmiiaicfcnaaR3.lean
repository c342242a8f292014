import Derived.Test.YtcfpmiiaicfcnaaR2
set_option linter.unusedVariables false
namespace Go.Vm
open Go

theorem su_pairs (b : List Int) : ∀ j, su 65536 (fun k => b.getD (2 * k) 0 + 256 * b.getD (2 * k + 1) 0) j = num 256 (b.take (2 * j))
  | 0 => by simp [su, num]
  | j + 1 => by
    rw [su_succ, su_pairs b j, show 2 * (j + 1) = 2 * j + 1 + 1 by omega, num_take, num_take, Int.pow_succ]
    have e : (65536 : Int) ^ j = 256 ^ (2 * j) := by rw [Int.pow_mul]; rfl
    rw [e, Int.add_mul]
    generalize (256 : Int) ^ (2 * j) = p
    rw [Int.mul_comm p 256, ← Int.mul_assoc, Int.mul_comm 256 (b.getD _ _)]
    omega

theorem wrap8_64 {x : Int} (h : 0 ≤ x ∧ x < 256) : IntKind.wrap .i64 x = x := wrap_small (by omega) (by omega)

theorem R_read {b : List Int} (hb : Dig 256 b) (hl : b.length = 32) : R (F24 b) (num 256 b % 57896044618658097711785492504343953926634992332820282019728792003956564819968) := by
  obtain ⟨h1, h2, h3⟩ := itr_all (f := F24l0 b) (p := List.replicate 16 0) (n := 16) (g := fun k => b.getD (2 * k) 0 + 256 * b.getD (2 * k + 1) 0) rfl 65536 (by
    intro k z hk hz
    unfold F24l0
    have a := getD_dig (i := 2 * k) (by decide) hb
    have c := getD_dig (i := 2 * k + 1) (by decide) hb
    rw [wrap8_64 a, wrap8_64 c, iMul_i64 (by omega) (by omega), iAdd_i64 (by omega) (by omega)]) (by
    intro k hk
    have a := getD_dig (i := 2 * k) (by decide) hb
    have c := getD_dig (i := 2 * k + 1) (by decide) hb
    omega)
  have h15 : 0 ≤ (itr (F24l0 b) 16 (List.replicate 16 0)).getD 15 0 := by
    obtain ⟨k1, k2, k3, k4⟩ := itr_pt (B := 65536) (f := F24l0 b) (p := List.replicate 16 0) (n := 16) (o := 0) (g := fun k => b.getD (2 * k) 0 + 256 * b.getD (2 * k + 1) 0) (by decide) (by
      intro k z hk _ hz
      unfold F24l0
      have a := getD_dig (i := 2 * k) (by decide) hb
      have c := getD_dig (i := 2 * k + 1) (by decide) hb
      rw [wrap8_64 a, wrap8_64 c, iMul_i64 (by omega) (by omega), iAdd_i64 (by omega) (by omega)]; rfl) 16 (Nat.le_refl _)
    have := k2 15 (by decide)
    have a := getD_dig (i := 30) (by decide) hb
    have c := getD_dig (i := 31) (by decide) hb
    have e : (itr (F24l0 b) 16 (List.replicate 16 0)).getD 15 0 = b.getD 30 0 + 256 * b.getD 31 0 := this
    omega
  rw [su_pairs, List.take_of_length_le (by omega)] at h3
  have e0 : F24 b = F46 ((itr (F24l0 b) 16 (List.replicate 16 0)).set 15 (iRem ((itr (F24l0 b) 16 (List.replicate 16 0)).getD 15 0) 32768)) := rfl
  have hD : Dig 65536 (itr (F24l0 b) 16 (List.replicate 16 0)) := by
    obtain ⟨k1, k2, k3, k4⟩ := itr_pt (B := 65536) (f := F24l0 b) (p := List.replicate 16 0) (n := 16) (o := 0) (g := fun k => b.getD (2 * k) 0 + 256 * b.getD (2 * k + 1) 0) (by decide) (by
      intro k z hk _ hz
      unfold F24l0
      have a := getD_dig (i := 2 * k) (by decide) hb
      have c := getD_dig (i := 2 * k + 1) (by decide) hb
      rw [wrap8_64 a, wrap8_64 c, iMul_i64 (by omega) (by omega), iAdd_i64 (by omega) (by omega)]; rfl) 16 (Nat.le_refl _)
    apply dig_of_getD
    intro i hi
    have e := k2 i (by omega)
    have a := getD_dig (i := 2 * i) (by decide) hb
    have c := getD_dig (i := 2 * i + 1) (by decide) hb
    rw [Nat.add_zero] at e
    rw [e]; omega
  rw [e0]
  have g15 := getD_num (B := 65536) (by decide) (i := 15) hD
  rw [h3] at g15
  generalize itr (F24l0 b) 16 (List.replicate 16 0) = d at *
  have b15 := getD_dig (i := 15) (by decide) hD
  have erem : iRem (d.getD 15 0) 32768 = d.getD 15 0 % 32768 := by
    unfold iRem; exact Int.tmod_eq_emod_of_nonneg h15
  rw [erem]
  refine R_low (by rw [List.length_set, h1]) ((hD.bd (by decide)).set (by omega)) ?_
  rw [num_set (by omega), h3, g15]
  have hq : (65536 : Int) ^ 15 = 1766847064778384329583297500742918515827483896875618958121606201292619776 := rfl
  rw [hq]
  congr 1
  obtain ⟨n1, n2⟩ := num_bd (B := 256) (by decide) hb
  rw [hl] at n2
  have hp : (256 : Int) ^ 32 = 115792089237316195423570985008687907853269984665640564039457584007913129639936 := rfl
  rw [hp] at n2
  omega

theorem R.beq {m n : List Int} {v w : Int} (hm : R m v) (hn : R n w) : (m == n) = decide (v % PP = w % PP) := by
  by_cases h : v % PP = w % PP
  · rw [decide_eq_true h]
    unfold R at hm hn
    rw [hm, hn, h]; exact beq_self_eq_true _
  · rw [decide_eq_false h]
    refine beq_eq_false_iff_ne.2 fun e => h ?_
    rw [← hm.num, ← hn.num, e]

theorem byte_bit2 {b : List Int} (hb : Dig 256 b) {N : Nat} (hN : num 256 b = (N : Int)) (k j : Nat) (hj : j < 8) : iRem (iShr .u8 (b.getD k 0) (j : Int)) 2 = ((N / 2 ^ (8 * k + j) % 2 : Nat) : Int) := by
  have h := byte_bit hb hN (8 * k + j)
  rw [show (8 * k + j) / 8 = k by omega, show (8 * k + j) % 8 = j by omega] at h
  have hd := getD_dig (B := 256) (by decide) hb (i := k)
  rw [bit_at uns8 (by decide) (show j ≤ 8 by omega) hd] at h
  rw [← h, iShr_at .u8 _ j (show j ≤ 8 by omega)]
  unfold iRem
  exact Int.tmod_eq_emod_of_nonneg (Int.ediv_nonneg hd.1 (Int.le_of_lt (two_pos j)))

theorem mod_bit_nat (x k : Nat) : x % 2 ^ (k + 1) = x % 2 ^ k + x / 2 ^ k % 2 * 2 ^ k := by
  have h := mod_bit (x : Int) k
  have e : ∀ n : Nat, (2 : Int) ^ n = ((2 ^ n : Nat) : Int) := fun n => by rw [Int.natCast_pow]; rfl
  rw [e, e] at h
  exact_mod_cast h

theorem R_pow {x b : List Int} {v : Int} (hx : R x v) (hb : Dig 256 b) {N : Nat} (hN : num 256 b = (N : Int)) : R (F27 x b) (v ^ N) := by
  have inner : ∀ k, ∀ z : List Int × List Int, R z.1 (v ^ (N % 2 ^ (8 * k))) → R z.2 (v ^ (2 ^ (8 * k))) → ∀ j, j ≤ 8 →
      R (itr (F27l1 b k) j z).1 (v ^ (N % 2 ^ (8 * k + j))) ∧ R (itr (F27l1 b k) j z).2 (v ^ (2 ^ (8 * k + j))) := by
    intro k z h1 h2 j
    induction j with
    | zero => intro _; rw [itr_zero]; exact ⟨h1, h2⟩
    | succ j ih =>
      intro hj
      obtain ⟨g1, g2⟩ := ih (by omega)
      rw [itr_succ]
      generalize itr (F27l1 b k) j z = u at *
      unfold F27l1
      simp only
      rw [byte_bit2 hb hN k j (by omega)]
      refine ⟨?_, ?_⟩
      · rw [show 8 * k + (j + 1) = (8 * k + j) + 1 by omega, mod_bit_nat]
        generalize 8 * k + j = i at *
        rcases Nat.mod_two_eq_zero_or_one (N / 2 ^ i) with h0 | h0
        · rw [h0, Nat.zero_mul, Nat.add_zero]
          have : (((0 : Nat) : Int) == 1) = false := rfl
          rw [this, sel_false]
          exact g1
        · rw [h0, Nat.one_mul]
          have : (((1 : Nat) : Int) == 1) = true := rfl
          rw [this, sel_true, Int.pow_add]
          exact R_mul g1 g2
      · rw [show 8 * k + (j + 1) = (8 * k + j) + 1 by omega, Nat.pow_succ, Nat.mul_two, Int.pow_add]
        exact R_mul g2 g2
  have outer : ∀ k, k ≤ b.length → R (itr (F27l0 b) k (F31 1, x)).1 (v ^ (N % 2 ^ (8 * k))) ∧ R (itr (F27l0 b) k (F31 1, x)).2 (v ^ (2 ^ (8 * k))) := by
    intro k
    induction k with
    | zero =>
      intro _
      rw [itr_zero, Nat.mul_zero, Nat.pow_zero, Nat.mod_one, Int.pow_zero, Int.pow_one]
      exact ⟨R_small (by decide), hx⟩
    | succ k ih =>
      intro hk
      obtain ⟨g1, g2⟩ := ih (by omega)
      rw [itr_succ]
      obtain ⟨i1, i2⟩ := inner k _ g1 g2 8 (Nat.le_refl _)
      rw [show 8 * (k + 1) = 8 * k + 8 by omega]
      exact ⟨i1, i2⟩
  have hlt : N < 2 ^ (8 * b.length) := by
    obtain ⟨M, h1, h2⟩ := num_nat hb
    rw [hN] at h1
    have : N = M := by omega
    rw [this]; exact h2
  have := (outer b.length (Nat.le_refl _)).1
  rw [Nat.mod_eq_of_lt hlt] at this
  unfold F27
  rw [Nat.sub_zero]
  exact this

theorem ediv_pow2 (v : Int) (j : Nat) : v / 65536 ^ j = v / 256 ^ (2 * j) := by
  rw [Int.pow_mul]; rfl

theorem R_bytes {d : List Int} {v : Int} (hd : R d v) : ∀ j, j ≤ 16 → itr (F49l0 d) j (0, []) = (2 * j, digs 256 (2 * j) (v % PP)) := by
  intro j
  induction j with
  | zero => intro _; rw [itr_zero]; rfl
  | succ j ih =>
    intro hj
    rw [itr_succ, ih (by omega)]
    unfold F49l0
    simp only
    have h1 : d.getD j 0 = v % PP / 65536 ^ j % 65536 := by rw [hd, digs_getD (by decide) 16 j _ (by omega)]
    have h2 := hd.at j
    have e1 : IntKind.wrap .u8 (iRem (d.getD j 0) 256) = d.getD j 0 % 256 := by
      unfold iRem
      rw [Int.tmod_eq_emod_of_nonneg h2.1, wrap_u8]; omega
    have e2 : IntKind.wrap .u8 (iQuo .i64 (d.getD j 0) 256) = d.getD j 0 / 256 := by
      unfold iQuo
      rw [Int.tdiv_eq_ediv_of_nonneg h2.1, wrap_small (by omega) (by omega), wrap_u8]; omega
    rw [e1, e2, show 2 * (j + 1) = 2 * j + 2 by omega, digs_append (by decide) (2 * j) 2]
    refine Prod.ext rfl ?_
    simp only
    congr 1
    rw [h1, ediv_pow2]
    generalize v % PP / 256 ^ (2 * j) = u
    show _ = [u % 256, u / 256 % 256]
    congr 1
    · omega
    · congr 1; omega

theorem F49_val {d : List Int} {v : Int} (hd : R d v) : F49 d = digs 256 32 (v % PP) := by
  unfold F49; rw [R_bytes hd 16 (Nat.le_refl _)]

theorem near_255_21 : F50 255 21 = [235, 255, 255, 255, 255, 255, 255, 255, 255, 255, 255, 255, 255, 255, 255, 255, 255, 255, 255, 255, 255, 255, 255, 255, 255, 255, 255, 255, 255, 255, 255, 127] := by kernel_rfl
theorem near_252_2 : F50 252 2 = [254, 255, 255, 255, 255, 255, 255, 255, 255, 255, 255, 255, 255, 255, 255, 255, 255, 255, 255, 255, 255, 255, 255, 255, 255, 255, 255, 255, 255, 255, 255, 15] := by kernel_rfl
theorem near_253_5 : F50 253 5 = [251, 255, 255, 255, 255, 255, 255, 255, 255, 255, 255, 255, 255, 255, 255, 255, 255, 255, 255, 255, 255, 255, 255, 255, 255, 255, 255, 255, 255, 255, 255, 31] := by kernel_rfl
theorem all_255_21 : F51 255 21 = [235, 255, 255, 255, 255, 255, 255, 255, 255, 255, 255, 255, 255, 255, 255, 255, 255, 255, 255, 255, 255, 255, 255, 255, 255, 255, 255, 255, 255, 255, 255, 127] := by kernel_rfl
theorem all_252_2 : F51 252 2 = [254, 255, 255, 255, 255, 255, 255, 255, 255, 255, 255, 255, 255, 255, 255, 255, 255, 255, 255, 255, 255, 255, 255, 255, 255, 255, 255, 255, 255, 255, 255, 15] := by kernel_rfl
theorem all_253_5 : F51 253 5 = [251, 255, 255, 255, 255, 255, 255, 255, 255, 255, 255, 255, 255, 255, 255, 255, 255, 255, 255, 255, 255, 255, 255, 255, 255, 255, 255, 255, 255, 255, 255, 31] := by kernel_rfl

/-- The three exponents; they stay closed. -/
def eInv : Nat := 57896044618658097711785492504343953926634992332820282019728792003956564819947
def eRoot : Nat := 7237005577332262213973186563042994240829374041602535252466099000494570602494
def eTwo : Nat := 14474011154664524427946373126085988481658748083205070504932198000989141204987

theorem part_eq (xs : List Int) (h : xs.length = 32) : part1 xs 32 0 32 = xs := part1_all h

theorem E_inv {x : List Int} {v : Int} (hx : E x v) : E (F25 x) (v ^ eInv) := by
  unfold F25
  rw [near_255_21, part_eq _ rfl]
  exact pow_val hx (by unfold Dig; decide) (N := eInv) (by kernel_rfl)
theorem R_inv {x : List Int} {v : Int} (hx : R x v) : R (F28 x) (v ^ eInv) := by
  unfold F28
  rw [all_255_21, part_eq _ rfl]
  exact R_pow hx (by unfold Dig; decide) (N := eInv) (by kernel_rfl)
end Go.Vm
