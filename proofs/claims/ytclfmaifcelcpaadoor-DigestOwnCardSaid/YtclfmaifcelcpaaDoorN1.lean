import Derived.Test.YtclfmaifcelcpaaDoorVmT
set_option linter.unusedVariables false
namespace Go.Vm
open Go

/-- The number that digits are, the lowest first. -/
def num (B : Int) : List Int → Int
  | [] => 0
  | a :: as => a + B * num B as

/-- So many digits of a number. -/
def digs (B : Int) : Nat → Int → List Int
  | 0, _ => []
  | n + 1, v => v % B :: digs B n (v / B)

def Dig (B : Int) (xs : List Int) : Prop := ∀ x ∈ xs, 0 ≤ x ∧ x < B

theorem num_cons (B a : Int) (as : List Int) : num B (a :: as) = a + B * num B as := rfl
theorem digs_succ (B v : Int) (n : Nat) : digs B (n + 1) v = v % B :: digs B n (v / B) := rfl

theorem Dig.cons {B a : Int} {as : List Int} (h : Dig B (a :: as)) : (0 ≤ a ∧ a < B) ∧ Dig B as :=
  ⟨h a (by simp), fun x hx => h x (List.mem_cons_of_mem _ hx)⟩

theorem Dig.mk_cons {B a : Int} {as : List Int} (h : 0 ≤ a ∧ a < B) (h' : Dig B as) : Dig B (a :: as) := by
  intro x hx
  rcases List.mem_cons.1 hx with rfl | hx
  · exact h
  · exact h' x hx

theorem Dig.nil {B : Int} : Dig B [] := fun _ h => by cases h

theorem pow2_mono {a b : Nat} (h : a ≤ b) : (2 : Int) ^ a ≤ 2 ^ b := by
  obtain ⟨d, rfl⟩ := Nat.exists_eq_add_of_le h
  have h1 : (0 : Int) < 2 ^ a := Int.pow_pos (by decide)
  have h2 : (0 : Int) < 2 ^ d := Int.pow_pos (by decide)
  have h3 := Int.mul_le_mul_of_nonneg_left (a := 1) (b := 2 ^ d) (c := 2 ^ a) (by omega) (by omega)
  rw [Int.pow_add]
  omega

theorem pow_pos' {B : Int} (hB : 0 < B) (n : Nat) : 0 < B ^ n := Int.pow_pos hB

theorem num_bd {B : Int} (hB : 0 < B) : ∀ {xs : List Int}, Dig B xs → 0 ≤ num B xs ∧ num B xs < B ^ xs.length
  | [], _ => by simp [num]
  | a :: as, h => by
    obtain ⟨ha, hs⟩ := h.cons
    obtain ⟨h1, h2⟩ := num_bd hB hs
    have h3 : 0 ≤ B * num B as := Int.mul_nonneg (by omega) h1
    have h4 : B * (num B as + 1) ≤ B * B ^ as.length := Int.mul_le_mul_of_nonneg_left (by omega) (by omega)
    rw [num_cons, List.length_cons, Int.pow_succ, Int.mul_comm (B ^ _) B]
    rw [Int.mul_add] at h4
    omega

theorem digs_length (B : Int) : ∀ (n : Nat) (v : Int), (digs B n v).length = n
  | 0, _ => rfl
  | n + 1, v => by rw [digs_succ, List.length_cons, digs_length B n]

theorem digs_dig {B : Int} (hB : 0 < B) : ∀ (n : Nat) (v : Int), Dig B (digs B n v)
  | 0, _ => Dig.nil
  | n + 1, v => Dig.mk_cons ⟨Int.emod_nonneg _ (by omega), Int.emod_lt_of_pos _ hB⟩ (digs_dig hB n _)

theorem num_digs {B : Int} (hB : 0 < B) : ∀ (n : Nat) (v : Int), num B (digs B n v) = v % B ^ n
  | 0, v => by simp [digs, num]
  | n + 1, v => by
    rw [digs_succ, num_cons, num_digs hB n, Int.pow_succ, Int.mul_comm (B ^ n) B]
    have h1 := Int.emod_nonneg v (b := B) (by omega)
    have h2 := Int.emod_lt_of_pos v hB
    have h3 := Int.emod_add_mul_ediv v B
    have h4 := Int.emod_add_mul_ediv (v / B) (B ^ n)
    have hn := pow_pos' hB n
    have h5 := Int.emod_nonneg (v / B) (b := B ^ n) (by omega)
    have h6 := Int.emod_lt_of_pos (v / B) hn
    have h7 : B * (v / B % B ^ n + 1) ≤ B * B ^ n := Int.mul_le_mul_of_nonneg_left (by omega) (by omega)
    have h8 : 0 ≤ B * (v / B % B ^ n) := Int.mul_nonneg (by omega) h5
    rw [Int.mul_add] at h7
    have e : v = (v % B + B * (v / B % B ^ n)) + (B * B ^ n) * (v / B / B ^ n) := by
      rw [Int.mul_assoc]
      rw [Int.add_assoc, ← Int.mul_add, h4, h3]
    have e2 : v % (B * B ^ n) = (v % B + B * (v / B % B ^ n)) % (B * B ^ n) := by
      conv => lhs; rw [e]
      rw [Int.add_mul_emod_self_left]
    rw [e2]
    exact (Int.emod_eq_of_lt (by omega) (by omega)).symm

theorem digs_num {B : Int} (hB : 0 < B) : ∀ {xs : List Int}, Dig B xs → digs B xs.length (num B xs) = xs
  | [], _ => rfl
  | a :: as, h => by
    obtain ⟨ha, hs⟩ := h.cons
    rw [List.length_cons, digs_succ, num_cons, Int.add_mul_emod_self_left, Int.emod_eq_of_lt ha.1 ha.2, Int.add_mul_ediv_left _ _ (by omega), Int.ediv_eq_zero_of_lt ha.1 ha.2, Int.zero_add, digs_num hB hs]

theorem digs_of {B : Int} (hB : 0 < B) {xs : List Int} {n : Nat} {v : Int} (h : Dig B xs) (hn : xs.length = n) (hv : num B xs = v) : xs = digs B n v := by
  rw [← digs_num hB h, hn, hv]

theorem num_set {B : Int} : ∀ {xs : List Int} {i : Nat} {x : Int}, i < xs.length → num B (xs.set i x) = num B xs + (x - xs.getD i 0) * B ^ i
  | [], i, x, h => by simp at h
  | a :: as, 0, x, h => by simp [num]; omega
  | a :: as, i + 1, x, h => by
    have := num_set (B := B) (xs := as) (i := i) (x := x) (by simpa using h)
    rw [List.set_cons_succ, num_cons, this, num_cons, List.getD_cons_succ, Int.pow_succ, Int.mul_add]
    have : B * ((x - as.getD i 0) * B ^ i) = (x - as.getD i 0) * (B ^ i * B) := by rw [Int.mul_comm B, Int.mul_assoc]
    omega

theorem dig_set {B : Int} {xs : List Int} {i : Nat} {x : Int} (h : Dig B xs) (hx : 0 ≤ x ∧ x < B) : Dig B (xs.set i x) := by
  intro y hy
  rcases List.mem_or_eq_of_mem_set hy with h1 | h1
  · exact h y h1
  · rw [h1]; exact hx

theorem getD_num {B : Int} (hB : 0 < B) : ∀ {xs : List Int} {i : Nat}, Dig B xs → xs.getD i 0 = num B xs / B ^ i % B
  | [], i, h => by simp [num]
  | a :: as, 0, h => by
    obtain ⟨ha, hs⟩ := h.cons
    rw [List.getD_cons_zero, num_cons, Int.pow_zero, Int.ediv_one, Int.add_mul_emod_self_left, Int.emod_eq_of_lt ha.1 ha.2]
  | a :: as, i + 1, h => by
    obtain ⟨ha, hs⟩ := h.cons
    rw [List.getD_cons_succ, getD_num hB (i := i) hs, num_cons, Int.pow_succ, Int.mul_comm (B ^ i) B, ← Int.ediv_ediv_of_nonneg (by omega), Int.add_mul_ediv_left _ _ (by omega), Int.ediv_eq_zero_of_lt ha.1 ha.2, Int.zero_add]

theorem getD_dig {B : Int} (hB : 0 < B) {xs : List Int} {i : Nat} (h : Dig B xs) : 0 ≤ xs.getD i 0 ∧ xs.getD i 0 < B := by
  rw [getD_num hB h]
  exact ⟨Int.emod_nonneg _ (by omega), Int.emod_lt_of_pos _ hB⟩

theorem num_take {B : Int} : ∀ {xs : List Int} {i : Nat}, num B (xs.take (i + 1)) = num B (xs.take i) + xs.getD i 0 * B ^ i
  | [], i => by simp [num]
  | a :: as, 0 => by simp [num]
  | a :: as, i + 1 => by
    have := num_take (B := B) (xs := as) (i := i)
    rw [List.take_succ_cons, num_cons, this, List.take_succ_cons, num_cons, List.getD_cons_succ, Int.pow_succ, Int.mul_add]
    have : B * (as.getD i 0 * B ^ i) = as.getD i 0 * (B ^ i * B) := by rw [Int.mul_comm B, Int.mul_assoc]
    omega

theorem num_zeros (B : Int) : ∀ n, num B (List.replicate n 0) = 0
  | 0 => rfl
  | n + 1 => by rw [List.replicate_succ, num_cons, num_zeros B n]; simp

/-- A bit of a remainder. -/
theorem emod_ediv_bit (x : Int) {m r : Nat} (h : r < m) : x % 2 ^ m / 2 ^ r % 2 = x / 2 ^ r % 2 := by
  obtain ⟨d, rfl⟩ : ∃ d, m = r + (d + 1) := ⟨m - r - 1, by omega⟩
  have hr := pow_pos' (B := 2) (by decide) r
  have e1 := Int.emod_add_mul_ediv x (2 ^ (r + (d + 1)))
  have e2 : x / 2 ^ r = x % 2 ^ (r + (d + 1)) / 2 ^ r + 2 * (2 ^ d * (x / 2 ^ (r + (d + 1)))) := by
    conv => lhs; rw [← e1]
    rw [Int.pow_add, Int.mul_assoc, Int.add_mul_ediv_left _ _ (by omega), Int.pow_succ, Int.mul_comm (2 ^ d) 2, Int.mul_assoc]
  rw [e2, Int.add_mul_emod_self_left]

theorem digit_bit {m : Nat} (hm : 0 < m) {xs : List Int} (h : Dig (2 ^ m) xs) (k : Nat) : xs.getD (k / m) 0 / 2 ^ (k % m) % 2 = num (2 ^ m) xs / 2 ^ k % 2 := by
  have hB := pow_pos' (B := 2) (by decide) m
  rw [getD_num hB h, emod_ediv_bit _ (Nat.mod_lt _ hm), Int.ediv_ediv_of_nonneg (Int.le_of_lt (pow_pos' hB _)), ← Int.pow_mul, ← Int.pow_add, Nat.div_add_mod]

/-- The next bit of a number. -/
theorem mod_bit (x : Int) (k : Nat) : x % 2 ^ (k + 1) = x % 2 ^ k + x / 2 ^ k % 2 * 2 ^ k := by
  have hk := pow_pos' (B := 2) (by decide) k
  have e1 := Int.emod_add_mul_ediv x (2 ^ k)
  have e2 := Int.emod_add_mul_ediv (x / 2 ^ k) 2
  have h1 := Int.emod_nonneg x (b := 2 ^ k) (by omega)
  have h2 := Int.emod_lt_of_pos x hk
  have e : x = (x % 2 ^ k + x / 2 ^ k % 2 * 2 ^ k) + 2 ^ (k + 1) * (x / 2 ^ k / 2) := by
    rw [Int.pow_succ, Int.mul_assoc, Int.add_assoc, Int.mul_comm (x / 2 ^ k % 2), ← Int.mul_add, e2, e1]
  conv => lhs; rw [e]
  rw [Int.add_mul_emod_self_left]
  rcases Int.emod_two_eq (x / 2 ^ k) with h | h <;> rw [h, Int.pow_succ] <;> exact Int.emod_eq_of_lt (by omega) (by omega)

theorem iOr_sum (u v : Int) (n : Nat) (hu : 0 ≤ u) (hv : 0 ≤ v) (hv' : v < 2 ^ n) (h : u * 2 ^ n + v < 18446744073709551616) : iOr .u64 (u * 2 ^ n) v = u * 2 ^ n + v := by
  obtain ⟨a, rfl⟩ := Int.eq_ofNat_of_zero_le hu
  obtain ⟨b, rfl⟩ := Int.eq_ofNat_of_zero_le hv
  have hb : b < 2 ^ n := by
    have h0 : ((2 : Int) ^ n) = ((2 ^ n : Nat) : Int) := by rw [Int.natCast_pow]; rfl
    have h1 : (b : Int) < 2 ^ n := hv'
    rw [h0] at h1
    exact Int.ofNat_lt.1 h1
  have hab : a * 2 ^ n + b < 18446744073709551616 := by
    have h0 : ((a : Int) * 2 ^ n) = ((a * 2 ^ n : Nat) : Int) := by rw [Int.natCast_mul, Int.natCast_pow]; rfl
    have h1 : ((a : Int)) * 2 ^ n + (b : Int) < 18446744073709551616 := h
    rw [h0] at h1
    omega
  have e : ((a : Int) * 2 ^ n) = ((a * 2 ^ n : Nat) : Int) := by rw [Int.natCast_mul, Int.natCast_pow]; rfl
  rw [e]
  unfold iOr
  rw [wrap_u64]
  show (((BitVec.ofInt 64 ((a * 2 ^ n : Nat) : Int) ||| BitVec.ofInt 64 (b : Int)).toNat : Nat) : Int) % 18446744073709551616 = _
  rw [BitVec.ofInt_natCast, BitVec.ofInt_natCast, BitVec.toNat_or, BitVec.toNat_ofNat, BitVec.toNat_ofNat, Nat.mod_eq_of_lt (a := a * 2 ^ n) (by omega), Nat.mod_eq_of_lt (a := b) (by omega)]
  have : a * 2 ^ n ||| b = a * 2 ^ n + b := by
    rw [Nat.mul_comm]; exact (Nat.two_pow_add_eq_or_of_lt hb a).symm
  rw [this]
  omega

/-- Bits put together: the state after k bits. -/
theorem bits_step {m n k : Nat} (hm : 0 < m) (hk : k < m * n) {t : List Int} {v x : Int} (ht : Dig (2 ^ m) t) (hn : t.length = n) (hv : num (2 ^ m) t = v % 2 ^ k) (hx : x = t.getD (k / m) 0 + v / 2 ^ k % 2 * 2 ^ (k % m)) :
    t.getD (k / m) 0 < 2 ^ (k % m) ∧ Dig (2 ^ m) (t.set (k / m) x) ∧ (t.set (k / m) x).length = n ∧ num (2 ^ m) (t.set (k / m) x) = v % 2 ^ (k + 1) := by
  have hB := pow_pos' (B := 2) (by decide) m
  have hr : k % m < m := Nat.mod_lt _ hm
  have hi : k / m < n := by rw [Nat.div_lt_iff_lt_mul hm, Nat.mul_comm]; exact hk
  have hpk := pow_pos' (B := 2) (by decide) k
  have hpr := pow_pos' (B := 2) (by decide) (k % m)
  have h0 := getD_dig hB ht (i := k / m)
  have hg : t.getD (k / m) 0 < 2 ^ (k % m) := by
    have h1 : 0 ≤ v % 2 ^ k := Int.emod_nonneg _ (by omega)
    have h2 : v % 2 ^ k < 2 ^ k := Int.emod_lt_of_pos _ hpk
    have e : (2 : Int) ^ k = 2 ^ (k % m) * (2 ^ m) ^ (k / m) := by
      rw [← Int.pow_mul, ← Int.pow_add, Nat.mod_add_div]
    have h3 : v % 2 ^ k / (2 ^ m) ^ (k / m) < 2 ^ (k % m) := by
      apply Int.ediv_lt_of_lt_mul (pow_pos' hB _)
      rw [← e]; exact h2
    have h4 : 0 ≤ v % 2 ^ k / (2 ^ m) ^ (k / m) := Int.ediv_nonneg h1 (Int.le_of_lt (pow_pos' hB _))
    have h5 : (2 : Int) ^ (k % m) ≤ 2 ^ m := pow2_mono (by omega)
    rw [getD_num hB ht, hv, Int.emod_eq_of_lt h4 (by omega)]
    exact h3
  refine ⟨hg, dig_set ht ?_, by rw [List.length_set, hn], ?_⟩
  · have h5 : (2 : Int) ^ (k % m + 1) ≤ 2 ^ m := pow2_mono (by omega)
    rw [Int.pow_succ] at h5
    rw [hx]
    rcases Int.emod_two_eq (v / 2 ^ k) with h | h <;> rw [h] <;> omega
  · rw [num_set (by omega), hv, hx, mod_bit]
    have e : (v / 2 ^ k % 2 * 2 ^ (k % m)) * (2 ^ m) ^ (k / m) = v / 2 ^ k % 2 * 2 ^ k := by
      rw [Int.mul_assoc, ← Int.pow_mul, ← Int.pow_add, Nat.mod_add_div]
    rw [← e]
    congr 2
    omega
end Go.Vm
