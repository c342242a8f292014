import Derived.Test.YtcfpmiiaicfcnaaN2
set_option linter.unusedVariables false
namespace Go.Vm
open Go

/-- All digits are near nothing. -/
def Bd (K : Int) (xs : List Int) : Prop := ∀ x ∈ xs, -K ≤ x ∧ x ≤ K

theorem Bd.at {K : Int} (hK : 0 ≤ K) {xs : List Int} (h : Bd K xs) (i : Nat) : -K ≤ xs.getD i 0 ∧ xs.getD i 0 ≤ K := by
  rw [List.getD_eq_getElem?_getD]
  cases hj : xs[i]? with
  | none => simp; omega
  | some v => exact h v (List.mem_of_getElem? hj)

theorem Bd.set {K : Int} {xs : List Int} {i : Nat} {v : Int} (h : Bd K xs) (hv : -K ≤ v ∧ v ≤ K) : Bd K (xs.set i v) := by
  intro y hy
  rcases List.mem_or_eq_of_mem_set hy with h1 | h1
  · exact h y h1
  · rw [h1]; exact hv

theorem Dig.bd {B K : Int} (hK : B ≤ K) {xs : List Int} (h : Dig B xs) : Bd K xs := by
  intro x hx
  have := h x hx
  omega

theorem num_abs {K : Int} (hK : 0 ≤ K) : ∀ {xs : List Int}, Bd K xs → -(K * 65536 ^ xs.length - K) ≤ 65535 * num 65536 xs ∧ 65535 * num 65536 xs ≤ K * 65536 ^ xs.length - K
  | [], _ => by simp [num]
  | a :: as, h => by
    obtain ⟨h1, h2⟩ := num_abs hK (xs := as) (fun x hx => h x (List.mem_cons_of_mem _ hx))
    have ha := h a (by simp)
    rw [List.length_cons, num_cons, Int.pow_succ, ← Int.mul_assoc K]
    omega

/-- One digit carried on. -/
def ch (k : Nat) (z : Int × List Int) : Int × List Int :=
  ((iShr .i64 (iAdd .i64 (z.2.getD k 0) z.1) 16), z.2.set k (iSub .i64 (iAdd .i64 (z.2.getD k 0) z.1) (iShl .i64 (iShr .i64 (iAdd .i64 (z.2.getD k 0) z.1) 16) 16)))

theorem shl_i64 {x : Int} {n : Nat} (hn : n ≤ 64) (h : -9223372036854775808 ≤ x * 2 ^ n) (h' : x * 2 ^ n < 9223372036854775808) : iShl .i64 x (n : Int) = x * 2 ^ n := by
  rw [iShl_at .i64 x n hn]; exact wrap_small h h'

theorem ch_eq {k : Nat} {c : Int} {d : List Int} (h1 : -2305843009213693952 ≤ d.getD k 0 ∧ d.getD k 0 ≤ 2305843009213693952) (h2 : -70368744177664 ≤ c ∧ c ≤ 70368744177664) :
    ch k (c, d) = ((d.getD k 0 + c) / 65536, d.set k ((d.getD k 0 + c) % 65536)) := by
  unfold ch
  simp only
  rw [iAdd_i64 (by omega) (by omega)]
  have hx : -4611686018427387904 ≤ d.getD k 0 + c ∧ d.getD k 0 + c ≤ 4611686018427387904 := by omega
  generalize d.getD k 0 + c = x at *
  have e : iShr .i64 x 16 = x / 65536 := iShr_at .i64 x 16 (by decide)
  have e2 : iShl .i64 (x / 65536) 16 = x / 65536 * 65536 := shl_i64 (n := 16) (by decide) (by show _ ≤ _ * (65536 : Int); omega) (by show _ * (65536 : Int) < _; omega)
  rw [e, e2, iSub_i64 (by omega) (by omega)]
  congr 2
  omega

theorem take_set_lt {α : Type} {xs : List α} {k : Nat} {v : α} : (xs.set k v).take k = xs.take k := by
  rw [List.take_set, List.set_eq_of_length_le]
  rw [List.length_take]; omega

theorem chain_inv {d : List Int} (hd : Bd 2305843009213693952 d) : ∀ j, j ≤ d.length →
    (itr ch j (0, d)).2.length = d.length ∧ (∀ i, i < j → 0 ≤ (itr ch j (0, d)).2.getD i 0 ∧ (itr ch j (0, d)).2.getD i 0 < 65536) ∧
    (∀ i, j ≤ i → (itr ch j (0, d)).2.getD i 0 = d.getD i 0) ∧ (-70368744177664 ≤ (itr ch j (0, d)).1 ∧ (itr ch j (0, d)).1 ≤ 70368744177664) ∧
    num 65536 ((itr ch j (0, d)).2.take j) + (itr ch j (0, d)).1 * 65536 ^ j = num 65536 (d.take j) := by
  intro j
  induction j with
  | zero => intro _; rw [itr_zero]; refine ⟨rfl, fun i hi => absurd hi (by omega), fun _ _ => rfl, by simp only; omega, by simp [num]⟩
  | succ j ih =>
    intro hj
    obtain ⟨h1, h2, h3, h4, h5⟩ := ih (by omega)
    rw [itr_succ]
    generalize itr ch j (0, d) = z at *
    obtain ⟨c, d'⟩ := z
    simp only at h1 h2 h3 h4 h5
    have hb := hd.at (by decide) j
    rw [← h3 j (Nat.le_refl j)] at hb
    rw [ch_eq hb h4]
    simp only
    refine ⟨by rw [List.length_set]; exact h1, ?_, ?_, ?_, ?_⟩
    · intro i hi
      by_cases hij : i = j
      · subst hij; rw [getD_set_eq (by omega)]; omega
      · rw [getD_set_ne (by omega)]; exact h2 i (by omega)
    · intro i hi
      rw [getD_set_ne (by omega)]; exact h3 i (by omega)
    · omega
    · rw [num_take, take_set_lt, getD_set_eq (by omega), num_take, ← h3 j (Nat.le_refl j), ← h5, Int.pow_succ]
      generalize (65536 : Int) ^ j = p
      generalize d'.getD j 0 = x
      have := Int.emod_add_mul_ediv (x + c) 65536
      generalize (x + c) % 65536 = r at *
      generalize (x + c) / 65536 = q at *
      have e : x = r + 65536 * q - c := by omega
      subst e
      grind -lia -linarith

theorem dig_of_getD {B : Int} {xs : List Int} (h : ∀ i, i < xs.length → 0 ≤ xs.getD i 0 ∧ xs.getD i 0 < B) : Dig B xs := by
  intro x hx
  obtain ⟨j, hj, rfl⟩ := List.mem_iff_getElem.1 hx
  have := h j hj
  rw [List.getD_eq_getElem?_getD, List.getElem?_eq_getElem hj] at this
  exact this

theorem digs_mod : ∀ (n : Nat) (v : Int), digs 65536 n (v % 65536 ^ n) = digs 65536 n v := by
  intro n
  induction n with
  | zero => intro v; rfl
  | succ n ih =>
    intro v
    rw [digs_succ, digs_succ, Int.pow_succ, Int.mul_comm (65536 ^ n)]
    have hq : (0 : Int) < 65536 ^ n := Int.pow_pos (by decide)
    have a1 : v % (65536 * 65536 ^ n) % 65536 = v % 65536 := Int.emod_emod_of_dvd _ ⟨65536 ^ n, rfl⟩
    have a2 : v % (65536 * 65536 ^ n) / 65536 = v / 65536 % 65536 ^ n := by
      have x1 := Int.emod_add_mul_ediv v (65536 * 65536 ^ n)
      have x2 : v / (65536 * 65536 ^ n) = v / 65536 / 65536 ^ n := (Int.ediv_ediv_of_nonneg (by decide)).symm
      have x3 := Int.emod_add_mul_ediv (v / 65536) (65536 ^ n)
      rw [x2, Int.mul_assoc] at x1
      generalize 65536 ^ n * (v / 65536 / 65536 ^ n) = y at *
      omega
    rw [a1, a2, ih]

theorem chain_val {d : List Int} {n : Nat} (hn : d.length = n) (hd : Bd 2305843009213693952 d) : itr ch n (0, d) = (num 65536 d / 65536 ^ n, digs 65536 n (num 65536 d)) := by
  obtain ⟨h1, h2, h3, h4, h5⟩ := chain_inv hd n (by omega)
  generalize itr ch n (0, d) = z at *
  obtain ⟨c, d'⟩ := z
  simp only at h1 h2 h3 h4 h5
  rw [List.take_of_length_le (by omega), List.take_of_length_le (by omega)] at h5
  have hD : Dig 65536 d' := dig_of_getD (fun i hi => h2 i (by omega))
  obtain ⟨b1, b2⟩ := num_bd (by decide) hD
  have hp : (0 : Int) < 65536 ^ n := Int.pow_pos (by decide)
  rw [h1, hn] at b2
  have e1 : num 65536 d / 65536 ^ n = c := by
    rw [← h5, Int.add_mul_ediv_right _ _ (by omega), Int.ediv_eq_zero_of_lt b1 b2]; omega
  have e2 : num 65536 d % 65536 ^ n = num 65536 d' := by
    rw [← h5, Int.add_mul_emod_self_right, Int.emod_eq_of_lt b1 b2]
  rw [e1]
  congr 1
  rw [← digs_mod, e2]
  exact digs_of (by decide) hD (by omega) rfl
end Go.Vm
