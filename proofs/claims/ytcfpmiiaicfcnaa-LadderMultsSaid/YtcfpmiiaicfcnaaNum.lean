/- Plain number theory: Fermat's little theorem, Pocklington's test, and 2^255-19 is prime. -/
namespace Tabn

def IsPrime (n : Nat) : Prop := 2 ≤ n ∧ ∀ m, m ∣ n → m = 1 ∨ m = n

theorem IsPrime.coprime_of_lt {p k : Nat} (hp : IsPrime p) (h0 : 0 < k) (h1 : k < p) : Nat.Coprime p k := by
  rcases hp.2 (Nat.gcd p k) (Nat.gcd_dvd_left p k) with h | h
  · exact h
  · have := Nat.gcd_dvd_right p k
    rw [h] at this
    have := Nat.le_of_dvd h0 this
    omega

theorem IsPrime.dvd_mul {p a b : Nat} (hp : IsPrime p) (h : p ∣ a * b) : p ∣ a ∨ p ∣ b := by
  rcases hp.2 (Nat.gcd p a) (Nat.gcd_dvd_left p a) with h1 | h1
  · exact .inr (Nat.Coprime.dvd_of_dvd_mul_left h1 h)
  · exact .inl (h1 ▸ Nat.gcd_dvd_right p a)

def choose : Nat → Nat → Nat
  | _, 0 => 1
  | 0, _ + 1 => 0
  | n + 1, k + 1 => choose n k + choose n (k + 1)

theorem choose_big : ∀ n k, n < k → choose n k = 0
  | 0, 0, h => by omega
  | 0, k + 1, _ => rfl
  | n + 1, 0, h => by omega
  | n + 1, k + 1, h => by
    show choose n k + choose n (k + 1) = 0
    rw [choose_big n k (by omega), choose_big n (k + 1) (by omega)]

theorem choose_zero (n : Nat) : choose n 0 = 1 := by cases n <;> rfl

theorem choose_self : ∀ n, choose n n = 1
  | 0 => rfl
  | n + 1 => by
    show choose n n + choose n (n + 1) = 1
    rw [choose_self n, choose_big n (n + 1) (by omega)]

theorem choose_mul : ∀ n k, (n + 1) * choose n k = choose (n + 1) (k + 1) * (k + 1)
  | n, 0 => by
    show (n + 1) * choose n 0 = (choose n 0 + choose n 1) * 1
    induction n with
    | zero => rfl
    | succ n ih =>
      simp only [choose_zero] at ih ⊢
      have : choose (n + 1) 1 = choose n 0 + choose n 1 := rfl
      rw [this, choose_zero]
      omega
  | 0, k + 1 => by
    show (0 + 1) * choose 0 (k + 1) = (choose 0 (k + 1) + choose 0 (k + 2)) * (k + 2)
    simp [choose]
  | n + 1, k + 1 => by
    have h1 := choose_mul n k
    have h2 := choose_mul n (k + 1)
    have e1 : choose (n + 2) (k + 2) = choose (n + 1) (k + 1) + choose (n + 1) (k + 2) := rfl
    have e2 : choose (n + 1) (k + 1) = choose n k + choose n (k + 1) := rfl
    show (n + 1 + 1) * choose (n + 1) (k + 1) = choose (n + 2) (k + 2) * (k + 1 + 1)
    rw [e1]
    grind

theorem prime_dvd_choose {p k : Nat} (hp : IsPrime p) (h0 : 0 < k) (h1 : k < p) : p ∣ choose p k := by
  obtain ⟨n, rfl⟩ : ∃ n, p = n + 1 := ⟨p - 1, by omega⟩
  obtain ⟨j, rfl⟩ : ∃ j, k = j + 1 := ⟨k - 1, by omega⟩
  have h := choose_mul n j
  have hd : (n + 1) ∣ choose (n + 1) (j + 1) * (j + 1) := ⟨choose n j, h.symm⟩
  exact Nat.Coprime.dvd_of_dvd_mul_right (hp.coprime_of_lt h0 h1) hd

/-- The sum of choose n i * a^i over i < m. -/
def binsum (n a : Nat) : Nat → Nat
  | 0 => 0
  | m + 1 => binsum n a m + choose n m * a ^ m

theorem binsum_step (n a : Nat) : ∀ m, binsum (n + 1) a (m + 1) = binsum n a (m + 1) + a * binsum n a m
  | 0 => by simp [binsum, choose_zero]
  | m + 1 => by
    have ih := binsum_step n a m
    have e : choose (n + 1) (m + 1) = choose n m + choose n (m + 1) := rfl
    rw [binsum, ih, e, binsum, binsum, binsum, Nat.pow_succ]
    grind

theorem binomial (a : Nat) : ∀ n, (a + 1) ^ n = binsum n a (n + 1)
  | 0 => by simp [binsum, choose]
  | n + 1 => by
    have e : binsum n a (n + 1 + 1) = binsum n a (n + 1) := by
      rw [binsum, choose_big n (n + 1) (by omega)]; simp
    rw [Nat.pow_succ, binomial a n, binsum_step, e]
    grind

theorem binsum_mod {p : Nat} (hp : IsPrime p) (a : Nat) : ∀ m, m + 1 ≤ p → binsum p a (m + 1) % p = 1 % p
  | 0, _ => by simp [binsum, choose_zero]
  | m + 1, h => by
    rw [binsum, Nat.add_mod, binsum_mod hp a m (by omega)]
    obtain ⟨c, hc⟩ := prime_dvd_choose hp (show 0 < m + 1 by omega) (by omega)
    rw [hc, Nat.mul_assoc, Nat.mul_mod_right]
    simp

theorem frobenius {p : Nat} (hp : IsPrime p) (a : Nat) : (a + 1) ^ p % p = (a ^ p + 1) % p := by
  have h2 := hp.1
  rw [binomial, binsum, choose_self, Nat.one_mul]
  obtain ⟨q, hq⟩ : ∃ q, p = q + 1 := ⟨p - 1, by omega⟩
  have := binsum_mod hp a q (by omega)
  rw [← hq] at this
  rw [Nat.add_mod, this, ← Nat.add_mod, Nat.add_comm]

theorem fermat {p : Nat} (hp : IsPrime p) : ∀ a, a ^ p % p = a % p
  | 0 => by rw [Nat.zero_pow (by have := hp.1; omega)]
  | a + 1 => by
    rw [frobenius hp, Nat.add_mod, fermat hp a, ← Nat.add_mod]

theorem dvd_sub_of_mod {p a b : Nat} (h : a % p = b % p) : p ∣ a - b := Nat.dvd_of_mod_eq_zero (Nat.sub_mod_eq_zero_of_mod_eq h)
theorem mod_of_dvd_sub {p a b : Nat} (hle : b ≤ a) (h : p ∣ a - b) : a % p = b % p := by
  obtain ⟨c, hc⟩ := h
  have : a = b + p * c := by omega
  rw [this, Nat.add_mul_mod_self_left]

theorem mod_cancel {p a b c : Nat} (hp : IsPrime p) (ha : ¬ p ∣ a) (h : a * b % p = a * c % p) : b % p = c % p := by
  rcases Nat.le_total b c with hbc | hbc
  · have h1 : p ∣ a * c - a * b := dvd_sub_of_mod h.symm
    rw [← Nat.mul_sub] at h1
    rcases hp.dvd_mul h1 with h2 | h2
    · exact absurd h2 ha
    · exact (mod_of_dvd_sub hbc h2).symm
  · have h1 : p ∣ a * b - a * c := dvd_sub_of_mod h
    rw [← Nat.mul_sub] at h1
    rcases hp.dvd_mul h1 with h2 | h2
    · exact absurd h2 ha
    · exact (mod_of_dvd_sub hbc h2)

theorem fermat_one {p a : Nat} (hp : IsPrime p) (ha : ¬ p ∣ a) : a ^ (p - 1) % p = 1 % p := by
  refine mod_cancel hp ha ?_
  have h2 := hp.1
  have e : a * a ^ (p - 1) = a ^ p := by
    rw [← Nat.pow_succ']; congr 1; omega
  rw [e, Nat.mul_one, fermat hp]


/-! ### powers, by squaring -/
def pmod (m : Nat) : Nat → Nat → Nat → Nat
  | 0, _, _ => 1 % m
  | f + 1, a, e => if e = 0 then 1 % m else if e % 2 = 1 then a * pmod m f (a * a % m) (e / 2) % m else pmod m f (a * a % m) (e / 2)

theorem pmod_eq (m : Nat) : ∀ f a e, e < 2 ^ f → pmod m f a e = a ^ e % m
  | 0, a, e, h => by
    have : e = 0 := by simpa using h
    subst this
    rfl
  | f + 1, a, e, h => by
    have hlt : e / 2 < 2 ^ f := by rw [Nat.pow_succ] at h; omega
    have hs : (a * a % m) ^ (e / 2) % m = a ^ (2 * (e / 2)) % m := by
      rw [← Nat.pow_mod, Nat.pow_mul, Nat.pow_two]
    unfold pmod
    by_cases h0 : e = 0
    · subst h0; simp
    · rw [if_neg h0, pmod_eq m f _ _ hlt, hs]
      by_cases h1 : e % 2 = 1
      · rw [if_pos h1]
        rw [Nat.mul_mod, Nat.mod_mod, ← Nat.mul_mod, ← Nat.pow_succ']
        congr 2; omega
      · rw [if_neg h1]
        congr 2; omega

/-! ### Pocklington -/
theorem exists_prime : ∀ n, 2 ≤ n → ∃ r, IsPrime r ∧ r ∣ n := by
  intro n
  induction n using Nat.strongRecOn with
  | _ n ih =>
    intro hn
    by_cases hp : IsPrime n
    · exact ⟨n, hp, Nat.dvd_refl n⟩
    · have : ∃ m, m ∣ n ∧ m ≠ 1 ∧ m ≠ n := by
        apply Classical.byContradiction
        intro h
        apply hp
        refine ⟨hn, fun m hm => ?_⟩
        apply Classical.byContradiction
        intro h2
        exact h ⟨m, hm, fun e => h2 (.inl e), fun e => h2 (.inr e)⟩
      obtain ⟨m, hm, h1, h2⟩ := this
      have hle := Nat.le_of_dvd (by omega) hm
      have h0 : m ≠ 0 := by rintro rfl; have := Nat.eq_zero_of_zero_dvd hm; omega
      obtain ⟨r, hr, hd⟩ := ih m (by omega) (by omega)
      exact ⟨r, hr, Nat.dvd_trans hd hm⟩

theorem prime_of_small {n : Nat} (hn : 2 ≤ n) (h : ∀ r, IsPrime r → r ∣ n → n < r * r) : IsPrime n := by
  refine ⟨hn, fun m hm => ?_⟩
  obtain ⟨e, he⟩ := hm
  by_cases h1 : m = 1
  · exact .inl h1
  by_cases h2 : e = 1
  · subst h2; right; omega
  exfalso
  have hm0 : m ≠ 0 := by rintro rfl; omega
  have he0 : e ≠ 0 := by rintro rfl; omega
  obtain ⟨r, hr, hrd⟩ := exists_prime m (by omega)
  obtain ⟨s, hs, hsd⟩ := exists_prime e (by omega)
  have a1 := h r hr (Nat.dvd_trans hrd ⟨e, he⟩)
  have a2 := h s hs (Nat.dvd_trans hsd ⟨m, by rw [he, Nat.mul_comm]⟩)
  have b1 := Nat.le_of_dvd (by omega) hrd
  have b2 := Nat.le_of_dvd (by omega) hsd
  rcases Nat.le_total m e with hle | hle
  · have : r * r ≤ m * e := Nat.mul_le_mul b1 (Nat.le_trans b1 hle)
    omega
  · have : s * s ≤ m * e := Nat.mul_le_mul (Nat.le_trans b2 hle) b2
    omega

theorem one_pow_mod {p b m : Nat} (k : Nat) (h : b ^ m % p = 1 % p) : b ^ (m * k) % p = 1 % p := by
  rw [Nat.pow_mul, Nat.pow_mod, h, ← Nat.pow_mod, Nat.one_pow]

theorem pow_gcd_mod {p b : Nat} : ∀ m n, b ^ m % p = 1 % p → b ^ n % p = 1 % p → b ^ (Nat.gcd m n) % p = 1 % p := by
  intro m n
  induction m, n using Nat.gcd.induction with
  | H0 n => intro _ h; simpa using h
  | H1 m n hm ih =>
    intro h1 h2
    rw [Nat.gcd_rec]
    refine ih ?_ h1
    have e : b ^ n = b ^ (m * (n / m)) * b ^ (n % m) := by
      rw [← Nat.pow_add, Nat.div_add_mod]
    rw [e, Nat.mul_mod, one_pow_mod _ h1, ← Nat.mul_mod, Nat.one_mul] at h2
    exact h2

/-- q divides r - 1 for each prime r that divides n. -/
theorem pock_dvd {n q a t : Nat} (hn : 2 ≤ n) (hq : IsPrime q) (he : t * q = n - 1) (h1 : a ^ (n - 1) % n = 1 % n)
    (hg : Nat.gcd (a ^ t % n + (n - 1)) n = 1) {r : Nat} (hr : IsPrime r) (hd : r ∣ n) : q ∣ r - 1 := by
  have hr2 := hr.1
  have hmod : ∀ {x y : Nat}, x % n = y % n → x % r = y % r := by
    intro x y h
    rw [← Nat.mod_mod_of_dvd x hd, h, Nat.mod_mod_of_dvd y hd]
  have hbq : (a ^ t) ^ q % r = 1 % r := by
    rw [← Nat.pow_mul, he]; exact hmod h1
  have hrb : ¬ r ∣ a ^ t := by
    intro hdv
    have hz : a ^ t % r = 0 := Nat.mod_eq_zero_of_dvd hdv
    rw [Nat.pow_mod, hz, Nat.zero_pow (by have := hq.1; omega)] at hbq
    rw [Nat.mod_eq_of_lt (by omega : 1 < r)] at hbq
    simp at hbq
  have hfl := fermat_one hr hrb
  rcases hq.2 (Nat.gcd q (r - 1)) (Nat.gcd_dvd_left _ _) with hgc | hgc
  · exfalso
    have hone := pow_gcd_mod q (r - 1) hbq hfl
    rw [hgc, Nat.pow_one] at hone
    -- r divides a^t - 1 and n: so the gcd
    have hdg : r ∣ a ^ t % n + (n - 1) := by
      have h3 : (a ^ t % n) % r = 1 % r := by rw [Nat.mod_mod_of_dvd _ hd]; exact hone
      have h4 : (a ^ t % n + (n - 1)) % r = 0 := by
        rw [Nat.add_mod, h3, ← Nat.add_mod]
        have : 1 + (n - 1) = n := by omega
        rw [this]; exact Nat.mod_eq_zero_of_dvd hd
      exact Nat.dvd_of_mod_eq_zero h4
    have := Nat.dvd_gcd hdg hd
    rw [hg] at this
    have := Nat.le_of_dvd (by omega) this
    omega
  · have := Nat.gcd_dvd_right q (r - 1)
    rwa [hgc] at this

theorem pock1 {n q a t f : Nat} (hq : IsPrime q) (hn : 2 ≤ n) (he : t * q = n - 1) (hf : n - 1 < 2 ^ f) (h1 : pmod n f a (n - 1) = 1)
    (hg : Nat.gcd (pmod n f a t + (n - 1)) n = 1) (hb : n < q * q) : IsPrime n := by
  have ht : t ≤ n - 1 := by rw [← he]; exact Nat.le_mul_of_pos_right t (by have := hq.1; omega)
  rw [pmod_eq n f a _ hf] at h1
  rw [pmod_eq n f a _ (by omega)] at hg
  refine prime_of_small hn fun r hr hd => ?_
  have h := pock_dvd hn hq he (by rw [h1, Nat.mod_eq_of_lt (by omega : 1 < n)]) hg hr hd
  have := Nat.le_of_dvd (by have := hr.1; omega) h
  have := Nat.mul_le_mul (show q ≤ r by omega) (show q ≤ r by omega)
  omega

theorem pock2 {n q q' a t t' f : Nat} (hq : IsPrime q) (hq' : IsPrime q') (hne : q' < q) (hn : 2 ≤ n) (he : t * q = n - 1) (he' : t' * q' = n - 1) (hf : n - 1 < 2 ^ f)
    (h1 : pmod n f a (n - 1) = 1) (hg : Nat.gcd (pmod n f a t + (n - 1)) n = 1) (hg' : Nat.gcd (pmod n f a t' + (n - 1)) n = 1) (hb : n < (q * q') * (q * q')) : IsPrime n := by
  have ht : t ≤ n - 1 := by rw [← he]; exact Nat.le_mul_of_pos_right t (by have := hq.1; omega)
  have ht' : t' ≤ n - 1 := by rw [← he']; exact Nat.le_mul_of_pos_right t' (by have := hq'.1; omega)
  rw [pmod_eq n f a _ hf] at h1
  rw [pmod_eq n f a _ (by omega)] at hg
  rw [pmod_eq n f a _ (by omega)] at hg'
  have h1' : a ^ (n - 1) % n = 1 % n := by rw [h1, Nat.mod_eq_of_lt (by omega : 1 < n)]
  refine prime_of_small hn fun r hr hd => ?_
  have h := pock_dvd hn hq he h1' hg hr hd
  have h' := pock_dvd hn hq' he' h1' hg' hr hd
  have hc : Nat.Coprime q q' := hq.coprime_of_lt (by have := hq'.1; omega) hne
  have := Nat.le_of_dvd (by have := hr.1; omega) (Nat.Coprime.mul_dvd_of_dvd_of_dvd hc h h')
  have := Nat.mul_le_mul (show q * q' ≤ r by omega) (show q * q' ≤ r by omega)
  omega

def smallPrime (n : Nat) : Bool := (List.range n).all fun m => m < 2 || n % m != 0

theorem prime_of_smallPrime {n : Nat} (hn : 2 ≤ n) (h : smallPrime n = true) : IsPrime n := by
  refine ⟨hn, fun m hm => ?_⟩
  have hle := Nat.le_of_dvd (by omega) hm
  by_cases h2 : m = n
  · exact .inr h2
  unfold smallPrime at h
  rw [List.all_eq_true] at h
  have := h m (List.mem_range.2 (by omega))
  have hz : n % m = 0 := Nat.mod_eq_zero_of_dvd hm
  simp [hz] at this
  left
  have h0 : m ≠ 0 := by rintro rfl; have := Nat.eq_zero_of_zero_dvd hm; omega
  omega

theorem prime_0 : IsPrime 97 := prime_of_smallPrime (by decide) (by decide +kernel)
theorem prime_1 : IsPrime 103 := prime_of_smallPrime (by decide) (by decide +kernel)
theorem prime_2 : IsPrime 127 := prime_of_smallPrime (by decide) (by decide +kernel)
theorem prime_3 : IsPrime 419 := prime_of_smallPrime (by decide) (by decide +kernel)
theorem prime_4 : IsPrime 991 := prime_of_smallPrime (by decide) (by decide +kernel)
theorem prime_5 : IsPrime 1723 := prime_of_smallPrime (by decide) (by decide +kernel)
theorem prime_6 : IsPrime 4153 := prime_of_smallPrime (by decide) (by decide +kernel)
theorem prime_7 : IsPrime 430751 := pock1 (q := 1723) (a := 2) (t := 250) (f := 19) prime_5 (by decide +kernel) (by decide +kernel) (by decide +kernel) (by decide +kernel) (by decide +kernel) (by decide +kernel)
theorem prime_8 : IsPrime 569003 := pock2 (q := 419) (q' := 97) (a := 2) (t := 1358) (t' := 5866) (f := 20) prime_3 prime_0 (by decide +kernel) (by decide +kernel) (by decide +kernel) (by decide +kernel) (by decide +kernel) (by decide +kernel) (by decide +kernel) (by decide +kernel) (by decide +kernel)
theorem prime_9 : IsPrime 8574133 := pock2 (q := 991) (q' := 103) (a := 2) (t := 8652) (t' := 83244) (f := 24) prime_4 prime_1 (by decide +kernel) (by decide +kernel) (by decide +kernel) (by decide +kernel) (by decide +kernel) (by decide +kernel) (by decide +kernel) (by decide +kernel) (by decide +kernel)
theorem prime_10 : IsPrime 2773320623 := pock1 (q := 569003) (a := 2) (t := 4874) (f := 32) prime_8 (by decide +kernel) (by decide +kernel) (by decide +kernel) (by decide +kernel) (by decide +kernel) (by decide +kernel)
theorem prime_11 : IsPrime 72106336199 := pock1 (q := 2773320623) (a := 2) (t := 26) (f := 37) prime_10 (by decide +kernel) (by decide +kernel) (by decide +kernel) (by decide +kernel) (by decide +kernel) (by decide +kernel)
theorem prime_12 : IsPrime 1919519569386763 := pock2 (q := 8574133) (q' := 127) (a := 2) (t := 223873314) (t' := 15114327318006) (f := 51) prime_9 prime_2 (by decide +kernel) (by decide +kernel) (by decide +kernel) (by decide +kernel) (by decide +kernel) (by decide +kernel) (by decide +kernel) (by decide +kernel) (by decide +kernel)
theorem prime_13 : IsPrime 31757755568855353 := pock2 (q := 430751) (q' := 4153) (a := 2) (t := 73726481352) (t' := 7646943310584) (f := 55) prime_7 prime_6 (by decide +kernel) (by decide +kernel) (by decide +kernel) (by decide +kernel) (by decide +kernel) (by decide +kernel) (by decide +kernel) (by decide +kernel) (by decide +kernel)
theorem prime_14 : IsPrime 75445702479781427272750846543864801 := pock2 (q := 1919519569386763) (q' := 72106336199) (a := 2) (t := 39304471641247389600) (t' := 1046311689884858398375200) (f := 116) prime_12 prime_11 (by decide +kernel) (by decide +kernel) (by decide +kernel) (by decide +kernel) (by decide +kernel) (by decide +kernel) (by decide +kernel) (by decide +kernel) (by decide +kernel)
theorem prime_15 : IsPrime 74058212732561358302231226437062788676166966415465897661863160754340907 := pock2 (q := 75445702479781427272750846543864801) (q' := 31757755568855353) (a := 2) (t := 981609426360740691344999861639072106) (t' := 2331972502653487852620185443007392165117953542933313402) (f := 236) prime_14 prime_13 (by decide +kernel) (by decide +kernel) (by decide +kernel) (by decide +kernel) (by decide +kernel) (by decide +kernel) (by decide +kernel) (by decide +kernel) (by decide +kernel)
theorem prime_16 : IsPrime 57896044618658097711785492504343953926634992332820282019728792003956564819949 := pock1 (q := 74058212732561358302231226437062788676166966415465897661863160754340907) (a := 2) (t := 781764) (f := 255) prime_15 (by decide +kernel) (by decide +kernel) (by decide +kernel) (by decide +kernel) (by decide +kernel) (by decide +kernel)

def P : Nat := 57896044618658097711785492504343953926634992332820282019728792003956564819949
theorem prime_P : IsPrime P := prime_16
#print axioms prime_P
end Tabn
