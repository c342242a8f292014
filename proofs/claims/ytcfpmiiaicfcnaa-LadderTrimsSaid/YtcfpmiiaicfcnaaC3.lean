/- The ladder computes multiples on the curve; multiples commute. -/
import Derived.Test.YtcfpmiiaicfcnaaC2
set_option linter.unusedVariables false
namespace Tabn

abbrev Four := F × F × F × F

/-- One bit of the ladder. -/
def lstep (u : F) (bit : Nat) (t : Four) : Four :=
  if bit = 0 then (dblX t.1 t.2.1, dblZ t.1 t.2.1, addX t.1 t.2.1 t.2.2.1 t.2.2.2, addZ u t.1 t.2.1 t.2.2.1 t.2.2.2)
  else (addX t.1 t.2.1 t.2.2.1 t.2.2.2, addZ u t.1 t.2.1 t.2.2.1 t.2.2.2, dblX t.2.2.1 t.2.2.2, dblZ t.2.2.1 t.2.2.2)

/-- The ladder, after so many of 255 bits. -/
def lad (N : Nat) (u : F) : Nat → Four
  | 0 => (1, 0, u, 1)
  | k + 1 => lstep u (N / 2 ^ (254 - k) % 2) (lad N u k)

/-- What comes of it. -/
def Um (N : Nat) (u : F) : F := (lad N u 255).1 * finv (lad N u 255).2.1

def uco (s y : F) : F := s * (1 + y) * finv (1 - y)

theorem half_inv : (2 : F) * finv 2 = 1 := finv_mul two_ne

theorem like_zero {s : F} (ss : s * s = 1) : Like s 1 0 1 := like_of ss (by grind -lia -linarith) (.inl (by decide))
theorem like_base {s u y : F} (ss : s * s = 1) (h : u * (1 - y) = s * (1 + y)) : Like s u 1 y := like_of ss (by rw [h]; grind -lia -linarith) (.inr (by decide))

theorem like_uco {s X Z y : F} (h : Like s X Z y) : X * finv Z = uco s y := by
  obtain ⟨l, hl, rfl, rfl⟩ := h
  unfold uco
  by_cases h1 : 1 - y = 0
  · have e : l * (1 - y) = 0 := by rw [h1]; grind -lia -linarith
    rw [e, h1, finv_zero]; grind -lia -linarith
  · have i1 := finv_mul h1
    have i2 := finv_mul (fmul_ne hl h1)
    apply fcancel (fmul_ne hl h1)
    generalize finv (l * (1 - y)) = p at *
    generalize finv (1 - y) = q at *
    have e1 : l * (1 - y) * (l * s * (1 + y) * p) = l * s * (1 + y) * (l * (1 - y) * p) := by grind -lia -linarith
    have e2 : l * (1 - y) * (s * (1 + y) * q) = l * s * (1 + y) * ((1 - y) * q) := by grind -lia -linarith
    rw [e1, e2, i1, i2]

theorem half_step (N k : Nat) (hk : k < 255) : N / 2 ^ (255 - (k + 1)) = 2 * (N / 2 ^ (255 - k)) + N / 2 ^ (254 - k) % 2 := by
  have e : 255 - k = (254 - k) + 1 := by omega
  have e' : 255 - (k + 1) = 254 - k := by omega
  rw [e', e, Nat.pow_succ, ← Nat.div_div_eq_div_mul]
  omega

theorem lad_curve {C : Crv} {s k u : F} (hM : Mnt C s k) (b : Pt C) (hb : u * (1 - b.y) = s * (1 + b.y)) (b1 : 1 - b.y ≠ 0) (b2 : 1 + b.y ≠ 0) (N : Nat) (hN : N < 2 ^ 255) :
    ∀ j, j ≤ 255 → Like s (lad N u j).1 (lad N u j).2.1 (Pt.mul (N / 2 ^ (255 - j)) b).y ∧ Like s (lad N u j).2.2.1 (lad N u j).2.2.2 (Pt.mul (N / 2 ^ (255 - j) + 1) b).y := by
  intro j
  induction j with
  | zero =>
    intro _
    rw [Nat.sub_zero, Nat.div_eq_of_lt hN]
    refine ⟨like_zero hM.ss, ?_⟩
    rw [Nat.zero_add, Pt.mul_one]
    exact like_base hM.ss hb
  | succ j ih =>
    intro hj
    obtain ⟨h1, h2⟩ := ih (by omega)
    rw [half_step N j (by omega)]
    have el : lad N u (j + 1) = lstep u (N / 2 ^ (254 - j) % 2) (lad N u j) := rfl
    rw [el]
    have e3 : Pt.mul (N / 2 ^ (255 - j) + 1) b = (Pt.mul (N / 2 ^ (255 - j)) b).add b := rfl
    have h4 := add_like hM.ss (Pt.mul (N / 2 ^ (255 - j)) b) b hb b1 b2 h1 (by rw [← e3]; exact h2)
    have h5 := dbl_like hM _ h1
    have h6 := dbl_like hM _ h2
    rw [← e3] at h4
    have m2 : ∀ n, (Pt.mul n b).add (Pt.mul n b) = Pt.mul (2 * n) b := fun n => by rw [← Pt.add_mul, Nat.two_mul]
    have m3 : ∀ n, (Pt.mul n b).add (Pt.mul (n + 1) b) = Pt.mul (2 * n + 1) b := fun n => by rw [← Pt.add_mul]; congr 1; omega
    rw [m2] at h5 h6
    rw [m3] at h4
    generalize N / 2 ^ (255 - j) = n at *
    rcases Nat.mod_two_eq_zero_or_one (N / 2 ^ (254 - j)) with h0 | h0
    · rw [h0]
      unfold lstep
      rw [if_pos rfl]
      exact ⟨h5, h4⟩
    · rw [h0]
      unfold lstep
      rw [if_neg (by decide)]
      exact ⟨h4, h6⟩

theorem Um_curve {C : Crv} {s k u : F} (hM : Mnt C s k) (b : Pt C) (hb : u * (1 - b.y) = s * (1 + b.y)) (b1 : 1 - b.y ≠ 0) (b2 : 1 + b.y ≠ 0) (N : Nat) (hN : N < 2 ^ 255) : Um N u = uco s (Pt.mul N b).y := by
  have h := (lad_curve hM b hb b1 b2 N hN 255 (Nat.le_refl _)).1
  rw [Nat.sub_self, Nat.pow_zero, Nat.div_one] at h
  exact like_uco h

/-- From nothing nothing comes. -/
theorem Um_zero (N : Nat) : Um N 0 = 0 := by
  have key : ∀ j, (lad N 0 j).2.1 = 0 ∧ (lad N 0 j).2.2.1 * (lad N 0 j).2.2.2 = 0 := by
    intro j
    induction j with
    | zero => exact ⟨rfl, by show (0 : F) * 1 = 0; grind -lia -linarith⟩
    | succ j ih =>
      obtain ⟨h1, h2⟩ := ih
      show (lstep 0 (N / 2 ^ (254 - j) % 2) (lad N 0 j)).2.1 = 0 ∧ _ * (lstep 0 (N / 2 ^ (254 - j) % 2) (lad N 0 j)).2.2.2 = 0
      generalize lad N 0 j = t at *
      obtain ⟨X1, Z1, X2, Z2⟩ := t
      simp only at h1 h2
      subst h1
      have a0 : ∀ X1 Z1 X2 Z2 : F, addZ 0 X1 Z1 X2 Z2 = 0 := fun X1 Z1 X2 Z2 => by unfold addZ; grind -lia -linarith
      have d0 : ∀ X Z : F, X * Z = 0 → dblZ X Z = 0 := fun X Z h => by
        have : dblC X Z = 0 := by unfold dblC; grind -lia -linarith
        unfold dblZ; rw [this]; grind -lia -linarith
      unfold lstep
      split
      · refine ⟨d0 _ _ (by grind -lia -linarith), ?_⟩
        show _ * addZ 0 X1 0 X2 Z2 = 0
        rw [a0]; grind -lia -linarith
      · refine ⟨a0 _ _ _ _, ?_⟩
        show _ * dblZ X2 Z2 = 0
        rw [d0 _ _ h2]; grind -lia -linarith
  unfold Um
  rw [(key 255).1, finv_zero]
  grind -lia -linarith

theorem al1 {u : F} (h : u ^ 2 + 486662 * u + 1 = 0) : (2 * u + 486662) ^ 2 = 236839902240 * 1 ^ 2 := by grind -lia -linarith
theorem al2 {r t k : F} (h : r * r = k * 486664) (h' : t * t = k * 486660) : (r * t) ^ 2 = 236839902240 * k ^ 2 := by
  have e : (r * t) ^ 2 = (r * r) * (t * t) := by clear h h'; grind -lia -linarith
  rw [e, h, h']; clear h h' e; grind -lia -linarith
theorem al3 {u : F} (h : u + 1 = 0) : u = -1 := by grind -lia -linarith
theorem al3' {u : F} (h : u - 1 = 0) : u = 1 := by grind -lia -linarith
theorem al4 {k : F} (h : (-1) * ((-1) ^ 2 + 486662 * (-1) + 1) * k = 1) : 1 * 1 = k * 486660 := by grind -lia -linarith
theorem al4' {k : F} (h : 1 * (1 ^ 2 + 486662 * 1 + 1) * k = 1) : 1 * 1 = k * 486664 := by grind -lia -linarith
theorem al5 {u k v : F} (ik : u * (u ^ 2 + 486662 * u + 1) * k = 1) (iu : (u + 1) * v = 1) (hum : u + 1 ≠ 0) : k * 486664 * u ^ 2 + ((u - 1) * v) ^ 2 = 1 + k * 486660 * u ^ 2 * ((u - 1) * v) ^ 2 := by
  apply fcancel (fmul_ne hum hum)
  clear hum
  have e1 : (u + 1) * (u + 1) * (k * 486664 * u ^ 2 + ((u - 1) * v) ^ 2) = k * 486664 * u ^ 2 * (u + 1) ^ 2 + (u - 1) ^ 2 * ((u + 1) * v) ^ 2 := by clear ik iu; grind -lia -linarith
  have e2 : (u + 1) * (u + 1) * (1 + k * 486660 * u ^ 2 * ((u - 1) * v) ^ 2) = (u + 1) ^ 2 + k * 486660 * u ^ 2 * (u - 1) ^ 2 * ((u + 1) * v) ^ 2 := by clear ik iu; grind -lia -linarith
  rw [e1, e2, iu]
  clear iu e1 e2
  grind -lia -linarith
theorem al5' {u k v : F} (ik : u * (u ^ 2 + 486662 * u + 1) * k = 1) (iu : (u - 1) * v = 1) (hum : u - 1 ≠ 0) : k * 486660 * u ^ 2 + ((u + 1) * v) ^ 2 = 1 + k * 486664 * u ^ 2 * ((u + 1) * v) ^ 2 := by
  apply fcancel (fmul_ne hum hum)
  clear hum
  have e1 : (u - 1) * (u - 1) * (k * 486660 * u ^ 2 + ((u + 1) * v) ^ 2) = k * 486660 * u ^ 2 * (u - 1) ^ 2 + (u + 1) ^ 2 * ((u - 1) * v) ^ 2 := by clear ik iu; grind -lia -linarith
  have e2 : (u - 1) * (u - 1) * (1 + k * 486664 * u ^ 2 * ((u + 1) * v) ^ 2) = (u - 1) ^ 2 + k * 486664 * u ^ 2 * (u + 1) ^ 2 * ((u - 1) * v) ^ 2 := by clear ik iu; grind -lia -linarith
  rw [e1, e2, iu]
  clear iu e1 e2
  grind -lia -linarith
theorem al6 {u v : F} (iu : (u + 1) * v = 1) : u * (1 - (u - 1) * v) = 1 * (1 + (u - 1) * v) := by grind -lia -linarith
theorem al6' {u v : F} (iu : (u - 1) * v = 1) : u * (1 - (u + 1) * v) = -1 * (1 + (u + 1) * v) := by grind -lia -linarith
theorem al7 {u v : F} (iu : (u + 1) * v = 1) (h : 1 - (u - 1) * v = 0) : (2 : F) = 0 := by
  have e : (u - 1) * v = 1 - 2 * v := by clear h; grind -lia -linarith
  have e2 : 2 * v = 0 := by rw [e] at h; clear e iu; grind -lia -linarith
  have e3 : v = 0 := ftwo e2
  rw [e3] at iu
  clear h e e2 e3
  grind -lia -linarith
theorem al7' {u v : F} (iu : (u - 1) * v = 1) (h : 1 - (u + 1) * v = 0) : (2 : F) = 0 := by
  have e : (u + 1) * v = 1 + 2 * v := by clear h; grind -lia -linarith
  have e2 : 2 * v = 0 := by rw [e] at h; clear e iu; grind -lia -linarith
  have e3 : v = 0 := ftwo e2
  rw [e3] at iu
  clear h e e2 e3
  grind -lia -linarith
theorem al8 {u v : F} (iu : (u + 1) * v = 1) (h : 1 + (u - 1) * v = 0) : u = 0 := by
  have e : (u + 1) * (1 + (u - 1) * v) = 2 * u := by
    have : (u + 1) * (1 + (u - 1) * v) = u + 1 + (u - 1) * ((u + 1) * v) := by clear iu h; grind -lia -linarith
    rw [this, iu]; clear this iu h; grind -lia -linarith
  rw [h] at e
  exact ftwo (by clear iu h; grind -lia -linarith)
theorem al8' {u v : F} (iu : (u - 1) * v = 1) (h : 1 + (u + 1) * v = 0) : u = 0 := by
  have e : (u - 1) * (1 + (u + 1) * v) = 2 * u := by
    have : (u - 1) * (1 + (u + 1) * v) = u - 1 + (u + 1) * ((u - 1) * v) := by clear iu h; grind -lia -linarith
    rw [this, iu]; clear this iu h; grind -lia -linarith
  rw [h] at e
  exact ftwo (by clear iu h; grind -lia -linarith)
theorem al9 {r k z : F} (hr : r * r = k * 486664 * 236839902240) (hz : 486664 * z = 1) : (r * z) * (r * z) = k * 486660 := by
  have e : r * z * (r * z) = (r * r) * (z * z) := by clear hr hz; grind -lia -linarith
  have e2 : k * 486664 * 236839902240 * (z * z) = k * 486660 * ((486664 * z) * (486664 * z)) := by clear hr hz e; grind -lia -linarith
  rw [e, hr, e2, hz]; clear e e2 hr hz; grind -lia -linarith
theorem al10 {k : F} : k * 486664 = k * (486662 + 2 * 1) ∧ k * 486660 = k * (486662 - 2 * 1) ∧ k * 486660 = k * (486662 + 2 * (-1)) ∧ k * 486664 = k * (486662 - 2 * (-1)) := by
  refine ⟨?_, ?_, ?_, ?_⟩ <;> grind -lia -linarith
theorem one_ne : (0 : F) ≠ 1 := by decide
theorem fne_of_mul {a b : F} (h : a * b = 1) : b ≠ 0 := by
  intro h0
  rw [h0] at h
  have : (0 : F) = 1 := by grind -lia -linarith
  exact one_ne this
theorem disc_no {p q : F} (hq : q ≠ 0) (h : p ^ 2 = 236839902240 * q ^ 2) : False := by
  have hi := finv_mul hq
  apply disc_nsq (p * finv q)
  generalize finv q = z at *
  clear hq
  have e : p * z * (p * z) = p ^ 2 * (z * z) := by clear h hi; grind -lia -linarith
  rw [e, h]
  have e2 : 236839902240 * q ^ 2 * (z * z) = 236839902240 * ((q * z) * (q * z)) := by clear h hi e; grind -lia -linarith
  rw [e2, hi]; decide

/-- Every number but nothing stands on one of the two curves. -/
theorem on_some (u : F) (hu : u ≠ 0) : ∃ (C : Crv) (s k : F) (b : Pt C), Mnt C s k ∧ u * (1 - b.y) = s * (1 + b.y) ∧ 1 - b.y ≠ 0 ∧ 1 + b.y ≠ 0 := by
  have hw : u ^ 2 + 486662 * u + 1 ≠ 0 := fun h => disc_no (by decide) (al1 h)
  have ik := finv_mul (fmul_ne hu hw)
  have hk := fne_of_mul ik
  generalize finv (u * (u ^ 2 + 486662 * u + 1)) = k at *
  have n1 : (486664 : F) ≠ 0 := by decide
  have n2 : (486660 : F) ≠ 0 := by decide
  by_cases h : ∃ r, r * r = k * 486664
  · obtain ⟨r, hr⟩ := h
    have dn : ∀ t, t * t ≠ k * 486660 := fun t ht => disc_no hk (al2 hr ht)
    have hum : u + 1 ≠ 0 := by
      intro h0
      have e := al3 h0
      subst e
      exact dn 1 (al4 ik)
    have iu := finv_mul hum
    generalize finv (u + 1) = v at *
    exact ⟨⟨k * 486664, k * 486660, r, hr, fmul_ne hk n1, dn⟩, 1, k, ⟨u, (u - 1) * v, al5 ik iu hum⟩, ⟨by decide, al10.1, al10.2.1⟩, al6 iu, fun h0 => two_ne (al7 iu h0), fun h0 => hu (al8 iu h0)⟩
  · have hns : ∀ r, r * r ≠ k * 486664 := fun r hr => h ⟨r, hr⟩
    obtain ⟨r, hr⟩ := sq_of_two (fmul_ne hk n1) (show (236839902240 : F) ≠ 0 by decide) hns disc_nsq
    have hr' := al9 hr (finv_mul n1)
    have hum : u - 1 ≠ 0 := by
      intro h0
      have e := al3' h0
      subst e
      exact hns 1 (al4' ik)
    have iu := finv_mul hum
    generalize finv (u - 1) = v at *
    exact ⟨⟨k * 486660, k * 486664, r * finv 486664, hr', fmul_ne hk n2, hns⟩, -1, k, ⟨u, (u + 1) * v, al5' ik iu hum⟩, ⟨by decide, al10.2.2.1, al10.2.2.2⟩, al6' iu, fun h0 => two_ne (al7' iu h0), fun h0 => hu (al8' iu h0)⟩

theorem y_one {C : Crv} {p : Pt C} (h : p.y * p.y = 1) : p.x = 0 := by
  have on := p.on
  unfold On at on
  have e : (C.a - C.d * 1 ^ 2) * p.x ^ 2 = 0 := by grind -lia -linarith
  rcases fmul_zero e with h1 | h1
  · exact absurd h1 (C.ady 1)
  · exact fsq0 h1

theorem al11 {s y q : F} (ss : s * s = 1) (i : (1 - y) * q = 1) (h : s * (1 + y) * q = 0) : y = -1 := by
  have e : s * (1 - y) * (s * (1 + y) * q) = (s * s) * (1 + y) * ((1 - y) * q) := by clear ss i h; grind -lia -linarith
  rw [h, ss, i] at e
  clear h ss i
  grind -lia -linarith
theorem al12 {y : F} (h : 1 - y = 0) : y = 1 := by grind -lia -linarith
theorem al13 {a d y : F} (h : y * y = 1) : 0 * (1 + d * 0 * 0 * y * y) = 0 * y + 0 * y ∧ 1 * (1 - d * 0 * 0 * y * y) = y * y - a * 0 * 0 := by
  constructor
  · clear h; grind -lia -linarith
  · rw [h]; clear h; grind -lia -linarith

/-- Twice a point that stands for nothing is the zero. -/
theorem two_zero {C : Crv} {s : F} (ss : s * s = 1) {p : Pt C} (h : uco s p.y = 0) : p.add p = Pt.zero C := by
  have hy : p.y * p.y = 1 := by
    by_cases h1 : 1 - p.y = 0
    · rw [al12 h1]; decide
    · rw [al11 ss (finv_mul h1) h]; decide
  have hx := y_one hy
  apply add_eq
  · show 0 * _ = _; rw [hx]; exact (al13 (a := C.a) hy).1
  · show 1 * _ = _; rw [hx]; exact (al13 (a := C.a) hy).2

theorem fmul0 (z : F) : z * 0 = 0 := by grind -lia -linarith
theorem fsub11 : (1 : F) - 1 = 0 := by decide
theorem uco_zero (s : F) : uco s 1 = 0 := by
  unfold uco
  rw [fsub11, finv_zero, fmul0]

/-- A multiple of a multiple. -/
theorem Um_Um {C : Crv} {s k u : F} (hM : Mnt C s k) (b : Pt C) (hb : u * (1 - b.y) = s * (1 + b.y)) (b1 : 1 - b.y ≠ 0) (b2 : 1 + b.y ≠ 0) (N M : Nat) (hN : N < 2 ^ 255) (hM2 : 2 * M < 2 ^ 255) :
    Um (2 * M) (Um N u) = uco s (Pt.mul (2 * M) (Pt.mul N b)).y := by
  rw [Um_curve hM b hb b1 b2 N hN]
  by_cases h0 : uco s (Pt.mul N b).y = 0
  · rw [h0, Um_zero]
    have h1 := two_zero hM.ss h0
    rw [Nat.mul_comm, Pt.mul_mul]
    have h2 : Pt.mul 2 (Pt.mul N b) = Pt.zero C := by
      show ((Pt.zero C).add (Pt.mul N b)).add (Pt.mul N b) = _
      rw [Pt.zero_add]; exact h1
    rw [h2, Pt.mul_zero]
    exact (uco_zero s).symm
  · have g1 : 1 - (Pt.mul N b).y ≠ 0 := by
      intro h
      apply h0
      unfold uco
      rw [h, finv_zero]; grind -lia -linarith
    have i := finv_mul g1
    have g2 : 1 + (Pt.mul N b).y ≠ 0 := by
      intro h
      apply h0
      unfold uco
      rw [h]; grind -lia -linarith
    refine Um_curve hM (Pt.mul N b) ?_ g1 g2 (2 * M) hM2
    unfold uco
    generalize finv (1 - (Pt.mul N b).y) = q at *
    generalize (Pt.mul N b).y = y at *
    clear h0 g1 g2
    grind -lia -linarith

theorem Um_swap (u : F) (N M : Nat) (hN : 2 * N < 2 ^ 255) (hM : 2 * M < 2 ^ 255) : Um (2 * M) (Um (2 * N) u) = Um (2 * N) (Um (2 * M) u) := by
  by_cases hu : u = 0
  · rw [hu, Um_zero, Um_zero, Um_zero]
  · obtain ⟨C, s, k, b, h1, h2, h3, h4⟩ := on_some u hu
    rw [Um_Um h1 b h2 h3 h4 (2 * N) M hN hM, Um_Um h1 b h2 h3 h4 (2 * M) N hM hN, Pt.mul_swap]
end Tabn
