/- The numbers modulo 2^255-19, and Edwards curves over them: the points are a group. -/
import Derived.Test.YtcfpmiiaicfcnaaNum
set_option linter.unusedVariables false
namespace Tabn
abbrev F := Fin P
instance : NeZero P := ⟨by decide⟩

theorem P_pos : 0 < P := by decide

theorem fmul_zero {a b : F} (h : a * b = 0) : a = 0 ∨ b = 0 := by
  have h1 : (a * b).val = 0 := by rw [h]; rfl
  rw [Fin.val_mul] at h1
  have h2 : P ∣ a.val * b.val := Nat.dvd_of_mod_eq_zero h1
  have small : ∀ c : F, P ∣ c.val → c = 0 := by
    intro c hc
    apply Fin.ext
    show c.val = 0
    rcases Nat.eq_zero_or_pos c.val with h0 | h0
    · exact h0
    · have := Nat.le_of_dvd h0 hc
      have := c.isLt
      omega
  rcases prime_P.dvd_mul h2 with h3 | h3
  · exact .inl (small _ h3)
  · exact .inr (small _ h3)

theorem fmul_ne {a b : F} (ha : a ≠ 0) (hb : b ≠ 0) : a * b ≠ 0 := fun h => by
  rcases fmul_zero h with h | h
  · exact ha h
  · exact hb h

theorem fcancel {a b c : F} (ha : a ≠ 0) (h : a * b = a * c) : b = c := by
  have h1 : a * (b - c) = 0 := by grind -lia -linarith
  rcases fmul_zero h1 with h2 | h2
  · exact absurd h2 ha
  · grind -lia -linarith

def eI : Nat := 57896044618658097711785492504343953926634992332820282019728792003956564819947

/-- The inverse; nothing for nothing. -/
def finvN (e : Nat) (a : F) : F := ⟨a.val ^ e % P, Nat.mod_lt _ P_pos⟩
def finv (a : F) : F := finvN eI a
theorem finvN_zero (n : Nat) (h : 0 < n) : finvN n 0 = 0 := by
  apply Fin.ext
  show 0 ^ n % P = 0
  rw [Nat.zero_pow h]
  rfl

theorem finv_mul {a : F} (h : a ≠ 0) : a * finv a = 1 := by
  apply Fin.ext
  rw [Fin.val_mul]
  show a.val * (a.val ^ eI % P) % P = 1 % P
  have e : eI + 1 = P - 1 := by decide
  rw [Nat.mul_mod_mod, Nat.mul_comm, ← Nat.pow_succ]
  show a.val ^ (eI + 1) % P = 1 % P
  rw [e]
  apply fermat_one prime_P
  intro hd
  apply h
  apply Fin.ext
  show a.val = 0
  rcases Nat.eq_zero_or_pos a.val with h0 | h0
  · exact h0
  · have := Nat.le_of_dvd h0 hd
    have := a.isLt
    omega

theorem eI_pos : 0 < eI := by decide
theorem eI_lit : eI = 57896044618658097711785492504343953926634992332820282019728792003956564819947 := rfl
attribute [irreducible] eI

theorem finv_zero : finv 0 = 0 := finvN_zero eI eI_pos
theorem finv_val (a : F) : (finv a).val = a.val ^ eI % P := rfl
attribute [irreducible] finv

theorem fdiv {a b c : F} (hb : b ≠ 0) (h : c = a * finv b) : c * b = a := by
  have := finv_mul hb
  grind -lia -linarith

theorem fdiv_of {a b c : F} (hb : b ≠ 0) (h : c * b = a) : c = a * finv b := by
  have := finv_mul hb
  grind -lia -linarith

theorem two_ne : (2 : F) ≠ 0 := by decide
theorem ftwo {a : F} (h : 2 * a = 0) : a = 0 := by
  rcases fmul_zero h with h | h
  · exact absurd h two_ne
  · exact h

/-- A complete Edwards curve: a is a square, d is none. -/
structure Crv where
  a : F
  d : F
  r : F
  sq : r * r = a
  an : a ≠ 0
  nsq : ∀ s, s * s ≠ d

theorem Crv.rn (C : Crv) : C.r ≠ 0 := fun h => C.an (by rw [← C.sq, h]; grind -lia -linarith)
theorem Crv.dn (C : Crv) : C.d ≠ 0 := fun h => C.nsq 0 (by rw [h]; grind -lia -linarith)

def On (C : Crv) (x y : F) : Prop := C.a * x ^ 2 + y ^ 2 = 1 + C.d * x ^ 2 * y ^ 2

theorem nsq_of (C : Crv) {p q : F} (hq : q ≠ 0) (h : p ^ 2 = C.d * q ^ 2) : False := by
  have := finv_mul hq
  exact C.nsq (p * finv q) (by grind -lia -linarith)

/-- The law's denominators are never nothing. -/
theorem Crv.complete (C : Crv) {x1 y1 x2 y2 : F} (h1 : On C x1 y1) (h2 : On C x2 y2) (e : F) (he : e * e = 1) : C.d * x1 * x2 * y1 * y2 ≠ e := by
  intro h
  unfold On at h1 h2
  have hr := C.sq
  have hne : e ≠ 0 := by
    intro h0
    rw [h0] at he
    have : (0 : F) = 1 := by grind -lia -linarith
    exact absurd this (by decide)
  have hx1 : x1 ≠ 0 := by intro h0; apply hne; rw [← h, h0]; grind -lia -linarith
  have hy1 : y1 ≠ 0 := by intro h0; apply hne; rw [← h, h0]; grind -lia -linarith
  have hx2 : x2 ≠ 0 := by intro h0; apply hne; rw [← h, h0]; grind -lia -linarith
  have k1 : (C.r * x1 + e * y1) ^ 2 = C.d * (x1 * y1 * (C.r * x2 + y2)) ^ 2 := by grind -lia -linarith
  have k2 : (C.r * x1 - e * y1) ^ 2 = C.d * (x1 * y1 * (C.r * x2 - y2)) ^ 2 := by grind -lia -linarith
  by_cases g1 : C.r * x2 + y2 = 0
  · by_cases g2 : C.r * x2 - y2 = 0
    · have : 2 * (C.r * x2) = 0 := by grind -lia -linarith
      rcases fmul_zero (ftwo this) with h3 | h3
      · exact C.rn h3
      · exact hx2 h3
    · exact nsq_of C (fmul_ne (fmul_ne hx1 hy1) g2) k2
  · exact nsq_of C (fmul_ne (fmul_ne hx1 hy1) g1) k1

theorem Crv.dp (C : Crv) {x1 y1 x2 y2 : F} (h1 : On C x1 y1) (h2 : On C x2 y2) : 1 + C.d * x1 * x2 * y1 * y2 ≠ 0 := fun h =>
  C.complete h1 h2 (-1) (by grind -lia -linarith) (by grind -lia -linarith)
theorem Crv.dm (C : Crv) {x1 y1 x2 y2 : F} (h1 : On C x1 y1) (h2 : On C x2 y2) : 1 - C.d * x1 * x2 * y1 * y2 ≠ 0 := fun h =>
  C.complete h1 h2 1 (by grind -lia -linarith) (by grind -lia -linarith)

structure Pt (C : Crv) where
  x : F
  y : F
  on : On C x y

theorem Pt.eq {C : Crv} {p q : Pt C} (hx : p.x = q.x) (hy : p.y = q.y) : p = q := by
  cases p; cases q; simp only at hx hy; subst hx hy; rfl

def sumX (C : Crv) (x1 y1 x2 y2 : F) : F := (x1 * y2 + x2 * y1) * finv (1 + C.d * x1 * x2 * y1 * y2)
def sumY (C : Crv) (x1 y1 x2 y2 : F) : F := (y1 * y2 - C.a * x1 * x2) * finv (1 - C.d * x1 * x2 * y1 * y2)

theorem closed (a d x1 y1 x2 y2 : F) (h1 : a*x1^2 + y1^2 = 1 + d*x1^2*y1^2) (h2 : a*x2^2 + y2^2 = 1 + d*x2^2*y2^2) :
  a*(x1*y2+x2*y1)^2*(1-d*x1*x2*y1*y2)^2 + (y1*y2-a*x1*x2)^2*(1+d*x1*x2*y1*y2)^2 = (1+d*x1*x2*y1*y2)^2*(1-d*x1*x2*y1*y2)^2 + d*(x1*y2+x2*y1)^2*(y1*y2-a*x1*x2)^2 := by
  grind -lia -linarith

theorem sum_on (C : Crv) {x1 y1 x2 y2 : F} (h1 : On C x1 y1) (h2 : On C x2 y2) : On C (sumX C x1 y1 x2 y2) (sumY C x1 y1 x2 y2) := by
  have p := finv_mul (C.dp h1 h2)
  have m := finv_mul (C.dm h1 h2)
  have k := closed C.a C.d x1 y1 x2 y2 h1 h2
  unfold On sumX sumY
  generalize finv (1 + C.d * x1 * x2 * y1 * y2) = u at *
  generalize finv (1 - C.d * x1 * x2 * y1 * y2) = v at *
  generalize 1 + C.d * x1 * x2 * y1 * y2 = s at *
  generalize 1 - C.d * x1 * x2 * y1 * y2 = t at *
  generalize x1 * y2 + x2 * y1 = X at *
  generalize y1 * y2 - C.a * x1 * x2 = Y at *
  have hs : s ^ 2 * u ^ 2 = 1 := by grind -lia -linarith
  have ht : t ^ 2 * v ^ 2 = 1 := by grind -lia -linarith
  grind -lia -linarith

def Pt.add {C : Crv} (p q : Pt C) : Pt C := ⟨sumX C p.x p.y q.x q.y, sumY C p.x p.y q.x q.y, sum_on C p.on q.on⟩
def Pt.zero (C : Crv) : Pt C := ⟨0, 1, by unfold On; grind -lia -linarith⟩
def Pt.neg {C : Crv} (p : Pt C) : Pt C := ⟨-p.x, p.y, by have := p.on; unfold On at *; grind -lia -linarith⟩

theorem Pt.add_comm {C : Crv} (p q : Pt C) : p.add q = q.add p := by
  apply Pt.eq
  · show sumX C _ _ _ _ = sumX C _ _ _ _
    unfold sumX
    have e : 1 + C.d * p.x * q.x * p.y * q.y = 1 + C.d * q.x * p.x * q.y * p.y := by grind -lia -linarith
    rw [e]; grind -lia -linarith
  · show sumY C _ _ _ _ = sumY C _ _ _ _
    unfold sumY
    have e : 1 - C.d * p.x * q.x * p.y * q.y = 1 - C.d * q.x * p.x * q.y * p.y := by grind -lia -linarith
    rw [e]; grind -lia -linarith

/-- The sum's coordinates, without a division. -/
theorem add_x {C : Crv} (p q : Pt C) : (p.add q).x * (1 + C.d * p.x * q.x * p.y * q.y) = p.x * q.y + q.x * p.y := fdiv (C.dp p.on q.on) rfl
theorem add_y {C : Crv} (p q : Pt C) : (p.add q).y * (1 - C.d * p.x * q.x * p.y * q.y) = p.y * q.y - C.a * p.x * q.x := fdiv (C.dm p.on q.on) rfl

theorem add_eq {C : Crv} {p q s : Pt C} (hx : s.x * (1 + C.d * p.x * q.x * p.y * q.y) = p.x * q.y + q.x * p.y) (hy : s.y * (1 - C.d * p.x * q.x * p.y * q.y) = p.y * q.y - C.a * p.x * q.x) : p.add q = s := by
  apply Pt.eq
  · apply fcancel (C.dp p.on q.on)
    have := add_x p q
    grind -lia -linarith
  · apply fcancel (C.dm p.on q.on)
    have := add_y p q
    grind -lia -linarith

theorem Pt.zero_add {C : Crv} (p : Pt C) : (Pt.zero C).add p = p := by
  apply add_eq
  · show p.x * (1 + C.d * 0 * p.x * 1 * p.y) = 0 * p.y + p.x * 1; grind -lia -linarith
  · show p.y * (1 - C.d * 0 * p.x * 1 * p.y) = 1 * p.y - C.a * 0 * p.x; grind -lia -linarith

theorem Pt.neg_add {C : Crv} (p : Pt C) : p.neg.add p = Pt.zero C := by
  have := p.on
  unfold On at this
  apply add_eq
  · show 0 * (1 + C.d * (-p.x) * p.x * p.y * p.y) = (-p.x) * p.y + p.x * p.y; grind -lia -linarith
  · show 1 * (1 - C.d * (-p.x) * p.x * p.y * p.y) = p.y * p.y - C.a * (-p.x) * p.x; grind -lia -linarith

theorem assoc_x (a d x1 y1 x2 y2 x3 y3 : F) (h1 : a*x1^2 + y1^2 = 1 + d*x1^2*y1^2) (h2 : a*x2^2 + y2^2 = 1 + d*x2^2*y2^2) (h3 : a*x3^2 + y3^2 = 1 + d*x3^2*y3^2) :
  ((x1*y2+x2*y1)*y3*(1-d*x1*x2*y1*y2) + x3*(y1*y2-a*x1*x2)*(1+d*x1*x2*y1*y2)) * (1-(d*x2*x3*y2*y3)^2 + d*(x2*y3+x3*y2)*(y2*y3-a*x2*x3)*x1*y1)
  = (x1*(y2*y3-a*x2*x3)*(1+d*x2*x3*y2*y3) + (x2*y3+x3*y2)*y1*(1-d*x2*x3*y2*y3)) * (1-(d*x1*x2*y1*y2)^2 + d*(x1*y2+x2*y1)*(y1*y2-a*x1*x2)*x3*y3) := by
  grind -lia -linarith
theorem assoc_y (a d x1 y1 x2 y2 x3 y3 : F) (h1 : a*x1^2 + y1^2 = 1 + d*x1^2*y1^2) (h2 : a*x2^2 + y2^2 = 1 + d*x2^2*y2^2) (h3 : a*x3^2 + y3^2 = 1 + d*x3^2*y3^2) :
  ((y1*y2-a*x1*x2)*y3*(1+d*x1*x2*y1*y2) - a*(x1*y2+x2*y1)*x3*(1-d*x1*x2*y1*y2)) * (1-(d*x2*x3*y2*y3)^2 - d*(x2*y3+x3*y2)*(y2*y3-a*x2*x3)*x1*y1)
  = (y1*(y2*y3-a*x2*x3)*(1+d*x2*x3*y2*y3) - a*x1*(x2*y3+x3*y2)*(1-d*x2*x3*y2*y3)) * (1-(d*x1*x2*y1*y2)^2 - d*(x1*y2+x2*y1)*(y1*y2-a*x1*x2)*x3*y3) := by
  grind -lia -linarith


/-- From the sum of a sum and a third one, without a division. -/
theorem thrice (D d u X v Y x y l e : F) (hu : u * (1 + D) = X) (hv : v * (1 - D) = Y) (hl : l * (1 + d * u * x * v * y) = u * y + x * v) :
    l * (1 - D ^ 2 + d * X * Y * x * y) = X * y * (1 - D) + x * Y * (1 + D) := by
  subst hu hv
  grind -lia -linarith
theorem thrice' (D a d u X v Y x y l e : F) (hu : u * (1 + D) = X) (hv : v * (1 - D) = Y) (hl : l * (1 - d * u * x * v * y) = v * y - a * u * x) :
    l * (1 - D ^ 2 - d * X * Y * x * y) = Y * y * (1 + D) - a * X * x * (1 - D) := by
  subst hu hv
  grind -lia -linarith
theorem thrice_ne {D d u X v Y x y : F} (hu : u * (1 + D) = X) (hv : v * (1 - D) = Y) (n1 : 1 + D ≠ 0) (n2 : 1 - D ≠ 0) (n3 : 1 + d * u * x * v * y ≠ 0) : 1 - D ^ 2 + d * X * Y * x * y ≠ 0 := by
  have e : 1 - D ^ 2 + d * X * Y * x * y = (1 + D) * (1 - D) * (1 + d * u * x * v * y) := by
    subst hu hv
    grind -lia -linarith
  rw [e]; exact fmul_ne (fmul_ne n1 n2) n3
theorem thrice_ne' {D d u X v Y x y : F} (hu : u * (1 + D) = X) (hv : v * (1 - D) = Y) (n1 : 1 + D ≠ 0) (n2 : 1 - D ≠ 0) (n3 : 1 - d * u * x * v * y ≠ 0) : 1 - D ^ 2 - d * X * Y * x * y ≠ 0 := by
  have e : 1 - D ^ 2 - d * X * Y * x * y = (1 + D) * (1 - D) * (1 - d * u * x * v * y) := by
    subst hu hv
    grind -lia -linarith
  rw [e]; exact fmul_ne (fmul_ne n1 n2) n3
theorem frac_eq {l r nl dl nr dr : F} (h1 : l * dl = nl) (h2 : r * dr = nr) (h3 : nl * dr = nr * dl) (n1 : dl ≠ 0) (n2 : dr ≠ 0) : l = r := by
  apply fcancel (fmul_ne n1 n2)
  subst h1 h2
  grind -lia -linarith

theorem Pt.add_assoc {C : Crv} (p q s : Pt C) : (p.add q).add s = p.add (q.add s) := by
  have ax := assoc_x C.a C.d p.x p.y q.x q.y s.x s.y p.on q.on s.on
  have ay := assoc_y C.a C.d p.x p.y q.x q.y s.x s.y p.on q.on s.on
  have ux := add_x p q
  have uy := add_y p q
  have vx := add_x q s
  have vy := add_y q s
  have n1 := C.dp p.on q.on
  have n2 := C.dm p.on q.on
  have n3 := C.dp q.on s.on
  have n4 := C.dm q.on s.on
  apply Pt.eq
  · have lx := thrice _ C.d _ _ _ _ s.x s.y _ 0 ux uy (add_x (p.add q) s)
    have rx := thrice _ C.d _ _ _ _ p.x p.y ((q.add s).add p).x 0 vx vy (add_x (q.add s) p)
    have m1 := thrice_ne (d := C.d) (x := s.x) (y := s.y) ux uy n1 n2 (C.dp (p.add q).on s.on)
    have m2 := thrice_ne (d := C.d) (x := p.x) (y := p.y) vx vy n3 n4 (C.dp (q.add s).on p.on)
    rw [Pt.add_comm p (q.add s)]
    exact frac_eq lx rx (by clear lx rx m1 m2 ux uy vx vy n1 n2 n3 n4 ay; grind -lia -linarith) m1 m2
  · have lx := thrice' _ C.a C.d _ _ _ _ s.x s.y _ 0 ux uy (add_y (p.add q) s)
    have rx := thrice' _ C.a C.d _ _ _ _ p.x p.y ((q.add s).add p).y 0 vx vy (add_y (q.add s) p)
    have m1 := thrice_ne' (d := C.d) (x := s.x) (y := s.y) ux uy n1 n2 (C.dm (p.add q).on s.on)
    have m2 := thrice_ne' (d := C.d) (x := p.x) (y := p.y) vx vy n3 n4 (C.dm (q.add s).on p.on)
    rw [Pt.add_comm p (q.add s)]
    exact frac_eq lx rx (by clear lx rx m1 m2 ux uy vx vy n1 n2 n3 n4 ax; grind -lia -linarith) m1 m2

/-- A point, so often by itself. -/
def Pt.mul {C : Crv} : Nat → Pt C → Pt C
  | 0, _ => Pt.zero C
  | n + 1, p => (Pt.mul n p).add p

theorem Pt.add_zero {C : Crv} (p : Pt C) : p.add (Pt.zero C) = p := by rw [Pt.add_comm, Pt.zero_add]
theorem Pt.mul_one {C : Crv} (p : Pt C) : Pt.mul 1 p = p := Pt.zero_add p
theorem Pt.add_mul {C : Crv} (m n : Nat) (p : Pt C) : Pt.mul (m + n) p = (Pt.mul m p).add (Pt.mul n p) := by
  induction n with
  | zero => show Pt.mul m p = (Pt.mul m p).add (Pt.zero C); rw [Pt.add_zero]
  | succ n ih => show (Pt.mul (m + n) p).add p = (Pt.mul m p).add ((Pt.mul n p).add p); rw [ih, Pt.add_assoc]
theorem Pt.mul_mul {C : Crv} (m n : Nat) (p : Pt C) : Pt.mul (m * n) p = Pt.mul m (Pt.mul n p) := by
  induction m with
  | zero => rw [Nat.zero_mul]; rfl
  | succ m ih => rw [Nat.succ_mul, Pt.add_mul, ih]; rfl
theorem Pt.mul_zero {C : Crv} (m : Nat) : Pt.mul m (Pt.zero C) = Pt.zero C := by
  induction m with
  | zero => rfl
  | succ m ih => show (Pt.mul m (Pt.zero C)).add _ = _; rw [ih, Pt.zero_add]
theorem Pt.mul_swap {C : Crv} (m n : Nat) (p : Pt C) : Pt.mul m (Pt.mul n p) = Pt.mul n (Pt.mul m p) := by rw [← Pt.mul_mul, Nat.mul_comm, Pt.mul_mul]
theorem Pt.add_cancel {C : Crv} {p q s : Pt C} (h : p.add q = p.add s) : q = s := by
  have := congrArg (Pt.add p.neg) h
  rw [← Pt.add_assoc, ← Pt.add_assoc, Pt.neg_add, Pt.zero_add, Pt.zero_add] at this
  exact this
end Tabn
