/- Squares modulo 2^255-19; the ladder on an Edwards curve. -/
import Derived.Test.YtcfpmiiaicfcnaaC1
set_option linter.unusedVariables false
namespace Tabn

/-! ### Powers, and which numbers are squares -/
def fpow (a : F) : Nat → F
  | 0 => 1
  | n + 1 => fpow a n * a

theorem fpow_val (a : F) (n : Nat) : (fpow a n).val = a.val ^ n % P := by
  induction n with
  | zero => rfl
  | succ n ih =>
    show (fpow a n * a).val = _
    rw [Fin.val_mul, ih, Nat.pow_succ, Nat.mod_mul_mod]
theorem fpow_add (a : F) (m n : Nat) : fpow a (m + n) = fpow a m * fpow a n := by
  induction n with
  | zero => show fpow a m = fpow a m * 1; grind -lia -linarith
  | succ n ih => show fpow a (m + n) * a = fpow a m * (fpow a n * a); rw [ih]; grind -lia -linarith
theorem fpow_mul (a b : F) (n : Nat) : fpow (a * b) n = fpow a n * fpow b n := by
  induction n with
  | zero => show (1 : F) = 1 * 1; grind -lia -linarith
  | succ n ih => show fpow (a * b) n * (a * b) = fpow a n * a * (fpow b n * b); rw [ih]; grind -lia -linarith
theorem fpow_one (a : F) : fpow a 1 = a := by show 1 * a = a; grind -lia -linarith
attribute [irreducible] fpow

def eH : Nat := 28948022309329048855892746252171976963317496166410141009864396001978282409974
def eQ : Nat := 14474011154664524427946373126085988481658748083205070504932198000989141204987
def eR : Nat := 7237005577332262213973186563042994240829374041602535252466099000494570602494

theorem eH_two : eH + eH = P - 1 := by decide
theorem eQ_two : eQ + eQ = eH := by decide
theorem eR_two : eR + eR = eQ + 1 := by decide
theorem pos_H : eH < 2 ^ 256 := by decide
theorem P_lt : P < 2 ^ 256 := by decide
theorem two_H : pmod P 256 2 eH = P - 1 := by decide +kernel
theorem disc_H : pmod P 256 236839902240 eH = P - 1 := by decide +kernel
attribute [irreducible] eH eQ eR

theorem fpow_ord {a : F} (h : a ≠ 0) : fpow a (P - 1) = 1 := by
  apply Fin.ext
  rw [fpow_val]
  show a.val ^ (P - 1) % P = 1 % P
  apply fermat_one prime_P
  intro hd
  apply h
  apply Fin.ext
  show a.val = 0
  rcases Nat.eq_zero_or_pos a.val with h0 | h0
  · exact h0
  · have := Nat.le_of_dvd h0 hd
    have := a.isLt
    omega

theorem sq_one {x : F} (h : x * x = 1) : x = 1 ∨ x = -1 := by
  have h1 : (x - 1) * (x + 1) = 0 := by grind -lia -linarith
  rcases fmul_zero h1 with h2 | h2
  · left; grind -lia -linarith
  · right; grind -lia -linarith

theorem half_pm {a : F} (h : a ≠ 0) : fpow a eH = 1 ∨ fpow a eH = -1 := by
  apply sq_one
  rw [← fpow_add, eH_two, fpow_ord h]

theorem neg_one_val : (-1 : F).val = P - 1 := by decide
theorem half_eval {a : F} {n e : Nat} (hn : a.val = n) (he : e < 2 ^ 256) (h : pmod P 256 n e = P - 1) : fpow a e = -1 := by
  apply Fin.ext
  rw [fpow_val, neg_one_val, hn, ← pmod_eq P 256 n e he, h]
theorem two_pow : fpow 2 eH = -1 := half_eval (n := 2) (by decide) pos_H two_H

/-- A power of 1 makes a square. -/
theorem sq_of_half {a : F} (h : fpow a eH = 1) : ∃ r, r * r = a := by
  have h1 : fpow a eQ * fpow a eQ = 1 := by rw [← fpow_add, eQ_two, h]
  have h2 : fpow a eR * fpow a eR = fpow a eQ * a := by rw [← fpow_add, eR_two, fpow_add, fpow_one]
  rcases sq_one h1 with h3 | h3
  · exact ⟨fpow a eR, by rw [h2, h3]; grind -lia -linarith⟩
  · have h4 : fpow 2 eQ * fpow 2 eQ = -1 := by rw [← fpow_add, eQ_two, two_pow]
    exact ⟨fpow a eR * fpow 2 eQ, by rw [h3] at h2; grind -lia -linarith⟩

theorem half_of_sq {a r : F} (ha : a ≠ 0) (h : r * r = a) : fpow a eH = 1 := by
  have hr : r ≠ 0 := by intro h0; apply ha; rw [← h, h0]; grind -lia -linarith
  rw [← h, fpow_mul, ← fpow_add, eH_two, fpow_ord hr]

theorem one_ne_neg : (1 : F) ≠ -1 := by decide

/-- Of two numbers that are no squares the product is one. -/
theorem sq_of_two {a b : F} (ha : a ≠ 0) (hb : b ≠ 0) (h : ∀ r, r * r ≠ a) (h' : ∀ r, r * r ≠ b) : ∃ r, r * r = a * b := by
  apply sq_of_half
  rw [fpow_mul]
  rcases half_pm ha with h1 | h1
  · obtain ⟨r, hr⟩ := sq_of_half h1
    exact absurd hr (h r)
  · rcases half_pm hb with h2 | h2
    · obtain ⟨r, hr⟩ := sq_of_half h2
      exact absurd hr (h' r)
    · rw [h1, h2]; grind -lia -linarith

/-- A^2 - 4 is no square. -/
theorem disc_nsq (r : F) : r * r ≠ 236839902240 := by
  intro h
  have h1 := half_of_sq (a := 236839902240) (by decide) h
  have h2 : fpow 236839902240 eH = -1 := half_eval (n := 236839902240) (by decide) pos_H disc_H
  exact one_ne_neg (h1.symm.trans h2)

/-! ### The ladder -/
def dblX (X Z : F) : F := (X + Z) * (X + Z) * ((X - Z) * (X - Z))
def dblC (X Z : F) : F := (X + Z) * (X + Z) - (X - Z) * (X - Z)
def dblZ (X Z : F) : F := dblC X Z * ((X - Z) * (X - Z) + 121666 * dblC X Z)
def addX (X1 Z1 X2 Z2 : F) : F := (X1 * X2 - Z1 * Z2) * (X1 * X2 - Z1 * Z2)
def addZ (u X1 Z1 X2 Z2 : F) : F := u * ((X1 * Z2 - Z1 * X2) * (X1 * Z2 - Z1 * X2))

/-- X over Z stands for the point with this y. -/
def Like (s X Z y : F) : Prop := ∃ l, l ≠ 0 ∧ X = l * s * (1 + y) ∧ Z = l * (1 - y)

theorem like_of {s X Z y : F} (hs : s * s = 1) (h : X * (1 - y) = s * Z * (1 + y)) (hn : X ≠ 0 ∨ Z ≠ 0) : Like s X Z y := by
  have hs0 : s ≠ 0 := by
    intro h0
    have : (1 : F) = 0 := by rw [← hs, h0]; grind -lia -linarith
    exact absurd this (by decide)
  by_cases h1 : 1 - y = 0
  · have hy : y = 1 := by grind -lia -linarith
    have hZ : Z = 0 := by
      have : s * (2 * Z) = 0 := by rw [hy] at h; grind -lia -linarith
      rcases fmul_zero this with h2 | h2
      · exact absurd h2 hs0
      · exact ftwo h2
    have hX : X ≠ 0 := by
      rcases hn with hn | hn
      · exact hn
      · exact absurd hZ hn
    have i2 := finv_mul two_ne
    refine ⟨X * s * finv 2, fmul_ne (fmul_ne hX hs0) ?_, ?_, ?_⟩
    · intro h0
      rw [h0] at i2
      have : (0 : F) = 1 := by grind -lia -linarith
      exact absurd this (by decide)
    · rw [hy]; grind -lia -linarith
    · rw [hZ, h1]; grind -lia -linarith
  · have i := finv_mul h1
    have hX : X = Z * finv (1 - y) * s * (1 + y) := by
      apply fcancel h1
      grind -lia -linarith
    have hZ : Z = Z * finv (1 - y) * (1 - y) := by grind -lia -linarith
    refine ⟨Z * finv (1 - y), ?_, hX, hZ⟩
    intro h0
    rw [h0] at hX hZ
    rcases hn with hn | hn
    · apply hn; rw [hX]; grind -lia -linarith
    · apply hn; rw [hZ]; grind -lia -linarith

/-- A curve that is the Montgomery curve in other coordinates. -/
structure Mnt (C : Crv) (s k : F) : Prop where
  ss : s * s = 1
  ha : C.a = k * (486662 + 2 * s)
  hd : C.d = k * (486662 - 2 * s)

theorem Crv.ady (C : Crv) (y : F) : C.a - C.d * y ^ 2 ≠ 0 := by
  intro h
  have hr := C.sq
  have hy : y ≠ 0 := by
    intro h0
    apply C.an
    rw [h0] at h
    grind -lia -linarith
  exact nsq_of C hy (p := C.r) (by grind -lia -linarith)

theorem alg1 {s l y X Z : F} (ss : s * s = 1) (hX : X = l * s * (1 + y)) (hZ : Z = l * (1 - y)) : dblX X Z = 16 * l ^ 4 * y ^ 2 := by
  have e1 : (X + Z) * (X - Z) = 4 * l ^ 2 * y := by subst hX hZ; grind -lia -linarith
  have e2 : dblX X Z = ((X + Z) * (X - Z)) ^ 2 := by unfold dblX; grind -lia -linarith
  rw [e2, e1]; grind -lia -linarith
theorem alg2 {s l y X Z : F} (ss : s * s = 1) (hX : X = l * s * (1 + y)) (hZ : Z = l * (1 - y)) : dblZ X Z = 4 * l ^ 4 * (1 - y ^ 2) * (486662 + 2 * s - (486662 - 2 * s) * y ^ 2) := by
  have e1 : dblC X Z = 4 * l ^ 2 * s * (1 - y ^ 2) := by unfold dblC; subst hX hZ; grind -lia -linarith
  have e2 : (X - Z) * (X - Z) = 2 * l ^ 2 * (1 + y ^ 2) - 2 * l ^ 2 * s * (1 - y ^ 2) := by subst hX hZ; grind -lia -linarith
  unfold dblZ
  rw [e1, e2]
  clear hX hZ e1 e2
  grind -lia -linarith
theorem alg3 {d a x y y2 : F} (on : a * x ^ 2 + y ^ 2 = 1 + d * x ^ 2 * y ^ 2) (hy2 : y2 * (1 - d * x * x * y * y) = y * y - a * x * x) : (1 - d * x * x * y * y) * (1 + y2) = 2 * y ^ 2 * (1 - d * x ^ 2) := by grind -lia -linarith
theorem alg4 {d a x y y2 : F} (on : a * x ^ 2 + y ^ 2 = 1 + d * x ^ 2 * y ^ 2) (hy2 : y2 * (1 - d * x * x * y * y) = y * y - a * x * x) : (1 - d * x * x * y * y) * (1 - y2) = 2 * (1 - y ^ 2) := by grind -lia -linarith
theorem alg5 {d a x y : F} (on : a * x ^ 2 + y ^ 2 = 1 + d * x ^ 2 * y ^ 2) : (a - d * y ^ 2) * (1 - d * x ^ 2) = a - d := by grind -lia -linarith

theorem dbl_alg (a d k s l x y y2 X Z : F) (ss : s * s = 1) (ha : a = k * (486662 + 2 * s)) (hd : d = k * (486662 - 2 * s)) (on : a * x ^ 2 + y ^ 2 = 1 + d * x ^ 2 * y ^ 2) (hy2 : y2 * (1 - d * x * x * y * y) = y * y - a * x * x) (hX : X = l * s * (1 + y)) (hZ : Z = l * (1 - y)) :
    k * dblX X Z = 2 * l ^ 4 * (a - d * y ^ 2) * (1 - d * x * x * y * y) * s * (1 + y2) ∧ k * dblZ X Z = 2 * l ^ 4 * (a - d * y ^ 2) * (1 - d * x * x * y * y) * (1 - y2) := by
  have e1 := alg1 ss hX hZ
  have e2 := alg2 ss hX hZ
  have e3 := alg3 on hy2
  have e4 := alg4 on hy2
  have e5 := alg5 on
  have e6 : k * (486662 + 2 * s - (486662 - 2 * s) * y ^ 2) = a - d * y ^ 2 := by rw [ha, hd]; clear on hy2 e1 e2 e3 e4 e5 hX hZ; grind -lia -linarith
  have e7 : a - d = 4 * k * s := by rw [ha, hd]; clear on hy2 e1 e2 e3 e4 e5 hX hZ e6; grind -lia -linarith
  rw [e7] at e5
  clear on hy2 hX hZ ha hd e7
  generalize dblX X Z = X' at *
  generalize dblZ X Z = Z' at *
  generalize a - d * y ^ 2 = B at *
  generalize 1 - d * x * x * y * y = D at *
  generalize 1 - d * x ^ 2 = G at *
  generalize 486662 + 2 * s - (486662 - 2 * s) * y ^ 2 = M at *
  constructor
  · have : 2 * l ^ 4 * B * D * s * (1 + y2) = 2 * l ^ 4 * s * B * (D * (1 + y2)) := by clear e1 e2 e3 e4 e5 e6; grind -lia -linarith
    rw [this, e3, e1]
    have : 2 * l ^ 4 * s * B * (2 * y ^ 2 * G) = 4 * l ^ 4 * s * y ^ 2 * (B * G) := by clear e1 e2 e3 e4 e5 e6; grind -lia -linarith
    rw [this, e5]
    clear e1 e2 e3 e4 e5 e6
    grind -lia -linarith
  · have : 2 * l ^ 4 * B * D * (1 - y2) = 2 * l ^ 4 * B * (D * (1 - y2)) := by clear e1 e2 e3 e4 e5 e6; grind -lia -linarith
    rw [this, e4, e2, ← e6]
    clear e1 e2 e3 e4 e5 e6
    grind -lia -linarith

theorem dbl_like {C : Crv} {s k X Z : F} (hM : Mnt C s k) (p : Pt C) (h : Like s X Z p.y) : Like s (dblX X Z) (dblZ X Z) (p.add p).y := by
  obtain ⟨l, hl, hX, hZ⟩ := h
  have hk : k ≠ 0 := by
    intro h0
    apply C.an
    rw [hM.ha, h0]; grind -lia -linarith
  obtain ⟨g1, g2⟩ := dbl_alg C.a C.d k s l p.x p.y (p.add p).y X Z hM.ss hM.ha hM.hd p.on (add_y p p) hX hZ
  have n1 := C.ady p.y
  have n2 := C.dm p.on p.on
  have ik := finv_mul hk
  generalize (1 - C.d * p.x * p.x * p.y * p.y) = D at *
  generalize C.a - C.d * p.y ^ 2 = B at *
  generalize dblX X Z = X' at *
  generalize dblZ X Z = Z' at *
  generalize (p.add p).y = y2 at *
  refine ⟨2 * l ^ 4 * B * D * finv k, ?_, ?_, ?_⟩
  · have hl4 : l ^ 4 ≠ 0 := by
      have e : l ^ 4 = l * l * (l * l) := by grind -lia -linarith
      rw [e]; exact fmul_ne (fmul_ne hl hl) (fmul_ne hl hl)
    refine fmul_ne (fmul_ne (fmul_ne (fmul_ne two_ne hl4) n1) n2) ?_
    intro h0
    rw [h0] at ik
    have : (0 : F) = 1 := by grind -lia -linarith
    exact absurd this (by decide)
  · apply fcancel hk
    rw [g1]; grind -lia -linarith
  · apply fcancel hk
    rw [g2]; grind -lia -linarith

theorem dadd (a d x1 y1 x2 y2 : F) (h1 : a*x1^2 + y1^2 = 1 + d*x1^2*y1^2) (h2 : a*x2^2 + y2^2 = 1 + d*x2^2*y2^2) :
  ((1+y1*y2)^2 - (d*x1*x2*y1*y2 + a*x1*x2)^2)*(y1-y2)^2 = ((1-y1*y2)^2 - (d*x1*x2*y1*y2 - a*x1*x2)^2)*(y1+y2)^2 := by
  grind -lia -linarith

theorem dadd_y {t a1 y1 y2 y3 y4 : F} (h3 : y3 * (1 - t) = y1 * y2 - a1) (h4 : y4 * (1 + t) = y1 * y2 + a1) (n1 : 1 - t ≠ 0) (n2 : 1 + t ≠ 0)
    (h : ((1 + y1 * y2) ^ 2 - (t + a1) ^ 2) * (y1 - y2) ^ 2 = ((1 - y1 * y2) ^ 2 - (t - a1) ^ 2) * (y1 + y2) ^ 2) :
    (1 + y3) * (1 + y4) * (y1 - y2) ^ 2 = (1 - y3) * (1 - y4) * (y1 + y2) ^ 2 := by
  apply fcancel (fmul_ne n1 n2)
  have e1 : (1 + y1 * y2) ^ 2 - (t + a1) ^ 2 = ((1 - t) * (1 + y3)) * ((1 + t) * (1 + y4)) := by
    have f1 : (1 - t) * (1 + y3) = 1 - t + y1 * y2 - a1 := by grind -lia -linarith
    have f2 : (1 + t) * (1 + y4) = 1 + t + y1 * y2 + a1 := by grind -lia -linarith
    rw [f1, f2]; grind -lia -linarith
  have e2 : (1 - y1 * y2) ^ 2 - (t - a1) ^ 2 = ((1 - t) * (1 - y3)) * ((1 + t) * (1 - y4)) := by
    have f1 : (1 - t) * (1 - y3) = 1 - t - y1 * y2 + a1 := by grind -lia -linarith
    have f2 : (1 + t) * (1 - y4) = 1 + t - y1 * y2 - a1 := by grind -lia -linarith
    rw [f1, f2]; grind -lia -linarith
  rw [e1, e2] at h
  clear h3 h4 e1 e2
  grind -lia -linarith

theorem fsq0 {z : F} (h : z ^ 2 = 0) : z = 0 := by
  have : z * z = 0 := by grind -lia -linarith
  rcases fmul_zero this with h | h <;> exact h

theorem degen {a d x1 x2 y1 y2 y4 : F} (q1 : y1 + y2 = 0) (q2 : y1 - y2 = 0) (on1 : a * x1 ^ 2 + y1 ^ 2 = 1 + d * x1 ^ 2 * y1 ^ 2) (on2 : a * x2 ^ 2 + y2 ^ 2 = 1 + d * x2 ^ 2 * y2 ^ 2)
    (h4 : y4 * (1 + d * x1 * x2 * y1 * y2) = y1 * y2 + a * x1 * x2) : y4 * y4 = 1 := by
  have e : 2 * y1 = 0 := by clear on1 on2 h4; grind -lia -linarith
  have q3 : y1 = 0 := ftwo e
  have q4 : y2 = 0 := by rw [q3] at q1; clear on1 on2 h4 e q2; grind -lia -linarith
  subst q3 q4
  have r1 : a * x1 ^ 2 = 1 := by clear h4 q1 q2 e on2; grind -lia -linarith
  have r2 : a * x2 ^ 2 = 1 := by clear h4 q1 q2 e on1; grind -lia -linarith
  have r3 : y4 = a * x1 * x2 := by clear q1 q2 e on1 on2 r1 r2; grind -lia -linarith
  rw [r3]
  have : a * x1 * x2 * (a * x1 * x2) = (a * x1 ^ 2) * (a * x2 ^ 2) := by clear h4 q1 q2 e on1 on2 r1 r2 r3; grind -lia -linarith
  rw [this, r1, r2]
  decide

theorem add_like {C : Crv} {s u X1 Z1 X2 Z2 : F} (ss : s * s = 1) (p b : Pt C) (hb : u * (1 - b.y) = s * (1 + b.y)) (b1 : 1 - b.y ≠ 0) (b2 : 1 + b.y ≠ 0) (h1 : Like s X1 Z1 p.y) (h2 : Like s X2 Z2 (p.add b).y) :
    Like s (addX X1 Z1 X2 Z2) (addZ u X1 Z1 X2 Z2) (p.add (p.add b)).y := by
  obtain ⟨l1, hl1, rfl, rfl⟩ := h1
  obtain ⟨l2, hl2, rfl, rfl⟩ := h2
  have hbq : p.neg.add (p.add b) = b := by rw [← Pt.add_assoc, Pt.neg_add, Pt.zero_add]
  have hid := dadd C.a C.d p.x p.y (p.add b).x (p.add b).y p.on (p.add b).on
  have h3 := add_y p (p.add b)
  have h4 := add_y p.neg (p.add b)
  rw [hbq] at h4
  have n1 := C.dm p.on (p.add b).on
  have n2 := C.dp p.on (p.add b).on
  have on1 := p.on
  have on2 := (p.add b).on
  generalize (p.add (p.add b)).y = y3 at *
  generalize (p.add b).y = y2 at *
  generalize (p.add b).x = x2 at *
  have px : p.neg.x = -p.x := rfl
  have py : p.neg.y = p.y := rfl
  rw [px, py] at h4
  generalize p.x = x1 at *
  generalize p.y = y1 at *
  generalize b.y = y4 at *
  clear hbq
  have h4' : y4 * (1 + C.d * x1 * x2 * y1 * y2) = y1 * y2 + C.a * x1 * x2 := by clear hid h3 hb on1 on2; grind -lia -linarith
  have key := dadd_y (t := C.d * x1 * x2 * y1 * y2) (a1 := C.a * x1 * x2) h3 h4' n1 n2 hid
  clear h4
  have hu : u ≠ 0 := by
    intro h0
    rw [h0] at hb
    have : s * (s * (1 + y4)) = 0 := by rw [← hb]; grind -lia -linarith
    apply b2
    grind -lia -linarith
  have eX : addX (l1 * s * (1 + y1)) (l1 * (1 - y1)) (l2 * s * (1 + y2)) (l2 * (1 - y2)) = 4 * (l1 * l2) ^ 2 * (y1 + y2) ^ 2 := by
    unfold addX; clear key h3 h4' hid on1 on2 hb; grind -lia -linarith
  have eZ : addZ u (l1 * s * (1 + y1)) (l1 * (1 - y1)) (l2 * s * (1 + y2)) (l2 * (1 - y2)) = u * (4 * (l1 * l2) ^ 2 * (y1 - y2) ^ 2) := by
    unfold addZ; clear key h3 h4' hid on1 on2 hb; grind -lia -linarith
  rw [eX, eZ]
  have hl : 4 * (l1 * l2) ^ 2 ≠ 0 := by
    have e : 4 * (l1 * l2) ^ 2 = 2 * 2 * (l1 * l2 * (l1 * l2)) := by grind -lia -linarith
    rw [e]; exact fmul_ne (fmul_ne two_ne two_ne) (fmul_ne (fmul_ne hl1 hl2) (fmul_ne hl1 hl2))
  generalize 4 * (l1 * l2) ^ 2 = M at *
  apply like_of ss
  · apply fcancel b1
    clear h3 h4' hid on1 on2 eX eZ
    have e1 : (1 - y4) * (M * (y1 + y2) ^ 2 * (1 - y3)) = M * ((1 - y3) * (1 - y4) * (y1 + y2) ^ 2) := by grind -lia -linarith
    have e2 : (1 - y4) * (s * (u * (M * (y1 - y2) ^ 2)) * (1 + y3)) = M * s * (u * (1 - y4)) * (y1 - y2) ^ 2 * (1 + y3) := by grind -lia -linarith
    rw [e1, e2, hb, ← key]
    grind -lia -linarith
  · by_cases g1 : M * (y1 + y2) ^ 2 = 0
    · by_cases g2 : u * (M * (y1 - y2) ^ 2) = 0
      · exfalso
        have q1 : y1 + y2 = 0 := by
          rcases fmul_zero g1 with h | h
          · exact absurd h hl
          · exact fsq0 h
        have q2 : y1 - y2 = 0 := by
          rcases fmul_zero g2 with h | h
          · exact absurd h hu
          · rcases fmul_zero h with h | h
            · exact absurd h hl
            · exact fsq0 h
        have r4 := degen q1 q2 on1 on2 h4'
        rcases sq_one r4 with h | h
        · exact b1 (by rw [h]; decide)
        · exact b2 (by rw [h]; decide)
      · exact .inr g2
    · exact .inl g1
end Tabn
