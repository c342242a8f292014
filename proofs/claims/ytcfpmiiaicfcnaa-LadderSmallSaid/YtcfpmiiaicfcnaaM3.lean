import Derived.Test.YtcfpmiiaicfcnaaWkB
import Derived.Test.YtcfpmiiaicfcnaaM1
set_option linter.unusedVariables false
namespace Go.Vm
open Go

/-- A double word and a product more. -/
def W (p : Int × Int) (x y : Int) : Int × Int := (add64 p.1 (mulHi x y) (add64c p.2 (mulLo x y) 0), add64 p.2 (mulLo x y) 0)

theorem F47_eq (h l x y : Int) : F47 [h, l] x y = [(W (h, l) x y).1, (W (h, l) x y).2] := by kernel_rfl

theorem W_val {p : Int × Int} {x y : Int} (h1 : 0 ≤ p.1) (h2 : 0 ≤ p.2) (h2' : p.2 < 18446744073709551616) (hx : 0 ≤ x) (hy : 0 ≤ y) (hb : p.1 * 18446744073709551616 + p.2 + x * y < 340282366920938463463374607431768211456) :
    0 ≤ (W p x y).1 ∧ 0 ≤ (W p x y).2 ∧ (W p x y).2 < 18446744073709551616 ∧ (W p x y).1 * 18446744073709551616 + (W p x y).2 = p.1 * 18446744073709551616 + p.2 + x * y := by
  have hxy : 0 ≤ x * y := Int.mul_nonneg hx hy
  simp only [W, add64, add64c, mulHi, mulLo]
  generalize x * y = m at *
  generalize p.1 = a at *
  generalize p.2 = b at *
  have e1 : (a + m / 18446744073709551616 + (b + m % 18446744073709551616 + 0) / 18446744073709551616) % 18446744073709551616 = a + m / 18446744073709551616 + (b + m % 18446744073709551616 + 0) / 18446744073709551616 :=
    Int.emod_eq_of_lt (by omega) (by omega)
  rw [e1]
  omega

theorem acc_eq {x y : List Int} {f0 f1 f2 f3 f4 g0 g1 g2 g3 g4 : Int} (hx : F45 x = [f0, f1, f2, f3, f4]) (hy : F45 y = [g0, g1, g2, g3, g4]) :
    itr (F20l0 x y) 5 [0, 0, 0, 0, 0, 0, 0, 0, 0, 0] =
      let n := fun g => iMul .u64 g 19
      let c0 := W (W (W (W (W (0, 0) f0 g0) f1 (n g4)) f2 (n g3)) f3 (n g2)) f4 (n g1)
      let c1 := W (W (W (W (W (0, 0) f0 g1) f1 g0) f2 (n g4)) f3 (n g3)) f4 (n g2)
      let c2 := W (W (W (W (W (0, 0) f0 g2) f1 g1) f2 g0) f3 (n g4)) f4 (n g3)
      let c3 := W (W (W (W (W (0, 0) f0 g3) f1 g2) f2 g1) f3 g0) f4 (n g4)
      let c4 := W (W (W (W (W (0, 0) f0 g4) f1 g3) f2 g2) f3 g1) f4 g0
      [c0.1, c0.2, c1.1, c1.2, c2.1, c2.2, c3.1, c3.2, c4.1, c4.2] := by
  unfold F20l0 F20l1
  rw [hx, hy]
  kernel_rfl

theorem mul_le_b {x y : Int} (hx : 0 ≤ x ∧ x < 4503599627370496) (hy : 0 ≤ y ∧ y < 144115188075855872) : 0 ≤ x * y ∧ x * y ≤ 649037107316853453566312041152512 := by
  refine ⟨Int.mul_nonneg hx.1 hy.1, ?_⟩
  have h := Int.mul_le_mul (a := x) (b := y) (c := 4503599627370496) (d := 144115188075855872) (by omega) (by omega) hy.1 (by omega)
  have e : (4503599627370496 : Int) * 144115188075855872 = 649037107316853453566312041152512 := by decide
  omega

theorem W5 {x0 x1 x2 x3 x4 y0 y1 y2 y3 y4 : Int} (hx0 : 0 ≤ x0 ∧ x0 < 4503599627370496) (hx1 : 0 ≤ x1 ∧ x1 < 4503599627370496) (hx2 : 0 ≤ x2 ∧ x2 < 4503599627370496) (hx3 : 0 ≤ x3 ∧ x3 < 4503599627370496) (hx4 : 0 ≤ x4 ∧ x4 < 4503599627370496)
    (hy0 : 0 ≤ y0 ∧ y0 < 144115188075855872) (hy1 : 0 ≤ y1 ∧ y1 < 144115188075855872) (hy2 : 0 ≤ y2 ∧ y2 < 144115188075855872) (hy3 : 0 ≤ y3 ∧ y3 < 144115188075855872) (hy4 : 0 ≤ y4 ∧ y4 < 144115188075855872) :
    ∃ h l : Int, W (W (W (W (W (0, 0) x0 y0) x1 y1) x2 y2) x3 y3) x4 y4 = (h, l) ∧ (0 ≤ h ∧ h < 2251799813685247) ∧ (0 ≤ l ∧ l < 18446744073709551616) ∧ h * 18446744073709551616 + l = x0 * y0 + x1 * y1 + x2 * y2 + x3 * y3 + x4 * y4 := by
  have b0 := mul_le_b hx0 hy0
  have b1 := mul_le_b hx1 hy1
  have b2 := mul_le_b hx2 hy2
  have b3 := mul_le_b hx3 hy3
  have b4 := mul_le_b hx4 hy4
  obtain ⟨p1, p2, p3, p4⟩ := W_val (p := (0, 0)) (x := x0) (y := y0) (by decide) (by decide) (by decide) hx0.1 hy0.1 (by simp only; omega)
  obtain ⟨q1, q2, q3, q4⟩ := W_val (p := W (0, 0) x0 y0) (x := x1) (y := y1) p1 p2 p3 hx1.1 hy1.1 (by simp only at p4; omega)
  obtain ⟨r1, r2, r3, r4⟩ := W_val (p := W (W (0, 0) x0 y0) x1 y1) (x := x2) (y := y2) q1 q2 q3 hx2.1 hy2.1 (by simp only at p4; omega)
  obtain ⟨s1, s2, s3, s4⟩ := W_val (p := W (W (W (0, 0) x0 y0) x1 y1) x2 y2) (x := x3) (y := y3) r1 r2 r3 hx3.1 hy3.1 (by simp only at p4; omega)
  obtain ⟨t1, t2, t3, t4⟩ := W_val (p := W (W (W (W (0, 0) x0 y0) x1 y1) x2 y2) x3 y3) (x := x4) (y := y4) s1 s2 s3 hx4.1 hy4.1 (by simp only at p4; omega)
  have tot : (W (W (W (W (W (0, 0) x0 y0) x1 y1) x2 y2) x3 y3) x4 y4).1 * 18446744073709551616 + (W (W (W (W (W (0, 0) x0 y0) x1 y1) x2 y2) x3 y3) x4 y4).2 = x0 * y0 + x1 * y1 + x2 * y2 + x3 * y3 + x4 * y4 := by
    simp only at p4; omega
  refine ⟨(W (W (W (W (W (0, 0) x0 y0) x1 y1) x2 y2) x3 y3) x4 y4).1, (W (W (W (W (W (0, 0) x0 y0) x1 y1) x2 y2) x3 y3) x4 y4).2, rfl, ⟨t1, ?_⟩, ⟨t2, t3⟩, tot⟩
  clear p4 q4 r4 s4 t4 p1 p2 p3 q1 q2 q3 r1 r2 r3 s1 s2 s3
  have bd : x0 * y0 + x1 * y1 + x2 * y2 + x3 * y3 + x4 * y4 ≤ 3245185536584267267831560205762560 := by omega
  rw [← tot] at bd
  omega
end Go.Vm
