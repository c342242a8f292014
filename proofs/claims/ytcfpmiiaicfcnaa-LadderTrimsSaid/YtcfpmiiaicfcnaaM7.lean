import Derived.Test.YtcfpmiiaicfcnaaM6
set_option linter.unusedVariables false
namespace Go.Vm
open Go

theorem prod_le {x y : Int} (hx : 0 ≤ x ∧ x < 4503599627370496) (hy : 0 ≤ y ∧ y < 4503599627370496) : x * y ≤ 20282409603651670423947251286016 := by
  have h := Int.mul_le_mul (a := x) (b := y) (c := 4503599627370496) (d := 4503599627370496) (by omega) (by omega) hy.1 (by omega)
  have e : (4503599627370496 : Int) * 4503599627370496 = 20282409603651670423947251286016 := by decide
  omega

theorem nx_val {h l r s : Int} (hh : 0 ≤ h ∧ h < 2251799813685247) (hl : 0 ≤ l ∧ l < 18446744073709551616) (hr : 0 ≤ r ∧ r < 18446744073709551616) (hs : h * 18446744073709551616 + l = s) :
    nx h l r = (s + r) / 2251799813685248 ∧ lo l r = (s + r) % 2251799813685248 ∧ 0 ≤ nx h l r ∧ nx h l r < 18446744073709551616 := by
  obtain ⟨h1, h2⟩ := carry_val hh.1 hl hr (by omega)
  rw [hs] at h1 h2
  have h1' : nx h l r = (s + r) / 2251799813685248 := h1
  refine ⟨h1', h2, ?_, ?_⟩ <;> rw [h1'] <;> omega

theorem mul_id (f0 f1 f2 f3 f4 g0 g1 g2 g3 g4 : Int) : val5 [f0, f1, f2, f3, f4] * val5 [g0, g1, g2, g3, g4] =
    val5 [f0 * g0 + f1 * (19 * g4) + f2 * (19 * g3) + f3 * (19 * g2) + f4 * (19 * g1), f0 * g1 + f1 * g0 + f2 * (19 * g4) + f3 * (19 * g3) + f4 * (19 * g2), f0 * g2 + f1 * g1 + f2 * g0 + f3 * (19 * g4) + f4 * (19 * g3), f0 * g3 + f1 * g2 + f2 * g1 + f3 * g0 + f4 * (19 * g4), f0 * g4 + f1 * g3 + f2 * g2 + f3 * g1 + f4 * g0] +
    (f1 * g4 + f2 * g3 + f3 * g2 + f4 * g1 + 2251799813685248 * (f2 * g4 + f3 * g3 + f4 * g2) + 5070602400912917605986812821504 * (f3 * g4 + f4 * g3) + 11417981541647679048466287755595961091061972992 * (f4 * g4)) * PP := by
  simp only [val5, PP]
  grind -lia -linarith

theorem mul_val {x y : List Int} (hx : Fe x) (hy : Fe y) : Fe (F20 x y) ∧ val5 (F20 x y) % PP = (val5 x * val5 y) % PP := by
  obtain ⟨a, b, c, d, e, rfl, ha, hb, hc, hd, he⟩ := hx
  obtain ⟨a', b', c', d', e', rfl, ha', hb', hc', hd', he'⟩ := hy
  obtain ⟨q, f0, f1, f2, f3, f4, hf, hf0, hf1, hf2, hf3, hf4, hfv⟩ := thin_val (a := a) (b := b) (c := c) (d := d) (e := e) (by omega) (by omega) (by omega) (by omega) (by omega)
  obtain ⟨q', g0, g1, g2, g3, g4, hg, hg0, hg1, hg2, hg3, hg4, hgv⟩ := thin_val (a := a') (b := b') (c := c') (d := d') (e := e') (by omega) (by omega) (by omega) (by omega) (by omega)
  have n : ∀ g : Int, (0 ≤ g ∧ g < 4503599627370496) → iMul .u64 g 19 = 19 * g := by
    intro g hg
    rw [iMul_u64, Int.emod_eq_of_lt (by omega) (by omega)]; omega
  have hacc := acc_eq hf hg
  simp only [n g1 (by omega), n g2 (by omega), n g3 (by omega), n g4 (by omega)] at hacc
  obtain ⟨h0, l0, e0, hh0, hl0, s0⟩ := W5 (x0 := f0) (x1 := f1) (x2 := f2) (x3 := f3) (x4 := f4) (y0 := g0) (y1 := 19 * g4) (y2 := 19 * g3) (y3 := 19 * g2) (y4 := 19 * g1) (by omega) (by omega) (by omega) (by omega) (by omega) (by omega) (by omega) (by omega) (by omega) (by omega)
  obtain ⟨h1, l1, e1, hh1, hl1, s1⟩ := W5 (x0 := f0) (x1 := f1) (x2 := f2) (x3 := f3) (x4 := f4) (y0 := g1) (y1 := g0) (y2 := 19 * g4) (y3 := 19 * g3) (y4 := 19 * g2) (by omega) (by omega) (by omega) (by omega) (by omega) (by omega) (by omega) (by omega) (by omega) (by omega)
  obtain ⟨h2, l2, e2, hh2, hl2, s2⟩ := W5 (x0 := f0) (x1 := f1) (x2 := f2) (x3 := f3) (x4 := f4) (y0 := g2) (y1 := g1) (y2 := g0) (y3 := 19 * g4) (y4 := 19 * g3) (by omega) (by omega) (by omega) (by omega) (by omega) (by omega) (by omega) (by omega) (by omega) (by omega)
  obtain ⟨h3, l3, e3, hh3, hl3, s3⟩ := W5 (x0 := f0) (x1 := f1) (x2 := f2) (x3 := f3) (x4 := f4) (y0 := g3) (y1 := g2) (y2 := g1) (y3 := g0) (y4 := 19 * g4) (by omega) (by omega) (by omega) (by omega) (by omega) (by omega) (by omega) (by omega) (by omega) (by omega)
  obtain ⟨h4, l4, e4, hh4, hl4, s4⟩ := W5 (x0 := f0) (x1 := f1) (x2 := f2) (x3 := f3) (x4 := f4) (y0 := g4) (y1 := g3) (y2 := g2) (y3 := g1) (y4 := g0) (by omega) (by omega) (by omega) (by omega) (by omega) (by omega) (by omega) (by omega) (by omega) (by omega)
  rw [e0, e1, e2, e3, e4] at hacc
  have key := F20_eq hacc
  have hid := mul_id f0 f1 f2 f3 f4 g0 g1 g2 g3 g4
  have b40 := prod_le (x := f0) (y := g4) (by omega) (by omega)
  have b41 := prod_le (x := f1) (y := g3) (by omega) (by omega)
  have b42 := prod_le (x := f2) (y := g2) (by omega) (by omega)
  have b43 := prod_le (x := f3) (y := g1) (by omega) (by omega)
  have b44 := prod_le (x := f4) (y := g0) (by omega) (by omega)
  generalize hq2 : (f1 * g4 + f2 * g3 + f3 * g2 + f4 * g1 + 2251799813685248 * (f2 * g4 + f3 * g3 + f4 * g2) + 5070602400912917605986812821504 * (f3 * g4 + f4 * g3) + 11417981541647679048466287755595961091061972992 * (f4 * g4)) = q2 at hid
  rw [← s0, ← s1, ← s2, ← s3, ← s4] at hid
  have bd4 : h4 * 18446744073709551616 + l4 ≤ 101412048018258352119736256430080 := by omega
  generalize ht0 : h0 * 18446744073709551616 + l0 = t0 at hid
  generalize ht1 : h1 * 18446744073709551616 + l1 = t1 at hid
  generalize ht2 : h2 * 18446744073709551616 + l2 = t2 at hid
  generalize ht3 : h3 * 18446744073709551616 + l3 = t3 at hid
  generalize ht4 : h4 * 18446744073709551616 + l4 = t4 at hid bd4
  obtain ⟨u0, v0, w0, w0'⟩ := nx_val (r := 0) hh0 hl0 (by omega) ht0
  obtain ⟨u1, v1, w1, w1'⟩ := nx_val (r := nx h0 l0 0) hh1 hl1 ⟨w0, w0'⟩ ht1
  obtain ⟨u2, v2, w2, w2'⟩ := nx_val (r := nx h1 l1 (nx h0 l0 0)) hh2 hl2 ⟨w1, w1'⟩ ht2
  obtain ⟨u3, v3, w3, w3'⟩ := nx_val (r := nx h2 l2 (nx h1 l1 (nx h0 l0 0))) hh3 hl3 ⟨w2, w2'⟩ ht3
  obtain ⟨u4, v4, w4, w4'⟩ := nx_val (r := nx h3 l3 (nx h2 l2 (nx h1 l1 (nx h0 l0 0)))) hh4 hl4 ⟨w3, w3'⟩ ht4
  simp only at key
  generalize nx h0 l0 0 = r1 at *
  generalize nx h1 l1 r1 = r2 at *
  generalize nx h2 l2 r2 = r3 at *
  generalize nx h3 l3 r3 = r4 at *
  generalize nx h4 l4 r4 = r5 at *
  rw [v0, v1, v2, v3, v4] at key
  clear v0 v1 v2 v3 v4 hacc e0 e1 e2 e3 e4 s0 s1 s2 s3 s4 b40 b41 b42 b43 b44 hq2 hf hg n
  have r5b : r5 ≤ 45035996273713152 := by omega
  have m1 : iMul .u64 19 r5 = 19 * r5 := by rw [iMul_u64]; exact Int.emod_eq_of_lt (by omega) (by omega)
  have m2 : iAdd .u64 ((t0 + 0) % 2251799813685248) (19 * r5) = (t0 + 0) % 2251799813685248 + 19 * r5 := by rw [iAdd_u64]; exact Int.emod_eq_of_lt (by omega) (by omega)
  rw [m1, m2] at key
  obtain ⟨q3, p0, p1, p2, p3, p4, hp, hp0, hp1, hp2, hp3, hp4, hpv⟩ := thin_val (a := (t0 + 0) % 2251799813685248 + 19 * r5) (b := (t1 + r1) % 2251799813685248) (c := (t2 + r2) % 2251799813685248) (d := (t3 + r3) % 2251799813685248) (e := (t4 + r4) % 2251799813685248) (by omega) (by omega) (by omega) (by omega) (by omega)
  rw [hp] at key
  rw [key]
  refine ⟨⟨p0, p1, p2, p3, p4, rfl, by omega, by omega, by omega, by omega, by omega⟩, ?_⟩
  have e5 : val5 [t0, t1, t2, t3, t4] = val5 [p0, p1, p2, p3, p4] + (q3 + r5) * PP := by
    have : val5 [t0, t1, t2, t3, t4] = val5 [(t0 + 0) % 2251799813685248 + 19 * r5, (t1 + r1) % 2251799813685248, (t2 + r2) % 2251799813685248, (t3 + r3) % 2251799813685248, (t4 + r4) % 2251799813685248] + r5 * PP := by
      simp only [val5, PP]
      clear hpv hid hfv hgv
      omega
    rw [this, hpv]; show val5 _ + q3 * PP + r5 * PP = _; rw [Int.add_mul, Int.add_assoc]
  have f : val5 [a, b, c, d, e] * val5 [a', b', c', d', e'] = val5 [p0, p1, p2, p3, p4] + (q3 + r5 + q2 + q * val5 [g0, g1, g2, g3, g4] + q' * val5 [f0, f1, f2, f3, f4] + q * q' * PP) * PP := by
    rw [hfv, hgv]
    have h7 : val5 [f0, f1, f2, f3, f4] * val5 [g0, g1, g2, g3, g4] = val5 [p0, p1, p2, p3, p4] + (q3 + r5) * PP + q2 * PP := by rw [hid, e5]
    generalize val5 [f0, f1, f2, f3, f4] = A at *
    generalize val5 [g0, g1, g2, g3, g4] = Bv at *
    generalize val5 [p0, p1, p2, p3, p4] = Cv at *
    show (A + q * PP) * (Bv + q' * PP) = _
    generalize PP = M at *
    grind -lia -linarith
  exact (modP f).symm
end Go.Vm
