/- The hash of words of 64 bits: what the code computes is what the reference does. -/
import Derived.Test.YtclfmaifcelcpaaDoorH1
import Derived.Test.YtclfmaifcelcpaaDoorDgD
set_option linter.unusedVariables false
set_option linter.unusedSimpArgs false
set_option maxRecDepth 4000
namespace Go.Vm
open Go

theorem unsP64 : Uns .u64 (2 ^ 64) := uns64
theorem rot64 {n s : Nat} (hw : n + s = 64) (h0 : 0 < n) (h1 : 0 < s) {x : Int} (hx : Wd 64 x) : F60w64 x (n : Int) = F51 x (s : Int) ∧ Wd 64 (F51 x (s : Int)) := by
  obtain ⟨a, rfl, ha⟩ := hx
  have c1 : iAnd .u64 (IntKind.wrap .u64 (s : Int)) 63 = (s : Int) := by
    have h : ∀ s : Fin 64, iAnd .u64 (IntKind.wrap .u64 ((s.val : Nat) : Int)) 63 = ((s.val : Nat) : Int) := by decide
    exact h ⟨s, by omega⟩
  have c2 : iSub .u64 64 (s : Int) = (n : Int) := by rw [iSub_u64]; omega
  have c3 : iSub .i64 64 (n : Int) = (s : Int) := by rw [iSub_i64 (by omega) (by omega)]; omega
  have e1 : F51 (a : Int) (s : Int) = (((a / 2 ^ n + a * 2 ^ s) % 2 ^ 64 : Nat) : Int) := by
    unfold F51
    rw [c1, c2]
    exact rot_or unsP64 rfl hw ha
  refine ⟨?_, _, e1, Nat.mod_lt _ (Nat.pow_pos (by decide))⟩
  rw [e1]
  unfold F60w64
  rw [c3, shr_nat .u64 (show n ≤ 64 by omega), shl_nat uns64 (show s ≤ 64 by omega), add_nat uns64]
  congr 1
  rw [show (2 : Nat) ^ 64 = 18446744073709551616 from rfl]
  generalize a / 2 ^ n = u
  generalize a * 2 ^ s = v
  omega

theorem mixS64 {n1 s1 n2 s2 n3 : Nat} (h1 : n1 + s1 = 64) (h2 : n2 + s2 = 64) (h1' : 0 < n1 ∧ 0 < s1) (h2' : 0 < n2 ∧ 0 < s2) (h3 : n3 < 64) {x : Int} (hx : Wd 64 x) :
    F54w64 x [(n1 : Int), (n2 : Int), (n3 : Int)] true = iXor .u64 (iXor .u64 (F51 x (s1 : Int)) (F51 x (s2 : Int))) (iShr .u64 x (n3 : Int)) ∧ Wd 64 (iXor .u64 (iXor .u64 (F51 x (s1 : Int)) (F51 x (s2 : Int))) (iShr .u64 x (n3 : Int))) := by
  obtain ⟨a1, a2⟩ := rot64 h1 h1'.1 h1'.2 hx
  obtain ⟨b1, b2⟩ := rot64 h2 h2'.1 h2'.2 hx
  have b3 := shr_wd (n := n3) .u64 (show n3 ≤ 64 by omega) hx
  refine ⟨?_, (a2.xor unsP64 b2).xor unsP64 b3⟩
  unfold F54w64
  rw [sel_true]
  show iXor .u64 (iXor .u64 (F60w64 x (n1 : Int)) (F60w64 x (n2 : Int))) (iShr .u64 x (n3 : Int)) = _
  rw [a1, b1, xor_same (v := 64) unsP64 uns64 (by decide) a2 b2, shr_same .u64 .u64 (show n3 ≤ 64 by omega) (show n3 ≤ 64 by omega) hx, xor_same (v := 64) unsP64 uns64 (by decide) (a2.xor unsP64 b2) b3]
theorem mixB64 {n1 s1 n2 s2 n3 s3 : Nat} (h1 : n1 + s1 = 64) (h2 : n2 + s2 = 64) (h3 : n3 + s3 = 64) (h1' : 0 < n1 ∧ 0 < s1) (h2' : 0 < n2 ∧ 0 < s2) (h3' : 0 < n3 ∧ 0 < s3) {x : Int} (hx : Wd 64 x) :
    F54w64 x [(n1 : Int), (n2 : Int), (n3 : Int)] false = iXor .u64 (iXor .u64 (F51 x (s1 : Int)) (F51 x (s2 : Int))) (F51 x (s3 : Int)) ∧ Wd 64 (iXor .u64 (iXor .u64 (F51 x (s1 : Int)) (F51 x (s2 : Int))) (F51 x (s3 : Int))) := by
  obtain ⟨a1, a2⟩ := rot64 h1 h1'.1 h1'.2 hx
  obtain ⟨b1, b2⟩ := rot64 h2 h2'.1 h2'.2 hx
  obtain ⟨c1, c2⟩ := rot64 h3 h3'.1 h3'.2 hx
  refine ⟨?_, (a2.xor unsP64 b2).xor unsP64 c2⟩
  unfold F54w64
  rw [sel_false]
  show iXor .u64 (iXor .u64 (F60w64 x (n1 : Int)) (F60w64 x (n2 : Int))) (F60w64 x (n3 : Int)) = _
  rw [a1, b1, c1, xor_same (v := 64) unsP64 uns64 (by decide) a2 b2, xor_same (v := 64) unsP64 uns64 (by decide) (a2.xor unsP64 b2) c2]

theorem mixa0w64 {x : Int} (hx : Wd 64 x) : F54w64 x [1, 8, 7] true = (iXor .u64 (iXor .u64 (F51 x 63) (F51 x 56)) (iShr .u64 x 7)) := (mixS64 (n1 := 1) (s1 := 63) (n2 := 8) (s2 := 56) (n3 := 7) rfl rfl (by decide) (by decide) (by decide) hx).1

theorem mixa1w64 {x : Int} (hx : Wd 64 x) : F54w64 x [19, 61, 6] true = (iXor .u64 (iXor .u64 (F51 x 45) (F51 x 3)) (iShr .u64 x 6)) := (mixS64 (n1 := 19) (s1 := 45) (n2 := 61) (s2 := 3) (n3 := 6) rfl rfl (by decide) (by decide) (by decide) hx).1

theorem mixb0w64 {x : Int} (hx : Wd 64 x) : F54w64 x [28, 34, 39] false = (iXor .u64 (iXor .u64 (F51 x 36) (F51 x 30)) (F51 x 25)) := (mixB64 (n1 := 28) (s1 := 36) (n2 := 34) (s2 := 30) (n3 := 39) (s3 := 25) rfl rfl rfl (by decide) (by decide) (by decide) hx).1

theorem mixb1w64 {x : Int} (hx : Wd 64 x) : F54w64 x [14, 18, 41] false = (iXor .u64 (iXor .u64 (F51 x 50) (F51 x 46)) (F51 x 23)) := (mixB64 (n1 := 14) (s1 := 50) (n2 := 18) (s2 := 46) (n3 := 41) (s3 := 23) rfl rfl rfl (by decide) (by decide) (by decide) hx).1

theorem iAddK64 (x y : Int) : iAdd .u64 x y = (x + y) % 18446744073709551616 := (unsP64).wrap _
theorem maskK64 (x : Int) : iAnd .u64 x 18446744073709551615 = x % 18446744073709551616 := iAnd_mask x 64 (by decide)
theorem wdMod64 (x : Int) : Wd 64 (x % 18446744073709551616) := Wd.mod x
theorem modmod64 (x : Int) : x % 18446744073709551616 % 18446744073709551616 = x % 18446744073709551616 := Int.emod_emod_of_dvd x (by decide)

noncomputable def Tc64 (st x l k g f : Int) : Int := iAdd .u64 (iAdd .u64 (iAdd .u64 (iAdd .u64 l (iXor .u64 (iXor .u64 (F51 f 50) (F51 f 46)) (F51 f 23))) (iXor .u64 (iAnd .u64 f g) (iAnd .u64 (iNot .u64 f) k))) st) x
noncomputable def Uc64 (a c d : Int) : Int := iAdd .u64 (iXor .u64 (iXor .u64 (F51 a 36) (F51 a 30)) (F51 a 25)) (iXor .u64 (iXor .u64 (iAnd .u64 a c) (iAnd .u64 a d)) (iAnd .u64 c d))
noncomputable def Tr64 (st x l k g f : Int) : Int := iAnd .u64 (iAdd .u64 (iAdd .u64 (iAdd .u64 (iAdd .u64 l (F54w64 f [14, 18, 41] false)) (iOr .u64 (iAnd .u64 f g) (iAnd .u64 (iXor .u64 18446744073709551615 f) k))) st) x) 18446744073709551615
noncomputable def Ur64 (a c d : Int) : Int := iAdd .u64 (F54w64 a [28, 34, 39] false) (iOr .u64 (iOr .u64 (iAnd .u64 a c) (iAnd .u64 c d)) (iAnd .u64 a d))
noncomputable def Wc64 (p0 : List Int) (k1 : Nat) : List Int := itr (F35l2) 64 (itr (F35l1 p0 k1) 128 [0, 0, 0, 0, 0, 0, 0, 0, 0, 0, 0, 0, 0, 0, 0, 0, 0, 0, 0, 0, 0, 0, 0, 0, 0, 0, 0, 0, 0, 0, 0, 0, 0, 0, 0, 0, 0, 0, 0, 0, 0, 0, 0, 0, 0, 0, 0, 0, 0, 0, 0, 0, 0, 0, 0, 0, 0, 0, 0, 0, 0, 0, 0, 0, 0, 0, 0, 0, 0, 0, 0, 0, 0, 0, 0, 0, 0, 0, 0, 0])
noncomputable def Wr64 (p0 : List Int) (k1 : Nat) : List Int := itr (F36w64l5) 64 (itr (F36w64l4 p0 k1) 128 [0, 0, 0, 0, 0, 0, 0, 0, 0, 0, 0, 0, 0, 0, 0, 0, 0, 0, 0, 0, 0, 0, 0, 0, 0, 0, 0, 0, 0, 0, 0, 0, 0, 0, 0, 0, 0, 0, 0, 0, 0, 0, 0, 0, 0, 0, 0, 0, 0, 0, 0, 0, 0, 0, 0, 0, 0, 0, 0, 0, 0, 0, 0, 0, 0, 0, 0, 0, 0, 0, 0, 0, 0, 0, 0, 0, 0, 0, 0, 0])
theorem T64 {st x l k g f : Int} (hl : Wd 64 l) (hk : Wd 64 k) (hg : Wd 64 g) (hf : Wd 64 f) : Tr64 st x l k g f = Tc64 st x l k g f := by
  unfold Tr64 Tc64
  rw [mixb1w64 hf, maskK64]
  simp only [iAddK64, iAdd_u64]
  have hc : iOr .u64 (iAnd .u64 f g) (iAnd .u64 (iXor .u64 18446744073709551615 f) k) = iXor .u64 (iAnd .u64 f g) (iAnd .u64 (iNot .u64 f) k) := ch_same (v := 64) unsP64 uns64 (by decide) hf hg hk
  rw [hc]
  generalize iXor .u64 (iAnd .u64 f g) (iAnd .u64 (iNot .u64 f) k) = A
  generalize (iXor .u64 (iXor .u64 (F51 f 50) (F51 f 46)) (F51 f 23)) = B
  simp only [Int.emod_add_emod, modmod64]
theorem U64 {a c d : Int} (ha : Wd 64 a) (hc : Wd 64 c) (hd : Wd 64 d) (t : Int) : iAnd .u64 (iAdd .u64 t (Ur64 a c d)) 18446744073709551615 = iAdd .u64 t (Uc64 a c d) := by
  unfold Ur64 Uc64
  rw [mixb0w64 ha, maskK64]
  simp only [iAddK64, iAdd_u64]
  have hm : iOr .u64 (iOr .u64 (iAnd .u64 a c) (iAnd .u64 c d)) (iAnd .u64 a d) = iXor .u64 (iXor .u64 (iAnd .u64 a c) (iAnd .u64 a d)) (iAnd .u64 c d) := maj_same (v := 64) unsP64 uns64 (by decide) ha hc hd
  rw [hm]
  generalize iXor .u64 (iXor .u64 (iAnd .u64 a c) (iAnd .u64 a d)) (iAnd .u64 c d) = A
  generalize (iXor .u64 (iXor .u64 (F51 a 36) (F51 a 30)) (F51 a 25)) = B
  simp only [Int.add_emod_emod, modmod64]
theorem V64 (e t : Int) : iAnd .u64 (iAdd .u64 e t) 18446744073709551615 = iAdd .u64 e t := by
  rw [maskK64]
  simp only [iAddK64, iAdd_u64, modmod64]

/-- The code's eight, and the reference's. -/
def R8w64 (z : Int × Int × Int × Int × Int × Int × Int × Int) (y : List Int) : Prop :=
  ∃ l k g f e d c a, z = (l, k, g, f, e, d, c, a) ∧ y = [a, c, d, e, f, g, k, l] ∧ Wd 64 l ∧ Wd 64 k ∧ Wd 64 g ∧ Wd 64 f ∧ Wd 64 e ∧ Wd 64 d ∧ Wd 64 c ∧ Wd 64 a
theorem rndC64 (p0 : List Int) (k1 j : Nat) (l k g f e d c a : Int) : F35l3 p0 k1 j (l, k, g, f, e, d, c, a) =
    (k, g, f, iAdd .u64 e (Tc64 (gSteps.getD (0 + j) 0) ((Wc64 p0 k1).getD j 0) l k g f), d, c, a, iAdd .u64 (Tc64 (gSteps.getD (0 + j) 0) ((Wc64 p0 k1).getD j 0) l k g f) (Uc64 a c d)) := rfl
theorem rndR64 (p0 : List Int) (k1 j : Nat) (l k g f e d c a : Int) : F36w64l6 p0 k1 j [a, c, d, e, f, g, k, l] =
    [iAnd .u64 (iAdd .u64 (Tr64 (iShr .u64 (gSteps.getD j 0) 0) ((Wr64 p0 k1).getD j 0) l k g f) (Ur64 a c d)) 18446744073709551615, a, c, d, iAnd .u64 (iAdd .u64 e (Tr64 (iShr .u64 (gSteps.getD j 0) 0) ((Wr64 p0 k1).getD j 0) l k g f)) 18446744073709551615, f, g, k] := rfl
theorem stepOk64 (j : Nat) (hj : j < 80) : iShr .u64 (gSteps.getD j 0) 0 = (gSteps.getD (0 + j) 0) := by
  have h : ∀ j : Fin 80, iShr .u64 (gSteps.getD j.val 0) 0 = (gSteps.getD (0 + j.val) 0) := by decide +kernel
  exact h ⟨j, hj⟩
theorem round64 {p0 : List Int} {k1 j : Nat} (hj : j < 80) (hW : (Wr64 p0 k1).getD j 0 = (Wc64 p0 k1).getD j 0) {z : Int × Int × Int × Int × Int × Int × Int × Int} {y : List Int} (h : R8w64 z y) :
    R8w64 (F35l3 p0 k1 j z) (F36w64l6 p0 k1 j y) := by
  obtain ⟨l, k, g, f, e, d, c, a, rfl, rfl, hl, hk, hg, hf, he, hd, hc, ha⟩ := h
  rw [rndC64, rndR64, hW, stepOk64 j hj, T64 hl hk hg hf, U64 ha hc hd, V64]
  refine ⟨_, _, _, _, _, _, _, _, rfl, rfl, hk, hg, hf, ?_, hd, hc, ha, ?_⟩
  · rw [iAddK64]; exact wdMod64 _
  · rw [iAddK64]; exact wdMod64 _

/-! ### the words of a block -/
theorem loadS64 {a b n : Nat} (hb : b < 256) (hn : n < 8) (ha : a < 256 ^ n) :
    iOr .u64 (iShl .u64 (a : Int) 8) (IntKind.wrap .u64 (b : Int)) = ((a * 256 + b : Nat) : Int) ∧ iAdd .u64 (iMul .u64 (a : Int) 256) (IntKind.wrap .u64 (b : Int)) = ((a * 256 + b : Nat) : Int) ∧ a * 256 + b < 256 ^ (n + 1) := by
  have h1 : a * 256 + b < 256 ^ (n + 1) := by
    have : (a + 1) * 256 ≤ 256 ^ n * 256 := Nat.mul_le_mul_right _ ha
    rw [Nat.pow_succ]
    omega
  have h2 : 256 ^ (n + 1) ≤ 18446744073709551616 := by
    have : (256 : Nat) ^ (n + 1) ≤ 256 ^ 8 := Nat.pow_le_pow_right (by decide) hn
    exact this
  have h3 : 18446744073709551616 ≤ 18446744073709551616 := by decide
  refine ⟨?_, ?_, h1⟩
  · rw [show (8 : Int) = ((8 : Nat) : Int) from rfl, shl_nat uns64 (show 8 ≤ 64 by decide), wrap_nat uns64, Nat.mod_eq_of_lt (show b < 18446744073709551616 by omega), Nat.mod_eq_of_lt (show a * 2 ^ 8 < 18446744073709551616 by omega), iOr_nat uns64 (by omega) (by omega)]
    congr 1
    rw [Nat.mul_comm a (2 ^ 8), ← Nat.two_pow_add_eq_or_of_lt (i := 8) (show b < 2 ^ 8 by omega) a]
  · rw [show (256 : Int) = ((256 : Nat) : Int) from rfl, mul_nat uns64, wrap_nat uns64, add_nat uns64]
    congr 1
    omega
def LoadR64 (k : Nat) (c r : List Int) : Prop := c.length = 80 ∧ r.length = 80 ∧ ∀ j, j < 80 → ∃ a : Nat, c.getD j 0 = (a : Int) ∧ r.getD j 0 = (a : Int) ∧ a < 256 ^ (min (k - 8 * j) 8)
theorem zc64 (j : Nat) : ([0, 0, 0, 0, 0, 0, 0, 0, 0, 0, 0, 0, 0, 0, 0, 0, 0, 0, 0, 0, 0, 0, 0, 0, 0, 0, 0, 0, 0, 0, 0, 0, 0, 0, 0, 0, 0, 0, 0, 0, 0, 0, 0, 0, 0, 0, 0, 0, 0, 0, 0, 0, 0, 0, 0, 0, 0, 0, 0, 0, 0, 0, 0, 0, 0, 0, 0, 0, 0, 0, 0, 0, 0, 0, 0, 0, 0, 0, 0, 0] : List Int).getD j 0 = 0 := by
  show (List.replicate 80 (0 : Int)).getD j 0 = 0
  rw [List.getD_eq_getElem?_getD, List.getElem?_replicate]
  split <;> rfl
theorem zr64 (j : Nat) : ([0, 0, 0, 0, 0, 0, 0, 0, 0, 0, 0, 0, 0, 0, 0, 0, 0, 0, 0, 0, 0, 0, 0, 0, 0, 0, 0, 0, 0, 0, 0, 0, 0, 0, 0, 0, 0, 0, 0, 0, 0, 0, 0, 0, 0, 0, 0, 0, 0, 0, 0, 0, 0, 0, 0, 0, 0, 0, 0, 0, 0, 0, 0, 0, 0, 0, 0, 0, 0, 0, 0, 0, 0, 0, 0, 0, 0, 0, 0, 0] : List Int).getD j 0 = 0 := by
  show (List.replicate 80 (0 : Int)).getD j 0 = 0
  rw [List.getD_eq_getElem?_getD, List.getElem?_replicate]
  split <;> rfl
noncomputable def Tx64 (p0 : List Int) : List Int := itr (F36w64l1 p0) 8 (((itr (F36w64l0) ((239 - p0.length % 128) % 128) (p0.length + 1, p0 ++ [128])).2) ++ (List.replicate 16 0))
theorem load64 {p0 : List Int} {k1 : Nat} (hT : Tx64 p0 = F49w128 p0) (hB : ∀ j, Byte ((F49w128 p0).getD j 0)) :
    LoadR64 128 (itr (F35l1 p0 k1) 128 [0, 0, 0, 0, 0, 0, 0, 0, 0, 0, 0, 0, 0, 0, 0, 0, 0, 0, 0, 0, 0, 0, 0, 0, 0, 0, 0, 0, 0, 0, 0, 0, 0, 0, 0, 0, 0, 0, 0, 0, 0, 0, 0, 0, 0, 0, 0, 0, 0, 0, 0, 0, 0, 0, 0, 0, 0, 0, 0, 0, 0, 0, 0, 0, 0, 0, 0, 0, 0, 0, 0, 0, 0, 0, 0, 0, 0, 0, 0, 0]) (itr (F36w64l4 p0 k1) 128 [0, 0, 0, 0, 0, 0, 0, 0, 0, 0, 0, 0, 0, 0, 0, 0, 0, 0, 0, 0, 0, 0, 0, 0, 0, 0, 0, 0, 0, 0, 0, 0, 0, 0, 0, 0, 0, 0, 0, 0, 0, 0, 0, 0, 0, 0, 0, 0, 0, 0, 0, 0, 0, 0, 0, 0, 0, 0, 0, 0, 0, 0, 0, 0, 0, 0, 0, 0, 0, 0, 0, 0, 0, 0, 0, 0, 0, 0, 0, 0]) := by
  refine itr_rel LoadR64 ⟨rfl, rfl, fun j hj => ⟨0, zc64 j, zr64 j, Nat.pow_pos (by decide)⟩⟩ ?_
  rintro k hk c r ⟨h1, h2, h3⟩
  have e1 : F35l1 p0 k1 k c = c.set (k / 8) (iOr .u64 (iShl .u64 (c.getD (k / 8) 0) 8) (IntKind.wrap .u64 ((F49w128 p0).getD (128 * k1 + k) 0))) := by
    unfold F35l1
    rw [adrOne, Nat.zero_add]
  have e2 : F36w64l4 p0 k1 k r = r.set (k / 8) (iAdd .u64 (iMul .u64 (r.getD (k / 8) 0) 256) (IntKind.wrap .u64 ((F49w128 p0).getD (128 * k1 + k) 0))) := by
    show r.set (8 * k / 64) (iAdd .u64 (iMul .u64 (r.getD (8 * k / 64) 0) 256) (IntKind.wrap .u64 ((Tx64 p0).getD (128 * k1 + k) 0))) = _
    rw [hT, show 8 * k / 64 = k / 8 by omega]
  rw [e1, e2]
  obtain ⟨b, hb, hb'⟩ := hB (128 * k1 + k)
  obtain ⟨a, ha1, ha2, ha3⟩ := h3 (k / 8) (by omega)
  rw [show min (k - 8 * (k / 8)) 8 = k % 8 by omega] at ha3
  obtain ⟨q1, q2, q3⟩ := loadS64 hb' (show k % 8 < 8 from Nat.mod_lt _ (by decide)) ha3
  rw [ha1, ha2, hb, q1, q2]
  refine ⟨by rw [List.length_set, h1], by rw [List.length_set, h2], fun j hj => ?_⟩
  by_cases hjk : k / 8 = j
  · subst hjk
    exact ⟨_, getD_set_eq (by omega), getD_set_eq (by omega), by rw [show min (k + 1 - 8 * (k / 8)) 8 = k % 8 + 1 by omega]; exact q3⟩
  · obtain ⟨x, x1, x2, x3⟩ := h3 j hj
    refine ⟨x, by rw [getD_set_ne hjk, x1], by rw [getD_set_ne hjk, x2], Nat.lt_of_lt_of_le x3 (Nat.pow_le_pow_right (by decide) (by omega))⟩
def SchR64 (k : Nat) (c r : List Int) : Prop := c.length = 80 ∧ r.length = 80 ∧ ∀ j, j < k + 16 → Wd 64 (c.getD j 0) ∧ r.getD j 0 = c.getD j 0
theorem words64 {p0 : List Int} {k1 : Nat} (hT : Tx64 p0 = F49w128 p0) (hB : ∀ j, Byte ((F49w128 p0).getD j 0)) : SchR64 64 (Wc64 p0 k1) (Wr64 p0 k1) := by
  obtain ⟨h1, h2, h3⟩ := load64 (k1 := k1) hT hB
  refine itr_rel SchR64 ⟨h1, h2, fun j hj => ?_⟩ ?_
  · obtain ⟨a, a1, a2, a3⟩ := h3 j (by omega)
    refine ⟨⟨a, a1, Nat.lt_of_lt_of_le a3 ?_⟩, by rw [a1, a2]⟩
    have : (256 : Nat) ^ (min (128 - 8 * j) 8) ≤ 256 ^ 8 := Nat.pow_le_pow_right (by decide) (Nat.min_le_right _ _)
    exact this
  · rintro k hk c r ⟨g1, g2, g3⟩
    obtain ⟨x1, y1⟩ := g3 (k + 16 - 16) (by omega)
    obtain ⟨x2, y2⟩ := g3 (k + 16 - 7) (by omega)
    obtain ⟨x3, y3⟩ := g3 (k + 16 - 15) (by omega)
    obtain ⟨x4, y4⟩ := g3 (k + 16 - 2) (by omega)
    have e : iAnd .u64 (iAdd .u64 (iAdd .u64 (iAdd .u64 (r.getD (k + 16 - 16) 0) (r.getD (k + 16 - 7) 0)) (F54w64 (r.getD (k + 16 - 15) 0) [1, 8, 7] true)) (F54w64 (r.getD (k + 16 - 2) 0) [19, 61, 6] true)) 18446744073709551615 =
        iAdd .u64 (iAdd .u64 (iAdd .u64 (c.getD (k + 16 - 16) 0) (c.getD (k + 16 - 7) 0)) (iXor .u64 (iXor .u64 (F51 (c.getD (k + 16 - 15) 0) 63) (F51 (c.getD (k + 16 - 15) 0) 56)) (iShr .u64 (c.getD (k + 16 - 15) 0) 7))) (iXor .u64 (iXor .u64 (F51 (c.getD (k + 16 - 2) 0) 45) (F51 (c.getD (k + 16 - 2) 0) 3)) (iShr .u64 (c.getD (k + 16 - 2) 0) 6)) := by
      rw [y1, y2, y3, y4, mixa0w64 x3, mixa1w64 x4, maskK64]
      simp only [iAddK64, iAdd_u64]
      generalize (iXor .u64 (iXor .u64 (F51 (c.getD (k + 16 - 15) 0) 63) (F51 (c.getD (k + 16 - 15) 0) 56)) (iShr .u64 (c.getD (k + 16 - 15) 0) 7)) = A
      generalize (iXor .u64 (iXor .u64 (F51 (c.getD (k + 16 - 2) 0) 45) (F51 (c.getD (k + 16 - 2) 0) 3)) (iShr .u64 (c.getD (k + 16 - 2) 0) 6)) = B
      simp only [Int.emod_add_emod, modmod64]
    have hw : Wd 64 (iAdd .u64 (iAdd .u64 (iAdd .u64 (c.getD (k + 16 - 16) 0) (c.getD (k + 16 - 7) 0)) (iXor .u64 (iXor .u64 (F51 (c.getD (k + 16 - 15) 0) 63) (F51 (c.getD (k + 16 - 15) 0) 56)) (iShr .u64 (c.getD (k + 16 - 15) 0) 7))) (iXor .u64 (iXor .u64 (F51 (c.getD (k + 16 - 2) 0) 45) (F51 (c.getD (k + 16 - 2) 0) 3)) (iShr .u64 (c.getD (k + 16 - 2) 0) 6))) := by
      rw [iAddK64]; exact wdMod64 _
    show SchR64 (k + 1) (c.set (k + 16) (iAdd .u64 (iAdd .u64 (iAdd .u64 (c.getD (k + 16 - 16) 0) (c.getD (k + 16 - 7) 0)) (iXor .u64 (iXor .u64 (F51 (c.getD (k + 16 - 15) 0) 63) (F51 (c.getD (k + 16 - 15) 0) 56)) (iShr .u64 (c.getD (k + 16 - 15) 0) 7))) (iXor .u64 (iXor .u64 (F51 (c.getD (k + 16 - 2) 0) 45) (F51 (c.getD (k + 16 - 2) 0) 3)) (iShr .u64 (c.getD (k + 16 - 2) 0) 6)))) (r.set (k + 16) (iAnd .u64 (iAdd .u64 (iAdd .u64 (iAdd .u64 (r.getD (k + 16 - 16) 0) (r.getD (k + 16 - 7) 0)) (F54w64 (r.getD (k + 16 - 15) 0) [1, 8, 7] true)) (F54w64 (r.getD (k + 16 - 2) 0) [19, 61, 6] true)) 18446744073709551615))
    rw [e]
    refine ⟨by rw [List.length_set, g1], by rw [List.length_set, g2], fun j hj => ?_⟩
    by_cases hjk : k + 16 = j
    · subst hjk
      rw [getD_set_eq (by omega), getD_set_eq (by omega)]
      exact ⟨hw, rfl⟩
    · rw [getD_set_ne hjk, getD_set_ne hjk]
      exact g3 j (by omega)

def Ok8w64 (z : List Int) : Prop := z.length = 8 ∧ ∀ j, j < 8 → Wd 64 (z.getD j 0)
theorem eight64 {z : List Int} (h : Ok8w64 z) : R8w64 (z.getD 7 0, z.getD 6 0, z.getD 5 0, z.getD 4 0, z.getD 3 0, z.getD 2 0, z.getD 1 0, z.getD 0 0) z := by
  obtain ⟨h1, h2⟩ := h
  refine ⟨_, _, _, _, _, _, _, _, rfl, ?_, h2 7 (by decide), h2 6 (by decide), h2 5 (by decide), h2 4 (by decide), h2 3 (by decide), h2 2 (by decide), h2 1 (by decide), h2 0 (by decide)⟩
  match z, h1 with
  | [_, _, _, _, _, _, _, _], _ => rfl
theorem block64 {p0 : List Int} {k1 : Nat} (hT : Tx64 p0 = F49w128 p0) (hB : ∀ j, Byte ((F49w128 p0).getD j 0)) {z : List Int} (hz : Ok8w64 z) : F35l0 p0 k1 z = F36w64l3 p0 k1 z ∧ Ok8w64 (F35l0 p0 k1 z) := by
  obtain ⟨w1, w2, w3⟩ := words64 (k1 := k1) hT hB
  have hr : R8w64 (itr (F35l3 p0 k1) 80 (z.getD 7 0, z.getD 6 0, z.getD 5 0, z.getD 4 0, z.getD 3 0, z.getD 2 0, z.getD 1 0, z.getD 0 0)) (itr (F36w64l6 p0 k1) 80 z) :=
    itr_rel (fun _ => R8w64) (eight64 hz) fun j hj a b hab => round64 hj (w3 j (by omega)).2 hab
  obtain ⟨l, k, g, f, e, d, c, a, e1, e2, hl, hk, hg, hf, he, hd, hc, ha⟩ := hr
  have key : (fun (k : Nat) (x y : List Int) => x = y ∧ Ok8w64 x) 8 (itr (F35l4 p0 k1 z) 8 z) (itr (F36w64l7 p0 k1 z) 8 z) := by
    refine itr_rel (fun (k : Nat) (x y : List Int) => x = y ∧ Ok8w64 x) ⟨rfl, hz⟩ ?_
    rintro j hj x y ⟨rfl, hx1, hx2⟩
    have q1 : F35l4 p0 k1 z j x = x.set j (iAdd .u64 (x.getD j 0) ([a, c, d, e, f, g, k, l].getD j 0)) := by
      unfold F35l4
      rw [e1]
    have q2 : F36w64l7 p0 k1 z j x = x.set j (iAnd .u64 (iAdd .u64 (x.getD j 0) ([a, c, d, e, f, g, k, l].getD j 0)) 18446744073709551615) := by
      unfold F36w64l7
      rw [e2]
    rw [q1, q2, V64]
    refine ⟨rfl, by rw [List.length_set, hx1], fun i hi => ?_⟩
    by_cases hij : j = i
    · subst hij
      rw [getD_set_eq (by omega), iAddK64]
      exact wdMod64 _
    · rw [getD_set_ne hij]
      exact hx2 i hi
  exact key
theorem start64 : ((gStarts.drop 0).take 8) = itr (F36w64l2) 8 [7640891576956012808, 13503953896175478587, 4354685564936845355, 11912009170470909681, 5840696475078001361, 11170449401992604703, 2270897969802886507, 6620516959819538809] := by kernel_rfl
theorem startOk64 : Ok8w64 ((gStarts.drop 0).take 8) := by
  have h : (List.length ((gStarts.drop 0).take 8) == 8 && (List.range 8).all fun j => decide (0 ≤ (((gStarts.drop 0).take 8) : List Int).getD j 0) && decide ((((gStarts.drop 0).take 8) : List Int).getD j 0 < ((2 ^ 64 : Nat) : Int))) = true := by kernel_rfl
  rw [Bool.and_eq_true] at h
  refine ⟨eq_of_beq h.1, fun j hj => ?_⟩
  have h2 := List.all_eq_true.1 h.2 j (List.mem_range.2 hj)
  rw [Bool.and_eq_true] at h2
  exact Wd.of (of_decide_eq_true h2.1) (of_decide_eq_true h2.2)

/-! ### the text -/
noncomputable def Bt64 (p0 : List Int) : Nat × List Int := itr (F36w64l0) ((239 - p0.length % 128) % 128) (p0.length + 1, p0 ++ [128])
theorem bt64 (p0 : List Int) : (Bt64 p0).2.length = (Bt64 p0).1 ∧ (Bt64 p0).1 < p0.length + 1 + 128 := by
  have key : (fun (k : Nat) (a b : Nat × List Int) => a.2.length = a.1 ∧ a.1 = p0.length + 1 + k) ((239 - p0.length % 128) % 128) (Bt64 p0) (itr (fun _ y => y) ((239 - p0.length % 128) % 128) (Bt64 p0)) := by
    refine itr_rel (fun (k : Nat) (a b : Nat × List Int) => a.2.length = a.1 ∧ a.1 = p0.length + 1 + k) (g := fun _ y => y) (y := Bt64 p0) ⟨by simp, rfl⟩ ?_
    rintro k hk a b ⟨h1, h2⟩
    show (a.2 ++ [0]).length = a.1 + 1 ∧ a.1 + 1 = _
    exact ⟨by rw [List.length_append, h1]; rfl, by omega⟩
  have h := key.2
  have hm : ((239 - p0.length % 128) % 128) < 128 := Nat.mod_lt _ (by decide)
  exact ⟨key.1, by omega⟩
theorem btB64 {p0 : List Int} (hp : Dig 256 p0) : Dig 256 (Bt64 p0).2 := by
  refine itr_rel (fun (k : Nat) (a b : Nat × List Int) => Dig 256 a.2) (n := ((239 - p0.length % 128) % 128)) (y := (Bt64 p0)) (g := fun _ y => y) ?_ ?_
  · intro x hx
    rcases List.mem_append.1 hx with h | h
    · exact hp x h
    · rw [List.mem_singleton.1 h]; decide
  · rintro k hk a b h x hx
    rcases List.mem_append.1 hx with h' | h'
    · exact h x h'
    · rw [List.mem_singleton.1 h']; decide
def bit64 (n k : Nat) : Int := IntKind.wrap .u8 (iShr .u64 (iMul .u64 (IntKind.wrap .u64 ((n : Nat) : Int)) 8) ((8 * k : Nat) : Int))
theorem setApp64 (B : List Int) (n : Nat) (hn : B.length = n) (t : List Int) (j : Nat) (x : Int) : (B ++ t).set (n + j) x = B ++ t.set j x := by
  subst hn
  rw [List.set_append_right _ _ (by omega)]
  congr 2
  omega
theorem itr864 {α : Type} (f : Nat → α → α) (x : α) : itr f 8 x = f 7 (f 6 (f 5 (f 4 (f 3 (f 2 (f 1 (f 0 x))))))) := by
  simp only [itr_succ, itr_zero]
theorem text64 {p0 : List Int} (hl : p0.length ≤ 100000000) : Tx64 p0 = (Bt64 p0).2 ++ (List.replicate 8 0 ++ [bit64 p0.length 7, bit64 p0.length 6, bit64 p0.length 5, bit64 p0.length 4, bit64 p0.length 3, bit64 p0.length 2, bit64 p0.length 1, bit64 p0.length 0]) := by
  obtain ⟨h1, h2⟩ := bt64 p0
  have hs : ∀ (k : Nat) (z : List Int), k < 8 → F36w64l1 p0 k z = z.set ((Bt64 p0).1 + (15 - k)) (bit64 p0.length k) := by
    intro k z hk
    show z.set (iSub .i64 ((((Bt64 p0).1 + 16 : Nat) : Int) - 1 - ((0 : Nat) : Int)) (k : Int)).toNat _ = _
    rw [iSub_i64 (by omega) (by omega)]
    have : (((((Bt64 p0).1 + 16 : Nat) : Int) - 1 - ((0 : Nat) : Int)) - (k : Int)).toNat = (Bt64 p0).1 + (15 - k) := by omega
    rw [this]
    rfl
  show itr (F36w64l1 p0) 8 ((Bt64 p0).2 ++ List.replicate 16 0) = _
  rw [itr864, hs 0 _ (by decide), hs 1 _ (by decide), hs 2 _ (by decide), hs 3 _ (by decide), hs 4 _ (by decide), hs 5 _ (by decide), hs 6 _ (by decide), hs 7 _ (by decide)]
  simp only [setApp64 _ _ h1]
  rfl
theorem textC64 (p0 : List Int) : F49w128 p0 = (Bt64 p0).2 ++ (List.replicate 8 0 ++ [bit64 p0.length 7, bit64 p0.length 6, bit64 p0.length 5, bit64 p0.length 4, bit64 p0.length 3, bit64 p0.length 2, bit64 p0.length 1, bit64 p0.length 0]) := by
  unfold F49w128
  rw [itr864]
  show (((((((((Bt64 p0).2 ++ List.replicate 8 0) ++ [bit64 p0.length 7]) ++ [bit64 p0.length 6]) ++ [bit64 p0.length 5]) ++ [bit64 p0.length 4]) ++ [bit64 p0.length 3]) ++ [bit64 p0.length 2]) ++ [bit64 p0.length 1]) ++ [bit64 p0.length 0] = _
  simp only [List.append_assoc, List.cons_append, List.nil_append]
theorem bitB64 (n k : Nat) : 0 ≤ bit64 n k ∧ bit64 n k < 256 := by
  unfold bit64
  rw [wrap_u8]
  omega
theorem textB64 {p0 : List Int} (hp : Dig 256 p0) : Dig 256 (F49w128 p0) := by
  rw [textC64]
  intro x hx
  rcases List.mem_append.1 hx with h | h
  · exact btB64 hp x h
  · rcases List.mem_append.1 h with h | h
    · rw [List.eq_of_mem_replicate h]; decide
    · simp only [List.mem_cons, List.not_mem_nil, or_false] at h
      rcases h with rfl | rfl | rfl | rfl | rfl | rfl | rfl | rfl <;> exact bitB64 _ _
theorem textByte64 {p0 : List Int} (hp : Dig 256 p0) (j : Nat) : Byte ((F49w128 p0).getD j 0) := by
  obtain ⟨h1, h2⟩ := getD_dig (i := j) (by decide) (textB64 hp)
  obtain ⟨a, ha⟩ := Int.eq_ofNat_of_zero_le h1
  exact ⟨a, ha, by rw [ha] at h2; omega⟩
theorem count64 (p0 : List Int) : F49w128n0 p0 = (itr (F36w64l0) ((239 - p0.length % 128) % 128) (p0.length + 1, p0 ++ [128])).1 + 16 := by
  unfold F49w128n0
  rw [itr864]
  show (Bt64 p0).1 + 8 + 1 + 1 + 1 + 1 + 1 + 1 + 1 + 1 = (Bt64 p0).1 + 16
  omega

/-- The code's hash is the reference's. -/
theorem sum64 {p0 : List Int} (hp : Dig 256 p0) (hl : p0.length ≤ 100000000) : F35 p0 = F36w64 p0 := by
  have hT : Tx64 p0 = F49w128 p0 := (text64 hl).trans (textC64 p0).symm
  have hB := fun j => textByte64 hp j
  have hH : (fun (k : Nat) (x y : List Int) => x = y ∧ Ok8w64 x) ((F49w128n0 p0) / 128) (itr (F35l0 p0) ((F49w128n0 p0) / 128) ((gStarts.drop 0).take 8)) (itr (F36w64l3 p0) ((F49w128n0 p0) / 128) (itr (F36w64l2) 8 [7640891576956012808, 13503953896175478587, 4354685564936845355, 11912009170470909681, 5840696475078001361, 11170449401992604703, 2270897969802886507, 6620516959819538809])) := by
    refine itr_rel (fun (k : Nat) (x y : List Int) => x = y ∧ Ok8w64 x) ⟨start64, startOk64⟩ ?_
    rintro k hk x y ⟨rfl, hx⟩
    exact block64 hT hB hx
  obtain ⟨h1, h2, h3⟩ := hH
  have key : (fun (k : Nat) (x : List Int) (y : Nat × List Int) => x = y.2 ++ List.replicate (64 - k) 0 ∧ y.2.length = k) 64 (F35 p0) (itr (F36w64l8 p0) 64 (0, [])) := by
    refine itr_rel (fun (k : Nat) (x : List Int) (y : Nat × List Int) => x = y.2 ++ List.replicate (64 - k) 0 ∧ y.2.length = k) ⟨rfl, rfl⟩ ?_
    rintro k hk x y ⟨rfl, hy⟩
    have hw := h3 (k / 8) (by omega)
    have q1 : F35l5 p0 k (y.2 ++ List.replicate (64 - k) 0) = (y.2 ++ List.replicate (64 - k) 0).set k (IntKind.wrap .u8 (iShr .u64 ((itr (F35l0 p0) ((F49w128n0 p0) / 128) ((gStarts.drop 0).take 8)).getD (k / 8) 0) ((56 - (8 * (k % 8)) : Nat) : Int))) := rfl
    have q2 : (F36w64l8 p0 k y).2 = y.2 ++ [IntKind.wrap .u8 (iShr .u64 ((itr (F35l0 p0) ((F49w128n0 p0) / 128) ((gStarts.drop 0).take 8)).getD (k / 8) 0) ((56 - (8 * (k % 8)) : Nat) : Int))] := by
      show y.2 ++ [IntKind.wrap .u8 (iShr .u64 ((itr (F36w64l3 p0) (((itr (F36w64l0) ((239 - p0.length % 128) % 128) (p0.length + 1, p0 ++ [128])).1 + 16) / 128) (itr (F36w64l2) 8 [7640891576956012808, 13503953896175478587, 4354685564936845355, 11912009170470909681, 5840696475078001361, 11170449401992604703, 2270897969802886507, 6620516959819538809])).getD ((8 * k) / 64) 0) ((56 - ((8 * k) % 64) : Nat) : Int))] = _
      rw [← count64, ← h1, show (8 * k) / 64 = k / 8 by omega, show 56 - ((8 * k) % 64) = 56 - (8 * (k % 8)) by omega, shr_same .u64 .u64 (show 56 - (8 * (k % 8)) ≤ 64 by omega) (show 56 - (8 * (k % 8)) ≤ 64 by omega) hw]
    refine ⟨?_, by rw [q2, List.length_append, hy]; rfl⟩
    rw [q1, q2, show (64 - k) = (64 - (k + 1)) + 1 by omega, List.replicate_succ]
    have := setApp64 y.2 k hy (0 :: List.replicate (64 - (k + 1)) 0) 0 (IntKind.wrap .u8 (iShr .u64 ((itr (F35l0 p0) ((F49w128n0 p0) / 128) ((gStarts.drop 0).take 8)).getD (k / 8) 0) ((56 - (8 * (k % 8)) : Nat) : Int)))
    rw [show k + 0 = k from rfl] at this
    rw [this, List.set_cons_zero, List.append_assoc]
    rfl
  have k1 := key.1
  rw [Nat.sub_self, List.replicate_zero, List.append_nil] at k1
  exact k1

end Go.Vm
