/- The hash of words of 32 bits: what the code computes is what the reference does. -/
import Derived.Test.YtclfmaifcelcpaaDoorH1
import Derived.Test.YtclfmaifcelcpaaDoorDgD
set_option linter.unusedVariables false
set_option linter.unusedSimpArgs false
set_option maxRecDepth 4000
namespace Go.Vm
open Go

theorem unsP32 : Uns .u32 (2 ^ 32) := uns32
theorem rot32 {n s : Nat} (hw : n + s = 32) (h0 : 0 < n) (h1 : 0 < s) {x : Int} (hx : Wd 32 x) : F60w32 x (n : Int) = F50 x (s : Int) ∧ Wd 32 (F50 x (s : Int)) := by
  obtain ⟨a, rfl, ha⟩ := hx
  have c1 : iAnd .u64 (IntKind.wrap .u64 (s : Int)) 31 = (s : Int) := by
    have h : ∀ s : Fin 32, iAnd .u64 (IntKind.wrap .u64 ((s.val : Nat) : Int)) 31 = ((s.val : Nat) : Int) := by decide
    exact h ⟨s, by omega⟩
  have c2 : iSub .u64 32 (s : Int) = (n : Int) := by rw [iSub_u64]; omega
  have c3 : iSub .i64 32 (n : Int) = (s : Int) := by rw [iSub_i64 (by omega) (by omega)]; omega
  have e1 : F50 (a : Int) (s : Int) = (((a / 2 ^ n + a * 2 ^ s) % 2 ^ 32 : Nat) : Int) := by
    unfold F50
    rw [c1, c2]
    exact rot_or unsP32 rfl hw ha
  refine ⟨?_, _, e1, Nat.mod_lt _ (Nat.pow_pos (by decide))⟩
  rw [e1]
  unfold F60w32
  rw [c3, shr_nat .u64 (show n ≤ 64 by omega), shl_nat uns64 (show s ≤ 64 by omega), add_nat uns64]
  refine (iAnd_mask _ 32 (by decide)).trans ?_
  rw [show ((2 : Int) ^ 32) = ((4294967296 : Nat) : Int) from rfl, ← Int.natCast_emod]
  congr 1
  rw [show (2 : Nat) ^ 32 = 4294967296 from rfl]
  generalize a / 2 ^ n = u
  generalize a * 2 ^ s = v
  omega

theorem mixS32 {n1 s1 n2 s2 n3 : Nat} (h1 : n1 + s1 = 32) (h2 : n2 + s2 = 32) (h1' : 0 < n1 ∧ 0 < s1) (h2' : 0 < n2 ∧ 0 < s2) (h3 : n3 < 32) {x : Int} (hx : Wd 32 x) :
    F54w32 x [(n1 : Int), (n2 : Int), (n3 : Int)] true = iXor .u32 (iXor .u32 (F50 x (s1 : Int)) (F50 x (s2 : Int))) (iShr .u32 x (n3 : Int)) ∧ Wd 32 (iXor .u32 (iXor .u32 (F50 x (s1 : Int)) (F50 x (s2 : Int))) (iShr .u32 x (n3 : Int))) := by
  obtain ⟨a1, a2⟩ := rot32 h1 h1'.1 h1'.2 hx
  obtain ⟨b1, b2⟩ := rot32 h2 h2'.1 h2'.2 hx
  have b3 := shr_wd (n := n3) .u32 (show n3 ≤ 32 by omega) hx
  refine ⟨?_, (a2.xor unsP32 b2).xor unsP32 b3⟩
  unfold F54w32
  rw [sel_true]
  show iXor .u64 (iXor .u64 (F60w32 x (n1 : Int)) (F60w32 x (n2 : Int))) (iShr .u64 x (n3 : Int)) = _
  rw [a1, b1, xor_same (v := 64) unsP32 uns64 (by decide) a2 b2, shr_same .u32 .u64 (show n3 ≤ 32 by omega) (show n3 ≤ 64 by omega) hx, xor_same (v := 64) unsP32 uns64 (by decide) (a2.xor unsP32 b2) b3]
theorem mixB32 {n1 s1 n2 s2 n3 s3 : Nat} (h1 : n1 + s1 = 32) (h2 : n2 + s2 = 32) (h3 : n3 + s3 = 32) (h1' : 0 < n1 ∧ 0 < s1) (h2' : 0 < n2 ∧ 0 < s2) (h3' : 0 < n3 ∧ 0 < s3) {x : Int} (hx : Wd 32 x) :
    F54w32 x [(n1 : Int), (n2 : Int), (n3 : Int)] false = iXor .u32 (iXor .u32 (F50 x (s1 : Int)) (F50 x (s2 : Int))) (F50 x (s3 : Int)) ∧ Wd 32 (iXor .u32 (iXor .u32 (F50 x (s1 : Int)) (F50 x (s2 : Int))) (F50 x (s3 : Int))) := by
  obtain ⟨a1, a2⟩ := rot32 h1 h1'.1 h1'.2 hx
  obtain ⟨b1, b2⟩ := rot32 h2 h2'.1 h2'.2 hx
  obtain ⟨c1, c2⟩ := rot32 h3 h3'.1 h3'.2 hx
  refine ⟨?_, (a2.xor unsP32 b2).xor unsP32 c2⟩
  unfold F54w32
  rw [sel_false]
  show iXor .u64 (iXor .u64 (F60w32 x (n1 : Int)) (F60w32 x (n2 : Int))) (F60w32 x (n3 : Int)) = _
  rw [a1, b1, c1, xor_same (v := 64) unsP32 uns64 (by decide) a2 b2, xor_same (v := 64) unsP32 uns64 (by decide) (a2.xor unsP32 b2) c2]

theorem mixa0w32 {x : Int} (hx : Wd 32 x) : F54w32 x [7, 18, 3] true = (iXor .u32 (iXor .u32 (F50 x 25) (F50 x 14)) (iShr .u32 x 3)) := (mixS32 (n1 := 7) (s1 := 25) (n2 := 18) (s2 := 14) (n3 := 3) rfl rfl (by decide) (by decide) (by decide) hx).1

theorem mixa1w32 {x : Int} (hx : Wd 32 x) : F54w32 x [17, 19, 10] true = (iXor .u32 (iXor .u32 (F50 x 15) (F50 x 13)) (iShr .u32 x 10)) := (mixS32 (n1 := 17) (s1 := 15) (n2 := 19) (s2 := 13) (n3 := 10) rfl rfl (by decide) (by decide) (by decide) hx).1

theorem mixb0w32 {x : Int} (hx : Wd 32 x) : F54w32 x [2, 13, 22] false = (iXor .u32 (iXor .u32 (F50 x 30) (F50 x 19)) (F50 x 10)) := (mixB32 (n1 := 2) (s1 := 30) (n2 := 13) (s2 := 19) (n3 := 22) (s3 := 10) rfl rfl rfl (by decide) (by decide) (by decide) hx).1

theorem mixb1w32 {x : Int} (hx : Wd 32 x) : F54w32 x [6, 11, 25] false = (iXor .u32 (iXor .u32 (F50 x 26) (F50 x 21)) (F50 x 7)) := (mixB32 (n1 := 6) (s1 := 26) (n2 := 11) (s2 := 21) (n3 := 25) (s3 := 7) rfl rfl rfl (by decide) (by decide) (by decide) hx).1

theorem iAddK32 (x y : Int) : iAdd .u32 x y = (x + y) % 4294967296 := (unsP32).wrap _
theorem maskK32 (x : Int) : iAnd .u64 x 4294967295 = x % 4294967296 := iAnd_mask x 32 (by decide)
theorem wdMod32 (x : Int) : Wd 32 (x % 4294967296) := Wd.mod x
theorem modmod32 (x : Int) : x % 18446744073709551616 % 4294967296 = x % 4294967296 := Int.emod_emod_of_dvd x (by decide)

noncomputable def Tc32 (st x l k g f : Int) : Int := iAdd .u32 (iAdd .u32 (iAdd .u32 (iAdd .u32 l (iXor .u32 (iXor .u32 (F50 f 26) (F50 f 21)) (F50 f 7))) (iXor .u32 (iAnd .u32 f g) (iAnd .u32 (iNot .u32 f) k))) st) x
noncomputable def Uc32 (a c d : Int) : Int := iAdd .u32 (iXor .u32 (iXor .u32 (F50 a 30) (F50 a 19)) (F50 a 10)) (iXor .u32 (iXor .u32 (iAnd .u32 a c) (iAnd .u32 a d)) (iAnd .u32 c d))
noncomputable def Tr32 (st x l k g f : Int) : Int := iAnd .u64 (iAdd .u64 (iAdd .u64 (iAdd .u64 (iAdd .u64 l (F54w32 f [6, 11, 25] false)) (iOr .u64 (iAnd .u64 f g) (iAnd .u64 (iXor .u64 4294967295 f) k))) st) x) 4294967295
noncomputable def Ur32 (a c d : Int) : Int := iAdd .u64 (F54w32 a [2, 13, 22] false) (iOr .u64 (iOr .u64 (iAnd .u64 a c) (iAnd .u64 c d)) (iAnd .u64 a d))
noncomputable def Wc32 (p0 : List Int) (k1 : Nat) : List Int := itr (F34l3) 48 (itr (F34l2 p0 k1) 64 [0, 0, 0, 0, 0, 0, 0, 0, 0, 0, 0, 0, 0, 0, 0, 0, 0, 0, 0, 0, 0, 0, 0, 0, 0, 0, 0, 0, 0, 0, 0, 0, 0, 0, 0, 0, 0, 0, 0, 0, 0, 0, 0, 0, 0, 0, 0, 0, 0, 0, 0, 0, 0, 0, 0, 0, 0, 0, 0, 0, 0, 0, 0, 0])
noncomputable def Wr32 (p0 : List Int) (k1 : Nat) : List Int := itr (F36w32l5) 48 (itr (F36w32l4 p0 k1) 64 [0, 0, 0, 0, 0, 0, 0, 0, 0, 0, 0, 0, 0, 0, 0, 0, 0, 0, 0, 0, 0, 0, 0, 0, 0, 0, 0, 0, 0, 0, 0, 0, 0, 0, 0, 0, 0, 0, 0, 0, 0, 0, 0, 0, 0, 0, 0, 0, 0, 0, 0, 0, 0, 0, 0, 0, 0, 0, 0, 0, 0, 0, 0, 0, 0, 0, 0, 0, 0, 0, 0, 0, 0, 0, 0, 0, 0, 0, 0, 0])
theorem T32 {st x l k g f : Int} (hl : Wd 32 l) (hk : Wd 32 k) (hg : Wd 32 g) (hf : Wd 32 f) : Tr32 st x l k g f = Tc32 st x l k g f := by
  unfold Tr32 Tc32
  rw [mixb1w32 hf, maskK32]
  simp only [iAddK32, iAdd_u64]
  have hc : iOr .u64 (iAnd .u64 f g) (iAnd .u64 (iXor .u64 4294967295 f) k) = iXor .u32 (iAnd .u32 f g) (iAnd .u32 (iNot .u32 f) k) := ch_same (v := 64) unsP32 uns64 (by decide) hf hg hk
  rw [hc]
  generalize iXor .u32 (iAnd .u32 f g) (iAnd .u32 (iNot .u32 f) k) = A
  generalize (iXor .u32 (iXor .u32 (F50 f 26) (F50 f 21)) (F50 f 7)) = B
  simp only [Int.emod_add_emod, modmod32]
theorem U32 {a c d : Int} (ha : Wd 32 a) (hc : Wd 32 c) (hd : Wd 32 d) (t : Int) : iAnd .u64 (iAdd .u64 t (Ur32 a c d)) 4294967295 = iAdd .u32 t (Uc32 a c d) := by
  unfold Ur32 Uc32
  rw [mixb0w32 ha, maskK32]
  simp only [iAddK32, iAdd_u64]
  have hm : iOr .u64 (iOr .u64 (iAnd .u64 a c) (iAnd .u64 c d)) (iAnd .u64 a d) = iXor .u32 (iXor .u32 (iAnd .u32 a c) (iAnd .u32 a d)) (iAnd .u32 c d) := maj_same (v := 64) unsP32 uns64 (by decide) ha hc hd
  rw [hm]
  generalize iXor .u32 (iXor .u32 (iAnd .u32 a c) (iAnd .u32 a d)) (iAnd .u32 c d) = A
  generalize (iXor .u32 (iXor .u32 (F50 a 30) (F50 a 19)) (F50 a 10)) = B
  simp only [Int.add_emod_emod, modmod32]
theorem V32 (e t : Int) : iAnd .u64 (iAdd .u64 e t) 4294967295 = iAdd .u32 e t := by
  rw [maskK32]
  simp only [iAddK32, iAdd_u64, modmod32]

/-- The code's eight, and the reference's. -/
def R8w32 (z : Int × Int × Int × Int × Int × Int × Int × Int) (y : List Int) : Prop :=
  ∃ l k g f e d c a, z = (l, k, g, f, e, d, c, a) ∧ y = [a, c, d, e, f, g, k, l] ∧ Wd 32 l ∧ Wd 32 k ∧ Wd 32 g ∧ Wd 32 f ∧ Wd 32 e ∧ Wd 32 d ∧ Wd 32 c ∧ Wd 32 a
theorem rndC32 (p0 : List Int) (k1 j : Nat) (l k g f e d c a : Int) : F34l4 p0 k1 j (l, k, g, f, e, d, c, a) =
    (k, g, f, iAdd .u32 e (Tc32 (IntKind.wrap .u32 (iShr .u64 (gSteps.getD (0 + j) 0) 32)) ((Wc32 p0 k1).getD j 0) l k g f), d, c, a, iAdd .u32 (Tc32 (IntKind.wrap .u32 (iShr .u64 (gSteps.getD (0 + j) 0) 32)) ((Wc32 p0 k1).getD j 0) l k g f) (Uc32 a c d)) := rfl
theorem rndR32 (p0 : List Int) (k1 j : Nat) (l k g f e d c a : Int) : F36w32l6 p0 k1 j [a, c, d, e, f, g, k, l] =
    [iAnd .u64 (iAdd .u64 (Tr32 (iShr .u64 (gSteps.getD j 0) 32) ((Wr32 p0 k1).getD j 0) l k g f) (Ur32 a c d)) 4294967295, a, c, d, iAnd .u64 (iAdd .u64 e (Tr32 (iShr .u64 (gSteps.getD j 0) 32) ((Wr32 p0 k1).getD j 0) l k g f)) 4294967295, f, g, k] := rfl
theorem stepOk32 (j : Nat) (hj : j < 64) : iShr .u64 (gSteps.getD j 0) 32 = (IntKind.wrap .u32 (iShr .u64 (gSteps.getD (0 + j) 0) 32)) := by
  have h : ∀ j : Fin 64, iShr .u64 (gSteps.getD j.val 0) 32 = (IntKind.wrap .u32 (iShr .u64 (gSteps.getD (0 + j.val) 0) 32)) := by decide +kernel
  exact h ⟨j, hj⟩
theorem round32 {p0 : List Int} {k1 j : Nat} (hj : j < 64) (hW : (Wr32 p0 k1).getD j 0 = (Wc32 p0 k1).getD j 0) {z : Int × Int × Int × Int × Int × Int × Int × Int} {y : List Int} (h : R8w32 z y) :
    R8w32 (F34l4 p0 k1 j z) (F36w32l6 p0 k1 j y) := by
  obtain ⟨l, k, g, f, e, d, c, a, rfl, rfl, hl, hk, hg, hf, he, hd, hc, ha⟩ := h
  rw [rndC32, rndR32, hW, stepOk32 j hj, T32 hl hk hg hf, U32 ha hc hd, V32]
  refine ⟨_, _, _, _, _, _, _, _, rfl, rfl, hk, hg, hf, ?_, hd, hc, ha, ?_⟩
  · rw [iAddK32]; exact wdMod32 _
  · rw [iAddK32]; exact wdMod32 _

/-! ### the words of a block -/
theorem loadS32 {a b n : Nat} (hb : b < 256) (hn : n < 4) (ha : a < 256 ^ n) :
    iOr .u32 (iShl .u32 (a : Int) 8) (IntKind.wrap .u32 (b : Int)) = ((a * 256 + b : Nat) : Int) ∧ iAdd .u64 (iMul .u64 (a : Int) 256) (IntKind.wrap .u64 (b : Int)) = ((a * 256 + b : Nat) : Int) ∧ a * 256 + b < 256 ^ (n + 1) := by
  have h1 : a * 256 + b < 256 ^ (n + 1) := by
    have : (a + 1) * 256 ≤ 256 ^ n * 256 := Nat.mul_le_mul_right _ ha
    rw [Nat.pow_succ]
    omega
  have h2 : 256 ^ (n + 1) ≤ 4294967296 := by
    have : (256 : Nat) ^ (n + 1) ≤ 256 ^ 4 := Nat.pow_le_pow_right (by decide) hn
    exact this
  have h3 : 4294967296 ≤ 18446744073709551616 := by decide
  refine ⟨?_, ?_, h1⟩
  · rw [show (8 : Int) = ((8 : Nat) : Int) from rfl, shl_nat uns32 (show 8 ≤ 32 by decide), wrap_nat uns32, Nat.mod_eq_of_lt (show b < 4294967296 by omega), Nat.mod_eq_of_lt (show a * 2 ^ 8 < 4294967296 by omega), iOr_nat uns32 (by omega) (by omega)]
    congr 1
    rw [Nat.mul_comm a (2 ^ 8), ← Nat.two_pow_add_eq_or_of_lt (i := 8) (show b < 2 ^ 8 by omega) a]
  · rw [show (256 : Int) = ((256 : Nat) : Int) from rfl, mul_nat uns64, wrap_nat uns64, add_nat uns64]
    congr 1
    omega
def LoadR32 (k : Nat) (c r : List Int) : Prop := c.length = 64 ∧ r.length = 80 ∧ ∀ j, j < 64 → ∃ a : Nat, c.getD j 0 = (a : Int) ∧ r.getD j 0 = (a : Int) ∧ a < 256 ^ (min (k - 4 * j) 4)
theorem zc32 (j : Nat) : ([0, 0, 0, 0, 0, 0, 0, 0, 0, 0, 0, 0, 0, 0, 0, 0, 0, 0, 0, 0, 0, 0, 0, 0, 0, 0, 0, 0, 0, 0, 0, 0, 0, 0, 0, 0, 0, 0, 0, 0, 0, 0, 0, 0, 0, 0, 0, 0, 0, 0, 0, 0, 0, 0, 0, 0, 0, 0, 0, 0, 0, 0, 0, 0] : List Int).getD j 0 = 0 := by
  show (List.replicate 64 (0 : Int)).getD j 0 = 0
  rw [List.getD_eq_getElem?_getD, List.getElem?_replicate]
  split <;> rfl
theorem zr32 (j : Nat) : ([0, 0, 0, 0, 0, 0, 0, 0, 0, 0, 0, 0, 0, 0, 0, 0, 0, 0, 0, 0, 0, 0, 0, 0, 0, 0, 0, 0, 0, 0, 0, 0, 0, 0, 0, 0, 0, 0, 0, 0, 0, 0, 0, 0, 0, 0, 0, 0, 0, 0, 0, 0, 0, 0, 0, 0, 0, 0, 0, 0, 0, 0, 0, 0, 0, 0, 0, 0, 0, 0, 0, 0, 0, 0, 0, 0, 0, 0, 0, 0] : List Int).getD j 0 = 0 := by
  show (List.replicate 80 (0 : Int)).getD j 0 = 0
  rw [List.getD_eq_getElem?_getD, List.getElem?_replicate]
  split <;> rfl
noncomputable def Tx32 (p0 : List Int) : List Int := itr (F36w32l1 p0) 8 (((itr (F36w32l0) ((119 - p0.length % 64) % 64) (p0.length + 1, p0 ++ [128])).2) ++ (List.replicate 8 0))
theorem load32 {p0 : List Int} {k1 : Nat} (hT : Tx32 p0 = F49w64 p0) (hB : ∀ j, Byte ((F49w64 p0).getD j 0)) :
    LoadR32 64 (itr (F34l2 p0 k1) 64 [0, 0, 0, 0, 0, 0, 0, 0, 0, 0, 0, 0, 0, 0, 0, 0, 0, 0, 0, 0, 0, 0, 0, 0, 0, 0, 0, 0, 0, 0, 0, 0, 0, 0, 0, 0, 0, 0, 0, 0, 0, 0, 0, 0, 0, 0, 0, 0, 0, 0, 0, 0, 0, 0, 0, 0, 0, 0, 0, 0, 0, 0, 0, 0]) (itr (F36w32l4 p0 k1) 64 [0, 0, 0, 0, 0, 0, 0, 0, 0, 0, 0, 0, 0, 0, 0, 0, 0, 0, 0, 0, 0, 0, 0, 0, 0, 0, 0, 0, 0, 0, 0, 0, 0, 0, 0, 0, 0, 0, 0, 0, 0, 0, 0, 0, 0, 0, 0, 0, 0, 0, 0, 0, 0, 0, 0, 0, 0, 0, 0, 0, 0, 0, 0, 0, 0, 0, 0, 0, 0, 0, 0, 0, 0, 0, 0, 0, 0, 0, 0, 0]) := by
  refine itr_rel LoadR32 ⟨rfl, rfl, fun j hj => ⟨0, zc32 j, zr32 j, Nat.pow_pos (by decide)⟩⟩ ?_
  rintro k hk c r ⟨h1, h2, h3⟩
  have e1 : F34l2 p0 k1 k c = c.set (k / 4) (iOr .u32 (iShl .u32 (c.getD (k / 4) 0) 8) (IntKind.wrap .u32 ((F49w64 p0).getD (64 * k1 + k) 0))) := by
    unfold F34l2
    rw [adrOne, Nat.zero_add]
  have e2 : F36w32l4 p0 k1 k r = r.set (k / 4) (iAdd .u64 (iMul .u64 (r.getD (k / 4) 0) 256) (IntKind.wrap .u64 ((F49w64 p0).getD (64 * k1 + k) 0))) := by
    show r.set (8 * k / 32) (iAdd .u64 (iMul .u64 (r.getD (8 * k / 32) 0) 256) (IntKind.wrap .u64 ((Tx32 p0).getD (64 * k1 + k) 0))) = _
    rw [hT, show 8 * k / 32 = k / 4 by omega]
  rw [e1, e2]
  obtain ⟨b, hb, hb'⟩ := hB (64 * k1 + k)
  obtain ⟨a, ha1, ha2, ha3⟩ := h3 (k / 4) (by omega)
  rw [show min (k - 4 * (k / 4)) 4 = k % 4 by omega] at ha3
  obtain ⟨q1, q2, q3⟩ := loadS32 hb' (show k % 4 < 4 from Nat.mod_lt _ (by decide)) ha3
  rw [ha1, ha2, hb, q1, q2]
  refine ⟨by rw [List.length_set, h1], by rw [List.length_set, h2], fun j hj => ?_⟩
  by_cases hjk : k / 4 = j
  · subst hjk
    exact ⟨_, getD_set_eq (by omega), getD_set_eq (by omega), by rw [show min (k + 1 - 4 * (k / 4)) 4 = k % 4 + 1 by omega]; exact q3⟩
  · obtain ⟨x, x1, x2, x3⟩ := h3 j hj
    refine ⟨x, by rw [getD_set_ne hjk, x1], by rw [getD_set_ne hjk, x2], Nat.lt_of_lt_of_le x3 (Nat.pow_le_pow_right (by decide) (by omega))⟩
def SchR32 (k : Nat) (c r : List Int) : Prop := c.length = 64 ∧ r.length = 80 ∧ ∀ j, j < k + 16 → Wd 32 (c.getD j 0) ∧ r.getD j 0 = c.getD j 0
theorem words32 {p0 : List Int} {k1 : Nat} (hT : Tx32 p0 = F49w64 p0) (hB : ∀ j, Byte ((F49w64 p0).getD j 0)) : SchR32 48 (Wc32 p0 k1) (Wr32 p0 k1) := by
  obtain ⟨h1, h2, h3⟩ := load32 (k1 := k1) hT hB
  refine itr_rel SchR32 ⟨h1, h2, fun j hj => ?_⟩ ?_
  · obtain ⟨a, a1, a2, a3⟩ := h3 j (by omega)
    refine ⟨⟨a, a1, Nat.lt_of_lt_of_le a3 ?_⟩, by rw [a1, a2]⟩
    have : (256 : Nat) ^ (min (64 - 4 * j) 4) ≤ 256 ^ 4 := Nat.pow_le_pow_right (by decide) (Nat.min_le_right _ _)
    exact this
  · rintro k hk c r ⟨g1, g2, g3⟩
    obtain ⟨x1, y1⟩ := g3 (k + 16 - 16) (by omega)
    obtain ⟨x2, y2⟩ := g3 (k + 16 - 7) (by omega)
    obtain ⟨x3, y3⟩ := g3 (k + 16 - 15) (by omega)
    obtain ⟨x4, y4⟩ := g3 (k + 16 - 2) (by omega)
    have e : iAnd .u64 (iAdd .u64 (iAdd .u64 (iAdd .u64 (r.getD (k + 16 - 16) 0) (r.getD (k + 16 - 7) 0)) (F54w32 (r.getD (k + 16 - 15) 0) [7, 18, 3] true)) (F54w32 (r.getD (k + 16 - 2) 0) [17, 19, 10] true)) 4294967295 =
        iAdd .u32 (iAdd .u32 (iAdd .u32 (c.getD (k + 16 - 16) 0) (c.getD (k + 16 - 7) 0)) (iXor .u32 (iXor .u32 (F50 (c.getD (k + 16 - 15) 0) 25) (F50 (c.getD (k + 16 - 15) 0) 14)) (iShr .u32 (c.getD (k + 16 - 15) 0) 3))) (iXor .u32 (iXor .u32 (F50 (c.getD (k + 16 - 2) 0) 15) (F50 (c.getD (k + 16 - 2) 0) 13)) (iShr .u32 (c.getD (k + 16 - 2) 0) 10)) := by
      rw [y1, y2, y3, y4, mixa0w32 x3, mixa1w32 x4, maskK32]
      simp only [iAddK32, iAdd_u64]
      generalize (iXor .u32 (iXor .u32 (F50 (c.getD (k + 16 - 15) 0) 25) (F50 (c.getD (k + 16 - 15) 0) 14)) (iShr .u32 (c.getD (k + 16 - 15) 0) 3)) = A
      generalize (iXor .u32 (iXor .u32 (F50 (c.getD (k + 16 - 2) 0) 15) (F50 (c.getD (k + 16 - 2) 0) 13)) (iShr .u32 (c.getD (k + 16 - 2) 0) 10)) = B
      simp only [Int.emod_add_emod, modmod32]
    have hw : Wd 32 (iAdd .u32 (iAdd .u32 (iAdd .u32 (c.getD (k + 16 - 16) 0) (c.getD (k + 16 - 7) 0)) (iXor .u32 (iXor .u32 (F50 (c.getD (k + 16 - 15) 0) 25) (F50 (c.getD (k + 16 - 15) 0) 14)) (iShr .u32 (c.getD (k + 16 - 15) 0) 3))) (iXor .u32 (iXor .u32 (F50 (c.getD (k + 16 - 2) 0) 15) (F50 (c.getD (k + 16 - 2) 0) 13)) (iShr .u32 (c.getD (k + 16 - 2) 0) 10))) := by
      rw [iAddK32]; exact wdMod32 _
    show SchR32 (k + 1) (c.set (k + 16) (iAdd .u32 (iAdd .u32 (iAdd .u32 (c.getD (k + 16 - 16) 0) (c.getD (k + 16 - 7) 0)) (iXor .u32 (iXor .u32 (F50 (c.getD (k + 16 - 15) 0) 25) (F50 (c.getD (k + 16 - 15) 0) 14)) (iShr .u32 (c.getD (k + 16 - 15) 0) 3))) (iXor .u32 (iXor .u32 (F50 (c.getD (k + 16 - 2) 0) 15) (F50 (c.getD (k + 16 - 2) 0) 13)) (iShr .u32 (c.getD (k + 16 - 2) 0) 10)))) (r.set (k + 16) (iAnd .u64 (iAdd .u64 (iAdd .u64 (iAdd .u64 (r.getD (k + 16 - 16) 0) (r.getD (k + 16 - 7) 0)) (F54w32 (r.getD (k + 16 - 15) 0) [7, 18, 3] true)) (F54w32 (r.getD (k + 16 - 2) 0) [17, 19, 10] true)) 4294967295))
    rw [e]
    refine ⟨by rw [List.length_set, g1], by rw [List.length_set, g2], fun j hj => ?_⟩
    by_cases hjk : k + 16 = j
    · subst hjk
      rw [getD_set_eq (by omega), getD_set_eq (by omega)]
      exact ⟨hw, rfl⟩
    · rw [getD_set_ne hjk, getD_set_ne hjk]
      exact g3 j (by omega)

def Ok8w32 (z : List Int) : Prop := z.length = 8 ∧ ∀ j, j < 8 → Wd 32 (z.getD j 0)
theorem eight32 {z : List Int} (h : Ok8w32 z) : R8w32 (z.getD 7 0, z.getD 6 0, z.getD 5 0, z.getD 4 0, z.getD 3 0, z.getD 2 0, z.getD 1 0, z.getD 0 0) z := by
  obtain ⟨h1, h2⟩ := h
  refine ⟨_, _, _, _, _, _, _, _, rfl, ?_, h2 7 (by decide), h2 6 (by decide), h2 5 (by decide), h2 4 (by decide), h2 3 (by decide), h2 2 (by decide), h2 1 (by decide), h2 0 (by decide)⟩
  match z, h1 with
  | [_, _, _, _, _, _, _, _], _ => rfl
theorem block32 {p0 : List Int} {k1 : Nat} (hT : Tx32 p0 = F49w64 p0) (hB : ∀ j, Byte ((F49w64 p0).getD j 0)) {z : List Int} (hz : Ok8w32 z) : F34l1 p0 k1 z = F36w32l3 p0 k1 z ∧ Ok8w32 (F34l1 p0 k1 z) := by
  obtain ⟨w1, w2, w3⟩ := words32 (k1 := k1) hT hB
  have hr : R8w32 (itr (F34l4 p0 k1) 64 (z.getD 7 0, z.getD 6 0, z.getD 5 0, z.getD 4 0, z.getD 3 0, z.getD 2 0, z.getD 1 0, z.getD 0 0)) (itr (F36w32l6 p0 k1) 64 z) :=
    itr_rel (fun _ => R8w32) (eight32 hz) fun j hj a b hab => round32 hj (w3 j (by omega)).2 hab
  obtain ⟨l, k, g, f, e, d, c, a, e1, e2, hl, hk, hg, hf, he, hd, hc, ha⟩ := hr
  have key : (fun (k : Nat) (x y : List Int) => x = y ∧ Ok8w32 x) 8 (itr (F34l5 p0 k1 z) 8 z) (itr (F36w32l7 p0 k1 z) 8 z) := by
    refine itr_rel (fun (k : Nat) (x y : List Int) => x = y ∧ Ok8w32 x) ⟨rfl, hz⟩ ?_
    rintro j hj x y ⟨rfl, hx1, hx2⟩
    have q1 : F34l5 p0 k1 z j x = x.set j (iAdd .u32 (x.getD j 0) ([a, c, d, e, f, g, k, l].getD j 0)) := by
      unfold F34l5
      rw [e1]
    have q2 : F36w32l7 p0 k1 z j x = x.set j (iAnd .u64 (iAdd .u64 (x.getD j 0) ([a, c, d, e, f, g, k, l].getD j 0)) 4294967295) := by
      unfold F36w32l7
      rw [e2]
    rw [q1, q2, V32]
    refine ⟨rfl, by rw [List.length_set, hx1], fun i hi => ?_⟩
    by_cases hij : j = i
    · subst hij
      rw [getD_set_eq (by omega), iAddK32]
      exact wdMod32 _
    · rw [getD_set_ne hij]
      exact hx2 i hi
  exact key
theorem start32 : (itr (F34l0) 8 [0, 0, 0, 0, 0, 0, 0, 0]) = itr (F36w32l2) 8 [7640891576956012808, 13503953896175478587, 4354685564936845355, 11912009170470909681, 5840696475078001361, 11170449401992604703, 2270897969802886507, 6620516959819538809] := by kernel_rfl
theorem startOk32 : Ok8w32 (itr (F34l0) 8 [0, 0, 0, 0, 0, 0, 0, 0]) := by
  have h : (List.length (itr (F34l0) 8 [0, 0, 0, 0, 0, 0, 0, 0]) == 8 && (List.range 8).all fun j => decide (0 ≤ ((itr (F34l0) 8 [0, 0, 0, 0, 0, 0, 0, 0]) : List Int).getD j 0) && decide (((itr (F34l0) 8 [0, 0, 0, 0, 0, 0, 0, 0]) : List Int).getD j 0 < ((2 ^ 32 : Nat) : Int))) = true := by kernel_rfl
  rw [Bool.and_eq_true] at h
  refine ⟨eq_of_beq h.1, fun j hj => ?_⟩
  have h2 := List.all_eq_true.1 h.2 j (List.mem_range.2 hj)
  rw [Bool.and_eq_true] at h2
  exact Wd.of (of_decide_eq_true h2.1) (of_decide_eq_true h2.2)

/-! ### the text -/
noncomputable def Bt32 (p0 : List Int) : Nat × List Int := itr (F36w32l0) ((119 - p0.length % 64) % 64) (p0.length + 1, p0 ++ [128])
theorem bt32 (p0 : List Int) : (Bt32 p0).2.length = (Bt32 p0).1 ∧ (Bt32 p0).1 < p0.length + 1 + 64 := by
  have key : (fun (k : Nat) (a b : Nat × List Int) => a.2.length = a.1 ∧ a.1 = p0.length + 1 + k) ((119 - p0.length % 64) % 64) (Bt32 p0) (itr (fun _ y => y) ((119 - p0.length % 64) % 64) (Bt32 p0)) := by
    refine itr_rel (fun (k : Nat) (a b : Nat × List Int) => a.2.length = a.1 ∧ a.1 = p0.length + 1 + k) (g := fun _ y => y) (y := Bt32 p0) ⟨by simp, rfl⟩ ?_
    rintro k hk a b ⟨h1, h2⟩
    show (a.2 ++ [0]).length = a.1 + 1 ∧ a.1 + 1 = _
    exact ⟨by rw [List.length_append, h1]; rfl, by omega⟩
  have h := key.2
  have hm : ((119 - p0.length % 64) % 64) < 64 := Nat.mod_lt _ (by decide)
  exact ⟨key.1, by omega⟩
theorem btB32 {p0 : List Int} (hp : Dig 256 p0) : Dig 256 (Bt32 p0).2 := by
  refine itr_rel (fun (k : Nat) (a b : Nat × List Int) => Dig 256 a.2) (n := ((119 - p0.length % 64) % 64)) (y := (Bt32 p0)) (g := fun _ y => y) ?_ ?_
  · intro x hx
    rcases List.mem_append.1 hx with h | h
    · exact hp x h
    · rw [List.mem_singleton.1 h]; decide
  · rintro k hk a b h x hx
    rcases List.mem_append.1 hx with h' | h'
    · exact h x h'
    · rw [List.mem_singleton.1 h']; decide
def bit32 (n k : Nat) : Int := IntKind.wrap .u8 (iShr .u64 (iMul .u64 (IntKind.wrap .u64 ((n : Nat) : Int)) 8) ((8 * k : Nat) : Int))
theorem setApp32 (B : List Int) (n : Nat) (hn : B.length = n) (t : List Int) (j : Nat) (x : Int) : (B ++ t).set (n + j) x = B ++ t.set j x := by
  subst hn
  rw [List.set_append_right _ _ (by omega)]
  congr 2
  omega
theorem itr832 {α : Type} (f : Nat → α → α) (x : α) : itr f 8 x = f 7 (f 6 (f 5 (f 4 (f 3 (f 2 (f 1 (f 0 x))))))) := by
  simp only [itr_succ, itr_zero]
theorem text32 {p0 : List Int} (hl : p0.length ≤ 100000000) : Tx32 p0 = (Bt32 p0).2 ++ (List.replicate 0 0 ++ [bit32 p0.length 7, bit32 p0.length 6, bit32 p0.length 5, bit32 p0.length 4, bit32 p0.length 3, bit32 p0.length 2, bit32 p0.length 1, bit32 p0.length 0]) := by
  obtain ⟨h1, h2⟩ := bt32 p0
  have hs : ∀ (k : Nat) (z : List Int), k < 8 → F36w32l1 p0 k z = z.set ((Bt32 p0).1 + (7 - k)) (bit32 p0.length k) := by
    intro k z hk
    show z.set (iSub .i64 ((((Bt32 p0).1 + 8 : Nat) : Int) - 1 - ((0 : Nat) : Int)) (k : Int)).toNat _ = _
    rw [iSub_i64 (by omega) (by omega)]
    have : (((((Bt32 p0).1 + 8 : Nat) : Int) - 1 - ((0 : Nat) : Int)) - (k : Int)).toNat = (Bt32 p0).1 + (7 - k) := by omega
    rw [this]
    rfl
  show itr (F36w32l1 p0) 8 ((Bt32 p0).2 ++ List.replicate 8 0) = _
  rw [itr832, hs 0 _ (by decide), hs 1 _ (by decide), hs 2 _ (by decide), hs 3 _ (by decide), hs 4 _ (by decide), hs 5 _ (by decide), hs 6 _ (by decide), hs 7 _ (by decide)]
  simp only [setApp32 _ _ h1]
  rfl
theorem textC32 (p0 : List Int) : F49w64 p0 = (Bt32 p0).2 ++ (List.replicate 0 0 ++ [bit32 p0.length 7, bit32 p0.length 6, bit32 p0.length 5, bit32 p0.length 4, bit32 p0.length 3, bit32 p0.length 2, bit32 p0.length 1, bit32 p0.length 0]) := by
  unfold F49w64
  rw [itr832]
  show (((((((((Bt32 p0).2 ++ List.replicate 0 0) ++ [bit32 p0.length 7]) ++ [bit32 p0.length 6]) ++ [bit32 p0.length 5]) ++ [bit32 p0.length 4]) ++ [bit32 p0.length 3]) ++ [bit32 p0.length 2]) ++ [bit32 p0.length 1]) ++ [bit32 p0.length 0] = _
  simp only [List.append_assoc, List.cons_append, List.nil_append]
theorem bitB32 (n k : Nat) : 0 ≤ bit32 n k ∧ bit32 n k < 256 := by
  unfold bit32
  rw [wrap_u8]
  omega
theorem textB32 {p0 : List Int} (hp : Dig 256 p0) : Dig 256 (F49w64 p0) := by
  rw [textC32]
  intro x hx
  rcases List.mem_append.1 hx with h | h
  · exact btB32 hp x h
  · rcases List.mem_append.1 h with h | h
    · rw [List.eq_of_mem_replicate h]; decide
    · simp only [List.mem_cons, List.not_mem_nil, or_false] at h
      rcases h with rfl | rfl | rfl | rfl | rfl | rfl | rfl | rfl <;> exact bitB32 _ _
theorem textByte32 {p0 : List Int} (hp : Dig 256 p0) (j : Nat) : Byte ((F49w64 p0).getD j 0) := by
  obtain ⟨h1, h2⟩ := getD_dig (i := j) (by decide) (textB32 hp)
  obtain ⟨a, ha⟩ := Int.eq_ofNat_of_zero_le h1
  exact ⟨a, ha, by rw [ha] at h2; omega⟩
theorem count32 (p0 : List Int) : F49w64n0 p0 = (itr (F36w32l0) ((119 - p0.length % 64) % 64) (p0.length + 1, p0 ++ [128])).1 + 8 := by
  unfold F49w64n0
  rw [itr832]
  show (Bt32 p0).1 + 0 + 1 + 1 + 1 + 1 + 1 + 1 + 1 + 1 = (Bt32 p0).1 + 8
  omega

/-- The code's hash is the reference's. -/
theorem sum32 {p0 : List Int} (hp : Dig 256 p0) (hl : p0.length ≤ 100000000) : F34 p0 = F36w32 p0 := by
  have hT : Tx32 p0 = F49w64 p0 := (text32 hl).trans (textC32 p0).symm
  have hB := fun j => textByte32 hp j
  have hH : (fun (k : Nat) (x y : List Int) => x = y ∧ Ok8w32 x) ((F49w64n0 p0) / 64) (itr (F34l1 p0) ((F49w64n0 p0) / 64) (itr (F34l0) 8 [0, 0, 0, 0, 0, 0, 0, 0])) (itr (F36w32l3 p0) ((F49w64n0 p0) / 64) (itr (F36w32l2) 8 [7640891576956012808, 13503953896175478587, 4354685564936845355, 11912009170470909681, 5840696475078001361, 11170449401992604703, 2270897969802886507, 6620516959819538809])) := by
    refine itr_rel (fun (k : Nat) (x y : List Int) => x = y ∧ Ok8w32 x) ⟨start32, startOk32⟩ ?_
    rintro k hk x y ⟨rfl, hx⟩
    exact block32 hT hB hx
  obtain ⟨h1, h2, h3⟩ := hH
  have key : (fun (k : Nat) (x : List Int) (y : Nat × List Int) => x = y.2 ++ List.replicate (32 - k) 0 ∧ y.2.length = k) 32 (F34 p0) (itr (F36w32l8 p0) 32 (0, [])) := by
    refine itr_rel (fun (k : Nat) (x : List Int) (y : Nat × List Int) => x = y.2 ++ List.replicate (32 - k) 0 ∧ y.2.length = k) ⟨rfl, rfl⟩ ?_
    rintro k hk x y ⟨rfl, hy⟩
    have hw := h3 (k / 4) (by omega)
    have q1 : F34l6 p0 k (y.2 ++ List.replicate (32 - k) 0) = (y.2 ++ List.replicate (32 - k) 0).set k (IntKind.wrap .u8 (iShr .u32 ((itr (F34l1 p0) ((F49w64n0 p0) / 64) (itr (F34l0) 8 [0, 0, 0, 0, 0, 0, 0, 0])).getD (k / 4) 0) ((24 - (8 * (k % 4)) : Nat) : Int))) := rfl
    have q2 : (F36w32l8 p0 k y).2 = y.2 ++ [IntKind.wrap .u8 (iShr .u32 ((itr (F34l1 p0) ((F49w64n0 p0) / 64) (itr (F34l0) 8 [0, 0, 0, 0, 0, 0, 0, 0])).getD (k / 4) 0) ((24 - (8 * (k % 4)) : Nat) : Int))] := by
      show y.2 ++ [IntKind.wrap .u8 (iShr .u64 ((itr (F36w32l3 p0) (((itr (F36w32l0) ((119 - p0.length % 64) % 64) (p0.length + 1, p0 ++ [128])).1 + 8) / 64) (itr (F36w32l2) 8 [7640891576956012808, 13503953896175478587, 4354685564936845355, 11912009170470909681, 5840696475078001361, 11170449401992604703, 2270897969802886507, 6620516959819538809])).getD ((8 * k) / 32) 0) ((24 - ((8 * k) % 32) : Nat) : Int))] = _
      rw [← count32, ← h1, show (8 * k) / 32 = k / 4 by omega, show 24 - ((8 * k) % 32) = 24 - (8 * (k % 4)) by omega, shr_same .u32 .u64 (show 24 - (8 * (k % 4)) ≤ 32 by omega) (show 24 - (8 * (k % 4)) ≤ 64 by omega) hw]
    refine ⟨?_, by rw [q2, List.length_append, hy]; rfl⟩
    rw [q1, q2, show (32 - k) = (32 - (k + 1)) + 1 by omega, List.replicate_succ]
    have := setApp32 y.2 k hy (0 :: List.replicate (32 - (k + 1)) 0) 0 (IntKind.wrap .u8 (iShr .u32 ((itr (F34l1 p0) ((F49w64n0 p0) / 64) (itr (F34l0) 8 [0, 0, 0, 0, 0, 0, 0, 0])).getD (k / 4) 0) ((24 - (8 * (k % 4)) : Nat) : Int)))
    rw [show k + 0 = k from rfl] at this
    rw [this, List.set_cons_zero, List.append_assoc]
    rfl
  have k1 := key.1
  rw [Nat.sub_self, List.replicate_zero, List.append_nil] at k1
  exact k1

end Go.Vm
