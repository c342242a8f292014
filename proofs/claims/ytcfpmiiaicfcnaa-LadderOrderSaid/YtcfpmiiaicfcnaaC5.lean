import Derived.Test.YtcfpmiiaicfcnaaC4
set_option linter.unusedVariables false
set_option linter.unusedSimpArgs false
namespace Go.Vm
open Go

/-! ### the trimmed secret -/
theorem byte_248 : ∀ a, a < 256 → a &&& 248 = a - a % 8 := by decide +kernel
theorem byte_127 : ∀ a, a < 256 → (a &&& 127) ||| 64 = a % 64 + 64 := by decide +kernel
theorem byte_127' : ∀ a, a < 256 → a &&& 127 < 256 := by decide +kernel

theorem and_248 {x : Int} (h : 0 ≤ x ∧ x < 256) : iAnd .u8 x 248 = x - x % 8 := by
  obtain ⟨a, rfl, ha⟩ := int_nat (N := 256) h
  have := iAnd_nat uns8 ha (b := 248) (by decide)
  rw [byte_248 a ha] at this
  have e : ((a - a % 8 : Nat) : Int) = (a : Int) - (a : Int) % 8 := by omega
  rw [← e]; exact this
theorem or_64 {x : Int} (h : 0 ≤ x ∧ x < 256) : iOr .u8 (iAnd .u8 x 127) 64 = x % 64 + 64 := by
  obtain ⟨a, rfl, ha⟩ := int_nat (N := 256) h
  have h1 := iAnd_nat uns8 ha (b := 127) (by decide)
  have h2 := iOr_nat uns8 (byte_127' a ha) (b := 64) (by decide)
  rw [byte_127 a ha] at h2
  have e : ((a % 64 + 64 : Nat) : Int) = (a : Int) % 64 + 64 := by omega
  rw [← e, ← h2]
  show iOr .u8 (iAnd .u8 (a : Int) ((127 : Nat) : Int)) ((64 : Nat) : Int) = _
  rw [h1]

/-- The trimmed secret's bytes. -/
def trim (b : List Int) : List Int := (b.set 0 (b.getD 0 0 - b.getD 0 0 % 8)).set 31 (b.getD 31 0 % 64 + 64)

theorem F43_val {b : List Int} (hb : Dig 256 b) : F43 b = trim b := by
  unfold F43 trim
  rw [getD_set_ne (by decide), and_248 (getD_dig (by decide) hb), or_64 (getD_dig (by decide) hb)]

theorem F44_val {b : List Int} (hb : Dig 256 b) : F44 b = trim b := by
  unfold F44 trim
  have h0 := getD_dig (i := 0) (by decide) hb
  have h31 := getD_dig (i := 31) (by decide) hb
  have e1 : iRem (b.getD 0 0) 8 = b.getD 0 0 % 8 := Int.tmod_eq_emod_of_nonneg h0.1
  have e2 : iRem (b.getD 31 0) 64 = b.getD 31 0 % 64 := Int.tmod_eq_emod_of_nonneg h31.1
  have e3 : iSub .u8 (b.getD 0 0) (b.getD 0 0 % 8) = b.getD 0 0 - b.getD 0 0 % 8 := by unfold iSub; rw [wrap_u8]; omega
  have e4 : iAdd .u8 (b.getD 31 0 % 64) 64 = b.getD 31 0 % 64 + 64 := by unfold iAdd; rw [wrap_u8]; omega
  rw [getD_set_ne (by decide), e1, e2, e3, e4]

theorem trim_dig {b : List Int} (hb : Dig 256 b) : Dig 256 (trim b) := by
  have h0 := getD_dig (i := 0) (by decide) hb
  have h31 := getD_dig (i := 31) (by decide) hb
  exact dig_set (dig_set hb (by omega)) (by omega)
theorem trim_len {b : List Int} : (trim b).length = b.length := by unfold trim; rw [List.length_set, List.length_set]
theorem trim_at0 {b : List Int} (hl : b.length = 32) : (trim b).getD 0 0 = b.getD 0 0 - b.getD 0 0 % 8 := by
  unfold trim; rw [getD_set_ne (by decide), getD_set_eq (by omega)]
theorem trim_at31 {b : List Int} (hl : b.length = 32) : (trim b).getD 31 0 = b.getD 31 0 % 64 + 64 := by
  unfold trim; rw [getD_set_eq (by rw [List.length_set]; omega)]
theorem trim_trim {b : List Int} (hl : b.length = 32) (hb : Dig 256 b) : trim (trim b) = trim b := by
  have h0 := getD_dig (i := 0) (by decide) hb
  have h31 := getD_dig (i := 31) (by decide) hb
  have e0 : b.getD 0 0 - b.getD 0 0 % 8 - (b.getD 0 0 - b.getD 0 0 % 8) % 8 = b.getD 0 0 - b.getD 0 0 % 8 := by omega
  have e1 : (b.getD 31 0 % 64 + 64) % 64 + 64 = b.getD 31 0 % 64 + 64 := by omega
  have e : trim (trim b) = ((trim b).set 0 ((trim b).getD 0 0 - (trim b).getD 0 0 % 8)).set 31 ((trim b).getD 31 0 % 64 + 64) := rfl
  rw [e, trim_at0 hl, trim_at31 hl, e0, e1, ← trim_at0 hl, ← trim_at31 hl]
  have self : ∀ (xs : List Int) (i : Nat), xs.set i (xs.getD i 0) = xs := by
    intro xs i
    apply List.ext_getElem?
    intro j
    rw [List.getElem?_set]
    split
    · rename_i h
      subst h
      split
      · rename_i h2
        rw [List.getD_eq_getElem?_getD, List.getElem?_eq_getElem h2]; rfl
      · rename_i h2
        rw [List.getElem?_eq_none (by omega)]
    · rfl
  rw [self, self]

def trimN (b : List Int) : Nat := (num 256 (trim b)).toNat

theorem trimN_num {b : List Int} (hb : Dig 256 b) : num 256 (trim b) = (trimN b : Int) := by
  have h := num_bd (by decide) (trim_dig hb)
  exact (Int.toNat_of_nonneg h.1).symm

theorem trimN_bd {b : List Int} (hb : Dig 256 b) (hl : b.length = 32) : trimN b % 8 = 0 ∧ 2 ^ 254 ≤ trimN b ∧ trimN b < 2 ^ 255 := by
  have h0 := getD_dig (i := 0) (by decide) hb
  have h31 := getD_dig (i := 31) (by decide) hb
  have g0 := getD_num (B := 256) (by decide) (i := 0) (trim_dig hb)
  have g31 := getD_num (B := 256) (by decide) (i := 31) (trim_dig hb)
  have hb' := num_bd (by decide) (trim_dig hb)
  rw [trim_len, hl] at hb'
  rw [trim_at0 hl, Int.pow_zero, Int.ediv_one] at g0
  rw [trim_at31 hl] at g31
  rw [trimN_num hb] at g0 g31 hb'
  have e31 : (256 : Int) ^ 31 = 452312848583266388373324160190187140051835877600158453279131187530910662656 := rfl
  have e32 : (256 : Int) ^ 32 = 115792089237316195423570985008687907853269984665640564039457584007913129639936 := rfl
  rw [e31] at g31
  rw [e32] at hb'
  have e254 : (2 : Nat) ^ 254 = 28948022309329048855892746252171976963317496166410141009864396001978282409984 := rfl
  have e255 : (2 : Nat) ^ 255 = 57896044618658097711785492504343953926634992332820282019728792003956564819968 := rfl
  rw [e254, e255]
  generalize trimN b = N at *
  omega

theorem trimN_even {b : List Int} (hb : Dig 256 b) (hl : b.length = 32) : ∃ M, trimN b = 2 * M ∧ 2 * M < 2 ^ 255 := by
  obtain ⟨h1, _, h3⟩ := trimN_bd hb hl
  exact ⟨trimN b / 2, by omega, by omega⟩

/-! ### the code's ladder -/
open Tabn in
theorem ladder_inv {p0 p1 : List Int} (h0 : Dig 256 p0) (l0 : p0.length = 32) (h1 : Dig 256 p1) (l1 : p1.length = 32) : ∀ j, j ≤ 255 → Inv (itr (F38l0 p0 p1) j (false, (F30 1), (F23 p1), (F30 0), (F30 1))) (lad (trimN p0) (uOf p1) j) := by
  intro j
  induction j with
  | zero =>
    intro _
    rw [itr_zero]
    have ne : (1 : F) ≠ 0 := by decide
    have e : ∀ f : F, 1 * f = f := fun f => by grind -lia -linarith
    refine ⟨1, 1, ne, ne, ?_, ?_, ?_, ?_⟩ <;> simp only [cond_false]
    · exact EF_one.to (e _).symm
    · exact EF_zero.to (e _).symm
    · exact (EF_read h1 l1).to (e _).symm
    · exact EF_one.to (e _).symm
  | succ j ih =>
    intro hj
    have h := ih (by omega)
    rw [itr_succ]
    have el : lad (trimN p0) (uOf p1) (j + 1) = lstep (uOf p1) (trimN p0 / 2 ^ (254 - j) % 2) (lad (trimN p0) (uOf p1) j) := rfl
    rw [el, F38l0_eq]
    have eb : kbit p0 j = (trimN p0 / 2 ^ (254 - j) % 2 == 1) := by
      unfold kbit
      rw [List.drop_zero, List.take_of_length_le (by omega), F43_val h0, byte_bit (trim_dig h0) (trimN_num h0), show 255 - 1 - j = 254 - j by omega]
      rcases Nat.mod_two_eq_zero_or_one (trimN p0 / 2 ^ (254 - j)) with h | h <;> rw [h] <;> rfl
    rw [eb]
    exact cstep_inv (EF_read h1 l1) h (Nat.mod_two_eq_zero_or_one _)

theorem digs_take {v : Int} : (digs 256 32 v).take 32 = digs 256 32 v := List.take_of_length_le (by rw [digs_length]; exact Nat.le_refl _)

open Tabn in
theorem scale_inv {l X Z : F} (hl : l ≠ 0) : l * X * finv (l * Z) = X * finv Z := by
  by_cases hz : Z = 0
  · rw [hz]
    have : l * (0 : F) = 0 := fmul0 l
    rw [this, finv_zero, fmul0, fmul0]
  · have i1 := finv_mul hz
    have i2 := finv_mul (fmul_ne hl hz)
    apply fcancel (fmul_ne hl hz)
    generalize finv (l * Z) = p at *
    generalize finv Z = q at *
    have e1 : l * Z * (l * X * p) = l * X * (l * Z * p) := by grind -lia -linarith
    have e2 : l * Z * (X * q) = l * X * (Z * q) := by grind -lia -linarith
    rw [e1, e2, i1, i2]

/-- What comes of a secret and a peer's bytes. -/
def mult (p0 p1 : List Int) : List Int := digs 256 32 (((Tabn.Um (trimN p0) (uOf p1)).val : Nat) : Int)
theorem mult_dig (p0 p1 : List Int) : Dig 256 (mult p0 p1) := digs_dig (by decide) _ _
theorem mult_len (p0 p1 : List Int) : (mult p0 p1).length = 32 := digs_length _ _ _

theorem len_ne32 {p : List Int} (h : p.length ≠ 32) : ((((p.length : Nat) : Int) : Int) != 32) = true := by
  have : ((p.length : Nat) : Int) ≠ 32 := by omega
  simpa using this
theorem len_eq32 {p : List Int} (h : p.length = 32) : ((((p.length : Nat) : Int) : Int) != 32) = false := by rw [h]; rfl

theorem F38_ok {p0 p1 : List Int} (l0 : p0.length = 32) (l1 : p1.length = 32) : F38 p0 p1 = 0 ∧ F38n0 p0 p1 = 32 := by
  unfold F38 F38n0
  rw [read_ok, decide_eq_true l1, len_eq32 l0]
  simp only [Bool.not_true, sel_false, and_self]
theorem F38_bad {p0 p1 : List Int} (h : ¬ (p0.length = 32 ∧ p1.length = 32)) : F38 p0 p1 = 2 ∧ F38n0 p0 p1 = 0 ∧ F38_1 p0 p1 = [] := by
  unfold F38 F38n0 F38_1
  by_cases l1 : p1.length = 32
  · have l0 : p0.length ≠ 32 := fun h0 => h ⟨h0, l1⟩
    rw [read_ok, decide_eq_true l1, len_ne32 l0]
    simp only [Bool.not_true, sel_false, sel_true, and_self]
  · rw [read_ok, decide_eq_false l1]
    simp only [Bool.not_false, sel_true, and_self]

open Tabn in
theorem F38_val {p0 p1 : List Int} (h0 : Dig 256 p0) (l0 : p0.length = 32) (h1 : Dig 256 p1) (l1 : p1.length = 32) : F38_1 p0 p1 = mult p0 p1 := by
  unfold F38_1 mult
  rw [read_ok, decide_eq_true l1, len_eq32 l0, Bool.not_true, sel_false, sel_false]
  obtain ⟨l, m, hl, hm, h⟩ := ladder_inv h0 l0 h1 l1 255 (Nat.le_refl _)
  have hU : Um (trimN p0) (uOf p1) = (lad (trimN p0) (uOf p1) 255).1 * finv (lad (trimN p0) (uOf p1) 255).2.1 := rfl
  generalize itr (F38l0 p0 p1) 255 (false, (F30 1), (F23 p1), (F30 0), (F30 1)) = z at *
  generalize lad (trimN p0) (uOf p1) 255 = t at *
  obtain ⟨last, d, c, b, a⟩ := z
  have key : EF (F36 last c a) (l * t.1) ∧ EF (F36 last d b) (l * t.2.1) := by
    cases last
    · obtain ⟨k1, k2, k3, k4⟩ := h
      exact ⟨EF_pick false k3 k1, EF_pick false k4 k2⟩
    · obtain ⟨k1, k2, k3, k4⟩ := h
      exact ⟨EF_pick true k1 k3, EF_pick true k2 k4⟩
  rw [hU]
  show F33 (F20 (F36 last c a) (F25 (F36 last d b))) = _
  rw [(EF_mul key.1 (EF_inv key.2)).bytes, scale_inv hl]

/-! ### the reference's ladder -/
open Tabn in
def Pr (s : List Int) (X Z : F) : Prop := ∃ A B, s = A ++ B ∧ RF A X ∧ RF B Z

theorem pr_left {A B : List Int} (h : A.length = 16) : (((A ++ B).drop 0).take 16) = A := by rw [List.drop_zero, List.take_append_of_le_length (by omega), List.take_of_length_le (by omega)]
theorem pr_right {A B : List Int} (h : A.length = 16) (h' : B.length = 16) : (((A ++ B).drop 16).take 16) = B := by
  rw [List.drop_append_of_le_length (by omega), List.drop_of_length_le (by omega), List.nil_append, List.take_of_length_le (by omega)]
theorem pr_make {A B : List Int} (h : A.length = 16) (h' : B.length = 16) : splice (splice [0, 0, 0, 0, 0, 0, 0, 0, 0, 0, 0, 0, 0, 0, 0, 0, 0, 0, 0, 0, 0, 0, 0, 0, 0, 0, 0, 0, 0, 0, 0, 0] 0 A) 16 B = A ++ B := by
  unfold splice
  rw [List.take_zero, List.nil_append, Nat.zero_add, h, h', List.take_append_of_le_length (by omega), List.take_of_length_le (by omega), List.drop_of_length_le (by simp [h]), List.append_nil]

open Tabn in
theorem Pr_dbl {s : List Int} {X Z : F} (h : Pr s X Z) : Pr (F54 s) (dblX X Z) (dblZ X Z) := by
  obtain ⟨A, B, rfl, hA, hB⟩ := h
  have p := RF_add hA hB
  have q := RF_sub hA hB
  have ss := RF_mul p p
  have dd := RF_mul q q
  have c := RF_sub ss dd
  have x := RF_mul ss dd
  have z := RF_mul c (RF_add dd (RF_mul RF_c c))
  unfold F54
  rw [pr_left hA.len, pr_right hA.len hB.len, pr_make x.len z.len]
  exact ⟨_, _, rfl, x, z⟩

open Tabn in
theorem Pr_add {s t x : List Int} {u X1 Z1 X2 Z2 : F} (h : Pr s X1 Z1) (h' : Pr t X2 Z2) (hx : RF x u) : Pr (F53 s t x) (addX X1 Z1 X2 Z2) (addZ u X1 Z1 X2 Z2) := by
  obtain ⟨A, B, rfl, hA, hB⟩ := h
  obtain ⟨C, D, rfl, hC, hD⟩ := h'
  have a := RF_sub (RF_mul hA hC) (RF_mul hB hD)
  have b := RF_sub (RF_mul hA hD) (RF_mul hB hC)
  have p := RF_mul a a
  have q := RF_mul hx (RF_mul b b)
  unfold F53
  rw [pr_left hA.len, pr_right hA.len hB.len, pr_left hC.len, pr_right hC.len hD.len, pr_make p.len q.len]
  exact ⟨_, _, rfl, p, q⟩

open Tabn in
theorem ref_inv {p0 p1 : List Int} (h0 : Dig 256 p0) (l0 : p0.length = 32) (h1 : Dig 256 p1) (l1 : p1.length = 32) : ∀ j, j ≤ 255 →
    Pr (itr (F39l0 p0 p1) j (splice (splice [0, 0, 0, 0, 0, 0, 0, 0, 0, 0, 0, 0, 0, 0, 0, 0, 0, 0, 0, 0, 0, 0, 0, 0, 0, 0, 0, 0, 0, 0, 0, 0] 0 (F24 p1)) 16 (F31 1), splice (splice [0, 0, 0, 0, 0, 0, 0, 0, 0, 0, 0, 0, 0, 0, 0, 0, 0, 0, 0, 0, 0, 0, 0, 0, 0, 0, 0, 0, 0, 0, 0, 0] 0 (F31 1)) 16 (F31 0))).2 (lad (trimN p0) (uOf p1) j).1 (lad (trimN p0) (uOf p1) j).2.1 ∧
    Pr (itr (F39l0 p0 p1) j (splice (splice [0, 0, 0, 0, 0, 0, 0, 0, 0, 0, 0, 0, 0, 0, 0, 0, 0, 0, 0, 0, 0, 0, 0, 0, 0, 0, 0, 0, 0, 0, 0, 0] 0 (F24 p1)) 16 (F31 1), splice (splice [0, 0, 0, 0, 0, 0, 0, 0, 0, 0, 0, 0, 0, 0, 0, 0, 0, 0, 0, 0, 0, 0, 0, 0, 0, 0, 0, 0, 0, 0, 0, 0] 0 (F31 1)) 16 (F31 0))).1 (lad (trimN p0) (uOf p1) j).2.2.1 (lad (trimN p0) (uOf p1) j).2.2.2 := by
  have hr := RF_read h1 l1
  rw [pr_make hr.len RF_one.len, pr_make RF_one.len RF_zero.len]
  intro j
  induction j with
  | zero =>
    intro _
    rw [itr_zero]
    exact ⟨⟨_, _, rfl, RF_one, RF_zero⟩, ⟨_, _, rfl, hr, RF_one⟩⟩
  | succ j ih =>
    intro hj
    obtain ⟨i1, i2⟩ := ih (by omega)
    rw [itr_succ]
    have el : lad (trimN p0) (uOf p1) (j + 1) = lstep (uOf p1) (trimN p0 / 2 ^ (254 - j) % 2) (lad (trimN p0) (uOf p1) j) := rfl
    rw [el]
    generalize itr (F39l0 p0 p1) j (F24 p1 ++ F31 1, F31 1 ++ F31 0) = z at *
    generalize lad (trimN p0) (uOf p1) j = t at *
    unfold F39l0
    simp only
    have eb := byte_bit2 (trim_dig h0) (trimN_num h0) ((254 - j) / 8) ((254 - j) % 8) (by omega)
    rw [F44_val h0, show 255 - 1 - j = 254 - j by omega, eb, Nat.div_add_mod]
    have ha := Pr_add i1 i2 hr
    rcases Nat.mod_two_eq_zero_or_one (trimN p0 / 2 ^ (254 - j)) with h | h
    · rw [h]
      have e : (((0 : Nat) : Int) == 0) = true := rfl
      rw [e, sel_true, sel_true]
      unfold lstep
      rw [if_pos rfl]
      exact ⟨Pr_dbl i1, ha⟩
    · rw [h]
      have e : (((1 : Nat) : Int) == 0) = false := rfl
      rw [e, sel_false, sel_false]
      unfold lstep
      rw [if_neg (by decide)]
      exact ⟨ha, Pr_dbl i2⟩

open Tabn in
theorem F39_val {p0 p1 : List Int} (h0 : Dig 256 p0) (l0 : p0.length = 32) (h1 : Dig 256 p1) (l1 : p1.length = 32) : F39 p0 p1 = mult p0 p1 := by
  have h := (ref_inv h0 l0 h1 l1 255 (Nat.le_refl _)).1
  have hU : Um (trimN p0) (uOf p1) = (lad (trimN p0) (uOf p1) 255).1 * finv (lad (trimN p0) (uOf p1) 255).2.1 := rfl
  unfold F39 mult
  rw [hU]
  generalize (itr (F39l0 p0 p1) 255 (splice (splice [0, 0, 0, 0, 0, 0, 0, 0, 0, 0, 0, 0, 0, 0, 0, 0, 0, 0, 0, 0, 0, 0, 0, 0, 0, 0, 0, 0, 0, 0, 0, 0] 0 (F24 p1)) 16 (F31 1), splice (splice [0, 0, 0, 0, 0, 0, 0, 0, 0, 0, 0, 0, 0, 0, 0, 0, 0, 0, 0, 0, 0, 0, 0, 0, 0, 0, 0, 0, 0, 0, 0, 0] 0 (F31 1)) 16 (F31 0))).2 = s at *
  obtain ⟨A, B, rfl, hA, hB⟩ := h
  rw [pr_left hA.len, pr_right hA.len hB.len, (RF_mul hA (RF_inv hB)).bytes]
end Go.Vm
