import Derived.Test.YtcfpmiiaicfcnaaWkL
import Derived.Test.YtcfpmiiaicfcnaaR3
import Derived.Test.YtcfpmiiaicfcnaaM9
import Derived.Test.YtcfpmiiaicfcnaaC3
set_option linter.unusedVariables false
namespace Go.Vm
open Go

theorem pow_emod' (a : Int) (n : Nat) : a ^ n % PP = (a % PP) ^ n % PP := by
  induction n with
  | zero => rw [Int.pow_zero, Int.pow_zero]
  | succ n ih => rw [Int.pow_succ, Int.pow_succ, Int.mul_emod, ih, ← Int.mul_emod, Int.mul_emod, Int.mul_emod ((a % PP) ^ n), Int.emod_emod_of_dvd _ ⟨1, (Int.mul_one _).symm⟩]

theorem pp_nat' : PP = ((Tabn.P : Nat) : Int) := by kernel_rfl

/-- A whole number in the field. -/
def toF (v : Int) : Tabn.F := ⟨(v % PP).toNat, by have h := PP_lt v; have := pp_nat'; omega⟩

theorem toF_val (v : Int) : (((toF v).val : Nat) : Int) = v % PP := Int.toNat_of_nonneg (PP_lt v).1

theorem toF_ext {f g : Tabn.F} (h : ((f.val : Nat) : Int) = ((g.val : Nat) : Int)) : f = g := Fin.ext (Int.ofNat.inj h)

theorem toF_eq {v w : Int} (h : v % PP = w % PP) : toF v = toF w := toF_ext (by rw [toF_val, toF_val, h])
theorem of_toF {v w : Int} (h : toF v = toF w) : v % PP = w % PP := by rw [← toF_val, ← toF_val, h]

theorem toF_add (v w : Int) : toF (v + w) = toF v + toF w := by
  apply toF_ext
  rw [toF_val, Fin.val_add, Int.natCast_emod, Int.natCast_add, toF_val, toF_val, ← pp_nat', ← Int.add_emod]
theorem toF_mul (v w : Int) : toF (v * w) = toF v * toF w := by
  apply toF_ext
  rw [toF_val, Fin.val_mul, Int.natCast_emod, Int.natCast_mul, toF_val, toF_val, ← pp_nat', ← Int.mul_emod]
theorem fin_sub_add (a b : Tabn.F) : a - b + b = a := by grind -lia -linarith
theorem fin_add_right {a b c : Tabn.F} (h : a + c = b + c) : a = b := by grind -lia -linarith
theorem toF_sub (v w : Int) : toF (v - w) = toF v - toF w := by
  apply fin_add_right (c := toF w)
  rw [← toF_add, Int.sub_add_cancel, fin_sub_add]
theorem toF_pow_val (v : Int) (e : Nat) : ((((toF v).val ^ e % Tabn.P : Nat)) : Int) = v ^ e % PP := by
  rw [Int.natCast_emod, Int.natCast_pow, toF_val, ← pp_nat', ← pow_emod']
theorem eI_eq : Tabn.eI = eInv := Tabn.eI_lit
theorem toF_inv (v : Int) : toF (v ^ eInv) = Tabn.finv (toF v) := by
  apply toF_ext
  rw [toF_val, Tabn.finv_val, eI_eq, toF_pow_val]

/-- Limbs that are an element of the field; the reference's digits that are. -/
def EF (x : List Int) (f : Tabn.F) : Prop := ∃ v, E x v ∧ toF v = f
def RF (x : List Int) (f : Tabn.F) : Prop := ∃ v, R x v ∧ toF v = f

theorem EF.to {x : List Int} {f g : Tabn.F} (h : EF x f) (e : f = g) : EF x g := e ▸ h
theorem RF.to {x : List Int} {f g : Tabn.F} (h : RF x f) (e : f = g) : RF x g := e ▸ h
theorem EF_add {x y : List Int} {f g : Tabn.F} : EF x f → EF y g → EF (F16 x y) (f + g) := fun ⟨v, h, e⟩ ⟨w, h', e'⟩ => ⟨v + w, E_add h h', by rw [toF_add, e, e']⟩
theorem EF_sub {x y : List Int} {f g : Tabn.F} : EF x f → EF y g → EF (F18 x y) (f - g) := fun ⟨v, h, e⟩ ⟨w, h', e'⟩ => ⟨v - w, E_sub h h', by rw [toF_sub, e, e']⟩
theorem EF_mul {x y : List Int} {f g : Tabn.F} : EF x f → EF y g → EF (F20 x y) (f * g) := fun ⟨v, h, e⟩ ⟨w, h', e'⟩ => ⟨v * w, E_mul h h', by rw [toF_mul, e, e']⟩
theorem EF_inv {x : List Int} {f : Tabn.F} : EF x f → EF (F25 x) (Tabn.finv f) := fun ⟨v, h, e⟩ => ⟨v ^ eInv, E_inv h, by rw [toF_inv, e]⟩
theorem RF_add {x y : List Int} {f g : Tabn.F} : RF x f → RF y g → RF (F17 x y) (f + g) := fun ⟨v, h, e⟩ ⟨w, h', e'⟩ => ⟨v + w, R_add h h', by rw [toF_add, e, e']⟩
theorem RF_sub {x y : List Int} {f g : Tabn.F} : RF x f → RF y g → RF (F19 x y) (f - g) := fun ⟨v, h, e⟩ ⟨w, h', e'⟩ => ⟨v - w, R_sub h h', by rw [toF_sub, e, e']⟩
theorem RF_mul {x y : List Int} {f g : Tabn.F} : RF x f → RF y g → RF (F21 x y) (f * g) := fun ⟨v, h, e⟩ ⟨w, h', e'⟩ => ⟨v * w, R_mul h h', by rw [toF_mul, e, e']⟩
theorem RF_inv {x : List Int} {f : Tabn.F} : RF x f → RF (F28 x) (Tabn.finv f) := fun ⟨v, h, e⟩ => ⟨v ^ eInv, R_inv h, by rw [toF_inv, e]⟩
theorem EF.bytes {x : List Int} {f : Tabn.F} : EF x f → F33 x = digs 256 32 (f.val : Int) := fun ⟨v, h, e⟩ => by rw [h.bytes, ← e, toF_val]
theorem RF.bytes {x : List Int} {f : Tabn.F} : RF x f → F49 x = digs 256 32 (f.val : Int) := fun ⟨v, h, e⟩ => by rw [F49_val h, ← e, toF_val]
theorem RF.len {x : List Int} {f : Tabn.F} : RF x f → x.length = 16 := fun ⟨v, h, e⟩ => h.len
theorem EF_pick {x y : List Int} {f g : Tabn.F} (b : Bool) : EF x f → EF y g → EF (F36 b x y) (bif b then f else g) := fun ⟨v, h, e⟩ ⟨w, h', e'⟩ => by
  rw [pick_val h.1 h'.1]
  cases b
  · exact ⟨w, h', e'⟩
  · exact ⟨v, h, e⟩
theorem EF_one : EF (F30 1) 1 := ⟨1, E_small (by decide), by decide⟩
theorem EF_zero : EF (F30 0) 0 := ⟨0, E_small (by decide), by decide⟩
theorem EF_c : EF (F30 121666) 121666 := ⟨121666, E_small (by decide), by decide⟩
theorem RF_one : RF (F31 1) 1 := ⟨1, R_small (by decide), by decide⟩
theorem RF_zero : RF (F31 0) 0 := ⟨0, R_small (by decide), by decide⟩
theorem RF_c : RF (F31 121666) 121666 := ⟨121666, R_small (by decide), by decide⟩

/-- A peer's number. -/
def uOf (b : List Int) : Tabn.F := toF (num 256 b % 57896044618658097711785492504343953926634992332820282019728792003956564819968)
theorem EF_read {b : List Int} (hb : Dig 256 b) (hl : b.length = 32) : EF (F23 b) (uOf b) := ⟨_, read_val hb hl, rfl⟩
theorem RF_read {b : List Int} (hb : Dig 256 b) (hl : b.length = 32) : RF (F24 b) (uOf b) := ⟨_, R_read hb hl, rfl⟩

/-! ### the code's step -/
noncomputable def cstep (x : List Int) (bit : Bool) (z : Bool × List Int × List Int × List Int × List Int) : Bool × List Int × List Int × List Int × List Int :=
  let sw := !(bit == z.1)
  let a := F36 sw z.2.2.1 z.2.2.2.2
  let c := F36 sw z.2.2.2.2 z.2.2.1
  let b := F36 sw z.2.1 z.2.2.2.1
  let d := F36 sw z.2.2.2.1 z.2.1
  let p := F16 a b
  let q := F18 a b
  let r := F20 (F16 c d) q
  let s := F20 (F18 c d) p
  let pp := F20 p p
  let qq := F20 q q
  let e := F18 pp qq
  let t := F16 r s
  let v := F18 r s
  (bit, F20 x (F20 v v), F20 t t, F20 e (F16 qq (F20 e (F30 121666))), F20 pp qq)

noncomputable def kbit (p0 : List Int) (k : Nat) : Bool := (((iAnd .u8 (iShr .u8 ((F43 ((p0.drop 0).take 32)).getD ((255 - 1 - k) / 8) 0) (((255 - 1 - k) % 8 : Nat) : Int)) 1) : Int) == 1)

theorem F38l0_eq (p0 p1 : List Int) (k : Nat) (z : Bool × List Int × List Int × List Int × List Int) : F38l0 p0 p1 k z = cstep (F23 p1) (kbit p0 k) z := rfl

open Tabn in
theorem four_ne : (4 : F) ≠ 0 := by decide

open Tabn in
theorem core {x a b c d : List Int} {u l m A B C D : F} (hx : EF x u) (ha : EF a (l * A)) (hb : EF b (l * B)) (hc : EF c (m * C)) (hd : EF d (m * D)) :
    EF (F20 (F20 (F16 a b) (F16 a b)) (F20 (F18 a b) (F18 a b))) (l ^ 4 * dblX A B) ∧
    EF (F20 (F18 (F20 (F16 a b) (F16 a b)) (F20 (F18 a b) (F18 a b))) (F16 (F20 (F18 a b) (F18 a b)) (F20 (F18 (F20 (F16 a b) (F16 a b)) (F20 (F18 a b) (F18 a b))) (F30 121666)))) (l ^ 4 * dblZ A B) ∧
    EF (F20 (F16 (F20 (F16 c d) (F18 a b)) (F20 (F18 c d) (F16 a b))) (F16 (F20 (F16 c d) (F18 a b)) (F20 (F18 c d) (F16 a b)))) (4 * (l * m) ^ 2 * addX A B C D) ∧
    EF (F20 x (F20 (F18 (F20 (F16 c d) (F18 a b)) (F20 (F18 c d) (F16 a b))) (F18 (F20 (F16 c d) (F18 a b)) (F20 (F18 c d) (F16 a b))))) (4 * (l * m) ^ 2 * addZ u A B C D) := by
  have p := EF_add ha hb
  have q := EF_sub ha hb
  have r := EF_mul (EF_add hc hd) q
  have s := EF_mul (EF_sub hc hd) p
  have pp := EF_mul p p
  have qq := EF_mul q q
  have e := EF_sub pp qq
  have t := EF_add r s
  have v := EF_sub r s
  refine ⟨(EF_mul pp qq).to ?_, (EF_mul e (EF_add qq (EF_mul e EF_c))).to ?_, (EF_mul t t).to ?_, (EF_mul hx (EF_mul v v)).to ?_⟩
  · unfold dblX; clear p q r s pp qq e t v ha hb hc hd hx; grind -lia -linarith
  · unfold dblZ dblC; clear p q r s pp qq e t v ha hb hc hd hx; grind -lia -linarith
  · unfold addX; clear p q r s pp qq e t v ha hb hc hd hx; grind -lia -linarith
  · unfold addZ; clear p q r s pp qq e t v ha hb hc hd hx; grind -lia -linarith

open Tabn in
/-- The code's registers against the ladder's two points. -/
def Inv (z : Bool × List Int × List Int × List Int × List Int) (t : Four) : Prop :=
  ∃ l m : F, l ≠ 0 ∧ m ≠ 0 ∧ (bif z.1 then EF z.2.2.1 (l * t.1) ∧ EF z.2.1 (l * t.2.1) ∧ EF z.2.2.2.2 (m * t.2.2.1) ∧ EF z.2.2.2.1 (m * t.2.2.2)
    else EF z.2.2.2.2 (l * t.1) ∧ EF z.2.2.2.1 (l * t.2.1) ∧ EF z.2.2.1 (m * t.2.2.1) ∧ EF z.2.1 (m * t.2.2.2))

open Tabn in
theorem pow4_ne {l : F} (h : l ≠ 0) : l ^ 4 ≠ 0 := by
  have e : l ^ 4 = l * l * (l * l) := by grind -lia -linarith
  rw [e]; exact fmul_ne (fmul_ne h h) (fmul_ne h h)
open Tabn in
theorem fac_ne {l m : F} (h : l ≠ 0) (h' : m ≠ 0) : 4 * (l * m) ^ 2 ≠ 0 := by
  have e : 4 * (l * m) ^ 2 = 4 * ((l * m) * (l * m)) := by grind -lia -linarith
  rw [e]; exact fmul_ne four_ne (fmul_ne (fmul_ne h h') (fmul_ne h h'))
open Tabn in
theorem addX_comm (a b c d : F) : addX a b c d = addX c d a b := by unfold addX; grind -lia -linarith
open Tabn in
theorem addZ_comm (u a b c d : F) : addZ u a b c d = addZ u c d a b := by unfold addZ; grind -lia -linarith

open Tabn in
theorem cstep_inv {x : List Int} {u : F} {z : Bool × List Int × List Int × List Int × List Int} {t : Four} {n : Nat} (hx : EF x u) (h : Inv z t) (hn : n = 0 ∨ n = 1) :
    Inv (cstep x (n == 1) z) (lstep u n t) := by
  obtain ⟨l, m, hl, hm, h⟩ := h
  obtain ⟨last, d, c, b, a⟩ := z
  obtain ⟨X1, Z1, X2, Z2⟩ := t
  simp only at h
  -- what the registers hold behind the swap
  rcases hn with rfl | rfl
  · have sw : ((0 : Nat) == 1) = false := rfl
    rw [sw]
    have hr : EF (F36 (!(false == last)) c a) (l * X1) ∧ EF (F36 (!(false == last)) d b) (l * Z1) ∧ EF (F36 (!(false == last)) a c) (m * X2) ∧ EF (F36 (!(false == last)) b d) (m * Z2) := by
      cases last
      · obtain ⟨h1, h2, h3, h4⟩ := h
        exact ⟨EF_pick false h3 h1, EF_pick false h4 h2, EF_pick false h1 h3, EF_pick false h2 h4⟩
      · obtain ⟨h1, h2, h3, h4⟩ := h
        exact ⟨EF_pick true h1 h3, EF_pick true h2 h4, EF_pick true h3 h1, EF_pick true h4 h2⟩
    obtain ⟨r1, r2, r3, r4⟩ := hr
    obtain ⟨k1, k2, k3, k4⟩ := core hx r1 r2 r3 r4
    refine ⟨l ^ 4, 4 * (l * m) ^ 2, pow4_ne hl, fac_ne hl hm, ?_⟩
    unfold lstep
    rw [if_pos rfl]
    exact ⟨k1, k2, k3, k4⟩
  · have sw : ((1 : Nat) == 1) = true := rfl
    rw [sw]
    have hr : EF (F36 (!(true == last)) c a) (m * X2) ∧ EF (F36 (!(true == last)) d b) (m * Z2) ∧ EF (F36 (!(true == last)) a c) (l * X1) ∧ EF (F36 (!(true == last)) b d) (l * Z1) := by
      cases last
      · obtain ⟨h1, h2, h3, h4⟩ := h
        exact ⟨EF_pick true h3 h1, EF_pick true h4 h2, EF_pick true h1 h3, EF_pick true h2 h4⟩
      · obtain ⟨h1, h2, h3, h4⟩ := h
        exact ⟨EF_pick false h1 h3, EF_pick false h2 h4, EF_pick false h3 h1, EF_pick false h4 h2⟩
    obtain ⟨r1, r2, r3, r4⟩ := hr
    obtain ⟨k1, k2, k3, k4⟩ := core hx r1 r2 r3 r4
    refine ⟨4 * (m * l) ^ 2, m ^ 4, fac_ne hm hl, pow4_ne hm, ?_⟩
    unfold lstep
    rw [if_neg (by decide), addX_comm X1, addZ_comm u X1]
    exact ⟨k3, k4, k1, k2⟩
end Go.Vm
