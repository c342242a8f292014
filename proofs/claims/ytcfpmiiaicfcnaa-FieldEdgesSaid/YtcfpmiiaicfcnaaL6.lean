import Derived.Test.YtcfpmiiaicfcnaaL1
import Derived.Test.YtcfpmiiaicfcnaaWk6
set_option linter.unusedVariables false
namespace Go.Vm
open Go

theorem b_eq (n : Int) : (List.replicate 32 (0 : Int)).set 0 n = [n, 0, 0, 0, 0, 0, 0, 0, 0, 0, 0, 0, 0, 0, 0, 0, 0, 0, 0, 0, 0, 0, 0, 0, 0, 0, 0, 0, 0, 0, 0, 0] := rfl
theorem c_eq (n : Int) : ((itr (F6l0) 32 (List.replicate 32 0)).set 0 n).set 31 127 = [n, 255, 255, 255, 255, 255, 255, 255, 255, 255, 255, 255, 255, 255, 255, 255, 255, 255, 255, 255, 255, 255, 255, 255, 255, 255, 255, 255, 255, 255, 255, 127] := by kernel_rfl

theorem iRem_pos {x : Int} (m : Int) (h : 0 ≤ x) : iRem x m = x % m := Int.tmod_eq_emod_of_nonneg h

theorem F6_true {p0 : Int} {p1 : List Int} (h0 : -9223372036854775808 ≤ p0 ∧ p0 ≤ 9223372036854775807) (h1 : Dig 256 p1) : F6 p0 p1 = true := by
  unfold F6
  rw [F14_true, Bool.not_true, sel_false]
  have hr : -19 < iRem p0 19 ∧ iRem p0 19 < 19 := by
    unfold iRem
    have := Int.tmod_lt_of_pos p0 (show (0 : Int) < 19 by decide)
    have h2 := Int.lt_tmod_of_pos p0 (show (0 : Int) < 19 by decide)
    omega
  rw [iAdd_i64 (x := iRem p0 19) (y := 19) (by omega) (by omega), iRem_pos 19 (show 0 ≤ iRem p0 19 + 19 by omega)]
  have hn : 0 ≤ (iRem p0 19 + 19) % 19 ∧ (iRem p0 19 + 19) % 19 < 19 := by omega
  generalize (iRem p0 19 + 19) % 19 = n at *
  clear hr
  have w1 : IntKind.wrap .u8 n = n := by rw [wrap_u8]; omega
  have w2 : IntKind.wrap .u8 (iAdd .i64 237 n) = 237 + n := by rw [iAdd_i64 (by omega) (by omega), wrap_u8]; omega
  have w3 : IntKind.wrap .u32 n = n := by rw [wrap_u32]; omega
  rw [w1, w2, w3, c_eq, b_eq, part_eq _ rfl, part_eq _ rfl]
  have hd : ∀ (m : Int) (l : List Int), (0 ≤ m ∧ m < 256) → Dig 256 l → Dig 256 (m :: l) := fun m l a b => Dig.mk_cons a b
  have hx := read_val (b := [n, 0, 0, 0, 0, 0, 0, 0, 0, 0, 0, 0, 0, 0, 0, 0, 0, 0, 0, 0, 0, 0, 0, 0, 0, 0, 0, 0, 0, 0, 0, 0]) (hd _ _ (by omega) (by unfold Dig; decide)) rfl
  have hy := read_val (b := [237 + n, 255, 255, 255, 255, 255, 255, 255, 255, 255, 255, 255, 255, 255, 255, 255, 255, 255, 255, 255, 255, 255, 255, 255, 255, 255, 255, 255, 255, 255, 255, 127]) (hd _ _ (by omega) (by unfold Dig; decide)) rfl
  have hz := read_val (b := [237 + n, 255, 255, 255, 255, 255, 255, 255, 255, 255, 255, 255, 255, 255, 255, 255, 255, 255, 255, 255, 255, 255, 255, 255, 255, 255, 255, 255, 255, 255, 255, 255]) (hd _ _ (by omega) (by unfold Dig; decide)) rfl
  have ez : List.set [237 + n, 255, 255, 255, 255, 255, 255, 255, 255, 255, 255, 255, 255, 255, 255, 255, 255, 255, 255, 255, 255, 255, 255, 255, 255, 255, 255, 255, 255, 255, 255, 127] 31 255 = [237 + n, 255, 255, 255, 255, 255, 255, 255, 255, 255, 255, 255, 255, 255, 255, 255, 255, 255, 255, 255, 255, 255, 255, 255, 255, 255, 255, 255, 255, 255, 255, 255] := rfl
  rw [ez, part_eq _ rfl]
  have n1 : num 256 [0, 0, 0, 0, 0, 0, 0, 0, 0, 0, 0, 0, 0, 0, 0, 0, 0, 0, 0, 0, 0, 0, 0, 0, 0, 0, 0, 0, 0, 0, 0] = 0 := by kernel_rfl
  have n2 : num 256 [255, 255, 255, 255, 255, 255, 255, 255, 255, 255, 255, 255, 255, 255, 255, 255, 255, 255, 255, 255, 255, 255, 255, 255, 255, 255, 255, 255, 255, 255, 127] = 226156424291633194186662080095093570025917938800079226639565593765455331327 := by kernel_rfl
  have n3 : num 256 [255, 255, 255, 255, 255, 255, 255, 255, 255, 255, 255, 255, 255, 255, 255, 255, 255, 255, 255, 255, 255, 255, 255, 255, 255, 255, 255, 255, 255, 255, 255] = 452312848583266388373324160190187140051835877600158453279131187530910662655 := by kernel_rfl
  rw [num_cons, n1] at hx
  rw [num_cons, n2] at hy
  rw [num_cons, n3] at hz
  have ex : (n + 256 * 0) % 57896044618658097711785492504343953926634992332820282019728792003956564819968 = n := by omega
  have ey : (237 + n + 256 * 226156424291633194186662080095093570025917938800079226639565593765455331327) % 57896044618658097711785492504343953926634992332820282019728792003956564819968 = n + 1 * PP := by unfold PP; omega
  have ez2 : (237 + n + 256 * 452312848583266388373324160190187140051835877600158453279131187530910662655) % 57896044618658097711785492504343953926634992332820282019728792003956564819968 = n + 1 * PP := by unfold PP; omega
  rw [ex] at hx
  rw [ey] at hy
  rw [ez2] at hz
  have hy' := hy.to (w := n) (modP rfl)
  have hz' := hz.to (w := n) (modP rfl)
  generalize F23 [n, 0, 0, 0, 0, 0, 0, 0, 0, 0, 0, 0, 0, 0, 0, 0, 0, 0, 0, 0, 0, 0, 0, 0, 0, 0, 0, 0, 0, 0, 0, 0] = x at *
  generalize F23 [237 + n, 255, 255, 255, 255, 255, 255, 255, 255, 255, 255, 255, 255, 255, 255, 255, 255, 255, 255, 255, 255, 255, 255, 255, 255, 255, 255, 255, 255, 255, 255, 127] = y at *
  generalize F23 [237 + n, 255, 255, 255, 255, 255, 255, 255, 255, 255, 255, 255, 255, 255, 255, 255, 255, 255, 255, 255, 255, 255, 255, 255, 255, 255, 255, 255, 255, 255, 255, 255] = z at *
  have he : ∃ w, E (sel (!(F23_1 p1)) (F30 n) (F23 p1)) w := by
    rw [read_ok]
    by_cases hl : p1.length = 32
    · rw [decide_eq_true hl, Bool.not_true, sel_false]; exact ⟨_, read_val h1 hl⟩
    · rw [decide_eq_false hl, Bool.not_false, sel_true]; exact ⟨_, E_small (by omega)⟩
  obtain ⟨w, he⟩ := he
  generalize sel (!(F23_1 p1)) (F30 n) (F23 p1) = e at *
  rw [hx.same hy', decide_eq_true rfl, sel_true, hy'.same hz', decide_eq_true rfl, sel_true, hx.bytes, hy'.bytes, beq_self_eq_true, sel_true, hx.odd, hy'.odd, beq_self_eq_true, sel_true]
  rw [(E_mul he hx).same (E_mul he hy'), decide_eq_true rfl, sel_true, (E_sub he hx).same (E_sub he hz'), decide_eq_true rfl, sel_true, hx.same (E_small (n := n) (by omega)), decide_eq_true rfl]
end Go.Vm
