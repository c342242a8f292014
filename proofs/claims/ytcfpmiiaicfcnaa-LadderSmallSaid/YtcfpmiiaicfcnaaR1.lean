import Derived.Test.YtcfpmiiaicfcnaaM8
import Derived.Test.YtcfpmiiaicfcnaaN3
set_option linter.unusedVariables false
namespace Go.Vm
open Go

theorem F46l1_eq : F46l1 = ch := rfl
theorem F46l2_eq : F46l2 = ch := rfl
theorem F21l2_eq : F21l2 = ch := rfl

/-- What a round makes of a number. -/
def gg (v : Int) : Int := v % 57896044618658097711785492504343953926634992332820282019728792003956564819968 + 19 * (v / 57896044618658097711785492504343953926634992332820282019728792003956564819968)

theorem gg_mod (v : Int) : gg v % PP = v % PP := by
  have : gg v = v + (-(v / 57896044618658097711785492504343953926634992332820282019728792003956564819968)) * PP := by
    unfold gg PP; omega
  exact modP this

theorem digs_getD {B : Int} (hB : 0 < B) : ∀ (n i : Nat) (v : Int), i < n → (digs B n v).getD i 0 = v / B ^ i % B
  | 0, i, v, h => absurd h (by omega)
  | n + 1, 0, v, _ => by rw [digs_succ, List.getD_cons_zero, Int.pow_zero, Int.ediv_one]
  | n + 1, i + 1, v, h => by
    rw [digs_succ, List.getD_cons_succ, digs_getD hB n i _ (by omega), Int.ediv_ediv_of_nonneg (by omega), Int.pow_succ, Int.mul_comm (B ^ i)]

theorem digs_set_top {w u : Int} {x : Int} (hx : 0 ≤ x ∧ x < 65536) (h : u = w % 115792089237316195423570985008687907853269984665640564039457584007913129639936 + (x - w / 1766847064778384329583297500742918515827483896875618958121606201292619776 % 65536) * 1766847064778384329583297500742918515827483896875618958121606201292619776) : (digs 65536 16 w).set 15 x = digs 65536 16 u := by
  have hD := digs_dig (B := 65536) (by decide) 16 w
  have hl := digs_length 65536 16 w
  refine digs_of (by decide) (dig_set hD hx) (by rw [List.length_set, hl]) ?_
  rw [num_set (by omega), num_digs (by decide), digs_getD (by decide) _ _ _ (by decide), h]
  rfl

theorem round_val {d : List Int} (hl : d.length = 16) (hd : Bd 1099511627776 d) (k : Nat) :
    ∃ e, F46l0 k d = (digs 65536 16 (num 65536 d % 57896044618658097711785492504343953926634992332820282019728792003956564819968)).set 0 e ∧
      e = num 65536 d % 65536 + 19 * (num 65536 d / 57896044618658097711785492504343953926634992332820282019728792003956564819968) ∧
      Bd 1099511627776 (F46l0 k d) ∧ (F46l0 k d).length = 16 ∧ num 65536 (F46l0 k d) = gg (num 65536 d) := by
  have hb : Bd 2305843009213693952 d := fun x hx => by have := hd x hx; omega
  have hch := chain_val hl hb
  have ha := num_abs (by decide) hd
  rw [hl] at ha
  have hp : (65536 : Int) ^ 16 = 115792089237316195423570985008687907853269984665640564039457584007913129639936 := by rfl
  rw [hp] at ha hch
  have hq : (65536 : Int) ^ 15 = 1766847064778384329583297500742918515827483896875618958121606201292619776 := by rfl
  unfold F46l0
  rw [F46l1_eq, hch]
  generalize num 65536 d = v at *
  simp only
  rw [digs_getD (by decide) 16 15 v (by decide), hq]
  have e15 : iShr .i64 (v / 1766847064778384329583297500742918515827483896875618958121606201292619776 % 65536) 15 = v / 1766847064778384329583297500742918515827483896875618958121606201292619776 % 65536 / 32768 := iShr_at .i64 _ 15 (by decide)
  rw [e15]
  have e16 : iShl .i64 (v / 1766847064778384329583297500742918515827483896875618958121606201292619776 % 65536 / 32768) 15 = v / 1766847064778384329583297500742918515827483896875618958121606201292619776 % 65536 / 32768 * 32768 :=
    shl_i64 (n := 15) (by decide) (by show _ ≤ _ * (32768 : Int); omega) (by show _ * (32768 : Int) < _; omega)
  rw [e16, iSub_i64 (by omega) (by omega)]
  rw [digs_set_top (u := v % 57896044618658097711785492504343953926634992332820282019728792003956564819968) (by omega) (by omega)]
  rw [iMul_i64 (by omega) (by omega), iMul_i64 (by omega) (by omega), digs_getD (by decide) 16 0 _ (by decide), Int.pow_zero, Int.ediv_one]
  rw [iAdd_i64 (x := 19 * _) (by omega) (by omega), iAdd_i64 (by omega) (by omega)]
  refine ⟨_, rfl, by omega, ?_, by rw [List.length_set, digs_length], ?_⟩
  · exact ((digs_dig (B := 65536) (by decide) 16 _).bd (by decide)).set (by omega)
  · rw [num_set (by rw [digs_length]; decide), num_digs (by decide), hp, digs_getD (by decide) 16 0 _ (by decide), Int.pow_zero, Int.ediv_one]
    unfold gg
    omega

theorem low_val {d : List Int} (hl : d.length = 16) (hd : Bd 1099511627776 d) : F46 d = digs 65536 16 (num 65536 d % PP) := by
  have ha := num_abs (by decide) hd
  rw [hl] at ha
  have hp : (65536 : Int) ^ 16 = 115792089237316195423570985008687907853269984665640564039457584007913129639936 := by rfl
  rw [hp] at ha
  obtain ⟨e1, _, _, b1, l1, n1⟩ := round_val hl hd 0
  obtain ⟨e2, _, _, b2, l2, n2⟩ := round_val l1 b1 1
  obtain ⟨e3, _, _, b3, l3, n3⟩ := round_val l2 b2 2
  obtain ⟨e4, h4, he4, b4, l4, n4⟩ := round_val l3 b3 3
  have hi : itr F46l0 4 d = F46l0 3 (F46l0 2 (F46l0 1 (F46l0 0 d))) := by rw [itr_succ, itr_succ, itr_succ, itr_succ, itr_zero]
  have hm : num 65536 (F46l0 2 (F46l0 1 (F46l0 0 d))) % PP = num 65536 d % PP := by rw [n3, gg_mod, n2, gg_mod, n1, gg_mod]
  have hu : 0 ≤ num 65536 (F46l0 2 (F46l0 1 (F46l0 0 d))) ∧ num 65536 (F46l0 2 (F46l0 1 (F46l0 0 d))) < 57896044618658097711785492504343953926634992332820282019728792003956564819968 := by
    rw [n3, n2, n1]
    have a1 : -4294967296 ≤ gg (num 65536 d) ∧ gg (num 65536 d) < 57896044618658097711785492504343953926634992332820282019728792003956564819968 + 4294967296 := by
      clear n1 n2 n3 n4 he4 h4 hm
      unfold gg; omega
    generalize gg (num 65536 d) = y at *
    have a2 : 0 ≤ gg y ∧ gg y < 57896044618658097711785492504343953926634992332820282019728792003956564819968 := by clear n1 n2 n3 n4 he4 h4 hm ha; unfold gg; omega
    generalize gg y = x at *
    unfold gg; omega
  generalize num 65536 (F46l0 2 (F46l0 1 (F46l0 0 d))) = u at *
  rw [← hm]
  have h4' : F46l0 3 (F46l0 2 (F46l0 1 (F46l0 0 d))) = digs 65536 16 u := by
    rw [h4, he4, Int.emod_eq_of_lt hu.1 hu.2]
    refine digs_of (by decide) (dig_set (digs_dig (by decide) _ _) (by omega)) (by rw [List.length_set, digs_length]) ?_
    rw [num_set (by rw [digs_length]; decide), num_digs (by decide), hp, digs_getD (by decide) 16 0 _ (by decide), Int.pow_zero, Int.ediv_one]
    omega
  unfold F46
  rw [hi, h4', F46l2_eq]
  rw [digs_getD (by decide) 16 0 _ (by decide), Int.pow_zero, Int.ediv_one, iAdd_i64 (by omega) (by omega)]
  have hc := chain_val (d := (digs 65536 16 u).set 0 (u % 65536 + 19)) (n := 16) (by rw [List.length_set, digs_length]) (((digs_dig (B := 65536) (by decide) 16 _).bd (by decide)).set (by omega))
  have hv : num 65536 ((digs 65536 16 u).set 0 (u % 65536 + 19)) = u + 19 := by
    rw [num_set (by rw [digs_length]; decide), num_digs (by decide), hp, digs_getD (by decide) 16 0 _ (by decide), Int.pow_zero, Int.ediv_one]
    omega
  rw [hv] at hc
  rw [hc]
  simp only
  have hq : (65536 : Int) ^ 15 = 1766847064778384329583297500742918515827483896875618958121606201292619776 := by rfl
  rw [digs_getD (by decide) 16 15 (u + 19) (by decide), hq]
  by_cases hge : PP ≤ u
  · have t : decide ((u + 19) / 1766847064778384329583297500742918515827483896875618958121606201292619776 % 65536 ≥ 32768) = true := by
      apply decide_eq_true
      show 32768 ≤ _
      unfold PP at hge
      omega
    have hu2 : u % PP = u - PP := by
      have := modP (x := u) (y := u - PP) (q := 1) (by omega)
      rw [this]; refine Int.emod_eq_of_lt (by omega) ?_
      unfold PP; omega
    unfold PP at hge
    rw [t, sel_true, hu2, iSub_i64 (by omega) (by omega)]
    refine digs_set_top (by omega) ?_
    unfold PP
    omega
  · have t : decide ((u + 19) / 1766847064778384329583297500742918515827483896875618958121606201292619776 % 65536 ≥ 32768) = false := by
      apply decide_eq_false
      show ¬ 32768 ≤ _
      unfold PP at hge
      omega
    rw [t, sel_false, Int.emod_eq_of_lt hu.1 (by omega)]
end Go.Vm
