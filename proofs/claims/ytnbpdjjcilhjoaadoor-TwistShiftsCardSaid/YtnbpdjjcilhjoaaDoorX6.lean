/- A signature whose number is the order more is refused. -/
import Derived.Test.YtnbpdjjcilhjoaaDoorPf
import Derived.Test.YtnbpdjjcilhjoaaDoorL6
set_option linter.unusedVariables false
set_option linter.unusedSimpArgs false
namespace Go.Vm
open Go Tabn

noncomputable def bentS (k : Nat) (z : Int × List Int) : Int × List Int :=
  ((iShr .i64 (iAdd .i64 z.1 (iAdd .i64 (IntKind.wrap .i64 (z.2.getD k 0)) (IntKind.wrap .i64 (ordL.getD k 0)))) 8), z.2.set k (IntKind.wrap .u8 (iAdd .i64 z.1 (iAdd .i64 (IntKind.wrap .i64 (z.2.getD k 0)) (IntKind.wrap .i64 (ordL.getD k 0))))))
theorem bent_tail {X : List Int} (hX : X.length = 32) (S : List Int) : ∀ k, itr FT6l0 k (0, X ++ S) = ((itr bentS k (0, S)).1, X ++ (itr bentS k (0, S)).2) := by
  intro k
  induction k with
  | zero => rw [itr_zero, itr_zero]
  | succ k ih =>
    rw [itr_succ, itr_succ, ih]
    generalize itr bentS k (0, S) = z
    have e1 : (X ++ z.2).getD (32 + k) 0 = z.2.getD k 0 := by
      rw [List.getD_eq_getElem?_getD, List.getD_eq_getElem?_getD, ← hX, List.getElem?_append_right (by omega), Nat.add_sub_cancel_left]
    have e2 : ∀ v, (X ++ z.2).set (32 + k) v = X ++ z.2.set k v := by
      intro v
      rw [← hX, List.set_append_right _ _ (by omega), Nat.add_sub_cancel_left]
    unfold FT6l0 bentS
    simp only
    rw [e1, e2]
    rfl
theorem bent_num {S : List Int} {V : Nat} (hd : Dig 256 S) (hl : S.length = 32) (hV : num 256 S = (V : Int)) (hlt : V < L) :
    ((itr bentS 32 (0, S)).2).length = 32 ∧ Dig 256 (itr bentS 32 (0, S)).2 ∧ num 256 (itr bentS 32 (0, S)).2 = ((V + L : Nat) : Int) := by
  obtain ⟨c, d, e, h1, h2, h3, h4⟩ := chain_all (f := bentS) (W := fun k => S.getD k 0 + ordL.getD k 0) (sg := 1) (p := S) (n := 32) (C := fun c => 0 ≤ c ∧ c ≤ 1) hl (by
    intro k c d hk hld hg hc
    unfold bentS
    simp only
    rw [hg]
    have hr : 0 ≤ S.getD k 0 ∧ S.getD k 0 < 256 := getD_dig (by decide) hd
    have ho : 0 ≤ ordL.getD k 0 ∧ ordL.getD k 0 < 256 := getD_dig (by decide) ordL_dig
    rw [wrap8_64 hr, wrap8_64 ho]
    generalize S.getD k 0 = x at *
    generalize ordL.getD k 0 = o at *
    have e1 : iAdd .i64 x o = x + o := iAdd_i64 (by omega) (by omega)
    have e2 : iAdd .i64 c (x + o) = c + (x + o) := iAdd_i64 (by omega) (by omega)
    have e3 : iShr .i64 (c + (x + o)) 8 = (c + (x + o)) / 256 := iShr_at .i64 _ 8 (by decide)
    rw [e1, e2, e3, wrap_u8]
    exact ⟨(c + (x + o)) / 256, (c + (x + o)) % 256, rfl, by omega, by omega, by omega⟩) (c0 := 0) (by decide)
  have e5 : su 256 (fun k => S.getD k 0 + ordL.getD k 0) 32 = (V : Int) + (L : Int) := by rw [su_add, su_all hl, su_all ordL_len, hV, ordL_num]
  have p32 : (256 : Int) ^ 32 = 115792089237316195423570985008687907853269984665640564039457584007913129639936 := rfl
  rw [e5, p32] at h4
  rw [L_lit] at hlt h4
  have hb1 := num_bd (B := 256) (by decide) h3
  have hc : c = 0 := by omega
  subst hc
  rw [e]
  exact ⟨h1, h3, by rw [L_lit]; show num 256 d = _; omega⟩

theorem shifts_true {p0 p1 : List Int} (h0 : Dig 256 p0) (h1 : Dig 256 p1) : FT6 p0 p1 = true := by
  unfold FT6
  rw [fit8]
  cases h : ((((p0.length : Nat) : Int) : Int) != 32)
  · cases h2 : decide ((((p1.length : Nat) : Int) : Int) > 300)
    · have l0 : p0.length = 32 := by
        have := ne_false_i h
        omega
      have l1 := of_decide_eq_false h2
      rw [pub9 h0 l0, sig10 h0 l0 h1 (by omega), part1_all (encL_len _), part1_all (sigL_len _ _)]
      have eb : itr FT6l0 32 (0, sigL p0 p1) = _ := bent_tail (encL_len (rP p0 p1)) (digs 256 32 (sN p0 p1 : Int)) 32
      obtain ⟨b1, b2, b3⟩ := bent_num (digsD (sN p0 p1)) (digs_length _ _ _) (small_num (sN_lt p0 p1)) (sN_lt p0 p1)
      rw [eb]
      generalize (itr bentS 32 (0, digs 256 32 (sN p0 p1 : Int))).2 = D at *
      have lb : (encL (rP p0 p1) ++ D).length = 64 := by rw [List.length_append, encL_len, b1]
      rw [part1_all lb, val13 h1 (dig_app (encL_dig _) b2) rfl lb (by omega)]
      have ed : (encL (rP p0 p1) ++ D).drop 32 = D := by rw [← encL_len (rP p0 p1), List.drop_left]
      rw [ed, nN_of b3, decide_eq_false (by omega), Bool.false_and]
      rw [no13 (encL_dig _) (.inl (by rw [part1_all (by rw [List.length_append, sigL_len]; rfl), List.length_append, sigL_len]; decide))]
      have e33 : part1 (encL (keyP p0) ++ [0]) 33 0 33 = encL (keyP p0) ++ [0] := part1_all (by rw [List.length_append, encL_len]; rfl)
      rw [e33, no13 (dig_app (encL_dig _) (by unfold Dig; decide)) (.inr (fun A e => by
        have := congrArg List.length e
        rw [List.length_append, encL_len, encL_len] at this
        exact absurd this (by decide)))]
      rfl
    · rfl
  · rfl
end Go.Vm
