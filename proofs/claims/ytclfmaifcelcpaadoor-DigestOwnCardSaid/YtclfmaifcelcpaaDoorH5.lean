/- The codes of parts, in plain. -/
import Derived.Test.YtclfmaifcelcpaaDoorH4
import Derived.Test.YtclfmaifcelcpaaDoorDgE
import Derived.Test.YtclfmaifcelcpaaDoorDg9
set_option linter.unusedVariables false
set_option linter.unusedSimpArgs false
namespace Go.Vm
open Go

theorem xor8 (x y : Int) : 0 ≤ iXor .u8 x y ∧ iXor .u8 x y < 256 := by
  unfold iXor
  rw [wrap_u8]
  omega

/-- The key's bytes with the two pads, as the reference makes them. -/
noncomputable def padG (K : List Int) (n : Int) (k : Nat) (z : Nat × Nat × List Int × List Int) : Nat × Nat × List Int × List Int :=
  (z.1 + 1, z.2.1 + 1, z.2.2.1 ++ [(iXor .u8 (sel (decide ((((k : Nat) : Int) : Int) < n)) (K.getD k 0) 0) 54)], z.2.2.2 ++ [(iXor .u8 (sel (decide ((((k : Nat) : Int) : Int) < n)) (K.getD k 0) 0) 92)])
noncomputable def pads (K : List Int) : Nat × Nat × List Int × List Int := itr (padG K ((K.length : Nat) : Int)) 64 (0, 0, [], [])

theorem splice_len {K : List Int} (h : K.length ≤ 64) : (splice (List.replicate 64 0) 0 K).length = 64 := by
  unfold splice
  simp only [List.take_zero, List.nil_append, List.length_append, List.length_drop, List.length_replicate]
  omega
theorem splice_get {K : List Int} (h : K.length ≤ 64) (k : Nat) : (splice (List.replicate 64 0) 0 K).getD k 0 = sel (decide ((((k : Nat) : Int) : Int) < ((K.length : Nat) : Int))) (K.getD k 0) 0 := by
  unfold splice
  simp only [List.take_zero, List.nil_append, List.getD_eq_getElem?_getD]
  by_cases hk : k < K.length
  · rw [decide_eq_true (by omega), sel_true, List.getElem?_append_left hk]
  · rw [decide_eq_false (by omega), sel_false, List.getElem?_append_right (by omega), List.getElem?_drop, List.getElem?_replicate]
    split <;> rfl
theorem pad_step {d S : List Int} {k : Nat} {x : Int} (hd : d.length = k) (hk : k < S.length) : (d ++ S.drop k).set k x = (d ++ [x]) ++ S.drop (k + 1) ∧ (d ++ S.drop k).getD k 0 = S.getD k 0 := by
  subst hd
  constructor
  · rw [List.set_append_right _ _ (by omega), Nat.sub_self, List.drop_eq_getElem_cons hk, List.set_cons_zero, List.append_assoc]
    rfl
  · rw [List.getD_eq_getElem?_getD, List.getElem?_append_right (by omega), Nat.sub_self, List.getElem?_drop, Nat.add_zero, List.getD_eq_getElem?_getD]
theorem pads_eq {K : List Int} (h : K.length ≤ 64) :
    itr (F40l0) 64 (splice (List.replicate 64 0) 0 K, splice (List.replicate 64 0) 0 K) = ((pads K).2.2.2, (pads K).2.2.1) ∧ (pads K).1 = 64 ∧ (pads K).2.1 = 64 ∧ (pads K).2.2.1.length = 64 ∧ (pads K).2.2.2.length = 64 ∧ Dig 256 (pads K).2.2.1 ∧ Dig 256 (pads K).2.2.2 := by
  have hl := splice_len h
  have key : (fun (k : Nat) (a : List Int × List Int) (b : Nat × Nat × List Int × List Int) => a.1 = b.2.2.2 ++ (splice (List.replicate 64 0) 0 K).drop k ∧ a.2 = b.2.2.1 ++ (splice (List.replicate 64 0) 0 K).drop k ∧ b.1 = k ∧ b.2.1 = k ∧ b.2.2.1.length = k ∧ b.2.2.2.length = k ∧ Dig 256 b.2.2.1 ∧ Dig 256 b.2.2.2) 64
      (itr (F40l0) 64 (splice (List.replicate 64 0) 0 K, splice (List.replicate 64 0) 0 K)) (pads K) := by
    refine itr_rel (fun (k : Nat) (a : List Int × List Int) (b : Nat × Nat × List Int × List Int) => a.1 = b.2.2.2 ++ (splice (List.replicate 64 0) 0 K).drop k ∧ a.2 = b.2.2.1 ++ (splice (List.replicate 64 0) 0 K).drop k ∧ b.1 = k ∧ b.2.1 = k ∧ b.2.2.1.length = k ∧ b.2.2.2.length = k ∧ Dig 256 b.2.2.1 ∧ Dig 256 b.2.2.2)
      ⟨rfl, rfl, rfl, rfl, rfl, rfl, Dig.nil, Dig.nil⟩ ?_
    rintro k hk ⟨a1, a2⟩ ⟨n, m, c, d⟩ ⟨h1, h2, h3, h4, h5, h6, h7, h8⟩
    simp only at h1 h2 h3 h4 h5 h6 h7 h8
    subst h1 h2
    have p1 := pad_step (x := iXor .u8 (sel (decide ((((k : Nat) : Int) : Int) < ((K.length : Nat) : Int))) (K.getD k 0) 0) 92) h6 (show k < (splice (List.replicate 64 0) 0 K).length by omega)
    have p2 := pad_step (x := iXor .u8 (sel (decide ((((k : Nat) : Int) : Int) < ((K.length : Nat) : Int))) (K.getD k 0) 0) 54) h5 (show k < (splice (List.replicate 64 0) 0 K).length by omega)
    unfold F40l0 padG
    simp only
    rw [p1.2, p2.2, splice_get h, p1.1, p2.1]
    refine ⟨rfl, rfl, by omega, by omega, by simp [h5], by simp [h6], ?_, ?_⟩
    · intro x hx
      rcases List.mem_append.1 hx with h | h
      · exact h7 x h
      · rw [List.mem_singleton.1 h]; exact xor8 _ _
    · intro x hx
      rcases List.mem_append.1 hx with h | h
      · exact h8 x h
      · rw [List.mem_singleton.1 h]; exact xor8 _ _
  obtain ⟨h1, h2, h3, h4, h5, h6, h7, h8⟩ := key
  rw [List.drop_eq_nil_of_le (by omega), List.append_nil] at h1 h2
  exact ⟨Prod.ext h1 h2, h3, h4, h5, h6, h7, h8⟩

/-- The parts, one behind the other, behind what stands there. -/
theorem join_from (p : List (List Int)) (n : Nat) (B : List Int) (k : Nat) : (itr (F40l1 p) k (n, B)).2 = B ++ (itr (F42l0 p) k (0, [])).2 ∧ (itr (F40l1 p) k (n, B)).1 = n + lensTo p k := by
  induction k with
  | zero => rw [itr_zero, itr_zero]; exact ⟨(List.append_nil B).symm, rfl⟩
  | succ k ih =>
    rw [itr_succ, itr_succ]
    refine ⟨?_, ?_⟩
    · show (itr (F40l1 p) k (n, B)).2 ++ p.getD k [] = B ++ ((itr (F42l0 p) k (0, [])).2 ++ p.getD k [])
      rw [ih.1, List.append_assoc]
    · show (itr (F40l1 p) k (n, B)).1 + (p.getD k []).length = n + (lensTo p k + (p.getD k []).length)
      rw [ih.2, Nat.add_assoc]
theorem getD_all {p : List (List Int)} (h : ∀ x ∈ p, Dig 256 x) (k : Nat) : Dig 256 (p.getD k []) := by
  rw [List.getD_eq_getElem?_getD]
  cases e : p[k]? with
  | none => exact Dig.nil
  | some x => exact h x (List.mem_of_getElem? e)
theorem dig_app {x y : List Int} (hx : Dig 256 x) (hy : Dig 256 y) : Dig 256 (x ++ y) := fun z hz => (List.mem_append.1 hz).elim (hx z) (hy z)
theorem join_dig {p : List (List Int)} (h : ∀ x ∈ p, Dig 256 x) : Dig 256 (F42 p) := by
  have : ∀ k, Dig 256 (itr (F42l0 p) k (0, [])).2 := by
    intro k
    induction k with
    | zero => rw [itr_zero]; exact Dig.nil
    | succ k ih => rw [itr_succ]; exact dig_app ih (getD_all h k)
  exact this _
theorem dig36 (p : List Int) : Dig 256 (F36w32 p) := by
  have : ∀ k, Dig 256 (itr (F36w32l8 p) k (0, [])).2 := by
    intro k
    induction k with
    | zero => rw [itr_zero]; exact Dig.nil
    | succ k ih =>
      rw [itr_succ]
      refine dig_app (y := [_]) ih ?_
      intro z hz
      rw [List.mem_singleton.1 hz, wrap_u8]
      omega
  exact this _

/-- A code, out of the pads. -/
noncomputable def macOf (K t : List Int) : List Int := F36w32 ((pads K).2.2.2 ++ F36w32 ((pads K).2.2.1 ++ t))
theorem macC {K t : List Int} {p : List (List Int)} (hK : K.length ≤ 64) (hp : ∀ x ∈ p, Dig 256 x) (hl : lensTo p p.length ≤ 2000) :
    F34 (part1 (((itr (F40l0) 64 (splice (List.replicate 64 0) 0 K, splice (List.replicate 64 0) 0 K)).1) ++ (F34 (part1 ((itr (F40l1 p) p.length (64, (itr (F40l0) 64 (splice (List.replicate 64 0) 0 K, splice (List.replicate 64 0) 0 K)).2)).2) ((itr (F40l1 p) p.length (64, (itr (F40l0) 64 (splice (List.replicate 64 0) 0 K, splice (List.replicate 64 0) 0 K)).2)).1) 0 ((itr (F40l1 p) p.length (64, (itr (F40l0) 64 (splice (List.replicate 64 0) 0 K, splice (List.replicate 64 0) 0 K)).2)).1)))) 96 0 96) = macOf K (F42 p) := by
  obtain ⟨e, h1, h2, h3, h4, h5, h6⟩ := pads_eq hK
  rw [e]
  obtain ⟨j1, j2⟩ := join_from p 64 (pads K).2.2.1 p.length
  rw [j1, j2]
  have e2 : (itr (F42l0 p) p.length (0, [])).2 = F42 p := rfl
  rw [e2]
  have l2 := len42 p
  dsimp only
  rw [part1_all (xs := (pads K).2.2.1 ++ F42 p) (by rw [List.length_append, h3, l2]), sum32 (dig_app h5 (join_dig hp)) (by rw [List.length_append, h3, l2]; omega), part1_all (by rw [List.length_append, h4, len36w32]),
    sum32 (dig_app h6 (dig36 _)) (by rw [List.length_append, h4, len36w32]; omega)]
  rfl
theorem macR {K t : List Int} (hK : K.length ≤ 64) :
    F36w32 (part1 (((itr (padG K ((K.length : Nat) : Int)) 64 (0, 0, [], [])).2.2.2) ++ (F36w32 (part1 (((itr (padG K ((K.length : Nat) : Int)) 64 (0, 0, [], [])).2.2.1) ++ t) (((itr (padG K ((K.length : Nat) : Int)) 64 (0, 0, [], [])).1) + t.length) 0 (((itr (padG K ((K.length : Nat) : Int)) 64 (0, 0, [], [])).1) + t.length)))) (((itr (padG K ((K.length : Nat) : Int)) 64 (0, 0, [], [])).2.1) + 32) 0 (((itr (padG K ((K.length : Nat) : Int)) 64 (0, 0, [], [])).2.1) + 32)) = macOf K t := by
  obtain ⟨e, h1, h2, h3, h4, h5, h6⟩ := pads_eq hK
  show F36w32 (part1 (((pads K).2.2.2) ++ (F36w32 (part1 (((pads K).2.2.1) ++ t) (((pads K).1) + t.length) 0 (((pads K).1) + t.length)))) (((pads K).2.1) + 32) 0 (((pads K).2.1) + 32)) = _
  rw [part1_all (xs := (pads K).2.2.1 ++ t) (by rw [List.length_append, h3, h1]), part1_all (by rw [List.length_append, h4, h2, len36w32])]
  rfl
theorem mac_eq {p0 : List Int} {p : List (List Int)} (h0 : Dig 256 p0) (hp : ∀ x ∈ p, Dig 256 x) (l0 : p0.length ≤ 2000) (hl : lensTo p p.length ≤ 2000) : F40 p0 p = F41 p0 (F42 p) := by
  unfold F40 F41
  cases h : decide (((p0.length : Nat) : Int) > 64)
  · rw [sel_false, sel_false]
    have h' := of_decide_eq_false h
    have a := macC (K := p0) (t := F42 p) (by omega) hp hl
    have b := macR (K := p0) (t := F42 p) (by omega)
    exact a.trans b.symm
  · rw [sel_true, sel_true]
    have e : F34 p0 = F36w32 p0 := sum32 h0 (by omega)
    rw [e]
    have hK : (F36w32 p0).length ≤ 64 := by rw [len36w32]; omega
    have a := macC (K := F36w32 p0) (t := F42 p) hK hp hl
    have b := macR (K := F36w32 p0) (t := F42 p) hK
    rw [len36w32] at b
    exact a.trans b.symm

theorem fst_below {S : Nat → Bool} : ∀ (n : Nat) {k : Nat}, k < fstB S n → S k = false
  | 0, k, h => absurd h (by unfold fstB; omega)
  | n + 1, k, h => by
    rw [fstB] at h
    cases hb : Nat.blt (fstB S n) n
    · rw [hb, cond_false] at h
      have hn : fstB S n = n := by
        have := fst_le S n
        have hh : ¬ fstB S n < n := fun hlt => by rw [blt_true hlt] at hb; cases hb
        omega
      cases hs : S n
      · rw [hs, cond_false] at h
        by_cases e : k = n
        · rw [e]; exact hs
        · exact fst_below n (by omega)
      · rw [hs, cond_true] at h
        exact fst_below n (by omega)
    · rw [hb, cond_true] at h
      exact fst_below n h
theorem macs_true {p0 : List Int} {p1 : List (List Int)} (h0 : Dig 256 p0) (h1 : ∀ x ∈ p1, Dig 256 x) (l0 : p0.length ≤ 140737488351232) (l1 : p1.length ≤ 140737488351232) (l2 : ∀ x ∈ p1, x.length ≤ 140737488351232) : F9 p0 p1 = true := by
  unfold F9
  rw [fit33]
  cases hb : Nat.blt (fstB (F9s0 p0 p1) p1.length) p1.length
  · have hz : ∀ k, k ≤ p1.length → itr (F9l0 p1) k ((p0.length : Nat) : Int) = ((p0.length + k + lensTo p1 k : Nat) : Int) ∧ p0.length + k + lensTo p1 k ≤ 140737488351232 := by
      intro k
      induction k with
      | zero => intro _; rw [itr_zero]; exact ⟨rfl, by show p0.length + 0 + 0 ≤ _; omega⟩
      | succ k ih =>
        intro hk
        obtain ⟨i1, i2⟩ := ih (by omega)
        have hn : fstB (F9s0 p0 p1) p1.length = p1.length := by
          have := fst_le (F9s0 p0 p1) p1.length
          have hh : ¬ fstB (F9s0 p0 p1) p1.length < p1.length := fun hlt => by rw [blt_true hlt] at hb; cases hb
          omega
        have hs : F9s0 p0 p1 k = false := fst_below p1.length (by omega)
        have el := elem_le l2 k
        rw [itr_succ, i1]
        have e9 : F9l0 p1 k ((p0.length + k + lensTo p1 k : Nat) : Int) = ((p0.length + (k + 1) + (lensTo p1 k + (p1.getD k []).length) : Nat) : Int) := by
          show iAdd .i64 _ _ = _
          rw [iAdd_i64 (by omega) (by omega)]; omega
        refine ⟨e9, ?_⟩
        unfold F9s0 at hs
        rw [i1] at hs
        have e8 : iAdd .i64 ((p0.length + k + lensTo p1 k : Nat) : Int) ((1 + (p1.getD k []).length : Nat) : Int) = ((p0.length + (k + 1) + (lensTo p1 k + (p1.getD k []).length) : Nat) : Int) := e9
        rw [e8] at hs
        cases hd : decide (((p0.length + (k + 1) + (lensTo p1 k + (p1.getD k []).length) : Nat) : Int) > 2000)
        · have := of_decide_eq_false hd
          show p0.length + (k + 1) + (lensTo p1 k + (p1.getD k []).length) ≤ _
          omega
        · rw [hd] at hs; cases hs
    obtain ⟨z1, z2⟩ := hz p1.length (Nat.le_refl _)
    rw [z1]
    cases hd : decide (((p0.length + p1.length + lensTo p1 p1.length : Nat) : Int) > 2000)
    · have h' := of_decide_eq_false hd
      rw [part1_all (len42 p1), mac_eq h0 h1 (by omega) (by omega), strEq_refl]
      rfl
    · rfl
  · rfl
end Go.Vm
