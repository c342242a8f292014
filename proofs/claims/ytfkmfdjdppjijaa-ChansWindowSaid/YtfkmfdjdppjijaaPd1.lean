/- What a channel's numbers keep to, whatever comes. -/
import Derived.Test.YtfkmfdjdppjijaaWk6
set_option linter.unusedVariables false
set_option linter.unusedSimpArgs false
namespace Go.Vm
open Go

theorem chOk.mono {N M : Nat} {p : Ch} (h : chOk N p) (hN : N ≤ M) : chOk M p :=
  ⟨h.1, h.2.1, h.2.2.1, ⟨Nat.le_trans h.2.2.2.1.1 hN, Nat.le_trans h.2.2.2.1.2 hN⟩, h.2.2.2.2⟩
theorem say_ok {N : Nat} {p : Ch} (h : chOk N p) (q : List Int) : chOk (N + 1) (Fcsay p q) := by
  obtain ⟨h1, h2, h3, ⟨h4, h4b⟩, h5⟩ := h
  refine ⟨h1, h2, h3, ⟨?_, Nat.le_succ_of_le h4b⟩, h5⟩
  rw [len_say]
  show p.out.length + 1 + p.wait.length ≤ _
  omega
theorem bye_ok {N : Nat} {p : Ch} (h : chOk N p) : chOk (N + 2) (Fcbye p) := by
  have h0 : chOk N ({p with wait := ([] : List Int), c0 := true} : Ch) := by
    obtain ⟨h1, h2, h3, ⟨h4, h4b⟩, h5⟩ := h
    exact ⟨h1, h2, h3, ⟨by show p.out.length + 0 ≤ _; omega, h4b⟩, h5⟩
  have h1 : chOk (N + 2) (Fcbyev1 p) := say_ok (say_ok h0 _) _
  show chOk (N + 2) (sel _ _ _)
  cases (Fcbyev1 p).c1
  · rw [sel_false]; exact h1
  · rw [sel_true]
    obtain ⟨q1, q2, q3, q4, q5⟩ := h1
    exact ⟨q1, q2, q3, q4, fun e => absurd (show (3 : Int) = 2 from e) (by decide)⟩
theorem flowJ_go {p z : Ch} {k : Nat} (h : chFlow p) (hJ : flowJ p k z) (hk : k < flowN p) : (decide ((((z.wait.length : Nat) : Int) : Int) > 0)) = true ∧ (decide ((z.window : Int) > 0)) = true ∧ (!z.c0) = true := by
  cases h1 : (decide ((((z.wait.length : Nat) : Int) : Int) > 0))
  · have := flowJ_end h hJ (by omega) (.inl h1); omega
  · cases h2 : (decide ((z.window : Int) > 0))
    · have := flowJ_end h hJ (by omega) (.inr (.inl h2)); omega
    · cases h3 : (!z.c0)
      · have := flowJ_end h hJ (by omega) (.inr (.inr h3)); omega
      · exact ⟨rfl, rfl, rfl⟩
/-- What stays while bytes go out. -/
def still (p z : Ch) : Prop := z.server = p.server ∧ z.state = p.state ∧ z.peer = p.peer ∧ z.room = p.room ∧ z.got = p.got ∧ z.ready = p.ready ∧ z.e0 = p.e0 ∧ z.e1 = p.e1 ∧ z.c1 = p.c1
theorem flow_at {p : Ch} (h : chFlow p) : ∀ k, k ≤ flowN p → flowJ p k (itr Fcflowl0 k p) ∧ still p (itr Fcflowl0 k p) := by
  intro k
  induction k with
  | zero => intro _; rw [itr_zero]; exact ⟨flowJ_0, rfl, rfl, rfl, rfl, rfl, rfl, rfl, rfl, rfl⟩
  | succ k ih =>
    intro hk
    obtain ⟨h1, h2⟩ := ih (by omega)
    obtain ⟨g1, g2, g3⟩ := flowJ_go h h1 (by omega)
    rw [itr_succ]
    exact ⟨flowJ_next h h1 g1 g2 g3, h2⟩
theorem flow_is {p : Ch} (h : chFlow p) : flowJ p (flowN p) (Fcflow p) ∧ still p (Fcflow p) := flow_at h _ (Nat.le_refl _)
theorem flow_ok {N : Nat} {p : Ch} (h : chOk N p) (hf : chFlow p) : chOk N (Fcflow p) := by
  obtain ⟨h1, h2⟩ := flow_is hf
  obtain ⟨f1, f2, f3, f4⟩ := flowJ_facts hf h1
  obtain ⟨b1, b2, b3, b4, b5⟩ := h1
  obtain ⟨q1, q2, q3, ⟨q4, q4b⟩, q5⟩ := h
  obtain ⟨s1, s2, s3, s4, s5, s6, s7, s8, s9⟩ := h2
  refine ⟨f1, f2, fun hp => ?_, ⟨by omega, by rw [s5]; exact q4b⟩, fun e => ?_⟩
  · rw [b3]; apply q3; omega
  · rw [b3]; exact q5 (by rw [← s2]; exact e)
theorem sel_ok {N : Nat} {b : Bool} {x y : Ch} (hx : chOk N x) (hy : chOk N y) : chOk N (sel b x y) := by
  cases b
  · rw [sel_false]; exact hy
  · rw [sel_true]; exact hx
theorem minI_bd {x m : Int} (hx : 0 ≤ x) (hm : 0 ≤ m) : 0 ≤ minI x m ∧ minI x m ≤ m ∧ (x ≠ 0 → 0 < m → 0 < minI x m) := by
  unfold minI
  split <;> omega
theorem opened {N : Nat} {p : Ch} {id w m r : Int} (h : chOk N p) (hw : 0 ≤ w) (hm : 0 ≤ m) (hn : m ≠ 0) : chOk N ({p with state := 2, peer := id, window := (IntKind.wrap .i64 (minI w 1073741824)), most := (IntKind.wrap .i64 (minI m 512)), room := r} : Ch) := by
  obtain ⟨q1, q2, q3, q4, q5⟩ := h
  have a := minI_bd hw (show (0 : Int) ≤ 1073741824 by decide)
  have b := minI_bd hm (show (0 : Int) ≤ 512 by decide)
  have b3 := b.2.2 hn (by decide)
  have e1 : IntKind.wrap .i64 (minI w 1073741824) = minI w 1073741824 := wrap_small (by omega) (by omega)
  have e2 : IntKind.wrap .i64 (minI m 512) = minI m 512 := wrap_small (by omega) (by omega)
  rw [e1, e2]
  exact ⟨⟨a.1, Int.le_trans a.2.1 (by decide)⟩, ⟨b.1, b.2.1⟩, fun _ => b3, q4, fun _ => b3⟩
theorem open_ok {N : Nat} {p : Ch} (h : chOk N p) (p2 : List Int) (p3 : Bool) : chOk (N + 1) (Fcopen_1 p p2 p3) := by
  have h1 : chOk (N + 1) p := h.mono (by omega)
  have h2 : chOk (N + 1) (Fcopenv0 p p2 p3) := say_ok h _
  unfold Fcopen_1
  refine sel_ok h1 (sel_ok h1 (sel_ok h2 (sel_ok h2 ?_)))
  cases hz : ((FwU32 (FwU32_1 (FwU32_1 (FwText_1 p2 p3) (FwText_2 p2 p3)) (FwU32_2 (FwText_1 p2 p3) (FwText_2 p2 p3))) (FwU32_2 (FwU32_1 (FwText_1 p2 p3) (FwText_2 p2 p3)) (FwU32_2 (FwText_1 p2 p3) (FwText_2 p2 p3))) : Int) == 0)
  · rw [sel_false]
    exact say_ok (opened h (in_FwU32 _ _).1 (in_FwU32 _ _).1 (by simpa using hz)) _
  · rw [sel_true]; exact h2
theorem confirm_ok {N : Nat} {p : Ch} (h : chOk N p) (p2 : List Int) (p3 : Bool) : chOk (N + 1) (Fcconfirm_1 p p2 p3) := by
  have h1 : chOk (N + 1) p := h.mono (by omega)
  unfold Fcconfirm_1
  refine sel_ok h1 (sel_ok h1 (sel_ok h1 ?_))
  cases hz : ((FwU32 (FwU32_1 (FwU32_1 (FwU32_1 p2 p3) (FwU32_2 p2 p3)) (FwU32_2 (FwU32_1 p2 p3) (FwU32_2 p2 p3))) (FwU32_2 (FwU32_1 (FwU32_1 p2 p3) (FwU32_2 p2 p3)) (FwU32_2 (FwU32_1 p2 p3) (FwU32_2 p2 p3))) : Int) == 0)
  · rw [sel_false]
    exact say_ok (opened (r := p.room) h (in_FwU32 _ _).1 (in_FwU32 _ _).1 (by simpa using hz)) _
  · rw [sel_true]; exact h1
theorem flags_ok {N : Nat} {p : Ch} (h : chOk N p) (a b c d : Bool) : chOk N ({p with ready := a, e1 := b, c1 := c, c0 := d} : Ch) := h
theorem shut_ok {N : Nat} {p : Ch} (h : chOk N p) : chOk N ({p with state := 3} : Ch) := ⟨h.1, h.2.1, h.2.2.1, h.2.2.2.1, fun e => absurd (show (3 : Int) = 2 from e) (by decide)⟩
theorem on_ok {N : Nat} {p : Ch} (h : chOk N p) (hm : 0 < p.most) (hN : N ≤ 900000000) (p1 : Int) (p2 : List Int) (p3 : Bool) : chOk (N + 600) (Fcon_1 p p1 p2 p3) := by
  have h1 : chOk (N + 600) p := h.mono (by omega)
  have say1 : ∀ {x : Ch} (q : List Int), chOk N x → chOk (N + 600) (Fcsay x q) := fun q hx => (say_ok hx q).mono (by omega)
  have bye1 : ∀ {x : Ch}, chOk N x → chOk (N + 600) (Fcbye x) := fun hx => (bye_ok hx).mono (by omega)
  have v1 : chOk (N + 600) (Fconv1 p) := say1 _ h
  have v2 : chOk (N + 600) (Fconv2 p) := say1 _ h
  have v3 : chOk (N + 600) (Fconv3 p) := say1 _ h
  have v4 : chOk (N + 600) (Fconv4 p) := say1 _ h
  have v5 : chOk (N + 600) (Fconv5 p p1) := bye1 h
  have e1 : ∀ a : Bool, chOk (N + 600) ({p with ready := a} : Ch) := fun a => h1
  unfold Fcon_1
  refine sel_ok (sel_ok h1 ?_) (sel_ok (sel_ok h1 (sel_ok h1 ?_)) ?_)
  · cases hc : (decide (((iAdd .i64 p.window (IntKind.wrap .i64 (FwU32 p2 p3))) : Int) > 2147483647))
    · rw [sel_false]
      have hf := on_flow ⟨h.mono hN, hm⟩ (in_FwU32 p2 p3) hc
      refine flow_ok (p := ({p with window := (iAdd .i64 p.window (IntKind.wrap .i64 (FwU32 p2 p3)))} : Ch)) ?_ hf
      exact ⟨hf.1, h1.2.1, fun _ => hm, h1.2.2.2⟩
    · rw [sel_true]; exact h1
  · cases hc : (decide (((((FwText p2 p3).size : Nat) : Int) : Int) > 512))
    · rw [sel_false]
      have hc' := of_decide_eq_false hc
      refine sel_ok h1 ?_
      obtain ⟨q1, q2, q3, ⟨q4, q4b⟩, q5⟩ := h
      exact ⟨q1, q2, q3, ⟨Nat.le_trans q4 (by omega), by show (p.got ++ bytesI _).length ≤ _; rw [List.length_append, bytesI_length]; omega⟩, q5⟩
    · rw [sel_true]; exact h1
  · repeat first
      | exact h1
      | exact v1
      | exact v2
      | exact v3
      | exact v4
      | exact v5
      | exact e1 _
      | exact shut_ok (bye1 (flags_ok h p.ready p.e1 true p.c0))
      | exact shut_ok (flags_ok h1 p.ready p.e1 true p.c0)
      | exact flags_ok h1 p.ready true p.c1 p.c0
      | apply sel_ok
theorem chTake_ok {N : Nat} {p : Ch} (h : chOk N p) (hN : N ≤ 900000000) (q : List Int) : chOk (N + 600) (FcTake_1 p q) := by
  have h1 : chOk (N + 600) p := h.mono (by omega)
  unfold FcTake_1
  refine sel_ok h1 (sel_ok ((open_ok h _ _).mono (by omega)) (sel_ok ((confirm_ok h _ _).mono (by omega)) (sel_ok (sel_ok h1 (sel_ok h1 (shut_ok h1))) (sel_ok h1 ?_))))
  cases hc : ((p.state : Int) != 2)
  · rw [sel_false]
    exact sel_ok h1 (on_ok h (h.2.2.2.2 (by simpa using hc)) hN _ _ _)
  · rw [sel_true]; exact h1

end Go.Vm
