/- A range over a string: its places, and a walk through its round. -/
import Derived.Test.YtfkmfdjdppjijaaVnZa
import Derived.Laws.RangeAny
set_option linter.unusedVariables false
set_option linter.unusedSimpArgs false
namespace Go.Vm
open Go

/-! ### what the rounds pass over is no comma -/
theorem decode_skips (s : ByteArray) (i : Nat) : 1 ≤ (Utf8.decode s i).2 ∧ ∀ j, 1 ≤ j → j < (Utf8.decode s i).2 → i + j < s.size ∧ 128 ≤ (s.get! (i + j)).toNat := by
  have c : ∀ k, (decide (i + k < s.size) && ((s.get! (i + k)).toNat / 64 == 2)) = true → i + k < s.size ∧ 128 ≤ (s.get! (i + k)).toNat := by
    intro k h
    rw [Bool.and_eq_true, decide_eq_true_eq, beq_iff_eq] at h
    exact ⟨h.1, by omega⟩
  have one : ∀ r : Nat, 1 ≤ (r, 1).2 ∧ ∀ j, 1 ≤ j → j < (r, 1).2 → i + j < s.size ∧ 128 ≤ (s.get! (i + j)).toNat := fun r => ⟨Nat.le_refl 1, fun j h1 h2 => by simp only at h2; omega⟩
  unfold Utf8.decode
  simp only
  split
  · exact one _
  · split
    · rename_i h
      rw [Bool.and_eq_true] at h
      split
      · refine ⟨by show 1 ≤ 2; decide, fun j h1 h2 => ?_⟩
        simp only at h2
        obtain rfl : j = 1 := by omega
        exact c 1 h.2
      · exact one _
    · split
      · rename_i h
        simp only [Bool.and_eq_true] at h
        split
        · refine ⟨by show 1 ≤ 3; decide, fun j h1 h2 => ?_⟩
          simp only at h2
          have hj : j = 1 ∨ j = 2 := by omega
          rcases hj with rfl | rfl
          · exact c 1 (by simpa using h.1.2)
          · exact c 2 (by simpa using h.2)
        · exact one _
      · split
        · rename_i h
          simp only [Bool.and_eq_true] at h
          split
          · refine ⟨by show 1 ≤ 4; decide, fun j h1 h2 => ?_⟩
            simp only at h2
            have hj : j = 1 ∨ j = 2 ∨ j = 3 := by omega
            rcases hj with rfl | rfl | rfl
            · exact c 1 (by simpa using h.1.1.2)
            · exact c 2 (by simpa using h.1.2)
            · exact c 3 (by simpa using h.2)
          · exact one _
        · exact one _

/-- No byte below a place is this one. -/
def noneOf (c : Nat) (s : ByteArray) (n : Nat) : Prop := ∀ j, j < n → j < s.size → (s.get! j).toNat ≠ c
theorem noneOf_next {c : Nat} (hc : c < 128) {s : ByteArray} {n : Nat} (h : noneOf c s n) (hn : (s.get! n).toNat ≠ c) : noneOf c s (n + (Utf8.decode s n).2) := by
  intro j hj hs
  by_cases h1 : j < n
  · exact h j h1 hs
  · by_cases h2 : j = n
    · subst h2; exact hn
    · have := (decode_skips s n).2 (j - n) (by omega) (by omega)
      rw [show n + (j - n) = j by omega] at this
      omega

/-- Does this byte stand there? -/
def hasB (c : Nat) (s : ByteArray) : Bool := (List.range s.size).any fun j => (s.get! j).toNat == c
theorem hasB_true {c : Nat} {s : ByteArray} {j : Nat} (hj : j < s.size) (h : (s.get! j).toNat = c) : hasB c s = true := List.any_eq_true.2 ⟨j, List.mem_range.2 hj, by rw [h]; exact beq_self_eq_true c⟩
theorem hasB_false {c : Nat} {s : ByteArray} {n : Nat} (h : noneOf c s n) (hn : ¬ n < s.size) : hasB c s = false := by
  unfold hasB
  rw [List.any_eq_false]
  intro j hj hc
  have hj := List.mem_range.1 hj
  exact h j (by omega) hj (beq_iff_eq.1 hc)
theorem byteAt_get {s : ByteArray} {j : Nat} (h : j < s.size) : byteAt s ((j : Nat) : Int) = ((s.get! j).toNat : Int) := by
  unfold byteAt bytesI
  rw [Int.toNat_natCast, List.getD_eq_getElem?_getD, List.getElem?_map]
  have hl : j < s.data.toList.length := by rw [Array.length_toList]; exact h
  rw [List.getElem?_eq_getElem hl]
  have : s.get! j = s.data.toList[j] := by
    show s.data[j]! = _
    rw [getElem!_pos s.data j h]
    simp
  rw [this]
  rfl
theorem byteAt_ne {s : ByteArray} {j c : Nat} (h : ((byteAt s ((j : Nat) : Int) : Int) == (c : Int)) = false) (hj : j < s.size) : (s.get! j).toNat ≠ c := by
  rw [byteAt_get hj, beq_eq_false_iff_ne] at h
  omega
theorem byteAt_is {s : ByteArray} {j c : Nat} (h : ((byteAt s ((j : Nat) : Int) : Int) == (c : Int)) = true) (hj : j < s.size) : (s.get! j).toNat = c := by
  rw [byteAt_get hj, beq_iff_eq] at h
  omega

/-! ### one operation by itself -/
theorem op_wp {P : Program} {ops : Array Oper} {Q : Exit → Act → World → Prop} {i : Nat} {K : Act → World → Prop} {a : Act} {w w' : World} {o : Oper} {V : Value} (ho : ops[i]? = some o) (hg : o.guard = none)
    (h : (execOp a.eval o).run P w = .ok (.value V) w') (hK : K (a.put o.dst V) w') : wpOp P ops Q i K a w := by
  unfold wpOp
  simp only [ho, Region.wanted, hg, if_true]
  refine .inl ?_
  unfold Oper.wp
  rw [h]
  exact hK

theorem put_get {a : Act} {t : Nat} {V : Value} (h : t < a.tmps.size) : (a.put (some t) V).tmps[t]? = some V := by
  simp only [Act.put]
  rw [Array.getElem?_setIfInBounds_self]
  simp [h]
theorem put_ne {a : Act} {t u : Nat} {V : Value} (h : t ≠ u) : (a.put (some t) V).tmps[u]? = a.tmps[u]? := by
  simp only [Act.put]
  rw [Array.getElem?_setIfInBounds_ne h]
theorem put_size {a : Act} {d : Option Nat} {V : Value} : (a.put d V).tmps.size = a.tmps.size := by
  cases d <;> simp [Act.put]

theorem FrR.put0 {E : Env} {σ : Sig} {fr : Fr} {a : Act} {t : Nat} {V : Value} (h : FrR E σ fr a) (ht : look t fr = none) : FrR E σ fr (a.put (some t) V) := by
  refine ⟨fun u v hu => ?_, h.defers⟩
  obtain ⟨W, h1, h2⟩ := h.val u v hu
  refine ⟨W, ?_, h2⟩
  rw [put_ne (fun e => by subst e; rw [ht] at hu; cases hu)]
  exact h1
theorem FrR.put2 {E : Env} {σ : Sig} {fr : Fr} {a : Act} {t : Nat} {v : AV} {V : Value} (h : FrR E σ fr a) (ht : t < a.tmps.size) (hv : AVR E σ v V) : FrR E σ (put1 t v fr) (a.put (some t) V) := by
  refine ⟨fun u x hu => ?_, h.defers⟩
  rw [look_put1] at hu
  split at hu
  · rename_i e
    subst e
    injection hu with hu
    subst hu
    exact ⟨V, put_get ht, hv⟩
  · rename_i e
    obtain ⟨W, h1, h2⟩ := h.val u x hu
    exact ⟨W, by rw [put_ne (Ne.symm e)]; exact h1, h2⟩

/-! ### the iterator -/
def ptr (g : Nat) : Value := .pointer (some ⟨g, 0, none⟩)
def ItS (t33 g : Nat) (s : St) : St := (put1 t33 (.sc (.raw (ptr g))) s.1, s.2)
def ItS2 (t33 t34 t35 g : Nat) (pos r : Nat) (s : St) : St := (put1 t35 (.sc (.b true)) (put1 t34 (.tup [.sc (.b true), .sc (.i .i64 pos), .sc (.i .i32 r)]) (put1 t33 (.sc (.raw (ptr g))) s.1)), s.2)

/-- The iterator at a place; nobody else's. -/
def GoodI (E : Env) (n U : Nat) (s : St) (a : Act) (w : World) (g : Nat) (x : ByteArray) (pos : Nat) : Prop := ∃ E', Grow E E' ∧ Good1 E' E.kp n U s a w ∧ w.heap[g]? = some (.stringIter x pos) ∧ ¬ E'.fz g

theorem not_iter {E : Env} {σ : Sig} {M : Mem} {w : World} {g : Nat} {x : ByteArray} {pos : Nat} (h : MemR E σ M w) (hg : w.heap[g]? = some (.stringIter x pos)) {b : Nat} {k : Blk} {L : Loc} (hb : look b M = some k) (hL : σ b = .at L) : L.g ≠ g := by
  intro e
  have hB := h.blk b k hb
  rw [hL] at hB
  obtain ⟨_, arr, elem, lo, hi, q1, _⟩ := hB
  rw [e, hg] at q1
  cases q1

/-- While a round goes on the iterator stays. -/
theorem GoodI.hold {E : Env} {n U : Nat} {s : St} {a : Act} {w : World} {g : Nat} {x : ByteArray} {pos : Nat} (h : GoodI E n U s a w g x pos) :
    ∃ E1, Grow E E1 ∧ E1.kp = E.kp ∧ Good E1 n U s a w ∧ E1.fz g ∧ ¬ E1.old g ∧ E1.w0.heap[g]? = some (.stringIter x pos) ∧ ¬ E.fz g := by
  obtain ⟨E', hg, ⟨σ, h1, h2, h3, h4⟩, h5, h6⟩ := h
  have hgo : ¬ E'.old g := fun h => h6 (E'.sub g h)
  have hgE : ¬ E.fz g := fun h => h6 (hg.fz g h)
  let E1 : Env := { P := E'.P, w0 := w, old := E'.old, fz := fun k => E'.fz k ∨ k = g, sub := fun k h => .inl (E'.sub k h), kp := E.kp }
  have gr : Grow E' E1 :=
    { P := rfl, old := fun _ h => h, fz := fun _ h => .inl h, w0 := fun k h => h1.old k h, new := fun _ h => .inl h, size := h1.size, os := h1.os, tape := h1.tape, output := h1.output }
  refine ⟨E1, hg.trans gr, rfl, ⟨E1, .refl E1, σ, ?_, h2, h3, h4⟩, .inr rfl, hgo, h5, hgE⟩
  refine { toFrR := h1.toFrR.grow gr, tmps := h1.tmps, blk := fun b k hb => ?_, inj := h1.inj, old := fun _ _ => rfl, size := Nat.le_refl _, olds := fun k hk => ?_, os := rfl, tape := rfl, output := rfl }
  · refine Blk.grow gr (fun l hl hz => ?_) (h1.blk b k hb)
    rcases hz with hz | hz
    · have hB := h1.blk b k hb
      rw [hl] at hB
      obtain ⟨_, _, _, _, _, _, _, _, q4, _⟩ := hB
      exact q4 hz
    · exact not_iter h1.toMemR h5 hb hl hz
  · rcases hk with hk | hk
    · exact Nat.lt_of_lt_of_le (h1.olds k hk) h1.size
    · subst hk; exact (Array.getElem?_eq_some_iff.1 h5).1

/-- Behind it. -/
theorem GoodI.back {E E1 : Env} {n U : Nat} {s : St} {a : Act} {w : World} {g : Nat} {x : ByteArray} {pos : Nat} (hg : Grow E E1) (hk : E1.kp = E.kp) (hz : E1.fz g) (ho : ¬ E1.old g) (hw : E1.w0.heap[g]? = some (.stringIter x pos)) (hE : ¬ E.fz g)
    (h : Good E1 n U s a w) : GoodI E n U s a w g x pos := by
  obtain ⟨E2, hg2, σ, h1, h2, h3, h4⟩ := h
  have ho2 : ¬ E2.old g := fun h => (hg2.new g h).elim ho (fun q => q hz)
  have gr := hg.trans hg2
  let E3 : Env := { P := E2.P, w0 := E2.w0, old := E2.old, fz := fun k => E2.fz k ∧ k ≠ g, sub := fun k h => ⟨E2.sub k h, fun e => by subst e; exact ho2 h⟩, kp := E2.kp }
  have gr3 : Grow E E3 :=
    { P := gr.P, old := gr.old, fz := fun k h => ⟨gr.fz k h, fun e => by subst e; exact hE h⟩, w0 := gr.w0, new := gr.new, size := gr.size, os := gr.os, tape := gr.tape, output := gr.output }
  refine ⟨E3, gr3, ⟨σ, ?_, h2, by rw [← hk]; exact h3, h4⟩, ?_, fun h => h.2 rfl⟩
  · refine { val := fun t v hv => ?_, defers := h1.defers, tmps := h1.tmps, blk := fun b k hb => ?_, inj := h1.inj, old := fun k hk => h1.old k hk.1, size := h1.size, olds := fun k hk => h1.olds k hk.1, os := h1.os, tape := h1.tape, output := h1.output }
    · obtain ⟨V, q1, q2⟩ := h1.val t v hv
      exact ⟨V, q1, AV.env (pl := false) (fun _ _ h => h) rfl (fun q => by cases q) q2⟩
    · exact Blk.env (E0 := E2) (E' := E3) (pl := false) (fun _ _ h => h) rfl (fun k hk h => hk h.1) (fun q => by cases q) (h1.blk b k hb)
  · rw [h1.old g (hg2.fz g hz), hg2.w0 g hz, hw]

/-- The world with the iterator at another place. -/
theorem GoodI.next {E : Env} {n U : Nat} {s : St} {a : Act} {w : World} {g : Nat} {x : ByteArray} {pos pos' : Nat} (h : GoodI E n U s a w g x pos) : GoodI E n U s a { w with heap := w.heap.setIfInBounds g (.stringIter x pos') } g x pos' := by
  obtain ⟨E', hg, ⟨σ, h1, h2, h3, h4⟩, h5, h6⟩ := h
  have hlt := (Array.getElem?_eq_some_iff.1 h5).1
  have hne : ∀ k, k ≠ g → ({ w with heap := w.heap.setIfInBounds g (.stringIter x pos') } : World).heap[k]? = w.heap[k]? := fun k hk => by
    show (w.heap.setIfInBounds g _)[k]? = _
    rw [Array.getElem?_setIfInBounds_ne (Ne.symm hk)]
  refine ⟨E', hg, ⟨σ, ?_, h2, h3, h4⟩, ?_, h6⟩
  · refine { toFrR := h1.toFrR, tmps := h1.tmps, blk := fun b k hb => ?_, inj := h1.inj, old := fun k hk => ?_, size := ?_, olds := h1.olds, os := h1.os, tape := h1.tape, output := h1.output }
    · exact (h1.blk b k hb).same fun L hL => hne _ (not_iter h1.toMemR h5 hb hL)
    · rw [hne k (fun e => by subst e; exact h6 hk)]
      exact h1.old k hk
    · show _ ≤ (w.heap.setIfInBounds g _).size
      rw [Array.size_setIfInBounds]
      exact h1.size
  · show (w.heap.setIfInBounds g _)[g]? = _
    rw [Array.getElem?_setIfInBounds_self]
    simp [hlt]
theorem GoodI.frame {E : Env} {n U : Nat} {s s' : St} {a a' : Act} {w : World} {g : Nat} {x : ByteArray} {pos : Nat} (h : GoodI E n U s a w g x pos) (hM : s'.2 = s.2) (hn : a'.tmps.size = a.tmps.size) (hf : ∀ E' σ, FrR E' σ s.1 a → FrR E' σ s'.1 a') : GoodI E n U s' a' w g x pos := by
  obtain ⟨E', hg, ⟨σ, h1, h2, h3, h4⟩, h5, h6⟩ := h
  exact ⟨E', hg, ⟨σ, { toFrR := hf _ _ h1.toFrR, tmps := hn.trans h1.tmps, toMemR := by rw [hM]; exact h1.toMemR }, h2, h3, h4⟩, h5, h6⟩
theorem GoodI.val {E : Env} {n U : Nat} {s : St} {a : Act} {w : World} {g : Nat} {x : ByteArray} {pos : Nat} (h : GoodI E n U s a w g x pos) {t : Nat} {v : Value} (ht : look t s.1 = some (.sc (.raw v))) : a.tmps[t]? = some v := by
  obtain ⟨E', _, ⟨σ, h1, _⟩, _⟩ := h
  obtain ⟨V, q1, q2⟩ := h1.val _ _ ht
  rw [q1, show V = v from q2.1]
theorem GoodI.size {E : Env} {n U : Nat} {s : St} {a : Act} {w : World} {g : Nat} {x : ByteArray} {pos : Nat} (h : GoodI E n U s a w g x pos) : a.tmps.size = n := by
  obtain ⟨E', _, ⟨σ, h1, _⟩, _⟩ := h
  exact h1.tmps

theorem run_next_at {P : Program} {w : World} {g : Nat} {s : ByteArray} {pos : Nat} {ty : TypeId} (hg : w.heap[g]? = some (.stringIter s pos)) (h : pos < s.size) :
    (Instr.next (ptr g) true ty).run P w = .ok (.tuple #[.bool true, .int .i64 pos, .int .i32 (Utf8.decode s pos).1]) { w with heap := w.heap.setIfInBounds g (.stringIter s (pos + (Utf8.decode s pos).2)) } := by
  have hlt := (Array.getElem?_eq_some_iff.1 hg).1
  simp only [Instr.next, ptr, getObj, setObj, Sem.run_bind, Sem.run, hg, Result.andThen, h, if_true]
  simp [goInt]
theorem run_next_over {P : Program} {w : World} {g : Nat} {s : ByteArray} {pos : Nat} {ty : TypeId} (hg : w.heap[g]? = some (.stringIter s pos)) (h : ¬ pos < s.size) :
    (Instr.next (ptr g) true ty).run P w = .ok (.tuple #[.bool false]) w := by
  simp [Instr.next, ptr, getObj, Sem.run, hg, h]

variable {B : Bs} {E : Env} {U : Nat} {s : St} {Q : Post}

/-- A round's end. -/
def iterP (U0 t33 g : Nat) (s0 : St) (J : Prop) (Q : Post) : Post
  | .normal, U, s => J ∧ Sub U s U0 (ItS t33 g s0)
  | e, U, s => Q e U s

theorem iterP_ret {U0 t33 g : Nat} {s0 : St} {J : Prop} (h : Q .ret U s) : iterP U0 t33 g s0 J Q .ret U s := h
theorem iterP_normal {U0 t33 g : Nat} {s0 : St} {J : Prop} (h : J) (h' : Sub U s U0 (ItS t33 g s0)) : iterP U0 t33 g s0 J Q .normal U s := ⟨h, h'⟩

/-- 'for i := range x': s0: what is known ahead of it and stays; J: what is known where a round begins. -/
theorem Tri.rangeStr {i10 i2 i11 : Nat} {ops0 ops1 : Array Oper} {body : Code} {o0 o1 o2 o3 : Oper} {t9 t32 t33 t34 t35 : Nat} {ty : TypeId} (s0 : St) (J : Nat → Prop) {x : ByteArray}
    (hq0 : ops0.size = 2) (hq1 : ops1.size = 2) (p0 : ops0[0]? = some o0) (p1 : ops0[1]? = some o1) (p2 : ops1[0]? = some o2) (p3 : ops1[1]? = some o3)
    (w0 : (o0.op, o0.dst, o0.guard) = (.move (.tmp t9), some t32, none)) (w1 : (o1.op, o1.dst, o1.guard) = (.range ty (.tmp t32), some t33, none)) (w2 : (o2.op, o2.dst, o2.guard) = (.next (.tmp t33) true, some t34, none)) (w3 : (o3.op, o3.dst, o3.guard) = (.extract (.tmp t34) 0, some t35, none))
    (hty : B.P.underlying ty = some .string) (hx : look t9 s.1 = some (.sc (.s x))) (hs0 : Sub U s U s0)
    (hb : (Nat.blt t32 B.n && Nat.blt t33 B.n && Nat.blt t34 B.n && Nat.blt t35 B.n) = true) (hne : (!(Nat.beq t32 t33) && !(Nat.beq t33 t34) && !(Nat.beq t33 t35) && !(Nat.beq t34 t35)) = true)
    (hl : ((look t32 s0.1).isNone && (look t33 s0.1).isNone && (look t34 s0.1).isNone && (look t35 s0.1).isNone) = true) (hJ : J 0)
    (hbody : ∀ E g pos r, J pos → pos < x.size → Tri B E body U (ItS2 t33 t34 t35 g pos r s0) (iterP U t33 g s0 (J (pos + (Utf8.decode x pos).2)) (blkP i2 Q)))
    (hend : ∀ pos, J pos → ¬ pos < x.size → Q .normal U s0) :
    Tri B E (.seq (.region i10 ops0 false) (.block i2 (.loop (.seq (.region i11 ops1 false) (.seq (.cond (.tmp t35) .skip (.exit i2)) body))))) U s Q := by
  simp only [Bool.and_eq_true] at hb hne hl
  obtain ⟨⟨⟨b1, b2⟩, b3⟩, b4⟩ := hb
  have lt : ∀ {t : Nat}, Nat.blt t B.n = true → t < B.n := fun {t} h => Nat.le_of_ble_eq_true (show Nat.ble (t + 1) B.n = true from h)
  have ne : ∀ {t u : Nat}, (!(Nat.beq t u)) = true → t ≠ u := fun {t u} h e => by subst e; rw [beqT] at h; cases h
  obtain ⟨⟨⟨n1, n2⟩, n3⟩, n4⟩ := hne
  have none' : ∀ {t : Nat}, (look t s0.1).isNone = true → look t s0.1 = none := fun h => Option.isNone_iff_eq_none.1 h
  obtain ⟨⟨⟨l1, l2⟩, l3⟩, l4⟩ := hl
  simp only [Prod.mk.injEq] at w0 w1 w2 w3
  intro hB a w hg
  refine wp_seq ?_
  refine wp_region ?_
  rw [hq0]
  show wpOps B.P ops0 _ [0, 1] a w
  have hsz : a.tmps.size = B.n := by obtain ⟨_, _, _, h1, _⟩ := hg; exact h1.tmps
  have hx' : a.tmps[t9]? = some (.string x) := by
    obtain ⟨E', _, σ, h1, _⟩ := hg
    obtain ⟨V, q1, q2⟩ := h1.val _ _ hx
    rw [q1, show V = .string x from q2]
  rw [wpOps_cons]
  refine op_wp p0 w0.2.2 (V := .string x) (w' := w) ?_ ?_
  · unfold execOp
    rw [w0.1]
    simp [Act.eval, Array.getD_eq_getD_getElem?, hx']
  rw [wpOps_cons, w0.2.1]
  refine op_wp p1 w1.2.2 (V := ptr w.heap.size) (w' := w.iter x 0) ?_ ?_
  · unfold execOp
    rw [w1.1]
    have : (a.put (some t32) (.string x)).eval (.tmp t32) = .string x := by
      simp only [Act.eval, Array.getD_eq_getD_getElem?]
      rw [put_get (by rw [hsz]; exact lt b1)]
      rfl
    simp only [this, Sem.run_bind]
    rw [run_range_string w ty x (by rw [hty])]
    rfl
  rw [w1.2.1]
  show Exit.then _ _ .normal _ _
  simp only [Exit.then]
  refine wp_block ?_
  have g0 : GoodI E B.n U (ItS t33 w.heap.size s0) ((a.put (some t32) (.string x)).put (some t33) (ptr w.heap.size)) (w.iter x 0) w.heap.size x 0 := by
    obtain ⟨E', hgr, σ, h1, h2, h3, h4⟩ := hs0 _ _ _ _ hg
    have bel : Go.RowKit.Below w.heap.size w (w.iter x 0) := by
      refine ⟨rfl, rfl, rfl, ?_, fun k hk => ?_⟩
      · show _ ≤ (w.heap.push _).size; simp
      · show (w.heap.push _)[k]? = _; rw [Array.getElem?_push_lt hk, Array.getElem?_eq_getElem hk]
    refine ⟨E', hgr, ⟨σ, ?_, h2, h3, h4⟩, World.iter_heap w x 0, fun hz => ?_⟩
    · exact { toFrR := ((h1.toFrR.put0 (none' l1)).put2 (by rw [put_size, hsz]; exact lt b2) ⟨rfl, rfl⟩), tmps := by rw [put_size, put_size]; exact hsz, toMemR := h1.toMemR.below bel }
    · have := h1.olds _ hz
      have := h1.size
      omega
  refine wp_loop_ghost (fun m a w => ∃ pos, x.size - pos = m ∧ J pos ∧ ∃ g, GoodI E B.n U (ItS t33 g s0) a w g x pos) _ ⟨0, rfl, hJ, _, g0⟩ ?_
  rintro m a w ⟨pos, rfl, hJp, g, gI⟩
  refine wp_seq ?_
  refine wp_region ?_
  rw [hq1]
  show wpOps B.P ops1 _ [0, 1] a w
  have hv : a.tmps[t33]? = some (ptr g) := gI.val (by unfold ItS; rw [look_put1, if_pos rfl])
  have hsz : a.tmps.size = B.n := gI.size
  have he33 : a.eval (.tmp t33) = ptr g := by
    simp only [Act.eval, Array.getD_eq_getD_getElem?, hv]; rfl
  have hgh : w.heap[g]? = some (.stringIter x pos) := by obtain ⟨_, _, _, h, _⟩ := gI; exact h
  by_cases hp : pos < x.size
  · rw [wpOps_cons]
    refine op_wp p2 w2.2.2 (V := .tuple #[.bool true, .int .i64 pos, .int .i32 (Utf8.decode x pos).1]) (w' := { w with heap := w.heap.setIfInBounds g (.stringIter x (pos + (Utf8.decode x pos).2)) }) ?_ ?_
    · unfold execOp
      rw [w2.1]
      simp only [he33, Sem.run_bind]
      rw [run_next_at hgh hp]
      rfl
    rw [wpOps_cons, w2.2.1]
    refine op_wp p3 w3.2.2 (V := .bool true) (w' := { w with heap := w.heap.setIfInBounds g (.stringIter x (pos + (Utf8.decode x pos).2)) }) ?_ ?_
    · unfold execOp
      rw [w3.1]
      have : (a.put (some t34) (.tuple #[.bool true, .int .i64 pos, .int .i32 (Utf8.decode x pos).1])).eval (.tmp t34) = .tuple #[.bool true, .int .i64 pos, .int .i32 (Utf8.decode x pos).1] := by
        simp only [Act.eval, Array.getD_eq_getD_getElem?]
        rw [put_get (by rw [hsz]; exact lt b3)]
        rfl
      simp [this, Instr.extract]
    rw [w3.2.1]
    show Exit.then _ _ .normal _ _
    simp only [Exit.then]
    refine wp_seq ?_
    refine wp_cond_true ?_ ?_
    · simp only [Act.eval, Array.getD_eq_getD_getElem?]
      rw [put_get (by rw [put_size, hsz]; exact lt b4)]
      rfl
    refine wp_skip ?_
    show Exit.then _ _ .normal _ _
    simp only [Exit.then]
    have gI2 : GoodI E B.n U (ItS2 t33 t34 t35 g pos (Utf8.decode x pos).1 s0) ((a.put (some t34) (.tuple #[.bool true, .int .i64 pos, .int .i32 (Utf8.decode x pos).1])).put (some t35) (.bool true)) { w with heap := w.heap.setIfInBounds g (.stringIter x (pos + (Utf8.decode x pos).2)) } g x (pos + (Utf8.decode x pos).2) := by
      refine (gI.next (pos' := pos + (Utf8.decode x pos).2)).frame rfl (by rw [put_size, put_size]) fun E' σ hf => ?_
      exact (hf.put2 (v := .tup [.sc (.b true), .sc (.i .i64 pos), .sc (.i .i32 (Utf8.decode x pos).1)]) (by rw [hsz]; exact lt b3) ⟨#[.bool true, .int .i64 pos, .int .i32 (Utf8.decode x pos).1], rfl, rfl, rfl, rfl, trivial⟩).put2 (by rw [put_size, hsz]; exact lt b4) rfl
    obtain ⟨E1, e1, e2, e3, e4, e5, e6, e7⟩ := gI2.hold
    refine wp_mono (hbody E1 g pos _ hJp hp ⟨e1.P.trans hB.hP, hB.hG.grow e1, hB.ok⟩ _ _ e3) ?_
    rintro e a' w' ⟨U', s', h1, h2⟩
    have back : Good E B.n U' s' a' w' := by
      obtain ⟨E2, q1, q2⟩ := h1
      exact ⟨E2, e1.trans q1, by rw [← e2]; exact q2⟩
    cases e with
    | normal =>
      obtain ⟨j1, j2⟩ := h2
      have := (decode_skips x pos).1
      exact ⟨_, (by show x.size - (pos + (Utf8.decode x pos).2) < x.size - pos; omega), pos + (Utf8.decode x pos).2, rfl, j1, g, GoodI.back e1 e2 e4 e5 e6 e7 (j2 _ _ _ _ h1)⟩
    | exit id =>
      simp only [iterP, blkP] at h2
      simp only [Exit.then, Exit.inBlock]
      split
      · rename_i hid
        rw [if_pos hid] at h2
        exact ⟨U', s', back, h2⟩
      · rename_i hid
        rw [if_neg hid] at h2
        exact ⟨U', s', back, h2⟩
    | goto l => exact ⟨U', s', back, h2⟩
    | ret => exact ⟨U', s', back, h2⟩
    | panic ch => exact ⟨U', s', back, h2⟩
    | outgrown => exact ⟨U', s', back, h2⟩
  · rw [wpOps_cons]
    refine op_wp p2 w2.2.2 (V := .tuple #[.bool false]) (w' := w) ?_ ?_
    · unfold execOp
      rw [w2.1]
      simp only [he33, Sem.run_bind]
      rw [run_next_over hgh hp]
      rfl
    rw [wpOps_cons, w2.2.1]
    refine op_wp p3 w3.2.2 (V := .bool false) (w' := w) ?_ ?_
    · unfold execOp
      rw [w3.1]
      have : (a.put (some t34) (.tuple #[.bool false])).eval (.tmp t34) = .tuple #[.bool false] := by
        simp only [Act.eval, Array.getD_eq_getD_getElem?]
        rw [put_get (by rw [hsz]; exact lt b3)]
        rfl
      simp [this, Instr.extract]
    rw [w3.2.1]
    show Exit.then _ _ .normal _ _
    simp only [Exit.then]
    refine wp_seq ?_
    refine wp_cond_false ?_ ?_
    · simp only [Act.eval, Array.getD_eq_getD_getElem?]
      rw [put_get (by rw [put_size, hsz]; exact lt b4)]
      rfl
    refine wp_exit ?_
    simp only [Exit.then, Exit.inBlock, if_true]
    refine ⟨U, s0, ?_, hend pos hJp hp⟩
    have gI2 : GoodI E B.n U s0 ((a.put (some t34) (.tuple #[.bool false])).put (some t35) (.bool false)) w g x pos := by
      refine gI.frame rfl (by rw [put_size, put_size]) fun E' σ hf => ?_
      refine ⟨fun t v ht => ?_, hf.defers⟩
      obtain ⟨V, q1, q2⟩ := hf.val t v (by unfold ItS; rw [look_put1, if_neg (fun e => by subst e; rw [none' l2] at ht; cases ht)]; exact ht)
      refine ⟨V, ?_, q2⟩
      rw [put_ne (fun e => by subst e; rw [none' l4] at ht; cases ht), put_ne (fun e => by subst e; rw [none' l3] at ht; cases ht)]
      exact q1
    obtain ⟨E', q1, q2, _⟩ := gI2
    exact ⟨E', q1, q2⟩

end Go.Vm
