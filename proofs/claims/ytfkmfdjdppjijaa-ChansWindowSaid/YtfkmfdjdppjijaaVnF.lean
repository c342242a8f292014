/- What a deed of the small machine is worth, fourth part: memory. -/
import Derived.Test.YtfkmfdjdppjijaaVnE
set_option linter.unusedVariables false
set_option linter.unusedSimpArgs false
namespace Go.Vm
open Go

section
variable {E : Env} {σ : Sig} {nm : Nat} {M : Mem} {w : World} {A : Deed} {r : Result Next} {P : Program}

theorem run_und {t : TypeId} {d : TypeDesc} (h : P.underlying t = some d) (w : World) : (underlying t).run P w = .ok d w := by simp [underlying, h]

theorem run_sz {t : TypeId} {s : Nat} (h : sizeT P t = some s) (w : World) : (sizeOf t).run P w = .ok s w := by
  unfold sizeT at h
  cases hi : P.info? t with
  | none => simp [hi] at h
  | some i => simp only [hi, Option.map_some, Option.some.injEq] at h; simp [sizeOf, typeInfo, hi, h]

theorem run_ag {t : TypeId} {b : Bool} (h : isAggT P t = some b) (w : World) : (isAgg t).run P w = .ok b w := by
  unfold isAggT at h
  split at h
  · rename_i d hd; simp only [Option.some.injEq] at h; subst h; simp [isAgg, run_und hd]
  · rename_i d hd; simp only [Option.some.injEq] at h; subst h; simp [isAgg, run_und hd]
  · rename_i d h1 h2 hd
    simp only [Option.some.injEq] at h; subst h
    unfold isAgg
    simp only [Sem.run_bind, run_und hd, Result.andThen_ok]
    rfl
  · cases h

theorem run_zero {t : TypeId} {z : Value} (h : (P.info? t).map (·.zero) = some (some z)) (w : World) : (zeroValue t).run P w = .ok z w := by
  cases hi : P.info? t with
  | none => simp [hi] at h
  | some i => simp only [hi, Option.map_some, Option.some.injEq] at h; simp [zeroValue, typeInfo, hi, h]

/-! ### places -/
theorem addr_add (g o n : Nat) : (⟨g, o, none⟩ : Addr).add n = ⟨g, o + n, none⟩ := by
  unfold Addr.add
  split
  · rename_i h; subst h; rfl
  · rfl

theorem add_add (a : Addr) (n m : Nat) : (a.add n).add m = a.add (n + m) := by
  by_cases h : m = 0
  · subst h; rfl
  · by_cases h' : n = 0
    · subst h'; simp [Addr.add]
    · simp [Addr.add, h, h', Nat.add_assoc]

theorem add_zero (a : Addr) : a.add 0 = a := rfl
theorem add_block (a : Addr) (n : Nat) : (a.add n).block = a.block := by unfold Addr.add; split <;> rfl

theorem fits_fieldAddr {s : TypeId} {x : AV} {X : Value} {f : Nat} (hx : AVR E σ x X) (hM : MemR E σ M w) (hA : fieldAddrOp E.P s x f = some A) :
    Fits E σ nm M A ((do pure (.value (← Instr.fieldAt s X f)) : Sem Next).run E.P w) := by
  unfold fieldAddrOp at hA
  split at hA
  · rename_i fs hs
    split at hA
    · rename_i fd hfd
      split at hA
      · rename_i sz b o hsz
        obtain ⟨L, hL, rfl⟩ := hx
        have hf : fs[f]? = some fd := by simpa using hfd
        refine fits_pure hA hM fun hC => ⟨_, run_v (V := .pointer (some ⟨L.g, L.β + (o + fd.offset), none⟩)) ?_, ⟨L, hL, rfl⟩⟩
        unfold Instr.fieldAt
        simp only [Sem.run_bind, run_und hs, Result.andThen_ok, hf]
        simp only [Instr.sureAddr, pure_bind, fieldPlace, Sem.run_bind, run_sz hsz, Result.andThen_ok, Nat.add_one_ne_zero, if_false, Sem.run_pure, addr_add, Nat.add_assoc]
      · cases hA
    · cases hA
  · cases hA

theorem fits_indexAddr {t : TypeId} {x ix : AV} {X IX : Value} (hx : AVR E σ x X) (hix : AVR E σ ix IX) (hM : MemR E σ M w) (hA : indexAddrOp E.P t x ix = some A) :
    Fits E σ nm M A ((do pure (.value (← Instr.indexAt t X IX)) : Sem Next).run E.P w) := by
  have key : ∀ {k : IntKind} {i : Int} {base : Option Addr} {a : Addr} {len e s : Nat} {d : TypeDesc}, E.P.underlying t = some d → sizeT E.P e = some s →
      ((d = .array len e ∧ X = .pointer (some a)) ∨ (d = .slice e ∧ ∃ c, X = .slice (some a) len c)) → 0 ≤ i ∧ i < (len : Int) → (Instr.indexAt t X (.int k i)).run E.P w = .ok (.pointer (some (a.add (i.toNat * s)))) w := by
    intro k i base a len e s d hd hs hX hi
    unfold Instr.indexAt
    rcases hX with ⟨rfl, rfl⟩ | ⟨rfl, c, rfl⟩
    · simp [asIntOf, run_und hd, Instr.sureAddr, run_sz hs, hi]
    · simp [asIntOf, run_und hd, run_sz hs, hi]
  unfold indexAddrOp at hA
  split at hA
  · rename_i n e b o kk i ht
    obtain ⟨L, hL, rfl⟩ := hx
    simp only [AVR, ScR] at hix; subst hix
    split at hA
    · rename_i s hs
      refine fits_pure hA hM fun hC => ⟨_, run_v (key (base := none) ht hs (.inl ⟨rfl, rfl⟩) hC), ⟨L, hL, ?_⟩⟩
      simp [addr_add, Nat.add_assoc, adr_eq]
    · cases hA
  · rename_i n e k xs j kk i ht
    obtain ⟨ad, rfl, hr⟩ := hx
    simp only [AVR, ScR] at hix; subst hix
    split at hA
    · rename_i hs
      refine fits_pure hA hM fun hC => ⟨_, run_v (key (base := none) ht hs (.inl ⟨rfl, rfl⟩) hC), ⟨ad, ?_, hr⟩⟩
      simp [add_add]
    · cases hA
  · rename_i e b off len es cap kk i ht
    simp only [AVR, ScR] at hix; subst hix
    split at hA
    · rename_i s hs
      split at hA
      · refine fits_pure hA hM fun hC => ?_
        rcases hx with ⟨h0, _⟩ | ⟨L, c, hL, rfl, _⟩
        · omega
        · refine ⟨_, run_v (key (base := none) ht hs (.inr ⟨rfl, c, rfl⟩) hC), ⟨L, hL, ?_⟩⟩
          simp [addr_add, Nat.add_assoc, adr_eq]
      · cases hA
    · cases hA
  · rename_i e k xs kk i ht
    simp only [AVR, ScR] at hix; subst hix
    obtain ⟨B, c, rfl, hc, hr⟩ := hx
    split at hA
    · rename_i hs
      refine fits_pure hA hM fun hC => ?_
      obtain ⟨ad, rfl, hr2⟩ := hr (by omega)
      refine ⟨_, run_v (key (base := none) ht hs (.inr ⟨rfl, c, rfl⟩) hC), ⟨ad, by simp, hr2⟩⟩
    · cases hA
  · rename_i e xs kk i ht
    simp only [AVR, ScR] at hix; subst hix
    obtain ⟨B, c, rfl, hc, hr⟩ := hx
    split at hA
    · rename_i hs
      refine fits_pure hA hM fun hC => ?_
      obtain ⟨ad, rfl, ho, hr⟩ := hr (by omega)
      refine ⟨_, run_v (key (base := none) ht hs (.inr ⟨rfl, c, rfl⟩) hC), ⟨ad.add (i.toNat * 1), rfl, by rw [add_block]; exact ho, ?_⟩⟩
      have := hr i.toNat (by omega)
      simpa using this
    · cases hA
  · rename_i e xs kk i ht
    simp only [AVR, ScR] at hix; subst hix
    obtain ⟨B, c, rfl, hc, hr⟩ := hx
    split at hA
    · rename_i hs
      refine fits_pure hA hM fun hC => ?_
      obtain ⟨ad, rfl, ho, hr⟩ := hr (by omega)
      obtain ⟨v, hv, hro⟩ := hr i.toNat (by omega)
      refine ⟨_, run_v (key (base := none) ht hs (.inr ⟨rfl, c, rfl⟩) hC), ⟨ad.add (i.toNat * 1), v, rfl, by rw [add_block]; exact ho, by simpa using hv, hro⟩⟩
    · cases hA
  · cases hA

/-! ### loads -/
theorem MemR.oldCell (hM : MemR E σ M w) {a : Addr} (h : E.old a.block) : w.cell? a = E.w0.cell? a := by
  simp only [World.cell?, hM.old _ (E.sub _ h)]

theorem load_one {t : TypeId} {a : Addr} {v : Value} (h : isAggT P t = some false) (hc : w.cell? a = some v) : (loadVar t a).run P w = .ok v w := by
  simp [loadVar, run_ag h, hc]

theorem load_many {t : TypeId} {a : Addr} {cs : List Value} {s : Nat} (h : isAggT P t = some true) (hs : sizeT P t = some s) (hl : cs.length = s) (hc : ∀ j v, cs[j]? = some v → w.cell? (a.add j) = some v) :
    (loadVar t a).run P w = .ok (.agg cs.toArray) w := by
  unfold loadVar
  simp only [Sem.run_bind, run_ag h, Result.andThen_ok, if_true, run_sz hs]
  rw [← hl, run_loadCells_list w a cs hc]
  simp

theorem Blk.sub_get {k : Blk} (hk : k.good) {o s : Nat} (h : (k.sub o s).1) : (k.sub o s).2.good ∧ (k.sub o s).2.len = s ∧ o + s ≤ k.len ∧ ∀ j, j < s → (k.sub o s).2.get? j = k.get? (o + j) := by
  cases k with
  | ints kd n xs =>
    simp only [Blk.good] at hk
    unfold Blk.sub at h ⊢
    simp only at h ⊢
    cases hb : (Nat.beq s n && Nat.beq o 0)
    · simp only [hb, cond_false] at h ⊢
      refine ⟨?_, rfl, h, ?_⟩
      · simp only [Blk.good, List.length_take, List.length_drop]; omega
      · intro j hj
        simp only [Blk.get?, List.getElem?_take, if_pos hj, List.getElem?_drop]
    · simp only [hb, cond_true] at h ⊢
      simp only [Bool.and_eq_true] at hb
      have h1 := Nat.eq_of_beq_eq_true hb.1
      have h2 := Nat.eq_of_beq_eq_true hb.2
      subst h1 h2
      refine ⟨hk, rfl, by simp [Blk.len], ?_⟩
      intro j hj
      simp
  | cells l =>
    unfold Blk.sub at h ⊢
    simp only at h ⊢
    refine ⟨trivial, ?_, h, ?_⟩
    · simp only [Blk.len, List.length_take, List.length_drop]; omega
    · intro j hj
      simp only [Blk.get?, List.getElem?_take, if_pos hj, List.getElem?_drop]
  | vec v l =>
    unfold Blk.sub at h ⊢
    simp only at h ⊢
    cases hb : Nat.beq o 0
    · simp only [hb, cond_false] at h ⊢
      refine ⟨trivial, ?_, h, ?_⟩
      · simp only [Blk.len, List.length_take, List.length_drop]; omega
      · intro j hj
        simp only [Blk.get?, List.getElem?_take, if_pos hj, List.getElem?_drop]
    · simp only [hb, cond_true] at h ⊢
      have h2 := Nat.eq_of_beq_eq_true hb
      subst h2
      refine ⟨trivial, ?_, by simpa [Blk.len] using h, ?_⟩
      · simp only [Blk.len, List.length_take]; omega
      · intro j hj
        simp only [Blk.get?, List.getElem?_take, if_pos hj, Nat.zero_add]

theorem Blk.get_some {k : Blk} (hk : k.good) {j : Nat} (h : j < k.len) : ∃ s, k.get? j = some s := by
  cases k with
  | ints kd n xs =>
    simp only [Blk.good, Blk.len] at hk h
    exact ⟨_, by simp [Blk.get?, List.getElem?_eq_getElem (show j < xs.length by omega)]; rfl⟩
  | cells l => exact ⟨_, by simp only [Blk.get?]; exact List.getElem?_eq_getElem h⟩
  | vec v l => exact ⟨_, by simp only [Blk.get?]; rw [List.getElem?_eq_getElem h]; rfl⟩

/-- The cells that a block says, as values. -/
theorem BlkR.list {k : Blk} {L : Loc} (h : BlkR E σ w k (.at L)) {o s : Nat} (hs : (k.sub o s).1) :
    ∃ cs : List Value, cs.length = s ∧ (∀ j v, cs[j]? = some v → w.cell? ((⟨L.g, L.β + o, none⟩ : Addr).add j) = some v) ∧ CellsR E σ (k.sub o s).2 cs := by
  obtain ⟨g1, g2, g3, g4⟩ := Blk.sub_get h.1 hs
  have hread : ∀ j, j < s → ∃ v, w.cell? ⟨L.g, L.β + (o + j), none⟩ = some v ∧ ∀ sc, (k.sub o s).2.get? j = some sc → ScR E σ sc v := by
    intro j hj
    obtain ⟨sc, hsc⟩ := Blk.get_some h.1 (show o + j < k.len by omega)
    obtain ⟨v, h1, h2⟩ := h.read hsc
    refine ⟨v, h1, fun sc' h' => ?_⟩
    rw [g4 j hj, hsc] at h'
    injection h' with h'
    subst h'
    exact h2
  let f : Nat → Value := fun j => (w.cell? ⟨L.g, L.β + (o + j), none⟩).getD undef
  have hf : ∀ j, j < s → w.cell? ⟨L.g, L.β + (o + j), none⟩ = some (f j) := by
    intro j hj
    obtain ⟨v, h1, _⟩ := hread j hj
    simp [f, h1]
  refine ⟨(List.range s).map f, by simp, ?_, ⟨g1, by simp [g2], ?_⟩⟩
  · intro j v hv
    simp only [List.getElem?_map, Option.map_eq_some_iff] at hv
    obtain ⟨i, hi, rfl⟩ := hv
    obtain ⟨hlt, rfl⟩ := List.getElem?_eq_some_iff.1 hi
    simp only [List.length_range] at hlt
    rw [addr_add, Nat.add_assoc]
    simpa using hf j hlt
  · intro j sc hsc
    have hlt := Blk.get?_lt g1 hsc
    rw [g2] at hlt
    obtain ⟨v, h1, h2⟩ := hread j hlt
    refine ⟨f j, by simp [List.getElem?_range, hlt], ?_⟩
    rw [hf j hlt] at h1
    injection h1 with h1
    rw [h1]
    exact h2 sc hsc

theorem fits_load_op {t : TypeId} {x : AV} {X : Value} (hx : AVR E σ x X) (hM : MemR E σ M w) (hA : loadOp E.P t x = some A) :
    Fits E σ nm M A ((do pure (.value (← Instr.loadAt t X)) : Sem Next).run E.P w) := by
  unfold loadOp at hA
  split at hA
  · rename_i hag hsz
    split at hA
    · rename_i b o
      obtain ⟨L, hL, rfl⟩ := hx
      refine fits_load hA hM fun k C v hk hf hC => ?_
      simp only [Option.some.injEq, Prod.mk.injEq] at hf
      obtain ⟨rfl, rfl⟩ := hf
      have hB := hM.blk b k hk
      rw [hL] at hB
      obtain ⟨v, h1, h2⟩ := hB.read (Blk.at_get hB.1 hC)
      refine ⟨v, run_v ?_, h2⟩
      simp [Instr.loadAt, Instr.sureAddr, load_one hag h1]
    · rename_i k xs j
      obtain ⟨ad, rfl, ho, hr⟩ := hx
      refine fits_pure hA hM fun hC => ⟨_, run_v (V := .int k (xs.getD j 0)) ?_, rfl⟩
      have : w.cell? (ad.add j) = some (.int k (xs.getD j 0)) := by rw [hM.oldCell (by rw [add_block]; exact ho)]; exact hr j hC
      simp [Instr.loadAt, Instr.sureAddr, load_one hag this]
    · rename_i s
      obtain ⟨ad, rfl, ho, hr⟩ := hx
      refine fits_pure hA hM fun hC => ⟨_, run_v (V := .string s) ?_, rfl⟩
      have : w.cell? ad = some (.string s) := by rw [hM.oldCell ho]; exact hr
      simp [Instr.loadAt, Instr.sureAddr, load_one hag this]
    · rename_i xs
      obtain ⟨ad, v, rfl, ho, hr, hro⟩ := hx
      refine fits_pure hA hM fun hC => ⟨_, run_v (V := v) ?_, hro⟩
      have : w.cell? ad = some v := by rw [hM.oldCell ho]; exact hr
      simp [Instr.loadAt, Instr.sureAddr, load_one hag this]
    · cases hA
  · rename_i s hag hsz
    split at hA
    · rename_i b o
      obtain ⟨L, hL, rfl⟩ := hx
      refine fits_load hA hM fun k C v hk hf hC => ?_
      simp only [Option.some.injEq, Prod.mk.injEq] at hf
      obtain ⟨rfl, rfl⟩ := hf
      have hB := hM.blk b k hk
      rw [hL] at hB
      obtain ⟨cs, h1, h2, h3⟩ := hB.list hC
      refine ⟨.agg cs.toArray, run_v ?_, h3.av⟩
      simp only [Instr.loadAt, Instr.sureAddr, pure_bind]
      exact load_many hag hsz h1 h2
    · rename_i k xs j
      obtain ⟨ad, rfl, ho, hr⟩ := hx
      refine fits_pure hA hM fun hC => ⟨_, run_v (V := .agg (intVals k ((xs.drop j).take s)).toArray) ?_, by simp; omega, rfl⟩
      simp only [Instr.loadAt, Instr.sureAddr, pure_bind]
      refine load_many hag hsz (by simp [intVals]; omega) fun i v hv => ?_
      simp only [intVals, List.getElem?_map, Option.map_eq_some_iff] at hv
      obtain ⟨y, hy, rfl⟩ := hv
      rw [List.getElem?_take] at hy
      split at hy
      · rename_i hi
        rw [List.getElem?_drop] at hy
        rw [add_add, hM.oldCell (by rw [add_block]; exact ho), hr (j + i) (by omega)]
        simp [hy]
      · cases hy
    · cases hA
  · cases hA

end
end Go.Vm
