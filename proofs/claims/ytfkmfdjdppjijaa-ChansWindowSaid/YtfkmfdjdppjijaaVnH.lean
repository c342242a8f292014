/- What a deed of the small machine is worth, sixth part: stores, new variables, values that are built. -/
import Derived.Test.YtfkmfdjdppjijaaVnG
set_option linter.unusedVariables false
set_option linter.unusedSimpArgs false
namespace Go.Vm
open Go

section
variable {E : Env} {σ : Sig} {nm : Nat} {M : Mem} {w : World} {A : Deed} {r : Result Next} {P : Program}

theorem fits_store_op {t : TypeId} {x v : AV} {X V : Value} (hx : AVR E σ x X) (hv : AVR E σ v V) (hM : MemR E σ M w) (hA : storeOp E.P t x v = some A) :
    Fits E σ nm M A ((do Instr.storeAt t X V; pure .skip : Sem Next).run E.P w) := by
  unfold storeOp at hA
  split at hA
  · rename_i s b o hsz
    obtain ⟨L, hL, rfl⟩ := hx
    refine fits_store hA fun k C k' hk hf hC => ?_
    split at hf
    · rename_i C1 m k1 hput
      simp only [Option.some.injEq, Prod.mk.injEq] at hf
      obtain ⟨rfl, rfl⟩ := hf
      obtain ⟨hC1, rfl⟩ := hC
      have hB := hM.blk b k hk
      rw [hL] at hB
      obtain ⟨p1, p2, p3, p4, p5, p6⟩ := Blk.put_get hB.1 hv hput hC1
      have hB' := hB
      obtain ⟨hgood, arr, elem, lo, hi, h1, h2, h3, h4, h5, h6⟩ := hB'
      obtain ⟨w', arr', a1, a2, a3, a4, a5, a6, a7, a8, a9⟩ := run_storeCells_any (P := E.P) L.g (L.β + o) elem lo hi V.cells.toList 0 arr w h1 (by omega) p5 (by rw [h2]; exact h5.1)
      refine ⟨w', ?_, ?_⟩
      · have hcs : V.cells.size = m := by simpa using p4
        simp only [Instr.storeAt, Instr.sureAddr, pure_bind, storeVar, Sem.run_bind, run_sz hsz, Result.andThen_ok, hcs, ne_eq, not_true_eq_false, if_false]
        simp [a1]
      · refine hM.turn hk hL h1 a2 a3 a5 a6 a7 a8 a9 p1 p2 fun j sc hs => ?_
        have hj := Blk.get?_lt p1 hs
        have := p6 j sc hs
        rw [a4]
        by_cases hjo : o ≤ j ∧ j < o + m
        · rw [if_pos hjo] at this
          obtain ⟨u, hu, hr⟩ := this
          rw [if_pos (by omega)]
          refine ⟨u, ?_, hr⟩
          have : L.β + j - (L.β + o + 0) = j - o := by omega
          rw [this]; exact hu
        · rw [if_neg hjo] at this
          rw [if_neg (by omega)]
          exact h6 j sc this
    · cases hf
  · cases hA

/-- A new block from cells. -/
theorem MemR.cells {w' : World} {k : Blk} {arr : Array Value} {elem lo hi : Nat} (hM : MemR E σ M w) (hn : σ nm = .unset)
    (hw : w'.heap = w.heap.push (.cells arr elem (lo, hi))) (hos : w'.os = w.os) (htape : w'.tape = w.tape) (hout : w'.output = w.output)
    (hfz : Unfz lo hi arr.size) {l : List Value} (hk : CellsR E σ k l) (hl : ∀ (j : Nat) (v : Value), l[j]? = some v → arr[j]? = some v) (hle : l.length ≤ arr.size) :
    MemR E (upd σ nm (.at ⟨w.heap.size, 0, arr.size⟩)) (put1 nm k M) w' := by
  obtain ⟨h1, h2, h3⟩ := hk
  refine hM.new hn hw hos htape hout h1 (by omega) hfz fun j s hs => ?_
  obtain ⟨v, hv, hr⟩ := h3 j s hs
  exact ⟨v, hl j v hv, hr⟩

theorem fits_cells {C : Prop} {k : Blk} (hM : MemR E σ M w) (hn : ∀ m, nm ≤ m → m < nm + 16 → σ m = .unset) (hA : newD nm C k (.sc (.p nm 0)) = some A)
    {elem : TypeId} {cs : Array Value} (hr : C → r = .ok (.value (.pointer (some ⟨w.heap.size, 0, none⟩))) { w with heap := w.heap.push (.cells cs elem) }) (hk : C → CellsR E σ k cs.toList) : Fits E σ nm M A r := by
  refine fits_new hA hM hn fun hC => ⟨_, _, upd σ nm (.at ⟨w.heap.size, 0, cs.size⟩), hr hC, ext_upd _ (hn nm (Nat.le_refl _) (by omega)), fun m hm => upd_other σ _ hm, ⟨_, upd_same .., by simp⟩, ?_⟩
  exact hM.cells (hn nm (Nat.le_refl _) (by omega)) rfl rfl rfl rfl ⟨fun j hj => by omega, Nat.le_refl _⟩ (hk hC) (fun j v hv => by simpa using hv) (by simp)

theorem fits_alloc {t : TypeId} (hM : MemR E σ M w) (hn : ∀ m, nm ≤ m → m < nm + 16 → σ m = .unset) (hA : allocOp E.P t nm = some A) :
    Fits E σ nm M A ((do pure (.value (← Instr.alloc t true (.tuple #[]))) : Sem Next).run E.P w) := by
  unfold allocOp at hA
  split at hA
  · rename_i z hz
    split at hA
    · rename_i k hk
      refine fits_cells hM hn hA (elem := t) (cs := z.cells) (fun _ => run_v ?_) (fun _ => cellsOfV_R hk)
      simp only [Instr.alloc, Sem.run_bind, run_zero hz, Result.andThen_ok]
      simp [newVar, newRow]
    · cases hA
  · cases hA

theorem fits_box {t : TypeId} {v : AV} {V : Value} (hv : AVR E σ v V) (hM : MemR E σ M w) (hn : ∀ m, nm ≤ m → m < nm + 16 → σ m = .unset) (hA : boxOp v nm = some A) :
    Fits E σ nm M A ((do pure (.value (← Instr.box t V)) : Sem Next).run E.P w) := by
  unfold boxOp at hA
  split at hA
  · rename_i k hk
    refine fits_cells hM hn hA (elem := t) (cs := V.cells) (fun _ => run_v ?_) (fun _ => AV.blk_R hv hk)
    simp [Instr.box, newVar, newRow]
  · cases hA

/-! ### parts laid over cells -/
theorem splat_get (off : Nat) : ∀ (vs : List Value) (i : Nat) (cs : Array Value) (j : Nat), off + i + vs.length ≤ cs.size →
    ((vs.zipIdx i).foldl (fun (cs : Array Value) (x : Value × Nat) => cs.setIfInBounds (off + x.2) x.1) cs).size = cs.size ∧
    ((vs.zipIdx i).foldl (fun (cs : Array Value) (x : Value × Nat) => cs.setIfInBounds (off + x.2) x.1) cs)[j]? = if off + i ≤ j ∧ j < off + i + vs.length then vs[j - (off + i)]? else cs[j]?
  | [], i, cs, j, _ => by refine ⟨rfl, ?_⟩; rw [if_neg (by simp only [List.length_nil]; omega)]; rfl
  | v :: vs, i, cs, j, h => by
    simp only [List.length_cons] at h
    have ih := splat_get off vs (i + 1) (cs.setIfInBounds (off + i) v) j (by simp; omega)
    simp only [List.zipIdx_cons, List.foldl_cons]
    refine ⟨by simpa using ih.1, ?_⟩
    rw [ih.2]
    by_cases hj : off + i ≤ j ∧ j < off + i + (v :: vs).length
    · rw [if_pos hj]
      simp only [List.length_cons] at hj
      by_cases hj2 : j = off + i
      · subst hj2
        rw [if_neg (by omega), Array.getElem?_setIfInBounds_self]
        simp; omega
      · rw [if_pos (by omega)]
        have : j - (off + i) = (j - (off + (i + 1))) + 1 := by omega
        rw [this, List.getElem?_cons_succ]
    · rw [if_neg hj]
      simp only [List.length_cons] at hj
      rw [if_neg (by omega), Array.getElem?_setIfInBounds_ne (by omega)]

theorem fill_R (place : Nat → Option (Nat × Nat)) : ∀ (parts : List (Nat × AV)) (vs : List (Nat × Value)) (k k' : Blk) (cs : Array Value) (C : Prop),
    All2 (fun (p : Nat × AV) (q : Nat × Value) => p.1 = q.1 ∧ AVR E σ p.2 q.2) parts vs → CellsR E σ k cs.toList → fillB place k parts = some (C, k') → C →
    ∃ cs', Instr.fill place cs vs = some cs' ∧ CellsR E σ k' cs'.toList ∧ cs'.size = cs.size
  | [], [], k, k', cs, C, _, hk, h, _ => by
    simp only [fillB, Option.some.injEq, Prod.mk.injEq] at h
    obtain ⟨_, rfl⟩ := h
    exact ⟨cs, rfl, hk, rfl⟩
  | (i, v) :: parts, (i', V) :: vs, k, k', cs, C, ⟨⟨hi, hv⟩, hrest⟩, hk, h, hC => by
    simp only at hi hv
    subst hi
    simp only [fillB] at h
    split at h
    · cases h
    · rename_i off size hp
      split at h
      · cases h
      · rename_i C1 m k1 hput
        split at h
        · cases h
        · rename_i C2 k2 hfill
          simp only [Option.some.injEq, Prod.mk.injEq] at h
          obtain ⟨rfl, rfl⟩ := h
          obtain ⟨⟨hC1, rfl⟩, hC2⟩ := hC
          obtain ⟨g1, g2, g3⟩ := hk
          obtain ⟨p1, p2, p3, p4, p5, p6⟩ := Blk.put_get g1 hv hput hC1
          have hsz : V.cells.size = m := by simpa using p4
          have hcs : cs.toList.length = cs.size := by simp
          have hle : off + V.cells.toList.length ≤ cs.size := by omega
          let cs1 : Array Value := V.cells.zipIdx.foldl (fun cs (x : Value × Nat) => cs.setIfInBounds (off + x.2) x.1) cs
          have e1 : cs1 = (V.cells.toList.zipIdx 0).foldl (fun (cs : Array Value) (x : Value × Nat) => cs.setIfInBounds (off + x.2) x.1) cs := by
            simp only [cs1]
            rw [← Array.foldl_toList, Array.toList_zipIdx]
          have hs1 : cs1.size = cs.size := by rw [e1]; exact (splat_get off V.cells.toList 0 cs 0 (by omega)).1
          have hg : ∀ j, cs1[j]? = if off ≤ j ∧ j < off + m then V.cells.toList[j - off]? else cs[j]? := by
            intro j
            rw [e1, (splat_get off V.cells.toList 0 cs j (by omega)).2, p4]
            rfl
          have hk1 : CellsR E σ k1 cs1.toList := by
            refine ⟨p1, by rw [p2, g2]; simp [hs1], fun j s hs => ?_⟩
            have := p6 j s hs
            simp only [Array.getElem?_toList]
            rw [hg]
            by_cases hj : off ≤ j ∧ j < off + m
            · rw [if_pos hj] at this ⊢
              exact this
            · rw [if_neg hj] at this ⊢
              have := g3 j s this
              simpa using this
          obtain ⟨cs', q1, q2, q3⟩ := fill_R place parts vs k1 k2 cs1 C2 hrest hk1 hfill hC2
          refine ⟨cs', ?_, q2, by rw [q3, hs1]⟩
          simp only [Instr.fill, hp]
          have : (V.cells.size ≠ m || off + V.cells.size > cs.size) = false := by
            simp [hsz]; omega
          simp only [hsz, ne_eq, not_true_eq_false, decide_false, Bool.false_or]
          rw [if_neg (by simp; omega)]
          exact q1
  | [], _ :: _, _, _, _, _, h, _, _, _ => h.elim
  | _ :: _, [], _, _, _, _, h, _, _, _ => h.elim

end
end Go.Vm
