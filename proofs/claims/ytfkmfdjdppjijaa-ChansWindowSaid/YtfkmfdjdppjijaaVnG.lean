/- What a deed of the small machine is worth, fifth part: what is written, and what is new. -/
import Derived.Test.YtfkmfdjdppjijaaVnF
set_option linter.unusedVariables false
set_option linter.unusedSimpArgs false
namespace Go.Vm
open Go

section
variable {E : Env} {σ : Sig} {nm : Nat} {M : Mem} {w : World} {A : Deed} {r : Result Next} {P : Program}

theorem heap_setCell_at (w : World) (g i : Nat) (arr : Array Value) (e : TypeId) (f : Nat × Nat) (v : Value) (hg : w.heap[g]? = some (.cells arr e f)) :
    (w.setCell ⟨g, i, none⟩ v).heap[g]? = some (.cells (arr.setIfInBounds i v) e f) := by
  simp only [World.setCell, Array.getElem?_modify, if_true, hg, Option.map_some, Option.isSome_none, Bool.false_eq_true, if_false]

theorem run_storeCells_any (g o e lo hi : Nat) : ∀ (vs : List Value) (i : Nat) (arr : Array Value) (w : World), w.heap[g]? = some (.cells arr e (lo, hi)) → o + i + vs.length ≤ arr.size →
    (∀ v ∈ vs, v.oneCell' = true) → (∀ j, j < arr.size → ¬ (lo ≤ j ∧ j < hi)) →
    ∃ w' arr', (storeCells ⟨g, o, none⟩ vs i).run P w = .ok () w' ∧ w'.heap[g]? = some (.cells arr' e (lo, hi)) ∧ arr'.size = arr.size ∧
      (∀ j, arr'[j]? = if o + i ≤ j ∧ j < o + i + vs.length then vs[j - (o + i)]? else arr[j]?) ∧ (∀ g', g' ≠ g → w'.heap[g']? = w.heap[g']?) ∧ w'.heap.size = w.heap.size ∧
      w'.os = w.os ∧ w'.tape = w.tape ∧ w'.output = w.output
  | [], i, arr, w, hg, _, _, _ => ⟨w, arr, by simp [storeCells], hg, rfl, fun j => by rw [if_neg (by simp only [List.length_nil]; omega)], fun _ _ => rfl, rfl, rfl, rfl, rfl⟩
  | v :: vs, i, arr, w, hg, hle, hone, hfz => by
    simp only [List.length_cons] at hle
    have hlt : o + i < arr.size := by omega
    have hc : w.cell? ((⟨g, o, none⟩ : Addr).add i) = some arr[o + i] := by rw [addr_add, cell_of_blk hg]; exact Array.getElem?_eq_getElem hlt
    have hfr : w.frozen? ((⟨g, o, none⟩ : Addr).add i) = false := by
      rw [addr_add]
      simp only [World.frozen?, hg]
      have := hfz (o + i) hlt
      simp; omega
    have h1 : (store ((⟨g, o, none⟩ : Addr).add i) v).run P w = .ok () (w.setCell ⟨g, o + i, none⟩ v) := by
      rw [run_store P w _ v .plain (hone v (by simp)), hc]
      rw [addr_add] at hfr ⊢
      simp only [hfr, Bool.false_eq_true, if_false]
    have hg1 := heap_setCell_at w g (o + i) arr e (lo, hi) v hg
    obtain ⟨w', arr', a1, a2, a3, a4, a5, a6, a7, a8, a9⟩ := run_storeCells_any g o e lo hi vs (i + 1) (arr.setIfInBounds (o + i) v) (w.setCell ⟨g, o + i, none⟩ v) hg1 (by simp; omega)
      (fun u hu => hone u (List.mem_cons_of_mem _ hu)) (by simpa using hfz)
    refine ⟨w', arr', ?_, a2, by simpa using a3, ?_, fun g' hg' => ?_, by rw [a6]; simp, a7, a8, a9⟩
    · simp only [storeCells, Sem.run_bind, h1, Result.andThen_ok]
      exact a1
    · intro j
      rw [a4 j]
      by_cases hj : o + i ≤ j ∧ j < o + i + (v :: vs).length
      · rw [if_pos hj]
        simp only [List.length_cons] at hj
        by_cases hj2 : j = o + i
        · subst hj2
          rw [if_neg (by omega)]
          simp [hlt]
        · rw [if_pos (by omega)]
          have : j - (o + i) = (j - (o + (i + 1))) + 1 := by omega
          rw [this, List.getElem?_cons_succ]
      · rw [if_neg hj]
        simp only [List.length_cons] at hj
        rw [if_neg (by omega), Array.getElem?_setIfInBounds_ne (by omega)]
    · rw [a5 g' hg']
      exact heap_setCell_other w ⟨g, o + i, none⟩ g' v hg'

theorem all_one_ints {k : IntKind} {xs : List Int} : ∀ v ∈ intVals k xs, v.oneCell' = true := by
  intro v hv
  simp only [intVals, List.mem_map] at hv
  obtain ⟨x, _, rfl⟩ := hv
  rfl

theorem All2.one : ∀ {l : List Sc} {vs : List Value}, All2 (ScR E σ) l vs → ∀ u ∈ vs, u.oneCell' = true
  | [], [], _, u, hu => by simp at hu
  | _ :: _, _ :: _, ⟨h1, h2⟩, u, hu => by
    rcases List.mem_cons.1 hu with rfl | h
    · exact (sc_one h1).2
    · exact All2.one h2 u h

/-- What a block is once a value is written: said by the values. -/
theorem Blk.put_get {k k' : Blk} {o m : Nat} {v : AV} {V : Value} {C : Prop} (hk : k.good) (hv : AVR E σ v V) (h : k.put o v = some (C, m, k')) (hC : C) :
    k'.good ∧ k'.len = k.len ∧ o + m ≤ k.len ∧ V.cells.toList.length = m ∧ (∀ u ∈ V.cells.toList, u.oneCell' = true) ∧
      ∀ j s, k'.get? j = some s → if o ≤ j ∧ j < o + m then ∃ u, V.cells.toList[j - o]? = some u ∧ ScR E σ s u else k.get? j = some s := by
  unfold Blk.put at h
  split at h
  · -- an integer into integers
    rename_i kd n xs k1 x
    split at h
    · rename_i hkk
      subst hkk
      simp only [Option.some.injEq, Prod.mk.injEq] at h
      obtain ⟨rfl, rfl, rfl⟩ := h
      simp only [AVR, ScR] at hv
      subst hv
      simp only [Blk.good] at hk
      refine ⟨by simp [Blk.good, hk], rfl, by simp only [Blk.len]; omega, by simp [Value.cells], fun u hu => by simp [Value.cells] at hu; subst hu; rfl, fun j s hs => ?_⟩
      simp only [Blk.get?, Option.map_eq_some_iff] at hs ⊢
      obtain ⟨y, hy, rfl⟩ := hs
      by_cases hj : o ≤ j ∧ j < o + 1
      · have : j = o := by omega
        subst this
        rw [if_pos hj]
        rw [List.getElem?_set_self (by omega)] at hy
        injection hy with hy
        subst hy
        exact ⟨.int kd x, by simp [Value.cells], rfl⟩
      · rw [if_neg hj]
        rw [List.getElem?_set_ne (by omega)] at hy
        exact ⟨y, hy, rfl⟩
    · cases h
  · -- a cell into cells
    rename_i l sc
    simp only [Option.some.injEq, Prod.mk.injEq] at h
    obtain ⟨rfl, rfl, rfl⟩ := h
    have hone := sc_one (show ScR E σ sc V from hv)
    refine ⟨trivial, by simp [Blk.len], by simp only [Blk.len]; omega, by simp [hone.1], fun u hu => by rw [hone.1] at hu; simp at hu; subst hu; exact hone.2, fun j s hs => ?_⟩
    simp only [Blk.get?] at hs ⊢
    by_cases hj : o ≤ j ∧ j < o + 1
    · have : j = o := by omega
      subst this
      rw [if_pos hj]
      rw [List.getElem?_set_self (by simpa using hC)] at hs
      injection hs with hs
      subst hs
      exact ⟨V, by simp [hone.1], hv⟩
    · rw [if_neg hj]
      rw [List.getElem?_set_ne (by omega)] at hs
      exact hs
  · -- integers into integers
    rename_i kd n xs k1 m1 ys
    split at h
    · rename_i hkk
      subst hkk
      obtain ⟨hv1, rfl⟩ := hv
      simp only [Blk.good] at hk
      have hcells : (Value.agg (intVals kd ys).toArray).cells.toList = intVals kd ys := by simp [Value.cells]
      cases hb : (Nat.beq m1 n && Nat.beq o 0)
      · simp only [hb, cond_false, Option.some.injEq, Prod.mk.injEq] at h
        obtain ⟨rfl, rfl, rfl⟩ := h
        refine ⟨by simp [Blk.good, splice]; omega, rfl, by simpa [Blk.len] using hC, by rw [hcells]; simp [intVals, hv1], by rw [hcells]; exact all_one_ints, fun j s hs => ?_⟩
        simp only [Blk.get?, Option.map_eq_some_iff] at hs ⊢
        obtain ⟨y, hy, rfl⟩ := hs
        rw [hcells]
        unfold splice at hy
        by_cases hj : o ≤ j ∧ j < o + m1
        · rw [if_pos hj]
          rw [List.append_assoc, List.getElem?_append_right (by simp; omega), List.getElem?_append_left (by simp; omega)] at hy
          refine ⟨.int kd y, ?_, rfl⟩
          have : j - (xs.take o).length = j - o := by simp; omega
          rw [this] at hy
          simp [intVals, hy]
        · rw [if_neg hj]
          refine ⟨y, ?_, rfl⟩
          by_cases hj2 : j < o
          · rw [List.append_assoc, List.getElem?_append_left (by simp; omega), List.getElem?_take, if_pos hj2] at hy
            exact hy
          · rw [List.getElem?_append_right (by simp; omega), List.getElem?_drop] at hy
            have : o + ys.length + (j - (xs.take o ++ ys).length) = j := by simp; omega
            rw [this] at hy
            exact hy
      · simp only [hb, cond_true, Option.some.injEq, Prod.mk.injEq] at h
        obtain ⟨rfl, rfl, rfl⟩ := h
        simp only [Bool.and_eq_true] at hb
        have h1 := Nat.eq_of_beq_eq_true hb.1
        have h2 := Nat.eq_of_beq_eq_true hb.2
        subst h1 h2
        refine ⟨hv1, rfl, by simp [Blk.len], by rw [hcells]; simp [intVals, hv1], by rw [hcells]; exact all_one_ints, fun j s hs => ?_⟩
        simp only [Blk.get?, Option.map_eq_some_iff] at hs ⊢
        obtain ⟨y, hy, rfl⟩ := hs
        have := (List.getElem?_eq_some_iff.1 hy).1
        rw [if_pos (by omega), hcells]
        exact ⟨.int kd y, by simp [intVals, hy], rfl⟩
    · cases h
  · -- integers into cells
    rename_i l k1 m1 ys
    simp only [Option.some.injEq, Prod.mk.injEq] at h
    obtain ⟨rfl, rfl, rfl⟩ := h
    obtain ⟨hv1, rfl⟩ := hv
    have hcells : (Value.agg (intVals k1 ys).toArray).cells.toList = intVals k1 ys := by simp [Value.cells]
    refine ⟨trivial, by simp [Blk.len, splice]; omega, by simpa [Blk.len] using hC, by rw [hcells]; simp [intVals, hv1], by rw [hcells]; exact all_one_ints, fun j s hs => ?_⟩
    simp only [Blk.get?] at hs ⊢
    rw [hcells]
    unfold splice at hs
    by_cases hj : o ≤ j ∧ j < o + m1
    · rw [if_pos hj]
      rw [List.append_assoc, List.getElem?_append_right (by simp; omega), List.getElem?_append_left (by simp; omega)] at hs
      have : j - (l.take o).length = j - o := by simp; omega
      rw [this, List.getElem?_map, Option.map_eq_some_iff] at hs
      obtain ⟨y, hy, rfl⟩ := hs
      exact ⟨.int k1 y, by simp [intVals, hy], rfl⟩
    · rw [if_neg hj]
      by_cases hj2 : j < o
      · rw [List.append_assoc, List.getElem?_append_left (by simp; omega), List.getElem?_take, if_pos hj2] at hs
        exact hs
      · rw [List.getElem?_append_right (by simp; omega), List.getElem?_drop] at hs
        have : o + (ys.map (Sc.i k1 ·)).length + (j - (l.take o ++ ys.map (Sc.i k1 ·)).length) = j := by simp; omega
        rw [this] at hs
        exact hs
  · -- cells into cells
    rename_i l ss
    simp only [Option.some.injEq, Prod.mk.injEq] at h
    obtain ⟨rfl, rfl, rfl⟩ := h
    obtain ⟨arr, rfl, h2⟩ := hv
    have hlen := h2.length
    refine ⟨trivial, by simp [Blk.len, splice]; omega, by simpa [Blk.len] using hC, by simp [Value.cells, hlen], fun u hu => h2.one u (by simpa [Value.cells] using hu), fun j s hs => ?_⟩
    simp only [Blk.get?] at hs ⊢
    unfold splice at hs
    by_cases hj : o ≤ j ∧ j < o + ss.length
    · rw [if_pos hj]
      rw [List.append_assoc, List.getElem?_append_right (by simp; omega), List.getElem?_append_left (by simp; omega)] at hs
      have : j - (l.take o).length = j - o := by simp; omega
      rw [this] at hs
      obtain ⟨u, hu, hr⟩ := h2.get _ _ hs
      exact ⟨u, by simpa [Value.cells] using hu, hr⟩
    · rw [if_neg hj]
      by_cases hj2 : j < o
      · rw [List.append_assoc, List.getElem?_append_left (by simp; omega), List.getElem?_take, if_pos hj2] at hs
        exact hs
      · rw [List.getElem?_append_right (by simp; omega), List.getElem?_drop] at hs
        have : o + ss.length + (j - (l.take o ++ ss).length) = j := by simp; omega
        rw [this] at hs
        exact hs
  · -- a cell into cells of one sort
    rename_i vk l sc
    split at h
    · rename_i x hx
      simp only [Option.some.injEq, Prod.mk.injEq] at h
      obtain ⟨rfl, rfl, rfl⟩ := h
      have hone := sc_one (show ScR E σ sc V from hv)
      refine ⟨trivial, by simp [Blk.len], by simp only [Blk.len]; omega, by simp [hone.1], fun u hu => by rw [hone.1] at hu; simp at hu; subst hu; exact hone.2, fun j s hs => ?_⟩
      simp only [Blk.get?, Option.map_eq_some_iff] at hs ⊢
      obtain ⟨y, hy, rfl⟩ := hs
      by_cases hj : o ≤ j ∧ j < o + 1
      · have : j = o := by omega
        subst this
        rw [if_pos hj]
        rw [List.getElem?_set_self (by simpa using hC)] at hy
        injection hy with hy
        subst hy
        exact ⟨V, by simp [hone.1], VK.un_R hx hv⟩
      · rw [if_neg hj]
        rw [List.getElem?_set_ne (by omega)] at hy
        exact ⟨y, hy, rfl⟩
    · cases h
  · cases h


theorem Blk.putS_get {k k' : Blk} {o m : Nat} {v : AV} {V : Value} {C : Prop} (hk : k.good) (hv : AVR E σ v V) (h : k.putS o v = some (C, m, k')) (hC : C) :
    k'.good ∧ k'.len = k.len ∧ o + m ≤ k.len ∧ V.cells.toList.length = m ∧ (∀ u ∈ V.cells.toList, u.oneCell' = true) ∧
      ∀ j s, k'.get? j = some s → if o ≤ j ∧ j < o + m then ∃ u, V.cells.toList[j - o]? = some u ∧ ScR E σ s u else k.get? j = some s := by
  unfold Blk.putS at h
  split at h
  · rename_i kd n xs k1 m1 ys
    split at h
    · rename_i hkk
      subst hkk
      obtain ⟨hv1, rfl⟩ := hv
      simp only [Blk.good] at hk
      have hcells : (Value.agg (intVals kd ys).toArray).cells.toList = intVals kd ys := by simp [Value.cells]
      simp only [Option.some.injEq, Prod.mk.injEq] at h
      obtain ⟨rfl, rfl, rfl⟩ := h
      refine ⟨by simp [Blk.good, splice]; omega, rfl, by simpa [Blk.len] using hC, by rw [hcells]; simp [intVals, hv1], by rw [hcells]; exact all_one_ints, fun j s hs => ?_⟩
      simp only [Blk.get?, Option.map_eq_some_iff] at hs ⊢
      obtain ⟨y, hy, rfl⟩ := hs
      rw [hcells]
      unfold splice at hy
      by_cases hj : o ≤ j ∧ j < o + m1
      · rw [if_pos hj]
        rw [List.append_assoc, List.getElem?_append_right (by simp; omega), List.getElem?_append_left (by simp; omega)] at hy
        refine ⟨.int kd y, ?_, rfl⟩
        have : j - (xs.take o).length = j - o := by simp; omega
        rw [this] at hy
        simp [intVals, hy]
      · rw [if_neg hj]
        refine ⟨y, ?_, rfl⟩
        by_cases hj2 : j < o
        · rw [List.append_assoc, List.getElem?_append_left (by simp; omega), List.getElem?_take, if_pos hj2] at hy
          exact hy
        · rw [List.getElem?_append_right (by simp; omega), List.getElem?_drop] at hy
          have : o + ys.length + (j - (xs.take o ++ ys).length) = j := by simp; omega
          rw [this] at hy
          exact hy
    · cases h
  · exact Blk.put_get hk hv h hC

end
end Go.Vm
