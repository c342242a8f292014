/- A slice that is none, as one of nothing that is only read. -/
import Derived.Test.YtfkmfdjdppjijaaVnW
set_option linter.unusedVariables false
set_option linter.unusedSimpArgs false
namespace Go.Vm
open Go

theorem ro_nil {E : Env} {σ : Sig} {V : Value} (k : IntKind) (h : ScR E σ .nils V) : ScR E σ (.ro k []) V := ⟨none, 0, h, Nat.le_refl _, fun h => absurd h (Nat.lt_irrefl _)⟩

theorem Sub.nilRo {U : Nat} {fr : Fr} {M : Mem} (t : Nat) (k : IntKind) (ht : look t fr = some (.sc .nils)) : Sub U (fr, M) U (put1 t (.sc (.ro k [])) fr, M) := by
  refine Sub.of1 ?_
  rintro E κ n a w ⟨σ, h1, h2⟩
  refine ⟨σ, { val := fun t' v hv => ?_, defers := h1.defers, tmps := h1.tmps, toMemR := h1.toMemR }, h2⟩
  simp only [look_put1] at hv
  split at hv
  · rename_i e
    subst e
    cases hv
    obtain ⟨V, q1, q2⟩ := h1.val _ _ ht
    exact ⟨V, q1, ro_nil (σ := σ) k q2⟩
  · exact h1.val _ _ hv

theorem Sub.nilCell {U : Nat} {fr : Fr} {M : Mem} {l : List Sc} (b j : Nat) (k : IntKind) (hb : look b M = some (.cells l)) (hj : l[j]? = some .nils) : Sub U (fr, M) U (fr, put1 b (.cells (l.set j (.ro k []))) M) := by
  refine Sub.of1 ?_
  rintro E κ n a w ⟨σ, h1, h2⟩
  have key : ∀ L, BlkR E σ w (.cells l) L → BlkR E σ w (.cells (l.set j (.ro k []))) L := by
    intro L hB
    cases L with
    | unset => exact hB
    | nil => exact ⟨by simpa [Blk.len] using hB.1, trivial⟩
    | «at» L =>
      obtain ⟨g1, arr, elem, lo, hi, p1, p2, p3, p4, p5, p6⟩ := hB
      refine ⟨trivial, arr, elem, lo, hi, p1, p2, by simpa [Blk.len] using p3, p4, p5, fun i s hs => ?_⟩
      simp only [Blk.get?] at hs
      by_cases e : i = j
      · subst e
        rw [List.getElem?_set_self (by rw [List.getElem?_eq_some_iff] at hj; exact hj.1)] at hs
        cases hs
        obtain ⟨v, q1, q2⟩ := p6 i _ hj
        exact ⟨v, q1, ro_nil k q2⟩
      · rw [List.getElem?_set_ne (Ne.symm e)] at hs
        exact p6 i s hs
  refine ⟨σ, { toFrR := h1.toFrR, tmps := h1.tmps, toMemR := ?_ }, h2⟩
  have less : ∀ c x, look c (put1 b (Blk.cells (l.set j (.ro k []))) M) = some x → (c = b ∧ x = .cells (l.set j (.ro k []))) ∨ look c M = some x := by
    intro c x hc
    rw [look_put1] at hc
    split at hc
    · rename_i e; exact .inl ⟨e, by cases hc; rfl⟩
    · exact .inr hc
  exact { blk := fun c x hc => by
            rcases less c x hc with ⟨rfl, rfl⟩ | hc
            · exact key _ (h1.blk _ _ hb)
            · exact h1.blk c x hc
          inj := fun c d x y L L' hc hd => by
            have f : ∀ c x, look c (put1 b (Blk.cells (l.set j (.ro k []))) M) = some x → ∃ x', look c M = some x' := by
              intro c x hc
              rcases less c x hc with ⟨rfl, rfl⟩ | hc
              · exact ⟨_, hb⟩
              · exact ⟨_, hc⟩
            obtain ⟨x', hx⟩ := f c x hc
            obtain ⟨y', hy⟩ := f d y hd
            exact h1.inj c d x' y' L L' hx hy
          old := h1.old, size := h1.size, olds := h1.olds, os := h1.os, tape := h1.tape, output := h1.output }

end Go.Vm
