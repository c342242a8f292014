/- From what is known of a law's function to the row's hole. -/
import Derived.Test.YtfkmfdjdppjijaaVnT
import Derived.Below
set_option linter.unusedVariables false
set_option linter.unusedSimpArgs false
namespace Go.Vm
open Go

/-- The world as a call finds it: all of it stays. -/
def E0 (P : Program) (w : World) : Env := { P := P, w0 := w, old := fun g => g < w.heap.size, fz := fun g => g < w.heap.size, sub := fun _ h => h, kp := fun _ => .unset }

theorem cell_lt {w : World} {a : Addr} {v : Value} (h : w.cell? a = some v) : a.block < w.heap.size := by
  unfold World.cell? at h
  cases hb : w.heap[a.block]? with
  | none => simp [hb] at h
  | some o => exact (Array.getElem?_eq_some_iff.1 hb).1

theorem ro_row {P : Program} {σ : Sig} {k : IntKind} {w : World} {a : Option Addr} {len cap : Nat} {zs : List Int}
    (h : (a = none ∧ len = 0 ∧ cap = 0 ∧ zs = []) ∨ ∃ x, a = some x ∧ len ≤ cap ∧ cap ≤ maxLen ∧ zs.length = cap ∧ (∀ i, i < zs.length → w.cell? (x.add i) = some (.int k (zs.getD i 0))) ∧ ∀ n ∈ zs, (Lit.int k n).wf = true) :
    AVR (E0 P w) σ (.sc (.ro k (zs.take len))) (.slice a len cap) := by
  rcases h with ⟨rfl, rfl, rfl, rfl⟩ | ⟨x, rfl, h1, h2, h3, h4, _⟩
  · exact ⟨none, 0, rfl, by simp, by simp⟩
  · have hl : (zs.take len).length = len := by simp; omega
    refine ⟨some x, cap, by rw [hl], by rw [hl]; exact h1, fun hp => ⟨x, rfl, ?_, fun j hj => ?_⟩⟩
    · have := cell_lt (h4 0 (by omega))
      rw [add_block] at this
      exact this
    · rw [hl] at hj
      show w.cell? _ = _
      rw [h4 j (by omega)]
      simp [List.getD_eq_getElem?_getD, List.getElem?_take, hj]

/-- The row's hole. -/
theorem calls_true {P : Program} {f : FuncId} {z : Sig1} (h : Known P noG f z) (hf : entersB P f = true) (w : World) (args : List AV) (Vs : Array Value) (C : Prop) (b : Bool) (ha : All2 (AVR (E0 P w) fun _ => .unset) args Vs.toList)
    (hm : z.m = 0) (hs : z.spec args [] = some (C, ⟨.sc (.b b), []⟩)) (hC : C) (hb : b = true) : Calls P f Vs w fun e w' => e = .returned (.bool true) ∧ Go.RowKit.Below w.heap.size w w' := by
  have hM : MemR (E0 P w) (fun _ => .unset) [] w :=
    { blk := fun b k hb => by cases hb
      inj := fun b c x y L L' hb => by cases hb
      old := fun _ _ => rfl
      size := Nat.le_refl _
      olds := fun _ h => h
      os := rfl
      tape := rfl
      output := rfl }
  have hG : GlobsOk (E0 P w) noG := fun g k xs hg => by cases hg
  rcases h.pure (E0 P w) w args [] Vs C _ rfl hG hm.symm (fun _ _ => rfl) hM ha hs hC with ⟨_, h1⟩ | ⟨V, w', h1, _⟩
  · refine h1.mono fun e w' ⟨V, he, E', σ', hg, _, h2, h3⟩ => ?_
    have h4 : V = .bool b := h2
    subst h4 hb
    exact ⟨he, h3.os.trans hg.os, h3.tape.trans hg.tape, h3.output.trans hg.output, Nat.le_trans hg.size h3.size, fun k hk => (h3.old k (hg.fz k hk)).trans (hg.w0 k hk)⟩
  · rw [run_enters hf] at h1
    cases h1

end Go.Vm
