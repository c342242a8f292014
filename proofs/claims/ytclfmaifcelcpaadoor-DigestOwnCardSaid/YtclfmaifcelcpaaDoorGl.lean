/- What the two listed variables of the hashes read as. -/
import Derived.Test.YtclfmaifcelcpaaDoorRows
import Derived.Test.YtclfmaifcelcpaaDoorVmW
import Derived.Test.YtclfmaifcelcpaaDoorDgA
import Derived.LaidMore
import Derived.Stop.Joined
set_option maxRecDepth 100000
namespace Go.Vm
open Go Go.Proofs

noncomputable def lSteps : LaidI Tryd.prog := ⟨ "tabulary/digest.steps", 1, 74, 53, .u64, gSteps⟩
noncomputable def lStarts : LaidI Tryd.prog := ⟨ "tabulary/digest.starts", 0, 71, 53, .u64, gStarts⟩
noncomputable def laid2 : List (String × DataW Unit) := [("tabulary/digest.steps", YtclfmaifcelcpaaDoor.Rows.laid_tabulary_digest_steps), ("tabulary/digest.starts", YtclfmaifcelcpaaDoor.Rows.laid_tabulary_digest_starts)]

theorem lSteps_ok : lSteps.ok := ⟨by kernel_rfl, by kernel_rfl, by kernel_rfl, by kernel_rfl, by kernel_rfl, by kernel_rfl⟩
theorem lStarts_ok : lStarts.ok := ⟨by kernel_rfl, by kernel_rfl, by kernel_rfl, by kernel_rfl, by kernel_rfl, by kernel_rfl⟩

theorem door_met (os : Os) (args : Array Value) : laidMetH Tryd.prog laid2 ((World.doorLaid Tryd.prog 400 os).forCall (fun _ _ => 0) ⟨#[], args, []⟩).memory :=
  laidMetH_of_parts3 (fuel := 8) (laidMet_of_run' 8 (by kernel_rfl) (by kernel_rfl)) (by kernel_rfl) (by kernel_rfl)

theorem globs_met {W : World} (h : laidMetH Tryd.prog laid2 W) : GlobsOk (E0 Tryd.prog W) gD := by
  rw [MakeChecks.laidMetH_plain _ _ _ (by kernel_rfl)] at h
  obtain ⟨ps, hv, _, _⟩ := h
  have e : laid2 = [lSteps, lStarts].map fun x => (x.name, x.datum) := by kernel_rfl
  rw [e] at hv
  have hc := laid_cells (fun x hx => by
    simp only [List.mem_cons, List.not_mem_nil, or_false] at hx
    rcases hx with rfl | rfl
    · exact lSteps_ok
    · exact lStarts_ok) hv
  refine globs_ok (P := Tryd.prog) (l0 := [lStarts, lSteps]) (fun x hx => hc x ?_) ?_
  · simp only [List.mem_cons, List.not_mem_nil, or_false] at hx ⊢
    exact hx.symm
  · intro x hx
    simp only [List.mem_cons, List.not_mem_nil, or_false] at hx
    rcases hx with rfl | rfl
    · exact Nat.lt_of_lt_of_eq (by decide : 0 < 8) (by kernel_rfl)
    · exact Nat.lt_of_lt_of_eq (by decide : 0 < 80) (by kernel_rfl)
end Go.Vm
