/- What the functions compute, and that they do: walked by a printed text. -/
import Derived.Test.YtfkmfdjdppjijaaWk8
set_option linter.unusedVariables false
set_option linter.unusedSimpArgs false
set_option maxRecDepth 4000
namespace Go.Vm
open Go

noncomputable def FcNone (p0 : List Int) : Bool :=
  (sel (!(Fcfit)) false true)

noncomputable def ScNone : List AV → List Blk → Option (Prop × Ret)
  | [.sc (.ro .u8 p0)], [] => some (True, ⟨.sc (.b (FcNone p0)), []⟩)
  | _, _ => none

noncomputable def BcNone : Bs := { P := Go.Proofs.Try.prog, G := noG, tab := tabOf [⟨8, 32, [], [], [], ⟨0, 0, Scfit⟩, false⟩, ⟨10, 336, [.val], [], [], ⟨0, 0, ScBeginNil⟩, false⟩, ⟨12, 784, [.val, .ro .u8], [], [], ⟨0, 0, ScTakeNil⟩, false⟩, ⟨16, 240, [.val], [], [], ⟨0, 0, ScOutNil⟩, false⟩, ⟨17, 96, [.val], [], [], ⟨0, 0, ScStateNil⟩, false⟩, ⟨18, 160, [.val], [], [], ⟨0, 0, ScReadyNil⟩, false⟩, ⟨19, 432, [.val, .ro .u8], [], [], ⟨0, 0, ScSendNil⟩, false⟩, ⟨24, 608, [.val], [], [], ⟨0, 0, ScPendingNil⟩, false⟩, ⟨26, 512, [.val], [], [], ⟨0, 0, ScRecvNil⟩, false⟩, ⟨27, 688, [.val], [], [], ⟨0, 0, ScCloseNil⟩, false⟩], n := 53 }

theorem BcNone.ok : BcNone.Ok := ⟨tabOk (P := Go.Proofs.Try.prog) (G := noG) (l := [⟨8, 32, [], [], [], ⟨0, 0, Scfit⟩, false⟩, ⟨10, 336, [.val], [], [], ⟨0, 0, ScBeginNil⟩, false⟩, ⟨12, 784, [.val, .ro .u8], [], [], ⟨0, 0, ScTakeNil⟩, false⟩, ⟨16, 240, [.val], [], [], ⟨0, 0, ScOutNil⟩, false⟩, ⟨17, 96, [.val], [], [], ⟨0, 0, ScStateNil⟩, false⟩, ⟨18, 160, [.val], [], [], ⟨0, 0, ScReadyNil⟩, false⟩, ⟨19, 432, [.val, .ro .u8], [], [], ⟨0, 0, ScSendNil⟩, false⟩, ⟨24, 608, [.val], [], [], ⟨0, 0, ScPendingNil⟩, false⟩, ⟨26, 512, [.val], [], [], ⟨0, 0, ScRecvNil⟩, false⟩, ⟨27, 688, [.val], [], [], ⟨0, 0, ScCloseNil⟩, false⟩]) (And.intro Kcfit (And.intro KcBeginNil (And.intro KcTakeNil (And.intro KcOutNil (And.intro KcStateNil (And.intro KcReadyNil (And.intro KcSendNil (And.intro KcPendingNil (And.intro KcRecvNil (And.intro KcCloseNil True.intro)))))))))), mixed⟩

theorem KcNone : Known Go.Proofs.Try.prog noG 7 ⟨0, 0, ScNone⟩ := by
  refine Known.walk (B := BcNone) (fn := Go.Proofs.Try.f7) BcNone.ok (by kernel_rfl) rfl (by kernel_rfl) (by kernel_rfl) (by decide) (by decide) ?_
  · intro E args ks C r h hC hlen
    simp only at h
    unfold ScNone at h
    split at h
    rotate_left
    · cases h
    rename_i p0
    cases h
    simp only [lens] at hlen
    refine ⟨show 1 ≤ 53 from by decide, ?_⟩
    refine Tri.sub (Sub.of_eq (show _ = ([(0, .sc (.ro .u8 p0))], []) from rfl)) ?_
    refine Tri.seq_region [] none [0] [] ((True ∧ True) ∧ True)
        ([(0, .sc (.ro .u8 p0))], [])
        32 (by kernel_rfl) rfl (by kernel_rfl) (⟨⟨trivial, trivial⟩, trivial⟩) ?_
    refine Tri.seq ?_
    refine Tri.seq_region [] none [5, 0] [] (((True ∧ True) ∧ True) ∧ ((True ∧ True) ∧ True))
        ([(5, .sc (.b (!(Fcfit)))), (0, .sc (.ro .u8 p0))], [])
        64 (by kernel_rfl) rfl (by kernel_rfl) (⟨⟨⟨trivial, trivial⟩, trivial⟩, ⟨⟨trivial, trivial⟩, trivial⟩⟩) ?_
    refine Tri.cond (x := (!(Fcfit))) (by kernel_rfl) (fun h1 => ?_) (fun h1 => ?_)
    ·
      refine Tri.seq_region [] none [2] [] ((True ∧ True) ∧ True)
          ([(2, .sc (.b false))], [])
          80 (by kernel_rfl) rfl (by kernel_rfl) (⟨⟨trivial, trivial⟩, trivial⟩) ?_
      refine Tri.ret ?_
      repeat (first | refine thenP_ret ?_ | refine blkP_ret ?_ | refine countP_ret ?_ | refine joinP_ret ?_ | refine iterP_ret ?_)
      refine endP.conv (r' := ⟨.sc (.b false), []⟩) (by simp only [FcNone, h1, sel_true, sel_false]) ?_
      exact endP.ret [] (True ∧ True) (by kernel_rfl) (by kernel_rfl) ⟨trivial, trivial⟩
    ·
      refine Tri.skip ?_
      change Tri _ _ _ _ _ _
      refine Tri.seq_region [] none [3, 0] [] ((True ∧ True) ∧ True)
          ([(3, .sc (.nilp)), (0, .sc (.ro .u8 p0))], [])
          80 (by kernel_rfl) rfl (by kernel_rfl) (⟨⟨trivial, trivial⟩, trivial⟩) ?_
      refine Tri.seq_region [] none [2] [] ((True ∧ True) ∧ (((True ∧ True) ∧ True) ∧ ((True ∧ True) ∧ ((True ∧ True) ∧ ((True ∧ True) ∧ (((True ∧ True) ∧ True) ∧ ((True ∧ True) ∧ ((True ∧ True) ∧ ((True ∧ True) ∧ ((True ∧ True) ∧ (((True ∧ True) ∧ True) ∧ ((True ∧ True) ∧ ((True ∧ True) ∧ ((True ∧ True) ∧ ((True ∧ True) ∧ ((True ∧ True) ∧ (((True ∧ True) ∧ True) ∧ ((True ∧ True) ∧ ((True ∧ True) ∧ ((True ∧ True) ∧ ((True ∧ True) ∧ ((True ∧ True) ∧ ((((True ∧ True) ∧ True) ∧ True) ∧ ((True ∧ True) ∧ ((True ∧ True) ∧ ((True ∧ True) ∧ ((True ∧ True) ∧ (((True ∧ True) ∧ True) ∧ ((True ∧ True) ∧ ((True ∧ True) ∧ ((True ∧ True) ∧ ((True ∧ True) ∧ ((True ∧ True) ∧ (((True ∧ True) ∧ True) ∧ ((True ∧ True) ∧ ((True ∧ True) ∧ ((True ∧ True) ∧ ((True ∧ True) ∧ (((True ∧ True) ∧ True) ∧ ((True ∧ True) ∧ ((True ∧ True) ∧ ((True ∧ True) ∧ ((True ∧ True) ∧ ((True ∧ True) ∧ ((((True ∧ True) ∧ True) ∧ True) ∧ ((True ∧ True) ∧ ((True ∧ True) ∧ ((True ∧ True) ∧ True))))))))))))))))))))))))))))))))))))))))))))))))
          ([(2, .sc (.b true))], [])
          848 (by kernel_rfl) rfl (by kernel_rfl) (⟨⟨trivial, trivial⟩, ⟨⟨⟨trivial, trivial⟩, trivial⟩, ⟨⟨trivial, trivial⟩, ⟨⟨trivial, trivial⟩, ⟨⟨trivial, trivial⟩, ⟨⟨⟨trivial, trivial⟩, trivial⟩, ⟨⟨trivial, trivial⟩, ⟨⟨trivial, trivial⟩, ⟨⟨trivial, trivial⟩, ⟨⟨trivial, trivial⟩, ⟨⟨⟨trivial, trivial⟩, trivial⟩, ⟨⟨trivial, trivial⟩, ⟨⟨trivial, trivial⟩, ⟨⟨trivial, trivial⟩, ⟨⟨trivial, trivial⟩, ⟨⟨trivial, trivial⟩, ⟨⟨⟨trivial, trivial⟩, trivial⟩, ⟨⟨trivial, trivial⟩, ⟨⟨trivial, trivial⟩, ⟨⟨trivial, trivial⟩, ⟨⟨trivial, trivial⟩, ⟨⟨trivial, trivial⟩, ⟨⟨⟨⟨trivial, trivial⟩, trivial⟩, trivial⟩, ⟨⟨trivial, trivial⟩, ⟨⟨trivial, trivial⟩, ⟨⟨trivial, trivial⟩, ⟨⟨trivial, trivial⟩, ⟨⟨⟨trivial, trivial⟩, trivial⟩, ⟨⟨trivial, trivial⟩, ⟨⟨trivial, trivial⟩, ⟨⟨trivial, trivial⟩, ⟨⟨trivial, trivial⟩, ⟨⟨trivial, trivial⟩, ⟨⟨⟨trivial, trivial⟩, trivial⟩, ⟨⟨trivial, trivial⟩, ⟨⟨trivial, trivial⟩, ⟨⟨trivial, trivial⟩, ⟨⟨trivial, trivial⟩, ⟨⟨⟨trivial, trivial⟩, trivial⟩, ⟨⟨trivial, trivial⟩, ⟨⟨trivial, trivial⟩, ⟨⟨trivial, trivial⟩, ⟨⟨trivial, trivial⟩, ⟨⟨trivial, trivial⟩, ⟨⟨⟨⟨trivial, trivial⟩, trivial⟩, trivial⟩, ⟨⟨trivial, trivial⟩, ⟨⟨trivial, trivial⟩, ⟨⟨trivial, trivial⟩, trivial⟩⟩⟩⟩⟩⟩⟩⟩⟩⟩⟩⟩⟩⟩⟩⟩⟩⟩⟩⟩⟩⟩⟩⟩⟩⟩⟩⟩⟩⟩⟩⟩⟩⟩⟩⟩⟩⟩⟩⟩⟩⟩⟩⟩⟩⟩⟩⟩) ?_
      refine Tri.ret ?_
      repeat (first | refine thenP_ret ?_ | refine blkP_ret ?_ | refine countP_ret ?_ | refine joinP_ret ?_ | refine iterP_ret ?_)
      refine endP.conv (r' := ⟨.sc (.b true), []⟩) (by simp only [FcNone, h1, sel_true, sel_false]) ?_
      exact endP.ret [] (True ∧ True) (by kernel_rfl) (by kernel_rfl) ⟨trivial, trivial⟩



end Go.Vm
