/- What the functions compute, and that they do: walked by a printed text. -/
import Derived.Test.YtclfmaifcelcpaaDoorWk1
set_option linter.unusedVariables false
set_option linter.unusedSimpArgs false
set_option maxRecDepth 4000
namespace Go.Vm
open Go

noncomputable def FwU32l0 (p0 : List Int) (p1 : Bool) (k0 : Nat) (z0 : Int) : Int :=
  (iOr .u32 (iShl .u32 z0 8) (IntKind.wrap .u32 ((FwtakeF p0 p1 4).getD k0 0)))

noncomputable def FwU32 (p0 : List Int) (p1 : Bool) : Int :=
  (itr (FwU32l0 p0 p1) ((FwtakeF p0 p1 4).length) 0)

noncomputable def FwU32_1 (p0 : List Int) (p1 : Bool) : List Int :=
  (FwtakeF_1 p0 p1 4)

noncomputable def FwU32_2 (p0 : List Int) (p1 : Bool) : Bool :=
  (FwtakeF_2 p0 p1 4)

noncomputable def SwU32 : List AV → List Blk → Option (Prop × Ret)
  | [.sc (.p 0 0)], [.cells [.ro .u8 p0, .b p1]] => some (True, ⟨.sc (.i .u32 (FwU32 p0 p1)), [some (.cells [.ro .u8 (FwU32_1 p0 p1), .b (FwU32_2 p0 p1)])]⟩)
  | _, _ => none

noncomputable def BwU32 : Bs := { P := Go.Proofs.Tryd.prog, G := noG, tab := tabOf [⟨43, 64, [.io, .val], [], [0], ⟨1, 0, SwtakeF⟩⟩], n := 20 }

theorem BwU32.ok : BwU32.Ok := ⟨tabOk (P := Go.Proofs.Tryd.prog) (G := noG) (l := [⟨43, 64, [.io, .val], [], [0], ⟨1, 0, SwtakeF⟩⟩]) (And.intro KwtakeF True.intro), mixed⟩

theorem KwU32 : Known Go.Proofs.Tryd.prog noG 16 ⟨1, 0, SwU32⟩ := by
  refine Known.walk (B := BwU32) (fn := Go.Proofs.Tryd.f16) BwU32.ok (by kernel_rfl) rfl (by kernel_rfl) (by kernel_rfl) (by decide) (by decide) ?_
  · intro E args ks C r h hC hlen
    simp only at h
    unfold SwU32 at h
    split at h
    rotate_left
    · cases h
    rename_i p0 p1
    cases h
    simp only [lens] at hlen
    have hf0 : (FwtakeF p0 p1 4).length ≤ 4 := le_FwtakeF p0 p1 4
    refine ⟨show 1 ≤ 20 from by decide, ?_⟩
    refine Tri.sub (Sub.of_eq (show _ = ([(0, .sc (.p 0 0))], [(0, .cells [.ro .u8 p0, .b p1])]) from rfl)) ?_
    refine Tri.seq_region [] none [0] [0] ((True ∧ True) ∧ True)
        ([(0, .sc (.p 0 0))], [(0, .cells [.ro .u8 p0, .b p1])])
        32 (by kernel_rfl) rfl (by kernel_rfl) (⟨⟨trivial, trivial⟩, trivial⟩) ?_
    refine Tri.seq_region [] none [3, 0] [0] ((True ∧ True) ∧ True)
        ([(3, .sc (.i .u32 0)), (0, .sc (.p 0 0))], [(0, .cells [.ro .u8 p0, .b p1])])
        48 (by kernel_rfl) rfl (by kernel_rfl) (⟨⟨trivial, trivial⟩, trivial⟩) ?_
    refine Tri.seq ?_
    refine Tri.seq_region [] none [9, 8, 7, 3] [0] ((True ∧ True) ∧ (((True ∧ ((0 : Int) ≤ 4)) ∧ True) ∧ ((True ∧ True) ∧ ((True ∧ True) ∧ True))))
        ([(9, .sc (.i .i64 0)), (8, .sc (.i .i64 (((FwtakeF p0 p1 4).length : Nat) : Int))), (7, .sc (.ro .u8 (FwtakeF p0 p1 4))), (3, .sc (.i .u32 0))], [(0, .cells [.ro .u8 (FwtakeF_1 p0 p1 4), .b (FwtakeF_2 p0 p1 4)])])
        112 (by kernel_rfl) rfl (by kernel_rfl) (⟨⟨trivial, trivial⟩, ⟨⟨⟨trivial, (by first | omega | (rw [adr_eq]; omega) | exact iAnd_nn _ _ | exact iSub_nn _ _ | exact part1_le (by omega) (by first | omega | (simp only [List.length_append]; omega)) | decide)⟩, trivial⟩, ⟨⟨trivial, trivial⟩, ⟨⟨trivial, trivial⟩, trivial⟩⟩⟩⟩) ?_
    refine Tri.block ?_
    refine Tri.count 112 ((FwtakeF p0 p1 4).length) (FwU32l0 p0 p1) 0 (fun k0 z0 => True) (fun k0 z0 => ([(9, .sc (.i .i64 ((k0 : Nat) : Int))), (8, .sc (.i .i64 (((FwtakeF p0 p1 4).length : Nat) : Int))), (7, .sc (.ro .u8 (FwtakeF p0 p1 4))), (3, .sc (.i .u32 z0))], [(0, .cells [.ro .u8 (FwtakeF_1 p0 p1 4), .b (FwtakeF_2 p0 p1 4)])])) trivial (Sub.of_eq (by kernel_rfl)) ?_
    intro k0 z0 hk0 hz0 hJ0
    refine Tri.seq_region [] none [10, 9, 8, 7, 3] [0] ((True ∧ True) ∧ True)
        ([(10, .sc (.b (decide ((((k0 : Nat) : Int) : Int) < (((FwtakeF p0 p1 4).length : Nat) : Int))))), (9, .sc (.i .i64 ((k0 : Nat) : Int))), (8, .sc (.i .i64 (((FwtakeF p0 p1 4).length : Nat) : Int))), (7, .sc (.ro .u8 (FwtakeF p0 p1 4))), (3, .sc (.i .u32 z0))], [(0, .cells [.ro .u8 (FwtakeF_1 p0 p1 4), .b (FwtakeF_2 p0 p1 4)])])
        128 (by kernel_rfl) rfl (by kernel_rfl) (⟨⟨trivial, trivial⟩, trivial⟩) ?_
    refine Tri.seq ?_
    refine Tri.cond (x := (decide ((((k0 : Nat) : Int) : Int) < (((FwtakeF p0 p1 4).length : Nat) : Int)))) (by kernel_rfl) (fun h1 => ?_) (fun h1 => ?_)
    ·
      have h1' := of_decide_eq_true h1
      refine Tri.skip ?_
      change Tri _ _ _ _ _ _
      refine Tri.seq ?_
      refine Tri.block ?_
      refine Tri.seq_region [] none [5, 9, 8, 7, 3] [0] ((((0 : Int) ≤ ((k0 : Nat) : Int) ∧ ((k0 : Nat) : Int) < ((FwtakeF p0 p1 4).length : Int)) ∧ True) ∧ (((k0 < (FwtakeF p0 p1 4).length) ∧ True) ∧ ((True ∧ True) ∧ True)))
          ([(5, .sc (.i .u8 ((FwtakeF p0 p1 4).getD k0 0))), (9, .sc (.i .i64 ((k0 : Nat) : Int))), (8, .sc (.i .i64 (((FwtakeF p0 p1 4).length : Nat) : Int))), (7, .sc (.ro .u8 (FwtakeF p0 p1 4))), (3, .sc (.i .u32 z0))], [(0, .cells [.ro .u8 (FwtakeF_1 p0 p1 4), .b (FwtakeF_2 p0 p1 4)])])
          176 (by kernel_rfl) rfl (by kernel_rfl) (⟨⟨(by first | omega | (rw [adr_eq]; omega) | exact iAnd_nn _ _ | exact iSub_nn _ _ | exact part1_le (by omega) (by first | omega | (simp only [List.length_append]; omega)) | decide), trivial⟩, ⟨⟨(by first | omega | (rw [adr_eq]; omega) | exact iAnd_nn _ _ | exact iSub_nn _ _ | exact part1_le (by omega) (by first | omega | (simp only [List.length_append]; omega)) | decide), trivial⟩, ⟨⟨trivial, trivial⟩, trivial⟩⟩⟩) ?_
      refine Tri.region' [] none [3, 9, 8, 7] [0] ((True ∧ True) ∧ ((((0 : Int) ≤ 8) ∧ True) ∧ ((True ∧ True) ∧ ((True ∧ True) ∧ ((True ∧ True) ∧ ((True ∧ True) ∧ True))))))
          ([(3, .sc (.i .u32 (iOr .u32 (iShl .u32 z0 8) (IntKind.wrap .u32 ((FwtakeF p0 p1 4).getD k0 0))))), (9, .sc (.i .i64 ((k0 : Nat) : Int))), (8, .sc (.i .i64 (((FwtakeF p0 p1 4).length : Nat) : Int))), (7, .sc (.ro .u8 (FwtakeF p0 p1 4)))], [(0, .cells [.ro .u8 (FwtakeF_1 p0 p1 4), .b (FwtakeF_2 p0 p1 4)])])
          272 (by kernel_rfl) rfl (by kernel_rfl) (⟨⟨trivial, trivial⟩, ⟨⟨(by first | omega | (rw [adr_eq]; omega) | exact iAnd_nn _ _ | exact iSub_nn _ _ | exact part1_le (by omega) (by first | omega | (simp only [List.length_append]; omega)) | decide), trivial⟩, ⟨⟨trivial, trivial⟩, ⟨⟨trivial, trivial⟩, ⟨⟨trivial, trivial⟩, ⟨⟨trivial, trivial⟩, trivial⟩⟩⟩⟩⟩⟩) ?_
      change Tri _ _ _ _ _ _
      refine Tri.region' [(18, qi ((k0 + 1 : Nat) : Int))] none [9, 3, 8, 7] [0] ((True ∧ ((iAdd .i64 ((k0 : Nat) : Int) 1) = ((k0 + 1 : Nat) : Int))) ∧ ((True ∧ True) ∧ True))
          ([(9, .sc (.i .i64 ((k0 + 1 : Nat) : Int))), (3, .sc (.i .u32 (iOr .u32 (iShl .u32 z0 8) (IntKind.wrap .u32 ((FwtakeF p0 p1 4).getD k0 0))))), (8, .sc (.i .i64 (((FwtakeF p0 p1 4).length : Nat) : Int))), (7, .sc (.ro .u8 (FwtakeF p0 p1 4)))], [(0, .cells [.ro .u8 (FwtakeF_1 p0 p1 4), .b (FwtakeF_2 p0 p1 4)])])
          304 (by kernel_rfl) rfl (by kernel_rfl) (⟨⟨trivial, (iAdd_nat (a := k0) (b := 1) (by omega))⟩, ⟨⟨trivial, trivial⟩, trivial⟩⟩) ?_
      repeat (refine blkP_normal ?_)
      refine countP_normal (by omega) trivial ?_
      exact Sub.ren (ns := [(0, 0)]) (kf := [9, 8, 7, 3]) (by kernel_rfl) (by kernel_rfl)
    ·
      have h1' := of_decide_eq_false h1
      refine Tri.exit ?_
      have hend0 : k0 = ((FwtakeF p0 p1 4).length) := by (have := of_decide_eq_false h1; omega)
      subst hend0; subst hz0
      change Tri _ _ _ _ _ _
      refine Tri.seq_region [] none [2] [0] ((True ∧ True) ∧ ((True ∧ True) ∧ True))
          ([(2, .sc (.i .u32 (itr (FwU32l0 p0 p1) ((FwtakeF p0 p1 4).length) 0)))], [(0, .cells [.ro .u8 (FwtakeF_1 p0 p1 4), .b (FwtakeF_2 p0 p1 4)])])
          160 (by kernel_rfl) rfl (by kernel_rfl) (⟨⟨trivial, trivial⟩, ⟨⟨trivial, trivial⟩, trivial⟩⟩) ?_
      refine Tri.ret ?_
      repeat (first | refine thenP_ret ?_ | refine blkP_ret ?_ | refine countP_ret ?_ | refine joinP_ret ?_ | refine iterP_ret ?_)
      exact endP.ret [(0, 0)] (True ∧ True) (by kernel_rfl) (by kernel_rfl) ⟨trivial, trivial⟩

theorem in_FwU32 (p0 : List Int) (p1 : Bool) : 0 ≤ FwU32 p0 p1 ∧ FwU32 p0 p1 < 4294967296 := by
  have h0 : ∀ n, 0 ≤ itr (FwU32l0 p0 p1) n 0 ∧ itr (FwU32l0 p0 p1) n 0 < 4294967296 := by
    intro n
    cases n with
    | zero => rw [itr_zero]; decide
    | succ k => rw [itr_succ]; unfold FwU32l0 iOr; rw [wrap_u32]; omega
  exact h0 _
theorem nn_FwU32 (p0 : List Int) (p1 : Bool) : 0 ≤ IntKind.wrap .i64 (FwU32 p0 p1) := by
  have := in_FwU32 p0 p1
  rw [wrap_small (by omega) (by omega)]
  exact this.1


noncomputable def FwU32Nill0 (k0 : Nat) (z0 : Int) : Int :=
  (iOr .u32 (iShl .u32 z0 8) (IntKind.wrap .u32 (([] : List Int).getD k0 0)))

noncomputable def FwU32Nil : Int :=
  (itr (FwU32Nill0) 0 0)

noncomputable def SwU32Nil : List AV → List Blk → Option (Prop × Ret)
  | [.sc (.nilp)], [] => some (True, ⟨.sc (.i .u32 (FwU32Nil)), []⟩)
  | _, _ => none

noncomputable def BwU32Nil : Bs := { P := Go.Proofs.Tryd.prog, G := noG, tab := tabOf [⟨43, 64, [.val, .val], [], [], ⟨0, 0, SwtakeNilF⟩⟩], n := 20 }

theorem BwU32Nil.ok : BwU32Nil.Ok := ⟨tabOk (P := Go.Proofs.Tryd.prog) (G := noG) (l := [⟨43, 64, [.val, .val], [], [], ⟨0, 0, SwtakeNilF⟩⟩]) (And.intro KwtakeNilF True.intro), mixed⟩

theorem KwU32Nil : Known Go.Proofs.Tryd.prog noG 16 ⟨0, 0, SwU32Nil⟩ := by
  refine Known.walk (B := BwU32Nil) (fn := Go.Proofs.Tryd.f16) BwU32Nil.ok (by kernel_rfl) rfl (by kernel_rfl) (by kernel_rfl) (by decide) (by decide) ?_
  · intro E args ks C r h hC hlen
    simp only at h
    unfold SwU32Nil at h
    split at h
    rotate_left
    · cases h
    skip
    cases h
    simp only [lens] at hlen
    refine ⟨show 1 ≤ 20 from by decide, ?_⟩
    refine Tri.sub (Sub.of_eq (show _ = ([(0, .sc (.nilp))], []) from rfl)) ?_
    refine Tri.seq_region [] none [0] [] ((True ∧ True) ∧ True)
        ([(0, .sc (.nilp))], [])
        32 (by kernel_rfl) rfl (by kernel_rfl) (⟨⟨trivial, trivial⟩, trivial⟩) ?_
    refine Tri.seq_region [] none [3, 0] [] ((True ∧ True) ∧ True)
        ([(3, .sc (.i .u32 0)), (0, .sc (.nilp))], [])
        48 (by kernel_rfl) rfl (by kernel_rfl) (⟨⟨trivial, trivial⟩, trivial⟩) ?_
    refine Tri.seq ?_
    refine Tri.seq_region [] none [9, 8, 7, 3] [] ((True ∧ True) ∧ (((True ∧ True) ∧ True) ∧ ((True ∧ True) ∧ ((True ∧ True) ∧ True))))
        ([(9, .sc (.i .i64 0)), (8, .sc (.i .i64 0)), (7, .sc (.ro .u8 ([] : List Int))), (3, .sc (.i .u32 0))], [])
        112 (by kernel_rfl) rfl (by kernel_rfl) (⟨⟨trivial, trivial⟩, ⟨⟨⟨trivial, trivial⟩, trivial⟩, ⟨⟨trivial, trivial⟩, ⟨⟨trivial, trivial⟩, trivial⟩⟩⟩⟩) ?_
    refine Tri.block ?_
    refine Tri.count 112 0 (FwU32Nill0) 0 (fun k0 z0 => True) (fun k0 z0 => ([(9, .sc (.i .i64 ((k0 : Nat) : Int))), (8, .sc (.i .i64 0)), (7, .sc (.ro .u8 ([] : List Int))), (3, .sc (.i .u32 z0))], [])) trivial (Sub.of_eq (by kernel_rfl)) ?_
    intro k0 z0 hk0 hz0 hJ0
    refine Tri.seq_region [] none [10, 9, 8, 7, 3] [] ((True ∧ True) ∧ True)
        ([(10, .sc (.b (decide ((((k0 : Nat) : Int) : Int) < 0)))), (9, .sc (.i .i64 ((k0 : Nat) : Int))), (8, .sc (.i .i64 0)), (7, .sc (.ro .u8 ([] : List Int))), (3, .sc (.i .u32 z0))], [])
        128 (by kernel_rfl) rfl (by kernel_rfl) (⟨⟨trivial, trivial⟩, trivial⟩) ?_
    refine Tri.seq ?_
    refine Tri.cond (x := (decide ((((k0 : Nat) : Int) : Int) < 0))) (by kernel_rfl) (fun h1 => ?_) (fun h1 => ?_)
    ·
      have h1' := of_decide_eq_true h1
      refine Tri.skip ?_
      change Tri _ _ _ _ _ _
      refine Tri.seq ?_
      refine Tri.block ?_
      refine Tri.seq_region [] none [5, 9, 8, 7, 3] [] ((((0 : Int) ≤ ((k0 : Nat) : Int) ∧ ((k0 : Nat) : Int) < (([] : List Int).length : Int)) ∧ True) ∧ (((k0 < ([] : List Int).length) ∧ True) ∧ ((True ∧ True) ∧ True)))
          ([(5, .sc (.i .u8 (([] : List Int).getD k0 0))), (9, .sc (.i .i64 ((k0 : Nat) : Int))), (8, .sc (.i .i64 0)), (7, .sc (.ro .u8 ([] : List Int))), (3, .sc (.i .u32 z0))], [])
          176 (by kernel_rfl) rfl (by kernel_rfl) (⟨⟨(by first | omega | (rw [adr_eq]; omega) | exact iAnd_nn _ _ | exact iSub_nn _ _ | exact part1_le (by omega) (by first | omega | (simp only [List.length_append]; omega)) | decide), trivial⟩, ⟨⟨(by first | omega | (rw [adr_eq]; omega) | exact iAnd_nn _ _ | exact iSub_nn _ _ | exact part1_le (by omega) (by first | omega | (simp only [List.length_append]; omega)) | decide), trivial⟩, ⟨⟨trivial, trivial⟩, trivial⟩⟩⟩) ?_
      refine Tri.region' [] none [3, 9, 8, 7] [] ((True ∧ True) ∧ ((((0 : Int) ≤ 8) ∧ True) ∧ ((True ∧ True) ∧ ((True ∧ True) ∧ ((True ∧ True) ∧ ((True ∧ True) ∧ True))))))
          ([(3, .sc (.i .u32 (iOr .u32 (iShl .u32 z0 8) (IntKind.wrap .u32 (([] : List Int).getD k0 0))))), (9, .sc (.i .i64 ((k0 : Nat) : Int))), (8, .sc (.i .i64 0)), (7, .sc (.ro .u8 ([] : List Int)))], [])
          272 (by kernel_rfl) rfl (by kernel_rfl) (⟨⟨trivial, trivial⟩, ⟨⟨(by first | omega | (rw [adr_eq]; omega) | exact iAnd_nn _ _ | exact iSub_nn _ _ | exact part1_le (by omega) (by first | omega | (simp only [List.length_append]; omega)) | decide), trivial⟩, ⟨⟨trivial, trivial⟩, ⟨⟨trivial, trivial⟩, ⟨⟨trivial, trivial⟩, ⟨⟨trivial, trivial⟩, trivial⟩⟩⟩⟩⟩⟩) ?_
      change Tri _ _ _ _ _ _
      refine Tri.region' [(18, qi ((k0 + 1 : Nat) : Int))] none [9, 3, 8, 7] [] ((True ∧ ((iAdd .i64 ((k0 : Nat) : Int) 1) = ((k0 + 1 : Nat) : Int))) ∧ ((True ∧ True) ∧ True))
          ([(9, .sc (.i .i64 ((k0 + 1 : Nat) : Int))), (3, .sc (.i .u32 (iOr .u32 (iShl .u32 z0 8) (IntKind.wrap .u32 (([] : List Int).getD k0 0))))), (8, .sc (.i .i64 0)), (7, .sc (.ro .u8 ([] : List Int)))], [])
          304 (by kernel_rfl) rfl (by kernel_rfl) (⟨⟨trivial, (iAdd_nat (a := k0) (b := 1) (by omega))⟩, ⟨⟨trivial, trivial⟩, trivial⟩⟩) ?_
      repeat (refine blkP_normal ?_)
      refine countP_normal (by omega) trivial ?_
      exact Sub.ren (ns := []) (kf := [9, 8, 7, 3]) (by kernel_rfl) (by kernel_rfl)
    ·
      have h1' := of_decide_eq_false h1
      refine Tri.exit ?_
      have hend0 : k0 = 0 := by (have := of_decide_eq_false h1; omega)
      subst hend0; subst hz0
      change Tri _ _ _ _ _ _
      refine Tri.seq_region [] none [2] [] ((True ∧ True) ∧ ((True ∧ True) ∧ True))
          ([(2, .sc (.i .u32 (itr (FwU32Nill0) 0 0)))], [])
          160 (by kernel_rfl) rfl (by kernel_rfl) (⟨⟨trivial, trivial⟩, ⟨⟨trivial, trivial⟩, trivial⟩⟩) ?_
      refine Tri.ret ?_
      repeat (first | refine thenP_ret ?_ | refine blkP_ret ?_ | refine countP_ret ?_ | refine joinP_ret ?_ | refine iterP_ret ?_)
      exact endP.ret [] (True ∧ True) (by kernel_rfl) (by kernel_rfl) ⟨trivial, trivial⟩

theorem nn_FwU32Nil : 0 ≤ IntKind.wrap .i64 (FwU32Nil) := by
  unfold FwU32Nil
  first | decide | (rw [itr_zero]; decide)


noncomputable def FwText (p0 : List Int) (p1 : Bool) : ByteArray :=
  (sel (decide (((FwU32 p0 p1) : Int) > 16384)) (⟨#[]⟩ : ByteArray) (bytesOf (FwtakeF (FwU32_1 p0 p1) (FwU32_2 p0 p1) (IntKind.wrap .i64 (FwU32 p0 p1)))))

noncomputable def FwText_1 (p0 : List Int) (p1 : Bool) : List Int :=
  (sel (decide (((FwU32 p0 p1) : Int) > 16384)) (FwtakeF_1 (FwU32_1 p0 p1) (FwU32_2 p0 p1) 1073741824) (FwtakeF_1 (FwU32_1 p0 p1) (FwU32_2 p0 p1) (IntKind.wrap .i64 (FwU32 p0 p1))))

noncomputable def FwText_2 (p0 : List Int) (p1 : Bool) : Bool :=
  (sel (decide (((FwU32 p0 p1) : Int) > 16384)) (FwtakeF_2 (FwU32_1 p0 p1) (FwU32_2 p0 p1) 1073741824) (FwtakeF_2 (FwU32_1 p0 p1) (FwU32_2 p0 p1) (IntKind.wrap .i64 (FwU32 p0 p1))))

noncomputable def SwText : List AV → List Blk → Option (Prop × Ret)
  | [.sc (.p 0 0)], [.cells [.ro .u8 p0, .b p1]] => some (True, ⟨.sc (.s (FwText p0 p1)), [some (.cells [.ro .u8 (FwText_1 p0 p1), .b (FwText_2 p0 p1)])]⟩)
  | _, _ => none

noncomputable def BwText : Bs := { P := Go.Proofs.Tryd.prog, G := noG, tab := tabOf [⟨16, 48, [.io], [], [0], ⟨1, 0, SwU32⟩⟩, ⟨43, 128, [.io, .val], [], [0], ⟨1, 0, SwtakeF⟩⟩, ⟨43, 160, [.io, .val], [], [0], ⟨1, 0, SwtakeF⟩⟩], n := 15 }

theorem BwText.ok : BwText.Ok := ⟨tabOk (P := Go.Proofs.Tryd.prog) (G := noG) (l := [⟨16, 48, [.io], [], [0], ⟨1, 0, SwU32⟩⟩, ⟨43, 128, [.io, .val], [], [0], ⟨1, 0, SwtakeF⟩⟩, ⟨43, 160, [.io, .val], [], [0], ⟨1, 0, SwtakeF⟩⟩]) (And.intro KwU32 (And.intro KwtakeF (And.intro KwtakeF True.intro))), mixed⟩

theorem KwText : Known Go.Proofs.Tryd.prog noG 18 ⟨1, 0, SwText⟩ := by
  refine Known.walk (B := BwText) (fn := Go.Proofs.Tryd.f18) BwText.ok (by kernel_rfl) rfl (by kernel_rfl) (by kernel_rfl) (by decide) (by decide) ?_
  · intro E args ks C r h hC hlen
    simp only at h
    unfold SwText at h
    split at h
    rotate_left
    · cases h
    rename_i p0 p1
    cases h
    simp only [lens] at hlen
    refine ⟨show 1 ≤ 15 from by decide, ?_⟩
    refine Tri.sub (Sub.of_eq (show _ = ([(0, .sc (.p 0 0))], [(0, .cells [.ro .u8 p0, .b p1])]) from rfl)) ?_
    refine Tri.seq_region [] none [0] [0] ((True ∧ True) ∧ True)
        ([(0, .sc (.p 0 0))], [(0, .cells [.ro .u8 p0, .b p1])])
        32 (by kernel_rfl) rfl (by kernel_rfl) (⟨⟨trivial, trivial⟩, trivial⟩) ?_
    refine Tri.seq_region [] none [3, 0] [0] ((True ∧ True) ∧ (((True ∧ True) ∧ True) ∧ ((True ∧ True) ∧ True)))
        ([(3, .sc (.i .u32 (FwU32 p0 p1))), (0, .sc (.p 0 0))], [(0, .cells [.ro .u8 (FwU32_1 p0 p1), .b (FwU32_2 p0 p1)])])
        80 (by kernel_rfl) rfl (by kernel_rfl) (⟨⟨trivial, trivial⟩, ⟨⟨⟨trivial, trivial⟩, trivial⟩, ⟨⟨trivial, trivial⟩, trivial⟩⟩⟩) ?_
    refine Tri.seq ?_
    refine Tri.seq_region [] none [7, 3, 0] [0] ((True ∧ True) ∧ ((True ∧ True) ∧ True))
        ([(7, .sc (.b (decide (((FwU32 p0 p1) : Int) > 16384)))), (3, .sc (.i .u32 (FwU32 p0 p1))), (0, .sc (.p 0 0))], [(0, .cells [.ro .u8 (FwU32_1 p0 p1), .b (FwU32_2 p0 p1)])])
        112 (by kernel_rfl) rfl (by kernel_rfl) (⟨⟨trivial, trivial⟩, ⟨⟨trivial, trivial⟩, trivial⟩⟩) ?_
    refine Tri.cond (x := (decide (((FwU32 p0 p1) : Int) > 16384))) (by kernel_rfl) (fun h1 => ?_) (fun h1 => ?_)
    ·
      have h1' := of_decide_eq_true h1
      refine Tri.seq_region [] none [] [0] ((True ∧ True) ∧ (((True ∧ ((0 : Int) ≤ 1073741824)) ∧ True) ∧ True))
          ([], [(0, .cells [.ro .u8 (FwtakeF_1 (FwU32_1 p0 p1) (FwU32_2 p0 p1) 1073741824), .b (FwtakeF_2 (FwU32_1 p0 p1) (FwU32_2 p0 p1) 1073741824)])])
          144 (by kernel_rfl) rfl (by kernel_rfl) (⟨⟨trivial, trivial⟩, ⟨⟨⟨trivial, (by first | omega | exact nn_FwU32 _ _ | decide)⟩, trivial⟩, trivial⟩⟩) ?_
      refine Tri.seq_region [] none [2] [0] ((True ∧ True) ∧ True)
          ([(2, .sc (.s (⟨#[]⟩ : ByteArray)))], [(0, .cells [.ro .u8 (FwtakeF_1 (FwU32_1 p0 p1) (FwU32_2 p0 p1) 1073741824), .b (FwtakeF_2 (FwU32_1 p0 p1) (FwU32_2 p0 p1) 1073741824)])])
          160 (by kernel_rfl) rfl (by kernel_rfl) (⟨⟨trivial, trivial⟩, trivial⟩) ?_
      refine Tri.ret ?_
      repeat (first | refine thenP_ret ?_ | refine blkP_ret ?_ | refine countP_ret ?_ | refine joinP_ret ?_ | refine iterP_ret ?_)
      refine endP.conv (r' := ⟨.sc (.s (⟨#[]⟩ : ByteArray)), [some (.cells [.ro .u8 (FwtakeF_1 (FwU32_1 p0 p1) (FwU32_2 p0 p1) 1073741824), .b (FwtakeF_2 (FwU32_1 p0 p1) (FwU32_2 p0 p1) 1073741824)])]⟩) (by simp only [FwText, FwText_1, FwText_2, h1, sel_true, sel_false]) ?_
      exact endP.ret [(0, 0)] (True ∧ True) (by kernel_rfl) (by kernel_rfl) ⟨trivial, trivial⟩
    ·
      have h1' := of_decide_eq_false h1
      refine Tri.skip ?_
      change Tri _ _ _ _ _ _
      refine Tri.seq_region [] none [2] [0] ((True ∧ True) ∧ ((True ∧ True) ∧ ((True ∧ True) ∧ (((True ∧ ((0 : Int) ≤ (IntKind.wrap .i64 (FwU32 p0 p1)))) ∧ True) ∧ ((True ∧ True) ∧ ((True ∧ True) ∧ True))))))
          ([(2, .sc (.s (bytesOf (FwtakeF (FwU32_1 p0 p1) (FwU32_2 p0 p1) (IntKind.wrap .i64 (FwU32 p0 p1))))))], [(0, .cells [.ro .u8 (FwtakeF_1 (FwU32_1 p0 p1) (FwU32_2 p0 p1) (IntKind.wrap .i64 (FwU32 p0 p1))), .b (FwtakeF_2 (FwU32_1 p0 p1) (FwU32_2 p0 p1) (IntKind.wrap .i64 (FwU32 p0 p1)))])])
          208 (by kernel_rfl) rfl (by kernel_rfl) (⟨⟨trivial, trivial⟩, ⟨⟨trivial, trivial⟩, ⟨⟨trivial, trivial⟩, ⟨⟨⟨trivial, (by first | omega | exact nn_FwU32 _ _ | decide)⟩, trivial⟩, ⟨⟨trivial, trivial⟩, ⟨⟨trivial, trivial⟩, trivial⟩⟩⟩⟩⟩⟩) ?_
      refine Tri.ret ?_
      repeat (first | refine thenP_ret ?_ | refine blkP_ret ?_ | refine countP_ret ?_ | refine joinP_ret ?_ | refine iterP_ret ?_)
      refine endP.conv (r' := ⟨.sc (.s (bytesOf (FwtakeF (FwU32_1 p0 p1) (FwU32_2 p0 p1) (IntKind.wrap .i64 (FwU32 p0 p1))))), [some (.cells [.ro .u8 (FwtakeF_1 (FwU32_1 p0 p1) (FwU32_2 p0 p1) (IntKind.wrap .i64 (FwU32 p0 p1))), .b (FwtakeF_2 (FwU32_1 p0 p1) (FwU32_2 p0 p1) (IntKind.wrap .i64 (FwU32 p0 p1)))])]⟩) (by simp only [FwText, FwText_1, FwText_2, h1, sel_true, sel_false]) ?_
      exact endP.ret [(0, 0)] (True ∧ True) (by kernel_rfl) (by kernel_rfl) ⟨trivial, trivial⟩

theorem size_FwText (p0 : List Int) (p1 : Bool) : (FwText p0 p1).size ≤ 16384 := by
  unfold FwText
  cases h : (decide (((FwU32 p0 p1) : Int) > 16384))
  · have h0 := of_decide_eq_false h
    have h1 := in_FwU32 p0 p1
    have h2 := le_FwtakeF (FwU32_1 p0 p1) (FwU32_2 p0 p1) (IntKind.wrap .i64 (FwU32 p0 p1))
    rw [wrap_small (by omega) (by omega)] at h2 ⊢
    rw [sel_false]
    have h3 : ∀ xs : List Int, (bytesOf xs).size = xs.length := fun xs => by simp [bytesOf, ByteArray.size]
    rw [h3]
    omega
  · rw [sel_true]; decide


noncomputable def FwTextNil : ByteArray :=
  (sel (decide (((FwU32Nil) : Int) > 16384)) (⟨#[]⟩ : ByteArray) (bytesOf ([] : List Int)))

noncomputable def SwTextNil : List AV → List Blk → Option (Prop × Ret)
  | [.sc (.nilp)], [] => some (True, ⟨.sc (.s (FwTextNil)), []⟩)
  | _, _ => none

noncomputable def BwTextNil : Bs := { P := Go.Proofs.Tryd.prog, G := noG, tab := tabOf [⟨16, 48, [.val], [], [], ⟨0, 0, SwU32Nil⟩⟩, ⟨43, 128, [.val, .val], [], [], ⟨0, 0, SwtakeNilF⟩⟩, ⟨43, 160, [.val, .val], [], [], ⟨0, 0, SwtakeNilF⟩⟩], n := 15 }

theorem BwTextNil.ok : BwTextNil.Ok := ⟨tabOk (P := Go.Proofs.Tryd.prog) (G := noG) (l := [⟨16, 48, [.val], [], [], ⟨0, 0, SwU32Nil⟩⟩, ⟨43, 128, [.val, .val], [], [], ⟨0, 0, SwtakeNilF⟩⟩, ⟨43, 160, [.val, .val], [], [], ⟨0, 0, SwtakeNilF⟩⟩]) (And.intro KwU32Nil (And.intro KwtakeNilF (And.intro KwtakeNilF True.intro))), mixed⟩

theorem KwTextNil : Known Go.Proofs.Tryd.prog noG 18 ⟨0, 0, SwTextNil⟩ := by
  refine Known.walk (B := BwTextNil) (fn := Go.Proofs.Tryd.f18) BwTextNil.ok (by kernel_rfl) rfl (by kernel_rfl) (by kernel_rfl) (by decide) (by decide) ?_
  · intro E args ks C r h hC hlen
    simp only at h
    unfold SwTextNil at h
    split at h
    rotate_left
    · cases h
    skip
    cases h
    simp only [lens] at hlen
    refine ⟨show 1 ≤ 15 from by decide, ?_⟩
    refine Tri.sub (Sub.of_eq (show _ = ([(0, .sc (.nilp))], []) from rfl)) ?_
    refine Tri.seq_region [] none [0] [] ((True ∧ True) ∧ True)
        ([(0, .sc (.nilp))], [])
        32 (by kernel_rfl) rfl (by kernel_rfl) (⟨⟨trivial, trivial⟩, trivial⟩) ?_
    refine Tri.seq_region [] none [3, 0] [] ((True ∧ True) ∧ (((True ∧ True) ∧ True) ∧ ((True ∧ True) ∧ True)))
        ([(3, .sc (.i .u32 (FwU32Nil))), (0, .sc (.nilp))], [])
        80 (by kernel_rfl) rfl (by kernel_rfl) (⟨⟨trivial, trivial⟩, ⟨⟨⟨trivial, trivial⟩, trivial⟩, ⟨⟨trivial, trivial⟩, trivial⟩⟩⟩) ?_
    refine Tri.seq ?_
    refine Tri.seq_region [] none [7, 3, 0] [] ((True ∧ True) ∧ ((True ∧ True) ∧ True))
        ([(7, .sc (.b (decide (((FwU32Nil) : Int) > 16384)))), (3, .sc (.i .u32 (FwU32Nil))), (0, .sc (.nilp))], [])
        112 (by kernel_rfl) rfl (by kernel_rfl) (⟨⟨trivial, trivial⟩, ⟨⟨trivial, trivial⟩, trivial⟩⟩) ?_
    refine Tri.cond (x := (decide (((FwU32Nil) : Int) > 16384))) (by kernel_rfl) (fun h1 => ?_) (fun h1 => ?_)
    ·
      have h1' := of_decide_eq_true h1
      refine Tri.seq_region [] none [] [] ((True ∧ True) ∧ (((True ∧ True) ∧ True) ∧ True))
          ([], [])
          144 (by kernel_rfl) rfl (by kernel_rfl) (⟨⟨trivial, trivial⟩, ⟨⟨⟨trivial, trivial⟩, trivial⟩, trivial⟩⟩) ?_
      refine Tri.seq_region [] none [2] [] ((True ∧ True) ∧ True)
          ([(2, .sc (.s (⟨#[]⟩ : ByteArray)))], [])
          160 (by kernel_rfl) rfl (by kernel_rfl) (⟨⟨trivial, trivial⟩, trivial⟩) ?_
      refine Tri.ret ?_
      repeat (first | refine thenP_ret ?_ | refine blkP_ret ?_ | refine countP_ret ?_ | refine joinP_ret ?_ | refine iterP_ret ?_)
      refine endP.conv (r' := ⟨.sc (.s (⟨#[]⟩ : ByteArray)), []⟩) (by simp only [FwTextNil, h1, sel_true, sel_false]) ?_
      exact endP.ret [] (True ∧ True) (by kernel_rfl) (by kernel_rfl) ⟨trivial, trivial⟩
    ·
      have h1' := of_decide_eq_false h1
      refine Tri.skip ?_
      change Tri _ _ _ _ _ _
      refine Tri.seq_region [] none [2] [] ((True ∧ True) ∧ ((True ∧ True) ∧ ((True ∧ True) ∧ (((True ∧ True) ∧ True) ∧ ((True ∧ True) ∧ ((True ∧ True) ∧ True))))))
          ([(2, .sc (.s (bytesOf ([] : List Int))))], [])
          208 (by kernel_rfl) rfl (by kernel_rfl) (⟨⟨trivial, trivial⟩, ⟨⟨trivial, trivial⟩, ⟨⟨trivial, trivial⟩, ⟨⟨⟨trivial, trivial⟩, trivial⟩, ⟨⟨trivial, trivial⟩, ⟨⟨trivial, trivial⟩, trivial⟩⟩⟩⟩⟩⟩) ?_
      refine Tri.ret ?_
      repeat (first | refine thenP_ret ?_ | refine blkP_ret ?_ | refine countP_ret ?_ | refine joinP_ret ?_ | refine iterP_ret ?_)
      refine endP.conv (r' := ⟨.sc (.s (bytesOf ([] : List Int))), []⟩) (by simp only [FwTextNil, h1, sel_true, sel_false]) ?_
      exact endP.ret [] (True ∧ True) (by kernel_rfl) (by kernel_rfl) ⟨trivial, trivial⟩

theorem none_FwTextNil : FwTextNil = (⟨#[]⟩ : ByteArray) := by
  unfold FwTextNil
  have h : (decide (FwU32Nil > 16384)) = false := by unfold FwU32Nil; first | decide | (rw [itr_zero]; decide)
  try rw [h]
  rfl
theorem is_FwTextNil : (strEq (FwTextNil) (⟨#[]⟩ : ByteArray)) = true := by
  rw [none_FwTextNil]; kernel_rfl

theorem sel_nn (p2 : Int) : 0 ≤ sel (decide (p2 < 0)) 1073741824 p2 := by
  cases h : decide (p2 < 0)
  · have := of_decide_eq_false h
    rw [sel_false]; omega
  · rw [sel_true]; decide
noncomputable def FwBytes (p0 : List Int) (p1 : Bool) (p2 : Int) : List Int :=
  (FwtakeF p0 p1 (sel (decide ((p2 : Int) < 0)) 1073741824 p2))

noncomputable def FwBytes_1 (p0 : List Int) (p1 : Bool) (p2 : Int) : List Int :=
  (FwtakeF_1 p0 p1 (sel (decide ((p2 : Int) < 0)) 1073741824 p2))

noncomputable def FwBytes_2 (p0 : List Int) (p1 : Bool) (p2 : Int) : Bool :=
  (FwtakeF_2 p0 p1 (sel (decide ((p2 : Int) < 0)) 1073741824 p2))

noncomputable def SwBytes : List AV → List Blk → Option (Prop × Ret)
  | [.sc (.p 0 0), .sc (.i .i64 p2)], [.cells [.ro .u8 p0, .b p1]] => some (True, ⟨.sc (.ro .u8 (FwBytes p0 p1 p2)), [some (.cells [.ro .u8 (FwBytes_1 p0 p1 p2), .b (FwBytes_2 p0 p1 p2)])]⟩)
  | _, _ => none

noncomputable def BwBytes : Bs := { P := Go.Proofs.Tryd.prog, G := noG, tab := tabOf [⟨43, 112, [.io, .val], [], [0], ⟨1, 0, SwtakeF⟩⟩], n := 10 }

theorem BwBytes.ok : BwBytes.Ok := ⟨tabOk (P := Go.Proofs.Tryd.prog) (G := noG) (l := [⟨43, 112, [.io, .val], [], [0], ⟨1, 0, SwtakeF⟩⟩]) (And.intro KwtakeF True.intro), mixed⟩

theorem KwBytes : Known Go.Proofs.Tryd.prog noG 25 ⟨1, 0, SwBytes⟩ := by
  refine Known.walk (B := BwBytes) (fn := Go.Proofs.Tryd.f25) BwBytes.ok (by kernel_rfl) rfl (by kernel_rfl) (by kernel_rfl) (by decide) (by decide) ?_
  · intro E args ks C r h hC hlen
    simp only at h
    unfold SwBytes at h
    split at h
    rotate_left
    · cases h
    rename_i p2 p0 p1
    cases h
    simp only [lens] at hlen
    refine ⟨show 2 ≤ 10 from by decide, ?_⟩
    refine Tri.sub (Sub.of_eq (show _ = ([(0, .sc (.p 0 0)), (1, .sc (.i .i64 p2))], [(0, .cells [.ro .u8 p0, .b p1])]) from rfl)) ?_
    refine Tri.seq_region [] none [0, 1] [0] ((True ∧ True) ∧ True)
        ([(0, .sc (.p 0 0)), (1, .sc (.i .i64 p2))], [(0, .cells [.ro .u8 p0, .b p1])])
        32 (by kernel_rfl) rfl (by kernel_rfl) (⟨⟨trivial, trivial⟩, trivial⟩) ?_
    refine Tri.seq ?_
    refine Tri.seq_region [] none [6, 0, 1] [0] ((True ∧ True) ∧ ((True ∧ True) ∧ True))
        ([(6, .sc (.b (decide ((p2 : Int) < 0)))), (0, .sc (.p 0 0)), (1, .sc (.i .i64 p2))], [(0, .cells [.ro .u8 p0, .b p1])])
        64 (by kernel_rfl) rfl (by kernel_rfl) (⟨⟨trivial, trivial⟩, ⟨⟨trivial, trivial⟩, trivial⟩⟩) ?_
    refine Tri.join (x := (decide ((p2 : Int) < 0))) (fun bb => ([(1, .sc (.i .i64 (sel bb 1073741824 p2))), (0, .sc (.p 0 0))], [(0, .cells [.ro .u8 p0, .b p1])])) 80 (by kernel_rfl) (fun h1 => ?_) (fun h1 => ?_) ?_
    ·
      have h1' := of_decide_eq_true h1
      refine Tri.region' [] none [1, 0] [0] ((True ∧ True) ∧ True)
          ([(1, .sc (.i .i64 1073741824)), (0, .sc (.p 0 0))], [(0, .cells [.ro .u8 p0, .b p1])])
          80 (by kernel_rfl) rfl (by kernel_rfl) (⟨⟨trivial, trivial⟩, trivial⟩) ?_
      exact (Sub.ren (ns := [(0, 0)]) (kf := [1, 0]) (s' := ([(1, .sc (.i .i64 1073741824)), (0, .sc (.p 0 0))], [(0, .cells [.ro .u8 p0, .b p1])])) (by kernel_rfl) (by kernel_rfl)).trans (Sub.of_eq (by simp only [sel_true, sel_false]))
    ·
      have h1' := of_decide_eq_false h1
      refine Tri.skip ?_
      exact (Sub.ren (ns := [(0, 0)]) (kf := [1, 0]) (s' := ([(1, .sc (.i .i64 p2)), (0, .sc (.p 0 0))], [(0, .cells [.ro .u8 p0, .b p1])])) (by kernel_rfl) (by kernel_rfl)).trans (Sub.of_eq (by simp only [sel_true, sel_false]))
    ·
      change Tri _ _ _ _ _ _
      refine Tri.seq_region [] none [4] [0] ((True ∧ True) ∧ ((True ∧ True) ∧ (((True ∧ ((0 : Int) ≤ (sel (decide ((p2 : Int) < 0)) 1073741824 p2))) ∧ True) ∧ ((True ∧ True) ∧ True))))
          ([(4, .sc (.ro .u8 (FwtakeF p0 p1 (sel (decide ((p2 : Int) < 0)) 1073741824 p2))))], [(0, .cells [.ro .u8 (FwtakeF_1 p0 p1 (sel (decide ((p2 : Int) < 0)) 1073741824 p2)), .b (FwtakeF_2 p0 p1 (sel (decide ((p2 : Int) < 0)) 1073741824 p2))])])
          144 (by kernel_rfl) rfl (by kernel_rfl) (⟨⟨trivial, trivial⟩, ⟨⟨trivial, trivial⟩, ⟨⟨⟨trivial, (by first | omega | exact sel_nn _ | decide)⟩, trivial⟩, ⟨⟨trivial, trivial⟩, trivial⟩⟩⟩⟩) ?_
      refine Tri.ret ?_
      repeat (first | refine thenP_ret ?_ | refine blkP_ret ?_ | refine countP_ret ?_ | refine joinP_ret ?_ | refine iterP_ret ?_)
      exact endP.ret [(0, 0)] (True ∧ True) (by kernel_rfl) (by kernel_rfl) ⟨trivial, trivial⟩




noncomputable def SwBytesNil : List AV → List Blk → Option (Prop × Ret)
  | [.sc (.nilp), .sc (.i .i64 p2)], [] => some (True, ⟨.sc (.ro .u8 ([] : List Int)), []⟩)
  | _, _ => none

noncomputable def BwBytesNil : Bs := { P := Go.Proofs.Tryd.prog, G := noG, tab := tabOf [⟨43, 112, [.val, .val], [], [], ⟨0, 0, SwtakeNilF⟩⟩], n := 10 }

theorem BwBytesNil.ok : BwBytesNil.Ok := ⟨tabOk (P := Go.Proofs.Tryd.prog) (G := noG) (l := [⟨43, 112, [.val, .val], [], [], ⟨0, 0, SwtakeNilF⟩⟩]) (And.intro KwtakeNilF True.intro), mixed⟩

theorem KwBytesNil : Known Go.Proofs.Tryd.prog noG 25 ⟨0, 0, SwBytesNil⟩ := by
  refine Known.walk (B := BwBytesNil) (fn := Go.Proofs.Tryd.f25) BwBytesNil.ok (by kernel_rfl) rfl (by kernel_rfl) (by kernel_rfl) (by decide) (by decide) ?_
  · intro E args ks C r h hC hlen
    simp only at h
    unfold SwBytesNil at h
    split at h
    rotate_left
    · cases h
    rename_i p2
    cases h
    simp only [lens] at hlen
    refine ⟨show 2 ≤ 10 from by decide, ?_⟩
    refine Tri.sub (Sub.of_eq (show _ = ([(0, .sc (.nilp)), (1, .sc (.i .i64 p2))], []) from rfl)) ?_
    refine Tri.seq_region [] none [0, 1] [] ((True ∧ True) ∧ True)
        ([(0, .sc (.nilp)), (1, .sc (.i .i64 p2))], [])
        32 (by kernel_rfl) rfl (by kernel_rfl) (⟨⟨trivial, trivial⟩, trivial⟩) ?_
    refine Tri.seq ?_
    refine Tri.seq_region [] none [6, 0, 1] [] ((True ∧ True) ∧ ((True ∧ True) ∧ True))
        ([(6, .sc (.b (decide ((p2 : Int) < 0)))), (0, .sc (.nilp)), (1, .sc (.i .i64 p2))], [])
        64 (by kernel_rfl) rfl (by kernel_rfl) (⟨⟨trivial, trivial⟩, ⟨⟨trivial, trivial⟩, trivial⟩⟩) ?_
    refine Tri.join (x := (decide ((p2 : Int) < 0))) (fun bb => ([(1, .sc (.i .i64 (sel bb 1073741824 p2))), (0, .sc (.nilp))], [])) 80 (by kernel_rfl) (fun h1 => ?_) (fun h1 => ?_) ?_
    ·
      have h1' := of_decide_eq_true h1
      refine Tri.region' [] none [1, 0] [] ((True ∧ True) ∧ True)
          ([(1, .sc (.i .i64 1073741824)), (0, .sc (.nilp))], [])
          80 (by kernel_rfl) rfl (by kernel_rfl) (⟨⟨trivial, trivial⟩, trivial⟩) ?_
      exact (Sub.ren (ns := []) (kf := [1, 0]) (s' := ([(1, .sc (.i .i64 1073741824)), (0, .sc (.nilp))], [])) (by kernel_rfl) (by kernel_rfl)).trans (Sub.of_eq (by simp only [sel_true, sel_false]))
    ·
      have h1' := of_decide_eq_false h1
      refine Tri.skip ?_
      exact (Sub.ren (ns := []) (kf := [1, 0]) (s' := ([(1, .sc (.i .i64 p2)), (0, .sc (.nilp))], [])) (by kernel_rfl) (by kernel_rfl)).trans (Sub.of_eq (by simp only [sel_true, sel_false]))
    ·
      change Tri _ _ _ _ _ _
      refine Tri.seq_region [] none [4] [] ((True ∧ True) ∧ ((True ∧ True) ∧ (((True ∧ True) ∧ True) ∧ ((True ∧ True) ∧ True))))
          ([(4, .sc (.ro .u8 ([] : List Int)))], [])
          144 (by kernel_rfl) rfl (by kernel_rfl) (⟨⟨trivial, trivial⟩, ⟨⟨trivial, trivial⟩, ⟨⟨⟨trivial, trivial⟩, trivial⟩, ⟨⟨trivial, trivial⟩, trivial⟩⟩⟩⟩) ?_
      refine Tri.ret ?_
      repeat (first | refine thenP_ret ?_ | refine blkP_ret ?_ | refine countP_ret ?_ | refine joinP_ret ?_ | refine iterP_ret ?_)
      exact endP.ret [] (True ∧ True) (by kernel_rfl) (by kernel_rfl) ⟨trivial, trivial⟩




noncomputable def SwNamesNil : List AV → List Blk → Option (Prop × Ret)
  | [.sc (.nilp)], [] => some (True, ⟨.sc (.nils), []⟩)
  | _, _ => none

noncomputable def BwNamesNil : Bs := { P := Go.Proofs.Tryd.prog, G := noG, tab := tabOf [⟨18, 48, [.val], [], [], ⟨0, 0, SwTextNil⟩⟩], n := 25 }

theorem BwNamesNil.ok : BwNamesNil.Ok := ⟨tabOk (P := Go.Proofs.Tryd.prog) (G := noG) (l := [⟨18, 48, [.val], [], [], ⟨0, 0, SwTextNil⟩⟩]) (And.intro KwTextNil True.intro), mixed⟩

theorem KwNamesNil : Known Go.Proofs.Tryd.prog noG 21 ⟨0, 0, SwNamesNil⟩ := by
  refine Known.walk (B := BwNamesNil) (fn := Go.Proofs.Tryd.f21) BwNamesNil.ok (by kernel_rfl) rfl (by kernel_rfl) (by kernel_rfl) (by decide) (by decide) ?_
  · intro E args ks C r h hC hlen
    simp only at h
    unfold SwNamesNil at h
    split at h
    rotate_left
    · cases h
    skip
    cases h
    simp only [lens] at hlen
    refine ⟨show 1 ≤ 25 from by decide, ?_⟩
    refine Tri.sub (Sub.of_eq (show _ = ([(0, .sc (.nilp))], []) from rfl)) ?_
    refine Tri.seq_region [] none [0] [] ((True ∧ True) ∧ True)
        ([(0, .sc (.nilp))], [])
        32 (by kernel_rfl) rfl (by kernel_rfl) (⟨⟨trivial, trivial⟩, trivial⟩) ?_
    refine Tri.seq_region [] none [3, 0] [] ((True ∧ True) ∧ (((True ∧ True) ∧ True) ∧ ((True ∧ True) ∧ True)))
        ([(3, .sc (.s (FwTextNil))), (0, .sc (.nilp))], [])
        80 (by kernel_rfl) rfl (by kernel_rfl) (⟨⟨trivial, trivial⟩, ⟨⟨⟨trivial, trivial⟩, trivial⟩, ⟨⟨trivial, trivial⟩, trivial⟩⟩⟩) ?_
    refine Tri.seq ?_
    refine Tri.seq_region [] none [10, 3, 0] [] ((True ∧ True) ∧ ((True ∧ True) ∧ True))
        ([(10, .sc (.b (strEq (FwTextNil) (⟨#[]⟩ : ByteArray)))), (3, .sc (.s (FwTextNil))), (0, .sc (.nilp))], [])
        112 (by kernel_rfl) rfl (by kernel_rfl) (⟨⟨trivial, trivial⟩, ⟨⟨trivial, trivial⟩, trivial⟩⟩) ?_
    refine Tri.cond (x := (strEq (FwTextNil) (⟨#[]⟩ : ByteArray))) (by kernel_rfl) (fun h => ?_) (fun h => absurd (h.symm.trans is_FwTextNil) (by decide))
    refine Tri.seq_region [] none [2] [] ((True ∧ True) ∧ True)
        ([(2, .sc (.nils))], [])
        128 (by kernel_rfl) rfl (by kernel_rfl) (⟨⟨trivial, trivial⟩, trivial⟩) ?_
    refine Tri.ret ?_
    repeat (first | refine thenP_ret ?_ | refine blkP_ret ?_ | refine countP_ret ?_ | refine joinP_ret ?_ | refine iterP_ret ?_)
    exact endP.ret [] (True ∧ True) (by kernel_rfl) (by kernel_rfl) ⟨trivial, trivial⟩




noncomputable def FwInt (p0 : List Int) (p1 : Bool) : List Int :=
  (sel (decide (((((FwText p0 p1).size : Nat) : Int) : Int) > 0)) (sel (decide (((bytesI (FwText p0 p1)).getD 0 0 : Int) ≥ 128)) ([] : List Int) (sel (((bytesI (FwText p0 p1)).getD 0 0 : Int) == 0) (sel (((((FwText p0 p1).size : Nat) : Int) : Int) == 1) ([] : List Int) (sel (decide (((bytesI (FwText p0 p1)).getD 1 0 : Int) < 128)) ([] : List Int) (part1 (bytesI (FwText p0 p1)) ((FwText p0 p1).size) 1 (((FwText p0 p1).size) - 1)))) (part1 (bytesI (FwText p0 p1)) ((FwText p0 p1).size) 0 ((FwText p0 p1).size)))) (part1 (bytesI (FwText p0 p1)) ((FwText p0 p1).size) 0 ((FwText p0 p1).size)))

noncomputable def FwInt_1 (p0 : List Int) (p1 : Bool) : List Int :=
  (sel (decide (((((FwText p0 p1).size : Nat) : Int) : Int) > 0)) (sel (decide (((bytesI (FwText p0 p1)).getD 0 0 : Int) ≥ 128)) (FwtakeF_1 (FwText_1 p0 p1) (FwText_2 p0 p1) 1073741824) (sel (((bytesI (FwText p0 p1)).getD 0 0 : Int) == 0) (sel (((((FwText p0 p1).size : Nat) : Int) : Int) == 1) (FwtakeF_1 (FwText_1 p0 p1) (FwText_2 p0 p1) 1073741824) (sel (decide (((bytesI (FwText p0 p1)).getD 1 0 : Int) < 128)) (FwtakeF_1 (FwText_1 p0 p1) (FwText_2 p0 p1) 1073741824) (FwText_1 p0 p1))) (FwText_1 p0 p1))) (FwText_1 p0 p1))

noncomputable def FwInt_2 (p0 : List Int) (p1 : Bool) : Bool :=
  (sel (decide (((((FwText p0 p1).size : Nat) : Int) : Int) > 0)) (sel (decide (((bytesI (FwText p0 p1)).getD 0 0 : Int) ≥ 128)) (FwtakeF_2 (FwText_1 p0 p1) (FwText_2 p0 p1) 1073741824) (sel (((bytesI (FwText p0 p1)).getD 0 0 : Int) == 0) (sel (((((FwText p0 p1).size : Nat) : Int) : Int) == 1) (FwtakeF_2 (FwText_1 p0 p1) (FwText_2 p0 p1) 1073741824) (sel (decide (((bytesI (FwText p0 p1)).getD 1 0 : Int) < 128)) (FwtakeF_2 (FwText_1 p0 p1) (FwText_2 p0 p1) 1073741824) (FwText_2 p0 p1))) (FwText_2 p0 p1))) (FwText_2 p0 p1))

noncomputable def SwInt : List AV → List Blk → Option (Prop × Ret)
  | [.sc (.p 0 0)], [.cells [.ro .u8 p0, .b p1]] => some (True, ⟨.sc (.ro .u8 (FwInt p0 p1)), [some (.cells [.ro .u8 (FwInt_1 p0 p1), .b (FwInt_2 p0 p1)])]⟩)
  | _, _ => none

noncomputable def BwInt : Bs := { P := Go.Proofs.Tryd.prog, G := noG, tab := tabOf [⟨18, 48, [.io], [], [0], ⟨1, 0, SwText⟩⟩, ⟨43, 528, [.io, .val], [], [0], ⟨1, 0, SwtakeF⟩⟩], n := 47 }

theorem BwInt.ok : BwInt.Ok := ⟨tabOk (P := Go.Proofs.Tryd.prog) (G := noG) (l := [⟨18, 48, [.io], [], [0], ⟨1, 0, SwText⟩⟩, ⟨43, 528, [.io, .val], [], [0], ⟨1, 0, SwtakeF⟩⟩]) (And.intro KwText (And.intro KwtakeF True.intro)), mixed⟩

theorem KwInt : Known Go.Proofs.Tryd.prog noG 23 ⟨1, 0, SwInt⟩ := by
  refine Known.walk (B := BwInt) (fn := Go.Proofs.Tryd.f23) BwInt.ok (by kernel_rfl) rfl (by kernel_rfl) (by kernel_rfl) (by decide) (by decide) ?_
  · intro E args ks C r h hC hlen
    simp only at h
    unfold SwInt at h
    split at h
    rotate_left
    · cases h
    rename_i p0 p1
    cases h
    simp only [lens] at hlen
    refine ⟨show 1 ≤ 47 from by decide, ?_⟩
    refine Tri.sub (Sub.of_eq (show _ = ([(0, .sc (.p 0 0))], [(0, .cells [.ro .u8 p0, .b p1])]) from rfl)) ?_
    refine Tri.seq_region [] none [0] [0] ((True ∧ True) ∧ True)
        ([(0, .sc (.p 0 0))], [(0, .cells [.ro .u8 p0, .b p1])])
        32 (by kernel_rfl) rfl (by kernel_rfl) (⟨⟨trivial, trivial⟩, trivial⟩) ?_
    refine Tri.seq_region [] none [3, 0] [64, 0] ((True ∧ True) ∧ (((True ∧ True) ∧ True) ∧ ((True ∧ True) ∧ ((True ∧ True) ∧ True))))
        ([(3, .sc (.sl 64 0 ((FwText p0 p1).size) 1 none)), (0, .sc (.p 0 0))], [(64, .ints .u8 ((FwText p0 p1).size) (bytesI (FwText p0 p1))), (0, .cells [.ro .u8 (FwText_1 p0 p1), .b (FwText_2 p0 p1)])])
        96 (by kernel_rfl) rfl (by kernel_rfl) (⟨⟨trivial, trivial⟩, ⟨⟨⟨trivial, trivial⟩, trivial⟩, ⟨⟨trivial, trivial⟩, ⟨⟨trivial, trivial⟩, trivial⟩⟩⟩⟩) ?_
    refine Tri.seq ?_
    refine Tri.split (decide (((((FwText p0 p1).size : Nat) : Int) : Int) > 0)) (fun h1 => ?_) (fun h1 => ?_)
    ·
      have h1' := of_decide_eq_true h1
      refine Tri.split (decide (((bytesI (FwText p0 p1)).getD 0 0 : Int) ≥ 128)) (fun h2 => ?_) (fun h2 => ?_)
      ·
        have h2' := of_decide_eq_true h2
        refine Tri.len 64 rfl (fun hl3 => ?_)
        refine Tri.seq_region [(10, qb true), (15, qb true)] none [32, 3, 0] [64, 0] ((True ∧ True) ∧ ((True ∧ True) ∧ ((True ∧ True) ∧ ((True ∧ ((decide (((((FwText p0 p1).size : Nat) : Int) : Int) > 0)) = true)) ∧ ((True ∧ True) ∧ ((((0 : Int) ≤ 0 ∧ 0 < (((FwText p0 p1).size : Nat) : Int)) ∧ True) ∧ (((0 < (FwText p0 p1).size) ∧ True) ∧ ((True ∧ True) ∧ ((True ∧ ((decide (((bytesI (FwText p0 p1)).getD 0 0 : Int) ≥ 128)) = true)) ∧ ((True ∧ True) ∧ ((True ∧ True) ∧ ((True ∧ True) ∧ ((True ∧ True) ∧ ((True ∧ True) ∧ ((True ∧ True) ∧ ((True ∧ True) ∧ ((True ∧ True) ∧ ((True ∧ True) ∧ ((True ∧ True) ∧ ((True ∧ True) ∧ ((True ∧ True) ∧ ((True ∧ True) ∧ ((True ∧ True) ∧ ((True ∧ True) ∧ ((True ∧ True) ∧ ((True ∧ True) ∧ True))))))))))))))))))))))))))
            ([(32, .sc (.b true)), (3, .sc (.sl 64 0 ((FwText p0 p1).size) 1 none)), (0, .sc (.p 0 0))], [(64, .ints .u8 ((FwText p0 p1).size) (bytesI (FwText p0 p1))), (0, .cells [.ro .u8 (FwText_1 p0 p1), .b (FwText_2 p0 p1)])])
            512 (by kernel_rfl) rfl (by kernel_rfl) (⟨⟨trivial, trivial⟩, ⟨⟨trivial, trivial⟩, ⟨⟨trivial, trivial⟩, ⟨⟨trivial, (h1)⟩, ⟨⟨trivial, trivial⟩, ⟨⟨(by first | omega | (rw [adr_eq]; omega) | exact iAnd_nn _ _ | exact iSub_nn _ _ | exact part1_le (by omega) (by first | omega | (simp only [List.length_append]; omega)) | decide), trivial⟩, ⟨⟨(by first | omega | (rw [adr_eq]; omega) | exact iAnd_nn _ _ | exact iSub_nn _ _ | exact part1_le (by omega) (by first | omega | (simp only [List.length_append]; omega)) | decide), trivial⟩, ⟨⟨trivial, trivial⟩, ⟨⟨trivial, (h2)⟩, ⟨⟨trivial, trivial⟩, ⟨⟨trivial, trivial⟩, ⟨⟨trivial, trivial⟩, ⟨⟨trivial, trivial⟩, ⟨⟨trivial, trivial⟩, ⟨⟨trivial, trivial⟩, ⟨⟨trivial, trivial⟩, ⟨⟨trivial, trivial⟩, ⟨⟨trivial, trivial⟩, ⟨⟨trivial, trivial⟩, ⟨⟨trivial, trivial⟩, ⟨⟨trivial, trivial⟩, ⟨⟨trivial, trivial⟩, ⟨⟨trivial, trivial⟩, ⟨⟨trivial, trivial⟩, ⟨⟨trivial, trivial⟩, ⟨⟨trivial, trivial⟩, trivial⟩⟩⟩⟩⟩⟩⟩⟩⟩⟩⟩⟩⟩⟩⟩⟩⟩⟩⟩⟩⟩⟩⟩⟩⟩⟩) ?_
        refine Tri.cond_true (by kernel_rfl) ?_
        refine Tri.len 64 rfl (fun hl4 => ?_)
        refine Tri.seq_region [] none [] [0] ((True ∧ True) ∧ (((True ∧ ((0 : Int) ≤ 1073741824)) ∧ True) ∧ True))
            ([], [(0, .cells [.ro .u8 (FwtakeF_1 (FwText_1 p0 p1) (FwText_2 p0 p1) 1073741824), .b (FwtakeF_2 (FwText_1 p0 p1) (FwText_2 p0 p1) 1073741824)])])
            544 (by kernel_rfl) rfl (by kernel_rfl) (⟨⟨trivial, trivial⟩, ⟨⟨⟨trivial, (by first | omega | (rw [adr_eq]; omega) | exact iAnd_nn _ _ | exact iSub_nn _ _ | exact part1_le (by omega) (by first | omega | (simp only [List.length_append]; omega)) | decide)⟩, trivial⟩, trivial⟩⟩) ?_
        refine Tri.seq_region [] none [2] [0] ((True ∧ True) ∧ True)
            ([(2, .sc (.nils))], [(0, .cells [.ro .u8 (FwtakeF_1 (FwText_1 p0 p1) (FwText_2 p0 p1) 1073741824), .b (FwtakeF_2 (FwText_1 p0 p1) (FwText_2 p0 p1) 1073741824)])])
            560 (by kernel_rfl) rfl (by kernel_rfl) (⟨⟨trivial, trivial⟩, trivial⟩) ?_
        refine Tri.sub (Sub.nilRo 2 .u8 (by kernel_rfl)) ?_
        refine Tri.ret ?_
        repeat (first | refine thenP_ret ?_ | refine blkP_ret ?_ | refine countP_ret ?_ | refine joinP_ret ?_ | refine iterP_ret ?_)
        refine endP.conv (r' := ⟨.sc (.ro .u8 ([] : List Int)), [some (.cells [.ro .u8 (FwtakeF_1 (FwText_1 p0 p1) (FwText_2 p0 p1) 1073741824), .b (FwtakeF_2 (FwText_1 p0 p1) (FwText_2 p0 p1) 1073741824)])]⟩) (by simp only [FwInt, FwInt_1, FwInt_2, h1, h2, sel_true, sel_false]) ?_
        exact endP.ret [(0, 0)] (True ∧ True) (by kernel_rfl) (by kernel_rfl) ⟨trivial, trivial⟩
      ·
        have h2' := of_decide_eq_false h2
        refine Tri.split (((bytesI (FwText p0 p1)).getD 0 0 : Int) == 0) (fun h5 => ?_) (fun h5 => ?_)
        ·
          have h5' := eq_true_i h5
          refine Tri.split (((((FwText p0 p1).size : Nat) : Int) : Int) == 1) (fun h6 => ?_) (fun h6 => ?_)
          ·
            have h6' := eq_true_i h6
            refine Tri.len 64 rfl (fun hl7 => ?_)
            refine Tri.seq_region [(10, qb true), (15, qb false), (20, qb true), (24, qb true)] none [32, 3, 0] [64, 0] ((True ∧ True) ∧ ((True ∧ True) ∧ ((True ∧ True) ∧ ((True ∧ ((decide (((((FwText p0 p1).size : Nat) : Int) : Int) > 0)) = true)) ∧ ((True ∧ True) ∧ ((((0 : Int) ≤ 0 ∧ 0 < (((FwText p0 p1).size : Nat) : Int)) ∧ True) ∧ (((0 < (FwText p0 p1).size) ∧ True) ∧ ((True ∧ True) ∧ ((True ∧ ((decide (((bytesI (FwText p0 p1)).getD 0 0 : Int) ≥ 128)) = false)) ∧ ((True ∧ True) ∧ ((((0 : Int) ≤ 0 ∧ 0 < (((FwText p0 p1).size : Nat) : Int)) ∧ True) ∧ (((0 < (FwText p0 p1).size) ∧ True) ∧ ((True ∧ True) ∧ ((True ∧ ((((bytesI (FwText p0 p1)).getD 0 0 : Int) == 0) = true)) ∧ ((True ∧ True) ∧ ((True ∧ True) ∧ ((True ∧ True) ∧ ((True ∧ ((((((FwText p0 p1).size : Nat) : Int) : Int) == 1) = true)) ∧ ((True ∧ True) ∧ ((True ∧ True) ∧ ((True ∧ True) ∧ ((True ∧ True) ∧ ((True ∧ True) ∧ ((True ∧ True) ∧ ((True ∧ True) ∧ ((True ∧ True) ∧ True))))))))))))))))))))))))))
                ([(32, .sc (.b true)), (3, .sc (.sl 64 0 ((FwText p0 p1).size) 1 none)), (0, .sc (.p 0 0))], [(64, .ints .u8 ((FwText p0 p1).size) (bytesI (FwText p0 p1))), (0, .cells [.ro .u8 (FwText_1 p0 p1), .b (FwText_2 p0 p1)])])
                512 (by kernel_rfl) rfl (by kernel_rfl) (⟨⟨trivial, trivial⟩, ⟨⟨trivial, trivial⟩, ⟨⟨trivial, trivial⟩, ⟨⟨trivial, (h1)⟩, ⟨⟨trivial, trivial⟩, ⟨⟨(by first | omega | (rw [adr_eq]; omega) | exact iAnd_nn _ _ | exact iSub_nn _ _ | exact part1_le (by omega) (by first | omega | (simp only [List.length_append]; omega)) | decide), trivial⟩, ⟨⟨(by first | omega | (rw [adr_eq]; omega) | exact iAnd_nn _ _ | exact iSub_nn _ _ | exact part1_le (by omega) (by first | omega | (simp only [List.length_append]; omega)) | decide), trivial⟩, ⟨⟨trivial, trivial⟩, ⟨⟨trivial, (h2)⟩, ⟨⟨trivial, trivial⟩, ⟨⟨(by first | omega | (rw [adr_eq]; omega) | exact iAnd_nn _ _ | exact iSub_nn _ _ | exact part1_le (by omega) (by first | omega | (simp only [List.length_append]; omega)) | decide), trivial⟩, ⟨⟨(by first | omega | (rw [adr_eq]; omega) | exact iAnd_nn _ _ | exact iSub_nn _ _ | exact part1_le (by omega) (by first | omega | (simp only [List.length_append]; omega)) | decide), trivial⟩, ⟨⟨trivial, trivial⟩, ⟨⟨trivial, (h5)⟩, ⟨⟨trivial, trivial⟩, ⟨⟨trivial, trivial⟩, ⟨⟨trivial, trivial⟩, ⟨⟨trivial, (h6)⟩, ⟨⟨trivial, trivial⟩, ⟨⟨trivial, trivial⟩, ⟨⟨trivial, trivial⟩, ⟨⟨trivial, trivial⟩, ⟨⟨trivial, trivial⟩, ⟨⟨trivial, trivial⟩, ⟨⟨trivial, trivial⟩, ⟨⟨trivial, trivial⟩, trivial⟩⟩⟩⟩⟩⟩⟩⟩⟩⟩⟩⟩⟩⟩⟩⟩⟩⟩⟩⟩⟩⟩⟩⟩⟩⟩) ?_
            refine Tri.cond_true (by kernel_rfl) ?_
            refine Tri.len 64 rfl (fun hl8 => ?_)
            refine Tri.seq_region [] none [] [0] ((True ∧ True) ∧ (((True ∧ ((0 : Int) ≤ 1073741824)) ∧ True) ∧ True))
                ([], [(0, .cells [.ro .u8 (FwtakeF_1 (FwText_1 p0 p1) (FwText_2 p0 p1) 1073741824), .b (FwtakeF_2 (FwText_1 p0 p1) (FwText_2 p0 p1) 1073741824)])])
                544 (by kernel_rfl) rfl (by kernel_rfl) (⟨⟨trivial, trivial⟩, ⟨⟨⟨trivial, (by first | omega | (rw [adr_eq]; omega) | exact iAnd_nn _ _ | exact iSub_nn _ _ | exact part1_le (by omega) (by first | omega | (simp only [List.length_append]; omega)) | decide)⟩, trivial⟩, trivial⟩⟩) ?_
            refine Tri.seq_region [] none [2] [0] ((True ∧ True) ∧ True)
                ([(2, .sc (.nils))], [(0, .cells [.ro .u8 (FwtakeF_1 (FwText_1 p0 p1) (FwText_2 p0 p1) 1073741824), .b (FwtakeF_2 (FwText_1 p0 p1) (FwText_2 p0 p1) 1073741824)])])
                560 (by kernel_rfl) rfl (by kernel_rfl) (⟨⟨trivial, trivial⟩, trivial⟩) ?_
            refine Tri.sub (Sub.nilRo 2 .u8 (by kernel_rfl)) ?_
            refine Tri.ret ?_
            repeat (first | refine thenP_ret ?_ | refine blkP_ret ?_ | refine countP_ret ?_ | refine joinP_ret ?_ | refine iterP_ret ?_)
            refine endP.conv (r' := ⟨.sc (.ro .u8 ([] : List Int)), [some (.cells [.ro .u8 (FwtakeF_1 (FwText_1 p0 p1) (FwText_2 p0 p1) 1073741824), .b (FwtakeF_2 (FwText_1 p0 p1) (FwText_2 p0 p1) 1073741824)])]⟩) (by simp only [FwInt, FwInt_1, FwInt_2, h1, h2, h5, h6, sel_true, sel_false]) ?_
            exact endP.ret [(0, 0)] (True ∧ True) (by kernel_rfl) (by kernel_rfl) ⟨trivial, trivial⟩
          ·
            have h6' := eq_false_i h6
            refine Tri.len 64 rfl (fun hl9 => ?_)
            refine Tri.seq_region [(10, qb true), (15, qb false), (20, qb true), (24, qb false)] none [32, 3, 0] [64, 0] ((True ∧ True) ∧ ((True ∧ True) ∧ ((True ∧ True) ∧ ((True ∧ ((decide (((((FwText p0 p1).size : Nat) : Int) : Int) > 0)) = true)) ∧ ((True ∧ True) ∧ ((((0 : Int) ≤ 0 ∧ 0 < (((FwText p0 p1).size : Nat) : Int)) ∧ True) ∧ (((0 < (FwText p0 p1).size) ∧ True) ∧ ((True ∧ True) ∧ ((True ∧ ((decide (((bytesI (FwText p0 p1)).getD 0 0 : Int) ≥ 128)) = false)) ∧ ((True ∧ True) ∧ ((((0 : Int) ≤ 0 ∧ 0 < (((FwText p0 p1).size : Nat) : Int)) ∧ True) ∧ (((0 < (FwText p0 p1).size) ∧ True) ∧ ((True ∧ True) ∧ ((True ∧ ((((bytesI (FwText p0 p1)).getD 0 0 : Int) == 0) = true)) ∧ ((True ∧ True) ∧ ((True ∧ True) ∧ ((True ∧ True) ∧ ((True ∧ ((((((FwText p0 p1).size : Nat) : Int) : Int) == 1) = false)) ∧ ((True ∧ True) ∧ ((((0 : Int) ≤ 1 ∧ 1 < (((FwText p0 p1).size : Nat) : Int)) ∧ True) ∧ (((1 < (FwText p0 p1).size) ∧ True) ∧ ((True ∧ True) ∧ ((True ∧ True) ∧ ((True ∧ True) ∧ ((True ∧ True) ∧ ((True ∧ True) ∧ True))))))))))))))))))))))))))
                ([(32, .sc (.b (decide (((bytesI (FwText p0 p1)).getD 1 0 : Int) < 128)))), (3, .sc (.sl 64 0 ((FwText p0 p1).size) 1 none)), (0, .sc (.p 0 0))], [(64, .ints .u8 ((FwText p0 p1).size) (bytesI (FwText p0 p1))), (0, .cells [.ro .u8 (FwText_1 p0 p1), .b (FwText_2 p0 p1)])])
                512 (by kernel_rfl) rfl (by kernel_rfl) (⟨⟨trivial, trivial⟩, ⟨⟨trivial, trivial⟩, ⟨⟨trivial, trivial⟩, ⟨⟨trivial, (h1)⟩, ⟨⟨trivial, trivial⟩, ⟨⟨(by first | omega | (rw [adr_eq]; omega) | exact iAnd_nn _ _ | exact iSub_nn _ _ | exact part1_le (by omega) (by first | omega | (simp only [List.length_append]; omega)) | decide), trivial⟩, ⟨⟨(by first | omega | (rw [adr_eq]; omega) | exact iAnd_nn _ _ | exact iSub_nn _ _ | exact part1_le (by omega) (by first | omega | (simp only [List.length_append]; omega)) | decide), trivial⟩, ⟨⟨trivial, trivial⟩, ⟨⟨trivial, (h2)⟩, ⟨⟨trivial, trivial⟩, ⟨⟨(by first | omega | (rw [adr_eq]; omega) | exact iAnd_nn _ _ | exact iSub_nn _ _ | exact part1_le (by omega) (by first | omega | (simp only [List.length_append]; omega)) | decide), trivial⟩, ⟨⟨(by first | omega | (rw [adr_eq]; omega) | exact iAnd_nn _ _ | exact iSub_nn _ _ | exact part1_le (by omega) (by first | omega | (simp only [List.length_append]; omega)) | decide), trivial⟩, ⟨⟨trivial, trivial⟩, ⟨⟨trivial, (h5)⟩, ⟨⟨trivial, trivial⟩, ⟨⟨trivial, trivial⟩, ⟨⟨trivial, trivial⟩, ⟨⟨trivial, (h6)⟩, ⟨⟨trivial, trivial⟩, ⟨⟨(by first | omega | (rw [adr_eq]; omega) | exact iAnd_nn _ _ | exact iSub_nn _ _ | exact part1_le (by omega) (by first | omega | (simp only [List.length_append]; omega)) | decide), trivial⟩, ⟨⟨(by first | omega | (rw [adr_eq]; omega) | exact iAnd_nn _ _ | exact iSub_nn _ _ | exact part1_le (by omega) (by first | omega | (simp only [List.length_append]; omega)) | decide), trivial⟩, ⟨⟨trivial, trivial⟩, ⟨⟨trivial, trivial⟩, ⟨⟨trivial, trivial⟩, ⟨⟨trivial, trivial⟩, ⟨⟨trivial, trivial⟩, trivial⟩⟩⟩⟩⟩⟩⟩⟩⟩⟩⟩⟩⟩⟩⟩⟩⟩⟩⟩⟩⟩⟩⟩⟩⟩⟩) ?_
            refine Tri.cond (x := (decide (((bytesI (FwText p0 p1)).getD 1 0 : Int) < 128))) (by kernel_rfl) (fun h10 => ?_) (fun h10 => ?_)
            ·
              have h10' := of_decide_eq_true h10
              refine Tri.len 64 rfl (fun hl11 => ?_)
              refine Tri.seq_region [] none [] [0] ((True ∧ True) ∧ (((True ∧ ((0 : Int) ≤ 1073741824)) ∧ True) ∧ True))
                  ([], [(0, .cells [.ro .u8 (FwtakeF_1 (FwText_1 p0 p1) (FwText_2 p0 p1) 1073741824), .b (FwtakeF_2 (FwText_1 p0 p1) (FwText_2 p0 p1) 1073741824)])])
                  544 (by kernel_rfl) rfl (by kernel_rfl) (⟨⟨trivial, trivial⟩, ⟨⟨⟨trivial, (by first | omega | (rw [adr_eq]; omega) | exact iAnd_nn _ _ | exact iSub_nn _ _ | exact part1_le (by omega) (by first | omega | (simp only [List.length_append]; omega)) | decide)⟩, trivial⟩, trivial⟩⟩) ?_
              refine Tri.seq_region [] none [2] [0] ((True ∧ True) ∧ True)
                  ([(2, .sc (.nils))], [(0, .cells [.ro .u8 (FwtakeF_1 (FwText_1 p0 p1) (FwText_2 p0 p1) 1073741824), .b (FwtakeF_2 (FwText_1 p0 p1) (FwText_2 p0 p1) 1073741824)])])
                  560 (by kernel_rfl) rfl (by kernel_rfl) (⟨⟨trivial, trivial⟩, trivial⟩) ?_
              refine Tri.sub (Sub.nilRo 2 .u8 (by kernel_rfl)) ?_
              refine Tri.ret ?_
              repeat (first | refine thenP_ret ?_ | refine blkP_ret ?_ | refine countP_ret ?_ | refine joinP_ret ?_ | refine iterP_ret ?_)
              refine endP.conv (r' := ⟨.sc (.ro .u8 ([] : List Int)), [some (.cells [.ro .u8 (FwtakeF_1 (FwText_1 p0 p1) (FwText_2 p0 p1) 1073741824), .b (FwtakeF_2 (FwText_1 p0 p1) (FwText_2 p0 p1) 1073741824)])]⟩) (by simp only [FwInt, FwInt_1, FwInt_2, h1, h2, h5, h6, h10, sel_true, sel_false]) ?_
              exact endP.ret [(0, 0)] (True ∧ True) (by kernel_rfl) (by kernel_rfl) ⟨trivial, trivial⟩
            ·
              have h10' := of_decide_eq_false h10
              refine Tri.skip ?_
              change Tri _ _ _ _ _ _
              refine Tri.seq ?_
              refine Tri.len 64 rfl (fun hl12 => ?_)
              refine Tri.seq_region [(38, qb true)] none [43, 3] [64, 0] ((True ∧ True) ∧ ((True ∧ True) ∧ ((True ∧ True) ∧ ((True ∧ ((decide (((((FwText p0 p1).size : Nat) : Int) : Int) > 0)) = true)) ∧ ((True ∧ True) ∧ ((((0 : Int) ≤ 0 ∧ 0 < (((FwText p0 p1).size : Nat) : Int)) ∧ True) ∧ (((0 < (FwText p0 p1).size) ∧ True) ∧ ((True ∧ True) ∧ ((True ∧ True) ∧ True)))))))))
                  ([(43, .sc (.b (((bytesI (FwText p0 p1)).getD 0 0 : Int) == 0))), (3, .sc (.sl 64 0 ((FwText p0 p1).size) 1 none))], [(64, .ints .u8 ((FwText p0 p1).size) (bytesI (FwText p0 p1))), (0, .cells [.ro .u8 (FwText_1 p0 p1), .b (FwText_2 p0 p1)])])
                  656 (by kernel_rfl) rfl (by kernel_rfl) (⟨⟨trivial, trivial⟩, ⟨⟨trivial, trivial⟩, ⟨⟨trivial, trivial⟩, ⟨⟨trivial, (h1)⟩, ⟨⟨trivial, trivial⟩, ⟨⟨(by first | omega | (rw [adr_eq]; omega) | exact iAnd_nn _ _ | exact iSub_nn _ _ | exact part1_le (by omega) (by first | omega | (simp only [List.length_append]; omega)) | decide), trivial⟩, ⟨⟨(by first | omega | (rw [adr_eq]; omega) | exact iAnd_nn _ _ | exact iSub_nn _ _ | exact part1_le (by omega) (by first | omega | (simp only [List.length_append]; omega)) | decide), trivial⟩, ⟨⟨trivial, trivial⟩, ⟨⟨trivial, trivial⟩, trivial⟩⟩⟩⟩⟩⟩⟩⟩⟩) ?_
              refine Tri.cond (x := (((bytesI (FwText p0 p1)).getD 0 0 : Int) == 0)) (by kernel_rfl) (fun h => ?_) (fun h => absurd (h.symm.trans h5) (by decide))
              refine Tri.len 64 rfl (fun hl13 => ?_)
              refine Tri.region' [] none [3] [64, 0] ((True ∧ True) ∧ ((((0 : Int) ≤ 1 ∧ (1 : Int) ≤ (((FwText p0 p1).size : Nat) : Int) ∧ (((FwText p0 p1).size : Nat) : Int) ≤ (((FwText p0 p1).size : Nat) : Int)) ∧ True) ∧ ((True ∧ True) ∧ True)))
                  ([(3, .sc (.sl 64 1 (((FwText p0 p1).size) - 1) 1 none))], [(64, .ints .u8 ((FwText p0 p1).size) (bytesI (FwText p0 p1))), (0, .cells [.ro .u8 (FwText_1 p0 p1), .b (FwText_2 p0 p1)])])
                  704 (by kernel_rfl) rfl (by kernel_rfl) (⟨⟨trivial, trivial⟩, ⟨⟨(by first | omega | (rw [adr_eq]; omega) | exact iAnd_nn _ _ | exact iSub_nn _ _ | exact part1_le (by omega) (by first | omega | (simp only [List.length_append]; omega)) | decide), trivial⟩, ⟨⟨trivial, trivial⟩, trivial⟩⟩⟩) ?_
              change Tri _ _ _ _ _ _
              refine Tri.seq_region [] none [2] [64, 0] ((True ∧ True) ∧ ((True ∧ True) ∧ True))
                  ([(2, .sc (.sl 64 1 (((FwText p0 p1).size) - 1) 1 none))], [(64, .ints .u8 ((FwText p0 p1).size) (bytesI (FwText p0 p1))), (0, .cells [.ro .u8 (FwText_1 p0 p1), .b (FwText_2 p0 p1)])])
                  736 (by kernel_rfl) rfl (by kernel_rfl) (⟨⟨trivial, trivial⟩, ⟨⟨trivial, trivial⟩, trivial⟩⟩) ?_
              refine Tri.sub (Sub.still (s' := ([(2, .sc (.ro .u8 (part1 (bytesI (FwText p0 p1)) ((FwText p0 p1).size) 1 (((FwText p0 p1).size) - 1))))], [(0, .cells [.ro .u8 (FwText_1 p0 p1), .b (FwText_2 p0 p1)])])) 64 (.ints .u8 ((FwText p0 p1).size) (bytesI (FwText p0 p1))) (by kernel_rfl) (show 1 + (((FwText p0 p1).size) - 1) ≤ (FwText p0 p1).size from by first | omega | (rw [adr_eq]; omega) | exact iAnd_nn _ _ | exact iSub_nn _ _ | exact part1_le (by omega) (by first | omega | (simp only [List.length_append]; omega)) | decide) (by kernel_rfl)) ?_
              refine Tri.ret ?_
              repeat (first | refine thenP_ret ?_ | refine blkP_ret ?_ | refine countP_ret ?_ | refine joinP_ret ?_ | refine iterP_ret ?_)
              refine endP.conv (r' := ⟨.sc (.ro .u8 (part1 (bytesI (FwText p0 p1)) ((FwText p0 p1).size) 1 (((FwText p0 p1).size) - 1))), [some (.cells [.ro .u8 (FwText_1 p0 p1), .b (FwText_2 p0 p1)])]⟩) (by simp only [FwInt, FwInt_1, FwInt_2, h1, h2, h5, h6, h10, sel_true, sel_false]) ?_
              exact endP.ret [(0, 0)] (True ∧ True) (by kernel_rfl) (by kernel_rfl) ⟨trivial, trivial⟩
        ·
          have h5' := eq_false_i h5
          refine Tri.len 64 rfl (fun hl14 => ?_)
          refine Tri.seq_region [(10, qb true), (15, qb false), (20, qb false)] none [32, 3, 0] [64, 0] ((True ∧ True) ∧ ((True ∧ True) ∧ ((True ∧ True) ∧ ((True ∧ ((decide (((((FwText p0 p1).size : Nat) : Int) : Int) > 0)) = true)) ∧ ((True ∧ True) ∧ ((((0 : Int) ≤ 0 ∧ 0 < (((FwText p0 p1).size : Nat) : Int)) ∧ True) ∧ (((0 < (FwText p0 p1).size) ∧ True) ∧ ((True ∧ True) ∧ ((True ∧ ((decide (((bytesI (FwText p0 p1)).getD 0 0 : Int) ≥ 128)) = false)) ∧ ((True ∧ True) ∧ ((((0 : Int) ≤ 0 ∧ 0 < (((FwText p0 p1).size : Nat) : Int)) ∧ True) ∧ (((0 < (FwText p0 p1).size) ∧ True) ∧ ((True ∧ True) ∧ ((True ∧ ((((bytesI (FwText p0 p1)).getD 0 0 : Int) == 0) = false)) ∧ ((True ∧ True) ∧ ((True ∧ True) ∧ ((True ∧ True) ∧ ((True ∧ True) ∧ ((True ∧ True) ∧ ((True ∧ True) ∧ ((True ∧ True) ∧ ((True ∧ True) ∧ ((True ∧ True) ∧ ((True ∧ True) ∧ ((True ∧ True) ∧ ((True ∧ True) ∧ True))))))))))))))))))))))))))
              ([(32, .sc (.b false)), (3, .sc (.sl 64 0 ((FwText p0 p1).size) 1 none)), (0, .sc (.p 0 0))], [(64, .ints .u8 ((FwText p0 p1).size) (bytesI (FwText p0 p1))), (0, .cells [.ro .u8 (FwText_1 p0 p1), .b (FwText_2 p0 p1)])])
              512 (by kernel_rfl) rfl (by kernel_rfl) (⟨⟨trivial, trivial⟩, ⟨⟨trivial, trivial⟩, ⟨⟨trivial, trivial⟩, ⟨⟨trivial, (h1)⟩, ⟨⟨trivial, trivial⟩, ⟨⟨(by first | omega | (rw [adr_eq]; omega) | exact iAnd_nn _ _ | exact iSub_nn _ _ | exact part1_le (by omega) (by first | omega | (simp only [List.length_append]; omega)) | decide), trivial⟩, ⟨⟨(by first | omega | (rw [adr_eq]; omega) | exact iAnd_nn _ _ | exact iSub_nn _ _ | exact part1_le (by omega) (by first | omega | (simp only [List.length_append]; omega)) | decide), trivial⟩, ⟨⟨trivial, trivial⟩, ⟨⟨trivial, (h2)⟩, ⟨⟨trivial, trivial⟩, ⟨⟨(by first | omega | (rw [adr_eq]; omega) | exact iAnd_nn _ _ | exact iSub_nn _ _ | exact part1_le (by omega) (by first | omega | (simp only [List.length_append]; omega)) | decide), trivial⟩, ⟨⟨(by first | omega | (rw [adr_eq]; omega) | exact iAnd_nn _ _ | exact iSub_nn _ _ | exact part1_le (by omega) (by first | omega | (simp only [List.length_append]; omega)) | decide), trivial⟩, ⟨⟨trivial, trivial⟩, ⟨⟨trivial, (h5)⟩, ⟨⟨trivial, trivial⟩, ⟨⟨trivial, trivial⟩, ⟨⟨trivial, trivial⟩, ⟨⟨trivial, trivial⟩, ⟨⟨trivial, trivial⟩, ⟨⟨trivial, trivial⟩, ⟨⟨trivial, trivial⟩, ⟨⟨trivial, trivial⟩, ⟨⟨trivial, trivial⟩, ⟨⟨trivial, trivial⟩, ⟨⟨trivial, trivial⟩, ⟨⟨trivial, trivial⟩, trivial⟩⟩⟩⟩⟩⟩⟩⟩⟩⟩⟩⟩⟩⟩⟩⟩⟩⟩⟩⟩⟩⟩⟩⟩⟩⟩) ?_
          refine Tri.cond_false (by kernel_rfl) ?_
          refine Tri.skip ?_
          change Tri _ _ _ _ _ _
          refine Tri.seq ?_
          refine Tri.len 64 rfl (fun hl15 => ?_)
          refine Tri.seq_region [(38, qb true)] none [43, 3] [64, 0] ((True ∧ True) ∧ ((True ∧ True) ∧ ((True ∧ True) ∧ ((True ∧ ((decide (((((FwText p0 p1).size : Nat) : Int) : Int) > 0)) = true)) ∧ ((True ∧ True) ∧ ((((0 : Int) ≤ 0 ∧ 0 < (((FwText p0 p1).size : Nat) : Int)) ∧ True) ∧ (((0 < (FwText p0 p1).size) ∧ True) ∧ ((True ∧ True) ∧ ((True ∧ True) ∧ True)))))))))
              ([(43, .sc (.b (((bytesI (FwText p0 p1)).getD 0 0 : Int) == 0))), (3, .sc (.sl 64 0 ((FwText p0 p1).size) 1 none))], [(64, .ints .u8 ((FwText p0 p1).size) (bytesI (FwText p0 p1))), (0, .cells [.ro .u8 (FwText_1 p0 p1), .b (FwText_2 p0 p1)])])
              656 (by kernel_rfl) rfl (by kernel_rfl) (⟨⟨trivial, trivial⟩, ⟨⟨trivial, trivial⟩, ⟨⟨trivial, trivial⟩, ⟨⟨trivial, (h1)⟩, ⟨⟨trivial, trivial⟩, ⟨⟨(by first | omega | (rw [adr_eq]; omega) | exact iAnd_nn _ _ | exact iSub_nn _ _ | exact part1_le (by omega) (by first | omega | (simp only [List.length_append]; omega)) | decide), trivial⟩, ⟨⟨(by first | omega | (rw [adr_eq]; omega) | exact iAnd_nn _ _ | exact iSub_nn _ _ | exact part1_le (by omega) (by first | omega | (simp only [List.length_append]; omega)) | decide), trivial⟩, ⟨⟨trivial, trivial⟩, ⟨⟨trivial, trivial⟩, trivial⟩⟩⟩⟩⟩⟩⟩⟩⟩) ?_
          refine Tri.cond (x := (((bytesI (FwText p0 p1)).getD 0 0 : Int) == 0)) (by kernel_rfl) (fun h => absurd (h.symm.trans h5) (by decide)) (fun h => ?_)
          refine Tri.skip ?_
          change Tri _ _ _ _ _ _
          refine Tri.seq_region [] none [2] [64, 0] ((True ∧ True) ∧ ((True ∧ True) ∧ True))
              ([(2, .sc (.sl 64 0 ((FwText p0 p1).size) 1 none))], [(64, .ints .u8 ((FwText p0 p1).size) (bytesI (FwText p0 p1))), (0, .cells [.ro .u8 (FwText_1 p0 p1), .b (FwText_2 p0 p1)])])
              688 (by kernel_rfl) rfl (by kernel_rfl) (⟨⟨trivial, trivial⟩, ⟨⟨trivial, trivial⟩, trivial⟩⟩) ?_
          refine Tri.sub (Sub.still (s' := ([(2, .sc (.ro .u8 (part1 (bytesI (FwText p0 p1)) ((FwText p0 p1).size) 0 ((FwText p0 p1).size))))], [(0, .cells [.ro .u8 (FwText_1 p0 p1), .b (FwText_2 p0 p1)])])) 64 (.ints .u8 ((FwText p0 p1).size) (bytesI (FwText p0 p1))) (by kernel_rfl) (show 0 + ((FwText p0 p1).size) ≤ (FwText p0 p1).size from by first | omega | (rw [adr_eq]; omega) | exact iAnd_nn _ _ | exact iSub_nn _ _ | exact part1_le (by omega) (by first | omega | (simp only [List.length_append]; omega)) | decide) (by kernel_rfl)) ?_
          refine Tri.ret ?_
          repeat (first | refine thenP_ret ?_ | refine blkP_ret ?_ | refine countP_ret ?_ | refine joinP_ret ?_ | refine iterP_ret ?_)
          refine endP.conv (r' := ⟨.sc (.ro .u8 (part1 (bytesI (FwText p0 p1)) ((FwText p0 p1).size) 0 ((FwText p0 p1).size))), [some (.cells [.ro .u8 (FwText_1 p0 p1), .b (FwText_2 p0 p1)])]⟩) (by simp only [FwInt, FwInt_1, FwInt_2, h1, h2, h5, sel_true, sel_false]) ?_
          exact endP.ret [(0, 0)] (True ∧ True) (by kernel_rfl) (by kernel_rfl) ⟨trivial, trivial⟩
    ·
      have h1' := of_decide_eq_false h1
      refine Tri.seq_region [(10, qb false)] none [32, 3, 0] [64, 0] ((True ∧ True) ∧ ((True ∧ True) ∧ ((True ∧ True) ∧ ((True ∧ ((decide (((((FwText p0 p1).size : Nat) : Int) : Int) > 0)) = false)) ∧ ((True ∧ True) ∧ ((True ∧ True) ∧ ((True ∧ True) ∧ ((True ∧ True) ∧ ((True ∧ True) ∧ ((True ∧ True) ∧ ((True ∧ True) ∧ ((True ∧ True) ∧ ((True ∧ True) ∧ ((True ∧ True) ∧ ((True ∧ True) ∧ ((True ∧ True) ∧ ((True ∧ True) ∧ ((True ∧ True) ∧ ((True ∧ True) ∧ ((True ∧ True) ∧ ((True ∧ True) ∧ ((True ∧ True) ∧ ((True ∧ True) ∧ ((True ∧ True) ∧ ((True ∧ True) ∧ ((True ∧ True) ∧ True))))))))))))))))))))))))))
          ([(32, .sc (.b false)), (3, .sc (.sl 64 0 ((FwText p0 p1).size) 1 none)), (0, .sc (.p 0 0))], [(64, .ints .u8 ((FwText p0 p1).size) (bytesI (FwText p0 p1))), (0, .cells [.ro .u8 (FwText_1 p0 p1), .b (FwText_2 p0 p1)])])
          512 (by kernel_rfl) rfl (by kernel_rfl) (⟨⟨trivial, trivial⟩, ⟨⟨trivial, trivial⟩, ⟨⟨trivial, trivial⟩, ⟨⟨trivial, (h1)⟩, ⟨⟨trivial, trivial⟩, ⟨⟨trivial, trivial⟩, ⟨⟨trivial, trivial⟩, ⟨⟨trivial, trivial⟩, ⟨⟨trivial, trivial⟩, ⟨⟨trivial, trivial⟩, ⟨⟨trivial, trivial⟩, ⟨⟨trivial, trivial⟩, ⟨⟨trivial, trivial⟩, ⟨⟨trivial, trivial⟩, ⟨⟨trivial, trivial⟩, ⟨⟨trivial, trivial⟩, ⟨⟨trivial, trivial⟩, ⟨⟨trivial, trivial⟩, ⟨⟨trivial, trivial⟩, ⟨⟨trivial, trivial⟩, ⟨⟨trivial, trivial⟩, ⟨⟨trivial, trivial⟩, ⟨⟨trivial, trivial⟩, ⟨⟨trivial, trivial⟩, ⟨⟨trivial, trivial⟩, ⟨⟨trivial, trivial⟩, trivial⟩⟩⟩⟩⟩⟩⟩⟩⟩⟩⟩⟩⟩⟩⟩⟩⟩⟩⟩⟩⟩⟩⟩⟩⟩⟩) ?_
      refine Tri.cond_false (by kernel_rfl) ?_
      refine Tri.skip ?_
      change Tri _ _ _ _ _ _
      refine Tri.seq ?_
      refine Tri.seq_region [(38, qb false)] none [43, 3] [64, 0] ((True ∧ True) ∧ ((True ∧ True) ∧ ((True ∧ True) ∧ ((True ∧ ((decide (((((FwText p0 p1).size : Nat) : Int) : Int) > 0)) = false)) ∧ ((True ∧ True) ∧ ((True ∧ True) ∧ ((True ∧ True) ∧ ((True ∧ True) ∧ ((True ∧ True) ∧ True)))))))))
          ([(43, .sc (.b false)), (3, .sc (.sl 64 0 ((FwText p0 p1).size) 1 none))], [(64, .ints .u8 ((FwText p0 p1).size) (bytesI (FwText p0 p1))), (0, .cells [.ro .u8 (FwText_1 p0 p1), .b (FwText_2 p0 p1)])])
          656 (by kernel_rfl) rfl (by kernel_rfl) (⟨⟨trivial, trivial⟩, ⟨⟨trivial, trivial⟩, ⟨⟨trivial, trivial⟩, ⟨⟨trivial, (h1)⟩, ⟨⟨trivial, trivial⟩, ⟨⟨trivial, trivial⟩, ⟨⟨trivial, trivial⟩, ⟨⟨trivial, trivial⟩, ⟨⟨trivial, trivial⟩, trivial⟩⟩⟩⟩⟩⟩⟩⟩⟩) ?_
      refine Tri.cond_false (by kernel_rfl) ?_
      refine Tri.skip ?_
      change Tri _ _ _ _ _ _
      refine Tri.seq_region [] none [2] [64, 0] ((True ∧ True) ∧ ((True ∧ True) ∧ True))
          ([(2, .sc (.sl 64 0 ((FwText p0 p1).size) 1 none))], [(64, .ints .u8 ((FwText p0 p1).size) (bytesI (FwText p0 p1))), (0, .cells [.ro .u8 (FwText_1 p0 p1), .b (FwText_2 p0 p1)])])
          688 (by kernel_rfl) rfl (by kernel_rfl) (⟨⟨trivial, trivial⟩, ⟨⟨trivial, trivial⟩, trivial⟩⟩) ?_
      refine Tri.sub (Sub.still (s' := ([(2, .sc (.ro .u8 (part1 (bytesI (FwText p0 p1)) ((FwText p0 p1).size) 0 ((FwText p0 p1).size))))], [(0, .cells [.ro .u8 (FwText_1 p0 p1), .b (FwText_2 p0 p1)])])) 64 (.ints .u8 ((FwText p0 p1).size) (bytesI (FwText p0 p1))) (by kernel_rfl) (show 0 + ((FwText p0 p1).size) ≤ (FwText p0 p1).size from by first | omega | (rw [adr_eq]; omega) | exact iAnd_nn _ _ | exact iSub_nn _ _ | exact part1_le (by omega) (by first | omega | (simp only [List.length_append]; omega)) | decide) (by kernel_rfl)) ?_
      refine Tri.ret ?_
      repeat (first | refine thenP_ret ?_ | refine blkP_ret ?_ | refine countP_ret ?_ | refine joinP_ret ?_ | refine iterP_ret ?_)
      refine endP.conv (r' := ⟨.sc (.ro .u8 (part1 (bytesI (FwText p0 p1)) ((FwText p0 p1).size) 0 ((FwText p0 p1).size))), [some (.cells [.ro .u8 (FwText_1 p0 p1), .b (FwText_2 p0 p1)])]⟩) (by simp only [FwInt, FwInt_1, FwInt_2, h1, sel_true, sel_false]) ?_
      exact endP.ret [(0, 0)] (True ∧ True) (by kernel_rfl) (by kernel_rfl) ⟨trivial, trivial⟩

theorem len_FwInt (p0 : List Int) (p1 : Bool) : (FwInt p0 p1).length ≤ 16384 := by
  have h0 := size_FwText p0 p1
  have s0 : ∀ (b : Bool) (x y : List Int), x.length ≤ 16384 → y.length ≤ 16384 → (sel b x y).length ≤ 16384 := by
    intro b x y hx hy
    cases b
    · rw [sel_false]; exact hy
    · rw [sel_true]; exact hx
  unfold FwInt
  repeat first | exact Nat.zero_le _ | exact part1_le (by omega) (by rw [bytesI_length]; omega) | apply s0


noncomputable def FwIntNil : List Int :=
  (sel (decide (((((FwTextNil).size : Nat) : Int) : Int) > 0)) (sel (decide (((bytesI (FwTextNil)).getD 0 0 : Int) ≥ 128)) ([] : List Int) (sel (((bytesI (FwTextNil)).getD 0 0 : Int) == 0) (sel (((((FwTextNil).size : Nat) : Int) : Int) == 1) ([] : List Int) (sel (decide (((bytesI (FwTextNil)).getD 1 0 : Int) < 128)) ([] : List Int) (part1 (bytesI (FwTextNil)) ((FwTextNil).size) 1 (((FwTextNil).size) - 1)))) (part1 (bytesI (FwTextNil)) ((FwTextNil).size) 0 ((FwTextNil).size)))) (part1 (bytesI (FwTextNil)) ((FwTextNil).size) 0 ((FwTextNil).size)))

noncomputable def SwIntNil : List AV → List Blk → Option (Prop × Ret)
  | [.sc (.nilp)], [] => some (True, ⟨.sc (.ro .u8 (FwIntNil)), []⟩)
  | _, _ => none

noncomputable def BwIntNil : Bs := { P := Go.Proofs.Tryd.prog, G := noG, tab := tabOf [⟨18, 48, [.val], [], [], ⟨0, 0, SwTextNil⟩⟩, ⟨43, 528, [.val, .val], [], [], ⟨0, 0, SwtakeNilF⟩⟩], n := 47 }

theorem BwIntNil.ok : BwIntNil.Ok := ⟨tabOk (P := Go.Proofs.Tryd.prog) (G := noG) (l := [⟨18, 48, [.val], [], [], ⟨0, 0, SwTextNil⟩⟩, ⟨43, 528, [.val, .val], [], [], ⟨0, 0, SwtakeNilF⟩⟩]) (And.intro KwTextNil (And.intro KwtakeNilF True.intro)), mixed⟩

theorem KwIntNil : Known Go.Proofs.Tryd.prog noG 23 ⟨0, 0, SwIntNil⟩ := by
  refine Known.walk (B := BwIntNil) (fn := Go.Proofs.Tryd.f23) BwIntNil.ok (by kernel_rfl) rfl (by kernel_rfl) (by kernel_rfl) (by decide) (by decide) ?_
  · intro E args ks C r h hC hlen
    simp only at h
    unfold SwIntNil at h
    split at h
    rotate_left
    · cases h
    skip
    cases h
    simp only [lens] at hlen
    refine ⟨show 1 ≤ 47 from by decide, ?_⟩
    refine Tri.sub (Sub.of_eq (show _ = ([(0, .sc (.nilp))], []) from rfl)) ?_
    refine Tri.seq_region [] none [0] [] ((True ∧ True) ∧ True)
        ([(0, .sc (.nilp))], [])
        32 (by kernel_rfl) rfl (by kernel_rfl) (⟨⟨trivial, trivial⟩, trivial⟩) ?_
    refine Tri.seq_region [] none [3, 0] [64] ((True ∧ True) ∧ (((True ∧ True) ∧ True) ∧ ((True ∧ True) ∧ ((True ∧ True) ∧ True))))
        ([(3, .sc (.sl 64 0 ((FwTextNil).size) 1 none)), (0, .sc (.nilp))], [(64, .ints .u8 ((FwTextNil).size) (bytesI (FwTextNil)))])
        96 (by kernel_rfl) rfl (by kernel_rfl) (⟨⟨trivial, trivial⟩, ⟨⟨⟨trivial, trivial⟩, trivial⟩, ⟨⟨trivial, trivial⟩, ⟨⟨trivial, trivial⟩, trivial⟩⟩⟩⟩) ?_
    refine Tri.seq ?_
    refine Tri.split (decide (((((FwTextNil).size : Nat) : Int) : Int) > 0)) (fun h1 => ?_) (fun h1 => ?_)
    ·
      have h1' := of_decide_eq_true h1
      refine Tri.split (decide (((bytesI (FwTextNil)).getD 0 0 : Int) ≥ 128)) (fun h2 => ?_) (fun h2 => ?_)
      ·
        have h2' := of_decide_eq_true h2
        refine Tri.len 64 rfl (fun hl3 => ?_)
        refine Tri.seq_region [(10, qb true), (15, qb true)] none [32, 3, 0] [64] ((True ∧ True) ∧ ((True ∧ True) ∧ ((True ∧ True) ∧ ((True ∧ ((decide (((((FwTextNil).size : Nat) : Int) : Int) > 0)) = true)) ∧ ((True ∧ True) ∧ ((((0 : Int) ≤ 0 ∧ 0 < (((FwTextNil).size : Nat) : Int)) ∧ True) ∧ (((0 < (FwTextNil).size) ∧ True) ∧ ((True ∧ True) ∧ ((True ∧ ((decide (((bytesI (FwTextNil)).getD 0 0 : Int) ≥ 128)) = true)) ∧ ((True ∧ True) ∧ ((True ∧ True) ∧ ((True ∧ True) ∧ ((True ∧ True) ∧ ((True ∧ True) ∧ ((True ∧ True) ∧ ((True ∧ True) ∧ ((True ∧ True) ∧ ((True ∧ True) ∧ ((True ∧ True) ∧ ((True ∧ True) ∧ ((True ∧ True) ∧ ((True ∧ True) ∧ ((True ∧ True) ∧ ((True ∧ True) ∧ ((True ∧ True) ∧ ((True ∧ True) ∧ True))))))))))))))))))))))))))
            ([(32, .sc (.b true)), (3, .sc (.sl 64 0 ((FwTextNil).size) 1 none)), (0, .sc (.nilp))], [(64, .ints .u8 ((FwTextNil).size) (bytesI (FwTextNil)))])
            512 (by kernel_rfl) rfl (by kernel_rfl) (⟨⟨trivial, trivial⟩, ⟨⟨trivial, trivial⟩, ⟨⟨trivial, trivial⟩, ⟨⟨trivial, (h1)⟩, ⟨⟨trivial, trivial⟩, ⟨⟨(by first | omega | (rw [adr_eq]; omega) | exact iAnd_nn _ _ | exact iSub_nn _ _ | exact part1_le (by omega) (by first | omega | (simp only [List.length_append]; omega)) | decide), trivial⟩, ⟨⟨(by first | omega | (rw [adr_eq]; omega) | exact iAnd_nn _ _ | exact iSub_nn _ _ | exact part1_le (by omega) (by first | omega | (simp only [List.length_append]; omega)) | decide), trivial⟩, ⟨⟨trivial, trivial⟩, ⟨⟨trivial, (h2)⟩, ⟨⟨trivial, trivial⟩, ⟨⟨trivial, trivial⟩, ⟨⟨trivial, trivial⟩, ⟨⟨trivial, trivial⟩, ⟨⟨trivial, trivial⟩, ⟨⟨trivial, trivial⟩, ⟨⟨trivial, trivial⟩, ⟨⟨trivial, trivial⟩, ⟨⟨trivial, trivial⟩, ⟨⟨trivial, trivial⟩, ⟨⟨trivial, trivial⟩, ⟨⟨trivial, trivial⟩, ⟨⟨trivial, trivial⟩, ⟨⟨trivial, trivial⟩, ⟨⟨trivial, trivial⟩, ⟨⟨trivial, trivial⟩, ⟨⟨trivial, trivial⟩, trivial⟩⟩⟩⟩⟩⟩⟩⟩⟩⟩⟩⟩⟩⟩⟩⟩⟩⟩⟩⟩⟩⟩⟩⟩⟩⟩) ?_
        refine Tri.cond_true (by kernel_rfl) ?_
        refine Tri.seq_region [] none [] [] ((True ∧ True) ∧ (((True ∧ True) ∧ True) ∧ True))
            ([], [])
            544 (by kernel_rfl) rfl (by kernel_rfl) (⟨⟨trivial, trivial⟩, ⟨⟨⟨trivial, trivial⟩, trivial⟩, trivial⟩⟩) ?_
        refine Tri.seq_region [] none [2] [] ((True ∧ True) ∧ True)
            ([(2, .sc (.nils))], [])
            560 (by kernel_rfl) rfl (by kernel_rfl) (⟨⟨trivial, trivial⟩, trivial⟩) ?_
        refine Tri.sub (Sub.nilRo 2 .u8 (by kernel_rfl)) ?_
        refine Tri.ret ?_
        repeat (first | refine thenP_ret ?_ | refine blkP_ret ?_ | refine countP_ret ?_ | refine joinP_ret ?_ | refine iterP_ret ?_)
        refine endP.conv (r' := ⟨.sc (.ro .u8 ([] : List Int)), []⟩) (by simp only [FwIntNil, h1, h2, sel_true, sel_false]) ?_
        exact endP.ret [] (True ∧ True) (by kernel_rfl) (by kernel_rfl) ⟨trivial, trivial⟩
      ·
        have h2' := of_decide_eq_false h2
        refine Tri.split (((bytesI (FwTextNil)).getD 0 0 : Int) == 0) (fun h4 => ?_) (fun h4 => ?_)
        ·
          have h4' := eq_true_i h4
          refine Tri.split (((((FwTextNil).size : Nat) : Int) : Int) == 1) (fun h5 => ?_) (fun h5 => ?_)
          ·
            have h5' := eq_true_i h5
            refine Tri.len 64 rfl (fun hl6 => ?_)
            refine Tri.seq_region [(10, qb true), (15, qb false), (20, qb true), (24, qb true)] none [32, 3, 0] [64] ((True ∧ True) ∧ ((True ∧ True) ∧ ((True ∧ True) ∧ ((True ∧ ((decide (((((FwTextNil).size : Nat) : Int) : Int) > 0)) = true)) ∧ ((True ∧ True) ∧ ((((0 : Int) ≤ 0 ∧ 0 < (((FwTextNil).size : Nat) : Int)) ∧ True) ∧ (((0 < (FwTextNil).size) ∧ True) ∧ ((True ∧ True) ∧ ((True ∧ ((decide (((bytesI (FwTextNil)).getD 0 0 : Int) ≥ 128)) = false)) ∧ ((True ∧ True) ∧ ((((0 : Int) ≤ 0 ∧ 0 < (((FwTextNil).size : Nat) : Int)) ∧ True) ∧ (((0 < (FwTextNil).size) ∧ True) ∧ ((True ∧ True) ∧ ((True ∧ ((((bytesI (FwTextNil)).getD 0 0 : Int) == 0) = true)) ∧ ((True ∧ True) ∧ ((True ∧ True) ∧ ((True ∧ True) ∧ ((True ∧ ((((((FwTextNil).size : Nat) : Int) : Int) == 1) = true)) ∧ ((True ∧ True) ∧ ((True ∧ True) ∧ ((True ∧ True) ∧ ((True ∧ True) ∧ ((True ∧ True) ∧ ((True ∧ True) ∧ ((True ∧ True) ∧ ((True ∧ True) ∧ True))))))))))))))))))))))))))
                ([(32, .sc (.b true)), (3, .sc (.sl 64 0 ((FwTextNil).size) 1 none)), (0, .sc (.nilp))], [(64, .ints .u8 ((FwTextNil).size) (bytesI (FwTextNil)))])
                512 (by kernel_rfl) rfl (by kernel_rfl) (⟨⟨trivial, trivial⟩, ⟨⟨trivial, trivial⟩, ⟨⟨trivial, trivial⟩, ⟨⟨trivial, (h1)⟩, ⟨⟨trivial, trivial⟩, ⟨⟨(by first | omega | (rw [adr_eq]; omega) | exact iAnd_nn _ _ | exact iSub_nn _ _ | exact part1_le (by omega) (by first | omega | (simp only [List.length_append]; omega)) | decide), trivial⟩, ⟨⟨(by first | omega | (rw [adr_eq]; omega) | exact iAnd_nn _ _ | exact iSub_nn _ _ | exact part1_le (by omega) (by first | omega | (simp only [List.length_append]; omega)) | decide), trivial⟩, ⟨⟨trivial, trivial⟩, ⟨⟨trivial, (h2)⟩, ⟨⟨trivial, trivial⟩, ⟨⟨(by first | omega | (rw [adr_eq]; omega) | exact iAnd_nn _ _ | exact iSub_nn _ _ | exact part1_le (by omega) (by first | omega | (simp only [List.length_append]; omega)) | decide), trivial⟩, ⟨⟨(by first | omega | (rw [adr_eq]; omega) | exact iAnd_nn _ _ | exact iSub_nn _ _ | exact part1_le (by omega) (by first | omega | (simp only [List.length_append]; omega)) | decide), trivial⟩, ⟨⟨trivial, trivial⟩, ⟨⟨trivial, (h4)⟩, ⟨⟨trivial, trivial⟩, ⟨⟨trivial, trivial⟩, ⟨⟨trivial, trivial⟩, ⟨⟨trivial, (h5)⟩, ⟨⟨trivial, trivial⟩, ⟨⟨trivial, trivial⟩, ⟨⟨trivial, trivial⟩, ⟨⟨trivial, trivial⟩, ⟨⟨trivial, trivial⟩, ⟨⟨trivial, trivial⟩, ⟨⟨trivial, trivial⟩, ⟨⟨trivial, trivial⟩, trivial⟩⟩⟩⟩⟩⟩⟩⟩⟩⟩⟩⟩⟩⟩⟩⟩⟩⟩⟩⟩⟩⟩⟩⟩⟩⟩) ?_
            refine Tri.cond_true (by kernel_rfl) ?_
            refine Tri.seq_region [] none [] [] ((True ∧ True) ∧ (((True ∧ True) ∧ True) ∧ True))
                ([], [])
                544 (by kernel_rfl) rfl (by kernel_rfl) (⟨⟨trivial, trivial⟩, ⟨⟨⟨trivial, trivial⟩, trivial⟩, trivial⟩⟩) ?_
            refine Tri.seq_region [] none [2] [] ((True ∧ True) ∧ True)
                ([(2, .sc (.nils))], [])
                560 (by kernel_rfl) rfl (by kernel_rfl) (⟨⟨trivial, trivial⟩, trivial⟩) ?_
            refine Tri.sub (Sub.nilRo 2 .u8 (by kernel_rfl)) ?_
            refine Tri.ret ?_
            repeat (first | refine thenP_ret ?_ | refine blkP_ret ?_ | refine countP_ret ?_ | refine joinP_ret ?_ | refine iterP_ret ?_)
            refine endP.conv (r' := ⟨.sc (.ro .u8 ([] : List Int)), []⟩) (by simp only [FwIntNil, h1, h2, h4, h5, sel_true, sel_false]) ?_
            exact endP.ret [] (True ∧ True) (by kernel_rfl) (by kernel_rfl) ⟨trivial, trivial⟩
          ·
            have h5' := eq_false_i h5
            refine Tri.len 64 rfl (fun hl7 => ?_)
            refine Tri.seq_region [(10, qb true), (15, qb false), (20, qb true), (24, qb false)] none [32, 3, 0] [64] ((True ∧ True) ∧ ((True ∧ True) ∧ ((True ∧ True) ∧ ((True ∧ ((decide (((((FwTextNil).size : Nat) : Int) : Int) > 0)) = true)) ∧ ((True ∧ True) ∧ ((((0 : Int) ≤ 0 ∧ 0 < (((FwTextNil).size : Nat) : Int)) ∧ True) ∧ (((0 < (FwTextNil).size) ∧ True) ∧ ((True ∧ True) ∧ ((True ∧ ((decide (((bytesI (FwTextNil)).getD 0 0 : Int) ≥ 128)) = false)) ∧ ((True ∧ True) ∧ ((((0 : Int) ≤ 0 ∧ 0 < (((FwTextNil).size : Nat) : Int)) ∧ True) ∧ (((0 < (FwTextNil).size) ∧ True) ∧ ((True ∧ True) ∧ ((True ∧ ((((bytesI (FwTextNil)).getD 0 0 : Int) == 0) = true)) ∧ ((True ∧ True) ∧ ((True ∧ True) ∧ ((True ∧ True) ∧ ((True ∧ ((((((FwTextNil).size : Nat) : Int) : Int) == 1) = false)) ∧ ((True ∧ True) ∧ ((((0 : Int) ≤ 1 ∧ 1 < (((FwTextNil).size : Nat) : Int)) ∧ True) ∧ (((1 < (FwTextNil).size) ∧ True) ∧ ((True ∧ True) ∧ ((True ∧ True) ∧ ((True ∧ True) ∧ ((True ∧ True) ∧ ((True ∧ True) ∧ True))))))))))))))))))))))))))
                ([(32, .sc (.b (decide (((bytesI (FwTextNil)).getD 1 0 : Int) < 128)))), (3, .sc (.sl 64 0 ((FwTextNil).size) 1 none)), (0, .sc (.nilp))], [(64, .ints .u8 ((FwTextNil).size) (bytesI (FwTextNil)))])
                512 (by kernel_rfl) rfl (by kernel_rfl) (⟨⟨trivial, trivial⟩, ⟨⟨trivial, trivial⟩, ⟨⟨trivial, trivial⟩, ⟨⟨trivial, (h1)⟩, ⟨⟨trivial, trivial⟩, ⟨⟨(by first | omega | (rw [adr_eq]; omega) | exact iAnd_nn _ _ | exact iSub_nn _ _ | exact part1_le (by omega) (by first | omega | (simp only [List.length_append]; omega)) | decide), trivial⟩, ⟨⟨(by first | omega | (rw [adr_eq]; omega) | exact iAnd_nn _ _ | exact iSub_nn _ _ | exact part1_le (by omega) (by first | omega | (simp only [List.length_append]; omega)) | decide), trivial⟩, ⟨⟨trivial, trivial⟩, ⟨⟨trivial, (h2)⟩, ⟨⟨trivial, trivial⟩, ⟨⟨(by first | omega | (rw [adr_eq]; omega) | exact iAnd_nn _ _ | exact iSub_nn _ _ | exact part1_le (by omega) (by first | omega | (simp only [List.length_append]; omega)) | decide), trivial⟩, ⟨⟨(by first | omega | (rw [adr_eq]; omega) | exact iAnd_nn _ _ | exact iSub_nn _ _ | exact part1_le (by omega) (by first | omega | (simp only [List.length_append]; omega)) | decide), trivial⟩, ⟨⟨trivial, trivial⟩, ⟨⟨trivial, (h4)⟩, ⟨⟨trivial, trivial⟩, ⟨⟨trivial, trivial⟩, ⟨⟨trivial, trivial⟩, ⟨⟨trivial, (h5)⟩, ⟨⟨trivial, trivial⟩, ⟨⟨(by first | omega | (rw [adr_eq]; omega) | exact iAnd_nn _ _ | exact iSub_nn _ _ | exact part1_le (by omega) (by first | omega | (simp only [List.length_append]; omega)) | decide), trivial⟩, ⟨⟨(by first | omega | (rw [adr_eq]; omega) | exact iAnd_nn _ _ | exact iSub_nn _ _ | exact part1_le (by omega) (by first | omega | (simp only [List.length_append]; omega)) | decide), trivial⟩, ⟨⟨trivial, trivial⟩, ⟨⟨trivial, trivial⟩, ⟨⟨trivial, trivial⟩, ⟨⟨trivial, trivial⟩, ⟨⟨trivial, trivial⟩, trivial⟩⟩⟩⟩⟩⟩⟩⟩⟩⟩⟩⟩⟩⟩⟩⟩⟩⟩⟩⟩⟩⟩⟩⟩⟩⟩) ?_
            refine Tri.cond (x := (decide (((bytesI (FwTextNil)).getD 1 0 : Int) < 128))) (by kernel_rfl) (fun h8 => ?_) (fun h8 => ?_)
            ·
              have h8' := of_decide_eq_true h8
              refine Tri.seq_region [] none [] [] ((True ∧ True) ∧ (((True ∧ True) ∧ True) ∧ True))
                  ([], [])
                  544 (by kernel_rfl) rfl (by kernel_rfl) (⟨⟨trivial, trivial⟩, ⟨⟨⟨trivial, trivial⟩, trivial⟩, trivial⟩⟩) ?_
              refine Tri.seq_region [] none [2] [] ((True ∧ True) ∧ True)
                  ([(2, .sc (.nils))], [])
                  560 (by kernel_rfl) rfl (by kernel_rfl) (⟨⟨trivial, trivial⟩, trivial⟩) ?_
              refine Tri.sub (Sub.nilRo 2 .u8 (by kernel_rfl)) ?_
              refine Tri.ret ?_
              repeat (first | refine thenP_ret ?_ | refine blkP_ret ?_ | refine countP_ret ?_ | refine joinP_ret ?_ | refine iterP_ret ?_)
              refine endP.conv (r' := ⟨.sc (.ro .u8 ([] : List Int)), []⟩) (by simp only [FwIntNil, h1, h2, h4, h5, h8, sel_true, sel_false]) ?_
              exact endP.ret [] (True ∧ True) (by kernel_rfl) (by kernel_rfl) ⟨trivial, trivial⟩
            ·
              have h8' := of_decide_eq_false h8
              refine Tri.skip ?_
              change Tri _ _ _ _ _ _
              refine Tri.seq ?_
              refine Tri.len 64 rfl (fun hl9 => ?_)
              refine Tri.seq_region [(38, qb true)] none [43, 3] [64] ((True ∧ True) ∧ ((True ∧ True) ∧ ((True ∧ True) ∧ ((True ∧ ((decide (((((FwTextNil).size : Nat) : Int) : Int) > 0)) = true)) ∧ ((True ∧ True) ∧ ((((0 : Int) ≤ 0 ∧ 0 < (((FwTextNil).size : Nat) : Int)) ∧ True) ∧ (((0 < (FwTextNil).size) ∧ True) ∧ ((True ∧ True) ∧ ((True ∧ True) ∧ True)))))))))
                  ([(43, .sc (.b (((bytesI (FwTextNil)).getD 0 0 : Int) == 0))), (3, .sc (.sl 64 0 ((FwTextNil).size) 1 none))], [(64, .ints .u8 ((FwTextNil).size) (bytesI (FwTextNil)))])
                  656 (by kernel_rfl) rfl (by kernel_rfl) (⟨⟨trivial, trivial⟩, ⟨⟨trivial, trivial⟩, ⟨⟨trivial, trivial⟩, ⟨⟨trivial, (h1)⟩, ⟨⟨trivial, trivial⟩, ⟨⟨(by first | omega | (rw [adr_eq]; omega) | exact iAnd_nn _ _ | exact iSub_nn _ _ | exact part1_le (by omega) (by first | omega | (simp only [List.length_append]; omega)) | decide), trivial⟩, ⟨⟨(by first | omega | (rw [adr_eq]; omega) | exact iAnd_nn _ _ | exact iSub_nn _ _ | exact part1_le (by omega) (by first | omega | (simp only [List.length_append]; omega)) | decide), trivial⟩, ⟨⟨trivial, trivial⟩, ⟨⟨trivial, trivial⟩, trivial⟩⟩⟩⟩⟩⟩⟩⟩⟩) ?_
              refine Tri.cond (x := (((bytesI (FwTextNil)).getD 0 0 : Int) == 0)) (by kernel_rfl) (fun h => ?_) (fun h => absurd (h.symm.trans h4) (by decide))
              refine Tri.len 64 rfl (fun hl10 => ?_)
              refine Tri.region' [] none [3] [64] ((True ∧ True) ∧ ((((0 : Int) ≤ 1 ∧ (1 : Int) ≤ (((FwTextNil).size : Nat) : Int) ∧ (((FwTextNil).size : Nat) : Int) ≤ (((FwTextNil).size : Nat) : Int)) ∧ True) ∧ ((True ∧ True) ∧ True)))
                  ([(3, .sc (.sl 64 1 (((FwTextNil).size) - 1) 1 none))], [(64, .ints .u8 ((FwTextNil).size) (bytesI (FwTextNil)))])
                  704 (by kernel_rfl) rfl (by kernel_rfl) (⟨⟨trivial, trivial⟩, ⟨⟨(by first | omega | (rw [adr_eq]; omega) | exact iAnd_nn _ _ | exact iSub_nn _ _ | exact part1_le (by omega) (by first | omega | (simp only [List.length_append]; omega)) | decide), trivial⟩, ⟨⟨trivial, trivial⟩, trivial⟩⟩⟩) ?_
              change Tri _ _ _ _ _ _
              refine Tri.seq_region [] none [2] [64] ((True ∧ True) ∧ ((True ∧ True) ∧ True))
                  ([(2, .sc (.sl 64 1 (((FwTextNil).size) - 1) 1 none))], [(64, .ints .u8 ((FwTextNil).size) (bytesI (FwTextNil)))])
                  736 (by kernel_rfl) rfl (by kernel_rfl) (⟨⟨trivial, trivial⟩, ⟨⟨trivial, trivial⟩, trivial⟩⟩) ?_
              refine Tri.sub (Sub.still (s' := ([(2, .sc (.ro .u8 (part1 (bytesI (FwTextNil)) ((FwTextNil).size) 1 (((FwTextNil).size) - 1))))], [])) 64 (.ints .u8 ((FwTextNil).size) (bytesI (FwTextNil))) (by kernel_rfl) (show 1 + (((FwTextNil).size) - 1) ≤ (FwTextNil).size from by first | omega | (rw [adr_eq]; omega) | exact iAnd_nn _ _ | exact iSub_nn _ _ | exact part1_le (by omega) (by first | omega | (simp only [List.length_append]; omega)) | decide) (by kernel_rfl)) ?_
              refine Tri.ret ?_
              repeat (first | refine thenP_ret ?_ | refine blkP_ret ?_ | refine countP_ret ?_ | refine joinP_ret ?_ | refine iterP_ret ?_)
              refine endP.conv (r' := ⟨.sc (.ro .u8 (part1 (bytesI (FwTextNil)) ((FwTextNil).size) 1 (((FwTextNil).size) - 1))), []⟩) (by simp only [FwIntNil, h1, h2, h4, h5, h8, sel_true, sel_false]) ?_
              exact endP.ret [] (True ∧ True) (by kernel_rfl) (by kernel_rfl) ⟨trivial, trivial⟩
        ·
          have h4' := eq_false_i h4
          refine Tri.len 64 rfl (fun hl11 => ?_)
          refine Tri.seq_region [(10, qb true), (15, qb false), (20, qb false)] none [32, 3, 0] [64] ((True ∧ True) ∧ ((True ∧ True) ∧ ((True ∧ True) ∧ ((True ∧ ((decide (((((FwTextNil).size : Nat) : Int) : Int) > 0)) = true)) ∧ ((True ∧ True) ∧ ((((0 : Int) ≤ 0 ∧ 0 < (((FwTextNil).size : Nat) : Int)) ∧ True) ∧ (((0 < (FwTextNil).size) ∧ True) ∧ ((True ∧ True) ∧ ((True ∧ ((decide (((bytesI (FwTextNil)).getD 0 0 : Int) ≥ 128)) = false)) ∧ ((True ∧ True) ∧ ((((0 : Int) ≤ 0 ∧ 0 < (((FwTextNil).size : Nat) : Int)) ∧ True) ∧ (((0 < (FwTextNil).size) ∧ True) ∧ ((True ∧ True) ∧ ((True ∧ ((((bytesI (FwTextNil)).getD 0 0 : Int) == 0) = false)) ∧ ((True ∧ True) ∧ ((True ∧ True) ∧ ((True ∧ True) ∧ ((True ∧ True) ∧ ((True ∧ True) ∧ ((True ∧ True) ∧ ((True ∧ True) ∧ ((True ∧ True) ∧ ((True ∧ True) ∧ ((True ∧ True) ∧ ((True ∧ True) ∧ ((True ∧ True) ∧ True))))))))))))))))))))))))))
              ([(32, .sc (.b false)), (3, .sc (.sl 64 0 ((FwTextNil).size) 1 none)), (0, .sc (.nilp))], [(64, .ints .u8 ((FwTextNil).size) (bytesI (FwTextNil)))])
              512 (by kernel_rfl) rfl (by kernel_rfl) (⟨⟨trivial, trivial⟩, ⟨⟨trivial, trivial⟩, ⟨⟨trivial, trivial⟩, ⟨⟨trivial, (h1)⟩, ⟨⟨trivial, trivial⟩, ⟨⟨(by first | omega | (rw [adr_eq]; omega) | exact iAnd_nn _ _ | exact iSub_nn _ _ | exact part1_le (by omega) (by first | omega | (simp only [List.length_append]; omega)) | decide), trivial⟩, ⟨⟨(by first | omega | (rw [adr_eq]; omega) | exact iAnd_nn _ _ | exact iSub_nn _ _ | exact part1_le (by omega) (by first | omega | (simp only [List.length_append]; omega)) | decide), trivial⟩, ⟨⟨trivial, trivial⟩, ⟨⟨trivial, (h2)⟩, ⟨⟨trivial, trivial⟩, ⟨⟨(by first | omega | (rw [adr_eq]; omega) | exact iAnd_nn _ _ | exact iSub_nn _ _ | exact part1_le (by omega) (by first | omega | (simp only [List.length_append]; omega)) | decide), trivial⟩, ⟨⟨(by first | omega | (rw [adr_eq]; omega) | exact iAnd_nn _ _ | exact iSub_nn _ _ | exact part1_le (by omega) (by first | omega | (simp only [List.length_append]; omega)) | decide), trivial⟩, ⟨⟨trivial, trivial⟩, ⟨⟨trivial, (h4)⟩, ⟨⟨trivial, trivial⟩, ⟨⟨trivial, trivial⟩, ⟨⟨trivial, trivial⟩, ⟨⟨trivial, trivial⟩, ⟨⟨trivial, trivial⟩, ⟨⟨trivial, trivial⟩, ⟨⟨trivial, trivial⟩, ⟨⟨trivial, trivial⟩, ⟨⟨trivial, trivial⟩, ⟨⟨trivial, trivial⟩, ⟨⟨trivial, trivial⟩, ⟨⟨trivial, trivial⟩, trivial⟩⟩⟩⟩⟩⟩⟩⟩⟩⟩⟩⟩⟩⟩⟩⟩⟩⟩⟩⟩⟩⟩⟩⟩⟩⟩) ?_
          refine Tri.cond_false (by kernel_rfl) ?_
          refine Tri.skip ?_
          change Tri _ _ _ _ _ _
          refine Tri.seq ?_
          refine Tri.len 64 rfl (fun hl12 => ?_)
          refine Tri.seq_region [(38, qb true)] none [43, 3] [64] ((True ∧ True) ∧ ((True ∧ True) ∧ ((True ∧ True) ∧ ((True ∧ ((decide (((((FwTextNil).size : Nat) : Int) : Int) > 0)) = true)) ∧ ((True ∧ True) ∧ ((((0 : Int) ≤ 0 ∧ 0 < (((FwTextNil).size : Nat) : Int)) ∧ True) ∧ (((0 < (FwTextNil).size) ∧ True) ∧ ((True ∧ True) ∧ ((True ∧ True) ∧ True)))))))))
              ([(43, .sc (.b (((bytesI (FwTextNil)).getD 0 0 : Int) == 0))), (3, .sc (.sl 64 0 ((FwTextNil).size) 1 none))], [(64, .ints .u8 ((FwTextNil).size) (bytesI (FwTextNil)))])
              656 (by kernel_rfl) rfl (by kernel_rfl) (⟨⟨trivial, trivial⟩, ⟨⟨trivial, trivial⟩, ⟨⟨trivial, trivial⟩, ⟨⟨trivial, (h1)⟩, ⟨⟨trivial, trivial⟩, ⟨⟨(by first | omega | (rw [adr_eq]; omega) | exact iAnd_nn _ _ | exact iSub_nn _ _ | exact part1_le (by omega) (by first | omega | (simp only [List.length_append]; omega)) | decide), trivial⟩, ⟨⟨(by first | omega | (rw [adr_eq]; omega) | exact iAnd_nn _ _ | exact iSub_nn _ _ | exact part1_le (by omega) (by first | omega | (simp only [List.length_append]; omega)) | decide), trivial⟩, ⟨⟨trivial, trivial⟩, ⟨⟨trivial, trivial⟩, trivial⟩⟩⟩⟩⟩⟩⟩⟩⟩) ?_
          refine Tri.cond (x := (((bytesI (FwTextNil)).getD 0 0 : Int) == 0)) (by kernel_rfl) (fun h => absurd (h.symm.trans h4) (by decide)) (fun h => ?_)
          refine Tri.skip ?_
          change Tri _ _ _ _ _ _
          refine Tri.seq_region [] none [2] [64] ((True ∧ True) ∧ ((True ∧ True) ∧ True))
              ([(2, .sc (.sl 64 0 ((FwTextNil).size) 1 none))], [(64, .ints .u8 ((FwTextNil).size) (bytesI (FwTextNil)))])
              688 (by kernel_rfl) rfl (by kernel_rfl) (⟨⟨trivial, trivial⟩, ⟨⟨trivial, trivial⟩, trivial⟩⟩) ?_
          refine Tri.sub (Sub.still (s' := ([(2, .sc (.ro .u8 (part1 (bytesI (FwTextNil)) ((FwTextNil).size) 0 ((FwTextNil).size))))], [])) 64 (.ints .u8 ((FwTextNil).size) (bytesI (FwTextNil))) (by kernel_rfl) (show 0 + ((FwTextNil).size) ≤ (FwTextNil).size from by first | omega | (rw [adr_eq]; omega) | exact iAnd_nn _ _ | exact iSub_nn _ _ | exact part1_le (by omega) (by first | omega | (simp only [List.length_append]; omega)) | decide) (by kernel_rfl)) ?_
          refine Tri.ret ?_
          repeat (first | refine thenP_ret ?_ | refine blkP_ret ?_ | refine countP_ret ?_ | refine joinP_ret ?_ | refine iterP_ret ?_)
          refine endP.conv (r' := ⟨.sc (.ro .u8 (part1 (bytesI (FwTextNil)) ((FwTextNil).size) 0 ((FwTextNil).size))), []⟩) (by simp only [FwIntNil, h1, h2, h4, sel_true, sel_false]) ?_
          exact endP.ret [] (True ∧ True) (by kernel_rfl) (by kernel_rfl) ⟨trivial, trivial⟩
    ·
      have h1' := of_decide_eq_false h1
      refine Tri.seq_region [(10, qb false)] none [32, 3, 0] [64] ((True ∧ True) ∧ ((True ∧ True) ∧ ((True ∧ True) ∧ ((True ∧ ((decide (((((FwTextNil).size : Nat) : Int) : Int) > 0)) = false)) ∧ ((True ∧ True) ∧ ((True ∧ True) ∧ ((True ∧ True) ∧ ((True ∧ True) ∧ ((True ∧ True) ∧ ((True ∧ True) ∧ ((True ∧ True) ∧ ((True ∧ True) ∧ ((True ∧ True) ∧ ((True ∧ True) ∧ ((True ∧ True) ∧ ((True ∧ True) ∧ ((True ∧ True) ∧ ((True ∧ True) ∧ ((True ∧ True) ∧ ((True ∧ True) ∧ ((True ∧ True) ∧ ((True ∧ True) ∧ ((True ∧ True) ∧ ((True ∧ True) ∧ ((True ∧ True) ∧ ((True ∧ True) ∧ True))))))))))))))))))))))))))
          ([(32, .sc (.b false)), (3, .sc (.sl 64 0 ((FwTextNil).size) 1 none)), (0, .sc (.nilp))], [(64, .ints .u8 ((FwTextNil).size) (bytesI (FwTextNil)))])
          512 (by kernel_rfl) rfl (by kernel_rfl) (⟨⟨trivial, trivial⟩, ⟨⟨trivial, trivial⟩, ⟨⟨trivial, trivial⟩, ⟨⟨trivial, (h1)⟩, ⟨⟨trivial, trivial⟩, ⟨⟨trivial, trivial⟩, ⟨⟨trivial, trivial⟩, ⟨⟨trivial, trivial⟩, ⟨⟨trivial, trivial⟩, ⟨⟨trivial, trivial⟩, ⟨⟨trivial, trivial⟩, ⟨⟨trivial, trivial⟩, ⟨⟨trivial, trivial⟩, ⟨⟨trivial, trivial⟩, ⟨⟨trivial, trivial⟩, ⟨⟨trivial, trivial⟩, ⟨⟨trivial, trivial⟩, ⟨⟨trivial, trivial⟩, ⟨⟨trivial, trivial⟩, ⟨⟨trivial, trivial⟩, ⟨⟨trivial, trivial⟩, ⟨⟨trivial, trivial⟩, ⟨⟨trivial, trivial⟩, ⟨⟨trivial, trivial⟩, ⟨⟨trivial, trivial⟩, ⟨⟨trivial, trivial⟩, trivial⟩⟩⟩⟩⟩⟩⟩⟩⟩⟩⟩⟩⟩⟩⟩⟩⟩⟩⟩⟩⟩⟩⟩⟩⟩⟩) ?_
      refine Tri.cond_false (by kernel_rfl) ?_
      refine Tri.skip ?_
      change Tri _ _ _ _ _ _
      refine Tri.seq ?_
      refine Tri.seq_region [(38, qb false)] none [43, 3] [64] ((True ∧ True) ∧ ((True ∧ True) ∧ ((True ∧ True) ∧ ((True ∧ ((decide (((((FwTextNil).size : Nat) : Int) : Int) > 0)) = false)) ∧ ((True ∧ True) ∧ ((True ∧ True) ∧ ((True ∧ True) ∧ ((True ∧ True) ∧ ((True ∧ True) ∧ True)))))))))
          ([(43, .sc (.b false)), (3, .sc (.sl 64 0 ((FwTextNil).size) 1 none))], [(64, .ints .u8 ((FwTextNil).size) (bytesI (FwTextNil)))])
          656 (by kernel_rfl) rfl (by kernel_rfl) (⟨⟨trivial, trivial⟩, ⟨⟨trivial, trivial⟩, ⟨⟨trivial, trivial⟩, ⟨⟨trivial, (h1)⟩, ⟨⟨trivial, trivial⟩, ⟨⟨trivial, trivial⟩, ⟨⟨trivial, trivial⟩, ⟨⟨trivial, trivial⟩, ⟨⟨trivial, trivial⟩, trivial⟩⟩⟩⟩⟩⟩⟩⟩⟩) ?_
      refine Tri.cond_false (by kernel_rfl) ?_
      refine Tri.skip ?_
      change Tri _ _ _ _ _ _
      refine Tri.seq_region [] none [2] [64] ((True ∧ True) ∧ ((True ∧ True) ∧ True))
          ([(2, .sc (.sl 64 0 ((FwTextNil).size) 1 none))], [(64, .ints .u8 ((FwTextNil).size) (bytesI (FwTextNil)))])
          688 (by kernel_rfl) rfl (by kernel_rfl) (⟨⟨trivial, trivial⟩, ⟨⟨trivial, trivial⟩, trivial⟩⟩) ?_
      refine Tri.sub (Sub.still (s' := ([(2, .sc (.ro .u8 (part1 (bytesI (FwTextNil)) ((FwTextNil).size) 0 ((FwTextNil).size))))], [])) 64 (.ints .u8 ((FwTextNil).size) (bytesI (FwTextNil))) (by kernel_rfl) (show 0 + ((FwTextNil).size) ≤ (FwTextNil).size from by first | omega | (rw [adr_eq]; omega) | exact iAnd_nn _ _ | exact iSub_nn _ _ | exact part1_le (by omega) (by first | omega | (simp only [List.length_append]; omega)) | decide) (by kernel_rfl)) ?_
      refine Tri.ret ?_
      repeat (first | refine thenP_ret ?_ | refine blkP_ret ?_ | refine countP_ret ?_ | refine joinP_ret ?_ | refine iterP_ret ?_)
      refine endP.conv (r' := ⟨.sc (.ro .u8 (part1 (bytesI (FwTextNil)) ((FwTextNil).size) 0 ((FwTextNil).size))), []⟩) (by simp only [FwIntNil, h1, sel_true, sel_false]) ?_
      exact endP.ret [] (True ∧ True) (by kernel_rfl) (by kernel_rfl) ⟨trivial, trivial⟩

theorem none_FwIntNil : FwIntNil = [] := by
  unfold FwIntNil
  rw [none_FwTextNil]
  kernel_rfl

end Go.Vm
