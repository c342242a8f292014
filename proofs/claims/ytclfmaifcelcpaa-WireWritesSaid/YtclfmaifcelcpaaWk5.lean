/- What the functions compute, and that they do: walked by a printed text. -/
import Derived.Test.YtclfmaifcelcpaaWk4
set_option linter.unusedVariables false
set_option linter.unusedSimpArgs false
set_option maxRecDepth 4000
namespace Go.Vm
open Go

noncomputable def FwwU32 (p0 : Nat) (p2 : List Int) (p3 : Int) : List Int :=
  p2 ++ [(IntKind.wrap .u8 (iShr .u32 p3 24)), (IntKind.wrap .u8 (iShr .u32 p3 16)), (IntKind.wrap .u8 (iShr .u32 p3 8)), (IntKind.wrap .u8 p3)]

noncomputable def SwwU32 : List AV → List Blk → Option (Prop × Ret)
  | [.sc (.sl 0 0 p0 1 none), .sc (.i .u32 p3)], [.ints .u8 p1 p2] => some (((p0 = p1) ∧ (p0 ≤ 1000000000)), ⟨.sc (.sl 1 0 (p0 + 4) 1 none), [none, some (.ints .u8 (p0 + 4) (FwwU32 p0 p2 p3))]⟩)
  | _, _ => none

noncomputable def BwwU32 : Bs := { P := Go.Proofs.Try.prog, G := noG, tab := tabOf [], n := 19 }

theorem BwwU32.ok : BwwU32.Ok := ⟨tabOk (P := Go.Proofs.Try.prog) (G := noG) (l := []) True.intro, mixed⟩

theorem KwwU32 : Known Go.Proofs.Try.prog noG 10 ⟨1, 1, SwwU32⟩ := by
  refine Known.walk (B := BwwU32) (fn := Go.Proofs.Try.f10) BwwU32.ok (by kernel_rfl) rfl (by kernel_rfl) (by kernel_rfl) (by decide) (by decide) ?_
  · intro E args ks C r h hC hlen
    simp only at h
    unfold SwwU32 at h
    split at h
    rotate_left
    · cases h
    rename_i p0 p3 p1 p2
    cases h
    simp only [lens] at hlen
    have hEp1 := hC.1
    have hC := hC.2
    subst hEp1
    refine ⟨show 2 ≤ 19 from by decide, ?_⟩
    refine Tri.sub (Sub.of_eq (show _ = ([(0, .sc (.sl 0 0 p0 1 none)), (1, .sc (.i .u32 p3))], [(0, .ints .u8 p0 p2)]) from rfl)) ?_
    refine Tri.seq_region [] none [0, 1] [0] ((True ∧ True) ∧ True)
        ([(0, .sc (.sl 0 0 p0 1 none)), (1, .sc (.i .u32 p3))], [(0, .ints .u8 p0 p2)])
        32 (by kernel_rfl) rfl (by kernel_rfl) (⟨⟨trivial, trivial⟩, trivial⟩) ?_
    refine Tri.len 0 rfl (fun hl1 => ?_)
    refine Tri.seq_region [] none [4] [240] ((True ∧ True) ∧ ((True ∧ True) ∧ ((((0 : Int) ≤ 24) ∧ True) ∧ ((True ∧ True) ∧ ((True ∧ True) ∧ ((((0 : Int) ≤ 16) ∧ True) ∧ ((True ∧ True) ∧ ((True ∧ True) ∧ ((((0 : Int) ≤ 8) ∧ True) ∧ ((True ∧ True) ∧ ((True ∧ True) ∧ ((True ∧ True) ∧ ((((((0 < 4) ∧ (1 = 1)) ∧ (((1 < 4) ∧ (1 = 1)) ∧ (((2 < 4) ∧ (1 = 1)) ∧ (((3 < 4) ∧ (1 = 1)) ∧ True)))) ∧ ((4 * 1 ≤ 16777216) ∧ (1 = 1))) ∧ True) ∧ ((((((True ∧ (1 = 1)) ∧ ((0 < 1) ∧ (((p0 + 4) * 1 ≤ 140737488355328) ∧ (p0 + 4 ≤ 140737488355328)))) ∧ (4 = 4 * 1)) ∧ ((1 = 1) ∧ (0 + p0 * 1 = p0))) ∧ True) ∧ ((True ∧ True) ∧ True)))))))))))))))
        ([(4, .sc (.sl 240 0 (p0 + 4) 1 none))], [(240, .ints .u8 (p0 + 4) (p2 ++ [(IntKind.wrap .u8 (iShr .u32 p3 24)), (IntKind.wrap .u8 (iShr .u32 p3 16)), (IntKind.wrap .u8 (iShr .u32 p3 8)), (IntKind.wrap .u8 p3)]))])
        272 (by kernel_rfl) rfl (by kernel_rfl) (⟨⟨trivial, trivial⟩, ⟨⟨trivial, trivial⟩, ⟨⟨(by first | omega | (rw [adr_eq]; omega) | exact iAnd_nn _ _ | exact iSub_nn _ _ | exact part1_le (by omega) (by first | omega | (simp only [List.length_append]; omega)) | decide), trivial⟩, ⟨⟨trivial, trivial⟩, ⟨⟨trivial, trivial⟩, ⟨⟨(by first | omega | (rw [adr_eq]; omega) | exact iAnd_nn _ _ | exact iSub_nn _ _ | exact part1_le (by omega) (by first | omega | (simp only [List.length_append]; omega)) | decide), trivial⟩, ⟨⟨trivial, trivial⟩, ⟨⟨trivial, trivial⟩, ⟨⟨(by first | omega | (rw [adr_eq]; omega) | exact iAnd_nn _ _ | exact iSub_nn _ _ | exact part1_le (by omega) (by first | omega | (simp only [List.length_append]; omega)) | decide), trivial⟩, ⟨⟨trivial, trivial⟩, ⟨⟨trivial, trivial⟩, ⟨⟨trivial, trivial⟩, ⟨⟨⟨⟨⟨(by first | omega | (rw [adr_eq]; omega) | exact iAnd_nn _ _ | exact iSub_nn _ _ | exact part1_le (by omega) (by first | omega | (simp only [List.length_append]; omega)) | decide), (rfl)⟩, ⟨⟨(by first | omega | (rw [adr_eq]; omega) | exact iAnd_nn _ _ | exact iSub_nn _ _ | exact part1_le (by omega) (by first | omega | (simp only [List.length_append]; omega)) | decide), (rfl)⟩, ⟨⟨(by first | omega | (rw [adr_eq]; omega) | exact iAnd_nn _ _ | exact iSub_nn _ _ | exact part1_le (by omega) (by first | omega | (simp only [List.length_append]; omega)) | decide), (rfl)⟩, ⟨⟨(by first | omega | (rw [adr_eq]; omega) | exact iAnd_nn _ _ | exact iSub_nn _ _ | exact part1_le (by omega) (by first | omega | (simp only [List.length_append]; omega)) | decide), (rfl)⟩, trivial⟩⟩⟩⟩, ⟨(by first | omega | (rw [adr_eq]; omega) | exact iAnd_nn _ _ | exact iSub_nn _ _ | exact part1_le (by omega) (by first | omega | (simp only [List.length_append]; omega)) | decide), (rfl)⟩⟩, trivial⟩, ⟨⟨⟨⟨⟨⟨trivial, (rfl)⟩, ⟨(by first | omega | (rw [adr_eq]; omega) | exact iAnd_nn _ _ | exact iSub_nn _ _ | exact part1_le (by omega) (by first | omega | (simp only [List.length_append]; omega)) | decide), ⟨(by first | omega | (rw [adr_eq]; omega) | exact iAnd_nn _ _ | exact iSub_nn _ _ | exact part1_le (by omega) (by first | omega | (simp only [List.length_append]; omega)) | decide), (by first | omega | (rw [adr_eq]; omega) | exact iAnd_nn _ _ | exact iSub_nn _ _ | exact part1_le (by omega) (by first | omega | (simp only [List.length_append]; omega)) | decide)⟩⟩⟩, (by first | omega | (rw [adr_eq]; omega) | exact iAnd_nn _ _ | exact iSub_nn _ _ | exact part1_le (by omega) (by first | omega | (simp only [List.length_append]; omega)) | decide)⟩, ⟨(rfl), (by first | omega | (rw [adr_eq]; omega) | exact iAnd_nn _ _ | exact iSub_nn _ _ | exact part1_le (by omega) (by first | omega | (simp only [List.length_append]; omega)) | decide)⟩⟩, trivial⟩, ⟨⟨trivial, trivial⟩, trivial⟩⟩⟩⟩⟩⟩⟩⟩⟩⟩⟩⟩⟩⟩⟩) ?_
    refine Tri.ret ?_
    repeat (first | refine thenP_ret ?_ | refine blkP_ret ?_ | refine countP_ret ?_ | refine joinP_ret ?_ | refine iterP_ret ?_)
    exact endP.ret [(240, 1)] (True ∧ True) (by kernel_rfl) (by kernel_rfl) ⟨trivial, trivial⟩




noncomputable def FwwU32n (p3 : Int) : List Int :=
  [(IntKind.wrap .u8 (iShr .u32 p3 24)), (IntKind.wrap .u8 (iShr .u32 p3 16)), (IntKind.wrap .u8 (iShr .u32 p3 8)), (IntKind.wrap .u8 p3)]

noncomputable def SwwU32n : List AV → List Blk → Option (Prop × Ret)
  | [.sc (.nils), .sc (.i .u32 p3)], [] => some (True, ⟨.sc (.sl 0 0 4 1 none), [some (.ints .u8 4 (FwwU32n p3))]⟩)
  | _, _ => none

noncomputable def BwwU32n : Bs := { P := Go.Proofs.Try.prog, G := noG, tab := tabOf [], n := 19 }

theorem BwwU32n.ok : BwwU32n.Ok := ⟨tabOk (P := Go.Proofs.Try.prog) (G := noG) (l := []) True.intro, mixed⟩

theorem KwwU32n : Known Go.Proofs.Try.prog noG 10 ⟨0, 1, SwwU32n⟩ := by
  refine Known.walk (B := BwwU32n) (fn := Go.Proofs.Try.f10) BwwU32n.ok (by kernel_rfl) rfl (by kernel_rfl) (by kernel_rfl) (by decide) (by decide) ?_
  · intro E args ks C r h hC hlen
    simp only at h
    unfold SwwU32n at h
    split at h
    rotate_left
    · cases h
    rename_i p3
    cases h
    simp only [lens] at hlen
    refine ⟨show 2 ≤ 19 from by decide, ?_⟩
    refine Tri.sub (Sub.of_eq (show _ = ([(0, .sc (.nils)), (1, .sc (.i .u32 p3))], []) from rfl)) ?_
    refine Tri.seq_region [] none [0, 1] [] ((True ∧ True) ∧ True)
        ([(0, .sc (.nils)), (1, .sc (.i .u32 p3))], [])
        32 (by kernel_rfl) rfl (by kernel_rfl) (⟨⟨trivial, trivial⟩, trivial⟩) ?_
    refine Tri.seq_region [] none [4] [240] ((True ∧ True) ∧ ((True ∧ True) ∧ ((((0 : Int) ≤ 24) ∧ True) ∧ ((True ∧ True) ∧ ((True ∧ True) ∧ ((((0 : Int) ≤ 16) ∧ True) ∧ ((True ∧ True) ∧ ((True ∧ True) ∧ ((((0 : Int) ≤ 8) ∧ True) ∧ ((True ∧ True) ∧ ((True ∧ True) ∧ ((True ∧ True) ∧ ((((((0 < 4) ∧ (1 = 1)) ∧ (((1 < 4) ∧ (1 = 1)) ∧ (((2 < 4) ∧ (1 = 1)) ∧ (((3 < 4) ∧ (1 = 1)) ∧ True)))) ∧ ((4 * 1 ≤ 16777216) ∧ (1 = 1))) ∧ True) ∧ (((((True ∧ (1 = 1)) ∧ ((0 < 1) ∧ ((4 * 1 ≤ 140737488355328) ∧ (4 ≤ 140737488355328)))) ∧ (4 = 4 * 1)) ∧ True) ∧ ((True ∧ True) ∧ True)))))))))))))))
        ([(4, .sc (.sl 240 0 4 1 none))], [(240, .ints .u8 4 [(IntKind.wrap .u8 (iShr .u32 p3 24)), (IntKind.wrap .u8 (iShr .u32 p3 16)), (IntKind.wrap .u8 (iShr .u32 p3 8)), (IntKind.wrap .u8 p3)])])
        272 (by kernel_rfl) rfl (by kernel_rfl) (⟨⟨trivial, trivial⟩, ⟨⟨trivial, trivial⟩, ⟨⟨(by first | omega | (rw [adr_eq]; omega) | exact iAnd_nn _ _ | exact iSub_nn _ _ | exact part1_le (by omega) (by first | omega | (simp only [List.length_append]; omega)) | decide), trivial⟩, ⟨⟨trivial, trivial⟩, ⟨⟨trivial, trivial⟩, ⟨⟨(by first | omega | (rw [adr_eq]; omega) | exact iAnd_nn _ _ | exact iSub_nn _ _ | exact part1_le (by omega) (by first | omega | (simp only [List.length_append]; omega)) | decide), trivial⟩, ⟨⟨trivial, trivial⟩, ⟨⟨trivial, trivial⟩, ⟨⟨(by first | omega | (rw [adr_eq]; omega) | exact iAnd_nn _ _ | exact iSub_nn _ _ | exact part1_le (by omega) (by first | omega | (simp only [List.length_append]; omega)) | decide), trivial⟩, ⟨⟨trivial, trivial⟩, ⟨⟨trivial, trivial⟩, ⟨⟨trivial, trivial⟩, ⟨⟨⟨⟨⟨(by first | omega | (rw [adr_eq]; omega) | exact iAnd_nn _ _ | exact iSub_nn _ _ | exact part1_le (by omega) (by first | omega | (simp only [List.length_append]; omega)) | decide), (rfl)⟩, ⟨⟨(by first | omega | (rw [adr_eq]; omega) | exact iAnd_nn _ _ | exact iSub_nn _ _ | exact part1_le (by omega) (by first | omega | (simp only [List.length_append]; omega)) | decide), (rfl)⟩, ⟨⟨(by first | omega | (rw [adr_eq]; omega) | exact iAnd_nn _ _ | exact iSub_nn _ _ | exact part1_le (by omega) (by first | omega | (simp only [List.length_append]; omega)) | decide), (rfl)⟩, ⟨⟨(by first | omega | (rw [adr_eq]; omega) | exact iAnd_nn _ _ | exact iSub_nn _ _ | exact part1_le (by omega) (by first | omega | (simp only [List.length_append]; omega)) | decide), (rfl)⟩, trivial⟩⟩⟩⟩, ⟨(by first | omega | (rw [adr_eq]; omega) | exact iAnd_nn _ _ | exact iSub_nn _ _ | exact part1_le (by omega) (by first | omega | (simp only [List.length_append]; omega)) | decide), (rfl)⟩⟩, trivial⟩, ⟨⟨⟨⟨⟨trivial, (rfl)⟩, ⟨(by first | omega | (rw [adr_eq]; omega) | exact iAnd_nn _ _ | exact iSub_nn _ _ | exact part1_le (by omega) (by first | omega | (simp only [List.length_append]; omega)) | decide), ⟨(by first | omega | (rw [adr_eq]; omega) | exact iAnd_nn _ _ | exact iSub_nn _ _ | exact part1_le (by omega) (by first | omega | (simp only [List.length_append]; omega)) | decide), (by first | omega | (rw [adr_eq]; omega) | exact iAnd_nn _ _ | exact iSub_nn _ _ | exact part1_le (by omega) (by first | omega | (simp only [List.length_append]; omega)) | decide)⟩⟩⟩, (by first | omega | (rw [adr_eq]; omega) | exact iAnd_nn _ _ | exact iSub_nn _ _ | exact part1_le (by omega) (by first | omega | (simp only [List.length_append]; omega)) | decide)⟩, trivial⟩, ⟨⟨trivial, trivial⟩, trivial⟩⟩⟩⟩⟩⟩⟩⟩⟩⟩⟩⟩⟩⟩⟩) ?_
    refine Tri.ret ?_
    repeat (first | refine thenP_ret ?_ | refine blkP_ret ?_ | refine countP_ret ?_ | refine joinP_ret ?_ | refine iterP_ret ?_)
    exact endP.ret [(240, 0)] (True ∧ True) (by kernel_rfl) (by kernel_rfl) ⟨trivial, trivial⟩




noncomputable def FwwText (p0 : Nat) (p2 : List Int) (p3 : ByteArray) : List Int :=
  (FwwU32 p0 p2 (IntKind.wrap .u32 ((p3.size : Nat) : Int))) ++ (bytesI p3)

noncomputable def SwwText : List AV → List Blk → Option (Prop × Ret)
  | [.sc (.sl 0 0 p0 1 none), .sc (.s p3)], [.ints .u8 p1 p2] => some (((p0 = p1) ∧ (p0 ≤ 1000000000 ∧ p3.size ≤ 1000000000)), ⟨.sc (.sl 1 0 ((p0 + 4) + p3.size) 1 none), [none, some (.ints .u8 ((p0 + 4) + p3.size) (FwwText p0 p2 p3))]⟩)
  | _, _ => none

noncomputable def BwwText : Bs := { P := Go.Proofs.Try.prog, G := noG, tab := tabOf [⟨10, 96, [.io, .val], [], [0], ⟨1, 1, SwwU32⟩⟩], n := 12 }

theorem BwwText.ok : BwwText.Ok := ⟨tabOk (P := Go.Proofs.Try.prog) (G := noG) (l := [⟨10, 96, [.io, .val], [], [0], ⟨1, 1, SwwU32⟩⟩]) (And.intro KwwU32 True.intro), mixed⟩

theorem KwwText : Known Go.Proofs.Try.prog noG 13 ⟨1, 1, SwwText⟩ := by
  refine Known.walk (B := BwwText) (fn := Go.Proofs.Try.f13) BwwText.ok (by kernel_rfl) rfl (by kernel_rfl) (by kernel_rfl) (by decide) (by decide) ?_
  · intro E args ks C r h hC hlen
    simp only at h
    unfold SwwText at h
    split at h
    rotate_left
    · cases h
    rename_i p0 p3 p1 p2
    cases h
    simp only [lens] at hlen
    have hEp1 := hC.1
    have hC := hC.2
    subst hEp1
    refine ⟨show 2 ≤ 12 from by decide, ?_⟩
    refine Tri.sub (Sub.of_eq (show _ = ([(0, .sc (.sl 0 0 p0 1 none)), (1, .sc (.s p3))], [(0, .ints .u8 p0 p2)]) from rfl)) ?_
    refine Tri.seq_region [] none [0, 1] [0] ((True ∧ True) ∧ True)
        ([(0, .sc (.sl 0 0 p0 1 none)), (1, .sc (.s p3))], [(0, .ints .u8 p0 p2)])
        32 (by kernel_rfl) rfl (by kernel_rfl) (⟨⟨trivial, trivial⟩, trivial⟩) ?_
    refine Tri.len 0 rfl (fun hl1 => ?_)
    refine Tri.seq_region [] none [4] [128] ((True ∧ True) ∧ ((True ∧ True) ∧ ((True ∧ True) ∧ ((True ∧ True) ∧ (((True ∧ ((p0 = p0) ∧ (p0 ≤ 1000000000))) ∧ True) ∧ ((True ∧ True) ∧ ((((((True ∧ (1 = 1)) ∧ ((0 < 1) ∧ ((((p0 + 4) + p3.size) * 1 ≤ 140737488355328) ∧ ((p0 + 4) + p3.size ≤ 140737488355328)))) ∧ (p3.size = p3.size * 1)) ∧ ((1 = 1) ∧ (0 + (p0 + 4) * 1 = p0 + 4))) ∧ True) ∧ ((True ∧ True) ∧ True))))))))
        ([(4, .sc (.sl 128 0 ((p0 + 4) + p3.size) 1 none))], [(128, .ints .u8 ((p0 + 4) + p3.size) ((FwwU32 p0 p2 (IntKind.wrap .u32 ((p3.size : Nat) : Int))) ++ (bytesI p3)))])
        160 (by kernel_rfl) rfl (by kernel_rfl) (⟨⟨trivial, trivial⟩, ⟨⟨trivial, trivial⟩, ⟨⟨trivial, trivial⟩, ⟨⟨trivial, trivial⟩, ⟨⟨⟨trivial, ⟨(rfl), (by first | omega | (rw [adr_eq]; omega) | exact iAnd_nn _ _ | exact iSub_nn _ _ | exact part1_le (by omega) (by first | omega | (simp only [List.length_append]; omega)) | decide)⟩⟩, trivial⟩, ⟨⟨trivial, trivial⟩, ⟨⟨⟨⟨⟨⟨trivial, (rfl)⟩, ⟨(by first | omega | (rw [adr_eq]; omega) | exact iAnd_nn _ _ | exact iSub_nn _ _ | exact part1_le (by omega) (by first | omega | (simp only [List.length_append]; omega)) | decide), ⟨(by first | omega | (rw [adr_eq]; omega) | exact iAnd_nn _ _ | exact iSub_nn _ _ | exact part1_le (by omega) (by first | omega | (simp only [List.length_append]; omega)) | decide), (by first | omega | (rw [adr_eq]; omega) | exact iAnd_nn _ _ | exact iSub_nn _ _ | exact part1_le (by omega) (by first | omega | (simp only [List.length_append]; omega)) | decide)⟩⟩⟩, (by first | omega | (rw [adr_eq]; omega) | exact iAnd_nn _ _ | exact iSub_nn _ _ | exact part1_le (by omega) (by first | omega | (simp only [List.length_append]; omega)) | decide)⟩, ⟨(rfl), (by first | omega | (rw [adr_eq]; omega) | exact iAnd_nn _ _ | exact iSub_nn _ _ | exact part1_le (by omega) (by first | omega | (simp only [List.length_append]; omega)) | decide)⟩⟩, trivial⟩, ⟨⟨trivial, trivial⟩, trivial⟩⟩⟩⟩⟩⟩⟩⟩) ?_
    refine Tri.ret ?_
    repeat (first | refine thenP_ret ?_ | refine blkP_ret ?_ | refine countP_ret ?_ | refine joinP_ret ?_ | refine iterP_ret ?_)
    exact endP.ret [(128, 1)] (True ∧ True) (by kernel_rfl) (by kernel_rfl) ⟨trivial, trivial⟩




noncomputable def FwwTextn (p3 : ByteArray) : List Int :=
  (FwwU32n (IntKind.wrap .u32 ((p3.size : Nat) : Int))) ++ (bytesI p3)

noncomputable def SwwTextn : List AV → List Blk → Option (Prop × Ret)
  | [.sc (.nils), .sc (.s p3)], [] => some ((p3.size ≤ 1000000000), ⟨.sc (.sl 0 0 (4 + p3.size) 1 none), [some (.ints .u8 (4 + p3.size) (FwwTextn p3))]⟩)
  | _, _ => none

noncomputable def BwwTextn : Bs := { P := Go.Proofs.Try.prog, G := noG, tab := tabOf [⟨10, 96, [.val, .val], [], [], ⟨0, 1, SwwU32n⟩⟩], n := 12 }

theorem BwwTextn.ok : BwwTextn.Ok := ⟨tabOk (P := Go.Proofs.Try.prog) (G := noG) (l := [⟨10, 96, [.val, .val], [], [], ⟨0, 1, SwwU32n⟩⟩]) (And.intro KwwU32n True.intro), mixed⟩

theorem KwwTextn : Known Go.Proofs.Try.prog noG 13 ⟨0, 1, SwwTextn⟩ := by
  refine Known.walk (B := BwwTextn) (fn := Go.Proofs.Try.f13) BwwTextn.ok (by kernel_rfl) rfl (by kernel_rfl) (by kernel_rfl) (by decide) (by decide) ?_
  · intro E args ks C r h hC hlen
    simp only at h
    unfold SwwTextn at h
    split at h
    rotate_left
    · cases h
    rename_i p3
    cases h
    simp only [lens] at hlen
    refine ⟨show 2 ≤ 12 from by decide, ?_⟩
    refine Tri.sub (Sub.of_eq (show _ = ([(0, .sc (.nils)), (1, .sc (.s p3))], []) from rfl)) ?_
    refine Tri.seq_region [] none [0, 1] [] ((True ∧ True) ∧ True)
        ([(0, .sc (.nils)), (1, .sc (.s p3))], [])
        32 (by kernel_rfl) rfl (by kernel_rfl) (⟨⟨trivial, trivial⟩, trivial⟩) ?_
    refine Tri.seq_region [] none [4] [128] ((True ∧ True) ∧ ((True ∧ True) ∧ ((True ∧ True) ∧ ((True ∧ True) ∧ (((True ∧ True) ∧ True) ∧ ((True ∧ True) ∧ ((((((True ∧ (1 = 1)) ∧ ((0 < 1) ∧ (((4 + p3.size) * 1 ≤ 140737488355328) ∧ (4 + p3.size ≤ 140737488355328)))) ∧ (p3.size = p3.size * 1)) ∧ ((1 = 1) ∧ (0 + 4 * 1 = 4))) ∧ True) ∧ ((True ∧ True) ∧ True))))))))
        ([(4, .sc (.sl 128 0 (4 + p3.size) 1 none))], [(128, .ints .u8 (4 + p3.size) ((FwwU32n (IntKind.wrap .u32 ((p3.size : Nat) : Int))) ++ (bytesI p3)))])
        160 (by kernel_rfl) rfl (by kernel_rfl) (⟨⟨trivial, trivial⟩, ⟨⟨trivial, trivial⟩, ⟨⟨trivial, trivial⟩, ⟨⟨trivial, trivial⟩, ⟨⟨⟨trivial, trivial⟩, trivial⟩, ⟨⟨trivial, trivial⟩, ⟨⟨⟨⟨⟨⟨trivial, (rfl)⟩, ⟨(by first | omega | (rw [adr_eq]; omega) | exact iAnd_nn _ _ | exact iSub_nn _ _ | exact part1_le (by omega) (by first | omega | (simp only [List.length_append]; omega)) | decide), ⟨(by first | omega | (rw [adr_eq]; omega) | exact iAnd_nn _ _ | exact iSub_nn _ _ | exact part1_le (by omega) (by first | omega | (simp only [List.length_append]; omega)) | decide), (by first | omega | (rw [adr_eq]; omega) | exact iAnd_nn _ _ | exact iSub_nn _ _ | exact part1_le (by omega) (by first | omega | (simp only [List.length_append]; omega)) | decide)⟩⟩⟩, (by first | omega | (rw [adr_eq]; omega) | exact iAnd_nn _ _ | exact iSub_nn _ _ | exact part1_le (by omega) (by first | omega | (simp only [List.length_append]; omega)) | decide)⟩, ⟨(rfl), (by first | omega | (rw [adr_eq]; omega) | exact iAnd_nn _ _ | exact iSub_nn _ _ | exact part1_le (by omega) (by first | omega | (simp only [List.length_append]; omega)) | decide)⟩⟩, trivial⟩, ⟨⟨trivial, trivial⟩, trivial⟩⟩⟩⟩⟩⟩⟩⟩) ?_
    refine Tri.ret ?_
    repeat (first | refine thenP_ret ?_ | refine blkP_ret ?_ | refine countP_ret ?_ | refine joinP_ret ?_ | refine iterP_ret ?_)
    exact endP.ret [(128, 0)] (True ∧ True) (by kernel_rfl) (by kernel_rfl) ⟨trivial, trivial⟩




noncomputable def FwwTextz (p0 : Nat) (p2 : List Int) (p3 : ByteArray) : List Int :=
  part1 ((FwwU32 p0 p2 (IntKind.wrap .u32 ((p3.size : Nat) : Int))) ++ (bytesI p3)) ((p0 + 4) + p3.size) 0 ((p0 + 4) + p3.size)

noncomputable def SwwTextz : List AV → List Blk → Option (Prop × Ret)
  | [.sc (.sl 0 0 p0 1 none), .sc (.s p3)], [.ints .u8 p1 p2] => some (((p0 = p1) ∧ (p0 ≤ 1000000000 ∧ p3.size ≤ 1000000000)), ⟨.sc (.ro .u8 (FwwTextz p0 p2 p3)), [none]⟩)
  | _, _ => none

noncomputable def BwwTextz : Bs := { P := Go.Proofs.Try.prog, G := noG, tab := tabOf [⟨10, 96, [.io, .val], [], [0], ⟨1, 1, SwwU32⟩⟩], n := 12 }

theorem BwwTextz.ok : BwwTextz.Ok := ⟨tabOk (P := Go.Proofs.Try.prog) (G := noG) (l := [⟨10, 96, [.io, .val], [], [0], ⟨1, 1, SwwU32⟩⟩]) (And.intro KwwU32 True.intro), mixed⟩

theorem KwwTextz : Known Go.Proofs.Try.prog noG 13 ⟨1, 0, SwwTextz⟩ := by
  refine Known.walk (B := BwwTextz) (fn := Go.Proofs.Try.f13) BwwTextz.ok (by kernel_rfl) rfl (by kernel_rfl) (by kernel_rfl) (by decide) (by decide) ?_
  · intro E args ks C r h hC hlen
    simp only at h
    unfold SwwTextz at h
    split at h
    rotate_left
    · cases h
    rename_i p0 p3 p1 p2
    cases h
    simp only [lens] at hlen
    have hEp1 := hC.1
    have hC := hC.2
    subst hEp1
    refine ⟨show 2 ≤ 12 from by decide, ?_⟩
    refine Tri.sub (Sub.of_eq (show _ = ([(0, .sc (.sl 0 0 p0 1 none)), (1, .sc (.s p3))], [(0, .ints .u8 p0 p2)]) from rfl)) ?_
    refine Tri.seq_region [] none [0, 1] [0] ((True ∧ True) ∧ True)
        ([(0, .sc (.sl 0 0 p0 1 none)), (1, .sc (.s p3))], [(0, .ints .u8 p0 p2)])
        32 (by kernel_rfl) rfl (by kernel_rfl) (⟨⟨trivial, trivial⟩, trivial⟩) ?_
    refine Tri.len 0 rfl (fun hl1 => ?_)
    refine Tri.seq_region [] none [4] [128] ((True ∧ True) ∧ ((True ∧ True) ∧ ((True ∧ True) ∧ ((True ∧ True) ∧ (((True ∧ ((p0 = p0) ∧ (p0 ≤ 1000000000))) ∧ True) ∧ ((True ∧ True) ∧ ((((((True ∧ (1 = 1)) ∧ ((0 < 1) ∧ ((((p0 + 4) + p3.size) * 1 ≤ 140737488355328) ∧ ((p0 + 4) + p3.size ≤ 140737488355328)))) ∧ (p3.size = p3.size * 1)) ∧ ((1 = 1) ∧ (0 + (p0 + 4) * 1 = p0 + 4))) ∧ True) ∧ ((True ∧ True) ∧ True))))))))
        ([(4, .sc (.sl 128 0 ((p0 + 4) + p3.size) 1 none))], [(128, .ints .u8 ((p0 + 4) + p3.size) ((FwwU32 p0 p2 (IntKind.wrap .u32 ((p3.size : Nat) : Int))) ++ (bytesI p3)))])
        160 (by kernel_rfl) rfl (by kernel_rfl) (⟨⟨trivial, trivial⟩, ⟨⟨trivial, trivial⟩, ⟨⟨trivial, trivial⟩, ⟨⟨trivial, trivial⟩, ⟨⟨⟨trivial, ⟨(rfl), (by first | omega | (rw [adr_eq]; omega) | exact iAnd_nn _ _ | exact iSub_nn _ _ | exact part1_le (by omega) (by first | omega | (simp only [List.length_append]; omega)) | decide)⟩⟩, trivial⟩, ⟨⟨trivial, trivial⟩, ⟨⟨⟨⟨⟨⟨trivial, (rfl)⟩, ⟨(by first | omega | (rw [adr_eq]; omega) | exact iAnd_nn _ _ | exact iSub_nn _ _ | exact part1_le (by omega) (by first | omega | (simp only [List.length_append]; omega)) | decide), ⟨(by first | omega | (rw [adr_eq]; omega) | exact iAnd_nn _ _ | exact iSub_nn _ _ | exact part1_le (by omega) (by first | omega | (simp only [List.length_append]; omega)) | decide), (by first | omega | (rw [adr_eq]; omega) | exact iAnd_nn _ _ | exact iSub_nn _ _ | exact part1_le (by omega) (by first | omega | (simp only [List.length_append]; omega)) | decide)⟩⟩⟩, (by first | omega | (rw [adr_eq]; omega) | exact iAnd_nn _ _ | exact iSub_nn _ _ | exact part1_le (by omega) (by first | omega | (simp only [List.length_append]; omega)) | decide)⟩, ⟨(rfl), (by first | omega | (rw [adr_eq]; omega) | exact iAnd_nn _ _ | exact iSub_nn _ _ | exact part1_le (by omega) (by first | omega | (simp only [List.length_append]; omega)) | decide)⟩⟩, trivial⟩, ⟨⟨trivial, trivial⟩, trivial⟩⟩⟩⟩⟩⟩⟩⟩) ?_
    refine Tri.sub (Sub.still (s' := ([(4, .sc (.ro .u8 (part1 ((FwwU32 p0 p2 (IntKind.wrap .u32 ((p3.size : Nat) : Int))) ++ (bytesI p3)) ((p0 + 4) + p3.size) 0 ((p0 + 4) + p3.size))))], [])) 128 (.ints .u8 ((p0 + 4) + p3.size) ((FwwU32 p0 p2 (IntKind.wrap .u32 ((p3.size : Nat) : Int))) ++ (bytesI p3))) (by kernel_rfl) (show 0 + ((p0 + 4) + p3.size) ≤ (p0 + 4) + p3.size from by first | omega | (rw [adr_eq]; omega) | exact iAnd_nn _ _ | exact iSub_nn _ _ | exact part1_le (by omega) (by first | omega | (simp only [List.length_append]; omega)) | decide) (by kernel_rfl)) ?_
    refine Tri.ret ?_
    repeat (first | refine thenP_ret ?_ | refine blkP_ret ?_ | refine countP_ret ?_ | refine joinP_ret ?_ | refine iterP_ret ?_)
    exact endP.ret [] (True ∧ True) (by kernel_rfl) (by kernel_rfl) ⟨trivial, trivial⟩




noncomputable def FwwNames (p0 : Nat) (p2 : List Int) (p3 : List ByteArray) : List Int :=
  (FwwText p0 p2 (joinB p3 (⟨#[44]⟩ : ByteArray)))

noncomputable def FwwNamesn0 (p0 : Nat) (p2 : List Int) (p3 : List ByteArray) : Nat :=
  (p0 + 4) + (joinB p3 (⟨#[44]⟩ : ByteArray)).size

noncomputable def SwwNames : List AV → List Blk → Option (Prop × Ret)
  | [.sc (.sl 0 0 p0 1 none), .sc (.ros p3)], [.ints .u8 p1 p2] => some (((p0 = p1) ∧ (p0 ≤ 1000000000 ∧ p3.length ≤ 1000000000 ∧ (joinB p3 (⟨#[44]⟩ : ByteArray)).size ≤ 1000000000)), ⟨.sc (.sl 1 0 (FwwNamesn0 p0 p2 p3) 1 none), [none, some (.ints .u8 (FwwNamesn0 p0 p2 p3) (FwwNames p0 p2 p3))]⟩)
  | _, _ => none

noncomputable def BwwNames : Bs := { P := Go.Proofs.Try.prog, G := noG, tab := tabOf [⟨13, 80, [.io, .val], [], [0], ⟨1, 1, SwwText⟩⟩, ⟨22, 64, [.ros, .val], [], [], ⟨0, 0, specJoin⟩⟩], n := 9 }

theorem BwwNames.ok : BwwNames.Ok := ⟨tabOk (P := Go.Proofs.Try.prog) (G := noG) (l := [⟨13, 80, [.io, .val], [], [0], ⟨1, 1, SwwText⟩⟩, ⟨22, 64, [.ros, .val], [], [], ⟨0, 0, specJoin⟩⟩]) (And.intro KwwText (And.intro Kjoin True.intro)), mixed⟩

theorem KwwNames : Known Go.Proofs.Try.prog noG 12 ⟨1, 1, SwwNames⟩ := by
  refine Known.walk (B := BwwNames) (fn := Go.Proofs.Try.f12) BwwNames.ok (by kernel_rfl) rfl (by kernel_rfl) (by kernel_rfl) (by decide) (by decide) ?_
  · intro E args ks C r h hC hlen
    simp only at h
    unfold SwwNames at h
    split at h
    rotate_left
    · cases h
    rename_i p0 p3 p1 p2
    cases h
    simp only [lens] at hlen
    have hEp1 := hC.1
    have hC := hC.2
    subst hEp1
    refine ⟨show 2 ≤ 9 from by decide, ?_⟩
    refine Tri.sub (Sub.of_eq (show _ = ([(0, .sc (.sl 0 0 p0 1 none)), (1, .sc (.ros p3))], [(0, .ints .u8 p0 p2)]) from rfl)) ?_
    refine Tri.seq_region [] none [0, 1] [0] ((True ∧ True) ∧ True)
        ([(0, .sc (.sl 0 0 p0 1 none)), (1, .sc (.ros p3))], [(0, .ints .u8 p0 p2)])
        32 (by kernel_rfl) rfl (by kernel_rfl) (⟨⟨trivial, trivial⟩, trivial⟩) ?_
    refine Tri.len 0 rfl (fun hl1 => ?_)
    refine Tri.seq_region [] none [4] [80] ((True ∧ True) ∧ ((True ∧ True) ∧ (((True ∧ (p3.length ≤ 1000000000 ∧ (joinB p3 (⟨#[44]⟩ : ByteArray)).size ≤ 1000000000)) ∧ True) ∧ (((True ∧ ((p0 = p0) ∧ (p0 ≤ 1000000000 ∧ (joinB p3 (⟨#[44]⟩ : ByteArray)).size ≤ 1000000000))) ∧ True) ∧ ((True ∧ True) ∧ True)))))
        ([(4, .sc (.sl 80 0 ((p0 + 4) + (joinB p3 (⟨#[44]⟩ : ByteArray)).size) 1 none))], [(80, .ints .u8 ((p0 + 4) + (joinB p3 (⟨#[44]⟩ : ByteArray)).size) (FwwText p0 p2 (joinB p3 (⟨#[44]⟩ : ByteArray))))])
        112 (by kernel_rfl) rfl (by kernel_rfl) (⟨⟨trivial, trivial⟩, ⟨⟨trivial, trivial⟩, ⟨⟨⟨trivial, (by first | omega | (rw [adr_eq]; omega) | exact iAnd_nn _ _ | exact iSub_nn _ _ | exact part1_le (by omega) (by first | omega | (simp only [List.length_append]; omega)) | decide)⟩, trivial⟩, ⟨⟨⟨trivial, ⟨(rfl), (by first | omega | (rw [adr_eq]; omega) | exact iAnd_nn _ _ | exact iSub_nn _ _ | exact part1_le (by omega) (by first | omega | (simp only [List.length_append]; omega)) | decide)⟩⟩, trivial⟩, ⟨⟨trivial, trivial⟩, trivial⟩⟩⟩⟩⟩) ?_
    refine Tri.ret ?_
    repeat (first | refine thenP_ret ?_ | refine blkP_ret ?_ | refine countP_ret ?_ | refine joinP_ret ?_ | refine iterP_ret ?_)
    exact endP.ret [(80, 1)] (True ∧ True) (by kernel_rfl) (by kernel_rfl) ⟨trivial, trivial⟩




noncomputable def FwwIntl0 (k0 : Nat) (z0 : List Int) : List Int :=
  (z0.drop 1).take (z0.length - 1)

noncomputable def FwwInts0 (p3 : List Int) (k0 : Nat) : Bool :=
  (sel (((itr (FwwIntl0) k0 p3).getD 0 0 : Int) == 0) false true)

noncomputable def FwwInt (p0 : Nat) (p2 : List Int) (p3 : List Int) : List Int :=
  (sel (Nat.blt (fstB (FwwInts0 p3) p3.length) p3.length) (sel (decide (((((itr (FwwIntl0) (fstB (FwwInts0 p3) p3.length) p3).length : Nat) : Int) : Int) > 0)) (sel (decide (((itr (FwwIntl0) (fstB (FwwInts0 p3) p3.length) p3).getD 0 0 : Int) ≥ 128)) (((FwwU32 p0 p2 (IntKind.wrap .u32 ((((itr (FwwIntl0) (fstB (FwwInts0 p3) p3.length) p3).length) + 1 : Nat) : Int))) ++ [0]) ++ (itr (FwwIntl0) (fstB (FwwInts0 p3) p3.length) p3)) ((FwwU32 p0 p2 (IntKind.wrap .u32 (((itr (FwwIntl0) (fstB (FwwInts0 p3) p3.length) p3).length : Nat) : Int))) ++ (itr (FwwIntl0) (fstB (FwwInts0 p3) p3.length) p3))) ((FwwU32 p0 p2 (IntKind.wrap .u32 (((itr (FwwIntl0) (fstB (FwwInts0 p3) p3.length) p3).length : Nat) : Int))) ++ (itr (FwwIntl0) (fstB (FwwInts0 p3) p3.length) p3))) (sel (decide (((((itr (FwwIntl0) p3.length p3).length : Nat) : Int) : Int) > 0)) (sel (decide (((itr (FwwIntl0) p3.length p3).getD 0 0 : Int) ≥ 128)) (((FwwU32 p0 p2 (IntKind.wrap .u32 ((((itr (FwwIntl0) p3.length p3).length) + 1 : Nat) : Int))) ++ [0]) ++ (itr (FwwIntl0) p3.length p3)) ((FwwU32 p0 p2 (IntKind.wrap .u32 (((itr (FwwIntl0) p3.length p3).length : Nat) : Int))) ++ (itr (FwwIntl0) p3.length p3))) ((FwwU32 p0 p2 (IntKind.wrap .u32 (((itr (FwwIntl0) p3.length p3).length : Nat) : Int))) ++ (itr (FwwIntl0) p3.length p3))))

noncomputable def FwwIntn0 (p0 : Nat) (p2 : List Int) (p3 : List Int) : Nat :=
  (sel (Nat.blt (fstB (FwwInts0 p3) p3.length) p3.length) (sel (decide (((((itr (FwwIntl0) (fstB (FwwInts0 p3) p3.length) p3).length : Nat) : Int) : Int) > 0)) (sel (decide (((itr (FwwIntl0) (fstB (FwwInts0 p3) p3.length) p3).getD 0 0 : Int) ≥ 128)) (((p0 + 4) + 1) + ((itr (FwwIntl0) (fstB (FwwInts0 p3) p3.length) p3).length)) ((p0 + 4) + ((itr (FwwIntl0) (fstB (FwwInts0 p3) p3.length) p3).length))) ((p0 + 4) + ((itr (FwwIntl0) (fstB (FwwInts0 p3) p3.length) p3).length))) (sel (decide (((((itr (FwwIntl0) p3.length p3).length : Nat) : Int) : Int) > 0)) (sel (decide (((itr (FwwIntl0) p3.length p3).getD 0 0 : Int) ≥ 128)) (((p0 + 4) + 1) + ((itr (FwwIntl0) p3.length p3).length)) ((p0 + 4) + ((itr (FwwIntl0) p3.length p3).length))) ((p0 + 4) + ((itr (FwwIntl0) p3.length p3).length))))

noncomputable def SwwInt : List AV → List Blk → Option (Prop × Ret)
  | [.sc (.sl 0 0 p0 1 none), .sc (.ro .u8 p3)], [.ints .u8 p1 p2] => some (((p0 = p1) ∧ (p0 ≤ 1000000000 ∧ p3.length ≤ 1000000000)), ⟨.sc (.sl 1 0 (FwwIntn0 p0 p2 p3) 1 none), [none, some (.ints .u8 (FwwIntn0 p0 p2 p3) (FwwInt p0 p2 p3))]⟩)
  | _, _ => none

noncomputable def BwwInt : Bs := { P := Go.Proofs.Try.prog, G := noG, tab := tabOf [⟨10, 384, [.io, .val], [], [0], ⟨1, 1, SwwU32⟩⟩, ⟨10, 400, [.io, .val], [], [0], ⟨1, 1, SwwU32⟩⟩], n := 42 }

theorem BwwInt.ok : BwwInt.Ok := ⟨tabOk (P := Go.Proofs.Try.prog) (G := noG) (l := [⟨10, 384, [.io, .val], [], [0], ⟨1, 1, SwwU32⟩⟩, ⟨10, 400, [.io, .val], [], [0], ⟨1, 1, SwwU32⟩⟩]) (And.intro KwwU32 (And.intro KwwU32 True.intro)), mixed⟩

theorem KwwInt : Known Go.Proofs.Try.prog noG 6 ⟨1, 1, SwwInt⟩ := by
  refine Known.walk (B := BwwInt) (fn := Go.Proofs.Try.f6) BwwInt.ok (by kernel_rfl) rfl (by kernel_rfl) (by kernel_rfl) (by decide) (by decide) ?_
  · intro E args ks C r h hC hlen
    simp only at h
    unfold SwwInt at h
    split at h
    rotate_left
    · cases h
    rename_i p0 p3 p1 p2
    cases h
    simp only [lens] at hlen
    have hEp1 := hC.1
    have hC := hC.2
    subst hEp1
    refine ⟨show 2 ≤ 42 from by decide, ?_⟩
    refine Tri.sub (Sub.of_eq (show _ = ([(0, .sc (.sl 0 0 p0 1 none)), (1, .sc (.ro .u8 p3))], [(0, .ints .u8 p0 p2)]) from rfl)) ?_
    refine Tri.seq_region [] none [0, 1] [0] ((True ∧ True) ∧ True)
        ([(0, .sc (.sl 0 0 p0 1 none)), (1, .sc (.ro .u8 p3))], [(0, .ints .u8 p0 p2)])
        32 (by kernel_rfl) rfl (by kernel_rfl) (⟨⟨trivial, trivial⟩, trivial⟩) ?_
    refine Tri.seq ?_
    refine Tri.block ?_
    refine Tri.count 32 p3.length (FwwIntl0) p3 (fun k0 z0 => z0.length = p3.length - k0 ∧ (∀ j, j < k0 → (FwwInts0 p3) j = false)) (fun k0 z0 => ([(0, .sc (.sl 0 0 p0 1 none)), (1, .sc (.ro .u8 z0))], [(0, .ints .u8 p0 p2)])) (⟨(by omega), (fun j hj => absurd hj (Nat.not_lt_zero j))⟩) (Sub.of_eq (by kernel_rfl)) ?_
    intro k0 z0 hk0 hz0 hJ0
    refine Tri.seq ?_
    refine Tri.split (decide ((((z0.length : Nat) : Int) : Int) > 0)) (fun h1 => ?_) (fun h1 => ?_)
    ·
      have h1' := of_decide_eq_true h1
      refine Tri.len 0 rfl (fun hl2 => ?_)
      refine Tri.seq_region [(8, qb true)] none [13, 0, 1] [0] ((True ∧ True) ∧ ((True ∧ True) ∧ ((True ∧ True) ∧ ((True ∧ ((decide ((((z0.length : Nat) : Int) : Int) > 0)) = true)) ∧ ((True ∧ True) ∧ ((((0 : Int) ≤ 0 ∧ 0 < (z0.length : Int)) ∧ True) ∧ (((0 < z0.length) ∧ True) ∧ ((True ∧ True) ∧ ((True ∧ True) ∧ True)))))))))
          ([(13, .sc (.b ((z0.getD 0 0 : Int) == 0))), (0, .sc (.sl 0 0 p0 1 none)), (1, .sc (.ro .u8 z0))], [(0, .ints .u8 p0 p2)])
          176 (by kernel_rfl) rfl (by kernel_rfl) (⟨⟨trivial, trivial⟩, ⟨⟨trivial, trivial⟩, ⟨⟨trivial, trivial⟩, ⟨⟨trivial, (h1)⟩, ⟨⟨trivial, trivial⟩, ⟨⟨(by first | omega | (rw [adr_eq]; omega) | exact iAnd_nn _ _ | exact iSub_nn _ _ | exact part1_le (by omega) (by first | omega | (simp only [List.length_append]; omega)) | decide), trivial⟩, ⟨⟨(by first | omega | (rw [adr_eq]; omega) | exact iAnd_nn _ _ | exact iSub_nn _ _ | exact part1_le (by omega) (by first | omega | (simp only [List.length_append]; omega)) | decide), trivial⟩, ⟨⟨trivial, trivial⟩, ⟨⟨trivial, trivial⟩, trivial⟩⟩⟩⟩⟩⟩⟩⟩⟩) ?_
      refine Tri.cond (x := ((z0.getD 0 0 : Int) == 0)) (by kernel_rfl) (fun h3 => ?_) (fun h3 => ?_)
      ·
        have h3' := eq_true_i h3
        refine Tri.skip ?_
        change Tri _ _ _ _ _ _
        refine Tri.block ?_
        refine Tri.len 0 rfl (fun hl4 => ?_)
        refine Tri.region' [] none [1, 0] [0] ((True ∧ True) ∧ ((((0 : Int) ≤ 1 ∧ (1 : Int) ≤ ((z0.length : Nat) : Int) ∧ ((z0.length : Nat) : Int) ≤ (z0.length : Int)) ∧ True) ∧ ((True ∧ True) ∧ True)))
            ([(1, .sc (.ro .u8 ((z0.drop 1).take (z0.length - 1)))), (0, .sc (.sl 0 0 p0 1 none))], [(0, .ints .u8 p0 p2)])
            224 (by kernel_rfl) rfl (by kernel_rfl) (⟨⟨trivial, trivial⟩, ⟨⟨(by first | omega | (rw [adr_eq]; omega) | exact iAnd_nn _ _ | exact iSub_nn _ _ | exact part1_le (by omega) (by first | omega | (simp only [List.length_append]; omega)) | decide), trivial⟩, ⟨⟨trivial, trivial⟩, trivial⟩⟩⟩) ?_
        repeat (refine blkP_normal ?_)
        refine countP_normal (by have := of_decide_eq_true h1; omega) (⟨(show ((z0.drop 1).take (z0.length - 1)).length = p3.length - (k0 + 1) by simp only [List.length_take, List.length_drop]; omega), (below_succ hJ0.2 (by subst hz0; simp only [FwwInts0, h1, h3, sel_true, sel_false]))⟩) ?_
        exact Sub.ren (ns := [(0, 0)]) (kf := [0, 1]) (by kernel_rfl) (by kernel_rfl)
      ·
        have h3' := eq_false_i h3
        refine Tri.exit ?_
        subst hz0
        have hf0 : fstB (FwwInts0 p3) p3.length = k0 := fst_found (by omega) hJ0.2 (by simp only [FwwInts0, h1, h3, sel_true, sel_false])
        have hb0 : Nat.blt k0 p3.length = true := blt_true (by omega)
        have hq0 : Nat.blt (fstB (FwwInts0 p3) p3.length) p3.length = true := by rw [hf0]; exact hb0
        change Tri _ _ _ _ _ _
        refine Tri.seq ?_
        refine Tri.split (decide (((((itr (FwwIntl0) k0 p3).length : Nat) : Int) : Int) > 0)) (fun h5 => ?_) (fun h5 => ?_)
        ·
          have h5' := of_decide_eq_true h5
          refine Tri.len 0 rfl (fun hl6 => ?_)
          refine Tri.seq_region [(19, qb true)] none [24, 0, 1] [0] ((True ∧ True) ∧ ((True ∧ True) ∧ ((True ∧ True) ∧ ((True ∧ ((decide (((((itr (FwwIntl0) k0 p3).length : Nat) : Int) : Int) > 0)) = true)) ∧ ((True ∧ True) ∧ ((((0 : Int) ≤ 0 ∧ 0 < ((itr (FwwIntl0) k0 p3).length : Int)) ∧ True) ∧ (((0 < (itr (FwwIntl0) k0 p3).length) ∧ True) ∧ ((True ∧ True) ∧ ((True ∧ True) ∧ True)))))))))
              ([(24, .sc (.b (decide (((itr (FwwIntl0) k0 p3).getD 0 0 : Int) ≥ 128)))), (0, .sc (.sl 0 0 p0 1 none)), (1, .sc (.ro .u8 (itr (FwwIntl0) k0 p3)))], [(0, .ints .u8 p0 p2)])
              320 (by kernel_rfl) rfl (by kernel_rfl) (⟨⟨trivial, trivial⟩, ⟨⟨trivial, trivial⟩, ⟨⟨trivial, trivial⟩, ⟨⟨trivial, (h5)⟩, ⟨⟨trivial, trivial⟩, ⟨⟨(by first | omega | (rw [adr_eq]; omega) | exact iAnd_nn _ _ | exact iSub_nn _ _ | exact part1_le (by omega) (by first | omega | (simp only [List.length_append]; omega)) | decide), trivial⟩, ⟨⟨(by first | omega | (rw [adr_eq]; omega) | exact iAnd_nn _ _ | exact iSub_nn _ _ | exact part1_le (by omega) (by first | omega | (simp only [List.length_append]; omega)) | decide), trivial⟩, ⟨⟨trivial, trivial⟩, ⟨⟨trivial, trivial⟩, trivial⟩⟩⟩⟩⟩⟩⟩⟩⟩) ?_
          refine Tri.cond (x := (decide (((itr (FwwIntl0) k0 p3).getD 0 0 : Int) ≥ 128))) (by kernel_rfl) (fun h7 => ?_) (fun h7 => ?_)
          ·
            have h7' := of_decide_eq_true h7
            refine Tri.len 0 rfl (fun hl8 => ?_)
            refine Tri.seq_region [(28, qi ((((itr (FwwIntl0) k0 p3).length) + 1 : Nat) : Int))] none [4] [464] ((True ∧ True) ∧ ((True ∧ True) ∧ ((True ∧ True) ∧ ((True ∧ ((iAdd .i64 (((itr (FwwIntl0) k0 p3).length : Nat) : Int) 1) = ((((itr (FwwIntl0) k0 p3).length) + 1 : Nat) : Int))) ∧ ((True ∧ True) ∧ (((True ∧ ((p0 = p0) ∧ (p0 ≤ 1000000000))) ∧ True) ∧ ((((((0 < 1) ∧ (1 = 1)) ∧ True) ∧ ((1 * 1 ≤ 16777216) ∧ (1 = 1))) ∧ True) ∧ ((((((True ∧ (1 = 1)) ∧ ((0 < 1) ∧ ((((p0 + 4) + 1) * 1 ≤ 140737488355328) ∧ ((p0 + 4) + 1 ≤ 140737488355328)))) ∧ (1 = 1 * 1)) ∧ ((1 = 1) ∧ (0 + (p0 + 4) * 1 = p0 + 4))) ∧ True) ∧ ((True ∧ True) ∧ ((((((True ∧ (1 = 1)) ∧ ((0 < 1) ∧ (((((p0 + 4) + 1) + ((itr (FwwIntl0) k0 p3).length)) * 1 ≤ 140737488355328) ∧ (((p0 + 4) + 1) + ((itr (FwwIntl0) k0 p3).length) ≤ 140737488355328)))) ∧ ((itr (FwwIntl0) k0 p3).length = ((itr (FwwIntl0) k0 p3).length) * 1)) ∧ ((1 = 1) ∧ (0 + ((p0 + 4) + 1) * 1 = (p0 + 4) + 1))) ∧ True) ∧ ((True ∧ True) ∧ True)))))))))))
                ([(4, .sc (.sl 464 0 (((p0 + 4) + 1) + ((itr (FwwIntl0) k0 p3).length)) 1 none))], [(464, .ints .u8 (((p0 + 4) + 1) + ((itr (FwwIntl0) k0 p3).length)) (((FwwU32 p0 p2 (IntKind.wrap .u32 ((((itr (FwwIntl0) k0 p3).length) + 1 : Nat) : Int))) ++ [0]) ++ (itr (FwwIntl0) k0 p3)))])
                496 (by kernel_rfl) rfl (by kernel_rfl) (⟨⟨trivial, trivial⟩, ⟨⟨trivial, trivial⟩, ⟨⟨trivial, trivial⟩, ⟨⟨trivial, (iAdd_nat (a := (itr (FwwIntl0) k0 p3).length) (b := 1) (by omega))⟩, ⟨⟨trivial, trivial⟩, ⟨⟨⟨trivial, ⟨(rfl), (by first | omega | (rw [adr_eq]; omega) | exact iAnd_nn _ _ | exact iSub_nn _ _ | exact part1_le (by omega) (by first | omega | (simp only [List.length_append]; omega)) | decide)⟩⟩, trivial⟩, ⟨⟨⟨⟨⟨(by first | omega | (rw [adr_eq]; omega) | exact iAnd_nn _ _ | exact iSub_nn _ _ | exact part1_le (by omega) (by first | omega | (simp only [List.length_append]; omega)) | decide), (rfl)⟩, trivial⟩, ⟨(by first | omega | (rw [adr_eq]; omega) | exact iAnd_nn _ _ | exact iSub_nn _ _ | exact part1_le (by omega) (by first | omega | (simp only [List.length_append]; omega)) | decide), (rfl)⟩⟩, trivial⟩, ⟨⟨⟨⟨⟨⟨trivial, (rfl)⟩, ⟨(by first | omega | (rw [adr_eq]; omega) | exact iAnd_nn _ _ | exact iSub_nn _ _ | exact part1_le (by omega) (by first | omega | (simp only [List.length_append]; omega)) | decide), ⟨(by first | omega | (rw [adr_eq]; omega) | exact iAnd_nn _ _ | exact iSub_nn _ _ | exact part1_le (by omega) (by first | omega | (simp only [List.length_append]; omega)) | decide), (by first | omega | (rw [adr_eq]; omega) | exact iAnd_nn _ _ | exact iSub_nn _ _ | exact part1_le (by omega) (by first | omega | (simp only [List.length_append]; omega)) | decide)⟩⟩⟩, (by first | omega | (rw [adr_eq]; omega) | exact iAnd_nn _ _ | exact iSub_nn _ _ | exact part1_le (by omega) (by first | omega | (simp only [List.length_append]; omega)) | decide)⟩, ⟨(rfl), (by first | omega | (rw [adr_eq]; omega) | exact iAnd_nn _ _ | exact iSub_nn _ _ | exact part1_le (by omega) (by first | omega | (simp only [List.length_append]; omega)) | decide)⟩⟩, trivial⟩, ⟨⟨trivial, trivial⟩, ⟨⟨⟨⟨⟨⟨trivial, (rfl)⟩, ⟨(by first | omega | (rw [adr_eq]; omega) | exact iAnd_nn _ _ | exact iSub_nn _ _ | exact part1_le (by omega) (by first | omega | (simp only [List.length_append]; omega)) | decide), ⟨(by first | omega | (rw [adr_eq]; omega) | exact iAnd_nn _ _ | exact iSub_nn _ _ | exact part1_le (by omega) (by first | omega | (simp only [List.length_append]; omega)) | decide), (by first | omega | (rw [adr_eq]; omega) | exact iAnd_nn _ _ | exact iSub_nn _ _ | exact part1_le (by omega) (by first | omega | (simp only [List.length_append]; omega)) | decide)⟩⟩⟩, (by first | omega | (rw [adr_eq]; omega) | exact iAnd_nn _ _ | exact iSub_nn _ _ | exact part1_le (by omega) (by first | omega | (simp only [List.length_append]; omega)) | decide)⟩, ⟨(rfl), (by first | omega | (rw [adr_eq]; omega) | exact iAnd_nn _ _ | exact iSub_nn _ _ | exact part1_le (by omega) (by first | omega | (simp only [List.length_append]; omega)) | decide)⟩⟩, trivial⟩, ⟨⟨trivial, trivial⟩, trivial⟩⟩⟩⟩⟩⟩⟩⟩⟩⟩⟩) ?_
            refine Tri.ret ?_
            repeat (first | refine thenP_ret ?_ | refine blkP_ret ?_ | refine countP_ret ?_ | refine joinP_ret ?_ | refine iterP_ret ?_)
            refine endP.conv (r' := ⟨.sc (.sl 1 0 (((p0 + 4) + 1) + ((itr (FwwIntl0) k0 p3).length)) 1 none), [none, some (.ints .u8 (((p0 + 4) + 1) + ((itr (FwwIntl0) k0 p3).length)) (((FwwU32 p0 p2 (IntKind.wrap .u32 ((((itr (FwwIntl0) k0 p3).length) + 1 : Nat) : Int))) ++ [0]) ++ (itr (FwwIntl0) k0 p3)))]⟩) (by simp only [FwwInt, FwwIntn0, hq0, hf0, hb0, h5, h7, sel_true, sel_false]) ?_
            exact endP.ret [(464, 1)] (True ∧ True) (by kernel_rfl) (by kernel_rfl) ⟨trivial, trivial⟩
          ·
            have h7' := of_decide_eq_false h7
            refine Tri.skip ?_
            change Tri _ _ _ _ _ _
            refine Tri.len 0 rfl (fun hl9 => ?_)
            refine Tri.seq_region [] none [4] [416] ((True ∧ True) ∧ ((True ∧ True) ∧ ((True ∧ True) ∧ ((True ∧ True) ∧ (((True ∧ ((p0 = p0) ∧ (p0 ≤ 1000000000))) ∧ True) ∧ ((True ∧ True) ∧ ((((((True ∧ (1 = 1)) ∧ ((0 < 1) ∧ ((((p0 + 4) + ((itr (FwwIntl0) k0 p3).length)) * 1 ≤ 140737488355328) ∧ ((p0 + 4) + ((itr (FwwIntl0) k0 p3).length) ≤ 140737488355328)))) ∧ ((itr (FwwIntl0) k0 p3).length = ((itr (FwwIntl0) k0 p3).length) * 1)) ∧ ((1 = 1) ∧ (0 + (p0 + 4) * 1 = p0 + 4))) ∧ True) ∧ ((True ∧ True) ∧ True))))))))
                ([(4, .sc (.sl 416 0 ((p0 + 4) + ((itr (FwwIntl0) k0 p3).length)) 1 none))], [(416, .ints .u8 ((p0 + 4) + ((itr (FwwIntl0) k0 p3).length)) ((FwwU32 p0 p2 (IntKind.wrap .u32 (((itr (FwwIntl0) k0 p3).length : Nat) : Int))) ++ (itr (FwwIntl0) k0 p3)))])
                448 (by kernel_rfl) rfl (by kernel_rfl) (⟨⟨trivial, trivial⟩, ⟨⟨trivial, trivial⟩, ⟨⟨trivial, trivial⟩, ⟨⟨trivial, trivial⟩, ⟨⟨⟨trivial, ⟨(rfl), (by first | omega | (rw [adr_eq]; omega) | exact iAnd_nn _ _ | exact iSub_nn _ _ | exact part1_le (by omega) (by first | omega | (simp only [List.length_append]; omega)) | decide)⟩⟩, trivial⟩, ⟨⟨trivial, trivial⟩, ⟨⟨⟨⟨⟨⟨trivial, (rfl)⟩, ⟨(by first | omega | (rw [adr_eq]; omega) | exact iAnd_nn _ _ | exact iSub_nn _ _ | exact part1_le (by omega) (by first | omega | (simp only [List.length_append]; omega)) | decide), ⟨(by first | omega | (rw [adr_eq]; omega) | exact iAnd_nn _ _ | exact iSub_nn _ _ | exact part1_le (by omega) (by first | omega | (simp only [List.length_append]; omega)) | decide), (by first | omega | (rw [adr_eq]; omega) | exact iAnd_nn _ _ | exact iSub_nn _ _ | exact part1_le (by omega) (by first | omega | (simp only [List.length_append]; omega)) | decide)⟩⟩⟩, (by first | omega | (rw [adr_eq]; omega) | exact iAnd_nn _ _ | exact iSub_nn _ _ | exact part1_le (by omega) (by first | omega | (simp only [List.length_append]; omega)) | decide)⟩, ⟨(rfl), (by first | omega | (rw [adr_eq]; omega) | exact iAnd_nn _ _ | exact iSub_nn _ _ | exact part1_le (by omega) (by first | omega | (simp only [List.length_append]; omega)) | decide)⟩⟩, trivial⟩, ⟨⟨trivial, trivial⟩, trivial⟩⟩⟩⟩⟩⟩⟩⟩) ?_
            refine Tri.ret ?_
            repeat (first | refine thenP_ret ?_ | refine blkP_ret ?_ | refine countP_ret ?_ | refine joinP_ret ?_ | refine iterP_ret ?_)
            refine endP.conv (r' := ⟨.sc (.sl 1 0 ((p0 + 4) + ((itr (FwwIntl0) k0 p3).length)) 1 none), [none, some (.ints .u8 ((p0 + 4) + ((itr (FwwIntl0) k0 p3).length)) ((FwwU32 p0 p2 (IntKind.wrap .u32 (((itr (FwwIntl0) k0 p3).length : Nat) : Int))) ++ (itr (FwwIntl0) k0 p3)))]⟩) (by simp only [FwwInt, FwwIntn0, hq0, hf0, hb0, h5, h7, sel_true, sel_false]) ?_
            exact endP.ret [(416, 1)] (True ∧ True) (by kernel_rfl) (by kernel_rfl) ⟨trivial, trivial⟩
        ·
          have h5' := of_decide_eq_false h5
          refine Tri.seq_region [(19, qb false)] none [24, 0, 1] [0] ((True ∧ True) ∧ ((True ∧ True) ∧ ((True ∧ True) ∧ ((True ∧ ((decide (((((itr (FwwIntl0) k0 p3).length : Nat) : Int) : Int) > 0)) = false)) ∧ ((True ∧ True) ∧ ((True ∧ True) ∧ ((True ∧ True) ∧ ((True ∧ True) ∧ ((True ∧ True) ∧ True)))))))))
              ([(24, .sc (.b false)), (0, .sc (.sl 0 0 p0 1 none)), (1, .sc (.ro .u8 (itr (FwwIntl0) k0 p3)))], [(0, .ints .u8 p0 p2)])
              320 (by kernel_rfl) rfl (by kernel_rfl) (⟨⟨trivial, trivial⟩, ⟨⟨trivial, trivial⟩, ⟨⟨trivial, trivial⟩, ⟨⟨trivial, (h5)⟩, ⟨⟨trivial, trivial⟩, ⟨⟨trivial, trivial⟩, ⟨⟨trivial, trivial⟩, ⟨⟨trivial, trivial⟩, ⟨⟨trivial, trivial⟩, trivial⟩⟩⟩⟩⟩⟩⟩⟩⟩) ?_
          refine Tri.cond_false (by kernel_rfl) ?_
          refine Tri.skip ?_
          change Tri _ _ _ _ _ _
          refine Tri.len 0 rfl (fun hl10 => ?_)
          refine Tri.seq_region [] none [4] [416] ((True ∧ True) ∧ ((True ∧ True) ∧ ((True ∧ True) ∧ ((True ∧ True) ∧ (((True ∧ ((p0 = p0) ∧ (p0 ≤ 1000000000))) ∧ True) ∧ ((True ∧ True) ∧ ((((((True ∧ (1 = 1)) ∧ ((0 < 1) ∧ ((((p0 + 4) + ((itr (FwwIntl0) k0 p3).length)) * 1 ≤ 140737488355328) ∧ ((p0 + 4) + ((itr (FwwIntl0) k0 p3).length) ≤ 140737488355328)))) ∧ ((itr (FwwIntl0) k0 p3).length = ((itr (FwwIntl0) k0 p3).length) * 1)) ∧ ((1 = 1) ∧ (0 + (p0 + 4) * 1 = p0 + 4))) ∧ True) ∧ ((True ∧ True) ∧ True))))))))
              ([(4, .sc (.sl 416 0 ((p0 + 4) + ((itr (FwwIntl0) k0 p3).length)) 1 none))], [(416, .ints .u8 ((p0 + 4) + ((itr (FwwIntl0) k0 p3).length)) ((FwwU32 p0 p2 (IntKind.wrap .u32 (((itr (FwwIntl0) k0 p3).length : Nat) : Int))) ++ (itr (FwwIntl0) k0 p3)))])
              448 (by kernel_rfl) rfl (by kernel_rfl) (⟨⟨trivial, trivial⟩, ⟨⟨trivial, trivial⟩, ⟨⟨trivial, trivial⟩, ⟨⟨trivial, trivial⟩, ⟨⟨⟨trivial, ⟨(rfl), (by first | omega | (rw [adr_eq]; omega) | exact iAnd_nn _ _ | exact iSub_nn _ _ | exact part1_le (by omega) (by first | omega | (simp only [List.length_append]; omega)) | decide)⟩⟩, trivial⟩, ⟨⟨trivial, trivial⟩, ⟨⟨⟨⟨⟨⟨trivial, (rfl)⟩, ⟨(by first | omega | (rw [adr_eq]; omega) | exact iAnd_nn _ _ | exact iSub_nn _ _ | exact part1_le (by omega) (by first | omega | (simp only [List.length_append]; omega)) | decide), ⟨(by first | omega | (rw [adr_eq]; omega) | exact iAnd_nn _ _ | exact iSub_nn _ _ | exact part1_le (by omega) (by first | omega | (simp only [List.length_append]; omega)) | decide), (by first | omega | (rw [adr_eq]; omega) | exact iAnd_nn _ _ | exact iSub_nn _ _ | exact part1_le (by omega) (by first | omega | (simp only [List.length_append]; omega)) | decide)⟩⟩⟩, (by first | omega | (rw [adr_eq]; omega) | exact iAnd_nn _ _ | exact iSub_nn _ _ | exact part1_le (by omega) (by first | omega | (simp only [List.length_append]; omega)) | decide)⟩, ⟨(rfl), (by first | omega | (rw [adr_eq]; omega) | exact iAnd_nn _ _ | exact iSub_nn _ _ | exact part1_le (by omega) (by first | omega | (simp only [List.length_append]; omega)) | decide)⟩⟩, trivial⟩, ⟨⟨trivial, trivial⟩, trivial⟩⟩⟩⟩⟩⟩⟩⟩) ?_
          refine Tri.ret ?_
          repeat (first | refine thenP_ret ?_ | refine blkP_ret ?_ | refine countP_ret ?_ | refine joinP_ret ?_ | refine iterP_ret ?_)
          refine endP.conv (r' := ⟨.sc (.sl 1 0 ((p0 + 4) + ((itr (FwwIntl0) k0 p3).length)) 1 none), [none, some (.ints .u8 ((p0 + 4) + ((itr (FwwIntl0) k0 p3).length)) ((FwwU32 p0 p2 (IntKind.wrap .u32 (((itr (FwwIntl0) k0 p3).length : Nat) : Int))) ++ (itr (FwwIntl0) k0 p3)))]⟩) (by simp only [FwwInt, FwwIntn0, hq0, hf0, hb0, h5, sel_true, sel_false]) ?_
          exact endP.ret [(416, 1)] (True ∧ True) (by kernel_rfl) (by kernel_rfl) ⟨trivial, trivial⟩
    ·
      have h1' := of_decide_eq_false h1
      refine Tri.seq_region [(8, qb false)] none [13, 0, 1] [0] ((True ∧ True) ∧ ((True ∧ True) ∧ ((True ∧ True) ∧ ((True ∧ ((decide ((((z0.length : Nat) : Int) : Int) > 0)) = false)) ∧ ((True ∧ True) ∧ ((True ∧ True) ∧ ((True ∧ True) ∧ ((True ∧ True) ∧ ((True ∧ True) ∧ True)))))))))
          ([(13, .sc (.b false)), (0, .sc (.sl 0 0 p0 1 none)), (1, .sc (.ro .u8 z0))], [(0, .ints .u8 p0 p2)])
          176 (by kernel_rfl) rfl (by kernel_rfl) (⟨⟨trivial, trivial⟩, ⟨⟨trivial, trivial⟩, ⟨⟨trivial, trivial⟩, ⟨⟨trivial, (h1)⟩, ⟨⟨trivial, trivial⟩, ⟨⟨trivial, trivial⟩, ⟨⟨trivial, trivial⟩, ⟨⟨trivial, trivial⟩, ⟨⟨trivial, trivial⟩, trivial⟩⟩⟩⟩⟩⟩⟩⟩⟩) ?_
      refine Tri.cond_false (by kernel_rfl) ?_
      refine Tri.exit ?_
      have hend0 : k0 = p3.length := by (have := of_decide_eq_false h1; omega)
      subst hend0; subst hz0
      have hf0 : fstB (FwwInts0 p3) p3.length = p3.length := fst_none hJ0.2
      have hb0 : Nat.blt p3.length p3.length = false := blt_self _
      have hq0 : Nat.blt (fstB (FwwInts0 p3) p3.length) p3.length = false := by rw [hf0]; exact hb0
      change Tri _ _ _ _ _ _
      refine Tri.seq ?_
      refine Tri.split (decide (((((itr (FwwIntl0) p3.length p3).length : Nat) : Int) : Int) > 0)) (fun h11 => ?_) (fun h11 => ?_)
      ·
        have h11' := of_decide_eq_true h11
        refine Tri.len 0 rfl (fun hl12 => ?_)
        refine Tri.seq_region [(19, qb true)] none [24, 0, 1] [0] ((True ∧ True) ∧ ((True ∧ True) ∧ ((True ∧ True) ∧ ((True ∧ ((decide (((((itr (FwwIntl0) p3.length p3).length : Nat) : Int) : Int) > 0)) = true)) ∧ ((True ∧ True) ∧ ((((0 : Int) ≤ 0 ∧ 0 < ((itr (FwwIntl0) p3.length p3).length : Int)) ∧ True) ∧ (((0 < (itr (FwwIntl0) p3.length p3).length) ∧ True) ∧ ((True ∧ True) ∧ ((True ∧ True) ∧ True)))))))))
            ([(24, .sc (.b (decide (((itr (FwwIntl0) p3.length p3).getD 0 0 : Int) ≥ 128)))), (0, .sc (.sl 0 0 p0 1 none)), (1, .sc (.ro .u8 (itr (FwwIntl0) p3.length p3)))], [(0, .ints .u8 p0 p2)])
            320 (by kernel_rfl) rfl (by kernel_rfl) (⟨⟨trivial, trivial⟩, ⟨⟨trivial, trivial⟩, ⟨⟨trivial, trivial⟩, ⟨⟨trivial, (h11)⟩, ⟨⟨trivial, trivial⟩, ⟨⟨(by first | omega | (rw [adr_eq]; omega) | exact iAnd_nn _ _ | exact iSub_nn _ _ | exact part1_le (by omega) (by first | omega | (simp only [List.length_append]; omega)) | decide), trivial⟩, ⟨⟨(by first | omega | (rw [adr_eq]; omega) | exact iAnd_nn _ _ | exact iSub_nn _ _ | exact part1_le (by omega) (by first | omega | (simp only [List.length_append]; omega)) | decide), trivial⟩, ⟨⟨trivial, trivial⟩, ⟨⟨trivial, trivial⟩, trivial⟩⟩⟩⟩⟩⟩⟩⟩⟩) ?_
        refine Tri.cond (x := (decide (((itr (FwwIntl0) p3.length p3).getD 0 0 : Int) ≥ 128))) (by kernel_rfl) (fun h13 => ?_) (fun h13 => ?_)
        ·
          have h13' := of_decide_eq_true h13
          refine Tri.len 0 rfl (fun hl14 => ?_)
          refine Tri.seq_region [(28, qi ((((itr (FwwIntl0) p3.length p3).length) + 1 : Nat) : Int))] none [4] [464] ((True ∧ True) ∧ ((True ∧ True) ∧ ((True ∧ True) ∧ ((True ∧ ((iAdd .i64 (((itr (FwwIntl0) p3.length p3).length : Nat) : Int) 1) = ((((itr (FwwIntl0) p3.length p3).length) + 1 : Nat) : Int))) ∧ ((True ∧ True) ∧ (((True ∧ ((p0 = p0) ∧ (p0 ≤ 1000000000))) ∧ True) ∧ ((((((0 < 1) ∧ (1 = 1)) ∧ True) ∧ ((1 * 1 ≤ 16777216) ∧ (1 = 1))) ∧ True) ∧ ((((((True ∧ (1 = 1)) ∧ ((0 < 1) ∧ ((((p0 + 4) + 1) * 1 ≤ 140737488355328) ∧ ((p0 + 4) + 1 ≤ 140737488355328)))) ∧ (1 = 1 * 1)) ∧ ((1 = 1) ∧ (0 + (p0 + 4) * 1 = p0 + 4))) ∧ True) ∧ ((True ∧ True) ∧ ((((((True ∧ (1 = 1)) ∧ ((0 < 1) ∧ (((((p0 + 4) + 1) + ((itr (FwwIntl0) p3.length p3).length)) * 1 ≤ 140737488355328) ∧ (((p0 + 4) + 1) + ((itr (FwwIntl0) p3.length p3).length) ≤ 140737488355328)))) ∧ ((itr (FwwIntl0) p3.length p3).length = ((itr (FwwIntl0) p3.length p3).length) * 1)) ∧ ((1 = 1) ∧ (0 + ((p0 + 4) + 1) * 1 = (p0 + 4) + 1))) ∧ True) ∧ ((True ∧ True) ∧ True)))))))))))
              ([(4, .sc (.sl 464 0 (((p0 + 4) + 1) + ((itr (FwwIntl0) p3.length p3).length)) 1 none))], [(464, .ints .u8 (((p0 + 4) + 1) + ((itr (FwwIntl0) p3.length p3).length)) (((FwwU32 p0 p2 (IntKind.wrap .u32 ((((itr (FwwIntl0) p3.length p3).length) + 1 : Nat) : Int))) ++ [0]) ++ (itr (FwwIntl0) p3.length p3)))])
              496 (by kernel_rfl) rfl (by kernel_rfl) (⟨⟨trivial, trivial⟩, ⟨⟨trivial, trivial⟩, ⟨⟨trivial, trivial⟩, ⟨⟨trivial, (iAdd_nat (a := (itr (FwwIntl0) p3.length p3).length) (b := 1) (by omega))⟩, ⟨⟨trivial, trivial⟩, ⟨⟨⟨trivial, ⟨(rfl), (by first | omega | (rw [adr_eq]; omega) | exact iAnd_nn _ _ | exact iSub_nn _ _ | exact part1_le (by omega) (by first | omega | (simp only [List.length_append]; omega)) | decide)⟩⟩, trivial⟩, ⟨⟨⟨⟨⟨(by first | omega | (rw [adr_eq]; omega) | exact iAnd_nn _ _ | exact iSub_nn _ _ | exact part1_le (by omega) (by first | omega | (simp only [List.length_append]; omega)) | decide), (rfl)⟩, trivial⟩, ⟨(by first | omega | (rw [adr_eq]; omega) | exact iAnd_nn _ _ | exact iSub_nn _ _ | exact part1_le (by omega) (by first | omega | (simp only [List.length_append]; omega)) | decide), (rfl)⟩⟩, trivial⟩, ⟨⟨⟨⟨⟨⟨trivial, (rfl)⟩, ⟨(by first | omega | (rw [adr_eq]; omega) | exact iAnd_nn _ _ | exact iSub_nn _ _ | exact part1_le (by omega) (by first | omega | (simp only [List.length_append]; omega)) | decide), ⟨(by first | omega | (rw [adr_eq]; omega) | exact iAnd_nn _ _ | exact iSub_nn _ _ | exact part1_le (by omega) (by first | omega | (simp only [List.length_append]; omega)) | decide), (by first | omega | (rw [adr_eq]; omega) | exact iAnd_nn _ _ | exact iSub_nn _ _ | exact part1_le (by omega) (by first | omega | (simp only [List.length_append]; omega)) | decide)⟩⟩⟩, (by first | omega | (rw [adr_eq]; omega) | exact iAnd_nn _ _ | exact iSub_nn _ _ | exact part1_le (by omega) (by first | omega | (simp only [List.length_append]; omega)) | decide)⟩, ⟨(rfl), (by first | omega | (rw [adr_eq]; omega) | exact iAnd_nn _ _ | exact iSub_nn _ _ | exact part1_le (by omega) (by first | omega | (simp only [List.length_append]; omega)) | decide)⟩⟩, trivial⟩, ⟨⟨trivial, trivial⟩, ⟨⟨⟨⟨⟨⟨trivial, (rfl)⟩, ⟨(by first | omega | (rw [adr_eq]; omega) | exact iAnd_nn _ _ | exact iSub_nn _ _ | exact part1_le (by omega) (by first | omega | (simp only [List.length_append]; omega)) | decide), ⟨(by first | omega | (rw [adr_eq]; omega) | exact iAnd_nn _ _ | exact iSub_nn _ _ | exact part1_le (by omega) (by first | omega | (simp only [List.length_append]; omega)) | decide), (by first | omega | (rw [adr_eq]; omega) | exact iAnd_nn _ _ | exact iSub_nn _ _ | exact part1_le (by omega) (by first | omega | (simp only [List.length_append]; omega)) | decide)⟩⟩⟩, (by first | omega | (rw [adr_eq]; omega) | exact iAnd_nn _ _ | exact iSub_nn _ _ | exact part1_le (by omega) (by first | omega | (simp only [List.length_append]; omega)) | decide)⟩, ⟨(rfl), (by first | omega | (rw [adr_eq]; omega) | exact iAnd_nn _ _ | exact iSub_nn _ _ | exact part1_le (by omega) (by first | omega | (simp only [List.length_append]; omega)) | decide)⟩⟩, trivial⟩, ⟨⟨trivial, trivial⟩, trivial⟩⟩⟩⟩⟩⟩⟩⟩⟩⟩⟩) ?_
          refine Tri.ret ?_
          repeat (first | refine thenP_ret ?_ | refine blkP_ret ?_ | refine countP_ret ?_ | refine joinP_ret ?_ | refine iterP_ret ?_)
          refine endP.conv (r' := ⟨.sc (.sl 1 0 (((p0 + 4) + 1) + ((itr (FwwIntl0) p3.length p3).length)) 1 none), [none, some (.ints .u8 (((p0 + 4) + 1) + ((itr (FwwIntl0) p3.length p3).length)) (((FwwU32 p0 p2 (IntKind.wrap .u32 ((((itr (FwwIntl0) p3.length p3).length) + 1 : Nat) : Int))) ++ [0]) ++ (itr (FwwIntl0) p3.length p3)))]⟩) (by simp only [FwwInt, FwwIntn0, hq0, hf0, hb0, h11, h13, sel_true, sel_false]) ?_
          exact endP.ret [(464, 1)] (True ∧ True) (by kernel_rfl) (by kernel_rfl) ⟨trivial, trivial⟩
        ·
          have h13' := of_decide_eq_false h13
          refine Tri.skip ?_
          change Tri _ _ _ _ _ _
          refine Tri.len 0 rfl (fun hl15 => ?_)
          refine Tri.seq_region [] none [4] [416] ((True ∧ True) ∧ ((True ∧ True) ∧ ((True ∧ True) ∧ ((True ∧ True) ∧ (((True ∧ ((p0 = p0) ∧ (p0 ≤ 1000000000))) ∧ True) ∧ ((True ∧ True) ∧ ((((((True ∧ (1 = 1)) ∧ ((0 < 1) ∧ ((((p0 + 4) + ((itr (FwwIntl0) p3.length p3).length)) * 1 ≤ 140737488355328) ∧ ((p0 + 4) + ((itr (FwwIntl0) p3.length p3).length) ≤ 140737488355328)))) ∧ ((itr (FwwIntl0) p3.length p3).length = ((itr (FwwIntl0) p3.length p3).length) * 1)) ∧ ((1 = 1) ∧ (0 + (p0 + 4) * 1 = p0 + 4))) ∧ True) ∧ ((True ∧ True) ∧ True))))))))
              ([(4, .sc (.sl 416 0 ((p0 + 4) + ((itr (FwwIntl0) p3.length p3).length)) 1 none))], [(416, .ints .u8 ((p0 + 4) + ((itr (FwwIntl0) p3.length p3).length)) ((FwwU32 p0 p2 (IntKind.wrap .u32 (((itr (FwwIntl0) p3.length p3).length : Nat) : Int))) ++ (itr (FwwIntl0) p3.length p3)))])
              448 (by kernel_rfl) rfl (by kernel_rfl) (⟨⟨trivial, trivial⟩, ⟨⟨trivial, trivial⟩, ⟨⟨trivial, trivial⟩, ⟨⟨trivial, trivial⟩, ⟨⟨⟨trivial, ⟨(rfl), (by first | omega | (rw [adr_eq]; omega) | exact iAnd_nn _ _ | exact iSub_nn _ _ | exact part1_le (by omega) (by first | omega | (simp only [List.length_append]; omega)) | decide)⟩⟩, trivial⟩, ⟨⟨trivial, trivial⟩, ⟨⟨⟨⟨⟨⟨trivial, (rfl)⟩, ⟨(by first | omega | (rw [adr_eq]; omega) | exact iAnd_nn _ _ | exact iSub_nn _ _ | exact part1_le (by omega) (by first | omega | (simp only [List.length_append]; omega)) | decide), ⟨(by first | omega | (rw [adr_eq]; omega) | exact iAnd_nn _ _ | exact iSub_nn _ _ | exact part1_le (by omega) (by first | omega | (simp only [List.length_append]; omega)) | decide), (by first | omega | (rw [adr_eq]; omega) | exact iAnd_nn _ _ | exact iSub_nn _ _ | exact part1_le (by omega) (by first | omega | (simp only [List.length_append]; omega)) | decide)⟩⟩⟩, (by first | omega | (rw [adr_eq]; omega) | exact iAnd_nn _ _ | exact iSub_nn _ _ | exact part1_le (by omega) (by first | omega | (simp only [List.length_append]; omega)) | decide)⟩, ⟨(rfl), (by first | omega | (rw [adr_eq]; omega) | exact iAnd_nn _ _ | exact iSub_nn _ _ | exact part1_le (by omega) (by first | omega | (simp only [List.length_append]; omega)) | decide)⟩⟩, trivial⟩, ⟨⟨trivial, trivial⟩, trivial⟩⟩⟩⟩⟩⟩⟩⟩) ?_
          refine Tri.ret ?_
          repeat (first | refine thenP_ret ?_ | refine blkP_ret ?_ | refine countP_ret ?_ | refine joinP_ret ?_ | refine iterP_ret ?_)
          refine endP.conv (r' := ⟨.sc (.sl 1 0 ((p0 + 4) + ((itr (FwwIntl0) p3.length p3).length)) 1 none), [none, some (.ints .u8 ((p0 + 4) + ((itr (FwwIntl0) p3.length p3).length)) ((FwwU32 p0 p2 (IntKind.wrap .u32 (((itr (FwwIntl0) p3.length p3).length : Nat) : Int))) ++ (itr (FwwIntl0) p3.length p3)))]⟩) (by simp only [FwwInt, FwwIntn0, hq0, hf0, hb0, h11, h13, sel_true, sel_false]) ?_
          exact endP.ret [(416, 1)] (True ∧ True) (by kernel_rfl) (by kernel_rfl) ⟨trivial, trivial⟩
      ·
        have h11' := of_decide_eq_false h11
        refine Tri.seq_region [(19, qb false)] none [24, 0, 1] [0] ((True ∧ True) ∧ ((True ∧ True) ∧ ((True ∧ True) ∧ ((True ∧ ((decide (((((itr (FwwIntl0) p3.length p3).length : Nat) : Int) : Int) > 0)) = false)) ∧ ((True ∧ True) ∧ ((True ∧ True) ∧ ((True ∧ True) ∧ ((True ∧ True) ∧ ((True ∧ True) ∧ True)))))))))
            ([(24, .sc (.b false)), (0, .sc (.sl 0 0 p0 1 none)), (1, .sc (.ro .u8 (itr (FwwIntl0) p3.length p3)))], [(0, .ints .u8 p0 p2)])
            320 (by kernel_rfl) rfl (by kernel_rfl) (⟨⟨trivial, trivial⟩, ⟨⟨trivial, trivial⟩, ⟨⟨trivial, trivial⟩, ⟨⟨trivial, (h11)⟩, ⟨⟨trivial, trivial⟩, ⟨⟨trivial, trivial⟩, ⟨⟨trivial, trivial⟩, ⟨⟨trivial, trivial⟩, ⟨⟨trivial, trivial⟩, trivial⟩⟩⟩⟩⟩⟩⟩⟩⟩) ?_
        refine Tri.cond_false (by kernel_rfl) ?_
        refine Tri.skip ?_
        change Tri _ _ _ _ _ _
        refine Tri.len 0 rfl (fun hl16 => ?_)
        refine Tri.seq_region [] none [4] [416] ((True ∧ True) ∧ ((True ∧ True) ∧ ((True ∧ True) ∧ ((True ∧ True) ∧ (((True ∧ ((p0 = p0) ∧ (p0 ≤ 1000000000))) ∧ True) ∧ ((True ∧ True) ∧ ((((((True ∧ (1 = 1)) ∧ ((0 < 1) ∧ ((((p0 + 4) + ((itr (FwwIntl0) p3.length p3).length)) * 1 ≤ 140737488355328) ∧ ((p0 + 4) + ((itr (FwwIntl0) p3.length p3).length) ≤ 140737488355328)))) ∧ ((itr (FwwIntl0) p3.length p3).length = ((itr (FwwIntl0) p3.length p3).length) * 1)) ∧ ((1 = 1) ∧ (0 + (p0 + 4) * 1 = p0 + 4))) ∧ True) ∧ ((True ∧ True) ∧ True))))))))
            ([(4, .sc (.sl 416 0 ((p0 + 4) + ((itr (FwwIntl0) p3.length p3).length)) 1 none))], [(416, .ints .u8 ((p0 + 4) + ((itr (FwwIntl0) p3.length p3).length)) ((FwwU32 p0 p2 (IntKind.wrap .u32 (((itr (FwwIntl0) p3.length p3).length : Nat) : Int))) ++ (itr (FwwIntl0) p3.length p3)))])
            448 (by kernel_rfl) rfl (by kernel_rfl) (⟨⟨trivial, trivial⟩, ⟨⟨trivial, trivial⟩, ⟨⟨trivial, trivial⟩, ⟨⟨trivial, trivial⟩, ⟨⟨⟨trivial, ⟨(rfl), (by first | omega | (rw [adr_eq]; omega) | exact iAnd_nn _ _ | exact iSub_nn _ _ | exact part1_le (by omega) (by first | omega | (simp only [List.length_append]; omega)) | decide)⟩⟩, trivial⟩, ⟨⟨trivial, trivial⟩, ⟨⟨⟨⟨⟨⟨trivial, (rfl)⟩, ⟨(by first | omega | (rw [adr_eq]; omega) | exact iAnd_nn _ _ | exact iSub_nn _ _ | exact part1_le (by omega) (by first | omega | (simp only [List.length_append]; omega)) | decide), ⟨(by first | omega | (rw [adr_eq]; omega) | exact iAnd_nn _ _ | exact iSub_nn _ _ | exact part1_le (by omega) (by first | omega | (simp only [List.length_append]; omega)) | decide), (by first | omega | (rw [adr_eq]; omega) | exact iAnd_nn _ _ | exact iSub_nn _ _ | exact part1_le (by omega) (by first | omega | (simp only [List.length_append]; omega)) | decide)⟩⟩⟩, (by first | omega | (rw [adr_eq]; omega) | exact iAnd_nn _ _ | exact iSub_nn _ _ | exact part1_le (by omega) (by first | omega | (simp only [List.length_append]; omega)) | decide)⟩, ⟨(rfl), (by first | omega | (rw [adr_eq]; omega) | exact iAnd_nn _ _ | exact iSub_nn _ _ | exact part1_le (by omega) (by first | omega | (simp only [List.length_append]; omega)) | decide)⟩⟩, trivial⟩, ⟨⟨trivial, trivial⟩, trivial⟩⟩⟩⟩⟩⟩⟩⟩) ?_
        refine Tri.ret ?_
        repeat (first | refine thenP_ret ?_ | refine blkP_ret ?_ | refine countP_ret ?_ | refine joinP_ret ?_ | refine iterP_ret ?_)
        refine endP.conv (r' := ⟨.sc (.sl 1 0 ((p0 + 4) + ((itr (FwwIntl0) p3.length p3).length)) 1 none), [none, some (.ints .u8 ((p0 + 4) + ((itr (FwwIntl0) p3.length p3).length)) ((FwwU32 p0 p2 (IntKind.wrap .u32 (((itr (FwwIntl0) p3.length p3).length : Nat) : Int))) ++ (itr (FwwIntl0) p3.length p3)))]⟩) (by simp only [FwwInt, FwwIntn0, hq0, hf0, hb0, h11, sel_true, sel_false]) ?_
        exact endP.ret [(416, 1)] (True ∧ True) (by kernel_rfl) (by kernel_rfl) ⟨trivial, trivial⟩

theorem le_FwwInt (k : Nat) (xs p3 : List Int) : FwwIntn0 k xs p3 ≤ k + p3.length + 5 := by
  have h0 : ∀ k, (itr FwwIntl0 k p3).length ≤ p3.length := by
    intro k
    induction k with
    | zero => rw [itr_zero]; exact Nat.le_refl _
    | succ k ih => rw [itr_succ]; show ((((itr FwwIntl0 k p3).drop 1).take ((itr FwwIntl0 k p3).length - 1)).length ≤ _); simp only [List.length_take, List.length_drop]; omega
  have s0 : ∀ (b : Bool) (x y : Nat), x ≤ k + p3.length + 5 → y ≤ k + p3.length + 5 → sel b x y ≤ k + p3.length + 5 := by
    intro b x y hx hy
    cases b
    · rw [sel_false]; exact hy
    · rw [sel_true]; exact hx
  have h1 := h0 (fstB (FwwInts0 p3) p3.length)
  have h2 := h0 p3.length
  unfold FwwIntn0
  repeat first | omega | apply s0


noncomputable def FwwIntzl0 (k0 : Nat) (z0 : List Int) : List Int :=
  (z0.drop 1).take (z0.length - 1)

noncomputable def FwwIntzs0 (p3 : List Int) (k0 : Nat) : Bool :=
  (sel (((itr (FwwIntzl0) k0 p3).getD 0 0 : Int) == 0) false true)

noncomputable def FwwIntz (p0 : Nat) (p2 : List Int) (p3 : List Int) : List Int :=
  (sel (Nat.blt (fstB (FwwIntzs0 p3) p3.length) p3.length) (sel (decide (((((itr (FwwIntzl0) (fstB (FwwIntzs0 p3) p3.length) p3).length : Nat) : Int) : Int) > 0)) (sel (decide (((itr (FwwIntzl0) (fstB (FwwIntzs0 p3) p3.length) p3).getD 0 0 : Int) ≥ 128)) (part1 (((FwwU32 p0 p2 (IntKind.wrap .u32 ((((itr (FwwIntzl0) (fstB (FwwIntzs0 p3) p3.length) p3).length) + 1 : Nat) : Int))) ++ [0]) ++ (itr (FwwIntzl0) (fstB (FwwIntzs0 p3) p3.length) p3)) (((p0 + 4) + 1) + ((itr (FwwIntzl0) (fstB (FwwIntzs0 p3) p3.length) p3).length)) 0 (((p0 + 4) + 1) + ((itr (FwwIntzl0) (fstB (FwwIntzs0 p3) p3.length) p3).length))) (part1 ((FwwU32 p0 p2 (IntKind.wrap .u32 (((itr (FwwIntzl0) (fstB (FwwIntzs0 p3) p3.length) p3).length : Nat) : Int))) ++ (itr (FwwIntzl0) (fstB (FwwIntzs0 p3) p3.length) p3)) ((p0 + 4) + ((itr (FwwIntzl0) (fstB (FwwIntzs0 p3) p3.length) p3).length)) 0 ((p0 + 4) + ((itr (FwwIntzl0) (fstB (FwwIntzs0 p3) p3.length) p3).length)))) (part1 ((FwwU32 p0 p2 (IntKind.wrap .u32 (((itr (FwwIntzl0) (fstB (FwwIntzs0 p3) p3.length) p3).length : Nat) : Int))) ++ (itr (FwwIntzl0) (fstB (FwwIntzs0 p3) p3.length) p3)) ((p0 + 4) + ((itr (FwwIntzl0) (fstB (FwwIntzs0 p3) p3.length) p3).length)) 0 ((p0 + 4) + ((itr (FwwIntzl0) (fstB (FwwIntzs0 p3) p3.length) p3).length)))) (sel (decide (((((itr (FwwIntzl0) p3.length p3).length : Nat) : Int) : Int) > 0)) (sel (decide (((itr (FwwIntzl0) p3.length p3).getD 0 0 : Int) ≥ 128)) (part1 (((FwwU32 p0 p2 (IntKind.wrap .u32 ((((itr (FwwIntzl0) p3.length p3).length) + 1 : Nat) : Int))) ++ [0]) ++ (itr (FwwIntzl0) p3.length p3)) (((p0 + 4) + 1) + ((itr (FwwIntzl0) p3.length p3).length)) 0 (((p0 + 4) + 1) + ((itr (FwwIntzl0) p3.length p3).length))) (part1 ((FwwU32 p0 p2 (IntKind.wrap .u32 (((itr (FwwIntzl0) p3.length p3).length : Nat) : Int))) ++ (itr (FwwIntzl0) p3.length p3)) ((p0 + 4) + ((itr (FwwIntzl0) p3.length p3).length)) 0 ((p0 + 4) + ((itr (FwwIntzl0) p3.length p3).length)))) (part1 ((FwwU32 p0 p2 (IntKind.wrap .u32 (((itr (FwwIntzl0) p3.length p3).length : Nat) : Int))) ++ (itr (FwwIntzl0) p3.length p3)) ((p0 + 4) + ((itr (FwwIntzl0) p3.length p3).length)) 0 ((p0 + 4) + ((itr (FwwIntzl0) p3.length p3).length)))))

noncomputable def SwwIntz : List AV → List Blk → Option (Prop × Ret)
  | [.sc (.sl 0 0 p0 1 none), .sc (.ro .u8 p3)], [.ints .u8 p1 p2] => some (((p0 = p1) ∧ (p0 ≤ 1000000000 ∧ p3.length ≤ 1000000000)), ⟨.sc (.ro .u8 (FwwIntz p0 p2 p3)), [none]⟩)
  | _, _ => none

noncomputable def BwwIntz : Bs := { P := Go.Proofs.Try.prog, G := noG, tab := tabOf [⟨10, 384, [.io, .val], [], [0], ⟨1, 1, SwwU32⟩⟩, ⟨10, 400, [.io, .val], [], [0], ⟨1, 1, SwwU32⟩⟩], n := 42 }

theorem BwwIntz.ok : BwwIntz.Ok := ⟨tabOk (P := Go.Proofs.Try.prog) (G := noG) (l := [⟨10, 384, [.io, .val], [], [0], ⟨1, 1, SwwU32⟩⟩, ⟨10, 400, [.io, .val], [], [0], ⟨1, 1, SwwU32⟩⟩]) (And.intro KwwU32 (And.intro KwwU32 True.intro)), mixed⟩

theorem KwwIntz : Known Go.Proofs.Try.prog noG 6 ⟨1, 0, SwwIntz⟩ := by
  refine Known.walk (B := BwwIntz) (fn := Go.Proofs.Try.f6) BwwIntz.ok (by kernel_rfl) rfl (by kernel_rfl) (by kernel_rfl) (by decide) (by decide) ?_
  · intro E args ks C r h hC hlen
    simp only at h
    unfold SwwIntz at h
    split at h
    rotate_left
    · cases h
    rename_i p0 p3 p1 p2
    cases h
    simp only [lens] at hlen
    have hEp1 := hC.1
    have hC := hC.2
    subst hEp1
    refine ⟨show 2 ≤ 42 from by decide, ?_⟩
    refine Tri.sub (Sub.of_eq (show _ = ([(0, .sc (.sl 0 0 p0 1 none)), (1, .sc (.ro .u8 p3))], [(0, .ints .u8 p0 p2)]) from rfl)) ?_
    refine Tri.seq_region [] none [0, 1] [0] ((True ∧ True) ∧ True)
        ([(0, .sc (.sl 0 0 p0 1 none)), (1, .sc (.ro .u8 p3))], [(0, .ints .u8 p0 p2)])
        32 (by kernel_rfl) rfl (by kernel_rfl) (⟨⟨trivial, trivial⟩, trivial⟩) ?_
    refine Tri.seq ?_
    refine Tri.block ?_
    refine Tri.count 32 p3.length (FwwIntzl0) p3 (fun k0 z0 => z0.length = p3.length - k0 ∧ (∀ j, j < k0 → (FwwIntzs0 p3) j = false)) (fun k0 z0 => ([(0, .sc (.sl 0 0 p0 1 none)), (1, .sc (.ro .u8 z0))], [(0, .ints .u8 p0 p2)])) (⟨(by omega), (fun j hj => absurd hj (Nat.not_lt_zero j))⟩) (Sub.of_eq (by kernel_rfl)) ?_
    intro k0 z0 hk0 hz0 hJ0
    refine Tri.seq ?_
    refine Tri.split (decide ((((z0.length : Nat) : Int) : Int) > 0)) (fun h1 => ?_) (fun h1 => ?_)
    ·
      have h1' := of_decide_eq_true h1
      refine Tri.len 0 rfl (fun hl2 => ?_)
      refine Tri.seq_region [(8, qb true)] none [13, 0, 1] [0] ((True ∧ True) ∧ ((True ∧ True) ∧ ((True ∧ True) ∧ ((True ∧ ((decide ((((z0.length : Nat) : Int) : Int) > 0)) = true)) ∧ ((True ∧ True) ∧ ((((0 : Int) ≤ 0 ∧ 0 < (z0.length : Int)) ∧ True) ∧ (((0 < z0.length) ∧ True) ∧ ((True ∧ True) ∧ ((True ∧ True) ∧ True)))))))))
          ([(13, .sc (.b ((z0.getD 0 0 : Int) == 0))), (0, .sc (.sl 0 0 p0 1 none)), (1, .sc (.ro .u8 z0))], [(0, .ints .u8 p0 p2)])
          176 (by kernel_rfl) rfl (by kernel_rfl) (⟨⟨trivial, trivial⟩, ⟨⟨trivial, trivial⟩, ⟨⟨trivial, trivial⟩, ⟨⟨trivial, (h1)⟩, ⟨⟨trivial, trivial⟩, ⟨⟨(by first | omega | (rw [adr_eq]; omega) | exact iAnd_nn _ _ | exact iSub_nn _ _ | exact part1_le (by omega) (by first | omega | (simp only [List.length_append]; omega)) | decide), trivial⟩, ⟨⟨(by first | omega | (rw [adr_eq]; omega) | exact iAnd_nn _ _ | exact iSub_nn _ _ | exact part1_le (by omega) (by first | omega | (simp only [List.length_append]; omega)) | decide), trivial⟩, ⟨⟨trivial, trivial⟩, ⟨⟨trivial, trivial⟩, trivial⟩⟩⟩⟩⟩⟩⟩⟩⟩) ?_
      refine Tri.cond (x := ((z0.getD 0 0 : Int) == 0)) (by kernel_rfl) (fun h3 => ?_) (fun h3 => ?_)
      ·
        have h3' := eq_true_i h3
        refine Tri.skip ?_
        change Tri _ _ _ _ _ _
        refine Tri.block ?_
        refine Tri.len 0 rfl (fun hl4 => ?_)
        refine Tri.region' [] none [1, 0] [0] ((True ∧ True) ∧ ((((0 : Int) ≤ 1 ∧ (1 : Int) ≤ ((z0.length : Nat) : Int) ∧ ((z0.length : Nat) : Int) ≤ (z0.length : Int)) ∧ True) ∧ ((True ∧ True) ∧ True)))
            ([(1, .sc (.ro .u8 ((z0.drop 1).take (z0.length - 1)))), (0, .sc (.sl 0 0 p0 1 none))], [(0, .ints .u8 p0 p2)])
            224 (by kernel_rfl) rfl (by kernel_rfl) (⟨⟨trivial, trivial⟩, ⟨⟨(by first | omega | (rw [adr_eq]; omega) | exact iAnd_nn _ _ | exact iSub_nn _ _ | exact part1_le (by omega) (by first | omega | (simp only [List.length_append]; omega)) | decide), trivial⟩, ⟨⟨trivial, trivial⟩, trivial⟩⟩⟩) ?_
        repeat (refine blkP_normal ?_)
        refine countP_normal (by have := of_decide_eq_true h1; omega) (⟨(show ((z0.drop 1).take (z0.length - 1)).length = p3.length - (k0 + 1) by simp only [List.length_take, List.length_drop]; omega), (below_succ hJ0.2 (by subst hz0; simp only [FwwIntzs0, h1, h3, sel_true, sel_false]))⟩) ?_
        exact Sub.ren (ns := [(0, 0)]) (kf := [0, 1]) (by kernel_rfl) (by kernel_rfl)
      ·
        have h3' := eq_false_i h3
        refine Tri.exit ?_
        subst hz0
        have hf0 : fstB (FwwIntzs0 p3) p3.length = k0 := fst_found (by omega) hJ0.2 (by simp only [FwwIntzs0, h1, h3, sel_true, sel_false])
        have hb0 : Nat.blt k0 p3.length = true := blt_true (by omega)
        have hq0 : Nat.blt (fstB (FwwIntzs0 p3) p3.length) p3.length = true := by rw [hf0]; exact hb0
        change Tri _ _ _ _ _ _
        refine Tri.seq ?_
        refine Tri.split (decide (((((itr (FwwIntzl0) k0 p3).length : Nat) : Int) : Int) > 0)) (fun h5 => ?_) (fun h5 => ?_)
        ·
          have h5' := of_decide_eq_true h5
          refine Tri.len 0 rfl (fun hl6 => ?_)
          refine Tri.seq_region [(19, qb true)] none [24, 0, 1] [0] ((True ∧ True) ∧ ((True ∧ True) ∧ ((True ∧ True) ∧ ((True ∧ ((decide (((((itr (FwwIntzl0) k0 p3).length : Nat) : Int) : Int) > 0)) = true)) ∧ ((True ∧ True) ∧ ((((0 : Int) ≤ 0 ∧ 0 < ((itr (FwwIntzl0) k0 p3).length : Int)) ∧ True) ∧ (((0 < (itr (FwwIntzl0) k0 p3).length) ∧ True) ∧ ((True ∧ True) ∧ ((True ∧ True) ∧ True)))))))))
              ([(24, .sc (.b (decide (((itr (FwwIntzl0) k0 p3).getD 0 0 : Int) ≥ 128)))), (0, .sc (.sl 0 0 p0 1 none)), (1, .sc (.ro .u8 (itr (FwwIntzl0) k0 p3)))], [(0, .ints .u8 p0 p2)])
              320 (by kernel_rfl) rfl (by kernel_rfl) (⟨⟨trivial, trivial⟩, ⟨⟨trivial, trivial⟩, ⟨⟨trivial, trivial⟩, ⟨⟨trivial, (h5)⟩, ⟨⟨trivial, trivial⟩, ⟨⟨(by first | omega | (rw [adr_eq]; omega) | exact iAnd_nn _ _ | exact iSub_nn _ _ | exact part1_le (by omega) (by first | omega | (simp only [List.length_append]; omega)) | decide), trivial⟩, ⟨⟨(by first | omega | (rw [adr_eq]; omega) | exact iAnd_nn _ _ | exact iSub_nn _ _ | exact part1_le (by omega) (by first | omega | (simp only [List.length_append]; omega)) | decide), trivial⟩, ⟨⟨trivial, trivial⟩, ⟨⟨trivial, trivial⟩, trivial⟩⟩⟩⟩⟩⟩⟩⟩⟩) ?_
          refine Tri.cond (x := (decide (((itr (FwwIntzl0) k0 p3).getD 0 0 : Int) ≥ 128))) (by kernel_rfl) (fun h7 => ?_) (fun h7 => ?_)
          ·
            have h7' := of_decide_eq_true h7
            refine Tri.len 0 rfl (fun hl8 => ?_)
            refine Tri.seq_region [(28, qi ((((itr (FwwIntzl0) k0 p3).length) + 1 : Nat) : Int))] none [4] [464] ((True ∧ True) ∧ ((True ∧ True) ∧ ((True ∧ True) ∧ ((True ∧ ((iAdd .i64 (((itr (FwwIntzl0) k0 p3).length : Nat) : Int) 1) = ((((itr (FwwIntzl0) k0 p3).length) + 1 : Nat) : Int))) ∧ ((True ∧ True) ∧ (((True ∧ ((p0 = p0) ∧ (p0 ≤ 1000000000))) ∧ True) ∧ ((((((0 < 1) ∧ (1 = 1)) ∧ True) ∧ ((1 * 1 ≤ 16777216) ∧ (1 = 1))) ∧ True) ∧ ((((((True ∧ (1 = 1)) ∧ ((0 < 1) ∧ ((((p0 + 4) + 1) * 1 ≤ 140737488355328) ∧ ((p0 + 4) + 1 ≤ 140737488355328)))) ∧ (1 = 1 * 1)) ∧ ((1 = 1) ∧ (0 + (p0 + 4) * 1 = p0 + 4))) ∧ True) ∧ ((True ∧ True) ∧ ((((((True ∧ (1 = 1)) ∧ ((0 < 1) ∧ (((((p0 + 4) + 1) + ((itr (FwwIntzl0) k0 p3).length)) * 1 ≤ 140737488355328) ∧ (((p0 + 4) + 1) + ((itr (FwwIntzl0) k0 p3).length) ≤ 140737488355328)))) ∧ ((itr (FwwIntzl0) k0 p3).length = ((itr (FwwIntzl0) k0 p3).length) * 1)) ∧ ((1 = 1) ∧ (0 + ((p0 + 4) + 1) * 1 = (p0 + 4) + 1))) ∧ True) ∧ ((True ∧ True) ∧ True)))))))))))
                ([(4, .sc (.sl 464 0 (((p0 + 4) + 1) + ((itr (FwwIntzl0) k0 p3).length)) 1 none))], [(464, .ints .u8 (((p0 + 4) + 1) + ((itr (FwwIntzl0) k0 p3).length)) (((FwwU32 p0 p2 (IntKind.wrap .u32 ((((itr (FwwIntzl0) k0 p3).length) + 1 : Nat) : Int))) ++ [0]) ++ (itr (FwwIntzl0) k0 p3)))])
                496 (by kernel_rfl) rfl (by kernel_rfl) (⟨⟨trivial, trivial⟩, ⟨⟨trivial, trivial⟩, ⟨⟨trivial, trivial⟩, ⟨⟨trivial, (iAdd_nat (a := (itr (FwwIntzl0) k0 p3).length) (b := 1) (by omega))⟩, ⟨⟨trivial, trivial⟩, ⟨⟨⟨trivial, ⟨(rfl), (by first | omega | (rw [adr_eq]; omega) | exact iAnd_nn _ _ | exact iSub_nn _ _ | exact part1_le (by omega) (by first | omega | (simp only [List.length_append]; omega)) | decide)⟩⟩, trivial⟩, ⟨⟨⟨⟨⟨(by first | omega | (rw [adr_eq]; omega) | exact iAnd_nn _ _ | exact iSub_nn _ _ | exact part1_le (by omega) (by first | omega | (simp only [List.length_append]; omega)) | decide), (rfl)⟩, trivial⟩, ⟨(by first | omega | (rw [adr_eq]; omega) | exact iAnd_nn _ _ | exact iSub_nn _ _ | exact part1_le (by omega) (by first | omega | (simp only [List.length_append]; omega)) | decide), (rfl)⟩⟩, trivial⟩, ⟨⟨⟨⟨⟨⟨trivial, (rfl)⟩, ⟨(by first | omega | (rw [adr_eq]; omega) | exact iAnd_nn _ _ | exact iSub_nn _ _ | exact part1_le (by omega) (by first | omega | (simp only [List.length_append]; omega)) | decide), ⟨(by first | omega | (rw [adr_eq]; omega) | exact iAnd_nn _ _ | exact iSub_nn _ _ | exact part1_le (by omega) (by first | omega | (simp only [List.length_append]; omega)) | decide), (by first | omega | (rw [adr_eq]; omega) | exact iAnd_nn _ _ | exact iSub_nn _ _ | exact part1_le (by omega) (by first | omega | (simp only [List.length_append]; omega)) | decide)⟩⟩⟩, (by first | omega | (rw [adr_eq]; omega) | exact iAnd_nn _ _ | exact iSub_nn _ _ | exact part1_le (by omega) (by first | omega | (simp only [List.length_append]; omega)) | decide)⟩, ⟨(rfl), (by first | omega | (rw [adr_eq]; omega) | exact iAnd_nn _ _ | exact iSub_nn _ _ | exact part1_le (by omega) (by first | omega | (simp only [List.length_append]; omega)) | decide)⟩⟩, trivial⟩, ⟨⟨trivial, trivial⟩, ⟨⟨⟨⟨⟨⟨trivial, (rfl)⟩, ⟨(by first | omega | (rw [adr_eq]; omega) | exact iAnd_nn _ _ | exact iSub_nn _ _ | exact part1_le (by omega) (by first | omega | (simp only [List.length_append]; omega)) | decide), ⟨(by first | omega | (rw [adr_eq]; omega) | exact iAnd_nn _ _ | exact iSub_nn _ _ | exact part1_le (by omega) (by first | omega | (simp only [List.length_append]; omega)) | decide), (by first | omega | (rw [adr_eq]; omega) | exact iAnd_nn _ _ | exact iSub_nn _ _ | exact part1_le (by omega) (by first | omega | (simp only [List.length_append]; omega)) | decide)⟩⟩⟩, (by first | omega | (rw [adr_eq]; omega) | exact iAnd_nn _ _ | exact iSub_nn _ _ | exact part1_le (by omega) (by first | omega | (simp only [List.length_append]; omega)) | decide)⟩, ⟨(rfl), (by first | omega | (rw [adr_eq]; omega) | exact iAnd_nn _ _ | exact iSub_nn _ _ | exact part1_le (by omega) (by first | omega | (simp only [List.length_append]; omega)) | decide)⟩⟩, trivial⟩, ⟨⟨trivial, trivial⟩, trivial⟩⟩⟩⟩⟩⟩⟩⟩⟩⟩⟩) ?_
            refine Tri.sub (Sub.still (s' := ([(4, .sc (.ro .u8 (part1 (((FwwU32 p0 p2 (IntKind.wrap .u32 ((((itr (FwwIntzl0) k0 p3).length) + 1 : Nat) : Int))) ++ [0]) ++ (itr (FwwIntzl0) k0 p3)) (((p0 + 4) + 1) + ((itr (FwwIntzl0) k0 p3).length)) 0 (((p0 + 4) + 1) + ((itr (FwwIntzl0) k0 p3).length)))))], [])) 464 (.ints .u8 (((p0 + 4) + 1) + ((itr (FwwIntzl0) k0 p3).length)) (((FwwU32 p0 p2 (IntKind.wrap .u32 ((((itr (FwwIntzl0) k0 p3).length) + 1 : Nat) : Int))) ++ [0]) ++ (itr (FwwIntzl0) k0 p3))) (by kernel_rfl) (show 0 + (((p0 + 4) + 1) + ((itr (FwwIntzl0) k0 p3).length)) ≤ ((p0 + 4) + 1) + ((itr (FwwIntzl0) k0 p3).length) from by first | omega | (rw [adr_eq]; omega) | exact iAnd_nn _ _ | exact iSub_nn _ _ | exact part1_le (by omega) (by first | omega | (simp only [List.length_append]; omega)) | decide) (by kernel_rfl)) ?_
            refine Tri.ret ?_
            repeat (first | refine thenP_ret ?_ | refine blkP_ret ?_ | refine countP_ret ?_ | refine joinP_ret ?_ | refine iterP_ret ?_)
            refine endP.conv (r' := ⟨.sc (.ro .u8 (part1 (((FwwU32 p0 p2 (IntKind.wrap .u32 ((((itr (FwwIntzl0) k0 p3).length) + 1 : Nat) : Int))) ++ [0]) ++ (itr (FwwIntzl0) k0 p3)) (((p0 + 4) + 1) + ((itr (FwwIntzl0) k0 p3).length)) 0 (((p0 + 4) + 1) + ((itr (FwwIntzl0) k0 p3).length)))), [none]⟩) (by simp only [FwwIntz, hq0, hf0, hb0, h5, h7, sel_true, sel_false]) ?_
            exact endP.ret [] (True ∧ True) (by kernel_rfl) (by kernel_rfl) ⟨trivial, trivial⟩
          ·
            have h7' := of_decide_eq_false h7
            refine Tri.skip ?_
            change Tri _ _ _ _ _ _
            refine Tri.len 0 rfl (fun hl9 => ?_)
            refine Tri.seq_region [] none [4] [416] ((True ∧ True) ∧ ((True ∧ True) ∧ ((True ∧ True) ∧ ((True ∧ True) ∧ (((True ∧ ((p0 = p0) ∧ (p0 ≤ 1000000000))) ∧ True) ∧ ((True ∧ True) ∧ ((((((True ∧ (1 = 1)) ∧ ((0 < 1) ∧ ((((p0 + 4) + ((itr (FwwIntzl0) k0 p3).length)) * 1 ≤ 140737488355328) ∧ ((p0 + 4) + ((itr (FwwIntzl0) k0 p3).length) ≤ 140737488355328)))) ∧ ((itr (FwwIntzl0) k0 p3).length = ((itr (FwwIntzl0) k0 p3).length) * 1)) ∧ ((1 = 1) ∧ (0 + (p0 + 4) * 1 = p0 + 4))) ∧ True) ∧ ((True ∧ True) ∧ True))))))))
                ([(4, .sc (.sl 416 0 ((p0 + 4) + ((itr (FwwIntzl0) k0 p3).length)) 1 none))], [(416, .ints .u8 ((p0 + 4) + ((itr (FwwIntzl0) k0 p3).length)) ((FwwU32 p0 p2 (IntKind.wrap .u32 (((itr (FwwIntzl0) k0 p3).length : Nat) : Int))) ++ (itr (FwwIntzl0) k0 p3)))])
                448 (by kernel_rfl) rfl (by kernel_rfl) (⟨⟨trivial, trivial⟩, ⟨⟨trivial, trivial⟩, ⟨⟨trivial, trivial⟩, ⟨⟨trivial, trivial⟩, ⟨⟨⟨trivial, ⟨(rfl), (by first | omega | (rw [adr_eq]; omega) | exact iAnd_nn _ _ | exact iSub_nn _ _ | exact part1_le (by omega) (by first | omega | (simp only [List.length_append]; omega)) | decide)⟩⟩, trivial⟩, ⟨⟨trivial, trivial⟩, ⟨⟨⟨⟨⟨⟨trivial, (rfl)⟩, ⟨(by first | omega | (rw [adr_eq]; omega) | exact iAnd_nn _ _ | exact iSub_nn _ _ | exact part1_le (by omega) (by first | omega | (simp only [List.length_append]; omega)) | decide), ⟨(by first | omega | (rw [adr_eq]; omega) | exact iAnd_nn _ _ | exact iSub_nn _ _ | exact part1_le (by omega) (by first | omega | (simp only [List.length_append]; omega)) | decide), (by first | omega | (rw [adr_eq]; omega) | exact iAnd_nn _ _ | exact iSub_nn _ _ | exact part1_le (by omega) (by first | omega | (simp only [List.length_append]; omega)) | decide)⟩⟩⟩, (by first | omega | (rw [adr_eq]; omega) | exact iAnd_nn _ _ | exact iSub_nn _ _ | exact part1_le (by omega) (by first | omega | (simp only [List.length_append]; omega)) | decide)⟩, ⟨(rfl), (by first | omega | (rw [adr_eq]; omega) | exact iAnd_nn _ _ | exact iSub_nn _ _ | exact part1_le (by omega) (by first | omega | (simp only [List.length_append]; omega)) | decide)⟩⟩, trivial⟩, ⟨⟨trivial, trivial⟩, trivial⟩⟩⟩⟩⟩⟩⟩⟩) ?_
            refine Tri.sub (Sub.still (s' := ([(4, .sc (.ro .u8 (part1 ((FwwU32 p0 p2 (IntKind.wrap .u32 (((itr (FwwIntzl0) k0 p3).length : Nat) : Int))) ++ (itr (FwwIntzl0) k0 p3)) ((p0 + 4) + ((itr (FwwIntzl0) k0 p3).length)) 0 ((p0 + 4) + ((itr (FwwIntzl0) k0 p3).length)))))], [])) 416 (.ints .u8 ((p0 + 4) + ((itr (FwwIntzl0) k0 p3).length)) ((FwwU32 p0 p2 (IntKind.wrap .u32 (((itr (FwwIntzl0) k0 p3).length : Nat) : Int))) ++ (itr (FwwIntzl0) k0 p3))) (by kernel_rfl) (show 0 + ((p0 + 4) + ((itr (FwwIntzl0) k0 p3).length)) ≤ (p0 + 4) + ((itr (FwwIntzl0) k0 p3).length) from by first | omega | (rw [adr_eq]; omega) | exact iAnd_nn _ _ | exact iSub_nn _ _ | exact part1_le (by omega) (by first | omega | (simp only [List.length_append]; omega)) | decide) (by kernel_rfl)) ?_
            refine Tri.ret ?_
            repeat (first | refine thenP_ret ?_ | refine blkP_ret ?_ | refine countP_ret ?_ | refine joinP_ret ?_ | refine iterP_ret ?_)
            refine endP.conv (r' := ⟨.sc (.ro .u8 (part1 ((FwwU32 p0 p2 (IntKind.wrap .u32 (((itr (FwwIntzl0) k0 p3).length : Nat) : Int))) ++ (itr (FwwIntzl0) k0 p3)) ((p0 + 4) + ((itr (FwwIntzl0) k0 p3).length)) 0 ((p0 + 4) + ((itr (FwwIntzl0) k0 p3).length)))), [none]⟩) (by simp only [FwwIntz, hq0, hf0, hb0, h5, h7, sel_true, sel_false]) ?_
            exact endP.ret [] (True ∧ True) (by kernel_rfl) (by kernel_rfl) ⟨trivial, trivial⟩
        ·
          have h5' := of_decide_eq_false h5
          refine Tri.seq_region [(19, qb false)] none [24, 0, 1] [0] ((True ∧ True) ∧ ((True ∧ True) ∧ ((True ∧ True) ∧ ((True ∧ ((decide (((((itr (FwwIntzl0) k0 p3).length : Nat) : Int) : Int) > 0)) = false)) ∧ ((True ∧ True) ∧ ((True ∧ True) ∧ ((True ∧ True) ∧ ((True ∧ True) ∧ ((True ∧ True) ∧ True)))))))))
              ([(24, .sc (.b false)), (0, .sc (.sl 0 0 p0 1 none)), (1, .sc (.ro .u8 (itr (FwwIntzl0) k0 p3)))], [(0, .ints .u8 p0 p2)])
              320 (by kernel_rfl) rfl (by kernel_rfl) (⟨⟨trivial, trivial⟩, ⟨⟨trivial, trivial⟩, ⟨⟨trivial, trivial⟩, ⟨⟨trivial, (h5)⟩, ⟨⟨trivial, trivial⟩, ⟨⟨trivial, trivial⟩, ⟨⟨trivial, trivial⟩, ⟨⟨trivial, trivial⟩, ⟨⟨trivial, trivial⟩, trivial⟩⟩⟩⟩⟩⟩⟩⟩⟩) ?_
          refine Tri.cond_false (by kernel_rfl) ?_
          refine Tri.skip ?_
          change Tri _ _ _ _ _ _
          refine Tri.len 0 rfl (fun hl10 => ?_)
          refine Tri.seq_region [] none [4] [416] ((True ∧ True) ∧ ((True ∧ True) ∧ ((True ∧ True) ∧ ((True ∧ True) ∧ (((True ∧ ((p0 = p0) ∧ (p0 ≤ 1000000000))) ∧ True) ∧ ((True ∧ True) ∧ ((((((True ∧ (1 = 1)) ∧ ((0 < 1) ∧ ((((p0 + 4) + ((itr (FwwIntzl0) k0 p3).length)) * 1 ≤ 140737488355328) ∧ ((p0 + 4) + ((itr (FwwIntzl0) k0 p3).length) ≤ 140737488355328)))) ∧ ((itr (FwwIntzl0) k0 p3).length = ((itr (FwwIntzl0) k0 p3).length) * 1)) ∧ ((1 = 1) ∧ (0 + (p0 + 4) * 1 = p0 + 4))) ∧ True) ∧ ((True ∧ True) ∧ True))))))))
              ([(4, .sc (.sl 416 0 ((p0 + 4) + ((itr (FwwIntzl0) k0 p3).length)) 1 none))], [(416, .ints .u8 ((p0 + 4) + ((itr (FwwIntzl0) k0 p3).length)) ((FwwU32 p0 p2 (IntKind.wrap .u32 (((itr (FwwIntzl0) k0 p3).length : Nat) : Int))) ++ (itr (FwwIntzl0) k0 p3)))])
              448 (by kernel_rfl) rfl (by kernel_rfl) (⟨⟨trivial, trivial⟩, ⟨⟨trivial, trivial⟩, ⟨⟨trivial, trivial⟩, ⟨⟨trivial, trivial⟩, ⟨⟨⟨trivial, ⟨(rfl), (by first | omega | (rw [adr_eq]; omega) | exact iAnd_nn _ _ | exact iSub_nn _ _ | exact part1_le (by omega) (by first | omega | (simp only [List.length_append]; omega)) | decide)⟩⟩, trivial⟩, ⟨⟨trivial, trivial⟩, ⟨⟨⟨⟨⟨⟨trivial, (rfl)⟩, ⟨(by first | omega | (rw [adr_eq]; omega) | exact iAnd_nn _ _ | exact iSub_nn _ _ | exact part1_le (by omega) (by first | omega | (simp only [List.length_append]; omega)) | decide), ⟨(by first | omega | (rw [adr_eq]; omega) | exact iAnd_nn _ _ | exact iSub_nn _ _ | exact part1_le (by omega) (by first | omega | (simp only [List.length_append]; omega)) | decide), (by first | omega | (rw [adr_eq]; omega) | exact iAnd_nn _ _ | exact iSub_nn _ _ | exact part1_le (by omega) (by first | omega | (simp only [List.length_append]; omega)) | decide)⟩⟩⟩, (by first | omega | (rw [adr_eq]; omega) | exact iAnd_nn _ _ | exact iSub_nn _ _ | exact part1_le (by omega) (by first | omega | (simp only [List.length_append]; omega)) | decide)⟩, ⟨(rfl), (by first | omega | (rw [adr_eq]; omega) | exact iAnd_nn _ _ | exact iSub_nn _ _ | exact part1_le (by omega) (by first | omega | (simp only [List.length_append]; omega)) | decide)⟩⟩, trivial⟩, ⟨⟨trivial, trivial⟩, trivial⟩⟩⟩⟩⟩⟩⟩⟩) ?_
          refine Tri.sub (Sub.still (s' := ([(4, .sc (.ro .u8 (part1 ((FwwU32 p0 p2 (IntKind.wrap .u32 (((itr (FwwIntzl0) k0 p3).length : Nat) : Int))) ++ (itr (FwwIntzl0) k0 p3)) ((p0 + 4) + ((itr (FwwIntzl0) k0 p3).length)) 0 ((p0 + 4) + ((itr (FwwIntzl0) k0 p3).length)))))], [])) 416 (.ints .u8 ((p0 + 4) + ((itr (FwwIntzl0) k0 p3).length)) ((FwwU32 p0 p2 (IntKind.wrap .u32 (((itr (FwwIntzl0) k0 p3).length : Nat) : Int))) ++ (itr (FwwIntzl0) k0 p3))) (by kernel_rfl) (show 0 + ((p0 + 4) + ((itr (FwwIntzl0) k0 p3).length)) ≤ (p0 + 4) + ((itr (FwwIntzl0) k0 p3).length) from by first | omega | (rw [adr_eq]; omega) | exact iAnd_nn _ _ | exact iSub_nn _ _ | exact part1_le (by omega) (by first | omega | (simp only [List.length_append]; omega)) | decide) (by kernel_rfl)) ?_
          refine Tri.ret ?_
          repeat (first | refine thenP_ret ?_ | refine blkP_ret ?_ | refine countP_ret ?_ | refine joinP_ret ?_ | refine iterP_ret ?_)
          refine endP.conv (r' := ⟨.sc (.ro .u8 (part1 ((FwwU32 p0 p2 (IntKind.wrap .u32 (((itr (FwwIntzl0) k0 p3).length : Nat) : Int))) ++ (itr (FwwIntzl0) k0 p3)) ((p0 + 4) + ((itr (FwwIntzl0) k0 p3).length)) 0 ((p0 + 4) + ((itr (FwwIntzl0) k0 p3).length)))), [none]⟩) (by simp only [FwwIntz, hq0, hf0, hb0, h5, sel_true, sel_false]) ?_
          exact endP.ret [] (True ∧ True) (by kernel_rfl) (by kernel_rfl) ⟨trivial, trivial⟩
    ·
      have h1' := of_decide_eq_false h1
      refine Tri.seq_region [(8, qb false)] none [13, 0, 1] [0] ((True ∧ True) ∧ ((True ∧ True) ∧ ((True ∧ True) ∧ ((True ∧ ((decide ((((z0.length : Nat) : Int) : Int) > 0)) = false)) ∧ ((True ∧ True) ∧ ((True ∧ True) ∧ ((True ∧ True) ∧ ((True ∧ True) ∧ ((True ∧ True) ∧ True)))))))))
          ([(13, .sc (.b false)), (0, .sc (.sl 0 0 p0 1 none)), (1, .sc (.ro .u8 z0))], [(0, .ints .u8 p0 p2)])
          176 (by kernel_rfl) rfl (by kernel_rfl) (⟨⟨trivial, trivial⟩, ⟨⟨trivial, trivial⟩, ⟨⟨trivial, trivial⟩, ⟨⟨trivial, (h1)⟩, ⟨⟨trivial, trivial⟩, ⟨⟨trivial, trivial⟩, ⟨⟨trivial, trivial⟩, ⟨⟨trivial, trivial⟩, ⟨⟨trivial, trivial⟩, trivial⟩⟩⟩⟩⟩⟩⟩⟩⟩) ?_
      refine Tri.cond_false (by kernel_rfl) ?_
      refine Tri.exit ?_
      have hend0 : k0 = p3.length := by (have := of_decide_eq_false h1; omega)
      subst hend0; subst hz0
      have hf0 : fstB (FwwIntzs0 p3) p3.length = p3.length := fst_none hJ0.2
      have hb0 : Nat.blt p3.length p3.length = false := blt_self _
      have hq0 : Nat.blt (fstB (FwwIntzs0 p3) p3.length) p3.length = false := by rw [hf0]; exact hb0
      change Tri _ _ _ _ _ _
      refine Tri.seq ?_
      refine Tri.split (decide (((((itr (FwwIntzl0) p3.length p3).length : Nat) : Int) : Int) > 0)) (fun h11 => ?_) (fun h11 => ?_)
      ·
        have h11' := of_decide_eq_true h11
        refine Tri.len 0 rfl (fun hl12 => ?_)
        refine Tri.seq_region [(19, qb true)] none [24, 0, 1] [0] ((True ∧ True) ∧ ((True ∧ True) ∧ ((True ∧ True) ∧ ((True ∧ ((decide (((((itr (FwwIntzl0) p3.length p3).length : Nat) : Int) : Int) > 0)) = true)) ∧ ((True ∧ True) ∧ ((((0 : Int) ≤ 0 ∧ 0 < ((itr (FwwIntzl0) p3.length p3).length : Int)) ∧ True) ∧ (((0 < (itr (FwwIntzl0) p3.length p3).length) ∧ True) ∧ ((True ∧ True) ∧ ((True ∧ True) ∧ True)))))))))
            ([(24, .sc (.b (decide (((itr (FwwIntzl0) p3.length p3).getD 0 0 : Int) ≥ 128)))), (0, .sc (.sl 0 0 p0 1 none)), (1, .sc (.ro .u8 (itr (FwwIntzl0) p3.length p3)))], [(0, .ints .u8 p0 p2)])
            320 (by kernel_rfl) rfl (by kernel_rfl) (⟨⟨trivial, trivial⟩, ⟨⟨trivial, trivial⟩, ⟨⟨trivial, trivial⟩, ⟨⟨trivial, (h11)⟩, ⟨⟨trivial, trivial⟩, ⟨⟨(by first | omega | (rw [adr_eq]; omega) | exact iAnd_nn _ _ | exact iSub_nn _ _ | exact part1_le (by omega) (by first | omega | (simp only [List.length_append]; omega)) | decide), trivial⟩, ⟨⟨(by first | omega | (rw [adr_eq]; omega) | exact iAnd_nn _ _ | exact iSub_nn _ _ | exact part1_le (by omega) (by first | omega | (simp only [List.length_append]; omega)) | decide), trivial⟩, ⟨⟨trivial, trivial⟩, ⟨⟨trivial, trivial⟩, trivial⟩⟩⟩⟩⟩⟩⟩⟩⟩) ?_
        refine Tri.cond (x := (decide (((itr (FwwIntzl0) p3.length p3).getD 0 0 : Int) ≥ 128))) (by kernel_rfl) (fun h13 => ?_) (fun h13 => ?_)
        ·
          have h13' := of_decide_eq_true h13
          refine Tri.len 0 rfl (fun hl14 => ?_)
          refine Tri.seq_region [(28, qi ((((itr (FwwIntzl0) p3.length p3).length) + 1 : Nat) : Int))] none [4] [464] ((True ∧ True) ∧ ((True ∧ True) ∧ ((True ∧ True) ∧ ((True ∧ ((iAdd .i64 (((itr (FwwIntzl0) p3.length p3).length : Nat) : Int) 1) = ((((itr (FwwIntzl0) p3.length p3).length) + 1 : Nat) : Int))) ∧ ((True ∧ True) ∧ (((True ∧ ((p0 = p0) ∧ (p0 ≤ 1000000000))) ∧ True) ∧ ((((((0 < 1) ∧ (1 = 1)) ∧ True) ∧ ((1 * 1 ≤ 16777216) ∧ (1 = 1))) ∧ True) ∧ ((((((True ∧ (1 = 1)) ∧ ((0 < 1) ∧ ((((p0 + 4) + 1) * 1 ≤ 140737488355328) ∧ ((p0 + 4) + 1 ≤ 140737488355328)))) ∧ (1 = 1 * 1)) ∧ ((1 = 1) ∧ (0 + (p0 + 4) * 1 = p0 + 4))) ∧ True) ∧ ((True ∧ True) ∧ ((((((True ∧ (1 = 1)) ∧ ((0 < 1) ∧ (((((p0 + 4) + 1) + ((itr (FwwIntzl0) p3.length p3).length)) * 1 ≤ 140737488355328) ∧ (((p0 + 4) + 1) + ((itr (FwwIntzl0) p3.length p3).length) ≤ 140737488355328)))) ∧ ((itr (FwwIntzl0) p3.length p3).length = ((itr (FwwIntzl0) p3.length p3).length) * 1)) ∧ ((1 = 1) ∧ (0 + ((p0 + 4) + 1) * 1 = (p0 + 4) + 1))) ∧ True) ∧ ((True ∧ True) ∧ True)))))))))))
              ([(4, .sc (.sl 464 0 (((p0 + 4) + 1) + ((itr (FwwIntzl0) p3.length p3).length)) 1 none))], [(464, .ints .u8 (((p0 + 4) + 1) + ((itr (FwwIntzl0) p3.length p3).length)) (((FwwU32 p0 p2 (IntKind.wrap .u32 ((((itr (FwwIntzl0) p3.length p3).length) + 1 : Nat) : Int))) ++ [0]) ++ (itr (FwwIntzl0) p3.length p3)))])
              496 (by kernel_rfl) rfl (by kernel_rfl) (⟨⟨trivial, trivial⟩, ⟨⟨trivial, trivial⟩, ⟨⟨trivial, trivial⟩, ⟨⟨trivial, (iAdd_nat (a := (itr (FwwIntzl0) p3.length p3).length) (b := 1) (by omega))⟩, ⟨⟨trivial, trivial⟩, ⟨⟨⟨trivial, ⟨(rfl), (by first | omega | (rw [adr_eq]; omega) | exact iAnd_nn _ _ | exact iSub_nn _ _ | exact part1_le (by omega) (by first | omega | (simp only [List.length_append]; omega)) | decide)⟩⟩, trivial⟩, ⟨⟨⟨⟨⟨(by first | omega | (rw [adr_eq]; omega) | exact iAnd_nn _ _ | exact iSub_nn _ _ | exact part1_le (by omega) (by first | omega | (simp only [List.length_append]; omega)) | decide), (rfl)⟩, trivial⟩, ⟨(by first | omega | (rw [adr_eq]; omega) | exact iAnd_nn _ _ | exact iSub_nn _ _ | exact part1_le (by omega) (by first | omega | (simp only [List.length_append]; omega)) | decide), (rfl)⟩⟩, trivial⟩, ⟨⟨⟨⟨⟨⟨trivial, (rfl)⟩, ⟨(by first | omega | (rw [adr_eq]; omega) | exact iAnd_nn _ _ | exact iSub_nn _ _ | exact part1_le (by omega) (by first | omega | (simp only [List.length_append]; omega)) | decide), ⟨(by first | omega | (rw [adr_eq]; omega) | exact iAnd_nn _ _ | exact iSub_nn _ _ | exact part1_le (by omega) (by first | omega | (simp only [List.length_append]; omega)) | decide), (by first | omega | (rw [adr_eq]; omega) | exact iAnd_nn _ _ | exact iSub_nn _ _ | exact part1_le (by omega) (by first | omega | (simp only [List.length_append]; omega)) | decide)⟩⟩⟩, (by first | omega | (rw [adr_eq]; omega) | exact iAnd_nn _ _ | exact iSub_nn _ _ | exact part1_le (by omega) (by first | omega | (simp only [List.length_append]; omega)) | decide)⟩, ⟨(rfl), (by first | omega | (rw [adr_eq]; omega) | exact iAnd_nn _ _ | exact iSub_nn _ _ | exact part1_le (by omega) (by first | omega | (simp only [List.length_append]; omega)) | decide)⟩⟩, trivial⟩, ⟨⟨trivial, trivial⟩, ⟨⟨⟨⟨⟨⟨trivial, (rfl)⟩, ⟨(by first | omega | (rw [adr_eq]; omega) | exact iAnd_nn _ _ | exact iSub_nn _ _ | exact part1_le (by omega) (by first | omega | (simp only [List.length_append]; omega)) | decide), ⟨(by first | omega | (rw [adr_eq]; omega) | exact iAnd_nn _ _ | exact iSub_nn _ _ | exact part1_le (by omega) (by first | omega | (simp only [List.length_append]; omega)) | decide), (by first | omega | (rw [adr_eq]; omega) | exact iAnd_nn _ _ | exact iSub_nn _ _ | exact part1_le (by omega) (by first | omega | (simp only [List.length_append]; omega)) | decide)⟩⟩⟩, (by first | omega | (rw [adr_eq]; omega) | exact iAnd_nn _ _ | exact iSub_nn _ _ | exact part1_le (by omega) (by first | omega | (simp only [List.length_append]; omega)) | decide)⟩, ⟨(rfl), (by first | omega | (rw [adr_eq]; omega) | exact iAnd_nn _ _ | exact iSub_nn _ _ | exact part1_le (by omega) (by first | omega | (simp only [List.length_append]; omega)) | decide)⟩⟩, trivial⟩, ⟨⟨trivial, trivial⟩, trivial⟩⟩⟩⟩⟩⟩⟩⟩⟩⟩⟩) ?_
          refine Tri.sub (Sub.still (s' := ([(4, .sc (.ro .u8 (part1 (((FwwU32 p0 p2 (IntKind.wrap .u32 ((((itr (FwwIntzl0) p3.length p3).length) + 1 : Nat) : Int))) ++ [0]) ++ (itr (FwwIntzl0) p3.length p3)) (((p0 + 4) + 1) + ((itr (FwwIntzl0) p3.length p3).length)) 0 (((p0 + 4) + 1) + ((itr (FwwIntzl0) p3.length p3).length)))))], [])) 464 (.ints .u8 (((p0 + 4) + 1) + ((itr (FwwIntzl0) p3.length p3).length)) (((FwwU32 p0 p2 (IntKind.wrap .u32 ((((itr (FwwIntzl0) p3.length p3).length) + 1 : Nat) : Int))) ++ [0]) ++ (itr (FwwIntzl0) p3.length p3))) (by kernel_rfl) (show 0 + (((p0 + 4) + 1) + ((itr (FwwIntzl0) p3.length p3).length)) ≤ ((p0 + 4) + 1) + ((itr (FwwIntzl0) p3.length p3).length) from by first | omega | (rw [adr_eq]; omega) | exact iAnd_nn _ _ | exact iSub_nn _ _ | exact part1_le (by omega) (by first | omega | (simp only [List.length_append]; omega)) | decide) (by kernel_rfl)) ?_
          refine Tri.ret ?_
          repeat (first | refine thenP_ret ?_ | refine blkP_ret ?_ | refine countP_ret ?_ | refine joinP_ret ?_ | refine iterP_ret ?_)
          refine endP.conv (r' := ⟨.sc (.ro .u8 (part1 (((FwwU32 p0 p2 (IntKind.wrap .u32 ((((itr (FwwIntzl0) p3.length p3).length) + 1 : Nat) : Int))) ++ [0]) ++ (itr (FwwIntzl0) p3.length p3)) (((p0 + 4) + 1) + ((itr (FwwIntzl0) p3.length p3).length)) 0 (((p0 + 4) + 1) + ((itr (FwwIntzl0) p3.length p3).length)))), [none]⟩) (by simp only [FwwIntz, hq0, hf0, hb0, h11, h13, sel_true, sel_false]) ?_
          exact endP.ret [] (True ∧ True) (by kernel_rfl) (by kernel_rfl) ⟨trivial, trivial⟩
        ·
          have h13' := of_decide_eq_false h13
          refine Tri.skip ?_
          change Tri _ _ _ _ _ _
          refine Tri.len 0 rfl (fun hl15 => ?_)
          refine Tri.seq_region [] none [4] [416] ((True ∧ True) ∧ ((True ∧ True) ∧ ((True ∧ True) ∧ ((True ∧ True) ∧ (((True ∧ ((p0 = p0) ∧ (p0 ≤ 1000000000))) ∧ True) ∧ ((True ∧ True) ∧ ((((((True ∧ (1 = 1)) ∧ ((0 < 1) ∧ ((((p0 + 4) + ((itr (FwwIntzl0) p3.length p3).length)) * 1 ≤ 140737488355328) ∧ ((p0 + 4) + ((itr (FwwIntzl0) p3.length p3).length) ≤ 140737488355328)))) ∧ ((itr (FwwIntzl0) p3.length p3).length = ((itr (FwwIntzl0) p3.length p3).length) * 1)) ∧ ((1 = 1) ∧ (0 + (p0 + 4) * 1 = p0 + 4))) ∧ True) ∧ ((True ∧ True) ∧ True))))))))
              ([(4, .sc (.sl 416 0 ((p0 + 4) + ((itr (FwwIntzl0) p3.length p3).length)) 1 none))], [(416, .ints .u8 ((p0 + 4) + ((itr (FwwIntzl0) p3.length p3).length)) ((FwwU32 p0 p2 (IntKind.wrap .u32 (((itr (FwwIntzl0) p3.length p3).length : Nat) : Int))) ++ (itr (FwwIntzl0) p3.length p3)))])
              448 (by kernel_rfl) rfl (by kernel_rfl) (⟨⟨trivial, trivial⟩, ⟨⟨trivial, trivial⟩, ⟨⟨trivial, trivial⟩, ⟨⟨trivial, trivial⟩, ⟨⟨⟨trivial, ⟨(rfl), (by first | omega | (rw [adr_eq]; omega) | exact iAnd_nn _ _ | exact iSub_nn _ _ | exact part1_le (by omega) (by first | omega | (simp only [List.length_append]; omega)) | decide)⟩⟩, trivial⟩, ⟨⟨trivial, trivial⟩, ⟨⟨⟨⟨⟨⟨trivial, (rfl)⟩, ⟨(by first | omega | (rw [adr_eq]; omega) | exact iAnd_nn _ _ | exact iSub_nn _ _ | exact part1_le (by omega) (by first | omega | (simp only [List.length_append]; omega)) | decide), ⟨(by first | omega | (rw [adr_eq]; omega) | exact iAnd_nn _ _ | exact iSub_nn _ _ | exact part1_le (by omega) (by first | omega | (simp only [List.length_append]; omega)) | decide), (by first | omega | (rw [adr_eq]; omega) | exact iAnd_nn _ _ | exact iSub_nn _ _ | exact part1_le (by omega) (by first | omega | (simp only [List.length_append]; omega)) | decide)⟩⟩⟩, (by first | omega | (rw [adr_eq]; omega) | exact iAnd_nn _ _ | exact iSub_nn _ _ | exact part1_le (by omega) (by first | omega | (simp only [List.length_append]; omega)) | decide)⟩, ⟨(rfl), (by first | omega | (rw [adr_eq]; omega) | exact iAnd_nn _ _ | exact iSub_nn _ _ | exact part1_le (by omega) (by first | omega | (simp only [List.length_append]; omega)) | decide)⟩⟩, trivial⟩, ⟨⟨trivial, trivial⟩, trivial⟩⟩⟩⟩⟩⟩⟩⟩) ?_
          refine Tri.sub (Sub.still (s' := ([(4, .sc (.ro .u8 (part1 ((FwwU32 p0 p2 (IntKind.wrap .u32 (((itr (FwwIntzl0) p3.length p3).length : Nat) : Int))) ++ (itr (FwwIntzl0) p3.length p3)) ((p0 + 4) + ((itr (FwwIntzl0) p3.length p3).length)) 0 ((p0 + 4) + ((itr (FwwIntzl0) p3.length p3).length)))))], [])) 416 (.ints .u8 ((p0 + 4) + ((itr (FwwIntzl0) p3.length p3).length)) ((FwwU32 p0 p2 (IntKind.wrap .u32 (((itr (FwwIntzl0) p3.length p3).length : Nat) : Int))) ++ (itr (FwwIntzl0) p3.length p3))) (by kernel_rfl) (show 0 + ((p0 + 4) + ((itr (FwwIntzl0) p3.length p3).length)) ≤ (p0 + 4) + ((itr (FwwIntzl0) p3.length p3).length) from by first | omega | (rw [adr_eq]; omega) | exact iAnd_nn _ _ | exact iSub_nn _ _ | exact part1_le (by omega) (by first | omega | (simp only [List.length_append]; omega)) | decide) (by kernel_rfl)) ?_
          refine Tri.ret ?_
          repeat (first | refine thenP_ret ?_ | refine blkP_ret ?_ | refine countP_ret ?_ | refine joinP_ret ?_ | refine iterP_ret ?_)
          refine endP.conv (r' := ⟨.sc (.ro .u8 (part1 ((FwwU32 p0 p2 (IntKind.wrap .u32 (((itr (FwwIntzl0) p3.length p3).length : Nat) : Int))) ++ (itr (FwwIntzl0) p3.length p3)) ((p0 + 4) + ((itr (FwwIntzl0) p3.length p3).length)) 0 ((p0 + 4) + ((itr (FwwIntzl0) p3.length p3).length)))), [none]⟩) (by simp only [FwwIntz, hq0, hf0, hb0, h11, h13, sel_true, sel_false]) ?_
          exact endP.ret [] (True ∧ True) (by kernel_rfl) (by kernel_rfl) ⟨trivial, trivial⟩
      ·
        have h11' := of_decide_eq_false h11
        refine Tri.seq_region [(19, qb false)] none [24, 0, 1] [0] ((True ∧ True) ∧ ((True ∧ True) ∧ ((True ∧ True) ∧ ((True ∧ ((decide (((((itr (FwwIntzl0) p3.length p3).length : Nat) : Int) : Int) > 0)) = false)) ∧ ((True ∧ True) ∧ ((True ∧ True) ∧ ((True ∧ True) ∧ ((True ∧ True) ∧ ((True ∧ True) ∧ True)))))))))
            ([(24, .sc (.b false)), (0, .sc (.sl 0 0 p0 1 none)), (1, .sc (.ro .u8 (itr (FwwIntzl0) p3.length p3)))], [(0, .ints .u8 p0 p2)])
            320 (by kernel_rfl) rfl (by kernel_rfl) (⟨⟨trivial, trivial⟩, ⟨⟨trivial, trivial⟩, ⟨⟨trivial, trivial⟩, ⟨⟨trivial, (h11)⟩, ⟨⟨trivial, trivial⟩, ⟨⟨trivial, trivial⟩, ⟨⟨trivial, trivial⟩, ⟨⟨trivial, trivial⟩, ⟨⟨trivial, trivial⟩, trivial⟩⟩⟩⟩⟩⟩⟩⟩⟩) ?_
        refine Tri.cond_false (by kernel_rfl) ?_
        refine Tri.skip ?_
        change Tri _ _ _ _ _ _
        refine Tri.len 0 rfl (fun hl16 => ?_)
        refine Tri.seq_region [] none [4] [416] ((True ∧ True) ∧ ((True ∧ True) ∧ ((True ∧ True) ∧ ((True ∧ True) ∧ (((True ∧ ((p0 = p0) ∧ (p0 ≤ 1000000000))) ∧ True) ∧ ((True ∧ True) ∧ ((((((True ∧ (1 = 1)) ∧ ((0 < 1) ∧ ((((p0 + 4) + ((itr (FwwIntzl0) p3.length p3).length)) * 1 ≤ 140737488355328) ∧ ((p0 + 4) + ((itr (FwwIntzl0) p3.length p3).length) ≤ 140737488355328)))) ∧ ((itr (FwwIntzl0) p3.length p3).length = ((itr (FwwIntzl0) p3.length p3).length) * 1)) ∧ ((1 = 1) ∧ (0 + (p0 + 4) * 1 = p0 + 4))) ∧ True) ∧ ((True ∧ True) ∧ True))))))))
            ([(4, .sc (.sl 416 0 ((p0 + 4) + ((itr (FwwIntzl0) p3.length p3).length)) 1 none))], [(416, .ints .u8 ((p0 + 4) + ((itr (FwwIntzl0) p3.length p3).length)) ((FwwU32 p0 p2 (IntKind.wrap .u32 (((itr (FwwIntzl0) p3.length p3).length : Nat) : Int))) ++ (itr (FwwIntzl0) p3.length p3)))])
            448 (by kernel_rfl) rfl (by kernel_rfl) (⟨⟨trivial, trivial⟩, ⟨⟨trivial, trivial⟩, ⟨⟨trivial, trivial⟩, ⟨⟨trivial, trivial⟩, ⟨⟨⟨trivial, ⟨(rfl), (by first | omega | (rw [adr_eq]; omega) | exact iAnd_nn _ _ | exact iSub_nn _ _ | exact part1_le (by omega) (by first | omega | (simp only [List.length_append]; omega)) | decide)⟩⟩, trivial⟩, ⟨⟨trivial, trivial⟩, ⟨⟨⟨⟨⟨⟨trivial, (rfl)⟩, ⟨(by first | omega | (rw [adr_eq]; omega) | exact iAnd_nn _ _ | exact iSub_nn _ _ | exact part1_le (by omega) (by first | omega | (simp only [List.length_append]; omega)) | decide), ⟨(by first | omega | (rw [adr_eq]; omega) | exact iAnd_nn _ _ | exact iSub_nn _ _ | exact part1_le (by omega) (by first | omega | (simp only [List.length_append]; omega)) | decide), (by first | omega | (rw [adr_eq]; omega) | exact iAnd_nn _ _ | exact iSub_nn _ _ | exact part1_le (by omega) (by first | omega | (simp only [List.length_append]; omega)) | decide)⟩⟩⟩, (by first | omega | (rw [adr_eq]; omega) | exact iAnd_nn _ _ | exact iSub_nn _ _ | exact part1_le (by omega) (by first | omega | (simp only [List.length_append]; omega)) | decide)⟩, ⟨(rfl), (by first | omega | (rw [adr_eq]; omega) | exact iAnd_nn _ _ | exact iSub_nn _ _ | exact part1_le (by omega) (by first | omega | (simp only [List.length_append]; omega)) | decide)⟩⟩, trivial⟩, ⟨⟨trivial, trivial⟩, trivial⟩⟩⟩⟩⟩⟩⟩⟩) ?_
        refine Tri.sub (Sub.still (s' := ([(4, .sc (.ro .u8 (part1 ((FwwU32 p0 p2 (IntKind.wrap .u32 (((itr (FwwIntzl0) p3.length p3).length : Nat) : Int))) ++ (itr (FwwIntzl0) p3.length p3)) ((p0 + 4) + ((itr (FwwIntzl0) p3.length p3).length)) 0 ((p0 + 4) + ((itr (FwwIntzl0) p3.length p3).length)))))], [])) 416 (.ints .u8 ((p0 + 4) + ((itr (FwwIntzl0) p3.length p3).length)) ((FwwU32 p0 p2 (IntKind.wrap .u32 (((itr (FwwIntzl0) p3.length p3).length : Nat) : Int))) ++ (itr (FwwIntzl0) p3.length p3))) (by kernel_rfl) (show 0 + ((p0 + 4) + ((itr (FwwIntzl0) p3.length p3).length)) ≤ (p0 + 4) + ((itr (FwwIntzl0) p3.length p3).length) from by first | omega | (rw [adr_eq]; omega) | exact iAnd_nn _ _ | exact iSub_nn _ _ | exact part1_le (by omega) (by first | omega | (simp only [List.length_append]; omega)) | decide) (by kernel_rfl)) ?_
        refine Tri.ret ?_
        repeat (first | refine thenP_ret ?_ | refine blkP_ret ?_ | refine countP_ret ?_ | refine joinP_ret ?_ | refine iterP_ret ?_)
        refine endP.conv (r' := ⟨.sc (.ro .u8 (part1 ((FwwU32 p0 p2 (IntKind.wrap .u32 (((itr (FwwIntzl0) p3.length p3).length : Nat) : Int))) ++ (itr (FwwIntzl0) p3.length p3)) ((p0 + 4) + ((itr (FwwIntzl0) p3.length p3).length)) 0 ((p0 + 4) + ((itr (FwwIntzl0) p3.length p3).length)))), [none]⟩) (by simp only [FwwIntz, hq0, hf0, hb0, h11, sel_true, sel_false]) ?_
        exact endP.ret [] (True ∧ True) (by kernel_rfl) (by kernel_rfl) ⟨trivial, trivial⟩




noncomputable def FwwFlag (p0 : Nat) (p2 : List Int) (p3 : Bool) : List Int :=
  (sel p3 (p2 ++ [1]) (p2 ++ [0]))

noncomputable def SwwFlag : List AV → List Blk → Option (Prop × Ret)
  | [.sc (.sl 0 0 p0 1 none), .sc (.b p3)], [.ints .u8 p1 p2] => some (((p0 = p1) ∧ (p0 ≤ 1000000000)), ⟨.sc (.sl 1 0 (p0 + 1) 1 none), [none, some (.ints .u8 (p0 + 1) (FwwFlag p0 p2 p3))]⟩)
  | _, _ => none

noncomputable def BwwFlag : Bs := { P := Go.Proofs.Try.prog, G := noG, tab := tabOf [], n := 12 }

theorem BwwFlag.ok : BwwFlag.Ok := ⟨tabOk (P := Go.Proofs.Try.prog) (G := noG) (l := []) True.intro, mixed⟩

theorem KwwFlag : Known Go.Proofs.Try.prog noG 11 ⟨1, 1, SwwFlag⟩ := by
  refine Known.walk (B := BwwFlag) (fn := Go.Proofs.Try.f11) BwwFlag.ok (by kernel_rfl) rfl (by kernel_rfl) (by kernel_rfl) (by decide) (by decide) ?_
  · intro E args ks C r h hC hlen
    simp only at h
    unfold SwwFlag at h
    split at h
    rotate_left
    · cases h
    rename_i p0 p3 p1 p2
    cases h
    simp only [lens] at hlen
    have hEp1 := hC.1
    have hC := hC.2
    subst hEp1
    refine ⟨show 2 ≤ 12 from by decide, ?_⟩
    refine Tri.sub (Sub.of_eq (show _ = ([(0, .sc (.sl 0 0 p0 1 none)), (1, .sc (.b p3))], [(0, .ints .u8 p0 p2)]) from rfl)) ?_
    refine Tri.seq_region [] none [0, 1] [0] ((True ∧ True) ∧ True)
        ([(0, .sc (.sl 0 0 p0 1 none)), (1, .sc (.b p3))], [(0, .ints .u8 p0 p2)])
        32 (by kernel_rfl) rfl (by kernel_rfl) (⟨⟨trivial, trivial⟩, trivial⟩) ?_
    refine Tri.seq ?_
    refine Tri.seq_region [] none [5, 0] [0] ((True ∧ True) ∧ True)
        ([(5, .sc (.b p3)), (0, .sc (.sl 0 0 p0 1 none))], [(0, .ints .u8 p0 p2)])
        48 (by kernel_rfl) rfl (by kernel_rfl) (⟨⟨trivial, trivial⟩, trivial⟩) ?_
    refine Tri.cond (x := p3) (by kernel_rfl) (fun h1 => ?_) (fun h1 => ?_)
    ·
      refine Tri.len 0 rfl (fun hl2 => ?_)
      refine Tri.seq_region [] none [4] [80] ((True ∧ True) ∧ ((((((0 < 1) ∧ (1 = 1)) ∧ True) ∧ ((1 * 1 ≤ 16777216) ∧ (1 = 1))) ∧ True) ∧ ((((((True ∧ (1 = 1)) ∧ ((0 < 1) ∧ (((p0 + 1) * 1 ≤ 140737488355328) ∧ (p0 + 1 ≤ 140737488355328)))) ∧ (1 = 1 * 1)) ∧ ((1 = 1) ∧ (0 + p0 * 1 = p0))) ∧ True) ∧ ((True ∧ True) ∧ True))))
          ([(4, .sc (.sl 80 0 (p0 + 1) 1 none))], [(80, .ints .u8 (p0 + 1) (p2 ++ [1]))])
          112 (by kernel_rfl) rfl (by kernel_rfl) (⟨⟨trivial, trivial⟩, ⟨⟨⟨⟨⟨(by first | omega | (rw [adr_eq]; omega) | exact iAnd_nn _ _ | exact iSub_nn _ _ | exact part1_le (by omega) (by first | omega | (simp only [List.length_append]; omega)) | decide), (rfl)⟩, trivial⟩, ⟨(by first | omega | (rw [adr_eq]; omega) | exact iAnd_nn _ _ | exact iSub_nn _ _ | exact part1_le (by omega) (by first | omega | (simp only [List.length_append]; omega)) | decide), (rfl)⟩⟩, trivial⟩, ⟨⟨⟨⟨⟨⟨trivial, (rfl)⟩, ⟨(by first | omega | (rw [adr_eq]; omega) | exact iAnd_nn _ _ | exact iSub_nn _ _ | exact part1_le (by omega) (by first | omega | (simp only [List.length_append]; omega)) | decide), ⟨(by first | omega | (rw [adr_eq]; omega) | exact iAnd_nn _ _ | exact iSub_nn _ _ | exact part1_le (by omega) (by first | omega | (simp only [List.length_append]; omega)) | decide), (by first | omega | (rw [adr_eq]; omega) | exact iAnd_nn _ _ | exact iSub_nn _ _ | exact part1_le (by omega) (by first | omega | (simp only [List.length_append]; omega)) | decide)⟩⟩⟩, (by first | omega | (rw [adr_eq]; omega) | exact iAnd_nn _ _ | exact iSub_nn _ _ | exact part1_le (by omega) (by first | omega | (simp only [List.length_append]; omega)) | decide)⟩, ⟨(rfl), (by first | omega | (rw [adr_eq]; omega) | exact iAnd_nn _ _ | exact iSub_nn _ _ | exact part1_le (by omega) (by first | omega | (simp only [List.length_append]; omega)) | decide)⟩⟩, trivial⟩, ⟨⟨trivial, trivial⟩, trivial⟩⟩⟩⟩) ?_
      refine Tri.ret ?_
      repeat (first | refine thenP_ret ?_ | refine blkP_ret ?_ | refine countP_ret ?_ | refine joinP_ret ?_ | refine iterP_ret ?_)
      refine endP.conv (r' := ⟨.sc (.sl 1 0 (p0 + 1) 1 none), [none, some (.ints .u8 (p0 + 1) (p2 ++ [1]))]⟩) (by simp only [FwwFlag, h1, sel_true, sel_false]) ?_
      exact endP.ret [(80, 1)] (True ∧ True) (by kernel_rfl) (by kernel_rfl) ⟨trivial, trivial⟩
    ·
      refine Tri.skip ?_
      change Tri _ _ _ _ _ _
      refine Tri.len 0 rfl (fun hl3 => ?_)
      refine Tri.seq_region [] none [4] [80] ((True ∧ True) ∧ ((((((0 < 1) ∧ (1 = 1)) ∧ True) ∧ ((1 * 1 ≤ 16777216) ∧ (1 = 1))) ∧ True) ∧ ((((((True ∧ (1 = 1)) ∧ ((0 < 1) ∧ (((p0 + 1) * 1 ≤ 140737488355328) ∧ (p0 + 1 ≤ 140737488355328)))) ∧ (1 = 1 * 1)) ∧ ((1 = 1) ∧ (0 + p0 * 1 = p0))) ∧ True) ∧ ((True ∧ True) ∧ True))))
          ([(4, .sc (.sl 80 0 (p0 + 1) 1 none))], [(80, .ints .u8 (p0 + 1) (p2 ++ [0]))])
          112 (by kernel_rfl) rfl (by kernel_rfl) (⟨⟨trivial, trivial⟩, ⟨⟨⟨⟨⟨(by first | omega | (rw [adr_eq]; omega) | exact iAnd_nn _ _ | exact iSub_nn _ _ | exact part1_le (by omega) (by first | omega | (simp only [List.length_append]; omega)) | decide), (rfl)⟩, trivial⟩, ⟨(by first | omega | (rw [adr_eq]; omega) | exact iAnd_nn _ _ | exact iSub_nn _ _ | exact part1_le (by omega) (by first | omega | (simp only [List.length_append]; omega)) | decide), (rfl)⟩⟩, trivial⟩, ⟨⟨⟨⟨⟨⟨trivial, (rfl)⟩, ⟨(by first | omega | (rw [adr_eq]; omega) | exact iAnd_nn _ _ | exact iSub_nn _ _ | exact part1_le (by omega) (by first | omega | (simp only [List.length_append]; omega)) | decide), ⟨(by first | omega | (rw [adr_eq]; omega) | exact iAnd_nn _ _ | exact iSub_nn _ _ | exact part1_le (by omega) (by first | omega | (simp only [List.length_append]; omega)) | decide), (by first | omega | (rw [adr_eq]; omega) | exact iAnd_nn _ _ | exact iSub_nn _ _ | exact part1_le (by omega) (by first | omega | (simp only [List.length_append]; omega)) | decide)⟩⟩⟩, (by first | omega | (rw [adr_eq]; omega) | exact iAnd_nn _ _ | exact iSub_nn _ _ | exact part1_le (by omega) (by first | omega | (simp only [List.length_append]; omega)) | decide)⟩, ⟨(rfl), (by first | omega | (rw [adr_eq]; omega) | exact iAnd_nn _ _ | exact iSub_nn _ _ | exact part1_le (by omega) (by first | omega | (simp only [List.length_append]; omega)) | decide)⟩⟩, trivial⟩, ⟨⟨trivial, trivial⟩, trivial⟩⟩⟩⟩) ?_
      refine Tri.ret ?_
      repeat (first | refine thenP_ret ?_ | refine blkP_ret ?_ | refine countP_ret ?_ | refine joinP_ret ?_ | refine iterP_ret ?_)
      refine endP.conv (r' := ⟨.sc (.sl 1 0 (p0 + 1) 1 none), [none, some (.ints .u8 (p0 + 1) (p2 ++ [0]))]⟩) (by simp only [FwwFlag, h1, sel_true, sel_false]) ?_
      exact endP.ret [(80, 1)] (True ∧ True) (by kernel_rfl) (by kernel_rfl) ⟨trivial, trivial⟩




noncomputable def FwwIntnl0 (k0 : Nat) (z0 : List Int) : List Int :=
  (z0.drop 1).take (z0.length - 1)

noncomputable def FwwIntns0 (p3 : List Int) (k0 : Nat) : Bool :=
  (sel (((itr (FwwIntnl0) k0 p3).getD 0 0 : Int) == 0) false true)

noncomputable def FwwIntn (p3 : List Int) : List Int :=
  (sel (Nat.blt (fstB (FwwIntns0 p3) p3.length) p3.length) (sel (decide (((((itr (FwwIntnl0) (fstB (FwwIntns0 p3) p3.length) p3).length : Nat) : Int) : Int) > 0)) (sel (decide (((itr (FwwIntnl0) (fstB (FwwIntns0 p3) p3.length) p3).getD 0 0 : Int) ≥ 128)) (((FwwU32n (IntKind.wrap .u32 ((((itr (FwwIntnl0) (fstB (FwwIntns0 p3) p3.length) p3).length) + 1 : Nat) : Int))) ++ [0]) ++ (itr (FwwIntnl0) (fstB (FwwIntns0 p3) p3.length) p3)) ((FwwU32n (IntKind.wrap .u32 (((itr (FwwIntnl0) (fstB (FwwIntns0 p3) p3.length) p3).length : Nat) : Int))) ++ (itr (FwwIntnl0) (fstB (FwwIntns0 p3) p3.length) p3))) ((FwwU32n (IntKind.wrap .u32 (((itr (FwwIntnl0) (fstB (FwwIntns0 p3) p3.length) p3).length : Nat) : Int))) ++ (itr (FwwIntnl0) (fstB (FwwIntns0 p3) p3.length) p3))) (sel (decide (((((itr (FwwIntnl0) p3.length p3).length : Nat) : Int) : Int) > 0)) (sel (decide (((itr (FwwIntnl0) p3.length p3).getD 0 0 : Int) ≥ 128)) (((FwwU32n (IntKind.wrap .u32 ((((itr (FwwIntnl0) p3.length p3).length) + 1 : Nat) : Int))) ++ [0]) ++ (itr (FwwIntnl0) p3.length p3)) ((FwwU32n (IntKind.wrap .u32 (((itr (FwwIntnl0) p3.length p3).length : Nat) : Int))) ++ (itr (FwwIntnl0) p3.length p3))) ((FwwU32n (IntKind.wrap .u32 (((itr (FwwIntnl0) p3.length p3).length : Nat) : Int))) ++ (itr (FwwIntnl0) p3.length p3))))

noncomputable def FwwIntnn0 (p3 : List Int) : Nat :=
  (sel (Nat.blt (fstB (FwwIntns0 p3) p3.length) p3.length) (sel (decide (((((itr (FwwIntnl0) (fstB (FwwIntns0 p3) p3.length) p3).length : Nat) : Int) : Int) > 0)) (sel (decide (((itr (FwwIntnl0) (fstB (FwwIntns0 p3) p3.length) p3).getD 0 0 : Int) ≥ 128)) (5 + ((itr (FwwIntnl0) (fstB (FwwIntns0 p3) p3.length) p3).length)) (4 + ((itr (FwwIntnl0) (fstB (FwwIntns0 p3) p3.length) p3).length))) (4 + ((itr (FwwIntnl0) (fstB (FwwIntns0 p3) p3.length) p3).length))) (sel (decide (((((itr (FwwIntnl0) p3.length p3).length : Nat) : Int) : Int) > 0)) (sel (decide (((itr (FwwIntnl0) p3.length p3).getD 0 0 : Int) ≥ 128)) (5 + ((itr (FwwIntnl0) p3.length p3).length)) (4 + ((itr (FwwIntnl0) p3.length p3).length))) (4 + ((itr (FwwIntnl0) p3.length p3).length))))

noncomputable def SwwIntn : List AV → List Blk → Option (Prop × Ret)
  | [.sc (.nils), .sc (.ro .u8 p3)], [] => some ((p3.length ≤ 1000000000), ⟨.sc (.sl 0 0 (FwwIntnn0 p3) 1 none), [some (.ints .u8 (FwwIntnn0 p3) (FwwIntn p3))]⟩)
  | _, _ => none

noncomputable def BwwIntn : Bs := { P := Go.Proofs.Try.prog, G := noG, tab := tabOf [⟨10, 384, [.val, .val], [], [], ⟨0, 1, SwwU32n⟩⟩, ⟨10, 400, [.val, .val], [], [], ⟨0, 1, SwwU32n⟩⟩], n := 42 }

theorem BwwIntn.ok : BwwIntn.Ok := ⟨tabOk (P := Go.Proofs.Try.prog) (G := noG) (l := [⟨10, 384, [.val, .val], [], [], ⟨0, 1, SwwU32n⟩⟩, ⟨10, 400, [.val, .val], [], [], ⟨0, 1, SwwU32n⟩⟩]) (And.intro KwwU32n (And.intro KwwU32n True.intro)), mixed⟩

theorem KwwIntn : Known Go.Proofs.Try.prog noG 6 ⟨0, 1, SwwIntn⟩ := by
  refine Known.walk (B := BwwIntn) (fn := Go.Proofs.Try.f6) BwwIntn.ok (by kernel_rfl) rfl (by kernel_rfl) (by kernel_rfl) (by decide) (by decide) ?_
  · intro E args ks C r h hC hlen
    simp only at h
    unfold SwwIntn at h
    split at h
    rotate_left
    · cases h
    rename_i p3
    cases h
    simp only [lens] at hlen
    refine ⟨show 2 ≤ 42 from by decide, ?_⟩
    refine Tri.sub (Sub.of_eq (show _ = ([(0, .sc (.nils)), (1, .sc (.ro .u8 p3))], []) from rfl)) ?_
    refine Tri.seq_region [] none [0, 1] [] ((True ∧ True) ∧ True)
        ([(0, .sc (.nils)), (1, .sc (.ro .u8 p3))], [])
        32 (by kernel_rfl) rfl (by kernel_rfl) (⟨⟨trivial, trivial⟩, trivial⟩) ?_
    refine Tri.seq ?_
    refine Tri.block ?_
    refine Tri.count 32 p3.length (FwwIntnl0) p3 (fun k0 z0 => z0.length = p3.length - k0 ∧ (∀ j, j < k0 → (FwwIntns0 p3) j = false)) (fun k0 z0 => ([(0, .sc (.nils)), (1, .sc (.ro .u8 z0))], [])) (⟨(by omega), (fun j hj => absurd hj (Nat.not_lt_zero j))⟩) (Sub.of_eq (by kernel_rfl)) ?_
    intro k0 z0 hk0 hz0 hJ0
    refine Tri.seq ?_
    refine Tri.split (decide ((((z0.length : Nat) : Int) : Int) > 0)) (fun h1 => ?_) (fun h1 => ?_)
    ·
      have h1' := of_decide_eq_true h1
      refine Tri.seq_region [(8, qb true)] none [13, 0, 1] [] ((True ∧ True) ∧ ((True ∧ True) ∧ ((True ∧ True) ∧ ((True ∧ ((decide ((((z0.length : Nat) : Int) : Int) > 0)) = true)) ∧ ((True ∧ True) ∧ ((((0 : Int) ≤ 0 ∧ 0 < (z0.length : Int)) ∧ True) ∧ (((0 < z0.length) ∧ True) ∧ ((True ∧ True) ∧ ((True ∧ True) ∧ True)))))))))
          ([(13, .sc (.b ((z0.getD 0 0 : Int) == 0))), (0, .sc (.nils)), (1, .sc (.ro .u8 z0))], [])
          176 (by kernel_rfl) rfl (by kernel_rfl) (⟨⟨trivial, trivial⟩, ⟨⟨trivial, trivial⟩, ⟨⟨trivial, trivial⟩, ⟨⟨trivial, (h1)⟩, ⟨⟨trivial, trivial⟩, ⟨⟨(by first | omega | (rw [adr_eq]; omega) | exact iAnd_nn _ _ | exact iSub_nn _ _ | exact part1_le (by omega) (by first | omega | (simp only [List.length_append]; omega)) | decide), trivial⟩, ⟨⟨(by first | omega | (rw [adr_eq]; omega) | exact iAnd_nn _ _ | exact iSub_nn _ _ | exact part1_le (by omega) (by first | omega | (simp only [List.length_append]; omega)) | decide), trivial⟩, ⟨⟨trivial, trivial⟩, ⟨⟨trivial, trivial⟩, trivial⟩⟩⟩⟩⟩⟩⟩⟩⟩) ?_
      refine Tri.cond (x := ((z0.getD 0 0 : Int) == 0)) (by kernel_rfl) (fun h2 => ?_) (fun h2 => ?_)
      ·
        have h2' := eq_true_i h2
        refine Tri.skip ?_
        change Tri _ _ _ _ _ _
        refine Tri.block ?_
        refine Tri.region' [] none [1, 0] [] ((True ∧ True) ∧ ((((0 : Int) ≤ 1 ∧ (1 : Int) ≤ ((z0.length : Nat) : Int) ∧ ((z0.length : Nat) : Int) ≤ (z0.length : Int)) ∧ True) ∧ ((True ∧ True) ∧ True)))
            ([(1, .sc (.ro .u8 ((z0.drop 1).take (z0.length - 1)))), (0, .sc (.nils))], [])
            224 (by kernel_rfl) rfl (by kernel_rfl) (⟨⟨trivial, trivial⟩, ⟨⟨(by first | omega | (rw [adr_eq]; omega) | exact iAnd_nn _ _ | exact iSub_nn _ _ | exact part1_le (by omega) (by first | omega | (simp only [List.length_append]; omega)) | decide), trivial⟩, ⟨⟨trivial, trivial⟩, trivial⟩⟩⟩) ?_
        repeat (refine blkP_normal ?_)
        refine countP_normal (by have := of_decide_eq_true h1; omega) (⟨(show ((z0.drop 1).take (z0.length - 1)).length = p3.length - (k0 + 1) by simp only [List.length_take, List.length_drop]; omega), (below_succ hJ0.2 (by subst hz0; simp only [FwwIntns0, h1, h2, sel_true, sel_false]))⟩) ?_
        exact Sub.ren (ns := []) (kf := [0, 1]) (by kernel_rfl) (by kernel_rfl)
      ·
        have h2' := eq_false_i h2
        refine Tri.exit ?_
        subst hz0
        have hf0 : fstB (FwwIntns0 p3) p3.length = k0 := fst_found (by omega) hJ0.2 (by simp only [FwwIntns0, h1, h2, sel_true, sel_false])
        have hb0 : Nat.blt k0 p3.length = true := blt_true (by omega)
        have hq0 : Nat.blt (fstB (FwwIntns0 p3) p3.length) p3.length = true := by rw [hf0]; exact hb0
        change Tri _ _ _ _ _ _
        refine Tri.seq ?_
        refine Tri.split (decide (((((itr (FwwIntnl0) k0 p3).length : Nat) : Int) : Int) > 0)) (fun h3 => ?_) (fun h3 => ?_)
        ·
          have h3' := of_decide_eq_true h3
          refine Tri.seq_region [(19, qb true)] none [24, 0, 1] [] ((True ∧ True) ∧ ((True ∧ True) ∧ ((True ∧ True) ∧ ((True ∧ ((decide (((((itr (FwwIntnl0) k0 p3).length : Nat) : Int) : Int) > 0)) = true)) ∧ ((True ∧ True) ∧ ((((0 : Int) ≤ 0 ∧ 0 < ((itr (FwwIntnl0) k0 p3).length : Int)) ∧ True) ∧ (((0 < (itr (FwwIntnl0) k0 p3).length) ∧ True) ∧ ((True ∧ True) ∧ ((True ∧ True) ∧ True)))))))))
              ([(24, .sc (.b (decide (((itr (FwwIntnl0) k0 p3).getD 0 0 : Int) ≥ 128)))), (0, .sc (.nils)), (1, .sc (.ro .u8 (itr (FwwIntnl0) k0 p3)))], [])
              320 (by kernel_rfl) rfl (by kernel_rfl) (⟨⟨trivial, trivial⟩, ⟨⟨trivial, trivial⟩, ⟨⟨trivial, trivial⟩, ⟨⟨trivial, (h3)⟩, ⟨⟨trivial, trivial⟩, ⟨⟨(by first | omega | (rw [adr_eq]; omega) | exact iAnd_nn _ _ | exact iSub_nn _ _ | exact part1_le (by omega) (by first | omega | (simp only [List.length_append]; omega)) | decide), trivial⟩, ⟨⟨(by first | omega | (rw [adr_eq]; omega) | exact iAnd_nn _ _ | exact iSub_nn _ _ | exact part1_le (by omega) (by first | omega | (simp only [List.length_append]; omega)) | decide), trivial⟩, ⟨⟨trivial, trivial⟩, ⟨⟨trivial, trivial⟩, trivial⟩⟩⟩⟩⟩⟩⟩⟩⟩) ?_
          refine Tri.cond (x := (decide (((itr (FwwIntnl0) k0 p3).getD 0 0 : Int) ≥ 128))) (by kernel_rfl) (fun h4 => ?_) (fun h4 => ?_)
          ·
            have h4' := of_decide_eq_true h4
            refine Tri.seq_region [(28, qi ((((itr (FwwIntnl0) k0 p3).length) + 1 : Nat) : Int))] none [4] [464] ((True ∧ True) ∧ ((True ∧ True) ∧ ((True ∧ True) ∧ ((True ∧ ((iAdd .i64 (((itr (FwwIntnl0) k0 p3).length : Nat) : Int) 1) = ((((itr (FwwIntnl0) k0 p3).length) + 1 : Nat) : Int))) ∧ ((True ∧ True) ∧ (((True ∧ True) ∧ True) ∧ ((((((0 < 1) ∧ (1 = 1)) ∧ True) ∧ ((1 * 1 ≤ 16777216) ∧ (1 = 1))) ∧ True) ∧ ((((((True ∧ (1 = 1)) ∧ ((0 < 1) ∧ ((5 * 1 ≤ 140737488355328) ∧ (5 ≤ 140737488355328)))) ∧ (1 = 1 * 1)) ∧ ((1 = 1) ∧ (0 + 4 * 1 = 4))) ∧ True) ∧ ((True ∧ True) ∧ ((((((True ∧ (1 = 1)) ∧ ((0 < 1) ∧ (((5 + ((itr (FwwIntnl0) k0 p3).length)) * 1 ≤ 140737488355328) ∧ (5 + ((itr (FwwIntnl0) k0 p3).length) ≤ 140737488355328)))) ∧ ((itr (FwwIntnl0) k0 p3).length = ((itr (FwwIntnl0) k0 p3).length) * 1)) ∧ ((1 = 1) ∧ (0 + 5 * 1 = 5))) ∧ True) ∧ ((True ∧ True) ∧ True)))))))))))
                ([(4, .sc (.sl 464 0 (5 + ((itr (FwwIntnl0) k0 p3).length)) 1 none))], [(464, .ints .u8 (5 + ((itr (FwwIntnl0) k0 p3).length)) (((FwwU32n (IntKind.wrap .u32 ((((itr (FwwIntnl0) k0 p3).length) + 1 : Nat) : Int))) ++ [0]) ++ (itr (FwwIntnl0) k0 p3)))])
                496 (by kernel_rfl) rfl (by kernel_rfl) (⟨⟨trivial, trivial⟩, ⟨⟨trivial, trivial⟩, ⟨⟨trivial, trivial⟩, ⟨⟨trivial, (iAdd_nat (a := (itr (FwwIntnl0) k0 p3).length) (b := 1) (by omega))⟩, ⟨⟨trivial, trivial⟩, ⟨⟨⟨trivial, trivial⟩, trivial⟩, ⟨⟨⟨⟨⟨(by first | omega | (rw [adr_eq]; omega) | exact iAnd_nn _ _ | exact iSub_nn _ _ | exact part1_le (by omega) (by first | omega | (simp only [List.length_append]; omega)) | decide), (rfl)⟩, trivial⟩, ⟨(by first | omega | (rw [adr_eq]; omega) | exact iAnd_nn _ _ | exact iSub_nn _ _ | exact part1_le (by omega) (by first | omega | (simp only [List.length_append]; omega)) | decide), (rfl)⟩⟩, trivial⟩, ⟨⟨⟨⟨⟨⟨trivial, (rfl)⟩, ⟨(by first | omega | (rw [adr_eq]; omega) | exact iAnd_nn _ _ | exact iSub_nn _ _ | exact part1_le (by omega) (by first | omega | (simp only [List.length_append]; omega)) | decide), ⟨(by first | omega | (rw [adr_eq]; omega) | exact iAnd_nn _ _ | exact iSub_nn _ _ | exact part1_le (by omega) (by first | omega | (simp only [List.length_append]; omega)) | decide), (by first | omega | (rw [adr_eq]; omega) | exact iAnd_nn _ _ | exact iSub_nn _ _ | exact part1_le (by omega) (by first | omega | (simp only [List.length_append]; omega)) | decide)⟩⟩⟩, (by first | omega | (rw [adr_eq]; omega) | exact iAnd_nn _ _ | exact iSub_nn _ _ | exact part1_le (by omega) (by first | omega | (simp only [List.length_append]; omega)) | decide)⟩, ⟨(rfl), (by first | omega | (rw [adr_eq]; omega) | exact iAnd_nn _ _ | exact iSub_nn _ _ | exact part1_le (by omega) (by first | omega | (simp only [List.length_append]; omega)) | decide)⟩⟩, trivial⟩, ⟨⟨trivial, trivial⟩, ⟨⟨⟨⟨⟨⟨trivial, (rfl)⟩, ⟨(by first | omega | (rw [adr_eq]; omega) | exact iAnd_nn _ _ | exact iSub_nn _ _ | exact part1_le (by omega) (by first | omega | (simp only [List.length_append]; omega)) | decide), ⟨(by first | omega | (rw [adr_eq]; omega) | exact iAnd_nn _ _ | exact iSub_nn _ _ | exact part1_le (by omega) (by first | omega | (simp only [List.length_append]; omega)) | decide), (by first | omega | (rw [adr_eq]; omega) | exact iAnd_nn _ _ | exact iSub_nn _ _ | exact part1_le (by omega) (by first | omega | (simp only [List.length_append]; omega)) | decide)⟩⟩⟩, (by first | omega | (rw [adr_eq]; omega) | exact iAnd_nn _ _ | exact iSub_nn _ _ | exact part1_le (by omega) (by first | omega | (simp only [List.length_append]; omega)) | decide)⟩, ⟨(rfl), (by first | omega | (rw [adr_eq]; omega) | exact iAnd_nn _ _ | exact iSub_nn _ _ | exact part1_le (by omega) (by first | omega | (simp only [List.length_append]; omega)) | decide)⟩⟩, trivial⟩, ⟨⟨trivial, trivial⟩, trivial⟩⟩⟩⟩⟩⟩⟩⟩⟩⟩⟩) ?_
            refine Tri.ret ?_
            repeat (first | refine thenP_ret ?_ | refine blkP_ret ?_ | refine countP_ret ?_ | refine joinP_ret ?_ | refine iterP_ret ?_)
            refine endP.conv (r' := ⟨.sc (.sl 0 0 (5 + ((itr (FwwIntnl0) k0 p3).length)) 1 none), [some (.ints .u8 (5 + ((itr (FwwIntnl0) k0 p3).length)) (((FwwU32n (IntKind.wrap .u32 ((((itr (FwwIntnl0) k0 p3).length) + 1 : Nat) : Int))) ++ [0]) ++ (itr (FwwIntnl0) k0 p3)))]⟩) (by simp only [FwwIntn, FwwIntnn0, hq0, hf0, hb0, h3, h4, sel_true, sel_false]) ?_
            exact endP.ret [(464, 0)] (True ∧ True) (by kernel_rfl) (by kernel_rfl) ⟨trivial, trivial⟩
          ·
            have h4' := of_decide_eq_false h4
            refine Tri.skip ?_
            change Tri _ _ _ _ _ _
            refine Tri.seq_region [] none [4] [416] ((True ∧ True) ∧ ((True ∧ True) ∧ ((True ∧ True) ∧ ((True ∧ True) ∧ (((True ∧ True) ∧ True) ∧ ((True ∧ True) ∧ ((((((True ∧ (1 = 1)) ∧ ((0 < 1) ∧ (((4 + ((itr (FwwIntnl0) k0 p3).length)) * 1 ≤ 140737488355328) ∧ (4 + ((itr (FwwIntnl0) k0 p3).length) ≤ 140737488355328)))) ∧ ((itr (FwwIntnl0) k0 p3).length = ((itr (FwwIntnl0) k0 p3).length) * 1)) ∧ ((1 = 1) ∧ (0 + 4 * 1 = 4))) ∧ True) ∧ ((True ∧ True) ∧ True))))))))
                ([(4, .sc (.sl 416 0 (4 + ((itr (FwwIntnl0) k0 p3).length)) 1 none))], [(416, .ints .u8 (4 + ((itr (FwwIntnl0) k0 p3).length)) ((FwwU32n (IntKind.wrap .u32 (((itr (FwwIntnl0) k0 p3).length : Nat) : Int))) ++ (itr (FwwIntnl0) k0 p3)))])
                448 (by kernel_rfl) rfl (by kernel_rfl) (⟨⟨trivial, trivial⟩, ⟨⟨trivial, trivial⟩, ⟨⟨trivial, trivial⟩, ⟨⟨trivial, trivial⟩, ⟨⟨⟨trivial, trivial⟩, trivial⟩, ⟨⟨trivial, trivial⟩, ⟨⟨⟨⟨⟨⟨trivial, (rfl)⟩, ⟨(by first | omega | (rw [adr_eq]; omega) | exact iAnd_nn _ _ | exact iSub_nn _ _ | exact part1_le (by omega) (by first | omega | (simp only [List.length_append]; omega)) | decide), ⟨(by first | omega | (rw [adr_eq]; omega) | exact iAnd_nn _ _ | exact iSub_nn _ _ | exact part1_le (by omega) (by first | omega | (simp only [List.length_append]; omega)) | decide), (by first | omega | (rw [adr_eq]; omega) | exact iAnd_nn _ _ | exact iSub_nn _ _ | exact part1_le (by omega) (by first | omega | (simp only [List.length_append]; omega)) | decide)⟩⟩⟩, (by first | omega | (rw [adr_eq]; omega) | exact iAnd_nn _ _ | exact iSub_nn _ _ | exact part1_le (by omega) (by first | omega | (simp only [List.length_append]; omega)) | decide)⟩, ⟨(rfl), (by first | omega | (rw [adr_eq]; omega) | exact iAnd_nn _ _ | exact iSub_nn _ _ | exact part1_le (by omega) (by first | omega | (simp only [List.length_append]; omega)) | decide)⟩⟩, trivial⟩, ⟨⟨trivial, trivial⟩, trivial⟩⟩⟩⟩⟩⟩⟩⟩) ?_
            refine Tri.ret ?_
            repeat (first | refine thenP_ret ?_ | refine blkP_ret ?_ | refine countP_ret ?_ | refine joinP_ret ?_ | refine iterP_ret ?_)
            refine endP.conv (r' := ⟨.sc (.sl 0 0 (4 + ((itr (FwwIntnl0) k0 p3).length)) 1 none), [some (.ints .u8 (4 + ((itr (FwwIntnl0) k0 p3).length)) ((FwwU32n (IntKind.wrap .u32 (((itr (FwwIntnl0) k0 p3).length : Nat) : Int))) ++ (itr (FwwIntnl0) k0 p3)))]⟩) (by simp only [FwwIntn, FwwIntnn0, hq0, hf0, hb0, h3, h4, sel_true, sel_false]) ?_
            exact endP.ret [(416, 0)] (True ∧ True) (by kernel_rfl) (by kernel_rfl) ⟨trivial, trivial⟩
        ·
          have h3' := of_decide_eq_false h3
          refine Tri.seq_region [(19, qb false)] none [24, 0, 1] [] ((True ∧ True) ∧ ((True ∧ True) ∧ ((True ∧ True) ∧ ((True ∧ ((decide (((((itr (FwwIntnl0) k0 p3).length : Nat) : Int) : Int) > 0)) = false)) ∧ ((True ∧ True) ∧ ((True ∧ True) ∧ ((True ∧ True) ∧ ((True ∧ True) ∧ ((True ∧ True) ∧ True)))))))))
              ([(24, .sc (.b false)), (0, .sc (.nils)), (1, .sc (.ro .u8 (itr (FwwIntnl0) k0 p3)))], [])
              320 (by kernel_rfl) rfl (by kernel_rfl) (⟨⟨trivial, trivial⟩, ⟨⟨trivial, trivial⟩, ⟨⟨trivial, trivial⟩, ⟨⟨trivial, (h3)⟩, ⟨⟨trivial, trivial⟩, ⟨⟨trivial, trivial⟩, ⟨⟨trivial, trivial⟩, ⟨⟨trivial, trivial⟩, ⟨⟨trivial, trivial⟩, trivial⟩⟩⟩⟩⟩⟩⟩⟩⟩) ?_
          refine Tri.cond_false (by kernel_rfl) ?_
          refine Tri.skip ?_
          change Tri _ _ _ _ _ _
          refine Tri.seq_region [] none [4] [416] ((True ∧ True) ∧ ((True ∧ True) ∧ ((True ∧ True) ∧ ((True ∧ True) ∧ (((True ∧ True) ∧ True) ∧ ((True ∧ True) ∧ ((((((True ∧ (1 = 1)) ∧ ((0 < 1) ∧ (((4 + ((itr (FwwIntnl0) k0 p3).length)) * 1 ≤ 140737488355328) ∧ (4 + ((itr (FwwIntnl0) k0 p3).length) ≤ 140737488355328)))) ∧ ((itr (FwwIntnl0) k0 p3).length = ((itr (FwwIntnl0) k0 p3).length) * 1)) ∧ ((1 = 1) ∧ (0 + 4 * 1 = 4))) ∧ True) ∧ ((True ∧ True) ∧ True))))))))
              ([(4, .sc (.sl 416 0 (4 + ((itr (FwwIntnl0) k0 p3).length)) 1 none))], [(416, .ints .u8 (4 + ((itr (FwwIntnl0) k0 p3).length)) ((FwwU32n (IntKind.wrap .u32 (((itr (FwwIntnl0) k0 p3).length : Nat) : Int))) ++ (itr (FwwIntnl0) k0 p3)))])
              448 (by kernel_rfl) rfl (by kernel_rfl) (⟨⟨trivial, trivial⟩, ⟨⟨trivial, trivial⟩, ⟨⟨trivial, trivial⟩, ⟨⟨trivial, trivial⟩, ⟨⟨⟨trivial, trivial⟩, trivial⟩, ⟨⟨trivial, trivial⟩, ⟨⟨⟨⟨⟨⟨trivial, (rfl)⟩, ⟨(by first | omega | (rw [adr_eq]; omega) | exact iAnd_nn _ _ | exact iSub_nn _ _ | exact part1_le (by omega) (by first | omega | (simp only [List.length_append]; omega)) | decide), ⟨(by first | omega | (rw [adr_eq]; omega) | exact iAnd_nn _ _ | exact iSub_nn _ _ | exact part1_le (by omega) (by first | omega | (simp only [List.length_append]; omega)) | decide), (by first | omega | (rw [adr_eq]; omega) | exact iAnd_nn _ _ | exact iSub_nn _ _ | exact part1_le (by omega) (by first | omega | (simp only [List.length_append]; omega)) | decide)⟩⟩⟩, (by first | omega | (rw [adr_eq]; omega) | exact iAnd_nn _ _ | exact iSub_nn _ _ | exact part1_le (by omega) (by first | omega | (simp only [List.length_append]; omega)) | decide)⟩, ⟨(rfl), (by first | omega | (rw [adr_eq]; omega) | exact iAnd_nn _ _ | exact iSub_nn _ _ | exact part1_le (by omega) (by first | omega | (simp only [List.length_append]; omega)) | decide)⟩⟩, trivial⟩, ⟨⟨trivial, trivial⟩, trivial⟩⟩⟩⟩⟩⟩⟩⟩) ?_
          refine Tri.ret ?_
          repeat (first | refine thenP_ret ?_ | refine blkP_ret ?_ | refine countP_ret ?_ | refine joinP_ret ?_ | refine iterP_ret ?_)
          refine endP.conv (r' := ⟨.sc (.sl 0 0 (4 + ((itr (FwwIntnl0) k0 p3).length)) 1 none), [some (.ints .u8 (4 + ((itr (FwwIntnl0) k0 p3).length)) ((FwwU32n (IntKind.wrap .u32 (((itr (FwwIntnl0) k0 p3).length : Nat) : Int))) ++ (itr (FwwIntnl0) k0 p3)))]⟩) (by simp only [FwwIntn, FwwIntnn0, hq0, hf0, hb0, h3, sel_true, sel_false]) ?_
          exact endP.ret [(416, 0)] (True ∧ True) (by kernel_rfl) (by kernel_rfl) ⟨trivial, trivial⟩
    ·
      have h1' := of_decide_eq_false h1
      refine Tri.seq_region [(8, qb false)] none [13, 0, 1] [] ((True ∧ True) ∧ ((True ∧ True) ∧ ((True ∧ True) ∧ ((True ∧ ((decide ((((z0.length : Nat) : Int) : Int) > 0)) = false)) ∧ ((True ∧ True) ∧ ((True ∧ True) ∧ ((True ∧ True) ∧ ((True ∧ True) ∧ ((True ∧ True) ∧ True)))))))))
          ([(13, .sc (.b false)), (0, .sc (.nils)), (1, .sc (.ro .u8 z0))], [])
          176 (by kernel_rfl) rfl (by kernel_rfl) (⟨⟨trivial, trivial⟩, ⟨⟨trivial, trivial⟩, ⟨⟨trivial, trivial⟩, ⟨⟨trivial, (h1)⟩, ⟨⟨trivial, trivial⟩, ⟨⟨trivial, trivial⟩, ⟨⟨trivial, trivial⟩, ⟨⟨trivial, trivial⟩, ⟨⟨trivial, trivial⟩, trivial⟩⟩⟩⟩⟩⟩⟩⟩⟩) ?_
      refine Tri.cond_false (by kernel_rfl) ?_
      refine Tri.exit ?_
      have hend0 : k0 = p3.length := by (have := of_decide_eq_false h1; omega)
      subst hend0; subst hz0
      have hf0 : fstB (FwwIntns0 p3) p3.length = p3.length := fst_none hJ0.2
      have hb0 : Nat.blt p3.length p3.length = false := blt_self _
      have hq0 : Nat.blt (fstB (FwwIntns0 p3) p3.length) p3.length = false := by rw [hf0]; exact hb0
      change Tri _ _ _ _ _ _
      refine Tri.seq ?_
      refine Tri.split (decide (((((itr (FwwIntnl0) p3.length p3).length : Nat) : Int) : Int) > 0)) (fun h5 => ?_) (fun h5 => ?_)
      ·
        have h5' := of_decide_eq_true h5
        refine Tri.seq_region [(19, qb true)] none [24, 0, 1] [] ((True ∧ True) ∧ ((True ∧ True) ∧ ((True ∧ True) ∧ ((True ∧ ((decide (((((itr (FwwIntnl0) p3.length p3).length : Nat) : Int) : Int) > 0)) = true)) ∧ ((True ∧ True) ∧ ((((0 : Int) ≤ 0 ∧ 0 < ((itr (FwwIntnl0) p3.length p3).length : Int)) ∧ True) ∧ (((0 < (itr (FwwIntnl0) p3.length p3).length) ∧ True) ∧ ((True ∧ True) ∧ ((True ∧ True) ∧ True)))))))))
            ([(24, .sc (.b (decide (((itr (FwwIntnl0) p3.length p3).getD 0 0 : Int) ≥ 128)))), (0, .sc (.nils)), (1, .sc (.ro .u8 (itr (FwwIntnl0) p3.length p3)))], [])
            320 (by kernel_rfl) rfl (by kernel_rfl) (⟨⟨trivial, trivial⟩, ⟨⟨trivial, trivial⟩, ⟨⟨trivial, trivial⟩, ⟨⟨trivial, (h5)⟩, ⟨⟨trivial, trivial⟩, ⟨⟨(by first | omega | (rw [adr_eq]; omega) | exact iAnd_nn _ _ | exact iSub_nn _ _ | exact part1_le (by omega) (by first | omega | (simp only [List.length_append]; omega)) | decide), trivial⟩, ⟨⟨(by first | omega | (rw [adr_eq]; omega) | exact iAnd_nn _ _ | exact iSub_nn _ _ | exact part1_le (by omega) (by first | omega | (simp only [List.length_append]; omega)) | decide), trivial⟩, ⟨⟨trivial, trivial⟩, ⟨⟨trivial, trivial⟩, trivial⟩⟩⟩⟩⟩⟩⟩⟩⟩) ?_
        refine Tri.cond (x := (decide (((itr (FwwIntnl0) p3.length p3).getD 0 0 : Int) ≥ 128))) (by kernel_rfl) (fun h6 => ?_) (fun h6 => ?_)
        ·
          have h6' := of_decide_eq_true h6
          refine Tri.seq_region [(28, qi ((((itr (FwwIntnl0) p3.length p3).length) + 1 : Nat) : Int))] none [4] [464] ((True ∧ True) ∧ ((True ∧ True) ∧ ((True ∧ True) ∧ ((True ∧ ((iAdd .i64 (((itr (FwwIntnl0) p3.length p3).length : Nat) : Int) 1) = ((((itr (FwwIntnl0) p3.length p3).length) + 1 : Nat) : Int))) ∧ ((True ∧ True) ∧ (((True ∧ True) ∧ True) ∧ ((((((0 < 1) ∧ (1 = 1)) ∧ True) ∧ ((1 * 1 ≤ 16777216) ∧ (1 = 1))) ∧ True) ∧ ((((((True ∧ (1 = 1)) ∧ ((0 < 1) ∧ ((5 * 1 ≤ 140737488355328) ∧ (5 ≤ 140737488355328)))) ∧ (1 = 1 * 1)) ∧ ((1 = 1) ∧ (0 + 4 * 1 = 4))) ∧ True) ∧ ((True ∧ True) ∧ ((((((True ∧ (1 = 1)) ∧ ((0 < 1) ∧ (((5 + ((itr (FwwIntnl0) p3.length p3).length)) * 1 ≤ 140737488355328) ∧ (5 + ((itr (FwwIntnl0) p3.length p3).length) ≤ 140737488355328)))) ∧ ((itr (FwwIntnl0) p3.length p3).length = ((itr (FwwIntnl0) p3.length p3).length) * 1)) ∧ ((1 = 1) ∧ (0 + 5 * 1 = 5))) ∧ True) ∧ ((True ∧ True) ∧ True)))))))))))
              ([(4, .sc (.sl 464 0 (5 + ((itr (FwwIntnl0) p3.length p3).length)) 1 none))], [(464, .ints .u8 (5 + ((itr (FwwIntnl0) p3.length p3).length)) (((FwwU32n (IntKind.wrap .u32 ((((itr (FwwIntnl0) p3.length p3).length) + 1 : Nat) : Int))) ++ [0]) ++ (itr (FwwIntnl0) p3.length p3)))])
              496 (by kernel_rfl) rfl (by kernel_rfl) (⟨⟨trivial, trivial⟩, ⟨⟨trivial, trivial⟩, ⟨⟨trivial, trivial⟩, ⟨⟨trivial, (iAdd_nat (a := (itr (FwwIntnl0) p3.length p3).length) (b := 1) (by omega))⟩, ⟨⟨trivial, trivial⟩, ⟨⟨⟨trivial, trivial⟩, trivial⟩, ⟨⟨⟨⟨⟨(by first | omega | (rw [adr_eq]; omega) | exact iAnd_nn _ _ | exact iSub_nn _ _ | exact part1_le (by omega) (by first | omega | (simp only [List.length_append]; omega)) | decide), (rfl)⟩, trivial⟩, ⟨(by first | omega | (rw [adr_eq]; omega) | exact iAnd_nn _ _ | exact iSub_nn _ _ | exact part1_le (by omega) (by first | omega | (simp only [List.length_append]; omega)) | decide), (rfl)⟩⟩, trivial⟩, ⟨⟨⟨⟨⟨⟨trivial, (rfl)⟩, ⟨(by first | omega | (rw [adr_eq]; omega) | exact iAnd_nn _ _ | exact iSub_nn _ _ | exact part1_le (by omega) (by first | omega | (simp only [List.length_append]; omega)) | decide), ⟨(by first | omega | (rw [adr_eq]; omega) | exact iAnd_nn _ _ | exact iSub_nn _ _ | exact part1_le (by omega) (by first | omega | (simp only [List.length_append]; omega)) | decide), (by first | omega | (rw [adr_eq]; omega) | exact iAnd_nn _ _ | exact iSub_nn _ _ | exact part1_le (by omega) (by first | omega | (simp only [List.length_append]; omega)) | decide)⟩⟩⟩, (by first | omega | (rw [adr_eq]; omega) | exact iAnd_nn _ _ | exact iSub_nn _ _ | exact part1_le (by omega) (by first | omega | (simp only [List.length_append]; omega)) | decide)⟩, ⟨(rfl), (by first | omega | (rw [adr_eq]; omega) | exact iAnd_nn _ _ | exact iSub_nn _ _ | exact part1_le (by omega) (by first | omega | (simp only [List.length_append]; omega)) | decide)⟩⟩, trivial⟩, ⟨⟨trivial, trivial⟩, ⟨⟨⟨⟨⟨⟨trivial, (rfl)⟩, ⟨(by first | omega | (rw [adr_eq]; omega) | exact iAnd_nn _ _ | exact iSub_nn _ _ | exact part1_le (by omega) (by first | omega | (simp only [List.length_append]; omega)) | decide), ⟨(by first | omega | (rw [adr_eq]; omega) | exact iAnd_nn _ _ | exact iSub_nn _ _ | exact part1_le (by omega) (by first | omega | (simp only [List.length_append]; omega)) | decide), (by first | omega | (rw [adr_eq]; omega) | exact iAnd_nn _ _ | exact iSub_nn _ _ | exact part1_le (by omega) (by first | omega | (simp only [List.length_append]; omega)) | decide)⟩⟩⟩, (by first | omega | (rw [adr_eq]; omega) | exact iAnd_nn _ _ | exact iSub_nn _ _ | exact part1_le (by omega) (by first | omega | (simp only [List.length_append]; omega)) | decide)⟩, ⟨(rfl), (by first | omega | (rw [adr_eq]; omega) | exact iAnd_nn _ _ | exact iSub_nn _ _ | exact part1_le (by omega) (by first | omega | (simp only [List.length_append]; omega)) | decide)⟩⟩, trivial⟩, ⟨⟨trivial, trivial⟩, trivial⟩⟩⟩⟩⟩⟩⟩⟩⟩⟩⟩) ?_
          refine Tri.ret ?_
          repeat (first | refine thenP_ret ?_ | refine blkP_ret ?_ | refine countP_ret ?_ | refine joinP_ret ?_ | refine iterP_ret ?_)
          refine endP.conv (r' := ⟨.sc (.sl 0 0 (5 + ((itr (FwwIntnl0) p3.length p3).length)) 1 none), [some (.ints .u8 (5 + ((itr (FwwIntnl0) p3.length p3).length)) (((FwwU32n (IntKind.wrap .u32 ((((itr (FwwIntnl0) p3.length p3).length) + 1 : Nat) : Int))) ++ [0]) ++ (itr (FwwIntnl0) p3.length p3)))]⟩) (by simp only [FwwIntn, FwwIntnn0, hq0, hf0, hb0, h5, h6, sel_true, sel_false]) ?_
          exact endP.ret [(464, 0)] (True ∧ True) (by kernel_rfl) (by kernel_rfl) ⟨trivial, trivial⟩
        ·
          have h6' := of_decide_eq_false h6
          refine Tri.skip ?_
          change Tri _ _ _ _ _ _
          refine Tri.seq_region [] none [4] [416] ((True ∧ True) ∧ ((True ∧ True) ∧ ((True ∧ True) ∧ ((True ∧ True) ∧ (((True ∧ True) ∧ True) ∧ ((True ∧ True) ∧ ((((((True ∧ (1 = 1)) ∧ ((0 < 1) ∧ (((4 + ((itr (FwwIntnl0) p3.length p3).length)) * 1 ≤ 140737488355328) ∧ (4 + ((itr (FwwIntnl0) p3.length p3).length) ≤ 140737488355328)))) ∧ ((itr (FwwIntnl0) p3.length p3).length = ((itr (FwwIntnl0) p3.length p3).length) * 1)) ∧ ((1 = 1) ∧ (0 + 4 * 1 = 4))) ∧ True) ∧ ((True ∧ True) ∧ True))))))))
              ([(4, .sc (.sl 416 0 (4 + ((itr (FwwIntnl0) p3.length p3).length)) 1 none))], [(416, .ints .u8 (4 + ((itr (FwwIntnl0) p3.length p3).length)) ((FwwU32n (IntKind.wrap .u32 (((itr (FwwIntnl0) p3.length p3).length : Nat) : Int))) ++ (itr (FwwIntnl0) p3.length p3)))])
              448 (by kernel_rfl) rfl (by kernel_rfl) (⟨⟨trivial, trivial⟩, ⟨⟨trivial, trivial⟩, ⟨⟨trivial, trivial⟩, ⟨⟨trivial, trivial⟩, ⟨⟨⟨trivial, trivial⟩, trivial⟩, ⟨⟨trivial, trivial⟩, ⟨⟨⟨⟨⟨⟨trivial, (rfl)⟩, ⟨(by first | omega | (rw [adr_eq]; omega) | exact iAnd_nn _ _ | exact iSub_nn _ _ | exact part1_le (by omega) (by first | omega | (simp only [List.length_append]; omega)) | decide), ⟨(by first | omega | (rw [adr_eq]; omega) | exact iAnd_nn _ _ | exact iSub_nn _ _ | exact part1_le (by omega) (by first | omega | (simp only [List.length_append]; omega)) | decide), (by first | omega | (rw [adr_eq]; omega) | exact iAnd_nn _ _ | exact iSub_nn _ _ | exact part1_le (by omega) (by first | omega | (simp only [List.length_append]; omega)) | decide)⟩⟩⟩, (by first | omega | (rw [adr_eq]; omega) | exact iAnd_nn _ _ | exact iSub_nn _ _ | exact part1_le (by omega) (by first | omega | (simp only [List.length_append]; omega)) | decide)⟩, ⟨(rfl), (by first | omega | (rw [adr_eq]; omega) | exact iAnd_nn _ _ | exact iSub_nn _ _ | exact part1_le (by omega) (by first | omega | (simp only [List.length_append]; omega)) | decide)⟩⟩, trivial⟩, ⟨⟨trivial, trivial⟩, trivial⟩⟩⟩⟩⟩⟩⟩⟩) ?_
          refine Tri.ret ?_
          repeat (first | refine thenP_ret ?_ | refine blkP_ret ?_ | refine countP_ret ?_ | refine joinP_ret ?_ | refine iterP_ret ?_)
          refine endP.conv (r' := ⟨.sc (.sl 0 0 (4 + ((itr (FwwIntnl0) p3.length p3).length)) 1 none), [some (.ints .u8 (4 + ((itr (FwwIntnl0) p3.length p3).length)) ((FwwU32n (IntKind.wrap .u32 (((itr (FwwIntnl0) p3.length p3).length : Nat) : Int))) ++ (itr (FwwIntnl0) p3.length p3)))]⟩) (by simp only [FwwIntn, FwwIntnn0, hq0, hf0, hb0, h5, h6, sel_true, sel_false]) ?_
          exact endP.ret [(416, 0)] (True ∧ True) (by kernel_rfl) (by kernel_rfl) ⟨trivial, trivial⟩
      ·
        have h5' := of_decide_eq_false h5
        refine Tri.seq_region [(19, qb false)] none [24, 0, 1] [] ((True ∧ True) ∧ ((True ∧ True) ∧ ((True ∧ True) ∧ ((True ∧ ((decide (((((itr (FwwIntnl0) p3.length p3).length : Nat) : Int) : Int) > 0)) = false)) ∧ ((True ∧ True) ∧ ((True ∧ True) ∧ ((True ∧ True) ∧ ((True ∧ True) ∧ ((True ∧ True) ∧ True)))))))))
            ([(24, .sc (.b false)), (0, .sc (.nils)), (1, .sc (.ro .u8 (itr (FwwIntnl0) p3.length p3)))], [])
            320 (by kernel_rfl) rfl (by kernel_rfl) (⟨⟨trivial, trivial⟩, ⟨⟨trivial, trivial⟩, ⟨⟨trivial, trivial⟩, ⟨⟨trivial, (h5)⟩, ⟨⟨trivial, trivial⟩, ⟨⟨trivial, trivial⟩, ⟨⟨trivial, trivial⟩, ⟨⟨trivial, trivial⟩, ⟨⟨trivial, trivial⟩, trivial⟩⟩⟩⟩⟩⟩⟩⟩⟩) ?_
        refine Tri.cond_false (by kernel_rfl) ?_
        refine Tri.skip ?_
        change Tri _ _ _ _ _ _
        refine Tri.seq_region [] none [4] [416] ((True ∧ True) ∧ ((True ∧ True) ∧ ((True ∧ True) ∧ ((True ∧ True) ∧ (((True ∧ True) ∧ True) ∧ ((True ∧ True) ∧ ((((((True ∧ (1 = 1)) ∧ ((0 < 1) ∧ (((4 + ((itr (FwwIntnl0) p3.length p3).length)) * 1 ≤ 140737488355328) ∧ (4 + ((itr (FwwIntnl0) p3.length p3).length) ≤ 140737488355328)))) ∧ ((itr (FwwIntnl0) p3.length p3).length = ((itr (FwwIntnl0) p3.length p3).length) * 1)) ∧ ((1 = 1) ∧ (0 + 4 * 1 = 4))) ∧ True) ∧ ((True ∧ True) ∧ True))))))))
            ([(4, .sc (.sl 416 0 (4 + ((itr (FwwIntnl0) p3.length p3).length)) 1 none))], [(416, .ints .u8 (4 + ((itr (FwwIntnl0) p3.length p3).length)) ((FwwU32n (IntKind.wrap .u32 (((itr (FwwIntnl0) p3.length p3).length : Nat) : Int))) ++ (itr (FwwIntnl0) p3.length p3)))])
            448 (by kernel_rfl) rfl (by kernel_rfl) (⟨⟨trivial, trivial⟩, ⟨⟨trivial, trivial⟩, ⟨⟨trivial, trivial⟩, ⟨⟨trivial, trivial⟩, ⟨⟨⟨trivial, trivial⟩, trivial⟩, ⟨⟨trivial, trivial⟩, ⟨⟨⟨⟨⟨⟨trivial, (rfl)⟩, ⟨(by first | omega | (rw [adr_eq]; omega) | exact iAnd_nn _ _ | exact iSub_nn _ _ | exact part1_le (by omega) (by first | omega | (simp only [List.length_append]; omega)) | decide), ⟨(by first | omega | (rw [adr_eq]; omega) | exact iAnd_nn _ _ | exact iSub_nn _ _ | exact part1_le (by omega) (by first | omega | (simp only [List.length_append]; omega)) | decide), (by first | omega | (rw [adr_eq]; omega) | exact iAnd_nn _ _ | exact iSub_nn _ _ | exact part1_le (by omega) (by first | omega | (simp only [List.length_append]; omega)) | decide)⟩⟩⟩, (by first | omega | (rw [adr_eq]; omega) | exact iAnd_nn _ _ | exact iSub_nn _ _ | exact part1_le (by omega) (by first | omega | (simp only [List.length_append]; omega)) | decide)⟩, ⟨(rfl), (by first | omega | (rw [adr_eq]; omega) | exact iAnd_nn _ _ | exact iSub_nn _ _ | exact part1_le (by omega) (by first | omega | (simp only [List.length_append]; omega)) | decide)⟩⟩, trivial⟩, ⟨⟨trivial, trivial⟩, trivial⟩⟩⟩⟩⟩⟩⟩⟩) ?_
        refine Tri.ret ?_
        repeat (first | refine thenP_ret ?_ | refine blkP_ret ?_ | refine countP_ret ?_ | refine joinP_ret ?_ | refine iterP_ret ?_)
        refine endP.conv (r' := ⟨.sc (.sl 0 0 (4 + ((itr (FwwIntnl0) p3.length p3).length)) 1 none), [some (.ints .u8 (4 + ((itr (FwwIntnl0) p3.length p3).length)) ((FwwU32n (IntKind.wrap .u32 (((itr (FwwIntnl0) p3.length p3).length : Nat) : Int))) ++ (itr (FwwIntnl0) p3.length p3)))]⟩) (by simp only [FwwIntn, FwwIntnn0, hq0, hf0, hb0, h5, sel_true, sel_false]) ?_
        exact endP.ret [(416, 0)] (True ∧ True) (by kernel_rfl) (by kernel_rfl) ⟨trivial, trivial⟩

theorem le_FwwIntn (p3 : List Int) : FwwIntnn0 p3 ≤ p3.length + 5 := by
  have h0 : ∀ k, (itr FwwIntnl0 k p3).length ≤ p3.length := by
    intro k
    induction k with
    | zero => rw [itr_zero]; exact Nat.le_refl _
    | succ k ih => rw [itr_succ]; show ((((itr FwwIntnl0 k p3).drop 1).take ((itr FwwIntnl0 k p3).length - 1)).length ≤ _); simp only [List.length_take, List.length_drop]; omega
  have s0 : ∀ (b : Bool) (x y : Nat), x ≤ p3.length + 5 → y ≤ p3.length + 5 → sel b x y ≤ p3.length + 5 := by
    intro b x y hx hy
    cases b
    · rw [sel_false]; exact hy
    · rw [sel_true]; exact hx
  have h1 := h0 (fstB (FwwIntns0 p3) p3.length)
  have h2 := h0 p3.length
  unfold FwwIntnn0
  repeat first | omega | apply s0


noncomputable def FwwIntnzl0 (k0 : Nat) (z0 : List Int) : List Int :=
  (z0.drop 1).take (z0.length - 1)

noncomputable def FwwIntnzs0 (p3 : List Int) (k0 : Nat) : Bool :=
  (sel (((itr (FwwIntnzl0) k0 p3).getD 0 0 : Int) == 0) false true)

noncomputable def FwwIntnz (p3 : List Int) : List Int :=
  (sel (Nat.blt (fstB (FwwIntnzs0 p3) p3.length) p3.length) (sel (decide (((((itr (FwwIntnzl0) (fstB (FwwIntnzs0 p3) p3.length) p3).length : Nat) : Int) : Int) > 0)) (sel (decide (((itr (FwwIntnzl0) (fstB (FwwIntnzs0 p3) p3.length) p3).getD 0 0 : Int) ≥ 128)) (part1 (((FwwU32n (IntKind.wrap .u32 ((((itr (FwwIntnzl0) (fstB (FwwIntnzs0 p3) p3.length) p3).length) + 1 : Nat) : Int))) ++ [0]) ++ (itr (FwwIntnzl0) (fstB (FwwIntnzs0 p3) p3.length) p3)) (5 + ((itr (FwwIntnzl0) (fstB (FwwIntnzs0 p3) p3.length) p3).length)) 0 (5 + ((itr (FwwIntnzl0) (fstB (FwwIntnzs0 p3) p3.length) p3).length))) (part1 ((FwwU32n (IntKind.wrap .u32 (((itr (FwwIntnzl0) (fstB (FwwIntnzs0 p3) p3.length) p3).length : Nat) : Int))) ++ (itr (FwwIntnzl0) (fstB (FwwIntnzs0 p3) p3.length) p3)) (4 + ((itr (FwwIntnzl0) (fstB (FwwIntnzs0 p3) p3.length) p3).length)) 0 (4 + ((itr (FwwIntnzl0) (fstB (FwwIntnzs0 p3) p3.length) p3).length)))) (part1 ((FwwU32n (IntKind.wrap .u32 (((itr (FwwIntnzl0) (fstB (FwwIntnzs0 p3) p3.length) p3).length : Nat) : Int))) ++ (itr (FwwIntnzl0) (fstB (FwwIntnzs0 p3) p3.length) p3)) (4 + ((itr (FwwIntnzl0) (fstB (FwwIntnzs0 p3) p3.length) p3).length)) 0 (4 + ((itr (FwwIntnzl0) (fstB (FwwIntnzs0 p3) p3.length) p3).length)))) (sel (decide (((((itr (FwwIntnzl0) p3.length p3).length : Nat) : Int) : Int) > 0)) (sel (decide (((itr (FwwIntnzl0) p3.length p3).getD 0 0 : Int) ≥ 128)) (part1 (((FwwU32n (IntKind.wrap .u32 ((((itr (FwwIntnzl0) p3.length p3).length) + 1 : Nat) : Int))) ++ [0]) ++ (itr (FwwIntnzl0) p3.length p3)) (5 + ((itr (FwwIntnzl0) p3.length p3).length)) 0 (5 + ((itr (FwwIntnzl0) p3.length p3).length))) (part1 ((FwwU32n (IntKind.wrap .u32 (((itr (FwwIntnzl0) p3.length p3).length : Nat) : Int))) ++ (itr (FwwIntnzl0) p3.length p3)) (4 + ((itr (FwwIntnzl0) p3.length p3).length)) 0 (4 + ((itr (FwwIntnzl0) p3.length p3).length)))) (part1 ((FwwU32n (IntKind.wrap .u32 (((itr (FwwIntnzl0) p3.length p3).length : Nat) : Int))) ++ (itr (FwwIntnzl0) p3.length p3)) (4 + ((itr (FwwIntnzl0) p3.length p3).length)) 0 (4 + ((itr (FwwIntnzl0) p3.length p3).length)))))

noncomputable def SwwIntnz : List AV → List Blk → Option (Prop × Ret)
  | [.sc (.nils), .sc (.ro .u8 p3)], [] => some ((p3.length ≤ 1000000000), ⟨.sc (.ro .u8 (FwwIntnz p3)), []⟩)
  | _, _ => none

noncomputable def BwwIntnz : Bs := { P := Go.Proofs.Try.prog, G := noG, tab := tabOf [⟨10, 384, [.val, .val], [], [], ⟨0, 1, SwwU32n⟩⟩, ⟨10, 400, [.val, .val], [], [], ⟨0, 1, SwwU32n⟩⟩], n := 42 }

theorem BwwIntnz.ok : BwwIntnz.Ok := ⟨tabOk (P := Go.Proofs.Try.prog) (G := noG) (l := [⟨10, 384, [.val, .val], [], [], ⟨0, 1, SwwU32n⟩⟩, ⟨10, 400, [.val, .val], [], [], ⟨0, 1, SwwU32n⟩⟩]) (And.intro KwwU32n (And.intro KwwU32n True.intro)), mixed⟩

theorem KwwIntnz : Known Go.Proofs.Try.prog noG 6 ⟨0, 0, SwwIntnz⟩ := by
  refine Known.walk (B := BwwIntnz) (fn := Go.Proofs.Try.f6) BwwIntnz.ok (by kernel_rfl) rfl (by kernel_rfl) (by kernel_rfl) (by decide) (by decide) ?_
  · intro E args ks C r h hC hlen
    simp only at h
    unfold SwwIntnz at h
    split at h
    rotate_left
    · cases h
    rename_i p3
    cases h
    simp only [lens] at hlen
    refine ⟨show 2 ≤ 42 from by decide, ?_⟩
    refine Tri.sub (Sub.of_eq (show _ = ([(0, .sc (.nils)), (1, .sc (.ro .u8 p3))], []) from rfl)) ?_
    refine Tri.seq_region [] none [0, 1] [] ((True ∧ True) ∧ True)
        ([(0, .sc (.nils)), (1, .sc (.ro .u8 p3))], [])
        32 (by kernel_rfl) rfl (by kernel_rfl) (⟨⟨trivial, trivial⟩, trivial⟩) ?_
    refine Tri.seq ?_
    refine Tri.block ?_
    refine Tri.count 32 p3.length (FwwIntnzl0) p3 (fun k0 z0 => z0.length = p3.length - k0 ∧ (∀ j, j < k0 → (FwwIntnzs0 p3) j = false)) (fun k0 z0 => ([(0, .sc (.nils)), (1, .sc (.ro .u8 z0))], [])) (⟨(by omega), (fun j hj => absurd hj (Nat.not_lt_zero j))⟩) (Sub.of_eq (by kernel_rfl)) ?_
    intro k0 z0 hk0 hz0 hJ0
    refine Tri.seq ?_
    refine Tri.split (decide ((((z0.length : Nat) : Int) : Int) > 0)) (fun h1 => ?_) (fun h1 => ?_)
    ·
      have h1' := of_decide_eq_true h1
      refine Tri.seq_region [(8, qb true)] none [13, 0, 1] [] ((True ∧ True) ∧ ((True ∧ True) ∧ ((True ∧ True) ∧ ((True ∧ ((decide ((((z0.length : Nat) : Int) : Int) > 0)) = true)) ∧ ((True ∧ True) ∧ ((((0 : Int) ≤ 0 ∧ 0 < (z0.length : Int)) ∧ True) ∧ (((0 < z0.length) ∧ True) ∧ ((True ∧ True) ∧ ((True ∧ True) ∧ True)))))))))
          ([(13, .sc (.b ((z0.getD 0 0 : Int) == 0))), (0, .sc (.nils)), (1, .sc (.ro .u8 z0))], [])
          176 (by kernel_rfl) rfl (by kernel_rfl) (⟨⟨trivial, trivial⟩, ⟨⟨trivial, trivial⟩, ⟨⟨trivial, trivial⟩, ⟨⟨trivial, (h1)⟩, ⟨⟨trivial, trivial⟩, ⟨⟨(by first | omega | (rw [adr_eq]; omega) | exact iAnd_nn _ _ | exact iSub_nn _ _ | exact part1_le (by omega) (by first | omega | (simp only [List.length_append]; omega)) | decide), trivial⟩, ⟨⟨(by first | omega | (rw [adr_eq]; omega) | exact iAnd_nn _ _ | exact iSub_nn _ _ | exact part1_le (by omega) (by first | omega | (simp only [List.length_append]; omega)) | decide), trivial⟩, ⟨⟨trivial, trivial⟩, ⟨⟨trivial, trivial⟩, trivial⟩⟩⟩⟩⟩⟩⟩⟩⟩) ?_
      refine Tri.cond (x := ((z0.getD 0 0 : Int) == 0)) (by kernel_rfl) (fun h2 => ?_) (fun h2 => ?_)
      ·
        have h2' := eq_true_i h2
        refine Tri.skip ?_
        change Tri _ _ _ _ _ _
        refine Tri.block ?_
        refine Tri.region' [] none [1, 0] [] ((True ∧ True) ∧ ((((0 : Int) ≤ 1 ∧ (1 : Int) ≤ ((z0.length : Nat) : Int) ∧ ((z0.length : Nat) : Int) ≤ (z0.length : Int)) ∧ True) ∧ ((True ∧ True) ∧ True)))
            ([(1, .sc (.ro .u8 ((z0.drop 1).take (z0.length - 1)))), (0, .sc (.nils))], [])
            224 (by kernel_rfl) rfl (by kernel_rfl) (⟨⟨trivial, trivial⟩, ⟨⟨(by first | omega | (rw [adr_eq]; omega) | exact iAnd_nn _ _ | exact iSub_nn _ _ | exact part1_le (by omega) (by first | omega | (simp only [List.length_append]; omega)) | decide), trivial⟩, ⟨⟨trivial, trivial⟩, trivial⟩⟩⟩) ?_
        repeat (refine blkP_normal ?_)
        refine countP_normal (by have := of_decide_eq_true h1; omega) (⟨(show ((z0.drop 1).take (z0.length - 1)).length = p3.length - (k0 + 1) by simp only [List.length_take, List.length_drop]; omega), (below_succ hJ0.2 (by subst hz0; simp only [FwwIntnzs0, h1, h2, sel_true, sel_false]))⟩) ?_
        exact Sub.ren (ns := []) (kf := [0, 1]) (by kernel_rfl) (by kernel_rfl)
      ·
        have h2' := eq_false_i h2
        refine Tri.exit ?_
        subst hz0
        have hf0 : fstB (FwwIntnzs0 p3) p3.length = k0 := fst_found (by omega) hJ0.2 (by simp only [FwwIntnzs0, h1, h2, sel_true, sel_false])
        have hb0 : Nat.blt k0 p3.length = true := blt_true (by omega)
        have hq0 : Nat.blt (fstB (FwwIntnzs0 p3) p3.length) p3.length = true := by rw [hf0]; exact hb0
        change Tri _ _ _ _ _ _
        refine Tri.seq ?_
        refine Tri.split (decide (((((itr (FwwIntnzl0) k0 p3).length : Nat) : Int) : Int) > 0)) (fun h3 => ?_) (fun h3 => ?_)
        ·
          have h3' := of_decide_eq_true h3
          refine Tri.seq_region [(19, qb true)] none [24, 0, 1] [] ((True ∧ True) ∧ ((True ∧ True) ∧ ((True ∧ True) ∧ ((True ∧ ((decide (((((itr (FwwIntnzl0) k0 p3).length : Nat) : Int) : Int) > 0)) = true)) ∧ ((True ∧ True) ∧ ((((0 : Int) ≤ 0 ∧ 0 < ((itr (FwwIntnzl0) k0 p3).length : Int)) ∧ True) ∧ (((0 < (itr (FwwIntnzl0) k0 p3).length) ∧ True) ∧ ((True ∧ True) ∧ ((True ∧ True) ∧ True)))))))))
              ([(24, .sc (.b (decide (((itr (FwwIntnzl0) k0 p3).getD 0 0 : Int) ≥ 128)))), (0, .sc (.nils)), (1, .sc (.ro .u8 (itr (FwwIntnzl0) k0 p3)))], [])
              320 (by kernel_rfl) rfl (by kernel_rfl) (⟨⟨trivial, trivial⟩, ⟨⟨trivial, trivial⟩, ⟨⟨trivial, trivial⟩, ⟨⟨trivial, (h3)⟩, ⟨⟨trivial, trivial⟩, ⟨⟨(by first | omega | (rw [adr_eq]; omega) | exact iAnd_nn _ _ | exact iSub_nn _ _ | exact part1_le (by omega) (by first | omega | (simp only [List.length_append]; omega)) | decide), trivial⟩, ⟨⟨(by first | omega | (rw [adr_eq]; omega) | exact iAnd_nn _ _ | exact iSub_nn _ _ | exact part1_le (by omega) (by first | omega | (simp only [List.length_append]; omega)) | decide), trivial⟩, ⟨⟨trivial, trivial⟩, ⟨⟨trivial, trivial⟩, trivial⟩⟩⟩⟩⟩⟩⟩⟩⟩) ?_
          refine Tri.cond (x := (decide (((itr (FwwIntnzl0) k0 p3).getD 0 0 : Int) ≥ 128))) (by kernel_rfl) (fun h4 => ?_) (fun h4 => ?_)
          ·
            have h4' := of_decide_eq_true h4
            refine Tri.seq_region [(28, qi ((((itr (FwwIntnzl0) k0 p3).length) + 1 : Nat) : Int))] none [4] [464] ((True ∧ True) ∧ ((True ∧ True) ∧ ((True ∧ True) ∧ ((True ∧ ((iAdd .i64 (((itr (FwwIntnzl0) k0 p3).length : Nat) : Int) 1) = ((((itr (FwwIntnzl0) k0 p3).length) + 1 : Nat) : Int))) ∧ ((True ∧ True) ∧ (((True ∧ True) ∧ True) ∧ ((((((0 < 1) ∧ (1 = 1)) ∧ True) ∧ ((1 * 1 ≤ 16777216) ∧ (1 = 1))) ∧ True) ∧ ((((((True ∧ (1 = 1)) ∧ ((0 < 1) ∧ ((5 * 1 ≤ 140737488355328) ∧ (5 ≤ 140737488355328)))) ∧ (1 = 1 * 1)) ∧ ((1 = 1) ∧ (0 + 4 * 1 = 4))) ∧ True) ∧ ((True ∧ True) ∧ ((((((True ∧ (1 = 1)) ∧ ((0 < 1) ∧ (((5 + ((itr (FwwIntnzl0) k0 p3).length)) * 1 ≤ 140737488355328) ∧ (5 + ((itr (FwwIntnzl0) k0 p3).length) ≤ 140737488355328)))) ∧ ((itr (FwwIntnzl0) k0 p3).length = ((itr (FwwIntnzl0) k0 p3).length) * 1)) ∧ ((1 = 1) ∧ (0 + 5 * 1 = 5))) ∧ True) ∧ ((True ∧ True) ∧ True)))))))))))
                ([(4, .sc (.sl 464 0 (5 + ((itr (FwwIntnzl0) k0 p3).length)) 1 none))], [(464, .ints .u8 (5 + ((itr (FwwIntnzl0) k0 p3).length)) (((FwwU32n (IntKind.wrap .u32 ((((itr (FwwIntnzl0) k0 p3).length) + 1 : Nat) : Int))) ++ [0]) ++ (itr (FwwIntnzl0) k0 p3)))])
                496 (by kernel_rfl) rfl (by kernel_rfl) (⟨⟨trivial, trivial⟩, ⟨⟨trivial, trivial⟩, ⟨⟨trivial, trivial⟩, ⟨⟨trivial, (iAdd_nat (a := (itr (FwwIntnzl0) k0 p3).length) (b := 1) (by omega))⟩, ⟨⟨trivial, trivial⟩, ⟨⟨⟨trivial, trivial⟩, trivial⟩, ⟨⟨⟨⟨⟨(by first | omega | (rw [adr_eq]; omega) | exact iAnd_nn _ _ | exact iSub_nn _ _ | exact part1_le (by omega) (by first | omega | (simp only [List.length_append]; omega)) | decide), (rfl)⟩, trivial⟩, ⟨(by first | omega | (rw [adr_eq]; omega) | exact iAnd_nn _ _ | exact iSub_nn _ _ | exact part1_le (by omega) (by first | omega | (simp only [List.length_append]; omega)) | decide), (rfl)⟩⟩, trivial⟩, ⟨⟨⟨⟨⟨⟨trivial, (rfl)⟩, ⟨(by first | omega | (rw [adr_eq]; omega) | exact iAnd_nn _ _ | exact iSub_nn _ _ | exact part1_le (by omega) (by first | omega | (simp only [List.length_append]; omega)) | decide), ⟨(by first | omega | (rw [adr_eq]; omega) | exact iAnd_nn _ _ | exact iSub_nn _ _ | exact part1_le (by omega) (by first | omega | (simp only [List.length_append]; omega)) | decide), (by first | omega | (rw [adr_eq]; omega) | exact iAnd_nn _ _ | exact iSub_nn _ _ | exact part1_le (by omega) (by first | omega | (simp only [List.length_append]; omega)) | decide)⟩⟩⟩, (by first | omega | (rw [adr_eq]; omega) | exact iAnd_nn _ _ | exact iSub_nn _ _ | exact part1_le (by omega) (by first | omega | (simp only [List.length_append]; omega)) | decide)⟩, ⟨(rfl), (by first | omega | (rw [adr_eq]; omega) | exact iAnd_nn _ _ | exact iSub_nn _ _ | exact part1_le (by omega) (by first | omega | (simp only [List.length_append]; omega)) | decide)⟩⟩, trivial⟩, ⟨⟨trivial, trivial⟩, ⟨⟨⟨⟨⟨⟨trivial, (rfl)⟩, ⟨(by first | omega | (rw [adr_eq]; omega) | exact iAnd_nn _ _ | exact iSub_nn _ _ | exact part1_le (by omega) (by first | omega | (simp only [List.length_append]; omega)) | decide), ⟨(by first | omega | (rw [adr_eq]; omega) | exact iAnd_nn _ _ | exact iSub_nn _ _ | exact part1_le (by omega) (by first | omega | (simp only [List.length_append]; omega)) | decide), (by first | omega | (rw [adr_eq]; omega) | exact iAnd_nn _ _ | exact iSub_nn _ _ | exact part1_le (by omega) (by first | omega | (simp only [List.length_append]; omega)) | decide)⟩⟩⟩, (by first | omega | (rw [adr_eq]; omega) | exact iAnd_nn _ _ | exact iSub_nn _ _ | exact part1_le (by omega) (by first | omega | (simp only [List.length_append]; omega)) | decide)⟩, ⟨(rfl), (by first | omega | (rw [adr_eq]; omega) | exact iAnd_nn _ _ | exact iSub_nn _ _ | exact part1_le (by omega) (by first | omega | (simp only [List.length_append]; omega)) | decide)⟩⟩, trivial⟩, ⟨⟨trivial, trivial⟩, trivial⟩⟩⟩⟩⟩⟩⟩⟩⟩⟩⟩) ?_
            refine Tri.sub (Sub.still (s' := ([(4, .sc (.ro .u8 (part1 (((FwwU32n (IntKind.wrap .u32 ((((itr (FwwIntnzl0) k0 p3).length) + 1 : Nat) : Int))) ++ [0]) ++ (itr (FwwIntnzl0) k0 p3)) (5 + ((itr (FwwIntnzl0) k0 p3).length)) 0 (5 + ((itr (FwwIntnzl0) k0 p3).length)))))], [])) 464 (.ints .u8 (5 + ((itr (FwwIntnzl0) k0 p3).length)) (((FwwU32n (IntKind.wrap .u32 ((((itr (FwwIntnzl0) k0 p3).length) + 1 : Nat) : Int))) ++ [0]) ++ (itr (FwwIntnzl0) k0 p3))) (by kernel_rfl) (show 0 + (5 + ((itr (FwwIntnzl0) k0 p3).length)) ≤ 5 + ((itr (FwwIntnzl0) k0 p3).length) from by first | omega | (rw [adr_eq]; omega) | exact iAnd_nn _ _ | exact iSub_nn _ _ | exact part1_le (by omega) (by first | omega | (simp only [List.length_append]; omega)) | decide) (by kernel_rfl)) ?_
            refine Tri.ret ?_
            repeat (first | refine thenP_ret ?_ | refine blkP_ret ?_ | refine countP_ret ?_ | refine joinP_ret ?_ | refine iterP_ret ?_)
            refine endP.conv (r' := ⟨.sc (.ro .u8 (part1 (((FwwU32n (IntKind.wrap .u32 ((((itr (FwwIntnzl0) k0 p3).length) + 1 : Nat) : Int))) ++ [0]) ++ (itr (FwwIntnzl0) k0 p3)) (5 + ((itr (FwwIntnzl0) k0 p3).length)) 0 (5 + ((itr (FwwIntnzl0) k0 p3).length)))), []⟩) (by simp only [FwwIntnz, hq0, hf0, hb0, h3, h4, sel_true, sel_false]) ?_
            exact endP.ret [] (True ∧ True) (by kernel_rfl) (by kernel_rfl) ⟨trivial, trivial⟩
          ·
            have h4' := of_decide_eq_false h4
            refine Tri.skip ?_
            change Tri _ _ _ _ _ _
            refine Tri.seq_region [] none [4] [416] ((True ∧ True) ∧ ((True ∧ True) ∧ ((True ∧ True) ∧ ((True ∧ True) ∧ (((True ∧ True) ∧ True) ∧ ((True ∧ True) ∧ ((((((True ∧ (1 = 1)) ∧ ((0 < 1) ∧ (((4 + ((itr (FwwIntnzl0) k0 p3).length)) * 1 ≤ 140737488355328) ∧ (4 + ((itr (FwwIntnzl0) k0 p3).length) ≤ 140737488355328)))) ∧ ((itr (FwwIntnzl0) k0 p3).length = ((itr (FwwIntnzl0) k0 p3).length) * 1)) ∧ ((1 = 1) ∧ (0 + 4 * 1 = 4))) ∧ True) ∧ ((True ∧ True) ∧ True))))))))
                ([(4, .sc (.sl 416 0 (4 + ((itr (FwwIntnzl0) k0 p3).length)) 1 none))], [(416, .ints .u8 (4 + ((itr (FwwIntnzl0) k0 p3).length)) ((FwwU32n (IntKind.wrap .u32 (((itr (FwwIntnzl0) k0 p3).length : Nat) : Int))) ++ (itr (FwwIntnzl0) k0 p3)))])
                448 (by kernel_rfl) rfl (by kernel_rfl) (⟨⟨trivial, trivial⟩, ⟨⟨trivial, trivial⟩, ⟨⟨trivial, trivial⟩, ⟨⟨trivial, trivial⟩, ⟨⟨⟨trivial, trivial⟩, trivial⟩, ⟨⟨trivial, trivial⟩, ⟨⟨⟨⟨⟨⟨trivial, (rfl)⟩, ⟨(by first | omega | (rw [adr_eq]; omega) | exact iAnd_nn _ _ | exact iSub_nn _ _ | exact part1_le (by omega) (by first | omega | (simp only [List.length_append]; omega)) | decide), ⟨(by first | omega | (rw [adr_eq]; omega) | exact iAnd_nn _ _ | exact iSub_nn _ _ | exact part1_le (by omega) (by first | omega | (simp only [List.length_append]; omega)) | decide), (by first | omega | (rw [adr_eq]; omega) | exact iAnd_nn _ _ | exact iSub_nn _ _ | exact part1_le (by omega) (by first | omega | (simp only [List.length_append]; omega)) | decide)⟩⟩⟩, (by first | omega | (rw [adr_eq]; omega) | exact iAnd_nn _ _ | exact iSub_nn _ _ | exact part1_le (by omega) (by first | omega | (simp only [List.length_append]; omega)) | decide)⟩, ⟨(rfl), (by first | omega | (rw [adr_eq]; omega) | exact iAnd_nn _ _ | exact iSub_nn _ _ | exact part1_le (by omega) (by first | omega | (simp only [List.length_append]; omega)) | decide)⟩⟩, trivial⟩, ⟨⟨trivial, trivial⟩, trivial⟩⟩⟩⟩⟩⟩⟩⟩) ?_
            refine Tri.sub (Sub.still (s' := ([(4, .sc (.ro .u8 (part1 ((FwwU32n (IntKind.wrap .u32 (((itr (FwwIntnzl0) k0 p3).length : Nat) : Int))) ++ (itr (FwwIntnzl0) k0 p3)) (4 + ((itr (FwwIntnzl0) k0 p3).length)) 0 (4 + ((itr (FwwIntnzl0) k0 p3).length)))))], [])) 416 (.ints .u8 (4 + ((itr (FwwIntnzl0) k0 p3).length)) ((FwwU32n (IntKind.wrap .u32 (((itr (FwwIntnzl0) k0 p3).length : Nat) : Int))) ++ (itr (FwwIntnzl0) k0 p3))) (by kernel_rfl) (show 0 + (4 + ((itr (FwwIntnzl0) k0 p3).length)) ≤ 4 + ((itr (FwwIntnzl0) k0 p3).length) from by first | omega | (rw [adr_eq]; omega) | exact iAnd_nn _ _ | exact iSub_nn _ _ | exact part1_le (by omega) (by first | omega | (simp only [List.length_append]; omega)) | decide) (by kernel_rfl)) ?_
            refine Tri.ret ?_
            repeat (first | refine thenP_ret ?_ | refine blkP_ret ?_ | refine countP_ret ?_ | refine joinP_ret ?_ | refine iterP_ret ?_)
            refine endP.conv (r' := ⟨.sc (.ro .u8 (part1 ((FwwU32n (IntKind.wrap .u32 (((itr (FwwIntnzl0) k0 p3).length : Nat) : Int))) ++ (itr (FwwIntnzl0) k0 p3)) (4 + ((itr (FwwIntnzl0) k0 p3).length)) 0 (4 + ((itr (FwwIntnzl0) k0 p3).length)))), []⟩) (by simp only [FwwIntnz, hq0, hf0, hb0, h3, h4, sel_true, sel_false]) ?_
            exact endP.ret [] (True ∧ True) (by kernel_rfl) (by kernel_rfl) ⟨trivial, trivial⟩
        ·
          have h3' := of_decide_eq_false h3
          refine Tri.seq_region [(19, qb false)] none [24, 0, 1] [] ((True ∧ True) ∧ ((True ∧ True) ∧ ((True ∧ True) ∧ ((True ∧ ((decide (((((itr (FwwIntnzl0) k0 p3).length : Nat) : Int) : Int) > 0)) = false)) ∧ ((True ∧ True) ∧ ((True ∧ True) ∧ ((True ∧ True) ∧ ((True ∧ True) ∧ ((True ∧ True) ∧ True)))))))))
              ([(24, .sc (.b false)), (0, .sc (.nils)), (1, .sc (.ro .u8 (itr (FwwIntnzl0) k0 p3)))], [])
              320 (by kernel_rfl) rfl (by kernel_rfl) (⟨⟨trivial, trivial⟩, ⟨⟨trivial, trivial⟩, ⟨⟨trivial, trivial⟩, ⟨⟨trivial, (h3)⟩, ⟨⟨trivial, trivial⟩, ⟨⟨trivial, trivial⟩, ⟨⟨trivial, trivial⟩, ⟨⟨trivial, trivial⟩, ⟨⟨trivial, trivial⟩, trivial⟩⟩⟩⟩⟩⟩⟩⟩⟩) ?_
          refine Tri.cond_false (by kernel_rfl) ?_
          refine Tri.skip ?_
          change Tri _ _ _ _ _ _
          refine Tri.seq_region [] none [4] [416] ((True ∧ True) ∧ ((True ∧ True) ∧ ((True ∧ True) ∧ ((True ∧ True) ∧ (((True ∧ True) ∧ True) ∧ ((True ∧ True) ∧ ((((((True ∧ (1 = 1)) ∧ ((0 < 1) ∧ (((4 + ((itr (FwwIntnzl0) k0 p3).length)) * 1 ≤ 140737488355328) ∧ (4 + ((itr (FwwIntnzl0) k0 p3).length) ≤ 140737488355328)))) ∧ ((itr (FwwIntnzl0) k0 p3).length = ((itr (FwwIntnzl0) k0 p3).length) * 1)) ∧ ((1 = 1) ∧ (0 + 4 * 1 = 4))) ∧ True) ∧ ((True ∧ True) ∧ True))))))))
              ([(4, .sc (.sl 416 0 (4 + ((itr (FwwIntnzl0) k0 p3).length)) 1 none))], [(416, .ints .u8 (4 + ((itr (FwwIntnzl0) k0 p3).length)) ((FwwU32n (IntKind.wrap .u32 (((itr (FwwIntnzl0) k0 p3).length : Nat) : Int))) ++ (itr (FwwIntnzl0) k0 p3)))])
              448 (by kernel_rfl) rfl (by kernel_rfl) (⟨⟨trivial, trivial⟩, ⟨⟨trivial, trivial⟩, ⟨⟨trivial, trivial⟩, ⟨⟨trivial, trivial⟩, ⟨⟨⟨trivial, trivial⟩, trivial⟩, ⟨⟨trivial, trivial⟩, ⟨⟨⟨⟨⟨⟨trivial, (rfl)⟩, ⟨(by first | omega | (rw [adr_eq]; omega) | exact iAnd_nn _ _ | exact iSub_nn _ _ | exact part1_le (by omega) (by first | omega | (simp only [List.length_append]; omega)) | decide), ⟨(by first | omega | (rw [adr_eq]; omega) | exact iAnd_nn _ _ | exact iSub_nn _ _ | exact part1_le (by omega) (by first | omega | (simp only [List.length_append]; omega)) | decide), (by first | omega | (rw [adr_eq]; omega) | exact iAnd_nn _ _ | exact iSub_nn _ _ | exact part1_le (by omega) (by first | omega | (simp only [List.length_append]; omega)) | decide)⟩⟩⟩, (by first | omega | (rw [adr_eq]; omega) | exact iAnd_nn _ _ | exact iSub_nn _ _ | exact part1_le (by omega) (by first | omega | (simp only [List.length_append]; omega)) | decide)⟩, ⟨(rfl), (by first | omega | (rw [adr_eq]; omega) | exact iAnd_nn _ _ | exact iSub_nn _ _ | exact part1_le (by omega) (by first | omega | (simp only [List.length_append]; omega)) | decide)⟩⟩, trivial⟩, ⟨⟨trivial, trivial⟩, trivial⟩⟩⟩⟩⟩⟩⟩⟩) ?_
          refine Tri.sub (Sub.still (s' := ([(4, .sc (.ro .u8 (part1 ((FwwU32n (IntKind.wrap .u32 (((itr (FwwIntnzl0) k0 p3).length : Nat) : Int))) ++ (itr (FwwIntnzl0) k0 p3)) (4 + ((itr (FwwIntnzl0) k0 p3).length)) 0 (4 + ((itr (FwwIntnzl0) k0 p3).length)))))], [])) 416 (.ints .u8 (4 + ((itr (FwwIntnzl0) k0 p3).length)) ((FwwU32n (IntKind.wrap .u32 (((itr (FwwIntnzl0) k0 p3).length : Nat) : Int))) ++ (itr (FwwIntnzl0) k0 p3))) (by kernel_rfl) (show 0 + (4 + ((itr (FwwIntnzl0) k0 p3).length)) ≤ 4 + ((itr (FwwIntnzl0) k0 p3).length) from by first | omega | (rw [adr_eq]; omega) | exact iAnd_nn _ _ | exact iSub_nn _ _ | exact part1_le (by omega) (by first | omega | (simp only [List.length_append]; omega)) | decide) (by kernel_rfl)) ?_
          refine Tri.ret ?_
          repeat (first | refine thenP_ret ?_ | refine blkP_ret ?_ | refine countP_ret ?_ | refine joinP_ret ?_ | refine iterP_ret ?_)
          refine endP.conv (r' := ⟨.sc (.ro .u8 (part1 ((FwwU32n (IntKind.wrap .u32 (((itr (FwwIntnzl0) k0 p3).length : Nat) : Int))) ++ (itr (FwwIntnzl0) k0 p3)) (4 + ((itr (FwwIntnzl0) k0 p3).length)) 0 (4 + ((itr (FwwIntnzl0) k0 p3).length)))), []⟩) (by simp only [FwwIntnz, hq0, hf0, hb0, h3, sel_true, sel_false]) ?_
          exact endP.ret [] (True ∧ True) (by kernel_rfl) (by kernel_rfl) ⟨trivial, trivial⟩
    ·
      have h1' := of_decide_eq_false h1
      refine Tri.seq_region [(8, qb false)] none [13, 0, 1] [] ((True ∧ True) ∧ ((True ∧ True) ∧ ((True ∧ True) ∧ ((True ∧ ((decide ((((z0.length : Nat) : Int) : Int) > 0)) = false)) ∧ ((True ∧ True) ∧ ((True ∧ True) ∧ ((True ∧ True) ∧ ((True ∧ True) ∧ ((True ∧ True) ∧ True)))))))))
          ([(13, .sc (.b false)), (0, .sc (.nils)), (1, .sc (.ro .u8 z0))], [])
          176 (by kernel_rfl) rfl (by kernel_rfl) (⟨⟨trivial, trivial⟩, ⟨⟨trivial, trivial⟩, ⟨⟨trivial, trivial⟩, ⟨⟨trivial, (h1)⟩, ⟨⟨trivial, trivial⟩, ⟨⟨trivial, trivial⟩, ⟨⟨trivial, trivial⟩, ⟨⟨trivial, trivial⟩, ⟨⟨trivial, trivial⟩, trivial⟩⟩⟩⟩⟩⟩⟩⟩⟩) ?_
      refine Tri.cond_false (by kernel_rfl) ?_
      refine Tri.exit ?_
      have hend0 : k0 = p3.length := by (have := of_decide_eq_false h1; omega)
      subst hend0; subst hz0
      have hf0 : fstB (FwwIntnzs0 p3) p3.length = p3.length := fst_none hJ0.2
      have hb0 : Nat.blt p3.length p3.length = false := blt_self _
      have hq0 : Nat.blt (fstB (FwwIntnzs0 p3) p3.length) p3.length = false := by rw [hf0]; exact hb0
      change Tri _ _ _ _ _ _
      refine Tri.seq ?_
      refine Tri.split (decide (((((itr (FwwIntnzl0) p3.length p3).length : Nat) : Int) : Int) > 0)) (fun h5 => ?_) (fun h5 => ?_)
      ·
        have h5' := of_decide_eq_true h5
        refine Tri.seq_region [(19, qb true)] none [24, 0, 1] [] ((True ∧ True) ∧ ((True ∧ True) ∧ ((True ∧ True) ∧ ((True ∧ ((decide (((((itr (FwwIntnzl0) p3.length p3).length : Nat) : Int) : Int) > 0)) = true)) ∧ ((True ∧ True) ∧ ((((0 : Int) ≤ 0 ∧ 0 < ((itr (FwwIntnzl0) p3.length p3).length : Int)) ∧ True) ∧ (((0 < (itr (FwwIntnzl0) p3.length p3).length) ∧ True) ∧ ((True ∧ True) ∧ ((True ∧ True) ∧ True)))))))))
            ([(24, .sc (.b (decide (((itr (FwwIntnzl0) p3.length p3).getD 0 0 : Int) ≥ 128)))), (0, .sc (.nils)), (1, .sc (.ro .u8 (itr (FwwIntnzl0) p3.length p3)))], [])
            320 (by kernel_rfl) rfl (by kernel_rfl) (⟨⟨trivial, trivial⟩, ⟨⟨trivial, trivial⟩, ⟨⟨trivial, trivial⟩, ⟨⟨trivial, (h5)⟩, ⟨⟨trivial, trivial⟩, ⟨⟨(by first | omega | (rw [adr_eq]; omega) | exact iAnd_nn _ _ | exact iSub_nn _ _ | exact part1_le (by omega) (by first | omega | (simp only [List.length_append]; omega)) | decide), trivial⟩, ⟨⟨(by first | omega | (rw [adr_eq]; omega) | exact iAnd_nn _ _ | exact iSub_nn _ _ | exact part1_le (by omega) (by first | omega | (simp only [List.length_append]; omega)) | decide), trivial⟩, ⟨⟨trivial, trivial⟩, ⟨⟨trivial, trivial⟩, trivial⟩⟩⟩⟩⟩⟩⟩⟩⟩) ?_
        refine Tri.cond (x := (decide (((itr (FwwIntnzl0) p3.length p3).getD 0 0 : Int) ≥ 128))) (by kernel_rfl) (fun h6 => ?_) (fun h6 => ?_)
        ·
          have h6' := of_decide_eq_true h6
          refine Tri.seq_region [(28, qi ((((itr (FwwIntnzl0) p3.length p3).length) + 1 : Nat) : Int))] none [4] [464] ((True ∧ True) ∧ ((True ∧ True) ∧ ((True ∧ True) ∧ ((True ∧ ((iAdd .i64 (((itr (FwwIntnzl0) p3.length p3).length : Nat) : Int) 1) = ((((itr (FwwIntnzl0) p3.length p3).length) + 1 : Nat) : Int))) ∧ ((True ∧ True) ∧ (((True ∧ True) ∧ True) ∧ ((((((0 < 1) ∧ (1 = 1)) ∧ True) ∧ ((1 * 1 ≤ 16777216) ∧ (1 = 1))) ∧ True) ∧ ((((((True ∧ (1 = 1)) ∧ ((0 < 1) ∧ ((5 * 1 ≤ 140737488355328) ∧ (5 ≤ 140737488355328)))) ∧ (1 = 1 * 1)) ∧ ((1 = 1) ∧ (0 + 4 * 1 = 4))) ∧ True) ∧ ((True ∧ True) ∧ ((((((True ∧ (1 = 1)) ∧ ((0 < 1) ∧ (((5 + ((itr (FwwIntnzl0) p3.length p3).length)) * 1 ≤ 140737488355328) ∧ (5 + ((itr (FwwIntnzl0) p3.length p3).length) ≤ 140737488355328)))) ∧ ((itr (FwwIntnzl0) p3.length p3).length = ((itr (FwwIntnzl0) p3.length p3).length) * 1)) ∧ ((1 = 1) ∧ (0 + 5 * 1 = 5))) ∧ True) ∧ ((True ∧ True) ∧ True)))))))))))
              ([(4, .sc (.sl 464 0 (5 + ((itr (FwwIntnzl0) p3.length p3).length)) 1 none))], [(464, .ints .u8 (5 + ((itr (FwwIntnzl0) p3.length p3).length)) (((FwwU32n (IntKind.wrap .u32 ((((itr (FwwIntnzl0) p3.length p3).length) + 1 : Nat) : Int))) ++ [0]) ++ (itr (FwwIntnzl0) p3.length p3)))])
              496 (by kernel_rfl) rfl (by kernel_rfl) (⟨⟨trivial, trivial⟩, ⟨⟨trivial, trivial⟩, ⟨⟨trivial, trivial⟩, ⟨⟨trivial, (iAdd_nat (a := (itr (FwwIntnzl0) p3.length p3).length) (b := 1) (by omega))⟩, ⟨⟨trivial, trivial⟩, ⟨⟨⟨trivial, trivial⟩, trivial⟩, ⟨⟨⟨⟨⟨(by first | omega | (rw [adr_eq]; omega) | exact iAnd_nn _ _ | exact iSub_nn _ _ | exact part1_le (by omega) (by first | omega | (simp only [List.length_append]; omega)) | decide), (rfl)⟩, trivial⟩, ⟨(by first | omega | (rw [adr_eq]; omega) | exact iAnd_nn _ _ | exact iSub_nn _ _ | exact part1_le (by omega) (by first | omega | (simp only [List.length_append]; omega)) | decide), (rfl)⟩⟩, trivial⟩, ⟨⟨⟨⟨⟨⟨trivial, (rfl)⟩, ⟨(by first | omega | (rw [adr_eq]; omega) | exact iAnd_nn _ _ | exact iSub_nn _ _ | exact part1_le (by omega) (by first | omega | (simp only [List.length_append]; omega)) | decide), ⟨(by first | omega | (rw [adr_eq]; omega) | exact iAnd_nn _ _ | exact iSub_nn _ _ | exact part1_le (by omega) (by first | omega | (simp only [List.length_append]; omega)) | decide), (by first | omega | (rw [adr_eq]; omega) | exact iAnd_nn _ _ | exact iSub_nn _ _ | exact part1_le (by omega) (by first | omega | (simp only [List.length_append]; omega)) | decide)⟩⟩⟩, (by first | omega | (rw [adr_eq]; omega) | exact iAnd_nn _ _ | exact iSub_nn _ _ | exact part1_le (by omega) (by first | omega | (simp only [List.length_append]; omega)) | decide)⟩, ⟨(rfl), (by first | omega | (rw [adr_eq]; omega) | exact iAnd_nn _ _ | exact iSub_nn _ _ | exact part1_le (by omega) (by first | omega | (simp only [List.length_append]; omega)) | decide)⟩⟩, trivial⟩, ⟨⟨trivial, trivial⟩, ⟨⟨⟨⟨⟨⟨trivial, (rfl)⟩, ⟨(by first | omega | (rw [adr_eq]; omega) | exact iAnd_nn _ _ | exact iSub_nn _ _ | exact part1_le (by omega) (by first | omega | (simp only [List.length_append]; omega)) | decide), ⟨(by first | omega | (rw [adr_eq]; omega) | exact iAnd_nn _ _ | exact iSub_nn _ _ | exact part1_le (by omega) (by first | omega | (simp only [List.length_append]; omega)) | decide), (by first | omega | (rw [adr_eq]; omega) | exact iAnd_nn _ _ | exact iSub_nn _ _ | exact part1_le (by omega) (by first | omega | (simp only [List.length_append]; omega)) | decide)⟩⟩⟩, (by first | omega | (rw [adr_eq]; omega) | exact iAnd_nn _ _ | exact iSub_nn _ _ | exact part1_le (by omega) (by first | omega | (simp only [List.length_append]; omega)) | decide)⟩, ⟨(rfl), (by first | omega | (rw [adr_eq]; omega) | exact iAnd_nn _ _ | exact iSub_nn _ _ | exact part1_le (by omega) (by first | omega | (simp only [List.length_append]; omega)) | decide)⟩⟩, trivial⟩, ⟨⟨trivial, trivial⟩, trivial⟩⟩⟩⟩⟩⟩⟩⟩⟩⟩⟩) ?_
          refine Tri.sub (Sub.still (s' := ([(4, .sc (.ro .u8 (part1 (((FwwU32n (IntKind.wrap .u32 ((((itr (FwwIntnzl0) p3.length p3).length) + 1 : Nat) : Int))) ++ [0]) ++ (itr (FwwIntnzl0) p3.length p3)) (5 + ((itr (FwwIntnzl0) p3.length p3).length)) 0 (5 + ((itr (FwwIntnzl0) p3.length p3).length)))))], [])) 464 (.ints .u8 (5 + ((itr (FwwIntnzl0) p3.length p3).length)) (((FwwU32n (IntKind.wrap .u32 ((((itr (FwwIntnzl0) p3.length p3).length) + 1 : Nat) : Int))) ++ [0]) ++ (itr (FwwIntnzl0) p3.length p3))) (by kernel_rfl) (show 0 + (5 + ((itr (FwwIntnzl0) p3.length p3).length)) ≤ 5 + ((itr (FwwIntnzl0) p3.length p3).length) from by first | omega | (rw [adr_eq]; omega) | exact iAnd_nn _ _ | exact iSub_nn _ _ | exact part1_le (by omega) (by first | omega | (simp only [List.length_append]; omega)) | decide) (by kernel_rfl)) ?_
          refine Tri.ret ?_
          repeat (first | refine thenP_ret ?_ | refine blkP_ret ?_ | refine countP_ret ?_ | refine joinP_ret ?_ | refine iterP_ret ?_)
          refine endP.conv (r' := ⟨.sc (.ro .u8 (part1 (((FwwU32n (IntKind.wrap .u32 ((((itr (FwwIntnzl0) p3.length p3).length) + 1 : Nat) : Int))) ++ [0]) ++ (itr (FwwIntnzl0) p3.length p3)) (5 + ((itr (FwwIntnzl0) p3.length p3).length)) 0 (5 + ((itr (FwwIntnzl0) p3.length p3).length)))), []⟩) (by simp only [FwwIntnz, hq0, hf0, hb0, h5, h6, sel_true, sel_false]) ?_
          exact endP.ret [] (True ∧ True) (by kernel_rfl) (by kernel_rfl) ⟨trivial, trivial⟩
        ·
          have h6' := of_decide_eq_false h6
          refine Tri.skip ?_
          change Tri _ _ _ _ _ _
          refine Tri.seq_region [] none [4] [416] ((True ∧ True) ∧ ((True ∧ True) ∧ ((True ∧ True) ∧ ((True ∧ True) ∧ (((True ∧ True) ∧ True) ∧ ((True ∧ True) ∧ ((((((True ∧ (1 = 1)) ∧ ((0 < 1) ∧ (((4 + ((itr (FwwIntnzl0) p3.length p3).length)) * 1 ≤ 140737488355328) ∧ (4 + ((itr (FwwIntnzl0) p3.length p3).length) ≤ 140737488355328)))) ∧ ((itr (FwwIntnzl0) p3.length p3).length = ((itr (FwwIntnzl0) p3.length p3).length) * 1)) ∧ ((1 = 1) ∧ (0 + 4 * 1 = 4))) ∧ True) ∧ ((True ∧ True) ∧ True))))))))
              ([(4, .sc (.sl 416 0 (4 + ((itr (FwwIntnzl0) p3.length p3).length)) 1 none))], [(416, .ints .u8 (4 + ((itr (FwwIntnzl0) p3.length p3).length)) ((FwwU32n (IntKind.wrap .u32 (((itr (FwwIntnzl0) p3.length p3).length : Nat) : Int))) ++ (itr (FwwIntnzl0) p3.length p3)))])
              448 (by kernel_rfl) rfl (by kernel_rfl) (⟨⟨trivial, trivial⟩, ⟨⟨trivial, trivial⟩, ⟨⟨trivial, trivial⟩, ⟨⟨trivial, trivial⟩, ⟨⟨⟨trivial, trivial⟩, trivial⟩, ⟨⟨trivial, trivial⟩, ⟨⟨⟨⟨⟨⟨trivial, (rfl)⟩, ⟨(by first | omega | (rw [adr_eq]; omega) | exact iAnd_nn _ _ | exact iSub_nn _ _ | exact part1_le (by omega) (by first | omega | (simp only [List.length_append]; omega)) | decide), ⟨(by first | omega | (rw [adr_eq]; omega) | exact iAnd_nn _ _ | exact iSub_nn _ _ | exact part1_le (by omega) (by first | omega | (simp only [List.length_append]; omega)) | decide), (by first | omega | (rw [adr_eq]; omega) | exact iAnd_nn _ _ | exact iSub_nn _ _ | exact part1_le (by omega) (by first | omega | (simp only [List.length_append]; omega)) | decide)⟩⟩⟩, (by first | omega | (rw [adr_eq]; omega) | exact iAnd_nn _ _ | exact iSub_nn _ _ | exact part1_le (by omega) (by first | omega | (simp only [List.length_append]; omega)) | decide)⟩, ⟨(rfl), (by first | omega | (rw [adr_eq]; omega) | exact iAnd_nn _ _ | exact iSub_nn _ _ | exact part1_le (by omega) (by first | omega | (simp only [List.length_append]; omega)) | decide)⟩⟩, trivial⟩, ⟨⟨trivial, trivial⟩, trivial⟩⟩⟩⟩⟩⟩⟩⟩) ?_
          refine Tri.sub (Sub.still (s' := ([(4, .sc (.ro .u8 (part1 ((FwwU32n (IntKind.wrap .u32 (((itr (FwwIntnzl0) p3.length p3).length : Nat) : Int))) ++ (itr (FwwIntnzl0) p3.length p3)) (4 + ((itr (FwwIntnzl0) p3.length p3).length)) 0 (4 + ((itr (FwwIntnzl0) p3.length p3).length)))))], [])) 416 (.ints .u8 (4 + ((itr (FwwIntnzl0) p3.length p3).length)) ((FwwU32n (IntKind.wrap .u32 (((itr (FwwIntnzl0) p3.length p3).length : Nat) : Int))) ++ (itr (FwwIntnzl0) p3.length p3))) (by kernel_rfl) (show 0 + (4 + ((itr (FwwIntnzl0) p3.length p3).length)) ≤ 4 + ((itr (FwwIntnzl0) p3.length p3).length) from by first | omega | (rw [adr_eq]; omega) | exact iAnd_nn _ _ | exact iSub_nn _ _ | exact part1_le (by omega) (by first | omega | (simp only [List.length_append]; omega)) | decide) (by kernel_rfl)) ?_
          refine Tri.ret ?_
          repeat (first | refine thenP_ret ?_ | refine blkP_ret ?_ | refine countP_ret ?_ | refine joinP_ret ?_ | refine iterP_ret ?_)
          refine endP.conv (r' := ⟨.sc (.ro .u8 (part1 ((FwwU32n (IntKind.wrap .u32 (((itr (FwwIntnzl0) p3.length p3).length : Nat) : Int))) ++ (itr (FwwIntnzl0) p3.length p3)) (4 + ((itr (FwwIntnzl0) p3.length p3).length)) 0 (4 + ((itr (FwwIntnzl0) p3.length p3).length)))), []⟩) (by simp only [FwwIntnz, hq0, hf0, hb0, h5, h6, sel_true, sel_false]) ?_
          exact endP.ret [] (True ∧ True) (by kernel_rfl) (by kernel_rfl) ⟨trivial, trivial⟩
      ·
        have h5' := of_decide_eq_false h5
        refine Tri.seq_region [(19, qb false)] none [24, 0, 1] [] ((True ∧ True) ∧ ((True ∧ True) ∧ ((True ∧ True) ∧ ((True ∧ ((decide (((((itr (FwwIntnzl0) p3.length p3).length : Nat) : Int) : Int) > 0)) = false)) ∧ ((True ∧ True) ∧ ((True ∧ True) ∧ ((True ∧ True) ∧ ((True ∧ True) ∧ ((True ∧ True) ∧ True)))))))))
            ([(24, .sc (.b false)), (0, .sc (.nils)), (1, .sc (.ro .u8 (itr (FwwIntnzl0) p3.length p3)))], [])
            320 (by kernel_rfl) rfl (by kernel_rfl) (⟨⟨trivial, trivial⟩, ⟨⟨trivial, trivial⟩, ⟨⟨trivial, trivial⟩, ⟨⟨trivial, (h5)⟩, ⟨⟨trivial, trivial⟩, ⟨⟨trivial, trivial⟩, ⟨⟨trivial, trivial⟩, ⟨⟨trivial, trivial⟩, ⟨⟨trivial, trivial⟩, trivial⟩⟩⟩⟩⟩⟩⟩⟩⟩) ?_
        refine Tri.cond_false (by kernel_rfl) ?_
        refine Tri.skip ?_
        change Tri _ _ _ _ _ _
        refine Tri.seq_region [] none [4] [416] ((True ∧ True) ∧ ((True ∧ True) ∧ ((True ∧ True) ∧ ((True ∧ True) ∧ (((True ∧ True) ∧ True) ∧ ((True ∧ True) ∧ ((((((True ∧ (1 = 1)) ∧ ((0 < 1) ∧ (((4 + ((itr (FwwIntnzl0) p3.length p3).length)) * 1 ≤ 140737488355328) ∧ (4 + ((itr (FwwIntnzl0) p3.length p3).length) ≤ 140737488355328)))) ∧ ((itr (FwwIntnzl0) p3.length p3).length = ((itr (FwwIntnzl0) p3.length p3).length) * 1)) ∧ ((1 = 1) ∧ (0 + 4 * 1 = 4))) ∧ True) ∧ ((True ∧ True) ∧ True))))))))
            ([(4, .sc (.sl 416 0 (4 + ((itr (FwwIntnzl0) p3.length p3).length)) 1 none))], [(416, .ints .u8 (4 + ((itr (FwwIntnzl0) p3.length p3).length)) ((FwwU32n (IntKind.wrap .u32 (((itr (FwwIntnzl0) p3.length p3).length : Nat) : Int))) ++ (itr (FwwIntnzl0) p3.length p3)))])
            448 (by kernel_rfl) rfl (by kernel_rfl) (⟨⟨trivial, trivial⟩, ⟨⟨trivial, trivial⟩, ⟨⟨trivial, trivial⟩, ⟨⟨trivial, trivial⟩, ⟨⟨⟨trivial, trivial⟩, trivial⟩, ⟨⟨trivial, trivial⟩, ⟨⟨⟨⟨⟨⟨trivial, (rfl)⟩, ⟨(by first | omega | (rw [adr_eq]; omega) | exact iAnd_nn _ _ | exact iSub_nn _ _ | exact part1_le (by omega) (by first | omega | (simp only [List.length_append]; omega)) | decide), ⟨(by first | omega | (rw [adr_eq]; omega) | exact iAnd_nn _ _ | exact iSub_nn _ _ | exact part1_le (by omega) (by first | omega | (simp only [List.length_append]; omega)) | decide), (by first | omega | (rw [adr_eq]; omega) | exact iAnd_nn _ _ | exact iSub_nn _ _ | exact part1_le (by omega) (by first | omega | (simp only [List.length_append]; omega)) | decide)⟩⟩⟩, (by first | omega | (rw [adr_eq]; omega) | exact iAnd_nn _ _ | exact iSub_nn _ _ | exact part1_le (by omega) (by first | omega | (simp only [List.length_append]; omega)) | decide)⟩, ⟨(rfl), (by first | omega | (rw [adr_eq]; omega) | exact iAnd_nn _ _ | exact iSub_nn _ _ | exact part1_le (by omega) (by first | omega | (simp only [List.length_append]; omega)) | decide)⟩⟩, trivial⟩, ⟨⟨trivial, trivial⟩, trivial⟩⟩⟩⟩⟩⟩⟩⟩) ?_
        refine Tri.sub (Sub.still (s' := ([(4, .sc (.ro .u8 (part1 ((FwwU32n (IntKind.wrap .u32 (((itr (FwwIntnzl0) p3.length p3).length : Nat) : Int))) ++ (itr (FwwIntnzl0) p3.length p3)) (4 + ((itr (FwwIntnzl0) p3.length p3).length)) 0 (4 + ((itr (FwwIntnzl0) p3.length p3).length)))))], [])) 416 (.ints .u8 (4 + ((itr (FwwIntnzl0) p3.length p3).length)) ((FwwU32n (IntKind.wrap .u32 (((itr (FwwIntnzl0) p3.length p3).length : Nat) : Int))) ++ (itr (FwwIntnzl0) p3.length p3))) (by kernel_rfl) (show 0 + (4 + ((itr (FwwIntnzl0) p3.length p3).length)) ≤ 4 + ((itr (FwwIntnzl0) p3.length p3).length) from by first | omega | (rw [adr_eq]; omega) | exact iAnd_nn _ _ | exact iSub_nn _ _ | exact part1_le (by omega) (by first | omega | (simp only [List.length_append]; omega)) | decide) (by kernel_rfl)) ?_
        refine Tri.ret ?_
        repeat (first | refine thenP_ret ?_ | refine blkP_ret ?_ | refine countP_ret ?_ | refine joinP_ret ?_ | refine iterP_ret ?_)
        refine endP.conv (r' := ⟨.sc (.ro .u8 (part1 ((FwwU32n (IntKind.wrap .u32 (((itr (FwwIntnzl0) p3.length p3).length : Nat) : Int))) ++ (itr (FwwIntnzl0) p3.length p3)) (4 + ((itr (FwwIntnzl0) p3.length p3).length)) 0 (4 + ((itr (FwwIntnzl0) p3.length p3).length)))), []⟩) (by simp only [FwwIntnz, hq0, hf0, hb0, h5, sel_true, sel_false]) ?_
        exact endP.ret [] (True ∧ True) (by kernel_rfl) (by kernel_rfl) ⟨trivial, trivial⟩




noncomputable def Fwfit : Bool :=
  (sel (((((FwInt (FwwTextz (FwwIntnn0 (part1 [128] 1 0 1)) (FwwIntn (part1 [128] 1 0 1)) (⟨#[97, 98]⟩ : ByteArray)) false).length : Nat) : Int) : Int) == 1) (sel (((FwInt (FwwTextz (FwwIntnn0 (part1 [128] 1 0 1)) (FwwIntn (part1 [128] 1 0 1)) (⟨#[97, 98]⟩ : ByteArray)) false).getD 0 0 : Int) == 128) (sel (strEq (FwText (FwInt_1 (FwwTextz (FwwIntnn0 (part1 [128] 1 0 1)) (FwwIntn (part1 [128] 1 0 1)) (⟨#[97, 98]⟩ : ByteArray)) false) (FwInt_2 (FwwTextz (FwwIntnn0 (part1 [128] 1 0 1)) (FwwIntn (part1 [128] 1 0 1)) (⟨#[97, 98]⟩ : ByteArray)) false)) (⟨#[97, 98]⟩ : ByteArray)) (FwEnd (FwText_1 (FwInt_1 (FwwTextz (FwwIntnn0 (part1 [128] 1 0 1)) (FwwIntn (part1 [128] 1 0 1)) (⟨#[97, 98]⟩ : ByteArray)) false) (FwInt_2 (FwwTextz (FwwIntnn0 (part1 [128] 1 0 1)) (FwwIntn (part1 [128] 1 0 1)) (⟨#[97, 98]⟩ : ByteArray)) false)) (FwText_2 (FwInt_1 (FwwTextz (FwwIntnn0 (part1 [128] 1 0 1)) (FwwIntn (part1 [128] 1 0 1)) (⟨#[97, 98]⟩ : ByteArray)) false) (FwInt_2 (FwwTextz (FwwIntnn0 (part1 [128] 1 0 1)) (FwwIntn (part1 [128] 1 0 1)) (⟨#[97, 98]⟩ : ByteArray)) false))) false) false) false)

noncomputable def Swfit : List AV → List Blk → Option (Prop × Ret)
  | [], [] => some (True, ⟨.sc (.b (Fwfit)), []⟩)
  | _, _ => none

noncomputable def Bwfit : Bs := { P := Go.Proofs.Try.prog, G := noG, tab := tabOf [⟨6, 48, [.val, .ro .u8], [32], [], ⟨0, 1, SwwIntn⟩⟩, ⟨7, 80, [.ro .u8], [], [], ⟨0, 1, SwFrom⟩⟩, ⟨8, 128, [.io], [], [80], ⟨1, 0, SwInt⟩⟩, ⟨9, 416, [.io], [], [80], ⟨1, 0, SwEnd⟩⟩, ⟨13, 64, [.io, .val], [], [48], ⟨1, 0, SwwTextz⟩⟩, ⟨19, 336, [.io], [], [80], ⟨1, 0, SwText⟩⟩], n := 27 }

theorem Bwfit.ok : Bwfit.Ok := ⟨tabOk (P := Go.Proofs.Try.prog) (G := noG) (l := [⟨6, 48, [.val, .ro .u8], [32], [], ⟨0, 1, SwwIntn⟩⟩, ⟨7, 80, [.ro .u8], [], [], ⟨0, 1, SwFrom⟩⟩, ⟨8, 128, [.io], [], [80], ⟨1, 0, SwInt⟩⟩, ⟨9, 416, [.io], [], [80], ⟨1, 0, SwEnd⟩⟩, ⟨13, 64, [.io, .val], [], [48], ⟨1, 0, SwwTextz⟩⟩, ⟨19, 336, [.io], [], [80], ⟨1, 0, SwText⟩⟩]) (And.intro KwwIntn (And.intro KwFrom (And.intro KwInt (And.intro KwEnd (And.intro KwwTextz (And.intro KwText True.intro)))))), mixed⟩

theorem Kwfit : Known Go.Proofs.Try.prog noG 5 ⟨0, 0, Swfit⟩ := by
  refine Known.walk (B := Bwfit) (fn := Go.Proofs.Try.f5) Bwfit.ok (by kernel_rfl) rfl (by kernel_rfl) (by kernel_rfl) (by decide) (by decide) ?_
  · intro E args ks C r h hC hlen
    simp only at h
    unfold Swfit at h
    split at h
    rotate_left
    · cases h
    skip
    cases h
    simp only [lens] at hlen
    refine ⟨show 0 ≤ 27 from by decide, ?_⟩
    refine Tri.sub (Sub.of_eq (show _ = ([], []) from rfl)) ?_
    refine Tri.seq_region [] none [] [] ((True ∧ True) ∧ True)
        ([], [])
        32 (by kernel_rfl) rfl (by kernel_rfl) (⟨⟨trivial, trivial⟩, trivial⟩) ?_
    refine Tri.seq_region [] none [1] [80] ((((((0 < 1) ∧ (1 = 1)) ∧ True) ∧ ((1 * 1 ≤ 16777216) ∧ (1 = 1))) ∧ True) ∧ (((((0 + 1 ≤ 1) ∧ True) ∧ ((part1 [128] 1 0 1).length ≤ 1000000000)) ∧ True) ∧ (((True ∧ (((FwwIntnn0 (part1 [128] 1 0 1)) = (FwwIntnn0 (part1 [128] 1 0 1))) ∧ ((FwwIntnn0 (part1 [128] 1 0 1)) ≤ 1000000000 ∧ (⟨#[97, 98]⟩ : ByteArray).size ≤ 1000000000))) ∧ True) ∧ ((((True ∧ True) ∧ True) ∧ True) ∧ ((True ∧ True) ∧ True)))))
        ([(1, .sc (.p 80 0))], [(80, .cells [.ro .u8 (FwwTextz (FwwIntnn0 (part1 [128] 1 0 1)) (FwwIntn (part1 [128] 1 0 1)) (⟨#[97, 98]⟩ : ByteArray)), .b false])])
        112 (by kernel_rfl) rfl (by kernel_rfl) (⟨⟨⟨⟨⟨(by first | omega | decide | exact Nat.le_trans (le_FwwIntn _) (by decide) | exact ⟨Nat.le_trans (le_FwwIntn _) (by decide), by decide⟩), (rfl)⟩, trivial⟩, ⟨(by first | omega | decide | exact Nat.le_trans (le_FwwIntn _) (by decide) | exact ⟨Nat.le_trans (le_FwwIntn _) (by decide), by decide⟩), (rfl)⟩⟩, trivial⟩, ⟨⟨⟨⟨(by first | omega | decide | exact Nat.le_trans (le_FwwIntn _) (by decide) | exact ⟨Nat.le_trans (le_FwwIntn _) (by decide), by decide⟩), trivial⟩, (by first | omega | decide | exact Nat.le_trans (le_FwwIntn _) (by decide) | exact ⟨Nat.le_trans (le_FwwIntn _) (by decide), by decide⟩)⟩, trivial⟩, ⟨⟨⟨trivial, ⟨(rfl), (by first | omega | decide | exact Nat.le_trans (le_FwwIntn _) (by decide) | exact ⟨Nat.le_trans (le_FwwIntn _) (by decide), by decide⟩)⟩⟩, trivial⟩, ⟨⟨⟨⟨trivial, trivial⟩, trivial⟩, trivial⟩, ⟨⟨trivial, trivial⟩, trivial⟩⟩⟩⟩⟩) ?_
    refine Tri.seq_region [] none [2, 1] [80] ((True ∧ True) ∧ (((True ∧ True) ∧ True) ∧ ((True ∧ True) ∧ True)))
        ([(2, .sc (.ro .u8 (FwInt (FwwTextz (FwwIntnn0 (part1 [128] 1 0 1)) (FwwIntn (part1 [128] 1 0 1)) (⟨#[97, 98]⟩ : ByteArray)) false))), (1, .sc (.p 80 0))], [(80, .cells [.ro .u8 (FwInt_1 (FwwTextz (FwwIntnn0 (part1 [128] 1 0 1)) (FwwIntn (part1 [128] 1 0 1)) (⟨#[97, 98]⟩ : ByteArray)) false), .b (FwInt_2 (FwwTextz (FwwIntnn0 (part1 [128] 1 0 1)) (FwwIntn (part1 [128] 1 0 1)) (⟨#[97, 98]⟩ : ByteArray)) false)])])
        160 (by kernel_rfl) rfl (by kernel_rfl) (⟨⟨trivial, trivial⟩, ⟨⟨⟨trivial, trivial⟩, trivial⟩, ⟨⟨trivial, trivial⟩, trivial⟩⟩⟩) ?_
    refine Tri.split (((((FwInt (FwwTextz (FwwIntnn0 (part1 [128] 1 0 1)) (FwwIntn (part1 [128] 1 0 1)) (⟨#[97, 98]⟩ : ByteArray)) false).length : Nat) : Int) : Int) == 1) (fun h1 => ?_) (fun h1 => ?_)
    ·
      have h1' := eq_true_i h1
      refine Tri.split (((FwInt (FwwTextz (FwwIntnn0 (part1 [128] 1 0 1)) (FwwIntn (part1 [128] 1 0 1)) (⟨#[97, 98]⟩ : ByteArray)) false).getD 0 0 : Int) == 128) (fun h2 => ?_) (fun h2 => ?_)
      ·
        have h2' := eq_true_i h2
        refine Tri.split (strEq (FwText (FwInt_1 (FwwTextz (FwwIntnn0 (part1 [128] 1 0 1)) (FwwIntn (part1 [128] 1 0 1)) (⟨#[97, 98]⟩ : ByteArray)) false) (FwInt_2 (FwwTextz (FwwIntnn0 (part1 [128] 1 0 1)) (FwwIntn (part1 [128] 1 0 1)) (⟨#[97, 98]⟩ : ByteArray)) false)) (⟨#[97, 98]⟩ : ByteArray)) (fun h3 => ?_) (fun h3 => ?_)
        ·
          refine Tri.seq_region [(12, qb true), (18, qb true), (23, qb true)] none [0] [] ((True ∧ True) ∧ ((True ∧ True) ∧ ((True ∧ True) ∧ ((True ∧ ((((((FwInt (FwwTextz (FwwIntnn0 (part1 [128] 1 0 1)) (FwwIntn (part1 [128] 1 0 1)) (⟨#[97, 98]⟩ : ByteArray)) false).length : Nat) : Int) : Int) == 1) = true)) ∧ ((True ∧ True) ∧ ((((0 : Int) ≤ 0 ∧ 0 < ((FwInt (FwwTextz (FwwIntnn0 (part1 [128] 1 0 1)) (FwwIntn (part1 [128] 1 0 1)) (⟨#[97, 98]⟩ : ByteArray)) false).length : Int)) ∧ True) ∧ (((0 < (FwInt (FwwTextz (FwwIntnn0 (part1 [128] 1 0 1)) (FwwIntn (part1 [128] 1 0 1)) (⟨#[97, 98]⟩ : ByteArray)) false).length) ∧ True) ∧ ((True ∧ True) ∧ ((True ∧ True) ∧ ((True ∧ ((((FwInt (FwwTextz (FwwIntnn0 (part1 [128] 1 0 1)) (FwwIntn (part1 [128] 1 0 1)) (⟨#[97, 98]⟩ : ByteArray)) false).getD 0 0 : Int) == 128) = true)) ∧ ((True ∧ True) ∧ (((True ∧ True) ∧ True) ∧ ((True ∧ True) ∧ ((True ∧ True) ∧ ((True ∧ ((strEq (FwText (FwInt_1 (FwwTextz (FwwIntnn0 (part1 [128] 1 0 1)) (FwwIntn (part1 [128] 1 0 1)) (⟨#[97, 98]⟩ : ByteArray)) false) (FwInt_2 (FwwTextz (FwwIntnn0 (part1 [128] 1 0 1)) (FwwIntn (part1 [128] 1 0 1)) (⟨#[97, 98]⟩ : ByteArray)) false)) (⟨#[97, 98]⟩ : ByteArray)) = true)) ∧ ((True ∧ True) ∧ (((True ∧ True) ∧ True) ∧ ((True ∧ True) ∧ ((True ∧ True) ∧ True)))))))))))))))))))
              ([(0, .sc (.b (FwEnd (FwText_1 (FwInt_1 (FwwTextz (FwwIntnn0 (part1 [128] 1 0 1)) (FwwIntn (part1 [128] 1 0 1)) (⟨#[97, 98]⟩ : ByteArray)) false) (FwInt_2 (FwwTextz (FwwIntnn0 (part1 [128] 1 0 1)) (FwwIntn (part1 [128] 1 0 1)) (⟨#[97, 98]⟩ : ByteArray)) false)) (FwText_2 (FwInt_1 (FwwTextz (FwwIntnn0 (part1 [128] 1 0 1)) (FwwIntn (part1 [128] 1 0 1)) (⟨#[97, 98]⟩ : ByteArray)) false) (FwInt_2 (FwwTextz (FwwIntnn0 (part1 [128] 1 0 1)) (FwwIntn (part1 [128] 1 0 1)) (⟨#[97, 98]⟩ : ByteArray)) false)))))], [])
              464 (by kernel_rfl) rfl (by kernel_rfl) (⟨⟨trivial, trivial⟩, ⟨⟨trivial, trivial⟩, ⟨⟨trivial, trivial⟩, ⟨⟨trivial, (h1)⟩, ⟨⟨trivial, trivial⟩, ⟨⟨(by first | omega | decide | exact Nat.le_trans (le_FwwIntn _) (by decide) | exact ⟨Nat.le_trans (le_FwwIntn _) (by decide), by decide⟩), trivial⟩, ⟨⟨(by first | omega | decide | exact Nat.le_trans (le_FwwIntn _) (by decide) | exact ⟨Nat.le_trans (le_FwwIntn _) (by decide), by decide⟩), trivial⟩, ⟨⟨trivial, trivial⟩, ⟨⟨trivial, trivial⟩, ⟨⟨trivial, (h2)⟩, ⟨⟨trivial, trivial⟩, ⟨⟨⟨trivial, trivial⟩, trivial⟩, ⟨⟨trivial, trivial⟩, ⟨⟨trivial, trivial⟩, ⟨⟨trivial, (h3)⟩, ⟨⟨trivial, trivial⟩, ⟨⟨⟨trivial, trivial⟩, trivial⟩, ⟨⟨trivial, trivial⟩, ⟨⟨trivial, trivial⟩, trivial⟩⟩⟩⟩⟩⟩⟩⟩⟩⟩⟩⟩⟩⟩⟩⟩⟩⟩⟩) ?_
          refine Tri.ret ?_
          repeat (first | refine thenP_ret ?_ | refine blkP_ret ?_ | refine countP_ret ?_ | refine joinP_ret ?_ | refine iterP_ret ?_)
          refine endP.conv (r' := ⟨.sc (.b (FwEnd (FwText_1 (FwInt_1 (FwwTextz (FwwIntnn0 (part1 [128] 1 0 1)) (FwwIntn (part1 [128] 1 0 1)) (⟨#[97, 98]⟩ : ByteArray)) false) (FwInt_2 (FwwTextz (FwwIntnn0 (part1 [128] 1 0 1)) (FwwIntn (part1 [128] 1 0 1)) (⟨#[97, 98]⟩ : ByteArray)) false)) (FwText_2 (FwInt_1 (FwwTextz (FwwIntnn0 (part1 [128] 1 0 1)) (FwwIntn (part1 [128] 1 0 1)) (⟨#[97, 98]⟩ : ByteArray)) false) (FwInt_2 (FwwTextz (FwwIntnn0 (part1 [128] 1 0 1)) (FwwIntn (part1 [128] 1 0 1)) (⟨#[97, 98]⟩ : ByteArray)) false)))), []⟩) (by simp only [Fwfit, h1, h2, h3, sel_true, sel_false]) ?_
          exact endP.ret [] (True ∧ True) (by kernel_rfl) (by kernel_rfl) ⟨trivial, trivial⟩
        ·
          refine Tri.seq_region [(12, qb true), (18, qb true), (23, qb false)] none [0] [] ((True ∧ True) ∧ ((True ∧ True) ∧ ((True ∧ True) ∧ ((True ∧ ((((((FwInt (FwwTextz (FwwIntnn0 (part1 [128] 1 0 1)) (FwwIntn (part1 [128] 1 0 1)) (⟨#[97, 98]⟩ : ByteArray)) false).length : Nat) : Int) : Int) == 1) = true)) ∧ ((True ∧ True) ∧ ((((0 : Int) ≤ 0 ∧ 0 < ((FwInt (FwwTextz (FwwIntnn0 (part1 [128] 1 0 1)) (FwwIntn (part1 [128] 1 0 1)) (⟨#[97, 98]⟩ : ByteArray)) false).length : Int)) ∧ True) ∧ (((0 < (FwInt (FwwTextz (FwwIntnn0 (part1 [128] 1 0 1)) (FwwIntn (part1 [128] 1 0 1)) (⟨#[97, 98]⟩ : ByteArray)) false).length) ∧ True) ∧ ((True ∧ True) ∧ ((True ∧ True) ∧ ((True ∧ ((((FwInt (FwwTextz (FwwIntnn0 (part1 [128] 1 0 1)) (FwwIntn (part1 [128] 1 0 1)) (⟨#[97, 98]⟩ : ByteArray)) false).getD 0 0 : Int) == 128) = true)) ∧ ((True ∧ True) ∧ (((True ∧ True) ∧ True) ∧ ((True ∧ True) ∧ ((True ∧ True) ∧ ((True ∧ ((strEq (FwText (FwInt_1 (FwwTextz (FwwIntnn0 (part1 [128] 1 0 1)) (FwwIntn (part1 [128] 1 0 1)) (⟨#[97, 98]⟩ : ByteArray)) false) (FwInt_2 (FwwTextz (FwwIntnn0 (part1 [128] 1 0 1)) (FwwIntn (part1 [128] 1 0 1)) (⟨#[97, 98]⟩ : ByteArray)) false)) (⟨#[97, 98]⟩ : ByteArray)) = false)) ∧ ((True ∧ True) ∧ ((True ∧ True) ∧ ((True ∧ True) ∧ ((True ∧ True) ∧ True)))))))))))))))))))
              ([(0, .sc (.b false))], [])
              464 (by kernel_rfl) rfl (by kernel_rfl) (⟨⟨trivial, trivial⟩, ⟨⟨trivial, trivial⟩, ⟨⟨trivial, trivial⟩, ⟨⟨trivial, (h1)⟩, ⟨⟨trivial, trivial⟩, ⟨⟨(by first | omega | decide | exact Nat.le_trans (le_FwwIntn _) (by decide) | exact ⟨Nat.le_trans (le_FwwIntn _) (by decide), by decide⟩), trivial⟩, ⟨⟨(by first | omega | decide | exact Nat.le_trans (le_FwwIntn _) (by decide) | exact ⟨Nat.le_trans (le_FwwIntn _) (by decide), by decide⟩), trivial⟩, ⟨⟨trivial, trivial⟩, ⟨⟨trivial, trivial⟩, ⟨⟨trivial, (h2)⟩, ⟨⟨trivial, trivial⟩, ⟨⟨⟨trivial, trivial⟩, trivial⟩, ⟨⟨trivial, trivial⟩, ⟨⟨trivial, trivial⟩, ⟨⟨trivial, (h3)⟩, ⟨⟨trivial, trivial⟩, ⟨⟨trivial, trivial⟩, ⟨⟨trivial, trivial⟩, ⟨⟨trivial, trivial⟩, trivial⟩⟩⟩⟩⟩⟩⟩⟩⟩⟩⟩⟩⟩⟩⟩⟩⟩⟩⟩) ?_
          refine Tri.ret ?_
          repeat (first | refine thenP_ret ?_ | refine blkP_ret ?_ | refine countP_ret ?_ | refine joinP_ret ?_ | refine iterP_ret ?_)
          refine endP.conv (r' := ⟨.sc (.b false), []⟩) (by simp only [Fwfit, h1, h2, h3, sel_true, sel_false]) ?_
          exact endP.ret [] (True ∧ True) (by kernel_rfl) (by kernel_rfl) ⟨trivial, trivial⟩
      ·
        have h2' := eq_false_i h2
        refine Tri.seq_region [(12, qb true), (18, qb false)] none [0] [] ((True ∧ True) ∧ ((True ∧ True) ∧ ((True ∧ True) ∧ ((True ∧ ((((((FwInt (FwwTextz (FwwIntnn0 (part1 [128] 1 0 1)) (FwwIntn (part1 [128] 1 0 1)) (⟨#[97, 98]⟩ : ByteArray)) false).length : Nat) : Int) : Int) == 1) = true)) ∧ ((True ∧ True) ∧ ((((0 : Int) ≤ 0 ∧ 0 < ((FwInt (FwwTextz (FwwIntnn0 (part1 [128] 1 0 1)) (FwwIntn (part1 [128] 1 0 1)) (⟨#[97, 98]⟩ : ByteArray)) false).length : Int)) ∧ True) ∧ (((0 < (FwInt (FwwTextz (FwwIntnn0 (part1 [128] 1 0 1)) (FwwIntn (part1 [128] 1 0 1)) (⟨#[97, 98]⟩ : ByteArray)) false).length) ∧ True) ∧ ((True ∧ True) ∧ ((True ∧ True) ∧ ((True ∧ ((((FwInt (FwwTextz (FwwIntnn0 (part1 [128] 1 0 1)) (FwwIntn (part1 [128] 1 0 1)) (⟨#[97, 98]⟩ : ByteArray)) false).getD 0 0 : Int) == 128) = false)) ∧ ((True ∧ True) ∧ ((True ∧ True) ∧ ((True ∧ True) ∧ ((True ∧ True) ∧ ((True ∧ True) ∧ ((True ∧ True) ∧ ((True ∧ True) ∧ ((True ∧ True) ∧ ((True ∧ True) ∧ True)))))))))))))))))))
            ([(0, .sc (.b false))], [])
            464 (by kernel_rfl) rfl (by kernel_rfl) (⟨⟨trivial, trivial⟩, ⟨⟨trivial, trivial⟩, ⟨⟨trivial, trivial⟩, ⟨⟨trivial, (h1)⟩, ⟨⟨trivial, trivial⟩, ⟨⟨(by first | omega | decide | exact Nat.le_trans (le_FwwIntn _) (by decide) | exact ⟨Nat.le_trans (le_FwwIntn _) (by decide), by decide⟩), trivial⟩, ⟨⟨(by first | omega | decide | exact Nat.le_trans (le_FwwIntn _) (by decide) | exact ⟨Nat.le_trans (le_FwwIntn _) (by decide), by decide⟩), trivial⟩, ⟨⟨trivial, trivial⟩, ⟨⟨trivial, trivial⟩, ⟨⟨trivial, (h2)⟩, ⟨⟨trivial, trivial⟩, ⟨⟨trivial, trivial⟩, ⟨⟨trivial, trivial⟩, ⟨⟨trivial, trivial⟩, ⟨⟨trivial, trivial⟩, ⟨⟨trivial, trivial⟩, ⟨⟨trivial, trivial⟩, ⟨⟨trivial, trivial⟩, ⟨⟨trivial, trivial⟩, trivial⟩⟩⟩⟩⟩⟩⟩⟩⟩⟩⟩⟩⟩⟩⟩⟩⟩⟩⟩) ?_
        refine Tri.ret ?_
        repeat (first | refine thenP_ret ?_ | refine blkP_ret ?_ | refine countP_ret ?_ | refine joinP_ret ?_ | refine iterP_ret ?_)
        refine endP.conv (r' := ⟨.sc (.b false), []⟩) (by simp only [Fwfit, h1, h2, sel_true, sel_false]) ?_
        exact endP.ret [] (True ∧ True) (by kernel_rfl) (by kernel_rfl) ⟨trivial, trivial⟩
    ·
      have h1' := eq_false_i h1
      refine Tri.seq_region [(12, qb false)] none [0] [] ((True ∧ True) ∧ ((True ∧ True) ∧ ((True ∧ True) ∧ ((True ∧ ((((((FwInt (FwwTextz (FwwIntnn0 (part1 [128] 1 0 1)) (FwwIntn (part1 [128] 1 0 1)) (⟨#[97, 98]⟩ : ByteArray)) false).length : Nat) : Int) : Int) == 1) = false)) ∧ ((True ∧ True) ∧ ((True ∧ True) ∧ ((True ∧ True) ∧ ((True ∧ True) ∧ ((True ∧ True) ∧ ((True ∧ True) ∧ ((True ∧ True) ∧ ((True ∧ True) ∧ ((True ∧ True) ∧ ((True ∧ True) ∧ ((True ∧ True) ∧ ((True ∧ True) ∧ ((True ∧ True) ∧ ((True ∧ True) ∧ ((True ∧ True) ∧ True)))))))))))))))))))
          ([(0, .sc (.b false))], [])
          464 (by kernel_rfl) rfl (by kernel_rfl) (⟨⟨trivial, trivial⟩, ⟨⟨trivial, trivial⟩, ⟨⟨trivial, trivial⟩, ⟨⟨trivial, (h1)⟩, ⟨⟨trivial, trivial⟩, ⟨⟨trivial, trivial⟩, ⟨⟨trivial, trivial⟩, ⟨⟨trivial, trivial⟩, ⟨⟨trivial, trivial⟩, ⟨⟨trivial, trivial⟩, ⟨⟨trivial, trivial⟩, ⟨⟨trivial, trivial⟩, ⟨⟨trivial, trivial⟩, ⟨⟨trivial, trivial⟩, ⟨⟨trivial, trivial⟩, ⟨⟨trivial, trivial⟩, ⟨⟨trivial, trivial⟩, ⟨⟨trivial, trivial⟩, ⟨⟨trivial, trivial⟩, trivial⟩⟩⟩⟩⟩⟩⟩⟩⟩⟩⟩⟩⟩⟩⟩⟩⟩⟩⟩) ?_
      refine Tri.ret ?_
      repeat (first | refine thenP_ret ?_ | refine blkP_ret ?_ | refine countP_ret ?_ | refine joinP_ret ?_ | refine iterP_ret ?_)
      refine endP.conv (r' := ⟨.sc (.b false), []⟩) (by simp only [Fwfit, h1, sel_true, sel_false]) ?_
      exact endP.ret [] (True ∧ True) (by kernel_rfl) (by kernel_rfl) ⟨trivial, trivial⟩



end Go.Vm
