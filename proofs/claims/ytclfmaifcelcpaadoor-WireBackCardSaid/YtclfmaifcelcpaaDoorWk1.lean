/- What the functions compute, and that they do: walked by a printed text. -/
import Derived.Test.YtclfmaifcelcpaaDoorWk0
set_option linter.unusedVariables false
set_option linter.unusedSimpArgs false
set_option maxRecDepth 4000
namespace Go.Vm
open Go

noncomputable def SwFrom : List AV → List Blk → Option (Prop × Ret)
  | [.sc (.ro .u8 p0)], [] => some (True, ⟨.sc (.p 0 0), [some (.cells [.ro .u8 p0, .b false])]⟩)
  | _, _ => none

noncomputable def BwFrom : Bs := { P := Go.Proofs.Tryd.prog, G := noG, tab := tabOf [], n := 6 }

theorem BwFrom.ok : BwFrom.Ok := ⟨tabOk (P := Go.Proofs.Tryd.prog) (G := noG) (l := []) True.intro, mixed⟩

theorem KwFrom : Known Go.Proofs.Tryd.prog noG 12 ⟨0, 1, SwFrom⟩ := by
  refine Known.walk (B := BwFrom) (fn := Go.Proofs.Tryd.f12) BwFrom.ok (by kernel_rfl) rfl (by kernel_rfl) (by kernel_rfl) (by decide) (by decide) ?_
  · intro E args ks C r h hC hlen
    simp only at h
    unfold SwFrom at h
    split at h
    rotate_left
    · cases h
    rename_i p0
    cases h
    simp only [lens] at hlen
    refine ⟨show 1 ≤ 6 from by decide, ?_⟩
    refine Tri.sub (Sub.of_eq (show _ = ([(0, .sc (.ro .u8 p0))], []) from rfl)) ?_
    refine Tri.seq_region [] none [0] [] ((True ∧ True) ∧ True)
        ([(0, .sc (.ro .u8 p0))], [])
        32 (by kernel_rfl) rfl (by kernel_rfl) (⟨⟨trivial, trivial⟩, trivial⟩) ?_
    refine Tri.seq_region [] none [2] [64] ((True ∧ True) ∧ (((((0 < 2) ∧ (1 = 1)) ∧ True) ∧ True) ∧ ((True ∧ True) ∧ ((True ∧ True) ∧ True))))
        ([(2, .sc (.p 64 0))], [(64, .cells [.ro .u8 p0, .b false])])
        96 (by kernel_rfl) rfl (by kernel_rfl) (⟨⟨trivial, trivial⟩, ⟨⟨⟨⟨(by first | omega | (rw [adr_eq]; omega) | exact iAnd_nn _ _ | exact iSub_nn _ _ | exact part1_le (by omega) (by first | omega | (simp only [List.length_append]; omega)) | decide), (rfl)⟩, trivial⟩, trivial⟩, ⟨⟨trivial, trivial⟩, ⟨⟨trivial, trivial⟩, trivial⟩⟩⟩⟩) ?_
    refine Tri.ret ?_
    repeat (first | refine thenP_ret ?_ | refine blkP_ret ?_ | refine countP_ret ?_ | refine joinP_ret ?_ | refine iterP_ret ?_)
    exact endP.ret [(64, 0)] (True ∧ True) (by kernel_rfl) (by kernel_rfl) ⟨trivial, trivial⟩




noncomputable def FwtakeOk (p0 : List Int) (p1 : Bool) (p2 : Int) : List Int :=
  (p0.drop 0).take (((p2).toNat) - 0)

noncomputable def FwtakeOk_1 (p0 : List Int) (p1 : Bool) (p2 : Int) : List Int :=
  (p0.drop ((p2).toNat)).take (p0.length - ((p2).toNat))

noncomputable def SwtakeOk : List AV → List Blk → Option (Prop × Ret)
  | [.sc (.p 0 0), .sc (.i .i64 p2)], [.cells [.ro .u8 p0, .b p1]] => some (((p1 = false) ∧ (((decide ((p2 : Int) > ((p0.length : Nat) : Int))) = false) ∧ ((0 : Int) ≤ p2))), ⟨.sc (.ro .u8 (FwtakeOk p0 p1 p2)), [some (.cells [.ro .u8 (FwtakeOk_1 p0 p1 p2), .b p1])]⟩)
  | _, _ => none

noncomputable def BwtakeOk : Bs := { P := Go.Proofs.Tryd.prog, G := noG, tab := tabOf [], n := 48 }

theorem BwtakeOk.ok : BwtakeOk.Ok := ⟨tabOk (P := Go.Proofs.Tryd.prog) (G := noG) (l := []) True.intro, mixed⟩

theorem KwtakeOk : Known Go.Proofs.Tryd.prog noG 43 ⟨1, 0, SwtakeOk⟩ := by
  refine Known.walk (B := BwtakeOk) (fn := Go.Proofs.Tryd.f43) BwtakeOk.ok (by kernel_rfl) rfl (by kernel_rfl) (by kernel_rfl) (by decide) (by decide) ?_
  · intro E args ks C r h hC hlen
    simp only at h
    unfold SwtakeOk at h
    split at h
    rotate_left
    · cases h
    rename_i p2 p0 p1
    cases h
    simp only [lens] at hlen
    have hG0 := hC.1
    have hG1 := hC.2.1
    have hG1' := of_decide_eq_false hG1
    have hC := hC.2.2
    refine ⟨show 2 ≤ 48 from by decide, ?_⟩
    refine Tri.sub (Sub.of_eq (show _ = ([(0, .sc (.p 0 0)), (1, .sc (.i .i64 p2))], [(0, .cells [.ro .u8 p0, .b p1])]) from rfl)) ?_
    refine Tri.seq_region [] none [0, 1] [0] ((True ∧ True) ∧ True)
        ([(0, .sc (.p 0 0)), (1, .sc (.i .i64 p2))], [(0, .cells [.ro .u8 p0, .b p1])])
        32 (by kernel_rfl) rfl (by kernel_rfl) (⟨⟨trivial, trivial⟩, trivial⟩) ?_
    refine Tri.seq ?_
    refine Tri.seq_region [(14, qb false)] none [22, 0, 1] [0] ((True ∧ True) ∧ ((True ∧ True) ∧ ((True ∧ True) ∧ ((True ∧ True) ∧ ((True ∧ True) ∧ ((True ∧ True) ∧ (((1 < 2) ∧ True) ∧ ((True ∧ True) ∧ ((True ∧ (p1 = false)) ∧ ((True ∧ True) ∧ ((True ∧ True) ∧ ((True ∧ True) ∧ ((True ∧ True) ∧ (((0 < 2) ∧ True) ∧ ((True ∧ True) ∧ ((True ∧ True) ∧ ((True ∧ True) ∧ True)))))))))))))))))
        ([(22, .sc (.b (decide ((p2 : Int) > ((p0.length : Nat) : Int))))), (0, .sc (.p 0 0)), (1, .sc (.i .i64 p2))], [(0, .cells [.ro .u8 p0, .b p1])])
        304 (by kernel_rfl) rfl (by kernel_rfl) (⟨⟨trivial, trivial⟩, ⟨⟨trivial, trivial⟩, ⟨⟨trivial, trivial⟩, ⟨⟨trivial, trivial⟩, ⟨⟨trivial, trivial⟩, ⟨⟨trivial, trivial⟩, ⟨⟨(by first | omega | (rw [adr_eq]; omega) | exact iAnd_nn _ _ | exact iSub_nn _ _ | exact part1_le (by omega) (by first | omega | (simp only [List.length_append]; omega)) | decide), trivial⟩, ⟨⟨trivial, trivial⟩, ⟨⟨trivial, (hG0)⟩, ⟨⟨trivial, trivial⟩, ⟨⟨trivial, trivial⟩, ⟨⟨trivial, trivial⟩, ⟨⟨trivial, trivial⟩, ⟨⟨(by first | omega | (rw [adr_eq]; omega) | exact iAnd_nn _ _ | exact iSub_nn _ _ | exact part1_le (by omega) (by first | omega | (simp only [List.length_append]; omega)) | decide), trivial⟩, ⟨⟨trivial, trivial⟩, ⟨⟨trivial, trivial⟩, ⟨⟨trivial, trivial⟩, trivial⟩⟩⟩⟩⟩⟩⟩⟩⟩⟩⟩⟩⟩⟩⟩⟩⟩) ?_
    refine Tri.cond (x := (decide ((p2 : Int) > ((p0.length : Nat) : Int)))) (by kernel_rfl) (fun h => absurd (h.symm.trans hG1) (by decide)) (fun h => ?_)
    refine Tri.skip ?_
    change Tri _ _ _ _ _ _
    refine Tri.seq_region [] none [5, 0, 1] [0] ((True ∧ True) ∧ ((True ∧ True) ∧ ((True ∧ True) ∧ (((0 < 2) ∧ True) ∧ ((True ∧ True) ∧ ((True ∧ True) ∧ ((((0 : Int) ≤ 0 ∧ (0 : Int) ≤ p2 ∧ (p2 : Int) ≤ p2 ∧ (p2 : Int) ≤ (p0.length : Int)) ∧ True) ∧ ((True ∧ True) ∧ True))))))))
        ([(5, .sc (.ro .u8 ((p0.drop 0).take (((p2).toNat) - 0)))), (0, .sc (.p 0 0)), (1, .sc (.i .i64 p2))], [(0, .cells [.ro .u8 p0, .b p1])])
        432 (by kernel_rfl) rfl (by kernel_rfl) (⟨⟨trivial, trivial⟩, ⟨⟨trivial, trivial⟩, ⟨⟨trivial, trivial⟩, ⟨⟨(by first | omega | (rw [adr_eq]; omega) | exact iAnd_nn _ _ | exact iSub_nn _ _ | exact part1_le (by omega) (by first | omega | (simp only [List.length_append]; omega)) | decide), trivial⟩, ⟨⟨trivial, trivial⟩, ⟨⟨trivial, trivial⟩, ⟨⟨(by first | omega | (rw [adr_eq]; omega) | exact iAnd_nn _ _ | exact iSub_nn _ _ | exact part1_le (by omega) (by first | omega | (simp only [List.length_append]; omega)) | decide), trivial⟩, ⟨⟨trivial, trivial⟩, trivial⟩⟩⟩⟩⟩⟩⟩⟩) ?_
    refine Tri.seq_region [] none [5] [0] ((True ∧ True) ∧ ((True ∧ True) ∧ ((True ∧ True) ∧ ((True ∧ True) ∧ (((0 < 2) ∧ True) ∧ ((True ∧ True) ∧ ((((0 : Int) ≤ p2 ∧ (p2 : Int) ≤ ((p0.length : Nat) : Int) ∧ ((p0.length : Nat) : Int) ≤ (p0.length : Int)) ∧ True) ∧ ((True ∧ True) ∧ ((True ∧ True) ∧ ((((0 < 2) ∧ (1 = 1)) ∧ True) ∧ True))))))))))
        ([(5, .sc (.ro .u8 ((p0.drop 0).take (((p2).toNat) - 0))))], [(0, .cells [.ro .u8 ((p0.drop ((p2).toNat)).take (p0.length - ((p2).toNat))), .b p1])])
        592 (by kernel_rfl) rfl (by kernel_rfl) (⟨⟨trivial, trivial⟩, ⟨⟨trivial, trivial⟩, ⟨⟨trivial, trivial⟩, ⟨⟨trivial, trivial⟩, ⟨⟨(by first | omega | (rw [adr_eq]; omega) | exact iAnd_nn _ _ | exact iSub_nn _ _ | exact part1_le (by omega) (by first | omega | (simp only [List.length_append]; omega)) | decide), trivial⟩, ⟨⟨trivial, trivial⟩, ⟨⟨(by first | omega | (rw [adr_eq]; omega) | exact iAnd_nn _ _ | exact iSub_nn _ _ | exact part1_le (by omega) (by first | omega | (simp only [List.length_append]; omega)) | decide), trivial⟩, ⟨⟨trivial, trivial⟩, ⟨⟨trivial, trivial⟩, ⟨⟨⟨(by first | omega | (rw [adr_eq]; omega) | exact iAnd_nn _ _ | exact iSub_nn _ _ | exact part1_le (by omega) (by first | omega | (simp only [List.length_append]; omega)) | decide), (rfl)⟩, trivial⟩, trivial⟩⟩⟩⟩⟩⟩⟩⟩⟩⟩) ?_
    refine Tri.seq_region [] none [4] [0] ((True ∧ True) ∧ ((True ∧ True) ∧ True))
        ([(4, .sc (.ro .u8 ((p0.drop 0).take (((p2).toNat) - 0))))], [(0, .cells [.ro .u8 ((p0.drop ((p2).toNat)).take (p0.length - ((p2).toNat))), .b p1])])
        624 (by kernel_rfl) rfl (by kernel_rfl) (⟨⟨trivial, trivial⟩, ⟨⟨trivial, trivial⟩, trivial⟩⟩) ?_
    refine Tri.ret ?_
    repeat (first | refine thenP_ret ?_ | refine blkP_ret ?_ | refine countP_ret ?_ | refine joinP_ret ?_ | refine iterP_ret ?_)
    exact endP.ret [(0, 0)] (True ∧ True) (by kernel_rfl) (by kernel_rfl) ⟨trivial, trivial⟩

theorem len_FwtakeOk {p0 : List Int} {p1 : Bool} {p2 : Int} (h : (decide ((p2 : Int) > ((p0.length : Nat) : Int))) = false) (h0 : 0 ≤ p2) : ((FwtakeOk p0 p1 p2).length : Int) = p2 := by
  have := of_decide_eq_false h
  unfold FwtakeOk
  simp only [List.length_take, List.length_drop]
  omega


noncomputable def SwtakeNo : List AV → List Blk → Option (Prop × Ret)
  | [.sc (.p 0 0), .sc (.i .i64 p2)], [.cells [.ro .u8 p0, .b p1]] => some (((p1 = false) ∧ (((decide ((p2 : Int) > ((p0.length : Nat) : Int))) = true) ∧ True)), ⟨.sc (.nils), [some (.cells [.ro .u8 ([] : List Int), .b true])]⟩)
  | _, _ => none

noncomputable def BwtakeNo : Bs := { P := Go.Proofs.Tryd.prog, G := noG, tab := tabOf [], n := 48 }

theorem BwtakeNo.ok : BwtakeNo.Ok := ⟨tabOk (P := Go.Proofs.Tryd.prog) (G := noG) (l := []) True.intro, mixed⟩

theorem KwtakeNo : Known Go.Proofs.Tryd.prog noG 43 ⟨1, 0, SwtakeNo⟩ := by
  refine Known.walk (B := BwtakeNo) (fn := Go.Proofs.Tryd.f43) BwtakeNo.ok (by kernel_rfl) rfl (by kernel_rfl) (by kernel_rfl) (by decide) (by decide) ?_
  · intro E args ks C r h hC hlen
    simp only at h
    unfold SwtakeNo at h
    split at h
    rotate_left
    · cases h
    rename_i p2 p0 p1
    cases h
    simp only [lens] at hlen
    have hG0 := hC.1
    have hG1 := hC.2.1
    have hG1' := of_decide_eq_true hG1
    have hC := hC.2.2
    refine ⟨show 2 ≤ 48 from by decide, ?_⟩
    refine Tri.sub (Sub.of_eq (show _ = ([(0, .sc (.p 0 0)), (1, .sc (.i .i64 p2))], [(0, .cells [.ro .u8 p0, .b p1])]) from rfl)) ?_
    refine Tri.seq_region [] none [0, 1] [0] ((True ∧ True) ∧ True)
        ([(0, .sc (.p 0 0)), (1, .sc (.i .i64 p2))], [(0, .cells [.ro .u8 p0, .b p1])])
        32 (by kernel_rfl) rfl (by kernel_rfl) (⟨⟨trivial, trivial⟩, trivial⟩) ?_
    refine Tri.seq ?_
    refine Tri.seq_region [(14, qb false)] none [22, 0, 1] [0] ((True ∧ True) ∧ ((True ∧ True) ∧ ((True ∧ True) ∧ ((True ∧ True) ∧ ((True ∧ True) ∧ ((True ∧ True) ∧ (((1 < 2) ∧ True) ∧ ((True ∧ True) ∧ ((True ∧ (p1 = false)) ∧ ((True ∧ True) ∧ ((True ∧ True) ∧ ((True ∧ True) ∧ ((True ∧ True) ∧ (((0 < 2) ∧ True) ∧ ((True ∧ True) ∧ ((True ∧ True) ∧ ((True ∧ True) ∧ True)))))))))))))))))
        ([(22, .sc (.b (decide ((p2 : Int) > ((p0.length : Nat) : Int))))), (0, .sc (.p 0 0)), (1, .sc (.i .i64 p2))], [(0, .cells [.ro .u8 p0, .b p1])])
        304 (by kernel_rfl) rfl (by kernel_rfl) (⟨⟨trivial, trivial⟩, ⟨⟨trivial, trivial⟩, ⟨⟨trivial, trivial⟩, ⟨⟨trivial, trivial⟩, ⟨⟨trivial, trivial⟩, ⟨⟨trivial, trivial⟩, ⟨⟨(by first | omega | (rw [adr_eq]; omega) | exact iAnd_nn _ _ | exact iSub_nn _ _ | exact part1_le (by omega) (by first | omega | (simp only [List.length_append]; omega)) | decide), trivial⟩, ⟨⟨trivial, trivial⟩, ⟨⟨trivial, (hG0)⟩, ⟨⟨trivial, trivial⟩, ⟨⟨trivial, trivial⟩, ⟨⟨trivial, trivial⟩, ⟨⟨trivial, trivial⟩, ⟨⟨(by first | omega | (rw [adr_eq]; omega) | exact iAnd_nn _ _ | exact iSub_nn _ _ | exact part1_le (by omega) (by first | omega | (simp only [List.length_append]; omega)) | decide), trivial⟩, ⟨⟨trivial, trivial⟩, ⟨⟨trivial, trivial⟩, ⟨⟨trivial, trivial⟩, trivial⟩⟩⟩⟩⟩⟩⟩⟩⟩⟩⟩⟩⟩⟩⟩⟩⟩) ?_
    refine Tri.cond (x := (decide ((p2 : Int) > ((p0.length : Nat) : Int)))) (by kernel_rfl) (fun h => ?_) (fun h => absurd (h.symm.trans hG1) (by decide))
    refine Tri.seq ?_
    refine Tri.seq_region [] none [24, 0] [0] ((True ∧ True) ∧ ((True ∧ True) ∧ True))
        ([(24, .sc (.b true)), (0, .sc (.p 0 0))], [(0, .cells [.ro .u8 p0, .b p1])])
        336 (by kernel_rfl) rfl (by kernel_rfl) (⟨⟨trivial, trivial⟩, ⟨⟨trivial, trivial⟩, trivial⟩⟩) ?_
    refine Tri.cond_true (by kernel_rfl) ?_
    refine Tri.region' [] none [] [0] ((True ∧ True) ∧ ((True ∧ True) ∧ ((True ∧ True) ∧ ((True ∧ True) ∧ ((((1 < 2) ∧ (1 = 1)) ∧ True) ∧ ((True ∧ True) ∧ ((True ∧ True) ∧ ((((0 < 2) ∧ (1 = 1)) ∧ True) ∧ True))))))))
        ([], [(0, .cells [.nils, .b true])])
        464 (by kernel_rfl) rfl (by kernel_rfl) (⟨⟨trivial, trivial⟩, ⟨⟨trivial, trivial⟩, ⟨⟨trivial, trivial⟩, ⟨⟨trivial, trivial⟩, ⟨⟨⟨(by first | omega | (rw [adr_eq]; omega) | exact iAnd_nn _ _ | exact iSub_nn _ _ | exact part1_le (by omega) (by first | omega | (simp only [List.length_append]; omega)) | decide), (rfl)⟩, trivial⟩, ⟨⟨trivial, trivial⟩, ⟨⟨trivial, trivial⟩, ⟨⟨⟨(by first | omega | (rw [adr_eq]; omega) | exact iAnd_nn _ _ | exact iSub_nn _ _ | exact part1_le (by omega) (by first | omega | (simp only [List.length_append]; omega)) | decide), (rfl)⟩, trivial⟩, trivial⟩⟩⟩⟩⟩⟩⟩⟩) ?_
    change Tri _ _ _ _ _ _
    refine Tri.seq_region [] none [4] [0] ((True ∧ True) ∧ True)
        ([(4, .sc (.nils))], [(0, .cells [.nils, .b true])])
        480 (by kernel_rfl) rfl (by kernel_rfl) (⟨⟨trivial, trivial⟩, trivial⟩) ?_
    refine Tri.sub (Sub.nilCell (l := [.nils, .b true]) 0 0 .u8 (by kernel_rfl) (by kernel_rfl)) ?_
    refine Tri.ret ?_
    repeat (first | refine thenP_ret ?_ | refine blkP_ret ?_ | refine countP_ret ?_ | refine joinP_ret ?_ | refine iterP_ret ?_)
    exact endP.ret [(0, 0)] (True ∧ True) (by kernel_rfl) (by kernel_rfl) ⟨trivial, trivial⟩




noncomputable def SwtakeBad : List AV → List Blk → Option (Prop × Ret)
  | [.sc (.p 0 0), .sc (.i .i64 p2)], [.cells [.ro .u8 p0, .b p1]] => some (((p1 = true) ∧ True), ⟨.sc (.nils), [some (.cells [.ro .u8 ([] : List Int), .b true])]⟩)
  | _, _ => none

noncomputable def BwtakeBad : Bs := { P := Go.Proofs.Tryd.prog, G := noG, tab := tabOf [], n := 48 }

theorem BwtakeBad.ok : BwtakeBad.Ok := ⟨tabOk (P := Go.Proofs.Tryd.prog) (G := noG) (l := []) True.intro, mixed⟩

theorem KwtakeBad : Known Go.Proofs.Tryd.prog noG 43 ⟨1, 0, SwtakeBad⟩ := by
  refine Known.walk (B := BwtakeBad) (fn := Go.Proofs.Tryd.f43) BwtakeBad.ok (by kernel_rfl) rfl (by kernel_rfl) (by kernel_rfl) (by decide) (by decide) ?_
  · intro E args ks C r h hC hlen
    simp only at h
    unfold SwtakeBad at h
    split at h
    rotate_left
    · cases h
    rename_i p2 p0 p1
    cases h
    simp only [lens] at hlen
    have hG0 := hC.1
    have hC := hC.2
    refine ⟨show 2 ≤ 48 from by decide, ?_⟩
    refine Tri.sub (Sub.of_eq (show _ = ([(0, .sc (.p 0 0)), (1, .sc (.i .i64 p2))], [(0, .cells [.ro .u8 p0, .b p1])]) from rfl)) ?_
    refine Tri.seq_region [] none [0, 1] [0] ((True ∧ True) ∧ True)
        ([(0, .sc (.p 0 0)), (1, .sc (.i .i64 p2))], [(0, .cells [.ro .u8 p0, .b p1])])
        32 (by kernel_rfl) rfl (by kernel_rfl) (⟨⟨trivial, trivial⟩, trivial⟩) ?_
    refine Tri.seq ?_
    refine Tri.seq_region [(14, qb true)] none [22, 0, 1] [0] ((True ∧ True) ∧ ((True ∧ True) ∧ ((True ∧ True) ∧ ((True ∧ True) ∧ ((True ∧ True) ∧ ((True ∧ True) ∧ (((1 < 2) ∧ True) ∧ ((True ∧ True) ∧ ((True ∧ (p1 = true)) ∧ ((True ∧ True) ∧ ((True ∧ True) ∧ ((True ∧ True) ∧ ((True ∧ True) ∧ ((True ∧ True) ∧ ((True ∧ True) ∧ ((True ∧ True) ∧ ((True ∧ True) ∧ True)))))))))))))))))
        ([(22, .sc (.b true)), (0, .sc (.p 0 0)), (1, .sc (.i .i64 p2))], [(0, .cells [.ro .u8 p0, .b p1])])
        304 (by kernel_rfl) rfl (by kernel_rfl) (⟨⟨trivial, trivial⟩, ⟨⟨trivial, trivial⟩, ⟨⟨trivial, trivial⟩, ⟨⟨trivial, trivial⟩, ⟨⟨trivial, trivial⟩, ⟨⟨trivial, trivial⟩, ⟨⟨(by first | omega | (rw [adr_eq]; omega) | exact iAnd_nn _ _ | exact iSub_nn _ _ | exact part1_le (by omega) (by first | omega | (simp only [List.length_append]; omega)) | decide), trivial⟩, ⟨⟨trivial, trivial⟩, ⟨⟨trivial, (hG0)⟩, ⟨⟨trivial, trivial⟩, ⟨⟨trivial, trivial⟩, ⟨⟨trivial, trivial⟩, ⟨⟨trivial, trivial⟩, ⟨⟨trivial, trivial⟩, ⟨⟨trivial, trivial⟩, ⟨⟨trivial, trivial⟩, ⟨⟨trivial, trivial⟩, trivial⟩⟩⟩⟩⟩⟩⟩⟩⟩⟩⟩⟩⟩⟩⟩⟩⟩) ?_
    refine Tri.cond_true (by kernel_rfl) ?_
    refine Tri.seq ?_
    refine Tri.seq_region [] none [24, 0] [0] ((True ∧ True) ∧ ((True ∧ True) ∧ True))
        ([(24, .sc (.b true)), (0, .sc (.p 0 0))], [(0, .cells [.ro .u8 p0, .b p1])])
        336 (by kernel_rfl) rfl (by kernel_rfl) (⟨⟨trivial, trivial⟩, ⟨⟨trivial, trivial⟩, trivial⟩⟩) ?_
    refine Tri.cond_true (by kernel_rfl) ?_
    refine Tri.region' [] none [] [0] ((True ∧ True) ∧ ((True ∧ True) ∧ ((True ∧ True) ∧ ((True ∧ True) ∧ ((((1 < 2) ∧ (1 = 1)) ∧ True) ∧ ((True ∧ True) ∧ ((True ∧ True) ∧ ((((0 < 2) ∧ (1 = 1)) ∧ True) ∧ True))))))))
        ([], [(0, .cells [.nils, .b true])])
        464 (by kernel_rfl) rfl (by kernel_rfl) (⟨⟨trivial, trivial⟩, ⟨⟨trivial, trivial⟩, ⟨⟨trivial, trivial⟩, ⟨⟨trivial, trivial⟩, ⟨⟨⟨(by first | omega | (rw [adr_eq]; omega) | exact iAnd_nn _ _ | exact iSub_nn _ _ | exact part1_le (by omega) (by first | omega | (simp only [List.length_append]; omega)) | decide), (rfl)⟩, trivial⟩, ⟨⟨trivial, trivial⟩, ⟨⟨trivial, trivial⟩, ⟨⟨⟨(by first | omega | (rw [adr_eq]; omega) | exact iAnd_nn _ _ | exact iSub_nn _ _ | exact part1_le (by omega) (by first | omega | (simp only [List.length_append]; omega)) | decide), (rfl)⟩, trivial⟩, trivial⟩⟩⟩⟩⟩⟩⟩⟩) ?_
    change Tri _ _ _ _ _ _
    refine Tri.seq_region [] none [4] [0] ((True ∧ True) ∧ True)
        ([(4, .sc (.nils))], [(0, .cells [.nils, .b true])])
        480 (by kernel_rfl) rfl (by kernel_rfl) (⟨⟨trivial, trivial⟩, trivial⟩) ?_
    refine Tri.sub (Sub.nilCell (l := [.nils, .b true]) 0 0 .u8 (by kernel_rfl) (by kernel_rfl)) ?_
    refine Tri.ret ?_
    repeat (first | refine thenP_ret ?_ | refine blkP_ret ?_ | refine countP_ret ?_ | refine joinP_ret ?_ | refine iterP_ret ?_)
    exact endP.ret [(0, 0)] (True ∧ True) (by kernel_rfl) (by kernel_rfl) ⟨trivial, trivial⟩




noncomputable def SwtakeNil : List AV → List Blk → Option (Prop × Ret)
  | [.sc (.nilp), .sc (.i .i64 p2)], [] => some (True, ⟨.sc (.nils), []⟩)
  | _, _ => none

noncomputable def BwtakeNil : Bs := { P := Go.Proofs.Tryd.prog, G := noG, tab := tabOf [], n := 48 }

theorem BwtakeNil.ok : BwtakeNil.Ok := ⟨tabOk (P := Go.Proofs.Tryd.prog) (G := noG) (l := []) True.intro, mixed⟩

theorem KwtakeNil : Known Go.Proofs.Tryd.prog noG 43 ⟨0, 0, SwtakeNil⟩ := by
  refine Known.walk (B := BwtakeNil) (fn := Go.Proofs.Tryd.f43) BwtakeNil.ok (by kernel_rfl) rfl (by kernel_rfl) (by kernel_rfl) (by decide) (by decide) ?_
  · intro E args ks C r h hC hlen
    simp only at h
    unfold SwtakeNil at h
    split at h
    rotate_left
    · cases h
    rename_i p2
    cases h
    simp only [lens] at hlen
    refine ⟨show 2 ≤ 48 from by decide, ?_⟩
    refine Tri.sub (Sub.of_eq (show _ = ([(0, .sc (.nilp)), (1, .sc (.i .i64 p2))], []) from rfl)) ?_
    refine Tri.seq_region [] none [0, 1] [] ((True ∧ True) ∧ True)
        ([(0, .sc (.nilp)), (1, .sc (.i .i64 p2))], [])
        32 (by kernel_rfl) rfl (by kernel_rfl) (⟨⟨trivial, trivial⟩, trivial⟩) ?_
    refine Tri.seq ?_
    refine Tri.seq_region [] none [22, 0, 1] [] ((True ∧ True) ∧ ((True ∧ True) ∧ ((True ∧ True) ∧ ((True ∧ True) ∧ ((True ∧ True) ∧ ((True ∧ True) ∧ ((True ∧ True) ∧ ((True ∧ True) ∧ ((True ∧ True) ∧ ((True ∧ True) ∧ ((True ∧ True) ∧ ((True ∧ True) ∧ ((True ∧ True) ∧ ((True ∧ True) ∧ ((True ∧ True) ∧ ((True ∧ True) ∧ ((True ∧ True) ∧ True)))))))))))))))))
        ([(22, .sc (.b true)), (0, .sc (.nilp)), (1, .sc (.i .i64 p2))], [])
        304 (by kernel_rfl) rfl (by kernel_rfl) (⟨⟨trivial, trivial⟩, ⟨⟨trivial, trivial⟩, ⟨⟨trivial, trivial⟩, ⟨⟨trivial, trivial⟩, ⟨⟨trivial, trivial⟩, ⟨⟨trivial, trivial⟩, ⟨⟨trivial, trivial⟩, ⟨⟨trivial, trivial⟩, ⟨⟨trivial, trivial⟩, ⟨⟨trivial, trivial⟩, ⟨⟨trivial, trivial⟩, ⟨⟨trivial, trivial⟩, ⟨⟨trivial, trivial⟩, ⟨⟨trivial, trivial⟩, ⟨⟨trivial, trivial⟩, ⟨⟨trivial, trivial⟩, ⟨⟨trivial, trivial⟩, trivial⟩⟩⟩⟩⟩⟩⟩⟩⟩⟩⟩⟩⟩⟩⟩⟩⟩) ?_
    refine Tri.cond_true (by kernel_rfl) ?_
    refine Tri.seq ?_
    refine Tri.seq_region [] none [24, 0] [] ((True ∧ True) ∧ ((True ∧ True) ∧ True))
        ([(24, .sc (.b false)), (0, .sc (.nilp))], [])
        336 (by kernel_rfl) rfl (by kernel_rfl) (⟨⟨trivial, trivial⟩, ⟨⟨trivial, trivial⟩, trivial⟩⟩) ?_
    refine Tri.cond_false (by kernel_rfl) ?_
    refine Tri.skip ?_
    change Tri _ _ _ _ _ _
    refine Tri.seq_region [] none [4] [] ((True ∧ True) ∧ True)
        ([(4, .sc (.nils))], [])
        352 (by kernel_rfl) rfl (by kernel_rfl) (⟨⟨trivial, trivial⟩, trivial⟩) ?_
    refine Tri.ret ?_
    repeat (first | refine thenP_ret ?_ | refine blkP_ret ?_ | refine countP_ret ?_ | refine joinP_ret ?_ | refine iterP_ret ?_)
    exact endP.ret [] (True ∧ True) (by kernel_rfl) (by kernel_rfl) ⟨trivial, trivial⟩




noncomputable def FwtakeF (p0 : List Int) (p1 : Bool) (p2 : Int) : List Int :=
  (sel p1 ([] : List Int) (sel (decide ((p2 : Int) > ((p0.length : Nat) : Int))) ([] : List Int) ((p0.drop 0).take (((p2).toNat) - 0))))

noncomputable def FwtakeF_1 (p0 : List Int) (p1 : Bool) (p2 : Int) : List Int :=
  (sel p1 ([] : List Int) (sel (decide ((p2 : Int) > ((p0.length : Nat) : Int))) ([] : List Int) ((p0.drop ((p2).toNat)).take (p0.length - ((p2).toNat)))))

noncomputable def FwtakeF_2 (p0 : List Int) (p1 : Bool) (p2 : Int) : Bool :=
  (sel p1 true (sel (decide ((p2 : Int) > ((p0.length : Nat) : Int))) true p1))

noncomputable def SwtakeF : List AV → List Blk → Option (Prop × Ret)
  | [.sc (.p 0 0), .sc (.i .i64 p2)], [.cells [.ro .u8 p0, .b p1]] => some (((0 : Int) ≤ p2), ⟨.sc (.ro .u8 (FwtakeF p0 p1 p2)), [some (.cells [.ro .u8 (FwtakeF_1 p0 p1 p2), .b (FwtakeF_2 p0 p1 p2)])]⟩)
  | _, _ => none

noncomputable def BwtakeF : Bs := { P := Go.Proofs.Tryd.prog, G := noG, tab := tabOf [], n := 48 }

theorem BwtakeF.ok : BwtakeF.Ok := ⟨tabOk (P := Go.Proofs.Tryd.prog) (G := noG) (l := []) True.intro, mixed⟩

theorem KwtakeF : Known Go.Proofs.Tryd.prog noG 43 ⟨1, 0, SwtakeF⟩ := by
  refine Known.walk (B := BwtakeF) (fn := Go.Proofs.Tryd.f43) BwtakeF.ok (by kernel_rfl) rfl (by kernel_rfl) (by kernel_rfl) (by decide) (by decide) ?_
  · intro E args ks C r h hC hlen
    simp only at h
    unfold SwtakeF at h
    split at h
    rotate_left
    · cases h
    rename_i p2 p0 p1
    cases h
    simp only [lens] at hlen
    refine ⟨show 2 ≤ 48 from by decide, ?_⟩
    refine Tri.sub (Sub.of_eq (show _ = ([(0, .sc (.p 0 0)), (1, .sc (.i .i64 p2))], [(0, .cells [.ro .u8 p0, .b p1])]) from rfl)) ?_
    refine Tri.seq_region [] none [0, 1] [0] ((True ∧ True) ∧ True)
        ([(0, .sc (.p 0 0)), (1, .sc (.i .i64 p2))], [(0, .cells [.ro .u8 p0, .b p1])])
        32 (by kernel_rfl) rfl (by kernel_rfl) (⟨⟨trivial, trivial⟩, trivial⟩) ?_
    refine Tri.seq ?_
    refine Tri.split p1 (fun h1 => ?_) (fun h1 => ?_)
    ·
      refine Tri.seq_region [(14, qb true)] none [22, 0, 1] [0] ((True ∧ True) ∧ ((True ∧ True) ∧ ((True ∧ True) ∧ ((True ∧ True) ∧ ((True ∧ True) ∧ ((True ∧ True) ∧ (((1 < 2) ∧ True) ∧ ((True ∧ True) ∧ ((True ∧ (p1 = true)) ∧ ((True ∧ True) ∧ ((True ∧ True) ∧ ((True ∧ True) ∧ ((True ∧ True) ∧ ((True ∧ True) ∧ ((True ∧ True) ∧ ((True ∧ True) ∧ ((True ∧ True) ∧ True)))))))))))))))))
          ([(22, .sc (.b true)), (0, .sc (.p 0 0)), (1, .sc (.i .i64 p2))], [(0, .cells [.ro .u8 p0, .b p1])])
          304 (by kernel_rfl) rfl (by kernel_rfl) (⟨⟨trivial, trivial⟩, ⟨⟨trivial, trivial⟩, ⟨⟨trivial, trivial⟩, ⟨⟨trivial, trivial⟩, ⟨⟨trivial, trivial⟩, ⟨⟨trivial, trivial⟩, ⟨⟨(by first | omega | (rw [adr_eq]; omega) | exact iAnd_nn _ _ | exact iSub_nn _ _ | exact part1_le (by omega) (by first | omega | (simp only [List.length_append]; omega)) | decide), trivial⟩, ⟨⟨trivial, trivial⟩, ⟨⟨trivial, (h1)⟩, ⟨⟨trivial, trivial⟩, ⟨⟨trivial, trivial⟩, ⟨⟨trivial, trivial⟩, ⟨⟨trivial, trivial⟩, ⟨⟨trivial, trivial⟩, ⟨⟨trivial, trivial⟩, ⟨⟨trivial, trivial⟩, ⟨⟨trivial, trivial⟩, trivial⟩⟩⟩⟩⟩⟩⟩⟩⟩⟩⟩⟩⟩⟩⟩⟩⟩) ?_
      refine Tri.cond_true (by kernel_rfl) ?_
      refine Tri.seq ?_
      refine Tri.seq_region [] none [24, 0] [0] ((True ∧ True) ∧ ((True ∧ True) ∧ True))
          ([(24, .sc (.b true)), (0, .sc (.p 0 0))], [(0, .cells [.ro .u8 p0, .b p1])])
          336 (by kernel_rfl) rfl (by kernel_rfl) (⟨⟨trivial, trivial⟩, ⟨⟨trivial, trivial⟩, trivial⟩⟩) ?_
      refine Tri.cond_true (by kernel_rfl) ?_
      refine Tri.region' [] none [] [0] ((True ∧ True) ∧ ((True ∧ True) ∧ ((True ∧ True) ∧ ((True ∧ True) ∧ ((((1 < 2) ∧ (1 = 1)) ∧ True) ∧ ((True ∧ True) ∧ ((True ∧ True) ∧ ((((0 < 2) ∧ (1 = 1)) ∧ True) ∧ True))))))))
          ([], [(0, .cells [.nils, .b true])])
          464 (by kernel_rfl) rfl (by kernel_rfl) (⟨⟨trivial, trivial⟩, ⟨⟨trivial, trivial⟩, ⟨⟨trivial, trivial⟩, ⟨⟨trivial, trivial⟩, ⟨⟨⟨(by first | omega | (rw [adr_eq]; omega) | exact iAnd_nn _ _ | exact iSub_nn _ _ | exact part1_le (by omega) (by first | omega | (simp only [List.length_append]; omega)) | decide), (rfl)⟩, trivial⟩, ⟨⟨trivial, trivial⟩, ⟨⟨trivial, trivial⟩, ⟨⟨⟨(by first | omega | (rw [adr_eq]; omega) | exact iAnd_nn _ _ | exact iSub_nn _ _ | exact part1_le (by omega) (by first | omega | (simp only [List.length_append]; omega)) | decide), (rfl)⟩, trivial⟩, trivial⟩⟩⟩⟩⟩⟩⟩⟩) ?_
      change Tri _ _ _ _ _ _
      refine Tri.seq_region [] none [4] [0] ((True ∧ True) ∧ True)
          ([(4, .sc (.nils))], [(0, .cells [.nils, .b true])])
          480 (by kernel_rfl) rfl (by kernel_rfl) (⟨⟨trivial, trivial⟩, trivial⟩) ?_
      refine Tri.sub (Sub.nilRo 4 .u8 (by kernel_rfl)) ?_
      refine Tri.sub (Sub.nilCell (l := [.nils, .b true]) 0 0 .u8 (by kernel_rfl) (by kernel_rfl)) ?_
      refine Tri.ret ?_
      repeat (first | refine thenP_ret ?_ | refine blkP_ret ?_ | refine countP_ret ?_ | refine joinP_ret ?_ | refine iterP_ret ?_)
      refine endP.conv (r' := ⟨.sc (.ro .u8 ([] : List Int)), [some (.cells [.ro .u8 ([] : List Int), .b true])]⟩) (by simp only [FwtakeF, FwtakeF_1, FwtakeF_2, h1, sel_true, sel_false]) ?_
      exact endP.ret [(0, 0)] (True ∧ True) (by kernel_rfl) (by kernel_rfl) ⟨trivial, trivial⟩
    ·
      refine Tri.seq_region [(14, qb false)] none [22, 0, 1] [0] ((True ∧ True) ∧ ((True ∧ True) ∧ ((True ∧ True) ∧ ((True ∧ True) ∧ ((True ∧ True) ∧ ((True ∧ True) ∧ (((1 < 2) ∧ True) ∧ ((True ∧ True) ∧ ((True ∧ (p1 = false)) ∧ ((True ∧ True) ∧ ((True ∧ True) ∧ ((True ∧ True) ∧ ((True ∧ True) ∧ (((0 < 2) ∧ True) ∧ ((True ∧ True) ∧ ((True ∧ True) ∧ ((True ∧ True) ∧ True)))))))))))))))))
          ([(22, .sc (.b (decide ((p2 : Int) > ((p0.length : Nat) : Int))))), (0, .sc (.p 0 0)), (1, .sc (.i .i64 p2))], [(0, .cells [.ro .u8 p0, .b p1])])
          304 (by kernel_rfl) rfl (by kernel_rfl) (⟨⟨trivial, trivial⟩, ⟨⟨trivial, trivial⟩, ⟨⟨trivial, trivial⟩, ⟨⟨trivial, trivial⟩, ⟨⟨trivial, trivial⟩, ⟨⟨trivial, trivial⟩, ⟨⟨(by first | omega | (rw [adr_eq]; omega) | exact iAnd_nn _ _ | exact iSub_nn _ _ | exact part1_le (by omega) (by first | omega | (simp only [List.length_append]; omega)) | decide), trivial⟩, ⟨⟨trivial, trivial⟩, ⟨⟨trivial, (h1)⟩, ⟨⟨trivial, trivial⟩, ⟨⟨trivial, trivial⟩, ⟨⟨trivial, trivial⟩, ⟨⟨trivial, trivial⟩, ⟨⟨(by first | omega | (rw [adr_eq]; omega) | exact iAnd_nn _ _ | exact iSub_nn _ _ | exact part1_le (by omega) (by first | omega | (simp only [List.length_append]; omega)) | decide), trivial⟩, ⟨⟨trivial, trivial⟩, ⟨⟨trivial, trivial⟩, ⟨⟨trivial, trivial⟩, trivial⟩⟩⟩⟩⟩⟩⟩⟩⟩⟩⟩⟩⟩⟩⟩⟩⟩) ?_
      refine Tri.cond (x := (decide ((p2 : Int) > ((p0.length : Nat) : Int)))) (by kernel_rfl) (fun h2 => ?_) (fun h2 => ?_)
      ·
        have h2' := of_decide_eq_true h2
        refine Tri.seq ?_
        refine Tri.seq_region [] none [24, 0] [0] ((True ∧ True) ∧ ((True ∧ True) ∧ True))
            ([(24, .sc (.b true)), (0, .sc (.p 0 0))], [(0, .cells [.ro .u8 p0, .b p1])])
            336 (by kernel_rfl) rfl (by kernel_rfl) (⟨⟨trivial, trivial⟩, ⟨⟨trivial, trivial⟩, trivial⟩⟩) ?_
        refine Tri.cond_true (by kernel_rfl) ?_
        refine Tri.region' [] none [] [0] ((True ∧ True) ∧ ((True ∧ True) ∧ ((True ∧ True) ∧ ((True ∧ True) ∧ ((((1 < 2) ∧ (1 = 1)) ∧ True) ∧ ((True ∧ True) ∧ ((True ∧ True) ∧ ((((0 < 2) ∧ (1 = 1)) ∧ True) ∧ True))))))))
            ([], [(0, .cells [.nils, .b true])])
            464 (by kernel_rfl) rfl (by kernel_rfl) (⟨⟨trivial, trivial⟩, ⟨⟨trivial, trivial⟩, ⟨⟨trivial, trivial⟩, ⟨⟨trivial, trivial⟩, ⟨⟨⟨(by first | omega | (rw [adr_eq]; omega) | exact iAnd_nn _ _ | exact iSub_nn _ _ | exact part1_le (by omega) (by first | omega | (simp only [List.length_append]; omega)) | decide), (rfl)⟩, trivial⟩, ⟨⟨trivial, trivial⟩, ⟨⟨trivial, trivial⟩, ⟨⟨⟨(by first | omega | (rw [adr_eq]; omega) | exact iAnd_nn _ _ | exact iSub_nn _ _ | exact part1_le (by omega) (by first | omega | (simp only [List.length_append]; omega)) | decide), (rfl)⟩, trivial⟩, trivial⟩⟩⟩⟩⟩⟩⟩⟩) ?_
        change Tri _ _ _ _ _ _
        refine Tri.seq_region [] none [4] [0] ((True ∧ True) ∧ True)
            ([(4, .sc (.nils))], [(0, .cells [.nils, .b true])])
            480 (by kernel_rfl) rfl (by kernel_rfl) (⟨⟨trivial, trivial⟩, trivial⟩) ?_
        refine Tri.sub (Sub.nilRo 4 .u8 (by kernel_rfl)) ?_
        refine Tri.sub (Sub.nilCell (l := [.nils, .b true]) 0 0 .u8 (by kernel_rfl) (by kernel_rfl)) ?_
        refine Tri.ret ?_
        repeat (first | refine thenP_ret ?_ | refine blkP_ret ?_ | refine countP_ret ?_ | refine joinP_ret ?_ | refine iterP_ret ?_)
        refine endP.conv (r' := ⟨.sc (.ro .u8 ([] : List Int)), [some (.cells [.ro .u8 ([] : List Int), .b true])]⟩) (by simp only [FwtakeF, FwtakeF_1, FwtakeF_2, h1, h2, sel_true, sel_false]) ?_
        exact endP.ret [(0, 0)] (True ∧ True) (by kernel_rfl) (by kernel_rfl) ⟨trivial, trivial⟩
      ·
        have h2' := of_decide_eq_false h2
        refine Tri.skip ?_
        change Tri _ _ _ _ _ _
        refine Tri.seq_region [] none [5, 0, 1] [0] ((True ∧ True) ∧ ((True ∧ True) ∧ ((True ∧ True) ∧ (((0 < 2) ∧ True) ∧ ((True ∧ True) ∧ ((True ∧ True) ∧ ((((0 : Int) ≤ 0 ∧ (0 : Int) ≤ p2 ∧ (p2 : Int) ≤ p2 ∧ (p2 : Int) ≤ (p0.length : Int)) ∧ True) ∧ ((True ∧ True) ∧ True))))))))
            ([(5, .sc (.ro .u8 ((p0.drop 0).take (((p2).toNat) - 0)))), (0, .sc (.p 0 0)), (1, .sc (.i .i64 p2))], [(0, .cells [.ro .u8 p0, .b p1])])
            432 (by kernel_rfl) rfl (by kernel_rfl) (⟨⟨trivial, trivial⟩, ⟨⟨trivial, trivial⟩, ⟨⟨trivial, trivial⟩, ⟨⟨(by first | omega | (rw [adr_eq]; omega) | exact iAnd_nn _ _ | exact iSub_nn _ _ | exact part1_le (by omega) (by first | omega | (simp only [List.length_append]; omega)) | decide), trivial⟩, ⟨⟨trivial, trivial⟩, ⟨⟨trivial, trivial⟩, ⟨⟨(by first | omega | (rw [adr_eq]; omega) | exact iAnd_nn _ _ | exact iSub_nn _ _ | exact part1_le (by omega) (by first | omega | (simp only [List.length_append]; omega)) | decide), trivial⟩, ⟨⟨trivial, trivial⟩, trivial⟩⟩⟩⟩⟩⟩⟩⟩) ?_
        refine Tri.seq_region [] none [5] [0] ((True ∧ True) ∧ ((True ∧ True) ∧ ((True ∧ True) ∧ ((True ∧ True) ∧ (((0 < 2) ∧ True) ∧ ((True ∧ True) ∧ ((((0 : Int) ≤ p2 ∧ (p2 : Int) ≤ ((p0.length : Nat) : Int) ∧ ((p0.length : Nat) : Int) ≤ (p0.length : Int)) ∧ True) ∧ ((True ∧ True) ∧ ((True ∧ True) ∧ ((((0 < 2) ∧ (1 = 1)) ∧ True) ∧ True))))))))))
            ([(5, .sc (.ro .u8 ((p0.drop 0).take (((p2).toNat) - 0))))], [(0, .cells [.ro .u8 ((p0.drop ((p2).toNat)).take (p0.length - ((p2).toNat))), .b p1])])
            592 (by kernel_rfl) rfl (by kernel_rfl) (⟨⟨trivial, trivial⟩, ⟨⟨trivial, trivial⟩, ⟨⟨trivial, trivial⟩, ⟨⟨trivial, trivial⟩, ⟨⟨(by first | omega | (rw [adr_eq]; omega) | exact iAnd_nn _ _ | exact iSub_nn _ _ | exact part1_le (by omega) (by first | omega | (simp only [List.length_append]; omega)) | decide), trivial⟩, ⟨⟨trivial, trivial⟩, ⟨⟨(by first | omega | (rw [adr_eq]; omega) | exact iAnd_nn _ _ | exact iSub_nn _ _ | exact part1_le (by omega) (by first | omega | (simp only [List.length_append]; omega)) | decide), trivial⟩, ⟨⟨trivial, trivial⟩, ⟨⟨trivial, trivial⟩, ⟨⟨⟨(by first | omega | (rw [adr_eq]; omega) | exact iAnd_nn _ _ | exact iSub_nn _ _ | exact part1_le (by omega) (by first | omega | (simp only [List.length_append]; omega)) | decide), (rfl)⟩, trivial⟩, trivial⟩⟩⟩⟩⟩⟩⟩⟩⟩⟩) ?_
        refine Tri.seq_region [] none [4] [0] ((True ∧ True) ∧ ((True ∧ True) ∧ True))
            ([(4, .sc (.ro .u8 ((p0.drop 0).take (((p2).toNat) - 0))))], [(0, .cells [.ro .u8 ((p0.drop ((p2).toNat)).take (p0.length - ((p2).toNat))), .b p1])])
            624 (by kernel_rfl) rfl (by kernel_rfl) (⟨⟨trivial, trivial⟩, ⟨⟨trivial, trivial⟩, trivial⟩⟩) ?_
        refine Tri.ret ?_
        repeat (first | refine thenP_ret ?_ | refine blkP_ret ?_ | refine countP_ret ?_ | refine joinP_ret ?_ | refine iterP_ret ?_)
        refine endP.conv (r' := ⟨.sc (.ro .u8 ((p0.drop 0).take (((p2).toNat) - 0))), [some (.cells [.ro .u8 ((p0.drop ((p2).toNat)).take (p0.length - ((p2).toNat))), .b p1])]⟩) (by simp only [FwtakeF, FwtakeF_1, FwtakeF_2, h1, h2, sel_true, sel_false]) ?_
        exact endP.ret [(0, 0)] (True ∧ True) (by kernel_rfl) (by kernel_rfl) ⟨trivial, trivial⟩

theorem le_FwtakeF (p0 : List Int) (p1 : Bool) (p2 : Int) : (FwtakeF p0 p1 p2).length ≤ p2.toNat := by
  unfold FwtakeF
  cases p1
  · simp only [sel_false]
    cases (decide ((p2 : Int) > ((p0.length : Nat) : Int)))
    · simp only [sel_false, List.length_take, List.length_drop]; omega
    · simp only [sel_true, List.length_nil]; omega
  · simp only [sel_true, List.length_nil]; omega


noncomputable def SwtakeNilF : List AV → List Blk → Option (Prop × Ret)
  | [.sc (.nilp), .sc (.i .i64 p2)], [] => some (True, ⟨.sc (.ro .u8 ([] : List Int)), []⟩)
  | _, _ => none

noncomputable def BwtakeNilF : Bs := { P := Go.Proofs.Tryd.prog, G := noG, tab := tabOf [], n := 48 }

theorem BwtakeNilF.ok : BwtakeNilF.Ok := ⟨tabOk (P := Go.Proofs.Tryd.prog) (G := noG) (l := []) True.intro, mixed⟩

theorem KwtakeNilF : Known Go.Proofs.Tryd.prog noG 43 ⟨0, 0, SwtakeNilF⟩ := by
  refine Known.walk (B := BwtakeNilF) (fn := Go.Proofs.Tryd.f43) BwtakeNilF.ok (by kernel_rfl) rfl (by kernel_rfl) (by kernel_rfl) (by decide) (by decide) ?_
  · intro E args ks C r h hC hlen
    simp only at h
    unfold SwtakeNilF at h
    split at h
    rotate_left
    · cases h
    rename_i p2
    cases h
    simp only [lens] at hlen
    refine ⟨show 2 ≤ 48 from by decide, ?_⟩
    refine Tri.sub (Sub.of_eq (show _ = ([(0, .sc (.nilp)), (1, .sc (.i .i64 p2))], []) from rfl)) ?_
    refine Tri.seq_region [] none [0, 1] [] ((True ∧ True) ∧ True)
        ([(0, .sc (.nilp)), (1, .sc (.i .i64 p2))], [])
        32 (by kernel_rfl) rfl (by kernel_rfl) (⟨⟨trivial, trivial⟩, trivial⟩) ?_
    refine Tri.seq ?_
    refine Tri.seq_region [] none [22, 0, 1] [] ((True ∧ True) ∧ ((True ∧ True) ∧ ((True ∧ True) ∧ ((True ∧ True) ∧ ((True ∧ True) ∧ ((True ∧ True) ∧ ((True ∧ True) ∧ ((True ∧ True) ∧ ((True ∧ True) ∧ ((True ∧ True) ∧ ((True ∧ True) ∧ ((True ∧ True) ∧ ((True ∧ True) ∧ ((True ∧ True) ∧ ((True ∧ True) ∧ ((True ∧ True) ∧ ((True ∧ True) ∧ True)))))))))))))))))
        ([(22, .sc (.b true)), (0, .sc (.nilp)), (1, .sc (.i .i64 p2))], [])
        304 (by kernel_rfl) rfl (by kernel_rfl) (⟨⟨trivial, trivial⟩, ⟨⟨trivial, trivial⟩, ⟨⟨trivial, trivial⟩, ⟨⟨trivial, trivial⟩, ⟨⟨trivial, trivial⟩, ⟨⟨trivial, trivial⟩, ⟨⟨trivial, trivial⟩, ⟨⟨trivial, trivial⟩, ⟨⟨trivial, trivial⟩, ⟨⟨trivial, trivial⟩, ⟨⟨trivial, trivial⟩, ⟨⟨trivial, trivial⟩, ⟨⟨trivial, trivial⟩, ⟨⟨trivial, trivial⟩, ⟨⟨trivial, trivial⟩, ⟨⟨trivial, trivial⟩, ⟨⟨trivial, trivial⟩, trivial⟩⟩⟩⟩⟩⟩⟩⟩⟩⟩⟩⟩⟩⟩⟩⟩⟩) ?_
    refine Tri.cond_true (by kernel_rfl) ?_
    refine Tri.seq ?_
    refine Tri.seq_region [] none [24, 0] [] ((True ∧ True) ∧ ((True ∧ True) ∧ True))
        ([(24, .sc (.b false)), (0, .sc (.nilp))], [])
        336 (by kernel_rfl) rfl (by kernel_rfl) (⟨⟨trivial, trivial⟩, ⟨⟨trivial, trivial⟩, trivial⟩⟩) ?_
    refine Tri.cond_false (by kernel_rfl) ?_
    refine Tri.skip ?_
    change Tri _ _ _ _ _ _
    refine Tri.seq_region [] none [4] [] ((True ∧ True) ∧ True)
        ([(4, .sc (.nils))], [])
        352 (by kernel_rfl) rfl (by kernel_rfl) (⟨⟨trivial, trivial⟩, trivial⟩) ?_
    refine Tri.sub (Sub.nilRo 4 .u8 (by kernel_rfl)) ?_
    refine Tri.ret ?_
    repeat (first | refine thenP_ret ?_ | refine blkP_ret ?_ | refine countP_ret ?_ | refine joinP_ret ?_ | refine iterP_ret ?_)
    exact endP.ret [] (True ∧ True) (by kernel_rfl) (by kernel_rfl) ⟨trivial, trivial⟩




noncomputable def FwByte (p0 : List Int) (p1 : Bool) : Int :=
  (sel p1 0 (sel (decide ((1 : Int) > ((p0.length : Nat) : Int))) 0 ((FwtakeOk p0 p1 1).getD 0 0)))

noncomputable def FwByte_1 (p0 : List Int) (p1 : Bool) : List Int :=
  (sel p1 ([] : List Int) (sel (decide ((1 : Int) > ((p0.length : Nat) : Int))) ([] : List Int) (FwtakeOk_1 p0 p1 1)))

noncomputable def FwByte_2 (p0 : List Int) (p1 : Bool) : Bool :=
  (sel p1 true (sel (decide ((1 : Int) > ((p0.length : Nat) : Int))) true p1))

noncomputable def SwByte : List AV → List Blk → Option (Prop × Ret)
  | [.sc (.p 0 0)], [.cells [.ro .u8 p0, .b p1]] => some (True, ⟨.sc (.i .u8 (FwByte p0 p1)), [some (.cells [.ro .u8 (FwByte_1 p0 p1), .b (FwByte_2 p0 p1)])]⟩)
  | _, _ => none

noncomputable def BwByte : Bs := { P := Go.Proofs.Tryd.prog, G := noG, tab := tabOf [⟨43, 48, [.io, .val], [], [0], ⟨1, 0, SwtakeBad⟩⟩, ⟨43, 144, [.io, .val], [], [0], ⟨1, 0, SwtakeNo⟩⟩, ⟨43, 240, [.io, .val], [], [0], ⟨1, 0, SwtakeOk⟩⟩], n := 11 }

theorem BwByte.ok : BwByte.Ok := ⟨tabOk (P := Go.Proofs.Tryd.prog) (G := noG) (l := [⟨43, 48, [.io, .val], [], [0], ⟨1, 0, SwtakeBad⟩⟩, ⟨43, 144, [.io, .val], [], [0], ⟨1, 0, SwtakeNo⟩⟩, ⟨43, 240, [.io, .val], [], [0], ⟨1, 0, SwtakeOk⟩⟩]) (And.intro KwtakeBad (And.intro KwtakeNo (And.intro KwtakeOk True.intro))), mixed⟩

theorem KwByte : Known Go.Proofs.Tryd.prog noG 13 ⟨1, 0, SwByte⟩ := by
  refine Known.walk (B := BwByte) (fn := Go.Proofs.Tryd.f13) BwByte.ok (by kernel_rfl) rfl (by kernel_rfl) (by kernel_rfl) (by decide) (by decide) ?_
  · intro E args ks C r h hC hlen
    simp only at h
    unfold SwByte at h
    split at h
    rotate_left
    · cases h
    rename_i p0 p1
    cases h
    simp only [lens] at hlen
    refine ⟨show 1 ≤ 11 from by decide, ?_⟩
    refine Tri.sub (Sub.of_eq (show _ = ([(0, .sc (.p 0 0))], [(0, .cells [.ro .u8 p0, .b p1])]) from rfl)) ?_
    refine Tri.seq_region [] none [0] [0] ((True ∧ True) ∧ True)
        ([(0, .sc (.p 0 0))], [(0, .cells [.ro .u8 p0, .b p1])])
        32 (by kernel_rfl) rfl (by kernel_rfl) (⟨⟨trivial, trivial⟩, trivial⟩) ?_
    refine Tri.seq ?_
    refine Tri.split p1 (fun h1 => ?_) (fun h1 => ?_)
    ·
      refine Tri.seq_region [] none [3] [0] ((True ∧ True) ∧ (((True ∧ ((p1 = true) ∧ True)) ∧ True) ∧ ((True ∧ True) ∧ True)))
          ([(3, .sc (.nils))], [(0, .cells [.ro .u8 ([] : List Int), .b true])])
          80 (by kernel_rfl) rfl (by kernel_rfl) (⟨⟨trivial, trivial⟩, ⟨⟨⟨trivial, ⟨(h1), trivial⟩⟩, trivial⟩, ⟨⟨trivial, trivial⟩, trivial⟩⟩⟩) ?_
      refine Tri.seq_region [] none [7, 3] [0] ((True ∧ True) ∧ ((True ∧ True) ∧ True))
          ([(7, .sc (.b false)), (3, .sc (.nils))], [(0, .cells [.ro .u8 ([] : List Int), .b true])])
          112 (by kernel_rfl) rfl (by kernel_rfl) (⟨⟨trivial, trivial⟩, ⟨⟨trivial, trivial⟩, trivial⟩⟩) ?_
      refine Tri.cond_false (by kernel_rfl) ?_
      refine Tri.skip ?_
      change Tri _ _ _ _ _ _
      refine Tri.seq_region [] none [2] [0] ((True ∧ True) ∧ True)
          ([(2, .sc (.i .u8 0))], [(0, .cells [.ro .u8 ([] : List Int), .b true])])
          128 (by kernel_rfl) rfl (by kernel_rfl) (⟨⟨trivial, trivial⟩, trivial⟩) ?_
      refine Tri.ret ?_
      repeat (first | refine thenP_ret ?_ | refine blkP_ret ?_ | refine countP_ret ?_ | refine joinP_ret ?_ | refine iterP_ret ?_)
      refine endP.conv (r' := ⟨.sc (.i .u8 0), [some (.cells [.ro .u8 ([] : List Int), .b true])]⟩) (by simp only [FwByte, FwByte_1, FwByte_2, h1, sel_true, sel_false]) ?_
      exact endP.ret [(0, 0)] (True ∧ True) (by kernel_rfl) (by kernel_rfl) ⟨trivial, trivial⟩
    ·
      refine Tri.sub (Sub.up (U' := 128) (by decide)) ?_
      refine Tri.split (decide ((1 : Int) > ((p0.length : Nat) : Int))) (fun h2 => ?_) (fun h2 => ?_)
      ·
        have h2' := of_decide_eq_true h2
        refine Tri.seq_region [] none [3] [0] ((True ∧ True) ∧ (((True ∧ ((p1 = false) ∧ (((decide ((1 : Int) > ((p0.length : Nat) : Int))) = true) ∧ True))) ∧ True) ∧ ((True ∧ True) ∧ True)))
            ([(3, .sc (.nils))], [(0, .cells [.ro .u8 ([] : List Int), .b true])])
            176 (by kernel_rfl) rfl (by kernel_rfl) (⟨⟨trivial, trivial⟩, ⟨⟨⟨trivial, ⟨(h1), ⟨(h2), trivial⟩⟩⟩, trivial⟩, ⟨⟨trivial, trivial⟩, trivial⟩⟩⟩) ?_
        refine Tri.seq_region [] none [7, 3] [0] ((True ∧ True) ∧ ((True ∧ True) ∧ True))
            ([(7, .sc (.b false)), (3, .sc (.nils))], [(0, .cells [.ro .u8 ([] : List Int), .b true])])
            208 (by kernel_rfl) rfl (by kernel_rfl) (⟨⟨trivial, trivial⟩, ⟨⟨trivial, trivial⟩, trivial⟩⟩) ?_
        refine Tri.cond_false (by kernel_rfl) ?_
        refine Tri.skip ?_
        change Tri _ _ _ _ _ _
        refine Tri.seq_region [] none [2] [0] ((True ∧ True) ∧ True)
            ([(2, .sc (.i .u8 0))], [(0, .cells [.ro .u8 ([] : List Int), .b true])])
            224 (by kernel_rfl) rfl (by kernel_rfl) (⟨⟨trivial, trivial⟩, trivial⟩) ?_
        refine Tri.ret ?_
        repeat (first | refine thenP_ret ?_ | refine blkP_ret ?_ | refine countP_ret ?_ | refine joinP_ret ?_ | refine iterP_ret ?_)
        refine endP.conv (r' := ⟨.sc (.i .u8 0), [some (.cells [.ro .u8 ([] : List Int), .b true])]⟩) (by simp only [FwByte, FwByte_1, FwByte_2, h1, h2, sel_true, sel_false]) ?_
        exact endP.ret [(0, 0)] (True ∧ True) (by kernel_rfl) (by kernel_rfl) ⟨trivial, trivial⟩
      ·
        have h2' := of_decide_eq_false h2
        refine Tri.sub (Sub.up (U' := 224) (by decide)) ?_
        refine Tri.seq_region [] none [3] [0] ((True ∧ True) ∧ (((True ∧ ((p1 = false) ∧ (((decide ((1 : Int) > ((p0.length : Nat) : Int))) = false) ∧ ((0 : Int) ≤ 1)))) ∧ True) ∧ ((True ∧ True) ∧ True)))
            ([(3, .sc (.ro .u8 (FwtakeOk p0 p1 1)))], [(0, .cells [.ro .u8 (FwtakeOk_1 p0 p1 1), .b p1])])
            272 (by kernel_rfl) rfl (by kernel_rfl) (⟨⟨trivial, trivial⟩, ⟨⟨⟨trivial, ⟨(h1), ⟨(h2), (by first | omega | (have hq := len_FwtakeOk (p0 := p0) (p1 := p1) (p2 := 1) (by assumption) (by decide); omega) | decide)⟩⟩⟩, trivial⟩, ⟨⟨trivial, trivial⟩, trivial⟩⟩⟩) ?_
        refine Tri.seq_region [] none [7, 3] [0] ((True ∧ True) ∧ (((0 < (FwtakeOk p0 p1 1).length) ∧ True) ∧ True))
            ([(7, .sc (.b true)), (3, .sc (.ro .u8 (FwtakeOk p0 p1 1)))], [(0, .cells [.ro .u8 (FwtakeOk_1 p0 p1 1), .b p1])])
            304 (by kernel_rfl) rfl (by kernel_rfl) (⟨⟨trivial, trivial⟩, ⟨⟨(by first | omega | (have hq := len_FwtakeOk (p0 := p0) (p1 := p1) (p2 := 1) (by assumption) (by decide); omega) | decide), trivial⟩, trivial⟩⟩) ?_
        refine Tri.cond_true (by kernel_rfl) ?_
        refine Tri.seq_region [] none [2] [0] ((True ∧ True) ∧ ((((0 : Int) ≤ 0 ∧ 0 < ((FwtakeOk p0 p1 1).length : Int)) ∧ True) ∧ (((0 < (FwtakeOk p0 p1 1).length) ∧ True) ∧ ((True ∧ True) ∧ True))))
            ([(2, .sc (.i .u8 ((FwtakeOk p0 p1 1).getD 0 0)))], [(0, .cells [.ro .u8 (FwtakeOk_1 p0 p1 1), .b p1])])
            368 (by kernel_rfl) rfl (by kernel_rfl) (⟨⟨trivial, trivial⟩, ⟨⟨(by first | omega | (have hq := len_FwtakeOk (p0 := p0) (p1 := p1) (p2 := 1) (by assumption) (by decide); omega) | decide), trivial⟩, ⟨⟨(by first | omega | (have hq := len_FwtakeOk (p0 := p0) (p1 := p1) (p2 := 1) (by assumption) (by decide); omega) | decide), trivial⟩, ⟨⟨trivial, trivial⟩, trivial⟩⟩⟩⟩) ?_
        refine Tri.ret ?_
        repeat (first | refine thenP_ret ?_ | refine blkP_ret ?_ | refine countP_ret ?_ | refine joinP_ret ?_ | refine iterP_ret ?_)
        refine endP.conv (r' := ⟨.sc (.i .u8 ((FwtakeOk p0 p1 1).getD 0 0)), [some (.cells [.ro .u8 (FwtakeOk_1 p0 p1 1), .b p1])]⟩) (by simp only [FwByte, FwByte_1, FwByte_2, h1, h2, sel_true, sel_false]) ?_
        exact endP.ret [(0, 0)] (True ∧ True) (by kernel_rfl) (by kernel_rfl) ⟨trivial, trivial⟩




noncomputable def SwByteNil : List AV → List Blk → Option (Prop × Ret)
  | [.sc (.nilp)], [] => some (True, ⟨.sc (.i .u8 0), []⟩)
  | _, _ => none

noncomputable def BwByteNil : Bs := { P := Go.Proofs.Tryd.prog, G := noG, tab := tabOf [⟨43, 48, [.val, .val], [], [], ⟨0, 0, SwtakeNil⟩⟩], n := 11 }

theorem BwByteNil.ok : BwByteNil.Ok := ⟨tabOk (P := Go.Proofs.Tryd.prog) (G := noG) (l := [⟨43, 48, [.val, .val], [], [], ⟨0, 0, SwtakeNil⟩⟩]) (And.intro KwtakeNil True.intro), mixed⟩

theorem KwByteNil : Known Go.Proofs.Tryd.prog noG 13 ⟨0, 0, SwByteNil⟩ := by
  refine Known.walk (B := BwByteNil) (fn := Go.Proofs.Tryd.f13) BwByteNil.ok (by kernel_rfl) rfl (by kernel_rfl) (by kernel_rfl) (by decide) (by decide) ?_
  · intro E args ks C r h hC hlen
    simp only at h
    unfold SwByteNil at h
    split at h
    rotate_left
    · cases h
    skip
    cases h
    simp only [lens] at hlen
    refine ⟨show 1 ≤ 11 from by decide, ?_⟩
    refine Tri.sub (Sub.of_eq (show _ = ([(0, .sc (.nilp))], []) from rfl)) ?_
    refine Tri.seq_region [] none [0] [] ((True ∧ True) ∧ True)
        ([(0, .sc (.nilp))], [])
        32 (by kernel_rfl) rfl (by kernel_rfl) (⟨⟨trivial, trivial⟩, trivial⟩) ?_
    refine Tri.seq ?_
    refine Tri.seq_region [] none [3] [] ((True ∧ True) ∧ (((True ∧ True) ∧ True) ∧ ((True ∧ True) ∧ True)))
        ([(3, .sc (.nils))], [])
        80 (by kernel_rfl) rfl (by kernel_rfl) (⟨⟨trivial, trivial⟩, ⟨⟨⟨trivial, trivial⟩, trivial⟩, ⟨⟨trivial, trivial⟩, trivial⟩⟩⟩) ?_
    refine Tri.seq_region [] none [7, 3] [] ((True ∧ True) ∧ ((True ∧ True) ∧ True))
        ([(7, .sc (.b false)), (3, .sc (.nils))], [])
        112 (by kernel_rfl) rfl (by kernel_rfl) (⟨⟨trivial, trivial⟩, ⟨⟨trivial, trivial⟩, trivial⟩⟩) ?_
    refine Tri.cond_false (by kernel_rfl) ?_
    refine Tri.skip ?_
    change Tri _ _ _ _ _ _
    refine Tri.seq_region [] none [2] [] ((True ∧ True) ∧ True)
        ([(2, .sc (.i .u8 0))], [])
        128 (by kernel_rfl) rfl (by kernel_rfl) (⟨⟨trivial, trivial⟩, trivial⟩) ?_
    refine Tri.ret ?_
    repeat (first | refine thenP_ret ?_ | refine blkP_ret ?_ | refine countP_ret ?_ | refine joinP_ret ?_ | refine iterP_ret ?_)
    exact endP.ret [] (True ∧ True) (by kernel_rfl) (by kernel_rfl) ⟨trivial, trivial⟩




noncomputable def FwFlag (p0 : List Int) (p1 : Bool) : Bool :=
  (((FwByte p0 p1) : Int) != 0)

noncomputable def FwFlag_1 (p0 : List Int) (p1 : Bool) : List Int :=
  (FwByte_1 p0 p1)

noncomputable def FwFlag_2 (p0 : List Int) (p1 : Bool) : Bool :=
  (FwByte_2 p0 p1)

noncomputable def SwFlag : List AV → List Blk → Option (Prop × Ret)
  | [.sc (.p 0 0)], [.cells [.ro .u8 p0, .b p1]] => some (True, ⟨.sc (.b (FwFlag p0 p1)), [some (.cells [.ro .u8 (FwFlag_1 p0 p1), .b (FwFlag_2 p0 p1)])]⟩)
  | _, _ => none

noncomputable def BwFlag : Bs := { P := Go.Proofs.Tryd.prog, G := noG, tab := tabOf [⟨13, 48, [.io], [], [0], ⟨1, 0, SwByte⟩⟩], n := 6 }

theorem BwFlag.ok : BwFlag.Ok := ⟨tabOk (P := Go.Proofs.Tryd.prog) (G := noG) (l := [⟨13, 48, [.io], [], [0], ⟨1, 0, SwByte⟩⟩]) (And.intro KwByte True.intro), mixed⟩

theorem KwFlag : Known Go.Proofs.Tryd.prog noG 15 ⟨1, 0, SwFlag⟩ := by
  refine Known.walk (B := BwFlag) (fn := Go.Proofs.Tryd.f15) BwFlag.ok (by kernel_rfl) rfl (by kernel_rfl) (by kernel_rfl) (by decide) (by decide) ?_
  · intro E args ks C r h hC hlen
    simp only at h
    unfold SwFlag at h
    split at h
    rotate_left
    · cases h
    rename_i p0 p1
    cases h
    simp only [lens] at hlen
    refine ⟨show 1 ≤ 6 from by decide, ?_⟩
    refine Tri.sub (Sub.of_eq (show _ = ([(0, .sc (.p 0 0))], [(0, .cells [.ro .u8 p0, .b p1])]) from rfl)) ?_
    refine Tri.seq_region [] none [0] [0] ((True ∧ True) ∧ True)
        ([(0, .sc (.p 0 0))], [(0, .cells [.ro .u8 p0, .b p1])])
        32 (by kernel_rfl) rfl (by kernel_rfl) (⟨⟨trivial, trivial⟩, trivial⟩) ?_
    refine Tri.seq_region [] none [2] [0] ((True ∧ True) ∧ (((True ∧ True) ∧ True) ∧ ((True ∧ True) ∧ ((True ∧ True) ∧ True))))
        ([(2, .sc (.b (((FwByte p0 p1) : Int) != 0)))], [(0, .cells [.ro .u8 (FwByte_1 p0 p1), .b (FwByte_2 p0 p1)])])
        96 (by kernel_rfl) rfl (by kernel_rfl) (⟨⟨trivial, trivial⟩, ⟨⟨⟨trivial, trivial⟩, trivial⟩, ⟨⟨trivial, trivial⟩, ⟨⟨trivial, trivial⟩, trivial⟩⟩⟩⟩) ?_
    refine Tri.ret ?_
    repeat (first | refine thenP_ret ?_ | refine blkP_ret ?_ | refine countP_ret ?_ | refine joinP_ret ?_ | refine iterP_ret ?_)
    exact endP.ret [(0, 0)] (True ∧ True) (by kernel_rfl) (by kernel_rfl) ⟨trivial, trivial⟩




noncomputable def SwFlagNil : List AV → List Blk → Option (Prop × Ret)
  | [.sc (.nilp)], [] => some (True, ⟨.sc (.b false), []⟩)
  | _, _ => none

noncomputable def BwFlagNil : Bs := { P := Go.Proofs.Tryd.prog, G := noG, tab := tabOf [⟨13, 48, [.val], [], [], ⟨0, 0, SwByteNil⟩⟩], n := 6 }

theorem BwFlagNil.ok : BwFlagNil.Ok := ⟨tabOk (P := Go.Proofs.Tryd.prog) (G := noG) (l := [⟨13, 48, [.val], [], [], ⟨0, 0, SwByteNil⟩⟩]) (And.intro KwByteNil True.intro), mixed⟩

theorem KwFlagNil : Known Go.Proofs.Tryd.prog noG 15 ⟨0, 0, SwFlagNil⟩ := by
  refine Known.walk (B := BwFlagNil) (fn := Go.Proofs.Tryd.f15) BwFlagNil.ok (by kernel_rfl) rfl (by kernel_rfl) (by kernel_rfl) (by decide) (by decide) ?_
  · intro E args ks C r h hC hlen
    simp only at h
    unfold SwFlagNil at h
    split at h
    rotate_left
    · cases h
    skip
    cases h
    simp only [lens] at hlen
    refine ⟨show 1 ≤ 6 from by decide, ?_⟩
    refine Tri.sub (Sub.of_eq (show _ = ([(0, .sc (.nilp))], []) from rfl)) ?_
    refine Tri.seq_region [] none [0] [] ((True ∧ True) ∧ True)
        ([(0, .sc (.nilp))], [])
        32 (by kernel_rfl) rfl (by kernel_rfl) (⟨⟨trivial, trivial⟩, trivial⟩) ?_
    refine Tri.seq_region [] none [2] [] ((True ∧ True) ∧ (((True ∧ True) ∧ True) ∧ ((True ∧ True) ∧ ((True ∧ True) ∧ True))))
        ([(2, .sc (.b false))], [])
        96 (by kernel_rfl) rfl (by kernel_rfl) (⟨⟨trivial, trivial⟩, ⟨⟨⟨trivial, trivial⟩, trivial⟩, ⟨⟨trivial, trivial⟩, ⟨⟨trivial, trivial⟩, trivial⟩⟩⟩⟩) ?_
    refine Tri.ret ?_
    repeat (first | refine thenP_ret ?_ | refine blkP_ret ?_ | refine countP_ret ?_ | refine joinP_ret ?_ | refine iterP_ret ?_)
    exact endP.ret [] (True ∧ True) (by kernel_rfl) (by kernel_rfl) ⟨trivial, trivial⟩




noncomputable def FwOk (p0 : List Int) (p1 : Bool) : Bool :=
  (!p1)

noncomputable def SwOk : List AV → List Blk → Option (Prop × Ret)
  | [.sc (.p 0 0)], [.cells [.ro .u8 p0, .b p1]] => some (True, ⟨.sc (.b (FwOk p0 p1)), [some (.cells [.ro .u8 p0, .b p1])]⟩)
  | _, _ => none

noncomputable def BwOk : Bs := { P := Go.Proofs.Tryd.prog, G := noG, tab := tabOf [], n := 12 }

theorem BwOk.ok : BwOk.Ok := ⟨tabOk (P := Go.Proofs.Tryd.prog) (G := noG) (l := []) True.intro, mixed⟩

theorem KwOk : Known Go.Proofs.Tryd.prog noG 27 ⟨1, 0, SwOk⟩ := by
  refine Known.walk (B := BwOk) (fn := Go.Proofs.Tryd.f27) BwOk.ok (by kernel_rfl) rfl (by kernel_rfl) (by kernel_rfl) (by decide) (by decide) ?_
  · intro E args ks C r h hC hlen
    simp only at h
    unfold SwOk at h
    split at h
    rotate_left
    · cases h
    rename_i p0 p1
    cases h
    simp only [lens] at hlen
    refine ⟨show 1 ≤ 12 from by decide, ?_⟩
    refine Tri.sub (Sub.of_eq (show _ = ([(0, .sc (.p 0 0))], [(0, .cells [.ro .u8 p0, .b p1])]) from rfl)) ?_
    refine Tri.seq_region [] none [0] [0] ((True ∧ True) ∧ True)
        ([(0, .sc (.p 0 0))], [(0, .cells [.ro .u8 p0, .b p1])])
        32 (by kernel_rfl) rfl (by kernel_rfl) (⟨⟨trivial, trivial⟩, trivial⟩) ?_
    refine Tri.seq_region [] none [2] [0] ((True ∧ True) ∧ ((True ∧ True) ∧ ((True ∧ True) ∧ ((True ∧ True) ∧ ((True ∧ True) ∧ ((True ∧ True) ∧ (((1 < 2) ∧ True) ∧ ((True ∧ True) ∧ ((True ∧ True) ∧ ((True ∧ True) ∧ True))))))))))
        ([(2, .sc (.b (!p1)))], [(0, .cells [.ro .u8 p0, .b p1])])
        192 (by kernel_rfl) rfl (by kernel_rfl) (⟨⟨trivial, trivial⟩, ⟨⟨trivial, trivial⟩, ⟨⟨trivial, trivial⟩, ⟨⟨trivial, trivial⟩, ⟨⟨trivial, trivial⟩, ⟨⟨trivial, trivial⟩, ⟨⟨(by first | omega | (rw [adr_eq]; omega) | exact iAnd_nn _ _ | exact iSub_nn _ _ | exact part1_le (by omega) (by first | omega | (simp only [List.length_append]; omega)) | decide), trivial⟩, ⟨⟨trivial, trivial⟩, ⟨⟨trivial, trivial⟩, ⟨⟨trivial, trivial⟩, trivial⟩⟩⟩⟩⟩⟩⟩⟩⟩⟩) ?_
    refine Tri.ret ?_
    repeat (first | refine thenP_ret ?_ | refine blkP_ret ?_ | refine countP_ret ?_ | refine joinP_ret ?_ | refine iterP_ret ?_)
    exact endP.ret [(0, 0)] (True ∧ True) (by kernel_rfl) (by kernel_rfl) ⟨trivial, trivial⟩




noncomputable def SwOkNil : List AV → List Blk → Option (Prop × Ret)
  | [.sc (.nilp)], [] => some (True, ⟨.sc (.b false), []⟩)
  | _, _ => none

noncomputable def BwOkNil : Bs := { P := Go.Proofs.Tryd.prog, G := noG, tab := tabOf [], n := 12 }

theorem BwOkNil.ok : BwOkNil.Ok := ⟨tabOk (P := Go.Proofs.Tryd.prog) (G := noG) (l := []) True.intro, mixed⟩

theorem KwOkNil : Known Go.Proofs.Tryd.prog noG 27 ⟨0, 0, SwOkNil⟩ := by
  refine Known.walk (B := BwOkNil) (fn := Go.Proofs.Tryd.f27) BwOkNil.ok (by kernel_rfl) rfl (by kernel_rfl) (by kernel_rfl) (by decide) (by decide) ?_
  · intro E args ks C r h hC hlen
    simp only at h
    unfold SwOkNil at h
    split at h
    rotate_left
    · cases h
    skip
    cases h
    simp only [lens] at hlen
    refine ⟨show 1 ≤ 12 from by decide, ?_⟩
    refine Tri.sub (Sub.of_eq (show _ = ([(0, .sc (.nilp))], []) from rfl)) ?_
    refine Tri.seq_region [] none [0] [] ((True ∧ True) ∧ True)
        ([(0, .sc (.nilp))], [])
        32 (by kernel_rfl) rfl (by kernel_rfl) (⟨⟨trivial, trivial⟩, trivial⟩) ?_
    refine Tri.seq_region [] none [2] [] ((True ∧ True) ∧ ((True ∧ True) ∧ ((True ∧ True) ∧ ((True ∧ True) ∧ ((True ∧ True) ∧ ((True ∧ True) ∧ ((True ∧ True) ∧ ((True ∧ True) ∧ ((True ∧ True) ∧ ((True ∧ True) ∧ True))))))))))
        ([(2, .sc (.b false))], [])
        192 (by kernel_rfl) rfl (by kernel_rfl) (⟨⟨trivial, trivial⟩, ⟨⟨trivial, trivial⟩, ⟨⟨trivial, trivial⟩, ⟨⟨trivial, trivial⟩, ⟨⟨trivial, trivial⟩, ⟨⟨trivial, trivial⟩, ⟨⟨trivial, trivial⟩, ⟨⟨trivial, trivial⟩, ⟨⟨trivial, trivial⟩, ⟨⟨trivial, trivial⟩, trivial⟩⟩⟩⟩⟩⟩⟩⟩⟩⟩) ?_
    refine Tri.ret ?_
    repeat (first | refine thenP_ret ?_ | refine blkP_ret ?_ | refine countP_ret ?_ | refine joinP_ret ?_ | refine iterP_ret ?_)
    exact endP.ret [] (True ∧ True) (by kernel_rfl) (by kernel_rfl) ⟨trivial, trivial⟩




noncomputable def FwEnd (p0 : List Int) (p1 : Bool) : Bool :=
  (sel (FwOk p0 p1) ((((p0.length : Nat) : Int) : Int) == 0) false)

noncomputable def SwEnd : List AV → List Blk → Option (Prop × Ret)
  | [.sc (.p 0 0)], [.cells [.ro .u8 p0, .b p1]] => some (True, ⟨.sc (.b (FwEnd p0 p1)), [some (.cells [.ro .u8 p0, .b p1])]⟩)
  | _, _ => none

noncomputable def BwEnd : Bs := { P := Go.Proofs.Tryd.prog, G := noG, tab := tabOf [⟨27, 48, [.io], [], [0], ⟨1, 0, SwOk⟩⟩], n := 13 }

theorem BwEnd.ok : BwEnd.Ok := ⟨tabOk (P := Go.Proofs.Tryd.prog) (G := noG) (l := [⟨27, 48, [.io], [], [0], ⟨1, 0, SwOk⟩⟩]) (And.intro KwOk True.intro), mixed⟩

theorem KwEnd : Known Go.Proofs.Tryd.prog noG 28 ⟨1, 0, SwEnd⟩ := by
  refine Known.walk (B := BwEnd) (fn := Go.Proofs.Tryd.f28) BwEnd.ok (by kernel_rfl) rfl (by kernel_rfl) (by kernel_rfl) (by decide) (by decide) ?_
  · intro E args ks C r h hC hlen
    simp only at h
    unfold SwEnd at h
    split at h
    rotate_left
    · cases h
    rename_i p0 p1
    cases h
    simp only [lens] at hlen
    refine ⟨show 1 ≤ 13 from by decide, ?_⟩
    refine Tri.sub (Sub.of_eq (show _ = ([(0, .sc (.p 0 0))], [(0, .cells [.ro .u8 p0, .b p1])]) from rfl)) ?_
    refine Tri.seq_region [] none [0] [0] ((True ∧ True) ∧ True)
        ([(0, .sc (.p 0 0))], [(0, .cells [.ro .u8 p0, .b p1])])
        32 (by kernel_rfl) rfl (by kernel_rfl) (⟨⟨trivial, trivial⟩, trivial⟩) ?_
    refine Tri.split (FwOk p0 p1) (fun h1 => ?_) (fun h1 => ?_)
    ·
      refine Tri.seq_region [(5, qb true)] none [2] [0] ((True ∧ True) ∧ (((True ∧ True) ∧ True) ∧ ((True ∧ ((FwOk p0 p1) = true)) ∧ ((True ∧ True) ∧ ((True ∧ True) ∧ ((True ∧ True) ∧ (((0 < 2) ∧ True) ∧ ((True ∧ True) ∧ ((True ∧ True) ∧ ((True ∧ True) ∧ ((True ∧ True) ∧ True)))))))))))
          ([(2, .sc (.b ((((p0.length : Nat) : Int) : Int) == 0)))], [(0, .cells [.ro .u8 p0, .b p1])])
          208 (by kernel_rfl) rfl (by kernel_rfl) (⟨⟨trivial, trivial⟩, ⟨⟨⟨trivial, trivial⟩, trivial⟩, ⟨⟨trivial, (h1)⟩, ⟨⟨trivial, trivial⟩, ⟨⟨trivial, trivial⟩, ⟨⟨trivial, trivial⟩, ⟨⟨(by first | omega | (rw [adr_eq]; omega) | exact iAnd_nn _ _ | exact iSub_nn _ _ | exact part1_le (by omega) (by first | omega | (simp only [List.length_append]; omega)) | decide), trivial⟩, ⟨⟨trivial, trivial⟩, ⟨⟨trivial, trivial⟩, ⟨⟨trivial, trivial⟩, ⟨⟨trivial, trivial⟩, trivial⟩⟩⟩⟩⟩⟩⟩⟩⟩⟩⟩) ?_
      refine Tri.ret ?_
      repeat (first | refine thenP_ret ?_ | refine blkP_ret ?_ | refine countP_ret ?_ | refine joinP_ret ?_ | refine iterP_ret ?_)
      refine endP.conv (r' := ⟨.sc (.b ((((p0.length : Nat) : Int) : Int) == 0)), [some (.cells [.ro .u8 p0, .b p1])]⟩) (by simp only [FwEnd, h1, sel_true, sel_false]) ?_
      exact endP.ret [(0, 0)] (True ∧ True) (by kernel_rfl) (by kernel_rfl) ⟨trivial, trivial⟩
    ·
      refine Tri.seq_region [(5, qb false)] none [2] [0] ((True ∧ True) ∧ (((True ∧ True) ∧ True) ∧ ((True ∧ ((FwOk p0 p1) = false)) ∧ ((True ∧ True) ∧ ((True ∧ True) ∧ ((True ∧ True) ∧ ((True ∧ True) ∧ ((True ∧ True) ∧ ((True ∧ True) ∧ ((True ∧ True) ∧ ((True ∧ True) ∧ True)))))))))))
          ([(2, .sc (.b false))], [(0, .cells [.ro .u8 p0, .b p1])])
          208 (by kernel_rfl) rfl (by kernel_rfl) (⟨⟨trivial, trivial⟩, ⟨⟨⟨trivial, trivial⟩, trivial⟩, ⟨⟨trivial, (h1)⟩, ⟨⟨trivial, trivial⟩, ⟨⟨trivial, trivial⟩, ⟨⟨trivial, trivial⟩, ⟨⟨trivial, trivial⟩, ⟨⟨trivial, trivial⟩, ⟨⟨trivial, trivial⟩, ⟨⟨trivial, trivial⟩, ⟨⟨trivial, trivial⟩, trivial⟩⟩⟩⟩⟩⟩⟩⟩⟩⟩⟩) ?_
      refine Tri.ret ?_
      repeat (first | refine thenP_ret ?_ | refine blkP_ret ?_ | refine countP_ret ?_ | refine joinP_ret ?_ | refine iterP_ret ?_)
      refine endP.conv (r' := ⟨.sc (.b false), [some (.cells [.ro .u8 p0, .b p1])]⟩) (by simp only [FwEnd, h1, sel_true, sel_false]) ?_
      exact endP.ret [(0, 0)] (True ∧ True) (by kernel_rfl) (by kernel_rfl) ⟨trivial, trivial⟩




noncomputable def SwEndNil : List AV → List Blk → Option (Prop × Ret)
  | [.sc (.nilp)], [] => some (True, ⟨.sc (.b false), []⟩)
  | _, _ => none

noncomputable def BwEndNil : Bs := { P := Go.Proofs.Tryd.prog, G := noG, tab := tabOf [⟨27, 48, [.val], [], [], ⟨0, 0, SwOkNil⟩⟩], n := 13 }

theorem BwEndNil.ok : BwEndNil.Ok := ⟨tabOk (P := Go.Proofs.Tryd.prog) (G := noG) (l := [⟨27, 48, [.val], [], [], ⟨0, 0, SwOkNil⟩⟩]) (And.intro KwOkNil True.intro), mixed⟩

theorem KwEndNil : Known Go.Proofs.Tryd.prog noG 28 ⟨0, 0, SwEndNil⟩ := by
  refine Known.walk (B := BwEndNil) (fn := Go.Proofs.Tryd.f28) BwEndNil.ok (by kernel_rfl) rfl (by kernel_rfl) (by kernel_rfl) (by decide) (by decide) ?_
  · intro E args ks C r h hC hlen
    simp only at h
    unfold SwEndNil at h
    split at h
    rotate_left
    · cases h
    skip
    cases h
    simp only [lens] at hlen
    refine ⟨show 1 ≤ 13 from by decide, ?_⟩
    refine Tri.sub (Sub.of_eq (show _ = ([(0, .sc (.nilp))], []) from rfl)) ?_
    refine Tri.seq_region [] none [0] [] ((True ∧ True) ∧ True)
        ([(0, .sc (.nilp))], [])
        32 (by kernel_rfl) rfl (by kernel_rfl) (⟨⟨trivial, trivial⟩, trivial⟩) ?_
    refine Tri.seq_region [] none [2] [] ((True ∧ True) ∧ (((True ∧ True) ∧ True) ∧ ((True ∧ True) ∧ ((True ∧ True) ∧ ((True ∧ True) ∧ ((True ∧ True) ∧ ((True ∧ True) ∧ ((True ∧ True) ∧ ((True ∧ True) ∧ ((True ∧ True) ∧ ((True ∧ True) ∧ True)))))))))))
        ([(2, .sc (.b false))], [])
        208 (by kernel_rfl) rfl (by kernel_rfl) (⟨⟨trivial, trivial⟩, ⟨⟨⟨trivial, trivial⟩, trivial⟩, ⟨⟨trivial, trivial⟩, ⟨⟨trivial, trivial⟩, ⟨⟨trivial, trivial⟩, ⟨⟨trivial, trivial⟩, ⟨⟨trivial, trivial⟩, ⟨⟨trivial, trivial⟩, ⟨⟨trivial, trivial⟩, ⟨⟨trivial, trivial⟩, ⟨⟨trivial, trivial⟩, trivial⟩⟩⟩⟩⟩⟩⟩⟩⟩⟩⟩) ?_
    refine Tri.ret ?_
    repeat (first | refine thenP_ret ?_ | refine blkP_ret ?_ | refine countP_ret ?_ | refine joinP_ret ?_ | refine iterP_ret ?_)
    exact endP.ret [] (True ∧ True) (by kernel_rfl) (by kernel_rfl) ⟨trivial, trivial⟩



end Go.Vm
