/- What the functions compute, and that they do: walked by a printed text. -/
import Derived.Test.YtfkmfdjdppjijaaChecked
import Derived.Test.YtfkmfdjdppjijaaVnZc
set_option linter.unusedVariables false
set_option linter.unusedSimpArgs false
set_option maxRecDepth 4000
namespace Go.Vm
open Go

theorem mixed : Go.Proofs.Try.prog.follows .mixedOrders = true := by kernel_rfl


noncomputable def SwFrom : List AV → List Blk → Option (Prop × Ret)
  | [.sc (.ro .u8 p0)], [] => some (True, ⟨.sc (.p 0 0), [some (.cells [.ro .u8 p0, .b false])]⟩)
  | _, _ => none

noncomputable def BwFrom : Bs := { P := Go.Proofs.Try.prog, G := noG, tab := tabOf [], n := 6 }

theorem BwFrom.ok : BwFrom.Ok := ⟨tabOk (P := Go.Proofs.Try.prog) (G := noG) (l := []) True.intro, mixed⟩

theorem KwFrom : Known Go.Proofs.Try.prog noG 31 ⟨0, 1, SwFrom⟩ := by
  refine Known.walk (B := BwFrom) (fn := Go.Proofs.Try.f31) BwFrom.ok (by kernel_rfl) rfl (by kernel_rfl) (by kernel_rfl) (by decide) (by decide) ?_
  · intro E args ks C r h hC hlen
    simp only at h
    unfold SwFrom at h
    split at h
    rotate_left
    · cases h
    rename_i p0
    cases h
    simp only [lens] at hlen
    refine ⟨show 1 ≤ 6 from by decide, ?_⟩
    refine Tri.sub (Sub.of_eq (show _ = ([(0, .sc (.ro .u8 p0))], []) from rfl)) ?_
    refine Tri.seq_region [] none [0] [] (TT ∧ True)
        ([(0, .sc (.ro .u8 p0))], [])
        32 (by kernel_rfl) rfl (by kernel_rfl) (⟨tt, trivial⟩) ?_
    refine Tri.seq_region [] none [2] [64] (TT ∧ (((((0 < 2) ∧ (1 = 1)) ∧ True) ∧ True) ∧ (TT ∧ (TT ∧ True))))
        ([(2, .sc (.p 64 0))], [(64, .cells [.ro .u8 p0, .b false])])
        96 (by kernel_rfl) rfl (by kernel_rfl) (⟨tt, ⟨⟨⟨⟨(by first | omega | (rw [adr_eq]; omega) | exact iAnd_nn _ _ | exact iSub_nn _ _ | exact part1_le (by omega) (by first | omega | (simp only [List.length_append]; omega)) | decide), (rfl)⟩, trivial⟩, trivial⟩, ⟨tt, ⟨tt, trivial⟩⟩⟩⟩) ?_
    refine Tri.ret ?_
    repeat (first | refine thenP_ret ?_ | refine blkP_ret ?_ | refine countP_ret ?_ | refine joinP_ret ?_ | refine iterP_ret ?_)
    exact endP.ret [(64, 0)] TT (by kernel_rfl) (by kernel_rfl) tt




noncomputable def FwtakeOk (p0 : List Int) (p1 : Bool) (p2 : Int) : List Int :=
  (p0.drop 0).take (((p2).toNat) - 0)

noncomputable def FwtakeOk_1 (p0 : List Int) (p1 : Bool) (p2 : Int) : List Int :=
  (p0.drop ((p2).toNat)).take (p0.length - ((p2).toNat))

noncomputable def SwtakeOk : List AV → List Blk → Option (Prop × Ret)
  | [.sc (.p 0 0), .sc (.i .i64 p2)], [.cells [.ro .u8 p0, .b p1]] => some (((p1 = false) ∧ (((decide ((p2 : Int) > ((p0.length : Nat) : Int))) = false) ∧ ((0 : Int) ≤ p2))), ⟨.sc (.ro .u8 (FwtakeOk p0 p1 p2)), [some (.cells [.ro .u8 (FwtakeOk_1 p0 p1 p2), .b p1])]⟩)
  | _, _ => none

noncomputable def BwtakeOk : Bs := { P := Go.Proofs.Try.prog, G := noG, tab := tabOf [], n := 48 }

theorem BwtakeOk.ok : BwtakeOk.Ok := ⟨tabOk (P := Go.Proofs.Try.prog) (G := noG) (l := []) True.intro, mixed⟩

theorem KwtakeOk : Known Go.Proofs.Try.prog noG 42 ⟨1, 0, SwtakeOk⟩ := by
  refine Known.walk (B := BwtakeOk) (fn := Go.Proofs.Try.f42) BwtakeOk.ok (by kernel_rfl) rfl (by kernel_rfl) (by kernel_rfl) (by decide) (by decide) ?_
  · intro E args ks C r h hC hlen
    simp only at h
    unfold SwtakeOk at h
    split at h
    rotate_left
    · cases h
    rename_i p2 p0 p1
    cases h
    simp only [lens] at hlen
    have hG0 := hC.1
    have hG1 := hC.2.1
    have hG1' := of_decide_eq_false hG1
    have hC := hC.2.2
    refine ⟨show 2 ≤ 48 from by decide, ?_⟩
    refine Tri.sub (Sub.of_eq (show _ = ([(0, .sc (.p 0 0)), (1, .sc (.i .i64 p2))], [(0, .cells [.ro .u8 p0, .b p1])]) from rfl)) ?_
    refine Tri.seq_region [] none [0, 1] [0] (TT ∧ True)
        ([(0, .sc (.p 0 0)), (1, .sc (.i .i64 p2))], [(0, .cells [.ro .u8 p0, .b p1])])
        32 (by kernel_rfl) rfl (by kernel_rfl) (⟨tt, trivial⟩) ?_
    refine Tri.seq ?_
    refine Tri.seq_region [(14, qb false)] none [22, 0, 1] [0] (TT ∧ (TT ∧ (TT ∧ (TT ∧ (TT ∧ (TT ∧ (((1 < 2) ∧ True) ∧ (TT ∧ ((True ∧ (p1 = false)) ∧ (TT ∧ (TT ∧ (TT ∧ (TT ∧ (((0 < 2) ∧ True) ∧ (TT ∧ (TT ∧ (TT ∧ True)))))))))))))))))
        ([(22, .sc (.b (decide ((p2 : Int) > ((p0.length : Nat) : Int))))), (0, .sc (.p 0 0)), (1, .sc (.i .i64 p2))], [(0, .cells [.ro .u8 p0, .b p1])])
        304 (by kernel_rfl) rfl (by kernel_rfl) (⟨tt, ⟨tt, ⟨tt, ⟨tt, ⟨tt, ⟨tt, ⟨⟨(by first | omega | (rw [adr_eq]; omega) | exact iAnd_nn _ _ | exact iSub_nn _ _ | exact part1_le (by omega) (by first | omega | (simp only [List.length_append]; omega)) | decide), trivial⟩, ⟨tt, ⟨⟨trivial, (hG0)⟩, ⟨tt, ⟨tt, ⟨tt, ⟨tt, ⟨⟨(by first | omega | (rw [adr_eq]; omega) | exact iAnd_nn _ _ | exact iSub_nn _ _ | exact part1_le (by omega) (by first | omega | (simp only [List.length_append]; omega)) | decide), trivial⟩, ⟨tt, ⟨tt, ⟨tt, trivial⟩⟩⟩⟩⟩⟩⟩⟩⟩⟩⟩⟩⟩⟩⟩⟩⟩) ?_
    refine Tri.cond (x := (decide ((p2 : Int) > ((p0.length : Nat) : Int)))) (by kernel_rfl) (fun h => absurd (h.symm.trans hG1) (by decide)) (fun h => ?_)
    refine Tri.skip ?_
    change Tri _ _ _ _ _ _
    refine Tri.seq_region [] none [5, 0, 1] [0] (TT ∧ (TT ∧ (TT ∧ (((0 < 2) ∧ True) ∧ (TT ∧ (TT ∧ ((((0 : Int) ≤ 0 ∧ (0 : Int) ≤ p2 ∧ (p2 : Int) ≤ p2 ∧ (p2 : Int) ≤ (p0.length : Int)) ∧ True) ∧ (TT ∧ True))))))))
        ([(5, .sc (.ro .u8 ((p0.drop 0).take (((p2).toNat) - 0)))), (0, .sc (.p 0 0)), (1, .sc (.i .i64 p2))], [(0, .cells [.ro .u8 p0, .b p1])])
        432 (by kernel_rfl) rfl (by kernel_rfl) (⟨tt, ⟨tt, ⟨tt, ⟨⟨(by first | omega | (rw [adr_eq]; omega) | exact iAnd_nn _ _ | exact iSub_nn _ _ | exact part1_le (by omega) (by first | omega | (simp only [List.length_append]; omega)) | decide), trivial⟩, ⟨tt, ⟨tt, ⟨⟨(by first | omega | (rw [adr_eq]; omega) | exact iAnd_nn _ _ | exact iSub_nn _ _ | exact part1_le (by omega) (by first | omega | (simp only [List.length_append]; omega)) | decide), trivial⟩, ⟨tt, trivial⟩⟩⟩⟩⟩⟩⟩⟩) ?_
    refine Tri.seq_region [] none [5] [0] (TT ∧ (TT ∧ (TT ∧ (TT ∧ (((0 < 2) ∧ True) ∧ (TT ∧ ((((0 : Int) ≤ p2 ∧ (p2 : Int) ≤ ((p0.length : Nat) : Int) ∧ ((p0.length : Nat) : Int) ≤ (p0.length : Int)) ∧ True) ∧ (TT ∧ (TT ∧ ((((0 < 2) ∧ (1 = 1)) ∧ True) ∧ True))))))))))
        ([(5, .sc (.ro .u8 ((p0.drop 0).take (((p2).toNat) - 0))))], [(0, .cells [.ro .u8 ((p0.drop ((p2).toNat)).take (p0.length - ((p2).toNat))), .b p1])])
        592 (by kernel_rfl) rfl (by kernel_rfl) (⟨tt, ⟨tt, ⟨tt, ⟨tt, ⟨⟨(by first | omega | (rw [adr_eq]; omega) | exact iAnd_nn _ _ | exact iSub_nn _ _ | exact part1_le (by omega) (by first | omega | (simp only [List.length_append]; omega)) | decide), trivial⟩, ⟨tt, ⟨⟨(by first | omega | (rw [adr_eq]; omega) | exact iAnd_nn _ _ | exact iSub_nn _ _ | exact part1_le (by omega) (by first | omega | (simp only [List.length_append]; omega)) | decide), trivial⟩, ⟨tt, ⟨tt, ⟨⟨⟨(by first | omega | (rw [adr_eq]; omega) | exact iAnd_nn _ _ | exact iSub_nn _ _ | exact part1_le (by omega) (by first | omega | (simp only [List.length_append]; omega)) | decide), (rfl)⟩, trivial⟩, trivial⟩⟩⟩⟩⟩⟩⟩⟩⟩⟩) ?_
    refine Tri.seq_region [] none [4] [0] (TT ∧ (TT ∧ True))
        ([(4, .sc (.ro .u8 ((p0.drop 0).take (((p2).toNat) - 0))))], [(0, .cells [.ro .u8 ((p0.drop ((p2).toNat)).take (p0.length - ((p2).toNat))), .b p1])])
        624 (by kernel_rfl) rfl (by kernel_rfl) (⟨tt, ⟨tt, trivial⟩⟩) ?_
    refine Tri.ret ?_
    repeat (first | refine thenP_ret ?_ | refine blkP_ret ?_ | refine countP_ret ?_ | refine joinP_ret ?_ | refine iterP_ret ?_)
    exact endP.ret [(0, 0)] TT (by kernel_rfl) (by kernel_rfl) tt

theorem len_FwtakeOk {p0 : List Int} {p1 : Bool} {p2 : Int} (h : (decide ((p2 : Int) > ((p0.length : Nat) : Int))) = false) (h0 : 0 ≤ p2) : ((FwtakeOk p0 p1 p2).length : Int) = p2 := by
  have := of_decide_eq_false h
  unfold FwtakeOk
  simp only [List.length_take, List.length_drop]
  omega


noncomputable def SwtakeNo : List AV → List Blk → Option (Prop × Ret)
  | [.sc (.p 0 0), .sc (.i .i64 p2)], [.cells [.ro .u8 p0, .b p1]] => some (((p1 = false) ∧ (((decide ((p2 : Int) > ((p0.length : Nat) : Int))) = true) ∧ True)), ⟨.sc (.nils), [some (.cells [.ro .u8 ([] : List Int), .b true])]⟩)
  | _, _ => none

noncomputable def BwtakeNo : Bs := { P := Go.Proofs.Try.prog, G := noG, tab := tabOf [], n := 48 }

theorem BwtakeNo.ok : BwtakeNo.Ok := ⟨tabOk (P := Go.Proofs.Try.prog) (G := noG) (l := []) True.intro, mixed⟩

theorem KwtakeNo : Known Go.Proofs.Try.prog noG 42 ⟨1, 0, SwtakeNo⟩ := by
  refine Known.walk (B := BwtakeNo) (fn := Go.Proofs.Try.f42) BwtakeNo.ok (by kernel_rfl) rfl (by kernel_rfl) (by kernel_rfl) (by decide) (by decide) ?_
  · intro E args ks C r h hC hlen
    simp only at h
    unfold SwtakeNo at h
    split at h
    rotate_left
    · cases h
    rename_i p2 p0 p1
    cases h
    simp only [lens] at hlen
    have hG0 := hC.1
    have hG1 := hC.2.1
    have hG1' := of_decide_eq_true hG1
    have hC := hC.2.2
    refine ⟨show 2 ≤ 48 from by decide, ?_⟩
    refine Tri.sub (Sub.of_eq (show _ = ([(0, .sc (.p 0 0)), (1, .sc (.i .i64 p2))], [(0, .cells [.ro .u8 p0, .b p1])]) from rfl)) ?_
    refine Tri.seq_region [] none [0, 1] [0] (TT ∧ True)
        ([(0, .sc (.p 0 0)), (1, .sc (.i .i64 p2))], [(0, .cells [.ro .u8 p0, .b p1])])
        32 (by kernel_rfl) rfl (by kernel_rfl) (⟨tt, trivial⟩) ?_
    refine Tri.seq ?_
    refine Tri.seq_region [(14, qb false)] none [22, 0, 1] [0] (TT ∧ (TT ∧ (TT ∧ (TT ∧ (TT ∧ (TT ∧ (((1 < 2) ∧ True) ∧ (TT ∧ ((True ∧ (p1 = false)) ∧ (TT ∧ (TT ∧ (TT ∧ (TT ∧ (((0 < 2) ∧ True) ∧ (TT ∧ (TT ∧ (TT ∧ True)))))))))))))))))
        ([(22, .sc (.b (decide ((p2 : Int) > ((p0.length : Nat) : Int))))), (0, .sc (.p 0 0)), (1, .sc (.i .i64 p2))], [(0, .cells [.ro .u8 p0, .b p1])])
        304 (by kernel_rfl) rfl (by kernel_rfl) (⟨tt, ⟨tt, ⟨tt, ⟨tt, ⟨tt, ⟨tt, ⟨⟨(by first | omega | (rw [adr_eq]; omega) | exact iAnd_nn _ _ | exact iSub_nn _ _ | exact part1_le (by omega) (by first | omega | (simp only [List.length_append]; omega)) | decide), trivial⟩, ⟨tt, ⟨⟨trivial, (hG0)⟩, ⟨tt, ⟨tt, ⟨tt, ⟨tt, ⟨⟨(by first | omega | (rw [adr_eq]; omega) | exact iAnd_nn _ _ | exact iSub_nn _ _ | exact part1_le (by omega) (by first | omega | (simp only [List.length_append]; omega)) | decide), trivial⟩, ⟨tt, ⟨tt, ⟨tt, trivial⟩⟩⟩⟩⟩⟩⟩⟩⟩⟩⟩⟩⟩⟩⟩⟩⟩) ?_
    refine Tri.cond (x := (decide ((p2 : Int) > ((p0.length : Nat) : Int)))) (by kernel_rfl) (fun h => ?_) (fun h => absurd (h.symm.trans hG1) (by decide))
    refine Tri.seq ?_
    refine Tri.seq_region [] none [24, 0] [0] (TT ∧ (TT ∧ True))
        ([(24, .sc (.b true)), (0, .sc (.p 0 0))], [(0, .cells [.ro .u8 p0, .b p1])])
        336 (by kernel_rfl) rfl (by kernel_rfl) (⟨tt, ⟨tt, trivial⟩⟩) ?_
    refine Tri.cond_true (by kernel_rfl) ?_
    refine Tri.region' [] none [] [0] (TT ∧ (TT ∧ (TT ∧ (TT ∧ ((((1 < 2) ∧ (1 = 1)) ∧ True) ∧ (TT ∧ (TT ∧ ((((0 < 2) ∧ (1 = 1)) ∧ True) ∧ True))))))))
        ([], [(0, .cells [.nils, .b true])])
        464 (by kernel_rfl) rfl (by kernel_rfl) (⟨tt, ⟨tt, ⟨tt, ⟨tt, ⟨⟨⟨(by first | omega | (rw [adr_eq]; omega) | exact iAnd_nn _ _ | exact iSub_nn _ _ | exact part1_le (by omega) (by first | omega | (simp only [List.length_append]; omega)) | decide), (rfl)⟩, trivial⟩, ⟨tt, ⟨tt, ⟨⟨⟨(by first | omega | (rw [adr_eq]; omega) | exact iAnd_nn _ _ | exact iSub_nn _ _ | exact part1_le (by omega) (by first | omega | (simp only [List.length_append]; omega)) | decide), (rfl)⟩, trivial⟩, trivial⟩⟩⟩⟩⟩⟩⟩⟩) ?_
    change Tri _ _ _ _ _ _
    refine Tri.seq_region [] none [4] [0] (TT ∧ True)
        ([(4, .sc (.nils))], [(0, .cells [.nils, .b true])])
        480 (by kernel_rfl) rfl (by kernel_rfl) (⟨tt, trivial⟩) ?_
    refine Tri.sub (Sub.nilCell (l := [.nils, .b true]) 0 0 .u8 (by kernel_rfl) (by kernel_rfl)) ?_
    refine Tri.ret ?_
    repeat (first | refine thenP_ret ?_ | refine blkP_ret ?_ | refine countP_ret ?_ | refine joinP_ret ?_ | refine iterP_ret ?_)
    exact endP.ret [(0, 0)] TT (by kernel_rfl) (by kernel_rfl) tt




noncomputable def SwtakeBad : List AV → List Blk → Option (Prop × Ret)
  | [.sc (.p 0 0), .sc (.i .i64 p2)], [.cells [.ro .u8 p0, .b p1]] => some (((p1 = true) ∧ True), ⟨.sc (.nils), [some (.cells [.ro .u8 ([] : List Int), .b true])]⟩)
  | _, _ => none

noncomputable def BwtakeBad : Bs := { P := Go.Proofs.Try.prog, G := noG, tab := tabOf [], n := 48 }

theorem BwtakeBad.ok : BwtakeBad.Ok := ⟨tabOk (P := Go.Proofs.Try.prog) (G := noG) (l := []) True.intro, mixed⟩

theorem KwtakeBad : Known Go.Proofs.Try.prog noG 42 ⟨1, 0, SwtakeBad⟩ := by
  refine Known.walk (B := BwtakeBad) (fn := Go.Proofs.Try.f42) BwtakeBad.ok (by kernel_rfl) rfl (by kernel_rfl) (by kernel_rfl) (by decide) (by decide) ?_
  · intro E args ks C r h hC hlen
    simp only at h
    unfold SwtakeBad at h
    split at h
    rotate_left
    · cases h
    rename_i p2 p0 p1
    cases h
    simp only [lens] at hlen
    have hG0 := hC.1
    have hC := hC.2
    refine ⟨show 2 ≤ 48 from by decide, ?_⟩
    refine Tri.sub (Sub.of_eq (show _ = ([(0, .sc (.p 0 0)), (1, .sc (.i .i64 p2))], [(0, .cells [.ro .u8 p0, .b p1])]) from rfl)) ?_
    refine Tri.seq_region [] none [0, 1] [0] (TT ∧ True)
        ([(0, .sc (.p 0 0)), (1, .sc (.i .i64 p2))], [(0, .cells [.ro .u8 p0, .b p1])])
        32 (by kernel_rfl) rfl (by kernel_rfl) (⟨tt, trivial⟩) ?_
    refine Tri.seq ?_
    refine Tri.seq_region [(14, qb true)] none [22, 0, 1] [0] (TT ∧ (TT ∧ (TT ∧ (TT ∧ (TT ∧ (TT ∧ (((1 < 2) ∧ True) ∧ (TT ∧ ((True ∧ (p1 = true)) ∧ (TT ∧ (TT ∧ (TT ∧ (TT ∧ (TT ∧ (TT ∧ (TT ∧ (TT ∧ True)))))))))))))))))
        ([(22, .sc (.b true)), (0, .sc (.p 0 0)), (1, .sc (.i .i64 p2))], [(0, .cells [.ro .u8 p0, .b p1])])
        304 (by kernel_rfl) rfl (by kernel_rfl) (⟨tt, ⟨tt, ⟨tt, ⟨tt, ⟨tt, ⟨tt, ⟨⟨(by first | omega | (rw [adr_eq]; omega) | exact iAnd_nn _ _ | exact iSub_nn _ _ | exact part1_le (by omega) (by first | omega | (simp only [List.length_append]; omega)) | decide), trivial⟩, ⟨tt, ⟨⟨trivial, (hG0)⟩, ⟨tt, ⟨tt, ⟨tt, ⟨tt, ⟨tt, ⟨tt, ⟨tt, ⟨tt, trivial⟩⟩⟩⟩⟩⟩⟩⟩⟩⟩⟩⟩⟩⟩⟩⟩⟩) ?_
    refine Tri.cond_true (by kernel_rfl) ?_
    refine Tri.seq ?_
    refine Tri.seq_region [] none [24, 0] [0] (TT ∧ (TT ∧ True))
        ([(24, .sc (.b true)), (0, .sc (.p 0 0))], [(0, .cells [.ro .u8 p0, .b p1])])
        336 (by kernel_rfl) rfl (by kernel_rfl) (⟨tt, ⟨tt, trivial⟩⟩) ?_
    refine Tri.cond_true (by kernel_rfl) ?_
    refine Tri.region' [] none [] [0] (TT ∧ (TT ∧ (TT ∧ (TT ∧ ((((1 < 2) ∧ (1 = 1)) ∧ True) ∧ (TT ∧ (TT ∧ ((((0 < 2) ∧ (1 = 1)) ∧ True) ∧ True))))))))
        ([], [(0, .cells [.nils, .b true])])
        464 (by kernel_rfl) rfl (by kernel_rfl) (⟨tt, ⟨tt, ⟨tt, ⟨tt, ⟨⟨⟨(by first | omega | (rw [adr_eq]; omega) | exact iAnd_nn _ _ | exact iSub_nn _ _ | exact part1_le (by omega) (by first | omega | (simp only [List.length_append]; omega)) | decide), (rfl)⟩, trivial⟩, ⟨tt, ⟨tt, ⟨⟨⟨(by first | omega | (rw [adr_eq]; omega) | exact iAnd_nn _ _ | exact iSub_nn _ _ | exact part1_le (by omega) (by first | omega | (simp only [List.length_append]; omega)) | decide), (rfl)⟩, trivial⟩, trivial⟩⟩⟩⟩⟩⟩⟩⟩) ?_
    change Tri _ _ _ _ _ _
    refine Tri.seq_region [] none [4] [0] (TT ∧ True)
        ([(4, .sc (.nils))], [(0, .cells [.nils, .b true])])
        480 (by kernel_rfl) rfl (by kernel_rfl) (⟨tt, trivial⟩) ?_
    refine Tri.sub (Sub.nilCell (l := [.nils, .b true]) 0 0 .u8 (by kernel_rfl) (by kernel_rfl)) ?_
    refine Tri.ret ?_
    repeat (first | refine thenP_ret ?_ | refine blkP_ret ?_ | refine countP_ret ?_ | refine joinP_ret ?_ | refine iterP_ret ?_)
    exact endP.ret [(0, 0)] TT (by kernel_rfl) (by kernel_rfl) tt




noncomputable def FwtakeF (p0 : List Int) (p1 : Bool) (p2 : Int) : List Int :=
  (sel p1 ([] : List Int) (sel (decide ((p2 : Int) > ((p0.length : Nat) : Int))) ([] : List Int) ((p0.drop 0).take (((p2).toNat) - 0))))

noncomputable def FwtakeF_1 (p0 : List Int) (p1 : Bool) (p2 : Int) : List Int :=
  (sel p1 ([] : List Int) (sel (decide ((p2 : Int) > ((p0.length : Nat) : Int))) ([] : List Int) ((p0.drop ((p2).toNat)).take (p0.length - ((p2).toNat)))))

noncomputable def FwtakeF_2 (p0 : List Int) (p1 : Bool) (p2 : Int) : Bool :=
  (sel p1 true (sel (decide ((p2 : Int) > ((p0.length : Nat) : Int))) true p1))

noncomputable def SwtakeF : List AV → List Blk → Option (Prop × Ret)
  | [.sc (.p 0 0), .sc (.i .i64 p2)], [.cells [.ro .u8 p0, .b p1]] => some (((0 : Int) ≤ p2), ⟨.sc (.ro .u8 (FwtakeF p0 p1 p2)), [some (.cells [.ro .u8 (FwtakeF_1 p0 p1 p2), .b (FwtakeF_2 p0 p1 p2)])]⟩)
  | _, _ => none

noncomputable def BwtakeF : Bs := { P := Go.Proofs.Try.prog, G := noG, tab := tabOf [], n := 48 }

theorem BwtakeF.ok : BwtakeF.Ok := ⟨tabOk (P := Go.Proofs.Try.prog) (G := noG) (l := []) True.intro, mixed⟩

theorem KwtakeF : Known Go.Proofs.Try.prog noG 42 ⟨1, 0, SwtakeF⟩ := by
  refine Known.walk (B := BwtakeF) (fn := Go.Proofs.Try.f42) BwtakeF.ok (by kernel_rfl) rfl (by kernel_rfl) (by kernel_rfl) (by decide) (by decide) ?_
  · intro E args ks C r h hC hlen
    simp only at h
    unfold SwtakeF at h
    split at h
    rotate_left
    · cases h
    rename_i p2 p0 p1
    cases h
    simp only [lens] at hlen
    refine ⟨show 2 ≤ 48 from by decide, ?_⟩
    refine Tri.sub (Sub.of_eq (show _ = ([(0, .sc (.p 0 0)), (1, .sc (.i .i64 p2))], [(0, .cells [.ro .u8 p0, .b p1])]) from rfl)) ?_
    refine Tri.seq_region [] none [0, 1] [0] (TT ∧ True)
        ([(0, .sc (.p 0 0)), (1, .sc (.i .i64 p2))], [(0, .cells [.ro .u8 p0, .b p1])])
        32 (by kernel_rfl) rfl (by kernel_rfl) (⟨tt, trivial⟩) ?_
    refine Tri.seq ?_
    refine Tri.split p1 (fun h1 => ?_) (fun h1 => ?_)
    ·
      refine Tri.seq_region [(14, qb true)] none [22, 0, 1] [0] (TT ∧ (TT ∧ (TT ∧ (TT ∧ (TT ∧ (TT ∧ (((1 < 2) ∧ True) ∧ (TT ∧ ((True ∧ (p1 = true)) ∧ (TT ∧ (TT ∧ (TT ∧ (TT ∧ (TT ∧ (TT ∧ (TT ∧ (TT ∧ True)))))))))))))))))
          ([(22, .sc (.b true)), (0, .sc (.p 0 0)), (1, .sc (.i .i64 p2))], [(0, .cells [.ro .u8 p0, .b p1])])
          304 (by kernel_rfl) rfl (by kernel_rfl) (⟨tt, ⟨tt, ⟨tt, ⟨tt, ⟨tt, ⟨tt, ⟨⟨(by first | omega | (rw [adr_eq]; omega) | exact iAnd_nn _ _ | exact iSub_nn _ _ | exact part1_le (by omega) (by first | omega | (simp only [List.length_append]; omega)) | decide), trivial⟩, ⟨tt, ⟨⟨trivial, (h1)⟩, ⟨tt, ⟨tt, ⟨tt, ⟨tt, ⟨tt, ⟨tt, ⟨tt, ⟨tt, trivial⟩⟩⟩⟩⟩⟩⟩⟩⟩⟩⟩⟩⟩⟩⟩⟩⟩) ?_
      refine Tri.cond_true (by kernel_rfl) ?_
      refine Tri.seq ?_
      refine Tri.seq_region [] none [24, 0] [0] (TT ∧ (TT ∧ True))
          ([(24, .sc (.b true)), (0, .sc (.p 0 0))], [(0, .cells [.ro .u8 p0, .b p1])])
          336 (by kernel_rfl) rfl (by kernel_rfl) (⟨tt, ⟨tt, trivial⟩⟩) ?_
      refine Tri.cond_true (by kernel_rfl) ?_
      refine Tri.region' [] none [] [0] (TT ∧ (TT ∧ (TT ∧ (TT ∧ ((((1 < 2) ∧ (1 = 1)) ∧ True) ∧ (TT ∧ (TT ∧ ((((0 < 2) ∧ (1 = 1)) ∧ True) ∧ True))))))))
          ([], [(0, .cells [.nils, .b true])])
          464 (by kernel_rfl) rfl (by kernel_rfl) (⟨tt, ⟨tt, ⟨tt, ⟨tt, ⟨⟨⟨(by first | omega | (rw [adr_eq]; omega) | exact iAnd_nn _ _ | exact iSub_nn _ _ | exact part1_le (by omega) (by first | omega | (simp only [List.length_append]; omega)) | decide), (rfl)⟩, trivial⟩, ⟨tt, ⟨tt, ⟨⟨⟨(by first | omega | (rw [adr_eq]; omega) | exact iAnd_nn _ _ | exact iSub_nn _ _ | exact part1_le (by omega) (by first | omega | (simp only [List.length_append]; omega)) | decide), (rfl)⟩, trivial⟩, trivial⟩⟩⟩⟩⟩⟩⟩⟩) ?_
      change Tri _ _ _ _ _ _
      refine Tri.seq_region [] none [4] [0] (TT ∧ True)
          ([(4, .sc (.nils))], [(0, .cells [.nils, .b true])])
          480 (by kernel_rfl) rfl (by kernel_rfl) (⟨tt, trivial⟩) ?_
      refine Tri.sub (Sub.nilRo 4 .u8 (by kernel_rfl)) ?_
      refine Tri.sub (Sub.nilCell (l := [.nils, .b true]) 0 0 .u8 (by kernel_rfl) (by kernel_rfl)) ?_
      refine Tri.ret ?_
      repeat (first | refine thenP_ret ?_ | refine blkP_ret ?_ | refine countP_ret ?_ | refine joinP_ret ?_ | refine iterP_ret ?_)
      refine endP.conv (r' := ⟨.sc (.ro .u8 ([] : List Int)), [some (.cells [.ro .u8 ([] : List Int), .b true])]⟩) (by simp only [FwtakeF, FwtakeF_1, FwtakeF_2, h1, sel_true, sel_false]) ?_
      exact endP.ret [(0, 0)] TT (by kernel_rfl) (by kernel_rfl) tt
    ·
      refine Tri.seq_region [(14, qb false)] none [22, 0, 1] [0] (TT ∧ (TT ∧ (TT ∧ (TT ∧ (TT ∧ (TT ∧ (((1 < 2) ∧ True) ∧ (TT ∧ ((True ∧ (p1 = false)) ∧ (TT ∧ (TT ∧ (TT ∧ (TT ∧ (((0 < 2) ∧ True) ∧ (TT ∧ (TT ∧ (TT ∧ True)))))))))))))))))
          ([(22, .sc (.b (decide ((p2 : Int) > ((p0.length : Nat) : Int))))), (0, .sc (.p 0 0)), (1, .sc (.i .i64 p2))], [(0, .cells [.ro .u8 p0, .b p1])])
          304 (by kernel_rfl) rfl (by kernel_rfl) (⟨tt, ⟨tt, ⟨tt, ⟨tt, ⟨tt, ⟨tt, ⟨⟨(by first | omega | (rw [adr_eq]; omega) | exact iAnd_nn _ _ | exact iSub_nn _ _ | exact part1_le (by omega) (by first | omega | (simp only [List.length_append]; omega)) | decide), trivial⟩, ⟨tt, ⟨⟨trivial, (h1)⟩, ⟨tt, ⟨tt, ⟨tt, ⟨tt, ⟨⟨(by first | omega | (rw [adr_eq]; omega) | exact iAnd_nn _ _ | exact iSub_nn _ _ | exact part1_le (by omega) (by first | omega | (simp only [List.length_append]; omega)) | decide), trivial⟩, ⟨tt, ⟨tt, ⟨tt, trivial⟩⟩⟩⟩⟩⟩⟩⟩⟩⟩⟩⟩⟩⟩⟩⟩⟩) ?_
      refine Tri.cond (x := (decide ((p2 : Int) > ((p0.length : Nat) : Int)))) (by kernel_rfl) (fun h2 => ?_) (fun h2 => ?_)
      ·
        have h2' := of_decide_eq_true h2
        refine Tri.seq ?_
        refine Tri.seq_region [] none [24, 0] [0] (TT ∧ (TT ∧ True))
            ([(24, .sc (.b true)), (0, .sc (.p 0 0))], [(0, .cells [.ro .u8 p0, .b p1])])
            336 (by kernel_rfl) rfl (by kernel_rfl) (⟨tt, ⟨tt, trivial⟩⟩) ?_
        refine Tri.cond_true (by kernel_rfl) ?_
        refine Tri.region' [] none [] [0] (TT ∧ (TT ∧ (TT ∧ (TT ∧ ((((1 < 2) ∧ (1 = 1)) ∧ True) ∧ (TT ∧ (TT ∧ ((((0 < 2) ∧ (1 = 1)) ∧ True) ∧ True))))))))
            ([], [(0, .cells [.nils, .b true])])
            464 (by kernel_rfl) rfl (by kernel_rfl) (⟨tt, ⟨tt, ⟨tt, ⟨tt, ⟨⟨⟨(by first | omega | (rw [adr_eq]; omega) | exact iAnd_nn _ _ | exact iSub_nn _ _ | exact part1_le (by omega) (by first | omega | (simp only [List.length_append]; omega)) | decide), (rfl)⟩, trivial⟩, ⟨tt, ⟨tt, ⟨⟨⟨(by first | omega | (rw [adr_eq]; omega) | exact iAnd_nn _ _ | exact iSub_nn _ _ | exact part1_le (by omega) (by first | omega | (simp only [List.length_append]; omega)) | decide), (rfl)⟩, trivial⟩, trivial⟩⟩⟩⟩⟩⟩⟩⟩) ?_
        change Tri _ _ _ _ _ _
        refine Tri.seq_region [] none [4] [0] (TT ∧ True)
            ([(4, .sc (.nils))], [(0, .cells [.nils, .b true])])
            480 (by kernel_rfl) rfl (by kernel_rfl) (⟨tt, trivial⟩) ?_
        refine Tri.sub (Sub.nilRo 4 .u8 (by kernel_rfl)) ?_
        refine Tri.sub (Sub.nilCell (l := [.nils, .b true]) 0 0 .u8 (by kernel_rfl) (by kernel_rfl)) ?_
        refine Tri.ret ?_
        repeat (first | refine thenP_ret ?_ | refine blkP_ret ?_ | refine countP_ret ?_ | refine joinP_ret ?_ | refine iterP_ret ?_)
        refine endP.conv (r' := ⟨.sc (.ro .u8 ([] : List Int)), [some (.cells [.ro .u8 ([] : List Int), .b true])]⟩) (by simp only [FwtakeF, FwtakeF_1, FwtakeF_2, h1, h2, sel_true, sel_false]) ?_
        exact endP.ret [(0, 0)] TT (by kernel_rfl) (by kernel_rfl) tt
      ·
        have h2' := of_decide_eq_false h2
        refine Tri.skip ?_
        change Tri _ _ _ _ _ _
        refine Tri.seq_region [] none [5, 0, 1] [0] (TT ∧ (TT ∧ (TT ∧ (((0 < 2) ∧ True) ∧ (TT ∧ (TT ∧ ((((0 : Int) ≤ 0 ∧ (0 : Int) ≤ p2 ∧ (p2 : Int) ≤ p2 ∧ (p2 : Int) ≤ (p0.length : Int)) ∧ True) ∧ (TT ∧ True))))))))
            ([(5, .sc (.ro .u8 ((p0.drop 0).take (((p2).toNat) - 0)))), (0, .sc (.p 0 0)), (1, .sc (.i .i64 p2))], [(0, .cells [.ro .u8 p0, .b p1])])
            432 (by kernel_rfl) rfl (by kernel_rfl) (⟨tt, ⟨tt, ⟨tt, ⟨⟨(by first | omega | (rw [adr_eq]; omega) | exact iAnd_nn _ _ | exact iSub_nn _ _ | exact part1_le (by omega) (by first | omega | (simp only [List.length_append]; omega)) | decide), trivial⟩, ⟨tt, ⟨tt, ⟨⟨(by first | omega | (rw [adr_eq]; omega) | exact iAnd_nn _ _ | exact iSub_nn _ _ | exact part1_le (by omega) (by first | omega | (simp only [List.length_append]; omega)) | decide), trivial⟩, ⟨tt, trivial⟩⟩⟩⟩⟩⟩⟩⟩) ?_
        refine Tri.seq_region [] none [5] [0] (TT ∧ (TT ∧ (TT ∧ (TT ∧ (((0 < 2) ∧ True) ∧ (TT ∧ ((((0 : Int) ≤ p2 ∧ (p2 : Int) ≤ ((p0.length : Nat) : Int) ∧ ((p0.length : Nat) : Int) ≤ (p0.length : Int)) ∧ True) ∧ (TT ∧ (TT ∧ ((((0 < 2) ∧ (1 = 1)) ∧ True) ∧ True))))))))))
            ([(5, .sc (.ro .u8 ((p0.drop 0).take (((p2).toNat) - 0))))], [(0, .cells [.ro .u8 ((p0.drop ((p2).toNat)).take (p0.length - ((p2).toNat))), .b p1])])
            592 (by kernel_rfl) rfl (by kernel_rfl) (⟨tt, ⟨tt, ⟨tt, ⟨tt, ⟨⟨(by first | omega | (rw [adr_eq]; omega) | exact iAnd_nn _ _ | exact iSub_nn _ _ | exact part1_le (by omega) (by first | omega | (simp only [List.length_append]; omega)) | decide), trivial⟩, ⟨tt, ⟨⟨(by first | omega | (rw [adr_eq]; omega) | exact iAnd_nn _ _ | exact iSub_nn _ _ | exact part1_le (by omega) (by first | omega | (simp only [List.length_append]; omega)) | decide), trivial⟩, ⟨tt, ⟨tt, ⟨⟨⟨(by first | omega | (rw [adr_eq]; omega) | exact iAnd_nn _ _ | exact iSub_nn _ _ | exact part1_le (by omega) (by first | omega | (simp only [List.length_append]; omega)) | decide), (rfl)⟩, trivial⟩, trivial⟩⟩⟩⟩⟩⟩⟩⟩⟩⟩) ?_
        refine Tri.seq_region [] none [4] [0] (TT ∧ (TT ∧ True))
            ([(4, .sc (.ro .u8 ((p0.drop 0).take (((p2).toNat) - 0))))], [(0, .cells [.ro .u8 ((p0.drop ((p2).toNat)).take (p0.length - ((p2).toNat))), .b p1])])
            624 (by kernel_rfl) rfl (by kernel_rfl) (⟨tt, ⟨tt, trivial⟩⟩) ?_
        refine Tri.ret ?_
        repeat (first | refine thenP_ret ?_ | refine blkP_ret ?_ | refine countP_ret ?_ | refine joinP_ret ?_ | refine iterP_ret ?_)
        refine endP.conv (r' := ⟨.sc (.ro .u8 ((p0.drop 0).take (((p2).toNat) - 0))), [some (.cells [.ro .u8 ((p0.drop ((p2).toNat)).take (p0.length - ((p2).toNat))), .b p1])]⟩) (by simp only [FwtakeF, FwtakeF_1, FwtakeF_2, h1, h2, sel_true, sel_false]) ?_
        exact endP.ret [(0, 0)] TT (by kernel_rfl) (by kernel_rfl) tt

theorem le_FwtakeF (p0 : List Int) (p1 : Bool) (p2 : Int) : (FwtakeF p0 p1 p2).length ≤ p2.toNat := by
  unfold FwtakeF
  cases p1
  · simp only [sel_false]
    cases (decide ((p2 : Int) > ((p0.length : Nat) : Int)))
    · simp only [sel_false, List.length_take, List.length_drop]; omega
    · simp only [sel_true, List.length_nil]; omega
  · simp only [sel_true, List.length_nil]; omega


noncomputable def FwByte (p0 : List Int) (p1 : Bool) : Int :=
  (sel p1 0 (sel (decide ((1 : Int) > ((p0.length : Nat) : Int))) 0 ((FwtakeOk p0 p1 1).getD 0 0)))

noncomputable def FwByte_1 (p0 : List Int) (p1 : Bool) : List Int :=
  (sel p1 ([] : List Int) (sel (decide ((1 : Int) > ((p0.length : Nat) : Int))) ([] : List Int) (FwtakeOk_1 p0 p1 1)))

noncomputable def FwByte_2 (p0 : List Int) (p1 : Bool) : Bool :=
  (sel p1 true (sel (decide ((1 : Int) > ((p0.length : Nat) : Int))) true p1))

noncomputable def SwByte : List AV → List Blk → Option (Prop × Ret)
  | [.sc (.p 0 0)], [.cells [.ro .u8 p0, .b p1]] => some (True, ⟨.sc (.i .u8 (FwByte p0 p1)), [some (.cells [.ro .u8 (FwByte_1 p0 p1), .b (FwByte_2 p0 p1)])]⟩)
  | _, _ => none

noncomputable def BwByte : Bs := { P := Go.Proofs.Try.prog, G := noG, tab := tabOf [⟨42, 48, [.io, .val], [], [0], ⟨1, 0, SwtakeBad⟩, false⟩, ⟨42, 144, [.io, .val], [], [0], ⟨1, 0, SwtakeNo⟩, false⟩, ⟨42, 240, [.io, .val], [], [0], ⟨1, 0, SwtakeOk⟩, false⟩], n := 11 }

theorem BwByte.ok : BwByte.Ok := ⟨tabOk (P := Go.Proofs.Try.prog) (G := noG) (l := [⟨42, 48, [.io, .val], [], [0], ⟨1, 0, SwtakeBad⟩, false⟩, ⟨42, 144, [.io, .val], [], [0], ⟨1, 0, SwtakeNo⟩, false⟩, ⟨42, 240, [.io, .val], [], [0], ⟨1, 0, SwtakeOk⟩, false⟩]) (And.intro KwtakeBad (And.intro KwtakeNo (And.intro KwtakeOk True.intro))), mixed⟩

theorem KwByte : Known Go.Proofs.Try.prog noG 32 ⟨1, 0, SwByte⟩ := by
  refine Known.walk (B := BwByte) (fn := Go.Proofs.Try.f32) BwByte.ok (by kernel_rfl) rfl (by kernel_rfl) (by kernel_rfl) (by decide) (by decide) ?_
  · intro E args ks C r h hC hlen
    simp only at h
    unfold SwByte at h
    split at h
    rotate_left
    · cases h
    rename_i p0 p1
    cases h
    simp only [lens] at hlen
    refine ⟨show 1 ≤ 11 from by decide, ?_⟩
    refine Tri.sub (Sub.of_eq (show _ = ([(0, .sc (.p 0 0))], [(0, .cells [.ro .u8 p0, .b p1])]) from rfl)) ?_
    refine Tri.seq_region [] none [0] [0] (TT ∧ True)
        ([(0, .sc (.p 0 0))], [(0, .cells [.ro .u8 p0, .b p1])])
        32 (by kernel_rfl) rfl (by kernel_rfl) (⟨tt, trivial⟩) ?_
    refine Tri.seq ?_
    refine Tri.split p1 (fun h1 => ?_) (fun h1 => ?_)
    ·
      refine Tri.seq_region [] none [3] [0] (TT ∧ (((True ∧ ((p1 = true) ∧ True)) ∧ True) ∧ (TT ∧ True)))
          ([(3, .sc (.nils))], [(0, .cells [.ro .u8 ([] : List Int), .b true])])
          80 (by kernel_rfl) rfl (by kernel_rfl) (⟨tt, ⟨⟨⟨trivial, ⟨(h1), trivial⟩⟩, trivial⟩, ⟨tt, trivial⟩⟩⟩) ?_
      refine Tri.seq_region [] none [7, 3] [0] (TT ∧ (TT ∧ True))
          ([(7, .sc (.b false)), (3, .sc (.nils))], [(0, .cells [.ro .u8 ([] : List Int), .b true])])
          112 (by kernel_rfl) rfl (by kernel_rfl) (⟨tt, ⟨tt, trivial⟩⟩) ?_
      refine Tri.cond_false (by kernel_rfl) ?_
      refine Tri.skip ?_
      change Tri _ _ _ _ _ _
      refine Tri.seq_region [] none [2] [0] (TT ∧ True)
          ([(2, .sc (.i .u8 0))], [(0, .cells [.ro .u8 ([] : List Int), .b true])])
          128 (by kernel_rfl) rfl (by kernel_rfl) (⟨tt, trivial⟩) ?_
      refine Tri.ret ?_
      repeat (first | refine thenP_ret ?_ | refine blkP_ret ?_ | refine countP_ret ?_ | refine joinP_ret ?_ | refine iterP_ret ?_)
      refine endP.conv (r' := ⟨.sc (.i .u8 0), [some (.cells [.ro .u8 ([] : List Int), .b true])]⟩) (by simp only [FwByte, FwByte_1, FwByte_2, h1, sel_true, sel_false]) ?_
      exact endP.ret [(0, 0)] TT (by kernel_rfl) (by kernel_rfl) tt
    ·
      refine Tri.sub (Sub.up (U' := 128) (by decide)) ?_
      refine Tri.split (decide ((1 : Int) > ((p0.length : Nat) : Int))) (fun h2 => ?_) (fun h2 => ?_)
      ·
        have h2' := of_decide_eq_true h2
        refine Tri.seq_region [] none [3] [0] (TT ∧ (((True ∧ ((p1 = false) ∧ (((decide ((1 : Int) > ((p0.length : Nat) : Int))) = true) ∧ True))) ∧ True) ∧ (TT ∧ True)))
            ([(3, .sc (.nils))], [(0, .cells [.ro .u8 ([] : List Int), .b true])])
            176 (by kernel_rfl) rfl (by kernel_rfl) (⟨tt, ⟨⟨⟨trivial, ⟨(h1), ⟨(h2), trivial⟩⟩⟩, trivial⟩, ⟨tt, trivial⟩⟩⟩) ?_
        refine Tri.seq_region [] none [7, 3] [0] (TT ∧ (TT ∧ True))
            ([(7, .sc (.b false)), (3, .sc (.nils))], [(0, .cells [.ro .u8 ([] : List Int), .b true])])
            208 (by kernel_rfl) rfl (by kernel_rfl) (⟨tt, ⟨tt, trivial⟩⟩) ?_
        refine Tri.cond_false (by kernel_rfl) ?_
        refine Tri.skip ?_
        change Tri _ _ _ _ _ _
        refine Tri.seq_region [] none [2] [0] (TT ∧ True)
            ([(2, .sc (.i .u8 0))], [(0, .cells [.ro .u8 ([] : List Int), .b true])])
            224 (by kernel_rfl) rfl (by kernel_rfl) (⟨tt, trivial⟩) ?_
        refine Tri.ret ?_
        repeat (first | refine thenP_ret ?_ | refine blkP_ret ?_ | refine countP_ret ?_ | refine joinP_ret ?_ | refine iterP_ret ?_)
        refine endP.conv (r' := ⟨.sc (.i .u8 0), [some (.cells [.ro .u8 ([] : List Int), .b true])]⟩) (by simp only [FwByte, FwByte_1, FwByte_2, h1, h2, sel_true, sel_false]) ?_
        exact endP.ret [(0, 0)] TT (by kernel_rfl) (by kernel_rfl) tt
      ·
        have h2' := of_decide_eq_false h2
        refine Tri.sub (Sub.up (U' := 224) (by decide)) ?_
        refine Tri.seq_region [] none [3] [0] (TT ∧ (((True ∧ ((p1 = false) ∧ (((decide ((1 : Int) > ((p0.length : Nat) : Int))) = false) ∧ ((0 : Int) ≤ 1)))) ∧ True) ∧ (TT ∧ True)))
            ([(3, .sc (.ro .u8 (FwtakeOk p0 p1 1)))], [(0, .cells [.ro .u8 (FwtakeOk_1 p0 p1 1), .b p1])])
            272 (by kernel_rfl) rfl (by kernel_rfl) (⟨tt, ⟨⟨⟨trivial, ⟨(h1), ⟨(h2), (by first | omega | (have hq := len_FwtakeOk (p0 := p0) (p1 := p1) (p2 := 1) (by assumption) (by decide); omega) | decide)⟩⟩⟩, trivial⟩, ⟨tt, trivial⟩⟩⟩) ?_
        refine Tri.seq_region [] none [7, 3] [0] (TT ∧ (((0 < (FwtakeOk p0 p1 1).length) ∧ True) ∧ True))
            ([(7, .sc (.b true)), (3, .sc (.ro .u8 (FwtakeOk p0 p1 1)))], [(0, .cells [.ro .u8 (FwtakeOk_1 p0 p1 1), .b p1])])
            304 (by kernel_rfl) rfl (by kernel_rfl) (⟨tt, ⟨⟨(by first | omega | (have hq := len_FwtakeOk (p0 := p0) (p1 := p1) (p2 := 1) (by assumption) (by decide); omega) | decide), trivial⟩, trivial⟩⟩) ?_
        refine Tri.cond_true (by kernel_rfl) ?_
        refine Tri.seq_region [] none [2] [0] (TT ∧ ((((0 : Int) ≤ 0 ∧ 0 < ((FwtakeOk p0 p1 1).length : Int)) ∧ True) ∧ (((0 < (FwtakeOk p0 p1 1).length) ∧ True) ∧ (TT ∧ True))))
            ([(2, .sc (.i .u8 ((FwtakeOk p0 p1 1).getD 0 0)))], [(0, .cells [.ro .u8 (FwtakeOk_1 p0 p1 1), .b p1])])
            368 (by kernel_rfl) rfl (by kernel_rfl) (⟨tt, ⟨⟨(by first | omega | (have hq := len_FwtakeOk (p0 := p0) (p1 := p1) (p2 := 1) (by assumption) (by decide); omega) | decide), trivial⟩, ⟨⟨(by first | omega | (have hq := len_FwtakeOk (p0 := p0) (p1 := p1) (p2 := 1) (by assumption) (by decide); omega) | decide), trivial⟩, ⟨tt, trivial⟩⟩⟩⟩) ?_
        refine Tri.ret ?_
        repeat (first | refine thenP_ret ?_ | refine blkP_ret ?_ | refine countP_ret ?_ | refine joinP_ret ?_ | refine iterP_ret ?_)
        refine endP.conv (r' := ⟨.sc (.i .u8 ((FwtakeOk p0 p1 1).getD 0 0)), [some (.cells [.ro .u8 (FwtakeOk_1 p0 p1 1), .b p1])]⟩) (by simp only [FwByte, FwByte_1, FwByte_2, h1, h2, sel_true, sel_false]) ?_
        exact endP.ret [(0, 0)] TT (by kernel_rfl) (by kernel_rfl) tt




noncomputable def FwFlag (p0 : List Int) (p1 : Bool) : Bool :=
  (((FwByte p0 p1) : Int) != 0)

noncomputable def FwFlag_1 (p0 : List Int) (p1 : Bool) : List Int :=
  (FwByte_1 p0 p1)

noncomputable def FwFlag_2 (p0 : List Int) (p1 : Bool) : Bool :=
  (FwByte_2 p0 p1)

noncomputable def SwFlag : List AV → List Blk → Option (Prop × Ret)
  | [.sc (.p 0 0)], [.cells [.ro .u8 p0, .b p1]] => some (True, ⟨.sc (.b (FwFlag p0 p1)), [some (.cells [.ro .u8 (FwFlag_1 p0 p1), .b (FwFlag_2 p0 p1)])]⟩)
  | _, _ => none

noncomputable def BwFlag : Bs := { P := Go.Proofs.Try.prog, G := noG, tab := tabOf [⟨32, 48, [.io], [], [0], ⟨1, 0, SwByte⟩, false⟩], n := 6 }

theorem BwFlag.ok : BwFlag.Ok := ⟨tabOk (P := Go.Proofs.Try.prog) (G := noG) (l := [⟨32, 48, [.io], [], [0], ⟨1, 0, SwByte⟩, false⟩]) (And.intro KwByte True.intro), mixed⟩

theorem KwFlag : Known Go.Proofs.Try.prog noG 46 ⟨1, 0, SwFlag⟩ := by
  refine Known.walk (B := BwFlag) (fn := Go.Proofs.Try.f46) BwFlag.ok (by kernel_rfl) rfl (by kernel_rfl) (by kernel_rfl) (by decide) (by decide) ?_
  · intro E args ks C r h hC hlen
    simp only at h
    unfold SwFlag at h
    split at h
    rotate_left
    · cases h
    rename_i p0 p1
    cases h
    simp only [lens] at hlen
    refine ⟨show 1 ≤ 6 from by decide, ?_⟩
    refine Tri.sub (Sub.of_eq (show _ = ([(0, .sc (.p 0 0))], [(0, .cells [.ro .u8 p0, .b p1])]) from rfl)) ?_
    refine Tri.seq_region [] none [0] [0] (TT ∧ True)
        ([(0, .sc (.p 0 0))], [(0, .cells [.ro .u8 p0, .b p1])])
        32 (by kernel_rfl) rfl (by kernel_rfl) (⟨tt, trivial⟩) ?_
    refine Tri.seq_region [] none [2] [0] (TT ∧ ((TT ∧ True) ∧ (TT ∧ (TT ∧ True))))
        ([(2, .sc (.b (((FwByte p0 p1) : Int) != 0)))], [(0, .cells [.ro .u8 (FwByte_1 p0 p1), .b (FwByte_2 p0 p1)])])
        96 (by kernel_rfl) rfl (by kernel_rfl) (⟨tt, ⟨⟨tt, trivial⟩, ⟨tt, ⟨tt, trivial⟩⟩⟩⟩) ?_
    refine Tri.ret ?_
    repeat (first | refine thenP_ret ?_ | refine blkP_ret ?_ | refine countP_ret ?_ | refine joinP_ret ?_ | refine iterP_ret ?_)
    exact endP.ret [(0, 0)] TT (by kernel_rfl) (by kernel_rfl) tt




noncomputable def FwOk (p0 : List Int) (p1 : Bool) : Bool :=
  (!p1)

noncomputable def SwOk : List AV → List Blk → Option (Prop × Ret)
  | [.sc (.p 0 0)], [.cells [.ro .u8 p0, .b p1]] => some (True, ⟨.sc (.b (FwOk p0 p1)), [some (.cells [.ro .u8 p0, .b p1])]⟩)
  | _, _ => none

noncomputable def BwOk : Bs := { P := Go.Proofs.Try.prog, G := noG, tab := tabOf [], n := 12 }

theorem BwOk.ok : BwOk.Ok := ⟨tabOk (P := Go.Proofs.Try.prog) (G := noG) (l := []) True.intro, mixed⟩

theorem KwOk : Known Go.Proofs.Try.prog noG 36 ⟨1, 0, SwOk⟩ := by
  refine Known.walk (B := BwOk) (fn := Go.Proofs.Try.f36) BwOk.ok (by kernel_rfl) rfl (by kernel_rfl) (by kernel_rfl) (by decide) (by decide) ?_
  · intro E args ks C r h hC hlen
    simp only at h
    unfold SwOk at h
    split at h
    rotate_left
    · cases h
    rename_i p0 p1
    cases h
    simp only [lens] at hlen
    refine ⟨show 1 ≤ 12 from by decide, ?_⟩
    refine Tri.sub (Sub.of_eq (show _ = ([(0, .sc (.p 0 0))], [(0, .cells [.ro .u8 p0, .b p1])]) from rfl)) ?_
    refine Tri.seq_region [] none [0] [0] (TT ∧ True)
        ([(0, .sc (.p 0 0))], [(0, .cells [.ro .u8 p0, .b p1])])
        32 (by kernel_rfl) rfl (by kernel_rfl) (⟨tt, trivial⟩) ?_
    refine Tri.seq_region [] none [2] [0] (TT ∧ (TT ∧ (TT ∧ (TT ∧ (TT ∧ (TT ∧ (((1 < 2) ∧ True) ∧ (TT ∧ (TT ∧ (TT ∧ True))))))))))
        ([(2, .sc (.b (!p1)))], [(0, .cells [.ro .u8 p0, .b p1])])
        192 (by kernel_rfl) rfl (by kernel_rfl) (⟨tt, ⟨tt, ⟨tt, ⟨tt, ⟨tt, ⟨tt, ⟨⟨(by first | omega | (rw [adr_eq]; omega) | exact iAnd_nn _ _ | exact iSub_nn _ _ | exact part1_le (by omega) (by first | omega | (simp only [List.length_append]; omega)) | decide), trivial⟩, ⟨tt, ⟨tt, ⟨tt, trivial⟩⟩⟩⟩⟩⟩⟩⟩⟩⟩) ?_
    refine Tri.ret ?_
    repeat (first | refine thenP_ret ?_ | refine blkP_ret ?_ | refine countP_ret ?_ | refine joinP_ret ?_ | refine iterP_ret ?_)
    exact endP.ret [(0, 0)] TT (by kernel_rfl) (by kernel_rfl) tt




noncomputable def FwEnd (p0 : List Int) (p1 : Bool) : Bool :=
  (sel (FwOk p0 p1) ((((p0.length : Nat) : Int) : Int) == 0) false)

noncomputable def SwEnd : List AV → List Blk → Option (Prop × Ret)
  | [.sc (.p 0 0)], [.cells [.ro .u8 p0, .b p1]] => some (True, ⟨.sc (.b (FwEnd p0 p1)), [some (.cells [.ro .u8 p0, .b p1])]⟩)
  | _, _ => none

noncomputable def BwEnd : Bs := { P := Go.Proofs.Try.prog, G := noG, tab := tabOf [⟨36, 48, [.io], [], [0], ⟨1, 0, SwOk⟩, false⟩], n := 13 }

theorem BwEnd.ok : BwEnd.Ok := ⟨tabOk (P := Go.Proofs.Try.prog) (G := noG) (l := [⟨36, 48, [.io], [], [0], ⟨1, 0, SwOk⟩, false⟩]) (And.intro KwOk True.intro), mixed⟩

theorem KwEnd : Known Go.Proofs.Try.prog noG 44 ⟨1, 0, SwEnd⟩ := by
  refine Known.walk (B := BwEnd) (fn := Go.Proofs.Try.f44) BwEnd.ok (by kernel_rfl) rfl (by kernel_rfl) (by kernel_rfl) (by decide) (by decide) ?_
  · intro E args ks C r h hC hlen
    simp only at h
    unfold SwEnd at h
    split at h
    rotate_left
    · cases h
    rename_i p0 p1
    cases h
    simp only [lens] at hlen
    refine ⟨show 1 ≤ 13 from by decide, ?_⟩
    refine Tri.sub (Sub.of_eq (show _ = ([(0, .sc (.p 0 0))], [(0, .cells [.ro .u8 p0, .b p1])]) from rfl)) ?_
    refine Tri.seq_region [] none [0] [0] (TT ∧ True)
        ([(0, .sc (.p 0 0))], [(0, .cells [.ro .u8 p0, .b p1])])
        32 (by kernel_rfl) rfl (by kernel_rfl) (⟨tt, trivial⟩) ?_
    refine Tri.split (FwOk p0 p1) (fun h1 => ?_) (fun h1 => ?_)
    ·
      refine Tri.seq_region [(5, qb true)] none [2] [0] (TT ∧ ((TT ∧ True) ∧ ((True ∧ ((FwOk p0 p1) = true)) ∧ (TT ∧ (TT ∧ (TT ∧ (((0 < 2) ∧ True) ∧ (TT ∧ (TT ∧ (TT ∧ (TT ∧ True)))))))))))
          ([(2, .sc (.b ((((p0.length : Nat) : Int) : Int) == 0)))], [(0, .cells [.ro .u8 p0, .b p1])])
          208 (by kernel_rfl) rfl (by kernel_rfl) (⟨tt, ⟨⟨tt, trivial⟩, ⟨⟨trivial, (h1)⟩, ⟨tt, ⟨tt, ⟨tt, ⟨⟨(by first | omega | (rw [adr_eq]; omega) | exact iAnd_nn _ _ | exact iSub_nn _ _ | exact part1_le (by omega) (by first | omega | (simp only [List.length_append]; omega)) | decide), trivial⟩, ⟨tt, ⟨tt, ⟨tt, ⟨tt, trivial⟩⟩⟩⟩⟩⟩⟩⟩⟩⟩⟩) ?_
      refine Tri.ret ?_
      repeat (first | refine thenP_ret ?_ | refine blkP_ret ?_ | refine countP_ret ?_ | refine joinP_ret ?_ | refine iterP_ret ?_)
      refine endP.conv (r' := ⟨.sc (.b ((((p0.length : Nat) : Int) : Int) == 0)), [some (.cells [.ro .u8 p0, .b p1])]⟩) (by simp only [FwEnd, h1, sel_true, sel_false]) ?_
      exact endP.ret [(0, 0)] TT (by kernel_rfl) (by kernel_rfl) tt
    ·
      refine Tri.seq_region [(5, qb false)] none [2] [0] (TT ∧ ((TT ∧ True) ∧ ((True ∧ ((FwOk p0 p1) = false)) ∧ (TT ∧ (TT ∧ (TT ∧ (TT ∧ (TT ∧ (TT ∧ (TT ∧ (TT ∧ True)))))))))))
          ([(2, .sc (.b false))], [(0, .cells [.ro .u8 p0, .b p1])])
          208 (by kernel_rfl) rfl (by kernel_rfl) (⟨tt, ⟨⟨tt, trivial⟩, ⟨⟨trivial, (h1)⟩, ⟨tt, ⟨tt, ⟨tt, ⟨tt, ⟨tt, ⟨tt, ⟨tt, ⟨tt, trivial⟩⟩⟩⟩⟩⟩⟩⟩⟩⟩⟩) ?_
      refine Tri.ret ?_
      repeat (first | refine thenP_ret ?_ | refine blkP_ret ?_ | refine countP_ret ?_ | refine joinP_ret ?_ | refine iterP_ret ?_)
      refine endP.conv (r' := ⟨.sc (.b false), [some (.cells [.ro .u8 p0, .b p1])]⟩) (by simp only [FwEnd, h1, sel_true, sel_false]) ?_
      exact endP.ret [(0, 0)] TT (by kernel_rfl) (by kernel_rfl) tt




noncomputable def FwU32l0 (p0 : List Int) (p1 : Bool) (k0 : Nat) (z0 : Int) : Int :=
  (iOr .u32 (iShl .u32 z0 8) (IntKind.wrap .u32 ((FwtakeF p0 p1 4).getD k0 0)))

noncomputable def FwU32 (p0 : List Int) (p1 : Bool) : Int :=
  (itr (FwU32l0 p0 p1) ((FwtakeF p0 p1 4).length) 0)

noncomputable def FwU32_1 (p0 : List Int) (p1 : Bool) : List Int :=
  (FwtakeF_1 p0 p1 4)

noncomputable def FwU32_2 (p0 : List Int) (p1 : Bool) : Bool :=
  (FwtakeF_2 p0 p1 4)

noncomputable def SwU32 : List AV → List Blk → Option (Prop × Ret)
  | [.sc (.p 0 0)], [.cells [.ro .u8 p0, .b p1]] => some (True, ⟨.sc (.i .u32 (FwU32 p0 p1)), [some (.cells [.ro .u8 (FwU32_1 p0 p1), .b (FwU32_2 p0 p1)])]⟩)
  | _, _ => none

noncomputable def BwU32 : Bs := { P := Go.Proofs.Try.prog, G := noG, tab := tabOf [⟨42, 64, [.io, .val], [], [0], ⟨1, 0, SwtakeF⟩, false⟩], n := 20 }

theorem BwU32.ok : BwU32.Ok := ⟨tabOk (P := Go.Proofs.Try.prog) (G := noG) (l := [⟨42, 64, [.io, .val], [], [0], ⟨1, 0, SwtakeF⟩, false⟩]) (And.intro KwtakeF True.intro), mixed⟩

theorem KwU32 : Known Go.Proofs.Try.prog noG 35 ⟨1, 0, SwU32⟩ := by
  refine Known.walk (B := BwU32) (fn := Go.Proofs.Try.f35) BwU32.ok (by kernel_rfl) rfl (by kernel_rfl) (by kernel_rfl) (by decide) (by decide) ?_
  · intro E args ks C r h hC hlen
    simp only at h
    unfold SwU32 at h
    split at h
    rotate_left
    · cases h
    rename_i p0 p1
    cases h
    simp only [lens] at hlen
    have hf0 : (FwtakeF p0 p1 4).length ≤ 4 := le_FwtakeF p0 p1 4
    refine ⟨show 1 ≤ 20 from by decide, ?_⟩
    refine Tri.sub (Sub.of_eq (show _ = ([(0, .sc (.p 0 0))], [(0, .cells [.ro .u8 p0, .b p1])]) from rfl)) ?_
    refine Tri.seq_region [] none [0] [0] (TT ∧ True)
        ([(0, .sc (.p 0 0))], [(0, .cells [.ro .u8 p0, .b p1])])
        32 (by kernel_rfl) rfl (by kernel_rfl) (⟨tt, trivial⟩) ?_
    refine Tri.seq_region [] none [3, 0] [0] (TT ∧ True)
        ([(3, .sc (.i .u32 0)), (0, .sc (.p 0 0))], [(0, .cells [.ro .u8 p0, .b p1])])
        48 (by kernel_rfl) rfl (by kernel_rfl) (⟨tt, trivial⟩) ?_
    refine Tri.seq ?_
    refine Tri.seq_region [] none [9, 8, 7, 3] [0] (TT ∧ (((True ∧ ((0 : Int) ≤ 4)) ∧ True) ∧ (TT ∧ (TT ∧ True))))
        ([(9, .sc (.i .i64 0)), (8, .sc (.i .i64 (((FwtakeF p0 p1 4).length : Nat) : Int))), (7, .sc (.ro .u8 (FwtakeF p0 p1 4))), (3, .sc (.i .u32 0))], [(0, .cells [.ro .u8 (FwtakeF_1 p0 p1 4), .b (FwtakeF_2 p0 p1 4)])])
        112 (by kernel_rfl) rfl (by kernel_rfl) (⟨tt, ⟨⟨⟨trivial, (by first | omega | (rw [adr_eq]; omega) | exact iAnd_nn _ _ | exact iSub_nn _ _ | exact part1_le (by omega) (by first | omega | (simp only [List.length_append]; omega)) | decide)⟩, trivial⟩, ⟨tt, ⟨tt, trivial⟩⟩⟩⟩) ?_
    refine Tri.block ?_
    refine Tri.count 112 ((FwtakeF p0 p1 4).length) (FwU32l0 p0 p1) 0 (fun k0 z0 => True) (fun k0 z0 => ([(9, .sc (.i .i64 ((k0 : Nat) : Int))), (8, .sc (.i .i64 (((FwtakeF p0 p1 4).length : Nat) : Int))), (7, .sc (.ro .u8 (FwtakeF p0 p1 4))), (3, .sc (.i .u32 z0))], [(0, .cells [.ro .u8 (FwtakeF_1 p0 p1 4), .b (FwtakeF_2 p0 p1 4)])])) trivial (Sub.of_eq (by kernel_rfl)) ?_
    intro k0 z0 hk0 hz0 hJ0
    refine Tri.seq_region [] none [10, 9, 8, 7, 3] [0] (TT ∧ True)
        ([(10, .sc (.b (decide ((((k0 : Nat) : Int) : Int) < (((FwtakeF p0 p1 4).length : Nat) : Int))))), (9, .sc (.i .i64 ((k0 : Nat) : Int))), (8, .sc (.i .i64 (((FwtakeF p0 p1 4).length : Nat) : Int))), (7, .sc (.ro .u8 (FwtakeF p0 p1 4))), (3, .sc (.i .u32 z0))], [(0, .cells [.ro .u8 (FwtakeF_1 p0 p1 4), .b (FwtakeF_2 p0 p1 4)])])
        128 (by kernel_rfl) rfl (by kernel_rfl) (⟨tt, trivial⟩) ?_
    refine Tri.seq ?_
    refine Tri.cond (x := (decide ((((k0 : Nat) : Int) : Int) < (((FwtakeF p0 p1 4).length : Nat) : Int)))) (by kernel_rfl) (fun h1 => ?_) (fun h1 => ?_)
    ·
      have h1' := of_decide_eq_true h1
      refine Tri.skip ?_
      change Tri _ _ _ _ _ _
      refine Tri.seq ?_
      refine Tri.block ?_
      refine Tri.seq_region [] none [5, 9, 8, 7, 3] [0] ((((0 : Int) ≤ ((k0 : Nat) : Int) ∧ ((k0 : Nat) : Int) < ((FwtakeF p0 p1 4).length : Int)) ∧ True) ∧ (((k0 < (FwtakeF p0 p1 4).length) ∧ True) ∧ (TT ∧ True)))
          ([(5, .sc (.i .u8 ((FwtakeF p0 p1 4).getD k0 0))), (9, .sc (.i .i64 ((k0 : Nat) : Int))), (8, .sc (.i .i64 (((FwtakeF p0 p1 4).length : Nat) : Int))), (7, .sc (.ro .u8 (FwtakeF p0 p1 4))), (3, .sc (.i .u32 z0))], [(0, .cells [.ro .u8 (FwtakeF_1 p0 p1 4), .b (FwtakeF_2 p0 p1 4)])])
          176 (by kernel_rfl) rfl (by kernel_rfl) (⟨⟨(by first | omega | (rw [adr_eq]; omega) | exact iAnd_nn _ _ | exact iSub_nn _ _ | exact part1_le (by omega) (by first | omega | (simp only [List.length_append]; omega)) | decide), trivial⟩, ⟨⟨(by first | omega | (rw [adr_eq]; omega) | exact iAnd_nn _ _ | exact iSub_nn _ _ | exact part1_le (by omega) (by first | omega | (simp only [List.length_append]; omega)) | decide), trivial⟩, ⟨tt, trivial⟩⟩⟩) ?_
      refine Tri.region' [] none [3, 9, 8, 7] [0] (TT ∧ ((((0 : Int) ≤ 8) ∧ True) ∧ (TT ∧ (TT ∧ (TT ∧ (TT ∧ True))))))
          ([(3, .sc (.i .u32 (iOr .u32 (iShl .u32 z0 8) (IntKind.wrap .u32 ((FwtakeF p0 p1 4).getD k0 0))))), (9, .sc (.i .i64 ((k0 : Nat) : Int))), (8, .sc (.i .i64 (((FwtakeF p0 p1 4).length : Nat) : Int))), (7, .sc (.ro .u8 (FwtakeF p0 p1 4)))], [(0, .cells [.ro .u8 (FwtakeF_1 p0 p1 4), .b (FwtakeF_2 p0 p1 4)])])
          272 (by kernel_rfl) rfl (by kernel_rfl) (⟨tt, ⟨⟨(by first | omega | (rw [adr_eq]; omega) | exact iAnd_nn _ _ | exact iSub_nn _ _ | exact part1_le (by omega) (by first | omega | (simp only [List.length_append]; omega)) | decide), trivial⟩, ⟨tt, ⟨tt, ⟨tt, ⟨tt, trivial⟩⟩⟩⟩⟩⟩) ?_
      change Tri _ _ _ _ _ _
      refine Tri.region' [(18, qi ((k0 + 1 : Nat) : Int))] none [9, 3, 8, 7] [0] ((True ∧ ((iAdd .i64 ((k0 : Nat) : Int) 1) = ((k0 + 1 : Nat) : Int))) ∧ (TT ∧ True))
          ([(9, .sc (.i .i64 ((k0 + 1 : Nat) : Int))), (3, .sc (.i .u32 (iOr .u32 (iShl .u32 z0 8) (IntKind.wrap .u32 ((FwtakeF p0 p1 4).getD k0 0))))), (8, .sc (.i .i64 (((FwtakeF p0 p1 4).length : Nat) : Int))), (7, .sc (.ro .u8 (FwtakeF p0 p1 4)))], [(0, .cells [.ro .u8 (FwtakeF_1 p0 p1 4), .b (FwtakeF_2 p0 p1 4)])])
          304 (by kernel_rfl) rfl (by kernel_rfl) (⟨⟨trivial, (iAdd_nat (a := k0) (b := 1) (by omega))⟩, ⟨tt, trivial⟩⟩) ?_
      repeat (refine blkP_normal ?_)
      refine countP_normal (by omega) trivial ?_
      exact Sub.ren (ns := [(0, 0)]) (kf := [9, 8, 7, 3]) (by kernel_rfl) (by kernel_rfl)
    ·
      have h1' := of_decide_eq_false h1
      refine Tri.exit ?_
      have hend0 : k0 = ((FwtakeF p0 p1 4).length) := by (have := of_decide_eq_false h1; omega)
      subst hend0; subst hz0
      change Tri _ _ _ _ _ _
      refine Tri.seq_region [] none [2] [0] (TT ∧ (TT ∧ True))
          ([(2, .sc (.i .u32 (itr (FwU32l0 p0 p1) ((FwtakeF p0 p1 4).length) 0)))], [(0, .cells [.ro .u8 (FwtakeF_1 p0 p1 4), .b (FwtakeF_2 p0 p1 4)])])
          160 (by kernel_rfl) rfl (by kernel_rfl) (⟨tt, ⟨tt, trivial⟩⟩) ?_
      refine Tri.ret ?_
      repeat (first | refine thenP_ret ?_ | refine blkP_ret ?_ | refine countP_ret ?_ | refine joinP_ret ?_ | refine iterP_ret ?_)
      exact endP.ret [(0, 0)] TT (by kernel_rfl) (by kernel_rfl) tt

theorem in_FwU32 (p0 : List Int) (p1 : Bool) : 0 ≤ FwU32 p0 p1 ∧ FwU32 p0 p1 < 4294967296 := by
  have h0 : ∀ n, 0 ≤ itr (FwU32l0 p0 p1) n 0 ∧ itr (FwU32l0 p0 p1) n 0 < 4294967296 := by
    intro n
    cases n with
    | zero => rw [itr_zero]; decide
    | succ k => rw [itr_succ]; unfold FwU32l0 iOr; rw [wrap_u32]; omega
  exact h0 _
theorem nn_FwU32 (p0 : List Int) (p1 : Bool) : 0 ≤ IntKind.wrap .i64 (FwU32 p0 p1) := by
  have := in_FwU32 p0 p1
  rw [wrap_small (by omega) (by omega)]
  exact this.1


noncomputable def FwText (p0 : List Int) (p1 : Bool) : ByteArray :=
  (sel (decide (((FwU32 p0 p1) : Int) > 16384)) (⟨#[]⟩ : ByteArray) (bytesOf (FwtakeF (FwU32_1 p0 p1) (FwU32_2 p0 p1) (IntKind.wrap .i64 (FwU32 p0 p1)))))

noncomputable def FwText_1 (p0 : List Int) (p1 : Bool) : List Int :=
  (sel (decide (((FwU32 p0 p1) : Int) > 16384)) (FwtakeF_1 (FwU32_1 p0 p1) (FwU32_2 p0 p1) 1073741824) (FwtakeF_1 (FwU32_1 p0 p1) (FwU32_2 p0 p1) (IntKind.wrap .i64 (FwU32 p0 p1))))

noncomputable def FwText_2 (p0 : List Int) (p1 : Bool) : Bool :=
  (sel (decide (((FwU32 p0 p1) : Int) > 16384)) (FwtakeF_2 (FwU32_1 p0 p1) (FwU32_2 p0 p1) 1073741824) (FwtakeF_2 (FwU32_1 p0 p1) (FwU32_2 p0 p1) (IntKind.wrap .i64 (FwU32 p0 p1))))

noncomputable def SwText : List AV → List Blk → Option (Prop × Ret)
  | [.sc (.p 0 0)], [.cells [.ro .u8 p0, .b p1]] => some (True, ⟨.sc (.s (FwText p0 p1)), [some (.cells [.ro .u8 (FwText_1 p0 p1), .b (FwText_2 p0 p1)])]⟩)
  | _, _ => none

noncomputable def BwText : Bs := { P := Go.Proofs.Try.prog, G := noG, tab := tabOf [⟨35, 48, [.io], [], [0], ⟨1, 0, SwU32⟩, false⟩, ⟨42, 128, [.io, .val], [], [0], ⟨1, 0, SwtakeF⟩, false⟩, ⟨42, 160, [.io, .val], [], [0], ⟨1, 0, SwtakeF⟩, false⟩], n := 15 }

theorem BwText.ok : BwText.Ok := ⟨tabOk (P := Go.Proofs.Try.prog) (G := noG) (l := [⟨35, 48, [.io], [], [0], ⟨1, 0, SwU32⟩, false⟩, ⟨42, 128, [.io, .val], [], [0], ⟨1, 0, SwtakeF⟩, false⟩, ⟨42, 160, [.io, .val], [], [0], ⟨1, 0, SwtakeF⟩, false⟩]) (And.intro KwU32 (And.intro KwtakeF (And.intro KwtakeF True.intro))), mixed⟩

theorem KwText : Known Go.Proofs.Try.prog noG 43 ⟨1, 0, SwText⟩ := by
  refine Known.walk (B := BwText) (fn := Go.Proofs.Try.f43) BwText.ok (by kernel_rfl) rfl (by kernel_rfl) (by kernel_rfl) (by decide) (by decide) ?_
  · intro E args ks C r h hC hlen
    simp only at h
    unfold SwText at h
    split at h
    rotate_left
    · cases h
    rename_i p0 p1
    cases h
    simp only [lens] at hlen
    refine ⟨show 1 ≤ 15 from by decide, ?_⟩
    refine Tri.sub (Sub.of_eq (show _ = ([(0, .sc (.p 0 0))], [(0, .cells [.ro .u8 p0, .b p1])]) from rfl)) ?_
    refine Tri.seq_region [] none [0] [0] (TT ∧ True)
        ([(0, .sc (.p 0 0))], [(0, .cells [.ro .u8 p0, .b p1])])
        32 (by kernel_rfl) rfl (by kernel_rfl) (⟨tt, trivial⟩) ?_
    refine Tri.seq_region [] none [3, 0] [0] (TT ∧ ((TT ∧ True) ∧ (TT ∧ True)))
        ([(3, .sc (.i .u32 (FwU32 p0 p1))), (0, .sc (.p 0 0))], [(0, .cells [.ro .u8 (FwU32_1 p0 p1), .b (FwU32_2 p0 p1)])])
        80 (by kernel_rfl) rfl (by kernel_rfl) (⟨tt, ⟨⟨tt, trivial⟩, ⟨tt, trivial⟩⟩⟩) ?_
    refine Tri.seq ?_
    refine Tri.seq_region [] none [7, 3, 0] [0] (TT ∧ (TT ∧ True))
        ([(7, .sc (.b (decide (((FwU32 p0 p1) : Int) > 16384)))), (3, .sc (.i .u32 (FwU32 p0 p1))), (0, .sc (.p 0 0))], [(0, .cells [.ro .u8 (FwU32_1 p0 p1), .b (FwU32_2 p0 p1)])])
        112 (by kernel_rfl) rfl (by kernel_rfl) (⟨tt, ⟨tt, trivial⟩⟩) ?_
    refine Tri.cond (x := (decide (((FwU32 p0 p1) : Int) > 16384))) (by kernel_rfl) (fun h1 => ?_) (fun h1 => ?_)
    ·
      have h1' := of_decide_eq_true h1
      refine Tri.seq_region [] none [] [0] (TT ∧ (((True ∧ ((0 : Int) ≤ 1073741824)) ∧ True) ∧ True))
          ([], [(0, .cells [.ro .u8 (FwtakeF_1 (FwU32_1 p0 p1) (FwU32_2 p0 p1) 1073741824), .b (FwtakeF_2 (FwU32_1 p0 p1) (FwU32_2 p0 p1) 1073741824)])])
          144 (by kernel_rfl) rfl (by kernel_rfl) (⟨tt, ⟨⟨⟨trivial, (by first | omega | exact nn_FwU32 _ _ | decide)⟩, trivial⟩, trivial⟩⟩) ?_
      refine Tri.seq_region [] none [2] [0] (TT ∧ True)
          ([(2, .sc (.s (⟨#[]⟩ : ByteArray)))], [(0, .cells [.ro .u8 (FwtakeF_1 (FwU32_1 p0 p1) (FwU32_2 p0 p1) 1073741824), .b (FwtakeF_2 (FwU32_1 p0 p1) (FwU32_2 p0 p1) 1073741824)])])
          160 (by kernel_rfl) rfl (by kernel_rfl) (⟨tt, trivial⟩) ?_
      refine Tri.ret ?_
      repeat (first | refine thenP_ret ?_ | refine blkP_ret ?_ | refine countP_ret ?_ | refine joinP_ret ?_ | refine iterP_ret ?_)
      refine endP.conv (r' := ⟨.sc (.s (⟨#[]⟩ : ByteArray)), [some (.cells [.ro .u8 (FwtakeF_1 (FwU32_1 p0 p1) (FwU32_2 p0 p1) 1073741824), .b (FwtakeF_2 (FwU32_1 p0 p1) (FwU32_2 p0 p1) 1073741824)])]⟩) (by simp only [FwText, FwText_1, FwText_2, h1, sel_true, sel_false]) ?_
      exact endP.ret [(0, 0)] TT (by kernel_rfl) (by kernel_rfl) tt
    ·
      have h1' := of_decide_eq_false h1
      refine Tri.skip ?_
      change Tri _ _ _ _ _ _
      refine Tri.seq_region [] none [2] [0] (TT ∧ (TT ∧ (TT ∧ (((True ∧ ((0 : Int) ≤ (IntKind.wrap .i64 (FwU32 p0 p1)))) ∧ True) ∧ (TT ∧ (TT ∧ True))))))
          ([(2, .sc (.s (bytesOf (FwtakeF (FwU32_1 p0 p1) (FwU32_2 p0 p1) (IntKind.wrap .i64 (FwU32 p0 p1))))))], [(0, .cells [.ro .u8 (FwtakeF_1 (FwU32_1 p0 p1) (FwU32_2 p0 p1) (IntKind.wrap .i64 (FwU32 p0 p1))), .b (FwtakeF_2 (FwU32_1 p0 p1) (FwU32_2 p0 p1) (IntKind.wrap .i64 (FwU32 p0 p1)))])])
          208 (by kernel_rfl) rfl (by kernel_rfl) (⟨tt, ⟨tt, ⟨tt, ⟨⟨⟨trivial, (by first | omega | exact nn_FwU32 _ _ | decide)⟩, trivial⟩, ⟨tt, ⟨tt, trivial⟩⟩⟩⟩⟩⟩) ?_
      refine Tri.ret ?_
      repeat (first | refine thenP_ret ?_ | refine blkP_ret ?_ | refine countP_ret ?_ | refine joinP_ret ?_ | refine iterP_ret ?_)
      refine endP.conv (r' := ⟨.sc (.s (bytesOf (FwtakeF (FwU32_1 p0 p1) (FwU32_2 p0 p1) (IntKind.wrap .i64 (FwU32 p0 p1))))), [some (.cells [.ro .u8 (FwtakeF_1 (FwU32_1 p0 p1) (FwU32_2 p0 p1) (IntKind.wrap .i64 (FwU32 p0 p1))), .b (FwtakeF_2 (FwU32_1 p0 p1) (FwU32_2 p0 p1) (IntKind.wrap .i64 (FwU32 p0 p1)))])]⟩) (by simp only [FwText, FwText_1, FwText_2, h1, sel_true, sel_false]) ?_
      exact endP.ret [(0, 0)] TT (by kernel_rfl) (by kernel_rfl) tt

theorem size_FwText (p0 : List Int) (p1 : Bool) : (FwText p0 p1).size ≤ 16384 := by
  unfold FwText
  cases h : (decide (((FwU32 p0 p1) : Int) > 16384))
  · have h0 := of_decide_eq_false h
    have h1 := in_FwU32 p0 p1
    have h2 := le_FwtakeF (FwU32_1 p0 p1) (FwU32_2 p0 p1) (IntKind.wrap .i64 (FwU32 p0 p1))
    rw [wrap_small (by omega) (by omega)] at h2 ⊢
    rw [sel_false]
    have h3 : ∀ xs : List Int, (bytesOf xs).size = xs.length := fun xs => by simp [bytesOf, ByteArray.size]
    rw [h3]
    omega
  · rw [sel_true]; decide

end Go.Vm
