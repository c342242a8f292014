/- What the functions compute, and that they do: walked by a printed text. -/
import Derived.Test.YtclfmaifcelcpaaChecked
import Derived.Test.YtclfmaifcelcpaaVnZb
import Derived.Test.YtclfmaifcelcpaaLj
set_option linter.unusedVariables false
set_option linter.unusedSimpArgs false
set_option maxRecDepth 4000
namespace Go.Vm
open Go

theorem mixed : Go.Proofs.Try.prog.follows .mixedOrders = true := by kernel_rfl
theorem Kjoin : Known Go.Proofs.Try.prog noG 22 ⟨0, 0, specJoin⟩ := known_join (by kernel_rfl) Go.Proofs.Try.strings_Join_none Go.Proofs.Try.strings_Join


noncomputable def SwFrom : List AV → List Blk → Option (Prop × Ret)
  | [.sc (.ro .u8 p0)], [] => some (True, ⟨.sc (.p 0 0), [some (.cells [.ro .u8 p0, .b false])]⟩)
  | _, _ => none

noncomputable def BwFrom : Bs := { P := Go.Proofs.Try.prog, G := noG, tab := tabOf [], n := 6 }

theorem BwFrom.ok : BwFrom.Ok := ⟨tabOk (P := Go.Proofs.Try.prog) (G := noG) (l := []) True.intro, mixed⟩

theorem KwFrom : Known Go.Proofs.Try.prog noG 7 ⟨0, 1, SwFrom⟩ := by
  refine Known.walk (B := BwFrom) (fn := Go.Proofs.Try.f7) BwFrom.ok (by kernel_rfl) rfl (by kernel_rfl) (by kernel_rfl) (by decide) (by decide) ?_
  · intro E args ks C r h hC hlen
    simp only at h
    unfold SwFrom at h
    split at h
    rotate_left
    · cases h
    rename_i p0
    cases h
    simp only [lens] at hlen
    refine ⟨show 1 ≤ 6 from by decide, ?_⟩
    refine Tri.sub (Sub.of_eq (show _ = ([(0, .sc (.ro .u8 p0))], []) from rfl)) ?_
    refine Tri.seq_region [] none [0] [] ((True ∧ True) ∧ True)
        ([(0, .sc (.ro .u8 p0))], [])
        32 (by kernel_rfl) rfl (by kernel_rfl) (⟨⟨trivial, trivial⟩, trivial⟩) ?_
    refine Tri.seq_region [] none [2] [64] ((True ∧ True) ∧ (((((0 < 2) ∧ (1 = 1)) ∧ True) ∧ True) ∧ ((True ∧ True) ∧ ((True ∧ True) ∧ True))))
        ([(2, .sc (.p 64 0))], [(64, .cells [.ro .u8 p0, .b false])])
        96 (by kernel_rfl) rfl (by kernel_rfl) (⟨⟨trivial, trivial⟩, ⟨⟨⟨⟨(by first | omega | (rw [adr_eq]; omega) | exact iAnd_nn _ _ | exact iSub_nn _ _ | exact part1_le (by omega) (by first | omega | (simp only [List.length_append]; omega)) | decide), (rfl)⟩, trivial⟩, trivial⟩, ⟨⟨trivial, trivial⟩, ⟨⟨trivial, trivial⟩, trivial⟩⟩⟩⟩) ?_
    refine Tri.ret ?_
    repeat (first | refine thenP_ret ?_ | refine blkP_ret ?_ | refine countP_ret ?_ | refine joinP_ret ?_ | refine iterP_ret ?_)
    exact endP.ret [(64, 0)] (True ∧ True) (by kernel_rfl) (by kernel_rfl) ⟨trivial, trivial⟩




noncomputable def FwtakeOk (p0 : List Int) (p1 : Bool) (p2 : Int) : List Int :=
  (p0.drop 0).take (((p2).toNat) - 0)

noncomputable def FwtakeOk_1 (p0 : List Int) (p1 : Bool) (p2 : Int) : List Int :=
  (p0.drop ((p2).toNat)).take (p0.length - ((p2).toNat))

noncomputable def SwtakeOk : List AV → List Blk → Option (Prop × Ret)
  | [.sc (.p 0 0), .sc (.i .i64 p2)], [.cells [.ro .u8 p0, .b p1]] => some (((p1 = false) ∧ (((decide ((p2 : Int) > ((p0.length : Nat) : Int))) = false) ∧ ((0 : Int) ≤ p2))), ⟨.sc (.ro .u8 (FwtakeOk p0 p1 p2)), [some (.cells [.ro .u8 (FwtakeOk_1 p0 p1 p2), .b p1])]⟩)
  | _, _ => none

noncomputable def BwtakeOk : Bs := { P := Go.Proofs.Try.prog, G := noG, tab := tabOf [], n := 48 }

theorem BwtakeOk.ok : BwtakeOk.Ok := ⟨tabOk (P := Go.Proofs.Try.prog) (G := noG) (l := []) True.intro, mixed⟩

theorem KwtakeOk : Known Go.Proofs.Try.prog noG 20 ⟨1, 0, SwtakeOk⟩ := by
  refine Known.walk (B := BwtakeOk) (fn := Go.Proofs.Try.f20) BwtakeOk.ok (by kernel_rfl) rfl (by kernel_rfl) (by kernel_rfl) (by decide) (by decide) ?_
  · intro E args ks C r h hC hlen
    simp only at h
    unfold SwtakeOk at h
    split at h
    rotate_left
    · cases h
    rename_i p2 p0 p1
    cases h
    simp only [lens] at hlen
    have hG0 := hC.1
    have hG1 := hC.2.1
    have hG1' := of_decide_eq_false hG1
    have hC := hC.2.2
    refine ⟨show 2 ≤ 48 from by decide, ?_⟩
    refine Tri.sub (Sub.of_eq (show _ = ([(0, .sc (.p 0 0)), (1, .sc (.i .i64 p2))], [(0, .cells [.ro .u8 p0, .b p1])]) from rfl)) ?_
    refine Tri.seq_region [] none [0, 1] [0] ((True ∧ True) ∧ True)
        ([(0, .sc (.p 0 0)), (1, .sc (.i .i64 p2))], [(0, .cells [.ro .u8 p0, .b p1])])
        32 (by kernel_rfl) rfl (by kernel_rfl) (⟨⟨trivial, trivial⟩, trivial⟩) ?_
    refine Tri.seq ?_
    refine Tri.seq_region [(14, qb false)] none [22, 0, 1] [0] ((True ∧ True) ∧ ((True ∧ True) ∧ ((True ∧ True) ∧ ((True ∧ True) ∧ ((True ∧ True) ∧ ((True ∧ True) ∧ (((1 < 2) ∧ True) ∧ ((True ∧ True) ∧ ((True ∧ (p1 = false)) ∧ ((True ∧ True) ∧ ((True ∧ True) ∧ ((True ∧ True) ∧ ((True ∧ True) ∧ (((0 < 2) ∧ True) ∧ ((True ∧ True) ∧ ((True ∧ True) ∧ ((True ∧ True) ∧ True)))))))))))))))))
        ([(22, .sc (.b (decide ((p2 : Int) > ((p0.length : Nat) : Int))))), (0, .sc (.p 0 0)), (1, .sc (.i .i64 p2))], [(0, .cells [.ro .u8 p0, .b p1])])
        304 (by kernel_rfl) rfl (by kernel_rfl) (⟨⟨trivial, trivial⟩, ⟨⟨trivial, trivial⟩, ⟨⟨trivial, trivial⟩, ⟨⟨trivial, trivial⟩, ⟨⟨trivial, trivial⟩, ⟨⟨trivial, trivial⟩, ⟨⟨(by first | omega | (rw [adr_eq]; omega) | exact iAnd_nn _ _ | exact iSub_nn _ _ | exact part1_le (by omega) (by first | omega | (simp only [List.length_append]; omega)) | decide), trivial⟩, ⟨⟨trivial, trivial⟩, ⟨⟨trivial, (hG0)⟩, ⟨⟨trivial, trivial⟩, ⟨⟨trivial, trivial⟩, ⟨⟨trivial, trivial⟩, ⟨⟨trivial, trivial⟩, ⟨⟨(by first | omega | (rw [adr_eq]; omega) | exact iAnd_nn _ _ | exact iSub_nn _ _ | exact part1_le (by omega) (by first | omega | (simp only [List.length_append]; omega)) | decide), trivial⟩, ⟨⟨trivial, trivial⟩, ⟨⟨trivial, trivial⟩, ⟨⟨trivial, trivial⟩, trivial⟩⟩⟩⟩⟩⟩⟩⟩⟩⟩⟩⟩⟩⟩⟩⟩⟩) ?_
    refine Tri.cond (x := (decide ((p2 : Int) > ((p0.length : Nat) : Int)))) (by kernel_rfl) (fun h => absurd (h.symm.trans hG1) (by decide)) (fun h => ?_)
    refine Tri.skip ?_
    change Tri _ _ _ _ _ _
    refine Tri.seq_region [] none [5, 0, 1] [0] ((True ∧ True) ∧ ((True ∧ True) ∧ ((True ∧ True) ∧ (((0 < 2) ∧ True) ∧ ((True ∧ True) ∧ ((True ∧ True) ∧ ((((0 : Int) ≤ 0 ∧ (0 : Int) ≤ p2 ∧ (p2 : Int) ≤ p2 ∧ (p2 : Int) ≤ (p0.length : Int)) ∧ True) ∧ ((True ∧ True) ∧ True))))))))
        ([(5, .sc (.ro .u8 ((p0.drop 0).take (((p2).toNat) - 0)))), (0, .sc (.p 0 0)), (1, .sc (.i .i64 p2))], [(0, .cells [.ro .u8 p0, .b p1])])
        432 (by kernel_rfl) rfl (by kernel_rfl) (⟨⟨trivial, trivial⟩, ⟨⟨trivial, trivial⟩, ⟨⟨trivial, trivial⟩, ⟨⟨(by first | omega | (rw [adr_eq]; omega) | exact iAnd_nn _ _ | exact iSub_nn _ _ | exact part1_le (by omega) (by first | omega | (simp only [List.length_append]; omega)) | decide), trivial⟩, ⟨⟨trivial, trivial⟩, ⟨⟨trivial, trivial⟩, ⟨⟨(by first | omega | (rw [adr_eq]; omega) | exact iAnd_nn _ _ | exact iSub_nn _ _ | exact part1_le (by omega) (by first | omega | (simp only [List.length_append]; omega)) | decide), trivial⟩, ⟨⟨trivial, trivial⟩, trivial⟩⟩⟩⟩⟩⟩⟩⟩) ?_
    refine Tri.seq_region [] none [5] [0] ((True ∧ True) ∧ ((True ∧ True) ∧ ((True ∧ True) ∧ ((True ∧ True) ∧ (((0 < 2) ∧ True) ∧ ((True ∧ True) ∧ ((((0 : Int) ≤ p2 ∧ (p2 : Int) ≤ ((p0.length : Nat) : Int) ∧ ((p0.length : Nat) : Int) ≤ (p0.length : Int)) ∧ True) ∧ ((True ∧ True) ∧ ((True ∧ True) ∧ ((((0 < 2) ∧ (1 = 1)) ∧ True) ∧ True))))))))))
        ([(5, .sc (.ro .u8 ((p0.drop 0).take (((p2).toNat) - 0))))], [(0, .cells [.ro .u8 ((p0.drop ((p2).toNat)).take (p0.length - ((p2).toNat))), .b p1])])
        592 (by kernel_rfl) rfl (by kernel_rfl) (⟨⟨trivial, trivial⟩, ⟨⟨trivial, trivial⟩, ⟨⟨trivial, trivial⟩, ⟨⟨trivial, trivial⟩, ⟨⟨(by first | omega | (rw [adr_eq]; omega) | exact iAnd_nn _ _ | exact iSub_nn _ _ | exact part1_le (by omega) (by first | omega | (simp only [List.length_append]; omega)) | decide), trivial⟩, ⟨⟨trivial, trivial⟩, ⟨⟨(by first | omega | (rw [adr_eq]; omega) | exact iAnd_nn _ _ | exact iSub_nn _ _ | exact part1_le (by omega) (by first | omega | (simp only [List.length_append]; omega)) | decide), trivial⟩, ⟨⟨trivial, trivial⟩, ⟨⟨trivial, trivial⟩, ⟨⟨⟨(by first | omega | (rw [adr_eq]; omega) | exact iAnd_nn _ _ | exact iSub_nn _ _ | exact part1_le (by omega) (by first | omega | (simp only [List.length_append]; omega)) | decide), (rfl)⟩, trivial⟩, trivial⟩⟩⟩⟩⟩⟩⟩⟩⟩⟩) ?_
    refine Tri.seq_region [] none [4] [0] ((True ∧ True) ∧ ((True ∧ True) ∧ True))
        ([(4, .sc (.ro .u8 ((p0.drop 0).take (((p2).toNat) - 0))))], [(0, .cells [.ro .u8 ((p0.drop ((p2).toNat)).take (p0.length - ((p2).toNat))), .b p1])])
        624 (by kernel_rfl) rfl (by kernel_rfl) (⟨⟨trivial, trivial⟩, ⟨⟨trivial, trivial⟩, trivial⟩⟩) ?_
    refine Tri.ret ?_
    repeat (first | refine thenP_ret ?_ | refine blkP_ret ?_ | refine countP_ret ?_ | refine joinP_ret ?_ | refine iterP_ret ?_)
    exact endP.ret [(0, 0)] (True ∧ True) (by kernel_rfl) (by kernel_rfl) ⟨trivial, trivial⟩

theorem len_FwtakeOk {p0 : List Int} {p1 : Bool} {p2 : Int} (h : (decide ((p2 : Int) > ((p0.length : Nat) : Int))) = false) (h0 : 0 ≤ p2) : ((FwtakeOk p0 p1 p2).length : Int) = p2 := by
  have := of_decide_eq_false h
  unfold FwtakeOk
  simp only [List.length_take, List.length_drop]
  omega


noncomputable def SwtakeNo : List AV → List Blk → Option (Prop × Ret)
  | [.sc (.p 0 0), .sc (.i .i64 p2)], [.cells [.ro .u8 p0, .b p1]] => some (((p1 = false) ∧ (((decide ((p2 : Int) > ((p0.length : Nat) : Int))) = true) ∧ True)), ⟨.sc (.nils), [some (.cells [.ro .u8 ([] : List Int), .b true])]⟩)
  | _, _ => none

noncomputable def BwtakeNo : Bs := { P := Go.Proofs.Try.prog, G := noG, tab := tabOf [], n := 48 }

theorem BwtakeNo.ok : BwtakeNo.Ok := ⟨tabOk (P := Go.Proofs.Try.prog) (G := noG) (l := []) True.intro, mixed⟩

theorem KwtakeNo : Known Go.Proofs.Try.prog noG 20 ⟨1, 0, SwtakeNo⟩ := by
  refine Known.walk (B := BwtakeNo) (fn := Go.Proofs.Try.f20) BwtakeNo.ok (by kernel_rfl) rfl (by kernel_rfl) (by kernel_rfl) (by decide) (by decide) ?_
  · intro E args ks C r h hC hlen
    simp only at h
    unfold SwtakeNo at h
    split at h
    rotate_left
    · cases h
    rename_i p2 p0 p1
    cases h
    simp only [lens] at hlen
    have hG0 := hC.1
    have hG1 := hC.2.1
    have hG1' := of_decide_eq_true hG1
    have hC := hC.2.2
    refine ⟨show 2 ≤ 48 from by decide, ?_⟩
    refine Tri.sub (Sub.of_eq (show _ = ([(0, .sc (.p 0 0)), (1, .sc (.i .i64 p2))], [(0, .cells [.ro .u8 p0, .b p1])]) from rfl)) ?_
    refine Tri.seq_region [] none [0, 1] [0] ((True ∧ True) ∧ True)
        ([(0, .sc (.p 0 0)), (1, .sc (.i .i64 p2))], [(0, .cells [.ro .u8 p0, .b p1])])
        32 (by kernel_rfl) rfl (by kernel_rfl) (⟨⟨trivial, trivial⟩, trivial⟩) ?_
    refine Tri.seq ?_
    refine Tri.seq_region [(14, qb false)] none [22, 0, 1] [0] ((True ∧ True) ∧ ((True ∧ True) ∧ ((True ∧ True) ∧ ((True ∧ True) ∧ ((True ∧ True) ∧ ((True ∧ True) ∧ (((1 < 2) ∧ True) ∧ ((True ∧ True) ∧ ((True ∧ (p1 = false)) ∧ ((True ∧ True) ∧ ((True ∧ True) ∧ ((True ∧ True) ∧ ((True ∧ True) ∧ (((0 < 2) ∧ True) ∧ ((True ∧ True) ∧ ((True ∧ True) ∧ ((True ∧ True) ∧ True)))))))))))))))))
        ([(22, .sc (.b (decide ((p2 : Int) > ((p0.length : Nat) : Int))))), (0, .sc (.p 0 0)), (1, .sc (.i .i64 p2))], [(0, .cells [.ro .u8 p0, .b p1])])
        304 (by kernel_rfl) rfl (by kernel_rfl) (⟨⟨trivial, trivial⟩, ⟨⟨trivial, trivial⟩, ⟨⟨trivial, trivial⟩, ⟨⟨trivial, trivial⟩, ⟨⟨trivial, trivial⟩, ⟨⟨trivial, trivial⟩, ⟨⟨(by first | omega | (rw [adr_eq]; omega) | exact iAnd_nn _ _ | exact iSub_nn _ _ | exact part1_le (by omega) (by first | omega | (simp only [List.length_append]; omega)) | decide), trivial⟩, ⟨⟨trivial, trivial⟩, ⟨⟨trivial, (hG0)⟩, ⟨⟨trivial, trivial⟩, ⟨⟨trivial, trivial⟩, ⟨⟨trivial, trivial⟩, ⟨⟨trivial, trivial⟩, ⟨⟨(by first | omega | (rw [adr_eq]; omega) | exact iAnd_nn _ _ | exact iSub_nn _ _ | exact part1_le (by omega) (by first | omega | (simp only [List.length_append]; omega)) | decide), trivial⟩, ⟨⟨trivial, trivial⟩, ⟨⟨trivial, trivial⟩, ⟨⟨trivial, trivial⟩, trivial⟩⟩⟩⟩⟩⟩⟩⟩⟩⟩⟩⟩⟩⟩⟩⟩⟩) ?_
    refine Tri.cond (x := (decide ((p2 : Int) > ((p0.length : Nat) : Int)))) (by kernel_rfl) (fun h => ?_) (fun h => absurd (h.symm.trans hG1) (by decide))
    refine Tri.seq ?_
    refine Tri.seq_region [] none [24, 0] [0] ((True ∧ True) ∧ ((True ∧ True) ∧ True))
        ([(24, .sc (.b true)), (0, .sc (.p 0 0))], [(0, .cells [.ro .u8 p0, .b p1])])
        336 (by kernel_rfl) rfl (by kernel_rfl) (⟨⟨trivial, trivial⟩, ⟨⟨trivial, trivial⟩, trivial⟩⟩) ?_
    refine Tri.cond_true (by kernel_rfl) ?_
    refine Tri.region' [] none [] [0] ((True ∧ True) ∧ ((True ∧ True) ∧ ((True ∧ True) ∧ ((True ∧ True) ∧ ((((1 < 2) ∧ (1 = 1)) ∧ True) ∧ ((True ∧ True) ∧ ((True ∧ True) ∧ ((((0 < 2) ∧ (1 = 1)) ∧ True) ∧ True))))))))
        ([], [(0, .cells [.nils, .b true])])
        464 (by kernel_rfl) rfl (by kernel_rfl) (⟨⟨trivial, trivial⟩, ⟨⟨trivial, trivial⟩, ⟨⟨trivial, trivial⟩, ⟨⟨trivial, trivial⟩, ⟨⟨⟨(by first | omega | (rw [adr_eq]; omega) | exact iAnd_nn _ _ | exact iSub_nn _ _ | exact part1_le (by omega) (by first | omega | (simp only [List.length_append]; omega)) | decide), (rfl)⟩, trivial⟩, ⟨⟨trivial, trivial⟩, ⟨⟨trivial, trivial⟩, ⟨⟨⟨(by first | omega | (rw [adr_eq]; omega) | exact iAnd_nn _ _ | exact iSub_nn _ _ | exact part1_le (by omega) (by first | omega | (simp only [List.length_append]; omega)) | decide), (rfl)⟩, trivial⟩, trivial⟩⟩⟩⟩⟩⟩⟩⟩) ?_
    change Tri _ _ _ _ _ _
    refine Tri.seq_region [] none [4] [0] ((True ∧ True) ∧ True)
        ([(4, .sc (.nils))], [(0, .cells [.nils, .b true])])
        480 (by kernel_rfl) rfl (by kernel_rfl) (⟨⟨trivial, trivial⟩, trivial⟩) ?_
    refine Tri.sub (Sub.nilCell (l := [.nils, .b true]) 0 0 .u8 (by kernel_rfl) (by kernel_rfl)) ?_
    refine Tri.ret ?_
    repeat (first | refine thenP_ret ?_ | refine blkP_ret ?_ | refine countP_ret ?_ | refine joinP_ret ?_ | refine iterP_ret ?_)
    exact endP.ret [(0, 0)] (True ∧ True) (by kernel_rfl) (by kernel_rfl) ⟨trivial, trivial⟩




noncomputable def SwtakeBad : List AV → List Blk → Option (Prop × Ret)
  | [.sc (.p 0 0), .sc (.i .i64 p2)], [.cells [.ro .u8 p0, .b p1]] => some (((p1 = true) ∧ True), ⟨.sc (.nils), [some (.cells [.ro .u8 ([] : List Int), .b true])]⟩)
  | _, _ => none

noncomputable def BwtakeBad : Bs := { P := Go.Proofs.Try.prog, G := noG, tab := tabOf [], n := 48 }

theorem BwtakeBad.ok : BwtakeBad.Ok := ⟨tabOk (P := Go.Proofs.Try.prog) (G := noG) (l := []) True.intro, mixed⟩

theorem KwtakeBad : Known Go.Proofs.Try.prog noG 20 ⟨1, 0, SwtakeBad⟩ := by
  refine Known.walk (B := BwtakeBad) (fn := Go.Proofs.Try.f20) BwtakeBad.ok (by kernel_rfl) rfl (by kernel_rfl) (by kernel_rfl) (by decide) (by decide) ?_
  · intro E args ks C r h hC hlen
    simp only at h
    unfold SwtakeBad at h
    split at h
    rotate_left
    · cases h
    rename_i p2 p0 p1
    cases h
    simp only [lens] at hlen
    have hG0 := hC.1
    have hC := hC.2
    refine ⟨show 2 ≤ 48 from by decide, ?_⟩
    refine Tri.sub (Sub.of_eq (show _ = ([(0, .sc (.p 0 0)), (1, .sc (.i .i64 p2))], [(0, .cells [.ro .u8 p0, .b p1])]) from rfl)) ?_
    refine Tri.seq_region [] none [0, 1] [0] ((True ∧ True) ∧ True)
        ([(0, .sc (.p 0 0)), (1, .sc (.i .i64 p2))], [(0, .cells [.ro .u8 p0, .b p1])])
        32 (by kernel_rfl) rfl (by kernel_rfl) (⟨⟨trivial, trivial⟩, trivial⟩) ?_
    refine Tri.seq ?_
    refine Tri.seq_region [(14, qb true)] none [22, 0, 1] [0] ((True ∧ True) ∧ ((True ∧ True) ∧ ((True ∧ True) ∧ ((True ∧ True) ∧ ((True ∧ True) ∧ ((True ∧ True) ∧ (((1 < 2) ∧ True) ∧ ((True ∧ True) ∧ ((True ∧ (p1 = true)) ∧ ((True ∧ True) ∧ ((True ∧ True) ∧ ((True ∧ True) ∧ ((True ∧ True) ∧ ((True ∧ True) ∧ ((True ∧ True) ∧ ((True ∧ True) ∧ ((True ∧ True) ∧ True)))))))))))))))))
        ([(22, .sc (.b true)), (0, .sc (.p 0 0)), (1, .sc (.i .i64 p2))], [(0, .cells [.ro .u8 p0, .b p1])])
        304 (by kernel_rfl) rfl (by kernel_rfl) (⟨⟨trivial, trivial⟩, ⟨⟨trivial, trivial⟩, ⟨⟨trivial, trivial⟩, ⟨⟨trivial, trivial⟩, ⟨⟨trivial, trivial⟩, ⟨⟨trivial, trivial⟩, ⟨⟨(by first | omega | (rw [adr_eq]; omega) | exact iAnd_nn _ _ | exact iSub_nn _ _ | exact part1_le (by omega) (by first | omega | (simp only [List.length_append]; omega)) | decide), trivial⟩, ⟨⟨trivial, trivial⟩, ⟨⟨trivial, (hG0)⟩, ⟨⟨trivial, trivial⟩, ⟨⟨trivial, trivial⟩, ⟨⟨trivial, trivial⟩, ⟨⟨trivial, trivial⟩, ⟨⟨trivial, trivial⟩, ⟨⟨trivial, trivial⟩, ⟨⟨trivial, trivial⟩, ⟨⟨trivial, trivial⟩, trivial⟩⟩⟩⟩⟩⟩⟩⟩⟩⟩⟩⟩⟩⟩⟩⟩⟩) ?_
    refine Tri.cond_true (by kernel_rfl) ?_
    refine Tri.seq ?_
    refine Tri.seq_region [] none [24, 0] [0] ((True ∧ True) ∧ ((True ∧ True) ∧ True))
        ([(24, .sc (.b true)), (0, .sc (.p 0 0))], [(0, .cells [.ro .u8 p0, .b p1])])
        336 (by kernel_rfl) rfl (by kernel_rfl) (⟨⟨trivial, trivial⟩, ⟨⟨trivial, trivial⟩, trivial⟩⟩) ?_
    refine Tri.cond_true (by kernel_rfl) ?_
    refine Tri.region' [] none [] [0] ((True ∧ True) ∧ ((True ∧ True) ∧ ((True ∧ True) ∧ ((True ∧ True) ∧ ((((1 < 2) ∧ (1 = 1)) ∧ True) ∧ ((True ∧ True) ∧ ((True ∧ True) ∧ ((((0 < 2) ∧ (1 = 1)) ∧ True) ∧ True))))))))
        ([], [(0, .cells [.nils, .b true])])
        464 (by kernel_rfl) rfl (by kernel_rfl) (⟨⟨trivial, trivial⟩, ⟨⟨trivial, trivial⟩, ⟨⟨trivial, trivial⟩, ⟨⟨trivial, trivial⟩, ⟨⟨⟨(by first | omega | (rw [adr_eq]; omega) | exact iAnd_nn _ _ | exact iSub_nn _ _ | exact part1_le (by omega) (by first | omega | (simp only [List.length_append]; omega)) | decide), (rfl)⟩, trivial⟩, ⟨⟨trivial, trivial⟩, ⟨⟨trivial, trivial⟩, ⟨⟨⟨(by first | omega | (rw [adr_eq]; omega) | exact iAnd_nn _ _ | exact iSub_nn _ _ | exact part1_le (by omega) (by first | omega | (simp only [List.length_append]; omega)) | decide), (rfl)⟩, trivial⟩, trivial⟩⟩⟩⟩⟩⟩⟩⟩) ?_
    change Tri _ _ _ _ _ _
    refine Tri.seq_region [] none [4] [0] ((True ∧ True) ∧ True)
        ([(4, .sc (.nils))], [(0, .cells [.nils, .b true])])
        480 (by kernel_rfl) rfl (by kernel_rfl) (⟨⟨trivial, trivial⟩, trivial⟩) ?_
    refine Tri.sub (Sub.nilCell (l := [.nils, .b true]) 0 0 .u8 (by kernel_rfl) (by kernel_rfl)) ?_
    refine Tri.ret ?_
    repeat (first | refine thenP_ret ?_ | refine blkP_ret ?_ | refine countP_ret ?_ | refine joinP_ret ?_ | refine iterP_ret ?_)
    exact endP.ret [(0, 0)] (True ∧ True) (by kernel_rfl) (by kernel_rfl) ⟨trivial, trivial⟩




noncomputable def SwtakeNil : List AV → List Blk → Option (Prop × Ret)
  | [.sc (.nilp), .sc (.i .i64 p2)], [] => some (True, ⟨.sc (.nils), []⟩)
  | _, _ => none

noncomputable def BwtakeNil : Bs := { P := Go.Proofs.Try.prog, G := noG, tab := tabOf [], n := 48 }

theorem BwtakeNil.ok : BwtakeNil.Ok := ⟨tabOk (P := Go.Proofs.Try.prog) (G := noG) (l := []) True.intro, mixed⟩

theorem KwtakeNil : Known Go.Proofs.Try.prog noG 20 ⟨0, 0, SwtakeNil⟩ := by
  refine Known.walk (B := BwtakeNil) (fn := Go.Proofs.Try.f20) BwtakeNil.ok (by kernel_rfl) rfl (by kernel_rfl) (by kernel_rfl) (by decide) (by decide) ?_
  · intro E args ks C r h hC hlen
    simp only at h
    unfold SwtakeNil at h
    split at h
    rotate_left
    · cases h
    rename_i p2
    cases h
    simp only [lens] at hlen
    refine ⟨show 2 ≤ 48 from by decide, ?_⟩
    refine Tri.sub (Sub.of_eq (show _ = ([(0, .sc (.nilp)), (1, .sc (.i .i64 p2))], []) from rfl)) ?_
    refine Tri.seq_region [] none [0, 1] [] ((True ∧ True) ∧ True)
        ([(0, .sc (.nilp)), (1, .sc (.i .i64 p2))], [])
        32 (by kernel_rfl) rfl (by kernel_rfl) (⟨⟨trivial, trivial⟩, trivial⟩) ?_
    refine Tri.seq ?_
    refine Tri.seq_region [] none [22, 0, 1] [] ((True ∧ True) ∧ ((True ∧ True) ∧ ((True ∧ True) ∧ ((True ∧ True) ∧ ((True ∧ True) ∧ ((True ∧ True) ∧ ((True ∧ True) ∧ ((True ∧ True) ∧ ((True ∧ True) ∧ ((True ∧ True) ∧ ((True ∧ True) ∧ ((True ∧ True) ∧ ((True ∧ True) ∧ ((True ∧ True) ∧ ((True ∧ True) ∧ ((True ∧ True) ∧ ((True ∧ True) ∧ True)))))))))))))))))
        ([(22, .sc (.b true)), (0, .sc (.nilp)), (1, .sc (.i .i64 p2))], [])
        304 (by kernel_rfl) rfl (by kernel_rfl) (⟨⟨trivial, trivial⟩, ⟨⟨trivial, trivial⟩, ⟨⟨trivial, trivial⟩, ⟨⟨trivial, trivial⟩, ⟨⟨trivial, trivial⟩, ⟨⟨trivial, trivial⟩, ⟨⟨trivial, trivial⟩, ⟨⟨trivial, trivial⟩, ⟨⟨trivial, trivial⟩, ⟨⟨trivial, trivial⟩, ⟨⟨trivial, trivial⟩, ⟨⟨trivial, trivial⟩, ⟨⟨trivial, trivial⟩, ⟨⟨trivial, trivial⟩, ⟨⟨trivial, trivial⟩, ⟨⟨trivial, trivial⟩, ⟨⟨trivial, trivial⟩, trivial⟩⟩⟩⟩⟩⟩⟩⟩⟩⟩⟩⟩⟩⟩⟩⟩⟩) ?_
    refine Tri.cond_true (by kernel_rfl) ?_
    refine Tri.seq ?_
    refine Tri.seq_region [] none [24, 0] [] ((True ∧ True) ∧ ((True ∧ True) ∧ True))
        ([(24, .sc (.b false)), (0, .sc (.nilp))], [])
        336 (by kernel_rfl) rfl (by kernel_rfl) (⟨⟨trivial, trivial⟩, ⟨⟨trivial, trivial⟩, trivial⟩⟩) ?_
    refine Tri.cond_false (by kernel_rfl) ?_
    refine Tri.skip ?_
    change Tri _ _ _ _ _ _
    refine Tri.seq_region [] none [4] [] ((True ∧ True) ∧ True)
        ([(4, .sc (.nils))], [])
        352 (by kernel_rfl) rfl (by kernel_rfl) (⟨⟨trivial, trivial⟩, trivial⟩) ?_
    refine Tri.ret ?_
    repeat (first | refine thenP_ret ?_ | refine blkP_ret ?_ | refine countP_ret ?_ | refine joinP_ret ?_ | refine iterP_ret ?_)
    exact endP.ret [] (True ∧ True) (by kernel_rfl) (by kernel_rfl) ⟨trivial, trivial⟩




noncomputable def FwtakeF (p0 : List Int) (p1 : Bool) (p2 : Int) : List Int :=
  (sel p1 ([] : List Int) (sel (decide ((p2 : Int) > ((p0.length : Nat) : Int))) ([] : List Int) ((p0.drop 0).take (((p2).toNat) - 0))))

noncomputable def FwtakeF_1 (p0 : List Int) (p1 : Bool) (p2 : Int) : List Int :=
  (sel p1 ([] : List Int) (sel (decide ((p2 : Int) > ((p0.length : Nat) : Int))) ([] : List Int) ((p0.drop ((p2).toNat)).take (p0.length - ((p2).toNat)))))

noncomputable def FwtakeF_2 (p0 : List Int) (p1 : Bool) (p2 : Int) : Bool :=
  (sel p1 true (sel (decide ((p2 : Int) > ((p0.length : Nat) : Int))) true p1))

noncomputable def SwtakeF : List AV → List Blk → Option (Prop × Ret)
  | [.sc (.p 0 0), .sc (.i .i64 p2)], [.cells [.ro .u8 p0, .b p1]] => some (((0 : Int) ≤ p2), ⟨.sc (.ro .u8 (FwtakeF p0 p1 p2)), [some (.cells [.ro .u8 (FwtakeF_1 p0 p1 p2), .b (FwtakeF_2 p0 p1 p2)])]⟩)
  | _, _ => none

noncomputable def BwtakeF : Bs := { P := Go.Proofs.Try.prog, G := noG, tab := tabOf [], n := 48 }

theorem BwtakeF.ok : BwtakeF.Ok := ⟨tabOk (P := Go.Proofs.Try.prog) (G := noG) (l := []) True.intro, mixed⟩

theorem KwtakeF : Known Go.Proofs.Try.prog noG 20 ⟨1, 0, SwtakeF⟩ := by
  refine Known.walk (B := BwtakeF) (fn := Go.Proofs.Try.f20) BwtakeF.ok (by kernel_rfl) rfl (by kernel_rfl) (by kernel_rfl) (by decide) (by decide) ?_
  · intro E args ks C r h hC hlen
    simp only at h
    unfold SwtakeF at h
    split at h
    rotate_left
    · cases h
    rename_i p2 p0 p1
    cases h
    simp only [lens] at hlen
    refine ⟨show 2 ≤ 48 from by decide, ?_⟩
    refine Tri.sub (Sub.of_eq (show _ = ([(0, .sc (.p 0 0)), (1, .sc (.i .i64 p2))], [(0, .cells [.ro .u8 p0, .b p1])]) from rfl)) ?_
    refine Tri.seq_region [] none [0, 1] [0] ((True ∧ True) ∧ True)
        ([(0, .sc (.p 0 0)), (1, .sc (.i .i64 p2))], [(0, .cells [.ro .u8 p0, .b p1])])
        32 (by kernel_rfl) rfl (by kernel_rfl) (⟨⟨trivial, trivial⟩, trivial⟩) ?_
    refine Tri.seq ?_
    refine Tri.split p1 (fun h1 => ?_) (fun h1 => ?_)
    ·
      refine Tri.seq_region [(14, qb true)] none [22, 0, 1] [0] ((True ∧ True) ∧ ((True ∧ True) ∧ ((True ∧ True) ∧ ((True ∧ True) ∧ ((True ∧ True) ∧ ((True ∧ True) ∧ (((1 < 2) ∧ True) ∧ ((True ∧ True) ∧ ((True ∧ (p1 = true)) ∧ ((True ∧ True) ∧ ((True ∧ True) ∧ ((True ∧ True) ∧ ((True ∧ True) ∧ ((True ∧ True) ∧ ((True ∧ True) ∧ ((True ∧ True) ∧ ((True ∧ True) ∧ True)))))))))))))))))
          ([(22, .sc (.b true)), (0, .sc (.p 0 0)), (1, .sc (.i .i64 p2))], [(0, .cells [.ro .u8 p0, .b p1])])
          304 (by kernel_rfl) rfl (by kernel_rfl) (⟨⟨trivial, trivial⟩, ⟨⟨trivial, trivial⟩, ⟨⟨trivial, trivial⟩, ⟨⟨trivial, trivial⟩, ⟨⟨trivial, trivial⟩, ⟨⟨trivial, trivial⟩, ⟨⟨(by first | omega | (rw [adr_eq]; omega) | exact iAnd_nn _ _ | exact iSub_nn _ _ | exact part1_le (by omega) (by first | omega | (simp only [List.length_append]; omega)) | decide), trivial⟩, ⟨⟨trivial, trivial⟩, ⟨⟨trivial, (h1)⟩, ⟨⟨trivial, trivial⟩, ⟨⟨trivial, trivial⟩, ⟨⟨trivial, trivial⟩, ⟨⟨trivial, trivial⟩, ⟨⟨trivial, trivial⟩, ⟨⟨trivial, trivial⟩, ⟨⟨trivial, trivial⟩, ⟨⟨trivial, trivial⟩, trivial⟩⟩⟩⟩⟩⟩⟩⟩⟩⟩⟩⟩⟩⟩⟩⟩⟩) ?_
      refine Tri.cond_true (by kernel_rfl) ?_
      refine Tri.seq ?_
      refine Tri.seq_region [] none [24, 0] [0] ((True ∧ True) ∧ ((True ∧ True) ∧ True))
          ([(24, .sc (.b true)), (0, .sc (.p 0 0))], [(0, .cells [.ro .u8 p0, .b p1])])
          336 (by kernel_rfl) rfl (by kernel_rfl) (⟨⟨trivial, trivial⟩, ⟨⟨trivial, trivial⟩, trivial⟩⟩) ?_
      refine Tri.cond_true (by kernel_rfl) ?_
      refine Tri.region' [] none [] [0] ((True ∧ True) ∧ ((True ∧ True) ∧ ((True ∧ True) ∧ ((True ∧ True) ∧ ((((1 < 2) ∧ (1 = 1)) ∧ True) ∧ ((True ∧ True) ∧ ((True ∧ True) ∧ ((((0 < 2) ∧ (1 = 1)) ∧ True) ∧ True))))))))
          ([], [(0, .cells [.nils, .b true])])
          464 (by kernel_rfl) rfl (by kernel_rfl) (⟨⟨trivial, trivial⟩, ⟨⟨trivial, trivial⟩, ⟨⟨trivial, trivial⟩, ⟨⟨trivial, trivial⟩, ⟨⟨⟨(by first | omega | (rw [adr_eq]; omega) | exact iAnd_nn _ _ | exact iSub_nn _ _ | exact part1_le (by omega) (by first | omega | (simp only [List.length_append]; omega)) | decide), (rfl)⟩, trivial⟩, ⟨⟨trivial, trivial⟩, ⟨⟨trivial, trivial⟩, ⟨⟨⟨(by first | omega | (rw [adr_eq]; omega) | exact iAnd_nn _ _ | exact iSub_nn _ _ | exact part1_le (by omega) (by first | omega | (simp only [List.length_append]; omega)) | decide), (rfl)⟩, trivial⟩, trivial⟩⟩⟩⟩⟩⟩⟩⟩) ?_
      change Tri _ _ _ _ _ _
      refine Tri.seq_region [] none [4] [0] ((True ∧ True) ∧ True)
          ([(4, .sc (.nils))], [(0, .cells [.nils, .b true])])
          480 (by kernel_rfl) rfl (by kernel_rfl) (⟨⟨trivial, trivial⟩, trivial⟩) ?_
      refine Tri.sub (Sub.nilRo 4 .u8 (by kernel_rfl)) ?_
      refine Tri.sub (Sub.nilCell (l := [.nils, .b true]) 0 0 .u8 (by kernel_rfl) (by kernel_rfl)) ?_
      refine Tri.ret ?_
      repeat (first | refine thenP_ret ?_ | refine blkP_ret ?_ | refine countP_ret ?_ | refine joinP_ret ?_ | refine iterP_ret ?_)
      refine endP.conv (r' := ⟨.sc (.ro .u8 ([] : List Int)), [some (.cells [.ro .u8 ([] : List Int), .b true])]⟩) (by simp only [FwtakeF, FwtakeF_1, FwtakeF_2, h1, sel_true, sel_false]) ?_
      exact endP.ret [(0, 0)] (True ∧ True) (by kernel_rfl) (by kernel_rfl) ⟨trivial, trivial⟩
    ·
      refine Tri.seq_region [(14, qb false)] none [22, 0, 1] [0] ((True ∧ True) ∧ ((True ∧ True) ∧ ((True ∧ True) ∧ ((True ∧ True) ∧ ((True ∧ True) ∧ ((True ∧ True) ∧ (((1 < 2) ∧ True) ∧ ((True ∧ True) ∧ ((True ∧ (p1 = false)) ∧ ((True ∧ True) ∧ ((True ∧ True) ∧ ((True ∧ True) ∧ ((True ∧ True) ∧ (((0 < 2) ∧ True) ∧ ((True ∧ True) ∧ ((True ∧ True) ∧ ((True ∧ True) ∧ True)))))))))))))))))
          ([(22, .sc (.b (decide ((p2 : Int) > ((p0.length : Nat) : Int))))), (0, .sc (.p 0 0)), (1, .sc (.i .i64 p2))], [(0, .cells [.ro .u8 p0, .b p1])])
          304 (by kernel_rfl) rfl (by kernel_rfl) (⟨⟨trivial, trivial⟩, ⟨⟨trivial, trivial⟩, ⟨⟨trivial, trivial⟩, ⟨⟨trivial, trivial⟩, ⟨⟨trivial, trivial⟩, ⟨⟨trivial, trivial⟩, ⟨⟨(by first | omega | (rw [adr_eq]; omega) | exact iAnd_nn _ _ | exact iSub_nn _ _ | exact part1_le (by omega) (by first | omega | (simp only [List.length_append]; omega)) | decide), trivial⟩, ⟨⟨trivial, trivial⟩, ⟨⟨trivial, (h1)⟩, ⟨⟨trivial, trivial⟩, ⟨⟨trivial, trivial⟩, ⟨⟨trivial, trivial⟩, ⟨⟨trivial, trivial⟩, ⟨⟨(by first | omega | (rw [adr_eq]; omega) | exact iAnd_nn _ _ | exact iSub_nn _ _ | exact part1_le (by omega) (by first | omega | (simp only [List.length_append]; omega)) | decide), trivial⟩, ⟨⟨trivial, trivial⟩, ⟨⟨trivial, trivial⟩, ⟨⟨trivial, trivial⟩, trivial⟩⟩⟩⟩⟩⟩⟩⟩⟩⟩⟩⟩⟩⟩⟩⟩⟩) ?_
      refine Tri.cond (x := (decide ((p2 : Int) > ((p0.length : Nat) : Int)))) (by kernel_rfl) (fun h2 => ?_) (fun h2 => ?_)
      ·
        have h2' := of_decide_eq_true h2
        refine Tri.seq ?_
        refine Tri.seq_region [] none [24, 0] [0] ((True ∧ True) ∧ ((True ∧ True) ∧ True))
            ([(24, .sc (.b true)), (0, .sc (.p 0 0))], [(0, .cells [.ro .u8 p0, .b p1])])
            336 (by kernel_rfl) rfl (by kernel_rfl) (⟨⟨trivial, trivial⟩, ⟨⟨trivial, trivial⟩, trivial⟩⟩) ?_
        refine Tri.cond_true (by kernel_rfl) ?_
        refine Tri.region' [] none [] [0] ((True ∧ True) ∧ ((True ∧ True) ∧ ((True ∧ True) ∧ ((True ∧ True) ∧ ((((1 < 2) ∧ (1 = 1)) ∧ True) ∧ ((True ∧ True) ∧ ((True ∧ True) ∧ ((((0 < 2) ∧ (1 = 1)) ∧ True) ∧ True))))))))
            ([], [(0, .cells [.nils, .b true])])
            464 (by kernel_rfl) rfl (by kernel_rfl) (⟨⟨trivial, trivial⟩, ⟨⟨trivial, trivial⟩, ⟨⟨trivial, trivial⟩, ⟨⟨trivial, trivial⟩, ⟨⟨⟨(by first | omega | (rw [adr_eq]; omega) | exact iAnd_nn _ _ | exact iSub_nn _ _ | exact part1_le (by omega) (by first | omega | (simp only [List.length_append]; omega)) | decide), (rfl)⟩, trivial⟩, ⟨⟨trivial, trivial⟩, ⟨⟨trivial, trivial⟩, ⟨⟨⟨(by first | omega | (rw [adr_eq]; omega) | exact iAnd_nn _ _ | exact iSub_nn _ _ | exact part1_le (by omega) (by first | omega | (simp only [List.length_append]; omega)) | decide), (rfl)⟩, trivial⟩, trivial⟩⟩⟩⟩⟩⟩⟩⟩) ?_
        change Tri _ _ _ _ _ _
        refine Tri.seq_region [] none [4] [0] ((True ∧ True) ∧ True)
            ([(4, .sc (.nils))], [(0, .cells [.nils, .b true])])
            480 (by kernel_rfl) rfl (by kernel_rfl) (⟨⟨trivial, trivial⟩, trivial⟩) ?_
        refine Tri.sub (Sub.nilRo 4 .u8 (by kernel_rfl)) ?_
        refine Tri.sub (Sub.nilCell (l := [.nils, .b true]) 0 0 .u8 (by kernel_rfl) (by kernel_rfl)) ?_
        refine Tri.ret ?_
        repeat (first | refine thenP_ret ?_ | refine blkP_ret ?_ | refine countP_ret ?_ | refine joinP_ret ?_ | refine iterP_ret ?_)
        refine endP.conv (r' := ⟨.sc (.ro .u8 ([] : List Int)), [some (.cells [.ro .u8 ([] : List Int), .b true])]⟩) (by simp only [FwtakeF, FwtakeF_1, FwtakeF_2, h1, h2, sel_true, sel_false]) ?_
        exact endP.ret [(0, 0)] (True ∧ True) (by kernel_rfl) (by kernel_rfl) ⟨trivial, trivial⟩
      ·
        have h2' := of_decide_eq_false h2
        refine Tri.skip ?_
        change Tri _ _ _ _ _ _
        refine Tri.seq_region [] none [5, 0, 1] [0] ((True ∧ True) ∧ ((True ∧ True) ∧ ((True ∧ True) ∧ (((0 < 2) ∧ True) ∧ ((True ∧ True) ∧ ((True ∧ True) ∧ ((((0 : Int) ≤ 0 ∧ (0 : Int) ≤ p2 ∧ (p2 : Int) ≤ p2 ∧ (p2 : Int) ≤ (p0.length : Int)) ∧ True) ∧ ((True ∧ True) ∧ True))))))))
            ([(5, .sc (.ro .u8 ((p0.drop 0).take (((p2).toNat) - 0)))), (0, .sc (.p 0 0)), (1, .sc (.i .i64 p2))], [(0, .cells [.ro .u8 p0, .b p1])])
            432 (by kernel_rfl) rfl (by kernel_rfl) (⟨⟨trivial, trivial⟩, ⟨⟨trivial, trivial⟩, ⟨⟨trivial, trivial⟩, ⟨⟨(by first | omega | (rw [adr_eq]; omega) | exact iAnd_nn _ _ | exact iSub_nn _ _ | exact part1_le (by omega) (by first | omega | (simp only [List.length_append]; omega)) | decide), trivial⟩, ⟨⟨trivial, trivial⟩, ⟨⟨trivial, trivial⟩, ⟨⟨(by first | omega | (rw [adr_eq]; omega) | exact iAnd_nn _ _ | exact iSub_nn _ _ | exact part1_le (by omega) (by first | omega | (simp only [List.length_append]; omega)) | decide), trivial⟩, ⟨⟨trivial, trivial⟩, trivial⟩⟩⟩⟩⟩⟩⟩⟩) ?_
        refine Tri.seq_region [] none [5] [0] ((True ∧ True) ∧ ((True ∧ True) ∧ ((True ∧ True) ∧ ((True ∧ True) ∧ (((0 < 2) ∧ True) ∧ ((True ∧ True) ∧ ((((0 : Int) ≤ p2 ∧ (p2 : Int) ≤ ((p0.length : Nat) : Int) ∧ ((p0.length : Nat) : Int) ≤ (p0.length : Int)) ∧ True) ∧ ((True ∧ True) ∧ ((True ∧ True) ∧ ((((0 < 2) ∧ (1 = 1)) ∧ True) ∧ True))))))))))
            ([(5, .sc (.ro .u8 ((p0.drop 0).take (((p2).toNat) - 0))))], [(0, .cells [.ro .u8 ((p0.drop ((p2).toNat)).take (p0.length - ((p2).toNat))), .b p1])])
            592 (by kernel_rfl) rfl (by kernel_rfl) (⟨⟨trivial, trivial⟩, ⟨⟨trivial, trivial⟩, ⟨⟨trivial, trivial⟩, ⟨⟨trivial, trivial⟩, ⟨⟨(by first | omega | (rw [adr_eq]; omega) | exact iAnd_nn _ _ | exact iSub_nn _ _ | exact part1_le (by omega) (by first | omega | (simp only [List.length_append]; omega)) | decide), trivial⟩, ⟨⟨trivial, trivial⟩, ⟨⟨(by first | omega | (rw [adr_eq]; omega) | exact iAnd_nn _ _ | exact iSub_nn _ _ | exact part1_le (by omega) (by first | omega | (simp only [List.length_append]; omega)) | decide), trivial⟩, ⟨⟨trivial, trivial⟩, ⟨⟨trivial, trivial⟩, ⟨⟨⟨(by first | omega | (rw [adr_eq]; omega) | exact iAnd_nn _ _ | exact iSub_nn _ _ | exact part1_le (by omega) (by first | omega | (simp only [List.length_append]; omega)) | decide), (rfl)⟩, trivial⟩, trivial⟩⟩⟩⟩⟩⟩⟩⟩⟩⟩) ?_
        refine Tri.seq_region [] none [4] [0] ((True ∧ True) ∧ ((True ∧ True) ∧ True))
            ([(4, .sc (.ro .u8 ((p0.drop 0).take (((p2).toNat) - 0))))], [(0, .cells [.ro .u8 ((p0.drop ((p2).toNat)).take (p0.length - ((p2).toNat))), .b p1])])
            624 (by kernel_rfl) rfl (by kernel_rfl) (⟨⟨trivial, trivial⟩, ⟨⟨trivial, trivial⟩, trivial⟩⟩) ?_
        refine Tri.ret ?_
        repeat (first | refine thenP_ret ?_ | refine blkP_ret ?_ | refine countP_ret ?_ | refine joinP_ret ?_ | refine iterP_ret ?_)
        refine endP.conv (r' := ⟨.sc (.ro .u8 ((p0.drop 0).take (((p2).toNat) - 0))), [some (.cells [.ro .u8 ((p0.drop ((p2).toNat)).take (p0.length - ((p2).toNat))), .b p1])]⟩) (by simp only [FwtakeF, FwtakeF_1, FwtakeF_2, h1, h2, sel_true, sel_false]) ?_
        exact endP.ret [(0, 0)] (True ∧ True) (by kernel_rfl) (by kernel_rfl) ⟨trivial, trivial⟩

theorem le_FwtakeF (p0 : List Int) (p1 : Bool) (p2 : Int) : (FwtakeF p0 p1 p2).length ≤ p2.toNat := by
  unfold FwtakeF
  cases p1
  · simp only [sel_false]
    cases (decide ((p2 : Int) > ((p0.length : Nat) : Int)))
    · simp only [sel_false, List.length_take, List.length_drop]; omega
    · simp only [sel_true, List.length_nil]; omega
  · simp only [sel_true, List.length_nil]; omega


noncomputable def SwtakeNilF : List AV → List Blk → Option (Prop × Ret)
  | [.sc (.nilp), .sc (.i .i64 p2)], [] => some (True, ⟨.sc (.ro .u8 ([] : List Int)), []⟩)
  | _, _ => none

noncomputable def BwtakeNilF : Bs := { P := Go.Proofs.Try.prog, G := noG, tab := tabOf [], n := 48 }

theorem BwtakeNilF.ok : BwtakeNilF.Ok := ⟨tabOk (P := Go.Proofs.Try.prog) (G := noG) (l := []) True.intro, mixed⟩

theorem KwtakeNilF : Known Go.Proofs.Try.prog noG 20 ⟨0, 0, SwtakeNilF⟩ := by
  refine Known.walk (B := BwtakeNilF) (fn := Go.Proofs.Try.f20) BwtakeNilF.ok (by kernel_rfl) rfl (by kernel_rfl) (by kernel_rfl) (by decide) (by decide) ?_
  · intro E args ks C r h hC hlen
    simp only at h
    unfold SwtakeNilF at h
    split at h
    rotate_left
    · cases h
    rename_i p2
    cases h
    simp only [lens] at hlen
    refine ⟨show 2 ≤ 48 from by decide, ?_⟩
    refine Tri.sub (Sub.of_eq (show _ = ([(0, .sc (.nilp)), (1, .sc (.i .i64 p2))], []) from rfl)) ?_
    refine Tri.seq_region [] none [0, 1] [] ((True ∧ True) ∧ True)
        ([(0, .sc (.nilp)), (1, .sc (.i .i64 p2))], [])
        32 (by kernel_rfl) rfl (by kernel_rfl) (⟨⟨trivial, trivial⟩, trivial⟩) ?_
    refine Tri.seq ?_
    refine Tri.seq_region [] none [22, 0, 1] [] ((True ∧ True) ∧ ((True ∧ True) ∧ ((True ∧ True) ∧ ((True ∧ True) ∧ ((True ∧ True) ∧ ((True ∧ True) ∧ ((True ∧ True) ∧ ((True ∧ True) ∧ ((True ∧ True) ∧ ((True ∧ True) ∧ ((True ∧ True) ∧ ((True ∧ True) ∧ ((True ∧ True) ∧ ((True ∧ True) ∧ ((True ∧ True) ∧ ((True ∧ True) ∧ ((True ∧ True) ∧ True)))))))))))))))))
        ([(22, .sc (.b true)), (0, .sc (.nilp)), (1, .sc (.i .i64 p2))], [])
        304 (by kernel_rfl) rfl (by kernel_rfl) (⟨⟨trivial, trivial⟩, ⟨⟨trivial, trivial⟩, ⟨⟨trivial, trivial⟩, ⟨⟨trivial, trivial⟩, ⟨⟨trivial, trivial⟩, ⟨⟨trivial, trivial⟩, ⟨⟨trivial, trivial⟩, ⟨⟨trivial, trivial⟩, ⟨⟨trivial, trivial⟩, ⟨⟨trivial, trivial⟩, ⟨⟨trivial, trivial⟩, ⟨⟨trivial, trivial⟩, ⟨⟨trivial, trivial⟩, ⟨⟨trivial, trivial⟩, ⟨⟨trivial, trivial⟩, ⟨⟨trivial, trivial⟩, ⟨⟨trivial, trivial⟩, trivial⟩⟩⟩⟩⟩⟩⟩⟩⟩⟩⟩⟩⟩⟩⟩⟩⟩) ?_
    refine Tri.cond_true (by kernel_rfl) ?_
    refine Tri.seq ?_
    refine Tri.seq_region [] none [24, 0] [] ((True ∧ True) ∧ ((True ∧ True) ∧ True))
        ([(24, .sc (.b false)), (0, .sc (.nilp))], [])
        336 (by kernel_rfl) rfl (by kernel_rfl) (⟨⟨trivial, trivial⟩, ⟨⟨trivial, trivial⟩, trivial⟩⟩) ?_
    refine Tri.cond_false (by kernel_rfl) ?_
    refine Tri.skip ?_
    change Tri _ _ _ _ _ _
    refine Tri.seq_region [] none [4] [] ((True ∧ True) ∧ True)
        ([(4, .sc (.nils))], [])
        352 (by kernel_rfl) rfl (by kernel_rfl) (⟨⟨trivial, trivial⟩, trivial⟩) ?_
    refine Tri.sub (Sub.nilRo 4 .u8 (by kernel_rfl)) ?_
    refine Tri.ret ?_
    repeat (first | refine thenP_ret ?_ | refine blkP_ret ?_ | refine countP_ret ?_ | refine joinP_ret ?_ | refine iterP_ret ?_)
    exact endP.ret [] (True ∧ True) (by kernel_rfl) (by kernel_rfl) ⟨trivial, trivial⟩




noncomputable def FwOk (p0 : List Int) (p1 : Bool) : Bool :=
  (!p1)

noncomputable def SwOk : List AV → List Blk → Option (Prop × Ret)
  | [.sc (.p 0 0)], [.cells [.ro .u8 p0, .b p1]] => some (True, ⟨.sc (.b (FwOk p0 p1)), [some (.cells [.ro .u8 p0, .b p1])]⟩)
  | _, _ => none

noncomputable def BwOk : Bs := { P := Go.Proofs.Try.prog, G := noG, tab := tabOf [], n := 12 }

theorem BwOk.ok : BwOk.Ok := ⟨tabOk (P := Go.Proofs.Try.prog) (G := noG) (l := []) True.intro, mixed⟩

theorem KwOk : Known Go.Proofs.Try.prog noG 21 ⟨1, 0, SwOk⟩ := by
  refine Known.walk (B := BwOk) (fn := Go.Proofs.Try.f21) BwOk.ok (by kernel_rfl) rfl (by kernel_rfl) (by kernel_rfl) (by decide) (by decide) ?_
  · intro E args ks C r h hC hlen
    simp only at h
    unfold SwOk at h
    split at h
    rotate_left
    · cases h
    rename_i p0 p1
    cases h
    simp only [lens] at hlen
    refine ⟨show 1 ≤ 12 from by decide, ?_⟩
    refine Tri.sub (Sub.of_eq (show _ = ([(0, .sc (.p 0 0))], [(0, .cells [.ro .u8 p0, .b p1])]) from rfl)) ?_
    refine Tri.seq_region [] none [0] [0] ((True ∧ True) ∧ True)
        ([(0, .sc (.p 0 0))], [(0, .cells [.ro .u8 p0, .b p1])])
        32 (by kernel_rfl) rfl (by kernel_rfl) (⟨⟨trivial, trivial⟩, trivial⟩) ?_
    refine Tri.seq_region [] none [2] [0] ((True ∧ True) ∧ ((True ∧ True) ∧ ((True ∧ True) ∧ ((True ∧ True) ∧ ((True ∧ True) ∧ ((True ∧ True) ∧ (((1 < 2) ∧ True) ∧ ((True ∧ True) ∧ ((True ∧ True) ∧ ((True ∧ True) ∧ True))))))))))
        ([(2, .sc (.b (!p1)))], [(0, .cells [.ro .u8 p0, .b p1])])
        192 (by kernel_rfl) rfl (by kernel_rfl) (⟨⟨trivial, trivial⟩, ⟨⟨trivial, trivial⟩, ⟨⟨trivial, trivial⟩, ⟨⟨trivial, trivial⟩, ⟨⟨trivial, trivial⟩, ⟨⟨trivial, trivial⟩, ⟨⟨(by first | omega | (rw [adr_eq]; omega) | exact iAnd_nn _ _ | exact iSub_nn _ _ | exact part1_le (by omega) (by first | omega | (simp only [List.length_append]; omega)) | decide), trivial⟩, ⟨⟨trivial, trivial⟩, ⟨⟨trivial, trivial⟩, ⟨⟨trivial, trivial⟩, trivial⟩⟩⟩⟩⟩⟩⟩⟩⟩⟩) ?_
    refine Tri.ret ?_
    repeat (first | refine thenP_ret ?_ | refine blkP_ret ?_ | refine countP_ret ?_ | refine joinP_ret ?_ | refine iterP_ret ?_)
    exact endP.ret [(0, 0)] (True ∧ True) (by kernel_rfl) (by kernel_rfl) ⟨trivial, trivial⟩




noncomputable def SwOkNil : List AV → List Blk → Option (Prop × Ret)
  | [.sc (.nilp)], [] => some (True, ⟨.sc (.b false), []⟩)
  | _, _ => none

noncomputable def BwOkNil : Bs := { P := Go.Proofs.Try.prog, G := noG, tab := tabOf [], n := 12 }

theorem BwOkNil.ok : BwOkNil.Ok := ⟨tabOk (P := Go.Proofs.Try.prog) (G := noG) (l := []) True.intro, mixed⟩

theorem KwOkNil : Known Go.Proofs.Try.prog noG 21 ⟨0, 0, SwOkNil⟩ := by
  refine Known.walk (B := BwOkNil) (fn := Go.Proofs.Try.f21) BwOkNil.ok (by kernel_rfl) rfl (by kernel_rfl) (by kernel_rfl) (by decide) (by decide) ?_
  · intro E args ks C r h hC hlen
    simp only at h
    unfold SwOkNil at h
    split at h
    rotate_left
    · cases h
    skip
    cases h
    simp only [lens] at hlen
    refine ⟨show 1 ≤ 12 from by decide, ?_⟩
    refine Tri.sub (Sub.of_eq (show _ = ([(0, .sc (.nilp))], []) from rfl)) ?_
    refine Tri.seq_region [] none [0] [] ((True ∧ True) ∧ True)
        ([(0, .sc (.nilp))], [])
        32 (by kernel_rfl) rfl (by kernel_rfl) (⟨⟨trivial, trivial⟩, trivial⟩) ?_
    refine Tri.seq_region [] none [2] [] ((True ∧ True) ∧ ((True ∧ True) ∧ ((True ∧ True) ∧ ((True ∧ True) ∧ ((True ∧ True) ∧ ((True ∧ True) ∧ ((True ∧ True) ∧ ((True ∧ True) ∧ ((True ∧ True) ∧ ((True ∧ True) ∧ True))))))))))
        ([(2, .sc (.b false))], [])
        192 (by kernel_rfl) rfl (by kernel_rfl) (⟨⟨trivial, trivial⟩, ⟨⟨trivial, trivial⟩, ⟨⟨trivial, trivial⟩, ⟨⟨trivial, trivial⟩, ⟨⟨trivial, trivial⟩, ⟨⟨trivial, trivial⟩, ⟨⟨trivial, trivial⟩, ⟨⟨trivial, trivial⟩, ⟨⟨trivial, trivial⟩, ⟨⟨trivial, trivial⟩, trivial⟩⟩⟩⟩⟩⟩⟩⟩⟩⟩) ?_
    refine Tri.ret ?_
    repeat (first | refine thenP_ret ?_ | refine blkP_ret ?_ | refine countP_ret ?_ | refine joinP_ret ?_ | refine iterP_ret ?_)
    exact endP.ret [] (True ∧ True) (by kernel_rfl) (by kernel_rfl) ⟨trivial, trivial⟩




noncomputable def FwEnd (p0 : List Int) (p1 : Bool) : Bool :=
  (sel (FwOk p0 p1) ((((p0.length : Nat) : Int) : Int) == 0) false)

noncomputable def SwEnd : List AV → List Blk → Option (Prop × Ret)
  | [.sc (.p 0 0)], [.cells [.ro .u8 p0, .b p1]] => some (True, ⟨.sc (.b (FwEnd p0 p1)), [some (.cells [.ro .u8 p0, .b p1])]⟩)
  | _, _ => none

noncomputable def BwEnd : Bs := { P := Go.Proofs.Try.prog, G := noG, tab := tabOf [⟨21, 48, [.io], [], [0], ⟨1, 0, SwOk⟩⟩], n := 13 }

theorem BwEnd.ok : BwEnd.Ok := ⟨tabOk (P := Go.Proofs.Try.prog) (G := noG) (l := [⟨21, 48, [.io], [], [0], ⟨1, 0, SwOk⟩⟩]) (And.intro KwOk True.intro), mixed⟩

theorem KwEnd : Known Go.Proofs.Try.prog noG 9 ⟨1, 0, SwEnd⟩ := by
  refine Known.walk (B := BwEnd) (fn := Go.Proofs.Try.f9) BwEnd.ok (by kernel_rfl) rfl (by kernel_rfl) (by kernel_rfl) (by decide) (by decide) ?_
  · intro E args ks C r h hC hlen
    simp only at h
    unfold SwEnd at h
    split at h
    rotate_left
    · cases h
    rename_i p0 p1
    cases h
    simp only [lens] at hlen
    refine ⟨show 1 ≤ 13 from by decide, ?_⟩
    refine Tri.sub (Sub.of_eq (show _ = ([(0, .sc (.p 0 0))], [(0, .cells [.ro .u8 p0, .b p1])]) from rfl)) ?_
    refine Tri.seq_region [] none [0] [0] ((True ∧ True) ∧ True)
        ([(0, .sc (.p 0 0))], [(0, .cells [.ro .u8 p0, .b p1])])
        32 (by kernel_rfl) rfl (by kernel_rfl) (⟨⟨trivial, trivial⟩, trivial⟩) ?_
    refine Tri.split (FwOk p0 p1) (fun h1 => ?_) (fun h1 => ?_)
    ·
      refine Tri.seq_region [(5, qb true)] none [2] [0] ((True ∧ True) ∧ (((True ∧ True) ∧ True) ∧ ((True ∧ ((FwOk p0 p1) = true)) ∧ ((True ∧ True) ∧ ((True ∧ True) ∧ ((True ∧ True) ∧ (((0 < 2) ∧ True) ∧ ((True ∧ True) ∧ ((True ∧ True) ∧ ((True ∧ True) ∧ ((True ∧ True) ∧ True)))))))))))
          ([(2, .sc (.b ((((p0.length : Nat) : Int) : Int) == 0)))], [(0, .cells [.ro .u8 p0, .b p1])])
          208 (by kernel_rfl) rfl (by kernel_rfl) (⟨⟨trivial, trivial⟩, ⟨⟨⟨trivial, trivial⟩, trivial⟩, ⟨⟨trivial, (h1)⟩, ⟨⟨trivial, trivial⟩, ⟨⟨trivial, trivial⟩, ⟨⟨trivial, trivial⟩, ⟨⟨(by first | omega | (rw [adr_eq]; omega) | exact iAnd_nn _ _ | exact iSub_nn _ _ | exact part1_le (by omega) (by first | omega | (simp only [List.length_append]; omega)) | decide), trivial⟩, ⟨⟨trivial, trivial⟩, ⟨⟨trivial, trivial⟩, ⟨⟨trivial, trivial⟩, ⟨⟨trivial, trivial⟩, trivial⟩⟩⟩⟩⟩⟩⟩⟩⟩⟩⟩) ?_
      refine Tri.ret ?_
      repeat (first | refine thenP_ret ?_ | refine blkP_ret ?_ | refine countP_ret ?_ | refine joinP_ret ?_ | refine iterP_ret ?_)
      refine endP.conv (r' := ⟨.sc (.b ((((p0.length : Nat) : Int) : Int) == 0)), [some (.cells [.ro .u8 p0, .b p1])]⟩) (by simp only [FwEnd, h1, sel_true, sel_false]) ?_
      exact endP.ret [(0, 0)] (True ∧ True) (by kernel_rfl) (by kernel_rfl) ⟨trivial, trivial⟩
    ·
      refine Tri.seq_region [(5, qb false)] none [2] [0] ((True ∧ True) ∧ (((True ∧ True) ∧ True) ∧ ((True ∧ ((FwOk p0 p1) = false)) ∧ ((True ∧ True) ∧ ((True ∧ True) ∧ ((True ∧ True) ∧ ((True ∧ True) ∧ ((True ∧ True) ∧ ((True ∧ True) ∧ ((True ∧ True) ∧ ((True ∧ True) ∧ True)))))))))))
          ([(2, .sc (.b false))], [(0, .cells [.ro .u8 p0, .b p1])])
          208 (by kernel_rfl) rfl (by kernel_rfl) (⟨⟨trivial, trivial⟩, ⟨⟨⟨trivial, trivial⟩, trivial⟩, ⟨⟨trivial, (h1)⟩, ⟨⟨trivial, trivial⟩, ⟨⟨trivial, trivial⟩, ⟨⟨trivial, trivial⟩, ⟨⟨trivial, trivial⟩, ⟨⟨trivial, trivial⟩, ⟨⟨trivial, trivial⟩, ⟨⟨trivial, trivial⟩, ⟨⟨trivial, trivial⟩, trivial⟩⟩⟩⟩⟩⟩⟩⟩⟩⟩⟩) ?_
      refine Tri.ret ?_
      repeat (first | refine thenP_ret ?_ | refine blkP_ret ?_ | refine countP_ret ?_ | refine joinP_ret ?_ | refine iterP_ret ?_)
      refine endP.conv (r' := ⟨.sc (.b false), [some (.cells [.ro .u8 p0, .b p1])]⟩) (by simp only [FwEnd, h1, sel_true, sel_false]) ?_
      exact endP.ret [(0, 0)] (True ∧ True) (by kernel_rfl) (by kernel_rfl) ⟨trivial, trivial⟩




noncomputable def SwEndNil : List AV → List Blk → Option (Prop × Ret)
  | [.sc (.nilp)], [] => some (True, ⟨.sc (.b false), []⟩)
  | _, _ => none

noncomputable def BwEndNil : Bs := { P := Go.Proofs.Try.prog, G := noG, tab := tabOf [⟨21, 48, [.val], [], [], ⟨0, 0, SwOkNil⟩⟩], n := 13 }

theorem BwEndNil.ok : BwEndNil.Ok := ⟨tabOk (P := Go.Proofs.Try.prog) (G := noG) (l := [⟨21, 48, [.val], [], [], ⟨0, 0, SwOkNil⟩⟩]) (And.intro KwOkNil True.intro), mixed⟩

theorem KwEndNil : Known Go.Proofs.Try.prog noG 9 ⟨0, 0, SwEndNil⟩ := by
  refine Known.walk (B := BwEndNil) (fn := Go.Proofs.Try.f9) BwEndNil.ok (by kernel_rfl) rfl (by kernel_rfl) (by kernel_rfl) (by decide) (by decide) ?_
  · intro E args ks C r h hC hlen
    simp only at h
    unfold SwEndNil at h
    split at h
    rotate_left
    · cases h
    skip
    cases h
    simp only [lens] at hlen
    refine ⟨show 1 ≤ 13 from by decide, ?_⟩
    refine Tri.sub (Sub.of_eq (show _ = ([(0, .sc (.nilp))], []) from rfl)) ?_
    refine Tri.seq_region [] none [0] [] ((True ∧ True) ∧ True)
        ([(0, .sc (.nilp))], [])
        32 (by kernel_rfl) rfl (by kernel_rfl) (⟨⟨trivial, trivial⟩, trivial⟩) ?_
    refine Tri.seq_region [] none [2] [] ((True ∧ True) ∧ (((True ∧ True) ∧ True) ∧ ((True ∧ True) ∧ ((True ∧ True) ∧ ((True ∧ True) ∧ ((True ∧ True) ∧ ((True ∧ True) ∧ ((True ∧ True) ∧ ((True ∧ True) ∧ ((True ∧ True) ∧ ((True ∧ True) ∧ True)))))))))))
        ([(2, .sc (.b false))], [])
        208 (by kernel_rfl) rfl (by kernel_rfl) (⟨⟨trivial, trivial⟩, ⟨⟨⟨trivial, trivial⟩, trivial⟩, ⟨⟨trivial, trivial⟩, ⟨⟨trivial, trivial⟩, ⟨⟨trivial, trivial⟩, ⟨⟨trivial, trivial⟩, ⟨⟨trivial, trivial⟩, ⟨⟨trivial, trivial⟩, ⟨⟨trivial, trivial⟩, ⟨⟨trivial, trivial⟩, ⟨⟨trivial, trivial⟩, trivial⟩⟩⟩⟩⟩⟩⟩⟩⟩⟩⟩) ?_
    refine Tri.ret ?_
    repeat (first | refine thenP_ret ?_ | refine blkP_ret ?_ | refine countP_ret ?_ | refine joinP_ret ?_ | refine iterP_ret ?_)
    exact endP.ret [] (True ∧ True) (by kernel_rfl) (by kernel_rfl) ⟨trivial, trivial⟩




noncomputable def FwU32l0 (p0 : List Int) (p1 : Bool) (k0 : Nat) (z0 : Int) : Int :=
  (iOr .u32 (iShl .u32 z0 8) (IntKind.wrap .u32 ((FwtakeF p0 p1 4).getD k0 0)))

noncomputable def FwU32 (p0 : List Int) (p1 : Bool) : Int :=
  (itr (FwU32l0 p0 p1) ((FwtakeF p0 p1 4).length) 0)

noncomputable def FwU32_1 (p0 : List Int) (p1 : Bool) : List Int :=
  (FwtakeF_1 p0 p1 4)

noncomputable def FwU32_2 (p0 : List Int) (p1 : Bool) : Bool :=
  (FwtakeF_2 p0 p1 4)

noncomputable def SwU32 : List AV → List Blk → Option (Prop × Ret)
  | [.sc (.p 0 0)], [.cells [.ro .u8 p0, .b p1]] => some (True, ⟨.sc (.i .u32 (FwU32 p0 p1)), [some (.cells [.ro .u8 (FwU32_1 p0 p1), .b (FwU32_2 p0 p1)])]⟩)
  | _, _ => none

noncomputable def BwU32 : Bs := { P := Go.Proofs.Try.prog, G := noG, tab := tabOf [⟨20, 64, [.io, .val], [], [0], ⟨1, 0, SwtakeF⟩⟩], n := 20 }

theorem BwU32.ok : BwU32.Ok := ⟨tabOk (P := Go.Proofs.Try.prog) (G := noG) (l := [⟨20, 64, [.io, .val], [], [0], ⟨1, 0, SwtakeF⟩⟩]) (And.intro KwtakeF True.intro), mixed⟩

theorem KwU32 : Known Go.Proofs.Try.prog noG 23 ⟨1, 0, SwU32⟩ := by
  refine Known.walk (B := BwU32) (fn := Go.Proofs.Try.f23) BwU32.ok (by kernel_rfl) rfl (by kernel_rfl) (by kernel_rfl) (by decide) (by decide) ?_
  · intro E args ks C r h hC hlen
    simp only at h
    unfold SwU32 at h
    split at h
    rotate_left
    · cases h
    rename_i p0 p1
    cases h
    simp only [lens] at hlen
    have hf0 : (FwtakeF p0 p1 4).length ≤ 4 := le_FwtakeF p0 p1 4
    refine ⟨show 1 ≤ 20 from by decide, ?_⟩
    refine Tri.sub (Sub.of_eq (show _ = ([(0, .sc (.p 0 0))], [(0, .cells [.ro .u8 p0, .b p1])]) from rfl)) ?_
    refine Tri.seq_region [] none [0] [0] ((True ∧ True) ∧ True)
        ([(0, .sc (.p 0 0))], [(0, .cells [.ro .u8 p0, .b p1])])
        32 (by kernel_rfl) rfl (by kernel_rfl) (⟨⟨trivial, trivial⟩, trivial⟩) ?_
    refine Tri.seq_region [] none [3, 0] [0] ((True ∧ True) ∧ True)
        ([(3, .sc (.i .u32 0)), (0, .sc (.p 0 0))], [(0, .cells [.ro .u8 p0, .b p1])])
        48 (by kernel_rfl) rfl (by kernel_rfl) (⟨⟨trivial, trivial⟩, trivial⟩) ?_
    refine Tri.seq ?_
    refine Tri.seq_region [] none [9, 8, 7, 3] [0] ((True ∧ True) ∧ (((True ∧ ((0 : Int) ≤ 4)) ∧ True) ∧ ((True ∧ True) ∧ ((True ∧ True) ∧ True))))
        ([(9, .sc (.i .i64 0)), (8, .sc (.i .i64 (((FwtakeF p0 p1 4).length : Nat) : Int))), (7, .sc (.ro .u8 (FwtakeF p0 p1 4))), (3, .sc (.i .u32 0))], [(0, .cells [.ro .u8 (FwtakeF_1 p0 p1 4), .b (FwtakeF_2 p0 p1 4)])])
        112 (by kernel_rfl) rfl (by kernel_rfl) (⟨⟨trivial, trivial⟩, ⟨⟨⟨trivial, (by first | omega | (rw [adr_eq]; omega) | exact iAnd_nn _ _ | exact iSub_nn _ _ | exact part1_le (by omega) (by first | omega | (simp only [List.length_append]; omega)) | decide)⟩, trivial⟩, ⟨⟨trivial, trivial⟩, ⟨⟨trivial, trivial⟩, trivial⟩⟩⟩⟩) ?_
    refine Tri.block ?_
    refine Tri.count 112 ((FwtakeF p0 p1 4).length) (FwU32l0 p0 p1) 0 (fun k0 z0 => True) (fun k0 z0 => ([(9, .sc (.i .i64 ((k0 : Nat) : Int))), (8, .sc (.i .i64 (((FwtakeF p0 p1 4).length : Nat) : Int))), (7, .sc (.ro .u8 (FwtakeF p0 p1 4))), (3, .sc (.i .u32 z0))], [(0, .cells [.ro .u8 (FwtakeF_1 p0 p1 4), .b (FwtakeF_2 p0 p1 4)])])) trivial (Sub.of_eq (by kernel_rfl)) ?_
    intro k0 z0 hk0 hz0 hJ0
    refine Tri.seq_region [] none [10, 9, 8, 7, 3] [0] ((True ∧ True) ∧ True)
        ([(10, .sc (.b (decide ((((k0 : Nat) : Int) : Int) < (((FwtakeF p0 p1 4).length : Nat) : Int))))), (9, .sc (.i .i64 ((k0 : Nat) : Int))), (8, .sc (.i .i64 (((FwtakeF p0 p1 4).length : Nat) : Int))), (7, .sc (.ro .u8 (FwtakeF p0 p1 4))), (3, .sc (.i .u32 z0))], [(0, .cells [.ro .u8 (FwtakeF_1 p0 p1 4), .b (FwtakeF_2 p0 p1 4)])])
        128 (by kernel_rfl) rfl (by kernel_rfl) (⟨⟨trivial, trivial⟩, trivial⟩) ?_
    refine Tri.seq ?_
    refine Tri.cond (x := (decide ((((k0 : Nat) : Int) : Int) < (((FwtakeF p0 p1 4).length : Nat) : Int)))) (by kernel_rfl) (fun h1 => ?_) (fun h1 => ?_)
    ·
      have h1' := of_decide_eq_true h1
      refine Tri.skip ?_
      change Tri _ _ _ _ _ _
      refine Tri.seq ?_
      refine Tri.block ?_
      refine Tri.seq_region [] none [5, 9, 8, 7, 3] [0] ((((0 : Int) ≤ ((k0 : Nat) : Int) ∧ ((k0 : Nat) : Int) < ((FwtakeF p0 p1 4).length : Int)) ∧ True) ∧ (((k0 < (FwtakeF p0 p1 4).length) ∧ True) ∧ ((True ∧ True) ∧ True)))
          ([(5, .sc (.i .u8 ((FwtakeF p0 p1 4).getD k0 0))), (9, .sc (.i .i64 ((k0 : Nat) : Int))), (8, .sc (.i .i64 (((FwtakeF p0 p1 4).length : Nat) : Int))), (7, .sc (.ro .u8 (FwtakeF p0 p1 4))), (3, .sc (.i .u32 z0))], [(0, .cells [.ro .u8 (FwtakeF_1 p0 p1 4), .b (FwtakeF_2 p0 p1 4)])])
          176 (by kernel_rfl) rfl (by kernel_rfl) (⟨⟨(by first | omega | (rw [adr_eq]; omega) | exact iAnd_nn _ _ | exact iSub_nn _ _ | exact part1_le (by omega) (by first | omega | (simp only [List.length_append]; omega)) | decide), trivial⟩, ⟨⟨(by first | omega | (rw [adr_eq]; omega) | exact iAnd_nn _ _ | exact iSub_nn _ _ | exact part1_le (by omega) (by first | omega | (simp only [List.length_append]; omega)) | decide), trivial⟩, ⟨⟨trivial, trivial⟩, trivial⟩⟩⟩) ?_
      refine Tri.region' [] none [3, 9, 8, 7] [0] ((True ∧ True) ∧ ((((0 : Int) ≤ 8) ∧ True) ∧ ((True ∧ True) ∧ ((True ∧ True) ∧ ((True ∧ True) ∧ ((True ∧ True) ∧ True))))))
          ([(3, .sc (.i .u32 (iOr .u32 (iShl .u32 z0 8) (IntKind.wrap .u32 ((FwtakeF p0 p1 4).getD k0 0))))), (9, .sc (.i .i64 ((k0 : Nat) : Int))), (8, .sc (.i .i64 (((FwtakeF p0 p1 4).length : Nat) : Int))), (7, .sc (.ro .u8 (FwtakeF p0 p1 4)))], [(0, .cells [.ro .u8 (FwtakeF_1 p0 p1 4), .b (FwtakeF_2 p0 p1 4)])])
          272 (by kernel_rfl) rfl (by kernel_rfl) (⟨⟨trivial, trivial⟩, ⟨⟨(by first | omega | (rw [adr_eq]; omega) | exact iAnd_nn _ _ | exact iSub_nn _ _ | exact part1_le (by omega) (by first | omega | (simp only [List.length_append]; omega)) | decide), trivial⟩, ⟨⟨trivial, trivial⟩, ⟨⟨trivial, trivial⟩, ⟨⟨trivial, trivial⟩, ⟨⟨trivial, trivial⟩, trivial⟩⟩⟩⟩⟩⟩) ?_
      change Tri _ _ _ _ _ _
      refine Tri.region' [(18, qi ((k0 + 1 : Nat) : Int))] none [9, 3, 8, 7] [0] ((True ∧ ((iAdd .i64 ((k0 : Nat) : Int) 1) = ((k0 + 1 : Nat) : Int))) ∧ ((True ∧ True) ∧ True))
          ([(9, .sc (.i .i64 ((k0 + 1 : Nat) : Int))), (3, .sc (.i .u32 (iOr .u32 (iShl .u32 z0 8) (IntKind.wrap .u32 ((FwtakeF p0 p1 4).getD k0 0))))), (8, .sc (.i .i64 (((FwtakeF p0 p1 4).length : Nat) : Int))), (7, .sc (.ro .u8 (FwtakeF p0 p1 4)))], [(0, .cells [.ro .u8 (FwtakeF_1 p0 p1 4), .b (FwtakeF_2 p0 p1 4)])])
          304 (by kernel_rfl) rfl (by kernel_rfl) (⟨⟨trivial, (iAdd_nat (a := k0) (b := 1) (by omega))⟩, ⟨⟨trivial, trivial⟩, trivial⟩⟩) ?_
      repeat (refine blkP_normal ?_)
      refine countP_normal (by omega) trivial ?_
      exact Sub.ren (ns := [(0, 0)]) (kf := [9, 8, 7, 3]) (by kernel_rfl) (by kernel_rfl)
    ·
      have h1' := of_decide_eq_false h1
      refine Tri.exit ?_
      have hend0 : k0 = ((FwtakeF p0 p1 4).length) := by (have := of_decide_eq_false h1; omega)
      subst hend0; subst hz0
      change Tri _ _ _ _ _ _
      refine Tri.seq_region [] none [2] [0] ((True ∧ True) ∧ ((True ∧ True) ∧ True))
          ([(2, .sc (.i .u32 (itr (FwU32l0 p0 p1) ((FwtakeF p0 p1 4).length) 0)))], [(0, .cells [.ro .u8 (FwtakeF_1 p0 p1 4), .b (FwtakeF_2 p0 p1 4)])])
          160 (by kernel_rfl) rfl (by kernel_rfl) (⟨⟨trivial, trivial⟩, ⟨⟨trivial, trivial⟩, trivial⟩⟩) ?_
      refine Tri.ret ?_
      repeat (first | refine thenP_ret ?_ | refine blkP_ret ?_ | refine countP_ret ?_ | refine joinP_ret ?_ | refine iterP_ret ?_)
      exact endP.ret [(0, 0)] (True ∧ True) (by kernel_rfl) (by kernel_rfl) ⟨trivial, trivial⟩

theorem in_FwU32 (p0 : List Int) (p1 : Bool) : 0 ≤ FwU32 p0 p1 ∧ FwU32 p0 p1 < 4294967296 := by
  have h0 : ∀ n, 0 ≤ itr (FwU32l0 p0 p1) n 0 ∧ itr (FwU32l0 p0 p1) n 0 < 4294967296 := by
    intro n
    cases n with
    | zero => rw [itr_zero]; decide
    | succ k => rw [itr_succ]; unfold FwU32l0 iOr; rw [wrap_u32]; omega
  exact h0 _
theorem nn_FwU32 (p0 : List Int) (p1 : Bool) : 0 ≤ IntKind.wrap .i64 (FwU32 p0 p1) := by
  have := in_FwU32 p0 p1
  rw [wrap_small (by omega) (by omega)]
  exact this.1


noncomputable def FwText (p0 : List Int) (p1 : Bool) : ByteArray :=
  (sel (decide (((FwU32 p0 p1) : Int) > 16384)) (⟨#[]⟩ : ByteArray) (bytesOf (FwtakeF (FwU32_1 p0 p1) (FwU32_2 p0 p1) (IntKind.wrap .i64 (FwU32 p0 p1)))))

noncomputable def FwText_1 (p0 : List Int) (p1 : Bool) : List Int :=
  (sel (decide (((FwU32 p0 p1) : Int) > 16384)) (FwtakeF_1 (FwU32_1 p0 p1) (FwU32_2 p0 p1) 1073741824) (FwtakeF_1 (FwU32_1 p0 p1) (FwU32_2 p0 p1) (IntKind.wrap .i64 (FwU32 p0 p1))))

noncomputable def FwText_2 (p0 : List Int) (p1 : Bool) : Bool :=
  (sel (decide (((FwU32 p0 p1) : Int) > 16384)) (FwtakeF_2 (FwU32_1 p0 p1) (FwU32_2 p0 p1) 1073741824) (FwtakeF_2 (FwU32_1 p0 p1) (FwU32_2 p0 p1) (IntKind.wrap .i64 (FwU32 p0 p1))))

noncomputable def SwText : List AV → List Blk → Option (Prop × Ret)
  | [.sc (.p 0 0)], [.cells [.ro .u8 p0, .b p1]] => some (True, ⟨.sc (.s (FwText p0 p1)), [some (.cells [.ro .u8 (FwText_1 p0 p1), .b (FwText_2 p0 p1)])]⟩)
  | _, _ => none

noncomputable def BwText : Bs := { P := Go.Proofs.Try.prog, G := noG, tab := tabOf [⟨20, 128, [.io, .val], [], [0], ⟨1, 0, SwtakeF⟩⟩, ⟨20, 160, [.io, .val], [], [0], ⟨1, 0, SwtakeF⟩⟩, ⟨23, 48, [.io], [], [0], ⟨1, 0, SwU32⟩⟩], n := 15 }

theorem BwText.ok : BwText.Ok := ⟨tabOk (P := Go.Proofs.Try.prog) (G := noG) (l := [⟨20, 128, [.io, .val], [], [0], ⟨1, 0, SwtakeF⟩⟩, ⟨20, 160, [.io, .val], [], [0], ⟨1, 0, SwtakeF⟩⟩, ⟨23, 48, [.io], [], [0], ⟨1, 0, SwU32⟩⟩]) (And.intro KwtakeF (And.intro KwtakeF (And.intro KwU32 True.intro))), mixed⟩

theorem KwText : Known Go.Proofs.Try.prog noG 19 ⟨1, 0, SwText⟩ := by
  refine Known.walk (B := BwText) (fn := Go.Proofs.Try.f19) BwText.ok (by kernel_rfl) rfl (by kernel_rfl) (by kernel_rfl) (by decide) (by decide) ?_
  · intro E args ks C r h hC hlen
    simp only at h
    unfold SwText at h
    split at h
    rotate_left
    · cases h
    rename_i p0 p1
    cases h
    simp only [lens] at hlen
    refine ⟨show 1 ≤ 15 from by decide, ?_⟩
    refine Tri.sub (Sub.of_eq (show _ = ([(0, .sc (.p 0 0))], [(0, .cells [.ro .u8 p0, .b p1])]) from rfl)) ?_
    refine Tri.seq_region [] none [0] [0] ((True ∧ True) ∧ True)
        ([(0, .sc (.p 0 0))], [(0, .cells [.ro .u8 p0, .b p1])])
        32 (by kernel_rfl) rfl (by kernel_rfl) (⟨⟨trivial, trivial⟩, trivial⟩) ?_
    refine Tri.seq_region [] none [3, 0] [0] ((True ∧ True) ∧ (((True ∧ True) ∧ True) ∧ ((True ∧ True) ∧ True)))
        ([(3, .sc (.i .u32 (FwU32 p0 p1))), (0, .sc (.p 0 0))], [(0, .cells [.ro .u8 (FwU32_1 p0 p1), .b (FwU32_2 p0 p1)])])
        80 (by kernel_rfl) rfl (by kernel_rfl) (⟨⟨trivial, trivial⟩, ⟨⟨⟨trivial, trivial⟩, trivial⟩, ⟨⟨trivial, trivial⟩, trivial⟩⟩⟩) ?_
    refine Tri.seq ?_
    refine Tri.seq_region [] none [7, 3, 0] [0] ((True ∧ True) ∧ ((True ∧ True) ∧ True))
        ([(7, .sc (.b (decide (((FwU32 p0 p1) : Int) > 16384)))), (3, .sc (.i .u32 (FwU32 p0 p1))), (0, .sc (.p 0 0))], [(0, .cells [.ro .u8 (FwU32_1 p0 p1), .b (FwU32_2 p0 p1)])])
        112 (by kernel_rfl) rfl (by kernel_rfl) (⟨⟨trivial, trivial⟩, ⟨⟨trivial, trivial⟩, trivial⟩⟩) ?_
    refine Tri.cond (x := (decide (((FwU32 p0 p1) : Int) > 16384))) (by kernel_rfl) (fun h1 => ?_) (fun h1 => ?_)
    ·
      have h1' := of_decide_eq_true h1
      refine Tri.seq_region [] none [] [0] ((True ∧ True) ∧ (((True ∧ ((0 : Int) ≤ 1073741824)) ∧ True) ∧ True))
          ([], [(0, .cells [.ro .u8 (FwtakeF_1 (FwU32_1 p0 p1) (FwU32_2 p0 p1) 1073741824), .b (FwtakeF_2 (FwU32_1 p0 p1) (FwU32_2 p0 p1) 1073741824)])])
          144 (by kernel_rfl) rfl (by kernel_rfl) (⟨⟨trivial, trivial⟩, ⟨⟨⟨trivial, (by first | omega | exact nn_FwU32 _ _ | decide)⟩, trivial⟩, trivial⟩⟩) ?_
      refine Tri.seq_region [] none [2] [0] ((True ∧ True) ∧ True)
          ([(2, .sc (.s (⟨#[]⟩ : ByteArray)))], [(0, .cells [.ro .u8 (FwtakeF_1 (FwU32_1 p0 p1) (FwU32_2 p0 p1) 1073741824), .b (FwtakeF_2 (FwU32_1 p0 p1) (FwU32_2 p0 p1) 1073741824)])])
          160 (by kernel_rfl) rfl (by kernel_rfl) (⟨⟨trivial, trivial⟩, trivial⟩) ?_
      refine Tri.ret ?_
      repeat (first | refine thenP_ret ?_ | refine blkP_ret ?_ | refine countP_ret ?_ | refine joinP_ret ?_ | refine iterP_ret ?_)
      refine endP.conv (r' := ⟨.sc (.s (⟨#[]⟩ : ByteArray)), [some (.cells [.ro .u8 (FwtakeF_1 (FwU32_1 p0 p1) (FwU32_2 p0 p1) 1073741824), .b (FwtakeF_2 (FwU32_1 p0 p1) (FwU32_2 p0 p1) 1073741824)])]⟩) (by simp only [FwText, FwText_1, FwText_2, h1, sel_true, sel_false]) ?_
      exact endP.ret [(0, 0)] (True ∧ True) (by kernel_rfl) (by kernel_rfl) ⟨trivial, trivial⟩
    ·
      have h1' := of_decide_eq_false h1
      refine Tri.skip ?_
      change Tri _ _ _ _ _ _
      refine Tri.seq_region [] none [2] [0] ((True ∧ True) ∧ ((True ∧ True) ∧ ((True ∧ True) ∧ (((True ∧ ((0 : Int) ≤ (IntKind.wrap .i64 (FwU32 p0 p1)))) ∧ True) ∧ ((True ∧ True) ∧ ((True ∧ True) ∧ True))))))
          ([(2, .sc (.s (bytesOf (FwtakeF (FwU32_1 p0 p1) (FwU32_2 p0 p1) (IntKind.wrap .i64 (FwU32 p0 p1))))))], [(0, .cells [.ro .u8 (FwtakeF_1 (FwU32_1 p0 p1) (FwU32_2 p0 p1) (IntKind.wrap .i64 (FwU32 p0 p1))), .b (FwtakeF_2 (FwU32_1 p0 p1) (FwU32_2 p0 p1) (IntKind.wrap .i64 (FwU32 p0 p1)))])])
          208 (by kernel_rfl) rfl (by kernel_rfl) (⟨⟨trivial, trivial⟩, ⟨⟨trivial, trivial⟩, ⟨⟨trivial, trivial⟩, ⟨⟨⟨trivial, (by first | omega | exact nn_FwU32 _ _ | decide)⟩, trivial⟩, ⟨⟨trivial, trivial⟩, ⟨⟨trivial, trivial⟩, trivial⟩⟩⟩⟩⟩⟩) ?_
      refine Tri.ret ?_
      repeat (first | refine thenP_ret ?_ | refine blkP_ret ?_ | refine countP_ret ?_ | refine joinP_ret ?_ | refine iterP_ret ?_)
      refine endP.conv (r' := ⟨.sc (.s (bytesOf (FwtakeF (FwU32_1 p0 p1) (FwU32_2 p0 p1) (IntKind.wrap .i64 (FwU32 p0 p1))))), [some (.cells [.ro .u8 (FwtakeF_1 (FwU32_1 p0 p1) (FwU32_2 p0 p1) (IntKind.wrap .i64 (FwU32 p0 p1))), .b (FwtakeF_2 (FwU32_1 p0 p1) (FwU32_2 p0 p1) (IntKind.wrap .i64 (FwU32 p0 p1)))])]⟩) (by simp only [FwText, FwText_1, FwText_2, h1, sel_true, sel_false]) ?_
      exact endP.ret [(0, 0)] (True ∧ True) (by kernel_rfl) (by kernel_rfl) ⟨trivial, trivial⟩

theorem size_FwText (p0 : List Int) (p1 : Bool) : (FwText p0 p1).size ≤ 16384 := by
  unfold FwText
  cases h : (decide (((FwU32 p0 p1) : Int) > 16384))
  · have h0 := of_decide_eq_false h
    have h1 := in_FwU32 p0 p1
    have h2 := le_FwtakeF (FwU32_1 p0 p1) (FwU32_2 p0 p1) (IntKind.wrap .i64 (FwU32 p0 p1))
    rw [wrap_small (by omega) (by omega)] at h2 ⊢
    rw [sel_false]
    have h3 : ∀ xs : List Int, (bytesOf xs).size = xs.length := fun xs => by simp [bytesOf, ByteArray.size]
    rw [h3]
    omega
  · rw [sel_true]; decide


noncomputable def FwInt (p0 : List Int) (p1 : Bool) : List Int :=
  (sel (decide (((((FwText p0 p1).size : Nat) : Int) : Int) > 0)) (sel (decide (((bytesI (FwText p0 p1)).getD 0 0 : Int) ≥ 128)) ([] : List Int) (sel (((bytesI (FwText p0 p1)).getD 0 0 : Int) == 0) (sel (((((FwText p0 p1).size : Nat) : Int) : Int) == 1) ([] : List Int) (sel (decide (((bytesI (FwText p0 p1)).getD 1 0 : Int) < 128)) ([] : List Int) (part1 (bytesI (FwText p0 p1)) ((FwText p0 p1).size) 1 (((FwText p0 p1).size) - 1)))) (part1 (bytesI (FwText p0 p1)) ((FwText p0 p1).size) 0 ((FwText p0 p1).size)))) (part1 (bytesI (FwText p0 p1)) ((FwText p0 p1).size) 0 ((FwText p0 p1).size)))

noncomputable def FwInt_1 (p0 : List Int) (p1 : Bool) : List Int :=
  (sel (decide (((((FwText p0 p1).size : Nat) : Int) : Int) > 0)) (sel (decide (((bytesI (FwText p0 p1)).getD 0 0 : Int) ≥ 128)) (FwtakeF_1 (FwText_1 p0 p1) (FwText_2 p0 p1) 1073741824) (sel (((bytesI (FwText p0 p1)).getD 0 0 : Int) == 0) (sel (((((FwText p0 p1).size : Nat) : Int) : Int) == 1) (FwtakeF_1 (FwText_1 p0 p1) (FwText_2 p0 p1) 1073741824) (sel (decide (((bytesI (FwText p0 p1)).getD 1 0 : Int) < 128)) (FwtakeF_1 (FwText_1 p0 p1) (FwText_2 p0 p1) 1073741824) (FwText_1 p0 p1))) (FwText_1 p0 p1))) (FwText_1 p0 p1))

noncomputable def FwInt_2 (p0 : List Int) (p1 : Bool) : Bool :=
  (sel (decide (((((FwText p0 p1).size : Nat) : Int) : Int) > 0)) (sel (decide (((bytesI (FwText p0 p1)).getD 0 0 : Int) ≥ 128)) (FwtakeF_2 (FwText_1 p0 p1) (FwText_2 p0 p1) 1073741824) (sel (((bytesI (FwText p0 p1)).getD 0 0 : Int) == 0) (sel (((((FwText p0 p1).size : Nat) : Int) : Int) == 1) (FwtakeF_2 (FwText_1 p0 p1) (FwText_2 p0 p1) 1073741824) (sel (decide (((bytesI (FwText p0 p1)).getD 1 0 : Int) < 128)) (FwtakeF_2 (FwText_1 p0 p1) (FwText_2 p0 p1) 1073741824) (FwText_2 p0 p1))) (FwText_2 p0 p1))) (FwText_2 p0 p1))

noncomputable def SwInt : List AV → List Blk → Option (Prop × Ret)
  | [.sc (.p 0 0)], [.cells [.ro .u8 p0, .b p1]] => some (True, ⟨.sc (.ro .u8 (FwInt p0 p1)), [some (.cells [.ro .u8 (FwInt_1 p0 p1), .b (FwInt_2 p0 p1)])]⟩)
  | _, _ => none

noncomputable def BwInt : Bs := { P := Go.Proofs.Try.prog, G := noG, tab := tabOf [⟨19, 48, [.io], [], [0], ⟨1, 0, SwText⟩⟩, ⟨20, 528, [.io, .val], [], [0], ⟨1, 0, SwtakeF⟩⟩], n := 47 }

theorem BwInt.ok : BwInt.Ok := ⟨tabOk (P := Go.Proofs.Try.prog) (G := noG) (l := [⟨19, 48, [.io], [], [0], ⟨1, 0, SwText⟩⟩, ⟨20, 528, [.io, .val], [], [0], ⟨1, 0, SwtakeF⟩⟩]) (And.intro KwText (And.intro KwtakeF True.intro)), mixed⟩

theorem KwInt : Known Go.Proofs.Try.prog noG 8 ⟨1, 0, SwInt⟩ := by
  refine Known.walk (B := BwInt) (fn := Go.Proofs.Try.f8) BwInt.ok (by kernel_rfl) rfl (by kernel_rfl) (by kernel_rfl) (by decide) (by decide) ?_
  · intro E args ks C r h hC hlen
    simp only at h
    unfold SwInt at h
    split at h
    rotate_left
    · cases h
    rename_i p0 p1
    cases h
    simp only [lens] at hlen
    refine ⟨show 1 ≤ 47 from by decide, ?_⟩
    refine Tri.sub (Sub.of_eq (show _ = ([(0, .sc (.p 0 0))], [(0, .cells [.ro .u8 p0, .b p1])]) from rfl)) ?_
    refine Tri.seq_region [] none [0] [0] ((True ∧ True) ∧ True)
        ([(0, .sc (.p 0 0))], [(0, .cells [.ro .u8 p0, .b p1])])
        32 (by kernel_rfl) rfl (by kernel_rfl) (⟨⟨trivial, trivial⟩, trivial⟩) ?_
    refine Tri.seq_region [] none [3, 0] [64, 0] ((True ∧ True) ∧ (((True ∧ True) ∧ True) ∧ ((True ∧ True) ∧ ((True ∧ True) ∧ True))))
        ([(3, .sc (.sl 64 0 ((FwText p0 p1).size) 1 none)), (0, .sc (.p 0 0))], [(64, .ints .u8 ((FwText p0 p1).size) (bytesI (FwText p0 p1))), (0, .cells [.ro .u8 (FwText_1 p0 p1), .b (FwText_2 p0 p1)])])
        96 (by kernel_rfl) rfl (by kernel_rfl) (⟨⟨trivial, trivial⟩, ⟨⟨⟨trivial, trivial⟩, trivial⟩, ⟨⟨trivial, trivial⟩, ⟨⟨trivial, trivial⟩, trivial⟩⟩⟩⟩) ?_
    refine Tri.seq ?_
    refine Tri.split (decide (((((FwText p0 p1).size : Nat) : Int) : Int) > 0)) (fun h1 => ?_) (fun h1 => ?_)
    ·
      have h1' := of_decide_eq_true h1
      refine Tri.split (decide (((bytesI (FwText p0 p1)).getD 0 0 : Int) ≥ 128)) (fun h2 => ?_) (fun h2 => ?_)
      ·
        have h2' := of_decide_eq_true h2
        refine Tri.len 64 rfl (fun hl3 => ?_)
        refine Tri.seq_region [(10, qb true), (15, qb true)] none [32, 3, 0] [64, 0] ((True ∧ True) ∧ ((True ∧ True) ∧ ((True ∧ True) ∧ ((True ∧ ((decide (((((FwText p0 p1).size : Nat) : Int) : Int) > 0)) = true)) ∧ ((True ∧ True) ∧ ((((0 : Int) ≤ 0 ∧ 0 < (((FwText p0 p1).size : Nat) : Int)) ∧ True) ∧ (((0 < (FwText p0 p1).size) ∧ True) ∧ ((True ∧ True) ∧ ((True ∧ ((decide (((bytesI (FwText p0 p1)).getD 0 0 : Int) ≥ 128)) = true)) ∧ ((True ∧ True) ∧ ((True ∧ True) ∧ ((True ∧ True) ∧ ((True ∧ True) ∧ ((True ∧ True) ∧ ((True ∧ True) ∧ ((True ∧ True) ∧ ((True ∧ True) ∧ ((True ∧ True) ∧ ((True ∧ True) ∧ ((True ∧ True) ∧ ((True ∧ True) ∧ ((True ∧ True) ∧ ((True ∧ True) ∧ ((True ∧ True) ∧ ((True ∧ True) ∧ ((True ∧ True) ∧ True))))))))))))))))))))))))))
            ([(32, .sc (.b true)), (3, .sc (.sl 64 0 ((FwText p0 p1).size) 1 none)), (0, .sc (.p 0 0))], [(64, .ints .u8 ((FwText p0 p1).size) (bytesI (FwText p0 p1))), (0, .cells [.ro .u8 (FwText_1 p0 p1), .b (FwText_2 p0 p1)])])
            512 (by kernel_rfl) rfl (by kernel_rfl) (⟨⟨trivial, trivial⟩, ⟨⟨trivial, trivial⟩, ⟨⟨trivial, trivial⟩, ⟨⟨trivial, (h1)⟩, ⟨⟨trivial, trivial⟩, ⟨⟨(by first | omega | (rw [adr_eq]; omega) | exact iAnd_nn _ _ | exact iSub_nn _ _ | exact part1_le (by omega) (by first | omega | (simp only [List.length_append]; omega)) | decide), trivial⟩, ⟨⟨(by first | omega | (rw [adr_eq]; omega) | exact iAnd_nn _ _ | exact iSub_nn _ _ | exact part1_le (by omega) (by first | omega | (simp only [List.length_append]; omega)) | decide), trivial⟩, ⟨⟨trivial, trivial⟩, ⟨⟨trivial, (h2)⟩, ⟨⟨trivial, trivial⟩, ⟨⟨trivial, trivial⟩, ⟨⟨trivial, trivial⟩, ⟨⟨trivial, trivial⟩, ⟨⟨trivial, trivial⟩, ⟨⟨trivial, trivial⟩, ⟨⟨trivial, trivial⟩, ⟨⟨trivial, trivial⟩, ⟨⟨trivial, trivial⟩, ⟨⟨trivial, trivial⟩, ⟨⟨trivial, trivial⟩, ⟨⟨trivial, trivial⟩, ⟨⟨trivial, trivial⟩, ⟨⟨trivial, trivial⟩, ⟨⟨trivial, trivial⟩, ⟨⟨trivial, trivial⟩, ⟨⟨trivial, trivial⟩, trivial⟩⟩⟩⟩⟩⟩⟩⟩⟩⟩⟩⟩⟩⟩⟩⟩⟩⟩⟩⟩⟩⟩⟩⟩⟩⟩) ?_
        refine Tri.cond_true (by kernel_rfl) ?_
        refine Tri.len 64 rfl (fun hl4 => ?_)
        refine Tri.seq_region [] none [] [0] ((True ∧ True) ∧ (((True ∧ ((0 : Int) ≤ 1073741824)) ∧ True) ∧ True))
            ([], [(0, .cells [.ro .u8 (FwtakeF_1 (FwText_1 p0 p1) (FwText_2 p0 p1) 1073741824), .b (FwtakeF_2 (FwText_1 p0 p1) (FwText_2 p0 p1) 1073741824)])])
            544 (by kernel_rfl) rfl (by kernel_rfl) (⟨⟨trivial, trivial⟩, ⟨⟨⟨trivial, (by first | omega | (rw [adr_eq]; omega) | exact iAnd_nn _ _ | exact iSub_nn _ _ | exact part1_le (by omega) (by first | omega | (simp only [List.length_append]; omega)) | decide)⟩, trivial⟩, trivial⟩⟩) ?_
        refine Tri.seq_region [] none [2] [0] ((True ∧ True) ∧ True)
            ([(2, .sc (.nils))], [(0, .cells [.ro .u8 (FwtakeF_1 (FwText_1 p0 p1) (FwText_2 p0 p1) 1073741824), .b (FwtakeF_2 (FwText_1 p0 p1) (FwText_2 p0 p1) 1073741824)])])
            560 (by kernel_rfl) rfl (by kernel_rfl) (⟨⟨trivial, trivial⟩, trivial⟩) ?_
        refine Tri.sub (Sub.nilRo 2 .u8 (by kernel_rfl)) ?_
        refine Tri.ret ?_
        repeat (first | refine thenP_ret ?_ | refine blkP_ret ?_ | refine countP_ret ?_ | refine joinP_ret ?_ | refine iterP_ret ?_)
        refine endP.conv (r' := ⟨.sc (.ro .u8 ([] : List Int)), [some (.cells [.ro .u8 (FwtakeF_1 (FwText_1 p0 p1) (FwText_2 p0 p1) 1073741824), .b (FwtakeF_2 (FwText_1 p0 p1) (FwText_2 p0 p1) 1073741824)])]⟩) (by simp only [FwInt, FwInt_1, FwInt_2, h1, h2, sel_true, sel_false]) ?_
        exact endP.ret [(0, 0)] (True ∧ True) (by kernel_rfl) (by kernel_rfl) ⟨trivial, trivial⟩
      ·
        have h2' := of_decide_eq_false h2
        refine Tri.split (((bytesI (FwText p0 p1)).getD 0 0 : Int) == 0) (fun h5 => ?_) (fun h5 => ?_)
        ·
          have h5' := eq_true_i h5
          refine Tri.split (((((FwText p0 p1).size : Nat) : Int) : Int) == 1) (fun h6 => ?_) (fun h6 => ?_)
          ·
            have h6' := eq_true_i h6
            refine Tri.len 64 rfl (fun hl7 => ?_)
            refine Tri.seq_region [(10, qb true), (15, qb false), (20, qb true), (24, qb true)] none [32, 3, 0] [64, 0] ((True ∧ True) ∧ ((True ∧ True) ∧ ((True ∧ True) ∧ ((True ∧ ((decide (((((FwText p0 p1).size : Nat) : Int) : Int) > 0)) = true)) ∧ ((True ∧ True) ∧ ((((0 : Int) ≤ 0 ∧ 0 < (((FwText p0 p1).size : Nat) : Int)) ∧ True) ∧ (((0 < (FwText p0 p1).size) ∧ True) ∧ ((True ∧ True) ∧ ((True ∧ ((decide (((bytesI (FwText p0 p1)).getD 0 0 : Int) ≥ 128)) = false)) ∧ ((True ∧ True) ∧ ((((0 : Int) ≤ 0 ∧ 0 < (((FwText p0 p1).size : Nat) : Int)) ∧ True) ∧ (((0 < (FwText p0 p1).size) ∧ True) ∧ ((True ∧ True) ∧ ((True ∧ ((((bytesI (FwText p0 p1)).getD 0 0 : Int) == 0) = true)) ∧ ((True ∧ True) ∧ ((True ∧ True) ∧ ((True ∧ True) ∧ ((True ∧ ((((((FwText p0 p1).size : Nat) : Int) : Int) == 1) = true)) ∧ ((True ∧ True) ∧ ((True ∧ True) ∧ ((True ∧ True) ∧ ((True ∧ True) ∧ ((True ∧ True) ∧ ((True ∧ True) ∧ ((True ∧ True) ∧ ((True ∧ True) ∧ True))))))))))))))))))))))))))
                ([(32, .sc (.b true)), (3, .sc (.sl 64 0 ((FwText p0 p1).size) 1 none)), (0, .sc (.p 0 0))], [(64, .ints .u8 ((FwText p0 p1).size) (bytesI (FwText p0 p1))), (0, .cells [.ro .u8 (FwText_1 p0 p1), .b (FwText_2 p0 p1)])])
                512 (by kernel_rfl) rfl (by kernel_rfl) (⟨⟨trivial, trivial⟩, ⟨⟨trivial, trivial⟩, ⟨⟨trivial, trivial⟩, ⟨⟨trivial, (h1)⟩, ⟨⟨trivial, trivial⟩, ⟨⟨(by first | omega | (rw [adr_eq]; omega) | exact iAnd_nn _ _ | exact iSub_nn _ _ | exact part1_le (by omega) (by first | omega | (simp only [List.length_append]; omega)) | decide), trivial⟩, ⟨⟨(by first | omega | (rw [adr_eq]; omega) | exact iAnd_nn _ _ | exact iSub_nn _ _ | exact part1_le (by omega) (by first | omega | (simp only [List.length_append]; omega)) | decide), trivial⟩, ⟨⟨trivial, trivial⟩, ⟨⟨trivial, (h2)⟩, ⟨⟨trivial, trivial⟩, ⟨⟨(by first | omega | (rw [adr_eq]; omega) | exact iAnd_nn _ _ | exact iSub_nn _ _ | exact part1_le (by omega) (by first | omega | (simp only [List.length_append]; omega)) | decide), trivial⟩, ⟨⟨(by first | omega | (rw [adr_eq]; omega) | exact iAnd_nn _ _ | exact iSub_nn _ _ | exact part1_le (by omega) (by first | omega | (simp only [List.length_append]; omega)) | decide), trivial⟩, ⟨⟨trivial, trivial⟩, ⟨⟨trivial, (h5)⟩, ⟨⟨trivial, trivial⟩, ⟨⟨trivial, trivial⟩, ⟨⟨trivial, trivial⟩, ⟨⟨trivial, (h6)⟩, ⟨⟨trivial, trivial⟩, ⟨⟨trivial, trivial⟩, ⟨⟨trivial, trivial⟩, ⟨⟨trivial, trivial⟩, ⟨⟨trivial, trivial⟩, ⟨⟨trivial, trivial⟩, ⟨⟨trivial, trivial⟩, ⟨⟨trivial, trivial⟩, trivial⟩⟩⟩⟩⟩⟩⟩⟩⟩⟩⟩⟩⟩⟩⟩⟩⟩⟩⟩⟩⟩⟩⟩⟩⟩⟩) ?_
            refine Tri.cond_true (by kernel_rfl) ?_
            refine Tri.len 64 rfl (fun hl8 => ?_)
            refine Tri.seq_region [] none [] [0] ((True ∧ True) ∧ (((True ∧ ((0 : Int) ≤ 1073741824)) ∧ True) ∧ True))
                ([], [(0, .cells [.ro .u8 (FwtakeF_1 (FwText_1 p0 p1) (FwText_2 p0 p1) 1073741824), .b (FwtakeF_2 (FwText_1 p0 p1) (FwText_2 p0 p1) 1073741824)])])
                544 (by kernel_rfl) rfl (by kernel_rfl) (⟨⟨trivial, trivial⟩, ⟨⟨⟨trivial, (by first | omega | (rw [adr_eq]; omega) | exact iAnd_nn _ _ | exact iSub_nn _ _ | exact part1_le (by omega) (by first | omega | (simp only [List.length_append]; omega)) | decide)⟩, trivial⟩, trivial⟩⟩) ?_
            refine Tri.seq_region [] none [2] [0] ((True ∧ True) ∧ True)
                ([(2, .sc (.nils))], [(0, .cells [.ro .u8 (FwtakeF_1 (FwText_1 p0 p1) (FwText_2 p0 p1) 1073741824), .b (FwtakeF_2 (FwText_1 p0 p1) (FwText_2 p0 p1) 1073741824)])])
                560 (by kernel_rfl) rfl (by kernel_rfl) (⟨⟨trivial, trivial⟩, trivial⟩) ?_
            refine Tri.sub (Sub.nilRo 2 .u8 (by kernel_rfl)) ?_
            refine Tri.ret ?_
            repeat (first | refine thenP_ret ?_ | refine blkP_ret ?_ | refine countP_ret ?_ | refine joinP_ret ?_ | refine iterP_ret ?_)
            refine endP.conv (r' := ⟨.sc (.ro .u8 ([] : List Int)), [some (.cells [.ro .u8 (FwtakeF_1 (FwText_1 p0 p1) (FwText_2 p0 p1) 1073741824), .b (FwtakeF_2 (FwText_1 p0 p1) (FwText_2 p0 p1) 1073741824)])]⟩) (by simp only [FwInt, FwInt_1, FwInt_2, h1, h2, h5, h6, sel_true, sel_false]) ?_
            exact endP.ret [(0, 0)] (True ∧ True) (by kernel_rfl) (by kernel_rfl) ⟨trivial, trivial⟩
          ·
            have h6' := eq_false_i h6
            refine Tri.len 64 rfl (fun hl9 => ?_)
            refine Tri.seq_region [(10, qb true), (15, qb false), (20, qb true), (24, qb false)] none [32, 3, 0] [64, 0] ((True ∧ True) ∧ ((True ∧ True) ∧ ((True ∧ True) ∧ ((True ∧ ((decide (((((FwText p0 p1).size : Nat) : Int) : Int) > 0)) = true)) ∧ ((True ∧ True) ∧ ((((0 : Int) ≤ 0 ∧ 0 < (((FwText p0 p1).size : Nat) : Int)) ∧ True) ∧ (((0 < (FwText p0 p1).size) ∧ True) ∧ ((True ∧ True) ∧ ((True ∧ ((decide (((bytesI (FwText p0 p1)).getD 0 0 : Int) ≥ 128)) = false)) ∧ ((True ∧ True) ∧ ((((0 : Int) ≤ 0 ∧ 0 < (((FwText p0 p1).size : Nat) : Int)) ∧ True) ∧ (((0 < (FwText p0 p1).size) ∧ True) ∧ ((True ∧ True) ∧ ((True ∧ ((((bytesI (FwText p0 p1)).getD 0 0 : Int) == 0) = true)) ∧ ((True ∧ True) ∧ ((True ∧ True) ∧ ((True ∧ True) ∧ ((True ∧ ((((((FwText p0 p1).size : Nat) : Int) : Int) == 1) = false)) ∧ ((True ∧ True) ∧ ((((0 : Int) ≤ 1 ∧ 1 < (((FwText p0 p1).size : Nat) : Int)) ∧ True) ∧ (((1 < (FwText p0 p1).size) ∧ True) ∧ ((True ∧ True) ∧ ((True ∧ True) ∧ ((True ∧ True) ∧ ((True ∧ True) ∧ ((True ∧ True) ∧ True))))))))))))))))))))))))))
                ([(32, .sc (.b (decide (((bytesI (FwText p0 p1)).getD 1 0 : Int) < 128)))), (3, .sc (.sl 64 0 ((FwText p0 p1).size) 1 none)), (0, .sc (.p 0 0))], [(64, .ints .u8 ((FwText p0 p1).size) (bytesI (FwText p0 p1))), (0, .cells [.ro .u8 (FwText_1 p0 p1), .b (FwText_2 p0 p1)])])
                512 (by kernel_rfl) rfl (by kernel_rfl) (⟨⟨trivial, trivial⟩, ⟨⟨trivial, trivial⟩, ⟨⟨trivial, trivial⟩, ⟨⟨trivial, (h1)⟩, ⟨⟨trivial, trivial⟩, ⟨⟨(by first | omega | (rw [adr_eq]; omega) | exact iAnd_nn _ _ | exact iSub_nn _ _ | exact part1_le (by omega) (by first | omega | (simp only [List.length_append]; omega)) | decide), trivial⟩, ⟨⟨(by first | omega | (rw [adr_eq]; omega) | exact iAnd_nn _ _ | exact iSub_nn _ _ | exact part1_le (by omega) (by first | omega | (simp only [List.length_append]; omega)) | decide), trivial⟩, ⟨⟨trivial, trivial⟩, ⟨⟨trivial, (h2)⟩, ⟨⟨trivial, trivial⟩, ⟨⟨(by first | omega | (rw [adr_eq]; omega) | exact iAnd_nn _ _ | exact iSub_nn _ _ | exact part1_le (by omega) (by first | omega | (simp only [List.length_append]; omega)) | decide), trivial⟩, ⟨⟨(by first | omega | (rw [adr_eq]; omega) | exact iAnd_nn _ _ | exact iSub_nn _ _ | exact part1_le (by omega) (by first | omega | (simp only [List.length_append]; omega)) | decide), trivial⟩, ⟨⟨trivial, trivial⟩, ⟨⟨trivial, (h5)⟩, ⟨⟨trivial, trivial⟩, ⟨⟨trivial, trivial⟩, ⟨⟨trivial, trivial⟩, ⟨⟨trivial, (h6)⟩, ⟨⟨trivial, trivial⟩, ⟨⟨(by first | omega | (rw [adr_eq]; omega) | exact iAnd_nn _ _ | exact iSub_nn _ _ | exact part1_le (by omega) (by first | omega | (simp only [List.length_append]; omega)) | decide), trivial⟩, ⟨⟨(by first | omega | (rw [adr_eq]; omega) | exact iAnd_nn _ _ | exact iSub_nn _ _ | exact part1_le (by omega) (by first | omega | (simp only [List.length_append]; omega)) | decide), trivial⟩, ⟨⟨trivial, trivial⟩, ⟨⟨trivial, trivial⟩, ⟨⟨trivial, trivial⟩, ⟨⟨trivial, trivial⟩, ⟨⟨trivial, trivial⟩, trivial⟩⟩⟩⟩⟩⟩⟩⟩⟩⟩⟩⟩⟩⟩⟩⟩⟩⟩⟩⟩⟩⟩⟩⟩⟩⟩) ?_
            refine Tri.cond (x := (decide (((bytesI (FwText p0 p1)).getD 1 0 : Int) < 128))) (by kernel_rfl) (fun h10 => ?_) (fun h10 => ?_)
            ·
              have h10' := of_decide_eq_true h10
              refine Tri.len 64 rfl (fun hl11 => ?_)
              refine Tri.seq_region [] none [] [0] ((True ∧ True) ∧ (((True ∧ ((0 : Int) ≤ 1073741824)) ∧ True) ∧ True))
                  ([], [(0, .cells [.ro .u8 (FwtakeF_1 (FwText_1 p0 p1) (FwText_2 p0 p1) 1073741824), .b (FwtakeF_2 (FwText_1 p0 p1) (FwText_2 p0 p1) 1073741824)])])
                  544 (by kernel_rfl) rfl (by kernel_rfl) (⟨⟨trivial, trivial⟩, ⟨⟨⟨trivial, (by first | omega | (rw [adr_eq]; omega) | exact iAnd_nn _ _ | exact iSub_nn _ _ | exact part1_le (by omega) (by first | omega | (simp only [List.length_append]; omega)) | decide)⟩, trivial⟩, trivial⟩⟩) ?_
              refine Tri.seq_region [] none [2] [0] ((True ∧ True) ∧ True)
                  ([(2, .sc (.nils))], [(0, .cells [.ro .u8 (FwtakeF_1 (FwText_1 p0 p1) (FwText_2 p0 p1) 1073741824), .b (FwtakeF_2 (FwText_1 p0 p1) (FwText_2 p0 p1) 1073741824)])])
                  560 (by kernel_rfl) rfl (by kernel_rfl) (⟨⟨trivial, trivial⟩, trivial⟩) ?_
              refine Tri.sub (Sub.nilRo 2 .u8 (by kernel_rfl)) ?_
              refine Tri.ret ?_
              repeat (first | refine thenP_ret ?_ | refine blkP_ret ?_ | refine countP_ret ?_ | refine joinP_ret ?_ | refine iterP_ret ?_)
              refine endP.conv (r' := ⟨.sc (.ro .u8 ([] : List Int)), [some (.cells [.ro .u8 (FwtakeF_1 (FwText_1 p0 p1) (FwText_2 p0 p1) 1073741824), .b (FwtakeF_2 (FwText_1 p0 p1) (FwText_2 p0 p1) 1073741824)])]⟩) (by simp only [FwInt, FwInt_1, FwInt_2, h1, h2, h5, h6, h10, sel_true, sel_false]) ?_
              exact endP.ret [(0, 0)] (True ∧ True) (by kernel_rfl) (by kernel_rfl) ⟨trivial, trivial⟩
            ·
              have h10' := of_decide_eq_false h10
              refine Tri.skip ?_
              change Tri _ _ _ _ _ _
              refine Tri.seq ?_
              refine Tri.len 64 rfl (fun hl12 => ?_)
              refine Tri.seq_region [(38, qb true)] none [43, 3] [64, 0] ((True ∧ True) ∧ ((True ∧ True) ∧ ((True ∧ True) ∧ ((True ∧ ((decide (((((FwText p0 p1).size : Nat) : Int) : Int) > 0)) = true)) ∧ ((True ∧ True) ∧ ((((0 : Int) ≤ 0 ∧ 0 < (((FwText p0 p1).size : Nat) : Int)) ∧ True) ∧ (((0 < (FwText p0 p1).size) ∧ True) ∧ ((True ∧ True) ∧ ((True ∧ True) ∧ True)))))))))
                  ([(43, .sc (.b (((bytesI (FwText p0 p1)).getD 0 0 : Int) == 0))), (3, .sc (.sl 64 0 ((FwText p0 p1).size) 1 none))], [(64, .ints .u8 ((FwText p0 p1).size) (bytesI (FwText p0 p1))), (0, .cells [.ro .u8 (FwText_1 p0 p1), .b (FwText_2 p0 p1)])])
                  656 (by kernel_rfl) rfl (by kernel_rfl) (⟨⟨trivial, trivial⟩, ⟨⟨trivial, trivial⟩, ⟨⟨trivial, trivial⟩, ⟨⟨trivial, (h1)⟩, ⟨⟨trivial, trivial⟩, ⟨⟨(by first | omega | (rw [adr_eq]; omega) | exact iAnd_nn _ _ | exact iSub_nn _ _ | exact part1_le (by omega) (by first | omega | (simp only [List.length_append]; omega)) | decide), trivial⟩, ⟨⟨(by first | omega | (rw [adr_eq]; omega) | exact iAnd_nn _ _ | exact iSub_nn _ _ | exact part1_le (by omega) (by first | omega | (simp only [List.length_append]; omega)) | decide), trivial⟩, ⟨⟨trivial, trivial⟩, ⟨⟨trivial, trivial⟩, trivial⟩⟩⟩⟩⟩⟩⟩⟩⟩) ?_
              refine Tri.cond (x := (((bytesI (FwText p0 p1)).getD 0 0 : Int) == 0)) (by kernel_rfl) (fun h => ?_) (fun h => absurd (h.symm.trans h5) (by decide))
              refine Tri.len 64 rfl (fun hl13 => ?_)
              refine Tri.region' [] none [3] [64, 0] ((True ∧ True) ∧ ((((0 : Int) ≤ 1 ∧ (1 : Int) ≤ (((FwText p0 p1).size : Nat) : Int) ∧ (((FwText p0 p1).size : Nat) : Int) ≤ (((FwText p0 p1).size : Nat) : Int)) ∧ True) ∧ ((True ∧ True) ∧ True)))
                  ([(3, .sc (.sl 64 1 (((FwText p0 p1).size) - 1) 1 none))], [(64, .ints .u8 ((FwText p0 p1).size) (bytesI (FwText p0 p1))), (0, .cells [.ro .u8 (FwText_1 p0 p1), .b (FwText_2 p0 p1)])])
                  704 (by kernel_rfl) rfl (by kernel_rfl) (⟨⟨trivial, trivial⟩, ⟨⟨(by first | omega | (rw [adr_eq]; omega) | exact iAnd_nn _ _ | exact iSub_nn _ _ | exact part1_le (by omega) (by first | omega | (simp only [List.length_append]; omega)) | decide), trivial⟩, ⟨⟨trivial, trivial⟩, trivial⟩⟩⟩) ?_
              change Tri _ _ _ _ _ _
              refine Tri.seq_region [] none [2] [64, 0] ((True ∧ True) ∧ ((True ∧ True) ∧ True))
                  ([(2, .sc (.sl 64 1 (((FwText p0 p1).size) - 1) 1 none))], [(64, .ints .u8 ((FwText p0 p1).size) (bytesI (FwText p0 p1))), (0, .cells [.ro .u8 (FwText_1 p0 p1), .b (FwText_2 p0 p1)])])
                  736 (by kernel_rfl) rfl (by kernel_rfl) (⟨⟨trivial, trivial⟩, ⟨⟨trivial, trivial⟩, trivial⟩⟩) ?_
              refine Tri.sub (Sub.still (s' := ([(2, .sc (.ro .u8 (part1 (bytesI (FwText p0 p1)) ((FwText p0 p1).size) 1 (((FwText p0 p1).size) - 1))))], [(0, .cells [.ro .u8 (FwText_1 p0 p1), .b (FwText_2 p0 p1)])])) 64 (.ints .u8 ((FwText p0 p1).size) (bytesI (FwText p0 p1))) (by kernel_rfl) (show 1 + (((FwText p0 p1).size) - 1) ≤ (FwText p0 p1).size from by first | omega | (rw [adr_eq]; omega) | exact iAnd_nn _ _ | exact iSub_nn _ _ | exact part1_le (by omega) (by first | omega | (simp only [List.length_append]; omega)) | decide) (by kernel_rfl)) ?_
              refine Tri.ret ?_
              repeat (first | refine thenP_ret ?_ | refine blkP_ret ?_ | refine countP_ret ?_ | refine joinP_ret ?_ | refine iterP_ret ?_)
              refine endP.conv (r' := ⟨.sc (.ro .u8 (part1 (bytesI (FwText p0 p1)) ((FwText p0 p1).size) 1 (((FwText p0 p1).size) - 1))), [some (.cells [.ro .u8 (FwText_1 p0 p1), .b (FwText_2 p0 p1)])]⟩) (by simp only [FwInt, FwInt_1, FwInt_2, h1, h2, h5, h6, h10, sel_true, sel_false]) ?_
              exact endP.ret [(0, 0)] (True ∧ True) (by kernel_rfl) (by kernel_rfl) ⟨trivial, trivial⟩
        ·
          have h5' := eq_false_i h5
          refine Tri.len 64 rfl (fun hl14 => ?_)
          refine Tri.seq_region [(10, qb true), (15, qb false), (20, qb false)] none [32, 3, 0] [64, 0] ((True ∧ True) ∧ ((True ∧ True) ∧ ((True ∧ True) ∧ ((True ∧ ((decide (((((FwText p0 p1).size : Nat) : Int) : Int) > 0)) = true)) ∧ ((True ∧ True) ∧ ((((0 : Int) ≤ 0 ∧ 0 < (((FwText p0 p1).size : Nat) : Int)) ∧ True) ∧ (((0 < (FwText p0 p1).size) ∧ True) ∧ ((True ∧ True) ∧ ((True ∧ ((decide (((bytesI (FwText p0 p1)).getD 0 0 : Int) ≥ 128)) = false)) ∧ ((True ∧ True) ∧ ((((0 : Int) ≤ 0 ∧ 0 < (((FwText p0 p1).size : Nat) : Int)) ∧ True) ∧ (((0 < (FwText p0 p1).size) ∧ True) ∧ ((True ∧ True) ∧ ((True ∧ ((((bytesI (FwText p0 p1)).getD 0 0 : Int) == 0) = false)) ∧ ((True ∧ True) ∧ ((True ∧ True) ∧ ((True ∧ True) ∧ ((True ∧ True) ∧ ((True ∧ True) ∧ ((True ∧ True) ∧ ((True ∧ True) ∧ ((True ∧ True) ∧ ((True ∧ True) ∧ ((True ∧ True) ∧ ((True ∧ True) ∧ ((True ∧ True) ∧ True))))))))))))))))))))))))))
              ([(32, .sc (.b false)), (3, .sc (.sl 64 0 ((FwText p0 p1).size) 1 none)), (0, .sc (.p 0 0))], [(64, .ints .u8 ((FwText p0 p1).size) (bytesI (FwText p0 p1))), (0, .cells [.ro .u8 (FwText_1 p0 p1), .b (FwText_2 p0 p1)])])
              512 (by kernel_rfl) rfl (by kernel_rfl) (⟨⟨trivial, trivial⟩, ⟨⟨trivial, trivial⟩, ⟨⟨trivial, trivial⟩, ⟨⟨trivial, (h1)⟩, ⟨⟨trivial, trivial⟩, ⟨⟨(by first | omega | (rw [adr_eq]; omega) | exact iAnd_nn _ _ | exact iSub_nn _ _ | exact part1_le (by omega) (by first | omega | (simp only [List.length_append]; omega)) | decide), trivial⟩, ⟨⟨(by first | omega | (rw [adr_eq]; omega) | exact iAnd_nn _ _ | exact iSub_nn _ _ | exact part1_le (by omega) (by first | omega | (simp only [List.length_append]; omega)) | decide), trivial⟩, ⟨⟨trivial, trivial⟩, ⟨⟨trivial, (h2)⟩, ⟨⟨trivial, trivial⟩, ⟨⟨(by first | omega | (rw [adr_eq]; omega) | exact iAnd_nn _ _ | exact iSub_nn _ _ | exact part1_le (by omega) (by first | omega | (simp only [List.length_append]; omega)) | decide), trivial⟩, ⟨⟨(by first | omega | (rw [adr_eq]; omega) | exact iAnd_nn _ _ | exact iSub_nn _ _ | exact part1_le (by omega) (by first | omega | (simp only [List.length_append]; omega)) | decide), trivial⟩, ⟨⟨trivial, trivial⟩, ⟨⟨trivial, (h5)⟩, ⟨⟨trivial, trivial⟩, ⟨⟨trivial, trivial⟩, ⟨⟨trivial, trivial⟩, ⟨⟨trivial, trivial⟩, ⟨⟨trivial, trivial⟩, ⟨⟨trivial, trivial⟩, ⟨⟨trivial, trivial⟩, ⟨⟨trivial, trivial⟩, ⟨⟨trivial, trivial⟩, ⟨⟨trivial, trivial⟩, ⟨⟨trivial, trivial⟩, ⟨⟨trivial, trivial⟩, trivial⟩⟩⟩⟩⟩⟩⟩⟩⟩⟩⟩⟩⟩⟩⟩⟩⟩⟩⟩⟩⟩⟩⟩⟩⟩⟩) ?_
          refine Tri.cond_false (by kernel_rfl) ?_
          refine Tri.skip ?_
          change Tri _ _ _ _ _ _
          refine Tri.seq ?_
          refine Tri.len 64 rfl (fun hl15 => ?_)
          refine Tri.seq_region [(38, qb true)] none [43, 3] [64, 0] ((True ∧ True) ∧ ((True ∧ True) ∧ ((True ∧ True) ∧ ((True ∧ ((decide (((((FwText p0 p1).size : Nat) : Int) : Int) > 0)) = true)) ∧ ((True ∧ True) ∧ ((((0 : Int) ≤ 0 ∧ 0 < (((FwText p0 p1).size : Nat) : Int)) ∧ True) ∧ (((0 < (FwText p0 p1).size) ∧ True) ∧ ((True ∧ True) ∧ ((True ∧ True) ∧ True)))))))))
              ([(43, .sc (.b (((bytesI (FwText p0 p1)).getD 0 0 : Int) == 0))), (3, .sc (.sl 64 0 ((FwText p0 p1).size) 1 none))], [(64, .ints .u8 ((FwText p0 p1).size) (bytesI (FwText p0 p1))), (0, .cells [.ro .u8 (FwText_1 p0 p1), .b (FwText_2 p0 p1)])])
              656 (by kernel_rfl) rfl (by kernel_rfl) (⟨⟨trivial, trivial⟩, ⟨⟨trivial, trivial⟩, ⟨⟨trivial, trivial⟩, ⟨⟨trivial, (h1)⟩, ⟨⟨trivial, trivial⟩, ⟨⟨(by first | omega | (rw [adr_eq]; omega) | exact iAnd_nn _ _ | exact iSub_nn _ _ | exact part1_le (by omega) (by first | omega | (simp only [List.length_append]; omega)) | decide), trivial⟩, ⟨⟨(by first | omega | (rw [adr_eq]; omega) | exact iAnd_nn _ _ | exact iSub_nn _ _ | exact part1_le (by omega) (by first | omega | (simp only [List.length_append]; omega)) | decide), trivial⟩, ⟨⟨trivial, trivial⟩, ⟨⟨trivial, trivial⟩, trivial⟩⟩⟩⟩⟩⟩⟩⟩⟩) ?_
          refine Tri.cond (x := (((bytesI (FwText p0 p1)).getD 0 0 : Int) == 0)) (by kernel_rfl) (fun h => absurd (h.symm.trans h5) (by decide)) (fun h => ?_)
          refine Tri.skip ?_
          change Tri _ _ _ _ _ _
          refine Tri.seq_region [] none [2] [64, 0] ((True ∧ True) ∧ ((True ∧ True) ∧ True))
              ([(2, .sc (.sl 64 0 ((FwText p0 p1).size) 1 none))], [(64, .ints .u8 ((FwText p0 p1).size) (bytesI (FwText p0 p1))), (0, .cells [.ro .u8 (FwText_1 p0 p1), .b (FwText_2 p0 p1)])])
              688 (by kernel_rfl) rfl (by kernel_rfl) (⟨⟨trivial, trivial⟩, ⟨⟨trivial, trivial⟩, trivial⟩⟩) ?_
          refine Tri.sub (Sub.still (s' := ([(2, .sc (.ro .u8 (part1 (bytesI (FwText p0 p1)) ((FwText p0 p1).size) 0 ((FwText p0 p1).size))))], [(0, .cells [.ro .u8 (FwText_1 p0 p1), .b (FwText_2 p0 p1)])])) 64 (.ints .u8 ((FwText p0 p1).size) (bytesI (FwText p0 p1))) (by kernel_rfl) (show 0 + ((FwText p0 p1).size) ≤ (FwText p0 p1).size from by first | omega | (rw [adr_eq]; omega) | exact iAnd_nn _ _ | exact iSub_nn _ _ | exact part1_le (by omega) (by first | omega | (simp only [List.length_append]; omega)) | decide) (by kernel_rfl)) ?_
          refine Tri.ret ?_
          repeat (first | refine thenP_ret ?_ | refine blkP_ret ?_ | refine countP_ret ?_ | refine joinP_ret ?_ | refine iterP_ret ?_)
          refine endP.conv (r' := ⟨.sc (.ro .u8 (part1 (bytesI (FwText p0 p1)) ((FwText p0 p1).size) 0 ((FwText p0 p1).size))), [some (.cells [.ro .u8 (FwText_1 p0 p1), .b (FwText_2 p0 p1)])]⟩) (by simp only [FwInt, FwInt_1, FwInt_2, h1, h2, h5, sel_true, sel_false]) ?_
          exact endP.ret [(0, 0)] (True ∧ True) (by kernel_rfl) (by kernel_rfl) ⟨trivial, trivial⟩
    ·
      have h1' := of_decide_eq_false h1
      refine Tri.seq_region [(10, qb false)] none [32, 3, 0] [64, 0] ((True ∧ True) ∧ ((True ∧ True) ∧ ((True ∧ True) ∧ ((True ∧ ((decide (((((FwText p0 p1).size : Nat) : Int) : Int) > 0)) = false)) ∧ ((True ∧ True) ∧ ((True ∧ True) ∧ ((True ∧ True) ∧ ((True ∧ True) ∧ ((True ∧ True) ∧ ((True ∧ True) ∧ ((True ∧ True) ∧ ((True ∧ True) ∧ ((True ∧ True) ∧ ((True ∧ True) ∧ ((True ∧ True) ∧ ((True ∧ True) ∧ ((True ∧ True) ∧ ((True ∧ True) ∧ ((True ∧ True) ∧ ((True ∧ True) ∧ ((True ∧ True) ∧ ((True ∧ True) ∧ ((True ∧ True) ∧ ((True ∧ True) ∧ ((True ∧ True) ∧ ((True ∧ True) ∧ True))))))))))))))))))))))))))
          ([(32, .sc (.b false)), (3, .sc (.sl 64 0 ((FwText p0 p1).size) 1 none)), (0, .sc (.p 0 0))], [(64, .ints .u8 ((FwText p0 p1).size) (bytesI (FwText p0 p1))), (0, .cells [.ro .u8 (FwText_1 p0 p1), .b (FwText_2 p0 p1)])])
          512 (by kernel_rfl) rfl (by kernel_rfl) (⟨⟨trivial, trivial⟩, ⟨⟨trivial, trivial⟩, ⟨⟨trivial, trivial⟩, ⟨⟨trivial, (h1)⟩, ⟨⟨trivial, trivial⟩, ⟨⟨trivial, trivial⟩, ⟨⟨trivial, trivial⟩, ⟨⟨trivial, trivial⟩, ⟨⟨trivial, trivial⟩, ⟨⟨trivial, trivial⟩, ⟨⟨trivial, trivial⟩, ⟨⟨trivial, trivial⟩, ⟨⟨trivial, trivial⟩, ⟨⟨trivial, trivial⟩, ⟨⟨trivial, trivial⟩, ⟨⟨trivial, trivial⟩, ⟨⟨trivial, trivial⟩, ⟨⟨trivial, trivial⟩, ⟨⟨trivial, trivial⟩, ⟨⟨trivial, trivial⟩, ⟨⟨trivial, trivial⟩, ⟨⟨trivial, trivial⟩, ⟨⟨trivial, trivial⟩, ⟨⟨trivial, trivial⟩, ⟨⟨trivial, trivial⟩, ⟨⟨trivial, trivial⟩, trivial⟩⟩⟩⟩⟩⟩⟩⟩⟩⟩⟩⟩⟩⟩⟩⟩⟩⟩⟩⟩⟩⟩⟩⟩⟩⟩) ?_
      refine Tri.cond_false (by kernel_rfl) ?_
      refine Tri.skip ?_
      change Tri _ _ _ _ _ _
      refine Tri.seq ?_
      refine Tri.seq_region [(38, qb false)] none [43, 3] [64, 0] ((True ∧ True) ∧ ((True ∧ True) ∧ ((True ∧ True) ∧ ((True ∧ ((decide (((((FwText p0 p1).size : Nat) : Int) : Int) > 0)) = false)) ∧ ((True ∧ True) ∧ ((True ∧ True) ∧ ((True ∧ True) ∧ ((True ∧ True) ∧ ((True ∧ True) ∧ True)))))))))
          ([(43, .sc (.b false)), (3, .sc (.sl 64 0 ((FwText p0 p1).size) 1 none))], [(64, .ints .u8 ((FwText p0 p1).size) (bytesI (FwText p0 p1))), (0, .cells [.ro .u8 (FwText_1 p0 p1), .b (FwText_2 p0 p1)])])
          656 (by kernel_rfl) rfl (by kernel_rfl) (⟨⟨trivial, trivial⟩, ⟨⟨trivial, trivial⟩, ⟨⟨trivial, trivial⟩, ⟨⟨trivial, (h1)⟩, ⟨⟨trivial, trivial⟩, ⟨⟨trivial, trivial⟩, ⟨⟨trivial, trivial⟩, ⟨⟨trivial, trivial⟩, ⟨⟨trivial, trivial⟩, trivial⟩⟩⟩⟩⟩⟩⟩⟩⟩) ?_
      refine Tri.cond_false (by kernel_rfl) ?_
      refine Tri.skip ?_
      change Tri _ _ _ _ _ _
      refine Tri.seq_region [] none [2] [64, 0] ((True ∧ True) ∧ ((True ∧ True) ∧ True))
          ([(2, .sc (.sl 64 0 ((FwText p0 p1).size) 1 none))], [(64, .ints .u8 ((FwText p0 p1).size) (bytesI (FwText p0 p1))), (0, .cells [.ro .u8 (FwText_1 p0 p1), .b (FwText_2 p0 p1)])])
          688 (by kernel_rfl) rfl (by kernel_rfl) (⟨⟨trivial, trivial⟩, ⟨⟨trivial, trivial⟩, trivial⟩⟩) ?_
      refine Tri.sub (Sub.still (s' := ([(2, .sc (.ro .u8 (part1 (bytesI (FwText p0 p1)) ((FwText p0 p1).size) 0 ((FwText p0 p1).size))))], [(0, .cells [.ro .u8 (FwText_1 p0 p1), .b (FwText_2 p0 p1)])])) 64 (.ints .u8 ((FwText p0 p1).size) (bytesI (FwText p0 p1))) (by kernel_rfl) (show 0 + ((FwText p0 p1).size) ≤ (FwText p0 p1).size from by first | omega | (rw [adr_eq]; omega) | exact iAnd_nn _ _ | exact iSub_nn _ _ | exact part1_le (by omega) (by first | omega | (simp only [List.length_append]; omega)) | decide) (by kernel_rfl)) ?_
      refine Tri.ret ?_
      repeat (first | refine thenP_ret ?_ | refine blkP_ret ?_ | refine countP_ret ?_ | refine joinP_ret ?_ | refine iterP_ret ?_)
      refine endP.conv (r' := ⟨.sc (.ro .u8 (part1 (bytesI (FwText p0 p1)) ((FwText p0 p1).size) 0 ((FwText p0 p1).size))), [some (.cells [.ro .u8 (FwText_1 p0 p1), .b (FwText_2 p0 p1)])]⟩) (by simp only [FwInt, FwInt_1, FwInt_2, h1, sel_true, sel_false]) ?_
      exact endP.ret [(0, 0)] (True ∧ True) (by kernel_rfl) (by kernel_rfl) ⟨trivial, trivial⟩

theorem len_FwInt (p0 : List Int) (p1 : Bool) : (FwInt p0 p1).length ≤ 16384 := by
  have h0 := size_FwText p0 p1
  have s0 : ∀ (b : Bool) (x y : List Int), x.length ≤ 16384 → y.length ≤ 16384 → (sel b x y).length ≤ 16384 := by
    intro b x y hx hy
    cases b
    · rw [sel_false]; exact hy
    · rw [sel_true]; exact hx
  unfold FwInt
  repeat first | exact Nat.zero_le _ | exact part1_le (by omega) (by rw [bytesI_length]; omega) | apply s0

end Go.Vm
